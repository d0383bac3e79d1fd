/- What the program's functions answer, read off their code; no conditions. -/
import Derived.Test.YtnmohcaeepcloaaGreatDoorWalk4
import Derived.Below
import Derived.Orders
import Derived.Laws.Sem
import Derived.Laws.World
import Derived.Laws.Rows
import Derived.Laws.AppendOwn
import Derived.Laws.IdiomCopy
import Derived.Laws.Entries
import Derived.Laws.Cells
import Derived.Laws.Slices
import Derived.Laws.StructEq
import Derived.Laws.Strings
import Derived.Deep.AppendSrc
import Derived.Laws.Tables
import Derived.Laws.MakeOwn
import Derived.Laws.BytesString
import Derived.Great.BuildSlice
import Derived.Lib.UnsafeStr
import Derived.Tactics
import Derived.LoopN
import Derived.SizedLaws
import Derived.ChangeSlices
import Derived.Carry
import Derived.WideShapes
import Derived.Lib.Bytealg
import Derived.Laws.Externs
import Derived.Shelf.SlSortCmp.WholeK
import Derived.Shelf.SlSortCmp.NoneTotal
import Derived.Lib.QuietBelow
import Derived.Test.YtnmohcaeepcloaaGreatDoorRows
import Derived.KernelRfl
import Derived.Ground.SlsfProg
import Derived.WalkKit
import Derived.ProofKit
import Derived.OpenShut
import Derived.ShutString
import Derived.ChangeOld
import Derived.LaidMore
import Derived.Lay
import Derived.SevenTiedAt
import Derived.Stop.Joined
import Derived.Test.YtnmohcaeepcloaaGreatDoorTie
import Derived.Test.YtnmohcaeepcloaaGreatDoorCards
set_option linter.unusedSimpArgs false
set_option linter.unusedVariables false
set_option linter.defProp false
set_option maxRecDepth 100000
set_option maxHeartbeats 4000000
open Go Go.RowKit Go.Proofs
namespace Go.Mir
attribute [local congr] Ev.congr EvC.congr EvW.congr Br.congr Ms.congr
def zCE (a b : Zone) : Delta × Int := if ¬ chkZ a = 0 then (dlt0, 13) else if ¬ chkZ b = 0 then (dlt0, 13) else if (a.origin == b.origin) = false then (dlt0, 13) else if zDh (zBW b) (zBW a) = false then (dlt0, 14) else
 (⟨a.origin, zBW a, zBW b, zAu a.recs b.recs, zAu b.recs a.recs⟩, 0)
def zQW (a b : Delta) : Bool := if (a.origin == b.origin) = false then false else if ¬ a.fro = b.fro then false else if ¬ a.til = b.til then false else if eqL a.rem b.rem = false then false else eqL a.add b.add
noncomputable def zQs := mkF (fun s : Zone × Zone => [zAE s.1, zAE s.2]) (fun s => ZRw s.1 ∧ ZRw s.2) (fun s => Res.via (.tup [zAR (zCE s.1 s.2).1, .it .i64 (zCE s.1 s.2).2]))
theorem zMs {z : Zone} {z2 : Zone} (hp : ZRw z ∧ ZRw z2) : zQs [zAE z, zAE z2] = some (Res.via (.tup [zAR (zCE z z2).1, .it .i64 (zCE z z2).2])) := mkFe (s := (z, z2)) hp
theorem zXS (cx : Cx) (hP : cx.P = Tryz.prog) (hbs : cx.bs = 0) (h33 : cx.orc 33 = some zMv) (h35 : cx.orc 35 = some zWH) (h34 : cx.orc 34 = some zEh) (h36 : cx.orc 36 = some FWo) (r33 : cx.rd.contains 33 = true) (r35 : cx.rd.contains 35 = true) (r34 : cx.rd.contains 34 = true) (r36 : cx.rd.contains 36 = true) (z z2 : Zone) (hl : ZRw z ∧ ZRw z2) : zAg cx Tryz.f14 [] true [zAE z, zAE z2] = some (Res.via (.tup [zAR (zCE z z2).1, .it .i64 (zCE z z2).2])) := by
 have c33 := zAa h33
 have d33 := zAo r33 h33
 have c35 := zAa h35
 have d35 := zAo r35 h35
 have c34 := zAa h34
 have d34 := zAo r34 h34
 have c36 := zAa h36
 have d36 := zAo r36 h36
 have hl1 := hl.1; have hl2 := hl.2; have hl3 : chkZ z = 0 → ZSm z := fun h => hl.1.z (zHj h); have hl4 : chkZ z2 = 0 → ZSm z2 := fun h => hl.2.z (zHj h); have hl5 : chkZ z = 0 → z.recs.length ≤ 1000000 := fun h => (hl3 h).2.1; have hl6 : chkZ z2 = 0 → z2.recs.length ≤ 1000000 := fun h => (hl4 h).2.1
 refine zC2 (rs := [.cell 4 28, .tmp 5]) rfl hbs rfl ?_
 repeat' first
   | (refine bN (fun h => ?_) fun h => ?_)
   | (refine zAI ?_ ?_)
   | simp (config := { decide := true }) only [↓cD, cU, cQ, cP, cB, zAD, unD, zAe, zAd, idx, reduceCtorEq, ↓reduceIte, ofV, ofC, zAq, Nat.reduceEqDiff, zAB, cG, implies_true, forall_const, immL, immD, Res.flat, ren, renL, Int.reduceEq, Int.reduceLT, Int.reduceLE, Int.reduceNe, deref, ldD, zAA, zAh, zAC, zAs, cC, cS, refs, zAy, okId, tAs, tAq, Nat.reduceMul, Nat.reduceAdd, Nat.reduceLeDiff, zAp, c33, c35, c34, c36, d33, d35, d34, d36, zAi, zAk, zMu, zQa, zEV, zI7, ↓zAH, ↓zAL, ↓zAG, ↓zAK, ↓zAF, ↓zAJ, cV, cT, cF, cW, borT, borM, zAl, Res.via, zAt, zAb, refsB, Nat.reduceLT, Nat.reduceSub, Nat.reduceLeDiff, Nat.reduceMul, Nat.reduceAdd, Int.reduceToNat, appK, zAr, zAc, borL, zAj, zAm, zAz, cO, List.replicate, zAx, ofHp, ixOf, cS, refs, zAy, okId, tAs, tAq, Nat.reduceMul, Nat.reduceAdd, Nat.reduceLeDiff, zAp, hl1, hl2, hl3, hl4, hl5, hl6, zCn, zHC, updL, hP, *]
 all_goals first
   | rfl
   | (have e : zCE z z2 = (dlt0, 13) := (by simp only [zCE, *, not_true_eq_false, not_false_eq_true, tAA, tAf, if_true, if_false]); rw [e]; exact ⟨_, rfl, rfl⟩)
   | (have e : zCE z z2 = (dlt0, 14) := (by simp only [zCE, *, not_true_eq_false, not_false_eq_true, tAA, tAf, if_true, if_false]); rw [e]; exact ⟨_, rfl, rfl⟩)
   | (have e : zCE z z2 = (⟨z.origin, zBW z, zBW z2, zAu z.recs z2.recs, zAu z2.recs z.recs⟩, 0) := (by simp only [zCE, *, not_true_eq_false, not_false_eq_true, tAA, tAf, if_true, if_false]); rw [e]; exact ⟨_, rfl, rfl⟩)
noncomputable def zQc := mkF (fun s : Delta × Delta => [zAR s.1, zAR s.2]) (fun s => Sm s.1.rem ∧ Sm s.1.add) (fun s => Res.flat (.bo (zQW s.1 s.2)))
theorem zMl {d : Delta} {e : Delta} (hp : Sm d.rem ∧ Sm d.add) : zQc [zAR d, zAR e] = some (Res.flat (.bo (zQW d e))) := mkFe (s := (d, e)) hp
theorem zXR (cx : Cx) (hP : cx.P = Tryz.prog) (hbs : cx.bs = 0) (h30 : cx.orc 30 = some FEqw) (d e : Delta) (hl : Sm d.rem ∧ Sm d.add) : zAg cx Tryz.f15 [] false [zAR d, zAR e] = some (Res.flat (.bo (zQW d e))) := by
 have c30 := zAa h30
 have hl1 := hl.1; have hl2 := hl.2
 refine zAf (rs := [.tmp 4]) rfl hbs rfl ?_
 repeat' first
   | (refine bN (fun h => ?_) fun h => ?_)
   | (refine zAI ?_ ?_)
   | simp only [↓cD, cU, cQ, cP, cB, zAD, unD, zAe, zAd, idx, reduceCtorEq, ↓reduceIte, ofV, ofC, zAq, Nat.reduceEqDiff, zAB, cG, implies_true, forall_const, immL, immD, Res.flat, ren, renL, Int.reduceEq, Int.reduceLT, Int.reduceLE, Int.reduceNe, deref, ldD, zAA, zAh, zAC, zAs, cC, c30, zAi, zAk, zW1, ↓zAH, ↓zAL, ↓zAG, ↓zAK, ↓zAF, ↓zAJ, cV, cT, cF, cW, borT, borM, zAl, Res.via, zAt, zAb, refsB, Nat.reduceLT, Nat.reduceSub, Nat.reduceLeDiff, Nat.reduceMul, Nat.reduceAdd, Int.reduceToNat, appK, zAr, zAc, borL, zAj, zAm, zAz, cO, List.replicate, zAx, ofHp, ixOf, hl1, hl2, hP, *]
 all_goals first
   | rfl
   | (simp [zQW, *]; done)
theorem zQV (d : Delta) : zQW d d = true := by
 unfold zQW
 simp [zPI]
theorem zZo (a b : Zone) : zEX a b = zCE a b := by
 unfold zEX zCE
 rw [zIk, zIk, zGk, zGk]
theorem Sm.of_le {α : Type} {a b : List α} (h : Sm a) (hl : b.length ≤ a.length) : Sm b := by simp only [Sm] at h ⊢; omega
theorem yEX {a b : Zone} (ha : ZRw a) (hb : ZRw b) : Sm (zCE a b).1.rem ∧ Sm (zCE a b).1.add := by
 have z : Sm dlt0.rem ∧ Sm dlt0.add := ⟨by simp only [Sm]; decide, by simp only [Sm]; decide⟩
 unfold zCE
 split
 · exact z
 · split
   · exact z
   · split
     · exact z
     · split
       · exact z
       · exact ⟨ha.2.1.of_le (zBj _ _), hb.2.1.of_le (zBj _ _)⟩
noncomputable def FDiffs := mkF (fun s : Zone × Zone => [zAE s.1, zAE s.2]) (fun s => ZOk s.1 ∧ ZOk s.2) (fun s => Res.flat (.bo true))
theorem FDiffs_eq {a : Zone} {b : Zone} (hp : ZOk a ∧ ZOk b) : FDiffs [zAE a, zAE b] = some (Res.flat (.bo true)) := mkFe (s := (a, b)) hp
theorem zXT (cx : Cx) (hP : cx.P = Tryz.prog) (hbs : cx.bs = 0) (h11 : cx.orc 11 = some zWR) (h13 : cx.orc 13 = some zGL) (h14 : cx.orc 14 = some zQs) (h15 : cx.orc 15 = some zQc) (h12 : cx.orc 12 = some zMz) (a b : Zone) (hl : ZOk a ∧ ZOk b) : zAg cx Tryz.f3 [] false [zAE a, zAE b] = some (Res.flat (.bo true)) := by
 have c11 := zAa h11
 have c13 := zAa h13
 have c14 := zAa h14
 have c15 := zAa h15
 have c12 := zAa h12
 have f1 : zGL [zAE a, zAE b] = some (Res.via (.tup [zAR (zCE a b).1, .it .i64 (zCE a b).2])) := by have := zEK (z := a) (z2 := b) ⟨hl.1.rw, hl.2.rw⟩; rwa [zZo] at this
 have f2 : zQs [zAE a, zAE b] = some (Res.via (.tup [zAR (zCE a b).1, .it .i64 (zCE a b).2])) := zMs (z := a) (z2 := b) ⟨hl.1.rw, hl.2.rw⟩
 have s1 : zQc [zAR (zCE a b).1, zAR (zCE a b).1] = some (Res.flat (.bo true)) := by have := zMl (d := (zCE a b).1) (e := (zCE a b).1) (yEX hl.1.rw hl.2.rw); rwa [zQV] at this
 generalize zCE a b = q at *
 refine zAf (rs := [.tmp 4]) rfl hbs rfl ?_
 repeat' first
   | (refine bN (fun h => ?_) fun h => ?_)
   | (refine zAI ?_ ?_)
   | simp (config := { decide := true }) only [↓cD, cU, cQ, cP, cB, zAD, unD, zAe, zAd, idx, reduceCtorEq, ↓reduceIte, ofV, ofC, zAq, Nat.reduceEqDiff, zAB, cG, implies_true, forall_const, immL, immD, Res.flat, ren, renL, Int.reduceEq, Int.reduceLT, Int.reduceLE, Int.reduceNe, deref, ldD, zAA, zAh, zAC, zAs, cC, c11, c13, c14, c15, c12, zAi, zAk, zQj, zEK, zMs, zMl, zMy, ↓zAH, ↓zAL, ↓zAG, ↓zAK, ↓zAF, ↓zAJ, cV, cT, cF, cW, borT, borM, zAl, Res.via, zAt, zAb, refsB, Nat.reduceLT, Nat.reduceSub, Nat.reduceLeDiff, Nat.reduceMul, Nat.reduceAdd, Int.reduceToNat, appK, zAr, zAc, borL, zAj, zAm, zAz, cO, List.replicate, zAx, ofHp, ixOf, f1, f2, s1, hP, *]
 all_goals first
   | rfl
noncomputable def K0 : Known := ⟨Tryz.prog, [], [], []⟩
theorem ok0 : K0.OK := Known.OK.none _
theorem follows : Tryz.prog.follows .mixedOrders = true := by kernel_rfl
theorem bd {P : Program} {rd : List FuncId} {g : FuncId} {fn : Func} {c : Code} (h : P.funcs[g]? = some fn) (b : fn.body = some c) (n : (fn.name == "runtime.NumGoroutine") = false := by kernel_rfl) (k : codeOk rd fn.ntmps c = true := by kernel_rfl) : Body P rd g fn c := ⟨h, b, n, k⟩
abbrev kN : Nat → Option (List Nat) := fun _ => none
theorem addK (n : Nat) {K : Known} (h : K.OK) {g : FuncId} {fn : Func} {c : Code} (kp : Nat → Option (List Nat)) (hb : Body K.P (K.cx kp).rd g fn c) {σ : Type} {enc : σ → List D} {pre : σ → Prop} {out : σ → Res} (hF : ∀ s, pre s → zAg (K.cx kp) fn [] false (enc s) = some (out s)) (hl : ∀ s, (enc s).length = n := by intro _; rfl) (hn : n ≤ fn.ntmps := by decide) (hP : K.P.follows .mixedOrders = true := by exact follows) : (K.pure g (mkF enc pre out)).OK := Known.add h hP kp hb hn hl [] false hF
theorem zCu (n : Nat) {K : Known} (h : K.OK) {g : FuncId} {fn : Func} {c : Code} (kp : Nat → Option (List Nat)) (hb : Body K.P (K.cx kp).rd g fn c) {σ : Type} {enc : σ → List D} {pre : σ → Prop} {out : σ → Res} (hF : ∀ s, pre s → zAg (K.cx kp) fn [0] false (enc s) = some (out s)) (hl : ∀ s, (enc s).length = n := by intro _; rfl) (hn : n ≤ fn.ntmps := by decide) (hP : K.P.follows .mixedOrders = true := by exact follows) : (K.pure g (mkF enc pre out)).OK := Known.add h hP kp hb hn hl [0] false hF
noncomputable def K1 : Known := K0.pure 11 zWR
theorem ok1 : K1.OK := addK 1 ok0 kN (bd Tryz.func11 rfl) (fun s hp => zTb (K0.cx _) rfl rfl (s))
noncomputable def K2 : Known := K1.pure 112 FSuf
theorem ok2 : K2.OK := addK 2 ok1 kN (bd Tryz.func112 rfl) (fun s hp => zSR (K1.cx _) rfl rfl (s.1) (s.2) hp)
noncomputable def K3 : Known := K2.pure 82 FSuf
theorem ok3 : K3.OK := addK 2 ok2 kN (bd Tryz.func82 rfl) (fun s hp => yAU (K2.cx _) rfl rfl rfl (s.1) (s.2) hp)
noncomputable def K4 : Known := K3.ext 176 zJf
theorem ok4 : K4.OK := ok3.ext (zLY Tryz.func176 (by kernel_rfl) (by kernel_rfl) (by kernel_rfl) (by kernel_rfl))
noncomputable def K5 : Known := K4.pure 150 FCnt
theorem ok5 : K5.OK := addK 2 ok4 (fun i => if i = 6 then some [0, 1, 5] else  none) (bd Tryz.func150 rfl) (fun s hp => yBg (K4.cx _) rfl rfl rfl rfl rfl (s.1) (s.2))
noncomputable def K6 : Known := K5.ext 205 FIxB
theorem ok6 : K6.OK := ok5.ext (zUU Tryz.func205 (by kernel_rfl) (by kernel_rfl) (by kernel_rfl) (by kernel_rfl))
noncomputable def K7 : Known := K6.pure 195 yAc
theorem ok7 : K7.OK := addK 2 ok6 kN (bd Tryz.func195 rfl) (fun s hp => zTh (K6.cx _) rfl rfl rfl rfl (s.1) (s.2))
noncomputable def K8 : Known := K7.pure 177 FIdx
theorem ok8 : K8.OK := addK 2 ok7 (fun i => if i = 15 then some [0, 1, 5, 6, 7, 8, 9, 10] else  none) (bd Tryz.func177 rfl) (fun s hp => zTj (K7.cx _) rfl rfl rfl rfl (s.1) (s.2))
noncomputable def K9 : Known := K8.pure 151 FIdx
theorem ok9 : K9.OK := addK 2 ok8 kN (bd Tryz.func151 rfl) (fun s hp => yA8 (K8.cx _) rfl rfl rfl (s.1) (s.2))
noncomputable def K10 : Known := K9.pure 113 FGen
theorem ok10 : K10.OK := zCu 4 ok9 (fun i => if i = 11 then some [0, 1, 2, 3, 9, 10] else  none) (bd Tryz.func113 rfl) (fun s hp => yBa (K9.cx _) rfl rfl rfl rfl rfl (s.1) (s.2) hp)
noncomputable def K11 : Known := K10.pure 83 FSpl
theorem ok11 : K11.OK := zCu 2 ok10 kN (bd Tryz.func83 rfl) (fun s hp => yAV (K10.cx _) rfl rfl rfl (s.1) (s.2) hp)
noncomputable def K12 : Known := K11.pure 84 zZ3
theorem ok12 : K12.OK := addK 1 ok11 (fun i => if i = 4 then some [0, 13, 14] else  none) (bd Tryz.func84 rfl) (fun s hp => zS3 (K11.cx _) rfl rfl rfl (s) hp)
noncomputable def K13 : Known := K12.pure 42 zEJ
theorem ok13 : K13.OK := addK 1 ok12 (fun i => if i = 6 then some [20, 21, 22] else  none) (bd Tryz.func42 rfl) (fun s hp => zOj (K12.cx _) rfl rfl rfl rfl rfl rfl (s) hp)
noncomputable def K14 : Known := K13.pure 86 yAa
theorem ok14 : K14.OK := addK 2 ok13 kN (bd Tryz.func86 rfl) (fun s hp => zTd (K13.cx _) rfl rfl (s.1) (s.2))
theorem zKt : ∀ w, (isAgg (Go.Proofs.Tryz.sortKey_ren.t 24)).run Tryz.prog w = .ok true w := fun w => by rw [show Go.Proofs.Tryz.sortKey_ren.t 24 = 83 from rfl]; first | rfl | (unfold isAgg; simp [run_underlying Tryz.underlying83])
theorem zIq : ∀ w, (Go.sizeOf (Go.Proofs.Tryz.sortKey_ren.t 24)).run Tryz.prog w = .ok 2 w := fun w => by rw [show Go.Proofs.Tryz.sortKey_ren.t 24 = 83 from rfl]; first | rfl | (unfold Go.sizeOf; simp)
noncomputable def K15 : Known := K14.eff 85 FSK
theorem ok15 : K15.OK := ok14.eff (zHf (ρ := Go.Proofs.Tryz.sortKey_ren) Go.Proofs.Tryz.sortKey ⟨_, rfl, rfl, by kernel_rfl⟩ zKt zIq (α := Key) keyL (fun _ => rfl) (by decide) (fun x d hd => by simp [keyL] at hd; rcases hd with rfl | rfl <;> rfl) keyC cmp_key.swo (Known.OK.get ok14 86 rfl) (fun x y => zKA))
noncomputable def K16 : Known := K15.pure 43 FCrw
theorem ok16 : K16.OK := addK 1 ok15 (fun i => if i = 3 then some [3, 12, 13, 14] else if i = 10 then some [3, 6, 29, 30, 31] else  none) (bd Tryz.func43 rfl) (fun s hp => yBd (K15.cx _) rfl rfl rfl rfl rfl rfl rfl rfl rfl (s) hp)
noncomputable def K17 : Known := K16.pure 160 zMp
theorem ok17 : K17.OK := addK 0 ok16 kN (bd Tryz.func160 rfl) (fun s hp => zOz (K16.cx _) rfl rfl)
noncomputable def K18 : Known := K17.pure 115 zMr
theorem ok18 : K18.OK := addK 1 ok17 (fun i => if i = 2 then some [0, 2, 6, 7, 8] else  none) (bd Tryz.func115 rfl) (fun s hp => zOA (K17.cx _) rfl rfl rfl rfl (s))
noncomputable def K19 : Known := K18.pure 88 zIB
theorem ok19 : K19.OK := addK 1 ok18 kN (bd Tryz.func88 rfl) (fun s hp => zK5 (K18.cx _) rfl rfl rfl (s))
noncomputable def K20 : Known := K19.pure 116 zKv
theorem ok20 : K20.OK := addK 1 ok19 kN (bd Tryz.func116 rfl) (fun s hp => zOk (K19.cx _) rfl rfl (s))
noncomputable def K21 : Known := K20.pure 181 FPre
theorem ok21 : K21.OK := addK 2 ok20 kN (bd Tryz.func181 rfl) (fun s hp => zS2 (K20.cx _) rfl rfl (s.1) (s.2) hp)
noncomputable def K22 : Known := K21.pure 161 FPre
theorem ok22 : K22.OK := addK 2 ok21 kN (bd Tryz.func161 rfl) (fun s hp => yA1 (K21.cx _) rfl rfl rfl (s.1) (s.2) hp)
noncomputable def K23 : Known := K22.pure 117 zQp
theorem ok23 : K23.OK := addK 1 ok22 kN (bd Tryz.func117 rfl) (fun s hp => zK6 (K22.cx _) rfl rfl rfl rfl (s) hp)
noncomputable def K24 : Known := K23.pure 55 zDc
theorem ok24 : K24.OK := addK 1 ok23 kN (bd Tryz.func55 rfl) (fun s hp => zIQ (K23.cx _) rfl rfl (s))
noncomputable def K25 : Known := K24.pure 118 FInB
theorem ok25 : K25.OK := addK 2 ok24 kN (bd Tryz.func118 rfl) (fun s hp => yA7 (K24.cx _) rfl rfl (s.1) (s.2))
noncomputable def K26 : Known := K25.pure 119 zIv
theorem ok26 : K26.OK := addK 1 ok25 kN (bd Tryz.func119 rfl) (fun s hp => zKV (K25.cx _) rfl rfl (s))
noncomputable def K27 : Known := K26.pure 120 yAu
theorem ok27 : K27.OK := addK 0 ok26 (fun i => if i = 3 then some [1, 4, 5, 6] else  none) (bd Tryz.func120 rfl) (fun s hp => zTy (K26.cx _) rfl rfl rfl rfl)
noncomputable def K28 : Known := K27.pure 89 FVD
theorem ok28 : K28.OK := addK 2 ok27 kN (bd Tryz.func89 rfl) (fun s hp => yAO (K27.cx _) rfl rfl rfl rfl rfl rfl rfl rfl rfl rfl rfl rfl rfl rfl rfl rfl rfl rfl (s.1) (s.2) hp)
noncomputable def K29 : Known := K28.pure 46 FVR
theorem ok29 : K29.OK := addK 1 ok28 kN (bd Tryz.func46 rfl) (fun s hp => yAN (K28.cx _) rfl rfl rfl rfl rfl (s) hp)
noncomputable def K30 : Known := K29.pure 45 yAr
theorem ok30 : K30.OK := addK 1 ok29 kN (bd Tryz.func45 rfl) (fun s hp => zTw (K29.cx _) rfl rfl rfl (s) hp)
noncomputable def K31 : Known := K30.pure 87 zQn
theorem ok31 : K31.OK := addK 2 ok30 (fun i => if i = 2 then some [0, 1, 7, 8] else  none) (bd Tryz.func87 rfl) (fun s hp => zOF (K30.cx _) rfl rfl rfl rfl (s) hp)
noncomputable def K32 : Known := K31.pure 44 zID
theorem ok32 : K32.OK := addK 2 ok31 kN (bd Tryz.func44 rfl) (fun s hp => zOL (K31.cx _) rfl rfl rfl (s) hp)
noncomputable def K33 : Known := K32.pure 64 zNT
theorem ok33 : K33.OK := zCu 1 ok32 kN (bd Tryz.func64 rfl) (fun s hp => zTt (K32.cx _) rfl rfl (s) hp)
noncomputable def K34 : Known := K33.pure 64 yAn
theorem ok34 : K34.OK := zCu 1 ok33 kN (bd Tryz.func64 rfl) (fun s hp => zTs (K33.cx _) rfl rfl (s))
noncomputable def K35 : Known := K34.pure 64 FClR
theorem ok35 : K35.OK := ok34.pure (PureOK.either (Known.OK.get ok33 64 rfl) (Known.OK.get ok34 64 rfl))
noncomputable def K36 : Known := K35.ext 201 zRW
theorem ok36 : K36.OK := ok35.ext (zPQ Tryz.func201 (by kernel_rfl) (by kernel_rfl) (by kernel_rfl) (by kernel_rfl))
noncomputable def K37 : Known := K36.pure 183 zGK
theorem ok37 : K37.OK := addK 2 ok36 kN (bd Tryz.func183 rfl) (fun s hp => zK8 (K36.cx _) rfl rfl rfl rfl (s.1) (s.2))
noncomputable def K38 : Known := K37.pure 163 zGK
theorem ok38 : K38.OK := addK 2 ok37 kN (bd Tryz.func163 rfl) (fun s hp => zKW (K37.cx _) rfl rfl rfl (s.1) (s.2))
noncomputable def K39 : Known := K38.pure 164 zMn
theorem ok39 : K39.OK := zCu 1 ok38 kN (bd Tryz.func164 rfl) (fun s hp => zOx (K38.cx _) rfl rfl rfl rfl (s) hp)
noncomputable def K40 : Known := K39.pure 122 zNS
theorem ok40 : K40.OK := addK 2 ok39 (fun i => if i = 10 then some [7, 8, 9] else  none) (bd Tryz.func122 rfl) (fun s hp => zON (K39.cx _) rfl rfl rfl rfl rfl rfl rfl rfl rfl (s.1) (s.2) hp)
noncomputable def K41 : Known := K40.pure 148 FNaN
theorem ok41 : K41.OK := addK 1 ok40 kN (bd Tryz.func148 rfl) (fun s hp => yA4 (K40.cx _) rfl rfl (s))
noncomputable def K42 : Known := K41.pure 111 zKz
theorem ok42 : K42.OK := addK 2 ok41 kN (bd Tryz.func111 rfl) (fun s hp => zOu (K41.cx _) rfl rfl rfl (s.1) (s.2))
noncomputable def K43 : Known := K42.pure 184 zQh
theorem ok43 : K43.OK := addK 1 ok42 (fun i => if i = 3 then some [3, 7, 8, 9] else  none) (bd Tryz.func184 rfl) (fun s hp => zOv (K42.cx _) rfl rfl rfl rfl (s) hp)
noncomputable def K44 : Known := K43.pure 202 FByA
theorem ok44 : K44.OK := zCu 1 ok43 (fun i => if i = 3 then some [0, 3, 7, 8] else  none) (bd Tryz.func202 rfl) (fun s hp => yBi (K43.cx _) rfl rfl rfl (s) hp)
noncomputable def K45 : Known := K44.pure 185 FWAP
theorem ok45 : K45.OK := addK 1 ok44 kN (bd Tryz.func185 rfl) (fun s hp => yAL (K44.cx _) rfl rfl rfl rfl rfl rfl (s) hp)
noncomputable def K46 : Known := K45.pure 207 FTrB
theorem ok46 : K46.OK := addK 2 ok45 (fun i => if i = 1 then some [0, 1] else  none) (bd Tryz.func207 rfl) (fun s hp => yAR (K45.cx _) rfl rfl rfl (s.1) (s.2) hp)
noncomputable def K47 : Known := K46.pure 203 FTrR
theorem ok47 : K47.OK := addK 2 ok46 kN (bd Tryz.func203 rfl) (fun s hp => yAQ (K46.cx _) rfl rfl rfl (s.1) (s.2) hp)
noncomputable def K48 : Known := K47.pure 186 FBmP
theorem ok48 : K48.OK := addK 1 ok47 (fun i => if i = 3 then some [0, 3, 7] else if i = 7 then some [0, 3, 4, 5, 7, 10] else  none) (bd Tryz.func186 rfl) (fun s hp => yBj (K47.cx _) rfl rfl rfl rfl rfl (s))
noncomputable def K49 : Known := K48.pure 188 zWO
theorem ok49 : K49.OK := addK 2 ok48 (fun i => if i = 3 then some [0, 5, 6] else  none) (bd Tryz.func188 rfl) (fun s hp => zS6 (K48.cx _) rfl rfl rfl (s.1) (s.2) hp)
noncomputable def K50 : Known := K49.eff 187 zJb
theorem ok50 : K50.OK := Known.addEff ok49 follows (fun _ => none) (bd Tryz.func187 rfl) (n := 2) (by decide) (fun _ => rfl) (fun s hp => zOt (K49.cx1 (fun _ => none)) rfl rfl (s.1) (s.2) hp)
noncomputable def K51 : Known := K50.pure 165 FWD
theorem ok51 : K51.OK := addK 2 ok50 (fun i => if i = 8 then some [3, 6, 8, 31, 32] else  none) (bd Tryz.func165 rfl) (fun s hp => zOh (K50.cx _) rfl rfl rfl rfl rfl rfl rfl rfl rfl rfl rfl rfl (s.1) (s.2) hp)
noncomputable def K52 : Known := K51.pure 123 FCD
theorem ok52 : K52.OK := addK 3 ok51 kN (bd Tryz.func123 rfl) (fun s hp => yBh (K51.cx _) rfl rfl rfl rfl (s.1) (s.2.1) (s.2.2) hp)
noncomputable def K53 : Known := K52.pure 93 zEn
theorem ok53 : K53.OK := addK 2 ok52 kN (bd Tryz.func93 rfl) (fun s hp => zK7 (K52.cx _) rfl rfl rfl rfl rfl (s.1) (s.2) hp)
noncomputable def K54 : Known := K53.pure 80 zGP
theorem ok54 : K54.OK := addK 2 ok53 kN (bd Tryz.func80 rfl) (fun s hp => zOM (K53.cx _) rfl rfl rfl rfl (s.1) (s.2) hp)
noncomputable def K55 : Known := K54.eff 138 zNP
theorem ok55 : K55.OK := Known.addEff ok54 follows (fun i => if i = 1 then some [0, 1, 2, 3, 8] else if i = 4 then some [0, 1, 2, 3, 8, 9] else  none) (bd Tryz.func138 rfl) (n := 4) (by decide) (fun _ => rfl) (fun s hp => zTi (K54.cx1 (fun i => if i = 1 then some [0, 1, 2, 3, 8] else if i = 4 then some [0, 1, 2, 3, 8, 9] else  none)) rfl rfl rfl rfl rfl rfl (s.1) (s.2.1) (s.2.2) hp)
noncomputable def K56 : Known := K55.eff 200 FSwR
theorem ok56 : K56.OK := Known.addEff ok55 follows (fun i => if i = 1 then some [0, 1, 2, 3, 10] else  none) (bd Tryz.func200 rfl) (n := 5) (by decide) (fun _ => rfl) (fun s hp => by have h := yAT (K55.cx1 (fun i => if i = 1 then some [0, 1, 2, 3, 10] else  none)) rfl rfl rfl (s.1) (s.2.1) (s.2.2.1) (s.2.2.2.1) (s.2.2.2.2) hp; have e : (s.1 ++ s.2.1 ++ s.2.2.1 ++ s.2.2.2.1 ++ s.2.2.2.2).length = s.1.length + s.2.1.length + s.2.2.1.length + s.2.1.length + s.2.2.2.2.length := (by have := hp.1; simp only [tAh]; omega); simp only [e]; exact h)
noncomputable def K57 : Known := K56.eff 182 FRot
theorem ok57 : K57.OK := Known.addEff ok56 follows (fun i => if i = 2 then some [0, 2, 4, 10, 11] else  none) (bd Tryz.func182 rfl) (n := 5) (by decide) (fun _ => rfl) (fun s hp => yAZ (K56.cx1 (fun i => if i = 2 then some [0, 2, 4, 10, 11] else  none)) rfl rfl rfl rfl rfl rfl (s.1) (s.2.1) (s.2.2.1) (s.2.2.2) hp)
theorem zLS : ∀ N : Nat, EffOK Tryz.prog 162 (FSym N)
 | 0 => ⟨⟨_, rfl, rfl, by kernel_rfl⟩, fun ds hs r hs' h => by
     obtain ⟨s, _, _, hp, _⟩ := zHV h
     have h1 := tA4.2 hp.l
     have := hp.n
     omega⟩
 | N + 1 => by
   have ih := zLS N
   have ok : (K57.eff 162 (FSym N)).OK := ok57.eff ih
   exact (Known.addEff ok follows (fun i => if i = 3 then some [0, 1, 4, 10, 11] else if i = 9 then some [0, 10, 13] else if i = 15 then some [0, 2, 4, 14, 15] else if i = 21 then some [0, 14, 17] else if i = 33 then some [0, 1, 2, 3, 4, 18, 19, 20, 21, 22] else  none) (bd Tryz.func162 rfl) (n := 5) (by decide) (fun _ => rfl) (fun s hp => yAS N ((K57.eff 162 (FSym N)).cx1 (fun i => if i = 3 then some [0, 1, 4, 10, 11] else if i = 9 then some [0, 10, 13] else if i = 15 then some [0, 2, 4, 14, 15] else if i = 21 then some [0, 14, 17] else if i = 33 then some [0, 1, 2, 3, 4, 18, 19, 20, 21, 22] else  none)) rfl rfl rfl rfl rfl rfl rfl rfl rfl rfl rfl rfl rfl rfl rfl (s.1) (s.2.1) (s.2.2.1) (s.2.2.2) hp) : ((K57.eff 162 (FSym N)).eff 162 (FSym (N + 1))).OK).effs (162, FSym (N + 1)) (tBR ..)
noncomputable def K58 : Known := K57.eff 162 (FSym 1000000)
theorem ok58 : K58.OK := ok57.eff (zLS 1000000)
noncomputable def K59 : Known := K58.eff 121 zWB
theorem ok59 : K59.OK := Known.addEff ok58 follows (fun i => if i = 2 then some [0, 1, 2, 6, 7, 8] else if i = 7 then some [0, 1, 2, 6] else if i = 9 then some [0, 1, 2, 6, 7, 8] else  none) (bd Tryz.func121 rfl) (n := 3) (by decide) (fun _ => rfl) (fun s hp => zST (K58.cx1 (fun i => if i = 2 then some [0, 1, 2, 6, 7, 8] else if i = 7 then some [0, 1, 2, 6] else if i = 9 then some [0, 1, 2, 6, 7, 8] else  none)) rfl rfl rfl rfl rfl rfl rfl rfl rfl rfl rfl s hp)
noncomputable def K60 : Known := K59.eff 90 FSSF
theorem ok60 : K60.OK := Known.addEff ok59 follows (fun _ => none) (bd Tryz.func90 rfl) (n := 2) (by decide) (fun _ => rfl) (fun s hp => yAY (K59.cx1 (fun _ => none)) rfl rfl rfl rfl rfl s hp)
noncomputable def K61 : Known := K60.pure 92 zJa
theorem ok61 : K61.OK := addK 2 ok60 kN (bd Tryz.func92 rfl) (fun s hp => zOr (K60.cx _) rfl rfl rfl (s.1) (s.2) hp)
noncomputable def K62 : Known := K61.eff 91 FCpt
theorem ok62 : K62.OK := Known.addEff ok61 follows (fun i => if i = 4 then some [0, 1, 5] else if i = 9 then some [0, 1, 5, 6, 7] else  none) (bd Tryz.func91 rfl) (n := 2) (by decide) (fun _ => rfl) (fun s hp => yBe (K61.cx1 (fun i => if i = 4 then some [0, 1, 5] else if i = 9 then some [0, 1, 5, 6, 7] else  none)) rfl rfl rfl rfl rfl rfl s hp)
noncomputable def K63 : Known := K62.pure 48 zF5
theorem ok63 : K63.OK := addK 1 ok62 kN (bd Tryz.func48 rfl) (fun s hp => zOq (K62.cx _) rfl rfl rfl rfl rfl rfl rfl rfl rfl (s) hp)
noncomputable def K64 : Known := K63.pure 48 zIx
theorem ok64 : K64.OK := addK 1 ok63 kN (bd Tryz.func48 rfl) (fun s hp => zOp (K63.cx _) rfl rfl rfl rfl rfl rfl rfl rfl rfl (s))
noncomputable def K65 : Known := K64.pure 48 zMi
theorem ok65 : K65.OK := ok64.pure (PureOK.slices (PureOK.either (Known.OK.get ok63 48 rfl) (Known.OK.get ok64 48 rfl)) (fun ds r hr => by
 obtain ⟨a, rfl, hp, rfl⟩ := zCq hr
 refine ⟨16, a.map recE, rfl, fun hne => ?_, fun he b => ?_⟩
 · have ha : a ≠ [] := fun e => hne (by rw [e]; rfl)
   have e := zMk (a := a) ⟨ha, hp⟩
   show ((zF5 [zAn a]).or (zIx [zAn a])) = _
   rw [e]; rfl
 · have ha : a = [] := tB8.1 he
   subst ha
   have e1 : zF5 [D.emp b] = none := zFM (fun s h => by simp [zAn, vecE] at h)
   show ((zF5 [D.emp b]).or (zIx [D.emp b])) = _
   rw [e1, zMj (b := b)]; rfl))
noncomputable def K66 : Known := K65.pure 47 FEq
theorem ok66 : K66.OK := addK 2 ok65 (fun i => if i = 4 then some [0, 1, 12, 13] else  none) (bd Tryz.func47 rfl) (fun s hp => yBc (K65.cx _) rfl rfl rfl (s.1) (s.2) hp)
noncomputable def K67 : Known := K66.pure 49 FGrC
theorem ok67 : K67.OK := Known.add ok66 follows (fun i => if i = 4 then some [0, 3, 4, 7, 8] else  none) (bd Tryz.func49 rfl) (n := 1) (by decide) (fun _ => rfl) [] true (fun s hp => yG9 (K66.cx (fun i => if i = 4 then some [0, 3, 4, 7, 8] else  none)) rfl rfl rfl (s) hp)
noncomputable def K68 : Known := K67.pure 49 FGr
theorem ok68 : K68.OK := ok67.pure (PureOK.weakr (Known.OK.get ok67 49 rfl) (fun ds r hr => by
 obtain ⟨a, rfl, hp, rfl⟩ := zCq hr
 exact ⟨_, zW0 hp, rfl, rfl, fun M A H μ v h => zLj h⟩))
noncomputable def K69 : Known := K68.pure 94 yAl
theorem ok69 : K69.OK := addK 2 ok68 kN (bd Tryz.func94 rfl) (fun s hp => zTq (K68.cx _) rfl rfl rfl (s.1) (s.2) hp)
noncomputable def K70 : Known := K69.pure 50 zEm
theorem ok70 : K70.OK := addK 2 ok69 kN (bd Tryz.func50 rfl) (fun s hp => zKU (K69.cx _) rfl rfl rfl rfl (s.1) (s.2) hp)
noncomputable def K71 : Known := K70.pure 97 yAh
theorem ok71 : K71.OK := addK 2 ok70 kN (bd Tryz.func97 rfl) (fun s hp => zTl (K70.cx _) rfl rfl (s.1) (s.2))
noncomputable def K72 : Known := K71.pure 87 zQm
theorem ok72 : K72.OK := addK 2 ok71 (fun i => if i = 2 then some [0, 1, 7, 8] else  none) (bd Tryz.func87 rfl) (fun s hp => zOE (K71.cx _) rfl rfl rfl rfl (s.1) (s.2) hp)
noncomputable def K73 : Known := K72.pure 44 zQu
theorem ok73 : K73.OK := addK 2 ok72 kN (bd Tryz.func44 rfl) (fun s hp => zOK (K72.cx _) rfl rfl rfl (s.1) (s.2) hp)
noncomputable def K74 : Known := K73.pure 52 zWZ
theorem ok74 : K74.OK := addK 2 ok73 kN (bd Tryz.func52 rfl) (fun s hp => zTm (K73.cx _) rfl rfl rfl (s.1) (s.2) hp)
noncomputable def K75 : Known := K74.pure 124 zHq
theorem ok75 : K75.OK := addK 1 ok74 kN (bd Tryz.func124 rfl) (fun s hp => zIP (K74.cx _) rfl rfl (s))
noncomputable def K76 : Known := K75.pure 95 FUni
theorem ok76 : K76.OK := addK 1 ok75 (fun i => if i = 2 then some [0, 3] else  none) (bd Tryz.func95 rfl) (fun s hp => yAP (K75.cx _) rfl rfl rfl rfl rfl (s) hp)
noncomputable def K77 : Known := K76.pure 166 FIxI
theorem ok77 : K77.OK := addK 2 ok76 (fun i => if i = 2 then some [0, 1, 7, 8] else  none) (bd Tryz.func166 rfl) (fun s hp => yA6 (K76.cx _) rfl rfl rfl (s.1) (s.2) hp)
noncomputable def K78 : Known := K77.pure 126 FCoI
theorem ok78 : K78.OK := addK 2 ok77 kN (bd Tryz.func126 rfl) (fun s hp => yBf (K77.cx _) rfl rfl rfl (s.1) (s.2) hp)
noncomputable def K79 : Known := K78.pure 125 zZ5
theorem ok79 : K79.OK := addK 2 ok78 kN (bd Tryz.func125 rfl) (fun s hp => zS4 (K78.cx _) rfl rfl rfl (s.1) (s.2) hp)
noncomputable def K80 : Known := K79.pure 87 zQl
theorem ok80 : K80.OK := addK 2 ok79 (fun i => if i = 2 then some [0, 1, 7, 8] else  none) (bd Tryz.func87 rfl) (fun s hp => zOD (K79.cx _) rfl rfl rfl rfl (s.1) (s.2) hp)
noncomputable def K81 : Known := K80.pure 44 zQt
theorem ok81 : K81.OK := addK 2 ok80 kN (bd Tryz.func44 rfl) (fun s hp => zOJ (K80.cx _) rfl rfl rfl (s.1) (s.2) hp)
noncomputable def K82 : Known := K81.pure 96 zNO
theorem ok82 : K82.OK := addK 2 ok81 kN (bd Tryz.func96 rfl) (fun s hp => zS5 (K81.cx _) rfl rfl rfl (s.1) (s.2) hp)
noncomputable def K83 : Known := K82.pure 51 FPrp
theorem ok83 : K83.OK := addK 4 ok82 kN (bd Tryz.func51 rfl) (fun s hp => yA0 (K82.cx _) rfl rfl rfl rfl rfl rfl (s.1) (s.2.1) (s.2.2.1) (s.2.2.2) hp)
noncomputable def K84 : Known := K83.pure 44 zID
theorem ok84 : K84.OK := ok83.pure (Known.OK.get ok32 44 rfl)
noncomputable def K85 : Known := K84.pure 23 zRX
theorem ok85 : K85.OK := addK 1 ok84 (fun i => if i = 12 then some [1, 3, 4, 5, 34, 35, 36] else  none) (bd Tryz.func23 rfl) (fun s hp => zTv (K84.cx _) rfl rfl rfl rfl rfl rfl rfl rfl rfl rfl rfl rfl rfl rfl rfl rfl rfl rfl rfl rfl rfl (s) hp)
noncomputable def K86 : Known := K85.pure 98 zZ0
theorem ok86 : K86.OK := addK 2 ok85 kN (bd Tryz.func98 rfl) (fun s hp => zSX (K85.cx _) rfl rfl (s.1) (s.2))
noncomputable def K87 : Known := K86.pure 87 zQk
theorem ok87 : K87.OK := addK 2 ok86 (fun i => if i = 2 then some [0, 1, 7, 8] else  none) (bd Tryz.func87 rfl) (fun s hp => zOC (K86.cx _) rfl rfl rfl rfl (s.1) (s.2) hp)
noncomputable def K88 : Known := K87.pure 54 FSix
theorem ok88 : K88.OK := addK 1 ok87 kN (bd Tryz.func54 rfl) (fun s hp => yAW (K87.cx _) rfl rfl rfl (s) hp)
noncomputable def K89 : Known := K88.pure 25 zWI
theorem ok89 : K89.OK := addK 1 ok88 kN (bd Tryz.func25 rfl) (fun s hp => zSZ (K88.cx _) rfl rfl rfl (s) hp)
noncomputable def K90 : Known := K89.pure 53 zNN
theorem ok90 : K90.OK := addK 2 ok89 kN (bd Tryz.func53 rfl) (fun s hp => zOs (K89.cx _) rfl rfl rfl (s.1) (s.2))
noncomputable def K91 : Known := K90.pure 24 zEh
theorem ok91 : K91.OK := addK 2 ok90 kN (bd Tryz.func24 rfl) (fun s hp => zIR (K90.cx _) rfl rfl rfl (s.1) (s.2))
noncomputable def K92 : Known := K91.eff 65 FSet
theorem ok92 : K92.OK := Known.addEffN ok91 follows (fun i => if i = 3 then some [3, 7, 8, 9] else  none) (bd Tryz.func65 rfl) (n := 1) (by decide) (fun _ => rfl) (fun s hp => yAX (K91.cx (fun i => if i = 3 then some [3, 7, 8, 9] else  none)) rfl rfl rfl s hp)
noncomputable def K93 : Known := K92.pure 32 FWo
theorem ok93 : K93.OK := addK 2 ok92 (fun i => if i = 4 then some [5, 6, 11, 12, 13] else  none) (bd Tryz.func32 rfl) (fun s hp => zTc (K92.cx _) rfl rfl rfl rfl rfl rfl (s.1) (s.2) hp)
noncomputable def K94 : Known := K93.pure 13 zGL
theorem ok94 : K94.OK := Known.add ok93 follows (fun _ => none) (bd Tryz.func13 rfl) (n := 2) (by decide) (fun _ => rfl) [] true (fun s hp => zOI (K93.cx (fun _ => none)) rfl rfl rfl rfl rfl rfl rfl rfl rfl rfl (s.1) (s.2) hp)
noncomputable def K95 : Known := K94.pure 127 zP3
theorem ok95 : K95.OK := addK 1 ok94 (fun i => if i = 6 then some [0, 3] else  none) (bd Tryz.func127 rfl) (fun s hp => zOG (K94.cx _) rfl rfl rfl (s) hp)
noncomputable def K96 : Known := K95.pure 99 zIw
theorem ok96 : K96.OK := zCu 1 ok95 (fun i => if i = 8 then some [0, 4, 5, 6] else  none) (bd Tryz.func99 rfl) (fun s hp => zOo (K95.cx _) rfl rfl rfl rfl (s) hp)
noncomputable def K97 : Known := K96.pure 59 zF2
theorem ok97 : K97.OK := addK 1 ok96 kN (bd Tryz.func59 rfl) (fun s hp => zOi (K96.cx _) rfl rfl rfl (s) hp)
noncomputable def K98 : Known := K97.pure 66 zNR
theorem ok98 : K98.OK := zCu 3 ok97 (fun i => if i = 3 then some [0, 1, 2, 7, 8] else  none) (bd Tryz.func66 rfl) (fun s hp => zTp (K97.cx _) rfl rfl rfl (s.1) (s.2.1) (s.2.2) hp)
noncomputable def K99 : Known := K98.pure 129 zZ9
theorem ok99 : K99.OK := addK 1 ok98 kN (bd Tryz.func129 rfl) (fun s hp => zS9 (K98.cx _) rfl rfl (s))
noncomputable def K100 : Known := K99.pure 101 zIC
theorem yD1 : K100.OK := addK 1 ok99 kN (bd Tryz.func101 rfl) (fun s hp => zOy (K99.cx _) rfl rfl rfl (s))
noncomputable def K101 : Known := K100.pure 130 zZT
theorem yD0 : K101.OK := addK 2 yD1 kN (bd Tryz.func130 rfl) (fun s hp => zSQ (K100.cx _) rfl rfl (s.1) (s.2))
noncomputable def K102 : Known := K101.pure 131 zKv
theorem yDZ : K102.OK := addK 1 yD0 kN (bd Tryz.func131 rfl) (fun s hp => zSP (K101.cx _) rfl rfl (s))
noncomputable def K103 : Known := K102.pure 132 yAf
theorem zYf : K103.OK := addK 1 yDZ kN (bd Tryz.func132 rfl) (fun s hp => zTk (K102.cx _) rfl rfl rfl (s) hp)
noncomputable def K104 : Known := K103.pure 60 zDc
theorem ok104 : K104.OK := addK 1 zYf kN (bd Tryz.func60 rfl) (fun s hp => zK1 (K103.cx _) rfl rfl (s))
noncomputable def K105 : Known := K104.pure 133 FIn
theorem yDY : K105.OK := addK 2 ok104 kN (bd Tryz.func133 rfl) (fun s hp => yG8 (K104.cx _) rfl rfl (s.1) (s.2))
noncomputable def K106 : Known := K105.pure 134 zIv
theorem yDX : K106.OK := addK 1 yDY kN (bd Tryz.func134 rfl) (fun s hp => zOn (K105.cx _) rfl rfl (s))
noncomputable def K107 : Known := K106.pure 135 FAll
theorem yDW : K107.OK := addK 1 yDX (fun i => if i = 2 then some [0, 3] else  none) (bd Tryz.func135 rfl) (fun s hp => yBl (K106.cx _) rfl rfl rfl rfl (s))
noncomputable def K108 : Known := K107.pure 102 FVD
theorem yDV : K108.OK := addK 2 yDW kN (bd Tryz.func102 rfl) (fun s hp => yG2 (K107.cx _) rfl rfl rfl rfl rfl rfl rfl rfl rfl rfl rfl rfl rfl rfl rfl rfl rfl rfl rfl rfl (s.1) (s.2) hp)
noncomputable def K109 : Known := K108.pure 67 FVR
theorem yDU : K109.OK := addK 1 yDV kN (bd Tryz.func67 rfl) (fun s hp => yG1 (K108.cx _) rfl rfl rfl rfl rfl (s) hp)
noncomputable def K110 : Known := K109.pure 167 zZV
theorem yDT : K110.OK := addK 2 yDU kN (bd Tryz.func167 rfl) (fun s hp => runText (K109.cx _) rfl rfl (s.1) (s.2))
noncomputable def K111 : Known := K110.pure 104 zWJ
theorem yDS : K111.OK := addK 2 yDT (fun i => if i = 2 then some [0, 1, 5] else  none) (bd Tryz.func104 rfl) (fun s hp => zS0 (K110.cx _) rfl rfl rfl (s.1) (s.2) hp)
noncomputable def K112 : Known := K111.pure 136 zNS
theorem yDR : K112.OK := addK 2 yDS kN (bd Tryz.func136 rfl) (fun s hp => zTr (K111.cx _) rfl rfl rfl rfl rfl rfl rfl rfl (s.1) (s.2) hp)
noncomputable def K113 : Known := K112.pure 128 zKz
theorem yDQ : K113.OK := addK 2 yDR kN (bd Tryz.func128 rfl) (fun s hp => zS7 (K112.cx _) rfl rfl (s.1) (s.2))
noncomputable def K114 : Known := K113.pure 204 FOct
theorem yDP : K114.OK := addK 2 yDQ (fun i => if i = 3 then some [0, 5, 6] else if i = 7 then some [0, 5, 6, 7, 8] else  none) (bd Tryz.func204 rfl) (fun s hp => yA2 (K113.cx _) rfl rfl rfl rfl (s.1) (s.2) hp)
noncomputable def K115 : Known := K114.pure 189 FWA
theorem yDO : K115.OK := addK 1 yDP kN (bd Tryz.func189 rfl) (fun s hp => yG0 (K114.cx _) rfl rfl rfl rfl rfl rfl (s))
noncomputable def K116 : Known := K115.pure 106 zIA
theorem yDN : K116.OK := zCu 1 yDO kN (bd Tryz.func106 rfl) (fun s hp => zK4 (K115.cx _) rfl rfl rfl (s) hp)
noncomputable def K117 : Known := K116.pure 191 FNum
theorem yDM : K117.OK := addK 2 yDN (fun i => if i = 3 then some [0, 5, 6] else if i = 7 then some [0, 5, 6, 7, 8] else  none) (bd Tryz.func191 rfl) (fun s hp => yA3 (K116.cx _) rfl rfl rfl rfl (s.1) (s.2) hp)
noncomputable def K118 : Known := K117.pure 190 FWN
theorem yDL : K118.OK := addK 1 yDM (fun i => if i = 4 then some [3, 4, 5] else  none) (bd Tryz.func190 rfl) (fun s hp => yGY (K117.cx _) rfl rfl rfl rfl rfl rfl rfl (s) hp)
noncomputable def K119 : Known := K118.pure 192 FBm
theorem yDK : K119.OK := addK 1 yDL (fun i => if i = 4 then some [0, 3, 4, 5] else if i = 8 then some [0, 3, 4, 5, 6, 7] else  none) (bd Tryz.func192 rfl) (fun s hp => yHd (K118.cx _) rfl rfl rfl rfl (s))
noncomputable def K120 : Known := K119.pure 168 FWD
theorem yDJ : K120.OK := addK 2 yDK kN (bd Tryz.func168 rfl) (fun s hp => yGZ (K119.cx _) rfl rfl rfl rfl rfl rfl rfl rfl rfl rfl rfl rfl rfl rfl (s.1) (s.2) hp)
noncomputable def K121 : Known := K120.pure 137 FCD
theorem yDI : K121.OK := addK 3 yDJ kN (bd Tryz.func137 rfl) (fun s hp => yHb (K120.cx _) rfl rfl rfl (s.1) (s.2.1) (s.2.2) hp)
noncomputable def K122 : Known := K121.pure 103 zEn
theorem yDH : K122.OK := addK 2 yDI kN (bd Tryz.func103 rfl) (fun s hp => zOH (K121.cx _) rfl rfl rfl rfl rfl (s.1) (s.2) hp)
noncomputable def K123 : Known := K122.pure 69 zWG
theorem yDG : K123.OK := zCu 1 yDH (fun i => if i = 3 then some [0, 3, 4] else if i = 6 then some [0, 3, 4, 5] else  none) (bd Tryz.func69 rfl) (fun s hp => zSW (K122.cx _) rfl rfl rfl rfl rfl rfl (s) hp)
noncomputable def K124 : Known := K123.pure 68 FEq
theorem yDF : K124.OK := addK 2 yDG (fun i => if i = 4 then some [0, 1, 5] else  none) (bd Tryz.func68 rfl) (fun s hp => yHa (K123.cx _) rfl rfl rfl (s.1) (s.2) hp)
noncomputable def K125 : Known := K124.pure 70 FHas
theorem yDE : K125.OK := addK 3 yDF kN (bd Tryz.func70 rfl) (fun s hp => yA9 (K124.cx _) rfl rfl rfl (s.1) (s.2.1) (s.2.2) hp)
noncomputable def K126 : Known := K125.pure 71 zEm
theorem yDD : K126.OK := addK 2 yDE kN (bd Tryz.func71 rfl) (fun s hp => zOm (K125.cx _) rfl rfl rfl rfl (s.1) (s.2) hp)
noncomputable def K127 : Known := K126.pure 105 zKx
theorem yDC : K127.OK := addK 1 yDD kN (bd Tryz.func105 rfl) (fun s hp => zKZ (K126.cx _) rfl rfl (s))
noncomputable def K128 : Known := K127.pure 72 FBes
theorem yDB : K128.OK := addK 2 yDC (fun i => if i = 2 then some [2, 3, 5] else  none) (bd Tryz.func72 rfl) (fun s hp => yBk (K127.cx _) rfl rfl rfl rfl (s.1) (s.2) hp)
noncomputable def K129 : Known := K128.pure 107 zQz
theorem yDA : K129.OK := addK 2 yDB kN (bd Tryz.func107 rfl) (fun s hp => zOQ (K128.cx _) rfl rfl rfl (s.1) (s.2) hp)
noncomputable def K130 : Known := K129.pure 73 FPl
theorem yDz : K130.OK := addK 2 yDA (fun i => if i = 5 then some [2, 3, 6] else  none) (bd Tryz.func73 rfl) (fun s hp => yG5 (K129.cx _) rfl rfl rfl rfl rfl rfl (s.1) (s.2) hp)
noncomputable def K131 : Known := K130.pure 33 zNU
theorem zYe : K131.OK := addK 1 yDz (fun i => if i = 6 then some [1, 3] else if i = 11 then some [1, 4] else if i = 20 then some [1, 5] else  none) (bd Tryz.func33 rfl) (fun s hp => zTu (K130.cx _) rfl rfl rfl rfl rfl rfl rfl rfl rfl rfl rfl rfl rfl rfl rfl rfl rfl rfl rfl rfl rfl rfl rfl (s) hp)
noncomputable def K132 : Known := K131.pure 33 zF7
theorem ok132 : K132.OK := addK 1 zYe (fun i => if i = 6 then some [1, 3] else if i = 11 then some [1, 4] else if i = 20 then some [1, 5] else  none) (bd Tryz.func33 rfl) (fun s hp => zOO (K131.cx _) rfl rfl rfl rfl rfl rfl rfl rfl rfl rfl rfl rfl rfl rfl rfl rfl rfl rfl rfl rfl rfl rfl rfl (s) hp)
noncomputable def K133 : Known := K132.pure 33 zMv
theorem yDy : K133.OK := ok132.pure (PureOK.of (PureOK.either (Known.OK.get zYe 33 rfl) (Known.OK.get ok132 33 rfl)) (fun ds r hr => by
 obtain ⟨z, rfl, hp, rfl⟩ := zCq hr
 by_cases hn : 2048 < (z.recs.length : Int)
 · cases h : zNU [zAE z] with
   | none => show none.or (zF7 [zAE z]) = _; rw [zMw ⟨hp, hn⟩]; rfl
   | some r =>
     obtain ⟨z', h1, _, h3⟩ := zCq h
     have e : z = z' := by simp only [tAv, zGQ, and_true] at h1; exact h1
     subst e
     show (some r).or (zF7 [zAE z]) = _; rw [h3]; rfl
 · show ((zNU [zAE z]).or (zF7 [zAE z])) = _; rw [zQx (hp.z hn)]; rfl))
noncomputable def K134 : Known := K133.pure 35 zWH
theorem yDx : K134.OK := addK 1 yDy kN (bd Tryz.func35 rfl) (fun s hp => zSY (K133.cx _) rfl rfl rfl (s) hp)
noncomputable def K135 : Known := K134.pure 74 zNN
theorem yDw : K135.OK := addK 2 yDx kN (bd Tryz.func74 rfl) (fun s hp => zS1 (K134.cx _) rfl rfl rfl (s.1) (s.2))
noncomputable def K136 : Known := K135.pure 34 zEh
theorem yDv : K136.OK := addK 2 yDw kN (bd Tryz.func34 rfl) (fun s hp => zK2 (K135.cx _) rfl rfl rfl (s.1) (s.2))
noncomputable def K137 : Known := K136.pure 75 yAj
theorem yDu : K137.OK := addK 2 yDv (fun i => if i = 2 then some [0, 3, 5] else  none) (bd Tryz.func75 rfl) (fun s hp => zTn (K136.cx _) rfl rfl rfl (s.1) (s.2) hp)
noncomputable def K138 : Known := K137.pure 36 FWo
theorem yDt : K138.OK := addK 2 yDu (fun i => if i = 3 then some [0, 1, 5, 6] else  none) (bd Tryz.func36 rfl) (fun s hp => yGX (K137.cx _) rfl rfl rfl rfl (s.1) (s.2) hp)
noncomputable def K139 : Known := K138.pure 14 zQs
theorem yDs : K139.OK := Known.add yDt follows (fun _ => none) (bd Tryz.func14 rfl) (n := 2) (by decide) (fun _ => rfl) [] true (fun s hp => zXS (K138.cx (fun _ => none)) rfl rfl rfl rfl rfl rfl rfl rfl rfl rfl (s.1) (s.2) hp)
noncomputable def K140 : Known := K139.pure 30 FEqw
theorem yDr : K140.OK := addK 2 yDs (fun i => if i = 4 then some [0, 1, 5] else  none) (bd Tryz.func30 rfl) (fun s hp => yBb (K139.cx _) rfl rfl rfl (s.1) (s.2) hp)
noncomputable def K141 : Known := K140.pure 15 zQc
theorem yDq : K141.OK := addK 2 yDr kN (bd Tryz.func15 rfl) (fun s hp => zXR (K140.cx _) rfl rfl rfl (s.1) (s.2) hp)
noncomputable def K142 : Known := K141.pure 31 FVer
theorem yDp : K142.OK := Known.add yDq follows (fun _ => none) (bd Tryz.func31 rfl) (n := 2) (by decide) (fun s => by unfold verI; (repeat' split) <;> rfl) [] false (fun s hp => yAM (K141.cx (fun _ => none)) rfl rfl s hp)
noncomputable def K143 : Known := K142.pure 56 FIns
theorem yDo : K143.OK := addK 2 yDp (fun i => if i = 2 then some [1, 7, 8, 9] else  none) (bd Tryz.func56 rfl) (fun s hp => zTo (K142.cx _) rfl rfl rfl rfl rfl (s.1) (s.2) hp)
noncomputable def K144 : Known := K143.pure 57 zZY
theorem yDn : K144.OK := addK 1 yDo kN (bd Tryz.func57 rfl) (fun s hp => zSV (K143.cx _) rfl rfl rfl rfl (s) hp)
noncomputable def K145 : Known := K144.pure 39 zWQ
theorem yDm : K145.OK := addK 2 yDn kN (bd Tryz.func39 rfl) (fun s hp => zTa (K144.cx _) rfl rfl rfl (s.1) (s.2) hp)
noncomputable def K146 : Known := K145.pure 58 FSta
theorem yDl : K146.OK := addK 3 yDm (fun i => if i = 3 then some [1, 2, 7, 10, 11, 12] else  none) (bd Tryz.func58 rfl) (fun s hp => zSU (K145.cx _) rfl rfl rfl (s.1) (s.2.1) (s.2.2) hp)
noncomputable def K147 : Known := K146.pure 26 zGM
theorem yDk : K147.OK := addK 1 yDl kN (bd Tryz.func26 rfl) (fun s hp => zOP (K146.cx _) rfl rfl rfl rfl rfl rfl rfl rfl rfl (s) hp)
noncomputable def K148 : Known := K147.pure 32 FWoR
theorem ok148 : K148.OK := zCu 2 yDk (fun i => if i = 4 then some [5, 6, 11, 12, 13] else  none) (bd Tryz.func32 rfl) (fun s hp => zOw (K147.cx _) rfl rfl rfl rfl rfl rfl (s.1) (s.2) hp)
noncomputable def K149 : Known := K148.pure 48 zP9
theorem yDj : K149.OK := ok148.pure (Known.OK.get ok65 48 rfl)
noncomputable def K150 : Known := K149.pure 108 FBs
theorem yDi : K150.OK := addK 3 yDj (fun i => if i = 3 then some [0, 2, 4, 8, 9, 10] else  none) (bd Tryz.func108 rfl) (fun s hp => yHc (K149.cx _) rfl rfl rfl rfl rfl (s.1) (s.2) hp)
noncomputable def K151 : Known := K150.pure 76 FMin
theorem yDh : K151.OK := addK 2 yDi (fun i => if i = 4 then some [5, 6, 13, 14, 15] else  none) (bd Tryz.func76 rfl) (fun s hp => yA5 (K150.cx _) rfl rfl rfl rfl rfl (s.1) (s.2) hp)
noncomputable def K152 : Known := K151.pure 48 zEf
theorem zYd : K152.OK := zCu 1 yDh kN (bd Tryz.func48 rfl) (fun s hp => zKY (K151.cx _) rfl rfl rfl rfl rfl rfl rfl rfl rfl (s) hp)
noncomputable def K153 : Known := K152.pure 48 zFk
theorem ok153 : K153.OK := zCu 1 zYd kN (bd Tryz.func48 rfl) (fun s hp => zKX (K152.cx _) rfl rfl rfl rfl rfl rfl rfl rfl rfl (s))
noncomputable def K154 : Known := K153.pure 48 zP8
theorem yDg : K154.OK := ok153.pure (PureOK.slices (PureOK.either (Known.OK.get zYd 48 rfl) (Known.OK.get ok153 48 rfl)) (fun ds r hr => by
 obtain ⟨a, rfl, hp, rfl⟩ := zCq hr
 refine ⟨16, a.map recE, rfl, fun hne => ?_, fun he b => ?_⟩
 · have ha : a ≠ [] := fun e => hne (by rw [e]; rfl)
   have e := zI9 (a := a) ⟨ha, hp⟩
   show ((zEf [zAn a]).or (zFk [zAn a])) = _
   rw [e]; rfl
 · have ha : a = [] := tB8.1 he
   subst ha
   have e1 : zEf [D.emp b] = none := zFM (fun s h => by simp [zAn, vecE] at h)
   show ((zEf [D.emp b]).or (zFk [D.emp b])) = _
   rw [e1, zI8 (b := b)]; rfl))
noncomputable def K155 : Known := K154.pure 77 zZ7
theorem zYc : K155.OK := addK 2 yDg kN (bd Tryz.func77 rfl) (fun s hp => zS8 (K154.cx _) rfl rfl rfl rfl (s.1) (s.2) hp)
noncomputable def K156 : Known := K155.pure 37 zWA
theorem ok156 : K156.OK := Known.add zYc follows (fun _ => none) (bd Tryz.func37 rfl) (n := 5) (by decide) (fun _ => rfl) [] true (fun s hp => zSS (K155.cx (fun _ => none)) rfl rfl rfl rfl rfl rfl rfl (s.1) (s.2.1) (s.2.2.1) (s.2.2.2.1) (s.2.2.2.2) hp)
noncomputable def K157 : Known := K156.pure 16 zMA
theorem yDf : K157.OK := Known.add ok156 follows (fun _ => none) (bd Tryz.func16 rfl) (n := 2) (by decide) (fun _ => rfl) [] true (fun s hp => zTx (K156.cx (fun _ => none)) rfl rfl rfl rfl (s.1) (s.2) hp)
noncomputable def K158 : Known := K157.pure 18 zIt
theorem ok158 : K158.OK := Known.add yDf follows (fun _ => none) (bd Tryz.func18 rfl) (n := 2) (by decide) (fun _ => rfl) [] true (fun s hp => zOl (K157.cx (fun _ => none)) rfl rfl rfl rfl (s.1) (s.2) hp)
noncomputable def K159 : Known := K158.pure 64 zQw
theorem ok159 : K159.OK := ok158.pure (PureOK.slices (Known.OK.get ok35 64 rfl) (fun ds r hr => by
 obtain ⟨a, rfl, hp, rfl⟩ := zCq hr
 refine ⟨16, a.map recE, rfl, fun hne => ?_, fun he b => ?_⟩
 · exact zEL ⟨fun e => hne (by rw [e]; rfl), hp⟩
 · have ha : a = [] := tB8.1 he
   subst ha
   exact zHu))
theorem zKs : ∀ w, (isAgg (Go.Proofs.Tryz.sortRec_ren.t 24)).run Tryz.prog w = .ok true w := fun w => by rw [show Go.Proofs.Tryz.sortRec_ren.t 24 = 53 from rfl]; first | rfl | (unfold isAgg; simp [run_underlying Tryz.underlying53])
theorem zIp : ∀ w, (Go.sizeOf (Go.Proofs.Tryz.sortRec_ren.t 24)).run Tryz.prog w = .ok 16 w := fun w => by rw [show Go.Proofs.Tryz.sortRec_ren.t 24 = 53 from rfl]; first | rfl | (unfold Go.sizeOf; simp)
noncomputable def K160 : Known := K159.eff 79 FSR
theorem yDe : K160.OK := ok159.eff (zPK (zHf (ρ := Go.Proofs.Tryz.sortRec_ren) Go.Proofs.Tryz.sortRec ⟨_, rfl, rfl, by kernel_rfl⟩ zKs zIp (α := RecS) (fun x => recL x.1) (fun _ => rfl) (by decide) (fun x d hd => by simp [recL, datL, adrL] at hd; rcases hd with rfl | rfl | rfl | rfl | rfl | rfl | rfl | rfl | rfl | rfl | rfl | rfl | rfl | rfl | rfl | rfl <;> rfl) cmpS cmp_sub.swo (Known.OK.get ok54 80 rfl) (fun x y => zCB ⟨x.2, y.2⟩)))
noncomputable def K161 : Known := K160.pure 40 zRV
theorem ok161 : K161.OK := addK 2 yDe kN (bd Tryz.func40 rfl) (fun s hp => zTg (K160.cx _) rfl rfl rfl rfl rfl rfl (s.1) (s.2) hp)
noncomputable def K162 : Known := K161.pure 32 FWo
theorem yDd : K162.OK := ok161.pure (Known.OK.get ok93 32 rfl)
noncomputable def K163 : Known := K162.pure 21 zIz
theorem yDc : K163.OK := Known.add yDd follows (fun _ => none) (bd Tryz.func21 rfl) (n := 2) (by decide) (fun _ => rfl) [] true (fun s hp => zK3 (K162.cx (fun _ => none)) rfl rfl rfl rfl rfl rfl rfl rfl rfl rfl (s.1) (s.2) hp)
noncomputable def K164 : Known := K163.pure 20 zEg
theorem yDb : K164.OK := addK 2 yDc kN (bd Tryz.func20 rfl) (fun s hp => zK0 (K163.cx _) rfl rfl rfl (s.1) (s.2) hp)
noncomputable def K165 : Known := K164.pure 12 zMz
theorem yDa : K165.OK := addK 0 yDb kN (bd Tryz.func12 rfl) (fun s hp => zOR (K164.cx _) rfl rfl rfl rfl rfl rfl rfl rfl rfl)
noncomputable def K166 : Known := K165.pure 3 FDiffs
theorem ok166 : K166.OK := addK 2 yDa kN (bd Tryz.func3 rfl) (fun s hp => zXT (K165.cx _) rfl rfl rfl rfl rfl rfl rfl (s.1) (s.2) hp)
end Go.Mir
namespace Go.Mir
attribute [local congr] Ev.congr EvC.congr EvW.congr Br.congr Ms.congr
open Go Go.RowKit Go.Proofs
end Go.Mir
namespace Go.Proofs.YtnmohcaeepcloaaGreatDoor.deltaDiffs
open Go.ChangeShapes Go.WideShapes Go.ChangeAt Go.RowKit
set_option maxRecDepth 100000
theorem own : ownKnob Tryz.prog.godebug = none := by kernel_rfl
theorem laidOut : laidOutB Tryz.prog = true := by kernel_rfl
theorem told (ds : List Mir.D) (h : Mir.TDA Tryz.prog 12 [24, 24] ds) : Mir.FDiffs ds = some (Mir.Res.flat (.bo true)) := by
 obtain ⟨x0, r0, rfl, k0, j0⟩ := Mir.tda_cons h
 obtain ⟨x1, r1, rfl, k1, j1⟩ := Mir.tda_cons j0
 obtain rfl := Mir.tda_nil j1
 obtain ⟨c0, rfl, h0⟩ := Mir.td1_agg (by kernel_rfl) k0
 obtain ⟨v0, e0, w0⟩ := Mir.td_zone (n := 6) h0
 obtain ⟨c1, rfl, h1⟩ := Mir.td1_agg (by kernel_rfl) k1
 obtain ⟨v1, e1, w1⟩ := Mir.td_zone (n := 6) h1
 rw [e0, e1]
 exact Mir.FDiffs_eq ⟨⟨w0.rw, fun r h => (w0.2.2 r h).2⟩, ⟨w1.rw, fun r h => (w1.2.2 r h).2⟩⟩
theorem lifted (os : Os) (started : os.Started) (H : Type) (enc : TypeId × Value → H) :
   ReturnsInHanded {} Tryz.checked os 3 .any (fun w args => (Rows.deltaDiffsSpec.pre enc Tryz.prog Tryz.f3 Rows.deltaDiffsRow.domain false w args ∧ laidMetH Tryz.prog Rows.deltaDiffsRow.laid w) ∧ sizedMet enc Tryz.prog Tryz.f3 (OpenSpec.ofChange Rows.deltaDiffsSpec) false w args) (Rows.deltaDiffsSpec.post enc Tryz.prog Tryz.f3 false true false false) := by
 refine returnsInHanded_of_change_and (C := Tryz.checked) (X := fun w _ => laidMetH Tryz.prog Rows.deltaDiffsRow.laid w) (fun _ _ _ hh h => h.of_heap hh) own started (by kernel_rfl) Tryz.func3
   (ChangeSpec.witness_shaped (enc := enc) (C := Tryz.checked) (os := os) (X := fun w _ => laidMetH Tryz.prog Rows.deltaDiffsRow.laid w) false (World.laidAll Tryz.prog os Rows.deltaDiffsRow.laid) #[.agg #[.string ⟨#[]⟩, .slice none 0 0], .agg #[.string ⟨#[]⟩, .slice none 0 0]] 8 (World.laidAll_os _ _ _)
     (World.shaped_of_ZipB (by kernel_rfl) (by kernel_rfl)) (by kernel_rfl) (by kernel_rfl) (by kernel_rfl)
     (by rw [MakeChecks.laidMetH_plain _ _ _ (by kernel_rfl)]; exact laidMet_laidAll _ (by kernel_rfl) (by kernel_rfl))) ?_
 intro W base args ds gs before hval0 hW hcnd hsz0 hL _
 have hsz : (DataW.weightsEach Tryz.prog (Tryz.f3.params.toList ++ Rows.deltaDiffsSpec.plain.varTypes Tryz.prog) (ds ++ gs)).all (· ≤ reachBytes) = true := hsz0
 have hval : ∀ (j : Nat) t v, Tryz.f3.params[j]? = some t → args[j]? = some v → Value.okWide Tryz.prog W .any base t v := hval0
 have hW' := hW
 obtain ⟨p, q, hA0, hV, rfl, hfz, hnd⟩ := hW
 have hA : DataW.TrodAll enc Tryz.prog W 0 (fun _ => true) true Tryz.f3.params.toList args.toList ds p := hA0
 rw [Tryz.params3] at hA hval hsz
 obtain ⟨rfl, rfl⟩ := trodVars_none hV
 have hA1 : DataW.TrodAll enc Tryz.prog W 0 (fun _ => true) true [24, 24] args.toList ds p := hA
 have hsz1 : (DataW.weightsEach Tryz.prog [24, 24] ds).all (· ≤ reachBytes) = true := by
   have h := hsz
   rw [tAo] at h
   exact h
 refine (Mir.law_run (n := 12) (Mir.Known.OK.get Mir.ok166 3 rfl) (by kernel_rfl) hA1 (fun j t v ht hv => hval j t v (by simpa using ht) hv) hsz1 told).mono fun e W' ⟨he, bel⟩ => ?_
 subst he
 have hK := Mir.args_stay (spare := fun _ => true) laidOut bel _ _ _ _ (by kernel_rfl) hA1
 obtain ⟨v0, vs0, d0, ds0, p0, q0, h0, rfl, rfl, _, r0⟩ := trodAll_cons hA1
 obtain ⟨v1, vs1, d1, ds1, p1, q1, h1, rfl, rfl, _, r1⟩ := trodAll_cons r0
 obtain ⟨rfl, rfl, rfl⟩ := trodAll_nil r1
 exact ⟨_, rfl, _, _, _, [], _, [], hW', trodAll_mk1 (shut_bool Tryz.underlying4 _), hK, rfl, bel.frame _, fun h => by cases h⟩
theorem over : Rows.DeltaDiffsSaid :=
 OpenClaim.holds_of_wide 3 Tryz.f3 rfl rfl rfl rfl rfl rfl rfl ⟨rfl, rfl, rfl, rfl, rfl⟩ rfl rfl rfl rfl rfl (by kernel_rfl) Tryz.func3 (by kernel_rfl)
   (of_decide_eq_true (by kernel_rfl)) (by unfold Func.isWrapper; first | (rw [if_pos (by decide +kernel)]; kernel_rfl) | (rw [if_neg (by decide +kernel)]; exact ⟨rfl, rfl⟩))
   (fun os started H enc _ => lifted os started H enc)
theorem tied : Rows.DeltaDiffsCardSaid :=
 Claim7.holds_tied_plain_at .later [] [.data, .pinned] true (true, "6ea562871079a03565b978c6eabf6986d9e05aa6371aec071ebd4c774fd9d160") false over (fun _ h => by cases h) (by kernel_rfl) (fun _ h => by cases h) deltaDiffs_row_tie rfl ⟨rfl, rfl⟩ (by kernel_rfl) rfl
   (fun f fn hf hfn => by
     obtain rfl : f = 3 := Option.some.inj ((show Tryz.prog.funcNamed "ddi/ddilaw12.DeltaDiffs" = some 3 by kernel_rfl).symm.trans hf) |>.symm
     obtain rfl : fn = Tryz.f3 := (Option.some.inj (Tryz.func3.symm.trans hfn)).symm
     exact ⟨by kernel_rfl, fun j t ht => by
       rw [Tryz.params3] at ht
       have hm : t ∈ [24, 24] := by simpa using Array.mem_of_getElem? ht
       have hall : ([24, 24].all fun u => !Tryz.prog.wantsStandIn u) = true := by kernel_rfl
       exact (show Tryz.prog.wantsStandIn t = false by simpa using tAw.1 hall t hm)⟩)
   (by kernel_rfl)
end Go.Proofs.YtnmohcaeepcloaaGreatDoor.deltaDiffs
namespace Go.Proofs.YtnmohcaeepcloaaGreatDoor
theorem deltaDiffs_holds : Rows.DeltaDiffsCardSaid := deltaDiffs.tied
end Go.Proofs.YtnmohcaeepcloaaGreatDoor
namespace Go.Mir
end Go.Mir
