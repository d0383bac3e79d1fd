/- What the program's functions answer, read off their code; no conditions. -/
import Derived.Test.YtnmohcaeepcloaaGreatDoorWalk3
import Derived.Below
import Derived.Orders
import Derived.Laws.Sem
import Derived.Laws.World
import Derived.Laws.Rows
import Derived.Laws.AppendOwn
import Derived.Laws.IdiomCopy
import Derived.Laws.Entries
import Derived.Laws.Cells
import Derived.Laws.Slices
import Derived.Laws.StructEq
import Derived.Laws.Strings
import Derived.Deep.AppendSrc
import Derived.Laws.Tables
import Derived.Laws.MakeOwn
import Derived.Laws.BytesString
import Derived.Great.BuildSlice
import Derived.Lib.UnsafeStr
import Derived.Tactics
import Derived.LoopN
import Derived.SizedLaws
import Derived.ChangeSlices
import Derived.Carry
import Derived.WideShapes
import Derived.Lib.Bytealg
import Derived.Laws.Externs
import Derived.Shelf.SlSortCmp.WholeK
import Derived.Shelf.SlSortCmp.NoneTotal
import Derived.Lib.QuietBelow
import Derived.Test.YtnmohcaeepcloaaGreatDoorRows
import Derived.KernelRfl
import Derived.Ground.SlsfProg
import Derived.WalkKit
import Derived.ProofKit
import Derived.OpenShut
import Derived.ShutString
import Derived.ChangeOld
import Derived.LaidMore
import Derived.Lay
import Derived.SevenTiedAt
import Derived.Stop.Joined
import Derived.Test.YtnmohcaeepcloaaGreatDoorTie
import Derived.Test.YtnmohcaeepcloaaGreatDoorCards
set_option linter.unusedSimpArgs false
set_option linter.unusedVariables false
set_option linter.defProp false
set_option maxRecDepth 100000
set_option maxHeartbeats 4000000
open Go Go.RowKit Go.Proofs
namespace Go.Mir
attribute [local congr] Ev.congr EvC.congr EvW.congr Br.congr Ms.congr
def invD (d : Delta) : Delta := ⟨d.origin, d.til, d.fro, d.add, d.rem⟩
def zEe (a b : Delta) : Bool := if (a.origin == b.origin) = false then false else if ¬ a.fro = b.fro then false else if ¬ a.til = b.til then false else if eqL a.rem b.rem = false then false else eqL a.add b.add
noncomputable def zDT := mkF (fun s : Delta × Delta => [zAS s.1, zAS s.2]) (fun s => Sm s.1.rem ∧ Sm s.1.add) (fun s => Res.flat (.bo (zEe s.1 s.2)))
theorem zC7 {d : Delta} {e : Delta} (hp : Sm d.rem ∧ Sm d.add) : zDT [zAS d, zAS e] = some (Res.flat (.bo (zEe d e))) := zAB (s := (d, e)) (fun s s' h => by simp only [cI] at h; simp only [h]) hp
theorem zGg (cx : Cx) (hP : cx.P = Tryz.prog) (hbs : cx.bs = 0) (h30 : cx.orc 30 = some FEqw) (d e : Delta) (hl : Sm d.rem ∧ Sm d.add) : zAj cx Tryz.f15 [] false [zAS d, zAS e] = some (Res.flat (.bo (zEe d e))) := by
 have c30 := zAa h30
 have hl1 := hl.1; have hl2 := hl.2
 refine zAg (rs := [.tmp 4]) rfl hbs rfl ?_
 repeat' first
   | (refine zAR (fun h => ?_) (fun h => ?_) <;> (try simp only [cN] at h))
   | (refine zAN ?_ ?_)
   | simp only [↓cD, cU, cQ, cP, cB, zAJ, unD, zAf, zAd, idx, reduceCtorEq, ↓reduceIte, ofV, ofC, zAq, Nat.reduceEqDiff, zAG, cG, implies_true, forall_const, immL, immD, Res.flat, ren, renL, Int.reduceEq, Int.reduceLT, Int.reduceLE, Int.reduceNe, deref, ldD, zAF, zAk, zAI, zAs, cC, c30, zAo, zAp, zIW, ↓zAM, ↓zAQ, ↓zAL, ↓zAP, ↓zAK, ↓zAO, cV, cT, cF, cW, borT, borM, zAm, Res.via, zAu, zAb, refsB, Nat.reduceLT, Nat.reduceSub, Nat.reduceLeDiff, Nat.reduceMul, Nat.reduceAdd, Int.reduceToNat, appK, zAr, zAc, borL, zAl, zAn, zAE, cO, List.replicate, zAC, ofHp, ixOf, hl1, hl2, hP, *]
 all_goals first
   | rfl
   | (simp [zEe, *]; done)
noncomputable def FCl := mkF (fun s : (List Rec) => [zAt s]) (fun s => s.length ≤ 879609302220) (fun s => Res.flat (zAt s))
theorem yAT {a : List Rec} (hp : a.length ≤ 879609302220) : FCl [zAt a] = some (Res.flat (zAt a)) := zAB (s := (a)) (fun s s' h => by simp only [cI] at h; simp only [h]) hp
noncomputable def zPo := mkF (fun s : Delta => [zAS s]) (fun s => s.rem.length ≤ 879609302220 ∧ s.add.length ≤ 879609302220) (fun s => Res.via (zAS (invD s)))
theorem zKq {d : Delta} (hp : d.rem.length ≤ 879609302220 ∧ d.add.length ≤ 879609302220) : zPo [zAS d] = some (Res.via (zAS (invD d))) := zAB (s := (d)) (fun s s' h => by simp only [cI] at h; simp only [h]) hp
theorem zTe (cx : Cx) (hP : cx.P = Tryz.prog) (hbs : cx.bs = 0) (h64 : cx.orc 64 = some FCl) (r64 : cx.rd.contains 64 = true) (d : Delta) (hl : d.rem.length ≤ 879609302220 ∧ d.add.length ≤ 879609302220) : zAj cx Tryz.f28 [] true [zAS d] = some (Res.via (zAS (invD d))) := by
 have c64 := zAa h64
 have d64 := zAh r64 h64
 have hl1 := hl.1; have hl2 := hl.2
 refine zEj (rs := [.cell 2 28]) rfl hbs rfl ?_
 repeat' first
   | (refine zAR (fun h => ?_) (fun h => ?_) <;> (try simp only [cN] at h))
   | (refine zAN ?_ ?_)
   | simp (config := { decide := true }) only [↓cD, cU, cQ, cP, cB, zAJ, unD, zAf, zAd, idx, reduceCtorEq, ↓reduceIte, ofV, ofC, zAq, Nat.reduceEqDiff, zAG, cG, implies_true, forall_const, immL, immD, Res.flat, ren, renL, Int.reduceEq, Int.reduceLT, Int.reduceLE, Int.reduceNe, deref, ldD, zAF, zAk, zAI, zAs, cC, cS, refs, zAD, okId, List.all_nil, List.all_cons, Nat.reduceMul, Nat.reduceAdd, Nat.reduceLeDiff, zAv, c64, d64, zAo, zAp, yAT, ↓zAM, ↓zAQ, ↓zAL, ↓zAP, ↓zAK, ↓zAO, cV, cT, cF, cW, borT, borM, zAm, Res.via, zAu, zAb, refsB, Nat.reduceLT, Nat.reduceSub, Nat.reduceLeDiff, Nat.reduceMul, Nat.reduceAdd, Int.reduceToNat, appK, zAr, zAc, borL, zAl, zAn, zAE, cO, List.replicate, zAC, ofHp, ixOf, cS, refs, zAD, okId, List.all_nil, List.all_cons, Nat.reduceMul, Nat.reduceAdd, Nat.reduceLeDiff, zAv, hl1, hl2, zDH, zHY, updL, hP, *]
 all_goals first
   | rfl
   | exact ⟨_, rfl, rfl⟩
noncomputable def zO3 := mkF (fun s : (List Rec) => [zAt s]) (fun s => s ≠ [] ∧ s.length ≤ 879609302220) (fun s => Res.flat (zAt s))
theorem zRl {a : List Rec} (hp : a ≠ [] ∧ a.length ≤ 879609302220) : zO3 [zAt a] = some (Res.flat (zAt a)) := zAB (s := (a)) (fun s s' h => by simp only [cI] at h; simp only [h]) hp
theorem zTi (cx : Cx) (hP : cx.P = Tryz.prog) (hbs : cx.bs = 0) (a : List Rec) (hl : a ≠ [] ∧ a.length ≤ 879609302220) : zAj cx Tryz.f64 [] false [zAt a] = some (Res.flat (zAt a)) := by
 have hl1 := hl.1; have hl2 := hl.2
 refine zEf (rs := [.tmp 2]) rfl hbs rfl ?_
 repeat' first
   | (refine zAR (fun h => ?_) (fun h => ?_) <;> (try simp only [cN] at h))
   | (refine zAN ?_ ?_)
   | simp only [↓cD, cU, cQ, cP, cB, zAJ, unD, zAf, zAd, idx, reduceCtorEq, ↓reduceIte, ofV, ofC, zAq, Nat.reduceEqDiff, zAG, cG, implies_true, forall_const, immL, immD, Res.flat, ren, renL, Int.reduceEq, Int.reduceLT, Int.reduceLE, Int.reduceNe, deref, ldD, zAF, zAk, zAI, zAs, cC, ↓zAM, ↓zAQ, ↓zAL, ↓zAP, ↓zAK, ↓zAO, cV, cT, cF, cW, borT, borM, zAm, Res.via, zAu, zAb, refsB, Nat.reduceLT, Nat.reduceSub, Nat.reduceLeDiff, Nat.reduceMul, Nat.reduceAdd, Int.reduceToNat, appK, zAr, zAc, borL, zAl, zAn, zAE, cO, List.replicate, zAC, ofHp, ixOf, yGB, zEk, List.replicate_zero, zAE, Nat.zero_mul, hP, *]
 all_goals first
   | rfl
   | omega
   | (have h2 := hl.2; omega)
   | exact ⟨_, _, _, _, rfl, rfl, by simp, zBP (fun _ => rfl), rfl⟩
noncomputable def zRk := mkF (fun s : Bool => [.emp s]) (fun s => True) (fun s => Res.flat (zAt []))
theorem zRj {b : Bool} : zRk [.emp b] = some (Res.flat (zAt [])) := zAB (s := (b)) (fun s s' h => rfl) trivial
theorem zTh (cx : Cx) (hP : cx.P = Tryz.prog) (hbs : cx.bs = 0) (b : Bool)  : zAj cx Tryz.f64 [] false [.emp b] = some (Res.flat (zAt [])) := by
 refine zEf (rs := [.tmp 2]) rfl hbs rfl ?_
 repeat' first
   | (refine zAR (fun h => ?_) (fun h => ?_) <;> (try simp only [cN] at h))
   | (refine zAN ?_ ?_)
   | simp only [↓cD, cU, cQ, cP, cB, zAJ, unD, zAf, zAd, idx, reduceCtorEq, ↓reduceIte, ofV, ofC, zAq, Nat.reduceEqDiff, zAG, cG, implies_true, forall_const, immL, immD, Res.flat, ren, renL, Int.reduceEq, Int.reduceLT, Int.reduceLE, Int.reduceNe, deref, ldD, zAF, zAk, zAI, zAs, cC, ↓zAM, ↓zAQ, ↓zAL, ↓zAP, ↓zAK, ↓zAO, cV, cT, cF, cW, borT, borM, zAm, Res.via, zAu, zAb, refsB, Nat.reduceLT, Nat.reduceSub, Nat.reduceLeDiff, Nat.reduceMul, Nat.reduceAdd, Int.reduceToNat, appK, zAr, zAc, borL, zAl, zAn, zAE, cO, List.replicate, zAC, ofHp, ixOf, yGE, yEH, zOF, zEk, List.replicate_zero, zAE, Nat.zero_mul, hP, *]
 all_goals first
   | rfl
   | omega
   | exact ⟨_, _, _, _, rfl, rfl, rfl, rfl, rfl⟩
theorem zDI (d : Delta) : zEe d d = true := by
 unfold zEe
 simp [zEY]
noncomputable def FTurn := mkF (fun s : Delta => [zAS s]) (fun s => BigD s) (fun s => Res.flat (.bo true))
theorem FTurn_eq {d : Delta} (hp : BigD d) : FTurn [zAS d] = some (Res.flat (.bo true)) := zAB (s := (d)) (fun s s' h => by simp only [cI] at h; simp only [h]) hp
theorem yET (cx : Cx) (hP : cx.P = Tryz.prog) (hbs : cx.bs = 0) (h28 : cx.orc 28 = some zPo) (h15 : cx.orc 15 = some zDT) (h30 : cx.orc 30 = some FEqw) (h12 : cx.orc 12 = some zF6) (r28 : cx.rd.contains 28 = true) (r15 : cx.rd.contains 15 = true) (r30 : cx.rd.contains 30 = true) (r12 : cx.rd.contains 12 = true) (d : Delta) (hl : BigD d) : zAj cx Tryz.f10 [] false [zAS d] = some (Res.flat (.bo true)) := by
 have c28 := zAa h28
 have d28 := zAh r28 h28
 have c15 := zAa h15
 have d15 := zAh r15 h15
 have c30 := zAa h30
 have d30 := zAh r30 h30
 have c12 := zAa h12
 have d12 := zAh r12 h12
 have hr := hl.r; have ha := hl.a
 have i1 : zPo [zAS d] = some (Res.via (zAS (invD d))) := zKq ⟨hl.r, hl.a⟩
 have i2 : zPo [zAS (invD d)] = some (Res.via (zAS d)) := zKq (d := invD d) ⟨hl.a, hl.r⟩
 have i3 : zDT [zAS d, zAS d] = some (Res.flat (.bo true)) := by have := zC7 (d := d) (e := d) ⟨by simp only [Sm]; omega, by simp only [Sm]; omega⟩; rwa [zDI] at this
 have f1 : (invD d).fro = d.til := rfl
 have f2 : (invD d).til = d.fro := rfl
 have f3 : (invD d).rem = d.add := rfl
 have f4 : (invD d).add = d.rem := rfl
 have e1 : FEqw [zAt d.add, zAt d.add] = some (Res.flat (.bo true)) := by have := zIW (a := d.add) (b := d.add) (by simp only [Sm]; omega); rwa [zEY] at this
 have e2 : FEqw [zAt d.rem, zAt d.rem] = some (Res.flat (.bo true)) := by have := zIW (a := d.rem) (b := d.rem) (by simp only [Sm]; omega); rwa [zEY] at this
 refine zAg (rs := [.tmp 2]) rfl hbs rfl ?_
 repeat' first
   | (refine zAR (fun h => ?_) (fun h => ?_) <;> (try simp only [cN] at h))
   | (refine zAN ?_ ?_)
   | simp (config := { decide := true }) only [↓cD, cU, cQ, cP, cB, zAJ, unD, zAf, zAd, idx, reduceCtorEq, ↓reduceIte, ofV, ofC, zAq, Nat.reduceEqDiff, zAG, cG, implies_true, forall_const, immL, immD, Res.flat, ren, renL, Int.reduceEq, Int.reduceLT, Int.reduceLE, Int.reduceNe, deref, ldD, zAF, zAk, zAI, zAs, cC, cS, refs, zAD, okId, List.all_nil, List.all_cons, Nat.reduceMul, Nat.reduceAdd, Nat.reduceLeDiff, zAv, c28, c15, c30, c12, d28, d15, d30, d12, zAo, zAp, zKq, zC7, zIW, zF5, ↓zAM, ↓zAQ, ↓zAL, ↓zAP, ↓zAK, ↓zAO, cV, cT, cF, cW, borT, borM, zAm, Res.via, zAu, zAb, refsB, Nat.reduceLT, Nat.reduceSub, Nat.reduceLeDiff, Nat.reduceMul, Nat.reduceAdd, Int.reduceToNat, appK, zAr, zAc, borL, zAl, zAn, zAE, cO, List.replicate, zAC, ofHp, ixOf, cS, refs, zAD, okId, List.all_nil, List.all_cons, Nat.reduceMul, Nat.reduceAdd, Nat.reduceLeDiff, zAv, i1, i2, i3, f1, f2, f3, f4, e1, e2, zDI, zEY, hP, *]
 all_goals first
   | rfl
noncomputable def K0 : Known := ⟨Tryz.prog, [], [], []⟩
theorem ok0 : K0.OK := Known.OK.none _
theorem follows : Tryz.prog.follows .mixedOrders = true := by kernel_rfl
abbrev kN : Nat → Option (List Nat) := fun _ => none
theorem addK (n : Nat) {K : Known} (h : K.OK) {g : FuncId} {fn : Func} {c : Code} (kp : Nat → Option (List Nat)) (hb : Body K.P (K.cx kp).rd g fn c) {σ : Type} {enc : σ → List D} {pre : σ → Prop} {out : σ → Res} (hF : ∀ s, pre s → zAj (K.cx kp) fn [] false (enc s) = some (out s)) (hl : ∀ s, (enc s).length = n := by intro _; rfl) (hn : n ≤ fn.ntmps := by decide) (hP : K.P.follows .mixedOrders = true := by exact follows) : (K.pure g (mkF enc pre out)).OK := Known.add h hP kp hb hn hl [] false hF
theorem zBp (n : Nat) {K : Known} (h : K.OK) {g : FuncId} {fn : Func} {c : Code} (kp : Nat → Option (List Nat)) (hb : Body K.P (K.cx kp).rd g fn c) {σ : Type} {enc : σ → List D} {pre : σ → Prop} {out : σ → Res} (hF : ∀ s, pre s → zAj (K.cx kp) fn [0] false (enc s) = some (out s)) (hl : ∀ s, (enc s).length = n := by intro _; rfl) (hn : n ≤ fn.ntmps := by decide) (hP : K.P.follows .mixedOrders = true := by exact follows) : (K.pure g (mkF enc pre out)).OK := Known.add h hP kp hb hn hl [0] false hF
noncomputable def K1 : Known := K0.pure 64 zO3
theorem ok1 : K1.OK := addK 1 ok0 kN ⟨Tryz.func64, rfl, by kernel_rfl, by kernel_rfl⟩ (fun s hp => zTi (K0.cx _) rfl rfl (s) hp)
noncomputable def K2 : Known := K1.pure 64 zRk
theorem ok2 : K2.OK := addK 1 ok1 kN ⟨Tryz.func64, rfl, by kernel_rfl, by kernel_rfl⟩ (fun s hp => zTh (K1.cx _) rfl rfl (s))
noncomputable def K3 : Known := K2.pure 64 FCl
theorem ok3 : K3.OK := ok2.pure (PureOK.slices (PureOK.either (Known.OK.get ok1 64 rfl) (Known.OK.get ok2 64 rfl)) (fun ds r hr => by
 obtain ⟨a, rfl, hp, rfl⟩ := zBv hr
 refine ⟨16, a.map recE, rfl, fun hne => ?_, fun he b => ?_⟩
 · have ha : a ≠ [] := fun e => hne (by rw [e]; rfl)
   have e := zRl (a := a) ⟨ha, hp⟩
   show ((zO3 [zAt a]).or (zRk [zAt a])) = _
   rw [e]; rfl
 · have ha : a = [] := List.map_eq_nil_iff.1 he
   subst ha
   have e1 : zO3 [D.emp b] = none := zCz (fun s h => by simp [zAt, vecE] at h)
   show ((zO3 [D.emp b]).or (zRk [D.emp b])) = _
   rw [e1, zRj (b := b)]; rfl))
noncomputable def K4 : Known := K3.pure 28 zPo
theorem ok4 : K4.OK := Known.add ok3 follows (fun _ => none) ⟨Tryz.func28, rfl, by kernel_rfl, by kernel_rfl⟩ (n := 1) (by decide) (fun _ => rfl) [] true (fun s hp => zTe (K3.cx (fun _ => none)) rfl rfl rfl rfl (s) hp)
noncomputable def K5 : Known := K4.pure 30 FEqw
theorem ok5 : K5.OK := addK 2 ok4 (fun i => if i = 4 then some [0, 1, 5] else  none) ⟨Tryz.func30, rfl, by kernel_rfl, by kernel_rfl⟩ (fun s hp => zNd (K4.cx _) rfl rfl rfl (s.1) (s.2) hp)
noncomputable def K6 : Known := K5.pure 15 zDT
theorem ok6 : K6.OK := addK 2 ok5 kN ⟨Tryz.func15, rfl, by kernel_rfl, by kernel_rfl⟩ (fun s hp => zGg (K5.cx _) rfl rfl rfl (s.1) (s.2) hp)
noncomputable def K7 : Known := K6.pure 31 FVer
theorem ok7 : K7.OK := Known.add ok6 follows (fun _ => none) ⟨Tryz.func31, rfl, by kernel_rfl, by kernel_rfl⟩ (n := 2) (by decide) (fun s => by unfold verI; (repeat' split) <;> rfl) [] false (fun s hp => zMR (K6.cx (fun _ => none)) rfl rfl s hp)
noncomputable def K8 : Known := K7.pure 112 FSuf
theorem ok8 : K8.OK := addK 2 ok7 kN ⟨Tryz.func112, rfl, by kernel_rfl, by kernel_rfl⟩ (fun s hp => zJo (K7.cx _) rfl rfl (s.1) (s.2) hp)
noncomputable def K9 : Known := K8.pure 82 FSuf
theorem ok9 : K9.OK := addK 2 ok8 kN ⟨Tryz.func82, rfl, by kernel_rfl, by kernel_rfl⟩ (fun s hp => zMZ (K8.cx _) rfl rfl rfl (s.1) (s.2) hp)
noncomputable def K10 : Known := K9.ext 176 zI5
theorem ok10 : K10.OK := ok9.ext (zFZ Tryz.func176 (by kernel_rfl) (by kernel_rfl) (by kernel_rfl) (by kernel_rfl))
noncomputable def K11 : Known := K10.pure 150 FCnt
theorem ok11 : K11.OK := addK 2 ok10 (fun i => if i = 6 then some [0, 1, 5] else  none) ⟨Tryz.func150, rfl, by kernel_rfl, by kernel_rfl⟩ (fun s hp => zNi (K10.cx _) rfl rfl rfl rfl rfl (s.1) (s.2))
noncomputable def K12 : Known := K11.ext 205 FIxB
theorem ok12 : K12.OK := ok11.ext (zJZ Tryz.func205 (by kernel_rfl) (by kernel_rfl) (by kernel_rfl) (by kernel_rfl))
noncomputable def K13 : Known := K12.pure 195 zPn
theorem ok13 : K13.OK := addK 2 ok12 kN ⟨Tryz.func195, rfl, by kernel_rfl, by kernel_rfl⟩ (fun s hp => zJF (K12.cx _) rfl rfl rfl rfl (s.1) (s.2))
noncomputable def K14 : Known := K13.pure 177 FIdx
theorem ok14 : K14.OK := addK 2 ok13 (fun i => if i = 15 then some [0, 1, 5, 6, 7, 8, 9, 10] else  none) ⟨Tryz.func177, rfl, by kernel_rfl, by kernel_rfl⟩ (fun s hp => zJH (K13.cx _) rfl rfl rfl rfl (s.1) (s.2))
noncomputable def K15 : Known := K14.pure 151 FIdx
theorem ok15 : K15.OK := addK 2 ok14 kN ⟨Tryz.func151, rfl, by kernel_rfl, by kernel_rfl⟩ (fun s hp => zNb (K14.cx _) rfl rfl rfl (s.1) (s.2))
noncomputable def K16 : Known := K15.pure 113 FGen
theorem ok16 : K16.OK := zBp 4 ok15 (fun i => if i = 11 then some [0, 1, 2, 3, 9, 10] else  none) ⟨Tryz.func113, rfl, by kernel_rfl, by kernel_rfl⟩ (fun s hp => zNc (K15.cx _) rfl rfl rfl rfl rfl (s.1) (s.2) hp)
noncomputable def K17 : Known := K16.pure 83 FSpl
theorem ok17 : K17.OK := zBp 2 ok16 kN ⟨Tryz.func83, rfl, by kernel_rfl, by kernel_rfl⟩ (fun s hp => zM0 (K16.cx _) rfl rfl rfl (s.1) (s.2) hp)
noncomputable def K18 : Known := K17.pure 84 zPj
theorem ok18 : K18.OK := addK 1 ok17 (fun i => if i = 4 then some [0, 13, 14] else  none) ⟨Tryz.func84, rfl, by kernel_rfl, by kernel_rfl⟩ (fun s hp => zJw (K17.cx _) rfl rfl rfl (s) hp)
noncomputable def K19 : Known := K18.pure 42 zF1
theorem ok19 : K19.OK := addK 1 ok18 (fun i => if i = 6 then some [20, 21, 22] else  none) ⟨Tryz.func42, rfl, by kernel_rfl, by kernel_rfl⟩ (fun s hp => zHe (K18.cx _) rfl rfl rfl rfl rfl rfl (s) hp)
noncomputable def K20 : Known := K19.pure 86 zPm
theorem ok20 : K20.OK := addK 2 ok19 kN ⟨Tryz.func86, rfl, by kernel_rfl, by kernel_rfl⟩ (fun s hp => zJD (K19.cx _) rfl rfl (s.1) (s.2))
theorem zDz : ∀ w, (isAgg (Go.Proofs.Tryz.sortKey_ren.t 24)).run Tryz.prog w = .ok true w := fun w => by rw [show Go.Proofs.Tryz.sortKey_ren.t 24 = 83 from rfl]; first | rfl | (unfold isAgg; simp [run_underlying Tryz.underlying83])
theorem zCN : ∀ w, (Go.sizeOf (Go.Proofs.Tryz.sortKey_ren.t 24)).run Tryz.prog w = .ok 2 w := fun w => by rw [show Go.Proofs.Tryz.sortKey_ren.t 24 = 83 from rfl]; first | rfl | (unfold Go.sizeOf; simp)
noncomputable def K21 : Known := K20.eff 85 FSK
theorem ok21 : K21.OK := ok20.eff (zDe (ρ := Go.Proofs.Tryz.sortKey_ren) Go.Proofs.Tryz.sortKey ⟨_, rfl, rfl, by kernel_rfl⟩ zDz zCN (α := Key) keyL (fun _ => rfl) (by decide) (fun x d hd => by simp [keyL] at hd; rcases hd with rfl | rfl <;> rfl) keyC cmp_key.swo (Known.OK.get ok20 86 rfl) (fun x y => zGq))
noncomputable def K22 : Known := K21.pure 43 FCrw
theorem ok22 : K22.OK := addK 1 ok21 (fun i => if i = 3 then some [3, 12, 13, 14] else if i = 10 then some [3, 6, 29, 30, 31] else  none) ⟨Tryz.func43, rfl, by kernel_rfl, by kernel_rfl⟩ (fun s hp => zNf (K21.cx _) rfl rfl rfl rfl rfl rfl rfl rfl rfl (s) hp)
noncomputable def K23 : Known := K22.pure 160 zKb
theorem ok23 : K23.OK := addK 0 ok22 kN ⟨Tryz.func160, rfl, by kernel_rfl, by kernel_rfl⟩ (fun s hp => zHq (K22.cx _) rfl rfl)
noncomputable def K24 : Known := K23.pure 115 zKc
theorem ok24 : K24.OK := addK 1 ok23 (fun i => if i = 2 then some [0, 2, 6, 7, 8] else  none) ⟨Tryz.func115, rfl, by kernel_rfl, by kernel_rfl⟩ (fun s hp => zHr (K23.cx _) rfl rfl rfl rfl (s))
noncomputable def K25 : Known := K24.pure 88 zG5
theorem ok25 : K25.OK := addK 1 ok24 kN ⟨Tryz.func88, rfl, by kernel_rfl, by kernel_rfl⟩ (fun s hp => zFT (K24.cx _) rfl rfl rfl (s))
noncomputable def K26 : Known := K25.pure 116 zG3
theorem ok26 : K26.OK := addK 1 ok25 kN ⟨Tryz.func116, rfl, by kernel_rfl, by kernel_rfl⟩ (fun s hp => zHf (K25.cx _) rfl rfl (s))
noncomputable def K27 : Known := K26.pure 181 FPre
theorem ok27 : K27.OK := addK 2 ok26 kN ⟨Tryz.func181, rfl, by kernel_rfl, by kernel_rfl⟩ (fun s hp => zJv (K26.cx _) rfl rfl (s.1) (s.2) hp)
noncomputable def K28 : Known := K27.pure 161 FPre
theorem ok28 : K28.OK := addK 2 ok27 kN ⟨Tryz.func161, rfl, by kernel_rfl, by kernel_rfl⟩ (fun s hp => zM6 (K27.cx _) rfl rfl rfl (s.1) (s.2) hp)
noncomputable def K29 : Known := K28.pure 117 zKF
theorem ok29 : K29.OK := addK 1 ok28 kN ⟨Tryz.func117, rfl, by kernel_rfl, by kernel_rfl⟩ (fun s hp => zFU (K28.cx _) rfl rfl rfl rfl (s) hp)
noncomputable def K30 : Known := K29.pure 55 zCj
theorem ok30 : K30.OK := addK 1 ok29 kN ⟨Tryz.func55, rfl, by kernel_rfl, by kernel_rfl⟩ (fun s hp => zEC (K29.cx _) rfl rfl (s))
noncomputable def K31 : Known := K30.pure 118 FInB
theorem ok31 : K31.OK := addK 2 ok30 kN ⟨Tryz.func118, rfl, by kernel_rfl, by kernel_rfl⟩ (fun s hp => zNa (K30.cx _) rfl rfl (s.1) (s.2))
noncomputable def K32 : Known := K31.pure 119 zFn
theorem ok32 : K32.OK := addK 1 ok31 kN ⟨Tryz.func119, rfl, by kernel_rfl, by kernel_rfl⟩ (fun s hp => zFN (K31.cx _) rfl rfl (s))
noncomputable def K33 : Known := K32.pure 120 zPt
theorem ok33 : K33.OK := addK 0 ok32 (fun i => if i = 3 then some [1, 4, 5, 6] else  none) ⟨Tryz.func120, rfl, by kernel_rfl, by kernel_rfl⟩ (fun s hp => zJR (K32.cx _) rfl rfl rfl rfl)
noncomputable def K34 : Known := K33.pure 89 FVD
theorem ok34 : K34.OK := addK 2 ok33 kN ⟨Tryz.func89, rfl, by kernel_rfl, by kernel_rfl⟩ (fun s hp => zMT (K33.cx _) rfl rfl rfl rfl rfl rfl rfl rfl rfl rfl rfl rfl rfl rfl rfl rfl rfl rfl (s.1) (s.2) hp)
noncomputable def K35 : Known := K34.pure 46 FVR
theorem ok35 : K35.OK := addK 1 ok34 kN ⟨Tryz.func46, rfl, by kernel_rfl, by kernel_rfl⟩ (fun s hp => zMS (K34.cx _) rfl rfl rfl rfl rfl (s) hp)
noncomputable def K36 : Known := K35.pure 45 zPs
theorem ok36 : K36.OK := addK 1 ok35 kN ⟨Tryz.func45, rfl, by kernel_rfl, by kernel_rfl⟩ (fun s hp => zJP (K35.cx _) rfl rfl rfl (s) hp)
noncomputable def K37 : Known := K36.pure 87 zKE
theorem ok37 : K37.OK := addK 2 ok36 (fun i => if i = 2 then some [0, 1, 7, 8] else  none) ⟨Tryz.func87, rfl, by kernel_rfl, by kernel_rfl⟩ (fun s hp => zHv (K36.cx _) rfl rfl rfl rfl (s) hp)
noncomputable def K38 : Known := K37.pure 44 zFh
theorem ok38 : K38.OK := addK 2 ok37 kN ⟨Tryz.func44, rfl, by kernel_rfl, by kernel_rfl⟩ (fun s hp => zHz (K37.cx _) rfl rfl rfl (s) hp)
noncomputable def K39 : Known := K38.pure 64 zMO
theorem ok39 : K39.OK := zBp 1 ok38 kN ⟨Tryz.func64, rfl, by kernel_rfl, by kernel_rfl⟩ (fun s hp => zJN (K38.cx _) rfl rfl (s) hp)
noncomputable def K40 : Known := K39.pure 64 zPr
theorem ok40 : K40.OK := zBp 1 ok39 kN ⟨Tryz.func64, rfl, by kernel_rfl, by kernel_rfl⟩ (fun s hp => zJM (K39.cx _) rfl rfl (s))
noncomputable def K41 : Known := K40.pure 64 FClR
theorem ok41 : K41.OK := ok40.pure (PureOK.either (Known.OK.get ok39 64 rfl) (Known.OK.get ok40 64 rfl))
noncomputable def K42 : Known := K41.ext 201 zNs
theorem ok42 : K42.OK := ok41.ext (zHI Tryz.func201 (by kernel_rfl) (by kernel_rfl) (by kernel_rfl) (by kernel_rfl))
noncomputable def K43 : Known := K42.pure 183 zEJ
theorem ok43 : K43.OK := addK 2 ok42 kN ⟨Tryz.func183, rfl, by kernel_rfl, by kernel_rfl⟩ (fun s hp => zFW (K42.cx _) rfl rfl rfl rfl (s.1) (s.2))
noncomputable def K44 : Known := K43.pure 163 zEJ
theorem ok44 : K44.OK := addK 2 ok43 kN ⟨Tryz.func163, rfl, by kernel_rfl, by kernel_rfl⟩ (fun s hp => zFO (K43.cx _) rfl rfl rfl (s.1) (s.2))
noncomputable def K45 : Known := K44.pure 164 zKa
theorem ok45 : K45.OK := zBp 1 ok44 kN ⟨Tryz.func164, rfl, by kernel_rfl, by kernel_rfl⟩ (fun s hp => zHp (K44.cx _) rfl rfl rfl rfl (s) hp)
noncomputable def K46 : Known := K45.pure 122 zJa
theorem ok46 : K46.OK := addK 2 ok45 (fun i => if i = 10 then some [7, 8, 9] else  none) ⟨Tryz.func122, rfl, by kernel_rfl, by kernel_rfl⟩ (fun s hp => zHB (K45.cx _) rfl rfl rfl rfl rfl rfl rfl rfl rfl (s.1) (s.2) hp)
noncomputable def K47 : Known := K46.pure 148 FNaN
theorem ok47 : K47.OK := addK 1 ok46 kN ⟨Tryz.func148, rfl, by kernel_rfl, by kernel_rfl⟩ (fun s hp => zM7 (K46.cx _) rfl rfl (s))
noncomputable def K48 : Known := K47.pure 111 zHa
theorem ok48 : K48.OK := addK 2 ok47 kN ⟨Tryz.func111, rfl, by kernel_rfl, by kernel_rfl⟩ (fun s hp => zHm (K47.cx _) rfl rfl rfl (s.1) (s.2))
noncomputable def K49 : Known := K48.pure 184 zKA
theorem ok49 : K49.OK := addK 1 ok48 (fun i => if i = 3 then some [3, 7, 8, 9] else  none) ⟨Tryz.func184, rfl, by kernel_rfl, by kernel_rfl⟩ (fun s hp => zHn (K48.cx _) rfl rfl rfl rfl (s) hp)
noncomputable def K50 : Known := K49.pure 202 FByA
theorem ok50 : K50.OK := zBp 1 ok49 (fun i => if i = 3 then some [0, 3, 7, 8] else  none) ⟨Tryz.func202, rfl, by kernel_rfl, by kernel_rfl⟩ (fun s hp => zNk (K49.cx _) rfl rfl rfl (s) hp)
noncomputable def K51 : Known := K50.pure 185 FWAP
theorem ok51 : K51.OK := addK 1 ok50 kN ⟨Tryz.func185, rfl, by kernel_rfl, by kernel_rfl⟩ (fun s hp => zMQ (K50.cx _) rfl rfl rfl rfl rfl rfl (s) hp)
noncomputable def K52 : Known := K51.pure 207 FTrB
theorem ok52 : K52.OK := addK 2 ok51 (fun i => if i = 1 then some [0, 1] else  none) ⟨Tryz.func207, rfl, by kernel_rfl, by kernel_rfl⟩ (fun s hp => zMW (K51.cx _) rfl rfl rfl (s.1) (s.2) hp)
noncomputable def K53 : Known := K52.pure 203 FTrR
theorem ok53 : K53.OK := addK 2 ok52 kN ⟨Tryz.func203, rfl, by kernel_rfl, by kernel_rfl⟩ (fun s hp => zMV (K52.cx _) rfl rfl rfl (s.1) (s.2) hp)
noncomputable def K54 : Known := K53.pure 186 FBmP
theorem ok54 : K54.OK := addK 1 ok53 (fun i => if i = 3 then some [0, 3, 7] else if i = 7 then some [0, 3, 4, 5, 7, 10] else  none) ⟨Tryz.func186, rfl, by kernel_rfl, by kernel_rfl⟩ (fun s hp => zNl (K53.cx _) rfl rfl rfl rfl rfl (s))
noncomputable def K55 : Known := K54.pure 188 zOZ
theorem ok55 : K55.OK := addK 2 ok54 (fun i => if i = 3 then some [0, 5, 6] else  none) ⟨Tryz.func188, rfl, by kernel_rfl, by kernel_rfl⟩ (fun s hp => zJz (K54.cx _) rfl rfl rfl (s.1) (s.2) hp)
noncomputable def K56 : Known := K55.eff 187 zI4
theorem ok56 : K56.OK := Known.addEff ok55 follows (fun _ => none) ⟨Tryz.func187, rfl, by kernel_rfl, by kernel_rfl⟩ (n := 2) (by decide) (fun _ => rfl) (fun s hp => zHl (K55.cx1 (fun _ => none)) rfl rfl (s.1) (s.2) hp)
noncomputable def K57 : Known := K56.pure 165 FWD
theorem ok57 : K57.OK := addK 2 ok56 (fun i => if i = 8 then some [3, 6, 8, 31, 32] else  none) ⟨Tryz.func165, rfl, by kernel_rfl, by kernel_rfl⟩ (fun s hp => zHd (K56.cx _) rfl rfl rfl rfl rfl rfl rfl rfl rfl rfl rfl rfl (s.1) (s.2) hp)
noncomputable def K58 : Known := K57.pure 123 FCD
theorem ok58 : K58.OK := addK 3 ok57 kN ⟨Tryz.func123, rfl, by kernel_rfl, by kernel_rfl⟩ (fun s hp => zNj (K57.cx _) rfl rfl rfl rfl (s.1) (s.2.1) (s.2.2) hp)
noncomputable def K59 : Known := K58.pure 93 zEb
theorem ok59 : K59.OK := addK 2 ok58 kN ⟨Tryz.func93, rfl, by kernel_rfl, by kernel_rfl⟩ (fun s hp => zFV (K58.cx _) rfl rfl rfl rfl rfl (s.1) (s.2) hp)
noncomputable def K60 : Known := K59.pure 80 zG6
theorem ok60 : K60.OK := addK 2 ok59 kN ⟨Tryz.func80, rfl, by kernel_rfl, by kernel_rfl⟩ (fun s hp => zHA (K59.cx _) rfl rfl rfl rfl (s.1) (s.2) hp)
noncomputable def K61 : Known := K60.eff 138 zMM
theorem ok61 : K61.OK := Known.addEff ok60 follows (fun i => if i = 1 then some [0, 1, 2, 3, 8] else if i = 4 then some [0, 1, 2, 3, 8, 9] else  none) ⟨Tryz.func138, rfl, by kernel_rfl, by kernel_rfl⟩ (n := 4) (by decide) (fun _ => rfl) (fun s hp => zJG (K60.cx1 (fun i => if i = 1 then some [0, 1, 2, 3, 8] else if i = 4 then some [0, 1, 2, 3, 8, 9] else  none)) rfl rfl rfl rfl rfl rfl (s.1) (s.2.1) (s.2.2) hp)
noncomputable def K62 : Known := K61.eff 200 FSwR
theorem ok62 : K62.OK := Known.addEff ok61 follows (fun i => if i = 1 then some [0, 1, 2, 3, 10] else  none) ⟨Tryz.func200, rfl, by kernel_rfl, by kernel_rfl⟩ (n := 5) (by decide) (fun _ => rfl) (fun s hp => by have h := zMY (K61.cx1 (fun i => if i = 1 then some [0, 1, 2, 3, 10] else  none)) rfl rfl rfl (s.1) (s.2.1) (s.2.2.1) (s.2.2.2.1) (s.2.2.2.2) hp; have e : (s.1 ++ s.2.1 ++ s.2.2.1 ++ s.2.2.2.1 ++ s.2.2.2.2).length = s.1.length + s.2.1.length + s.2.2.1.length + s.2.1.length + s.2.2.2.2.length := (by have := hp.1; simp only [List.length_append]; omega); simp only [e]; exact h)
noncomputable def K63 : Known := K62.eff 182 FRot
theorem ok63 : K63.OK := Known.addEff ok62 follows (fun i => if i = 2 then some [0, 2, 4, 10, 11] else  none) ⟨Tryz.func182, rfl, by kernel_rfl, by kernel_rfl⟩ (n := 5) (by decide) (fun _ => rfl) (fun s hp => zM4 (K62.cx1 (fun i => if i = 2 then some [0, 2, 4, 10, 11] else  none)) rfl rfl rfl rfl rfl rfl (s.1) (s.2.1) (s.2.2.1) (s.2.2.2) hp)
theorem zD6 : ∀ N : Nat, EffOK Tryz.prog 162 (FSym N)
 | 0 => ⟨⟨_, rfl, rfl, by kernel_rfl⟩, fun ds hs r hs' h => by
     obtain ⟨s, _, _, hp, _⟩ := zGS h
     have h1 := List.length_pos_iff.2 hp.l
     have := hp.n
     omega⟩
 | N + 1 => by
   have ih := zD6 N
   have ok : (K63.eff 162 (FSym N)).OK := ok63.eff ih
   exact (Known.addEff ok follows (fun i => if i = 3 then some [0, 1, 4, 10, 11] else if i = 9 then some [0, 10, 13] else if i = 15 then some [0, 2, 4, 14, 15] else if i = 21 then some [0, 14, 17] else if i = 33 then some [0, 1, 2, 3, 4, 18, 19, 20, 21, 22] else  none) ⟨Tryz.func162, rfl, by kernel_rfl, by kernel_rfl⟩ (n := 5) (by decide) (fun _ => rfl) (fun s hp => zMX N ((K63.eff 162 (FSym N)).cx1 (fun i => if i = 3 then some [0, 1, 4, 10, 11] else if i = 9 then some [0, 10, 13] else if i = 15 then some [0, 2, 4, 14, 15] else if i = 21 then some [0, 14, 17] else if i = 33 then some [0, 1, 2, 3, 4, 18, 19, 20, 21, 22] else  none)) rfl rfl rfl rfl rfl rfl rfl rfl rfl rfl rfl rfl rfl rfl rfl (s.1) (s.2.1) (s.2.2.1) (s.2.2.2) hp) : ((K63.eff 162 (FSym N)).eff 162 (FSym (N + 1))).OK).effs (162, FSym (N + 1)) (List.mem_cons_self ..)
noncomputable def K64 : Known := K63.eff 162 (FSym 1000000)
theorem ok64 : K64.OK := ok63.eff (zD6 1000000)
noncomputable def K65 : Known := K64.eff 121 zOW
theorem ok65 : K65.OK := Known.addEff ok64 follows (fun i => if i = 2 then some [0, 1, 2, 6, 7, 8] else if i = 7 then some [0, 1, 2, 6] else if i = 9 then some [0, 1, 2, 6, 7, 8] else  none) ⟨Tryz.func121, rfl, by kernel_rfl, by kernel_rfl⟩ (n := 3) (by decide) (fun _ => rfl) (fun s hp => zJq (K64.cx1 (fun i => if i = 2 then some [0, 1, 2, 6, 7, 8] else if i = 7 then some [0, 1, 2, 6] else if i = 9 then some [0, 1, 2, 6, 7, 8] else  none)) rfl rfl rfl rfl rfl rfl rfl rfl rfl rfl rfl s hp)
noncomputable def K66 : Known := K65.eff 90 FSSF
theorem ok66 : K66.OK := Known.addEff ok65 follows (fun _ => none) ⟨Tryz.func90, rfl, by kernel_rfl, by kernel_rfl⟩ (n := 2) (by decide) (fun _ => rfl) (fun s hp => zM3 (K65.cx1 (fun _ => none)) rfl rfl rfl rfl rfl s hp)
noncomputable def K67 : Known := K66.pure 92 zI3
theorem ok67 : K67.OK := addK 2 ok66 kN ⟨Tryz.func92, rfl, by kernel_rfl, by kernel_rfl⟩ (fun s hp => zHj (K66.cx _) rfl rfl rfl (s.1) (s.2) hp)
noncomputable def K68 : Known := K67.eff 91 FCpt
theorem ok68 : K68.OK := Known.addEff ok67 follows (fun i => if i = 4 then some [0, 1, 5] else if i = 9 then some [0, 1, 5, 6, 7] else  none) ⟨Tryz.func91, rfl, by kernel_rfl, by kernel_rfl⟩ (n := 2) (by decide) (fun _ => rfl) (fun s hp => zNg (K67.cx1 (fun i => if i = 4 then some [0, 1, 5] else if i = 9 then some [0, 1, 5, 6, 7] else  none)) rfl rfl rfl rfl rfl rfl s hp)
noncomputable def K69 : Known := K68.pure 48 zCx
theorem ok69 : K69.OK := addK 1 ok68 kN ⟨Tryz.func48, rfl, by kernel_rfl, by kernel_rfl⟩ (fun s hp => zHi (K68.cx _) rfl rfl rfl rfl rfl rfl rfl rfl rfl (s) hp)
noncomputable def K70 : Known := K69.pure 48 zDG
theorem ok70 : K70.OK := addK 1 ok69 kN ⟨Tryz.func48, rfl, by kernel_rfl, by kernel_rfl⟩ (fun s hp => zHh (K69.cx _) rfl rfl rfl rfl rfl rfl rfl rfl rfl (s))
noncomputable def K71 : Known := K70.pure 48 zJ9
theorem ok71 : K71.OK := ok70.pure (PureOK.slices (PureOK.either (Known.OK.get ok69 48 rfl) (Known.OK.get ok70 48 rfl)) (fun ds r hr => by
 obtain ⟨a, rfl, hp, rfl⟩ := zBv hr
 refine ⟨16, a.map recE, rfl, fun hne => ?_, fun he b => ?_⟩
 · have ha : a ≠ [] := fun e => hne (by rw [e]; rfl)
   have e := zF4 (a := a) ⟨ha, hp⟩
   show ((zCx [zAt a]).or (zDG [zAt a])) = _
   rw [e]; rfl
 · have ha : a = [] := List.map_eq_nil_iff.1 he
   subst ha
   have e1 : zCx [D.emp b] = none := zCz (fun s h => by simp [zAt, vecE] at h)
   show ((zCx [D.emp b]).or (zDG [D.emp b])) = _
   rw [e1, zF3 (b := b)]; rfl))
noncomputable def K72 : Known := K71.pure 47 FEq
theorem ok72 : K72.OK := addK 2 ok71 (fun i => if i = 4 then some [0, 1, 12, 13] else  none) ⟨Tryz.func47, rfl, by kernel_rfl, by kernel_rfl⟩ (fun s hp => zNe (K71.cx _) rfl rfl rfl (s.1) (s.2) hp)
noncomputable def K73 : Known := K72.pure 49 FGrC
theorem ok73 : K73.OK := Known.add ok72 follows (fun i => if i = 4 then some [0, 3, 4, 7, 8] else  none) ⟨Tryz.func49, rfl, by kernel_rfl, by kernel_rfl⟩ (n := 1) (by decide) (fun _ => rfl) [] true (fun s hp => zRH (K72.cx (fun i => if i = 4 then some [0, 3, 4, 7, 8] else  none)) rfl rfl rfl (s) hp)
noncomputable def K74 : Known := K73.pure 49 FGr
theorem ok74 : K74.OK := ok73.pure (PureOK.weakr (Known.OK.get ok73 49 rfl) (fun ds r hr => by
 obtain ⟨a, rfl, hp, rfl⟩ := zBv hr
 exact ⟨_, zKd hp, rfl, rfl, fun M A H μ v h => zFX h⟩))
noncomputable def K75 : Known := K74.pure 94 zPq
theorem ok75 : K75.OK := addK 2 ok74 kN ⟨Tryz.func94, rfl, by kernel_rfl, by kernel_rfl⟩ (fun s hp => zJL (K74.cx _) rfl rfl rfl (s.1) (s.2) hp)
noncomputable def K76 : Known := K75.pure 50 zDF
theorem ok76 : K76.OK := addK 2 ok75 kN ⟨Tryz.func50, rfl, by kernel_rfl, by kernel_rfl⟩ (fun s hp => zFM (K75.cx _) rfl rfl rfl rfl (s.1) (s.2) hp)
noncomputable def K77 : Known := K76.pure 97 zPp
theorem ok77 : K77.OK := addK 2 ok76 kN ⟨Tryz.func97, rfl, by kernel_rfl, by kernel_rfl⟩ (fun s hp => zJI (K76.cx _) rfl rfl (s.1) (s.2))
noncomputable def K78 : Known := K77.pure 87 zKD
theorem ok78 : K78.OK := addK 2 ok77 (fun i => if i = 2 then some [0, 1, 7, 8] else  none) ⟨Tryz.func87, rfl, by kernel_rfl, by kernel_rfl⟩ (fun s hp => zHu (K77.cx _) rfl rfl rfl rfl (s.1) (s.2) hp)
noncomputable def K79 : Known := K78.pure 44 zKH
theorem ok79 : K79.OK := addK 2 ok78 kN ⟨Tryz.func44, rfl, by kernel_rfl, by kernel_rfl⟩ (fun s hp => zHy (K78.cx _) rfl rfl rfl (s.1) (s.2) hp)
noncomputable def K80 : Known := K79.pure 52 zO2
theorem ok80 : K80.OK := addK 2 ok79 kN ⟨Tryz.func52, rfl, by kernel_rfl, by kernel_rfl⟩ (fun s hp => zJJ (K79.cx _) rfl rfl rfl (s.1) (s.2) hp)
noncomputable def K81 : Known := K80.pure 124 zFK
theorem ok81 : K81.OK := addK 1 ok80 kN ⟨Tryz.func124, rfl, by kernel_rfl, by kernel_rfl⟩ (fun s hp => zEB (K80.cx _) rfl rfl (s))
noncomputable def K82 : Known := K81.pure 95 FUni
theorem ok82 : K82.OK := addK 1 ok81 (fun i => if i = 2 then some [0, 3] else  none) ⟨Tryz.func95, rfl, by kernel_rfl, by kernel_rfl⟩ (fun s hp => zMU (K81.cx _) rfl rfl rfl rfl rfl (s) hp)
noncomputable def K83 : Known := K82.pure 166 FIxI
theorem ok83 : K83.OK := addK 2 ok82 (fun i => if i = 2 then some [0, 1, 7, 8] else  none) ⟨Tryz.func166, rfl, by kernel_rfl, by kernel_rfl⟩ (fun s hp => zM9 (K82.cx _) rfl rfl rfl (s.1) (s.2) hp)
noncomputable def K84 : Known := K83.pure 126 FCoI
theorem ok84 : K84.OK := addK 2 ok83 kN ⟨Tryz.func126, rfl, by kernel_rfl, by kernel_rfl⟩ (fun s hp => zNh (K83.cx _) rfl rfl rfl (s.1) (s.2) hp)
noncomputable def K85 : Known := K84.pure 125 zPk
theorem ok85 : K85.OK := addK 2 ok84 kN ⟨Tryz.func125, rfl, by kernel_rfl, by kernel_rfl⟩ (fun s hp => zJx (K84.cx _) rfl rfl rfl (s.1) (s.2) hp)
noncomputable def K86 : Known := K85.pure 87 zKC
theorem ok86 : K86.OK := addK 2 ok85 (fun i => if i = 2 then some [0, 1, 7, 8] else  none) ⟨Tryz.func87, rfl, by kernel_rfl, by kernel_rfl⟩ (fun s hp => zHt (K85.cx _) rfl rfl rfl rfl (s.1) (s.2) hp)
noncomputable def K87 : Known := K86.pure 44 zKG
theorem ok87 : K87.OK := addK 2 ok86 kN ⟨Tryz.func44, rfl, by kernel_rfl, by kernel_rfl⟩ (fun s hp => zHx (K86.cx _) rfl rfl rfl (s.1) (s.2) hp)
noncomputable def K88 : Known := K87.pure 96 zML
theorem ok88 : K88.OK := addK 2 ok87 kN ⟨Tryz.func96, rfl, by kernel_rfl, by kernel_rfl⟩ (fun s hp => zJy (K87.cx _) rfl rfl rfl (s.1) (s.2) hp)
noncomputable def K89 : Known := K88.pure 51 FPrp
theorem ok89 : K89.OK := addK 4 ok88 kN ⟨Tryz.func51, rfl, by kernel_rfl, by kernel_rfl⟩ (fun s hp => zM5 (K88.cx _) rfl rfl rfl rfl rfl rfl (s.1) (s.2.1) (s.2.2.1) (s.2.2.2) hp)
noncomputable def K90 : Known := K89.pure 44 zFh
theorem ok90 : K90.OK := ok89.pure (Known.OK.get ok38 44 rfl)
noncomputable def K91 : Known := K90.pure 23 zJb
theorem ok91 : K91.OK := addK 1 ok90 (fun i => if i = 12 then some [1, 3, 4, 5, 34, 35, 36] else  none) ⟨Tryz.func23, rfl, by kernel_rfl, by kernel_rfl⟩ (fun s hp => zJO (K90.cx _) rfl rfl rfl rfl rfl rfl rfl rfl rfl rfl rfl rfl rfl rfl rfl rfl rfl rfl rfl rfl rfl (s) hp)
noncomputable def K92 : Known := K91.pure 98 zPi
theorem ok92 : K92.OK := addK 2 ok91 kN ⟨Tryz.func98, rfl, by kernel_rfl, by kernel_rfl⟩ (fun s hp => zJt (K91.cx _) rfl rfl (s.1) (s.2))
noncomputable def K93 : Known := K92.pure 87 zKB
theorem ok93 : K93.OK := addK 2 ok92 (fun i => if i = 2 then some [0, 1, 7, 8] else  none) ⟨Tryz.func87, rfl, by kernel_rfl, by kernel_rfl⟩ (fun s hp => zHs (K92.cx _) rfl rfl rfl rfl (s.1) (s.2) hp)
noncomputable def K94 : Known := K93.pure 54 FSix
theorem ok94 : K94.OK := addK 1 ok93 kN ⟨Tryz.func54, rfl, by kernel_rfl, by kernel_rfl⟩ (fun s hp => zM1 (K93.cx _) rfl rfl rfl (s) hp)
noncomputable def K95 : Known := K94.pure 25 zIR
theorem ok95 : K95.OK := addK 1 ok94 kN ⟨Tryz.func25, rfl, by kernel_rfl, by kernel_rfl⟩ (fun s hp => zJu (K94.cx _) rfl rfl rfl (s) hp)
noncomputable def K96 : Known := K95.pure 53 zI9
theorem ok96 : K96.OK := addK 2 ok95 kN ⟨Tryz.func53, rfl, by kernel_rfl, by kernel_rfl⟩ (fun s hp => zHk (K95.cx _) rfl rfl rfl (s.1) (s.2))
noncomputable def K97 : Known := K96.pure 24 zDm
theorem ok97 : K97.OK := addK 2 ok96 kN ⟨Tryz.func24, rfl, by kernel_rfl, by kernel_rfl⟩ (fun s hp => zED (K96.cx _) rfl rfl rfl (s.1) (s.2))
noncomputable def K98 : Known := K97.eff 65 FSet
theorem ok98 : K98.OK := Known.addEffN ok97 follows (fun i => if i = 3 then some [3, 7, 8, 9] else  none) ⟨Tryz.func65, rfl, by kernel_rfl, by kernel_rfl⟩ (n := 1) (by decide) (fun _ => rfl) (fun s hp => zM2 (K97.cx (fun i => if i = 3 then some [3, 7, 8, 9] else  none)) rfl rfl rfl s hp)
noncomputable def K99 : Known := K98.pure 32 FWo
theorem ok99 : K99.OK := addK 2 ok98 (fun i => if i = 4 then some [5, 6, 11, 12, 13] else  none) ⟨Tryz.func32, rfl, by kernel_rfl, by kernel_rfl⟩ (fun s hp => zJC (K98.cx _) rfl rfl rfl rfl rfl rfl (s.1) (s.2) hp)
noncomputable def K100 : Known := K99.pure 13 zEM
theorem ok100 : K100.OK := Known.add ok99 follows (fun _ => none) ⟨Tryz.func13, rfl, by kernel_rfl, by kernel_rfl⟩ (n := 2) (by decide) (fun _ => rfl) [] true (fun s hp => zHw (K99.cx (fun _ => none)) rfl rfl rfl rfl rfl rfl rfl rfl rfl rfl (s.1) (s.2) hp)
noncomputable def K101 : Known := K100.pure 56 FIns
theorem zK3 : K101.OK := addK 2 ok100 (fun i => if i = 2 then some [1, 7, 8, 9] else  none) ⟨Tryz.func56, rfl, by kernel_rfl, by kernel_rfl⟩ (fun s hp => zJK (K100.cx _) rfl rfl rfl rfl rfl (s.1) (s.2) hp)
noncomputable def K102 : Known := K101.pure 57 zPh
theorem zK2 : K102.OK := addK 1 zK3 kN ⟨Tryz.func57, rfl, by kernel_rfl, by kernel_rfl⟩ (fun s hp => zJs (K101.cx _) rfl rfl rfl rfl (s) hp)
noncomputable def K103 : Known := K102.pure 39 zO0
theorem zJW : K103.OK := addK 2 zK2 kN ⟨Tryz.func39, rfl, by kernel_rfl, by kernel_rfl⟩ (fun s hp => zJB (K102.cx _) rfl rfl rfl (s.1) (s.2) hp)
noncomputable def K104 : Known := K103.pure 58 FSta
theorem ok104 : K104.OK := addK 3 zJW (fun i => if i = 3 then some [1, 2, 7, 10, 11, 12] else  none) ⟨Tryz.func58, rfl, by kernel_rfl, by kernel_rfl⟩ (fun s hp => zJr (K103.cx _) rfl rfl rfl (s.1) (s.2.1) (s.2.2) hp)
noncomputable def K105 : Known := K104.pure 26 zFk
theorem ok105 : K105.OK := addK 1 ok104 kN ⟨Tryz.func26, rfl, by kernel_rfl, by kernel_rfl⟩ (fun s hp => zHC (K104.cx _) rfl rfl rfl rfl rfl rfl rfl rfl rfl (s) hp)
noncomputable def K106 : Known := K105.pure 32 FWoR
theorem ok106 : K106.OK := zBp 2 ok105 (fun i => if i = 4 then some [5, 6, 11, 12, 13] else  none) ⟨Tryz.func32, rfl, by kernel_rfl, by kernel_rfl⟩ (fun s hp => zHo (K105.cx _) rfl rfl rfl rfl rfl rfl (s.1) (s.2) hp)
noncomputable def K107 : Known := K106.pure 48 zKz
theorem ok107 : K107.OK := ok106.pure (Known.OK.get ok71 48 rfl)
noncomputable def K108 : Known := K107.pure 108 FBs
theorem zK1 : K108.OK := addK 3 ok107 (fun i => if i = 3 then some [0, 2, 4, 8, 9, 10] else  none) ⟨Tryz.func108, rfl, by kernel_rfl, by kernel_rfl⟩ (fun s hp => zRI (K107.cx _) rfl rfl rfl rfl rfl (s.1) (s.2) hp)
noncomputable def K109 : Known := K108.pure 76 FMin
theorem zK0 : K109.OK := addK 2 zK1 (fun i => if i = 4 then some [5, 6, 13, 14, 15] else  none) ⟨Tryz.func76, rfl, by kernel_rfl, by kernel_rfl⟩ (fun s hp => zM8 (K108.cx _) rfl rfl rfl rfl rfl (s.1) (s.2) hp)
noncomputable def K110 : Known := K109.pure 48 zBM
theorem ok110 : K110.OK := zBp 1 zK0 kN ⟨Tryz.func48, rfl, by kernel_rfl, by kernel_rfl⟩ (fun s hp => zFQ (K109.cx _) rfl rfl rfl rfl rfl rfl rfl rfl rfl (s) hp)
noncomputable def K111 : Known := K110.pure 48 zCv
theorem ok111 : K111.OK := zBp 1 ok110 kN ⟨Tryz.func48, rfl, by kernel_rfl, by kernel_rfl⟩ (fun s hp => zFP (K110.cx _) rfl rfl rfl rfl rfl rfl rfl rfl rfl (s))
noncomputable def K112 : Known := K111.pure 48 zKy
theorem ok112 : K112.OK := ok111.pure (PureOK.slices (PureOK.either (Known.OK.get ok110 48 rfl) (Known.OK.get ok111 48 rfl)) (fun ds r hr => by
 obtain ⟨a, rfl, hp, rfl⟩ := zBv hr
 refine ⟨16, a.map recE, rfl, fun hne => ?_, fun he b => ?_⟩
 · have ha : a ≠ [] := fun e => hne (by rw [e]; rfl)
   have e := zEL (a := a) ⟨ha, hp⟩
   show ((zBM [zAt a]).or (zCv [zAt a])) = _
   rw [e]; rfl
 · have ha : a = [] := List.map_eq_nil_iff.1 he
   subst ha
   have e1 : zBM [D.emp b] = none := zCz (fun s h => by simp [zAt, vecE] at h)
   show ((zBM [D.emp b]).or (zCv [D.emp b])) = _
   rw [e1, zEK (b := b)]; rfl))
noncomputable def K113 : Known := K112.pure 77 zPl
theorem ok113 : K113.OK := addK 2 ok112 kN ⟨Tryz.func77, rfl, by kernel_rfl, by kernel_rfl⟩ (fun s hp => zJA (K112.cx _) rfl rfl rfl rfl (s.1) (s.2) hp)
noncomputable def K114 : Known := K113.pure 37 zOV
theorem ok114 : K114.OK := Known.add ok113 follows (fun _ => none) ⟨Tryz.func37, rfl, by kernel_rfl, by kernel_rfl⟩ (n := 5) (by decide) (fun _ => rfl) [] true (fun s hp => zJp (K113.cx (fun _ => none)) rfl rfl rfl rfl rfl rfl rfl (s.1) (s.2.1) (s.2.2.1) (s.2.2.2.1) (s.2.2.2.2) hp)
noncomputable def K115 : Known := K114.pure 16 zIX
theorem ok115 : K115.OK := Known.add ok114 follows (fun _ => none) ⟨Tryz.func16, rfl, by kernel_rfl, by kernel_rfl⟩ (n := 2) (by decide) (fun _ => rfl) [] true (fun s hp => zJQ (K114.cx (fun _ => none)) rfl rfl rfl rfl (s.1) (s.2) hp)
noncomputable def K116 : Known := K115.pure 18 zFf
theorem ok116 : K116.OK := Known.add ok115 follows (fun _ => none) ⟨Tryz.func18, rfl, by kernel_rfl, by kernel_rfl⟩ (n := 2) (by decide) (fun _ => rfl) [] true (fun s hp => zHg (K115.cx (fun _ => none)) rfl rfl rfl rfl (s.1) (s.2) hp)
noncomputable def K117 : Known := K116.pure 64 zKI
theorem ok117 : K117.OK := ok116.pure (PureOK.slices (Known.OK.get ok41 64 rfl) (fun ds r hr => by
 obtain ⟨a, rfl, hp, rfl⟩ := zBv hr
 refine ⟨16, a.map recE, rfl, fun hne => ?_, fun he b => ?_⟩
 · exact zFi ⟨fun e => hne (by rw [e]; rfl), hp⟩
 · have ha : a = [] := List.map_eq_nil_iff.1 he
   subst ha
   exact zFL))
theorem zDy : ∀ w, (isAgg (Go.Proofs.Tryz.sortRec_ren.t 24)).run Tryz.prog w = .ok true w := fun w => by rw [show Go.Proofs.Tryz.sortRec_ren.t 24 = 53 from rfl]; first | rfl | (unfold isAgg; simp [run_underlying Tryz.underlying53])
theorem zCM : ∀ w, (Go.sizeOf (Go.Proofs.Tryz.sortRec_ren.t 24)).run Tryz.prog w = .ok 16 w := fun w => by rw [show Go.Proofs.Tryz.sortRec_ren.t 24 = 53 from rfl]; first | rfl | (unfold Go.sizeOf; simp)
noncomputable def K118 : Known := K117.eff 79 FSR
theorem ok118 : K118.OK := ok117.eff (zHG (zDe (ρ := Go.Proofs.Tryz.sortRec_ren) Go.Proofs.Tryz.sortRec ⟨_, rfl, rfl, by kernel_rfl⟩ zDy zCM (α := RecS) (fun x => recL x.1) (fun _ => rfl) (by decide) (fun x d hd => by simp [recL, datL, adrL] at hd; rcases hd with rfl | rfl | rfl | rfl | rfl | rfl | rfl | rfl | rfl | rfl | rfl | rfl | rfl | rfl | rfl | rfl <;> rfl) cmpS cmp_sub.swo (Known.OK.get ok60 80 rfl) (fun x y => zCE ⟨x.2, y.2⟩)))
noncomputable def K119 : Known := K118.pure 40 zNr
theorem ok119 : K119.OK := addK 2 ok118 kN ⟨Tryz.func40, rfl, by kernel_rfl, by kernel_rfl⟩ (fun s hp => zJE (K118.cx _) rfl rfl rfl rfl rfl rfl (s.1) (s.2) hp)
noncomputable def K120 : Known := K119.pure 32 FWo
theorem ok120 : K120.OK := ok119.pure (Known.OK.get ok99 32 rfl)
noncomputable def K121 : Known := K120.pure 21 zEm
theorem ok121 : K121.OK := Known.add ok120 follows (fun _ => none) ⟨Tryz.func21, rfl, by kernel_rfl, by kernel_rfl⟩ (n := 2) (by decide) (fun _ => rfl) [] true (fun s hp => zFS (K120.cx (fun _ => none)) rfl rfl rfl rfl rfl rfl rfl rfl rfl rfl (s.1) (s.2) hp)
noncomputable def K122 : Known := K121.pure 20 zDl
theorem zQj : K122.OK := addK 2 ok121 kN ⟨Tryz.func20, rfl, by kernel_rfl, by kernel_rfl⟩ (fun s hp => zFR (K121.cx _) rfl rfl rfl (s.1) (s.2) hp)
noncomputable def K123 : Known := K122.pure 12 zF6
theorem zPf : K123.OK := addK 0 zQj kN ⟨Tryz.func12, rfl, by kernel_rfl, by kernel_rfl⟩ (fun s hp => zHD (K122.cx _) rfl rfl rfl rfl rfl rfl rfl rfl rfl)
noncomputable def K124 : Known := K123.pure 10 FTurn
theorem ok124 : K124.OK := addK 1 zPf kN ⟨Tryz.func10, rfl, by kernel_rfl, by kernel_rfl⟩ (fun s hp => yET (K123.cx _) rfl rfl rfl rfl rfl rfl rfl rfl rfl rfl (s) hp)
theorem td_delta {n : Nat} {ds : List D} (h : TD Tryz.prog (n + 6) 28 ds) : ∃ x : Delta, D.agg ds = zAS x ∧ DIn x := by
 unfold TD at h
 simp only [Tryz.underlying28, List.toList_toArray, List.foldr_cons, List.foldr_nil] at h
 obtain ⟨a0, r0, rfl, _, t0, a1, r1, rfl, _, t1, a2, r2, rfl, _, t2, a3, r3, rfl, _, t3, a4, r4, rfl, _, t4, h9⟩ := h
 subst h9
 obtain ⟨v0, rfl, w0⟩ := zER Tryz.underlying9 (show TD Tryz.prog (n + 4 + 1) 9 a0 from t0)
 obtain ⟨v1, rfl⟩ := zDK Tryz.underlying3 (show TD Tryz.prog (n + 4 + 1) 3 a1 from t1)
 obtain ⟨v2, rfl⟩ := zDK Tryz.underlying3 (show TD Tryz.prog (n + 4 + 1) 3 a2 from t2)
 obtain ⟨v3, rfl, w3, u3⟩ := zCd (sz := 16) (E := recE) (W := RIn) Tryz.underlying22 (by kernel_rfl) (by kernel_rfl) (fun cs h => zGG h) (show TD Tryz.prog (n + 4 + 1) 22 a3 from t3)
 obtain ⟨v4, rfl, w4, u4⟩ := zCd (sz := 16) (E := recE) (W := RIn) Tryz.underlying22 (by kernel_rfl) (by kernel_rfl) (fun cs h => zGG h) (show TD Tryz.prog (n + 4 + 1) 22 a4 from t4)
 exact ⟨⟨v0, v1, v2, v3, v4⟩, rfl, ⟨w0, zGT (by kernel_rfl) w3 u3, zGT (by kernel_rfl) w4 u4⟩⟩
end Go.Mir
namespace Go.Mir
attribute [local congr] Ev.congr EvC.congr EvW.congr Br.congr Ms.congr
open Go Go.RowKit Go.Proofs
end Go.Mir
namespace Go.Proofs.YtnmohcaeepcloaaGreatDoor.deltaTurned
open Go.ChangeShapes Go.WideShapes Go.ChangeAt Go.RowKit
set_option maxRecDepth 100000
theorem own : ownKnob Tryz.prog.godebug = none := by kernel_rfl
theorem laidOut : laidOutB Tryz.prog = true := by kernel_rfl
theorem told (ds : List Mir.D) (h : Mir.TDA Tryz.prog 12 [28] ds) : Mir.FTurn ds = some (Mir.Res.flat (.bo true)) := by
 obtain ⟨d0, r0, rfl, h0, h1⟩ := Mir.tda_cons h
 obtain rfl := Mir.tda_nil h1
 obtain ⟨cs, rfl, h4⟩ := Mir.td1_agg (by kernel_rfl) h0
 obtain ⟨d, e, hr⟩ := Mir.td_delta (n := 6) h4
 rw [e]
 exact Mir.FTurn_eq ⟨hr.2.1.1, hr.2.2.1⟩
theorem lifted (os : Os) (started : os.Started) (H : Type) (enc : TypeId × Value → H) :
   ReturnsInHanded {} Tryz.checked os 10 .any (fun w args => (Rows.deltaTurnedSpec.pre enc Tryz.prog Tryz.f10 Rows.deltaTurnedRow.domain false w args ∧ laidMetH Tryz.prog Rows.deltaTurnedRow.laid w) ∧ sizedMet enc Tryz.prog Tryz.f10 (OpenSpec.ofChange Rows.deltaTurnedSpec) false w args) (Rows.deltaTurnedSpec.post enc Tryz.prog Tryz.f10 false true false false) := by
 refine returnsInHanded_of_change_and (C := Tryz.checked) (X := fun w _ => laidMetH Tryz.prog Rows.deltaTurnedRow.laid w) (fun _ _ _ hh h => h.of_heap hh) own started (by kernel_rfl) Tryz.func10
   (ChangeSpec.witness_shaped (enc := enc) (C := Tryz.checked) (os := os) (X := fun w _ => laidMetH Tryz.prog Rows.deltaTurnedRow.laid w) false (World.laidAll Tryz.prog os Rows.deltaTurnedRow.laid) #[.agg #[.string ⟨#[]⟩, .int .i64 0, .int .i64 0, .slice none 0 0, .slice none 0 0]] 8 (World.laidAll_os _ _ _)
     (World.shaped_of_ZipB (by kernel_rfl) (by kernel_rfl)) (by kernel_rfl) (by kernel_rfl) (by kernel_rfl)
     (by rw [MakeChecks.laidMetH_plain _ _ _ (by kernel_rfl)]; exact laidMet_laidAll _ (by kernel_rfl) (by kernel_rfl))) ?_
 intro W base args ds gs before hval0 hW hcnd hsz0 hL _
 have hsz : (DataW.weightsEach Tryz.prog (Tryz.f10.params.toList ++ Rows.deltaTurnedSpec.plain.varTypes Tryz.prog) (ds ++ gs)).all (· ≤ reachBytes) = true := hsz0
 have hval : ∀ (j : Nat) t v, Tryz.f10.params[j]? = some t → args[j]? = some v → Value.okWide Tryz.prog W .any base t v := hval0
 have hW' := hW
 obtain ⟨p, q, hA0, hV, rfl, hfz, hnd⟩ := hW
 have hA : DataW.TrodAll enc Tryz.prog W 0 (fun _ => true) true Tryz.f10.params.toList args.toList ds p := hA0
 rw [Tryz.params10] at hA hval hsz
 obtain ⟨rfl, rfl⟩ := trodVars_none hV
 have hA1 : DataW.TrodAll enc Tryz.prog W 0 (fun _ => true) true [28] args.toList ds p := hA
 have hsz1 : (DataW.weightsEach Tryz.prog [28] ds).all (· ≤ reachBytes) = true := by
   have h := hsz
   rw [List.append_nil] at h
   exact h
 refine (Mir.law_run (n := 12) (Mir.Known.OK.get Mir.ok124 10 rfl) (by kernel_rfl) hA1 (fun j t v ht hv => hval j t v (by simpa using ht) hv) hsz1 told).mono fun e W' ⟨he, bel⟩ => ?_
 subst he
 have hK := Mir.args_stay (spare := fun _ => true) laidOut bel _ _ _ _ (by kernel_rfl) hA1
 obtain ⟨v0, vs0, d0, ds0, p0, q0, h0, rfl, rfl, _, r0⟩ := trodAll_cons hA1
 obtain ⟨rfl, rfl, rfl⟩ := trodAll_nil r0
 exact ⟨_, rfl, _, _, _, [], _, [], hW', trodAll_mk1 (shut_bool Tryz.underlying4 _), hK, rfl, bel.frame _, fun h => by cases h⟩
theorem over : Rows.DeltaTurnedSaid :=
 OpenClaim.holds_of_wide 10 Tryz.f10 rfl rfl rfl rfl rfl rfl rfl ⟨rfl, rfl, rfl, rfl, rfl⟩ rfl rfl rfl rfl rfl (by kernel_rfl) Tryz.func10 (by kernel_rfl)
   (of_decide_eq_true (by kernel_rfl)) (by unfold Func.isWrapper; first | (rw [if_pos (by decide +kernel)]; kernel_rfl) | (rw [if_neg (by decide +kernel)]; exact ⟨rfl, rfl⟩))
   (fun os started H enc _ => lifted os started H enc)
theorem tied : Rows.DeltaTurnedCardSaid :=
 Claim7.holds_tied_plain_at .later [] [.data, .pinned] true (true, "6ea562871079a03565b978c6eabf6986d9e05aa6371aec071ebd4c774fd9d160") false over (fun _ h => by cases h) (by kernel_rfl) (fun _ h => by cases h) deltaTurned_row_tie rfl ⟨rfl, rfl⟩ (by kernel_rfl) rfl
   (fun f fn hf hfn => by
     obtain rfl : f = 10 := Option.some.inj ((show Tryz.prog.funcNamed "ddi/ddilaw12.DeltaTurned" = some 10 by kernel_rfl).symm.trans hf) |>.symm
     obtain rfl : fn = Tryz.f10 := (Option.some.inj (Tryz.func10.symm.trans hfn)).symm
     exact ⟨by kernel_rfl, fun j t ht => by
       rw [Tryz.params10] at ht
       have hm : t ∈ [28] := by simpa using Array.mem_of_getElem? ht
       have hall : ([28].all fun u => !Tryz.prog.wantsStandIn u) = true := by kernel_rfl
       exact (show Tryz.prog.wantsStandIn t = false by simpa using List.all_eq_true.1 hall t hm)⟩)
   (by kernel_rfl)
end Go.Proofs.YtnmohcaeepcloaaGreatDoor.deltaTurned
namespace Go.Proofs.YtnmohcaeepcloaaGreatDoor
theorem deltaTurned_holds : Rows.DeltaTurnedCardSaid := deltaTurned.tied
end Go.Proofs.YtnmohcaeepcloaaGreatDoor
namespace Go.Mir
end Go.Mir
