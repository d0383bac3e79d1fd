/- What the program's functions answer, read off their code; no conditions. -/
import Derived.Test.YtnmohcaeepcloaaGreatDoorWalk3
import Derived.Below
import Derived.Orders
import Derived.Laws.Sem
import Derived.Laws.World
import Derived.Laws.Rows
import Derived.Laws.AppendOwn
import Derived.Laws.IdiomCopy
import Derived.Laws.Entries
import Derived.Laws.Cells
import Derived.Laws.Slices
import Derived.Laws.StructEq
import Derived.Laws.Strings
import Derived.Deep.AppendSrc
import Derived.Laws.Tables
import Derived.Laws.MakeOwn
import Derived.Laws.BytesString
import Derived.Great.BuildSlice
import Derived.Lib.UnsafeStr
import Derived.Tactics
import Derived.LoopN
import Derived.SizedLaws
import Derived.ChangeSlices
import Derived.Carry
import Derived.WideShapes
import Derived.Lib.Bytealg
import Derived.Laws.Externs
import Derived.Shelf.SlSortCmp.WholeK
import Derived.Shelf.SlSortCmp.NoneTotal
import Derived.Lib.QuietBelow
import Derived.Test.YtnmohcaeepcloaaGreatDoorRows
import Derived.KernelRfl
import Derived.Ground.SlsfProg
import Derived.WalkKit
import Derived.ProofKit
import Derived.OpenShut
import Derived.ShutString
import Derived.ChangeOld
import Derived.LaidMore
import Derived.Lay
import Derived.SevenTiedAt
import Derived.Stop.Joined
import Derived.Test.YtnmohcaeepcloaaGreatDoorTie
import Derived.Test.YtnmohcaeepcloaaGreatDoorCards
set_option linter.unusedSimpArgs false
set_option linter.unusedVariables false
set_option linter.defProp false
set_option maxRecDepth 100000
set_option maxHeartbeats 4000000
open Go Go.RowKit Go.Proofs
namespace Go.Mir
theorem zJc {n : Int} : IntKind.u8.wrap n = n % 256 := by
 simp [IntKind.wrap, IntKind.signed, IntKind.bits]
end Go.Mir
namespace Go.Mir
attribute [local congr] Ev.congr EvC.congr EvW.congr Br.congr Ms.congr
def ZSm (z : Zone) : Prop := Sm z.origin ∧ LSm z.recs
def belowB (n top : List UInt8) : Bool := !(n == top) && underB n top
def hasR (l : List Rec) (n : List UInt8) (t : Int) : Bool := decide (0 < ((findR l n t).length : Int))
def zAT (z : Zone) : Int := if ((findR z.recs z.origin 6).length : Int) = 0 then 0 else ((findR z.recs z.origin 6)[0]!).dat.a
def besX (r x : Rec) : Bool := if ¬ x.name = r.name then true else if x.typ = r.typ ∧ ¬ r.typ = 46 ∧ ¬ x.ttl = r.ttl then false else
 if x.typ = r.typ ∧ single r.typ = true ∧ ¬ x = r then false else if r.typ = 5 ∧ ¬ x.typ = 5 ∧ ¬ x.typ = 46 ∧ ¬ x.typ = 47 then false else true
def besideR (l : List Rec) (r : Rec) : Bool := l.all (besX r)
def plX (o : List UInt8) (r x : Rec) : Bool := if x.typ = 39 ∧ belowB r.name x.name = true then false else
 if x.typ = 2 ∧ belowB x.name o = true ∧ belowB r.name x.name = true ∧ ¬ r.typ = 1 ∧ ¬ r.typ = 28 then false else true
def zBT (z : Zone) (r : Rec) : Bool := if (0 : Int) < (((labs r.name).getD []).length : Int) ∧ (((labs r.name).getD [])[0]! == [42]) = true ∧ (r.typ = 2 ∨ r.typ = 39) then false else
 if z.recs.all (plX z.origin r) = false then false else
 if belowB r.name z.origin = true ∧ hasR z.recs r.name 2 = true then decide (r.typ = 2 ∨ r.typ = 43 ∨ r.typ = 47 ∨ r.typ = 46 ∨ r.typ = 1 ∨ r.typ = 28) else !decide (r.typ = 43)
def chk1 (z : Zone) (x : Rec) : Bool := !decide (64 < ((findR z.recs x.name x.typ).length : Int))
def chk3 (z : Zone) (x : Rec) : Bool := if underB x.name z.origin = false then false else if x.typ = 6 ∧ ¬ x.name = z.origin then false else if besideR z.recs x = false then false else zBT z x
def chkZ (z : Zone) : Int := if vName z.origin = false then 2 else if 2048 < (z.recs.length : Int) then 9 else if z.recs.all (chk1 z) = false then 9 else if z.recs.all zBd = false then 5 else
 if eqL z.recs (zA4 z.recs) = false then 7 else if ¬ ((findR z.recs z.origin 6).length : Int) = 1 then 13 else if hasR z.recs z.origin 2 = false then 13 else if z.recs.all (chk3 z) = false then 13 else 0
def sink : Nat → List Rec → List Rec
 | 0, l => l
 | k + 1, l => if 0 < cmpR l[k]! l[k + 1]! then sink k ((l.set (k + 1) l[k]!).set k l[k + 1]!) else l
def ordR (l : List Rec) : List Rec := l.foldl (fun out x => sink out.length (out ++ [x])) []
def both (a b : List Rec) : List Rec := ordR (a ++ b)
theorem zC0 : ∀ (k : Nat) (l : List Rec), (sink k l).length = l.length
 | 0, l => rfl
 | k + 1, l => by unfold sink; split; rw [zC0 k, List.length_set, List.length_set]; rfl
theorem zCZ : ∀ (k : Nat) (l : List Rec) (y : Rec), k < l.length → y ∈ sink k l → y ∈ l
 | 0, l, y, _, h => h
 | k + 1, l, y, hk, h => by
   unfold sink at h
   split at h
   · have h := zCZ k _ y (by rw [List.length_set, List.length_set]; omega) h
     rcases List.mem_or_eq_of_mem_set h with h | h
     · rcases List.mem_or_eq_of_mem_set h with h | h
       · exact h
       · rw [h]; exact zDS (by omega)
     · rw [h]; exact zDS (by omega)
   · exact h
theorem zCn : ∀ (l out : List Rec), (l.foldl (fun out x => sink out.length (out ++ [x])) out).length = out.length + l.length
 | [], out => rfl
 | x :: r, out => by
   show (r.foldl _ (sink out.length (out ++ [x]))).length = _
   rw [zCn r, zC0]; simp only [List.length_append, List.length_cons, List.length_nil]; omega
theorem zCm : ∀ (l out : List Rec) (y : Rec), y ∈ l.foldl (fun out x => sink out.length (out ++ [x])) out → y ∈ l ∨ y ∈ out
 | [], out, y, h => .inr h
 | x :: r, out, y, h => by
   rcases zCm r _ y h with h | h
   · exact .inl (by simp [h])
   · rcases List.mem_append.1 (zCZ _ _ _ (by simp) h) with h | h
     · exact .inr h
     · exact .inl (by simp at h; simp [h])
theorem zC2 (l : List Rec) : (ordR l).length = l.length := by rw [ordR, zCn]; simp
theorem zEV {l : List Rec} {y : Rec} (h : y ∈ ordR l) : y ∈ l := by
 rcases zCm l [] y h with h | h
 · exact h
 · cases h
theorem LSm.ord {l : List Rec} (h : LSm l) : LSm (ordR l) := ⟨by rw [zC2]; exact h.1, fun r hr => h.2 r (zEV hr)⟩
def chkD (d : Delta) : Int := if vName d.origin = false then 2 else if 2048 < (d.rem.length : Int) ∨ 2048 < (d.add.length : Int) then 9 else
 if inR d.fro = false ∨ inR d.til = false ∨ zBn d.til d.fro = false then 14 else if zAV d.rem d.origin = false ∨ zAV d.add d.origin = false then 5 else
 if srt d.rem = false ∨ srt d.add = false ∨ ¬ ((zAi d.rem d.add).length : Int) = d.rem.length then 7 else if zBy d.rem d.origin d.fro = false ∨ zBy d.add d.origin d.til = false then 7 else 0
def zDr (l added : List Rec) : Bool := l.any fun x => added.any (alike x)
def repD (z : Zone) (o : List UInt8) (n : Int) (rem add : List Rec) : Zone × Int :=
 if ¬ chkZ z = 0 ∨ (z.origin == o) = false ∨ ¬ zAT z = n ∨ 0 < ((zAi rem z.recs).length : Int) then (zone0, 15) else if zDr (zAi z.recs rem) add = true then (zone0, 15) else
 if ¬ chkZ ⟨o, both (zAi z.recs rem) add⟩ = 0 then (zone0, 13) else (⟨o, both (zAi z.recs rem) add⟩, 0)
def zDV (z : Zone) (d : Delta) : Zone × Int := if ¬ chkD d = 0 then (zone0, chkD d) else repD z d.origin d.til d.add d.rem
theorem ZSm.rw {z : Zone} (h : ZSm z) : ZRw z := ⟨h.1, h.2.sm, h.2.2⟩
def zBf (a b : Zone) : Delta × Int := if ¬ chkZ a = 0 then (dlt0, 13) else if ¬ chkZ b = 0 then (dlt0, 13) else if (a.origin == b.origin) = false then (dlt0, 13) else if zBn (zAT b) (zAT a) = false then (dlt0, 14) else
 (⟨a.origin, zAT a, zAT b, zAi a.recs b.recs, zAi b.recs a.recs⟩, 0)
def appD (z : Zone) (d : Delta) : Zone × Int := if ¬ chkD d = 0 then (zone0, chkD d) else repD z d.origin d.fro d.rem d.add
def mrgD (d e : Delta) : Delta := ⟨d.origin, d.fro, e.til, both (zAi d.rem e.add) (zAi e.rem d.add), both (zAi d.add e.rem) (zAi e.add d.rem)⟩
def mergeD (d e : Delta) : Delta × Int := if ¬ chkD d = 0 then (dlt0, chkD d) else if ¬ chkD e = 0 then (dlt0, chkD e) else if (d.origin == e.origin) = false then (dlt0, 15) else if ¬ d.til = e.fro then (dlt0, 15) else
 if ¬ ((zAi d.rem e.rem).length : Int) = d.rem.length then (dlt0, 7) else if ¬ ((zAi d.add e.add).length : Int) = d.add.length then (dlt0, 7) else if ¬ chkD (mrgD d e) = 0 then (dlt0, chkD (mrgD d e)) else (mrgD d e, 0)
def zEe (a b : Delta) : Bool := if (a.origin == b.origin) = false then false else if ¬ a.fro = b.fro then false else if ¬ a.til = b.til then false else if eqL a.rem b.rem = false then false else eqL a.add b.add
noncomputable def zDT := mkF (fun s : Delta × Delta => [zAS s.1, zAS s.2]) (fun s => Sm s.1.rem ∧ Sm s.1.add) (fun s => Res.flat (.bo (zEe s.1 s.2)))
theorem zC7 {d : Delta} {e : Delta} (hp : Sm d.rem ∧ Sm d.add) : zDT [zAS d, zAS e] = some (Res.flat (.bo (zEe d e))) := zAB (s := (d, e)) (fun s s' h => by simp only [cI] at h; simp only [h]) hp
theorem zGg (cx : Cx) (hP : cx.P = Tryz.prog) (hbs : cx.bs = 0) (h30 : cx.orc 30 = some FEqw) (d e : Delta) (hl : Sm d.rem ∧ Sm d.add) : zAj cx Tryz.f15 [] false [zAS d, zAS e] = some (Res.flat (.bo (zEe d e))) := by
 have c30 := zAa h30
 have hl1 := hl.1; have hl2 := hl.2
 refine zAg (rs := [.tmp 4]) rfl hbs rfl ?_
 repeat' first
   | (refine zAR (fun h => ?_) (fun h => ?_) <;> (try simp only [cN] at h))
   | (refine zAN ?_ ?_)
   | simp only [↓cD, cU, cQ, cP, cB, zAJ, unD, zAf, zAd, idx, reduceCtorEq, ↓reduceIte, ofV, ofC, zAq, Nat.reduceEqDiff, zAG, cG, implies_true, forall_const, immL, immD, Res.flat, ren, renL, Int.reduceEq, Int.reduceLT, Int.reduceLE, Int.reduceNe, deref, ldD, zAF, zAk, zAI, zAs, cC, c30, zAo, zAp, zIW, ↓zAM, ↓zAQ, ↓zAL, ↓zAP, ↓zAK, ↓zAO, cV, cT, cF, cW, borT, borM, zAm, Res.via, zAu, zAb, refsB, Nat.reduceLT, Nat.reduceSub, Nat.reduceLeDiff, Nat.reduceMul, Nat.reduceAdd, Int.reduceToNat, appK, zAr, zAc, borL, zAl, zAn, zAE, cO, List.replicate, zAC, ofHp, ixOf, hl1, hl2, hP, *]
 all_goals first
   | rfl
   | (simp [zEe, *]; done)
theorem zDI (d : Delta) : zEe d d = true := by
 unfold zEe
 simp [zEY]
theorem zBD {k : IntKind} {v : Int} (h0 : 0 ≤ v) (hw : ∀ x : Int, 0 ≤ x → x ≤ v → k.wrap x = x) : ∀ j : Nat, divN k v j = v / 256 ^ j
 | 0 => by simp [divN]
 | j + 1 => by
   have ih := zBD h0 hw j
   have h1 : 0 ≤ v / 256 ^ j := Int.ediv_nonneg h0 (Int.pow_nonneg (by decide))
   have h2 : v / 256 ^ j / 256 = v / 256 ^ (j + 1) := by rw [Int.ediv_ediv_of_nonneg (Int.pow_nonneg (by decide)), Int.pow_succ]
   have h3 : 0 ≤ v / 256 ^ (j + 1) := Int.ediv_nonneg h0 (Int.pow_nonneg (by decide))
   have h4 : v / 256 ^ (j + 1) ≤ v := Int.ediv_le_self _ h0
   rw [divN, ih, Int.tdiv_eq_ediv_of_nonneg h1, h2, hw _ h3 h4]
theorem zCp {x y : Int} (hx : 0 ≤ x) (hx2 : x < 256) (hy : 0 ≤ y) (hy2 : y < 256) (h : zDq x = zDq y) : x = y := by
 have h2 := congrArg UInt8.toNat h
 unfold zDq at h2
 rw [UInt8.toNat_ofNat', UInt8.toNat_ofNat'] at h2
 omega
theorem zCV {x : Int} (h : 0 ≤ x) (h2 : x < 256) : IntKind.u8.wrap x = x := by
 rw [zJc]; omega
theorem zBZ {k : IntKind} {v w : Int} (hv : 0 ≤ v) (hw : 0 ≤ w) (kv : ∀ x : Int, 0 ≤ x → x ≤ v → k.wrap x = x) (kw : ∀ x : Int, 0 ≤ x → x ≤ w → k.wrap x = x) : ∀ n : Nat, numB k v n = numB k w n → v % 256 ^ n = w % 256 ^ n
 | 0, _ => by simp
 | n + 1, h => by
   unfold numB at h
   simp only [numI, List.map_cons, List.cons.injEq] at h
   have ih := zBZ hv hw kv kw n h.2
   have a1 : 0 ≤ v / 256 ^ n := Int.ediv_nonneg hv (Int.pow_nonneg (by decide))
   have a2 : 0 ≤ w / 256 ^ n := Int.ediv_nonneg hw (Int.pow_nonneg (by decide))
   have h1 := h.1
   rw [zBD hv kv, zBD hw kw, Int.tmod_eq_emod_of_nonneg a1, Int.tmod_eq_emod_of_nonneg a2] at h1
   have b1 : 0 ≤ (v / 256 ^ n) % 256 ∧ (v / 256 ^ n) % 256 < 256 := by omega
   have b2 : 0 ≤ (w / 256 ^ n) % 256 ∧ (w / 256 ^ n) % 256 < 256 := by omega
   rw [zCV b1.1 b1.2, zCV b2.1 b2.2] at h1
   have h2 := zCp b1.1 b1.2 b2.1 b2.2 h1
   have e : ∀ x : Int, x % 256 ^ (n + 1) = 256 ^ n * ((x / 256 ^ n) % 256) + x % 256 ^ n := fun x => by
     rw [Int.pow_succ, Int.emod_def x (256 ^ n * 256), ← Int.ediv_ediv_of_nonneg (Int.pow_nonneg (by decide)), Int.emod_def (x / 256 ^ n) 256, Int.emod_def x (256 ^ n), Int.mul_sub, Int.mul_assoc]; omega
   rw [e, e, h2, ih]
theorem zAz {v w : Int} {n : Nat} (hv : 0 ≤ v) (hw : 0 ≤ w) (kv : v < 256 ^ n) (kw : w < 256 ^ n) (bv : v ≤ 9223372036854775807) (bw : w ≤ 9223372036854775807) (h : numB .i64 v n = numB .i64 w n) : v = w := by
 have := zBZ hv hw (fun x h1 h2 => wrap64 (by omega) (by omega)) (fun x h1 h2 => wrap64 (by omega) (by omega)) n h
 rwa [Int.emod_eq_of_lt hv kv, Int.emod_eq_of_lt hw kw] at this
theorem zBY {v w : Int} {n : Nat} (hv : U64 v) (hw : U64 w) (kv : v < 256 ^ n) (kw : w < 256 ^ n) (h : numB .u64 v n = numB .u64 w n) : v = w := by
 unfold U64 at hv hw
 have hu : ∀ x : Int, 0 ≤ x → x ≤ 18446744073709551615 → IntKind.u64.wrap x = x := fun x h1 h2 => by rw [zCs]; omega
 have := zBZ hv.1 hw.1 (fun x h1 h2 => hu x h1 (by omega)) (fun x h1 h2 => hu x h1 (by omega)) n h
 rwa [Int.emod_eq_of_lt hv.1 kv, Int.emod_eq_of_lt hw.1 kw] at this
theorem zAA {k : IntKind} {v w : Int} {n : Nat} {X Y : List UInt8} (h : numB k v n ++ X = numB k w n ++ Y) : numB k v n = numB k w n ∧ X = Y := List.append_inj h (by rw [zBk, zBk])
theorem zA8 : ∀ (r cur : List UInt8) (b : Bool) (l : List (List UInt8)), zAZ r cur b = some l → (r = [] → cur = []) → (r ≠ [] → r.getLastD 0 = 46) → cur ++ r = l.flatMap fun x => x ++ [46]
 | [], cur, b, l, h, hc, _ => by simp only [zAZ, Option.some.injEq] at h; subst h; rw [hc rfl]; rfl
 | c :: r, cur, b, l, h, hc, hl => by
   have hlr : r ≠ [] → r.getLastD 0 = 46 := fun hr => by
     have := hl (by simp)
     rw [List.getLastD_cons] at this
     rw [List.getLastD_eq_getLast?] at this ⊢
     cases hg : r.getLast? with
     | none => exact absurd (List.getLast?_eq_none_iff.1 hg) hr
     | some z => rw [hg] at this; simpa using this
   simp only [zAZ] at h
   split at h
   · rename_i h46
     subst h46
     split at h
     · rw [Option.map_eq_some_iff] at h
       obtain ⟨m, hm, rfl⟩ := h
       have ih := zA8 r [] false m hm (fun _ => rfl) hlr
       rw [List.flatMap_cons, ← ih]; simp
     · cases h
   · rename_i h46
     have hr : r ≠ [] := fun e => by
       subst e
       have := hl (by simp)
       simp at this; exact h46 this
     have ih := zA8 r (cur ++ [c]) b l h (fun e => absurd e hr) hlr
     rw [← ih]; simp
theorem zCA {n m : List UInt8} {l : List (List UInt8)} (hn : labs n = some l) (hm : labs m = some l) : n = m := by
 have key : ∀ n : List UInt8, labs n = some l → n = if l = [] then [46] else l.flatMap fun x => x ++ [46] := fun n h => by
   unfold labs at h
   split at h
   · simp only [Option.some.injEq] at h; subst h; rename_i e; simpa using e
   · split at h
     · cases h
     · rename_i h2
       have h3 := zA8 n [] true l h (fun _ => rfl) (fun _ => Classical.byContradiction fun e => h2 (.inr (.inr e)))
       rw [List.nil_append] at h3
       by_cases hl : l = []
       · subst hl; subst h3; exact absurd (.inl (by simp)) h2
       · rw [if_neg hl]; exact h3
 rw [key n hn, key m hm]
theorem zBo : ∀ (r cur : List UInt8) (b : Bool) (l : List (List UInt8)), zAZ r cur b = some l → ∀ x ∈ l, 1 ≤ x.length
 | [], _, _, l, h => by simp [zAZ] at h; subst h; simp
 | c :: r, cur, b, l, h => by
   simp only [zAZ] at h
   split at h
   · split at h
     · rename_i hl
       rw [Option.map_eq_some_iff] at h
       obtain ⟨m, hm, rfl⟩ := h
       intro x hx
       rcases List.mem_cons.1 hx with rfl | hx
       · rw [Bool.and_eq_true] at hl
         have h1 := hl.1
         unfold zBQ at h1
         rw [Bool.or_eq_true] at h1
         rcases h1 with h1 | h1
         · rw [eq_of_beq h1]; simp
         · simp only [Bool.and_eq_true, decide_eq_true_eq] at h1; exact h1.1.1
       · exact zBo r [] false m hm x hx
     · cases h
   · exact zBo r _ b l h
theorem zB1 {n : List UInt8} {l : List (List UInt8)} (h : labs n = some l) : ∀ x ∈ l, 1 ≤ x.length ∧ x.length ≤ 254 := fun x hx => by
 have h2 := zEq n x (by rw [h]; exact hx)
 refine ⟨?_, h2⟩
 unfold labs at h
 split at h
 · simp only [Option.some.injEq] at h; subst h; cases hx
 · split at h
   · cases h
   · exact zBo n [] true l h x hx
theorem zDZ : ∀ (l m : List (List UInt8)) (X Y : List UInt8), (∀ x ∈ l, 1 ≤ x.length ∧ x.length ≤ 254) → (∀ x ∈ m, 1 ≤ x.length ∧ x.length ≤ 254) → wnL l ++ (numB .i64 0 1 ++ X) = wnL m ++ (numB .i64 0 1 ++ Y) → l = m ∧ X = Y
 | [], [], X, Y, _, _, h => by simp only [wnL, List.nil_append] at h; exact ⟨rfl, (zAA h).2⟩
 | [], y :: s, X, Y, _, hm, h => by
   have hy := hm y (by simp)
   simp only [wnL, List.nil_append, List.append_assoc] at h
   have := zAz (by omega) (by omega) (by omega) (by omega) (by omega) (by omega) (zAA h).1
   omega
 | x :: r, [], X, Y, hl, _, h => by
   have hx := hl x (by simp)
   simp only [wnL, List.nil_append, List.append_assoc] at h
   have := zAz (by omega) (by omega) (by omega) (by omega) (by omega) (by omega) (zAA h).1
   omega
 | x :: r, y :: s, X, Y, hl, hm, h => by
   have hx := hl x (by simp); have hy := hm y (by simp)
   simp only [wnL, List.append_assoc] at h
   obtain ⟨h1, h2⟩ := zAA h
   have h3 := zAz (by omega) (by omega) (by omega) (by omega) (by omega) (by omega) h1
   obtain ⟨h4, h5⟩ := List.append_inj h2 (by omega)
   obtain ⟨h6, h7⟩ := zDZ r s X Y (fun z hz => hl z (by simp [hz])) (fun z hz => hm z (by simp [hz])) h5
   exact ⟨by rw [h4, h6], h7⟩
theorem zBh {n m : List UInt8} {X Y : List UInt8} (hn : vName n = true) (hm : vName m = true) (h : zBH n ++ X = zBH m ++ Y) : n = m ∧ X = Y := by
 obtain ⟨l, el⟩ := Option.isSome_iff_exists.1 hn
 obtain ⟨k, ek⟩ := Option.isSome_iff_exists.1 hm
 unfold zBH at h
 rw [el, ek] at h
 simp only [Option.getD_some, List.append_assoc] at h
 obtain ⟨h1, h2⟩ := zDZ l k X Y (zB1 el) (zB1 ek) h
 subst h1
 exact ⟨zCA el ek, h2⟩
theorem zBa {n m : List UInt8} (hn : vName n = true) (hm : vName m = true) (h : zBH n = zBH m) : n = m := (zBh (X := []) (Y := []) hn hm (by rw [List.append_nil, List.append_nil]; exact h)).1
theorem zCL {n : Int} (h : U64 n) {t : Nat} (ht : t < 64) : bitS n t = ((n.toNat.testBit t).toNat : Int) := by
 unfold bitS
 have hb : IntKind.u64.bits = 64 := rfl
 rw [hb, Nat.min_eq_left (by omega)]
 have h1 : n.fdiv (2 ^ t) = ((n.toNat / 2 ^ t : Nat) : Int) := by
   obtain ⟨m, rfl⟩ := Int.eq_ofNat_of_zero_le h.1
   rw [Int.fdiv_eq_ediv_of_nonneg _ (Int.pow_nonneg (by decide)), Int.toNat_natCast]
   push_cast; rfl
 rw [h1]
 have h2 : (BitVec.ofInt 64 ((n.toNat / 2 ^ t : Nat) : Int) &&& BitVec.ofInt 64 1).toNat = (n.toNat.testBit t).toNat := by
   rw [BitVec.toNat_and, BitVec.ofInt_natCast, BitVec.toNat_ofNat]
   have e1 : (BitVec.ofInt 64 1).toNat = 1 := by decide
   rw [e1, Nat.and_one_is_mod, Nat.testBit_eq_decide_div_mod_eq]
   have hlt : n.toNat / 2 ^ t < 2 ^ 64 := Nat.lt_of_le_of_lt (Nat.div_le_self _ _) (by have := h.2; have := h.1; omega)
   rw [Nat.mod_eq_of_lt hlt]
   by_cases hm : n.toNat / 2 ^ t % 2 = 1
   · rw [hm]; rfl
   · have : n.toNat / 2 ^ t % 2 = 0 := by omega
     rw [this]; rfl
 rw [h2, zCs]
 cases n.toNat.testBit t <;> rfl
theorem zCK {n : Int} (h : U64 n) {t : Nat} (ht : t < 64) : 0 ≤ bitS n t ∧ bitS n t ≤ 1 := by
 rw [zCL h ht]; cases n.toNat.testBit t <;> decide
theorem zBq {n : Int} (h : U64 n) {i : Nat} (hi : i < 8) : ∀ j : Nat, j ≤ 8 → 0 ≤ bitV n i j ∧ bitV n i j < 2 ^ j ∧ (∀ m : Nat, j = m + 1 → bitV n i j = bitV n i m * 2 + bitS n (i * 8 + m))
 | 0, _ => ⟨Int.le_refl _, by simp [bitV], fun m h => by omega⟩
 | j + 1, hj => by
   obtain ⟨a, b, _⟩ := zBq h hi j (by omega)
   have hp : (2 : Int) ^ j ≤ 128 := by
     rcases (by omega : j = 0 ∨ j = 1 ∨ j = 2 ∨ j = 3 ∨ j = 4 ∨ j = 5 ∨ j = 6 ∨ j = 7) with rfl | rfl | rfl | rfl | rfl | rfl | rfl | rfl <;> decide
   obtain ⟨c, d⟩ := zCK h (t := i * 8 + j) (by omega)
   have e : bitV n i (j + 1) = bitV n i j * 2 + bitS n (i * 8 + j) := by
     rw [bitV, wrap64 (n := bitV n i j * 2) (by omega) (by omega), wrap64 (n := bitS n (i * 8 + j)) (by omega) (by omega), wrap64 (by omega) (by omega)]
   have hs : (2 : Int) ^ (j + 1) = 2 ^ j * 2 := Int.pow_succ _ _
   refine ⟨by omega, by omega, fun m hm => ?_⟩
   obtain rfl : m = j := by omega
   exact e
theorem zCq {n m : Int} (hn : U64 n) (hm : U64 m) {i : Nat} (hi : i < 8) : ∀ j : Nat, j ≤ 8 → bitV n i j = bitV m i j → ∀ k, k < j → bitS n (i * 8 + k) = bitS m (i * 8 + k)
 | 0, _, _, k, hk => by omega
 | j + 1, hj, h, k, hk => by
   have e1 := (zBq hn hi (j + 1) hj).2.2 j rfl
   have e2 := (zBq hm hi (j + 1) hj).2.2 j rfl
   have b1 := zCK hn (t := i * 8 + j) (by omega)
   have b2 := zCK hm (t := i * 8 + j) (by omega)
   have h1 : bitV n i j = bitV m i j := by omega
   have h2 : bitS n (i * 8 + j) = bitS m (i * 8 + j) := by omega
   by_cases e : k = j
   · subst e; exact h2
   · exact zCq hn hm hi j (by omega) h1 k (by omega)
theorem zE2 {n m : Int} (hn : U64 n) (hm : U64 m) (h : ∀ t, t < 64 → bitS n t = bitS m t) : n = m := by
 have : n.toNat = m.toNat := by
   apply Nat.eq_of_testBit_eq
   intro t
   by_cases ht : t < 64
   · have := h t ht
     rw [zCL hn ht, zCL hm ht] at this
     cases h1 : n.toNat.testBit t <;> cases h2 : m.toNat.testBit t <;> simp_all
   · have hp : 2 ^ 64 ≤ 2 ^ t := Nat.pow_le_pow_right (by decide) (by omega)
     rw [Nat.testBit_lt_two_pow (by have := hn.2; have := hn.1; omega), Nat.testBit_lt_two_pow (by have := hm.2; have := hm.1; omega)]
 have := hn.1; have := hm.1; omega
theorem zCI {n : Int} : ∀ i k, zBg n i ≤ k → k < i → bitV n k 8 = 0
 | 0, k, _, h => by omega
 | i + 1, k, h1, h2 => by
   rw [zBg] at h1
   split at h1
   · rename_i hz
     by_cases e : k = i
     · rw [e]; exact hz
     · exact zCI i k h1 (by omega)
   · omega
theorem zCJ {n : Int} : ∀ i k, k < i → (bmI n i)[k]? = some (IntKind.u8.wrap (bitV n k 8))
 | 0, k, h => by omega
 | i + 1, k, h => by
   rw [bmI]
   by_cases e : k = i
   · subst e; rw [List.getElem?_append_right (by rw [zBU]; omega), zBU]; simp
   · rw [List.getElem?_append_left (by rw [zBU]; omega)]; exact zCJ i k (by omega)
theorem zGY {n m : Int} (hn : U64 n) (hm : U64 m) (h : bmB n = bmB m) : n = m := by
 have l1 := zB5 n 8; have l2 := zB5 m 8
 have hl : zBg n 8 = zBg m 8 := by
   have := congrArg List.length h
   simp only [bmB, List.length_map, List.length_take, zBU] at this
   omega
 have hV : ∀ i, i < 8 → bitV n i 8 = bitV m i 8 := fun i hi => by
   by_cases hlt : i < zBg n 8
   · have h2 := congrArg (fun l => l[i]?) h
     simp only [bmB, List.getElem?_map, List.getElem?_take] at h2
     rw [if_pos hlt, if_pos (by omega), zCJ 8 i hi, zCJ 8 i hi] at h2
     simp only [Option.map_some, Option.some.injEq] at h2
     have r1 := zBq hn hi 8 (by omega); have r2 := zBq hm hi 8 (by omega)
     have p8 : (2 : Int) ^ 8 = 256 := by decide
     rw [zCV r1.1 (by omega), zCV r2.1 (by omega)] at h2
     exact zCp r1.1 (by omega) r2.1 (by omega) h2
   · rw [zCI 8 i (by omega) hi, zCI 8 i (by omega) hi]
 refine zE2 hn hm fun t ht => ?_
 have h3 := zCq hn hm (i := t / 8) (by omega) 8 (by omega) (hV (t / 8) (by omega)) (t % 8) (by omega)
 rwa [show t / 8 * 8 + t % 8 = t by omega] at h3
theorem zAe {t : Int} {d : Dat} (h : validD t d = true) : known t = true ∧ zA1 t d = d := by
 unfold validD at h
 by_cases h1 : known t = false
 · rw [if_pos h1] at h; cases h
 · rw [if_neg h1] at h
   by_cases h2 : zA1 t d = d
   · exact ⟨by simpa using h1, h2⟩
   · rw [if_pos h2] at h; cases h
theorem zA0 {n : List UInt8} (h : zBX n = true) : vName n = true := by unfold zBX at h; rw [Bool.and_eq_true] at h; exact h.1
theorem zAH {n m : Int} (h : inB n m = true) : 0 ≤ n ∧ n ≤ m := by unfold inB at h; simpa using h
theorem zD5 {n : Int} (h : inR n = true) : 0 ≤ n ∧ n < 4294967296 := by unfold inR at h; simpa using h
theorem zJg {d e : Dat} (hd : validD 1 d = true) (he : validD 1 e = true) (bd : BSm d) (be : BSm e) (h : (zAx 1 d).1 = (zAx 1 e).1) : d = e := by
 obtain ⟨kd, ud⟩ := zAe hd
 obtain ⟨_, ue⟩ := zAe he
 have wd : ∀ x, validD 1 x = true → (zAx 1 x).1 = _ := fun x hx => by simp only [zAx, kd, hx, if_true, Int.reduceEq, if_false, or_false, false_or, or_self, or_true, true_or]; rfl
 rw [wd d hd, wd e he] at h
 unfold validD at hd he
 rw [if_neg (by rw [kd]; decide), if_neg (fun q => q ud)] at hd
 rw [if_neg (by rw [kd]; decide), if_neg (fun q => q ue)] at he
 simp only [if_true, Int.reduceEq, if_false, Bool.and_eq_true, decide_eq_true_eq, Bool.not_eq_true', decide_eq_false_iff_not, Bool.or_eq_true] at hd he
 rw [← ud, ← ue]
 simp only [zA1, if_true, Int.reduceEq, if_false, or_false, false_or, or_self, or_true, true_or]
 have v1 : d.adr.v6 = false := hd.2
 have v2 : e.adr.v6 = false := he.2
 have a1 := hd.1; have a2 := he.1
 unfold zBx at h
 rw [a1, a2, v1, v2] at h
 unfold vAdr at a1 a2
 rw [v1] at a1; rw [v2] at a2
 simp only [if_true, Bool.false_eq_true, if_false, Bool.false_or, Bool.and_eq_true, decide_eq_true_eq] at h a1 a2
 have q := zBY bd.2.2 be.2.2 (by omega) (by omega) h
 have e1 : d.adr = e.adr := by
   obtain ⟨x1, x2, x3⟩ : d.adr.v6 = e.adr.v6 ∧ d.adr.hi = e.adr.hi ∧ d.adr.lo = e.adr.lo := ⟨by rw [v1, v2], by rw [a1.1, a2.1], q⟩
   cases hx : d.adr; cases hy : e.adr; simp_all
 rw [e1]
theorem zGB {d e : Dat} (hd : validD 28 d = true) (he : validD 28 e = true) (bd : BSm d) (be : BSm e) (h : (zAx 28 d).1 = (zAx 28 e).1) : d = e := by
 obtain ⟨kd, ud⟩ := zAe hd
 obtain ⟨_, ue⟩ := zAe he
 have wd : ∀ x, validD 28 x = true → (zAx 28 x).1 = _ := fun x hx => by simp only [zAx, kd, hx, if_true, Int.reduceEq, if_false, or_false, false_or, or_self, or_true, true_or]; rfl
 rw [wd d hd, wd e he] at h
 unfold validD at hd he
 rw [if_neg (by rw [kd]; decide), if_neg (fun q => q ud)] at hd
 rw [if_neg (by rw [kd]; decide), if_neg (fun q => q ue)] at he
 simp only [if_true, Int.reduceEq, if_false, Bool.and_eq_true, decide_eq_true_eq, Bool.not_eq_true', decide_eq_false_iff_not, Bool.or_eq_true] at hd he
 rw [← ud, ← ue]
 simp only [zA1, if_true, Int.reduceEq, if_false, or_false, false_or, or_self, or_true, true_or]
 unfold zBx vAdr at h
 rw [hd, he] at h
 simp only [if_true, Bool.true_or] at h
 obtain ⟨h1, h2⟩ := zAA h
 have q1 := zBY bd.2.1 be.2.1 (by have := bd.2.1.2; omega) (by have := be.2.1.2; omega) h1
 have q2 := zBY bd.2.2 be.2.2 (by have := bd.2.2.2; omega) (by have := be.2.2.2; omega) h2
 have e1 : d.adr = e.adr := by
   obtain ⟨x1, x2, x3⟩ : d.adr.v6 = e.adr.v6 ∧ d.adr.hi = e.adr.hi ∧ d.adr.lo = e.adr.lo := ⟨by rw [hd, he], q1, q2⟩
   cases hx : d.adr; cases hy : e.adr; simp_all
 rw [e1]
theorem zJf {d e : Dat} (hd : validD 2 d = true) (he : validD 2 e = true) (bd : BSm d) (be : BSm e) (h : (zAx 2 d).1 = (zAx 2 e).1) : d = e := by
 obtain ⟨kd, ud⟩ := zAe hd
 obtain ⟨_, ue⟩ := zAe he
 have wd : ∀ x, validD 2 x = true → (zAx 2 x).1 = _ := fun x hx => by simp only [zAx, kd, hx, if_true, Int.reduceEq, if_false, or_false, false_or, or_self, or_true, true_or]; rfl
 rw [wd d hd, wd e he] at h
 unfold validD at hd he
 rw [if_neg (by rw [kd]; decide), if_neg (fun q => q ud)] at hd
 rw [if_neg (by rw [kd]; decide), if_neg (fun q => q ue)] at he
 simp only [if_true, Int.reduceEq, if_false, Bool.and_eq_true, decide_eq_true_eq, Bool.not_eq_true', decide_eq_false_iff_not, Bool.or_eq_true] at hd he
 rw [← ud, ← ue]
 simp only [zA1, if_true, Int.reduceEq, if_false, or_false, false_or, or_self, or_true, true_or]
 have q := zBa (zA0 hd) (zA0 he) h
 rw [q]
theorem zJe {d e : Dat} (hd : validD 5 d = true) (he : validD 5 e = true) (bd : BSm d) (be : BSm e) (h : (zAx 5 d).1 = (zAx 5 e).1) : d = e := by
 obtain ⟨kd, ud⟩ := zAe hd
 obtain ⟨_, ue⟩ := zAe he
 have wd : ∀ x, validD 5 x = true → (zAx 5 x).1 = _ := fun x hx => by simp only [zAx, kd, hx, if_true, Int.reduceEq, if_false, or_false, false_or, or_self, or_true, true_or]; rfl
 rw [wd d hd, wd e he] at h
 unfold validD at hd he
 rw [if_neg (by rw [kd]; decide), if_neg (fun q => q ud)] at hd
 rw [if_neg (by rw [kd]; decide), if_neg (fun q => q ue)] at he
 simp only [if_true, Int.reduceEq, if_false, Bool.and_eq_true, decide_eq_true_eq, Bool.not_eq_true', decide_eq_false_iff_not, Bool.or_eq_true] at hd he
 rw [← ud, ← ue]
 simp only [zA1, if_true, Int.reduceEq, if_false, or_false, false_or, or_self, or_true, true_or]
 have q := zBa (zA0 hd) (zA0 he) h
 rw [q]
theorem zGE {d e : Dat} (hd : validD 12 d = true) (he : validD 12 e = true) (bd : BSm d) (be : BSm e) (h : (zAx 12 d).1 = (zAx 12 e).1) : d = e := by
 obtain ⟨kd, ud⟩ := zAe hd
 obtain ⟨_, ue⟩ := zAe he
 have wd : ∀ x, validD 12 x = true → (zAx 12 x).1 = _ := fun x hx => by simp only [zAx, kd, hx, if_true, Int.reduceEq, if_false, or_false, false_or, or_self, or_true, true_or]; rfl
 rw [wd d hd, wd e he] at h
 unfold validD at hd he
 rw [if_neg (by rw [kd]; decide), if_neg (fun q => q ud)] at hd
 rw [if_neg (by rw [kd]; decide), if_neg (fun q => q ue)] at he
 simp only [if_true, Int.reduceEq, if_false, Bool.and_eq_true, decide_eq_true_eq, Bool.not_eq_true', decide_eq_false_iff_not, Bool.or_eq_true] at hd he
 rw [← ud, ← ue]
 simp only [zA1, if_true, Int.reduceEq, if_false, or_false, false_or, or_self, or_true, true_or]
 have q := zBa (zA0 hd) (zA0 he) h
 rw [q]
theorem zGz {d e : Dat} (hd : validD 39 d = true) (he : validD 39 e = true) (bd : BSm d) (be : BSm e) (h : (zAx 39 d).1 = (zAx 39 e).1) : d = e := by
 obtain ⟨kd, ud⟩ := zAe hd
 obtain ⟨_, ue⟩ := zAe he
 have wd : ∀ x, validD 39 x = true → (zAx 39 x).1 = _ := fun x hx => by simp only [zAx, kd, hx, if_true, Int.reduceEq, if_false, or_false, false_or, or_self, or_true, true_or]; rfl
 rw [wd d hd, wd e he] at h
 unfold validD at hd he
 rw [if_neg (by rw [kd]; decide), if_neg (fun q => q ud)] at hd
 rw [if_neg (by rw [kd]; decide), if_neg (fun q => q ue)] at he
 simp only [if_true, Int.reduceEq, if_false, Bool.and_eq_true, decide_eq_true_eq, Bool.not_eq_true', decide_eq_false_iff_not, Bool.or_eq_true] at hd he
 rw [← ud, ← ue]
 simp only [zA1, if_true, Int.reduceEq, if_false, or_false, false_or, or_self, or_true, true_or]
 have q := zBa (zA0 hd) (zA0 he) h
 rw [q]
theorem zJd {d e : Dat} (hd : validD 6 d = true) (he : validD 6 e = true) (bd : BSm d) (be : BSm e) (h : (zAx 6 d).1 = (zAx 6 e).1) : d = e := by
 obtain ⟨kd, ud⟩ := zAe hd
 obtain ⟨_, ue⟩ := zAe he
 have wd : ∀ x, validD 6 x = true → (zAx 6 x).1 = _ := fun x hx => by simp only [zAx, kd, hx, if_true, Int.reduceEq, if_false, or_false, false_or, or_self, or_true, true_or]; rfl
 rw [wd d hd, wd e he] at h
 unfold validD at hd he
 rw [if_neg (by rw [kd]; decide), if_neg (fun q => q ud)] at hd
 rw [if_neg (by rw [kd]; decide), if_neg (fun q => q ue)] at he
 simp only [if_true, Int.reduceEq, if_false, Bool.and_eq_true, decide_eq_true_eq, Bool.not_eq_true', decide_eq_false_iff_not, Bool.or_eq_true] at hd he
 rw [← ud, ← ue]
 simp only [zA1, if_true, Int.reduceEq, if_false, or_false, false_or, or_self, or_true, true_or]
 simp only [List.append_assoc] at h
 obtain ⟨q1, h⟩ := zBh (zA0 hd.1) (zA0 he.1) h
 obtain ⟨q2, h⟩ := zBh (zA0 hd.2.1) (zA0 he.2.1) h
 obtain ⟨h1, h⟩ := zAA h
 obtain ⟨h2, h⟩ := zAA h
 obtain ⟨h3, h⟩ := zAA h
 obtain ⟨h4, h5⟩ := zAA h
 have ra := zD5 hd.2.2.1; have rb := zAH hd.2.2.2.1; have rc := zAH hd.2.2.2.2.1; have rd := zAH hd.2.2.2.2.2.1; have re := zAH hd.2.2.2.2.2.2
 have sa := zD5 he.2.2.1; have sb := zAH he.2.2.2.1; have sc := zAH he.2.2.2.2.1; have sd := zAH he.2.2.2.2.2.1; have se := zAH he.2.2.2.2.2.2
 have qa := zAz ra.1 sa.1 (by omega) (by omega) (by omega) (by omega) h1
 have qb := zAz rb.1 sb.1 (by omega) (by omega) (by omega) (by omega) h2
 have qc := zAz rc.1 sc.1 (by omega) (by omega) (by omega) (by omega) h3
 have qd := zAz rd.1 sd.1 (by omega) (by omega) (by omega) (by omega) h4
 have qe := zAz re.1 se.1 (by omega) (by omega) (by omega) (by omega) h5
 rw [q1, q2, qa, qb, qc, qd, qe]
theorem zGD {d e : Dat} (hd : validD 15 d = true) (he : validD 15 e = true) (bd : BSm d) (be : BSm e) (h : (zAx 15 d).1 = (zAx 15 e).1) : d = e := by
 obtain ⟨kd, ud⟩ := zAe hd
 obtain ⟨_, ue⟩ := zAe he
 have wd : ∀ x, validD 15 x = true → (zAx 15 x).1 = _ := fun x hx => by simp only [zAx, kd, hx, if_true, Int.reduceEq, if_false, or_false, false_or, or_self, or_true, true_or]; rfl
 rw [wd d hd, wd e he] at h
 unfold validD at hd he
 rw [if_neg (by rw [kd]; decide), if_neg (fun q => q ud)] at hd
 rw [if_neg (by rw [kd]; decide), if_neg (fun q => q ue)] at he
 simp only [if_true, Int.reduceEq, if_false, Bool.and_eq_true, decide_eq_true_eq, Bool.not_eq_true', decide_eq_false_iff_not, Bool.or_eq_true] at hd he
 rw [← ud, ← ue]
 simp only [zA1, if_true, Int.reduceEq, if_false, or_false, false_or, or_self, or_true, true_or]
 obtain ⟨h1, h⟩ := zAA h
 have ra := zAH hd.2; have sa := zAH he.2
 have qa := zAz ra.1 sa.1 (by omega) (by omega) (by omega) (by omega) h1
 have q1 := zBa (zA0 hd.1) (zA0 he.1) h
 rw [q1, qa]
theorem zGC {d e : Dat} (hd : validD 16 d = true) (he : validD 16 e = true) (bd : BSm d) (be : BSm e) (h : (zAx 16 d).1 = (zAx 16 e).1) : d = e := by
 obtain ⟨kd, ud⟩ := zAe hd
 obtain ⟨_, ue⟩ := zAe he
 have wd : ∀ x, validD 16 x = true → (zAx 16 x).1 = _ := fun x hx => by simp only [zAx, kd, hx, if_true, Int.reduceEq, if_false, or_false, false_or, or_self, or_true, true_or]; rfl
 rw [wd d hd, wd e he] at h
 unfold validD at hd he
 rw [if_neg (by rw [kd]; decide), if_neg (fun q => q ud)] at hd
 rw [if_neg (by rw [kd]; decide), if_neg (fun q => q ue)] at he
 simp only [if_true, Int.reduceEq, if_false, Bool.and_eq_true, decide_eq_true_eq, Bool.not_eq_true', decide_eq_false_iff_not, Bool.or_eq_true] at hd he
 rw [← ud, ← ue]
 simp only [zA1, if_true, Int.reduceEq, if_false, or_false, false_or, or_self, or_true, true_or]
 obtain ⟨h1, h⟩ := zAA h
 rw [h]
theorem zGA {d e : Dat} (hd : validD 33 d = true) (he : validD 33 e = true) (bd : BSm d) (be : BSm e) (h : (zAx 33 d).1 = (zAx 33 e).1) : d = e := by
 obtain ⟨kd, ud⟩ := zAe hd
 obtain ⟨_, ue⟩ := zAe he
 have wd : ∀ x, validD 33 x = true → (zAx 33 x).1 = _ := fun x hx => by simp only [zAx, kd, hx, if_true, Int.reduceEq, if_false, or_false, false_or, or_self, or_true, true_or]; rfl
 rw [wd d hd, wd e he] at h
 unfold validD at hd he
 rw [if_neg (by rw [kd]; decide), if_neg (fun q => q ud)] at hd
 rw [if_neg (by rw [kd]; decide), if_neg (fun q => q ue)] at he
 simp only [if_true, Int.reduceEq, if_false, Bool.and_eq_true, decide_eq_true_eq, Bool.not_eq_true', decide_eq_false_iff_not, Bool.or_eq_true] at hd he
 rw [← ud, ← ue]
 simp only [zA1, if_true, Int.reduceEq, if_false, or_false, false_or, or_self, or_true, true_or]
 simp only [List.append_assoc] at h
 obtain ⟨h1, h⟩ := zAA h
 obtain ⟨h2, h⟩ := zAA h
 obtain ⟨h3, h⟩ := zAA h
 have ra := zAH hd.2.1; have sa := zAH he.2.1; have rb := zAH hd.2.2.1; have sb := zAH he.2.2.1; have rc := zAH hd.2.2.2; have sc := zAH he.2.2.2
 have qa := zAz ra.1 sa.1 (by omega) (by omega) (by omega) (by omega) h1
 have qb := zAz rb.1 sb.1 (by omega) (by omega) (by omega) (by omega) h2
 have qc := zAz rc.1 sc.1 (by omega) (by omega) (by omega) (by omega) h3
 have q1 := zBa (zA0 hd.1) (zA0 he.1) h
 rw [q1, qa, qb, qc]
theorem zGy {d e : Dat} (hd : validD 43 d = true) (he : validD 43 e = true) (bd : BSm d) (be : BSm e) (h : (zAx 43 d).1 = (zAx 43 e).1) : d = e := by
 obtain ⟨kd, ud⟩ := zAe hd
 obtain ⟨_, ue⟩ := zAe he
 have wd : ∀ x, validD 43 x = true → (zAx 43 x).1 = _ := fun x hx => by simp only [zAx, kd, hx, if_true, Int.reduceEq, if_false, or_false, false_or, or_self, or_true, true_or]; rfl
 rw [wd d hd, wd e he] at h
 unfold validD at hd he
 rw [if_neg (by rw [kd]; decide), if_neg (fun q => q ud)] at hd
 rw [if_neg (by rw [kd]; decide), if_neg (fun q => q ue)] at he
 simp only [if_true, Int.reduceEq, if_false, Bool.and_eq_true, decide_eq_true_eq, Bool.not_eq_true', decide_eq_false_iff_not, Bool.or_eq_true] at hd he
 rw [← ud, ← ue]
 simp only [zA1, if_true, Int.reduceEq, if_false, or_false, false_or, or_self, or_true, true_or]
 simp only [List.append_assoc] at h
 obtain ⟨h1, h⟩ := zAA h
 obtain ⟨h2, h⟩ := zAA h
 obtain ⟨h3, h⟩ := zAA h
 have ra := zAH hd.1; have sa := zAH he.1; have rb := zAH hd.2.1; have sb := zAH he.2.1; have rc := zAH hd.2.2.1; have sc := zAH he.2.2.1
 have qa := zAz ra.1 sa.1 (by omega) (by omega) (by omega) (by omega) h1
 have qb := zAz rb.1 sb.1 (by omega) (by omega) (by omega) (by omega) h2
 have qc := zAz rc.1 sc.1 (by omega) (by omega) (by omega) (by omega) h3
 rw [h, qa, qb, qc]
theorem zGv {d e : Dat} (hd : validD 48 d = true) (he : validD 48 e = true) (bd : BSm d) (be : BSm e) (h : (zAx 48 d).1 = (zAx 48 e).1) : d = e := by
 obtain ⟨kd, ud⟩ := zAe hd
 obtain ⟨_, ue⟩ := zAe he
 have wd : ∀ x, validD 48 x = true → (zAx 48 x).1 = _ := fun x hx => by simp only [zAx, kd, hx, if_true, Int.reduceEq, if_false, or_false, false_or, or_self, or_true, true_or]; rfl
 rw [wd d hd, wd e he] at h
 unfold validD at hd he
 rw [if_neg (by rw [kd]; decide), if_neg (fun q => q ud)] at hd
 rw [if_neg (by rw [kd]; decide), if_neg (fun q => q ue)] at he
 simp only [if_true, Int.reduceEq, if_false, Bool.and_eq_true, decide_eq_true_eq, Bool.not_eq_true', decide_eq_false_iff_not, Bool.or_eq_true] at hd he
 rw [← ud, ← ue]
 simp only [zA1, if_true, Int.reduceEq, if_false, or_false, false_or, or_self, or_true, true_or]
 simp only [List.append_assoc] at h
 obtain ⟨h1, h⟩ := zAA h
 obtain ⟨h2, h⟩ := zAA h
 obtain ⟨h3, h⟩ := zAA h
 have ra : 0 ≤ d.a ∧ d.a ≤ 257 := by rcases hd.1 with q | q <;> omega
 have sa : 0 ≤ e.a ∧ e.a ≤ 257 := by rcases he.1 with q | q <;> omega
 have rb : 0 ≤ d.b ∧ d.b ≤ 3 := by have := hd.2.1; omega
 have sb : 0 ≤ e.b ∧ e.b ≤ 3 := by have := he.2.1; omega
 have rc := zAH hd.2.2.1; have sc := zAH he.2.2.1
 have qa := zAz ra.1 sa.1 (by omega) (by omega) (by omega) (by omega) h1
 have qb := zAz rb.1 sb.1 (by omega) (by omega) (by omega) (by omega) h2
 have qc := zAz rc.1 sc.1 (by omega) (by omega) (by omega) (by omega) h3
 rw [h, qa, qb, qc]
theorem zGx {d e : Dat} (hd : validD 46 d = true) (he : validD 46 e = true) (bd : BSm d) (be : BSm e) (h : (zAx 46 d).1 = (zAx 46 e).1) : d = e := by
 obtain ⟨kd, ud⟩ := zAe hd
 obtain ⟨_, ue⟩ := zAe he
 have wd : ∀ x, validD 46 x = true → (zAx 46 x).1 = _ := fun x hx => by simp only [zAx, kd, hx, if_true, Int.reduceEq, if_false, or_false, false_or, or_self, or_true, true_or]; rfl
 rw [wd d hd, wd e he] at h
 unfold validD at hd he
 rw [if_neg (by rw [kd]; decide), if_neg (fun q => q ud)] at hd
 rw [if_neg (by rw [kd]; decide), if_neg (fun q => q ue)] at he
 simp only [if_true, Int.reduceEq, if_false, Bool.and_eq_true, decide_eq_true_eq, Bool.not_eq_true', decide_eq_false_iff_not, Bool.or_eq_true] at hd he
 rw [← ud, ← ue]
 simp only [zA1, if_true, Int.reduceEq, if_false, or_false, false_or, or_self, or_true, true_or]
 simp only [List.append_assoc] at h
 obtain ⟨h1, h⟩ := zAA h
 obtain ⟨_, h⟩ := zAA h
 obtain ⟨h2, h⟩ := zAA h
 obtain ⟨h3, h⟩ := zAA h
 obtain ⟨h4, h⟩ := zAA h
 obtain ⟨h5, h⟩ := zAA h
 obtain ⟨h6, h⟩ := zAA h
 obtain ⟨v1, _, vb, vc, vd, ve, vf, vh, _⟩ := hd
 obtain ⟨w1, _, wb, wc, wd, we, wf, wh, _⟩ := he
 have kr : ∀ x : Int, known x = true → 0 ≤ x ∧ x ≤ 255 := fun x hx => by
   rcases zDJ x with rfl | rfl | rfl | rfl | rfl | rfl | rfl | rfl | rfl | rfl | rfl | rfl | rfl | rfl | ⟨a1, a2, a3, a4, a5, a6, a7, a8, a9, a10, a11, a12, a13, a14⟩ <;> first | (constructor <;> omega) | skip
   exfalso
   unfold known mnem at hx
   rw [if_neg (fun e => a1 e.symm), if_neg (fun e => a2 e.symm), if_neg (fun e => a3 e.symm), if_neg (fun e => a4 e.symm), if_neg (fun e => a5 e.symm), if_neg (fun e => a6 e.symm), if_neg (fun e => a7 e.symm), if_neg (fun e => a8 e.symm), if_neg (fun e => a9 e.symm), if_neg (fun e => a10 e.symm), if_neg (fun e => a11 e.symm), if_neg (fun e => a12 e.symm), if_neg (fun e => a13 e.symm), if_neg (fun e => a14 e.symm)] at hx
   cases hx
 have ra := kr _ v1; have sa := kr _ w1; have rb := zAH vb; have sb := zAH wb; have rc := zAH vc; have sc := zAH wc; have rd := zAH vd; have sd := zAH wd; have re := zAH ve; have se := zAH we; have rf := zAH vf; have sf := zAH wf
 have qa := zAz ra.1 sa.1 (by omega) (by omega) (by omega) (by omega) h1
 have qb := zAz rb.1 sb.1 (by omega) (by omega) (by omega) (by omega) h2
 have qc := zAz rc.1 sc.1 (by omega) (by omega) (by omega) (by omega) h3
 have qd := zAz rd.1 sd.1 (by omega) (by omega) (by omega) (by omega) h4
 have qe := zAz re.1 se.1 (by omega) (by omega) (by omega) (by omega) h5
 have qf := zAz rf.1 sf.1 (by omega) (by omega) (by omega) (by omega) h6
 obtain ⟨q1, q2⟩ := zBh (zA0 vh) (zA0 wh) h
 rw [q1, q2, qa, qb, qc, qd, qe, qf]
theorem zGw {d e : Dat} (hd : validD 47 d = true) (he : validD 47 e = true) (bd : BSm d) (be : BSm e) (h : (zAx 47 d).1 = (zAx 47 e).1) : d = e := by
 obtain ⟨kd, ud⟩ := zAe hd
 obtain ⟨_, ue⟩ := zAe he
 have wd : ∀ x, validD 47 x = true → (zAx 47 x).1 = _ := fun x hx => by simp only [zAx, kd, hx, if_true, Int.reduceEq, if_false, or_false, false_or, or_self, or_true, true_or]; rfl
 rw [wd d hd, wd e he] at h
 unfold validD at hd he
 rw [if_neg (by rw [kd]; decide), if_neg (fun q => q ud)] at hd
 rw [if_neg (by rw [kd]; decide), if_neg (fun q => q ue)] at he
 simp only [if_true, Int.reduceEq, if_false, Bool.and_eq_true, decide_eq_true_eq, Bool.not_eq_true', decide_eq_false_iff_not, Bool.or_eq_true] at hd he
 rw [← ud, ← ue]
 simp only [zA1, if_true, Int.reduceEq, if_false, or_false, false_or, or_self, or_true, true_or]
 simp only [List.append_assoc] at h
 obtain ⟨q1, h⟩ := zBh hd.1 he.1 h
 obtain ⟨_, h⟩ := zAA h
 obtain ⟨_, h⟩ := zAA h
 have q2 := zGY bd.1 be.1 h
 rw [q1, q2]
theorem zD1 {t : Int} {d e : Dat} (hd : validD t d = true) (he : validD t e = true) (bd : BSm d) (be : BSm e) (h : (zAx t d).1 = (zAx t e).1) : d = e := by
 have hk := (zAe hd).1
 rcases zDJ t with rfl | rfl | rfl | rfl | rfl | rfl | rfl | rfl | rfl | rfl | rfl | rfl | rfl | rfl | ⟨a1, a2, a3, a4, a5, a6, a7, a8, a9, a10, a11, a12, a13, a14⟩
 · exact zJg hd he bd be h
 · exact zJf hd he bd be h
 · exact zJe hd he bd be h
 · exact zJd hd he bd be h
 · exact zGE hd he bd be h
 · exact zGD hd he bd be h
 · exact zGC hd he bd be h
 · exact zGB hd he bd be h
 · exact zGA hd he bd be h
 · exact zGz hd he bd be h
 · exact zGy hd he bd be h
 · exact zGx hd he bd be h
 · exact zGw hd he bd be h
 · exact zGv hd he bd be h
 · exfalso
   unfold known mnem at hk
   rw [if_neg (fun e => a1 e.symm), if_neg (fun e => a2 e.symm), if_neg (fun e => a3 e.symm), if_neg (fun e => a4 e.symm), if_neg (fun e => a5 e.symm), if_neg (fun e => a6 e.symm), if_neg (fun e => a7 e.symm), if_neg (fun e => a8 e.symm), if_neg (fun e => a9 e.symm), if_neg (fun e => a10 e.symm), if_neg (fun e => a11 e.symm), if_neg (fun e => a12 e.symm), if_neg (fun e => a13 e.symm), if_neg (fun e => a14 e.symm)] at hk
   cases hk
theorem zD0 {t : Int} {d : Dat} (hd : validD t d = true) : (zAx t d).2 = 0 := by
 have hk := (zAe hd).1
 have ha : t = 1 → vAdr d.adr = true := fun e => by
   subst e
   have h := hd
   obtain ⟨kd, ud⟩ := zAe hd
   unfold validD at h
   rw [if_neg (by rw [kd]; decide), if_neg (fun q => q ud)] at h
   simp only [if_true, Bool.and_eq_true] at h
   exact h.1
 have hb : t = 28 → vAdr d.adr = true := fun e => by
   subst e
   have h := hd
   obtain ⟨kd, ud⟩ := zAe hd
   unfold validD at h
   rw [if_neg (by rw [kd]; decide), if_neg (fun q => q ud)] at h
   simp only [Int.reduceEq, if_true, if_false] at h
   unfold vAdr; rw [h]; rfl
 have hw : vAdr d.adr = true → (zBx d.adr).2 = 0 := fun h => by unfold zBx; rw [h]; simp only [if_true]; split <;> rfl
 unfold zAx
 rw [hk, hd]
 simp only [if_true]
 repeat' split
 all_goals first | rfl | exact hw (ha ‹_›) | exact hw (hb ‹_›)
theorem zD8 {t : Int} {d e : Dat} (hd : validD t d = true) (he : validD t e = true) (bd : BSm d) (be : BSm e) (h : cmpD t d e = 0) : d = e := by
 unfold cmpD at h
 rw [if_pos (zD0 hd), if_pos (zD0 he)] at h
 exact zD1 hd he bd be (zBA h)
theorem zBV : ∀ {x y : List (List UInt8)}, lexC x y = 0 → x = y
 | [], [], _ => rfl
 | [], _ :: _, h => by simp [lexC] at h
 | _ :: _, [], h => by simp [lexC] at h
 | a :: x, b :: y, h => by
   simp only [lexC] at h
   by_cases hz : zBj a b = 0
   · rw [if_neg (fun q => q hz)] at h
     rw [zBA hz, zBV h]
   · rw [if_pos hz] at h; exact absurd h hz
theorem zBI {a b : List UInt8} (ha : vName a = true) (hb : vName b = true) (h : cmpB a b = 0) : a = b := by
 obtain ⟨l, el⟩ := Option.isSome_iff_exists.1 ha
 obtain ⟨k, ek⟩ := Option.isSome_iff_exists.1 hb
 rw [zEy, el, ek] at h
 have h2 := zBV h
 have h3 := congrArg List.reverse h2
 simp only [List.reverse_reverse] at h3
 subst h3
 exact zCA el ek
def VR1 (r : Rec) : Prop := zBd r = true ∧ BSm r.dat
theorem zA9 {r : Rec} (h : zBd r = true) : vName r.name = true ∧ validD r.typ r.dat = true := by
 unfold zBd at h; simp only [Bool.and_eq_true] at h; exact ⟨h.1, h.2.2.2.2⟩
theorem zCh {a b : Rec} (ha : VR1 a) (hb : VR1 b) : zAy a b = 0 ↔ a.name = b.name ∧ a.typ = b.typ ∧ a.dat = b.dat := by
 obtain ⟨na, da⟩ := zA9 ha.1
 obtain ⟨nb, db⟩ := zA9 hb.1
 constructor
 · intro h
   unfold zAy at h
   by_cases h1 : cmpB a.name b.name = 0
   · rw [if_neg (fun q => q h1)] at h
     by_cases h2 : numC a.typ b.typ = 0
     · rw [if_neg (fun q => q h2)] at h
       have e1 := zBI na nb h1
       have e2 := zDc h2
       rw [← e2] at db
       exact ⟨e1, e2, zD8 da db ha.2 hb.2 h⟩
     · rw [if_pos h2] at h; exact absurd h h2
   · rw [if_pos h1] at h; exact absurd h h1
 · rintro ⟨e1, e2, e3⟩
   have h0 := cmp_first.self a
   have : zAy a b = zAy a a := by unfold zAy; rw [e1, e2, e3]
   rw [this]; exact h0
def ZIn (z : Zone) : Prop := Sm z.origin ∧ LIn z.recs
theorem ZIn.rw {z : Zone} (h : ZIn z) : ZRw z := ⟨h.1, h.2.sm.1, h.2.sm.2⟩
theorem DIn.rw {d : Delta} (h : DIn d) : DltRw d := ⟨h.1, h.2.1.sm, h.2.2.sm.1, h.2.2.sm.2⟩
theorem td_zone {n : Nat} {ds : List D} (h : TD Tryz.prog (n + 6) 24 ds) : ∃ x : Zone, D.agg ds = zAU x ∧ ZIn x := by
 unfold TD at h
 simp only [Tryz.underlying24, List.toList_toArray, List.foldr_cons, List.foldr_nil] at h
 obtain ⟨a0, r0, rfl, _, t0, a1, r1, rfl, _, t1, h9⟩ := h
 subst h9
 obtain ⟨v0, rfl, w0⟩ := zER Tryz.underlying9 (show TD Tryz.prog (n + 4 + 1) 9 a0 from t0)
 obtain ⟨v1, rfl, w1, u1⟩ := zCd (sz := 16) (E := recE) (W := RIn) Tryz.underlying22 (by kernel_rfl) (by kernel_rfl) (fun cs h => zGG h) (show TD Tryz.prog (n + 4 + 1) 22 a1 from t1)
 exact ⟨⟨v0, v1⟩, rfl, ⟨w0, zGT (by kernel_rfl) w1 u1⟩⟩
def keyN (n : List UInt8) : List (List UInt8) := ((labs n).getD []).reverse
theorem zBi {n top : List UInt8} (hn : vName n = true) (ht : vName top = true) : underB n top = true ↔ keyN top <+: keyN n := by
 have h1 : (labs n).isSome = true := hn
 have h2 : (labs top).isSome = true := ht
 unfold underB keyN zBS
 rw [h1, h2, Bool.true_and, Bool.true_and, decide_eq_true_eq, ← zII, List.length_reverse]
theorem zCB {a b : List UInt8} (ha : vName a = true) (hb : vName b = true) : cmpB a b = lexC (keyN a) (keyN b) := by
 obtain ⟨l, el⟩ := Option.isSome_iff_exists.1 ha
 obtain ⟨k, ek⟩ := Option.isSome_iff_exists.1 hb
 rw [zEy]
 unfold keyN
 rw [el, ek]; rfl
theorem zB0 : ∀ {p y x : List (List UInt8)}, p <+: x → lexC p y ≤ 0 → lexC y x ≤ 0 → p <+: y
 | [], y, x, _, _, _ => List.nil_prefix
 | a :: p, [], x, _, h1, _ => by simp [lexC] at h1
 | a :: p, b :: y, [], h, _, _ => by simp at h
 | a :: p, b :: y, c :: x, h, h1, h2 => by
   obtain ⟨rfl, hp⟩ := List.cons_prefix_cons.1 h
   simp only [lexC] at h1 h2
   have s1 := cmp_text.sym a b; have s2 := cmp_text.sym b a
   have k1 : zBj a b ≤ 0 := by by_cases hz : zBj a b = 0 <;> simp only [hz, not_true_eq_false, not_false_eq_true, if_false, if_true] at h1 <;> omega
   have k2 : zBj b a ≤ 0 := by by_cases hz : zBj b a = 0 <;> simp only [hz, not_true_eq_false, not_false_eq_true, if_false, if_true] at h2 <;> omega
   have e1 : zBj a b = 0 := by omega
   have e2 : zBj b a = 0 := by omega
   have hab := zBA e1
   subst hab
   rw [if_neg (fun q => q e1)] at h1 h2
   exact List.cons_prefix_cons.2 ⟨rfl, zB0 hp h1 h2⟩
theorem zCy {c y x : List UInt8} (hc : vName c = true) (hy : vName y = true) (hx : vName x = true) (h : underB x c = true) (h1 : cmpB c y ≤ 0) (h2 : cmpB y x ≤ 0) : underB y c = true := by
 rw [zCB hc hy] at h1
 rw [zCB hy hx] at h2
 exact (zBi hy hc).2 (zB0 ((zBi hx hc).1 h) h1 h2)
theorem zDt {a b c : List UInt8} (ha : vName a = true) (hb : vName b = true) (hc : vName c = true) (h1 : underB a b = true) (h2 : underB b c = true) : underB a c = true :=
 (zBi ha hc).2 (((zBi hb hc).1 h2).trans ((zBi ha hb).1 h1))
theorem zEW : ∀ {p x : List (List UInt8)}, p <+: x → lexC p x ≤ 0
 | [], [], _ => by simp [lexC]
 | [], _ :: _, _ => by simp [lexC]
 | a :: p, [], h => by simp at h
 | a :: p, c :: x, h => by
   obtain ⟨rfl, hp⟩ := List.cons_prefix_cons.1 h
   simp only [lexC]
   rw [if_neg (fun q => q (zFo a))]
   exact zEW hp
theorem zCW {a c : List UInt8} (ha : vName a = true) (hc : vName c = true) (h : underB a c = true) (hne : ¬ a = c) : cmpB c a < 0 := by
 have h1 := zEW ((zBi ha hc).1 h)
 rw [← zCB hc ha] at h1
 have h2 : ¬ cmpB c a = 0 := fun e => hne (zBI hc ha e).symm
 omega
theorem zEg {a b : Rec} (h : zAy a b < 0) : cmpB a.name b.name ≤ 0 := by
 unfold zAy at h
 by_cases hz : cmpB a.name b.name = 0
 · omega
 · rw [if_pos hz] at h; omega
theorem zIt {a b c : List UInt8} (h1 : cmpB a b < 0) (h2 : cmpB b c ≤ 0) : cmpB a c < 0 := of_decide_eq_true (cmp_name.wk.lt_le (decide_eq_true h1) (decide_eq_false (by have := cmp_name.sym c b; omega)))
structure GrpJ (l : List Rec) (i : Nat) : Prop where
 le : (grpS l i).1 ≤ i
 fl : (grpS l i).2.flatten = l.take (grpS l i).1
 nm : ∀ j, (grpS l i).1 ≤ j → j ≤ i → j < l.length → l[j]!.name = l[(grpS l i).1]!.name
 hom : ∀ g ∈ (grpS l i).2, g ≠ [] ∧ ∀ x ∈ g, x.name = g0 g
 ord : (grpS l i).2.Pairwise fun g g' => cmpB (g0 g) (g0 g') < 0
 nxt : (grpS l i).1 < l.length → ∀ g ∈ (grpS l i).2, cmpB (g0 g) l[(grpS l i).1]!.name < 0
theorem zLv {l : List Rec} (h : Str l) {i j : Nat} (hij : i < j) (hj : j < l.length) : zAy l[i]! l[j]! < 0 := by
 have := List.pairwise_iff_getElem.1 h i j (by omega) hj hij
 rwa [getElem!_pos l i (by omega), getElem!_pos l j hj]
theorem zGj {l : List Rec} (h : Str l) {i j : Nat} (hij : i ≤ j) (hj : j < l.length) : cmpB l[i]!.name l[j]!.name ≤ 0 := by
 by_cases e : i = j
 · subst e; rw [cmp_name.self]; exact Int.le_refl _
 · exact zEg (zLv h (by omega) hj)
theorem grpJ {l : List Rec} (hs : Str l) (hv : ∀ x ∈ l, vName x.name = true) : ∀ i, i ≤ l.length → GrpJ l i
 | 0, _ => ⟨Nat.le_refl _, rfl, fun j h1 h2 h3 => by
     have : j = 0 := by omega
     subst this; rfl, fun g hg => by simp [grpS] at hg, List.Pairwise.nil, fun _ g hg => by simp [grpS] at hg⟩
 | i + 1, hi => by
   have J := grpJ hs hv i (by omega)
   have hil : i < l.length := by omega
   have ni : l[i]!.name = l[(grpS l i).1]!.name := J.nm i J.le (Nat.le_refl _) hil
   by_cases hc : i + 1 = l.length ∨ ¬ l[i + 1]!.name = l[i]!.name
   · have e := zEu (l := l) (i := i) hc
     have gl : ((l.take (i + 1)).drop (grpS l i).1).length = i + 1 - (grpS l i).1 := by rw [List.length_drop, List.length_take]; omega
     have ga : ∀ k, k < i + 1 - (grpS l i).1 → ((l.take (i + 1)).drop (grpS l i).1)[k]! = l[(grpS l i).1 + k]! := fun k hk => by
       rw [getElem!_pos _ k (by rw [gl]; exact hk), List.getElem_drop, List.getElem_take, getElem!_pos l _ (by omega)]
     have hle := J.le
     have gn : g0 ((l.take (i + 1)).drop (grpS l i).1) = l[(grpS l i).1]!.name := by unfold g0; rw [ga 0 (by omega)]; rfl
     have gm : ∀ x ∈ (l.take (i + 1)).drop (grpS l i).1, x.name = l[(grpS l i).1]!.name := fun x hx => by
       obtain ⟨k, hk, ek⟩ := List.mem_iff_getElem.1 hx
       rw [gl] at hk
       have h2 := ga k hk
       rw [getElem!_pos _ k (by rw [gl]; exact hk), ek] at h2
       rw [h2]; exact J.nm _ (by omega) (by omega) (by omega)
     refine ⟨by rw [e]; exact Nat.le_refl _, ?_, ?_, ?_, ?_, ?_⟩
     · rw [e]
       simp only [List.flatten_append, List.flatten_cons, List.flatten_nil, List.append_nil, J.fl]
       have h3 : l.take (grpS l i).1 = (l.take (i + 1)).take (grpS l i).1 := by rw [List.take_take, Nat.min_eq_left (by omega)]
       rw [h3, List.take_append_drop]
     · rw [e]
       intro j h1 h2 h3
       have : j = i + 1 := by simp only at h1; omega
       subst this; rfl
     · rw [e]
       intro g hg
       simp only [List.mem_append, List.mem_singleton] at hg
       rcases hg with hg | rfl
       · exact J.hom g hg
       · exact ⟨List.ne_nil_of_length_pos (by rw [gl]; omega), fun x hx => by rw [gm x hx, gn]⟩
     · rw [e]
       refine List.pairwise_append.2 ⟨J.ord, List.pairwise_singleton _ _, fun g hg g' hg' => ?_⟩
       simp only [List.mem_singleton] at hg'
       subst hg'
       rw [gn]; exact J.nxt (by omega) g hg
     · rw [e]
       intro hlt g hg
       simp only [List.mem_append, List.mem_singleton] at hg
       have hne : ¬ l[i + 1]!.name = l[i]!.name := by
         rcases hc with hc | hc
         · simp only at hlt; omega
         · exact hc
       have h4 : cmpB l[(grpS l i).1]!.name l[i + 1]!.name < 0 := by
         have h5 := zGj hs (i := (grpS l i).1) (j := i + 1) (by omega) hlt
         have h6 : ¬ cmpB l[(grpS l i).1]!.name l[i + 1]!.name = 0 := fun e2 => hne (by rw [ni]; exact (zBI (hv _ (zBO (by omega))) (hv _ (zBO (by simp only at hlt; omega))) e2).symm)
         omega
       rcases hg with hg | rfl
       · have := J.nxt (by omega) g hg
         exact zIt this (Int.le_of_lt h4)
       · rw [gn]; exact h4
   · have h1 : ¬ i + 1 = l.length := fun e => hc (.inl e)
     have h2 : l[i + 1]!.name = l[i]!.name := Classical.byContradiction fun e => hc (.inr e)
     have e := zMx (l := l) (i := i) h1 h2
     refine ⟨by rw [e]; have := J.le; omega, by rw [e]; exact J.fl, ?_, by rw [e]; exact J.hom, by rw [e]; exact J.ord, by rw [e]; exact J.nxt⟩
     rw [e]
     intro j k1 k2 k3
     by_cases ej : j = i + 1
     · subst ej; rw [h2, ni]
     · exact J.nm j k1 (by omega) k3
structure GrpP (l : List Rec) (gs : List (List Rec)) : Prop where
 fl : gs.flatten = l
 hom : ∀ g ∈ gs, g ≠ [] ∧ ∀ x ∈ g, x.name = g0 g
 ord : gs.Pairwise fun g g' => cmpB (g0 g) (g0 g') < 0
theorem zL2 {l : List Rec} (hs : Str l) (hv : ∀ x ∈ l, vName x.name = true) : GrpP l (grpR l) := by
 have J := grpJ hs hv l.length (Nat.le_refl _)
 refine ⟨?_, J.hom, J.ord⟩
 have h1 := J.fl
 unfold grpR
 rw [h1]
 cases hl : l.length with
 | zero => have := List.length_eq_zero_iff.1 hl; subst this; rfl
 | succ n =>
   have e := zEu (l := l) (i := n) (.inl hl.symm)
   rw [e]
   exact List.take_of_length_le (by simp only; omega)
theorem zBl : ∀ {gs : List (List Rec)}, (∀ g ∈ gs, g ≠ [] ∧ ∀ x ∈ g, x.name = g0 g) → gs.Pairwise (fun g g' => cmpB (g0 g) (g0 g') < 0) → ∀ g ∈ gs, gs.flatten.filter (fun x => x.name == g0 g) = g
 | [], _, _, g, hg => by simp at hg
 | a :: gs, hh, ho, g, hg => by
   have ha := hh a (by simp)
   have hp := List.pairwise_cons.1 ho
   rw [List.flatten_cons, List.filter_append]
   rcases List.mem_cons.1 hg with rfl | hg
   · have e1 : g.filter (fun x => x.name == g0 g) = g := List.filter_eq_self.2 fun x hx => by rw [ha.2 x hx]; simp
     have e2 : gs.flatten.filter (fun x => x.name == g0 g) = [] := List.filter_eq_nil_iff.2 fun x hx hq => by
       obtain ⟨g', hg', hx'⟩ := List.mem_flatten.1 hx
       have h1 := hp.1 g' hg'
       rw [← (hh g' (by simp [hg'])).2 x hx', eq_of_beq hq, cmp_name.self] at h1
       omega
     rw [e1, e2, List.append_nil]
   · have e1 : a.filter (fun x => x.name == g0 g) = [] := List.filter_eq_nil_iff.2 fun x hx hq => by
       have h1 := hp.1 g hg
       rw [← ha.2 x hx, eq_of_beq hq, cmp_name.self] at h1
       omega
     rw [e1, List.nil_append]
     exact zBl (fun g hg => hh g (by simp [hg])) hp.2 g hg
theorem zGm {l : List Rec} {gs : List (List Rec)} (p : GrpP l gs) {g : List Rec} (hg : g ∈ gs) (t : Int) : hasR l (g0 g) t = hasT g t := by
 have h1 := zBl p.hom p.ord g hg
 rw [p.fl] at h1
 have h2 : findR l (g0 g) t = g.filter fun r => decide (r.typ = t) := by
   conv => rhs; rw [← h1]
   unfold findR
   rw [List.filter_filter]
   congr 1; funext r; rw [Bool.and_comm]
 unfold hasR hasT
 rw [h2, Bool.eq_iff_iff, decide_eq_true_eq, List.any_eq_true]
 constructor
 · intro h
   obtain ⟨x, hx⟩ := List.exists_mem_of_length_pos (l := g.filter fun r => decide (r.typ = t)) (by omega)
   obtain ⟨h3, h4⟩ := List.mem_filter.1 hx
   exact ⟨x, h3, h4⟩
 · rintro ⟨x, hx, h4⟩
   have : x ∈ g.filter fun r => decide (r.typ = t) := List.mem_filter.2 ⟨hx, h4⟩
   have := List.length_pos_of_mem this
   omega
structure PA (o : List UInt8) (g : List Rec) : Prop where
 un : underB (g0 g) o = true
 soa : hasT g 6 = (g0 g == o)
 uni : uniF g = true
 ns : g0 g = o → hasT g 2 = true
 cn : hasT g 5 = true → onlyT g [5, 46, 47] = true
 del : delB o g = true → onlyT g [2, 43, 47, 46, 1, 28] = true
 ds : delB o g = false → hasT g 43 = false
 wild : ((g0 g)[0]!.toNat : Int) = 42 → hasT g 2 = false ∧ hasT g 39 = false
theorem proper_iff {o : List UInt8} {g : List Rec} {cut red : List UInt8} : zCf o g cut red = true ↔ PA o g ∧ red = [] ∧ (¬ cut = [] → onlyT g [1, 28] = true) := by
 unfold zCf
 constructor
 · intro h
   by_cases h1 : underB (g0 g) o = false
   · rw [if_pos h1] at h; cases h
   rw [if_neg h1] at h
   by_cases h2 : hasT g 6 = (g0 g == o)
   case neg => rw [if_pos h2] at h; cases h
   rw [if_neg (fun q => q h2)] at h
   by_cases h3 : uniF g = false
   · rw [if_pos h3] at h; cases h
   rw [if_neg h3] at h
   by_cases h4 : g0 g = o ∧ hasT g 2 = false
   · rw [if_pos h4] at h; cases h
   rw [if_neg h4] at h
   by_cases h5 : hasT g 5 = true ∧ onlyT g [5, 46, 47] = false
   · rw [if_pos h5] at h; cases h
   rw [if_neg h5] at h
   by_cases h6 : red = []
   case neg => rw [if_pos h6] at h; cases h
   rw [if_neg (fun q => q h6)] at h
   by_cases h7 : ¬ cut = [] ∧ onlyT g [1, 28] = false
   · rw [if_pos h7] at h; cases h
   rw [if_neg h7] at h
   by_cases h8 : delB o g = true ∧ onlyT g [2, 43, 47, 46, 1, 28] = false
   · rw [if_pos h8] at h; cases h
   rw [if_neg h8] at h
   by_cases h9 : delB o g = false ∧ hasT g 43 = true
   · rw [if_pos h9] at h; cases h
   rw [if_neg h9] at h
   refine ⟨⟨by simpa using h1, h2, by simpa using h3, fun e => ?_, fun e => ?_, fun e => ?_, fun e => ?_, fun e => ?_⟩, h6, fun e => ?_⟩
   · exact (Bool.eq_false_or_eq_true _).elim id fun q => absurd ⟨e, q⟩ h4
   · exact (Bool.eq_false_or_eq_true _).elim id fun q => absurd ⟨e, q⟩ h5
   · exact (Bool.eq_false_or_eq_true _).elim id fun q => absurd ⟨e, q⟩ h8
   · exact (Bool.eq_false_or_eq_true _).elim (fun q => absurd ⟨e, q⟩ h9) id
   · rw [if_neg (fun q => q e)] at h
     by_cases hx : hasT g 2 = true
     · rw [if_pos hx] at h; cases h
     · rw [if_neg hx] at h; exact ⟨by simpa using hx, by simpa using h⟩
   · exact (Bool.eq_false_or_eq_true _).elim id fun q => absurd ⟨e, q⟩ h7
 · rintro ⟨p, h6, h7⟩
   rw [if_neg (by rw [p.un]; decide), if_neg (fun q => q p.soa), if_neg (by rw [p.uni]; decide), if_neg (fun q => by rw [p.ns q.1] at q; cases q.2), if_neg (fun q => by rw [p.cn q.1] at q; cases q.2), if_neg (fun q => q h6),
     if_neg (fun q => by rw [h7 q.1] at q; cases q.2), if_neg (fun q => by rw [p.del q.1] at q; cases q.2), if_neg (fun q => by rw [p.ds q.1] at q; cases q.2)]
   by_cases hw : ((g0 g)[0]!.toNat : Int) = 42
   · rw [if_neg (fun q => q hw), (p.wild hw).1, (p.wild hw).2]; rfl
   · rw [if_pos hw]
def zGo (gs : List (List Rec)) (C : List Rec → Bool) (n : List UInt8) : Prop := ∃ g' ∈ gs, C g' = true ∧ underB n (g0 g') = true ∧ ¬ n = g0 g'
def PG (o : List UInt8) (gs : List (List Rec)) (g : List Rec) : Prop := PA o g ∧ ¬ zGo gs (fun g' => hasT g' 39) (g0 g) ∧ (zGo gs (delB o) (g0 g) → onlyT g [1, 28] = true)
structure CovJ (C : List Rec → Bool) (pre : List (List Rec)) (cut : List UInt8) : Prop where
 src : cut = [] ∨ ∃ g' ∈ pre, C g' = true ∧ cut = g0 g'
 cov : ∀ g' ∈ pre, C g' = true → ∀ n, vName n = true → (∀ g ∈ pre, cmpB (g0 g) n < 0) → underB n (g0 g') = true → ¬ cut = [] ∧ underB n cut = true
structure GsP (gs : List (List Rec)) : Prop where
 v : ∀ g ∈ gs, vName (g0 g) = true
 ord : gs.Pairwise fun g g' => cmpB (g0 g) (g0 g') < 0
theorem zC3 {C : List Rec → Bool} {gs pre rest : List (List Rec)} {g : List Rec} {cut : List UInt8} (p : GsP gs) (e : gs = pre ++ g :: rest) (j : CovJ C pre cut) : ¬ cutZ cut (g0 g) = [] ↔ zGo gs C (g0 g) := by
 have hp := p.ord
 rw [e] at hp
 obtain ⟨_, h2, h3⟩ := List.pairwise_append.1 hp
 have hg : vName (g0 g) = true := p.v g (by rw [e]; simp)
 have hpre : ∀ x ∈ pre, cmpB (g0 x) (g0 g) < 0 := fun x hx => h3 x hx g (by simp)
 constructor
 · intro h
   unfold cutZ at h
   by_cases h1 : cut = []
   · rw [if_pos h1] at h; exact absurd h1 h
   · rw [if_neg h1] at h
     by_cases h4 : underB (g0 g) cut = false
     · rw [if_pos h4] at h; exact absurd rfl h
     · rcases j.src with q | ⟨g', hg', hc, rfl⟩
       · exact absurd q h1
       · refine ⟨g', by rw [e]; simp [hg'], hc, by simpa using h4, fun q => ?_⟩
         have := hpre g' hg'
         rw [q, cmp_name.self] at this; omega
 · rintro ⟨g', hg', hc, hu, hne⟩
   have hv' := p.v g' hg'
   have hlt := zCW hg hv' hu hne
   rw [e] at hg'
   rcases List.mem_append.1 hg' with hg' | hg'
   · obtain ⟨h5, h6⟩ := j.cov g' hg' hc (g0 g) hg hpre hu
     unfold cutZ
     rw [if_neg h5, h6]; simpa using h5
   · rcases List.mem_cons.1 hg' with rfl | hg'
     · exact absurd rfl hne
     · have h7 := (List.pairwise_cons.1 h2).1 g' hg'
       have h8 := cmp_name.sym (g0 g) (g0 g')
       omega
theorem vne {n : List UInt8} (h : vName n = true) : ¬ n = [] := fun e => by subst e; simp [vName, labs] at h
theorem zBW {C : List Rec → Bool} {gs pre rest : List (List Rec)} {g : List Rec} {cut cut' : List UInt8} (p : GsP gs) (e : gs = pre ++ g :: rest) (j : CovJ C pre cut)
   (h : (cut' = g0 g ∧ C g = true ∧ cutZ cut (g0 g) = []) ∨ (cut' = cutZ cut (g0 g) ∧ (C g = true → ¬ cutZ cut (g0 g) = []))) : CovJ C (pre ++ [g]) cut' := by
 have hg : vName (g0 g) = true := p.v g (by rw [e]; simp)
 have hp := p.ord
 rw [e] at hp
 obtain ⟨_, _, h3⟩ := List.pairwise_append.1 hp
 have hpre : ∀ x ∈ pre, cmpB (g0 x) (g0 g) < 0 := fun x hx => h3 x hx g (by simp)
 have hz : ¬ cutZ cut (g0 g) = [] → cutZ cut (g0 g) = cut ∧ ¬ cut = [] ∧ underB (g0 g) cut = true := fun q => by
   unfold cutZ at q ⊢
   by_cases h1 : cut = []
   · rw [if_pos h1] at q; exact absurd h1 q
   · rw [if_neg h1] at q ⊢
     by_cases h4 : underB (g0 g) cut = false
     · rw [if_pos h4] at q; exact absurd rfl q
     · rw [if_neg h4]; exact ⟨rfl, h1, by simpa using h4⟩
 have old : ∀ g' ∈ pre, C g' = true → ∀ n, vName n = true → (∀ x ∈ pre ++ [g], cmpB (g0 x) n < 0) → underB n (g0 g') = true → ¬ cut = [] ∧ underB n cut = true ∧ ¬ cutZ cut (g0 g) = [] := fun g' hg' hc n hn hlt hu => by
   have hv' := p.v g' (by rw [e]; simp [hg'])
   have hb := zCy hv' hg hn hu (Int.le_of_lt (hpre g' hg')) (Int.le_of_lt (hlt g (by simp)))
   obtain ⟨h5, h6⟩ := j.cov g' hg' hc (g0 g) hg hpre hb
   obtain ⟨h7, h8⟩ := j.cov g' hg' hc n hn (fun x hx => hlt x (by simp [hx])) hu
   refine ⟨h7, h8, ?_⟩
   unfold cutZ; rw [if_neg h5, h6]; simpa using h5
 rcases h with ⟨rfl, hC, hcz⟩ | ⟨rfl, hC⟩
 · refine ⟨.inr ⟨g, by simp, hC, rfl⟩, fun g' hg' hc n hn hlt hu => ?_⟩
   rcases List.mem_append.1 hg' with hg' | hg'
   · exact absurd hcz (old g' hg' hc n hn hlt hu).2.2
   · simp only [List.mem_singleton] at hg'; subst hg'; exact ⟨vne hg, hu⟩
 · refine ⟨?_, fun g' hg' hc n hn hlt hu => ?_⟩
   · by_cases hq : cutZ cut (g0 g) = []
     · exact .inl hq
     · obtain ⟨h5, h6, _⟩ := hz hq
       rw [h5]
       rcases j.src with q | ⟨g', hg', hc, q⟩
       · exact absurd q h6
       · exact .inr ⟨g', by simp [hg'], hc, q⟩
   · rcases List.mem_append.1 hg' with hg' | hg'
     · obtain ⟨h5, h6, h7⟩ := old g' hg' hc n hn hlt hu
       rw [(hz h7).1]; exact ⟨h5, h6⟩
     · simp only [List.mem_singleton] at hg'; subst hg'
       have h7 := hC hc
       obtain ⟨h8, h9, h10⟩ := hz h7
       rw [h8]
       have hcv : vName cut = true := by
         rcases j.src with q | ⟨g', hg', _, q⟩
         · exact absurd q h9
         · rw [q]; exact p.v g' (by rw [e]; simp [hg'])
       exact ⟨h9, zDt hn hg hcv hu h10⟩
theorem zLo {o : List UInt8} {gs : List (List Rec)} (p : GsP gs) : ∀ (rest pre : List (List Rec)) (q : Zs), gs = pre ++ rest → CovJ (delB o) pre q.1 → CovJ (fun g' => hasT g' 39) pre q.2.1 →
   ((∃ q', rest.foldlM (zDU o) q = some q' ∧ q'.2.2 = true) ↔ (∀ g ∈ rest, PG o gs g) ∧ (q.2.2 = true ∨ ∃ g ∈ rest, g0 g = o))
 | [], pre, q, e, jc, jr => by simp
 | g :: rest, pre, q, e, jc, jr => by
   have k1 := zC3 p e jc
   have k2 := zC3 p e jr
   have hpg : zCf o g (cutZ q.1 (g0 g)) (cutZ q.2.1 (g0 g)) = true ↔ PG o gs g := by
     rw [proper_iff]
     constructor
     · rintro ⟨a, b, c⟩; exact ⟨a, fun h => (k2.2 h) b, fun h => c (k1.2 h)⟩
     · rintro ⟨a, b, c⟩; exact ⟨a, Classical.byContradiction fun h => b (k2.1 h), fun h => c (k1.1 h)⟩
   rw [List.foldlM_cons]
   by_cases hp : zCf o g (cutZ q.1 (g0 g)) (cutZ q.2.1 (g0 g)) = true
   · have hz : zDU o q g = some (if cutZ q.1 (g0 g) = [] ∧ ¬ g0 g = o ∧ hasT g 2 = true then g0 g else cutZ q.1 (g0 g), if hasT g 39 = true then g0 g else cutZ q.2.1 (g0 g), if q.2.2 = true then true else g0 g == o) := by
       unfold zDU; rw [if_neg (by rw [hp]; decide)]
     have hred : cutZ q.2.1 (g0 g) = [] := (proper_iff.1 hp).2.1
     have jc2 : CovJ (delB o) (pre ++ [g]) (if cutZ q.1 (g0 g) = [] ∧ ¬ g0 g = o ∧ hasT g 2 = true then g0 g else cutZ q.1 (g0 g)) := by
       by_cases h1 : cutZ q.1 (g0 g) = [] ∧ ¬ g0 g = o ∧ hasT g 2 = true
       · rw [if_pos h1]; exact zBW p e jc (.inl ⟨rfl, by unfold delB; rw [if_neg h1.2.1]; exact h1.2.2, h1.1⟩)
       · rw [if_neg h1]
         refine zBW p e jc (.inr ⟨rfl, fun hd hcz => h1 ⟨hcz, ?_⟩⟩)
         unfold delB at hd
         split at hd
         · cases hd
         · exact ⟨‹_›, hd⟩
     have jr2 : CovJ (fun g' => hasT g' 39) (pre ++ [g]) (if hasT g 39 = true then g0 g else cutZ q.2.1 (g0 g)) := by
       by_cases h1 : hasT g 39 = true
       · rw [if_pos h1]; exact zBW p e jr (.inl ⟨rfl, h1, hred⟩)
       · rw [if_neg h1]; exact zBW p e jr (.inr ⟨rfl, fun h => absurd h h1⟩)
     have ih := zLo (o := o) p rest (pre ++ [g]) (if cutZ q.1 (g0 g) = [] ∧ ¬ g0 g = o ∧ hasT g 2 = true then g0 g else cutZ q.1 (g0 g), if hasT g 39 = true then g0 g else cutZ q.2.1 (g0 g), if q.2.2 = true then true else g0 g == o) (by rw [e]; simp) jc2 jr2
     rw [hz]
     simp only [Option.bind_eq_bind, Option.bind_some]
     rw [ih]
     have hpg' := hpg.1 hp
     constructor
     · rintro ⟨a, b⟩
       refine ⟨fun x hx => ?_, ?_⟩
       · rcases List.mem_cons.1 hx with rfl | hx
         · exact hpg'
         · exact a x hx
       · rcases b with b | ⟨x, hx, hxo⟩
         · by_cases h1 : q.2.2 = true
           · exact .inl h1
           · simp only [h1, if_false] at b
             exact .inr ⟨g, by simp, eq_of_beq (by simpa using b)⟩
         · exact .inr ⟨x, by simp [hx], hxo⟩
     · rintro ⟨a, b⟩
       refine ⟨fun x hx => a x (by simp [hx]), ?_⟩
       rcases b with b | ⟨x, hx, hxo⟩
       · left; simp [b]
       · rcases List.mem_cons.1 hx with rfl | hx
         · left; simp [hxo]
         · exact .inr ⟨x, hx, hxo⟩
   · have hz : zDU o q g = none := by unfold zDU; rw [if_pos (by simpa using hp)]
     rw [hz]
     constructor
     · rintro ⟨_, h, _⟩; cases h
     · rintro ⟨a, _⟩; exact absurd (hpg.2 (a g (by simp))) hp
theorem zGe {o : List UInt8} {gs : List (List Rec)} (p : GsP gs) : (∃ q, zrun o gs = some q ∧ q.2.2 = true) ↔ (∀ g ∈ gs, PG o gs g) ∧ ∃ g ∈ gs, g0 g = o := by
 have := zLo (o := o) p gs [] ([], [], false) rfl ⟨.inl rfl, fun g hg => by simp at hg⟩ ⟨.inl rfl, fun g hg => by simp at hg⟩
 unfold zrun
 rw [this]; simp
theorem zBG : ∀ (r cur : List UInt8) (b : Bool) (l : List (List UInt8)), zAZ r cur b = some l → ∀ x ∈ l, zBQ x = true
 | [], _, _, l, h => by simp [zAZ] at h; subst h; simp
 | c :: r, cur, b, l, h => by
   simp only [zAZ] at h
   split at h
   · split at h
     · rename_i hl
       rw [Option.map_eq_some_iff] at h
       obtain ⟨m, hm, rfl⟩ := h
       intro x hx
       rcases List.mem_cons.1 hx with rfl | hx
       · rw [Bool.and_eq_true] at hl; exact hl.1
       · exact zBG r [] false m hm x hx
     · cases h
   · exact zBG r _ b l h
theorem zGf {n : List UInt8} (hv : vName n = true) : ((n[0]!.toNat : Int) = 42) ↔ (0 : Int) < (((labs n).getD []).length : Int) ∧ (((labs n).getD [])[0]! == [42]) = true := by
 obtain ⟨l, el⟩ := Option.isSome_iff_exists.1 hv
 rw [el]
 simp only [Option.getD_some]
 have el' := el
 unfold labs at el
 split at el
 · rename_i e; subst e; simp only [Option.some.injEq] at el; subst el; simp
 · split at el
   · cases el
   · rename_i h1 h2
     have h3 := zA8 n [] true l el (fun _ => rfl) (fun _ => Classical.byContradiction fun e => h2 (.inr (.inr e)))
     rw [List.nil_append] at h3
     cases l with
     | nil => subst h3; exact absurd (.inl (by simp)) h2
     | cons x l =>
       have hx := zBG n [] true _ el x (by simp)
       have hp := (zB1 el' x (by simp)).1
       cases x with
       | nil => simp at hp
       | cons a x =>
         rw [List.flatMap_cons] at h3
         subst h3
         simp only [List.cons_append, List.getElem!_cons_zero, List.length_cons]
         constructor
         · intro ha
           have ha' : a = 42 := by rw [← UInt8.toNat_inj]; show a.toNat = 42; omega
           subst ha'
           refine ⟨by omega, ?_⟩
           unfold zBQ at hx
           rw [Bool.or_eq_true] at hx
           rcases hx with hx | hx
           · exact hx
           · simp only [Bool.and_eq_true, List.all_cons] at hx
             exact absurd hx.2.1 (by decide)
         · rintro ⟨_, h⟩
           have := eq_of_beq h
           simp only [List.cons.injEq] at this
           rw [this.1]; rfl
theorem zBC (a : Rec) : zAy a a = 0 := cmp_first.self a
theorem zIc {l : List Rec} (h : Str l) (hn : ∀ x ∈ l, ∀ y ∈ l, x.name = y.name) : l.Pairwise fun a b => a.typ ≤ b.typ := by
 refine List.Pairwise.imp_of_mem (fun {a b} ha hb k => ?_) h
 unfold zAy at k
 rw [hn a ha b hb, cmp_name.self, if_neg (fun q => q rfl)] at k
 split at k
 · unfold numC at k
   split at k
   · omega
   · split at k <;> omega
 · rename_i q
   have := zDc (Classical.byContradiction q)
   omega
def UP (a b : Rec) : Prop := a.typ = b.typ → single b.typ = false ∧ (b.typ = 46 ∨ a.ttl = b.ttl)
theorem zEQ : ∀ {l : List Rec}, l.Pairwise (fun a b => a.typ ≤ b.typ) → (uniF l = true ↔ l.Pairwise UP)
 | [], _ => by simp [uniF]
 | [a], _ => by simp [uniF]
 | a :: b :: r, hs => by
   have hp := List.pairwise_cons.1 hs
   have hq := List.pairwise_cons.1 hp.2
   have ih := zEQ hp.2
   have hab := hp.1 b (by simp)
   rw [uniF]
   by_cases h1 : b.typ = a.typ
   · rw [if_neg (fun q => q h1)]
     by_cases h2 : single b.typ = true
     · rw [if_pos h2]
       constructor
       · intro h; cases h
       · intro h; have := ((List.pairwise_cons.1 h).1 b (by simp) h1.symm).1; rw [h2] at this; cases this
     · rw [if_neg h2]
       have h2' : single b.typ = false := by simpa using h2
       by_cases h3 : ¬ b.typ = 46 ∧ ¬ b.ttl = a.ttl
       · rw [if_pos h3]
         constructor
         · intro h; cases h
         · intro h; rcases ((List.pairwise_cons.1 h).1 b (by simp) h1.symm).2 with q | q
           · exact absurd q h3.1
           · exact absurd q.symm h3.2
       · rw [if_neg h3, ih]
         have h4 : b.typ = 46 ∨ a.ttl = b.ttl := by
           by_cases q : b.typ = 46
           · exact .inl q
           · exact .inr (Classical.byContradiction fun e => h3 ⟨q, fun e2 => e e2.symm⟩)
         constructor
         · intro h
           refine List.pairwise_cons.2 ⟨fun c hc => ?_, h⟩
           rcases List.mem_cons.1 hc with rfl | hc
           · exact fun _ => ⟨h2', h4⟩
           · intro hac
             have h5 := (List.pairwise_cons.1 h).1 c hc (by omega)
             refine ⟨h5.1, ?_⟩
             rcases h5.2 with q | q
             · exact .inl q
             · rcases h4 with q2 | q2
               · exact .inl (by omega)
               · exact .inr (q2.trans q)
         · intro h; exact (List.pairwise_cons.1 h).2
   · rw [if_pos h1, ih]
     constructor
     · intro h
       refine List.pairwise_cons.2 ⟨fun c hc hac => ?_, h⟩
       rcases List.mem_cons.1 hc with rfl | hc
       · exact absurd hac.symm h1
       · have := hq.1 c hc; omega
     · intro h; exact (List.pairwise_cons.1 h).2
theorem zC1 {α : Type} {R : α → α → Prop} (sy : ∀ a b, R a b → R b a) (rf : ∀ a, R a a) : ∀ {l : List α}, l.Pairwise R → ∀ x ∈ l, ∀ y ∈ l, R x y
 | [], _, x, hx, _, _ => by cases hx
 | a :: l, h, x, hx, y, hy => by
   have hp := List.pairwise_cons.1 h
   rcases List.mem_cons.1 hx with ex | hx2
   · rcases List.mem_cons.1 hy with ey | hy2
     · rw [ex, ey]; exact rf _
     · rw [ex]; exact hp.1 y hy2
   · rcases List.mem_cons.1 hy with ey | hy2
     · rw [ey]; exact sy _ _ (hp.1 x hx2)
     · exact zC1 sy rf hp.2 x hx2 y hy2
def UA (a b : Rec) : Prop := a.typ = b.typ → (b.typ = 46 ∨ a.ttl = b.ttl) ∧ (single b.typ = true → a = b)
theorem zLu {g : List Rec} (hs : Str g) : g.Pairwise UP ↔ ∀ x ∈ g, ∀ y ∈ g, UA x y := by
 constructor
 · intro h
   refine zC1 (R := UA) (fun a b k e => ?_) (fun a _ => ⟨.inr rfl, fun _ => rfl⟩) (h.imp fun {a b} k e => ⟨(k e).2, fun q => by rw [(k e).1] at q; cases q⟩)
   obtain ⟨k1, k2⟩ := k e.symm
   rw [← e]
   refine ⟨?_, fun q => (k2 q).symm⟩
   rcases k1 with q | q
   · exact .inl q
   · exact .inr q.symm
 · intro h
   refine List.Pairwise.imp_of_mem (fun {a b} ha hb k e => ?_) hs
   obtain ⟨k1, k2⟩ := h a ha b hb e
   refine ⟨?_, k1⟩
   cases hsg : single b.typ with
   | false => rfl
   | true => have := k2 hsg; subst this; rw [zBC] at k; omega
theorem beside_iff {l : List Rec} {x : Rec} : besideR l x = true ↔ ∀ y ∈ l, y.name = x.name → (UA y x ∧ (x.typ = 5 → y.typ = 5 ∨ y.typ = 46 ∨ y.typ = 47)) := by
 unfold besideR
 rw [List.all_eq_true]
 refine forall_congr' fun y => forall_congr' fun hy => ?_
 unfold besX
 by_cases h1 : y.name = x.name
 · rw [if_neg (fun q => q h1)]
   by_cases h2 : y.typ = x.typ ∧ ¬ x.typ = 46 ∧ ¬ y.ttl = x.ttl
   · rw [if_pos h2]
     refine ⟨fun h => (by cases h), fun h => ?_⟩
     rcases ((h h1).1 h2.1).1 with q | q
     · exact absurd q h2.2.1
     · exact absurd q h2.2.2
   rw [if_neg h2]
   by_cases h3 : y.typ = x.typ ∧ single x.typ = true ∧ ¬ y = x
   · rw [if_pos h3]
     exact ⟨fun h => (by cases h), fun h => absurd (((h h1).1 h3.1).2 h3.2.1) h3.2.2⟩
   rw [if_neg h3]
   by_cases h4 : x.typ = 5 ∧ ¬ y.typ = 5 ∧ ¬ y.typ = 46 ∧ ¬ y.typ = 47
   · rw [if_pos h4]
     refine ⟨fun h => (by cases h), fun h => ?_⟩
     rcases (h h1).2 h4.1 with q | q | q
     · exact absurd q h4.2.1
     · exact absurd q h4.2.2.1
     · exact absurd q h4.2.2.2
   rw [if_neg h4]
   refine ⟨fun _ _ => ⟨fun e => ⟨?_, fun q => ?_⟩, fun q => ?_⟩, fun _ => rfl⟩
   · by_cases q : x.typ = 46
     · exact .inl q
     · exact .inr (Classical.byContradiction fun e2 => h2 ⟨e, q, e2⟩)
   · exact Classical.byContradiction fun e2 => h3 ⟨e, q, e2⟩
   · by_cases q1 : y.typ = 5
     · exact .inl q1
     · by_cases q2 : y.typ = 46
       · exact .inr (.inl q2)
       · exact .inr (.inr (Classical.byContradiction fun q3 => h4 ⟨q, q1, q2, q3⟩))
 · rw [if_pos h1]; exact ⟨fun _ e => absurd e h1, fun _ => rfl⟩
theorem hasT_iff {g : List Rec} {t : Int} : hasT g t = true ↔ ∃ x ∈ g, x.typ = t := by unfold hasT hasX; rw [List.any_eq_true]; simp
theorem onlyT_iff {g : List Rec} {v : List Int} : onlyT g v = true ↔ ∀ x ∈ g, x.typ ∈ v := by
 unfold onlyT onlX inI
 rw [Bool.not_eq_true', List.any_eq_false]
 simp
theorem below_iff {n m : List UInt8} : belowB n m = true ↔ ¬ n = m ∧ underB n m = true := by
 unfold belowB
 rw [Bool.and_eq_true, Bool.not_eq_true', beq_eq_false_iff_ne]
structure RP (o : List UInt8) (l : List Rec) (x : Rec) : Prop where
 un : underB x.name o = true
 soa : x.typ = 6 → x.name = o
 bes : besideR l x = true
 wild : ((x.name[0]!.toNat : Int) = 42) → ¬ x.typ = 2 ∧ ¬ x.typ = 39
 red : ∀ y ∈ l, y.typ = 39 → ¬ belowB x.name y.name = true
 cut : ∀ y ∈ l, y.typ = 2 → belowB y.name o = true → belowB x.name y.name = true → x.typ = 1 ∨ x.typ = 28
 del : belowB x.name o = true → hasR l x.name 2 = true → x.typ ∈ [2, 43, 47, 46, 1, 28]
 ds : ¬ (belowB x.name o = true ∧ hasR l x.name 2 = true) → ¬ x.typ = 43
theorem zC4 {z : Zone} {x : Rec} (hv : vName x.name = true) : chk3 z x = true ↔ RP z.origin z.recs x := by
 have hw := zGf hv
 unfold chk3
 constructor
 · intro h
   by_cases h1 : underB x.name z.origin = false
   · rw [if_pos h1] at h; cases h
   rw [if_neg h1] at h
   by_cases h2 : x.typ = 6 ∧ ¬ x.name = z.origin
   · rw [if_pos h2] at h; cases h
   rw [if_neg h2] at h
   by_cases h3 : besideR z.recs x = false
   · rw [if_pos h3] at h; cases h
   rw [if_neg h3] at h
   unfold zBT at h
   by_cases h4 : (0 : Int) < (((labs x.name).getD []).length : Int) ∧ (((labs x.name).getD [])[0]! == [42]) = true ∧ (x.typ = 2 ∨ x.typ = 39)
   · rw [if_pos h4] at h; cases h
   rw [if_neg h4] at h
   by_cases h5 : z.recs.all (plX z.origin x) = false
   · rw [if_pos h5] at h; cases h
   rw [if_neg h5] at h
   have h5' : ∀ y ∈ z.recs, plX z.origin x y = true := List.all_eq_true.1 (by simpa using h5)
   refine ⟨by simpa using h1, fun e => Classical.byContradiction fun q => h2 ⟨e, q⟩, by simpa using h3, fun e => ?_, fun y hy e q => ?_, fun y hy e q1 q2 => ?_, fun q1 q2 => ?_, fun q => ?_⟩
   · obtain ⟨a, b⟩ := hw.1 e
     exact ⟨fun q => h4 ⟨a, b, .inl q⟩, fun q => h4 ⟨a, b, .inr q⟩⟩
   · have h6 := h5' y hy
     unfold plX at h6
     rw [if_pos ⟨e, q⟩] at h6; cases h6
   · have h6 := h5' y hy
     unfold plX at h6
     split at h6
     · cases h6
     · by_cases k1 : x.typ = 1
       · exact .inl k1
       · by_cases k2 : x.typ = 28
         · exact .inr k2
         · rw [if_pos ⟨e, q1, q2, k1, k2⟩] at h6; cases h6
   · rw [if_pos ⟨q1, q2⟩] at h
     simpa using h
   · rw [if_neg q] at h
     simpa using h
 · intro p
   rw [if_neg (by rw [p.un]; decide), if_neg (fun q => q.2 (p.soa q.1)), if_neg (by rw [p.bes]; decide)]
   unfold zBT
   rw [if_neg (fun q => by
     have := p.wild (hw.2 ⟨q.1, q.2.1⟩)
     rcases q.2.2 with e | e
     · exact this.1 e
     · exact this.2 e)]
   have h5 : z.recs.all (plX z.origin x) = true := List.all_eq_true.2 fun y hy => by
     unfold plX
     rw [if_neg (fun q => p.red y hy q.1 q.2), if_neg (fun q => by
       rcases p.cut y hy q.1 q.2.1 q.2.2.1 with e | e
       · exact q.2.2.2.1 e
       · exact q.2.2.2.2 e)]
   rw [if_neg (by rw [h5]; decide)]
   by_cases h6 : belowB x.name z.origin = true ∧ hasR z.recs x.name 2 = true
   · rw [if_pos h6]; have := p.del h6.1 h6.2; simpa using this
   · rw [if_neg h6]; have := p.ds h6; simpa using this
theorem find_mem {l : List Rec} {n : List UInt8} {t : Int} {x : Rec} : x ∈ findR l n t ↔ x ∈ l ∧ x.name = n ∧ x.typ = t := by
 unfold findR; rw [List.mem_filter]; simp
theorem hasR_iff {l : List Rec} {n : List UInt8} {t : Int} : hasR l n t = true ↔ ∃ x ∈ l, x.name = n ∧ x.typ = t := by
 unfold hasR
 rw [decide_eq_true_eq]
 constructor
 · intro h
   obtain ⟨x, hx⟩ := List.exists_mem_of_length_pos (l := findR l n t) (by omega)
   exact ⟨x, (find_mem.1 hx).1, (find_mem.1 hx).2⟩
 · rintro ⟨x, hx, h⟩
   have := List.length_pos_of_mem (find_mem.2 ⟨hx, h⟩)
   omega
theorem zDx {o : List UInt8} {l : List Rec} {gs : List (List Rec)} (ho : vName o = true) (hs : Str l) (hv : ∀ x ∈ l, vName x.name = true) (p : GrpP l gs) :
   ((∀ g ∈ gs, PG o gs g) ∧ ∃ g ∈ gs, g0 g = o) ↔ (((findR l o 6).length : Int) = 1 ∧ hasR l o 2 = true ∧ ∀ x ∈ l, RP o l x) := by
 have mem : ∀ {x}, x ∈ l ↔ ∃ g ∈ gs, x ∈ g := fun {x} => by rw [← p.fl]; exact List.mem_flatten
 have nm : ∀ {g}, g ∈ gs → ∀ {x}, x ∈ g → x.name = g0 g := fun {g} hg {x} hx => (p.hom g hg).2 x hx
 have gin : ∀ {g}, g ∈ gs → ∀ {x}, x ∈ g → x ∈ l := fun {g} hg {x} hx => mem.2 ⟨g, hg, hx⟩
 have uniq : ∀ {g g'}, g ∈ gs → g' ∈ gs → g0 g = g0 g' → g = g' := fun {g g'} hg hg' e => by
   rw [← zBl p.hom p.ord g hg, ← zBl p.hom p.ord g' hg', e]
 have own : ∀ {g}, g ∈ gs → ∀ {x}, x ∈ l → x.name = g0 g → x ∈ g := fun {g} hg {x} hx e => by
   obtain ⟨g', hg', hx'⟩ := mem.1 hx
   rw [uniq hg hg' (by rw [← e, nm hg' hx'])]; exact hx'
 have has : ∀ {g}, g ∈ gs → ∀ t, hasR l (g0 g) t = hasT g t := fun {g} hg t => zGm p hg t
 have gstr : ∀ {g}, g ∈ gs → Str g := fun {g} hg => by
   rw [← zBl p.hom p.ord g hg, p.fl]; exact List.Pairwise.filter _ hs
 have uni : ∀ {g}, g ∈ gs → (uniF g = true ↔ ∀ x ∈ g, ∀ y ∈ g, UA x y) := fun {g} hg =>
   (zEQ (zIc (gstr hg) fun x hx y hy => by rw [nm hg hx, nm hg hy])).trans (zLu (gstr hg))
 have gv : ∀ {g}, g ∈ gs → vName (g0 g) = true := fun {g} hg => by
   obtain ⟨x, hx⟩ := List.exists_mem_of_length_pos (List.length_pos_iff.2 (p.hom g hg).1)
   rw [← nm hg hx]; exact hv x (gin hg hx)
 have abv : ∀ {C : List Rec → Bool} {n}, zGo gs C n ↔ ∃ g' ∈ gs, C g' = true ∧ belowB n (g0 g') = true := fun {C n} =>
   ⟨fun ⟨g', a, b, c, d⟩ => ⟨g', a, b, below_iff.2 ⟨d, c⟩⟩, fun ⟨g', a, b, c⟩ => ⟨g', a, b, (below_iff.1 c).2, (below_iff.1 c).1⟩⟩
 constructor
 · rintro ⟨hg, g, hgo, rfl⟩
   have pg := hg g hgo
   refine ⟨?_, ?_, fun x hx => ?_⟩
   · have h6 : hasT g 6 = true := by rw [pg.1.soa]; simp
     have hex : (findR l (g0 g) 6) ≠ [] := by
       rw [← has hgo] at h6
       obtain ⟨x, hx, h⟩ := hasR_iff.1 h6
       exact fun e => by have := find_mem.2 ⟨hx, h⟩; rw [e] at this; cases this
     have hpw : (findR l (g0 g) 6).Pairwise fun a b => zAy a b < 0 := List.Pairwise.filter _ hs
     match hfe : findR l (g0 g) 6 with
     | [] => exact absurd hfe hex
     | [_] => rfl
     | a :: b :: r =>
       rw [hfe] at hpw
       have hab := (List.pairwise_cons.1 hpw).1 b (by simp)
       have ha := find_mem.1 (show a ∈ findR l (g0 g) 6 by rw [hfe]; simp)
       have hb := find_mem.1 (show b ∈ findR l (g0 g) 6 by rw [hfe]; simp)
       have h7 := (uni hgo).1 pg.1.uni a (own hgo ha.1 ha.2.1) b (own hgo hb.1 hb.2.1) (ha.2.2.trans hb.2.2.symm)
       have := h7.2 (by rw [hb.2.2]; rfl)
       subst this
       rw [zBC] at hab; omega
   · rw [has hgo]; exact pg.1.ns rfl
   · obtain ⟨g', hg', hx'⟩ := mem.1 hx
     have q := hg g' hg'
     have en := nm hg' hx'
     have hdel : belowB (g0 g') (g0 g) = true ∧ hasR l (g0 g') 2 = true ↔ delB (g0 g) g' = true := by
       rw [has hg', below_iff]
       unfold delB
       by_cases e : g0 g' = g0 g
       · rw [if_pos e]; simp [e]
       · rw [if_neg e]; simp [e, q.1.un]
     refine ⟨by rw [en]; exact q.1.un, fun e => ?_, beside_iff.2 fun y hy e => ?_, fun e => ?_, fun y hy e k => ?_, fun y hy e k1 k2 => ?_, fun k1 k2 => ?_, fun k => ?_⟩
     · have h6 : hasT g' 6 = true := hasT_iff.2 ⟨x, hx', e⟩
       rw [q.1.soa] at h6
       rw [en]; exact eq_of_beq h6
     · have hy' := own hg' hy (by rw [e, en])
       refine ⟨(uni hg').1 q.1.uni y hy' x hx', fun e5 => ?_⟩
       have := onlyT_iff.1 (q.1.cn (hasT_iff.2 ⟨x, hx', e5⟩)) y hy'
       simp only [List.mem_cons, List.not_mem_nil, or_false] at this
       rcases this with a | a | a
       · exact .inl a
       · exact .inr (.inl a)
       · exact .inr (.inr a)
     · rw [en] at e
       obtain ⟨a, b⟩ := q.1.wild e
       exact ⟨fun k => (by rw [hasT_iff.2 ⟨x, hx', k⟩] at a; cases a), fun k => (by rw [hasT_iff.2 ⟨x, hx', k⟩] at b; cases b)⟩
     · obtain ⟨g2, hg2, hy2⟩ := mem.1 hy
       rw [en, nm hg2 hy2] at k
       exact q.2.1 (abv.2 ⟨g2, hg2, hasT_iff.2 ⟨y, hy2, e⟩, k⟩)
     · obtain ⟨g2, hg2, hy2⟩ := mem.1 hy
       rw [nm hg2 hy2] at k1
       rw [en, nm hg2 hy2] at k2
       have hd : delB (g0 g) g2 = true := by
         unfold delB; rw [if_neg (below_iff.1 k1).1]; exact hasT_iff.2 ⟨y, hy2, e⟩
       have := onlyT_iff.1 (q.2.2 (abv.2 ⟨g2, hg2, hd, k2⟩)) x hx'
       simpa using this
     · rw [en] at k1 k2
       exact onlyT_iff.1 (q.1.del (hdel.1 ⟨k1, k2⟩)) x hx'
     · rw [en] at k
       have h8 : delB (g0 g) g' = false := by
         cases hd : delB (g0 g) g' with
         | false => rfl
         | true => exact absurd (hdel.2 hd) k
       intro e
       have := q.1.ds h8
       rw [hasT_iff.2 ⟨x, hx', e⟩] at this; cases this
 · rintro ⟨h6, h2, hr⟩
   have hex : ∃ x ∈ l, x.name = o ∧ x.typ = 6 := by
     obtain ⟨x, hx⟩ := List.exists_mem_of_length_pos (l := findR l o 6) (by omega)
     exact ⟨x, (find_mem.1 hx).1, (find_mem.1 hx).2⟩
   obtain ⟨s, hs1, hs2, hs3⟩ := hex
   obtain ⟨go, hgo, hso⟩ := mem.1 hs1
   have ego : g0 go = o := by rw [← nm hgo hso, hs2]
   refine ⟨fun g hg => ?_, go, hgo, ego⟩
   obtain ⟨x0, hx0⟩ := List.exists_mem_of_length_pos (List.length_pos_iff.2 (p.hom g hg).1)
   have r0 := hr x0 (gin hg hx0)
   have e0 := nm hg hx0
   have hun : ∀ {g'}, g' ∈ gs → underB (g0 g') o = true := fun {g'} hg' => by
     obtain ⟨x1, hx1⟩ := List.exists_mem_of_length_pos (List.length_pos_iff.2 (p.hom g' hg').1)
     rw [← nm hg' hx1]; exact (hr x1 (gin hg' hx1)).un
   have hdel : ∀ {g'}, g' ∈ gs → (delB o g' = true ↔ belowB (g0 g') o = true ∧ hasR l (g0 g') 2 = true) := fun {g'} hg' => by
     rw [has hg', below_iff]
     unfold delB
     by_cases e : g0 g' = o
     · rw [if_pos e]; simp [e]
     · rw [if_neg e]; simp [e, hun hg']
   refine ⟨⟨hun hg, ?_, (uni hg).2 fun x hx y hy => ?_, fun e => ?_, fun e => onlyT_iff.2 fun y hy => ?_, fun e => onlyT_iff.2 fun y hy => ?_, fun e => ?_, fun e => ?_⟩, fun k => ?_, fun k => onlyT_iff.2 fun y hy => ?_⟩
   · rw [Bool.eq_iff_iff]
     constructor
     · intro h
       obtain ⟨x, hx, e⟩ := hasT_iff.1 h
       rw [← nm hg hx, (hr x (gin hg hx)).soa e]; simp
     · intro h
       have e : g0 g = o := eq_of_beq h
       exact hasT_iff.2 ⟨s, own hg hs1 (by rw [hs2, e]), hs3⟩
   · exact (beside_iff.1 (hr y (gin hg hy)).bes x (gin hg hx) (by rw [nm hg hx, nm hg hy])).1
   · rw [← has hg, e]; exact h2
   · obtain ⟨x, hx, e5⟩ := hasT_iff.1 e
     have := (beside_iff.1 (hr x (gin hg hx)).bes y (gin hg hy) (by rw [nm hg hx, nm hg hy])).2 e5
     simpa using this
   · obtain ⟨k1, k2⟩ := (hdel hg).1 e
     exact (hr y (gin hg hy)).del (by rw [nm hg hy]; exact k1) (by rw [nm hg hy]; exact k2)
   · cases h43 : hasT g 43 with
     | false => rfl
     | true =>
       obtain ⟨x, hx, e4⟩ := hasT_iff.1 h43
       refine absurd e4 ((hr x (gin hg hx)).ds fun k => ?_)
       rw [nm hg hx] at k
       rw [(hdel hg).2 k] at e; cases e
   · constructor
     · cases h43 : hasT g 2 with
       | false => rfl
       | true =>
         obtain ⟨x, hx, e4⟩ := hasT_iff.1 h43
         exact absurd e4 ((hr x (gin hg hx)).wild (by rw [nm hg hx]; exact e)).1
     · cases h43 : hasT g 39 with
       | false => rfl
       | true =>
         obtain ⟨x, hx, e4⟩ := hasT_iff.1 h43
         exact absurd e4 ((hr x (gin hg hx)).wild (by rw [nm hg hx]; exact e)).2
   · obtain ⟨g2, hg2, hc, hb⟩ := abv.1 k
     obtain ⟨y, hy, e⟩ := hasT_iff.1 hc
     exact r0.red y (gin hg2 hy) e (by rw [e0, nm hg2 hy]; exact hb)
   · obtain ⟨g2, hg2, hc, hb⟩ := abv.1 k
     obtain ⟨k1, k2⟩ := (hdel hg2).1 hc
     rw [has hg2] at k2
     obtain ⟨y2, hy2, e⟩ := hasT_iff.1 k2
     have := (hr y (gin hg hy)).cut y2 (gin hg2 hy2) e (by rw [nm hg2 hy2]; exact k1) (by rw [nm hg hy, nm hg2 hy2]; exact hb)
     simpa using this
theorem zID {l : List Rec} {gs : List (List Rec)} (hv : ∀ x ∈ l, vName x.name = true) (p : GrpP l gs) : GsP gs := by
 refine ⟨fun g hg => ?_, p.ord⟩
 obtain ⟨x, hx⟩ := List.exists_mem_of_length_pos (List.length_pos_iff.2 (p.hom g hg).1)
 rw [← (p.hom g hg).2 x hx]
 exact hv x (by rw [← p.fl]; exact List.mem_flatten.2 ⟨g, hg, hx⟩)
theorem zCH (z : Zone) : chkP z = chkZ z := by
 unfold chkP chkZ
 by_cases h1 : vName z.origin = false
 · rw [if_pos h1, if_pos h1]
 rw [if_neg h1, if_neg h1]
 by_cases h2 : 2048 < (z.recs.length : Int)
 · rw [if_pos h2, if_pos h2]
 rw [if_neg h2, if_neg h2]
 have e3 : (crwB z.recs = true) ↔ (z.recs.all (chk1 z) = false) := by
   unfold crwB
   rw [List.any_eq_true, List.all_eq_false]
   unfold chk1
   simp
 by_cases h3 : crwB z.recs = true
 · rw [if_pos h3, if_pos (e3.1 h3)]
 rw [if_neg h3, if_neg (fun q => h3 (e3.2 q))]
 have e4 : (z.recs.any badX = true) ↔ (z.recs.all zBd = false) := by
   rw [List.any_eq_true, List.all_eq_false]
   unfold badX
   simp
 by_cases h4 : z.recs.any badX = true
 · rw [if_pos h4, if_pos (e4.1 h4)]
 rw [if_neg h4, if_neg (fun q => h4 (e4.2 q))]
 by_cases h5 : eqL z.recs (zA4 z.recs) = false
 · rw [if_pos h5, if_pos h5]
 rw [if_neg h5, if_neg h5]
 have hv : ∀ x ∈ z.recs, vName x.name = true := fun x hx => by
   have : z.recs.all zBd = true := by
     cases q : z.recs.all zBd with
     | true => rfl
     | false => exact absurd (e4.2 q) h4
   exact (zA9 (List.all_eq_true.1 this x hx)).1
 have hs : Str z.recs := by
   have : z.recs = zA4 z.recs := of_decide_eq_true (by simpa [eqL] using h5)
   rw [this]; exact zBt _
 have p := zL2 hs hv
 have ho : vName z.origin = true := by simpa using h1
 have key := (zGe (o := z.origin) (zID hv p)).trans (zDx ho hs hv p)
 by_cases h6 : (((findR z.recs z.origin 6).length : Int) = 1 ∧ hasR z.recs z.origin 2 = true ∧ ∀ x ∈ z.recs, RP z.origin z.recs x)
 · obtain ⟨q, hq1, hq2⟩ := key.2 h6
   rw [hq1]
   simp only [hq2, if_true]
   rw [if_neg (fun q => q h6.1), if_neg (by rw [h6.2.1]; decide), if_neg]
   have : z.recs.all (chk3 z) = true := List.all_eq_true.2 fun x hx => (zC4 (hv x hx)).2 (h6.2.2 x hx)
   rw [this]; decide
 · have lhs : (match zrun z.origin (grpR z.recs) with | none => 13 | some q => if q.2.2 = true then (0 : Int) else 13) = 13 := by
     cases hz : zrun z.origin (grpR z.recs) with
     | none => rfl
     | some q =>
       simp only
       by_cases hq : q.2.2 = true
       · exact absurd (key.1 ⟨q, hz, hq⟩) h6
       · rw [if_neg hq]
   refine Eq.trans lhs ?_
   by_cases k1 : ((findR z.recs z.origin 6).length : Int) = 1
   · rw [if_neg (fun q => q k1)]
     by_cases k2 : hasR z.recs z.origin 2 = false
     · rw [if_pos k2]
     · rw [if_neg k2, if_pos]
       cases k3 : z.recs.all (chk3 z) with
       | false => rfl
       | true => exact absurd ⟨k1, by simpa using k2, fun x hx => (zC4 (hv x hx)).1 (List.all_eq_true.1 k3 x hx)⟩ h6
   · rw [if_pos k1]
theorem zL6 {α : Type} [Inhabited α] {p : α → Bool} : ∀ {l : List α}, l.any p = true → (l.filter p)[0]! = l[l.findIdx p]!
 | [], h => by simp at h
 | x :: r, h => by
   cases hx : p x with
   | true => simp [List.findIdx_cons, List.filter_cons, hx]
   | false =>
     have ih := zL6 (p := p) (l := r) (by simpa [hx] using h)
     simp [List.findIdx_cons, List.filter_cons, hx, ih]
theorem zB9 (z : Zone) : zCQ z = zAT z := by
 have hp : ∀ x, soaX z x = (x.name == z.origin && decide (x.typ = 6)) := fun x => by
   unfold soaX
   by_cases ht : x.typ = 6 <;> simp [ht]
 have hf : z.recs.filter (soaX z) = findR z.recs z.origin 6 := by unfold findR; exact List.filter_congr fun x _ => hp x
 unfold zCQ zAT
 rw [← hf]
 cases ha : z.recs.any (soaX z) with
 | false =>
   have he : z.recs.filter (soaX z) = [] := List.filter_eq_nil_iff.2 fun x hx hq => absurd hq (List.any_eq_false.1 ha x hx)
   rw [zFF ha, he]; rfl
 | true =>
   obtain ⟨s, hs, hq⟩ := List.any_eq_true.1 ha
   have hl := List.length_pos_of_mem (List.mem_filter.2 ⟨hs, hq⟩)
   have hi : zDi (soaX z) z.recs = (z.recs.findIdx (soaX z) : Int) := by rw [zDi, if_pos ha]
   rw [hi, if_pos (by omega), if_neg (by omega), Int.toNat_natCast, zL6 ha]
theorem alike_iff {a b : Rec} : alike a b = true ↔ a.name = b.name ∧ a.typ = b.typ ∧ a.dat = b.dat := by
 unfold alike; simp
theorem zBs {a b : Rec} (ha : VR1 a) (hb : VR1 b) : alike a b = true ↔ zAy a b = 0 := alike_iff.trans (zCh ha hb).symm
theorem zCG {a b : Rec} (h : ¬ zAy a b = 0) : cmpR a b = zAy a b := by unfold cmpR; rw [if_pos h]
theorem zOK {a b : Rec} (ha : VR1 a) (hb : VR1 b) (h : cmpR a b = 0) : a = b := by
 by_cases hf : zAy a b = 0
 · have h1 := (zCh ha hb).1 hf
   unfold cmpR at h
   rw [if_neg (fun q => q hf)] at h
   have h2 := zDc h
   obtain ⟨n1, t1, l1, d1⟩ := a
   obtain ⟨n2, t2, l2, d2⟩ := b
   simp only at h1 h2
   obtain ⟨rfl, rfl, rfl⟩ := h1
   subst h2; rfl
 · rw [zCG hf] at h; exact absurd h hf
theorem zBR : ∀ {l : List Rec}, (∀ r ∈ l, VR1 r) → (srt l = true ↔ Str l)
 | [], _ => by simp [srt, Str]
 | [a], _ => by simp [srt, Str]
 | a :: b :: r, hv => by
   have ih := zBR (l := b :: r) fun x hx => hv x (by simp [hx])
   have hal := zBs (hv a (by simp)) (hv b (by simp))
   rw [srt]
   constructor
   · intro h
     by_cases h1 : 0 ≤ cmpR a b
     · rw [if_pos h1] at h; cases h
     rw [if_neg h1] at h
     by_cases h2 : alike a b = true
     · rw [if_pos h2] at h; cases h
     rw [if_neg h2] at h
     have h3 : ¬ zAy a b = 0 := fun q => h2 (hal.2 q)
     rw [zCG h3] at h1
     have hs := ih.1 h
     refine str_cons.2 ⟨fun c hc => ?_, hs⟩
     rcases List.mem_cons.1 hc with rfl | hc
     · omega
     · exact zGn (by omega) ((str_cons.1 hs).1 c hc)
   · intro h
     obtain ⟨h1, h2⟩ := str_cons.1 h
     have h3 := h1 b (by simp)
     rw [if_neg (by rw [zCG (by omega)]; omega), if_neg (fun q => by have := hal.1 q; omega)]
     exact ih.2 h2
theorem zH6 {l : List Rec} {z : Rec} (h : l.Pairwise fun a b => ¬ zAy a b = 0) : (cz z l).length ≤ 1 := by
 have hp : (cz z l).Pairwise fun a b => ¬ zAy a b = 0 := List.Pairwise.filter _ h
 match hc : cz z l with
 | [] => simp
 | [_] => simp
 | a :: b :: r =>
   rw [hc] at hp
   have ha : a ∈ cz z l := by rw [hc]; simp
   have hb : b ∈ cz z l := by rw [hc]; simp
   have ea : zAy a z = 0 := of_decide_eq_true (List.mem_filter.1 ha).2
   have eb : zAy b z = 0 := of_decide_eq_true (List.mem_filter.1 hb).2
   exact absurd (zB2 ea (cmp_first.zero.1 eb)) ((List.pairwise_cons.1 hp).1 b (by simp))
theorem zE0 {l : List Rec} (h : l.length ≤ 1) : l.foldl bst [] = l := by
 match l with
 | [] => rfl
 | [_] => rfl
 | _ :: _ :: _ => simp at h
theorem zCX {l : List Rec} (h : Str l) : l.Pairwise fun a b => ¬ zAy a b = 0 := h.imp fun k e => by omega
theorem zCY {l : List Rec} (h : Str l) : zA4 l = l := zEd (zBt l) h fun z => by rw [zFC, zE0 (zH6 (zCX h))]
theorem zD2 {l : List Rec} (hv : ∀ r ∈ l, VR1 r) : srt l = eqL l (zA4 l) := by
 rw [Bool.eq_iff_iff, zBR hv]
 unfold eqL
 rw [decide_eq_true_eq]
 exact ⟨fun h => (zCY h).symm, fun h => by rw [h]; exact zBt _⟩
theorem zBF {l : List Rec} {o : List UInt8} (h : zAV l o = true) (hb : ∀ r ∈ l, BSm r.dat) : ∀ r ∈ l, VR1 r := fun r hr => by
 refine ⟨?_, hb r hr⟩
 have := List.all_eq_true.1 h r hr
 unfold insX at this
 split at this
 · cases this
 · simp_all
def BD (d : Delta) : Prop := (∀ r ∈ d.rem, BSm r.dat) ∧ ∀ r ∈ d.add, BSm r.dat
theorem zCC {d : Delta} (hb : BD d) : zCc d = chkD d := by
 unfold zCc chkD
 by_cases h1 : vName d.origin = false
 · rw [if_pos h1, if_pos h1]
 rw [if_neg h1, if_neg h1]
 by_cases h2 : 2048 < (d.rem.length : Int) ∨ 2048 < (d.add.length : Int)
 · rw [if_pos h2, if_pos h2]
 rw [if_neg h2, if_neg h2]
 by_cases h3 : inR d.fro = false ∨ inR d.til = false ∨ zBn d.til d.fro = false
 · rw [if_pos h3, if_pos h3]
 rw [if_neg h3, if_neg h3]
 by_cases h4 : zAV d.rem d.origin = false ∨ zAV d.add d.origin = false
 · rw [if_pos h4, if_pos h4]
 rw [if_neg h4, if_neg h4]
 have v1 : zAV d.rem d.origin = true := by cases q : zAV d.rem d.origin with | true => rfl | false => exact absurd (.inl q) h4
 have v2 : zAV d.add d.origin = true := by cases q : zAV d.add d.origin with | true => rfl | false => exact absurd (.inr q) h4
 have e : ((zAi d.rem d.add).length : Int) < d.rem.length ↔ ¬ ((zAi d.rem d.add).length : Int) = d.rem.length := by
   have := zA3 d.rem d.add; omega
 rw [zD2 (zBF v1 hb.1), zD2 (zBF v2 hb.2)]
 simp only [e]
structure DV (d : Delta) : Prop where
 vr : ∀ r ∈ d.rem, VR1 r
 va : ∀ r ∈ d.add, VR1 r
 sr : Str d.rem
 sa : Str d.add
theorem zLa {d : Delta} (hb : BD d) (h : chkD d = 0) : DV d := by
 unfold chkD at h
 by_cases h1 : vName d.origin = false
 · rw [if_pos h1] at h; cases h
 rw [if_neg h1] at h
 by_cases h2 : 2048 < (d.rem.length : Int) ∨ 2048 < (d.add.length : Int)
 · rw [if_pos h2] at h; cases h
 rw [if_neg h2] at h
 by_cases h3 : inR d.fro = false ∨ inR d.til = false ∨ zBn d.til d.fro = false
 · rw [if_pos h3] at h; cases h
 rw [if_neg h3] at h
 by_cases h4 : zAV d.rem d.origin = false ∨ zAV d.add d.origin = false
 · rw [if_pos h4] at h; cases h
 rw [if_neg h4] at h
 have v1 : zAV d.rem d.origin = true := by cases q : zAV d.rem d.origin with | true => rfl | false => exact absurd (.inl q) h4
 have v2 : zAV d.add d.origin = true := by cases q : zAV d.add d.origin with | true => rfl | false => exact absurd (.inr q) h4
 have w1 := zBF v1 hb.1
 have w2 := zBF v2 hb.2
 by_cases h5 : srt d.rem = false ∨ srt d.add = false ∨ ¬ ((zAi d.rem d.add).length : Int) = d.rem.length
 · rw [if_pos h5] at h; cases h
 refine ⟨w1, w2, (zBR w1).1 ?_, (zBR w2).1 ?_⟩
 · cases q : srt d.rem with | true => rfl | false => exact absurd (.inl q) h5
 · cases q : srt d.add with | true => rfl | false => exact absurd (.inr (.inl q)) h5
theorem zDO : ∀ (n : Nat) (A : List Rec) (x : Rec) (B : List Rec), A.length = n → Srt ltR (A ++ B) → (∀ b ∈ B, cmpR x b < 0) → (sink n (A ++ x :: B)).Perm (A ++ x :: B) ∧ Srt ltR (sink n (A ++ x :: B))
 | 0, A, x, B, hA, hs, hb => by
   have : A = [] := List.length_eq_zero_iff.1 hA
   subst this
   refine ⟨List.Perm.refl _, List.pairwise_cons.2 ⟨fun b h => decide_eq_false ?_, hs⟩⟩
   have := hb b h; have := cmp_rec.sym x b; omega
 | n + 1, A, x, B, hA, hs, hb => by
   rcases List.eq_nil_or_concat A with rfl | ⟨A', a, rfl⟩
   · simp at hA
   · rw [List.concat_eq_append] at *
     have hn : A'.length = n := by simpa using hA
     have e1 : (A' ++ [a] ++ x :: B)[n]! = a := by rw [getElem!_pos _ n (by simp; omega), List.getElem_append_left (by simp; omega), List.getElem_append_right (by omega)]; simp [hn]
     have e2 : (A' ++ [a] ++ x :: B)[n + 1]! = x := by rw [getElem!_pos _ (n + 1) (by simp; omega), List.getElem_append_right (by simp; omega)]; simp [hn]
     rw [sink, e1, e2]
     by_cases hc : 0 < cmpR a x
     · rw [if_pos hc]
       have e3 : ((A' ++ [a] ++ x :: B).set (n + 1) a).set n x = A' ++ x :: a :: B := by
         subst hn
         simp [List.set_append]
       rw [e3]
       have hxa : cmpR x a < 0 := (cmp_rec.sym x a).2 hc
       obtain ⟨h1, h2⟩ := zDO n A' x (a :: B) hn (by simpa using hs) fun b h => by
         rcases List.mem_cons.1 h with rfl | h
         · exact hxa
         · exact hb b h
       refine ⟨h1.trans ?_, h2⟩
       rw [List.append_assoc]
       exact List.Perm.append_left A' (List.Perm.swap a x B)
     · rw [if_neg hc]
       refine ⟨List.Perm.refl _, ?_⟩
       obtain ⟨p1, p2, p3⟩ := List.pairwise_append.1 hs
       refine List.pairwise_append.2 ⟨p1, List.pairwise_cons.2 ⟨fun b h => decide_eq_false ?_, p2⟩, fun y hy z hz => ?_⟩
       · have := hb b h; have := cmp_rec.sym x b; omega
       · rcases List.mem_cons.1 hz with rfl | hz
         · refine decide_eq_false ?_
           have h4 : cmpR y a ≤ 0 := by
             rcases List.mem_append.1 hy with hy | hy
             · have := of_decide_eq_false ((List.pairwise_append.1 p1).2.2 y hy a (by simp))
               have := cmp_rec.sym a y; have := cmp_rec.sym y a; omega
             · simp only [List.mem_singleton] at hy; subst hy; rw [cmp_rec.self]; exact Int.le_refl _
           have h5 := cmp_rec.tr h4 (show cmpR a z ≤ 0 by omega)
           have := cmp_rec.sym z y; have := cmp_rec.sym y z; omega
         · exact p3 y hy z hz
theorem zDQ : ∀ (l out : List Rec), Srt ltR out → (l.foldl (fun out x => sink out.length (out ++ [x])) out).Perm (out ++ l) ∧ Srt ltR (l.foldl (fun out x => sink out.length (out ++ [x])) out)
 | [], out, h => ⟨by simp, h⟩
 | x :: r, out, h => by
   obtain ⟨h1, h2⟩ := zDO out.length out x [] rfl (by simpa using h) (fun b hb => by cases hb)
   obtain ⟨h3, h4⟩ := zDQ r _ h2
   refine ⟨?_, h4⟩
   rw [List.foldl_cons]
   exact h3.trans (by simpa using List.Perm.append_right r h1)
theorem zCO (l : List Rec) : (ordR l).Perm l ∧ Srt ltR (ordR l) := by
 have := zDQ l [] List.Pairwise.nil
 simpa [ordR] using this
theorem zP9 {a b : List Rec} (ha : Srt ltR a) (hb : Srt ltR b) (hp : a.Perm b) (hv : ∀ x ∈ a, VR1 x) : a = b := by
 refine zKg wkR a b ha hb fun z => ?_
 have hq : (cls ltR z a).Perm (cls ltR z b) := hp.filter _
 match hl : cls ltR z a with
 | [] => rw [hl] at hq; exact (hq.nil_eq)
 | c :: r =>
   have hall : ∀ x ∈ cls ltR z a, x = c := fun x hx => by
     have hc : c ∈ cls ltR z a := by rw [hl]; simp
     obtain ⟨x1, x2, x3⟩ := mem_cls.1 hx
     obtain ⟨c1, c2, c3⟩ := mem_cls.1 hc
     have k1 := of_decide_eq_false x2; have k2 := of_decide_eq_false x3; have k3 := of_decide_eq_false c2; have k4 := of_decide_eq_false c3
     have s1 := cmp_rec.sym x z; have s2 := cmp_rec.sym z x; have s3 := cmp_rec.sym c z; have s4 := cmp_rec.sym z c; have s5 := cmp_rec.sym x c; have s6 := cmp_rec.sym c x
     have t1 := cmp_rec.tr (x := x) (y := z) (z := c) (by omega) (by omega)
     have t2 := cmp_rec.tr (x := c) (y := z) (z := x) (by omega) (by omega)
     exact zOK (hv x x1) (hv c c1) (by omega)
   have e1 : cls ltR z a = List.replicate (cls ltR z a).length c := List.eq_replicate_iff.2 ⟨rfl, hall⟩
   have e2 : cls ltR z b = List.replicate (cls ltR z a).length c := List.eq_replicate_iff.2 ⟨hq.length_eq.symm, fun x hx => hall x (hq.mem_iff.2 hx)⟩
   rw [← hl, e1, e2]
theorem zQv {l : List Rec} (hr : ∀ x ∈ l, RSm x) (hv : ∀ x ∈ l, VR1 x) : zDX l = ordR l := by
 obtain ⟨h1, h2⟩ := zJY hr
 obtain ⟨h3, h4⟩ := zCO l
 refine zP9 (List.pairwise_iff_getElem.2 fun i j hi hj hij => ?_) h4 (h1.trans h3.symm) fun x hx => hv x (h1.mem_iff.1 hx)
 have := h2 i j hij hj
 rw [getElem!_pos (zDX l) j hj, getElem!_pos (zDX l) i hi] at this
 exact decide_eq_false this
theorem zIr {l : List Rec} (h : l.Pairwise fun a b => ¬ zAy a b = 0) : Str (ordR l) := by
 obtain ⟨h1, h2⟩ := zCO l
 have h3 : (ordR l).Pairwise fun a b => ¬ zAy a b = 0 := (h1.pairwise_iff (fun {a b} k e => k (cmp_first.zero.1 e))).2 h
 refine List.Pairwise.imp (fun {a b} k => ?_) (List.Pairwise.and h2 h3)
 have k1 := of_decide_eq_false k.1
 have s1 := cmp_first.sym a b
 have k2 : ¬ zAy b a = 0 := fun e => k.2 (cmp_first.zero.1 e)
 rw [zCG k2] at k1
 have s2 := cmp_first.sym b a
 omega
structure ZV (z : Zone) : Prop where
 v : ∀ r ∈ z.recs, VR1 r
 s : Str z.recs
theorem zPU {z : Zone} (hb : ∀ r ∈ z.recs, BSm r.dat) (h : chkZ z = 0) : ZV z := by
 unfold chkZ at h
 by_cases h1 : vName z.origin = false
 · rw [if_pos h1] at h; cases h
 rw [if_neg h1] at h
 by_cases h2 : 2048 < (z.recs.length : Int)
 · rw [if_pos h2] at h; cases h
 rw [if_neg h2] at h
 by_cases h3 : z.recs.all (chk1 z) = false
 · rw [if_pos h3] at h; cases h
 rw [if_neg h3] at h
 by_cases h4 : z.recs.all zBd = false
 · rw [if_pos h4] at h; cases h
 rw [if_neg h4] at h
 by_cases h5 : eqL z.recs (zA4 z.recs) = false
 · rw [if_pos h5] at h; cases h
 refine ⟨fun r hr => ⟨List.all_eq_true.1 (by simpa using h4) r hr, hb r hr⟩, ?_⟩
 have : z.recs = zA4 z.recs := of_decide_eq_true (by simpa [eqL] using h5)
 rw [this]; exact zBt _
def BZ (z : Zone) : Prop := ∀ r ∈ z.recs, BSm r.dat
theorem zIF (a b : Zone) : zH5 a b = zBf a b := by
 unfold zH5 zBf
 rw [zCH, zCH, zB9, zB9]
def RD (d : Delta) : Prop := (∀ r ∈ d.rem, RSm r) ∧ ∀ r ∈ d.add, RSm r
theorem zTO {d e : Delta} (hd : BD d) (he : BD e) (rd : RD d) (re : RD e) (vd : DV d) (ve : DV e) : mrgP d e = mrgD d e := by
 have j : ∀ {a b c f : List Rec}, (∀ r ∈ a, RSm r) → (∀ r ∈ c, RSm r) → (∀ r ∈ a, VR1 r) → (∀ r ∈ c, VR1 r) → zDX (zAi a b ++ zAi c f) = both (zAi a b) (zAi c f) := fun {a b c f} r1 r2 v1 v2 => by
   unfold both
   refine zQv (fun x hx => ?_) (fun x hx => ?_) <;> rcases List.mem_append.1 hx with h | h
   · exact r1 x (List.mem_filter.1 h).1
   · exact r2 x (List.mem_filter.1 h).1
   · exact v1 x (List.mem_filter.1 h).1
   · exact v2 x (List.mem_filter.1 h).1
 unfold mrgP mrgD
 rw [j rd.1 re.1 vd.vr ve.vr, j rd.2 re.2 vd.va ve.va]
theorem yFm {d e : Delta} (hd : BD d) (he : BD e) : BD (mrgD d e) := by
 constructor <;> intro r hr <;> rcases List.mem_append.1 ((zCO _).1.mem_iff.1 hr) with h | h
 · exact hd.1 r (List.mem_filter.1 h).1
 · exact he.1 r (List.mem_filter.1 h).1
 · exact hd.2 r (List.mem_filter.1 h).1
 · exact he.2 r (List.mem_filter.1 h).1
theorem zOo {d e : Delta} (hd : BD d) (he : BD e) (rd : RD d) (re : RD e) : zDR d e = mergeD d e := by
 unfold zDR mergeD
 rw [zCC hd, zCC he]
 by_cases h1 : ¬ chkD d = 0
 · rw [if_pos h1, if_pos h1]
 rw [if_neg h1, if_neg h1]
 by_cases h2 : ¬ chkD e = 0
 · rw [if_pos h2, if_pos h2]
 rw [if_neg h2, if_neg h2]
 have vd := zLa hd (Classical.not_not.1 h1)
 have ve := zLa he (Classical.not_not.1 h2)
 rw [zTO hd he rd re vd ve, zCC (yFm hd he)]
 have e1 : ((zAi d.rem e.rem).length : Int) < d.rem.length ↔ ¬ ((zAi d.rem e.rem).length : Int) = d.rem.length := by
   have := zA3 d.rem e.rem; omega
 have e2 : ((zAi d.add e.add).length : Int) < d.add.length ↔ ¬ ((zAi d.add e.add).length : Int) = d.add.length := by
   have := zA3 d.add e.add; omega
 simp only [e1, e2]
def zDh (l : List Rec) : Bool := if 200 < (l.length : Int) then decide ((l.length : Int) ≤ 2048) else false
structure ZOk (z : Zone) : Prop where
 rw : ZRw z
 b : BZ z
structure DOk (d : Delta) : Prop where
 rw : DltRw d
 b : BD d
 g : BigD d
theorem DOk.r {d : Delta} (h : DOk d) : RD d := ⟨h.rw.2.1.2, h.rw.2.2.2⟩
theorem Sm.of_le {α : Type} {a b : List α} (h : Sm a) (hl : b.length ≤ a.length) : Sm b := by simp only [Sm] at h ⊢; omega
theorem zT0 {a b : Zone} (ha : ZRw a) (hb : ZRw b) : Sm (zBf a b).1.rem ∧ Sm (zBf a b).1.add := by
 have z : Sm dlt0.rem ∧ Sm dlt0.add := ⟨by simp only [Sm]; decide, by simp only [Sm]; decide⟩
 unfold zBf
 split
 · exact z
 · split
   · exact z
   · split
     · exact z
     · split
       · exact z
       · exact ⟨ha.2.1.of_le (zA3 _ _), hb.2.1.of_le (zA3 _ _)⟩
noncomputable def zFA := mkF (fun s : (List Rec) => [zAt s]) (fun s => True) (fun s => Res.flat (.bo (zDh s)))
theorem zEh {l : List Rec} : zFA [zAt l] = some (Res.flat (.bo (zDh l))) := zAB (s := (l)) (fun s s' h => by simp only [cI] at h; simp only [h]) trivial
theorem zFt (cx : Cx) (hP : cx.P = Tryz.prog) (hbs : cx.bs = 0) (l : List Rec)  : zAj cx Tryz.f11 [] false [zAt l] = some (Res.flat (.bo (zDh l))) := by
 refine zAg (rs := [.tmp 2]) rfl hbs rfl ?_
 repeat' first
   | (refine zAR (fun h => ?_) (fun h => ?_) <;> (try simp only [cN] at h))
   | (refine zAN ?_ ?_)
   | simp only [↓cD, cU, cQ, cP, cB, zAJ, unD, zAf, zAd, idx, reduceCtorEq, ↓reduceIte, ofV, ofC, zAq, Nat.reduceEqDiff, zAG, cG, implies_true, forall_const, immL, immD, Res.flat, ren, renL, Int.reduceEq, Int.reduceLT, Int.reduceLE, Int.reduceNe, deref, ldD, zAF, zAk, zAI, zAs, cC, ↓zAM, ↓zAQ, ↓zAL, ↓zAP, ↓zAK, ↓zAO, cV, cT, cF, cW, borT, borM, zAm, Res.via, zAu, zAb, refsB, Nat.reduceLT, Nat.reduceSub, Nat.reduceLeDiff, Nat.reduceMul, Nat.reduceAdd, Int.reduceToNat, appK, zAr, zAc, borL, zAl, zAn, zAE, cO, List.replicate, zAC, ofHp, ixOf, hP, *]
 all_goals first
   | rfl
   | (simp [zDh, *]; done)
   | (simp only [zDh]; split <;> simp_all <;> omega)
structure ZK (z : Zone) : Prop where
 c : chkZ z = 0
 vo : vName z.origin = true
 ln : ¬ 2048 < (z.recs.length : Int)
 v : ∀ r ∈ z.recs, VR1 r
 s : Str z.recs
 soa : ((findR z.recs z.origin 6).length : Int) = 1
 rp : ∀ x ∈ z.recs, RP z.origin z.recs x
theorem zPV {z : Zone} (hb : BZ z) (h : chkZ z = 0) : ZK z := by
 have zv := zPU hb h
 have h0 := h
 unfold chkZ at h
 by_cases h1 : vName z.origin = false
 · rw [if_pos h1] at h; cases h
 rw [if_neg h1] at h
 by_cases h2 : 2048 < (z.recs.length : Int)
 · rw [if_pos h2] at h; cases h
 rw [if_neg h2] at h
 by_cases h3 : z.recs.all (chk1 z) = false
 · rw [if_pos h3] at h; cases h
 rw [if_neg h3] at h
 by_cases h4 : z.recs.all zBd = false
 · rw [if_pos h4] at h; cases h
 rw [if_neg h4] at h
 by_cases h5 : eqL z.recs (zA4 z.recs) = false
 · rw [if_pos h5] at h; cases h
 rw [if_neg h5] at h
 by_cases h6 : ((findR z.recs z.origin 6).length : Int) = 1
 case neg => rw [if_pos h6] at h; cases h
 rw [if_neg (fun q => q h6)] at h
 by_cases h7 : hasR z.recs z.origin 2 = false
 · rw [if_pos h7] at h; cases h
 rw [if_neg h7] at h
 by_cases h8 : z.recs.all (chk3 z) = false
 · rw [if_pos h8] at h; cases h
 exact ⟨h0, by simpa using h1, h2, zv.v, zv.s, h6, fun x hx => (zC4 (zA9 (zv.v x hx).1).1).1 (List.all_eq_true.1 (by simpa using h8) x hx)⟩
theorem str_eq {l : List Rec} (h : Str l) {x y : Rec} (hx : x ∈ l) (hy : y ∈ l) (e : zAy x y = 0) : x = y :=
 zC1 (R := fun a b => zAy a b = 0 → a = b) (fun a b k e => (k (cmp_first.zero.1 e)).symm) (fun a _ => rfl) (h.imp fun {a b} k e => by omega) x hx y hy e
theorem zId {l r : List Rec} (hl : Str l) (hr : Str r) (h : ∀ x, x ∈ l ↔ x ∈ r) : l = r := zEd hl hr fun z => by
 have h1 := zH6 (z := z) (zCX hl)
 have h2 := zH6 (z := z) (zCX hr)
 have hm : ∀ x, x ∈ cz z l ↔ x ∈ cz z r := fun x => by unfold cz; rw [List.mem_filter, List.mem_filter, h x]
 match e1 : cz z l, e2 : cz z r with
 | [], [] => rfl
 | [x], [y] =>
   have := (hm x).1 (by rw [e1]; simp)
   rw [e2] at this
   simp only [List.mem_singleton] at this; rw [this]
 | [], y :: _ => have := (hm y).2 (by rw [e2]; simp); rw [e1] at this; cases this
 | x :: _, [] => have := (hm x).1 (by rw [e1]; simp); rw [e2] at this; cases this
 | _ :: _ :: _, _ => rw [e1] at h1; simp at h1
 | _, _ :: _ :: _ => rw [e2] at h2; simp at h2
theorem wo_mem {a b : List Rec} {x : Rec} : x ∈ zAi a b ↔ x ∈ a ∧ ¬ x ∈ b := by
 unfold zAi hasL
 rw [List.mem_filter, Bool.not_eq_true', List.any_eq_false]
 refine and_congr_right fun _ => ⟨fun h hx => h x hx (by simp), fun h y hy e => h (by rw [← of_decide_eq_true e]; exact hy)⟩
theorem zRq {a b : List Rec} (h : ∀ x ∈ a, x ∈ b) : zAi a b = [] := List.eq_nil_iff_forall_not_mem.2 fun x hx => (wo_mem.1 hx).2 (h x (wo_mem.1 hx).1)
theorem zRr {a b : List Rec} (h : ∀ x ∈ a, ¬ x ∈ b) : zAi a b = a := List.filter_eq_self.2 fun x hx => by
 unfold hasL
 rw [Bool.not_eq_true', List.any_eq_false]
 exact fun y hy e => h x hx (by rw [← of_decide_eq_true e]; exact hy)
theorem zDY {a b : List Rec} (h : Str a) : Str (zAi a b) := List.Pairwise.filter _ h
theorem both_mem {a b : List Rec} {x : Rec} : x ∈ both a b ↔ x ∈ a ∨ x ∈ b := by unfold both; rw [(zCO _).1.mem_iff, List.mem_append]
theorem zIK {a b : List Rec} (ha : Str a) (hb : Str b) (h : ∀ x ∈ a, ∀ y ∈ b, ¬ zAy x y = 0) : Str (both a b) := zIr (List.pairwise_append.2 ⟨zCX ha, zCX hb, h⟩)
theorem zJm {z : Zone} (k : ZK z) : ∃ s ∈ z.recs, s.name = z.origin ∧ s.typ = 6 ∧ zAT z = s.dat.a ∧ ∀ x ∈ z.recs, x.typ = 6 → x = s := by
 have h := k.soa
 match hf : findR z.recs z.origin 6 with
 | [] => rw [hf] at h; simp at h
 | _ :: _ :: _ => rw [hf] at h; simp only [List.length_cons] at h; omega
 | [s] =>
   obtain ⟨h1, h2, h3⟩ := find_mem.1 (show s ∈ findR z.recs z.origin 6 by rw [hf]; simp)
   refine ⟨s, h1, h2, h3, ?_, fun x hx e => ?_⟩
   · unfold zAT; rw [hf]; rfl
   · have := find_mem.2 ⟨hx, (k.rp x hx).soa e, e⟩
     rw [hf] at this
     simpa using this
theorem zN9 {z : Zone} (k : ZK z) : inR (zAT z) = true := by
 obtain ⟨s, hs, _, e6, es, _⟩ := zJm k
 have h := (zA9 (k.v s hs).1).2
 rw [e6] at h
 rw [es]
 unfold validD at h
 by_cases q1 : known 6 = false
 · rw [if_pos q1] at h; cases h
 rw [if_neg q1] at h
 by_cases q2 : zA1 6 s.dat = s.dat
 case neg => rw [if_pos q2] at h; cases h
 rw [if_neg (fun q => q q2), if_neg (by decide), if_neg (by decide), if_pos rfl, Bool.and_eq_true, Bool.and_eq_true, Bool.and_eq_true] at h
 exact h.2.2.1
theorem zMJ (x : Int) : zBn x x = false := by
 unfold zBn sCmp
 split
 · rfl
 · rw [Int.sub_self, if_pos (by decide)]; rfl
def difD (a b : Zone) : Delta := ⟨a.origin, zAT a, zAT b, zAi a.recs b.recs, zAi b.recs a.recs⟩
theorem zGt (a b : Zone) : ((¬ chkZ a = 0 ∨ ¬ chkZ b = 0 ∨ ¬ a.origin = b.origin) ∧ zBf a b = (dlt0, 13)) ∨ (chkZ a = 0 ∧ chkZ b = 0 ∧ a.origin = b.origin ∧ ((zBn (zAT b) (zAT a) = false ∧ zBf a b = (dlt0, 14)) ∨ (zBn (zAT b) (zAT a) = true ∧ zBf a b = (difD a b, 0)))) := by
 unfold zBf
 by_cases h1 : ¬ chkZ a = 0
 · rw [if_pos h1]; exact .inl ⟨.inl h1, rfl⟩
 rw [if_neg h1]
 by_cases h2 : ¬ chkZ b = 0
 · rw [if_pos h2]; exact .inl ⟨.inr (.inl h2), rfl⟩
 rw [if_neg h2]
 by_cases h3 : (a.origin == b.origin) = false
 · rw [if_pos h3]; exact .inl ⟨.inr (.inr (fun e => by rw [e] at h3; simp at h3)), rfl⟩
 rw [if_neg h3]
 refine .inr ⟨Classical.not_not.1 h1, Classical.not_not.1 h2, eq_of_beq (by simpa using h3), ?_⟩
 by_cases h4 : zBn (zAT b) (zAT a) = false
 · rw [if_pos h4]; exact .inl ⟨h4, rfl⟩
 · rw [if_neg h4]; exact .inr ⟨by simpa using h4, rfl⟩
theorem zLw {a : Zone} (k : ZK a) {l b : List Rec} (hl : l = zAi a.recs b) (hn : ∀ x ∈ b, x.typ = 6 → ¬ x.dat.a = zAT a) : zBy l a.origin (zAT a) = true := by
 subst hl
 obtain ⟨s, hs, e1, e2, e3, e4⟩ := zJm k
 unfold zBy
 have h1 : (zAi a.recs b).all (staX a.origin (zAT a)) = true := List.all_eq_true.2 fun x hx => by
   unfold staX
   by_cases h6 : x.typ = 6
   · rw [if_pos h6, e4 x (wo_mem.1 hx).1 h6, e1, e3]; simp
   · rw [if_neg h6]
 rw [if_neg (by rw [h1]; decide)]
 have hsm : s ∈ zAi a.recs b := wo_mem.2 ⟨hs, fun q => hn s q e2 e3.symm⟩
 have : (zAi a.recs b).filter soaD = [s] := zId (List.Pairwise.filter _ (zDY k.s)) (List.pairwise_singleton _ _) fun x => by
   rw [List.mem_filter, List.mem_singleton]
   constructor
   · rintro ⟨h, q⟩; exact e4 x (wo_mem.1 h).1 (of_decide_eq_true q)
   · rintro rfl; exact ⟨hsm, decide_eq_true e2⟩
 rw [this]; rfl
theorem zJ1 {a : Zone} (k : ZK a) {b : List Rec} : zAV (zAi a.recs b) a.origin = true := List.all_eq_true.2 fun x hx => by
 have hx := (wo_mem.1 hx).1
 unfold insX
 rw [if_neg (by rw [(k.v x hx).1]; decide)]
 exact (k.rp x hx).un
theorem zQT {a b : Zone} (ka : ZK a) (kb : ZK b) (ho : a.origin = b.origin) (hne : ¬ zAT a = zAT b) : chkD (difD a b) = if zBn (zAT b) (zAT a) = false then 14 else 0 := by
 unfold chkD difD
 simp only
 have l1 := zA3 a.recs b.recs
 have l2 := zA3 b.recs a.recs
 have n1 := ka.ln
 have n2 := kb.ln
 rw [if_neg (by rw [ka.vo]; decide), if_neg (fun q => by omega)]
 by_cases hs : zBn (zAT b) (zAT a) = false
 · rw [if_pos (.inr (.inr hs)), if_pos hs]
 rw [if_neg hs, if_neg (fun q => by
   rcases q with q | q | q
   · rw [zN9 ka] at q; cases q
   · rw [zN9 kb] at q; cases q
   · exact hs q)]
 have i2 : zAV (zAi b.recs a.recs) a.origin = true := by rw [ho]; exact zJ1 kb
 rw [if_neg (fun q => by
   rcases q with q | q
   · rw [zJ1 ka] at q; cases q
   · rw [i2] at q; cases q)]
 have s1 : srt (zAi a.recs b.recs) = true := (zBR fun r hr => ka.v r (wo_mem.1 hr).1).2 (zDY ka.s)
 have s2 : srt (zAi b.recs a.recs) = true := (zBR fun r hr => kb.v r (wo_mem.1 hr).1).2 (zDY kb.s)
 have s3 : zAi (zAi a.recs b.recs) (zAi b.recs a.recs) = zAi a.recs b.recs := zRr fun x hx q => (wo_mem.1 hx).2 (wo_mem.1 q).1
 rw [s1, s2, s3, if_neg (fun q => by
   rcases q with q | q | q
   · cases q
   · cases q
   · exact q rfl)]
 obtain ⟨sa, ha, a1, a2, a3, a4⟩ := zJm ka
 obtain ⟨sb, hb, b1, b2, b3, b4⟩ := zJm kb
 have t1 : zBy (zAi a.recs b.recs) a.origin (zAT a) = true := zLw ka rfl fun x hx e q => hne (by rw [b4 x hx e] at q; rw [b3, ← q])
 have t2 : zBy (zAi b.recs a.recs) b.origin (zAT b) = true := zLw kb rfl fun x hx e q => hne (by rw [a4 x hx e] at q; rw [a3, ← q])
 rw [← ho] at t2
 rw [t1, t2, if_neg (fun q => by rcases q with q | q <;> cases q)]
theorem zNS {z : Zone} {o : List UInt8} {l : List Rec} (h1 : o = z.origin) (h2 : l = z.recs) : (⟨o, l⟩ : Zone) = z := by subst h1 h2; rfl
theorem zLG {a b : Zone} (ka : ZK a) (kb : ZK b) (ho : a.origin = b.origin) {o : List UInt8} (eo : o = a.origin) {n : Int} (en : zAT a = n) : repD a o n (zAi a.recs b.recs) (zAi b.recs a.recs) = (b, 0) := by
 subst eo
 unfold repD
 have w0 : zAi (zAi a.recs b.recs) a.recs = [] := zRq fun x hx => (wo_mem.1 hx).1
 rw [if_neg (fun q => by
   rcases q with q | q | q | q
   · exact q ka.c
   · simp at q
   · exact q en
   · rw [w0] at q; simp at q)]
 have wm : ∀ x, x ∈ zAi a.recs (zAi a.recs b.recs) ↔ x ∈ a.recs ∧ x ∈ b.recs := fun x => by
   rw [wo_mem]
   refine and_congr_right fun hx => ⟨fun h => Classical.byContradiction fun q => h (wo_mem.2 ⟨hx, q⟩), fun h q => (wo_mem.1 q).2 h⟩
 have hno : ∀ x ∈ zAi a.recs (zAi a.recs b.recs), ∀ y ∈ zAi b.recs a.recs, ¬ zAy x y = 0 := fun x hx y hy e => by
   have h1 := (wm x).1 hx
   have h2 := wo_mem.1 hy
   have := str_eq kb.s h1.2 h2.1 e
   subst this
   exact h2.2 h1.1
 have hold : ¬ zDr (zAi a.recs (zAi a.recs b.recs)) (zAi b.recs a.recs) = true := fun q => by
   obtain ⟨x, hx, q⟩ := List.any_eq_true.1 q
   obtain ⟨y, hy, q⟩ := List.any_eq_true.1 q
   exact hno x hx y hy ((zBs (ka.v x (wo_mem.1 hx).1) (kb.v y (wo_mem.1 hy).1)).1 q)
 have hb : both (zAi a.recs (zAi a.recs b.recs)) (zAi b.recs a.recs) = b.recs := zId (zIK (zDY ka.s) (zDY kb.s) hno) kb.s fun x => by
   rw [both_mem, wm, wo_mem]
   constructor
   · rintro (⟨_, h⟩ | ⟨h, _⟩) <;> exact h
   · intro h
     by_cases q : x ∈ a.recs
     · exact .inl ⟨q, h⟩
     · exact .inr ⟨h, q⟩
 rw [if_neg hold, zNS ho hb, if_neg (fun q => q kb.c)]
theorem zNP {a b : Zone} (ka : ZK a) (kb : ZK b) (ho : a.origin = b.origin) (hs : zBn (zAT b) (zAT a) = true) : chkD (difD a b) = 0 ∧ appD a (difD a b) = (b, 0) ∧ zDV b (difD a b) = (a, 0) := by
 have hne : ¬ zAT a = zAT b := fun e => by rw [e, zMJ] at hs; cases hs
 have hc : chkD (difD a b) = 0 := by rw [zQT ka kb ho hne, if_neg (by rw [hs]; decide)]
 refine ⟨hc, ?_, ?_⟩
 · unfold appD
   rw [if_neg (fun q => q hc)]
   exact zLG ka kb ho rfl rfl
 · unfold zDV
   rw [if_neg (fun q => q hc)]
   exact zLG kb ka ho.symm ho rfl
theorem zXD {a b c : Zone} (ka : ZK a) (kb : ZK b) (kc : ZK c) (h1 : a.origin = b.origin) (h2 : b.origin = c.origin) (s1 : zBn (zAT b) (zAT a) = true) (s2 : zBn (zAT c) (zAT b) = true) :
   mergeD (difD a b) (difD b c) = if ¬ chkD (difD a c) = 0 then (dlt0, chkD (difD a c)) else (difD a c, 0) := by
 have d1 := (zNP ka kb h1 s1).1
 have d2 := (zNP kb kc h2 s2).1
 unfold mergeD
 rw [if_neg (fun q => q d1), if_neg (fun q => q d2), if_neg (by unfold difD; simp [h1]), if_neg (fun q => q rfl)]
 have w1 : zAi (difD a b).rem (difD b c).rem = (difD a b).rem := zRr fun x hx q => (wo_mem.1 hx).2 (wo_mem.1 q).1
 have w2 : zAi (difD a b).add (difD b c).add = (difD a b).add := zRr fun x hx q => (wo_mem.1 q).2 (wo_mem.1 hx).1
 rw [w1, w2, if_neg (fun q => q rfl), if_neg (fun q => q rfl)]
 have hm : mrgD (difD a b) (difD b c) = difD a c := by
   have key : ∀ {l m n : List Rec}, Str l → Str m → Str n → both (zAi (zAi l m) (zAi n m)) (zAi (zAi m n) (zAi m l)) = zAi l n := fun {l m n} hl hm hn => by
     have mem1 : ∀ x, x ∈ zAi (zAi l m) (zAi n m) ↔ x ∈ l ∧ ¬ x ∈ m ∧ ¬ x ∈ n := fun x => by
       rw [wo_mem, wo_mem, wo_mem]
       exact ⟨fun ⟨⟨p, q⟩, r⟩ => ⟨p, q, fun e => r ⟨e, q⟩⟩, fun ⟨p, q, r⟩ => ⟨⟨p, q⟩, fun e => r e.1⟩⟩
     have mem2 : ∀ x, x ∈ zAi (zAi m n) (zAi m l) ↔ x ∈ m ∧ x ∈ l ∧ ¬ x ∈ n := fun x => by
       rw [wo_mem, wo_mem, wo_mem]
       exact ⟨fun ⟨⟨p, q⟩, r⟩ => ⟨p, Classical.byContradiction fun e => r ⟨p, e⟩, q⟩, fun ⟨p, q, r⟩ => ⟨⟨p, r⟩, fun e => e.2 q⟩⟩
     refine zId (zIK (zDY (zDY hl)) (zDY (zDY hm)) fun x hx y hy e => ?_) (zDY hl) fun x => ?_
     · have p := (mem1 x).1 hx
       have q := (mem2 y).1 hy
       have := str_eq hl p.1 q.2.1 e
       subst this
       exact p.2.1 q.1
     · rw [both_mem, mem1, mem2, wo_mem]
       constructor
       · rintro (⟨p, _, q⟩ | ⟨_, p, q⟩) <;> exact ⟨p, q⟩
       · rintro ⟨p, q⟩
         by_cases r : x ∈ m
         · exact .inr ⟨r, p, q⟩
         · exact .inl ⟨p, r, q⟩
   have key2 : ∀ {l m n : List Rec}, Str l → Str m → Str n → both (zAi (zAi m l) (zAi m n)) (zAi (zAi n m) (zAi l m)) = zAi n l := fun {l m n} hl hm hn => by
     have mem1 : ∀ x, x ∈ zAi (zAi m l) (zAi m n) ↔ x ∈ n ∧ x ∈ m ∧ ¬ x ∈ l := fun x => by
       rw [wo_mem, wo_mem, wo_mem]
       exact ⟨fun ⟨⟨p, q⟩, r⟩ => ⟨Classical.byContradiction fun e => r ⟨p, e⟩, p, q⟩, fun ⟨p, q, r⟩ => ⟨⟨q, r⟩, fun e => e.2 p⟩⟩
     have mem2 : ∀ x, x ∈ zAi (zAi n m) (zAi l m) ↔ x ∈ n ∧ ¬ x ∈ m ∧ ¬ x ∈ l := fun x => by
       rw [wo_mem, wo_mem, wo_mem]
       exact ⟨fun ⟨⟨p, q⟩, r⟩ => ⟨p, q, fun e => r ⟨e, q⟩⟩, fun ⟨p, q, r⟩ => ⟨⟨p, q⟩, fun e => r e.1⟩⟩
     refine zId (zIK (zDY (zDY hm)) (zDY (zDY hn)) fun x hx y hy e => ?_) (zDY hn) fun x => ?_
     · have p := (mem1 x).1 hx
       have q := (mem2 y).1 hy
       have := str_eq hn p.1 q.1 e
       subst this
       exact q.2.1 p.2.1
     · rw [both_mem, mem1, mem2, wo_mem]
       constructor
       · rintro (⟨p, _, q⟩ | ⟨p, _, q⟩) <;> exact ⟨p, q⟩
       · rintro ⟨p, q⟩
         by_cases r : x ∈ m
         · exact .inl ⟨p, r, q⟩
         · exact .inr ⟨p, r, q⟩
   unfold mrgD difD
   simp only [key ka.s kb.s kc.s, key2 ka.s kb.s kc.s]
 rw [hm]
theorem zPO {a b : Zone} (ha : ZRw a) (hb : ZRw b) : DltRw (difD a b) :=
 ⟨ha.1, ⟨ha.2.1.of_le (zA3 _ _), fun r hr => ha.2.2 r (wo_mem.1 hr).1⟩, hb.2.1.of_le (zA3 _ _), fun r hr => hb.2.2 r (wo_mem.1 hr).1⟩
theorem zWT {a b : Zone} (ha : BZ a) (hb : BZ b) : BD (difD a b) := ⟨fun r hr => ha r (wo_mem.1 hr).1, fun r hr => hb r (wo_mem.1 hr).1⟩
theorem zMF {a b : Zone} (h : (zBf a b).2 = 0) : chkZ a = 0 ∧ chkZ b = 0 ∧ a.origin = b.origin ∧ zBn (zAT b) (zAT a) = true ∧ (zBf a b).1 = difD a b := by
 rcases zGt a b with ⟨_, e⟩ | ⟨h1, h2, h3, ⟨h4, e⟩ | ⟨h4, e⟩⟩
 · rw [e] at h; simp at h
 · rw [e] at h; simp at h
 · exact ⟨h1, h2, h3, h4, by rw [e]⟩
theorem after_iff {x y : Int} : zBn x y = true ↔ inR x = true ∧ inR y = true ∧ 2147483648 < (y - x) % 4294967296 := by
 unfold zBn sCmp
 by_cases h : inR x = false ∨ inR y = false
 · rw [if_pos h]
   rcases h with h | h <;> simp [h]
 · have h1 : inR x = true := by cases q : inR x with | true => rfl | false => exact absurd (.inl q) h
   have h2 : inR y = true := by cases q : inR y with | true => rfl | false => exact absurd (.inr q) h
   rw [if_neg h, h1, h2]
   split
   · simp; omega
   · split
     · simp; omega
     · split
       · simp; omega
       · simp; omega
theorem yDb {x y z : Int} (h1 : zBn y x = true) (h2 : zBn z y = true) : ¬ x = z := fun e => by
 subst e
 have a := (after_iff.1 h1).2.2
 have b := (after_iff.1 h2).2.2
 omega
theorem yH7 {a b c : Zone} (ha : BZ a) (hb : BZ b) (hc : BZ c) (h1 : (zBf a b).2 = 0) (h2 : (zBf b c).2 = 0) :
   mergeD (zBf a b).1 (zBf b c).1 = zBf a c ∧ (¬ (zBf a c).2 = 0 → (zBf a c).2 = 14) := by
 obtain ⟨k1, k2, k3, k4, k5⟩ := zMF h1
 obtain ⟨l1, l2, l3, l4, l5⟩ := zMF h2
 have ka := zPV ha k1
 have kb := zPV hb k2
 have kc := zPV hc l2
 rw [k5, l5, zXD ka kb kc k3 l3 k4 l4, zQT ka kc (k3.trans l3) (yDb k4 l4)]
 rcases zGt a c with ⟨q, _⟩ | ⟨_, _, _, ⟨h4, e⟩ | ⟨h4, e⟩⟩
 · rcases q with q | q | q
   · exact absurd k1 q
   · exact absurd l2 q
   · exact absurd (k3.trans l3) q
 · rw [e, if_pos h4]; exact ⟨rfl, fun _ => rfl⟩
 · rw [e, if_neg (by rw [h4]; decide)]; exact ⟨rfl, fun q => absurd rfl q⟩

theorem step_ret {a b c : Zone} (ha : ZOk a) (hb : ZOk b) (hc : ZOk c) (h1 : (zBf a b).2 = 0) (h2 : (zBf b c).2 = 0) : zEm [zAS (zBf a b).1, zAS (zBf b c).1] = some (Res.via (.tup [zAS (zBf a c).1, .it .i64 (zBf a c).2])) ∧ (¬ (zBf a c).2 = 0 → (zBf a c).2 = 14) := by
 obtain ⟨m1, m2⟩ := yH7 ha.b hb.b hc.b h1 h2
 refine ⟨?_, m2⟩
 obtain ⟨_, _, _, _, k5⟩ := zMF h1
 obtain ⟨_, _, _, _, l5⟩ := zMF h2
 have r1 : DltRw (zBf a b).1 := by rw [k5]; exact zPO ha.rw hb.rw
 have r2 : DltRw (zBf b c).1 := by rw [l5]; exact zPO hb.rw hc.rw
 have b1 : BD (zBf a b).1 := by rw [k5]; exact zWT ha.b hb.b
 have b2 : BD (zBf b c).1 := by rw [l5]; exact zWT hb.b hc.b
 have := zGu (d := (zBf a b).1) (e := (zBf b c).1) ⟨r1, r2⟩
 rwa [zOo b1 b2 ⟨r1.2.1.2, r1.2.2.2⟩ ⟨r2.2.1.2, r2.2.2.2⟩, m1] at this

noncomputable def FSteps := mkF (fun s : Zone × Zone × Zone => [zAU s.1, zAU s.2.1, zAU s.2.2]) (fun s => ZOk s.1 ∧ ZOk s.2.1 ∧ ZOk s.2.2) (fun s => Res.flat (.bo true))
theorem FSteps_eq {a : Zone} {b : Zone} {c : Zone} (hp : ZOk a ∧ ZOk b ∧ ZOk c) : FSteps [zAU a, zAU b, zAU c] = some (Res.flat (.bo true)) := zAB (s := (a, b, c)) (fun s s' h => by simp only [cI] at h; simp only [h]) hp
theorem yBz (cx : Cx) (hP : cx.P = Tryz.prog) (hbs : cx.bs = 0) (h11 : cx.orc 11 = some zFA) (h13 : cx.orc 13 = some zEM) (h21 : cx.orc 21 = some zEm) (h15 : cx.orc 15 = some zDT) (h12 : cx.orc 12 = some zF6) (a b c : Zone) (hl : ZOk a ∧ ZOk b ∧ ZOk c) : zAj cx Tryz.f8 [] false [zAU a, zAU b, zAU c] = some (Res.flat (.bo true)) := by
 have c11 := zAa h11
 have c13 := zAa h13
 have c21 := zAa h21
 have c15 := zAa h15
 have c12 := zAa h12
 have f1 : zEM [zAU a, zAU b] = some (Res.via (.tup [zAS (zBf a b).1, .it .i64 (zBf a b).2])) := by have := zEc (z := a) (z2 := b) ⟨hl.1.rw, hl.2.1.rw⟩; rwa [zIF] at this
 have f2 : zEM [zAU b, zAU c] = some (Res.via (.tup [zAS (zBf b c).1, .it .i64 (zBf b c).2])) := by have := zEc (z := b) (z2 := c) ⟨hl.2.1.rw, hl.2.2.rw⟩; rwa [zIF] at this
 have f3 : zEM [zAU a, zAU c] = some (Res.via (.tup [zAS (zBf a c).1, .it .i64 (zBf a c).2])) := by have := zEc (z := a) (z2 := c) ⟨hl.1.rw, hl.2.2.rw⟩; rwa [zIF] at this
 have f4 : (zBf a b).2 = 0 → (zBf b c).2 = 0 → zEm [zAS (zBf a b).1, zAS (zBf b c).1] = some (Res.via (.tup [zAS (zBf a c).1, .it .i64 (zBf a c).2])) := fun h1 h2 => (step_ret hl.1 hl.2.1 hl.2.2 h1 h2).1
 have h14 : (zBf a b).2 = 0 → (zBf b c).2 = 0 → ¬ (zBf a c).2 = 0 → (zBf a c).2 = 14 := fun h1 h2 => (step_ret hl.1 hl.2.1 hl.2.2 h1 h2).2
 have s1 : zDT [zAS (zBf a c).1, zAS (zBf a c).1] = some (Res.flat (.bo true)) := by have := zC7 (d := (zBf a c).1) (e := (zBf a c).1) (zT0 hl.1.rw hl.2.2.rw); rwa [zDI] at this
 generalize zBf a b = q at *
 generalize zBf b c = q2 at *
 generalize zBf a c = q3 at *
 refine zAg (rs := [.tmp 6]) rfl hbs rfl ?_
 repeat' first
   | (refine zAR (fun h => ?_) (fun h => ?_) <;> (try simp only [cN] at h))
   | (refine zAN ?_ ?_)
   | simp (config := { decide := true }) only [↓cD, cU, cQ, cP, cB, zAJ, unD, zAf, zAd, idx, reduceCtorEq, ↓reduceIte, ofV, ofC, zAq, Nat.reduceEqDiff, zAG, cG, implies_true, forall_const, immL, immD, Res.flat, ren, renL, Int.reduceEq, Int.reduceLT, Int.reduceLE, Int.reduceNe, deref, ldD, zAF, zAk, zAI, zAs, cC, c11, c13, c21, c15, c12, zAo, zAp, zEh, zEc, zGu, zC7, zF5, ↓zAM, ↓zAQ, ↓zAL, ↓zAP, ↓zAK, ↓zAO, cV, cT, cF, cW, borT, borM, zAm, Res.via, zAu, zAb, refsB, Nat.reduceLT, Nat.reduceSub, Nat.reduceLeDiff, Nat.reduceMul, Nat.reduceAdd, Int.reduceToNat, appK, zAr, zAc, borL, zAl, zAn, zAE, cO, List.replicate, zAC, ofHp, ixOf, f1, f2, f3, f4, s1, h14, hP, *]
 all_goals first
   | rfl
noncomputable def K0 : Known := ⟨Tryz.prog, [], [], []⟩
theorem ok0 : K0.OK := Known.OK.none _
theorem follows : Tryz.prog.follows .mixedOrders = true := by kernel_rfl
abbrev kN : Nat → Option (List Nat) := fun _ => none
theorem addK (n : Nat) {K : Known} (h : K.OK) {g : FuncId} {fn : Func} {c : Code} (kp : Nat → Option (List Nat)) (hb : Body K.P (K.cx kp).rd g fn c) {σ : Type} {enc : σ → List D} {pre : σ → Prop} {out : σ → Res} (hF : ∀ s, pre s → zAj (K.cx kp) fn [] false (enc s) = some (out s)) (hl : ∀ s, (enc s).length = n := by intro _; rfl) (hn : n ≤ fn.ntmps := by decide) (hP : K.P.follows .mixedOrders = true := by exact follows) : (K.pure g (mkF enc pre out)).OK := Known.add h hP kp hb hn hl [] false hF
theorem zBp (n : Nat) {K : Known} (h : K.OK) {g : FuncId} {fn : Func} {c : Code} (kp : Nat → Option (List Nat)) (hb : Body K.P (K.cx kp).rd g fn c) {σ : Type} {enc : σ → List D} {pre : σ → Prop} {out : σ → Res} (hF : ∀ s, pre s → zAj (K.cx kp) fn [0] false (enc s) = some (out s)) (hl : ∀ s, (enc s).length = n := by intro _; rfl) (hn : n ≤ fn.ntmps := by decide) (hP : K.P.follows .mixedOrders = true := by exact follows) : (K.pure g (mkF enc pre out)).OK := Known.add h hP kp hb hn hl [0] false hF
noncomputable def K1 : Known := K0.pure 11 zFA
theorem ok1 : K1.OK := addK 1 ok0 kN ⟨Tryz.func11, rfl, by kernel_rfl, by kernel_rfl⟩ (fun s hp => zFt (K0.cx _) rfl rfl (s))
noncomputable def K2 : Known := K1.pure 112 FSuf
theorem ok2 : K2.OK := addK 2 ok1 kN ⟨Tryz.func112, rfl, by kernel_rfl, by kernel_rfl⟩ (fun s hp => zJo (K1.cx _) rfl rfl (s.1) (s.2) hp)
noncomputable def K3 : Known := K2.pure 82 FSuf
theorem ok3 : K3.OK := addK 2 ok2 kN ⟨Tryz.func82, rfl, by kernel_rfl, by kernel_rfl⟩ (fun s hp => zMZ (K2.cx _) rfl rfl rfl (s.1) (s.2) hp)
noncomputable def K4 : Known := K3.ext 176 zI5
theorem ok4 : K4.OK := ok3.ext (zFZ Tryz.func176 (by kernel_rfl) (by kernel_rfl) (by kernel_rfl) (by kernel_rfl))
noncomputable def K5 : Known := K4.pure 150 FCnt
theorem ok5 : K5.OK := addK 2 ok4 (fun i => if i = 6 then some [0, 1, 5] else  none) ⟨Tryz.func150, rfl, by kernel_rfl, by kernel_rfl⟩ (fun s hp => zNi (K4.cx _) rfl rfl rfl rfl rfl (s.1) (s.2))
noncomputable def K6 : Known := K5.ext 205 FIxB
theorem ok6 : K6.OK := ok5.ext (zJZ Tryz.func205 (by kernel_rfl) (by kernel_rfl) (by kernel_rfl) (by kernel_rfl))
noncomputable def K7 : Known := K6.pure 195 zPn
theorem ok7 : K7.OK := addK 2 ok6 kN ⟨Tryz.func195, rfl, by kernel_rfl, by kernel_rfl⟩ (fun s hp => zJF (K6.cx _) rfl rfl rfl rfl (s.1) (s.2))
noncomputable def K8 : Known := K7.pure 177 FIdx
theorem ok8 : K8.OK := addK 2 ok7 (fun i => if i = 15 then some [0, 1, 5, 6, 7, 8, 9, 10] else  none) ⟨Tryz.func177, rfl, by kernel_rfl, by kernel_rfl⟩ (fun s hp => zJH (K7.cx _) rfl rfl rfl rfl (s.1) (s.2))
noncomputable def K9 : Known := K8.pure 151 FIdx
theorem ok9 : K9.OK := addK 2 ok8 kN ⟨Tryz.func151, rfl, by kernel_rfl, by kernel_rfl⟩ (fun s hp => zNb (K8.cx _) rfl rfl rfl (s.1) (s.2))
noncomputable def K10 : Known := K9.pure 113 FGen
theorem ok10 : K10.OK := zBp 4 ok9 (fun i => if i = 11 then some [0, 1, 2, 3, 9, 10] else  none) ⟨Tryz.func113, rfl, by kernel_rfl, by kernel_rfl⟩ (fun s hp => zNc (K9.cx _) rfl rfl rfl rfl rfl (s.1) (s.2) hp)
noncomputable def K11 : Known := K10.pure 83 FSpl
theorem ok11 : K11.OK := zBp 2 ok10 kN ⟨Tryz.func83, rfl, by kernel_rfl, by kernel_rfl⟩ (fun s hp => zM0 (K10.cx _) rfl rfl rfl (s.1) (s.2) hp)
noncomputable def K12 : Known := K11.pure 84 zPj
theorem ok12 : K12.OK := addK 1 ok11 (fun i => if i = 4 then some [0, 13, 14] else  none) ⟨Tryz.func84, rfl, by kernel_rfl, by kernel_rfl⟩ (fun s hp => zJw (K11.cx _) rfl rfl rfl (s) hp)
noncomputable def K13 : Known := K12.pure 42 zF1
theorem ok13 : K13.OK := addK 1 ok12 (fun i => if i = 6 then some [20, 21, 22] else  none) ⟨Tryz.func42, rfl, by kernel_rfl, by kernel_rfl⟩ (fun s hp => zHe (K12.cx _) rfl rfl rfl rfl rfl rfl (s) hp)
noncomputable def K14 : Known := K13.pure 86 zPm
theorem ok14 : K14.OK := addK 2 ok13 kN ⟨Tryz.func86, rfl, by kernel_rfl, by kernel_rfl⟩ (fun s hp => zJD (K13.cx _) rfl rfl (s.1) (s.2))
theorem zDz : ∀ w, (isAgg (Go.Proofs.Tryz.sortKey_ren.t 24)).run Tryz.prog w = .ok true w := fun w => by rw [show Go.Proofs.Tryz.sortKey_ren.t 24 = 83 from rfl]; first | rfl | (unfold isAgg; simp [run_underlying Tryz.underlying83])
theorem zCN : ∀ w, (Go.sizeOf (Go.Proofs.Tryz.sortKey_ren.t 24)).run Tryz.prog w = .ok 2 w := fun w => by rw [show Go.Proofs.Tryz.sortKey_ren.t 24 = 83 from rfl]; first | rfl | (unfold Go.sizeOf; simp)
noncomputable def K15 : Known := K14.eff 85 FSK
theorem ok15 : K15.OK := ok14.eff (zDe (ρ := Go.Proofs.Tryz.sortKey_ren) Go.Proofs.Tryz.sortKey ⟨_, rfl, rfl, by kernel_rfl⟩ zDz zCN (α := Key) keyL (fun _ => rfl) (by decide) (fun x d hd => by simp [keyL] at hd; rcases hd with rfl | rfl <;> rfl) keyC cmp_key.swo (Known.OK.get ok14 86 rfl) (fun x y => zGq))
noncomputable def K16 : Known := K15.pure 43 FCrw
theorem ok16 : K16.OK := addK 1 ok15 (fun i => if i = 3 then some [3, 12, 13, 14] else if i = 10 then some [3, 6, 29, 30, 31] else  none) ⟨Tryz.func43, rfl, by kernel_rfl, by kernel_rfl⟩ (fun s hp => zNf (K15.cx _) rfl rfl rfl rfl rfl rfl rfl rfl rfl (s) hp)
noncomputable def K17 : Known := K16.pure 160 zKb
theorem ok17 : K17.OK := addK 0 ok16 kN ⟨Tryz.func160, rfl, by kernel_rfl, by kernel_rfl⟩ (fun s hp => zHq (K16.cx _) rfl rfl)
noncomputable def K18 : Known := K17.pure 115 zKc
theorem ok18 : K18.OK := addK 1 ok17 (fun i => if i = 2 then some [0, 2, 6, 7, 8] else  none) ⟨Tryz.func115, rfl, by kernel_rfl, by kernel_rfl⟩ (fun s hp => zHr (K17.cx _) rfl rfl rfl rfl (s))
noncomputable def K19 : Known := K18.pure 88 zG5
theorem ok19 : K19.OK := addK 1 ok18 kN ⟨Tryz.func88, rfl, by kernel_rfl, by kernel_rfl⟩ (fun s hp => zFT (K18.cx _) rfl rfl rfl (s))
noncomputable def K20 : Known := K19.pure 116 zG3
theorem ok20 : K20.OK := addK 1 ok19 kN ⟨Tryz.func116, rfl, by kernel_rfl, by kernel_rfl⟩ (fun s hp => zHf (K19.cx _) rfl rfl (s))
noncomputable def K21 : Known := K20.pure 181 FPre
theorem ok21 : K21.OK := addK 2 ok20 kN ⟨Tryz.func181, rfl, by kernel_rfl, by kernel_rfl⟩ (fun s hp => zJv (K20.cx _) rfl rfl (s.1) (s.2) hp)
noncomputable def K22 : Known := K21.pure 161 FPre
theorem ok22 : K22.OK := addK 2 ok21 kN ⟨Tryz.func161, rfl, by kernel_rfl, by kernel_rfl⟩ (fun s hp => zM6 (K21.cx _) rfl rfl rfl (s.1) (s.2) hp)
noncomputable def K23 : Known := K22.pure 117 zKF
theorem ok23 : K23.OK := addK 1 ok22 kN ⟨Tryz.func117, rfl, by kernel_rfl, by kernel_rfl⟩ (fun s hp => zFU (K22.cx _) rfl rfl rfl rfl (s) hp)
noncomputable def K24 : Known := K23.pure 55 zCj
theorem ok24 : K24.OK := addK 1 ok23 kN ⟨Tryz.func55, rfl, by kernel_rfl, by kernel_rfl⟩ (fun s hp => zEC (K23.cx _) rfl rfl (s))
noncomputable def K25 : Known := K24.pure 118 FInB
theorem ok25 : K25.OK := addK 2 ok24 kN ⟨Tryz.func118, rfl, by kernel_rfl, by kernel_rfl⟩ (fun s hp => zNa (K24.cx _) rfl rfl (s.1) (s.2))
noncomputable def K26 : Known := K25.pure 119 zFn
theorem ok26 : K26.OK := addK 1 ok25 kN ⟨Tryz.func119, rfl, by kernel_rfl, by kernel_rfl⟩ (fun s hp => zFN (K25.cx _) rfl rfl (s))
noncomputable def K27 : Known := K26.pure 120 zPt
theorem ok27 : K27.OK := addK 0 ok26 (fun i => if i = 3 then some [1, 4, 5, 6] else  none) ⟨Tryz.func120, rfl, by kernel_rfl, by kernel_rfl⟩ (fun s hp => zJR (K26.cx _) rfl rfl rfl rfl)
noncomputable def K28 : Known := K27.pure 89 FVD
theorem ok28 : K28.OK := addK 2 ok27 kN ⟨Tryz.func89, rfl, by kernel_rfl, by kernel_rfl⟩ (fun s hp => zMT (K27.cx _) rfl rfl rfl rfl rfl rfl rfl rfl rfl rfl rfl rfl rfl rfl rfl rfl rfl rfl (s.1) (s.2) hp)
noncomputable def K29 : Known := K28.pure 46 FVR
theorem ok29 : K29.OK := addK 1 ok28 kN ⟨Tryz.func46, rfl, by kernel_rfl, by kernel_rfl⟩ (fun s hp => zMS (K28.cx _) rfl rfl rfl rfl rfl (s) hp)
noncomputable def K30 : Known := K29.pure 45 zPs
theorem ok30 : K30.OK := addK 1 ok29 kN ⟨Tryz.func45, rfl, by kernel_rfl, by kernel_rfl⟩ (fun s hp => zJP (K29.cx _) rfl rfl rfl (s) hp)
noncomputable def K31 : Known := K30.pure 87 zKE
theorem ok31 : K31.OK := addK 2 ok30 (fun i => if i = 2 then some [0, 1, 7, 8] else  none) ⟨Tryz.func87, rfl, by kernel_rfl, by kernel_rfl⟩ (fun s hp => zHv (K30.cx _) rfl rfl rfl rfl (s) hp)
noncomputable def K32 : Known := K31.pure 44 zFh
theorem ok32 : K32.OK := addK 2 ok31 kN ⟨Tryz.func44, rfl, by kernel_rfl, by kernel_rfl⟩ (fun s hp => zHz (K31.cx _) rfl rfl rfl (s) hp)
noncomputable def K33 : Known := K32.pure 64 zMO
theorem ok33 : K33.OK := zBp 1 ok32 kN ⟨Tryz.func64, rfl, by kernel_rfl, by kernel_rfl⟩ (fun s hp => zJN (K32.cx _) rfl rfl (s) hp)
noncomputable def K34 : Known := K33.pure 64 zPr
theorem ok34 : K34.OK := zBp 1 ok33 kN ⟨Tryz.func64, rfl, by kernel_rfl, by kernel_rfl⟩ (fun s hp => zJM (K33.cx _) rfl rfl (s))
noncomputable def K35 : Known := K34.pure 64 FClR
theorem ok35 : K35.OK := ok34.pure (PureOK.either (Known.OK.get ok33 64 rfl) (Known.OK.get ok34 64 rfl))
noncomputable def K36 : Known := K35.ext 201 zNs
theorem ok36 : K36.OK := ok35.ext (zHI Tryz.func201 (by kernel_rfl) (by kernel_rfl) (by kernel_rfl) (by kernel_rfl))
noncomputable def K37 : Known := K36.pure 183 zEJ
theorem ok37 : K37.OK := addK 2 ok36 kN ⟨Tryz.func183, rfl, by kernel_rfl, by kernel_rfl⟩ (fun s hp => zFW (K36.cx _) rfl rfl rfl rfl (s.1) (s.2))
noncomputable def K38 : Known := K37.pure 163 zEJ
theorem ok38 : K38.OK := addK 2 ok37 kN ⟨Tryz.func163, rfl, by kernel_rfl, by kernel_rfl⟩ (fun s hp => zFO (K37.cx _) rfl rfl rfl (s.1) (s.2))
noncomputable def K39 : Known := K38.pure 164 zKa
theorem ok39 : K39.OK := zBp 1 ok38 kN ⟨Tryz.func164, rfl, by kernel_rfl, by kernel_rfl⟩ (fun s hp => zHp (K38.cx _) rfl rfl rfl rfl (s) hp)
noncomputable def K40 : Known := K39.pure 122 zJa
theorem ok40 : K40.OK := addK 2 ok39 (fun i => if i = 10 then some [7, 8, 9] else  none) ⟨Tryz.func122, rfl, by kernel_rfl, by kernel_rfl⟩ (fun s hp => zHB (K39.cx _) rfl rfl rfl rfl rfl rfl rfl rfl rfl (s.1) (s.2) hp)
noncomputable def K41 : Known := K40.pure 148 FNaN
theorem ok41 : K41.OK := addK 1 ok40 kN ⟨Tryz.func148, rfl, by kernel_rfl, by kernel_rfl⟩ (fun s hp => zM7 (K40.cx _) rfl rfl (s))
noncomputable def K42 : Known := K41.pure 111 zHa
theorem ok42 : K42.OK := addK 2 ok41 kN ⟨Tryz.func111, rfl, by kernel_rfl, by kernel_rfl⟩ (fun s hp => zHm (K41.cx _) rfl rfl rfl (s.1) (s.2))
noncomputable def K43 : Known := K42.pure 184 zKA
theorem ok43 : K43.OK := addK 1 ok42 (fun i => if i = 3 then some [3, 7, 8, 9] else  none) ⟨Tryz.func184, rfl, by kernel_rfl, by kernel_rfl⟩ (fun s hp => zHn (K42.cx _) rfl rfl rfl rfl (s) hp)
noncomputable def K44 : Known := K43.pure 202 FByA
theorem ok44 : K44.OK := zBp 1 ok43 (fun i => if i = 3 then some [0, 3, 7, 8] else  none) ⟨Tryz.func202, rfl, by kernel_rfl, by kernel_rfl⟩ (fun s hp => zNk (K43.cx _) rfl rfl rfl (s) hp)
noncomputable def K45 : Known := K44.pure 185 FWAP
theorem ok45 : K45.OK := addK 1 ok44 kN ⟨Tryz.func185, rfl, by kernel_rfl, by kernel_rfl⟩ (fun s hp => zMQ (K44.cx _) rfl rfl rfl rfl rfl rfl (s) hp)
noncomputable def K46 : Known := K45.pure 207 FTrB
theorem ok46 : K46.OK := addK 2 ok45 (fun i => if i = 1 then some [0, 1] else  none) ⟨Tryz.func207, rfl, by kernel_rfl, by kernel_rfl⟩ (fun s hp => zMW (K45.cx _) rfl rfl rfl (s.1) (s.2) hp)
noncomputable def K47 : Known := K46.pure 203 FTrR
theorem ok47 : K47.OK := addK 2 ok46 kN ⟨Tryz.func203, rfl, by kernel_rfl, by kernel_rfl⟩ (fun s hp => zMV (K46.cx _) rfl rfl rfl (s.1) (s.2) hp)
noncomputable def K48 : Known := K47.pure 186 FBmP
theorem ok48 : K48.OK := addK 1 ok47 (fun i => if i = 3 then some [0, 3, 7] else if i = 7 then some [0, 3, 4, 5, 7, 10] else  none) ⟨Tryz.func186, rfl, by kernel_rfl, by kernel_rfl⟩ (fun s hp => zNl (K47.cx _) rfl rfl rfl rfl rfl (s))
noncomputable def K49 : Known := K48.pure 188 zOZ
theorem ok49 : K49.OK := addK 2 ok48 (fun i => if i = 3 then some [0, 5, 6] else  none) ⟨Tryz.func188, rfl, by kernel_rfl, by kernel_rfl⟩ (fun s hp => zJz (K48.cx _) rfl rfl rfl (s.1) (s.2) hp)
noncomputable def K50 : Known := K49.eff 187 zI4
theorem ok50 : K50.OK := Known.addEff ok49 follows (fun _ => none) ⟨Tryz.func187, rfl, by kernel_rfl, by kernel_rfl⟩ (n := 2) (by decide) (fun _ => rfl) (fun s hp => zHl (K49.cx1 (fun _ => none)) rfl rfl (s.1) (s.2) hp)
noncomputable def K51 : Known := K50.pure 165 FWD
theorem ok51 : K51.OK := addK 2 ok50 (fun i => if i = 8 then some [3, 6, 8, 31, 32] else  none) ⟨Tryz.func165, rfl, by kernel_rfl, by kernel_rfl⟩ (fun s hp => zHd (K50.cx _) rfl rfl rfl rfl rfl rfl rfl rfl rfl rfl rfl rfl (s.1) (s.2) hp)
noncomputable def K52 : Known := K51.pure 123 FCD
theorem ok52 : K52.OK := addK 3 ok51 kN ⟨Tryz.func123, rfl, by kernel_rfl, by kernel_rfl⟩ (fun s hp => zNj (K51.cx _) rfl rfl rfl rfl (s.1) (s.2.1) (s.2.2) hp)
noncomputable def K53 : Known := K52.pure 93 zEb
theorem ok53 : K53.OK := addK 2 ok52 kN ⟨Tryz.func93, rfl, by kernel_rfl, by kernel_rfl⟩ (fun s hp => zFV (K52.cx _) rfl rfl rfl rfl rfl (s.1) (s.2) hp)
noncomputable def K54 : Known := K53.pure 80 zG6
theorem ok54 : K54.OK := addK 2 ok53 kN ⟨Tryz.func80, rfl, by kernel_rfl, by kernel_rfl⟩ (fun s hp => zHA (K53.cx _) rfl rfl rfl rfl (s.1) (s.2) hp)
noncomputable def K55 : Known := K54.eff 138 zMM
theorem ok55 : K55.OK := Known.addEff ok54 follows (fun i => if i = 1 then some [0, 1, 2, 3, 8] else if i = 4 then some [0, 1, 2, 3, 8, 9] else  none) ⟨Tryz.func138, rfl, by kernel_rfl, by kernel_rfl⟩ (n := 4) (by decide) (fun _ => rfl) (fun s hp => zJG (K54.cx1 (fun i => if i = 1 then some [0, 1, 2, 3, 8] else if i = 4 then some [0, 1, 2, 3, 8, 9] else  none)) rfl rfl rfl rfl rfl rfl (s.1) (s.2.1) (s.2.2) hp)
noncomputable def K56 : Known := K55.eff 200 FSwR
theorem ok56 : K56.OK := Known.addEff ok55 follows (fun i => if i = 1 then some [0, 1, 2, 3, 10] else  none) ⟨Tryz.func200, rfl, by kernel_rfl, by kernel_rfl⟩ (n := 5) (by decide) (fun _ => rfl) (fun s hp => by have h := zMY (K55.cx1 (fun i => if i = 1 then some [0, 1, 2, 3, 10] else  none)) rfl rfl rfl (s.1) (s.2.1) (s.2.2.1) (s.2.2.2.1) (s.2.2.2.2) hp; have e : (s.1 ++ s.2.1 ++ s.2.2.1 ++ s.2.2.2.1 ++ s.2.2.2.2).length = s.1.length + s.2.1.length + s.2.2.1.length + s.2.1.length + s.2.2.2.2.length := (by have := hp.1; simp only [List.length_append]; omega); simp only [e]; exact h)
noncomputable def K57 : Known := K56.eff 182 FRot
theorem ok57 : K57.OK := Known.addEff ok56 follows (fun i => if i = 2 then some [0, 2, 4, 10, 11] else  none) ⟨Tryz.func182, rfl, by kernel_rfl, by kernel_rfl⟩ (n := 5) (by decide) (fun _ => rfl) (fun s hp => zM4 (K56.cx1 (fun i => if i = 2 then some [0, 2, 4, 10, 11] else  none)) rfl rfl rfl rfl rfl rfl (s.1) (s.2.1) (s.2.2.1) (s.2.2.2) hp)
theorem zD6 : ∀ N : Nat, EffOK Tryz.prog 162 (FSym N)
 | 0 => ⟨⟨_, rfl, rfl, by kernel_rfl⟩, fun ds hs r hs' h => by
     obtain ⟨s, _, _, hp, _⟩ := zGS h
     have h1 := List.length_pos_iff.2 hp.l
     have := hp.n
     omega⟩
 | N + 1 => by
   have ih := zD6 N
   have ok : (K57.eff 162 (FSym N)).OK := ok57.eff ih
   exact (Known.addEff ok follows (fun i => if i = 3 then some [0, 1, 4, 10, 11] else if i = 9 then some [0, 10, 13] else if i = 15 then some [0, 2, 4, 14, 15] else if i = 21 then some [0, 14, 17] else if i = 33 then some [0, 1, 2, 3, 4, 18, 19, 20, 21, 22] else  none) ⟨Tryz.func162, rfl, by kernel_rfl, by kernel_rfl⟩ (n := 5) (by decide) (fun _ => rfl) (fun s hp => zMX N ((K57.eff 162 (FSym N)).cx1 (fun i => if i = 3 then some [0, 1, 4, 10, 11] else if i = 9 then some [0, 10, 13] else if i = 15 then some [0, 2, 4, 14, 15] else if i = 21 then some [0, 14, 17] else if i = 33 then some [0, 1, 2, 3, 4, 18, 19, 20, 21, 22] else  none)) rfl rfl rfl rfl rfl rfl rfl rfl rfl rfl rfl rfl rfl rfl rfl (s.1) (s.2.1) (s.2.2.1) (s.2.2.2) hp) : ((K57.eff 162 (FSym N)).eff 162 (FSym (N + 1))).OK).effs (162, FSym (N + 1)) (List.mem_cons_self ..)
noncomputable def K58 : Known := K57.eff 162 (FSym 1000000)
theorem ok58 : K58.OK := ok57.eff (zD6 1000000)
noncomputable def K59 : Known := K58.eff 121 zOW
theorem ok59 : K59.OK := Known.addEff ok58 follows (fun i => if i = 2 then some [0, 1, 2, 6, 7, 8] else if i = 7 then some [0, 1, 2, 6] else if i = 9 then some [0, 1, 2, 6, 7, 8] else  none) ⟨Tryz.func121, rfl, by kernel_rfl, by kernel_rfl⟩ (n := 3) (by decide) (fun _ => rfl) (fun s hp => zJq (K58.cx1 (fun i => if i = 2 then some [0, 1, 2, 6, 7, 8] else if i = 7 then some [0, 1, 2, 6] else if i = 9 then some [0, 1, 2, 6, 7, 8] else  none)) rfl rfl rfl rfl rfl rfl rfl rfl rfl rfl rfl s hp)
noncomputable def K60 : Known := K59.eff 90 FSSF
theorem ok60 : K60.OK := Known.addEff ok59 follows (fun _ => none) ⟨Tryz.func90, rfl, by kernel_rfl, by kernel_rfl⟩ (n := 2) (by decide) (fun _ => rfl) (fun s hp => zM3 (K59.cx1 (fun _ => none)) rfl rfl rfl rfl rfl s hp)
noncomputable def K61 : Known := K60.pure 92 zI3
theorem ok61 : K61.OK := addK 2 ok60 kN ⟨Tryz.func92, rfl, by kernel_rfl, by kernel_rfl⟩ (fun s hp => zHj (K60.cx _) rfl rfl rfl (s.1) (s.2) hp)
noncomputable def K62 : Known := K61.eff 91 FCpt
theorem ok62 : K62.OK := Known.addEff ok61 follows (fun i => if i = 4 then some [0, 1, 5] else if i = 9 then some [0, 1, 5, 6, 7] else  none) ⟨Tryz.func91, rfl, by kernel_rfl, by kernel_rfl⟩ (n := 2) (by decide) (fun _ => rfl) (fun s hp => zNg (K61.cx1 (fun i => if i = 4 then some [0, 1, 5] else if i = 9 then some [0, 1, 5, 6, 7] else  none)) rfl rfl rfl rfl rfl rfl s hp)
noncomputable def K63 : Known := K62.pure 48 zCx
theorem ok63 : K63.OK := addK 1 ok62 kN ⟨Tryz.func48, rfl, by kernel_rfl, by kernel_rfl⟩ (fun s hp => zHi (K62.cx _) rfl rfl rfl rfl rfl rfl rfl rfl rfl (s) hp)
noncomputable def K64 : Known := K63.pure 48 zDG
theorem ok64 : K64.OK := addK 1 ok63 kN ⟨Tryz.func48, rfl, by kernel_rfl, by kernel_rfl⟩ (fun s hp => zHh (K63.cx _) rfl rfl rfl rfl rfl rfl rfl rfl rfl (s))
noncomputable def K65 : Known := K64.pure 48 zJ9
theorem ok65 : K65.OK := ok64.pure (PureOK.slices (PureOK.either (Known.OK.get ok63 48 rfl) (Known.OK.get ok64 48 rfl)) (fun ds r hr => by
 obtain ⟨a, rfl, hp, rfl⟩ := zBv hr
 refine ⟨16, a.map recE, rfl, fun hne => ?_, fun he b => ?_⟩
 · have ha : a ≠ [] := fun e => hne (by rw [e]; rfl)
   have e := zF4 (a := a) ⟨ha, hp⟩
   show ((zCx [zAt a]).or (zDG [zAt a])) = _
   rw [e]; rfl
 · have ha : a = [] := List.map_eq_nil_iff.1 he
   subst ha
   have e1 : zCx [D.emp b] = none := zCz (fun s h => by simp [zAt, vecE] at h)
   show ((zCx [D.emp b]).or (zDG [D.emp b])) = _
   rw [e1, zF3 (b := b)]; rfl))
noncomputable def K66 : Known := K65.pure 47 FEq
theorem ok66 : K66.OK := addK 2 ok65 (fun i => if i = 4 then some [0, 1, 12, 13] else  none) ⟨Tryz.func47, rfl, by kernel_rfl, by kernel_rfl⟩ (fun s hp => zNe (K65.cx _) rfl rfl rfl (s.1) (s.2) hp)
noncomputable def K67 : Known := K66.pure 49 FGrC
theorem ok67 : K67.OK := Known.add ok66 follows (fun i => if i = 4 then some [0, 3, 4, 7, 8] else  none) ⟨Tryz.func49, rfl, by kernel_rfl, by kernel_rfl⟩ (n := 1) (by decide) (fun _ => rfl) [] true (fun s hp => zRH (K66.cx (fun i => if i = 4 then some [0, 3, 4, 7, 8] else  none)) rfl rfl rfl (s) hp)
noncomputable def K68 : Known := K67.pure 49 FGr
theorem ok68 : K68.OK := ok67.pure (PureOK.weakr (Known.OK.get ok67 49 rfl) (fun ds r hr => by
 obtain ⟨a, rfl, hp, rfl⟩ := zBv hr
 exact ⟨_, zKd hp, rfl, rfl, fun M A H μ v h => zFX h⟩))
noncomputable def K69 : Known := K68.pure 94 zPq
theorem ok69 : K69.OK := addK 2 ok68 kN ⟨Tryz.func94, rfl, by kernel_rfl, by kernel_rfl⟩ (fun s hp => zJL (K68.cx _) rfl rfl rfl (s.1) (s.2) hp)
noncomputable def K70 : Known := K69.pure 50 zDF
theorem ok70 : K70.OK := addK 2 ok69 kN ⟨Tryz.func50, rfl, by kernel_rfl, by kernel_rfl⟩ (fun s hp => zFM (K69.cx _) rfl rfl rfl rfl (s.1) (s.2) hp)
noncomputable def K71 : Known := K70.pure 97 zPp
theorem ok71 : K71.OK := addK 2 ok70 kN ⟨Tryz.func97, rfl, by kernel_rfl, by kernel_rfl⟩ (fun s hp => zJI (K70.cx _) rfl rfl (s.1) (s.2))
noncomputable def K72 : Known := K71.pure 87 zKD
theorem ok72 : K72.OK := addK 2 ok71 (fun i => if i = 2 then some [0, 1, 7, 8] else  none) ⟨Tryz.func87, rfl, by kernel_rfl, by kernel_rfl⟩ (fun s hp => zHu (K71.cx _) rfl rfl rfl rfl (s.1) (s.2) hp)
noncomputable def K73 : Known := K72.pure 44 zKH
theorem ok73 : K73.OK := addK 2 ok72 kN ⟨Tryz.func44, rfl, by kernel_rfl, by kernel_rfl⟩ (fun s hp => zHy (K72.cx _) rfl rfl rfl (s.1) (s.2) hp)
noncomputable def K74 : Known := K73.pure 52 zO2
theorem ok74 : K74.OK := addK 2 ok73 kN ⟨Tryz.func52, rfl, by kernel_rfl, by kernel_rfl⟩ (fun s hp => zJJ (K73.cx _) rfl rfl rfl (s.1) (s.2) hp)
noncomputable def K75 : Known := K74.pure 124 zFK
theorem ok75 : K75.OK := addK 1 ok74 kN ⟨Tryz.func124, rfl, by kernel_rfl, by kernel_rfl⟩ (fun s hp => zEB (K74.cx _) rfl rfl (s))
noncomputable def K76 : Known := K75.pure 95 FUni
theorem ok76 : K76.OK := addK 1 ok75 (fun i => if i = 2 then some [0, 3] else  none) ⟨Tryz.func95, rfl, by kernel_rfl, by kernel_rfl⟩ (fun s hp => zMU (K75.cx _) rfl rfl rfl rfl rfl (s) hp)
noncomputable def K77 : Known := K76.pure 166 FIxI
theorem ok77 : K77.OK := addK 2 ok76 (fun i => if i = 2 then some [0, 1, 7, 8] else  none) ⟨Tryz.func166, rfl, by kernel_rfl, by kernel_rfl⟩ (fun s hp => zM9 (K76.cx _) rfl rfl rfl (s.1) (s.2) hp)
noncomputable def K78 : Known := K77.pure 126 FCoI
theorem ok78 : K78.OK := addK 2 ok77 kN ⟨Tryz.func126, rfl, by kernel_rfl, by kernel_rfl⟩ (fun s hp => zNh (K77.cx _) rfl rfl rfl (s.1) (s.2) hp)
noncomputable def K79 : Known := K78.pure 125 zPk
theorem ok79 : K79.OK := addK 2 ok78 kN ⟨Tryz.func125, rfl, by kernel_rfl, by kernel_rfl⟩ (fun s hp => zJx (K78.cx _) rfl rfl rfl (s.1) (s.2) hp)
noncomputable def K80 : Known := K79.pure 87 zKC
theorem ok80 : K80.OK := addK 2 ok79 (fun i => if i = 2 then some [0, 1, 7, 8] else  none) ⟨Tryz.func87, rfl, by kernel_rfl, by kernel_rfl⟩ (fun s hp => zHt (K79.cx _) rfl rfl rfl rfl (s.1) (s.2) hp)
noncomputable def K81 : Known := K80.pure 44 zKG
theorem ok81 : K81.OK := addK 2 ok80 kN ⟨Tryz.func44, rfl, by kernel_rfl, by kernel_rfl⟩ (fun s hp => zHx (K80.cx _) rfl rfl rfl (s.1) (s.2) hp)
noncomputable def K82 : Known := K81.pure 96 zML
theorem ok82 : K82.OK := addK 2 ok81 kN ⟨Tryz.func96, rfl, by kernel_rfl, by kernel_rfl⟩ (fun s hp => zJy (K81.cx _) rfl rfl rfl (s.1) (s.2) hp)
noncomputable def K83 : Known := K82.pure 51 FPrp
theorem ok83 : K83.OK := addK 4 ok82 kN ⟨Tryz.func51, rfl, by kernel_rfl, by kernel_rfl⟩ (fun s hp => zM5 (K82.cx _) rfl rfl rfl rfl rfl rfl (s.1) (s.2.1) (s.2.2.1) (s.2.2.2) hp)
noncomputable def K84 : Known := K83.pure 44 zFh
theorem ok84 : K84.OK := ok83.pure (Known.OK.get ok32 44 rfl)
noncomputable def K85 : Known := K84.pure 23 zJb
theorem ok85 : K85.OK := addK 1 ok84 (fun i => if i = 12 then some [1, 3, 4, 5, 34, 35, 36] else  none) ⟨Tryz.func23, rfl, by kernel_rfl, by kernel_rfl⟩ (fun s hp => zJO (K84.cx _) rfl rfl rfl rfl rfl rfl rfl rfl rfl rfl rfl rfl rfl rfl rfl rfl rfl rfl rfl rfl rfl (s) hp)
noncomputable def K86 : Known := K85.pure 98 zPi
theorem ok86 : K86.OK := addK 2 ok85 kN ⟨Tryz.func98, rfl, by kernel_rfl, by kernel_rfl⟩ (fun s hp => zJt (K85.cx _) rfl rfl (s.1) (s.2))
noncomputable def K87 : Known := K86.pure 87 zKB
theorem ok87 : K87.OK := addK 2 ok86 (fun i => if i = 2 then some [0, 1, 7, 8] else  none) ⟨Tryz.func87, rfl, by kernel_rfl, by kernel_rfl⟩ (fun s hp => zHs (K86.cx _) rfl rfl rfl rfl (s.1) (s.2) hp)
noncomputable def K88 : Known := K87.pure 54 FSix
theorem ok88 : K88.OK := addK 1 ok87 kN ⟨Tryz.func54, rfl, by kernel_rfl, by kernel_rfl⟩ (fun s hp => zM1 (K87.cx _) rfl rfl rfl (s) hp)
noncomputable def K89 : Known := K88.pure 25 zIR
theorem ok89 : K89.OK := addK 1 ok88 kN ⟨Tryz.func25, rfl, by kernel_rfl, by kernel_rfl⟩ (fun s hp => zJu (K88.cx _) rfl rfl rfl (s) hp)
noncomputable def K90 : Known := K89.pure 53 zI9
theorem ok90 : K90.OK := addK 2 ok89 kN ⟨Tryz.func53, rfl, by kernel_rfl, by kernel_rfl⟩ (fun s hp => zHk (K89.cx _) rfl rfl rfl (s.1) (s.2))
noncomputable def K91 : Known := K90.pure 24 zDm
theorem ok91 : K91.OK := addK 2 ok90 kN ⟨Tryz.func24, rfl, by kernel_rfl, by kernel_rfl⟩ (fun s hp => zED (K90.cx _) rfl rfl rfl (s.1) (s.2))
noncomputable def K92 : Known := K91.eff 65 FSet
theorem ok92 : K92.OK := Known.addEffN ok91 follows (fun i => if i = 3 then some [3, 7, 8, 9] else  none) ⟨Tryz.func65, rfl, by kernel_rfl, by kernel_rfl⟩ (n := 1) (by decide) (fun _ => rfl) (fun s hp => zM2 (K91.cx (fun i => if i = 3 then some [3, 7, 8, 9] else  none)) rfl rfl rfl s hp)
noncomputable def K93 : Known := K92.pure 32 FWo
theorem ok93 : K93.OK := addK 2 ok92 (fun i => if i = 4 then some [5, 6, 11, 12, 13] else  none) ⟨Tryz.func32, rfl, by kernel_rfl, by kernel_rfl⟩ (fun s hp => zJC (K92.cx _) rfl rfl rfl rfl rfl rfl (s.1) (s.2) hp)
noncomputable def K94 : Known := K93.pure 13 zEM
theorem ok94 : K94.OK := Known.add ok93 follows (fun _ => none) ⟨Tryz.func13, rfl, by kernel_rfl, by kernel_rfl⟩ (n := 2) (by decide) (fun _ => rfl) [] true (fun s hp => zHw (K93.cx (fun _ => none)) rfl rfl rfl rfl rfl rfl rfl rfl rfl rfl (s.1) (s.2) hp)
noncomputable def K95 : Known := K94.pure 56 FIns
theorem ok95 : K95.OK := addK 2 ok94 (fun i => if i = 2 then some [1, 7, 8, 9] else  none) ⟨Tryz.func56, rfl, by kernel_rfl, by kernel_rfl⟩ (fun s hp => zJK (K94.cx _) rfl rfl rfl rfl rfl (s.1) (s.2) hp)
noncomputable def K96 : Known := K95.pure 57 zPh
theorem ok96 : K96.OK := addK 1 ok95 kN ⟨Tryz.func57, rfl, by kernel_rfl, by kernel_rfl⟩ (fun s hp => zJs (K95.cx _) rfl rfl rfl rfl (s) hp)
noncomputable def K97 : Known := K96.pure 39 zO0
theorem ok97 : K97.OK := addK 2 ok96 kN ⟨Tryz.func39, rfl, by kernel_rfl, by kernel_rfl⟩ (fun s hp => zJB (K96.cx _) rfl rfl rfl (s.1) (s.2) hp)
noncomputable def K98 : Known := K97.pure 58 FSta
theorem ok98 : K98.OK := addK 3 ok97 (fun i => if i = 3 then some [1, 2, 7, 10, 11, 12] else  none) ⟨Tryz.func58, rfl, by kernel_rfl, by kernel_rfl⟩ (fun s hp => zJr (K97.cx _) rfl rfl rfl (s.1) (s.2.1) (s.2.2) hp)
noncomputable def K99 : Known := K98.pure 26 zFk
theorem ok99 : K99.OK := addK 1 ok98 kN ⟨Tryz.func26, rfl, by kernel_rfl, by kernel_rfl⟩ (fun s hp => zHC (K98.cx _) rfl rfl rfl rfl rfl rfl rfl rfl rfl (s) hp)
noncomputable def K100 : Known := K99.pure 64 zKI
theorem ok100 : K100.OK := ok99.pure (PureOK.slices (Known.OK.get ok35 64 rfl) (fun ds r hr => by
 obtain ⟨a, rfl, hp, rfl⟩ := zBv hr
 refine ⟨16, a.map recE, rfl, fun hne => ?_, fun he b => ?_⟩
 · exact zFi ⟨fun e => hne (by rw [e]; rfl), hp⟩
 · have ha : a = [] := List.map_eq_nil_iff.1 he
   subst ha
   exact zFL))
theorem zDy : ∀ w, (isAgg (Go.Proofs.Tryz.sortRec_ren.t 24)).run Tryz.prog w = .ok true w := fun w => by rw [show Go.Proofs.Tryz.sortRec_ren.t 24 = 53 from rfl]; first | rfl | (unfold isAgg; simp [run_underlying Tryz.underlying53])
theorem zCM : ∀ w, (Go.sizeOf (Go.Proofs.Tryz.sortRec_ren.t 24)).run Tryz.prog w = .ok 16 w := fun w => by rw [show Go.Proofs.Tryz.sortRec_ren.t 24 = 53 from rfl]; first | rfl | (unfold Go.sizeOf; simp)
noncomputable def K101 : Known := K100.eff 79 FSR
theorem zK3 : K101.OK := ok100.eff (zHG (zDe (ρ := Go.Proofs.Tryz.sortRec_ren) Go.Proofs.Tryz.sortRec ⟨_, rfl, rfl, by kernel_rfl⟩ zDy zCM (α := RecS) (fun x => recL x.1) (fun _ => rfl) (by decide) (fun x d hd => by simp [recL, datL, adrL] at hd; rcases hd with rfl | rfl | rfl | rfl | rfl | rfl | rfl | rfl | rfl | rfl | rfl | rfl | rfl | rfl | rfl | rfl <;> rfl) cmpS cmp_sub.swo (Known.OK.get ok54 80 rfl) (fun x y => zCE ⟨x.2, y.2⟩)))
noncomputable def K102 : Known := K101.pure 40 zNr
theorem zK2 : K102.OK := addK 2 zK3 kN ⟨Tryz.func40, rfl, by kernel_rfl, by kernel_rfl⟩ (fun s hp => zJE (K101.cx _) rfl rfl rfl rfl rfl rfl (s.1) (s.2) hp)
noncomputable def K103 : Known := K102.pure 21 zEm
theorem zJW : K103.OK := Known.add zK2 follows (fun _ => none) ⟨Tryz.func21, rfl, by kernel_rfl, by kernel_rfl⟩ (n := 2) (by decide) (fun _ => rfl) [] true (fun s hp => zFS (K102.cx (fun _ => none)) rfl rfl rfl rfl rfl rfl rfl rfl rfl rfl (s.1) (s.2) hp)
noncomputable def K104 : Known := K103.pure 30 FEqw
theorem ok104 : K104.OK := addK 2 zJW (fun i => if i = 4 then some [0, 1, 5] else  none) ⟨Tryz.func30, rfl, by kernel_rfl, by kernel_rfl⟩ (fun s hp => zNd (K103.cx _) rfl rfl rfl (s.1) (s.2) hp)
noncomputable def K105 : Known := K104.pure 15 zDT
theorem ok105 : K105.OK := addK 2 ok104 kN ⟨Tryz.func15, rfl, by kernel_rfl, by kernel_rfl⟩ (fun s hp => zGg (K104.cx _) rfl rfl rfl (s.1) (s.2) hp)
noncomputable def K106 : Known := K105.pure 31 FVer
theorem ok106 : K106.OK := Known.add ok105 follows (fun _ => none) ⟨Tryz.func31, rfl, by kernel_rfl, by kernel_rfl⟩ (n := 2) (by decide) (fun s => by unfold verI; (repeat' split) <;> rfl) [] false (fun s hp => zMR (K105.cx (fun _ => none)) rfl rfl s hp)
noncomputable def K107 : Known := K106.pure 32 FWoR
theorem ok107 : K107.OK := zBp 2 ok106 (fun i => if i = 4 then some [5, 6, 11, 12, 13] else  none) ⟨Tryz.func32, rfl, by kernel_rfl, by kernel_rfl⟩ (fun s hp => zHo (K106.cx _) rfl rfl rfl rfl rfl rfl (s.1) (s.2) hp)
noncomputable def K108 : Known := K107.pure 48 zKz
theorem zK1 : K108.OK := ok107.pure (Known.OK.get ok65 48 rfl)
noncomputable def K109 : Known := K108.pure 108 FBs
theorem zK0 : K109.OK := addK 3 zK1 (fun i => if i = 3 then some [0, 2, 4, 8, 9, 10] else  none) ⟨Tryz.func108, rfl, by kernel_rfl, by kernel_rfl⟩ (fun s hp => zRI (K108.cx _) rfl rfl rfl rfl rfl (s.1) (s.2) hp)
noncomputable def K110 : Known := K109.pure 76 FMin
theorem ok110 : K110.OK := addK 2 zK0 (fun i => if i = 4 then some [5, 6, 13, 14, 15] else  none) ⟨Tryz.func76, rfl, by kernel_rfl, by kernel_rfl⟩ (fun s hp => zM8 (K109.cx _) rfl rfl rfl rfl rfl (s.1) (s.2) hp)
noncomputable def K111 : Known := K110.pure 64 FClR
theorem ok111 : K111.OK := ok110.pure (Known.OK.get ok35 64 rfl)
noncomputable def K112 : Known := K111.pure 48 zBM
theorem ok112 : K112.OK := zBp 1 ok111 kN ⟨Tryz.func48, rfl, by kernel_rfl, by kernel_rfl⟩ (fun s hp => zFQ (K111.cx _) rfl rfl rfl rfl rfl rfl rfl rfl rfl (s) hp)
noncomputable def K113 : Known := K112.pure 48 zCv
theorem ok113 : K113.OK := zBp 1 ok112 kN ⟨Tryz.func48, rfl, by kernel_rfl, by kernel_rfl⟩ (fun s hp => zFP (K112.cx _) rfl rfl rfl rfl rfl rfl rfl rfl rfl (s))
noncomputable def K114 : Known := K113.pure 48 zKy
theorem ok114 : K114.OK := ok113.pure (PureOK.slices (PureOK.either (Known.OK.get ok112 48 rfl) (Known.OK.get ok113 48 rfl)) (fun ds r hr => by
 obtain ⟨a, rfl, hp, rfl⟩ := zBv hr
 refine ⟨16, a.map recE, rfl, fun hne => ?_, fun he b => ?_⟩
 · have ha : a ≠ [] := fun e => hne (by rw [e]; rfl)
   have e := zEL (a := a) ⟨ha, hp⟩
   show ((zBM [zAt a]).or (zCv [zAt a])) = _
   rw [e]; rfl
 · have ha : a = [] := List.map_eq_nil_iff.1 he
   subst ha
   have e1 : zBM [D.emp b] = none := zCz (fun s h => by simp [zAt, vecE] at h)
   show ((zBM [D.emp b]).or (zCv [D.emp b])) = _
   rw [e1, zEK (b := b)]; rfl))
noncomputable def K115 : Known := K114.pure 77 zPl
theorem ok115 : K115.OK := addK 2 ok114 kN ⟨Tryz.func77, rfl, by kernel_rfl, by kernel_rfl⟩ (fun s hp => zJA (K114.cx _) rfl rfl rfl rfl (s.1) (s.2) hp)
noncomputable def K116 : Known := K115.pure 37 zOV
theorem ok116 : K116.OK := Known.add ok115 follows (fun _ => none) ⟨Tryz.func37, rfl, by kernel_rfl, by kernel_rfl⟩ (n := 5) (by decide) (fun _ => rfl) [] true (fun s hp => zJp (K115.cx (fun _ => none)) rfl rfl rfl rfl rfl rfl rfl (s.1) (s.2.1) (s.2.2.1) (s.2.2.2.1) (s.2.2.2.2) hp)
noncomputable def K117 : Known := K116.pure 16 zIX
theorem ok117 : K117.OK := Known.add ok116 follows (fun _ => none) ⟨Tryz.func16, rfl, by kernel_rfl, by kernel_rfl⟩ (n := 2) (by decide) (fun _ => rfl) [] true (fun s hp => zJQ (K116.cx (fun _ => none)) rfl rfl rfl rfl (s.1) (s.2) hp)
noncomputable def K118 : Known := K117.pure 18 zFf
theorem ok118 : K118.OK := Known.add ok117 follows (fun _ => none) ⟨Tryz.func18, rfl, by kernel_rfl, by kernel_rfl⟩ (n := 2) (by decide) (fun _ => rfl) [] true (fun s hp => zHg (K117.cx (fun _ => none)) rfl rfl rfl rfl (s.1) (s.2) hp)
noncomputable def K119 : Known := K118.pure 20 zDl
theorem ok119 : K119.OK := addK 2 ok118 kN ⟨Tryz.func20, rfl, by kernel_rfl, by kernel_rfl⟩ (fun s hp => zFR (K118.cx _) rfl rfl rfl (s.1) (s.2) hp)
noncomputable def K120 : Known := K119.pure 12 zF6
theorem ok120 : K120.OK := addK 0 ok119 kN ⟨Tryz.func12, rfl, by kernel_rfl, by kernel_rfl⟩ (fun s hp => zHD (K119.cx _) rfl rfl rfl rfl rfl rfl rfl rfl rfl)
noncomputable def K121 : Known := K120.pure 8 FSteps
theorem ok121 : K121.OK := addK 3 ok120 kN ⟨Tryz.func8, rfl, by kernel_rfl, by kernel_rfl⟩ (fun s hp => yBz (K120.cx _) rfl rfl rfl rfl rfl rfl rfl (s.1) (s.2.1) (s.2.2) hp)
end Go.Mir
namespace Go.Mir
attribute [local congr] Ev.congr EvC.congr EvW.congr Br.congr Ms.congr
open Go Go.RowKit Go.Proofs
end Go.Mir
namespace Go.Proofs.YtnmohcaeepcloaaGreatDoor.deltaSteps
open Go.ChangeShapes Go.WideShapes Go.ChangeAt Go.RowKit
set_option maxRecDepth 100000
theorem own : ownKnob Tryz.prog.godebug = none := by kernel_rfl
theorem laidOut : laidOutB Tryz.prog = true := by kernel_rfl
theorem told (ds : List Mir.D) (h : Mir.TDA Tryz.prog 12 [24, 24, 24] ds) : Mir.FSteps ds = some (Mir.Res.flat (.bo true)) := by
 obtain ⟨x0, r0, rfl, k0, j0⟩ := Mir.tda_cons h
 obtain ⟨x1, r1, rfl, k1, j1⟩ := Mir.tda_cons j0
 obtain ⟨x2, r2, rfl, k2, j2⟩ := Mir.tda_cons j1
 obtain rfl := Mir.tda_nil j2
 obtain ⟨c0, rfl, h0⟩ := Mir.td1_agg (by kernel_rfl) k0
 obtain ⟨v0, e0, w0⟩ := Mir.td_zone (n := 6) h0
 obtain ⟨c1, rfl, h1⟩ := Mir.td1_agg (by kernel_rfl) k1
 obtain ⟨v1, e1, w1⟩ := Mir.td_zone (n := 6) h1
 obtain ⟨c2, rfl, h2⟩ := Mir.td1_agg (by kernel_rfl) k2
 obtain ⟨v2, e2, w2⟩ := Mir.td_zone (n := 6) h2
 rw [e0, e1, e2]
 exact Mir.FSteps_eq ⟨⟨w0.rw, fun r h => (w0.2.2 r h).2⟩, ⟨w1.rw, fun r h => (w1.2.2 r h).2⟩, ⟨w2.rw, fun r h => (w2.2.2 r h).2⟩⟩
theorem lifted (os : Os) (started : os.Started) (H : Type) (enc : TypeId × Value → H) :
   ReturnsInHanded {} Tryz.checked os 8 .any (fun w args => (Rows.deltaStepsSpec.pre enc Tryz.prog Tryz.f8 Rows.deltaStepsRow.domain false w args ∧ laidMetH Tryz.prog Rows.deltaStepsRow.laid w) ∧ sizedMet enc Tryz.prog Tryz.f8 (OpenSpec.ofChange Rows.deltaStepsSpec) false w args) (Rows.deltaStepsSpec.post enc Tryz.prog Tryz.f8 false true false false) := by
 refine returnsInHanded_of_change_and (C := Tryz.checked) (X := fun w _ => laidMetH Tryz.prog Rows.deltaStepsRow.laid w) (fun _ _ _ hh h => h.of_heap hh) own started (by kernel_rfl) Tryz.func8
   (ChangeSpec.witness_shaped (enc := enc) (C := Tryz.checked) (os := os) (X := fun w _ => laidMetH Tryz.prog Rows.deltaStepsRow.laid w) false (World.laidAll Tryz.prog os Rows.deltaStepsRow.laid) #[.agg #[.string ⟨#[]⟩, .slice none 0 0], .agg #[.string ⟨#[]⟩, .slice none 0 0], .agg #[.string ⟨#[]⟩, .slice none 0 0]] 8 (World.laidAll_os _ _ _)
     (World.shaped_of_ZipB (by kernel_rfl) (by kernel_rfl)) (by kernel_rfl) (by kernel_rfl) (by kernel_rfl)
     (by rw [MakeChecks.laidMetH_plain _ _ _ (by kernel_rfl)]; exact laidMet_laidAll _ (by kernel_rfl) (by kernel_rfl))) ?_
 intro W base args ds gs before hval0 hW hcnd hsz0 hL _
 have hsz : (DataW.weightsEach Tryz.prog (Tryz.f8.params.toList ++ Rows.deltaStepsSpec.plain.varTypes Tryz.prog) (ds ++ gs)).all (· ≤ reachBytes) = true := hsz0
 have hval : ∀ (j : Nat) t v, Tryz.f8.params[j]? = some t → args[j]? = some v → Value.okWide Tryz.prog W .any base t v := hval0
 have hW' := hW
 obtain ⟨p, q, hA0, hV, rfl, hfz, hnd⟩ := hW
 have hA : DataW.TrodAll enc Tryz.prog W 0 (fun _ => true) true Tryz.f8.params.toList args.toList ds p := hA0
 rw [Tryz.params8] at hA hval hsz
 obtain ⟨rfl, rfl⟩ := trodVars_none hV
 have hA1 : DataW.TrodAll enc Tryz.prog W 0 (fun _ => true) true [24, 24, 24] args.toList ds p := hA
 have hsz1 : (DataW.weightsEach Tryz.prog [24, 24, 24] ds).all (· ≤ reachBytes) = true := by
   have h := hsz
   rw [List.append_nil] at h
   exact h
 refine (Mir.law_run (n := 12) (Mir.Known.OK.get Mir.ok121 8 rfl) (by kernel_rfl) hA1 (fun j t v ht hv => hval j t v (by simpa using ht) hv) hsz1 told).mono fun e W' ⟨he, bel⟩ => ?_
 subst he
 have hK := Mir.args_stay (spare := fun _ => true) laidOut bel _ _ _ _ (by kernel_rfl) hA1
 obtain ⟨v0, vs0, d0, ds0, p0, q0, h0, rfl, rfl, _, r0⟩ := trodAll_cons hA1
 obtain ⟨v1, vs1, d1, ds1, p1, q1, h1, rfl, rfl, _, r1⟩ := trodAll_cons r0
 obtain ⟨v2, vs2, d2, ds2, p2, q2, h2, rfl, rfl, _, r2⟩ := trodAll_cons r1
 obtain ⟨rfl, rfl, rfl⟩ := trodAll_nil r2
 exact ⟨_, rfl, _, _, _, [], _, [], hW', trodAll_mk1 (shut_bool Tryz.underlying4 _), hK, rfl, bel.frame _, fun h => by cases h⟩
theorem over : Rows.DeltaStepsSaid :=
 OpenClaim.holds_of_wide 8 Tryz.f8 rfl rfl rfl rfl rfl rfl rfl ⟨rfl, rfl, rfl, rfl, rfl⟩ rfl rfl rfl rfl rfl (by kernel_rfl) Tryz.func8 (by kernel_rfl)
   (of_decide_eq_true (by kernel_rfl)) (by unfold Func.isWrapper; first | (rw [if_pos (by decide +kernel)]; kernel_rfl) | (rw [if_neg (by decide +kernel)]; exact ⟨rfl, rfl⟩))
   (fun os started H enc _ => lifted os started H enc)
theorem tied : Rows.DeltaStepsCardSaid :=
 Claim7.holds_tied_plain_at .later [] [.data, .pinned] true (true, "6ea562871079a03565b978c6eabf6986d9e05aa6371aec071ebd4c774fd9d160") false over (fun _ h => by cases h) (by kernel_rfl) (fun _ h => by cases h) deltaSteps_row_tie rfl ⟨rfl, rfl⟩ (by kernel_rfl) rfl
   (fun f fn hf hfn => by
     obtain rfl : f = 8 := Option.some.inj ((show Tryz.prog.funcNamed "ddi/ddilaw12.DeltaSteps" = some 8 by kernel_rfl).symm.trans hf) |>.symm
     obtain rfl : fn = Tryz.f8 := (Option.some.inj (Tryz.func8.symm.trans hfn)).symm
     exact ⟨by kernel_rfl, fun j t ht => by
       rw [Tryz.params8] at ht
       have hm : t ∈ [24, 24, 24] := by simpa using Array.mem_of_getElem? ht
       have hall : ([24, 24, 24].all fun u => !Tryz.prog.wantsStandIn u) = true := by kernel_rfl
       exact (show Tryz.prog.wantsStandIn t = false by simpa using List.all_eq_true.1 hall t hm)⟩)
   (by kernel_rfl)
end Go.Proofs.YtnmohcaeepcloaaGreatDoor.deltaSteps
namespace Go.Proofs.YtnmohcaeepcloaaGreatDoor
theorem deltaSteps_holds : Rows.DeltaStepsCardSaid := deltaSteps.tied
end Go.Proofs.YtnmohcaeepcloaaGreatDoor
namespace Go.Mir
end Go.Mir
