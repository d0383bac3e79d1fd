/- What the program's functions answer, read off their code; no conditions. -/
import Derived.Test.YtnmohcaeepcloaaGreatDoorWalk2
import Derived.KernelRfl
import Derived.Shelf.SlSortCmp.WholeK
import Derived.Ground.SlsfProg
set_option linter.unusedSimpArgs false
set_option linter.unusedVariables false
set_option linter.defProp false
set_option maxRecDepth 100000
set_option maxHeartbeats 4000000
open Go Go.RowKit Go.Proofs
namespace Go.Mir
attribute [local congr] Ev.congr EvC.congr EvW.congr Br.congr Ms.congr
def BlkS (b : Nat) (l : List Rec) : Prop := ∀ k, Srt ltR ((l.drop (k * b)).take b)
theorem yAr {b : Nat} {l : List Rec} (h : Srt ltR l) : BlkS b l := fun k => (h.sublist (List.drop_sublist _ _)).sublist (List.take_sublist _ _)
theorem zSz {b : Nat} {l : List Rec} (h : BlkS b l) (hb : l.length ≤ b) : Srt ltR l := by
 have := h 0
 rwa [Nat.zero_mul, List.drop_zero, List.take_of_length_le hb] at this
theorem yC4 {b : Nat} {l : List Rec} (h : BlkS b l) (m : Nat) : BlkS b (l.drop (m * b)) := fun k => by
 have := h (m + k)
 rwa [List.drop_drop, ← Nat.add_mul]
theorem zSA {b : Nat} {l : List Rec} (h : BlkS b l) : Srt ltR (l.take b) := by have := h 0; rwa [Nat.zero_mul, List.drop_zero] at this
theorem zPQ {b : Nat} {l : List Rec} (h : BlkS b l) : Srt ltR ((l.drop b).take b) := by have := h 1; rwa [Nat.one_mul] at this
theorem yAs {b m : Nat} {A X : List Rec} (hA : BlkS b A) (hm : A.length = m * b) (hX : BlkS b X) : BlkS b (A ++ X) := fun k => by
 by_cases h : k < m
 · have h2 : (k + 1) * b ≤ m * b := Nat.mul_le_mul_right _ h
   rw [Nat.add_mul, Nat.one_mul] at h2
   rw [List.drop_append_of_le_length (by omega), List.take_append_of_le_length (by rw [List.length_drop]; omega)]
   exact hA k
 · obtain ⟨j, rfl⟩ : ∃ j, k = m + j := ⟨k - m, by omega⟩
   have e : (A ++ X).drop ((m + j) * b) = X.drop (j * b) := by
     rw [Nat.add_mul, ← hm, List.drop_append, List.drop_of_length_le (by omega)]
     simp
   rw [e]; exact hX j
abbrev Bq := List Rec × List Rec
def stN (b : Nat) (q : Bq) : Bq := (q.1 ++ stS ltR (q.2.take b), q.2.drop b)
structure StP (l : List Rec) : Prop where
 n : l.length ≤ 1000000
 r : ∀ x ∈ l, RSm x
structure StM (l : List Rec) (c b : Nat) (q : Bq) : Prop where
 p : StP l
 len : q.1.length + q.2.length = l.length
 cls : ∀ z, cls ltR z (q.1 ++ q.2) = cls ltR z l
 ba : BlkS c q.1
 m : ∃ m, q.1.length = m * c
 bb : BlkS b q.2
theorem zPE {l r : List Rec} (h : ∀ z, cls ltR z l = cls ltR z r) {x : Rec} (hx : x ∈ l) : x ∈ r := by
 have : x ∈ cls ltR x l := mem_cls.2 ⟨hx, wkR.irr x, wkR.irr x⟩
 rw [h x] at this; exact (mem_cls.1 this).1
theorem zMp {l : List Rec} {c b : Nat} {q : Bq} (j : StM l c b q) {x : Rec} (hx : x ∈ q.2) : RSm x := j.p.r x (zPE j.cls (List.mem_append_right _ hx))
theorem yGy {A X Y : List Rec} {l : List Rec} (h : ∀ z, cls ltR z (A ++ (X ++ Y)) = cls ltR z l) : ∀ z, cls ltR z ((A ++ stS ltR X) ++ Y) = cls ltR z l := fun z => by
 rw [← h z]; simp only [zIJ, zKL wkR, List.append_assoc]
theorem zN4 {l : List Rec} {c b : Nat} {q : Bq} (j : StM l c b q) {d : Nat} (h : q.1.length + d ≤ l.length) : (stN d q).1.length = q.1.length + d := by
 have := j.len
 simp only [stN, List.length_append, zEz, List.length_take]; omega
theorem yHx {l : List Rec} {c b k : Nat} {q : Bq} (j : StM l c b q) (h : q.1.length + c ≤ l.length) (hc : c = k * b) : StM l c b (stN c q) := by
 have h1 := j.len
 obtain ⟨m, hm⟩ := j.m
 refine ⟨j.p, ?_, ?_, ?_, ⟨m + 1, ?_⟩, ?_⟩
 · simp only [stN, List.length_append, zEz, List.length_take, List.length_drop]; omega
 · exact yGy (A := q.1) (X := q.2.take c) (Y := q.2.drop c) (by rw [List.take_append_drop]; exact j.cls)
 · exact yAs j.ba hm (yAr (zJl wkR _))
 · rw [zN4 j h, hm, Nat.add_mul, Nat.one_mul]
 · simp only [stN, hc]; exact yC4 j.bb k
theorem yEF {q : Bq} {d : Nat} : (stN d q).1 ++ (stN d q).2 = q.1 ++ stS ltR (q.2.take d) ++ q.2.drop d := rfl
structure StC (l : List Rec) (w : Nat × List Rec) : Prop where
 p : StP l
 b0 : 1 ≤ w.1
 b1 : w.1 ≤ 2000000
 len : w.2.length = l.length
 cls : ∀ z, cls ltR z w.2 = cls ltR z l
 bb : BlkS w.1 w.2
theorem zXK {l : List Rec} {w : Nat × List Rec} (j : StC l w) : StM l (2 * w.1) w.1 ([], w.2) := ⟨j.p, by simp [j.len], by simpa using j.cls, fun k => by simp [Srt], ⟨0, by simp⟩, j.bb⟩
theorem zXJ {l : List Rec} (p : StP l) : StM l 20 1 ([], l) := ⟨p, by simp, by simp, fun k => by simp [Srt], ⟨0, by simp⟩, fun k => by
 have : ((l.drop (k * 1)).take 1).length ≤ 1 := by rw [List.length_take]; omega
 match (l.drop (k * 1)).take 1, this with
 | [], _ => exact List.Pairwise.nil
 | [x], _ => exact List.pairwise_singleton _ _
 | _ :: _ :: _, h => simp at h⟩
theorem zXL {l : List Rec} {q : Bq} {c b : Nat} (j : StM l c b q) (hc : 1 ≤ c) (hb : c ≤ 2000000) {X : List Rec} (hX : Srt ltR X) (hl : X.length = q.2.length) (hcl : ∀ z, cls ltR z X = cls ltR z q.2) : StC l (c, q.1 ++ X) := by
 obtain ⟨m, hm⟩ := j.m
 refine ⟨j.p, hc, hb, ?_, fun z => ?_, yAs j.ba hm (yAr hX)⟩
 · have := j.len; simp only [List.length_append]; omega
 · rw [zIJ, hcl z, ← zIJ]; exact j.cls z
theorem yEG {l : List Rec} {w : Nat × List Rec} (j : StC l w) (h : ¬ (w.1 : Int) < l.length) : w.2 = stS ltR l := (zP8 wkR (zSz j.bb (by have := j.len; omega)) j.cls).symm

section
variable {l : List Rec} {nid : Nat}
theorem yAm {q : Bq} (j : StM l 20 1 q) (h : ((q.1.length + 20 : Nat) : Int) ≤ l.length) : zEN zMM [.own 0 0 l.length, .it .i64 q.1.length, .it .i64 ((q.1.length + 20 : Nat) : Int), .fn (.func 80) [] []] (ofHp [.row 16 true ((q.1 ++ q.2).map recE)]) nid = some (.tup [], ofHp [.row 16 true (((stN 20 q).1 ++ (stN 20 q).2).map recE)], nid) := by
 have h1 := j.len; have h2 := j.p.n
 refine zVS (P := q.1) (A := q.2.take 20) (S := q.2.drop 20) ⟨?_, fun x hx => zMp j (List.mem_of_mem_take hx)⟩ ?_ rfl ?_ ?_
 · simp only [List.length_take, List.length_drop]; omega
 · rw [List.append_assoc, List.take_append_drop]
 · simp only [List.length_append]; omega
 · simp only [List.length_take, List.cons.injEq, D.it.injEq, true_and, and_true, Int.ofNat_inj]; omega
theorem yAl {q : Bq} (j : StM l 20 1 q) : zEN zMM [.own 0 0 l.length, .it .i64 q.1.length, .it .i64 l.length, .fn (.func 80) [] []] (ofHp [.row 16 true ((q.1 ++ q.2).map recE)]) nid = some (.tup [], ofHp [.row 16 true ((q.1 ++ stS ltR q.2).map recE)], nid) := by
 have h1 := j.len; have h2 := j.p.n
 refine zVS (P := q.1) (A := q.2) (S := []) ⟨?_, fun x hx => zMp j hx⟩ (by simp) (by simp) ?_ ?_
 · simp only [List.length_nil]; omega
 · simp only [List.length_append]; omega
 · simp only [List.cons.injEq, D.it.injEq, true_and, and_true, Int.ofNat_inj]; omega
theorem yAk {w : Nat × List Rec} {q : Bq} (jw : StC l w) (j : StM l (2 * w.1) w.1 q) (h : ((q.1.length + 2 * w.1 : Nat) : Int) ≤ l.length) : zEN (FSym 1000000) [.own 0 0 l.length, .it .i64 q.1.length, .it .i64 ((q.1.length + w.1 : Nat) : Int), .it .i64 ((q.1.length + 2 * w.1 : Nat) : Int), .fn (.func 80) [] []] (ofHp [.row 16 true ((q.1 ++ q.2).map recE)]) nid =
   some (.tup [], ofHp [.row 16 true (((stN (2 * w.1) q).1 ++ (stN (2 * w.1) q).2).map recE)], nid) := by
 have h1 := j.len; have h2 := j.p.n; have h3 := jw.b0
 have e : q.2.take (2 * w.1) = q.2.take w.1 ++ (q.2.drop w.1).take w.1 := by rw [Nat.two_mul, List.take_add]
 refine zRa (P := q.1) (L := q.2.take w.1) (R := (q.2.drop w.1).take w.1) (S := q.2.drop (2 * w.1)) ⟨?_, ?_, ?_, ?_, zSA j.bb, zPQ j.bb, fun x hx => zMp j (List.mem_of_mem_take hx), fun x hx => zMp j (List.mem_of_mem_drop (List.mem_of_mem_take hx))⟩ ?_ ?_ ?_ ?_
 · exact List.ne_nil_of_length_pos (by rw [List.length_take]; omega)
 · exact List.ne_nil_of_length_pos (by rw [List.length_take, List.length_drop]; omega)
 · simp only [List.length_take, List.length_drop]; omega
 · simp only [List.length_take, List.length_drop]; omega
 · rw [List.append_assoc q.1, ← e, List.append_assoc, List.take_append_drop]
 · rw [yEF, e]
 · simp only [List.length_append]; omega
 · simp only [List.length_take, List.length_drop, List.cons.injEq, D.it.injEq, true_and, and_true, Int.ofNat_inj]; omega
theorem yAj {w : Nat × List Rec} {q : Bq} (jw : StC l w) (j : StM l (2 * w.1) w.1 q) (hn : ¬ ((q.1.length + 2 * w.1 : Nat) : Int) ≤ l.length) (h : ((q.1.length + w.1 : Nat) : Int) < l.length) : zEN (FSym 1000000) [.own 0 0 l.length, .it .i64 q.1.length, .it .i64 ((q.1.length + w.1 : Nat) : Int), .it .i64 l.length, .fn (.func 80) [] []] (ofHp [.row 16 true ((q.1 ++ q.2).map recE)]) nid =
   some (.tup [], ofHp [.row 16 true ((q.1 ++ stS ltR q.2).map recE)], nid) := by
 have h1 := j.len; have h2 := j.p.n; have h3 := jw.b0
 have hs : Srt ltR (q.2.drop w.1) := by have := zPQ j.bb; rwa [List.take_of_length_le (by rw [List.length_drop]; omega)] at this
 refine zRa (P := q.1) (L := q.2.take w.1) (R := q.2.drop w.1) (S := []) ⟨?_, ?_, ?_, ?_, zSA j.bb, hs, fun x hx => zMp j (List.mem_of_mem_take hx), fun x hx => zMp j (List.mem_of_mem_drop hx)⟩ ?_ ?_ ?_ ?_
 · exact List.ne_nil_of_length_pos (by rw [List.length_take]; omega)
 · exact List.ne_nil_of_length_pos (by rw [List.length_drop]; omega)
 · simp only [List.length_take, List.length_drop]; omega
 · simp only [List.length_take, List.length_drop, List.length_nil]; omega
 · rw [List.append_nil, List.append_assoc q.1, List.take_append_drop]
 · rw [List.take_append_drop, List.append_nil]
 · simp only [List.length_append]; omega
 · simp only [List.length_take, List.length_drop, List.cons.injEq, D.it.injEq, true_and, and_true, Int.ofNat_inj]; omega
end

theorem zJq (cx : Cx) (hP : cx.P = Tryz.prog) (hbs : cx.bs = 1) (xn138 : cx.orc 138 = none) (xe138 : cx.ext 138 = none) (xf138 : cx.eff 138 = some zMM) (xn162 : cx.orc 162 = none) (xe162 : cx.ext 162 = none) (xf162 : cx.eff 162 = some (FSym 1000000)) (hk2 : cx.kp 2 = some [0, 1, 2, 6, 7, 8]) (hk7 : cx.kp 7 = some [0, 1, 2, 6]) (hk9 : cx.kp 9 = some [0, 1, 2, 6, 7, 8]) (l : List Rec) (hl : StP l) : zFl cx Tryz.f121 [.own 0 0 l.length, .it .i64 l.length, .fn (.func 80) [] []] [.row 16 true (l.map recE)] = some ((.tup [], [.row 16 true ((stS ltR l).map recE)])) := by
 have cf138 := fun H nid l => (show zDD cx 138 l H nid = _ from zCD xn138 xe138 xf138)
 have cf162 := fun H nid l => (show zDD cx 162 l H nid = _ from zCD xn162 xe162 xf162)
 have hw1 : ∀ q, StM l 20 1 q → ((q.1.length + 20 : Nat) : Int) ≤ l.length → IntKind.i64.wrap (((q.1.length + 20 : Nat) : Int) + 20) = (((stN 20 q).1.length + 20 : Nat) : Int) := fun q j h => by have := hl.n; rw [zN4 j (by omega), wrap64 (by omega) (by omega)]; omega
 have hw2 : ∀ w, StC l w → IntKind.i64.wrap (2 * (w.1 : Int)) = ((2 * w.1 : Nat) : Int) := fun w j => by have := j.b1; rw [wrap64 (by omega) (by omega)]; omega
 have hw3 : ∀ (w : Nat × List Rec) (u : Bq), StC l w → StM l (2 * w.1) w.1 u → IntKind.i64.wrap ((u.1.length : Int) + (w.1 : Int)) = ((u.1.length + w.1 : Nat) : Int) := fun w u j k => by have := j.b1; have := hl.n; have := k.len; rw [wrap64 (by omega) (by omega)]; omega
 have hw4 : ∀ (w : Nat × List Rec) (u : Bq), StC l w → StM l (2 * w.1) w.1 u → ((u.1.length + 2 * w.1 : Nat) : Int) ≤ l.length → IntKind.i64.wrap (((u.1.length + 2 * w.1 : Nat) : Int) + ((2 * w.1 : Nat) : Int)) = (((stN (2 * w.1) u).1.length + 2 * w.1 : Nat) : Int) := fun w u j k h => by have := j.b1; have := hl.n; rw [zN4 k (by omega), wrap64 (by omega) (by omega)]; omega
 have hw5 : ∀ w, StC l w → IntKind.i64.wrap ((w.1 : Int) * 2) = ((2 * w.1 : Nat) : Int) := fun w j => by have := j.b1; rw [wrap64 (by omega) (by omega)]; omega
 refine zJ7 (rs := []) rfl hbs rfl ?_
 repeat' first
   | (refine zBz (σ := Bq) (fun q => [.own 0 0 l.length, .it .i64 l.length, .fn (.func 80) [] [], .it .i64 20, .it .i64 q.1.length, .it .i64 ((q.1.length + 20 : Nat) : Int)]) (fun q => [.row 16 true ((q.1 ++ q.2).map recE)]) (fun q => StM l 20 1 q) (fun q => q.2.length) [0, 1, 2, 6, 7, 8] hbs (by exact hk2) (fun q jq b hb => by simp only [List.mem_singleton] at hb; subst hb; exact zCt _) (fun q jq => ?_) (s := ([], l)) [0] ?_ ?_ ?_ ?_ ?_ ?_)
   | (refine zBz (σ := Nat × List Rec) (fun w => [.own 0 0 l.length, .it .i64 l.length, .fn (.func 80) [] [], .it .i64 w.1]) (fun w => [.row 16 true ((w.2).map recE)]) (fun w => StC l w) (fun w => l.length - w.1) [0, 1, 2, 6] hbs (by exact hk7) (fun q jq b hb => by simp only [List.mem_singleton] at hb; subst hb; exact zCt _) (fun w jw => ?_) (s := (20, q.1 ++ stS ltR q.2)) [0] ?_ ?_ ?_ ?_ ?_ ?_)
   | (refine zBz (σ := Bq) (fun u => [.own 0 0 l.length, .it .i64 l.length, .fn (.func 80) [] [], .it .i64 w.1, .it .i64 u.1.length, .it .i64 ((u.1.length + 2 * w.1 : Nat) : Int)]) (fun u => [.row 16 true ((u.1 ++ u.2).map recE)]) (fun u => StM l (2 * w.1) w.1 u) (fun u => u.2.length) [0, 1, 2, 6, 7, 8] hbs (by exact hk9) (fun q jq b hb => by simp only [List.mem_singleton] at hb; subst hb; exact zCt _) (fun u ju => ?_) (s := ([], w.2)) [0] ?_ ?_ ?_ ?_ ?_ ?_)
   | (refine zAR (fun h => ?_) (fun h => ?_) <;> (try simp only [cN] at h))
   | (refine zAN ?_ ?_)
   | simp only [↓cD, cU, cQ, cP, cB, zAJ, unD, zAf, zAd, idx, reduceCtorEq, ↓reduceIte, ofV, ofC, zAq, Nat.reduceEqDiff, zAG, cG, implies_true, forall_const, immL, immD, Res.flat, ren, renL, Int.reduceEq, Int.reduceLT, Int.reduceLE, Int.reduceNe, deref, ldD, zAF, zAk, zAI, zAs, cC, ↓zAM, ↓zAQ, ↓zAL, ↓zAP, ↓zAK, ↓zAO, cV, cT, cF, cW, borT, borM, zAm, Res.via, zAu, zAb, refsB, Nat.reduceLT, Nat.reduceSub, Nat.reduceLeDiff, Nat.reduceMul, Nat.reduceAdd, Int.reduceToNat, appK, zAr, zAc, borL, zAl, zAn, zAE, cO, List.replicate, zAC, ofHp, ixOf, hw1, hw2, hw3, hw4, hw5, yAm, yAl, yAk, yAj, hP, *]
 all_goals first
   | rfl
   | omega
   | (refine ⟨[0], stN 20 q, ?_, ?_, ?_, ?_, ?_, yHx (k := 20) jq (by omega) rfl, by have := jq.len; simp only [stN, List.length_drop]; omega⟩ <;> first | rfl | (rw [zN4 jq (by omega)]; rfl))
   | (refine ⟨[0], stN (2 * w.1) u, ?_, ?_, ?_, ?_, ?_, yHx (k := 2) ju (by omega) rfl, by have := ju.len; have := jw.b0; simp only [stN, List.length_drop]; omega⟩ <;> first | rfl | (rw [zN4 ju (by omega)]; rfl))
   | (refine ⟨[0], (2 * w.1, u.1 ++ stS ltR u.2), ?_, ?_, ?_, ?_, ?_, zXL ju (by have := jw.b0; omega) (by have := hl.n; omega) (zJl wkR _) (zEz _) (fun z => zKL wkR _ z), by have := jw.b0; simp only; omega⟩ <;> rfl)
   | (refine ⟨[0], (2 * w.1, u.1 ++ u.2), ?_, ?_, ?_, ?_, ?_, zXL ju (by have := jw.b0; omega) (by have := hl.n; omega) (zSz ju.bb (by have := ju.len; omega)) rfl (fun z => rfl), by have := jw.b0; simp only; omega⟩ <;> rfl)
   | (rw [Nat.zero_add]; rfl)
   | exact zXJ hl
   | exact zXK jw
   | exact zXL jq (by decide) (by decide) (zJl wkR _) (zEz _) (fun z => zKL wkR _ z)
   | (rw [yEG jw ‹_›]; exact ⟨_, rfl, zCt _, by simp, rfl⟩)
theorem yKB {α : Type} [Inhabited α] {l : List α} {i : Nat} (h : i < l.length) : l[i]? = some l[i]! := by rw [List.getElem?_eq_getElem h, getElem!_pos l i h]

theorem zVA (x : Rec) : ∀ (r : List Rec) (p : Rec), cptR p (r ++ [x]) = cptR p r ++ (if zAy x ((p :: r).getLast (by simp)) = 0 then [] else [x])
 | [], p => by simp only [List.nil_append, cptR]; rfl
 | y :: r, p => by
   have ih := zVA x r y
   simp only [List.cons_append, cptR]
   have e : (p :: y :: r).getLast (by simp) = (y :: r).getLast (by simp) := List.getLast_cons (by simp)
   rw [e, ih]
   split <;> rfl
theorem zHH {l : List Rec} {i : Nat} (h0 : 0 < i) (h : i < l.length) : zB3 (l.take (i + 1)) = zB3 (l.take i) ++ (if zAy l[i]! l[i - 1]! = 0 then [] else [l[i]!]) := by
 rw [takeN (l := l) (by omega)]
 cases l with
 | nil => simp at h
 | cons p r =>
   obtain ⟨j, rfl⟩ : ∃ j, i = j + 1 := ⟨i - 1, by omega⟩
   have e1 : (p :: r).take (j + 1) = p :: r.take j := rfl
   rw [e1, List.cons_append]
   simp only [zB3, List.cons_append]
   rw [zVA]
   have e2 : (p :: r.take j).getLast (by simp) = (p :: r)[j + 1 - 1]! := by
     rw [List.getLast_eq_getElem, Nat.add_sub_cancel, getElem!_pos (p :: r) j (by simp at h; simp; omega)]
     have : (p :: r.take j) = (p :: r).take (j + 1) := rfl
     simp only [this, List.getElem_take]
     congr 1
     simp only [List.length_take, List.length_cons] at *
     omega
   rw [e2]
theorem zZ2 (p : Rec) : ∀ l : List Rec, (cptR p l).length ≤ l.length
 | [] => by simp [cptR]
 | x :: r => by
   have := zZ2 x r
   unfold cptR
   split <;> simp only [List.length_cons] <;> omega
theorem zUe (l : List Rec) : (zB3 l).length ≤ l.length := by
 cases l with
 | nil => simp [zB3]
 | cons x r => have := zZ2 x r; simp only [zB3, List.length_cons]; omega
def cmpC (l : List Rec) (i : Nat) : List Rec := zB3 (l.take i)
def cmpW (l : List Rec) (i : Nat) : List Rec := cmpC l i ++ l.drop (cmpC l i).length
def rec0 : Rec := ⟨[], 0, 0, dat0⟩
def cmpZ (l : List Rec) : List Rec := zB3 l ++ List.replicate (l.length - (zB3 l).length) rec0
structure CpP (l : List Rec) : Prop where
 n : l.length ≤ 1000000
 r : ∀ x ∈ l, RSm x
structure CpA (l : List Rec) (k : Nat) : Prop where
 k0 : 1 ≤ k
 kn : k ≤ l.length
 e : cmpC l k = l.take k
def CpT (t : Nat) : Prop := 1 ≤ t ∧ t ≤ 1000000
structure CpB (l : List Rec) (k t : Nat) : Prop where
 t0 : 1 ≤ t
 tn : k + t ≤ l.length
 lt : (cmpC l (k + t)).length ≤ k + t - 1
theorem zQX (l : List Rec) (i : Nat) : (cmpC l i).length ≤ i := by have := zUe (l.take i); rw [List.length_take] at this; unfold cmpC; omega
theorem zVD {l : List Rec} {i : Nat} (h : i ≤ l.length) : (cmpW l i).length = l.length := by have := zQX l i; simp only [cmpW, List.length_append, List.length_drop]; omega
theorem yCW {l : List Rec} {k : Nat} (j : CpA l k) (h : (k : Int) < l.length) (hc : zAy l[k]! l[k - 1]! = 0 → False) : CpA l (k + 1) := by
 refine ⟨by omega, by omega, ?_⟩
 show zB3 _ = _
 rw [zHH j.k0 (by omega), if_neg hc, takeN (l := l) h]
 show cmpC l k ++ _ = _
 rw [j.e]
theorem yGp {l : List Rec} {k : Nat} (j : CpA l k) (h : (k : Int) < l.length) (hc : zAy l[k]! l[k - 1]! = 0) : cmpC l (k + 1) = l.take k := by
 show zB3 _ = _
 rw [zHH j.k0 (by omega), if_pos hc, List.append_nil]; exact j.e
theorem zOH {l : List Rec} {k : Nat} (j : CpA l k) (h : (k : Int) < l.length) (hc : zAy l[k]! l[k - 1]! = 0) : CpB l k 1 ∧ cmpW l (k + 1) = l ∧ (cmpC l (k + 1)).length = k := by
 have e := yGp j h hc
 have hl : (cmpC l (k + 1)).length = k := by rw [e, List.length_take]; omega
 refine ⟨⟨Nat.le_refl _, by omega, by omega⟩, ?_, hl⟩
 unfold cmpW; rw [hl, e, List.take_append_drop]
theorem zZ8 {l : List Rec} {k t : Nat} (j : CpB l k t) (h : k + t < l.length) (hc : zAy l[k + t]! l[k + t - 1]! = 0) : cmpC l (k + (t + 1)) = cmpC l (k + t) := by
 show zB3 _ = _
 have := j.t0
 rw [← Nat.add_assoc, zHH (by omega) h, if_pos hc, List.append_nil]; rfl
theorem zZ7 {l : List Rec} {k t : Nat} (j : CpB l k t) (h : k + t < l.length) (hc : ¬ zAy l[k + t]! l[k + t - 1]! = 0) : cmpC l (k + (t + 1)) = cmpC l (k + t) ++ [l[k + t]!] := by
 show zB3 _ = _
 have := j.t0
 rw [← Nat.add_assoc, zHH (by omega) h, if_neg hc]; rfl
theorem yAb {l : List Rec} {k t i : Nat} (j : CpB l k t) (h : i < l.length) (hi : (cmpC l (k + t)).length ≤ i) : ((cmpW l (k + t)).map recE)[i]? = some (recE l[i]!) := by
 unfold cmpW
 rw [List.map_append, List.getElem?_append_right (by simp; omega), List.getElem?_map, List.getElem?_drop, List.length_map]
 rw [show (cmpC l (k + t)).length + (i - (cmpC l (k + t)).length) = i by omega, yKB h]; rfl
theorem yGm {l : List Rec} {k t : Nat} (j : CpB l k t) (h : k + t < l.length) (hc : ¬ zAy l[k + t]! l[k + t - 1]! = 0) : ((cmpW l (k + t)).map recE).set (cmpC l (k + t)).length (recE l[k + t]!) = (cmpW l (k + (t + 1))).map recE := by
 have hlt := j.lt; have h0 := j.t0
 rw [← List.map_set]
 congr 1
 have e : cmpW l (k + t) = cmpC l (k + t) ++ l[(cmpC l (k + t)).length]! :: l.drop ((cmpC l (k + t)).length + 1) := by
   unfold cmpW; rw [zEr (l := l) (by omega)]
 rw [zIv e rfl]
 unfold cmpW
 rw [zZ7 j h hc]; simp
theorem yGn {l : List Rec} {k t : Nat} (j : CpB l k t) (h : k + t < l.length) (hc : zAy l[k + t]! l[k + t - 1]! = 0) : cmpW l (k + (t + 1)) = cmpW l (k + t) := by unfold cmpW; rw [zZ8 j h hc]
theorem zZ6 {l : List Rec} {k t : Nat} (j : CpB l k t) (h : k + t < l.length) (hc : zAy l[k + t]! l[k + t - 1]! = 0) : CpB l k (t + 1) :=
 ⟨by omega, by omega, by rw [zZ8 j h hc]; have := j.lt; omega⟩
theorem zZ5 {l : List Rec} {k t : Nat} (j : CpB l k t) (h : k + t < l.length) (hc : ¬ zAy l[k + t]! l[k + t - 1]! = 0) : CpB l k (t + 1) :=
 ⟨by omega, by omega, by rw [zZ7 j h hc, List.length_append]; have := j.lt; have := j.t0; simp only [List.length_cons, List.length_nil]; omega⟩
theorem zZ9 {l : List Rec} {k t : Nat} (j : CpB l k t) (h : ¬ k + t < l.length) : cmpC l (k + t) = zB3 l := by
 unfold cmpC; rw [List.take_of_length_le (by omega)]
theorem yGo {l : List Rec} {k : Nat} (j : CpA l k) (h : ¬ (k : Int) < l.length) : zB3 l = l := by
 have := j.e; unfold cmpC at this; rwa [List.take_of_length_le (by omega)] at this
theorem zL9 {l : List Rec} (h : (l.length : Int) < 2) : zB3 l = l := by
 match l, h with
 | [], _ => rfl
 | [x], _ => rfl
 | _ :: _ :: _, h => simp at h; omega
theorem zSv {l : List Rec} (h : zB3 l = l) : cmpZ l = l := by unfold cmpZ; rw [h]; simp
theorem yAa {l : List Rec} {k t : Nat} (j : CpB l k t) (h : ¬ k + t < l.length) : ((cmpW l (k + t)).map recE).take (cmpC l (k + t)).length ++ (List.replicate (l.length - (cmpC l (k + t)).length) (recE rec0) ++ ((cmpW l (k + t)).map recE).drop ((cmpC l (k + t)).length + (l.length - (cmpC l (k + t)).length))) = (cmpZ l).map recE := by
 have hl := zQX l (k + t); have := j.tn
 have e := zZ9 j h
 rw [List.drop_of_length_le (by rw [List.length_map, zVD j.tn]; omega), ← List.map_take]
 unfold cmpW cmpZ
 rw [List.take_append_of_le_length (Nat.le_refl _), List.take_of_length_le (Nat.le_refl _), e]
 simp

noncomputable def zI3 := mkF (fun s : Rec × Rec => [recE s.1, recE s.2]) (fun s => RSm s.1 ∧ RSm s.2) (fun s => Res.flat (.bo (decide (zAy s.1 s.2 = 0))))
theorem zOY {r1 : Rec} {r2 : Rec} (hp : RSm r1 ∧ RSm r2) : zI3 [recE r1, recE r2] = some (Res.flat (.bo (decide (zAy r1 r2 = 0)))) := zAB (s := (r1, r2)) (fun s s' h => by simp only [cI] at h; simp only [h]) hp
theorem zHj (cx : Cx) (hP : cx.P = Tryz.prog) (hbs : cx.bs = 0) (h93 : cx.orc 93 = some zEb) (r1 r2 : Rec) (hl : RSm r1 ∧ RSm r2) : zAj cx Tryz.f92 [] false [recE r1, recE r2] = some (Res.flat (.bo (decide (zAy r1 r2 = 0)))) := by
 have c93 := zAa h93
 have hl1 := hl.1; have hl2 := hl.2
 refine zAg (rs := [.tmp 4]) rfl hbs rfl ?_
 repeat' first
   | (refine zAR (fun h => ?_) (fun h => ?_) <;> (try simp only [cN] at h))
   | (refine zAN ?_ ?_)
   | simp only [↓cD, cU, cQ, cP, cB, zAJ, unD, zAf, zAd, idx, reduceCtorEq, ↓reduceIte, ofV, ofC, zAq, Nat.reduceEqDiff, zAG, cG, implies_true, forall_const, immL, immD, Res.flat, ren, renL, Int.reduceEq, Int.reduceLT, Int.reduceLE, Int.reduceNe, deref, ldD, zAF, zAk, zAI, zAs, cC, c93, zAo, zAp, zEt, ↓zAM, ↓zAQ, ↓zAL, ↓zAP, ↓zAK, ↓zAO, cV, cT, cF, cW, borT, borM, zAm, Res.via, zAu, zAb, refsB, Nat.reduceLT, Nat.reduceSub, Nat.reduceLeDiff, Nat.reduceMul, Nat.reduceAdd, Int.reduceToNat, appK, zAr, zAc, borL, zAl, zAn, zAE, cO, List.replicate, zAC, ofHp, ixOf, hl1, hl2, hP, *]
 all_goals first
   | rfl
   | (simp [*]; done)
noncomputable def zOW := mkE (fun l : List Rec => [.own 0 0 l.length, .it .i64 l.length, .fn (.func 80) [] []]) (fun l => .row 16 true (l.map recE)) (fun l => StP l) (fun l => (.tup [], [.row 16 true ((stS ltR l).map recE)]))
theorem yDf {l : List Rec} (hp : StP l) : zOW [.own 0 0 l.length, .it .i64 l.length, .fn (.func 80) [] []] [.row 16 true (l.map recE)] = some (.tup [], [.row 16 true ((stS ltR l).map recE)]) :=
 zIu (s := l) (fun s s' _ _ _ h2 => by rw [zGh (Blk.row.inj h2).2.2]) hp
theorem yAi {l : List Rec} {nid : Nat} (hp : StP l) : zEN zOW [.own 0 0 l.length, .it .i64 l.length, .fn (.func 80) [] []] (ofHp [.row 16 true (l.map recE)]) nid = some (.tup [], ofHp [.row 16 true ((stS ltR l).map recE)], nid) := zYT rfl (yDf hp)
noncomputable def FSSF := mkE (fun l : List Rec => [.own 0 0 l.length, .fn (.func 80) [] []]) (fun l => .row 16 true (l.map recE)) (fun l => StP l) (fun l => (.tup [], [.row 16 true ((stS ltR l).map recE)]))
theorem zRe {l : List Rec} (hp : StP l) : FSSF [.own 0 0 l.length, .fn (.func 80) [] []] [.row 16 true (l.map recE)] = some (.tup [], [.row 16 true ((stS ltR l).map recE)]) :=
 zIu (s := l) (fun s s' _ _ _ h2 => by rw [zGh (Blk.row.inj h2).2.2]) hp

theorem zM3 (cx : Cx) (hP : cx.P = Tryz.prog) (hbs : cx.bs = 1) (xn121 : cx.orc 121 = none) (xe121 : cx.ext 121 = none) (xf121 : cx.eff 121 = some zOW) (l : List Rec) (hl : StP l) : zFl cx Tryz.f90 [.own 0 0 l.length, .fn (.func 80) [] []] [.row 16 true (l.map recE)] = some ((.tup [], [.row 16 true ((stS ltR l).map recE)])) := by
 have cf121 := fun H nid l => (show zDD cx 121 l H nid = _ from zCD xn121 xe121 xf121)
 refine zJ7 (rs := []) rfl hbs rfl ?_
 repeat' first
   | (refine zAR (fun h => ?_) (fun h => ?_) <;> (try simp only [cN] at h))
   | (refine zAN ?_ ?_)
   | simp only [↓cD, cU, cQ, cP, cB, zAJ, unD, zAf, zAd, idx, reduceCtorEq, ↓reduceIte, ofV, ofC, zAq, Nat.reduceEqDiff, zAG, cG, implies_true, forall_const, immL, immD, Res.flat, ren, renL, Int.reduceEq, Int.reduceLT, Int.reduceLE, Int.reduceNe, deref, ldD, zAF, zAk, zAI, zAs, cC, ↓zAM, ↓zAQ, ↓zAL, ↓zAP, ↓zAK, ↓zAO, cV, cT, cF, cW, borT, borM, zAm, Res.via, zAu, zAb, refsB, Nat.reduceLT, Nat.reduceSub, Nat.reduceLeDiff, Nat.reduceMul, Nat.reduceAdd, Int.reduceToNat, appK, zAr, zAc, borL, zAl, zAn, zAE, cO, List.replicate, zAC, ofHp, ixOf, yAi hl, hP, *]
 all_goals first
   | exact ⟨_, rfl, zCt _, by simp, rfl⟩
noncomputable def FCpt := mkE (fun l : List Rec => [.own 0 0 l.length, .fn (.func 92) [] []]) (fun l => .row 16 true (l.map recE)) (fun l => CpP l) (fun l => (.own 0 0 (zB3 l).length, [.row 16 true ((cmpZ l).map recE)]))
theorem yG9 {l : List Rec} (hp : CpP l) : FCpt [.own 0 0 l.length, .fn (.func 92) [] []] [.row 16 true (l.map recE)] = some (.own 0 0 (zB3 l).length, [.row 16 true ((cmpZ l).map recE)]) :=
 zIu (s := l) (fun s s' _ _ _ h2 => by rw [zGh (Blk.row.inj h2).2.2]) hp

theorem zNg (cx : Cx) (hP : cx.P = Tryz.prog) (hbs : cx.bs = 1) (h92 : cx.orc 92 = some zI3) (r92 : cx.rd.contains 92 = true) (hk4 : cx.kp 4 = some [0, 1, 5]) (hk9 : cx.kp 9 = some [0, 1, 5, 6, 7]) (l : List Rec) (hl : CpP l) : zFl cx Tryz.f91 [.own 0 0 l.length, .fn (.func 92) [] []] [.row 16 true (l.map recE)] = some ((.own 0 0 (zB3 l).length, [.row 16 true ((cmpZ l).map recE)])) := by
 have c92 := zAa h92
 have d92 := zAh r92 h92
 have hw1 : ∀ k : Nat, CpA l k → (k : Int) < l.length → IntKind.i64.wrap ((k : Int) + 1) = ((k + 1 : Nat) : Int) := fun k j h => by have := j.kn; have := hl.n; rw [wrap64 (by omega) (by omega)]; omega
 have hw2 : ∀ k : Nat, CpA l k → IntKind.i64.wrap ((k : Int) - 1) = ((k - 1 : Nat) : Int) := fun k j => by have := j.kn; have := j.k0; have := hl.n; rw [wrap64 (by omega) (by omega)]; omega
 have hw3 : ∀ k t : Nat, CpB l k t → IntKind.i64.wrap (((cmpC l (k + t)).length : Int) + 1) = (((cmpC l (k + t)).length + 1 : Nat) : Int) := fun k t j => by have := zQX l (k + t); have := j.tn; have := hl.n; rw [wrap64 (by omega) (by omega)]; omega
 have hw4 : ∀ t : Nat, CpT t → IntKind.i64.wrap ((t : Int) + 1) = ((t + 1 : Nat) : Int) := fun t j => by have := j.1; have := j.2; rw [wrap64 (by omega) (by omega)]; omega
 have hw5 : ∀ t : Nat, CpT t → IntKind.i64.wrap ((t : Int) - 1) = ((t - 1 : Nat) : Int) := fun t j => by have := j.1; have := j.2; rw [wrap64 (by omega) (by omega)]; omega
 have hz1 : ∀ k : Nat, ((k : Int) < 0) = False := fun k => by simp
 have hz2 : ∀ k : Nat, (0 ≤ (k : Int)) = True := fun k => by simp
 have hkm : ∀ k : Nat, CpA l k → (k : Int) < l.length → (((k - 1 : Nat) : Int) < (l.length : Int)) = True := fun k j h => by simp only [eq_iff_iff, iff_true]; omega
 have hkl : ∀ k : Nat, CpA l k → (k ≤ l.length) = True := fun k j => by have := j.kn; simp only [eq_iff_iff, iff_true]; omega
 have hr1 : ∀ k : Nat, CpA l k → (k : Int) < l.length → (l.map recE)[k]? = some (recE l[k]!) := fun k j h => getm (by omega)
 have hr2 : ∀ k : Nat, CpA l k → (k : Int) < l.length → (l.map recE)[k - 1]? = some (recE l[k - 1]!) := fun k j h => getm (by omega)
 have hs1 : ∀ k : Nat, CpA l k → (k : Int) < l.length → zI3 [recE l[k]!, recE l[k - 1]!] = some (Res.flat (.bo (decide (zAy l[k]! l[k - 1]! = 0)))) := fun k j h => zOY ⟨hl.r _ (zBO (by omega)), hl.r _ (zBO (by omega))⟩
 have hlB : ∀ k t : Nat, ((t : Int) < ((l.length - k : Nat) : Int)) = (k + t < l.length) := fun k t => by simp only [eq_iff_iff]; omega
 have hlC : ∀ k t : Nat, CpB l k t → k + t < l.length → (k + (t - 1) < l.length) = True := fun k t j h => by simp only [eq_iff_iff, iff_true]; omega
 have hr3 : ∀ k t : Nat, CpB l k t → k + t < l.length → ((cmpW l (k + t)).map recE)[k + t]? = some (recE l[k + t]!) := fun k t j h => yAb j h (by have := j.lt; omega)
 have hr4 : ∀ k t : Nat, CpB l k t → k + t < l.length → ((cmpW l (k + t)).map recE)[k + (t - 1)]? = some (recE l[k + t - 1]!) := fun k t j h => by have := j.t0; rw [show k + (t - 1) = k + t - 1 by omega]; exact yAb j (by omega) j.lt
 have hs2 : ∀ k t : Nat, CpB l k t → k + t < l.length → zI3 [recE l[k + t]!, recE l[k + t - 1]!] = some (Res.flat (.bo (decide (zAy l[k + t]! l[k + t - 1]! = 0)))) := fun k t j h => zOY ⟨hl.r _ (zBO (by omega)), hl.r _ (zBO (by omega))⟩
 have hbB : ∀ k t : Nat, CpB l k t → k + t < l.length → (((cmpC l (k + t)).length : Int) < (l.length : Int)) = True := fun k t j h => by have := j.lt; simp only [eq_iff_iff, iff_true]; omega
 have hbC : ∀ k t : Nat, CpB l k t → ((cmpC l (k + t)).length ≤ l.length) = True := fun k t j => by have := j.lt; have := j.tn; simp only [eq_iff_iff, iff_true]; omega
 have hbD : ∀ k t : Nat, CpB l k t → ((cmpC l (k + t)).length + (l.length - (cmpC l (k + t)).length) ≤ (cmpW l (k + t)).length) = True := fun k t j => by have := j.lt; have := j.tn; rw [zVD j.tn]; simp only [eq_iff_iff, iff_true]; omega
 have hr5 : ∀ k t : Nat, CpB l k t → k + t < l.length → ((cmpW l (k + t)).map recE)[(cmpC l (k + t)).length]? = some (recE l[(cmpC l (k + t)).length]!) := fun k t j h => yAb j (by have := j.lt; omega) (Nat.le_refl _)
 have hz0 : (.agg [.st [], .it .i64 0, .it .i64 0, .bo false, .it .u64 0, .it .u64 0, .st [], .st [], .st [], .it .i64 0, .it .i64 0, .it .i64 0, .it .i64 0, .it .i64 0, .it .i64 0, .it .u64 0] : D) = recE rec0 := rfl
 have hcl : ∀ k t : Nat, CpB l k t → ¬ k + t < l.length → ((cmpW l (k + t)).map recE).take (cmpC l (k + t)).length ++ (List.replicate (l.length - (cmpC l (k + t)).length) (recE rec0) ++ ((cmpW l (k + t)).map recE).drop ((cmpC l (k + t)).length + (l.length - (cmpC l (k + t)).length))) = (cmpZ l).map recE := fun k t j h => yAa j h
 have hdy := fun {nx bef i : Nat} {env : Nat → D} {H : Hp} {dst : Option Tmp} {ty : TypeId} {pos : String} {after : Array Edge} {gd : Option (Nat × Bool)} {k : Tmp} {args : Array Operand} {ts : Array TypeId} (hk : env k = .fn (.func 92) [] []) (hr : zAD nx bef i H (refs (env k) ++ zAv (args.toList.map (ev env))) = true) (hi : immL (args.toList.map (ev env)) = true) => zNv (cx := cx) (nx := nx) (bef := bef) (i := i) (env := env) (H := H) (dst := dst) (ty := ty) (pos := pos) (after := after) (gd := gd) (k := k) (args := args) (ts := ts) hk h92 hr hi
 refine zJ7 (rs := [.tmp 4]) rfl hbs rfl ?_
 repeat' first
   | (refine zBz (σ := Nat) (fun k => [.own 0 0 l.length, .fn (.func 92) [] [], .it .i64 (k : Int)]) (fun k => [.row 16 true ((l).map recE)]) (fun k => CpA l k) (fun k => l.length - k) [0, 1, 5] hbs (by exact hk4) (fun q jq b hb => by simp only [List.mem_singleton] at hb; subst hb; exact zCt _) (fun k jk => ?_) (s := 1) [0] ?_ ?_ ?_ ?_ ?_ ?_)
   | (refine zBz (σ := Nat) (fun t => [.own 0 0 l.length, .fn (.func 92) [] [], .it .i64 ((cmpC l (k + t)).length : Int), .own 0 k (l.length - k), .it .i64 (t : Int)]) (fun t => [.row 16 true ((cmpW l (k + t)).map recE)]) (fun t => CpB l k t ∧ CpT t) (fun t => l.length - t) [0, 1, 5, 6, 7] hbs (by exact hk9) (fun q jq b hb => by simp only [List.mem_singleton] at hb; subst hb; exact zCt _) (fun t jt => ?_) (s := 1) [0] ?_ ?_ ?_ ?_ ?_ ?_)
   | (refine zAR (fun h => ?_) (fun h => ?_) <;> (try simp only [cN] at h))
   | (refine zAN ?_ ?_)
   | simp (config := { decide := true }) only [↓cD, cU, cQ, cP, cB, zAJ, unD, zAf, zAd, idx, reduceCtorEq, ↓reduceIte, ofV, ofC, zAq, Nat.reduceEqDiff, zAG, cG, implies_true, forall_const, immL, immD, Res.flat, ren, renL, Int.reduceEq, Int.reduceLT, Int.reduceLE, Int.reduceNe, deref, ldD, zAF, zAk, zAI, zAs, cC, cS, refs, zAD, okId, List.all_nil, List.all_cons, Nat.reduceMul, Nat.reduceAdd, Nat.reduceLeDiff, zAv, c92, d92, zAo, zAp, zOY, ↓zAM, ↓zAQ, ↓zAL, ↓zAP, ↓zAK, ↓zAO, cV, cT, cF, cW, borT, borM, zAm, Res.via, zAu, zAb, refsB, Nat.reduceLT, Nat.reduceSub, Nat.reduceLeDiff, Nat.reduceMul, Nat.reduceAdd, Int.reduceToNat, appK, zAr, zAc, borL, zAl, zAn, zAE, cO, List.replicate, zAC, ofHp, ixOf, cS, refs, zAD, okId, List.all_nil, List.all_cons, Nat.reduceMul, Nat.reduceAdd, Nat.reduceLeDiff, zAv, zDH, zJk, updL, zVE, zKi, yGm, el22, ze22, hw1, hw2, hw3, hw4, hw5, hz1, hz2, hkm, hkl, hr1, hr2, hs1, hlB, hlC, hr3, hr4, hs2, hbB, hbC, hbD, hr5, hz0, hcl, hdy, hP, *]
 all_goals first
   | rfl
   | omega
   | (have e := zL9 (l := l) (by omega); rw [e, zSv e]; exact ⟨_, rfl, zCt _, by simp [zQi], rfl⟩)
   | (have e := yGo jk ‹_›; rw [e, zSv e]; exact ⟨_, rfl, zCt _, by simp [zQi], rfl⟩)
   | (rw [zZ9 jt.1 ‹_›]; exact ⟨_, rfl, zCt _, by simp [zQi], rfl⟩)
   | exact ⟨Nat.le_refl _, by omega, zL9 (by rw [List.length_take]; omega)⟩
   | (have e := zOH jk ‹_› ‹_›; rw [e.2.2]; rfl)
   | (have e := zOH jk ‹_› ‹_›; rw [e.2.1]; done)
   | exact ⟨(zOH jk ‹_› ‹_›).1, Nat.le_refl _, by omega⟩
   | (refine ⟨[0], t + 1, ?_, ?_, ?_, ?_, ?_, ⟨zZ6 jt.1 ‹_› ‹_›, by have := hl.n; have := jt.1.tn; have := jt.2; exact ⟨by omega, by omega⟩⟩, by omega⟩ <;> first | rfl | (rw [zZ8 jt.1 ‹_› ‹_›]; rfl) | (rw [yGn jt.1 ‹_› ‹_›]; rfl))
   | (refine ⟨[0], t + 1, ?_, ?_, ?_, ?_, ?_, ⟨zZ5 jt.1 ‹_› ‹_›, by have := hl.n; have := jt.1.tn; have := jt.2; exact ⟨by omega, by omega⟩⟩, by omega⟩ <;> first | rfl | (rw [zZ7 jt.1 ‹_› ‹_›, List.length_append]; rfl))
   | (refine ⟨[0], k + 1, ?_, ?_, ?_, ?_, ?_, yCW jk (by omega) ‹_›, by omega⟩ <;> rfl)
theorem yGB {E : Rec → D} {xs : List Rec} : binD Tryz.prog .eql 22 (vecE 16 E xs) .nils = if xs = [] then none else some (.bo false) := zUi Tryz.underlying22
theorem yGE {b : Bool} : binD Tryz.prog .eql 22 (.emp b) .nils = some (.bo (!b)) := zUk Tryz.underlying22
theorem yEH {b : Bool} : zDu Tryz.prog 22 (.emp b) = true := yEM Tryz.underlying22

noncomputable def zMO := mkF (fun s : (List Rec) => [zAt s]) (fun s => s ≠ [] ∧ s.length ≤ 1000000) (fun s => Res.row 16 (s.map recE))
theorem yDs {a : List Rec} (hp : a ≠ [] ∧ a.length ≤ 1000000) : zMO [zAt a] = some (Res.row 16 (a.map recE)) := zAB (s := (a)) (fun s s' h => by simp only [cI] at h; simp only [h]) hp
theorem zJN (cx : Cx) (hP : cx.P = Tryz.prog) (hbs : cx.bs = 0) (a : List Rec) (hl : a ≠ [] ∧ a.length ≤ 1000000) : zAj cx Tryz.f64 [0] false [zAt a] = some (Res.row 16 (a.map recE)) := by
 have hl1 := hl.1; have hl2 := hl.2
 refine zDv (rs := [.tmp 2]) rfl hbs rfl ?_
 repeat' first
   | (refine zAR (fun h => ?_) (fun h => ?_) <;> (try simp only [cN] at h))
   | (refine zAN ?_ ?_)
   | simp only [↓cD, cU, cQ, cP, cB, zAJ, unD, zAf, zAd, idx, reduceCtorEq, ↓reduceIte, ofV, ofC, zAq, Nat.reduceEqDiff, zAG, cG, implies_true, forall_const, immL, immD, Res.flat, ren, renL, Int.reduceEq, Int.reduceLT, Int.reduceLE, Int.reduceNe, deref, ldD, zAF, zAk, zAI, zAs, cC, ↓zAM, ↓zAQ, ↓zAL, ↓zAP, ↓zAK, ↓zAO, cV, cT, cF, cW, borT, borM, zAm, Res.via, zAu, zAb, refsB, Nat.reduceLT, Nat.reduceSub, Nat.reduceLeDiff, Nat.reduceMul, Nat.reduceAdd, Int.reduceToNat, appK, zAr, zAc, borL, zAl, zAn, zAE, cO, List.replicate, zAC, ofHp, ixOf, yGB, zEk, List.replicate_zero, zAE, Nat.zero_mul, hP, *]
 all_goals first
   | rfl
   | omega
   | (have h2 := hl.2; omega)
   | exact ⟨_, _, _, _, rfl, rfl, by simp, zBP (fun _ => rfl), rfl⟩
noncomputable def zPr := mkF (fun s : Bool => [.emp s]) (fun s => True) (fun s => Res.row 16 [])
theorem yDr {b : Bool} : zPr [.emp b] = some (Res.row 16 []) := zAB (s := (b)) (fun s s' h => rfl) trivial
theorem zJM (cx : Cx) (hP : cx.P = Tryz.prog) (hbs : cx.bs = 0) (b : Bool)  : zAj cx Tryz.f64 [0] false [.emp b] = some (Res.row 16 []) := by
 refine zDv (rs := [.tmp 2]) rfl hbs rfl ?_
 repeat' first
   | (refine zAR (fun h => ?_) (fun h => ?_) <;> (try simp only [cN] at h))
   | (refine zAN ?_ ?_)
   | simp only [↓cD, cU, cQ, cP, cB, zAJ, unD, zAf, zAd, idx, reduceCtorEq, ↓reduceIte, ofV, ofC, zAq, Nat.reduceEqDiff, zAG, cG, implies_true, forall_const, immL, immD, Res.flat, ren, renL, Int.reduceEq, Int.reduceLT, Int.reduceLE, Int.reduceNe, deref, ldD, zAF, zAk, zAI, zAs, cC, ↓zAM, ↓zAQ, ↓zAL, ↓zAP, ↓zAK, ↓zAO, cV, cT, cF, cW, borT, borM, zAm, Res.via, zAu, zAb, refsB, Nat.reduceLT, Nat.reduceSub, Nat.reduceLeDiff, Nat.reduceMul, Nat.reduceAdd, Int.reduceToNat, appK, zAr, zAc, borL, zAl, zAn, zAE, cO, List.replicate, zAC, ofHp, ixOf, yGE, yEH, zOF, zEk, List.replicate_zero, zAE, Nat.zero_mul, hP, *]
 all_goals first
   | rfl
   | omega
   | exact ⟨_, _, _, _, rfl, rfl, rfl, rfl, rfl⟩
noncomputable def FClR : List D → Option Res := fun ds => (zMO ds).or (zPr ds)
theorem zFi {a : List Rec} (hp : a ≠ [] ∧ a.length ≤ 1000000) : FClR [zAt a] = some (Res.row 16 (a.map recE)) := by
 show ((zMO [zAt a]).or _) = _
 rw [yDs hp]; rfl
theorem zFL {b : Bool} : FClR [D.emp b] = some (Res.row 16 []) := by
 have e1 : zMO [D.emp b] = none := zCz (fun s h => by simp [zAt, vecE] at h)
 show ((zMO [D.emp b]).or _) = _
 rw [e1, yDr (b := b)]; rfl
theorem zRi {l : List Rec} (hp : CpP (stS ltR l)) : FCpt [.own 0 0 l.length, .fn (.func 92) [] []] [.row 16 true ((stS ltR l).map recE)] = some (.own 0 0 (zA4 l).length, [.row 16 true ((cmpZ (stS ltR l)).map recE)]) := by
 have h := yG9 hp
 rw [zEz, zUE] at h; exact h
theorem zSu {l : List Rec} : ((cmpZ (stS ltR l)).map recE).take (zA4 l).length = (zA4 l).map recE := by
 rw [← List.map_take]
 unfold cmpZ
 rw [zUE, List.take_append_of_le_length (Nat.le_refl _), List.take_length]
theorem zNL {l : List Rec} (h : LSm l) : CpP (stS ltR l) := ⟨by rw [zEz]; exact h.1, fun x hx => h.2 x (zPE (fun z => zKL wkR l z) hx)⟩
theorem zUB {l : List Rec} (h : LSm l) : StP l := ⟨h.1, h.2⟩
theorem zQW (l : List Rec) : zBN ((cmpZ l).map recE) = true := zBP (fun _ => rfl)

noncomputable def zCx := mkF (fun s : (List Rec) => [zAt s]) (fun s => s ≠ [] ∧ LSm s) (fun s => Res.flat (zAt (zA4 s)))
theorem zF4 {a : List Rec} (hp : a ≠ [] ∧ LSm a) : zCx [zAt a] = some (Res.flat (zAt (zA4 a))) := zAB (s := (a)) (fun s s' h => by simp only [cI] at h; simp only [h]) hp
theorem zHi (cx : Cx) (hP : cx.P = Tryz.prog) (hbs : cx.bs = 0) (h64 : cx.orc 64 = some FClR) (xn90 : cx.orc 90 = none) (xe90 : cx.ext 90 = none) (xf90 : cx.eff 90 = some FSSF) (xn91 : cx.orc 91 = none) (xe91 : cx.ext 91 = none) (xf91 : cx.eff 91 = some FCpt) (a : List Rec) (hl : a ≠ [] ∧ LSm a) : zAj cx Tryz.f48 [] false [zAt a] = some (Res.flat (zAt (zA4 a))) := by
 have c64 := zAa h64
 have cf90 := fun H nid l => (show zDD cx 90 l H nid = _ from zCD xn90 xe90 xf90)
 have cf91 := fun H nid l => (show zDD cx 91 l H nid = _ from zCD xn91 xe91 xf91)
 have hl6 : a ≠ [] ∧ a.length ≤ 1000000 := ⟨hl.1, hl.2.1⟩
 have hl3 : StP a := zUB hl.2; have hl4 : CpP (stS ltR a) := zNL hl.2
 have hs0 := zFi hl6
 have hs1 := zRe hl3
 have hs2 := zRi hl4
 refine zRP (rs := [.tmp 2]) rfl hbs rfl ?_
 repeat' first
   | (refine zAR (fun h => ?_) (fun h => ?_) <;> (try simp only [cN] at h))
   | (refine zAN ?_ ?_)
   | simp only [↓cD, cU, cQ, cP, cB, zAJ, unD, zAf, zAd, idx, reduceCtorEq, ↓reduceIte, ofV, ofC, zAq, Nat.reduceEqDiff, zAG, cG, implies_true, forall_const, immL, immD, Res.flat, ren, renL, Int.reduceEq, Int.reduceLT, Int.reduceLE, Int.reduceNe, deref, ldD, zAF, zAk, zAI, zAs, cC, c64, zAo, zAp, zFi, ↓zAM, ↓zAQ, ↓zAL, ↓zAP, ↓zAK, ↓zAO, cV, cT, cF, cW, borT, borM, zAm, Res.via, zAu, zAb, refsB, Nat.reduceLT, Nat.reduceSub, Nat.reduceLeDiff, Nat.reduceMul, Nat.reduceAdd, Int.reduceToNat, appK, zAr, zAc, borL, zAl, zAn, zAE, cO, List.replicate, zAC, ofHp, ixOf, hs0, zAv, refs, zIw, zIN, zNO, zIM, hs1, hs2, Res.row, Res.rowd, hP, *]
 all_goals first
   | rfl
   | exact ⟨_, _, _, _, rfl, rfl, zQW _, by rw [zSu]; rfl⟩
noncomputable def zDG := mkF (fun s : Bool => [.emp s]) (fun s => True) (fun s => Res.flat (zAt []))
theorem zF3 {b : Bool} : zDG [.emp b] = some (Res.flat (zAt [])) := zAB (s := (b)) (fun s s' h => rfl) trivial
theorem zHh (cx : Cx) (hP : cx.P = Tryz.prog) (hbs : cx.bs = 0) (h64 : cx.orc 64 = some FClR) (xn90 : cx.orc 90 = none) (xe90 : cx.ext 90 = none) (xf90 : cx.eff 90 = some FSSF) (xn91 : cx.orc 91 = none) (xe91 : cx.ext 91 = none) (xf91 : cx.eff 91 = some FCpt) (b : Bool)  : zAj cx Tryz.f48 [] false [.emp b] = some (Res.flat (zAt [])) := by
 have c64 := zAa h64
 have cf90 := fun H nid l => (show zDD cx 90 l H nid = _ from zCD xn90 xe90 xf90)
 have cf91 := fun H nid l => (show zDD cx 91 l H nid = _ from zCD xn91 xe91 xf91)
 have hl : LSm ([] : List Rec) := ⟨by simp, by simp⟩
 have hl3 : StP ([] : List Rec) := zUB hl; have hl4 : CpP (stS ltR ([] : List Rec)) := zNL hl
 have hs1 : FSSF [.own 0 0 0, .fn (.func 80) [] []] [.row 16 true []] = some (.tup [], [.row 16 true []]) := zRe hl3
 have hs2 : FCpt [.own 0 0 0, .fn (.func 92) [] []] [.row 16 true []] = some (.own 0 0 0, [.row 16 true []]) := zRi hl4
 refine zRP (rs := [.tmp 2]) rfl hbs rfl ?_
 repeat' first
   | (refine zAR (fun h => ?_) (fun h => ?_) <;> (try simp only [cN] at h))
   | (refine zAN ?_ ?_)
   | simp only [↓cD, cU, cQ, cP, cB, zAJ, unD, zAf, zAd, idx, reduceCtorEq, ↓reduceIte, ofV, ofC, zAq, Nat.reduceEqDiff, zAG, cG, implies_true, forall_const, immL, immD, Res.flat, ren, renL, Int.reduceEq, Int.reduceLT, Int.reduceLE, Int.reduceNe, deref, ldD, zAF, zAk, zAI, zAs, cC, c64, zAo, zAp, zFi, ↓zAM, ↓zAQ, ↓zAL, ↓zAP, ↓zAK, ↓zAO, cV, cT, cF, cW, borT, borM, zAm, Res.via, zAu, zAb, refsB, Nat.reduceLT, Nat.reduceSub, Nat.reduceLeDiff, Nat.reduceMul, Nat.reduceAdd, Int.reduceToNat, appK, zAr, zAc, borL, zAl, zAn, zAE, cO, List.replicate, zAC, ofHp, ixOf, zFL, zAv, refs, zIw, zIN, zNO, zIM, hs1, hs2, Res.row, Res.rowd, hP, *]
 all_goals first
   | rfl
   | exact ⟨_, _, _, _, rfl, rfl, rfl, rfl⟩
noncomputable def zBM := mkF (fun s : (List Rec) => [zAt s]) (fun s => s ≠ [] ∧ LSm s) (fun s => Res.front (zA4 s).length 16 ((cmpZ (stS ltR s)).map recE))
theorem zEL {a : List Rec} (hp : a ≠ [] ∧ LSm a) : zBM [zAt a] = some (Res.front (zA4 a).length 16 ((cmpZ (stS ltR a)).map recE)) := zAB (s := (a)) (fun s s' h => by simp only [cI] at h; simp only [h]) hp
theorem zFQ (cx : Cx) (hP : cx.P = Tryz.prog) (hbs : cx.bs = 0) (h64 : cx.orc 64 = some FClR) (xn90 : cx.orc 90 = none) (xe90 : cx.ext 90 = none) (xf90 : cx.eff 90 = some FSSF) (xn91 : cx.orc 91 = none) (xe91 : cx.ext 91 = none) (xf91 : cx.eff 91 = some FCpt) (a : List Rec) (hl : a ≠ [] ∧ LSm a) : zAj cx Tryz.f48 [0] false [zAt a] = some (Res.front (zA4 a).length 16 ((cmpZ (stS ltR a)).map recE)) := by
 have c64 := zAa h64
 have cf90 := fun H nid l => (show zDD cx 90 l H nid = _ from zCD xn90 xe90 xf90)
 have cf91 := fun H nid l => (show zDD cx 91 l H nid = _ from zCD xn91 xe91 xf91)
 have hl6 : a ≠ [] ∧ a.length ≤ 1000000 := ⟨hl.1, hl.2.1⟩
 have hl3 : StP a := zUB hl.2; have hl4 : CpP (stS ltR a) := zNL hl.2
 have hs0 := zFi hl6
 have hs1 := zRe hl3
 have hs2 := zRi hl4
 refine zPC (rs := [.tmp 2]) rfl hbs rfl ?_
 repeat' first
   | (refine zAR (fun h => ?_) (fun h => ?_) <;> (try simp only [cN] at h))
   | (refine zAN ?_ ?_)
   | simp only [↓cD, cU, cQ, cP, cB, zAJ, unD, zAf, zAd, idx, reduceCtorEq, ↓reduceIte, ofV, ofC, zAq, Nat.reduceEqDiff, zAG, cG, implies_true, forall_const, immL, immD, Res.flat, ren, renL, Int.reduceEq, Int.reduceLT, Int.reduceLE, Int.reduceNe, deref, ldD, zAF, zAk, zAI, zAs, cC, c64, zAo, zAp, zFi, ↓zAM, ↓zAQ, ↓zAL, ↓zAP, ↓zAK, ↓zAO, cV, cT, cF, cW, borT, borM, zAm, Res.via, zAu, zAb, refsB, Nat.reduceLT, Nat.reduceSub, Nat.reduceLeDiff, Nat.reduceMul, Nat.reduceAdd, Int.reduceToNat, appK, zAr, zAc, borL, zAl, zAn, zAE, cO, List.replicate, zAC, ofHp, ixOf, hs0, zAv, refs, zIw, zIN, zNO, zIM, hs1, hs2, Res.row, Res.rowd, hP, *]
 all_goals first
   | rfl
   | exact ⟨_, _, _, _, rfl, rfl, zQW _, rfl⟩
noncomputable def zCv := mkF (fun s : Bool => [.emp s]) (fun s => True) (fun s => Res.front 0 16 [])
theorem zEK {b : Bool} : zCv [.emp b] = some (Res.front 0 16 []) := zAB (s := (b)) (fun s s' h => rfl) trivial
theorem zFP (cx : Cx) (hP : cx.P = Tryz.prog) (hbs : cx.bs = 0) (h64 : cx.orc 64 = some FClR) (xn90 : cx.orc 90 = none) (xe90 : cx.ext 90 = none) (xf90 : cx.eff 90 = some FSSF) (xn91 : cx.orc 91 = none) (xe91 : cx.ext 91 = none) (xf91 : cx.eff 91 = some FCpt) (b : Bool)  : zAj cx Tryz.f48 [0] false [.emp b] = some (Res.front 0 16 []) := by
 have c64 := zAa h64
 have cf90 := fun H nid l => (show zDD cx 90 l H nid = _ from zCD xn90 xe90 xf90)
 have cf91 := fun H nid l => (show zDD cx 91 l H nid = _ from zCD xn91 xe91 xf91)
 have hl : LSm ([] : List Rec) := ⟨by simp, by simp⟩
 have hl3 : StP ([] : List Rec) := zUB hl; have hl4 : CpP (stS ltR ([] : List Rec)) := zNL hl
 have hs1 : FSSF [.own 0 0 0, .fn (.func 80) [] []] [.row 16 true []] = some (.tup [], [.row 16 true []]) := zRe hl3
 have hs2 : FCpt [.own 0 0 0, .fn (.func 92) [] []] [.row 16 true []] = some (.own 0 0 0, [.row 16 true []]) := zRi hl4
 refine zPC (rs := [.tmp 2]) rfl hbs rfl ?_
 repeat' first
   | (refine zAR (fun h => ?_) (fun h => ?_) <;> (try simp only [cN] at h))
   | (refine zAN ?_ ?_)
   | simp only [↓cD, cU, cQ, cP, cB, zAJ, unD, zAf, zAd, idx, reduceCtorEq, ↓reduceIte, ofV, ofC, zAq, Nat.reduceEqDiff, zAG, cG, implies_true, forall_const, immL, immD, Res.flat, ren, renL, Int.reduceEq, Int.reduceLT, Int.reduceLE, Int.reduceNe, deref, ldD, zAF, zAk, zAI, zAs, cC, c64, zAo, zAp, zFi, ↓zAM, ↓zAQ, ↓zAL, ↓zAP, ↓zAK, ↓zAO, cV, cT, cF, cW, borT, borM, zAm, Res.via, zAu, zAb, refsB, Nat.reduceLT, Nat.reduceSub, Nat.reduceLeDiff, Nat.reduceMul, Nat.reduceAdd, Int.reduceToNat, appK, zAr, zAc, borL, zAl, zAn, zAE, cO, List.replicate, zAC, ofHp, ixOf, zFL, zAv, refs, zIw, zIN, zNO, zIM, hs1, hs2, Res.row, Res.rowd, hP, *]
 all_goals first
   | rfl
   | exact ⟨_, _, _, _, rfl, rfl, rfl, rfl⟩
def fndR (l : List Rec) (x : Rec) : Bool := if (posR l x : Int) < l.length then decide (zAy l[posR l x]! x = 0) else false
theorem yFd (l : List Rec) (x : Rec) : posR l x ≤ l.length := by
 induction l with
 | nil => simp [posR]
 | cons y r ih => unfold posR; split <;> simp only [List.length_cons] <;> omega
theorem zLJ {l : List Rec} {x : Rec} (hs : Srt lt1 l) : ∀ i, i < l.length → (zAy l[i]! x < 0 ↔ i < posR l x) := by
 induction l with
 | nil => intro i h; simp at h
 | cons y r ih =>
   have hr := List.Pairwise.of_cons hs
   intro i h
   unfold posR
   by_cases hy : zAy y x < 0
   · rw [if_pos hy]
     cases i with
     | zero => exact ⟨fun _ => by omega, fun _ => hy⟩
     | succ i =>
       have := ih hr i (by simpa using h)
       show zAy r[i]! x < 0 ↔ _
       rw [this]; omega
   · rw [if_neg hy]
     refine ⟨fun h2 => ?_, fun h2 => by omega⟩
     cases i with
     | zero => exact absurd h2 hy
     | succ i =>
       exfalso
       have h3 : zAy r[i]! x < 0 := h2
       have hm : r[i]! ∈ r := zBO (by simp only [List.length_cons] at h; omega)
       have h4 := (List.pairwise_cons.1 hs).1 _ hm
       have h5 := of_decide_eq_false h4
       have := wk1.le_lt (a := y) (b := r[i]!) (c := x) (decide_eq_false h5) (decide_eq_true h3)
       exact hy (of_decide_eq_true this)
structure BsJ (l : List Rec) (x : Rec) (q : Nat × Nat) : Prop where
 a : q.1 ≤ posR l x
 b : posR l x ≤ q.2
 c : q.2 ≤ l.length
theorem yKS {l : List Rec} {x : Rec} {q : Nat × Nat} (hs : Srt lt1 l) (j : BsJ l x q) (h : (q.1 : Int) < q.2) (hc : zAy l[(q.1 + q.2) / 2]! x < 0) : BsJ l x ((q.1 + q.2) / 2 + 1, q.2) := by
 have h1 := j.c
 have := (zLJ (x := x) hs ((q.1 + q.2) / 2) (by omega)).1 hc
 exact ⟨by show (q.1 + q.2) / 2 + 1 ≤ _; omega, j.b, j.c⟩
theorem yKT {l : List Rec} {x : Rec} {q : Nat × Nat} (hs : Srt lt1 l) (j : BsJ l x q) (h : (q.1 : Int) < q.2) (hc : ¬ zAy l[(q.1 + q.2) / 2]! x < 0) : BsJ l x (q.1, (q.1 + q.2) / 2) := by
 have h1 := j.c
 have h2 : ¬ (q.1 + q.2) / 2 < posR l x := fun e => hc ((zLJ (x := x) hs ((q.1 + q.2) / 2) (by omega)).2 e)
 exact ⟨j.a, by show posR l x ≤ (q.1 + q.2) / 2; omega, by show (q.1 + q.2) / 2 ≤ _; omega⟩
theorem yJH {l : List Rec} {x : Rec} {q : Nat × Nat} (j : BsJ l x q) (h : ¬ (q.1 : Int) < q.2) : q.1 = posR l x := by have := j.a; have := j.b; omega
theorem yKA {i j : Nat} (h : i + j ≤ 10000000) : IntKind.i64.wrap ((IntKind.u64.wrap (IntKind.i64.wrap ((i : Int) + (j : Int)))).fdiv (2 ^ min 1 IntKind.u64.bits)) = (((i + j) / 2 : Nat) : Int) := half h

structure BsP (l : List Rec) (x : Rec) : Prop where
 hl : LSm l
 hx : RSm x
 hs : Srt lt1 l

noncomputable def FBs := mkF (fun s : (List Rec) × Rec => [zAt s.1, recE s.2, .fn (.func 93) [] []]) (fun s => BsP s.1 s.2) (fun s => Res.flat (.tup [.it .i64 (posR s.1 s.2), .bo (fndR s.1 s.2)]))
theorem yJ2 {a : List Rec} {r1 : Rec} (hp : BsP a r1) : FBs [zAt a, recE r1, .fn (.func 93) [] []] = some (Res.flat (.tup [.it .i64 (posR a r1), .bo (fndR a r1)])) := zAB (s := (a, r1)) (fun s s' h => by simp only [cI] at h; simp only [h]) hp
theorem zRI (cx : Cx) (hP : cx.P = Tryz.prog) (hbs : cx.bs = 0) (h93 : cx.orc 93 = some zEb) (r93 : cx.rd.contains 93 = true) (hk3 : cx.kp 3 = some [0, 2, 4, 8, 9, 10]) (a : List Rec) (r1 : Rec) (hl : BsP a r1) : zAj cx Tryz.f108 [] false [zAt a, recE r1, .fn (.func 93) [] []] = some (Res.flat (.tup [.it .i64 (posR a r1), .bo (fndR a r1)])) := by
 have c93 := zAa h93
 have d93 := zAh r93 h93
 have hN := hl.hl.1
 have hmid : ∀ q, BsJ a r1 q → IntKind.i64.wrap ((IntKind.u64.wrap (IntKind.i64.wrap ((q.1 : Int) + (q.2 : Int)))).fdiv (2 ^ min 1 IntKind.u64.bits)) = (((q.1 + q.2) / 2 : Nat) : Int) := fun q j => yKA (by have := j.a; have := j.b; have := j.c; have := hl.hl.1; omega)
 have hw1 : ∀ q, BsJ a r1 q → IntKind.i64.wrap ((((q.1 + q.2) / 2 : Nat) : Int) + 1) = (((q.1 + q.2) / 2 + 1 : Nat) : Int) := fun q j => by have := j.a; have := j.b; have := j.c; have := hl.hl.1; rw [wrap64 (by omega) (by omega)]; omega
 have hix : ∀ (q : Nat × Nat), BsJ a r1 q → (q.1 : Int) < q.2 → ((((q.1 + q.2) / 2 : Nat) : Int) < (a.length : Int)) = True := fun q j h => by have := j.c; simp only [eq_iff_iff, iff_true]; omega
 have hfs : ∀ (q : Nat × Nat), BsJ a r1 q → (q.1 : Int) < q.2 → zEb [recE a[(q.1 + q.2) / 2]!, recE r1] = some (Res.flat (.it .i64 (zAy a[(q.1 + q.2) / 2]! r1))) := fun q j h => zEt ⟨hl.hl.at (by have := j.c; omega), hl.hx⟩
 have hfe : ∀ k : Nat, (k : Int) < a.length → zEb [recE a[k]!, recE r1] = some (Res.flat (.it .i64 (zAy a[k]! r1))) := fun k h => zEt ⟨hl.hl.at h, hl.hx⟩
 have hie : True := trivial
 have hz1 : ∀ k : Nat, ((k : Int) < 0) = False := fun k => by simp
 have hdy := fun {nx bef i : Nat} {env : Nat → D} {H : Hp} {dst : Option Tmp} {ty : TypeId} {pos : String} {after : Array Edge} {gd : Option (Nat × Bool)} {k : Tmp} {args : Array Operand} {ts : Array TypeId} (hk : env k = .fn (.func 93) [] []) (hr : zAD nx bef i H (refs (env k) ++ zAv (args.toList.map (ev env))) = true) (hi : immL (args.toList.map (ev env)) = true) => zNv (cx := cx) (nx := nx) (bef := bef) (i := i) (env := env) (H := H) (dst := dst) (ty := ty) (pos := pos) (after := after) (gd := gd) (k := k) (args := args) (ts := ts) hk h93 hr hi
 refine zAg (rs := [.tmp 6, .tmp 7]) rfl hbs rfl ?_
 repeat' first
   | (refine zAw (σ := Nat × Nat) (fun q => [zAt a, .fn (.func 93) [] [], .ptr 0 0, .it .i64 a.length, .it .i64 q.1, .it .i64 q.2]) (fun q => [.box (recL r1)]) (fun q => BsJ a r1 q) (fun q => q.2 - q.1) [0, 2, 4, 8, 9, 10] hbs (by exact hk3) (fun q jq b hb => by simp only [List.mem_singleton] at hb; subst hb; exact zGi r1) (fun q jq => ?_) (s := (0, a.length)) [0] ?_ ?_ ?_ ?_ ?_)
   | (refine zAR (fun h => ?_) (fun h => ?_) <;> (try simp only [cN] at h))
   | (refine zAN ?_ ?_)
   | simp (config := { decide := true }) only [↓cD, cU, cQ, cP, cB, zAJ, unD, zAf, zAd, idx, reduceCtorEq, ↓reduceIte, ofV, ofC, zAq, Nat.reduceEqDiff, zAG, cG, implies_true, forall_const, immL, immD, Res.flat, ren, renL, Int.reduceEq, Int.reduceLT, Int.reduceLE, Int.reduceNe, deref, ldD, zAF, zAk, zAI, zAs, cC, cS, refs, zAD, okId, List.all_nil, List.all_cons, Nat.reduceMul, Nat.reduceAdd, Nat.reduceLeDiff, zAv, c93, d93, zAo, zAp, zEt, ↓zAM, ↓zAQ, ↓zAL, ↓zAP, ↓zAK, ↓zAO, cV, cT, cF, cW, borT, borM, zAm, Res.via, zAu, zAb, refsB, Nat.reduceLT, Nat.reduceSub, Nat.reduceLeDiff, Nat.reduceMul, Nat.reduceAdd, Int.reduceToNat, appK, zAr, zAc, borL, zAl, zAn, zAE, cO, List.replicate, zAC, ofHp, ixOf, cS, refs, zAD, okId, List.all_nil, List.all_cons, Nat.reduceMul, Nat.reduceAdd, Nat.reduceLeDiff, zAv, hmid, hw1, hix, hfs, hfe, hie, hz1, hdy, hP, *]
 all_goals first
   | rfl
   | exact ⟨Nat.zero_le _, yFd _ _, Nat.le_refl _⟩
   | (refine ⟨[0], ((q.1 + q.2) / 2 + 1, q.2), rfl, rfl, rfl, rfl, yKS hl.hs jq ‹_› ‹_›, by dsimp only; omega⟩)
   | (refine ⟨[0], (q.1, (q.1 + q.2) / 2), rfl, rfl, rfl, rfl, yKT hl.hs jq ‹_› ‹_›, by dsimp only; omega⟩)
   | (have e := yJH jq (by omega); have e2 : fndR a r1 = if (q.1 : Int) < a.length then decide (zAy a[q.1]! r1 = 0) else false := (by rw [e]; rfl); rw [e2, ← e]; first | (rw [if_pos (by omega)]; done) | (rw [if_neg (by omega)]; done))
def zFY (a b : List Rec) : List Rec := a.filter fun x => !fndR (zA4 b) x
theorem zYO (a b : List Rec) : (zFY a b).length ≤ a.length := List.length_filter_le _ _
noncomputable def zKz := mkF (fun s : (List Rec) => [zAt s]) (fun s => LSm s) (fun s => Res.flat (zAt (zA4 s)))
theorem yAG {a : List Rec} (hp : LSm a) : zKz [zAt a] = some (Res.flat (zAt (zA4 a))) := zAB (s := (a)) (fun s s' h => by simp only [cI] at h; simp only [h]) hp
noncomputable def FMin := mkF (fun s : (List Rec) × (List Rec) => [zAt s.1, zAt s.2]) (fun s => LSm s.1 ∧ LSm s.2) (fun s => Res.flat (zAt (zFY s.1 s.2)))
theorem yG4 {a : List Rec} {b : List Rec} (hp : LSm a ∧ LSm b) : FMin [zAt a, zAt b] = some (Res.flat (zAt (zFY a b))) := zAB (s := (a, b)) (fun s s' h => by simp only [cI] at h; simp only [h]) hp
theorem yBp (l : List Rec) : Srt lt1 (zA4 l) := (zBt l).srt
theorem zM8 (cx : Cx) (hP : cx.P = Tryz.prog) (hbs : cx.bs = 0) (h48 : cx.orc 48 = some zKz) (h108 : cx.orc 108 = some FBs) (hk4 : cx.kp 4 = some [5, 6, 13, 14, 15]) (a b : List Rec) (hl : LSm a ∧ LSm b) : zAj cx Tryz.f76 [] false [zAt a, zAt b] = some (Res.flat (zAt (zFY a b))) := by
 have c48 := zAa h48
 have c108 := zAa h108
 have hl1 := hl.1; have hl2 := hl.2; have hl3 := hl.1.1
 have hw : ∀ k : Nat, (k : Int) < a.length → IntKind.i64.wrap ((k : Int) + 1) = ((k + 1 : Nat) : Int) := zBL hl.1.sm
 have hbs2 : ∀ k : Nat, (k : Int) < a.length → BsP (zA4 b) a[k]! := fun k h => ⟨hl.2.sort, hl.1.at h, yBp b⟩
 refine zEf (rs := [.tmp 4]) rfl hbs rfl ?_
 repeat' first
   | (refine zAw (σ := Nat) (fun s => [zAt (zA4 b), .own 0 0 (zFY (a.take s) b).length, zAt a, .it .i64 a.length, .it .i64 s]) (fun s => [.row 16 true ((zFY (a.take s) b).map recE)]) (fun s => s ≤ a.length) (fun s => a.length - s) [5, 6, 13, 14, 15] hbs (by exact hk4) (fun q jq b hb => by simp only [List.mem_singleton] at hb; subst hb; exact zA2 (fun _ => rfl)) (fun s js => ?_) (s := 0) [1] ?_ ?_ ?_ ?_ ?_)
   | (refine zAR (fun h => ?_) (fun h => ?_) <;> (try simp only [cN] at h))
   | (refine zAN ?_ ?_)
   | simp only [↓cD, cU, cQ, cP, cB, zAJ, unD, zAf, zAd, idx, reduceCtorEq, ↓reduceIte, ofV, ofC, zAq, Nat.reduceEqDiff, zAG, cG, implies_true, forall_const, immL, immD, Res.flat, ren, renL, Int.reduceEq, Int.reduceLT, Int.reduceLE, Int.reduceNe, deref, ldD, zAF, zAk, zAI, zAs, cC, c48, c108, zAo, zAp, yAG, yJ2, ↓zAM, ↓zAQ, ↓zAL, ↓zAP, ↓zAK, ↓zAO, cV, cT, cF, cW, borT, borM, zAm, Res.via, zAu, zAb, refsB, Nat.reduceLT, Nat.reduceSub, Nat.reduceLeDiff, Nat.reduceMul, Nat.reduceAdd, Int.reduceToNat, appK, zAr, zAc, borL, zAl, zAn, zAE, cO, List.replicate, zAC, ofHp, ixOf, hl1, hl2, hw, hbs2, hP, *]
 all_goals first
   | rfl
   | omega
   | (have hq := zYO (a.take s) b; rw [List.length_take] at hq; omega)
   | (refine ⟨[0], s + 1, ?_, ?_, ?_, ?_, by omega, by omega⟩ <;> (try rw [show zFY (a.take (s + 1)) b = zFY (a.take s) b from zMA (by omega) (by simp only [*, Bool.not_true])]) <;> (first | rfl | (simp only [zAv, refs, cR, cQ, ren, List.nil_append, List.cons_append, Nat.reduceEqDiff, ofHp, ixOf]; first | rfl | (simp; done))))
   | (refine ⟨[3], s + 1, ?_, ?_, ?_, ?_, by omega, by omega⟩ <;> (try rw [show zFY (a.take (s + 1)) b = zFY (a.take s) b ++ [a[s]!] from zH4 (by omega) (by simp only [*, Bool.not_false])]) <;> (try simp only [List.length_append, List.length_cons, List.length_nil, Nat.zero_add]) <;> (first | rfl | (simp only [zAv, refs, cR, cQ, ren, List.nil_append, List.cons_append, Nat.reduceEqDiff, ofHp, ixOf]; first | rfl | (simp; done))))
   | (first | rfl | (simp only [zAv, refs, cR, cQ, ren, List.nil_append, List.cons_append, Nat.reduceEqDiff, ofHp, ixOf]; first | rfl | (simp; done)))
   | (rw [zAW (by omega)]; exact ⟨_, _, _, _, rfl, rfl, by simp, zBP (fun _ => rfl), rfl⟩)
theorem zJK (cx : Cx) (hP : cx.P = Tryz.prog) (hbs : cx.bs = 0) (h46 : cx.orc 46 = some FVR) (h50 : cx.orc 50 = some zDF) (hk2 : cx.kp 2 = some [1, 7, 8, 9]) (a : List Rec) (s1 : List UInt8) (hl : LSm a ∧ Sm s1) : zAj cx Tryz.f56 [] false [zAt a, .st s1] = some (Res.flat (.bo (zAV a s1))) := by
 have c46 := zAa h46
 have c50 := zAa h50
 have hw : ∀ k : Nat, (k : Int) < a.length → IntKind.i64.wrap ((k : Int) + 1) = ((k + 1 : Nat) : Int) := zBL hl.1.sm
 have hs1 : ∀ k : Nat, (k : Int) < a.length → RSm a[k]! := fun k h => hl.1.at h
 have hs2 : ∀ k : Nat, (k : Int) < a.length → Sm (a[k]!).name := fun k h => (hl.1.at h).1
 have hs3 := hl.2
 refine zAg (rs := [.tmp 4]) rfl hbs rfl ?_
 repeat' first
   | (refine zAY (σ := Nat) (fun s2 => [.st s1, zAt a, .it .i64 a.length, .it .i64 s2]) (fun s2 => s2 ≤ a.length ∧ (a.take s2).all (insX s1) = true) (fun s2 => a.length - s2) [1, 7, 8, 9] hbs (by exact hk2) (fun s2 => by simp only [zAv, refs, zBb, zBc, zBe, List.append_nil]) (fun s2 j2 => ?_) (s := 0) ?_ ?_)
   | (refine zAR (fun h => ?_) (fun h => ?_) <;> (try simp only [cN] at h))
   | (refine zAN ?_ ?_)
   | simp only [↓cD, cU, cQ, cP, cB, zAJ, unD, zAf, zAd, idx, reduceCtorEq, ↓reduceIte, ofV, ofC, zAq, Nat.reduceEqDiff, zAG, cG, implies_true, forall_const, immL, immD, Res.flat, ren, renL, Int.reduceEq, Int.reduceLT, Int.reduceLE, Int.reduceNe, deref, ldD, zAF, zAk, zAI, zAs, cC, c46, c50, zAo, zAp, zMg, zDE, ↓zAM, ↓zAQ, ↓zAL, ↓zAP, ↓zAK, ↓zAO, cV, cT, cF, cW, borT, borM, zAm, Res.via, zAu, zAb, refsB, Nat.reduceLT, Nat.reduceSub, Nat.reduceLeDiff, Nat.reduceMul, Nat.reduceAdd, Int.reduceToNat, appK, zAr, zAc, borL, zAl, zAn, zAE, cO, List.replicate, zAC, ofHp, ixOf, hw, hs1, hs2, hs3, hP, *]
 all_goals first
   | rfl
   | omega
   | exact ⟨Nat.zero_le _, rfl⟩
   | (refine ⟨s2 + 1, rfl, ⟨by omega, by rw [zB6 (by omega), j2.2, Bool.true_and]; simp only [insX, *, if_false, Bool.true_eq_false]⟩, by omega⟩)
   | (rw [zAV, zFm (p := insX s1) (i := s2) (by omega) (by simp only [insX, *, if_true, if_false, Bool.true_eq_false])])
   | (rw [zAW (by omega)] at j2; rw [zAV, j2.2])
noncomputable def zPh := mkF (fun s : (List Rec) => [zAt s]) (fun s => LSm s) (fun s => Res.flat (.bo (eqL s (zA4 s))))
theorem yDg {a : List Rec} (hp : LSm a) : zPh [zAt a] = some (Res.flat (.bo (eqL a (zA4 a)))) := zAB (s := (a)) (fun s s' h => by simp only [cI] at h; simp only [h]) hp
theorem zJs (cx : Cx) (hP : cx.P = Tryz.prog) (hbs : cx.bs = 0) (h48 : cx.orc 48 = some zJ9) (h47 : cx.orc 47 = some FEq) (a : List Rec) (hl : LSm a) : zAj cx Tryz.f57 [] false [zAt a] = some (Res.flat (.bo (eqL a (zA4 a)))) := by
 have c48 := zAa h48
 have c47 := zAa h47
 have hl1 := hl.1; have hl2 := hl.sort.1
 refine zAg (rs := [.tmp 2]) rfl hbs rfl ?_
 repeat' first
   | (refine zAR (fun h => ?_) (fun h => ?_) <;> (try simp only [cN] at h))
   | (refine zAN ?_ ?_)
   | simp only [↓cD, cU, cQ, cP, cB, zAJ, unD, zAf, zAd, idx, reduceCtorEq, ↓reduceIte, ofV, ofC, zAq, Nat.reduceEqDiff, zAG, cG, implies_true, forall_const, immL, immD, Res.flat, ren, renL, Int.reduceEq, Int.reduceLT, Int.reduceLE, Int.reduceNe, deref, ldD, zAF, zAk, zAI, zAs, cC, c48, c47, zAo, zAp, zSG, zPT, ↓zAM, ↓zAQ, ↓zAL, ↓zAP, ↓zAK, ↓zAO, cV, cT, cF, cW, borT, borM, zAm, Res.via, zAu, zAb, refsB, Nat.reduceLT, Nat.reduceSub, Nat.reduceLeDiff, Nat.reduceMul, Nat.reduceAdd, Int.reduceToNat, appK, zAr, zAc, borL, zAl, zAn, zAE, cO, List.replicate, zAC, ofHp, ixOf, hl1, hl2, hP, *]
 all_goals first
   | rfl
theorem zJr (cx : Cx) (hP : cx.P = Tryz.prog) (hbs : cx.bs = 0) (hk3 : cx.kp 3 = some [1, 2, 7, 10, 11, 12]) (a : List Rec) (s1 : List UInt8) (n1 : Int) (hl : a.length ≤ 1000000) : zAj cx Tryz.f58 [] false [zAt a, .st s1, .it .i64 n1] = some (Res.flat (.bo (zBy a s1 n1))) := by
 have hw : ∀ k : Nat, (k : Int) < a.length → IntKind.i64.wrap ((k : Int) + 1) = ((k + 1 : Nat) : Int) := zBL (by omega)
 have hc : ∀ k : Nat, IntKind.i64.wrap ((((a.take k).filter soaD).length : Int) + 1) = (((a.take k).filter soaD).length : Int) + 1 := fun k => by have h1 := List.length_filter_le soaD (a.take k); rw [List.length_take] at h1; rw [wrap64 (by omega) (by omega)]
 refine zAg (rs := [.tmp 6]) rfl hbs rfl ?_
 repeat' first
   | (refine zAY (σ := Nat) (fun s3 => [.st s1, .it .i64 n1, .it .i64 (((a.take s3).filter soaD).length : Int), zAt a, .it .i64 a.length, .it .i64 s3]) (fun s3 => s3 ≤ a.length ∧ (a.take s3).all (staX s1 n1) = true) (fun s3 => a.length - s3) [1, 2, 7, 10, 11, 12] hbs (by exact hk3) (fun s3 => by simp only [zAv, refs, zBb, zBc, zBe, List.append_nil]) (fun s3 j3 => ?_) (s := 0) ?_ ?_)
   | (refine zAR (fun h => ?_) (fun h => ?_) <;> (try simp only [cN] at h))
   | (refine zAN ?_ ?_)
   | simp only [↓cD, cU, cQ, cP, cB, zAJ, unD, zAf, zAd, idx, reduceCtorEq, ↓reduceIte, ofV, ofC, zAq, Nat.reduceEqDiff, zAG, cG, implies_true, forall_const, immL, immD, Res.flat, ren, renL, Int.reduceEq, Int.reduceLT, Int.reduceLE, Int.reduceNe, deref, ldD, zAF, zAk, zAI, zAs, cC, ↓zAM, ↓zAQ, ↓zAL, ↓zAP, ↓zAK, ↓zAO, cV, cT, cF, cW, borT, borM, zAm, Res.via, zAu, zAb, refsB, Nat.reduceLT, Nat.reduceSub, Nat.reduceLeDiff, Nat.reduceMul, Nat.reduceAdd, Int.reduceToNat, appK, zAr, zAc, borL, zAl, zAn, zAE, cO, List.replicate, zAC, ofHp, ixOf, hw, hc, hP, *]
 all_goals first
   | rfl
   | omega
   | exact ⟨Nat.zero_le _, rfl⟩
   | (refine ⟨s3 + 1, ?_, ⟨by omega, by rw [zB6 (by omega), j3.2, Bool.true_and]; simp only [staX, *, if_true, if_false, decide_true, Bool.true_and]⟩, by omega⟩; first | (rw [zH4 (p := soaD) (by omega) (decide_eq_true ‹_›), List.length_append]; rfl) | (rw [zMA (p := soaD) (by omega) (decide_eq_false ‹_›)]))
   | (have e : zBy a s1 n1 = false := (by rw [zBy, if_pos (zFm (i := s3) (by omega) (by simp only [staX, *, if_true, if_false, decide_false, Bool.true_and, Bool.false_and]))]); rw [e])
   | (have e1 : a.take s3 = a := zAW (by omega); rw [e1] at j3 ⊢; have e : zBy a s1 n1 = decide (((a.filter soaD).length : Int) = 1) := (by rw [zBy, if_neg (by rw [j3.2]; decide)]); rw [e])
def zCc (d : Delta) : Int := if vName d.origin = false then 2 else if 2048 < (d.rem.length : Int) ∨ 2048 < (d.add.length : Int) then 9 else
 if inR d.fro = false ∨ inR d.til = false ∨ zBn d.til d.fro = false then 14 else if zAV d.rem d.origin = false ∨ zAV d.add d.origin = false then 5 else
 if eqL d.rem (zA4 d.rem) = false ∨ eqL d.add (zA4 d.add) = false ∨ ((zAi d.rem d.add).length : Int) < d.rem.length then 7 else if zBy d.rem d.origin d.fro = false ∨ zBy d.add d.origin d.til = false then 7 else 0
theorem zBJ {d : Delta} (h : zCc d = 0) : ¬ 2048 < (d.rem.length : Int) ∧ ¬ 2048 < (d.add.length : Int) := by
 unfold zCc at h
 split at h
 · omega
 · split at h
   · omega
   · rename_i h2; exact ⟨fun e => h2 (.inl e), fun e => h2 (.inr e)⟩
theorem zEZ {z : Zone} (h : chkP z = 0) : ¬ 2048 < (z.recs.length : Int) := by
 unfold chkP at h
 intro hl
 rw [if_pos hl] at h
 split at h <;> omega

noncomputable def zFk := mkF (fun s : Delta => [zAS s]) (fun s => DltRw s) (fun s => Res.flat (.it .i64 (zCc s)))
theorem zFj {d : Delta} (hp : DltRw d) : zFk [zAS d] = some (Res.flat (.it .i64 (zCc d))) := zAB (s := (d)) (fun s s' h => by simp only [cI] at h; simp only [h]) hp
theorem zHC (cx : Cx) (hP : cx.P = Tryz.prog) (hbs : cx.bs = 0) (h42 : cx.orc 42 = some zF1) (h55 : cx.orc 55 = some zCj) (h24 : cx.orc 24 = some zDm) (h56 : cx.orc 56 = some FIns) (h57 : cx.orc 57 = some zPh) (h39 : cx.orc 39 = some zO0) (h58 : cx.orc 58 = some FSta) (d : Delta) (hl : DltRw d) : zAj cx Tryz.f26 [] false [zAS d] = some (Res.flat (.it .i64 (zCc d))) := by
 have c42 := zAa h42
 have c55 := zAa h55
 have c24 := zAa h24
 have c56 := zAa h56
 have c57 := zAa h57
 have c39 := zAa h39
 have c58 := zAa h58
 have hl1 := hl.1; have hl2 : ¬ 2048 < (d.rem.length : Int) → LSm d.rem := fun h => hl.r h; have hl3 : ¬ 2048 < (d.add.length : Int) → LSm d.add := fun h => hl.a h
 have hl4 : ¬ 2048 < (d.rem.length : Int) → d.rem.length ≤ 1000000 := fun h => by omega
 have hl5 : ¬ 2048 < (d.add.length : Int) → d.add.length ≤ 1000000 := fun h => by omega
 refine zAg (rs := [.tmp 2]) rfl hbs rfl ?_
 repeat' first
   | (refine zAR (fun h => ?_) (fun h => ?_) <;> (try simp only [cN] at h))
   | (refine zAN ?_ ?_)
   | simp only [↓cD, cU, cQ, cP, cB, zAJ, unD, zAf, zAd, idx, reduceCtorEq, ↓reduceIte, ofV, ofC, zAq, Nat.reduceEqDiff, zAG, cG, implies_true, forall_const, immL, immD, Res.flat, ren, renL, Int.reduceEq, Int.reduceLT, Int.reduceLE, Int.reduceNe, deref, ldD, zAF, zAk, zAI, zAs, cC, c42, c55, c24, c56, c57, c39, c58, zAo, zAp, zF0, zCr, zFz, zRh, yDg, zVQ, zRb, ↓zAM, ↓zAQ, ↓zAL, ↓zAP, ↓zAK, ↓zAO, cV, cT, cF, cW, borT, borM, zAm, Res.via, zAu, zAb, refsB, Nat.reduceLT, Nat.reduceSub, Nat.reduceLeDiff, Nat.reduceMul, Nat.reduceAdd, Int.reduceToNat, appK, zAr, zAc, borL, zAl, zAn, zAE, cO, List.replicate, zAC, ofHp, ixOf, hl1, hl2, hl3, hl4, hl5, hP, *]
 all_goals first
   | rfl
   | (simp only [zCc, *, Bool.true_eq_false, Bool.false_eq_true, not_true_eq_false, not_false_eq_true, or_true, true_or, or_self, or_false, false_or, if_true, if_false]; done)
def zH5 (a b : Zone) : Delta × Int := if ¬ chkP a = 0 then (dlt0, 13) else if ¬ chkP b = 0 then (dlt0, 13) else if (a.origin == b.origin) = false then (dlt0, 13) else if zBn (zCQ b) (zCQ a) = false then (dlt0, 14) else
 (⟨a.origin, zCQ a, zCQ b, zAi a.recs b.recs, zAi b.recs a.recs⟩, 0)

noncomputable def zEM := mkF (fun s : Zone × Zone => [zAU s.1, zAU s.2]) (fun s => ZRw s.1 ∧ ZRw s.2) (fun s => Res.via (.tup [zAS (zH5 s.1 s.2).1, .it .i64 (zH5 s.1 s.2).2]))
theorem zEc {z : Zone} {z2 : Zone} (hp : ZRw z ∧ ZRw z2) : zEM [zAU z, zAU z2] = some (Res.via (.tup [zAS (zH5 z z2).1, .it .i64 (zH5 z z2).2])) := zAB (s := (z, z2)) (fun s s' h => by simp only [cI] at h; simp only [h]) hp
theorem zHw (cx : Cx) (hP : cx.P = Tryz.prog) (hbs : cx.bs = 0) (h23 : cx.orc 23 = some zJb) (h25 : cx.orc 25 = some zIR) (h24 : cx.orc 24 = some zDm) (h32 : cx.orc 32 = some FWo) (r23 : cx.rd.contains 23 = true) (r25 : cx.rd.contains 25 = true) (r24 : cx.rd.contains 24 = true) (r32 : cx.rd.contains 32 = true) (z z2 : Zone) (hl : ZRw z ∧ ZRw z2) : zAj cx Tryz.f13 [] true [zAU z, zAU z2] = some (Res.via (.tup [zAS (zH5 z z2).1, .it .i64 (zH5 z z2).2])) := by
 have c23 := zAa h23
 have d23 := zAh r23 h23
 have c25 := zAa h25
 have d25 := zAh r25 h25
 have c24 := zAa h24
 have d24 := zAh r24 h24
 have c32 := zAa h32
 have d32 := zAh r32 h32
 have hl1 := hl.1; have hl2 := hl.2; have hl5 : chkP z = 0 → z.recs.length ≤ 1000000 := fun h => (by have := zEZ h; omega); have hl6 : chkP z2 = 0 → z2.recs.length ≤ 1000000 := fun h => (by have := zEZ h; omega)
 refine zEj (rs := [.cell 4 28, .tmp 5]) rfl hbs rfl ?_
 repeat' first
   | (refine zAR (fun h => ?_) (fun h => ?_) <;> (try simp only [cN] at h))
   | (refine zAN ?_ ?_)
   | simp (config := { decide := true }) only [↓cD, cU, cQ, cP, cB, zAJ, unD, zAf, zAd, idx, reduceCtorEq, ↓reduceIte, ofV, ofC, zAq, Nat.reduceEqDiff, zAG, cG, implies_true, forall_const, immL, immD, Res.flat, ren, renL, Int.reduceEq, Int.reduceLT, Int.reduceLE, Int.reduceNe, deref, ldD, zAF, zAk, zAI, zAs, cC, cS, refs, zAD, okId, List.all_nil, List.all_cons, Nat.reduceMul, Nat.reduceAdd, Nat.reduceLeDiff, zAv, c23, c25, c24, c32, d23, d25, d24, d32, zAo, zAp, zHK, zIQ, zFz, zMf, ↓zAM, ↓zAQ, ↓zAL, ↓zAP, ↓zAK, ↓zAO, cV, cT, cF, cW, borT, borM, zAm, Res.via, zAu, zAb, refsB, Nat.reduceLT, Nat.reduceSub, Nat.reduceLeDiff, Nat.reduceMul, Nat.reduceAdd, Int.reduceToNat, appK, zAr, zAc, borL, zAl, zAn, zAE, cO, List.replicate, zAC, ofHp, ixOf, cS, refs, zAD, okId, List.all_nil, List.all_cons, Nat.reduceMul, Nat.reduceAdd, Nat.reduceLeDiff, zAv, hl1, hl2, hl5, hl6, zDH, zHY, updL, hP, *]
 all_goals first
   | rfl
   | (have e : zH5 z z2 = (dlt0, 13) := (by simp only [zH5, *, not_true_eq_false, not_false_eq_true, Bool.true_eq_false, Bool.false_eq_true, if_true, if_false]); rw [e]; exact ⟨_, rfl, rfl⟩)
   | (have e : zH5 z z2 = (dlt0, 14) := (by simp only [zH5, *, not_true_eq_false, not_false_eq_true, Bool.true_eq_false, Bool.false_eq_true, if_true, if_false]); rw [e]; exact ⟨_, rfl, rfl⟩)
   | (have e : zH5 z z2 = (⟨z.origin, zCQ z, zCQ z2, zAi z.recs z2.recs, zAi z2.recs z.recs⟩, 0) := (by simp only [zH5, *, not_true_eq_false, not_false_eq_true, Bool.true_eq_false, Bool.false_eq_true, if_true, if_false]); rw [e]; exact ⟨_, rfl, rfl⟩)
def newP (o : List UInt8) (l : List Rec) : Zone × Int := if ¬ chkP ⟨o, zA4 l⟩ = 0 then (zone0, chkP ⟨o, zA4 l⟩) else (⟨o, zA4 l⟩, 0)
noncomputable def zKy := mkF (fun s : List Rec => [zAt s]) (fun s => LSm s) (fun s => Res.front (zA4 s).length 16 ((cmpZ (stS ltR s)).map recE))
theorem yAF {a : List Rec} (hp : LSm a) : zKy [zAt a] = some (Res.front (zA4 a).length 16 ((cmpZ (stS ltR a)).map recE)) := zAB (s := a) (fun s s' h => by simp only [List.cons.injEq, zQf, and_true] at h; simp only [h]) hp

noncomputable def zPl := mkF (fun s : (List UInt8) × (List Rec) => [.st s.1, zAt s.2]) (fun s => Sm s.1 ∧ LSm s.2) (fun s => Res.flat (.tup [zAU (newP s.1 s.2).1, .it .i64 (newP s.1 s.2).2]))
theorem yDl {s1 : List UInt8} {a : List Rec} (hp : Sm s1 ∧ LSm a) : zPl [.st s1, zAt a] = some (Res.flat (.tup [zAU (newP s1 a).1, .it .i64 (newP s1 a).2])) := zAB (s := (s1, a)) (fun s s' h => by simp only [cI] at h; simp only [h]) hp
theorem zJA (cx : Cx) (hP : cx.P = Tryz.prog) (hbs : cx.bs = 0) (h48 : cx.orc 48 = some zKy) (h23 : cx.orc 23 = some zJb) (s1 : List UInt8) (a : List Rec) (hl : Sm s1 ∧ LSm a) : zAj cx Tryz.f77 [] false [.st s1, zAt a] = some (Res.flat (.tup [zAU (newP s1 a).1, .it .i64 (newP s1 a).2])) := by
 have c48 := zAa h48
 have c23 := zAa h23
 have hl1 := hl.1; have hl2 := hl.2; have hz : ZRw ⟨s1, zA4 a⟩ := ⟨hl.1, hl.2.sort.sm, hl.2.sort.2⟩
 have ht : ((cmpZ (stS ltR a)).map recE).take (zA4 a).length = (zA4 a).map recE := zSu
 have hzm : D.agg [.st s1, .vec 16 false ((zA4 a).map recE)] = zAU ⟨s1, zA4 a⟩ := rfl
 refine zYs (rs := [.cell 4 24, .tmp 5]) rfl hbs rfl ?_
 repeat' first
   | (refine zAR (fun h => ?_) (fun h => ?_) <;> (try simp only [cN] at h))
   | (refine zAN ?_ ?_)
   | simp only [↓cD, cU, cQ, cP, cB, zAJ, unD, zAf, zAd, idx, reduceCtorEq, ↓reduceIte, ofV, ofC, zAq, Nat.reduceEqDiff, zAG, cG, implies_true, forall_const, immL, immD, Res.flat, ren, renL, Int.reduceEq, Int.reduceLT, Int.reduceLE, Int.reduceNe, deref, ldD, zAF, zAk, zAI, zAs, cC, c48, c23, zAo, zAp, yAF, zHK, ↓zAM, ↓zAQ, ↓zAL, ↓zAP, ↓zAK, ↓zAO, cV, cT, cF, cW, borT, borM, zAm, Res.via, zAu, zAb, refsB, Nat.reduceLT, Nat.reduceSub, Nat.reduceLeDiff, Nat.reduceMul, Nat.reduceAdd, Int.reduceToNat, appK, zAr, zAc, borL, zAl, zAn, zAE, cO, List.replicate, zAC, ofHp, ixOf, Res.front, hl1, hl2, hz, ht, hzm, zKu, zHU, zI2, zKv, zI1, zFI, zGX, zHV, zE1, zEk, Res.row, Res.rowd, hP, *]
 all_goals first
   | rfl
   | (have e : newP s1 a = (⟨s1, zA4 a⟩, 0) := (by rw [newP, if_neg (by simp only [*, not_true_eq_false, not_false_eq_true])]); rw [e]; exact ⟨_, _, _, rfl, .inl ⟨_, _, _, _, _, rfl, rfl, zQW _, by rw [ht]; rfl⟩⟩)
   | (have e : newP s1 a = (zone0, chkP ⟨s1, zA4 a⟩) := (by rw [newP, if_pos ‹_›]); rw [e]; exact ⟨_, _, _, rfl, .inr ⟨_, _, rfl, rfl⟩⟩)
noncomputable def FWoR := mkF (fun s : (List Rec) × (List Rec) => [zAt s.1, zAt s.2]) (fun s => s.1.length ≤ 1000000 ∧ s.2.length ≤ 1000000) (fun s => Res.row 16 ((zAi s.1 s.2).map recE))
theorem yGS {a : List Rec} {b : List Rec} (hp : a.length ≤ 1000000 ∧ b.length ≤ 1000000) : FWoR [zAt a, zAt b] = some (Res.row 16 ((zAi a b).map recE)) := zAB (s := (a, b)) (fun s s' h => by simp only [cI] at h; simp only [h]) hp
theorem zHo (cx : Cx) (hP : cx.P = Tryz.prog) (hbs : cx.bs = 0) (xn65 : cx.orc 65 = none) (xe65 : cx.ext 65 = none) (xf65 : cx.eff 65 = some FSet) (hk4 : cx.kp 4 = some [5, 6, 11, 12, 13]) (a b : List Rec) (hl : a.length ≤ 1000000 ∧ b.length ≤ 1000000) : zAj cx Tryz.f32 [0] false [zAt a, zAt b] = some (Res.row 16 ((zAi a b).map recE)) := by
 have cf65 := fun H nid l => (show zDD cx 65 l H nid = _ from zCD xn65 xe65 xf65)
 have hl2 := hl.2
 have hw : ∀ k : Nat, (k : Int) < a.length → IntKind.i64.wrap ((k : Int) + 1) = ((k + 1 : Nat) : Int) := zBL (by omega)
 refine zDv (rs := [.tmp 4]) rfl hbs rfl ?_
 repeat' first
   | (refine zAw (σ := Nat) (fun s => [.map 0, .own 1 0 (zAi (a.take s) b).length, zAt a, .it .i64 a.length, .it .i64 s]) (fun s => [.mp ((setR b).map entR), .row 16 true ((zAi (a.take s) b).map recE)]) (fun s => s ≤ a.length) (fun s => a.length - s) [5, 6, 11, 12, 13] hbs (by exact hk4) (fun q jq b hb => by simp only [List.mem_cons, List.not_mem_nil, or_false] at hb; rcases hb with rfl | rfl; exact zL8 _; exact zA2 (fun _ => rfl)) (fun s js => ?_) (s := 0) [1, 2] ?_ ?_ ?_ ?_ ?_)
   | (refine zAR (fun h => ?_) (fun h => ?_) <;> (try simp only [cN] at h))
   | (refine zAN ?_ ?_)
   | simp only [↓cD, cU, cQ, cP, cB, zAJ, unD, zAf, zAd, idx, reduceCtorEq, ↓reduceIte, ofV, ofC, zAq, Nat.reduceEqDiff, zAG, cG, implies_true, forall_const, immL, immD, Res.flat, ren, renL, Int.reduceEq, Int.reduceLT, Int.reduceLE, Int.reduceNe, deref, ldD, zAF, zAk, zAI, zAs, cC, ↓zAM, ↓zAQ, ↓zAL, ↓zAP, ↓zAK, ↓zAO, cV, cT, cF, cW, borT, borM, zAm, Res.via, zAu, zAb, refsB, Nat.reduceLT, Nat.reduceSub, Nat.reduceLeDiff, Nat.reduceMul, Nat.reduceAdd, Int.reduceToNat, appK, zAr, zAc, borL, zAl, zAn, zAE, cO, List.replicate, zAC, ofHp, ixOf, hw, hl2, zVF, zR2, zUY, zVl, hP, *]
 all_goals first
   | rfl
   | omega
   | (have hq := zA3 (a.take s) b; rw [List.length_take] at hq; omega)
   | (refine ⟨[0, 1], s + 1, ?_, ?_, ?_, ?_, by omega, by omega⟩ <;> (try rw [show zAi (a.take (s + 1)) b = zAi (a.take s) b from zMA (by omega) (by simp only [*, Bool.not_true])]) <;> (first | rfl | (simp only [zAv, refs, cR, cQ, ren, List.nil_append, List.cons_append, Nat.reduceEqDiff, ofHp, ixOf]; first | rfl | (simp; done))))
   | (refine ⟨[0, 4], s + 1, ?_, ?_, ?_, ?_, by omega, by omega⟩ <;> (try rw [show zAi (a.take (s + 1)) b = zAi (a.take s) b ++ [a[s]!] from zH4 (by omega) (by simp only [*, Bool.not_false])]) <;> (try simp only [List.length_append, List.length_cons, List.length_nil, Nat.zero_add]) <;> (first | rfl | (simp only [zAv, refs, cR, cQ, ren, List.nil_append, List.cons_append, Nat.reduceEqDiff, ofHp, ixOf]; first | rfl | (simp; done))))
   | (first | rfl | (simp only [zAv, refs, cR, cQ, ren, List.nil_append, List.cons_append, Nat.reduceEqDiff, ofHp, ixOf]; first | rfl | (simp; done)))
   | (rw [zAW (by omega)]; exact ⟨_, _, _, _, rfl, rfl, by simp, zBP (fun _ => rfl), rfl⟩)
def zG8 (z : Zone) (o : List UInt8) (n : Int) (rem add : List Rec) : Zone × Int :=
 if ¬ chkP z = 0 then (zone0, 15) else if (z.origin == o) = false then (zone0, 15) else if ¬ zCQ z = n then (zone0, 15) else if 0 < ((zAi rem z.recs).length : Int) then (zone0, 15) else
 if ((zFY (zAi z.recs rem) add).length : Int) < (zAi z.recs rem).length then (zone0, 15) else if ¬ (newP o (zAi z.recs rem ++ add)).2 = 0 then (zone0, 13) else ((newP o (zAi z.recs rem ++ add)).1, 0)
def appP (z : Zone) (d : Delta) : Zone × Int := if ¬ zCc d = 0 then (zone0, zCc d) else zG8 z d.origin d.fro d.rem d.add
def zJj (z : Zone) (d : Delta) : Zone × Int := if ¬ zCc d = 0 then (zone0, zCc d) else zG8 z d.origin d.til d.add d.rem

noncomputable def zOV := mkF (fun s : Zone × (List UInt8) × Int × (List Rec) × (List Rec) => [zAU s.1, .st s.2.1, .it .i64 s.2.2.1, zAt s.2.2.2.1, zAt s.2.2.2.2]) (fun s => ZRw s.1 ∧ Sm s.2.1 ∧ LSm s.2.2.2.1 ∧ LSm s.2.2.2.2 ∧ s.2.2.2.1.length ≤ 2048 ∧ s.2.2.2.2.length ≤ 2048) (fun s => Res.via (.tup [zAU (zG8 s.1 s.2.1 s.2.2.1 s.2.2.2.1 s.2.2.2.2).1, .it .i64 (zG8 s.1 s.2.1 s.2.2.1 s.2.2.2.1 s.2.2.2.2).2]))
theorem zVN {z : Zone} {s1 : List UInt8} {n1 : Int} {a : List Rec} {b : List Rec} (hp : ZRw z ∧ Sm s1 ∧ LSm a ∧ LSm b ∧ a.length ≤ 2048 ∧ b.length ≤ 2048) : zOV [zAU z, .st s1, .it .i64 n1, zAt a, zAt b] = some (Res.via (.tup [zAU (zG8 z s1 n1 a b).1, .it .i64 (zG8 z s1 n1 a b).2])) := zAB (s := (z, s1, n1, a, b)) (fun s s' h => by simp only [cI] at h; simp only [h]) hp
theorem zJp (cx : Cx) (hP : cx.P = Tryz.prog) (hbs : cx.bs = 0) (h23 : cx.orc 23 = some zJb) (h25 : cx.orc 25 = some zIR) (h32 : cx.orc 32 = some FWoR) (h76 : cx.orc 76 = some FMin) (h77 : cx.orc 77 = some zPl) (z : Zone) (s1 : List UInt8) (n1 : Int) (a b : List Rec) (hl : ZRw z ∧ Sm s1 ∧ LSm a ∧ LSm b ∧ a.length ≤ 2048 ∧ b.length ≤ 2048) : zAj cx Tryz.f37 [] true [zAU z, .st s1, .it .i64 n1, zAt a, zAt b] = some (Res.via (.tup [zAU (zG8 z s1 n1 a b).1, .it .i64 (zG8 z s1 n1 a b).2])) := by
 have c23 := zAa h23
 have c25 := zAa h25
 have c32 := zAa h32
 have c76 := zAa h76
 have c77 := zAa h77
 have hl1 := hl.1; have hl2 := hl.2.1; have hl3 := hl.2.2.1.1; have hl5 := hl.2.2.2.1
 have hl6 : chkP z = 0 → z.recs.length ≤ 1000000 := fun h => (by have := zEZ h; omega)
 have hl7 : chkP z = 0 → LSm (zAi z.recs a) := fun h => (hl.1.l (zEZ h)).wo a
 have hl8 : chkP z = 0 → LSm ((zAi z.recs a) ++ b) := fun h => (hl7 h).app hl.2.2.2.1 (by have := zEZ h; have := zA3 z.recs a; have := hl.2.2.2.2.2; omega)
 have hap : chkP z = 0 → (((zAi z.recs a).length + b.length) * 160 ≤ 140737488355328) = True := fun h => by have := zEZ h; have := zA3 z.recs a; have := hl.2.2.2.2.2; simp only [eq_iff_iff, iff_true]; omega
 have hta : List.take ((zAi z.recs a).length + b.length) (List.map recE ((zAi z.recs a) ++ b)) = List.map recE ((zAi z.recs a) ++ b) := List.take_of_length_le (by simp)
 refine zEj (rs := [.cell 10 24, .tmp 11]) rfl hbs rfl ?_
 repeat' first
   | (refine zAR (fun h => ?_) (fun h => ?_) <;> (try simp only [cN] at h))
   | (refine zAN ?_ ?_)
   | simp (config := { decide := true }) only [↓cD, cU, cQ, cP, cB, zAJ, unD, zAf, zAd, idx, reduceCtorEq, ↓reduceIte, ofV, ofC, zAq, Nat.reduceEqDiff, zAG, cG, implies_true, forall_const, immL, immD, Res.flat, ren, renL, Int.reduceEq, Int.reduceLT, Int.reduceLE, Int.reduceNe, deref, ldD, zAF, zAk, zAI, zAs, cC, c23, c25, c32, c76, c77, zAo, zAp, zHK, zIQ, yGS, yG4, yDl, ↓zAM, ↓zAQ, ↓zAL, ↓zAP, ↓zAK, ↓zAO, cV, cT, cF, cW, borT, borM, zAm, Res.via, zAu, zAb, refsB, Nat.reduceLT, Nat.reduceSub, Nat.reduceLeDiff, Nat.reduceMul, Nat.reduceAdd, Int.reduceToNat, appK, zAr, zAc, borL, zAl, zAn, zAE, cO, List.replicate, zAC, ofHp, ixOf, hl1, hl2, hl3, hl5, hl6, hl7, hl8, hta, hap, zKu, zHU, zI2, zKv, zI1, zFI, zGX, zHV, zE1, zEk, Res.row, Res.rowd, hP, *]
 all_goals first
   | rfl
   | omega
   | (have q : zG8 z s1 n1 a b = (zone0, 15) := (by simp only [zG8, *, not_true_eq_false, not_false_eq_true, Bool.true_eq_false, Bool.false_eq_true, if_true, if_false]); rw [q]; exact ⟨_, rfl, rfl⟩)
   | (have q : zG8 z s1 n1 a b = (zone0, 13) := (by simp only [zG8, *, not_true_eq_false, not_false_eq_true, Bool.true_eq_false, Bool.false_eq_true, if_true, if_false]); rw [q]; exact ⟨_, rfl, rfl⟩)
   | (have q : zG8 z s1 n1 a b = ((newP s1 ((zAi z.recs a) ++ b)).1, 0) := (by simp only [zG8, *, not_true_eq_false, not_false_eq_true, Bool.true_eq_false, Bool.false_eq_true, if_true, if_false]); rw [q]; exact ⟨_, rfl, rfl⟩)
noncomputable def zFf := mkF (fun s : Zone × Delta => [zAU s.1, zAS s.2]) (fun s => ZRw s.1 ∧ DltRw s.2) (fun s => Res.via (.tup [zAU (zJj s.1 s.2).1, .it .i64 (zJj s.1 s.2).2]))
theorem zF2 {z : Zone} {d : Delta} (hp : ZRw z ∧ DltRw d) : zFf [zAU z, zAS d] = some (Res.via (.tup [zAU (zJj z d).1, .it .i64 (zJj z d).2])) := zAB (s := (z, d)) (fun s s' h => by simp only [cI] at h; simp only [h]) hp
theorem zHg (cx : Cx) (hP : cx.P = Tryz.prog) (hbs : cx.bs = 0) (h26 : cx.orc 26 = some zFk) (h37 : cx.orc 37 = some zOV) (z : Zone) (d : Delta) (hl : ZRw z ∧ DltRw d) : zAj cx Tryz.f18 [] true [zAU z, zAS d] = some (Res.via (.tup [zAU (zJj z d).1, .it .i64 (zJj z d).2])) := by
 have c26 := zAa h26
 have c37 := zAa h37
 have hl1 := hl.1; have hl2 := hl.2; have hl3 := hl.2.1; have hl4 : zCc d = 0 → LSm d.rem := fun h => hl.2.r (zBJ h).1; have hl5 : zCc d = 0 → LSm d.add := fun h => hl.2.a (zBJ h).2; have hl6 : zCc d = 0 → d.rem.length ≤ 2048 := fun h => (by have := (zBJ h).1; omega); have hl7 : zCc d = 0 → d.add.length ≤ 2048 := fun h => (by have := (zBJ h).2; omega)
 refine zEj (rs := [.cell 4 24, .tmp 5]) rfl hbs rfl ?_
 repeat' first
   | (refine zAR (fun h => ?_) (fun h => ?_) <;> (try simp only [cN] at h))
   | (refine zAN ?_ ?_)
   | simp only [↓cD, cU, cQ, cP, cB, zAJ, unD, zAf, zAd, idx, reduceCtorEq, ↓reduceIte, ofV, ofC, zAq, Nat.reduceEqDiff, zAG, cG, implies_true, forall_const, immL, immD, Res.flat, ren, renL, Int.reduceEq, Int.reduceLT, Int.reduceLE, Int.reduceNe, deref, ldD, zAF, zAk, zAI, zAs, cC, c26, c37, zAo, zAp, zFj, zVN, ↓zAM, ↓zAQ, ↓zAL, ↓zAP, ↓zAK, ↓zAO, cV, cT, cF, cW, borT, borM, zAm, Res.via, zAu, zAb, refsB, Nat.reduceLT, Nat.reduceSub, Nat.reduceLeDiff, Nat.reduceMul, Nat.reduceAdd, Int.reduceToNat, appK, zAr, zAc, borL, zAl, zAn, zAE, cO, List.replicate, zAC, ofHp, ixOf, hl1, hl2, hl3, hl4, hl5, hl6, hl7, hP, *]
 all_goals first
   | rfl
   | (have e : zJj z d = (zone0, zCc d) := (by rw [zJj, if_pos ‹_›]); rw [e]; exact ⟨_, rfl, rfl⟩)
   | (have e : zJj z d = zG8 z d.origin d.til d.add d.rem := (by rw [zJj, if_neg (by simp only [*, not_true_eq_false, not_false_eq_true])]); rw [e]; exact ⟨_, rfl, rfl⟩)
noncomputable def zIX := mkF (fun s : Zone × Delta => [zAU s.1, zAS s.2]) (fun s => ZRw s.1 ∧ DltRw s.2) (fun s => Res.via (.tup [zAU (appP s.1 s.2).1, .it .i64 (appP s.1 s.2).2]))
theorem zGs {z : Zone} {d : Delta} (hp : ZRw z ∧ DltRw d) : zIX [zAU z, zAS d] = some (Res.via (.tup [zAU (appP z d).1, .it .i64 (appP z d).2])) := zAB (s := (z, d)) (fun s s' h => by simp only [cI] at h; simp only [h]) hp
theorem zJQ (cx : Cx) (hP : cx.P = Tryz.prog) (hbs : cx.bs = 0) (h26 : cx.orc 26 = some zFk) (h37 : cx.orc 37 = some zOV) (z : Zone) (d : Delta) (hl : ZRw z ∧ DltRw d) : zAj cx Tryz.f16 [] true [zAU z, zAS d] = some (Res.via (.tup [zAU (appP z d).1, .it .i64 (appP z d).2])) := by
 have c26 := zAa h26
 have c37 := zAa h37
 have hl1 := hl.1; have hl2 := hl.2; have hl3 := hl.2.1; have hl4 : zCc d = 0 → LSm d.rem := fun h => hl.2.r (zBJ h).1; have hl5 : zCc d = 0 → LSm d.add := fun h => hl.2.a (zBJ h).2; have hl6 : zCc d = 0 → d.rem.length ≤ 2048 := fun h => (by have := (zBJ h).1; omega); have hl7 : zCc d = 0 → d.add.length ≤ 2048 := fun h => (by have := (zBJ h).2; omega)
 refine zEj (rs := [.cell 4 24, .tmp 5]) rfl hbs rfl ?_
 repeat' first
   | (refine zAR (fun h => ?_) (fun h => ?_) <;> (try simp only [cN] at h))
   | (refine zAN ?_ ?_)
   | simp only [↓cD, cU, cQ, cP, cB, zAJ, unD, zAf, zAd, idx, reduceCtorEq, ↓reduceIte, ofV, ofC, zAq, Nat.reduceEqDiff, zAG, cG, implies_true, forall_const, immL, immD, Res.flat, ren, renL, Int.reduceEq, Int.reduceLT, Int.reduceLE, Int.reduceNe, deref, ldD, zAF, zAk, zAI, zAs, cC, c26, c37, zAo, zAp, zFj, zVN, ↓zAM, ↓zAQ, ↓zAL, ↓zAP, ↓zAK, ↓zAO, cV, cT, cF, cW, borT, borM, zAm, Res.via, zAu, zAb, refsB, Nat.reduceLT, Nat.reduceSub, Nat.reduceLeDiff, Nat.reduceMul, Nat.reduceAdd, Int.reduceToNat, appK, zAr, zAc, borL, zAl, zAn, zAE, cO, List.replicate, zAC, ofHp, ixOf, hl1, hl2, hl3, hl4, hl5, hl6, hl7, hP, *]
 all_goals first
   | rfl
   | (have e : appP z d = (zone0, zCc d) := (by rw [appP, if_pos ‹_›]); rw [e]; exact ⟨_, rfl, rfl⟩)
   | (have e : appP z d = zG8 z d.origin d.fro d.rem d.add := (by rw [appP, if_neg (by simp only [*, not_true_eq_false, not_false_eq_true])]); rw [e]; exact ⟨_, rfl, rfl⟩)
abbrev RecS := { r : Rec // RSm r }
theorem rsm0 : RSm rec0 := by refine ⟨by simp [rec0, Sm], by simp [rec0, dat0, Sm], by simp [rec0, dat0, Sm], by simp [rec0, dat0, Sm], ?_, ?_⟩ <;> (constructor <;> decide)
instance : Inhabited RecS := ⟨⟨rec0, rsm0⟩⟩
def cmpS (a b : RecS) : Int := cmpR a.1 b.1
theorem cmp_sub : Cmp cmpS := cmp_rec.on Subtype.val
def zKX (l : List Rec) (h : ∀ r ∈ l, RSm r) : List RecS := List.pmap Subtype.mk l h
theorem zRL {l : List Rec} {h : ∀ r ∈ l, RSm r} : (zKX l h).map (·.1) = l := by
 unfold zKX; rw [List.map_pmap]; simp
theorem zRM {l : List Rec} {h : ∀ r ∈ l, RSm r} : (zKX l h).length = l.length := by unfold zKX; rw [List.length_pmap]
open Classical in
noncomputable def zDX (l : List Rec) : List Rec := if h : ∀ r ∈ l, RSm r then (pdqL cmpS (zKX l h)).map (·.1) else l
theorem zJY {l : List Rec} (h : ∀ r ∈ l, RSm r) : (zDX l).Perm l ∧ ∀ i j, i < j → j < (zDX l).length → ¬ cmpR (zDX l)[j]! (zDX l)[i]! < 0 := by
 obtain ⟨h1, h2⟩ := zOk cmp_sub (zKX l h)
 unfold zDX
 rw [dif_pos h]
 constructor
 · have := h1.map (·.1); rwa [zRL] at this
 · intro i j hij hj
   rw [List.length_map] at hj
   have h3 : ¬ cmpR (pdqL cmpS (zKX l h))[j]!.1 (pdqL cmpS (zKX l h))[i]!.1 < 0 := h2 i j hij hj
   rw [getElem!_pos ((pdqL cmpS (zKX l h)).map (·.1)) j (by rw [List.length_map]; exact hj), getElem!_pos ((pdqL cmpS (zKX l h)).map (·.1)) i (by rw [List.length_map]; omega), List.getElem_map, List.getElem_map]
   rw [getElem!_pos (pdqL cmpS (zKX l h)) j hj, getElem!_pos (pdqL cmpS (zKX l h)) i (by omega)] at h3
   exact h3
theorem zVb {l : List Rec} (h : ∀ r ∈ l, RSm r) : (zDX l).length = l.length := (zJY h).1.length_eq
structure JnP (l : List Rec) : Prop where
 n : l.length ≤ 1000000
 r : ∀ x ∈ l, RSm x
noncomputable def FSR := mkE (fun l : List Rec => [.own 0 0 l.length, .fn (.func 80) [] []]) (fun l => .row 16 true (l.map recE)) (fun l => JnP l) (fun l => (.tup [], [.row 16 true ((zDX l).map recE)]))
theorem yJY {l : List Rec} (hp : JnP l) : FSR [.own 0 0 l.length, .fn (.func 80) [] []] [.row 16 true (l.map recE)] = some (.tup [], [.row 16 true ((zDX l).map recE)]) :=
 zIu (s := l) (fun s s' _ _ _ h2 => by rw [zGh (Blk.row.inj h2).2.2]) hp
theorem EffOK.of {P : Program} {g : FuncId} {F G : List D → List Blk → Option (D × List Blk)} (h : EffOK P g G) (hF : ∀ ds hs r, F ds hs = some r → G ds hs = some r) : EffOK P g F := ⟨h.1, fun ds hs r hs' hr => h.2 ds hs r hs' (hF ds hs _ hr)⟩
theorem zHG {P : Program} {g : FuncId} (h : EffOK P g (mkE (fun l : List RecS => [.own 0 0 l.length, .fn (.func 80) [] []]) (fun l => .row 16 true (l.map fun x => .agg (recL x.1))) (fun l => l.length < 4611686018427387904) (fun l => (.tup [], [.row 16 true ((pdqL cmpS l).map fun x => .agg (recL x.1))])))) : EffOK P g FSR :=
 h.of fun ds hs r hr => by
   obtain ⟨l, rfl, rfl, hp, rfl⟩ := zGS hr
   have e1 : ∀ m : List RecS, (m.map fun x => D.agg (recL x.1)) = (m.map (·.1)).map recE := fun m => by rw [List.map_map]; rfl
   have h2 := yDR (enc := fun l : List RecS => [.own 0 0 l.length, .fn (.func 80) [] []]) (blk := fun l => .row 16 true (l.map fun x => .agg (recL x.1))) (pre := fun l => l.length < 4611686018427387904) (out := fun l => (.tup [], [.row 16 true ((pdqL cmpS l).map fun x => .agg (recL x.1))])) (s := zKX l hp.r) (fun s s' _ hb => by
     have hb := (Blk.row.inj hb).2.2
     rw [e1, e1] at hb
     have := zGh hb
     have hs : s = s' := (List.map_inj_right (fun a b hab => Subtype.ext hab)).1 this
     rw [hs]) (by have := hp.n; simp only [zRM]; omega)
   have q2 : ((zKX l hp.r).map fun x => D.agg (recL x.1)) = l.map recE := by rw [e1, zRL]
   have q3 : ((pdqL cmpS (zKX l hp.r)).map fun x => D.agg (recL x.1)) = (zDX l).map recE := by rw [e1]; unfold zDX; rw [dif_pos hp.r]
   simp only [zRM, q2, q3] at h2
   exact h2

noncomputable def zKI := mkF (fun s : (List Rec) => [zAt s]) (fun s => s.length ≤ 1000000) (fun s => Res.row 16 (s.map recE))
theorem yAU {a : List Rec} (hp : a.length ≤ 1000000) : zKI [zAt a] = some (Res.row 16 (a.map recE)) := zAB (s := (a)) (fun s s' h => by simp only [cI] at h; simp only [h]) hp
noncomputable def zNr := mkF (fun s : (List Rec) × (List Rec) => [zAt s.1, zAt s.2]) (fun s => LSm s.1 ∧ LSm s.2 ∧ s.1.length + s.2.length ≤ 1000000) (fun s => Res.flat (zAt (zDX (s.1 ++ s.2))))
theorem zRg {a : List Rec} {b : List Rec} (hp : LSm a ∧ LSm b ∧ a.length + b.length ≤ 1000000) : zNr [zAt a, zAt b] = some (Res.flat (zAt (zDX (a ++ b)))) := zAB (s := (a, b)) (fun s s' h => by simp only [cI] at h; simp only [h]) hp
theorem zJE (cx : Cx) (hP : cx.P = Tryz.prog) (hbs : cx.bs = 0) (h64 : cx.orc 64 = some zKI) (xn79 : cx.orc 79 = none) (xe79 : cx.ext 79 = none) (xf79 : cx.eff 79 = some FSR) (a b : List Rec) (hl : LSm a ∧ LSm b ∧ a.length + b.length ≤ 1000000) : zAj cx Tryz.f40 [] false [zAt a, zAt b] = some (Res.flat (zAt (zDX (a ++ b)))) := by
 have c64 := zAa h64
 have cf79 := fun H nid l => (show zDD cx 79 l H nid = _ from zCD xn79 xe79 xf79)
 have hl1 := hl.1.1
 have hap : ((a.length + b.length) * 160 ≤ 140737488355328) = True := by have := hl.2.2; simp only [eq_iff_iff, iff_true]; omega
 have hj : JnP (a ++ b) := ⟨by rw [List.length_append]; exact hl.2.2, fun x hx => by rcases List.mem_append.1 hx with h | h; exact hl.1.2 x h; exact hl.2.1.2 x h⟩
 have hsr : FSR [.own 0 0 (a.length + b.length), .fn (.func 80) [] []] [.row 16 true ((a ++ b).map recE)] = some (.tup [], [.row 16 true ((zDX (a ++ b)).map recE)]) := by have := yJY hj; rwa [List.length_append] at this
 have hta : (zDX (a ++ b)).length = a.length + b.length := by rw [zVb hj.r, List.length_append]
 refine zEf (rs := [.tmp 4]) rfl hbs rfl ?_
 repeat' first
   | (refine zAR (fun h => ?_) (fun h => ?_) <;> (try simp only [cN] at h))
   | (refine zAN ?_ ?_)
   | simp (config := { decide := true }) only [↓cD, cU, cQ, cP, cB, zAJ, unD, zAf, zAd, idx, reduceCtorEq, ↓reduceIte, ofV, ofC, zAq, Nat.reduceEqDiff, zAG, cG, implies_true, forall_const, immL, immD, Res.flat, ren, renL, Int.reduceEq, Int.reduceLT, Int.reduceLE, Int.reduceNe, deref, ldD, zAF, zAk, zAI, zAs, cC, c64, zAo, zAp, yAU, ↓zAM, ↓zAQ, ↓zAL, ↓zAP, ↓zAK, ↓zAO, cV, cT, cF, cW, borT, borM, zAm, Res.via, zAu, zAb, refsB, Nat.reduceLT, Nat.reduceSub, Nat.reduceLeDiff, Nat.reduceMul, Nat.reduceAdd, Int.reduceToNat, appK, zAr, zAc, borL, zAl, zAn, zAE, cO, List.replicate, zAC, ofHp, ixOf, hl1, hap, hsr, zIw, zIN, zIM, hta, zKu, zHU, zI2, zKv, zI1, zFI, zGX, zHV, zE1, zEk, Res.row, Res.rowd, hP, *]
 all_goals first
   | rfl
   | omega
   | exact ⟨_, _, _, _, rfl, rfl, by rw [List.length_map, hta], zBP (fun _ => rfl), rfl⟩
noncomputable def mrgP (d e : Delta) : Delta := ⟨d.origin, d.fro, e.til, zDX (zAi d.rem e.add ++ zAi e.rem d.add), zDX (zAi d.add e.rem ++ zAi e.add d.rem)⟩
noncomputable def zDR (d e : Delta) : Delta × Int := if ¬ zCc d = 0 then (dlt0, zCc d) else if ¬ zCc e = 0 then (dlt0, zCc e) else if (d.origin == e.origin) = false then (dlt0, 15) else if ¬ d.til = e.fro then (dlt0, 15) else
 if ((zAi d.rem e.rem).length : Int) < d.rem.length then (dlt0, 7) else if ((zAi d.add e.add).length : Int) < d.add.length then (dlt0, 7) else if ¬ zCc (mrgP d e) = 0 then (dlt0, zCc (mrgP d e)) else (mrgP d e, 0)
theorem zVa {a b : List Rec} (h : LSm a ∧ LSm b ∧ a.length + b.length ≤ 1000000) : LSm (zDX (a ++ b)) := by
 have hr : ∀ x ∈ a ++ b, RSm x := fun x hx => by rcases List.mem_append.1 hx with q | q; exact h.1.2 x q; exact h.2.1.2 x q
 exact ⟨by rw [zVb hr, List.length_append]; exact h.2.2, fun x hx => hr x ((zJY hr).1.mem_iff.1 hx)⟩
theorem yFn {d e : Delta} (hd : DltRw d) (he : DltRw e) (h1 : zCc d = 0) (h2 : zCc e = 0) : DltRw (mrgP d e) := by
 obtain ⟨a1, a2⟩ := zBJ h1
 obtain ⟨b1, b2⟩ := zBJ h2
 exact ⟨hd.1, (zVa (zKp (hd.r a1) (he.r b1) a1 b1)).dr, (zVa (zKp (hd.a a2) (he.a b2) a2 b2)).dr⟩

noncomputable def zEm := mkF (fun s : Delta × Delta => [zAS s.1, zAS s.2]) (fun s => DltRw s.1 ∧ DltRw s.2) (fun s => Res.via (.tup [zAS (zDR s.1 s.2).1, .it .i64 (zDR s.1 s.2).2]))
theorem zGu {d : Delta} {e : Delta} (hp : DltRw d ∧ DltRw e) : zEm [zAS d, zAS e] = some (Res.via (.tup [zAS (zDR d e).1, .it .i64 (zDR d e).2])) := zAB (s := (d, e)) (fun s s' h => by simp only [cI] at h; simp only [h]) hp
theorem zFS (cx : Cx) (hP : cx.P = Tryz.prog) (hbs : cx.bs = 0) (h26 : cx.orc 26 = some zFk) (h39 : cx.orc 39 = some zO0) (h32 : cx.orc 32 = some FWo) (h40 : cx.orc 40 = some zNr) (r26 : cx.rd.contains 26 = true) (r39 : cx.rd.contains 39 = true) (r32 : cx.rd.contains 32 = true) (r40 : cx.rd.contains 40 = true) (d e : Delta) (hl : DltRw d ∧ DltRw e) : zAj cx Tryz.f21 [] true [zAS d, zAS e] = some (Res.via (.tup [zAS (zDR d e).1, .it .i64 (zDR d e).2])) := by
 have c26 := zAa h26
 have d26 := zAh r26 h26
 have c39 := zAa h39
 have d39 := zAh r39 h39
 have c32 := zAa h32
 have d32 := zAh r32 h32
 have c40 := zAa h40
 have d40 := zAh r40 h40
 have hl1 := hl.1; have hl2 := hl.2; have hl3 : zCc d = 0 → d.rem.length ≤ 1000000 := fun h => (by have := (zBJ h).1; omega); have hl4 : zCc d = 0 → d.add.length ≤ 1000000 := fun h => (by have := (zBJ h).2; omega); have hl5 : zCc e = 0 → e.rem.length ≤ 1000000 := fun h => (by have := (zBJ h).1; omega); have hl6 : zCc e = 0 → e.add.length ≤ 1000000 := fun h => (by have := (zBJ h).2; omega)
 have hm1 : zCc d = 0 → zCc e = 0 → zNr [zAt (zAi d.rem e.add), zAt (zAi e.rem d.add)] = some (Res.flat (zAt (zDX (zAi d.rem e.add ++ zAi e.rem d.add)))) := fun h1 h2 => zRg (zKp (hl.1.r (zBJ h1).1) (hl.2.r (zBJ h2).1) (zBJ h1).1 (zBJ h2).1)
 have hm2 : zCc d = 0 → zCc e = 0 → zNr [zAt (zAi d.add e.rem), zAt (zAi e.add d.rem)] = some (Res.flat (zAt (zDX (zAi d.add e.rem ++ zAi e.add d.rem)))) := fun h1 h2 => zRg (zKp (hl.1.a (zBJ h1).2) (hl.2.a (zBJ h2).2) (zBJ h1).2 (zBJ h2).2)
 have hm3 : zCc d = 0 → zCc e = 0 → DltRw (mrgP d e) := fun h1 h2 => yFn hl.1 hl.2 h1 h2
 have hmr : (⟨d.origin, d.fro, e.til, zDX (zAi d.rem e.add ++ zAi e.rem d.add), zDX (zAi d.add e.rem ++ zAi e.add d.rem)⟩ : Delta) = mrgP d e := rfl
 refine zEj (rs := [.cell 4 28, .tmp 5]) rfl hbs rfl ?_
 repeat' first
   | (refine zAR (fun h => ?_) (fun h => ?_) <;> (try simp only [cN] at h))
   | (refine zAN ?_ ?_)
   | simp (config := { decide := true }) only [↓cD, cU, cQ, cP, cB, zAJ, unD, zAf, zAd, idx, reduceCtorEq, ↓reduceIte, ofV, ofC, zAq, Nat.reduceEqDiff, zAG, cG, implies_true, forall_const, immL, immD, Res.flat, ren, renL, Int.reduceEq, Int.reduceLT, Int.reduceLE, Int.reduceNe, deref, ldD, zAF, zAk, zAI, zAs, cC, cS, refs, zAD, okId, List.all_nil, List.all_cons, Nat.reduceMul, Nat.reduceAdd, Nat.reduceLeDiff, zAv, c26, c39, c32, c40, d26, d39, d32, d40, zAo, zAp, zFj, zVQ, zMf, zRg, ↓zAM, ↓zAQ, ↓zAL, ↓zAP, ↓zAK, ↓zAO, cV, cT, cF, cW, borT, borM, zAm, Res.via, zAu, zAb, refsB, Nat.reduceLT, Nat.reduceSub, Nat.reduceLeDiff, Nat.reduceMul, Nat.reduceAdd, Int.reduceToNat, appK, zAr, zAc, borL, zAl, zAn, zAE, cO, List.replicate, zAC, ofHp, ixOf, cS, refs, zAD, okId, List.all_nil, List.all_cons, Nat.reduceMul, Nat.reduceAdd, Nat.reduceLeDiff, zAv, hl1, hl2, hl3, hl4, hl5, hl6, hm1, hm2, hm3, hmr, zDH, zHY, updL, hP, *]
 all_goals first
   | rfl
   | (have q : zDR d e = (dlt0, zCc d) := (by simp only [zDR, *, not_true_eq_false, not_false_eq_true, Bool.true_eq_false, Bool.false_eq_true, if_true, if_false]); rw [q]; exact ⟨_, rfl, rfl⟩)
   | (have q : zDR d e = (dlt0, zCc e) := (by simp only [zDR, *, not_true_eq_false, not_false_eq_true, Bool.true_eq_false, Bool.false_eq_true, if_true, if_false]); rw [q]; exact ⟨_, rfl, rfl⟩)
   | (have q : zDR d e = (dlt0, 15) := (by simp only [zDR, *, not_true_eq_false, not_false_eq_true, Bool.true_eq_false, Bool.false_eq_true, if_true, if_false]); rw [q]; exact ⟨_, rfl, rfl⟩)
   | (have q : zDR d e = (dlt0, 7) := (by simp only [zDR, *, not_true_eq_false, not_false_eq_true, Bool.true_eq_false, Bool.false_eq_true, if_true, if_false]); rw [q]; exact ⟨_, rfl, rfl⟩)
   | (have q : zDR d e = (dlt0, zCc (mrgP d e)) := (by simp only [zDR, *, not_true_eq_false, not_false_eq_true, Bool.true_eq_false, Bool.false_eq_true, if_true, if_false]); rw [q]; exact ⟨_, rfl, rfl⟩)
   | (have q : zDR d e = (mrgP d e, 0) := (by simp only [zDR, *, not_true_eq_false, not_false_eq_true, Bool.true_eq_false, Bool.false_eq_true, if_true, if_false]); rw [q]; exact ⟨_, rfl, rfl⟩)
def zQg : Rec := ⟨[101, 120, 97, 109, 112, 108, 101, 46], 2, 60, { dat0 with host := [110, 115, 46, 97, 46] }⟩
def zEF (s : Int) : Rec := ⟨[101, 120, 97, 109, 112, 108, 101, 46], 6, 60, { dat0 with host := [110, 115, 46, 97, 46], mail := [109, 46, 97, 46], a := s }⟩
def recA (t : Int) : Rec := ⟨[97, 46, 101, 120, 97, 109, 112, 108, 101, 46], 1, t, { dat0 with adr := ⟨false, 0, 167772161⟩ }⟩
def zA : Zone := ⟨[101, 120, 97, 109, 112, 108, 101, 46], [zQg, zEF 1]⟩
def zB : Zone := ⟨[101, 120, 97, 109, 112, 108, 101, 46], [zQg, zEF 2, recA 60]⟩
def zC : Zone := ⟨[101, 120, 97, 109, 112, 108, 101, 46], [zQg, zEF 3, recA 30]⟩
def dAB : Delta := ⟨[101, 120, 97, 109, 112, 108, 101, 46], 1, 2, [zEF 1], [zEF 2, recA 60]⟩
def dBC : Delta := ⟨[101, 120, 97, 109, 112, 108, 101, 46], 2, 3, [zEF 2, recA 60], [zEF 3, recA 30]⟩
def mAC : Delta := ⟨[101, 120, 97, 109, 112, 108, 101, 46], 1, 3, [zEF 1], [zEF 3, recA 30]⟩
def verI (k : Nat) : List D := if k = 0 then [.it .i64 1, .it .i64 (-1)] else if k = 1 then [.it .i64 2, .it .i64 60] else [.it .i64 3, .it .i64 30]
def verZ (k : Nat) : Zone := if k = 0 then zA else if k = 1 then zB else zC

theorem yES (cx : Cx) (hP : cx.P = Tryz.prog) (hbs : cx.bs = 0)   : zAj cx Tryz.f31 [] false (verI 0) = some (Res.flat (zAU (verZ 0))) := by
 obtain ⟨P, a, b, c⟩ := cx
 simp only at hP hbs
 subst hP
 subst hbs
 kernel_rfl
theorem yER (cx : Cx) (hP : cx.P = Tryz.prog) (hbs : cx.bs = 0)   : zAj cx Tryz.f31 [] false (verI 1) = some (Res.flat (zAU (verZ 1))) := by
 obtain ⟨P, a, b, c⟩ := cx
 simp only at hP hbs
 subst hP
 subst hbs
 kernel_rfl
theorem yEQ (cx : Cx) (hP : cx.P = Tryz.prog) (hbs : cx.bs = 0)   : zAj cx Tryz.f31 [] false (verI 2) = some (Res.flat (zAU (verZ 2))) := by
 obtain ⟨P, a, b, c⟩ := cx
 simp only at hP hbs
 subst hP
 subst hbs
 kernel_rfl
noncomputable def FVer := mkF verI (fun k => k < 3) (fun k => Res.flat (zAU (verZ k)))
theorem zQ9 {k : Nat} (h : k < 3) : FVer (verI k) = some (Res.flat (zAU (verZ k))) := zAB (s := k) (fun s s' h => by
 unfold verI at h
 unfold verZ
 repeat' split at h
 all_goals first | (simp_all; done) | skip) h
theorem zMR (cx : Cx) (hP : cx.P = Tryz.prog) (hbs : cx.bs = 0) (k : Nat) (h : k < 3) : zAj cx Tryz.f31 [] false (verI k) = some (Res.flat (zAU (verZ k))) := by
 rcases (by omega : k = 0 ∨ k = 1 ∨ k = 2) with rfl | rfl | rfl
 · exact yES cx hP hbs
 · exact yER cx hP hbs
 · exact yEQ cx hP hbs
theorem eAB : zH5 zA zB = (dAB, 0) := by kernel_rfl
theorem eBC : zH5 zB zC = (dBC, 0) := by kernel_rfl
theorem eAp : appP zA dAB = (zB, 0) := by kernel_rfl
theorem eBp : appP zB dAB = (zone0, 15) := by kernel_rfl
theorem eUn : zJj zB dAB = (zA, 0) := by kernel_rfl
theorem eCk : zCc ⟨[101, 120, 97, 109, 112, 108, 101, 46], 1, 2, [], []⟩ = 7 := by kernel_rfl
theorem yAd {z : Rec} : ∀ {l : List Rec}, l.Pairwise (fun a b => cmpR a b < 0) → (cls ltR z l).length ≤ 1
 | [], _ => by simp [cls]
 | x :: r, h => by
   have ih := yAd (z := z) (List.Pairwise.of_cons h)
   have hx := (List.pairwise_cons.1 h).1
   unfold cls at ih ⊢
   rw [List.filter_cons]
   split
   · rename_i hp
     have : r.filter (fun y => !ltR y z && !ltR z y) = [] := List.filter_eq_nil_iff.2 fun y hy => by
       intro hq
       simp only [ltR, Bool.and_eq_true, Bool.not_eq_true', decide_eq_false_iff_not] at hp hq
       have h1 := hx y hy
       have s1 := cmp_rec.sym x y; have s2 := cmp_rec.sym y x; have s3 := cmp_rec.sym x z; have s4 := cmp_rec.sym z x; have s5 := cmp_rec.sym y z; have s6 := cmp_rec.sym z y
       have h2 := cmp_rec.tr (x := y) (y := z) (z := x) (by omega) (by omega)
       omega
     simp_all
   · exact ih
theorem zZf {l r : List Rec} (h : ∀ x ∈ l, RSm x) (hp : l.Perm r) (hs : r.Pairwise fun a b => cmpR a b < 0) : zDX l = r := by
 obtain ⟨h1, h2⟩ := zJY h
 have hpr : (zDX l).Perm r := h1.trans hp
 refine zKg wkR _ _ (List.pairwise_iff_getElem.2 fun i j hi hj hij => ?_) (hs.imp fun {a b} hab => decide_eq_false (by have := cmp_rec.sym a b; omega)) fun z => ?_
 · have := h2 i j hij hj
   rw [getElem!_pos (zDX l) j hj, getElem!_pos (zDX l) i hi] at this
   exact decide_eq_false this
 · have p1 : (cls ltR z (zDX l)).Perm (cls ltR z r) := hpr.filter _
   have h3 := yAd (z := z) hs
   have h4 := p1.length_eq
   match hl : cls ltR z (zDX l), hr : cls ltR z r with
   | [], [] => rfl
   | [x], [y] => rw [hl, hr] at p1; exact p1.eq_singleton ▸ rfl
   | [], _ :: _ => rw [hl, hr] at h4; simp at h4
   | _ :: _, [] => rw [hl, hr] at h4; simp at h4
   | _ :: _ :: _, _ => rw [hl] at h4; simp at h4; omega
   | _, _ :: _ :: _ => rw [hr] at h3; simp at h3
theorem yJ5 : U64 0 := ⟨by decide, by decide⟩
theorem zTn {r : Rec} (h1 : r.name.length ≤ 1000) (h2 : r.dat.host.length ≤ 1000 ∧ r.dat.mail.length ≤ 1000 ∧ r.dat.text.length ≤ 1000) (h3 : r.dat.adr.hi = 0 ∧ 0 ≤ r.dat.adr.lo ∧ r.dat.adr.lo ≤ 1000000000) : RSm r := by
 refine ⟨?_, ?_, ?_, ?_, ?_, ?_⟩
 · simp only [Sm]; omega
 · simp only [Sm]; omega
 · simp only [Sm]; omega
 · simp only [Sm]; omega
 · rw [h3.1]; exact yJ5
 · exact ⟨h3.2.1, by omega⟩
theorem zIp (s : Int) : RSm (zEF s) := zTn (by simp [zEF]) ⟨by simp [zEF], by simp [zEF], by simp [zEF, dat0]⟩ ⟨rfl, Int.le_refl _, by simp [zEF, dat0]⟩
theorem zX3 : RSm zQg := zTn (by simp [zQg]) ⟨by simp [zQg], by simp [zQg, dat0], by simp [zQg, dat0]⟩ ⟨rfl, Int.le_refl _, by simp [zQg, dat0]⟩
theorem zWh (s : Int) : RSm (recA s) := zTn (by simp [recA]) ⟨by simp [recA, dat0], by simp [recA, dat0], by simp [recA, dat0]⟩ ⟨rfl, by simp [recA], by simp [recA]⟩
theorem eMrg : mrgP dAB dBC = mAC := by
 have e1 : zAi dAB.rem dBC.add ++ zAi dBC.rem dAB.add = [zEF 1] := by kernel_rfl
 have e2 : zAi dAB.add dBC.rem ++ zAi dBC.add dAB.rem = [zEF 3, recA 30] := by kernel_rfl
 unfold mrgP
 rw [e1, e2, zZf (r := [zEF 1]) (fun x hx => by simp at hx; subst hx; exact zIp 1) (List.Perm.refl _) (List.pairwise_singleton _ _),
   zZf (r := [zEF 3, recA 30]) (fun x hx => by simp at hx; rcases hx with rfl | rfl; exact zIp 3; exact zWh 30) (List.Perm.refl _) (by
     have : cmpR (zEF 3) (recA 30) = -1 := by kernel_rfl
     simp [this])]
 rfl
theorem eMg : zDR dAB dBC = (mAC, 0) := by
 have h1 : zCc dAB = 0 := by kernel_rfl
 have h2 : zCc dBC = 0 := by kernel_rfl
 have h3 : (dAB.origin == dBC.origin) = true := by kernel_rfl
 have h5 : ((zAi dAB.rem dBC.rem).length : Int) = 1 := by kernel_rfl
 have h6 : ((zAi dAB.add dBC.add).length : Int) = 2 := by kernel_rfl
 have h7 : zCc mAC = 0 := by kernel_rfl
 unfold zDR
 rw [if_neg (fun q => q h1), if_neg (fun q => q h2), if_neg (by rw [h3]; decide), if_neg (fun q => q rfl), h5, h6, if_neg (by decide), if_neg (by decide), eMrg, if_neg (fun q => q h7)]
theorem zXa {z : Zone} (h1 : z.origin.length ≤ 1000) (h2 : z.recs.length ≤ 1000) (h3 : ∀ r ∈ z.recs, RSm r) : ZRw z := ⟨by simp only [Sm]; omega, by simp only [Sm]; omega, h3⟩
theorem zZI {d : Delta} (h1 : d.origin.length ≤ 1000) (h2 : d.rem.length ≤ 1000) (h3 : d.add.length ≤ 1000) (h4 : ∀ r ∈ d.rem, RSm r) (h5 : ∀ r ∈ d.add, RSm r) : DltRw d := ⟨by simp only [Sm]; omega, ⟨by simp only [Sm]; omega, h4⟩, by simp only [Sm]; omega, h5⟩
theorem rwA : ZRw zA := zXa (by decide) (by decide) (fun r h => by simp [zA] at h; rcases h with rfl | rfl; exact zX3; exact zIp 1)
theorem rwB : ZRw zB := zXa (by decide) (by decide) (fun r h => by simp [zB] at h; rcases h with rfl | rfl | rfl; exact zX3; exact zIp 2; exact zWh 60)
theorem rwC : ZRw zC := zXa (by decide) (by decide) (fun r h => by simp [zC] at h; rcases h with rfl | rfl | rfl; exact zX3; exact zIp 3; exact zWh 30)
theorem rwAB : DltRw dAB := zZI (by decide) (by decide) (by decide) (fun r h => by simp [dAB] at h; subst h; exact zIp 1) (fun r h => by simp [dAB] at h; rcases h with rfl | rfl; exact zIp 2; exact zWh 60)
theorem rwBC : DltRw dBC := zZI (by decide) (by decide) (by decide) (fun r h => by simp [dBC] at h; rcases h with rfl | rfl; exact zIp 2; exact zWh 60) (fun r h => by simp [dBC] at h; rcases h with rfl | rfl; exact zIp 3; exact zWh 30)
theorem rwE : DltRw ⟨[101, 120, 97, 109, 112, 108, 101, 46], 1, 2, [], []⟩ := zZI (by decide) (by decide) (by decide) (fun r h => by simp at h) (fun r h => by simp at h)

noncomputable def zF6 := mkF (fun s : Unit => []) (fun s => True) (fun s => Res.flat (.bo true))
theorem zF5 : zF6 [] = some (Res.flat (.bo true)) := zAB (s := ()) (fun s s' h => rfl) trivial
theorem yGU : FVer [.it .i64 1, .it .i64 (-1)] = some (Res.flat (zAU zA)) := zQ9 (k := 0) (by decide)
theorem zHD (cx : Cx) (hP : cx.P = Tryz.prog) (hbs : cx.bs = 0) (h31 : cx.orc 31 = some FVer) (h13 : cx.orc 13 = some zEM) (h16 : cx.orc 16 = some zIX) (h18 : cx.orc 18 = some zFf) (h21 : cx.orc 21 = some zEm) (h26 : cx.orc 26 = some zFk) (h20 : cx.orc 20 = some zDl)   : zAj cx Tryz.f12 [] false [] = some (Res.flat (.bo true)) := by
 have c31 := zAa h31
 have c13 := zAa h13
 have c16 := zAa h16
 have c18 := zAa h18
 have c21 := zAa h21
 have c26 := zAa h26
 have c20 := zAa h20
 have v0 : FVer [.it .i64 1, .it .i64 (-1)] = some (Res.flat (zAU zA)) := zQ9 (k := 0) (by decide)
 have v1 : FVer [.it .i64 2, .it .i64 60] = some (Res.flat (zAU zB)) := zQ9 (k := 1) (by decide)
 have v2 : FVer [.it .i64 3, .it .i64 30] = some (Res.flat (zAU zC)) := zQ9 (k := 2) (by decide)
 have d1 : zEM [zAU zA, zAU zB] = some (Res.via (.tup [zAS dAB, .it .i64 0])) := by have := zEc (z := zA) (z2 := zB) ⟨rwA, rwB⟩; rwa [eAB] at this
 have d2 : zEM [zAU zB, zAU zC] = some (Res.via (.tup [zAS dBC, .it .i64 0])) := by have := zEc (z := zB) (z2 := zC) ⟨rwB, rwC⟩; rwa [eBC] at this
 have a1 : zIX [zAU zA, zAS dAB] = some (Res.via (.tup [zAU zB, .it .i64 0])) := by have := zGs (z := zA) (d := dAB) ⟨rwA, rwAB⟩; rwa [eAp] at this
 have a2 : zIX [zAU zB, zAS dAB] = some (Res.via (.tup [zAU zone0, .it .i64 15])) := by have := zGs (z := zB) (d := dAB) ⟨rwB, rwAB⟩; rwa [eBp] at this
 have u1 : zFf [zAU zB, zAS dAB] = some (Res.via (.tup [zAU zA, .it .i64 0])) := by have := zF2 (z := zB) (d := dAB) ⟨rwB, rwAB⟩; rwa [eUn] at this
 have m1 : zEm [zAS dAB, zAS dBC] = some (Res.via (.tup [zAS mAC, .it .i64 0])) := by have := zGu (d := dAB) (e := dBC) ⟨rwAB, rwBC⟩; rwa [eMg] at this
 have k1 : zFk [.agg [.st [101, 120, 97, 109, 112, 108, 101, 46], .it .i64 1, .it .i64 2, .vec 16 false [], .vec 16 false []]] = some (Res.flat (.it .i64 7)) := by have := zFj (d := ⟨[101, 120, 97, 109, 112, 108, 101, 46], 1, 2, [], []⟩) rwE; rwa [eCk] at this
 have s1 : zDl [zAU zB, zAU zB] = some (Res.flat (.bo true)) := zDk (z := zB) (z2 := zB) rwB.2.1
 have s2 : zDl [zAU zA, zAU zA] = some (Res.flat (.bo true)) := zDk (z := zA) (z2 := zA) rwA.2.1
 have l1 : (dAB.rem.length : Int) = 1 := rfl; have l2 : (dAB.add.length : Int) = 2 := rfl; have l3 : (dBC.rem.length : Int) = 2 := rfl; have l4 : (dBC.add.length : Int) = 2 := rfl; have l5 : (mAC.add.length : Int) = 2 := rfl; have l6 : mAC.fro = 1 := rfl; have l7 : mAC.til = 3 := rfl
 have x1 : ∀ (H : Hp), zA6 Tryz.prog H 22 (zAt mAC.add) (.it .i64 1) = some (.elt (recE mAC.add[1]!).cells) := fun H => zNF (i := 1) Tryz.underlying22 sz53 rfl (by decide)
 have x2 : mAC.add[1]!.ttl = 30 := rfl
 refine zAg (rs := [.tmp 0]) rfl hbs rfl ?_
 repeat' first
   | (refine zAR (fun h => ?_) (fun h => ?_) <;> (try simp only [cN] at h))
   | (refine zAN ?_ ?_)
   | simp only [↓cD, cU, cQ, cP, cB, zAJ, unD, zAf, zAd, idx, reduceCtorEq, ↓reduceIte, ofV, ofC, zAq, Nat.reduceEqDiff, zAG, cG, implies_true, forall_const, immL, immD, Res.flat, ren, renL, Int.reduceEq, Int.reduceLT, Int.reduceLE, Int.reduceNe, deref, ldD, zAF, zAk, zAI, zAs, cC, c31, c13, c16, c18, c21, c26, c20, zAo, zAp, yGU, zEc, zGs, zF2, zGu, zFj, zDk, ↓zAM, ↓zAQ, ↓zAL, ↓zAP, ↓zAK, ↓zAO, cV, cT, cF, cW, borT, borM, zAm, Res.via, zAu, zAb, refsB, Nat.reduceLT, Nat.reduceSub, Nat.reduceLeDiff, Nat.reduceMul, Nat.reduceAdd, Int.reduceToNat, appK, zAr, zAc, borL, zAl, zAn, zAE, cO, List.replicate, zAC, ofHp, ixOf, v0, v1, v2, d1, d2, a1, a2, u1, m1, k1, s1, s2, l1, l2, l3, l4, l5, l6, l7, x1, x2, Int.reduceNeg, hP, *]
 all_goals first
   | rfl
theorem zEY (l : List Rec) : eqL l l = true := decide_eq_true rfl
structure BigD (d : Delta) : Prop where
 r : d.rem.length ≤ 879609302220
 a : d.add.length ≤ 879609302220
end Go.Mir
namespace Go.Mir
attribute [local congr] Ev.congr EvC.congr EvW.congr Br.congr Ms.congr
open Go Go.RowKit Go.Proofs
end Go.Mir
namespace Go.Proofs
open Go.Shelf
def Tryz.sortKey_ren : Go.Shelf.Ren := ⟨fun | 6 => 85 | 15 => 110 | 14 => 114 | 28 => 146 | 29 => 147 | 20 => 152 | 21 => 153 | 22 => 154 | 23 => 155 | 24 => 156 | 25 => 157 | 26 => 158 | 27 => 159 | 46 => 178 | 47 => 170 | 48 => 171 | 49 => 179 | 50 => 180 | 57 => 199 | n => n, fun | 22 => 81 | 24 => 83 | 25 => 85 | 3 => 3 | 39 => 98 | 0 => 0 | 53 => 90 | 55 => 47 | 4 => 4 | 46 => 118 | 45 => 117 | 50 => 65 | 5 => 5 | 9 => 9 | 66 => 136 | 70 => 139 | 76 => 155 | 77 => 156 | n => n, fun | n => n⟩
theorem Tryz.sortKey : Go.Proofs.SlLaysF0.n6 Tryz.prog Tryz.sortKey_ren := {
 mixed := by kernel_rfl
 f6 := ⟨Tryz.f85.name, by decide, Tryz.func85.trans (congrArg some (by kernel_rfl))⟩
 f14 := ⟨Tryz.f114.name, by decide, Tryz.func114.trans (congrArg some (by kernel_rfl))⟩
 f15 := Tryz.func110.trans (congrArg some (by kernel_rfl))
 f20 := ⟨Tryz.f152.name, by decide, Tryz.func152.trans (congrArg some (by kernel_rfl))⟩
 f21 := ⟨Tryz.f153.name, by decide, Tryz.func153.trans (congrArg some (by kernel_rfl))⟩
 f22 := ⟨Tryz.f154.name, by decide, Tryz.func154.trans (congrArg some (by kernel_rfl))⟩
 f23 := ⟨Tryz.f155.name, by decide, Tryz.func155.trans (congrArg some (by kernel_rfl))⟩
 f24 := ⟨Tryz.f156.name, by decide, Tryz.func156.trans (congrArg some (by kernel_rfl))⟩
 f25 := ⟨Tryz.f157.name, by decide, Tryz.func157.trans (congrArg some (by kernel_rfl))⟩
 f26 := ⟨Tryz.f158.name, by decide, Tryz.func158.trans (congrArg some (by kernel_rfl))⟩
 f27 := ⟨Tryz.f159.name, by decide, Tryz.func159.trans (congrArg some (by kernel_rfl))⟩
 f28 := Tryz.func146.trans (congrArg some (by kernel_rfl))
 f29 := Tryz.func147.trans (congrArg some (by kernel_rfl))
 f46 := ⟨Tryz.f178.name, by decide, Tryz.func178.trans (congrArg some (by kernel_rfl))⟩
 f47 := Tryz.func170.trans (congrArg some (by kernel_rfl))
 f48 := Tryz.func171.trans (congrArg some (by kernel_rfl))
 f49 := ⟨Tryz.f179.name, by decide, Tryz.func179.trans (congrArg some (by kernel_rfl))⟩
 f50 := ⟨Tryz.f180.name, by decide, Tryz.func180.trans (congrArg some (by kernel_rfl))⟩
 f57 := ⟨Tryz.f199.name, by decide, Tryz.func199.trans (congrArg some (by kernel_rfl))⟩
 t0 := Tryz.underlying0
 a0 := Tryz.isAgg0
 z0 := Tryz.sizeOf0
 v0 := Tryz.zeroValue0
 t3 := Tryz.underlying3
 a3 := Tryz.isAgg3
 z3 := Tryz.sizeOf3
 v3 := Tryz.zeroValue3
 t4 := Tryz.underlying4
 a4 := Tryz.isAgg4
 z4 := Tryz.sizeOf4
 v4 := Tryz.zeroValue4
 t5 := Tryz.underlying5
 a5 := Tryz.isAgg5
 z5 := Tryz.sizeOf5
 v5 := Tryz.zeroValue5
 t9 := Tryz.underlying9
 a9 := Tryz.isAgg9
 z9 := Tryz.sizeOf9
 v9 := Tryz.zeroValue9
 t22 := Tryz.underlying81
 a22 := Tryz.isAgg81
 z22 := Tryz.sizeOf81
 v22 := Tryz.zeroValue81
 t25 := Tryz.underlying85
 a25 := Tryz.isAgg85
 z25 := Tryz.sizeOf85
 v25 := Tryz.zeroValue85
 t39 := Tryz.underlying98
 a39 := Tryz.isAgg98
 z39 := Tryz.sizeOf98
 v39 := Tryz.zeroValue98
 t45 := Tryz.underlying117
 a45 := Tryz.isAgg117
 z45 := Tryz.sizeOf117
 v45 := Tryz.zeroValue117
 t46 := Tryz.underlying118
 a46 := Tryz.isAgg118
 z46 := Tryz.sizeOf118
 v46 := Tryz.zeroValue118
 t50 := Tryz.underlying65
 a50 := Tryz.isAgg65
 z50 := Tryz.sizeOf65
 v50 := Tryz.zeroValue65
 t53 := Tryz.underlying90
 a53 := Tryz.isAgg90
 z53 := Tryz.sizeOf90
 v53 := Tryz.zeroValue90
 t55 := Tryz.underlying47
 a55 := Tryz.isAgg47
 z55 := Tryz.sizeOf47
 v55 := Tryz.zeroValue47
 t66 := Tryz.underlying136
 a66 := Tryz.isAgg136
 z66 := Tryz.sizeOf136
 v66 := Tryz.zeroValue136
 t70 := Tryz.underlying139
 a70 := Tryz.isAgg139
 z70 := Tryz.sizeOf139
 v70 := Tryz.zeroValue139
 t76 := Tryz.underlying155
 a76 := Tryz.isAgg155
 z76 := Tryz.sizeOf155
 v76 := Tryz.zeroValue155
 t77 := Tryz.underlying156
 a77 := Tryz.isAgg156
 z77 := Tryz.sizeOf156
 v77 := Tryz.zeroValue156 }
def Tryz.sortRec_ren : Go.Shelf.Ren := ⟨fun | 6 => 79 | 15 => 110 | 14 => 109 | 28 => 146 | 29 => 147 | 20 => 138 | 21 => 139 | 22 => 140 | 23 => 141 | 24 => 142 | 25 => 143 | 26 => 144 | 27 => 145 | 46 => 169 | 47 => 170 | 48 => 171 | 49 => 172 | 50 => 173 | 57 => 193 | n => n, fun | 22 => 22 | 24 => 53 | 25 => 78 | 3 => 3 | 39 => 98 | 0 => 0 | 53 => 90 | 55 => 47 | 4 => 4 | 46 => 118 | 45 => 117 | 50 => 65 | 5 => 5 | 9 => 9 | 66 => 136 | 70 => 139 | 76 => 155 | 77 => 156 | n => n, fun | n => n⟩
theorem Tryz.sortRec : Go.Proofs.SlLaysF0.n6 Tryz.prog Tryz.sortRec_ren := {
 mixed := by kernel_rfl
 f6 := ⟨Tryz.f79.name, by decide, Tryz.func79.trans (congrArg some (by kernel_rfl))⟩
 f14 := ⟨Tryz.f109.name, by decide, Tryz.func109.trans (congrArg some (by kernel_rfl))⟩
 f15 := Tryz.func110.trans (congrArg some (by kernel_rfl))
 f20 := ⟨Tryz.f138.name, by decide, Tryz.func138.trans (congrArg some (by kernel_rfl))⟩
 f21 := ⟨Tryz.f139.name, by decide, Tryz.func139.trans (congrArg some (by kernel_rfl))⟩
 f22 := ⟨Tryz.f140.name, by decide, Tryz.func140.trans (congrArg some (by kernel_rfl))⟩
 f23 := ⟨Tryz.f141.name, by decide, Tryz.func141.trans (congrArg some (by kernel_rfl))⟩
 f24 := ⟨Tryz.f142.name, by decide, Tryz.func142.trans (congrArg some (by kernel_rfl))⟩
 f25 := ⟨Tryz.f143.name, by decide, Tryz.func143.trans (congrArg some (by kernel_rfl))⟩
 f26 := ⟨Tryz.f144.name, by decide, Tryz.func144.trans (congrArg some (by kernel_rfl))⟩
 f27 := ⟨Tryz.f145.name, by decide, Tryz.func145.trans (congrArg some (by kernel_rfl))⟩
 f28 := Tryz.func146.trans (congrArg some (by kernel_rfl))
 f29 := Tryz.func147.trans (congrArg some (by kernel_rfl))
 f46 := ⟨Tryz.f169.name, by decide, Tryz.func169.trans (congrArg some (by kernel_rfl))⟩
 f47 := Tryz.func170.trans (congrArg some (by kernel_rfl))
 f48 := Tryz.func171.trans (congrArg some (by kernel_rfl))
 f49 := ⟨Tryz.f172.name, by decide, Tryz.func172.trans (congrArg some (by kernel_rfl))⟩
 f50 := ⟨Tryz.f173.name, by decide, Tryz.func173.trans (congrArg some (by kernel_rfl))⟩
 f57 := ⟨Tryz.f193.name, by decide, Tryz.func193.trans (congrArg some (by kernel_rfl))⟩
 t0 := Tryz.underlying0
 a0 := Tryz.isAgg0
 z0 := Tryz.sizeOf0
 v0 := Tryz.zeroValue0
 t3 := Tryz.underlying3
 a3 := Tryz.isAgg3
 z3 := Tryz.sizeOf3
 v3 := Tryz.zeroValue3
 t4 := Tryz.underlying4
 a4 := Tryz.isAgg4
 z4 := Tryz.sizeOf4
 v4 := Tryz.zeroValue4
 t5 := Tryz.underlying5
 a5 := Tryz.isAgg5
 z5 := Tryz.sizeOf5
 v5 := Tryz.zeroValue5
 t9 := Tryz.underlying9
 a9 := Tryz.isAgg9
 z9 := Tryz.sizeOf9
 v9 := Tryz.zeroValue9
 t22 := Tryz.underlying22
 a22 := Tryz.isAgg22
 z22 := Tryz.sizeOf22
 v22 := Tryz.zeroValue22
 t25 := Tryz.underlying78
 a25 := Tryz.isAgg78
 z25 := Tryz.sizeOf78
 v25 := Tryz.zeroValue78
 t39 := Tryz.underlying98
 a39 := Tryz.isAgg98
 z39 := Tryz.sizeOf98
 v39 := Tryz.zeroValue98
 t45 := Tryz.underlying117
 a45 := Tryz.isAgg117
 z45 := Tryz.sizeOf117
 v45 := Tryz.zeroValue117
 t46 := Tryz.underlying118
 a46 := Tryz.isAgg118
 z46 := Tryz.sizeOf118
 v46 := Tryz.zeroValue118
 t50 := Tryz.underlying65
 a50 := Tryz.isAgg65
 z50 := Tryz.sizeOf65
 v50 := Tryz.zeroValue65
 t53 := Tryz.underlying90
 a53 := Tryz.isAgg90
 z53 := Tryz.sizeOf90
 v53 := Tryz.zeroValue90
 t55 := Tryz.underlying47
 a55 := Tryz.isAgg47
 z55 := Tryz.sizeOf47
 v55 := Tryz.zeroValue47
 t66 := Tryz.underlying136
 a66 := Tryz.isAgg136
 z66 := Tryz.sizeOf136
 v66 := Tryz.zeroValue136
 t70 := Tryz.underlying139
 a70 := Tryz.isAgg139
 z70 := Tryz.sizeOf139
 v70 := Tryz.zeroValue139
 t76 := Tryz.underlying155
 a76 := Tryz.isAgg155
 z76 := Tryz.sizeOf155
 v76 := Tryz.zeroValue155
 t77 := Tryz.underlying156
 a77 := Tryz.isAgg156
 z77 := Tryz.sizeOf156
 v77 := Tryz.zeroValue156 }
end Go.Proofs
namespace Go.Mir
end Go.Mir
namespace Go.Mir
attribute [local congr] Ev.congr EvC.congr EvW.congr Br.congr Ms.congr
def BSm (d : Dat) : Prop := U64 d.bits ∧ ASm d.adr
theorem zSW {P : Program} {n : Nat} {t : TypeId} {ds : List D} (hu : P.underlying t = some (.int .u64)) (h : TD P (n + 1) t ds) : ∃ x, ds = [.it .u64 x] ∧ U64 x := by
 simp only [TD, hu] at h
 obtain ⟨x, rfl, h1, h2⟩ := h
 exact ⟨x, rfl, h1, h2⟩
theorem zCd {P : Program} {n : Nat} {t e : TypeId} {ds : List D} {α : Type} {sz : Nat} {E : α → D} {W : α → Prop} (hu : P.underlying t = some (.slice e)) (ha : aggT P e = some true) (hc : P.cellsOf e = sz) (hE : ∀ cs, TD P n e cs → ∃ a, D.agg cs = E a ∧ W a) (h : TD P (n + 1) t ds) :
   ∃ xs, ds = [vecE sz E xs] ∧ xs.length * P.bytesOf e ≤ reachBytes ∧ ∀ a ∈ xs, W a := by
 simp only [TD, hu] at h
 obtain ⟨es, h, hl, hes⟩ := h
 have : ∃ xs : List α, es = xs.map E ∧ ∀ a ∈ xs, W a := by
   clear hl h
   induction es with
   | nil => exact ⟨[], rfl, fun a ha => by simp at ha⟩
   | cons x r ih =>
     obtain ⟨xs, rfl, hxs⟩ := ih (fun y hy => hes y (by simp [hy]))
     obtain ⟨_, h2, h3, _⟩ := hes x (by simp)
     obtain ⟨cs, rfl⟩ := h3 ha
     obtain ⟨a, h4, hw⟩ := hE cs h2
     exact ⟨a :: xs, by rw [h4]; rfl, fun b hb => by rcases List.mem_cons.1 hb with rfl | hb; exact hw; exact hxs b hb⟩
 obtain ⟨xs, rfl, hxs⟩ := this
 refine ⟨xs, by rw [h, hc]; rfl, ?_, hxs⟩
 rwa [List.length_map] at hl
def RIn (r : Rec) : Prop := RSm r ∧ BSm r.dat
def LIn (l : List Rec) : Prop := l.length ≤ 879609302220 ∧ ∀ r ∈ l, RIn r
def DIn (d : Delta) : Prop := Sm d.origin ∧ LIn d.rem ∧ LIn d.add
theorem LIn.sm {l : List Rec} (h : LIn l) : Sm l ∧ ∀ r ∈ l, RSm r := ⟨by have := h.1; simp only [Sm]; omega, fun r hr => (h.2 r hr).1⟩
theorem zGT {l : List Rec} {b : Nat} (hb : b = 160) (h : l.length * b ≤ reachBytes) (hr : ∀ r ∈ l, RIn r) : LIn l := ⟨by subst hb; unfold reachBytes at h; omega, hr⟩

theorem yHm {n : Nat} {ds : List D} (h : TD Tryz.prog (n + 2) 49 ds) : ∃ x : Adr, D.agg ds = adrE x ∧ ASm x := by
 unfold TD at h
 simp only [Tryz.underlying49, List.toList_toArray, List.foldr_cons, List.foldr_nil] at h
 obtain ⟨a0, r0, rfl, _, t0, a1, r1, rfl, _, t1, a2, r2, rfl, _, t2, h9⟩ := h
 subst h9
 obtain ⟨v0, rfl⟩ := yBd Tryz.underlying4 (show TD Tryz.prog (n + 0 + 1) 4 a0 from t0)
 obtain ⟨v1, rfl, w1⟩ := zSW Tryz.underlying47 (show TD Tryz.prog (n + 0 + 1) 47 a1 from t1)
 obtain ⟨v2, rfl, w2⟩ := zSW Tryz.underlying47 (show TD Tryz.prog (n + 0 + 1) 47 a2 from t2)
 exact ⟨⟨v0, v1, v2⟩, rfl, ⟨w1, w2⟩⟩
theorem yHl {n : Nat} {ds : List D} (h : TD Tryz.prog (n + 3) 51 ds) : ∃ x : Dat, D.agg ds = datE x ∧ DSm x ∧ BSm x := by
 unfold TD at h
 simp only [Tryz.underlying51, List.toList_toArray, List.foldr_cons, List.foldr_nil] at h
 obtain ⟨a0, r0, rfl, _, t0, a1, r1, rfl, _, t1, a2, r2, rfl, _, t2, a3, r3, rfl, _, t3, a4, r4, rfl, _, t4, a5, r5, rfl, _, t5, a6, r6, rfl, _, t6, a7, r7, rfl, _, t7, a8, r8, rfl, _, t8, a9, r9, rfl, _, t9, a10, r10, rfl, _, t10, h9⟩ := h
 subst h9
 obtain ⟨v0, e0, w0⟩ := yHm t0
 simp only [adrE, D.agg.injEq] at e0
 subst e0
 obtain ⟨v1, rfl, w1⟩ := zER Tryz.underlying9 (show TD Tryz.prog (n + 1 + 1) 9 a1 from t1)
 obtain ⟨v2, rfl, w2⟩ := zER Tryz.underlying9 (show TD Tryz.prog (n + 1 + 1) 9 a2 from t2)
 obtain ⟨v3, rfl, w3⟩ := zER Tryz.underlying9 (show TD Tryz.prog (n + 1 + 1) 9 a3 from t3)
 obtain ⟨v4, rfl⟩ := zDK Tryz.underlying3 (show TD Tryz.prog (n + 1 + 1) 3 a4 from t4)
 obtain ⟨v5, rfl⟩ := zDK Tryz.underlying3 (show TD Tryz.prog (n + 1 + 1) 3 a5 from t5)
 obtain ⟨v6, rfl⟩ := zDK Tryz.underlying3 (show TD Tryz.prog (n + 1 + 1) 3 a6 from t6)
 obtain ⟨v7, rfl⟩ := zDK Tryz.underlying3 (show TD Tryz.prog (n + 1 + 1) 3 a7 from t7)
 obtain ⟨v8, rfl⟩ := zDK Tryz.underlying3 (show TD Tryz.prog (n + 1 + 1) 3 a8 from t8)
 obtain ⟨v9, rfl⟩ := zDK Tryz.underlying3 (show TD Tryz.prog (n + 1 + 1) 3 a9 from t9)
 obtain ⟨v10, rfl, w10⟩ := zSW Tryz.underlying47 (show TD Tryz.prog (n + 1 + 1) 47 a10 from t10)
 exact ⟨⟨v0, v1, v2, v3, v4, v5, v6, v7, v8, v9, v10⟩, rfl, ⟨⟨w1, w2, w3, w0⟩, w10, w0⟩⟩
theorem zGG {n : Nat} {ds : List D} (h : TD Tryz.prog (n + 4) 53 ds) : ∃ x : Rec, D.agg ds = recE x ∧ RIn x := by
 unfold TD at h
 simp only [Tryz.underlying53, List.toList_toArray, List.foldr_cons, List.foldr_nil] at h
 obtain ⟨a0, r0, rfl, _, t0, a1, r1, rfl, _, t1, a2, r2, rfl, _, t2, a3, r3, rfl, _, t3, h9⟩ := h
 subst h9
 obtain ⟨v0, rfl, w0⟩ := zER Tryz.underlying9 (show TD Tryz.prog (n + 2 + 1) 9 a0 from t0)
 obtain ⟨v1, rfl⟩ := zDK Tryz.underlying3 (show TD Tryz.prog (n + 2 + 1) 3 a1 from t1)
 obtain ⟨v2, rfl⟩ := zDK Tryz.underlying3 (show TD Tryz.prog (n + 2 + 1) 3 a2 from t2)
 obtain ⟨v3, e3, w3⟩ := yHl t3
 simp only [datE, D.agg.injEq] at e3
 subst e3
 exact ⟨⟨v0, v1, v2, v3⟩, rfl, ⟨⟨w0, w3.1⟩, w3.2⟩⟩
end Go.Mir
