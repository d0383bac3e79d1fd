/- What functions of the program answer, read off. -/
import Derived.Test.YtbgeepggjhgfnaaWalk4
import Derived.KernelRfl
import Derived.ChangeOld
import Derived.ShutString
import Derived.OpenShut
import Derived.ProofKit
import Derived.WalkKit
set_option linter.unusedSimpArgs false
set_option linter.unusedVariables false
namespace Go.Mir
open Go Go.RowKit Go.Proofs
attribute [local congr] Ev.congr EvC.congr EvW.congr Br.congr Ms.congr
set_option maxRecDepth 100000
/-- How far the serial numbers have come. -/
def dst1 (x : Int) : Int := (x % 18446744073709551616) % 1000
def dsum : List Int → Int
  | [] => 0
  | x :: r => dst1 x + dsum r
def lastAt (s : Int) (l : List Int) (i : Nat) : Int := (s + dsum (l.take i)) % 4294967296
def rise (s : Int) (l : List Int) : Nat → List Int
  | 0 => []
  | i + 1 => rise s l i ++ [lastAt s l (i + 1)]
theorem rise_length (s : Int) (l : List Int) : ∀ i, (rise s l i).length = i
  | 0 => rfl
  | i + 1 => by simp [rise, rise_length s l i]
theorem dst1_range (x : Int) : 0 ≤ dst1 x ∧ dst1 x < 1000 := by unfold dst1; omega
theorem dsum_append : ∀ (a b : List Int), dsum (a ++ b) = dsum a + dsum b
  | [], b => by simp [dsum]
  | x :: r, b => by simp only [List.cons_append, dsum, dsum_append r b]; omega
theorem dsum_range : ∀ (l : List Int), 0 ≤ dsum l ∧ dsum l ≤ 1000 * l.length
  | [] => by simp [dsum]
  | x :: r => by have := dsum_range r; have := dst1_range x; simp only [dsum, List.length_cons]; omega
theorem take_at {l : List Int} {i : Nat} (h : (i : Int) < l.length) : l.take (i + 1) = l.take i ++ [l[i]!] := by
  have h' : i < l.length := by omega
  rw [List.take_succ_eq_append_getElem h', getElem!_pos l i h']
theorem dsum_at {l : List Int} {i : Nat} (h : (i : Int) < l.length) : dsum (l.take (i + 1)) = dsum (l.take i) + dst1 l[i]! := by
  rw [take_at h, dsum_append]; simp [dsum]
theorem last_step {s : Int} {l : List Int} {i : Nat} (hs : inR s = true) (h : (i : Int) < l.length) : sAdd (lastAt s l i) (dst1 l[i]!) = (lastAt s l (i + 1), 0) := by
  have h1 := dst1_range l[i]!
  rw [inR_true] at hs
  have h2 := dsum_at h
  unfold lastAt
  rcases sAdd_cases ((s + dsum (l.take i)) % 4294967296) (dst1 l[i]!) with ⟨_, e⟩ | ⟨g, e⟩
  · rw [e, h2]; congr 1; omega
  · omega
theorem dsum_mono {l : List Int} {i j : Nat} (h : i ≤ j) : dsum (l.take i) ≤ dsum (l.take j) := by
  obtain ⟨k, rfl⟩ : ∃ k, j = i + k := ⟨j - i, by omega⟩
  rw [List.take_add, dsum_append]
  have := dsum_range ((l.drop i).take k)
  omega
theorem rise_mem {s : Int} {l : List Int} {y : Int} : ∀ {n : Nat}, y ∈ rise s l n → ∃ i, 1 ≤ i ∧ i ≤ n ∧ y = lastAt s l i
  | 0, h => by simp [rise] at h
  | n + 1, h => by
    simp only [rise, List.mem_append, List.mem_singleton] at h
    rcases h with h | h
    · obtain ⟨i, h1, h2, h3⟩ := rise_mem h; exact ⟨i, h1, by omega, h3⟩
    · exact ⟨n + 1, by omega, by omega, h⟩
theorem sBeat_iff (e : Int) : ∀ l : List Int, sBeat e l = true ↔ ∀ y ∈ l, (sCmp e y).2 = true ∧ 0 ≤ (sCmp e y).1
  | [] => by simp [sBeat]
  | x :: r => by
    simp only [sBeat, List.mem_cons, forall_eq_or_imp]
    split
    · rename_i h; simp only [Bool.false_eq_true, false_iff]; intro hc
      rcases h with h | h
      · rw [hc.1.1] at h; cases h
      · omega
    · rename_i h
      rw [sBeat_iff e r]
      simp only [not_or, Bool.not_eq_false] at h
      exact ⟨fun q => ⟨⟨h.1, by omega⟩, q⟩, fun q => q.2⟩
theorem sMaxF_spec (zs : List Int) : ∀ l : List Int, ((sMaxF zs l).2 = true → (sMaxF zs l).1 ∈ l ∧ sBeat (sMaxF zs l).1 zs = true) ∧ ((sMaxF zs l).2 = false → (sMaxF zs l).1 = 0 ∧ ∀ e ∈ l, sBeat e zs = false)
  | [] => by simp [sMaxF]
  | e :: r => by
    obtain ⟨h1, h2⟩ := sMaxF_spec zs r
    simp only [sMaxF]
    split
    · rename_i h; simp [h]
    · rename_i h
      refine ⟨fun q => ⟨by simp [(h1 q).1], (h1 q).2⟩, fun q => ⟨(h2 q).1, fun y hy => ?_⟩⟩
      rcases List.mem_cons.1 hy with rfl | hy
      · simpa using h
      · exact (h2 q).2 y hy
theorem max_in {l : List Int} (h : (sMax l).2 = true) : (sMax l).1 ∈ l := ((sMaxF_spec l l).1 h).1
theorem max_zero {l : List Int} (h : (sMax l).2 = false) : (sMax l).1 = 0 := ((sMaxF_spec l l).2 h).1
theorem max_after {l : List Int} (h : (sMax l).2 = true) {x : Int} (hx : x ∈ l) : sAfter x (sMax l).1 = false := by
  have h1 := (sBeat_iff _ _).1 ((sMaxF_spec l l).1 h).2 x hx
  have a1 := sAfter_dec x (sMax l).1
  change (sCmp (sMax l).1 x).2 = true ∧ 0 ≤ (sCmp (sMax l).1 x).1 at h1
  rw [a1]
  have c := sCmp_fst (sMax l).1 x
  have c2 := sCmp_snd (sMax l).1 x
  rw [c2, decide_eq_true_eq] at h1
  simp only [decide_eq_false_iff_not]
  omega
theorem max_rise {s : Int} {l : List Int} (hs : inR s = true) {n : Nat} (hn : n ≤ 60) : (sMax (rise s l n)).2 = decide ((0 : Int) < n) ∧ ((0 : Int) < n → (sMax (rise s l n)).1 = lastAt s l n) := by
  rw [inR_true] at hs
  have hcmp : ∀ i j, i ≤ n → j ≤ n → sCmp (lastAt s l i) (lastAt s l j) = (if dsum (l.take i) = dsum (l.take j) then 0 else if dsum (l.take i) < dsum (l.take j) then -1 else 1, true) := by
    intro i j hi hj
    have a := dsum_range (l.take i); have b := dsum_range (l.take j)
    have c : (l.take i).length ≤ 60 := by simp; omega
    have d : (l.take j).length ≤ 60 := by simp; omega
    unfold lastAt
    rcases sCmp_cases ((s + dsum (l.take i)) % 4294967296) ((s + dsum (l.take j)) % 4294967296) with ⟨g, e⟩ | ⟨g, ⟨g2, e⟩ | ⟨g2, e⟩ | ⟨g2, e⟩ | ⟨g2, e⟩⟩
    · omega
    · rw [e, if_pos (by omega)]
    · rw [e, if_neg (by omega), if_pos (by omega)]
    · rw [e, if_neg (by omega), if_neg (by omega)]
    · omega
  have hb : 0 < n → sBeat (lastAt s l n) (rise s l n) = true := by
    intro h0
    rw [sBeat_iff]
    intro y hy
    obtain ⟨i, h1, h2, rfl⟩ := rise_mem hy
    rw [hcmp n i (Nat.le_refl _) h2]
    have := dsum_mono (l := l) h2
    refine ⟨rfl, ?_⟩
    simp only
    split
    · omega
    · rw [if_neg (by omega)]; omega
  have hmem : 0 < n → lastAt s l n ∈ rise s l n := by
    intro h0
    cases n with
    | zero => omega
    | succ n => simp [rise]
  obtain ⟨h1, h2⟩ := sMaxF_spec (rise s l n) (rise s l n)
  by_cases h0 : 0 < n
  · have hok : (sMaxF (rise s l n) (rise s l n)).2 = true := by
      cases hh : (sMaxF (rise s l n) (rise s l n)).2 with
      | true => rfl
      | false => have := (h2 hh).2 _ (hmem h0); rw [hb h0] at this; cases this
    refine ⟨by unfold sMax; rw [hok]; simp; omega, fun _ => ?_⟩
    obtain ⟨g1, g2⟩ := h1 hok
    obtain ⟨i, i1, i2, hi⟩ := rise_mem g1
    unfold sMax
    rw [hi] at g2 ⊢
    have g3 := (sBeat_iff _ _).1 g2 _ (hmem h0)
    rw [hcmp i n i2 (Nat.le_refl _)] at g3
    have := dsum_mono (l := l) i2
    have : dsum (l.take i) = dsum (l.take n) := by
      have g4 := g3.2
      simp only at g4
      split at g4
      · assumption
      · rw [if_pos (by omega)] at g4; omega
    unfold lastAt; rw [this]
  · have : n = 0 := by omega
    subst this
    exact ⟨by simp [rise, sMax, sMaxF], fun h => by simp at h⟩
theorem at_mem {l : List Int} {i : Nat} (h : (i : Int) < l.length) : l[i]! ∈ l := by
  have h' : i < l.length := by omega
  rw [getElem!_pos l i h']; exact List.getElem_mem h'
def seen (a : Int) : List Int → Bool → Bool
  | [], b => b
  | x :: r, b => seen a r (b || decide (x = a))
theorem seen_eq (a : Int) : ∀ (l : List Int) (b : Bool), seen a l b = (b || l.any (fun x => decide (x = a)))
  | [], b => by simp [seen]
  | x :: r, b => by simp [seen, seen_eq a r, Bool.or_assoc]
theorem last0 {y : Int} {l : List Int} (h : inR y = true) : y = lastAt y l 0 := by rw [inR_true] at h; simp only [lastAt, List.take_zero, dsum]; omega
theorem seen_all {l : List Int} (h : (sMax l).2 = true) : seen (sMax l).1 l false = true := by rw [seen_eq, Bool.false_or, List.any_eq_true]; exact ⟨_, max_in h, by simp⟩
theorem FMax_vec {zs : List Int} (h : Sm zs) : FMax [.vec 1 false (zs.map (D.it .i64))] = some (Res.flat (.tup [.it .i64 (sMax zs).1, .bo (sMax zs).2])) := FMax_eq (o := some false) h
theorem rise_vec {s : Int} {l : List Int} {n : Nat} : ((rise s l n).map (D.it .i64)).take n = (rise s l n).map (D.it .i64) := List.take_of_length_le (by simp [rise_length])
theorem rise_len {s : Int} {l : List Int} {n : Nat} : ((rise s l n).map (D.it .i64)).length = n := by simp [rise_length]
theorem rise_app {s : Int} {l : List Int} {n : Nat} : (rise s l n).map (D.it .i64) ++ [D.it .i64 (lastAt s l (n + 1))] = (rise s l (n + 1)).map (D.it .i64) := by simp [rise]

theorem ap30 : appT Try.prog 30 1 8 = true := by kernel_rfl
theorem szT30 : szT Try.prog 3 = some 1 := by kernel_rfl
set_option maxHeartbeats 4000000 in
theorem runLast (cx : Cx) (hP : cx.P = Try.prog) (hbs : cx.bs = 0) (h18 : cx.orc 18 = some FMax) (h16 : cx.orc 16 = some FAfter) (h11 : cx.orc 11 = some FValid) (h9 : cx.orc 9 = some FAdd) (h13 : cx.orc 13 = some FTrue) (hk5 : cx.kp 5 = some [0, 1, 5, 6, 7, 28, 29, 30]) (hk18 : cx.kp 18 = some [10, 11, 65, 66, 67]) (o : Option Bool) (zs : List Int) (y : Int) (hl : Sm zs) : pureRun cx Try.f8 [] false [iv o zs, .it .i64 y] = some (Res.flat (.bo true)) := by
  have c18 := fun H nid l => (show callD cx 18 l H nid = _ from call_orc h18)
  have c16 := fun H nid l => (show callD cx 16 l H nid = _ from call_orc h16)
  have c11 := fun H nid l => (show callD cx 11 l H nid = _ from call_orc h11)
  have c9 := fun H nid l => (show callD cx 9 l H nid = _ from call_orc h9)
  have c13 := fun H nid l => (show callD cx 13 l H nid = _ from call_orc h13)
  obtain ⟨l, hl2⟩ : ∃ l, l = (zs.take (if (60 : Int) < zs.length then 60 else (zs.length : Int)).toNat) := ⟨_, rfl⟩
  have h60 : l.length ≤ 60 := by rw [hl2, List.length_take]; omega
  have hsm : Sm l := by simp only [Sm]; omega
  have hw := wrapS hsm
  obtain ⟨o', ho⟩ : ∃ o', ∀ H, sliceD Try.prog H 30 (iv o zs) none (some (.it .i64 (if (60 : Int) < zs.length then 60 else (zs.length : Int)))) none = some (iv o' l) := by rw [hl2]; exact slice_to Try.underlying30 sz3 (by split <;> omega) (by split <;> omega)
  have hst : ∀ i : Nat, (i : Int) < l.length → inR y = true → sAdd (lastAt y l i) (IntKind.i64.wrap ((IntKind.u64.wrap l[i]!).tmod 1000)) = (lastAt y l (i + 1), 0) := fun i hi hy => by
    have e : IntKind.i64.wrap ((IntKind.u64.wrap l[i]!).tmod 1000) = dst1 l[i]! := by rw [wrapu64, Int.tmod_eq_emod_of_nonneg (by omega), wrap64 (by omega) (by omega)]; rfl
    rw [e]; exact last_step hy hi
  have hmem : ∀ i : Nat, (i : Int) < l.length → l[i]! ∈ l := fun i hi => at_mem hi
  have hna : ∀ i : Nat, (i : Int) < l.length → (sMax l).2 = true → sAfter l[i]! (sMax l).1 = false := fun i hi h => max_after h (hmem i hi)
  have hfm : ∀ i, i ≤ l.length → FMax [.vec 1 false ((rise y l i).map (D.it .i64))] = some (Res.flat (.tup [.it .i64 (sMax (rise y l i)).1, .bo (sMax (rise y l i)).2])) := fun i hi => FMax_vec (by simp only [Sm, rise_length]; omega)
  have hm1 : ∀ i : Nat, i ≤ l.length → inR y = true → (sMax (rise y l i)).2 = decide ((0 : Int) < i) := fun i hi hy => (max_rise hy (by omega)).1
  have hm2 : ∀ i : Nat, i ≤ l.length → inR y = true → (0 : Int) < i → (sMax (rise y l i)).1 = lastAt y l i := fun i hi hy h => (max_rise hy (by omega)).2 h
  clear hl2 hl
  refine pure_flat (rs := [.tmp 4]) rfl hbs rfl ?_
  repeat' first
    | (refine evX_loop_flat (σ := Nat × Bool) (fun s5 => [iv o' l, .it .i64 y, .it .i64 (sMax l).1, .bo (sMax l).2, .bo s5.2, iv o' l, .it .i64 l.length, .it .i64 s5.1]) (fun s5 => s5.1 ≤ l.length ∧ seen (sMax l).1 (l.drop s5.1) s5.2 = seen (sMax l).1 l false) (fun s5 => l.length - s5.1) [0, 1, 5, 6, 7, 28, 29, 30] hbs (by exact hk5) (fun s5 => by simp only [refsL, refs, refs_ivec, refs_gvec, List.append_nil]) (fun s5 j5 => ?_) (s := (0, false)) ?_ ?_)
    | (refine evX_loop_rows (σ := Nat) (fun s18 => [.own 0 0 s18, .it .i64 (lastAt y l s18), iv o' l, .it .i64 l.length, .it .i64 s18]) (fun s18 => [.row 1 true ((rise y l s18).map (D.it .i64))]) (fun s18 => s18 ≤ l.length) (fun s18 => l.length - s18) [10, 11, 65, 66, 67] hbs (by exact hk18) (fun s18 j18 b hb => by simp only [List.mem_singleton] at hb; subst hb; exact fun x hx => by obtain ⟨z, _, rfl⟩ := List.mem_map.1 hx; rfl) (fun s18 j18 => ?_) (s := 0) [0] ?_ ?_ ?_ ?_ (Nat.zero_le _))
    | (refine br_mk (fun h => ?_) (fun h => ?_) <;> (try simp only [Bool.not_eq_true, Bool.not_eq_false, Classical.not_not] at h))
    | (refine ms_mk ?_ ?_)
    | simp only [↓cD, cU, binD, intOp, unD, minD_two, builtinD, idx, reduceCtorEq, ↓reduceIte, ofV, ofC, argEnv, Nat.reduceEqDiff, not_false_eq_true, flatL, flatD, Bool.and_self,
      decide_true, decide_false, not_true_eq_false, false_and, false_implies, Option.map_some, Option.bind_some, Option.bind_none, Option.map_none, List.getElem?_toArray, List.toList_toArray, decide_eq_true_eq, decide_eq_false_iff_not, ge_iff_le, gt_iff_lt, and_true, true_and, implies_true, forall_const, true_or, or_true,
      immL, immD, Bool.true_and, Bool.and_true, Bool.false_and, Bool.and_false, Bool.true_or, Bool.or_true, Bool.false_or, Bool.or_false, Res.flat, ren, renL, List.length_nil, Nat.add_zero, List.map_cons, List.map_nil, List.nil_append, List.append_nil, List.cons_append, List.getElem?_cons_zero, List.getElem?_cons_succ, Bool.not_eq_true', Bool.not_true, Bool.not_false, Bool.not_eq_true, Bool.not_eq_false', Bool.not_eq_false, Bool.true_eq_false, Bool.false_eq_true, if_true, if_false, Int.reduceEq, Int.reduceLT, Int.reduceLE, Int.reduceNe, ite_self, or_false, false_or, or_self, eq_self, List.zip_cons_cons, List.zip_nil_left, deref, ldD, List.head?_cons, convD, shiftOp, strOp, bitsOp, D.cells, c18, c16, c11, c9, c13, callX_imm, callX_nil, FMax_eq, FAfter_eq, FValid_eq, FAdd_eq, FTrue_eq, Try.underlying3, Try.underlying22, Try.underlying4, Try.underlying36, Try.underlying34, eqRes, eqD, Bool.beq_eq_decide_eq, decide_true, beq_self_eq_true, len_gvec Try.underlying30, ix_at Try.underlying30 sz3, sz3, agg3, ho, hw, app_eq ap30, appK, nilRow, el30, ze3, Nat.reduceMul, Nat.reduceLeDiff, Nat.zero_lt_succ, fillE, cellsOf, List.length_cons, List.length_replicate, List.replicate, Nat.reduceAdd, List.set_cons_zero, List.set_cons_succ, callX_bor, borL, bor_row, bor_one, List.drop_zero, upd_atB, upd_offB, ofHp, len_own Try.underlying30, rise_vec, rise_len, hfm, elems, List.take_succ_cons, List.take_zero, src_own Try.underlying30, hst, hna, hm1, hm2, hP, *]
  all_goals first
   | rfl
   | exact ⟨Nat.zero_le _, rfl⟩
   | exact ⟨by omega, by omega⟩
   | (refine ⟨(s5.1 + 1, true), rfl, ⟨by (try simp only); omega, ?_⟩, by (try simp only); omega⟩; rw [drop_at (zs := l) (i := s5.1) (by omega)] at j5; simp only [seen] at j5; rw [‹s5.2 = true›, Bool.true_or] at j5; exact j5.2)
   | (refine ⟨(s5.1 + 1, decide (l[s5.1]! = (sMax l).1)), rfl, ⟨by (try simp only); omega, ?_⟩, by (try simp only); omega⟩; rw [drop_at (zs := l) (i := s5.1) (by omega)] at j5; simp only [seen] at j5; rw [‹s5.2 = false›, Bool.false_or] at j5; exact j5.2)
   | (refine ⟨[2], s18 + 1, ?_, ?_, ?_, ?_, by omega, by omega⟩ <;> (first | rfl | (simp only [refsL, refs, refs_gvec, refs_ivec, ren, ren_gvec, List.nil_append, List.append_nil, List.cons_append, List.map_cons, List.map_nil, upd_atB, upd_offB, Nat.reduceEqDiff, not_false_eq_true, ofHp, ixOf, if_true, Bool.and_self, Bool.true_and]; first | rfl | done) | (simp only [refsL, refs, refs_gvec, refs_ivec, ren, ren_gvec, List.nil_append, List.append_nil, List.cons_append, List.map_cons, List.map_nil, upd_atB, upd_offB, Nat.reduceEqDiff, not_false_eq_true, ofHp, ixOf, if_true, Bool.and_self, Bool.true_and]; simp)))
   | exact Nat.zero_le _
   | (exfalso; rw [drop_end (zs := l) (i := s5.1) (by omega), seen_all ‹_›] at j5; simp only [seen] at j5; rw [‹s5.2 = false›] at j5; exact absurd j5.2 (by decide))
   | (rw [← last0 ‹_›]; rfl)
   | (exfalso; exact absurd (max_zero ‹_›) ‹_›)
   | (first | rfl | (simp only [refsL, refs, refs_gvec, refs_ivec, ren, ren_gvec, List.nil_append, List.append_nil, List.cons_append, List.map_cons, List.map_nil, upd_atB, upd_offB, Nat.reduceEqDiff, not_false_eq_true, ofHp, ixOf, if_true, Bool.and_self, Bool.true_and]; first | rfl | done) | (simp only [refsL, refs, refs_gvec, refs_ivec, ren, ren_gvec, List.nil_append, List.append_nil, List.cons_append, List.map_cons, List.map_nil, upd_atB, upd_offB, Nat.reduceEqDiff, not_false_eq_true, ofHp, ixOf, if_true, Bool.and_self, Bool.true_and]; simp))
  all_goals exact rise_app
noncomputable def FLast := mkF (fun s : (Option Bool) × (List Int) × Int => [iv s.1 s.2.1, .it .i64 s.2.2]) (fun s => Sm s.2.1) (fun s => Res.flat (.bo true))
theorem FLast_eq {o : Option Bool} {zs : List Int} {y : Int} (hp : Sm zs) : FLast [iv o zs, .it .i64 y] = some (Res.flat (.bo true)) := mkF_eq (s := (o, zs, y)) (fun s s' h => rfl) hp
noncomputable def K17 : Known := K16.pure 8 FLast
theorem ok17 : K17.OK := Known.add ok16 follows (fun i => if i = 5 then some [0, 1, 5, 6, 7, 28, 29, 30] else if i = 18 then some [10, 11, 65, 66, 67] else  none) ⟨Try.func8, rfl, by kernel_rfl, by kernel_rfl⟩ (n := 2) (by decide) (fun _ => rfl) [] false (fun s hp => runLast (K16.cx (fun i => if i = 5 then some [0, 1, 5, 6, 7, 28, 29, 30] else if i = 18 then some [10, 11, 65, 66, 67] else  none)) rfl rfl rfl rfl rfl rfl rfl rfl rfl (s.1) (s.2.1) (s.2.2) hp)
end Go.Mir
namespace Go.Proofs.Ytbgeepggjhgfnaa.serialLast
open Go.ChangeShapes Go.WideShapes Go.ChangeAt Go.RowKit
theorem own : ownKnob Try.prog.godebug = none := by kernel_rfl
theorem laidOut : laidOutB Try.prog = true := by kernel_rfl
theorem told (ds : List Mir.D) (h : Mir.TDA Try.prog 12 [30, 3] ds) : Mir.FLast ds = some (Mir.Res.flat (.bo true)) := by
  obtain ⟨d0, r0, rfl, h0, h1⟩ := Mir.tda_cons h
  obtain ⟨d1, r1, rfl, h2, h3⟩ := Mir.tda_cons h1
  obtain rfl := Mir.tda_nil h3
  obtain ⟨o, zs, rfl, hl, _⟩ := Mir.td_ints Try.underlying30 Try.underlying3 (by kernel_rfl) (by decide +kernel) h0
  obtain ⟨y, rfl, _, _⟩ := Mir.td_int Try.underlying3 h2
  exact Mir.FLast_eq hl
theorem lifted (os : Os) (started : os.Started) (H : Type) (enc : TypeId × Value → H) :
    ReturnsInHanded {} Try.checked os 8 .any (Rows.serialLastSpec.pre6 enc Try.prog Try.f8 Rows.serialLastRow.domain false) (Rows.serialLastSpec.post enc Try.prog Try.f8 false true false false) := by
  refine returnsInHanded_of_change_sized (C := Try.checked) own started (by kernel_rfl) Try.func8
    (ChangeSpec.witness6 (enc := enc) (C := Try.checked) false ⟨#[], #[.slice none 0 0, .int .i64 0], []⟩ 8 (by kernel_rfl) (by kernel_rfl) (by kernel_rfl) (by kernel_rfl)) ?_
  intro W base args ds gs before hval0 hW hcnd hsz0 _
  have hsz : (DataW.weightsEach Try.prog (Try.f8.params.toList ++ Rows.serialLastSpec.plain.varTypes Try.prog) (ds ++ gs)).all (· ≤ reachBytes) = true := hsz0
  have hval : ∀ (j : Nat) t v, Try.f8.params[j]? = some t → args[j]? = some v → Value.okWide Try.prog W .any base t v := hval0
  have hW' := hW
  obtain ⟨p, q, hA0, hV, rfl, hfz, hnd⟩ := hW
  have hA : DataW.TrodAll enc Try.prog W 0 (fun _ => true) true Try.f8.params.toList args.toList ds p := hA0
  rw [Try.params8] at hA hval hsz
  obtain ⟨rfl, rfl⟩ := trodVars_none hV
  have hA1 : DataW.TrodAll enc Try.prog W 0 (fun _ => true) true [30, 3] args.toList ds p := hA
  have hsz1 : (DataW.weightsEach Try.prog [30, 3] ds).all (· ≤ reachBytes) = true := by
    have h := hsz
    rw [List.append_nil] at h
    exact h
  refine (Mir.law_run (n := 12) (Mir.Known.OK.get Mir.ok17 8 rfl) (by kernel_rfl) hA1 (fun j t v ht hv => hval j t v (by simpa using ht) hv) hsz1 told).mono fun e W' ⟨he, bel⟩ => ?_
  subst he
  have hK := Mir.args_stay (spare := fun _ => true) laidOut bel _ _ _ _ (by kernel_rfl) hA1
  obtain ⟨v0, vs0, d0, ds0, p0, q0, h0, rfl, rfl, _, r0⟩ := trodAll_cons hA1
  obtain ⟨v1, vs1, d1, ds1, p1, q1, h1, rfl, rfl, _, r1⟩ := trodAll_cons r0
  obtain ⟨rfl, rfl, rfl⟩ := trodAll_nil r1
  exact ⟨_, rfl, _, _, _, [], _, [], hW', trodAll_mk1 (shut_bool Try.underlying4 _), hK, rfl, bel.frame _, fun h => by cases h⟩
theorem over : Rows.serialLastRow.holds Try.pinned (OpenSpec.ofChange Rows.serialLastSpec) :=
  OpenClaim.holds_of_wide 8 Try.f8 rfl rfl rfl rfl rfl rfl rfl ⟨rfl, rfl, rfl, rfl, rfl⟩ rfl rfl rfl rfl rfl (by kernel_rfl) Try.func8 (by kernel_rfl)
    (of_decide_eq_true (by kernel_rfl)) (by unfold Func.isWrapper; first | (rw [if_pos (by decide +kernel)]; kernel_rfl) | (rw [if_neg (by decide +kernel)]; exact ⟨rfl, rfl⟩))
    (fun os started H enc _ => lifted os started H enc)
end Go.Proofs.Ytbgeepggjhgfnaa.serialLast
namespace Go.Proofs.Ytbgeepggjhgfnaa
/-- The statement: for every input the law returns true, and each argument reads as it did. -/
theorem serialLast_holds : Rows.SerialLastSaid := serialLast.over
end Go.Proofs.Ytbgeepggjhgfnaa
namespace Go.Mir
end Go.Mir
