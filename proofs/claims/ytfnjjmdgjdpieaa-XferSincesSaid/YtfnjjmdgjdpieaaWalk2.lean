/- What functions of the program answer, read off. -/
import Derived.Test.YtfnjjmdgjdpieaaWalk1
import Derived.KernelRfl
set_option linter.unusedSimpArgs false
set_option linter.unusedVariables false
namespace Go.Mir
open Go Go.RowKit Go.Proofs
attribute [local congr] Ev.congr EvC.congr EvW.congr Br.congr Ms.congr
set_option maxRecDepth 100000
def okc (c : UInt8) : Bool := (97 ≤ c && c ≤ 122) || (48 ≤ c && c ≤ 57) || c == 45 || c == 95
theorem okc_iff (c : UInt8) : okc c = true ↔ (97 ≤ (c.toNat : Int) ∧ (c.toNat : Int) ≤ 122) ∨ (48 ≤ (c.toNat : Int) ∧ (c.toNat : Int) ≤ 57) ∨ (c.toNat : Int) = 45 ∨ (c.toNat : Int) = 95 := by
  have h1 : c = 45 ↔ c.toNat = 45 := by rw [← UInt8.toNat_inj]; rfl
  have h2 : c = 95 ↔ c.toNat = 95 := by rw [← UInt8.toNat_inj]; rfl
  simp only [okc, Bool.or_eq_true, Bool.and_eq_true, decide_eq_true_eq, beq_iff_eq, UInt8.le_iff_toNat_le, h1, h2]
  have e1 : (97 : UInt8).toNat = 97 := rfl
  have e2 : (122 : UInt8).toNat = 122 := rfl
  have e3 : (48 : UInt8).toNat = 48 := rfl
  have e4 : (57 : UInt8).toNat = 57 := rfl
  rw [e1, e2, e3, e4]
  omega
def isLab (s : List UInt8) : Bool := s == [42] || (decide (1 ≤ s.length) && decide (s.length ≤ 63) && s.all okc)
theorem isLab_no {s : List UInt8} {i : Nat} (h : (i : Int) < s.length) (hn : ¬ okc s[i]! = true) (h42 : (s == [42]) = false) : isLab s = false := by
  have : s.all okc = false := by
    cases ha : s.all okc with
    | false => rfl
    | true => exact absurd (List.all_eq_true.1 ha _ (mem_at h)) hn
  simp [isLab, h42, this]
/-- A name's labels, as they are cut off one by one: what is left, the label so far, whether it is the first one. -/
def goLabs : List UInt8 → List UInt8 → Bool → Option (List (List UInt8))
  | [], _, _ => some []
  | c :: r, cur, b => if c = 46 then (if isLab cur && (!(cur == [42]) || b) then (goLabs r [] false).map (cur :: ·) else none) else goLabs r (cur ++ [c]) b
/-- The labels of a name, if it is one. -/
def labs (n : List UInt8) : Option (List (List UInt8)) :=
  if n = [46] then some [] else if n.length < 2 ∨ 254 < n.length ∨ n.getLastD 0 ≠ 46 then none else goLabs n [] true
def vName (n : List UInt8) : Bool := (labs n).isSome

noncomputable def FisLab := mkF (fun s : (List UInt8) => [.st s]) (fun s => Sm s) (fun s => Res.flat (.bo (isLab s)))
theorem FisLab_eq {s1 : List UInt8} (hp : Sm s1) : FisLab [.st s1] = some (Res.flat (.bo (isLab s1))) := mkF_eq (s := (s1)) (fun s s' h => by simp only [List.cons.injEq, D.it.injEq, D.st.injEq, D.bo.injEq, true_and, and_true, adr_iff, dat_iff, rec_iff, zone_iff, delta_iff, hist_iff, recs_iff, deltas_iff, strs_iff, ints_iff] at h; simp only [h]) hp
set_option maxHeartbeats 4000000 in
theorem runIsLab (cx : Cx) (hP : cx.P = Try.prog) (hbs : cx.bs = 0) (hk6 : cx.kp 6 = some [0, 3]) (s1 : List UInt8) (hl : Sm s1) : pureRun cx Try.f71 [] false [.st s1] = some (Res.flat (.bo (isLab s1))) := by
  have hw := wrapS hl
  refine pure_flat (rs := [.tmp 2]) rfl hbs rfl ?_
  repeat' first
    | (refine evX_loop_flat (σ := Nat) (fun s6 => [.st s1, .it .i64 s6]) (fun s6 => s6 ≤ s1.length ∧ (s1.take s6).all okc = true) (fun s6 => s1.length - s6) [0, 3] hbs (by exact hk6) (fun s6 => by simp only [refsL, refs, refs_ivec, refs_gvec, refs_vecE, List.append_nil]) (fun s6 j6 => ?_) (s := 0) ?_ ?_)
    | (refine br_mk (fun h => ?_) (fun h => ?_) <;> (try simp only [Bool.not_eq_true, Bool.not_eq_false, Classical.not_not] at h))
    | (refine ms_mk ?_ ?_)
    | simp only [↓cD, cU, cB, intOp, unD, minD_two, builtinD, idx, reduceCtorEq, ↓reduceIte, ofV, ofC, argEnv, Nat.reduceEqDiff, not_false_eq_true, flatL, cG, Bool.and_self,
      decide_true, decide_false, not_true_eq_false, false_and, false_implies, Option.map_some, Option.bind_some, Option.bind_none, Option.map_none, List.getElem?_toArray, List.toList_toArray, decide_eq_true_eq, decide_eq_false_iff_not, ge_iff_le, gt_iff_lt, and_true, true_and, implies_true, forall_const, true_or, or_true,
      immL, immD, Bool.true_and, Bool.and_true, Bool.false_and, Bool.and_false, Bool.true_or, Bool.or_true, Bool.false_or, Bool.or_false, Res.flat, ren, renL, List.length_nil, Nat.add_zero, List.map_cons, List.map_nil, List.nil_append, List.append_nil, List.cons_append, List.getElem?_cons_zero, List.getElem?_cons_succ, Bool.not_eq_true', Bool.not_true, Bool.not_false, Bool.not_eq_true, Bool.not_eq_false', Bool.not_eq_false, Bool.true_eq_false, Bool.false_eq_true, if_true, if_false, Int.reduceEq, Int.reduceLT, Int.reduceLE, Int.reduceNe, ite_self, or_false, false_or, or_self, eq_self, List.zip_cons_cons, List.zip_nil_left, deref, ldD, List.head?_cons, convD, shiftOp, strOp, bitsOp, cC, ↓neq37, ↓eql37, ↓neq39, ↓eql39, ↓neq41, ↓eql41, cV, cT, cF, cW, borT, borM, bor_agg, Res.via, List.size_toArray, List.isEmpty_cons, put_ap, putAll_one, elems_own, refsB, List.isEmpty_nil, Nat.reduceLT, Nat.reduceSub, Nat.reduceLeDiff, Nat.reduceMul, Nat.reduceAdd, Int.toNat_natCast, Int.reduceToNat, appK, nilRow, callX_bor, borL, bor_row, bor_one, take_map_len, List.drop_zero, map_snoc, map_app, fillE, cO, List.length_cons, List.length_replicate, List.length_append, List.length_map, List.replicate, List.set_cons_zero, List.set_cons_succ, List.take_zero, List.take_succ_cons, List.drop_succ_cons, Nat.zero_lt_succ, Option.isSome_some, partD, ofHp, ixOf, lens Try.underlying9, ixs Try.underlying9, hw, hP, *]
  all_goals first
    | rfl
    | exact ⟨Nat.zero_le _, rfl⟩
    | (refine ⟨_, rfl, ⟨by omega, ?_⟩, by omega⟩; rw [all_step (by omega), j6.2, Bool.true_and]; exact (okc_iff _).2 (by omega))
    | (rw [isLab_no (i := s6) (by omega) (by rw [okc_iff]; omega) ‹_›]; done)
    | (rw [take_end (by omega)] at j6; simp [isLab, j6.2]; omega)
    | (simp [isLab]; omega)
    | (simp_all [isLab]; done)
    | (simp only [isLab, ‹(s1 == [42]) = false›, Bool.false_or]; simp; omega)
    | (simp only [isLab, ‹(s1 == [42]) = true›, Bool.true_or]; done)
noncomputable def FSplit := mkF (fun s : (List UInt8) => [.st s]) (fun s => Sm s) (fun s => Res.rowd 1 (((labs s).getD []).map D.st) [.bo (labs s).isSome])
theorem FSplit_eq {s1 : List UInt8} (hp : Sm s1) : FSplit [.st s1] = some (Res.rowd 1 (((labs s1).getD []).map D.st) [.bo (labs s1).isSome]) := mkF_eq (s := (s1)) (fun s s' h => by simp only [List.cons.injEq, D.it.injEq, D.st.injEq, D.bo.injEq, true_and, and_true, adr_iff, dat_iff, rec_iff, zone_iff, delta_iff, hist_iff, recs_iff, deltas_iff, strs_iff, ints_iff] at h; simp only [h]) hp
theorem goLabs_dot {c : UInt8} {r cur : List UInt8} {b : Bool} (h : (c.toNat : Int) = 46) : goLabs (c :: r) cur b = if isLab cur && (!(cur == [42]) || b) then (goLabs r [] false).map (cur :: ·) else none := by
  have : c = 46 := by rw [← UInt8.toNat_inj]; have : (46 : UInt8).toNat = 46 := rfl; omega
  simp only [goLabs, this, if_true]
theorem goLabs_on {c : UInt8} {r cur : List UInt8} {b : Bool} (h : ¬ (c.toNat : Int) = 46) : goLabs (c :: r) cur b = goLabs r (cur ++ [c]) b := by
  have : ¬ c = 46 := fun e => h (by rw [e]; rfl)
  simp only [goLabs, this, if_false]
theorem labs_bad {s : List UInt8} (h : ¬ s = [46]) (h2 : (s.length : Int) < 2 ∨ 254 < (s.length : Int) ∨ ¬ ((s.getLastD 0).toNat : Int) = 46) : labs s = none := by
  unfold labs
  rw [if_neg h, if_pos]
  rcases h2 with h2 | h2 | h2
  · exact .inl (by omega)
  · exact .inr (.inl (by omega))
  · refine .inr (.inr fun e => h2 ?_)
    rw [e]; rfl
theorem labs_go {s : List UInt8} (h : ¬ s = [46]) (h1 : ¬ (s.length : Int) < 2) (h2 : ¬ 254 < (s.length : Int)) (h3 : ((s.getLastD 0).toNat : Int) = 46) : labs s = goLabs s [] true := by
  unfold labs
  rw [if_neg h, if_neg]
  rintro (h4 | h4 | h4)
  · omega
  · omega
  · refine h4 ?_
    rw [← UInt8.toNat_inj]
    have : (46 : UInt8).toNat = 46 := rfl
    omega
theorem labs_dot : labs [46] = some [] := rfl
/-- The label that begins at a place, up to another. -/
def curAt (s : List UInt8) (a i : Nat) : List UInt8 := (s.take i).drop a
theorem curAt_next {s : List UInt8} {a i : Nat} (h : (i : Int) < s.length) (ha : a ≤ i) : curAt s a (i + 1) = curAt s a i ++ [s[i]!] := by
  unfold curAt
  rw [takeN h, List.drop_append_of_le_length (by rw [List.length_take]; omega)]
theorem curAt_self {s : List UInt8} {i : Nat} : curAt s i i = [] := by unfold curAt; apply List.drop_eq_nil_of_le; rw [List.length_take]; omega
theorem curAt_sm {s : List UInt8} {a i : Nat} (h : Sm s) : Sm (curAt s a i) := by
  have : (curAt s a i).length ≤ s.length := by unfold curAt; simp only [List.length_drop, List.length_take]; omega
  simp only [Sm] at *; omega
theorem last_ix {s : List UInt8} (h : 2 ≤ s.length) : s[((s.length : Int) - 1).toNat]! = s.getLastD 0 := by
  have : ((s.length : Int) - 1).toNat = s.length - 1 := by omega
  rw [this, getElem!_pos s (s.length - 1) (by omega), ← List.getLast_eq_getElem (by intro e; rw [e] at h; simp at h)]
  cases s with
  | nil => simp at h
  | cons a r => rw [List.getLastD_cons, List.getLast_eq_getLastD]

set_option maxHeartbeats 4000000 in
theorem runSplit (cx : Cx) (hP : cx.P = Try.prog) (hbs : cx.bs = 0) (h71 : cx.orc 71 = some FisLab) (hk8 : cx.kp 8 = some [0, 4, 5, 6]) (s1 : List UInt8) (hl : Sm s1) : pureRun cx Try.f58 [0] false [.st s1] = some (Res.rowd 1 (((labs s1).getD []).map D.st) [.bo (labs s1).isSome]) := by
  have c71 := fun H nid l => (show callD cx 71 l H nid = _ from call_orc h71)
  have hw := wrapS hl
  have hsl : ∀ (H : Hp) (a i : Nat), a ≤ i → i ≤ s1.length → sliceD Try.prog H 9 (.st s1) (some (.it .i64 (a : Int))) (some (.it .i64 (i : Int))) none = some (.st (curAt s1 a i)) := fun H a i h h' => slices_eq Try.underlying9 (bnds_two h h')
  have hix : ¬ (s1.length : Int) < 2 → indexD Try.prog 9 (.st s1) (.it .i64 (IntKind.i64.wrap ((s1.length : Int) - 1))) = some (.it .u8 ((s1.getLastD 0).toNat : Int)) := fun h => by rw [wrap64 (by omega) (by omega), ixsN Try.underlying9 (by omega) (by omega), last_ix (by omega)]
  refine pure_rowd (rs := [.tmp 2, .tmp 3]) rfl hbs rfl ?_
  repeat' first
    | (refine evX_loop_rows (σ := Nat × Nat × List (List UInt8)) (fun q => [.st s1, .own 0 0 q.2.2.length, .it .i64 q.2.1, .it .i64 q.1]) (fun q => [.row 1 true (q.2.2.map D.st)]) (fun q => q.1 ≤ s1.length ∧ q.2.1 ≤ q.1 ∧ q.2.2.length ≤ q.1 ∧ (goLabs (s1.drop q.1) (curAt s1 q.2.1 q.1) (decide (q.2.1 = 0))).map (q.2.2 ++ ·) = goLabs s1 [] true) (fun q => s1.length - q.1) [0, 4, 5, 6] hbs (by exact hk8) (fun q jq b hb => by simp only [List.mem_singleton] at hb; subst hb; exact map_refs (fun _ => rfl)) (fun q jq => ?_) (s := (0, 0, [])) [1] ?_ ?_ ?_ ?_ ?_)
    | (refine br_mk (fun h => ?_) (fun h => ?_) <;> (try simp only [Bool.not_eq_true, Bool.not_eq_false, Classical.not_not] at h))
    | (refine ms_mk ?_ ?_)
    | simp only [↓cD, cU, cB, intOp, unD, minD_two, builtinD, idx, reduceCtorEq, ↓reduceIte, ofV, ofC, argEnv, Nat.reduceEqDiff, not_false_eq_true, flatL, cG, Bool.and_self,
      decide_true, decide_false, not_true_eq_false, false_and, false_implies, Option.map_some, Option.bind_some, Option.bind_none, Option.map_none, List.getElem?_toArray, List.toList_toArray, decide_eq_true_eq, decide_eq_false_iff_not, ge_iff_le, gt_iff_lt, and_true, true_and, implies_true, forall_const, true_or, or_true,
      immL, immD, Bool.true_and, Bool.and_true, Bool.false_and, Bool.and_false, Bool.true_or, Bool.or_true, Bool.false_or, Bool.or_false, Res.flat, ren, renL, List.length_nil, Nat.add_zero, List.map_cons, List.map_nil, List.nil_append, List.append_nil, List.cons_append, List.getElem?_cons_zero, List.getElem?_cons_succ, Bool.not_eq_true', Bool.not_true, Bool.not_false, Bool.not_eq_true, Bool.not_eq_false', Bool.not_eq_false, Bool.true_eq_false, Bool.false_eq_true, if_true, if_false, Int.reduceEq, Int.reduceLT, Int.reduceLE, Int.reduceNe, ite_self, or_false, false_or, or_self, eq_self, List.zip_cons_cons, List.zip_nil_left, deref, ldD, List.head?_cons, convD, shiftOp, strOp, bitsOp, cC, c71, callX_imm, callX_nil, FisLab_eq, ↓neq37, ↓eql37, ↓neq39, ↓eql39, ↓neq41, ↓eql41, cV, cT, cF, cW, borT, borM, bor_agg, Res.via, List.size_toArray, List.isEmpty_cons, put_ap, putAll_one, elems_own, refsB, List.isEmpty_nil, Nat.reduceLT, Nat.reduceSub, Nat.reduceLeDiff, Nat.reduceMul, Nat.reduceAdd, Int.toNat_natCast, Int.reduceToNat, appK, nilRow, callX_bor, borL, bor_row, bor_one, take_map_len, List.drop_zero, map_snoc, map_app, fillE, cO, List.length_cons, List.length_replicate, List.length_append, List.length_map, List.replicate, List.set_cons_zero, List.set_cons_succ, List.take_zero, List.take_succ_cons, List.drop_succ_cons, Nat.zero_lt_succ, Option.isSome_some, partD, ofHp, ixOf, lens Try.underlying9, ixs Try.underlying9, hw, hsl, hix, curAt_sm hl, beq_iff_eq, Int.natCast_pos, hP, *]
  all_goals first
    | exact ⟨by omega, by omega⟩
    | (refine ⟨_, _, _, _, _, _, rfl, rfl, rfl, rfl, rfl, ?_⟩; simp only [labs_dot]; rfl)
    | (refine ⟨_, _, _, _, _, _, rfl, rfl, rfl, rfl, rfl, ?_⟩; rw [labs_bad ‹_› (by omega)]; rfl)
    | (refine ⟨_, _, _, _, _, _, rfl, rfl, rfl, rfl, rfl, ?_⟩; rw [labs_go ‹_› ‹_› ‹_› ‹_›, ← jq.2.2.2, drop_at (zs := s1) (i := q.1) (by omega), goLabs_dot ‹_›, if_neg (by simp only [Bool.and_eq_true, Bool.or_eq_true, not_and, not_or, *]; simp; try omega)]; rfl)
    | (refine ⟨_, _, _, _, _, _, rfl, rfl, by simp, rfl, map_dry (fun _ => rfl), ?_⟩; rw [labs_go ‹_› ‹_› ‹_› ‹_›, ← jq.2.2.2, drop_end (zs := s1) (i := q.1) (by omega)]; simp only [goLabs, Option.map_some, List.append_nil]; rfl)
    | (refine ⟨[0], (q.1 + 1, q.2.1, q.2.2), ?_, ?_, ?_, ?_, ⟨by simp only; omega, by simp only; omega, by simp only; omega, ?_⟩, by simp only; omega⟩; rotate_left 4; (rw [← jq.2.2.2, drop_at (zs := s1) (i := q.1) (by omega), goLabs_on ‹_›, curAt_next (by omega) jq.2.1]); all_goals (first | rfl | (simp only [refsL, refs, refs_gvec, refs_ivec, ren, ren_gvec, List.nil_append, List.append_nil, List.cons_append, List.map_cons, List.map_nil, upd_atB, upd_offB, Nat.reduceEqDiff, not_false_eq_true, ofHp, ixOf, if_true, Bool.and_self, Bool.true_and]; first | rfl | done) | (simp only [refsL, refs, refs_gvec, refs_ivec, ren, ren_gvec, List.nil_append, List.append_nil, List.cons_append, List.map_cons, List.map_nil, upd_atB, upd_offB, Nat.reduceEqDiff, not_false_eq_true, ofHp, ixOf, if_true, Bool.and_self, Bool.true_and]; simp; done)))
    | (refine ⟨[2], (q.1 + 1, q.1 + 1, q.2.2 ++ [curAt s1 q.2.1 q.1]), rfl, rfl, ?_, ?_, ⟨by simp only; omega, by simp only; omega, by simp only [List.length_append, List.length_cons, List.length_nil]; omega, ?_⟩, by simp only; omega⟩; rotate_left 2; (rw [← jq.2.2.2, drop_at (zs := s1) (i := q.1) (by omega), goLabs_dot ‹_›, if_pos (by simp only [Bool.and_eq_true, Bool.or_eq_true, *]; simp; exact .inl ‹_›)]; simp only [curAt_self, Nat.add_eq_zero_iff, Nat.one_ne_zero, and_false, decide_false]; cases goLabs (List.drop (q.1 + 1) s1) [] false <;> simp); all_goals (first | rfl | (simp only [refsL, refs, refs_gvec, refs_ivec, ren, ren_gvec, List.nil_append, List.append_nil, List.cons_append, List.map_cons, List.map_nil, upd_atB, upd_offB, Nat.reduceEqDiff, not_false_eq_true, ofHp, ixOf, if_true, Bool.and_self, Bool.true_and]; first | rfl | done) | (simp only [refsL, refs, refs_gvec, refs_ivec, ren, ren_gvec, List.nil_append, List.append_nil, List.cons_append, List.map_cons, List.map_nil, upd_atB, upd_offB, Nat.reduceEqDiff, not_false_eq_true, ofHp, ixOf, if_true, Bool.and_self, Bool.true_and]; simp; done)))
    | (refine ⟨[2], (q.1 + 1, q.1 + 1, q.2.2 ++ [[42]]), rfl, rfl, ?_, ?_, ⟨by simp only; omega, by simp only; omega, by simp only [List.length_append, List.length_cons, List.length_nil]; omega, ?_⟩, by simp only; omega⟩; rotate_left 2; (rw [← jq.2.2.2, drop_at (zs := s1) (i := q.1) (by omega), goLabs_dot ‹_›, ‹curAt s1 q.2.1 q.1 = [42]›, if_pos (by have e : q.2.1 = 0 := (by omega); rw [e]; rfl)]; simp only [curAt_self, Nat.add_eq_zero_iff, Nat.one_ne_zero, and_false, decide_false]; cases goLabs (List.drop (q.1 + 1) s1) [] false <;> simp); all_goals (first | rfl | (simp only [refsL, refs, refs_gvec, refs_ivec, ren, ren_gvec, List.nil_append, List.append_nil, List.cons_append, List.map_cons, List.map_nil, upd_atB, upd_offB, Nat.reduceEqDiff, not_false_eq_true, ofHp, ixOf, if_true, Bool.and_self, Bool.true_and]; first | rfl | done) | (simp only [refsL, refs, refs_gvec, refs_ivec, ren, ren_gvec, List.nil_append, List.append_nil, List.cons_append, List.map_cons, List.map_nil, upd_atB, upd_offB, Nat.reduceEqDiff, not_false_eq_true, ofHp, ixOf, if_true, Bool.and_self, Bool.true_and]; simp; done)))
    | exact ⟨Nat.zero_le _, by rw [curAt_self]; simp⟩
    | (first | rfl | (simp only [refsL, refs, refs_gvec, refs_ivec, ren, ren_gvec, List.nil_append, List.append_nil, List.cons_append, List.map_cons, List.map_nil, upd_atB, upd_offB, Nat.reduceEqDiff, not_false_eq_true, ofHp, ixOf, if_true, Bool.and_self, Bool.true_and]; first | rfl | done) | (simp only [refsL, refs, refs_gvec, refs_ivec, ren, ren_gvec, List.nil_append, List.append_nil, List.cons_append, List.map_cons, List.map_nil, upd_atB, upd_offB, Nat.reduceEqDiff, not_false_eq_true, ofHp, ixOf, if_true, Bool.and_self, Bool.true_and]; simp; done))
def cpre : List (List UInt8) → List (List UInt8) → Nat
  | x :: xs, y :: ys => if x = y then cpre xs ys + 1 else 0
  | _, _ => 0
/-- How many labels are the same, from the last one on. -/
def sameL (a b : List (List UInt8)) : Nat := cpre a.reverse b.reverse
def textC (a b : List UInt8) : Int := if Op.bytesLess a b then -1 else if (Op.bytesLess a b || a == b) then 0 else 1
def underN (n top : List UInt8) : Bool := match labs n, labs top with | some a, some b => decide (sameL a b = b.length) | _, _ => false
def cmpN (a b : List UInt8) : Int := match labs a, labs b with
  | some l, some m => if sameL l m < l.length ∧ sameL l m < m.length then textC l.reverse[sameL l m]! m.reverse[sameL l m]! else if l.length < m.length then -1 else if m.length < l.length then 1 else 0
  | some _, none => -1
  | none, some _ => 1
  | none, none => textC a b
theorem cpre_le : ∀ (a b : List (List UInt8)), cpre a b ≤ a.length ∧ cpre a b ≤ b.length
  | [], b => by simp [cpre]
  | x :: xs, [] => by simp [cpre]
  | x :: xs, y :: ys => by
    have := cpre_le xs ys
    simp only [cpre]
    split
    · simp; omega
    · simp
theorem sameL_le (a b : List (List UInt8)) : sameL a b ≤ a.length ∧ sameL a b ≤ b.length := by have := cpre_le a.reverse b.reverse; simpa [sameL] using this
theorem goLabs_len : ∀ (r cur : List UInt8) (b : Bool) (l : List (List UInt8)), goLabs r cur b = some l → l.length ≤ r.length
  | [], _, _, l, h => by simp [goLabs] at h; subst h; simp
  | c :: r, cur, b, l, h => by
    simp only [goLabs] at h
    split at h
    · split at h
      · rw [Option.map_eq_some_iff] at h
        obtain ⟨m, hm, rfl⟩ := h
        have := goLabs_len r [] false m hm
        simp; omega
      · cases h
    · have := goLabs_len r _ b l h
      simp; omega
theorem labs_sm (n : List UInt8) : ((labs n).getD []).length ≤ 254 := by
  unfold labs
  split
  · simp
  · split
    · simp
    · rename_i h
      cases hg : goLabs n [] true with
      | none => simp
      | some l => have := goLabs_len n [] true l hg; simp; omega
theorem labs_some {n : List UInt8} (h : (labs n).isSome = true) : labs n = some ((labs n).getD []) := by cases hh : labs n <;> simp [hh] at h ⊢
theorem labs_nil {n : List UInt8} (h : (labs n).isSome = false) : labs n = none := by cases hh : labs n <;> simp [hh] at h ⊢

noncomputable def FSame := mkF (fun s : (List (List UInt8)) × (List (List UInt8)) => [strsE s.1, strsE s.2]) (fun s => Sm s.1 ∧ Sm s.2) (fun s => Res.flat (.it .i64 (sameL s.1 s.2 : Int)))
theorem FSame_eq {a : List (List UInt8)} {b : List (List UInt8)} (hp : Sm a ∧ Sm b) : FSame [strsE a, strsE b] = some (Res.flat (.it .i64 (sameL a b : Int))) := mkF_eq (s := (a, b)) (fun s s' h => by simp only [List.cons.injEq, D.it.injEq, D.st.injEq, D.bo.injEq, true_and, and_true, adr_iff, dat_iff, rec_iff, zone_iff, delta_iff, hist_iff, recs_iff, deltas_iff, strs_iff, ints_iff] at h; simp only [h]) hp
theorem cpre_step {a b : List (List UInt8)} {k : Nat} (ha : (k : Int) < a.length) (hb : (k : Int) < b.length) : cpre (a.reverse.drop k) (b.reverse.drop k) = if a.reverse[k]! = b.reverse[k]! then cpre (a.reverse.drop (k + 1)) (b.reverse.drop (k + 1)) + 1 else 0 := by
  rw [drop_at (zs := a.reverse) (i := k) (by simpa using ha), drop_at (zs := b.reverse) (i := k) (by simpa using hb)]
  simp only [cpre]
theorem cpre_end {a b : List (List UInt8)} {k : Nat} (h : ¬ ((k : Int) < a.length) ∨ ¬ ((k : Int) < b.length)) : cpre (a.reverse.drop k) (b.reverse.drop k) = 0 := by
  rcases h with h | h
  · rw [drop_end (zs := a.reverse) (by simpa using h)]; simp [cpre]
  · rw [drop_end (zs := b.reverse) (by simpa using h)]; cases List.drop k a.reverse <;> simp [cpre]

set_option maxHeartbeats 4000000 in
theorem runSame (cx : Cx) (hP : cx.P = Try.prog) (hbs : cx.bs = 0) (hk2 : cx.kp 2 = some [0, 1, 5]) (a b : List (List UInt8)) (hl : Sm a ∧ Sm b) : pureRun cx Try.f62 [] false [strsE a, strsE b] = some (Res.flat (.it .i64 (sameL a b : Int))) := by
  have ha := hl.1; have hb := hl.2; simp only [Sm] at ha hb; clear hl
  have hxa : ∀ (H : Hp) (k : Nat), (k : Int) < a.length → indexAddrD Try.prog H 86 (strsE a) (.it .i64 (IntKind.i64.wrap (IntKind.i64.wrap ((a.length : Int) - 1) - (k : Int)))) = some (.elt [.st a.reverse[k]!]) := fun H k h => by
    have e : IntKind.i64.wrap (IntKind.i64.wrap ((a.length : Int) - 1) - (k : Int)) = ((a.length - 1 - k : Nat) : Int) := by rw [wrap64 (n := (a.length : Int) - 1) (by omega) (by omega), wrap64 (by omega) (by omega)]; omega
    rw [e, ixv86 _ _ _ _ _ (by omega), rev_at (by omega)]; rfl
  have hxb : ∀ (H : Hp) (k : Nat), (k : Int) < b.length → indexAddrD Try.prog H 86 (strsE b) (.it .i64 (IntKind.i64.wrap (IntKind.i64.wrap ((b.length : Int) - 1) - (k : Int)))) = some (.elt [.st b.reverse[k]!]) := fun H k h => by
    have e : IntKind.i64.wrap (IntKind.i64.wrap ((b.length : Int) - 1) - (k : Int)) = ((b.length - 1 - k : Nat) : Int) := by rw [wrap64 (n := (b.length : Int) - 1) (by omega) (by omega), wrap64 (by omega) (by omega)]; omega
    rw [e, ixv86 _ _ _ _ _ (by omega), rev_at (by omega)]; rfl
  have hw : ∀ k : Nat, (k : Int) < a.length → IntKind.i64.wrap ((k : Int) + 1) = ((k + 1 : Nat) : Int) := wrapS ha
  refine pure_flat (rs := [.tmp 4]) rfl hbs rfl ?_
  repeat' first
    | (refine evX_loop_flat (σ := Nat) (fun s2 => [strsE a, strsE b, .it .i64 s2]) (fun s2 => s2 ≤ a.length ∧ s2 + cpre (a.reverse.drop s2) (b.reverse.drop s2) = sameL a b) (fun s2 => a.length - s2) [0, 1, 5] hbs (by exact hk2) (fun s2 => by simp only [refsL, refs, refs_ivec, refs_gvec, refs_vecE, List.append_nil]) (fun s2 j2 => ?_) (s := 0) ?_ ?_)
    | (refine br_mk (fun h => ?_) (fun h => ?_) <;> (try simp only [Bool.not_eq_true, Bool.not_eq_false, Classical.not_not] at h))
    | (refine ms_mk ?_ ?_)
    | simp only [↓cD, cU, cB, intOp, unD, minD_two, builtinD, idx, reduceCtorEq, ↓reduceIte, ofV, ofC, argEnv, Nat.reduceEqDiff, not_false_eq_true, flatL, cG, Bool.and_self,
      decide_true, decide_false, not_true_eq_false, false_and, false_implies, Option.map_some, Option.bind_some, Option.bind_none, Option.map_none, List.getElem?_toArray, List.toList_toArray, decide_eq_true_eq, decide_eq_false_iff_not, ge_iff_le, gt_iff_lt, and_true, true_and, implies_true, forall_const, true_or, or_true,
      immL, immD, Bool.true_and, Bool.and_true, Bool.false_and, Bool.and_false, Bool.true_or, Bool.or_true, Bool.false_or, Bool.or_false, Res.flat, ren, renL, List.length_nil, Nat.add_zero, List.map_cons, List.map_nil, List.nil_append, List.append_nil, List.cons_append, List.getElem?_cons_zero, List.getElem?_cons_succ, Bool.not_eq_true', Bool.not_true, Bool.not_false, Bool.not_eq_true, Bool.not_eq_false', Bool.not_eq_false, Bool.true_eq_false, Bool.false_eq_true, if_true, if_false, Int.reduceEq, Int.reduceLT, Int.reduceLE, Int.reduceNe, ite_self, or_false, false_or, or_self, eq_self, List.zip_cons_cons, List.zip_nil_left, deref, ldD, List.head?_cons, convD, shiftOp, strOp, bitsOp, cC, cS, refs, okRoots, okId, List.all_nil, List.all_cons, List.length_cons, Nat.zero_add, Nat.reduceMul, Nat.reduceAdd, Nat.reduceLeDiff, refsL, List.flatMap_cons, List.flatMap_nil, ↓neq37, ↓eql37, ↓neq39, ↓eql39, ↓neq41, ↓eql41, cV, cT, cF, cW, borT, borM, bor_agg, Res.via, List.size_toArray, List.isEmpty_cons, put_ap, putAll_one, elems_own, refsB, List.isEmpty_nil, Nat.reduceLT, Nat.reduceSub, Nat.reduceLeDiff, Nat.reduceMul, Nat.reduceAdd, Int.toNat_natCast, Int.reduceToNat, appK, nilRow, callX_bor, borL, bor_row, bor_one, take_map_len, List.drop_zero, map_snoc, map_app, fillE, cO, List.length_cons, List.length_replicate, List.length_append, List.length_map, List.replicate, List.set_cons_zero, List.set_cons_succ, List.take_zero, List.take_succ_cons, List.drop_succ_cons, Nat.zero_lt_succ, Option.isSome_some, partD, ofHp, ixOf, cS, refs, okRoots, okId, List.all_nil, List.all_cons, List.length_cons, Nat.zero_add, Nat.reduceMul, Nat.reduceAdd, Nat.reduceLeDiff, refsL, List.flatMap_cons, List.flatMap_nil, hxa, hxb, hw, hP, *]
  all_goals first
    | rfl
    | exact ⟨Nat.zero_le _, by simp [sameL]⟩
    | (refine ⟨_, rfl, ⟨by omega, ?_⟩, by omega⟩; rw [cpre_step (by omega) (by omega), if_pos (beq_iff_eq.1 ‹_›)] at j2; omega)
    | (rw [cpre_end (by omega)] at j2; rw [← j2.2]; rfl)
    | (rw [cpre_step (by omega) (by omega), if_neg (beq_eq_false_iff_ne.1 ‹_›)] at j2; rw [← j2.2]; rfl)
    | trace_state
noncomputable def FText := mkF (fun s : (List UInt8) × (List UInt8) => [.st s.1, .st s.2]) (fun s => True) (fun s => Res.flat (.it .i64 (textC s.1 s.2)))
theorem FText_eq {s1 : List UInt8} {s2 : List UInt8} : FText [.st s1, .st s2] = some (Res.flat (.it .i64 (textC s1 s2))) := mkF_eq (s := (s1, s2)) (fun s s' h => by simp only [List.cons.injEq, D.it.injEq, D.st.injEq, D.bo.injEq, true_and, and_true, adr_iff, dat_iff, rec_iff, zone_iff, delta_iff, hist_iff, recs_iff, deltas_iff, strs_iff, ints_iff] at h; simp only [h]) trivial
set_option maxHeartbeats 4000000 in
theorem runText (cx : Cx) (hP : cx.P = Try.prog) (hbs : cx.bs = 0) (s1 s2 : List UInt8)  : pureRun cx Try.f83 [] false [.st s1, .st s2] = some (Res.flat (.it .i64 (textC s1 s2))) := by
  refine pure_flat (rs := [.tmp 4]) rfl hbs rfl ?_
  repeat' first
    | (refine br_mk (fun h => ?_) (fun h => ?_) <;> (try simp only [Bool.not_eq_true, Bool.not_eq_false, Classical.not_not] at h))
    | (refine ms_mk ?_ ?_)
    | simp only [↓cD, cU, cB, intOp, unD, minD_two, builtinD, idx, reduceCtorEq, ↓reduceIte, ofV, ofC, argEnv, Nat.reduceEqDiff, not_false_eq_true, flatL, cG, Bool.and_self,
      decide_true, decide_false, not_true_eq_false, false_and, false_implies, Option.map_some, Option.bind_some, Option.bind_none, Option.map_none, List.getElem?_toArray, List.toList_toArray, decide_eq_true_eq, decide_eq_false_iff_not, ge_iff_le, gt_iff_lt, and_true, true_and, implies_true, forall_const, true_or, or_true,
      immL, immD, Bool.true_and, Bool.and_true, Bool.false_and, Bool.and_false, Bool.true_or, Bool.or_true, Bool.false_or, Bool.or_false, Res.flat, ren, renL, List.length_nil, Nat.add_zero, List.map_cons, List.map_nil, List.nil_append, List.append_nil, List.cons_append, List.getElem?_cons_zero, List.getElem?_cons_succ, Bool.not_eq_true', Bool.not_true, Bool.not_false, Bool.not_eq_true, Bool.not_eq_false', Bool.not_eq_false, Bool.true_eq_false, Bool.false_eq_true, if_true, if_false, Int.reduceEq, Int.reduceLT, Int.reduceLE, Int.reduceNe, ite_self, or_false, false_or, or_self, eq_self, List.zip_cons_cons, List.zip_nil_left, deref, ldD, List.head?_cons, convD, shiftOp, strOp, bitsOp, cC, ↓neq37, ↓eql37, ↓neq39, ↓eql39, ↓neq41, ↓eql41, cV, cT, cF, cW, borT, borM, bor_agg, Res.via, List.size_toArray, List.isEmpty_cons, put_ap, putAll_one, elems_own, refsB, List.isEmpty_nil, Nat.reduceLT, Nat.reduceSub, Nat.reduceLeDiff, Nat.reduceMul, Nat.reduceAdd, Int.toNat_natCast, Int.reduceToNat, appK, nilRow, callX_bor, borL, bor_row, bor_one, take_map_len, List.drop_zero, map_snoc, map_app, fillE, cO, List.length_cons, List.length_replicate, List.length_append, List.length_map, List.replicate, List.set_cons_zero, List.set_cons_succ, List.take_zero, List.take_succ_cons, List.drop_succ_cons, Nat.zero_lt_succ, Option.isSome_some, partD, ofHp, ixOf, hP, *]
  all_goals first | rfl | (simp [textC, *]; done) | trace_state
noncomputable def FValid := mkF (fun s : (List UInt8) => [.st s]) (fun s => Sm s) (fun s => Res.flat (.bo (vName s)))
theorem FValid_eq {s1 : List UInt8} (hp : Sm s1) : FValid [.st s1] = some (Res.flat (.bo (vName s1))) := mkF_eq (s := (s1)) (fun s s' h => by simp only [List.cons.injEq, D.it.injEq, D.st.injEq, D.bo.injEq, true_and, and_true, adr_iff, dat_iff, rec_iff, zone_iff, delta_iff, hist_iff, recs_iff, deltas_iff, strs_iff, ints_iff] at h; simp only [h]) hp
set_option maxHeartbeats 4000000 in
theorem runValid (cx : Cx) (hP : cx.P = Try.prog) (hbs : cx.bs = 0) (h58 : cx.orc 58 = some FSplit) (s1 : List UInt8) (hl : Sm s1) : pureRun cx Try.f38 [] false [.st s1] = some (Res.flat (.bo (vName s1))) := by
  have c58 := fun H nid l => (show callD cx 58 l H nid = _ from call_orc h58)
  refine pure_flat (rs := [.tmp 2]) rfl hbs rfl ?_
  repeat' first
    | (refine br_mk (fun h => ?_) (fun h => ?_) <;> (try simp only [Bool.not_eq_true, Bool.not_eq_false, Classical.not_not] at h))
    | (refine ms_mk ?_ ?_)
    | simp only [↓cD, cU, cB, intOp, unD, minD_two, builtinD, idx, reduceCtorEq, ↓reduceIte, ofV, ofC, argEnv, Nat.reduceEqDiff, not_false_eq_true, flatL, cG, Bool.and_self,
      decide_true, decide_false, not_true_eq_false, false_and, false_implies, Option.map_some, Option.bind_some, Option.bind_none, Option.map_none, List.getElem?_toArray, List.toList_toArray, decide_eq_true_eq, decide_eq_false_iff_not, ge_iff_le, gt_iff_lt, and_true, true_and, implies_true, forall_const, true_or, or_true,
      immL, immD, Bool.true_and, Bool.and_true, Bool.false_and, Bool.and_false, Bool.true_or, Bool.or_true, Bool.false_or, Bool.or_false, Res.flat, ren, renL, List.length_nil, Nat.add_zero, List.map_cons, List.map_nil, List.nil_append, List.append_nil, List.cons_append, List.getElem?_cons_zero, List.getElem?_cons_succ, Bool.not_eq_true', Bool.not_true, Bool.not_false, Bool.not_eq_true, Bool.not_eq_false', Bool.not_eq_false, Bool.true_eq_false, Bool.false_eq_true, if_true, if_false, Int.reduceEq, Int.reduceLT, Int.reduceLE, Int.reduceNe, ite_self, or_false, false_or, or_self, eq_self, List.zip_cons_cons, List.zip_nil_left, deref, ldD, List.head?_cons, convD, shiftOp, strOp, bitsOp, cC, c58, callX_imm, callX_nil, FSplit_eq, ↓neq37, ↓eql37, ↓neq39, ↓eql39, ↓neq41, ↓eql41, cV, cT, cF, cW, borT, borM, bor_agg, Res.via, List.size_toArray, List.isEmpty_cons, put_ap, putAll_one, elems_own, refsB, List.isEmpty_nil, Nat.reduceLT, Nat.reduceSub, Nat.reduceLeDiff, Nat.reduceMul, Nat.reduceAdd, Int.toNat_natCast, Int.reduceToNat, appK, nilRow, callX_bor, borL, bor_row, bor_one, take_map_len, List.drop_zero, map_snoc, map_app, fillE, cO, List.length_cons, List.length_replicate, List.length_append, List.length_map, List.replicate, List.set_cons_zero, List.set_cons_succ, List.take_zero, List.take_succ_cons, List.drop_succ_cons, Nat.zero_lt_succ, Option.isSome_some, partD, ofHp, ixOf, Res.row, Res.rowd, hP, *]
  all_goals first | rfl | (simp [vName]; done) | trace_state
noncomputable def FLabels := mkF (fun s : (List UInt8) => [.st s]) (fun s => Sm s) (fun s => Res.row 1 (((labs s).getD []).map D.st))
theorem FLabels_eq {s1 : List UInt8} (hp : Sm s1) : FLabels [.st s1] = some (Res.row 1 (((labs s1).getD []).map D.st)) := mkF_eq (s := (s1)) (fun s s' h => by simp only [List.cons.injEq, D.it.injEq, D.st.injEq, D.bo.injEq, true_and, and_true, adr_iff, dat_iff, rec_iff, zone_iff, delta_iff, hist_iff, recs_iff, deltas_iff, strs_iff, ints_iff] at h; simp only [h]) hp
set_option maxHeartbeats 4000000 in
theorem runLabels (cx : Cx) (hP : cx.P = Try.prog) (hbs : cx.bs = 0) (h58 : cx.orc 58 = some FSplit) (s1 : List UInt8) (hl : Sm s1) : pureRun cx Try.f64 [0] false [.st s1] = some (Res.row 1 (((labs s1).getD []).map D.st)) := by
  have c58 := fun H nid l => (show callD cx 58 l H nid = _ from call_orc h58)
  refine pure_row (rs := [.tmp 2]) rfl hbs rfl ?_
  repeat' first
    | (refine br_mk (fun h => ?_) (fun h => ?_) <;> (try simp only [Bool.not_eq_true, Bool.not_eq_false, Classical.not_not] at h))
    | (refine ms_mk ?_ ?_)
    | simp only [↓cD, cU, cB, intOp, unD, minD_two, builtinD, idx, reduceCtorEq, ↓reduceIte, ofV, ofC, argEnv, Nat.reduceEqDiff, not_false_eq_true, flatL, cG, Bool.and_self,
      decide_true, decide_false, not_true_eq_false, false_and, false_implies, Option.map_some, Option.bind_some, Option.bind_none, Option.map_none, List.getElem?_toArray, List.toList_toArray, decide_eq_true_eq, decide_eq_false_iff_not, ge_iff_le, gt_iff_lt, and_true, true_and, implies_true, forall_const, true_or, or_true,
      immL, immD, Bool.true_and, Bool.and_true, Bool.false_and, Bool.and_false, Bool.true_or, Bool.or_true, Bool.false_or, Bool.or_false, Res.flat, ren, renL, List.length_nil, Nat.add_zero, List.map_cons, List.map_nil, List.nil_append, List.append_nil, List.cons_append, List.getElem?_cons_zero, List.getElem?_cons_succ, Bool.not_eq_true', Bool.not_true, Bool.not_false, Bool.not_eq_true, Bool.not_eq_false', Bool.not_eq_false, Bool.true_eq_false, Bool.false_eq_true, if_true, if_false, Int.reduceEq, Int.reduceLT, Int.reduceLE, Int.reduceNe, ite_self, or_false, false_or, or_self, eq_self, List.zip_cons_cons, List.zip_nil_left, deref, ldD, List.head?_cons, convD, shiftOp, strOp, bitsOp, cC, c58, callX_imm, callX_nil, FSplit_eq, ↓neq37, ↓eql37, ↓neq39, ↓eql39, ↓neq41, ↓eql41, cV, cT, cF, cW, borT, borM, bor_agg, Res.via, List.size_toArray, List.isEmpty_cons, put_ap, putAll_one, elems_own, refsB, List.isEmpty_nil, Nat.reduceLT, Nat.reduceSub, Nat.reduceLeDiff, Nat.reduceMul, Nat.reduceAdd, Int.toNat_natCast, Int.reduceToNat, appK, nilRow, callX_bor, borL, bor_row, bor_one, take_map_len, List.drop_zero, map_snoc, map_app, fillE, cO, List.length_cons, List.length_replicate, List.length_append, List.length_map, List.replicate, List.set_cons_zero, List.set_cons_succ, List.take_zero, List.take_succ_cons, List.drop_succ_cons, Nat.zero_lt_succ, Option.isSome_some, partD, ofHp, ixOf, Res.row, Res.rowd, hP, *]
  all_goals first | (refine ⟨_, _, _, _, rfl, rfl, ?_, ?_, ?_⟩ <;> first | rfl | simp; done | exact map_dry (fun _ => rfl)) | trace_state
end Go.Mir
