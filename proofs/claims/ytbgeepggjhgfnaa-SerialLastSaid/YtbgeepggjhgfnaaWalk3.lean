/- What functions of the program answer, read off. -/
import Derived.Test.YtbgeepggjhgfnaaWalk2
import Derived.KernelRfl
set_option linter.unusedSimpArgs false
set_option linter.unusedVariables false
namespace Go.Mir
open Go Go.RowKit Go.Proofs
attribute [local congr] Ev.congr EvC.congr EvW.congr Br.congr Ms.congr
set_option maxRecDepth 100000
theorem sAdd_ok (x y : Int) : (sAdd x y).2 = 0 ↔ (0 ≤ x ∧ x < 4294967296) ∧ 0 ≤ y ∧ y < 2147483648 := by
  unfold sAdd
  simp only [inR_false]
  split <;> simp <;> omega
theorem sAdd_err (x y : Int) : (sAdd x y).2 = 0 ∨ (sAdd x y).2 = 1 := by
  unfold sAdd
  split <;> simp
theorem sAdd_val (x y : Int) (h : (sAdd x y).2 = 0) : (sAdd x y).1 = (x + y) % 4294967296 := by
  unfold sAdd at *
  split at h
  · simp at h
  · rename_i hc; rw [if_neg hc]
theorem sAdd_bad (x y : Int) (h : ¬ (sAdd x y).2 = 0) : (sAdd x y).1 = 0 := by
  unfold sAdd at *
  split at h
  · rename_i hc; rw [if_pos hc]
  · simp at h
theorem sAdd_cases (x y : Int) : (((0 ≤ x ∧ x < 4294967296) ∧ 0 ≤ y ∧ y < 2147483648) ∧ sAdd x y = ((x + y) % 4294967296, 0)) ∨ (¬ ((0 ≤ x ∧ x < 4294967296) ∧ 0 ≤ y ∧ y < 2147483648) ∧ sAdd x y = (0, 1)) := by
  by_cases h : (0 ≤ x ∧ x < 4294967296) ∧ 0 ≤ y ∧ y < 2147483648
  · refine .inl ⟨h, ?_⟩
    unfold sAdd
    rw [if_neg]
    simp only [inR_false]; omega
  · refine .inr ⟨h, ?_⟩
    unfold sAdd
    rw [if_pos]
    simp only [inR_false]; omega
theorem sCmp_cases (x y : Int) : (¬ ((0 ≤ x ∧ x < 4294967296) ∧ 0 ≤ y ∧ y < 4294967296) ∧ sCmp x y = (0, false)) ∨ (((0 ≤ x ∧ x < 4294967296) ∧ 0 ≤ y ∧ y < 4294967296) ∧
    (((y - x) % 4294967296 = 0 ∧ sCmp x y = (0, true)) ∨ ((0 < (y - x) % 4294967296 ∧ (y - x) % 4294967296 < 2147483648) ∧ sCmp x y = (-1, true)) ∨ (2147483648 < (y - x) % 4294967296 ∧ sCmp x y = (1, true)) ∨ ((y - x) % 4294967296 = 2147483648 ∧ sCmp x y = (0, false)))) := by
  unfold sCmp
  simp only [inR_false]
  split
  · refine .inl ⟨by omega, rfl⟩
  · refine .inr ⟨by omega, ?_⟩
    repeat' split
    · exact .inl ⟨by omega, rfl⟩
    · exact .inr (.inl ⟨by omega, rfl⟩)
    · exact .inr (.inr (.inl ⟨by omega, rfl⟩))
    · exact .inr (.inr (.inr ⟨by omega, rfl⟩))
theorem sCmp_snd (x y : Int) : (sCmp x y).2 = decide ((0 ≤ x ∧ x < 4294967296) ∧ (0 ≤ y ∧ y < 4294967296) ∧ ¬ (y - x) % 4294967296 = 2147483648) := by
  unfold sCmp
  simp only [inR_false]
  repeat' split
  all_goals simp
  all_goals omega
theorem sCmp_fst (x y : Int) : ((¬ (0 ≤ x ∧ x < 4294967296) ∨ ¬ (0 ≤ y ∧ y < 4294967296)) → (sCmp x y).1 = 0) ∧ ((0 ≤ x ∧ x < 4294967296) ∧ (0 ≤ y ∧ y < 4294967296) → ((y - x) % 4294967296 = 0 → (sCmp x y).1 = 0) ∧ (0 < (y - x) % 4294967296 ∧ (y - x) % 4294967296 < 2147483648 → (sCmp x y).1 = -1) ∧
    (2147483648 < (y - x) % 4294967296 → (sCmp x y).1 = 1) ∧ ((y - x) % 4294967296 = 2147483648 → (sCmp x y).1 = 0)) := by
  unfold sCmp
  simp only [inR_false]
  repeat' split
  all_goals simp
  all_goals omega
theorem sAfter_dec (x y : Int) : sAfter x y = decide ((0 ≤ x ∧ x < 4294967296) ∧ (0 ≤ y ∧ y < 4294967296) ∧ 2147483648 < (y - x) % 4294967296) := by
  unfold sAfter
  rw [sCmp_snd, ← Bool.decide_and, decide_eq_decide]
  have := sCmp_fst x y
  omega

set_option maxHeartbeats 4000000 in
theorem runSteps (cx : Cx) (hP : cx.P = Try.prog) (hbs : cx.bs = 0) (h9 : cx.orc 9 = some FAdd) (h16 : cx.orc 16 = some FAfter) (h13 : cx.orc 13 = some FTrue) (x y z : Int) (hx : -9223372036854775808 ≤ x ∧ x < 9223372036854775808) (hy : -9223372036854775808 ≤ y ∧ y < 9223372036854775808) (hz : -9223372036854775808 ≤ z ∧ z < 9223372036854775808)  : pureRun cx Try.f6 [] false [.it .i64 x, .it .i64 y, .it .i64 z] = some (Res.flat (.bo true)) := by
  have c9 := fun H nid l => (show callD cx 9 l H nid = _ from call_orc h9)
  have c16 := fun H nid l => (show callD cx 16 l H nid = _ from call_orc h16)
  have c13 := fun H nid l => (show callD cx 13 l H nid = _ from call_orc h13)
  refine pure_flat (rs := [.tmp 6]) rfl hbs rfl ?_
  repeat' first
    | (refine br_mk (fun h => ?_) (fun h => ?_) <;> (try simp only [Bool.not_eq_true, Bool.not_eq_false, Classical.not_not] at h))
    | (refine ms_mk ?_ ?_)
    | simp only [↓cD, cU, binD, intOp, unD, minD_two, builtinD, idx, reduceCtorEq, ↓reduceIte, ofV, ofC, argEnv, Nat.reduceEqDiff, not_false_eq_true, flatL, flatD, Bool.and_self,
      decide_true, decide_false, not_true_eq_false, false_and, false_implies, Option.map_some, Option.bind_some, Option.bind_none, Option.map_none, List.getElem?_toArray, List.toList_toArray, decide_eq_true_eq, decide_eq_false_iff_not, ge_iff_le, gt_iff_lt, and_true, true_and, implies_true, forall_const, true_or, or_true,
      immL, immD, Bool.true_and, Bool.and_true, Bool.false_and, Bool.and_false, Bool.true_or, Bool.or_true, Bool.false_or, Bool.or_false, Res.flat, ren, renL, List.length_nil, Nat.add_zero, List.map_cons, List.map_nil, List.nil_append, List.append_nil, List.cons_append, List.getElem?_cons_zero, List.getElem?_cons_succ, Bool.not_eq_true', Bool.not_true, Bool.not_false, Bool.not_eq_true, Bool.not_eq_false', Bool.not_eq_false, Bool.true_eq_false, Bool.false_eq_true, if_true, if_false, Int.reduceEq, Int.reduceLT, Int.reduceLE, Int.reduceNe, ite_self, or_false, false_or, or_self, eq_self, List.zip_cons_cons, List.zip_nil_left, deref, ldD, List.head?_cons, convD, shiftOp, strOp, bitsOp, D.cells, c9, c16, c13, callX_imm, callX_nil, FAdd_eq, FAfter_eq, FTrue_eq, Try.underlying3, Try.underlying22, Try.underlying4, Try.underlying36, Try.underlying34, eqRes, eqD, Bool.beq_eq_decide_eq, decide_true, beq_self_eq_true, hP, *]
  all_goals first | rfl | exfalso
  all_goals
    try simp only [sAfter_dec, decide_eq_decide, decide_eq_true_eq, decide_eq_false_iff_not] at *
    rcases sAdd_cases x y with ⟨g1, e1⟩ | ⟨g1, e1⟩ <;> have p1 := congrArg Prod.fst e1 <;> have q1 := congrArg Prod.snd e1 <;> simp only at p1 q1 <;> clear e1
  all_goals first
    | omega
    | (simp only [p1] at *
       have w1 : IntKind.i64.wrap (2147483648 - y) = 2147483648 - y := wrap64 (by omega) (by omega)
       have w2 : IntKind.i64.wrap (y + z) = y + z := wrap64 (by omega) (by omega)
       rcases sAdd_cases ((x + y) % 4294967296) z with ⟨g2, e2⟩ | ⟨g2, e2⟩ <;> rcases sAdd_cases x (IntKind.i64.wrap (y + z)) with ⟨g3, e3⟩ | ⟨g3, e3⟩ <;> have p2 := congrArg Prod.fst e2 <;> have q2 := congrArg Prod.snd e2 <;> have p3 := congrArg Prod.fst e3 <;> have q3 := congrArg Prod.snd e3 <;> simp only at p2 q2 p3 q3 <;> omega)
set_option maxHeartbeats 4000000 in
theorem runTurns (cx : Cx) (hP : cx.P = Try.prog) (hbs : cx.bs = 0) (h9 : cx.orc 9 = some FAdd) (h16 : cx.orc 16 = some FAfter) (h11 : cx.orc 11 = some FValid) (h14 : cx.orc 14 = some FCmp) (h13 : cx.orc 13 = some FTrue) (x y z : Int) (hx : -9223372036854775808 ≤ x ∧ x < 9223372036854775808) (hy : -9223372036854775808 ≤ y ∧ y < 9223372036854775808) (hz : -9223372036854775808 ≤ z ∧ z < 9223372036854775808)  : pureRun cx Try.f7 [] false [.it .i64 x, .it .i64 y, .it .i64 z] = some (Res.flat (.bo true)) := by
  have c9 := fun H nid l => (show callD cx 9 l H nid = _ from call_orc h9)
  have c16 := fun H nid l => (show callD cx 16 l H nid = _ from call_orc h16)
  have c11 := fun H nid l => (show callD cx 11 l H nid = _ from call_orc h11)
  have c14 := fun H nid l => (show callD cx 14 l H nid = _ from call_orc h14)
  have c13 := fun H nid l => (show callD cx 13 l H nid = _ from call_orc h13)
  refine pure_flat (rs := [.tmp 6]) rfl hbs rfl ?_
  repeat' first
    | (refine br_mk (fun h => ?_) (fun h => ?_) <;> (try simp only [Bool.not_eq_true, Bool.not_eq_false, Classical.not_not] at h))
    | (refine ms_mk ?_ ?_)
    | simp only [↓cD, cU, binD, intOp, unD, minD_two, builtinD, idx, reduceCtorEq, ↓reduceIte, ofV, ofC, argEnv, Nat.reduceEqDiff, not_false_eq_true, flatL, flatD, Bool.and_self,
      decide_true, decide_false, not_true_eq_false, false_and, false_implies, Option.map_some, Option.bind_some, Option.bind_none, Option.map_none, List.getElem?_toArray, List.toList_toArray, decide_eq_true_eq, decide_eq_false_iff_not, ge_iff_le, gt_iff_lt, and_true, true_and, implies_true, forall_const, true_or, or_true,
      immL, immD, Bool.true_and, Bool.and_true, Bool.false_and, Bool.and_false, Bool.true_or, Bool.or_true, Bool.false_or, Bool.or_false, Res.flat, ren, renL, List.length_nil, Nat.add_zero, List.map_cons, List.map_nil, List.nil_append, List.append_nil, List.cons_append, List.getElem?_cons_zero, List.getElem?_cons_succ, Bool.not_eq_true', Bool.not_true, Bool.not_false, Bool.not_eq_true, Bool.not_eq_false', Bool.not_eq_false, Bool.true_eq_false, Bool.false_eq_true, if_true, if_false, Int.reduceEq, Int.reduceLT, Int.reduceLE, Int.reduceNe, ite_self, or_false, false_or, or_self, eq_self, List.zip_cons_cons, List.zip_nil_left, deref, ldD, List.head?_cons, convD, shiftOp, strOp, bitsOp, D.cells, c9, c16, c11, c14, c13, callX_imm, callX_nil, FAdd_eq, FAfter_eq, FValid_eq, FCmp_eq, FTrue_eq, Try.underlying3, Try.underlying22, Try.underlying4, Try.underlying36, Try.underlying34, eqRes, eqD, Bool.beq_eq_decide_eq, decide_true, beq_self_eq_true, hP, *]
  all_goals first | rfl | exfalso
  all_goals
    have w0 : IntKind.i64.wrap (0 - (sCmp y x).1) = 0 - (sCmp y x).1 := wrap64 (by have := sCmp_range y x; omega) (by have := sCmp_range y x; omega)
    try simp only [w0, sAfter_dec, inR_true, inR_false, decide_eq_decide, decide_eq_true_eq, decide_eq_false_iff_not, true_eq_decide_iff, false_eq_decide_iff] at *
    clear w0
    rcases sCmp_cases x y with ⟨g1, e1⟩ | ⟨g1, ⟨g3, e1⟩ | ⟨g3, e1⟩ | ⟨g3, e1⟩ | ⟨g3, e1⟩⟩ <;> rcases sCmp_cases y x with ⟨g2, e2⟩ | ⟨g2, ⟨g4, e2⟩ | ⟨g4, e2⟩ | ⟨g4, e2⟩ | ⟨g4, e2⟩⟩ <;> (try omega) <;> have p1 := congrArg Prod.fst e1 <;> have q1 := congrArg Prod.snd e1 <;> have p2 := congrArg Prod.fst e2 <;> have q2 := congrArg Prod.snd e2 <;> simp only at p1 q1 p2 q2 <;> clear e1 e2 <;> (try simp only [q1, q2, p1, p2, reduceCtorEq, not_true_eq_false, not_false_eq_true] at *)
  all_goals try omega
  all_goals
    have m1 : (x < y → (if x < y then y else x) = y) ∧ (¬ x < y → (if x < y then y else x) = x) := ⟨fun h => if_pos h, fun h => if_neg h⟩
    have m2 : (y < x → (if y < x then y else x) = y) ∧ (¬ y < x → (if y < x then y else x) = x) := ⟨fun h => if_pos h, fun h => if_neg h⟩
    have w1 : IntKind.i64.wrap ((if x < y then y else x) - if y < x then y else x) = (if x < y then y else x) - if y < x then y else x := wrap64 (by omega) (by omega)
  all_goals try omega
  all_goals
    rcases sAdd_cases x z with ⟨g5, e5⟩ | ⟨g5, e5⟩ <;> rcases sAdd_cases y z with ⟨g6, e6⟩ | ⟨g6, e6⟩ <;> (try omega) <;> have p5 := congrArg Prod.fst e5 <;> have q5 := congrArg Prod.snd e5 <;> have p6 := congrArg Prod.fst e6 <;> have q6 := congrArg Prod.snd e6 <;> simp only at p5 q5 p6 q6 <;> clear e5 e6 <;> try omega
  all_goals
    simp only [p5, p6] at *
    rcases sCmp_cases ((x + z) % 4294967296) ((y + z) % 4294967296) with ⟨g7, e7⟩ | ⟨g7, ⟨g8, e7⟩ | ⟨g8, e7⟩ | ⟨g8, e7⟩ | ⟨g8, e7⟩⟩ <;> have p7 := congrArg Prod.fst e7 <;> have q7 := congrArg Prod.snd e7 <;> simp only at p7 q7 <;> clear e7 <;> first | omega | (simp only [q7, reduceCtorEq] at *; done) | (simp only [q7, reduceCtorEq] at *; omega)
end Go.Mir
