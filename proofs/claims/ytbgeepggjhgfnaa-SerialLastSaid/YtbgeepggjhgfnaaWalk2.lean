/- What functions of the program answer, read off. -/
import Derived.Test.YtbgeepggjhgfnaaWalk1
import Derived.KernelRfl
set_option linter.unusedSimpArgs false
set_option linter.unusedVariables false
namespace Go.Mir
open Go Go.RowKit Go.Proofs
attribute [local congr] Ev.congr EvC.congr EvW.congr Br.congr Ms.congr
set_option maxRecDepth 100000
noncomputable def FTrue := mkF (fun s : Unit => []) (fun s => True) (fun s => Res.flat (.bo true))
theorem FTrue_eq : FTrue [] = some (Res.flat (.bo true)) := mkF_eq (s := ()) (fun s s' h => by simp only [List.cons.injEq, D.it.injEq, D.st.injEq, D.bo.injEq, true_and, and_true] at h; simp only [h]) trivial
theorem FMax_two {a b : Int} : FMax [.vec 1 false [.it .i64 a, .it .i64 b]] = some (Res.flat (.tup [.it .i64 (sMax [a, b]).1, .bo (sMax [a, b]).2])) := FMax_eq (o := some false) (zs := [a, b]) (by simp)
theorem FMax_three {a b c : Int} : FMax [.vec 1 false [.it .i64 a, .it .i64 b, .it .i64 c]] = some (Res.flat (.tup [.it .i64 (sMax [a, b, c]).1, .bo (sMax [a, b, c]).2])) := FMax_eq (o := some false) (zs := [a, b, c]) (by simp)
theorem v1 : sAdd 4294967295 2 = (1, 0) := by decide
theorem v2 : sCmp 4294967295 0 = (-1, true) := by decide
theorem v3 : sCmp 0 2147483648 = (0, false) := by decide
theorem v4 : sMax [4294967295, 1, 0] = (1, true) := by decide
theorem v5 : sMax [0, 2147483648] = (0, false) := by decide
theorem v6 : sAfter 0 4294967295 = true := by decide
theorem v7 : sAfter 5 5 = false := by decide
theorem v8 : inR 4294967296 = false := by decide

theorem el30 : elemT Try.prog 30 = some 3 := by kernel_rfl
theorem ze3 : zeroE Try.prog 3 1 = some (.it .i64 0) := by kernel_rfl
set_option maxHeartbeats 4000000 in
theorem runAwake (cx : Cx) (hP : cx.P = Try.prog) (hbs : cx.bs = 0) (h9 : cx.orc 9 = some FAdd) (h14 : cx.orc 14 = some FCmp) (h18 : cx.orc 18 = some FMax) (h16 : cx.orc 16 = some FAfter) (h11 : cx.orc 11 = some FValid)   : pureRun cx Try.f13 [] false [] = some (Res.flat (.bo true)) := by
  have c9 := fun H nid l => (show callD cx 9 l H nid = _ from call_orc h9)
  have c14 := fun H nid l => (show callD cx 14 l H nid = _ from call_orc h14)
  have c18 := fun H nid l => (show callD cx 18 l H nid = _ from call_orc h18)
  have c16 := fun H nid l => (show callD cx 16 l H nid = _ from call_orc h16)
  have c11 := fun H nid l => (show callD cx 11 l H nid = _ from call_orc h11)
  refine pure_flat (rs := [.tmp 0]) rfl hbs rfl ?_
  repeat' first
    | (refine br_mk (fun h => ?_) (fun h => ?_) <;> (try simp only [Bool.not_eq_true, Bool.not_eq_false, Classical.not_not] at h))
    | (refine ms_mk ?_ ?_)
    | simp only [↓cD, cU, binD, intOp, unD, minD_two, builtinD, idx, reduceCtorEq, ↓reduceIte, ofV, ofC, argEnv, Nat.reduceEqDiff, not_false_eq_true, flatL, flatD, Bool.and_self,
      decide_true, decide_false, not_true_eq_false, false_and, false_implies, Option.map_some, Option.bind_some, Option.bind_none, Option.map_none, List.getElem?_toArray, List.toList_toArray, decide_eq_true_eq, decide_eq_false_iff_not, ge_iff_le, gt_iff_lt, and_true, true_and, implies_true, forall_const, true_or, or_true,
      immL, immD, Bool.true_and, Bool.and_true, Bool.false_and, Bool.and_false, Bool.true_or, Bool.or_true, Bool.false_or, Bool.or_false, Res.flat, ren, renL, List.length_nil, Nat.add_zero, List.map_cons, List.map_nil, List.nil_append, List.append_nil, List.cons_append, List.getElem?_cons_zero, List.getElem?_cons_succ, Bool.not_eq_true', Bool.not_true, Bool.not_false, Bool.not_eq_true, Bool.not_eq_false', Bool.not_eq_false, Bool.true_eq_false, Bool.false_eq_true, if_true, if_false, Int.reduceEq, Int.reduceLT, Int.reduceLE, Int.reduceNe, ite_self, or_false, false_or, or_self, eq_self, List.zip_cons_cons, List.zip_nil_left, deref, ldD, List.head?_cons, convD, shiftOp, strOp, bitsOp, D.cells, c9, c14, c18, c16, c11, callX_imm, callX_nil, FAdd_eq, FCmp_eq, FMax_eq, FAfter_eq, FValid_eq, Try.underlying3, Try.underlying22, v1, v2, v3, v4, v5, v6, v7, v8, el30, ze3, sz3, Nat.reduceMul, Nat.reduceLeDiff, Nat.zero_lt_succ, fillE, cellsOf, List.length_cons, List.length_replicate, List.replicate, Nat.reduceAdd, List.set_cons_zero, List.set_cons_succ, callX_bor, borL, bor_row, List.drop_zero, List.take_succ_cons, List.take_zero, FMax_two, FMax_three, upd_atB, upd_offB, hP, *]
  all_goals first | rfl | simp
set_option maxHeartbeats 4000000 in
theorem runAdds (cx : Cx) (hP : cx.P = Try.prog) (hbs : cx.bs = 0) (h9 : cx.orc 9 = some FAdd) (h10 : cx.orc 10 = some FAdd) (h11 : cx.orc 11 = some FValid) (h12 : cx.orc 12 = some FValid) (h13 : cx.orc 13 = some FTrue) (x y : Int)  : pureRun cx Try.f3 [] false [.it .i64 x, .it .i64 y] = some (Res.flat (.bo true)) := by
  have c9 := fun H nid l => (show callD cx 9 l H nid = _ from call_orc h9)
  have c10 := fun H nid l => (show callD cx 10 l H nid = _ from call_orc h10)
  have c11 := fun H nid l => (show callD cx 11 l H nid = _ from call_orc h11)
  have c12 := fun H nid l => (show callD cx 12 l H nid = _ from call_orc h12)
  have c13 := fun H nid l => (show callD cx 13 l H nid = _ from call_orc h13)
  refine pure_flat (rs := [.tmp 4]) rfl hbs rfl ?_
  repeat' first
    | (refine br_mk (fun h => ?_) (fun h => ?_) <;> (try simp only [Bool.not_eq_true, Bool.not_eq_false, Classical.not_not] at h))
    | (refine ms_mk ?_ ?_)
    | simp only [↓cD, cU, binD, intOp, unD, minD_two, builtinD, idx, reduceCtorEq, ↓reduceIte, ofV, ofC, argEnv, Nat.reduceEqDiff, not_false_eq_true, flatL, flatD, Bool.and_self,
      decide_true, decide_false, not_true_eq_false, false_and, false_implies, Option.map_some, Option.bind_some, Option.bind_none, Option.map_none, List.getElem?_toArray, List.toList_toArray, decide_eq_true_eq, decide_eq_false_iff_not, ge_iff_le, gt_iff_lt, and_true, true_and, implies_true, forall_const, true_or, or_true,
      immL, immD, Bool.true_and, Bool.and_true, Bool.false_and, Bool.and_false, Bool.true_or, Bool.or_true, Bool.false_or, Bool.or_false, Res.flat, ren, renL, List.length_nil, Nat.add_zero, List.map_cons, List.map_nil, List.nil_append, List.append_nil, List.cons_append, List.getElem?_cons_zero, List.getElem?_cons_succ, Bool.not_eq_true', Bool.not_true, Bool.not_false, Bool.not_eq_true, Bool.not_eq_false', Bool.not_eq_false, Bool.true_eq_false, Bool.false_eq_true, if_true, if_false, Int.reduceEq, Int.reduceLT, Int.reduceLE, Int.reduceNe, ite_self, or_false, false_or, or_self, eq_self, List.zip_cons_cons, List.zip_nil_left, deref, ldD, List.head?_cons, convD, shiftOp, strOp, bitsOp, D.cells, c9, c10, c11, c12, c13, callX_imm, callX_nil, FAdd_eq, FAdd_eq, FValid_eq, FValid_eq, FTrue_eq, Try.underlying3, Try.underlying22, Try.underlying4, Try.underlying36, Try.underlying34, eqRes, eqD, Bool.beq_eq_decide_eq, decide_true, beq_self_eq_true, hP, *]
  all_goals first | rfl | simp
set_option maxHeartbeats 4000000 in
theorem runCompares (cx : Cx) (hP : cx.P = Try.prog) (hbs : cx.bs = 0) (h14 : cx.orc 14 = some FCmp) (h15 : cx.orc 15 = some FCmp) (h16 : cx.orc 16 = some FAfter) (h17 : cx.orc 17 = some FAfter) (h13 : cx.orc 13 = some FTrue) (x y : Int)  : pureRun cx Try.f4 [] false [.it .i64 x, .it .i64 y] = some (Res.flat (.bo true)) := by
  have c14 := fun H nid l => (show callD cx 14 l H nid = _ from call_orc h14)
  have c15 := fun H nid l => (show callD cx 15 l H nid = _ from call_orc h15)
  have c16 := fun H nid l => (show callD cx 16 l H nid = _ from call_orc h16)
  have c17 := fun H nid l => (show callD cx 17 l H nid = _ from call_orc h17)
  have c13 := fun H nid l => (show callD cx 13 l H nid = _ from call_orc h13)
  refine pure_flat (rs := [.tmp 4]) rfl hbs rfl ?_
  repeat' first
    | (refine br_mk (fun h => ?_) (fun h => ?_) <;> (try simp only [Bool.not_eq_true, Bool.not_eq_false, Classical.not_not] at h))
    | (refine ms_mk ?_ ?_)
    | simp only [↓cD, cU, binD, intOp, unD, minD_two, builtinD, idx, reduceCtorEq, ↓reduceIte, ofV, ofC, argEnv, Nat.reduceEqDiff, not_false_eq_true, flatL, flatD, Bool.and_self,
      decide_true, decide_false, not_true_eq_false, false_and, false_implies, Option.map_some, Option.bind_some, Option.bind_none, Option.map_none, List.getElem?_toArray, List.toList_toArray, decide_eq_true_eq, decide_eq_false_iff_not, ge_iff_le, gt_iff_lt, and_true, true_and, implies_true, forall_const, true_or, or_true,
      immL, immD, Bool.true_and, Bool.and_true, Bool.false_and, Bool.and_false, Bool.true_or, Bool.or_true, Bool.false_or, Bool.or_false, Res.flat, ren, renL, List.length_nil, Nat.add_zero, List.map_cons, List.map_nil, List.nil_append, List.append_nil, List.cons_append, List.getElem?_cons_zero, List.getElem?_cons_succ, Bool.not_eq_true', Bool.not_true, Bool.not_false, Bool.not_eq_true, Bool.not_eq_false', Bool.not_eq_false, Bool.true_eq_false, Bool.false_eq_true, if_true, if_false, Int.reduceEq, Int.reduceLT, Int.reduceLE, Int.reduceNe, ite_self, or_false, false_or, or_self, eq_self, List.zip_cons_cons, List.zip_nil_left, deref, ldD, List.head?_cons, convD, shiftOp, strOp, bitsOp, D.cells, c14, c15, c16, c17, c13, callX_imm, callX_nil, FCmp_eq, FCmp_eq, FAfter_eq, FAfter_eq, FTrue_eq, Try.underlying3, Try.underlying22, Try.underlying4, Try.underlying36, Try.underlying34, eqRes, eqD, Bool.beq_eq_decide_eq, decide_true, beq_self_eq_true, hP, *]
  all_goals first | rfl | simp
set_option maxHeartbeats 4000000 in
theorem runMaxima (cx : Cx) (hP : cx.P = Try.prog) (hbs : cx.bs = 0) (h18 : cx.orc 18 = some FMax) (h19 : cx.orc 19 = some FMax) (h13 : cx.orc 13 = some FTrue) (o : Option Bool) (zs : List Int) (hl : Sm zs) : pureRun cx Try.f5 [] false [iv o zs] = some (Res.flat (.bo true)) := by
  have c18 := fun H nid l => (show callD cx 18 l H nid = _ from call_orc h18)
  have c19 := fun H nid l => (show callD cx 19 l H nid = _ from call_orc h19)
  have c13 := fun H nid l => (show callD cx 13 l H nid = _ from call_orc h13)
  have hm : Sm (zs.take (if (60 : Int) < zs.length then 60 else (zs.length : Int)).toNat) := by have := List.length_take_le (if (60 : Int) < zs.length then 60 else (zs.length : Int)).toNat zs; simp only [Sm] at hl ⊢; have h2 : (zs.take (if (60 : Int) < zs.length then 60 else (zs.length : Int)).toNat).length ≤ zs.length := List.length_take_le' _ _; omega
  obtain ⟨o', ho⟩ : ∃ o', ∀ H, sliceD Try.prog H 30 (iv o zs) none (some (.it .i64 (if (60 : Int) < zs.length then 60 else (zs.length : Int)))) none = some (iv o' (zs.take (if (60 : Int) < zs.length then 60 else (zs.length : Int)).toNat)) := slice_to Try.underlying30 sz3 (by split <;> omega) (by split <;> omega)
  refine pure_flat (rs := [.tmp 2]) rfl hbs rfl ?_
  repeat' first
    | (refine br_mk (fun h => ?_) (fun h => ?_) <;> (try simp only [Bool.not_eq_true, Bool.not_eq_false, Classical.not_not] at h))
    | (refine ms_mk ?_ ?_)
    | simp only [↓cD, cU, binD, intOp, unD, minD_two, builtinD, idx, reduceCtorEq, ↓reduceIte, ofV, ofC, argEnv, Nat.reduceEqDiff, not_false_eq_true, flatL, flatD, Bool.and_self,
      decide_true, decide_false, not_true_eq_false, false_and, false_implies, Option.map_some, Option.bind_some, Option.bind_none, Option.map_none, List.getElem?_toArray, List.toList_toArray, decide_eq_true_eq, decide_eq_false_iff_not, ge_iff_le, gt_iff_lt, and_true, true_and, implies_true, forall_const, true_or, or_true,
      immL, immD, Bool.true_and, Bool.and_true, Bool.false_and, Bool.and_false, Bool.true_or, Bool.or_true, Bool.false_or, Bool.or_false, Res.flat, ren, renL, List.length_nil, Nat.add_zero, List.map_cons, List.map_nil, List.nil_append, List.append_nil, List.cons_append, List.getElem?_cons_zero, List.getElem?_cons_succ, Bool.not_eq_true', Bool.not_true, Bool.not_false, Bool.not_eq_true, Bool.not_eq_false', Bool.not_eq_false, Bool.true_eq_false, Bool.false_eq_true, if_true, if_false, Int.reduceEq, Int.reduceLT, Int.reduceLE, Int.reduceNe, ite_self, or_false, false_or, or_self, eq_self, List.zip_cons_cons, List.zip_nil_left, deref, ldD, List.head?_cons, convD, shiftOp, strOp, bitsOp, D.cells, c18, c19, c13, callX_imm, callX_nil, FMax_eq, FMax_eq, FTrue_eq, Try.underlying3, Try.underlying22, Try.underlying4, Try.underlying36, Try.underlying34, eqRes, eqD, Bool.beq_eq_decide_eq, decide_true, beq_self_eq_true, len_gvec Try.underlying30, ho, hP, *]
  all_goals first | rfl | simp
end Go.Mir
