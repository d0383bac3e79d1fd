/- What functions of the program answer, read off. -/
import Derived.Test.YtfnjjmdgjdpieaaWalk4
import Derived.KernelRfl
set_option linter.unusedSimpArgs false
set_option linter.unusedVariables false
namespace Go.Mir
open Go Go.RowKit Go.Proofs
attribute [local congr] Ev.congr EvC.congr EvW.congr Br.congr Ms.congr
set_option maxRecDepth 100000
def inR (x : Int) : Bool := decide (0 ≤ x ∧ x < 4294967296)
theorem inR_true {x : Int} : inR x = true ↔ 0 ≤ x ∧ x < 4294967296 := by simp [inR]
theorem inR_false {x : Int} : inR x = false ↔ ¬ (0 ≤ x ∧ x < 4294967296) := by simp [inR]
def sCmp (x y : Int) : Int × Bool := if inR x = false ∨ inR y = false then (0, false) else
  if (y - x) % 4294967296 = 0 then (0, true) else if (y - x) % 4294967296 < 2147483648 then (-1, true) else if 2147483648 < (y - x) % 4294967296 then (1, true) else (0, false)
def sAfter (x y : Int) : Bool := (sCmp x y).2 && decide ((sCmp x y).1 = 1)

noncomputable def FSValid := mkF (fun s : Int => [.it .i64 s]) (fun s => True) (fun s => Res.flat (.bo (inR s)))
theorem FSValid_eq {x : Int} : FSValid [.it .i64 x] = some (Res.flat (.bo (inR x))) := mkF_eq (s := (x)) (fun s s' h => by simp only [List.cons.injEq, D.it.injEq, D.st.injEq, D.bo.injEq, true_and, and_true, adr_iff, dat_iff, rec_iff, zone_iff, delta_iff, hist_iff, recs_iff, deltas_iff, strs_iff, ints_iff] at h; simp only [h]) trivial
noncomputable def FSCmp := mkF (fun s : Int × Int => [.it .i64 s.1, .it .i64 s.2]) (fun s => True) (fun s => Res.flat (.tup [.it .i64 (sCmp s.1 s.2).1, .bo (sCmp s.1 s.2).2]))
theorem FSCmp_eq {x : Int} {y : Int} : FSCmp [.it .i64 x, .it .i64 y] = some (Res.flat (.tup [.it .i64 (sCmp x y).1, .bo (sCmp x y).2])) := mkF_eq (s := (x, y)) (fun s s' h => by simp only [List.cons.injEq, D.it.injEq, D.st.injEq, D.bo.injEq, true_and, and_true, adr_iff, dat_iff, rec_iff, zone_iff, delta_iff, hist_iff, recs_iff, deltas_iff, strs_iff, ints_iff] at h; simp only [h]) trivial
noncomputable def FSAfter := mkF (fun s : Int × Int => [.it .i64 s.1, .it .i64 s.2]) (fun s => True) (fun s => Res.flat (.bo (sAfter s.1 s.2)))
theorem FSAfter_eq {x : Int} {y : Int} : FSAfter [.it .i64 x, .it .i64 y] = some (Res.flat (.bo (sAfter x y))) := mkF_eq (s := (x, y)) (fun s s' h => by simp only [List.cons.injEq, D.it.injEq, D.st.injEq, D.bo.injEq, true_and, and_true, adr_iff, dat_iff, rec_iff, zone_iff, delta_iff, hist_iff, recs_iff, deltas_iff, strs_iff, ints_iff] at h; simp only [h]) trivial
set_option maxHeartbeats 4000000 in
theorem runSValid (cx : Cx) (hP : cx.P = Try.prog) (hbs : cx.bs = 0) (x : Int)  : pureRun cx Try.f47 [] false [.it .i64 x] = some (Res.flat (.bo (inR x))) := by
  refine pure_flat (rs := [.tmp 2]) rfl hbs rfl ?_
  repeat' first
    | (refine br_mk (fun h => ?_) (fun h => ?_) <;> (try simp only [Bool.not_eq_true, Bool.not_eq_false, Classical.not_not] at h))
    | (refine ms_mk ?_ ?_)
    | simp only [↓cD, cU, cB, intOp, unD, minD_two, builtinD, idx, reduceCtorEq, ↓reduceIte, ofV, ofC, argEnv, Nat.reduceEqDiff, not_false_eq_true, flatL, cG, Bool.and_self,
      decide_true, decide_false, not_true_eq_false, false_and, false_implies, Option.map_some, Option.bind_some, Option.bind_none, Option.map_none, List.getElem?_toArray, List.toList_toArray, decide_eq_true_eq, decide_eq_false_iff_not, ge_iff_le, gt_iff_lt, and_true, true_and, implies_true, forall_const, true_or, or_true,
      immL, immD, Bool.true_and, Bool.and_true, Bool.false_and, Bool.and_false, Bool.true_or, Bool.or_true, Bool.false_or, Bool.or_false, Res.flat, ren, renL, List.length_nil, Nat.add_zero, List.map_cons, List.map_nil, List.nil_append, List.append_nil, List.cons_append, List.getElem?_cons_zero, List.getElem?_cons_succ, Bool.not_eq_true', Bool.not_true, Bool.not_false, Bool.not_eq_true, Bool.not_eq_false', Bool.not_eq_false, Bool.true_eq_false, Bool.false_eq_true, if_true, if_false, Int.reduceEq, Int.reduceLT, Int.reduceLE, Int.reduceNe, ite_self, or_false, false_or, or_self, eq_self, List.zip_cons_cons, List.zip_nil_left, deref, ldD, List.head?_cons, convD, shiftOp, strOp, bitsOp, cC, ↓neq37, ↓eql37, ↓neq39, ↓eql39, ↓neq41, ↓eql41, cV, cT, cF, cW, borT, borM, bor_agg, Res.via, List.size_toArray, List.isEmpty_cons, put_ap, putAll_one, elems_own, refsB, List.isEmpty_nil, Nat.reduceLT, Nat.reduceSub, Nat.reduceLeDiff, Nat.reduceMul, Nat.reduceAdd, Int.toNat_natCast, Int.reduceToNat, appK, nilRow, callX_bor, borL, bor_row, bor_one, take_map_len, List.drop_zero, map_snoc, map_app, fillE, cO, List.length_cons, List.length_replicate, List.length_append, List.length_map, List.replicate, List.set_cons_zero, List.set_cons_succ, List.take_zero, List.take_succ_cons, List.drop_succ_cons, Nat.zero_lt_succ, Option.isSome_some, partD, ofHp, ixOf, inR, hP, *]
set_option maxHeartbeats 4000000 in
theorem runSCmp (cx : Cx) (hP : cx.P = Try.prog) (hbs : cx.bs = 0) (h47 : cx.orc 47 = some FSValid) (x y : Int)  : pureRun cx Try.f53 [] false [.it .i64 x, .it .i64 y] = some (Res.flat (.tup [.it .i64 (sCmp x y).1, .bo (sCmp x y).2])) := by
  have c47 := fun H nid l => (show callD cx 47 l H nid = _ from call_orc h47)
  refine pure_flat (rs := [.tmp 4, .tmp 5]) rfl hbs rfl ?_
  repeat' first
    | (refine br_mk (fun h => ?_) (fun h => ?_) <;> (try simp only [Bool.not_eq_true, Bool.not_eq_false, Classical.not_not] at h))
    | (refine ms_mk ?_ ?_)
    | simp only [↓cD, cU, cB, intOp, unD, minD_two, builtinD, idx, reduceCtorEq, ↓reduceIte, ofV, ofC, argEnv, Nat.reduceEqDiff, not_false_eq_true, flatL, cG, Bool.and_self,
      decide_true, decide_false, not_true_eq_false, false_and, false_implies, Option.map_some, Option.bind_some, Option.bind_none, Option.map_none, List.getElem?_toArray, List.toList_toArray, decide_eq_true_eq, decide_eq_false_iff_not, ge_iff_le, gt_iff_lt, and_true, true_and, implies_true, forall_const, true_or, or_true,
      immL, immD, Bool.true_and, Bool.and_true, Bool.false_and, Bool.and_false, Bool.true_or, Bool.or_true, Bool.false_or, Bool.or_false, Res.flat, ren, renL, List.length_nil, Nat.add_zero, List.map_cons, List.map_nil, List.nil_append, List.append_nil, List.cons_append, List.getElem?_cons_zero, List.getElem?_cons_succ, Bool.not_eq_true', Bool.not_true, Bool.not_false, Bool.not_eq_true, Bool.not_eq_false', Bool.not_eq_false, Bool.true_eq_false, Bool.false_eq_true, if_true, if_false, Int.reduceEq, Int.reduceLT, Int.reduceLE, Int.reduceNe, ite_self, or_false, false_or, or_self, eq_self, List.zip_cons_cons, List.zip_nil_left, deref, ldD, List.head?_cons, convD, shiftOp, strOp, bitsOp, cC, c47, callX_imm, callX_nil, FSValid_eq, ↓neq37, ↓eql37, ↓neq39, ↓eql39, ↓neq41, ↓eql41, cV, cT, cF, cW, borT, borM, bor_agg, Res.via, List.size_toArray, List.isEmpty_cons, put_ap, putAll_one, elems_own, refsB, List.isEmpty_nil, Nat.reduceLT, Nat.reduceSub, Nat.reduceLeDiff, Nat.reduceMul, Nat.reduceAdd, Int.toNat_natCast, Int.reduceToNat, appK, nilRow, callX_bor, borL, bor_row, bor_one, take_map_len, List.drop_zero, map_snoc, map_app, fillE, cO, List.length_cons, List.length_replicate, List.length_append, List.length_map, List.replicate, List.set_cons_zero, List.set_cons_succ, List.take_zero, List.take_succ_cons, List.drop_succ_cons, Nat.zero_lt_succ, Option.isSome_some, partD, ofHp, ixOf, sCmp, hP, *]
  all_goals
    simp only [inR_true, inR_false] at *
    have e : (IntKind.i64.wrap (IntKind.i64.wrap (y - x) + 4294967296)).tmod 4294967296 = (y - x) % 4294967296 := by
      rw [wrap64 (n := y - x) (by omega) (by omega), wrap64 (by omega) (by omega), Int.tmod_eq_emod_of_nonneg (by omega)]
      omega
    simp only [e] at *
    repeat' split
    all_goals first | rfl | omega
set_option maxHeartbeats 4000000 in
theorem runSAfter (cx : Cx) (hP : cx.P = Try.prog) (hbs : cx.bs = 0) (h53 : cx.orc 53 = some FSCmp) (x y : Int)  : pureRun cx Try.f29 [] false [.it .i64 x, .it .i64 y] = some (Res.flat (.bo (sAfter x y))) := by
  have c53 := fun H nid l => (show callD cx 53 l H nid = _ from call_orc h53)
  refine pure_flat (rs := [.tmp 4]) rfl hbs rfl ?_
  repeat' first
    | (refine br_mk (fun h => ?_) (fun h => ?_) <;> (try simp only [Bool.not_eq_true, Bool.not_eq_false, Classical.not_not] at h))
    | (refine ms_mk ?_ ?_)
    | simp only [↓cD, cU, cB, intOp, unD, minD_two, builtinD, idx, reduceCtorEq, ↓reduceIte, ofV, ofC, argEnv, Nat.reduceEqDiff, not_false_eq_true, flatL, cG, Bool.and_self,
      decide_true, decide_false, not_true_eq_false, false_and, false_implies, Option.map_some, Option.bind_some, Option.bind_none, Option.map_none, List.getElem?_toArray, List.toList_toArray, decide_eq_true_eq, decide_eq_false_iff_not, ge_iff_le, gt_iff_lt, and_true, true_and, implies_true, forall_const, true_or, or_true,
      immL, immD, Bool.true_and, Bool.and_true, Bool.false_and, Bool.and_false, Bool.true_or, Bool.or_true, Bool.false_or, Bool.or_false, Res.flat, ren, renL, List.length_nil, Nat.add_zero, List.map_cons, List.map_nil, List.nil_append, List.append_nil, List.cons_append, List.getElem?_cons_zero, List.getElem?_cons_succ, Bool.not_eq_true', Bool.not_true, Bool.not_false, Bool.not_eq_true, Bool.not_eq_false', Bool.not_eq_false, Bool.true_eq_false, Bool.false_eq_true, if_true, if_false, Int.reduceEq, Int.reduceLT, Int.reduceLE, Int.reduceNe, ite_self, or_false, false_or, or_self, eq_self, List.zip_cons_cons, List.zip_nil_left, deref, ldD, List.head?_cons, convD, shiftOp, strOp, bitsOp, cC, c53, callX_imm, callX_nil, FSCmp_eq, ↓neq37, ↓eql37, ↓neq39, ↓eql39, ↓neq41, ↓eql41, cV, cT, cF, cW, borT, borM, bor_agg, Res.via, List.size_toArray, List.isEmpty_cons, put_ap, putAll_one, elems_own, refsB, List.isEmpty_nil, Nat.reduceLT, Nat.reduceSub, Nat.reduceLeDiff, Nat.reduceMul, Nat.reduceAdd, Int.toNat_natCast, Int.reduceToNat, appK, nilRow, callX_bor, borL, bor_row, bor_one, take_map_len, List.drop_zero, map_snoc, map_app, fillE, cO, List.length_cons, List.length_replicate, List.length_append, List.length_map, List.replicate, List.set_cons_zero, List.set_cons_succ, List.take_zero, List.take_succ_cons, List.drop_succ_cons, Nat.zero_lt_succ, Option.isSome_some, partD, ofHp, ixOf, sAfter, hP, *]
  all_goals first | done | rfl | (simp [sAfter, *]; done)
set_option maxHeartbeats 4000000 in
theorem runSValidP (cx : Cx) (hP : cx.P = Try.prog) (hbs : cx.bs = 0) (x : Int)  : pureRun cx Try.f57 [] false [.it .i64 x] = some (Res.flat (.bo (inR x))) := by
  refine pure_flat (rs := [.tmp 2]) rfl hbs rfl ?_
  repeat' first
    | (refine br_mk (fun h => ?_) (fun h => ?_) <;> (try simp only [Bool.not_eq_true, Bool.not_eq_false, Classical.not_not] at h))
    | (refine ms_mk ?_ ?_)
    | simp only [↓cD, cU, cB, intOp, unD, minD_two, builtinD, idx, reduceCtorEq, ↓reduceIte, ofV, ofC, argEnv, Nat.reduceEqDiff, not_false_eq_true, flatL, cG, Bool.and_self,
      decide_true, decide_false, not_true_eq_false, false_and, false_implies, Option.map_some, Option.bind_some, Option.bind_none, Option.map_none, List.getElem?_toArray, List.toList_toArray, decide_eq_true_eq, decide_eq_false_iff_not, ge_iff_le, gt_iff_lt, and_true, true_and, implies_true, forall_const, true_or, or_true,
      immL, immD, Bool.true_and, Bool.and_true, Bool.false_and, Bool.and_false, Bool.true_or, Bool.or_true, Bool.false_or, Bool.or_false, Res.flat, ren, renL, List.length_nil, Nat.add_zero, List.map_cons, List.map_nil, List.nil_append, List.append_nil, List.cons_append, List.getElem?_cons_zero, List.getElem?_cons_succ, Bool.not_eq_true', Bool.not_true, Bool.not_false, Bool.not_eq_true, Bool.not_eq_false', Bool.not_eq_false, Bool.true_eq_false, Bool.false_eq_true, if_true, if_false, Int.reduceEq, Int.reduceLT, Int.reduceLE, Int.reduceNe, ite_self, or_false, false_or, or_self, eq_self, List.zip_cons_cons, List.zip_nil_left, deref, ldD, List.head?_cons, convD, shiftOp, strOp, bitsOp, cC, ↓neq37, ↓eql37, ↓neq39, ↓eql39, ↓neq41, ↓eql41, cV, cT, cF, cW, borT, borM, bor_agg, Res.via, List.size_toArray, List.isEmpty_cons, put_ap, putAll_one, elems_own, refsB, List.isEmpty_nil, Nat.reduceLT, Nat.reduceSub, Nat.reduceLeDiff, Nat.reduceMul, Nat.reduceAdd, Int.toNat_natCast, Int.reduceToNat, appK, nilRow, callX_bor, borL, bor_row, bor_one, take_map_len, List.drop_zero, map_snoc, map_app, fillE, cO, List.length_cons, List.length_replicate, List.length_append, List.length_map, List.replicate, List.set_cons_zero, List.set_cons_succ, List.take_zero, List.take_succ_cons, List.drop_succ_cons, Nat.zero_lt_succ, Option.isSome_some, partD, ofHp, ixOf, inR, hP, *]
set_option maxHeartbeats 4000000 in
theorem runSCmpP (cx : Cx) (hP : cx.P = Try.prog) (hbs : cx.bs = 0) (h57 : cx.orc 57 = some FSValid) (x y : Int)  : pureRun cx Try.f34 [] false [.it .i64 x, .it .i64 y] = some (Res.flat (.tup [.it .i64 (sCmp x y).1, .bo (sCmp x y).2])) := by
  have c57 := fun H nid l => (show callD cx 57 l H nid = _ from call_orc h57)
  refine pure_flat (rs := [.tmp 4, .tmp 5]) rfl hbs rfl ?_
  repeat' first
    | (refine br_mk (fun h => ?_) (fun h => ?_) <;> (try simp only [Bool.not_eq_true, Bool.not_eq_false, Classical.not_not] at h))
    | (refine ms_mk ?_ ?_)
    | simp only [↓cD, cU, cB, intOp, unD, minD_two, builtinD, idx, reduceCtorEq, ↓reduceIte, ofV, ofC, argEnv, Nat.reduceEqDiff, not_false_eq_true, flatL, cG, Bool.and_self,
      decide_true, decide_false, not_true_eq_false, false_and, false_implies, Option.map_some, Option.bind_some, Option.bind_none, Option.map_none, List.getElem?_toArray, List.toList_toArray, decide_eq_true_eq, decide_eq_false_iff_not, ge_iff_le, gt_iff_lt, and_true, true_and, implies_true, forall_const, true_or, or_true,
      immL, immD, Bool.true_and, Bool.and_true, Bool.false_and, Bool.and_false, Bool.true_or, Bool.or_true, Bool.false_or, Bool.or_false, Res.flat, ren, renL, List.length_nil, Nat.add_zero, List.map_cons, List.map_nil, List.nil_append, List.append_nil, List.cons_append, List.getElem?_cons_zero, List.getElem?_cons_succ, Bool.not_eq_true', Bool.not_true, Bool.not_false, Bool.not_eq_true, Bool.not_eq_false', Bool.not_eq_false, Bool.true_eq_false, Bool.false_eq_true, if_true, if_false, Int.reduceEq, Int.reduceLT, Int.reduceLE, Int.reduceNe, ite_self, or_false, false_or, or_self, eq_self, List.zip_cons_cons, List.zip_nil_left, deref, ldD, List.head?_cons, convD, shiftOp, strOp, bitsOp, cC, c57, callX_imm, callX_nil, FSValid_eq, ↓neq37, ↓eql37, ↓neq39, ↓eql39, ↓neq41, ↓eql41, cV, cT, cF, cW, borT, borM, bor_agg, Res.via, List.size_toArray, List.isEmpty_cons, put_ap, putAll_one, elems_own, refsB, List.isEmpty_nil, Nat.reduceLT, Nat.reduceSub, Nat.reduceLeDiff, Nat.reduceMul, Nat.reduceAdd, Int.toNat_natCast, Int.reduceToNat, appK, nilRow, callX_bor, borL, bor_row, bor_one, take_map_len, List.drop_zero, map_snoc, map_app, fillE, cO, List.length_cons, List.length_replicate, List.length_append, List.length_map, List.replicate, List.set_cons_zero, List.set_cons_succ, List.take_zero, List.take_succ_cons, List.drop_succ_cons, Nat.zero_lt_succ, Option.isSome_some, partD, ofHp, ixOf, sCmp, hP, *]
  all_goals
    simp only [inR_true, inR_false] at *
    have e : IntKind.u32.wrap (IntKind.u32.wrap y - IntKind.u32.wrap x) = (y - x) % 4294967296 := by
      simp only [wrap32]; omega
    simp only [e] at *
    repeat' split
    all_goals first | rfl | omega
set_option maxHeartbeats 4000000 in
theorem runSAfterP (cx : Cx) (hP : cx.P = Try.prog) (hbs : cx.bs = 0) (h34 : cx.orc 34 = some FSCmp) (x y : Int)  : pureRun cx Try.f20 [] false [.it .i64 x, .it .i64 y] = some (Res.flat (.bo (sAfter x y))) := by
  have c34 := fun H nid l => (show callD cx 34 l H nid = _ from call_orc h34)
  refine pure_flat (rs := [.tmp 4]) rfl hbs rfl ?_
  repeat' first
    | (refine br_mk (fun h => ?_) (fun h => ?_) <;> (try simp only [Bool.not_eq_true, Bool.not_eq_false, Classical.not_not] at h))
    | (refine ms_mk ?_ ?_)
    | simp only [↓cD, cU, cB, intOp, unD, minD_two, builtinD, idx, reduceCtorEq, ↓reduceIte, ofV, ofC, argEnv, Nat.reduceEqDiff, not_false_eq_true, flatL, cG, Bool.and_self,
      decide_true, decide_false, not_true_eq_false, false_and, false_implies, Option.map_some, Option.bind_some, Option.bind_none, Option.map_none, List.getElem?_toArray, List.toList_toArray, decide_eq_true_eq, decide_eq_false_iff_not, ge_iff_le, gt_iff_lt, and_true, true_and, implies_true, forall_const, true_or, or_true,
      immL, immD, Bool.true_and, Bool.and_true, Bool.false_and, Bool.and_false, Bool.true_or, Bool.or_true, Bool.false_or, Bool.or_false, Res.flat, ren, renL, List.length_nil, Nat.add_zero, List.map_cons, List.map_nil, List.nil_append, List.append_nil, List.cons_append, List.getElem?_cons_zero, List.getElem?_cons_succ, Bool.not_eq_true', Bool.not_true, Bool.not_false, Bool.not_eq_true, Bool.not_eq_false', Bool.not_eq_false, Bool.true_eq_false, Bool.false_eq_true, if_true, if_false, Int.reduceEq, Int.reduceLT, Int.reduceLE, Int.reduceNe, ite_self, or_false, false_or, or_self, eq_self, List.zip_cons_cons, List.zip_nil_left, deref, ldD, List.head?_cons, convD, shiftOp, strOp, bitsOp, cC, c34, callX_imm, callX_nil, FSCmp_eq, ↓neq37, ↓eql37, ↓neq39, ↓eql39, ↓neq41, ↓eql41, cV, cT, cF, cW, borT, borM, bor_agg, Res.via, List.size_toArray, List.isEmpty_cons, put_ap, putAll_one, elems_own, refsB, List.isEmpty_nil, Nat.reduceLT, Nat.reduceSub, Nat.reduceLeDiff, Nat.reduceMul, Nat.reduceAdd, Int.toNat_natCast, Int.reduceToNat, appK, nilRow, callX_bor, borL, bor_row, bor_one, take_map_len, List.drop_zero, map_snoc, map_app, fillE, cO, List.length_cons, List.length_replicate, List.length_append, List.length_map, List.replicate, List.set_cons_zero, List.set_cons_succ, List.take_zero, List.take_succ_cons, List.drop_succ_cons, Nat.zero_lt_succ, Option.isSome_some, partD, ofHp, ixOf, sAfter, hP, *]
  all_goals first | done | rfl | (simp [sAfter, *]; done)
/-- The t-th bit of a set. -/
def bitS (n : Int) (t : Nat) : Int := IntKind.u64.wrap (BitVec.ofInt IntKind.u64.bits (n.fdiv (2 ^ (min t IntKind.u64.bits))) &&& BitVec.ofInt IntKind.u64.bits 1).toNat
def allFrom (n : Int) : Nat → Nat → Bool
  | _, 0 => true
  | t, k + 1 => if bitS n t = 1 then (if known t then allFrom n (t + 1) k else false) else allFrom n (t + 1) k
def allB (n : Int) : Bool := allFrom n 0 64
def validD (t : Int) (d : Dat) : Bool := if known t = false then false else if ¬ usedD t d = d then false else
  if t = 1 then vAdr d.adr && !d.adr.v6 else if t = 28 then d.adr.v6 else
  if t = 6 then hostB d.host && (hostB d.mail && (inR d.a && (inB d.b 2147483647 && (inB d.c 2147483647 && (inB d.d 2147483647 && inB d.e 2147483647))))) else
  if t = 15 then hostB d.host && inB d.a 65535 else if t = 16 then decide ((d.text.length : Int) ≤ 255) else
  if t = 33 then hostB d.host && (inB d.a 65535 && (inB d.b 65535 && inB d.c 65535)) else
  if t = 43 then inB d.a 65535 && (inB d.b 255 && (inB d.c 255 && textB d.text)) else
  if t = 46 then known d.a && (!decide (d.a = 46) && (inB d.b 127 && (inB d.c 2147483647 && (inB d.d 4294967295 && (inB d.e 4294967295 && (inB d.f 65535 && (hostB d.host && textB d.text))))))) else
  if t = 47 then vName d.host && (!decide (d.bits = 0) && allB d.bits) else
  if t = 48 then (decide (d.a = 256) || decide (d.a = 257)) && (decide (d.b = 3) && (inB d.c 255 && textB d.text)) else hostB d.host
def DSm (d : Dat) : Prop := Sm d.host ∧ Sm d.mail ∧ Sm d.text

noncomputable def FAll := mkF (fun s : Int => [.it .u64 s]) (fun s => True) (fun s => Res.flat (.bo (allB s)))
theorem FAll_eq {n1 : Int} : FAll [.it .u64 n1] = some (Res.flat (.bo (allB n1))) := mkF_eq (s := (n1)) (fun s s' h => by simp only [List.cons.injEq, D.it.injEq, D.st.injEq, D.bo.injEq, true_and, and_true, adr_iff, dat_iff, rec_iff, zone_iff, delta_iff, hist_iff, recs_iff, deltas_iff, strs_iff, ints_iff] at h; simp only [h]) trivial
set_option maxHeartbeats 4000000 in
theorem runAll (cx : Cx) (hP : cx.P = Try.prog) (hbs : cx.bs = 0) (h59 : cx.orc 59 = some FKnown) (hk2 : cx.kp 2 = some [0, 3]) (n1 : Int)  : pureRun cx Try.f78 [] false [.it .u64 n1] = some (Res.flat (.bo (allB n1))) := by
  have c59 := fun H nid l => (show callD cx 59 l H nid = _ from call_orc h59)
  have hw : ∀ k : Nat, (k : Int) < 64 → IntKind.i64.wrap ((k : Int) + 1) = ((k + 1 : Nat) : Int) := fun k h => by rw [wrap64 (by omega) (by omega)]; simp
  have hu : ∀ k : Nat, (k : Int) < 64 → IntKind.u64.wrap (k : Int) = (k : Int) := fun k h => by rw [wrapu64]; omega
  have hz : ∀ k : Nat, ((k : Int) < 0) = False := fun k => by simp
  refine pure_flat (rs := [.tmp 2]) rfl hbs rfl ?_
  repeat' first
    | (refine evX_loop_flat (σ := Nat) (fun s2 => [.it .u64 n1, .it .i64 s2]) (fun s2 => s2 ≤ 64 ∧ allFrom n1 s2 (64 - s2) = allB n1) (fun s2 => 64 - s2) [0, 3] hbs (by exact hk2) (fun s2 => by simp only [refsL, refs, refs_ivec, refs_gvec, refs_vecE, List.append_nil]) (fun s2 j2 => ?_) (s := 0) ?_ ?_)
    | (refine br_mk (fun h => ?_) (fun h => ?_) <;> (try simp only [Bool.not_eq_true, Bool.not_eq_false, Classical.not_not] at h))
    | (refine ms_mk ?_ ?_)
    | simp only [↓cD, cU, cB, intOp, unD, minD_two, builtinD, idx, reduceCtorEq, ↓reduceIte, ofV, ofC, argEnv, Nat.reduceEqDiff, not_false_eq_true, flatL, cG, Bool.and_self,
      decide_true, decide_false, not_true_eq_false, false_and, false_implies, Option.map_some, Option.bind_some, Option.bind_none, Option.map_none, List.getElem?_toArray, List.toList_toArray, decide_eq_true_eq, decide_eq_false_iff_not, ge_iff_le, gt_iff_lt, and_true, true_and, implies_true, forall_const, true_or, or_true,
      immL, immD, Bool.true_and, Bool.and_true, Bool.false_and, Bool.and_false, Bool.true_or, Bool.or_true, Bool.false_or, Bool.or_false, Res.flat, ren, renL, List.length_nil, Nat.add_zero, List.map_cons, List.map_nil, List.nil_append, List.append_nil, List.cons_append, List.getElem?_cons_zero, List.getElem?_cons_succ, Bool.not_eq_true', Bool.not_true, Bool.not_false, Bool.not_eq_true, Bool.not_eq_false', Bool.not_eq_false, Bool.true_eq_false, Bool.false_eq_true, if_true, if_false, Int.reduceEq, Int.reduceLT, Int.reduceLE, Int.reduceNe, ite_self, or_false, false_or, or_self, eq_self, List.zip_cons_cons, List.zip_nil_left, deref, ldD, List.head?_cons, convD, shiftOp, strOp, bitsOp, cC, c59, callX_imm, callX_nil, FKnown_eq, ↓neq37, ↓eql37, ↓neq39, ↓eql39, ↓neq41, ↓eql41, cV, cT, cF, cW, borT, borM, bor_agg, Res.via, List.size_toArray, List.isEmpty_cons, put_ap, putAll_one, elems_own, refsB, List.isEmpty_nil, Nat.reduceLT, Nat.reduceSub, Nat.reduceLeDiff, Nat.reduceMul, Nat.reduceAdd, Int.toNat_natCast, Int.reduceToNat, appK, nilRow, callX_bor, borL, bor_row, bor_one, take_map_len, List.drop_zero, map_snoc, map_app, fillE, cO, List.length_cons, List.length_replicate, List.length_append, List.length_map, List.replicate, List.set_cons_zero, List.set_cons_succ, List.take_zero, List.take_succ_cons, List.drop_succ_cons, Nat.zero_lt_succ, Option.isSome_some, partD, ofHp, ixOf, hw, hu, hz, hP, *]
  all_goals first
    | rfl
    | exact ⟨by omega, rfl⟩
    | (rw [show 64 - s2 = 0 by omega] at j2; simp only [allFrom] at j2; rw [← j2.2])
    | (refine ⟨_, rfl, ⟨by omega, ?_⟩, by omega⟩; rw [show 64 - s2 = (64 - (s2 + 1)) + 1 by omega] at j2; simp_all [allFrom, bitS]; done)
    | (rw [show 64 - s2 = (64 - (s2 + 1)) + 1 by omega] at j2; simp_all [allFrom, bitS]; done)
noncomputable def FVD := mkF (fun s : Int × Dat => [.it .i64 s.1, datE s.2]) (fun s => DSm s.2) (fun s => Res.flat (.bo (validD s.1 s.2)))
theorem FVD_eq {t1 : Int} {d1 : Dat} (hp : DSm d1) : FVD [.it .i64 t1, datE d1] = some (Res.flat (.bo (validD t1 d1))) := mkF_eq (s := (t1, d1)) (fun s s' h => by simp only [List.cons.injEq, D.it.injEq, D.st.injEq, D.bo.injEq, true_and, and_true, adr_iff, dat_iff, rec_iff, zone_iff, delta_iff, hist_iff, recs_iff, deltas_iff, strs_iff, ints_iff] at h; simp only [h]) hp
set_option maxHeartbeats 4000000 in
theorem runVD (cx : Cx) (hP : cx.P = Try.prog) (hbs : cx.bs = 0) (h59 : cx.orc 59 = some FKnown) (h73 : cx.orc 73 = some FUsed) (h74 : cx.orc 74 = some FVAdr) (h75 : cx.orc 75 = some FHost) (h47 : cx.orc 47 = some FSValid) (h76 : cx.orc 76 = some FIn) (h77 : cx.orc 77 = some FTextB) (h38 : cx.orc 38 = some FValid) (h78 : cx.orc 78 = some FAll) (r59 : cx.rd.contains 59 = true) (r73 : cx.rd.contains 73 = true) (r74 : cx.rd.contains 74 = true) (r75 : cx.rd.contains 75 = true) (r47 : cx.rd.contains 47 = true) (r76 : cx.rd.contains 76 = true) (r77 : cx.rd.contains 77 = true) (r38 : cx.rd.contains 38 = true) (r78 : cx.rd.contains 78 = true) (t1 : Int) (d1 : Dat) (hl : DSm d1) : pureRun cx Try.f60 [] false [.it .i64 t1, datE d1] = some (Res.flat (.bo (validD t1 d1))) := by
  have c59 := fun H nid l => (show callD cx 59 l H nid = _ from call_orc h59)
  have d59 := fun nx bef i env H dst ty pos after gd args ts => step_orc (cx := cx) (nx := nx) (bef := bef) (i := i) (env := env) (H := H) (dst := dst) (ty := ty) (pos := pos) (after := after) (gd := gd) (args := args) (ts := ts) r59 h59
  have c73 := fun H nid l => (show callD cx 73 l H nid = _ from call_orc h73)
  have d73 := fun nx bef i env H dst ty pos after gd args ts => step_orc (cx := cx) (nx := nx) (bef := bef) (i := i) (env := env) (H := H) (dst := dst) (ty := ty) (pos := pos) (after := after) (gd := gd) (args := args) (ts := ts) r73 h73
  have c74 := fun H nid l => (show callD cx 74 l H nid = _ from call_orc h74)
  have d74 := fun nx bef i env H dst ty pos after gd args ts => step_orc (cx := cx) (nx := nx) (bef := bef) (i := i) (env := env) (H := H) (dst := dst) (ty := ty) (pos := pos) (after := after) (gd := gd) (args := args) (ts := ts) r74 h74
  have c75 := fun H nid l => (show callD cx 75 l H nid = _ from call_orc h75)
  have d75 := fun nx bef i env H dst ty pos after gd args ts => step_orc (cx := cx) (nx := nx) (bef := bef) (i := i) (env := env) (H := H) (dst := dst) (ty := ty) (pos := pos) (after := after) (gd := gd) (args := args) (ts := ts) r75 h75
  have c47 := fun H nid l => (show callD cx 47 l H nid = _ from call_orc h47)
  have d47 := fun nx bef i env H dst ty pos after gd args ts => step_orc (cx := cx) (nx := nx) (bef := bef) (i := i) (env := env) (H := H) (dst := dst) (ty := ty) (pos := pos) (after := after) (gd := gd) (args := args) (ts := ts) r47 h47
  have c76 := fun H nid l => (show callD cx 76 l H nid = _ from call_orc h76)
  have d76 := fun nx bef i env H dst ty pos after gd args ts => step_orc (cx := cx) (nx := nx) (bef := bef) (i := i) (env := env) (H := H) (dst := dst) (ty := ty) (pos := pos) (after := after) (gd := gd) (args := args) (ts := ts) r76 h76
  have c77 := fun H nid l => (show callD cx 77 l H nid = _ from call_orc h77)
  have d77 := fun nx bef i env H dst ty pos after gd args ts => step_orc (cx := cx) (nx := nx) (bef := bef) (i := i) (env := env) (H := H) (dst := dst) (ty := ty) (pos := pos) (after := after) (gd := gd) (args := args) (ts := ts) r77 h77
  have c38 := fun H nid l => (show callD cx 38 l H nid = _ from call_orc h38)
  have d38 := fun nx bef i env H dst ty pos after gd args ts => step_orc (cx := cx) (nx := nx) (bef := bef) (i := i) (env := env) (H := H) (dst := dst) (ty := ty) (pos := pos) (after := after) (gd := gd) (args := args) (ts := ts) r38 h38
  have c78 := fun H nid l => (show callD cx 78 l H nid = _ from call_orc h78)
  have d78 := fun nx bef i env H dst ty pos after gd args ts => step_orc (cx := cx) (nx := nx) (bef := bef) (i := i) (env := env) (H := H) (dst := dst) (ty := ty) (pos := pos) (after := after) (gd := gd) (args := args) (ts := ts) r78 h78
  have hl1 := hl.1; have hl2 := hl.2.1; have hl3 := hl.2.2
  refine pure_flat (rs := [.tmp 4]) rfl hbs rfl ?_
  repeat' first
    | (refine br_mk (fun h => ?_) (fun h => ?_) <;> (try simp only [Bool.not_eq_true, Bool.not_eq_false, Classical.not_not] at h))
    | (refine ms_mk ?_ ?_)
    | simp only [↓cD, cU, cB, intOp, unD, minD_two, builtinD, idx, reduceCtorEq, ↓reduceIte, ofV, ofC, argEnv, Nat.reduceEqDiff, not_false_eq_true, flatL, cG, Bool.and_self,
      decide_true, decide_false, not_true_eq_false, false_and, false_implies, Option.map_some, Option.bind_some, Option.bind_none, Option.map_none, List.getElem?_toArray, List.toList_toArray, decide_eq_true_eq, decide_eq_false_iff_not, ge_iff_le, gt_iff_lt, and_true, true_and, implies_true, forall_const, true_or, or_true,
      immL, immD, Bool.true_and, Bool.and_true, Bool.false_and, Bool.and_false, Bool.true_or, Bool.or_true, Bool.false_or, Bool.or_false, Res.flat, ren, renL, List.length_nil, Nat.add_zero, List.map_cons, List.map_nil, List.nil_append, List.append_nil, List.cons_append, List.getElem?_cons_zero, List.getElem?_cons_succ, Bool.not_eq_true', Bool.not_true, Bool.not_false, Bool.not_eq_true, Bool.not_eq_false', Bool.not_eq_false, Bool.true_eq_false, Bool.false_eq_true, if_true, if_false, Int.reduceEq, Int.reduceLT, Int.reduceLE, Int.reduceNe, ite_self, or_false, false_or, or_self, eq_self, List.zip_cons_cons, List.zip_nil_left, deref, ldD, List.head?_cons, convD, shiftOp, strOp, bitsOp, cC, cS, refs, okRoots, okId, List.all_nil, List.all_cons, List.length_cons, Nat.zero_add, Nat.reduceMul, Nat.reduceAdd, Nat.reduceLeDiff, refsL, List.flatMap_cons, List.flatMap_nil, c59, c73, c74, c75, c47, c76, c77, c38, c78, d59, d73, d74, d75, d47, d76, d77, d38, d78, callX_imm, callX_nil, FKnown_eq, FUsed_eq, FVAdr_eq, FHost_eq, FSValid_eq, FIn_eq, FTextB_eq, FValid_eq, FAll_eq, ↓neq37, ↓eql37, ↓neq39, ↓eql39, ↓neq41, ↓eql41, cV, cT, cF, cW, borT, borM, bor_agg, Res.via, List.size_toArray, List.isEmpty_cons, put_ap, putAll_one, elems_own, refsB, List.isEmpty_nil, Nat.reduceLT, Nat.reduceSub, Nat.reduceLeDiff, Nat.reduceMul, Nat.reduceAdd, Int.toNat_natCast, Int.reduceToNat, appK, nilRow, callX_bor, borL, bor_row, bor_one, take_map_len, List.drop_zero, map_snoc, map_app, fillE, cO, List.length_cons, List.length_replicate, List.length_append, List.length_map, List.replicate, List.set_cons_zero, List.set_cons_succ, List.take_zero, List.take_succ_cons, List.drop_succ_cons, Nat.zero_lt_succ, Option.isSome_some, partD, ofHp, ixOf, cS, refs, okRoots, okId, List.all_nil, List.all_cons, List.length_cons, Nat.zero_add, Nat.reduceMul, Nat.reduceAdd, Nat.reduceLeDiff, refsL, List.flatMap_cons, List.flatMap_nil, hl1, hl2, hl3, lens Try.underlying9, hP, *]
  all_goals first | rfl | (simp [validD, *]; done) | (subst_vars; simp [validD, *]; done) | (simp [validD, *]; omega)
end Go.Mir
