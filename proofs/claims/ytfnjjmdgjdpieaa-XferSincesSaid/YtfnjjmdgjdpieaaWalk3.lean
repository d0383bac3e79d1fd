/- What functions of the program answer, read off. -/
import Derived.Test.YtfnjjmdgjdpieaaWalk2
import Derived.KernelRfl
set_option linter.unusedSimpArgs false
set_option linter.unusedVariables false
namespace Go.Mir
open Go Go.RowKit Go.Proofs
attribute [local congr] Ev.congr EvC.congr EvW.congr Br.congr Ms.congr
set_option maxRecDepth 100000
theorem lb_sm (n : List UInt8) : Sm ((labs n).getD []) := by have := labs_sm n; simp only [Sm] at *; omega
def underB (n top : List UInt8) : Bool := (labs n).isSome && (labs top).isSome && decide (sameL ((labs n).getD []) ((labs top).getD []) = ((labs top).getD []).length)
theorem under_eq (n top : List UInt8) : underN n top = underB n top := by
  unfold underN underB
  cases labs n <;> cases labs top <;> simp
def cmpB (a b : List UInt8) : Int := if (labs a).isSome then (if (labs b).isSome then (if sameL ((labs a).getD []) ((labs b).getD []) < ((labs a).getD []).length ∧ sameL ((labs a).getD []) ((labs b).getD []) < ((labs b).getD []).length then textC ((labs a).getD []).reverse[sameL ((labs a).getD []) ((labs b).getD [])]! ((labs b).getD []).reverse[sameL ((labs a).getD []) ((labs b).getD [])]! else if ((labs a).getD []).length < ((labs b).getD []).length then -1 else if ((labs b).getD []).length < ((labs a).getD []).length then 1 else 0) else -1) else if (labs b).isSome then 1 else textC a b

noncomputable def FUnder := mkF (fun s : (List UInt8) × (List UInt8) => [.st s.1, .st s.2]) (fun s => Sm s.1 ∧ Sm s.2) (fun s => Res.flat (.bo (underB s.1 s.2)))
theorem FUnder_eq {s1 : List UInt8} {s2 : List UInt8} (hp : Sm s1 ∧ Sm s2) : FUnder [.st s1, .st s2] = some (Res.flat (.bo (underB s1 s2))) := mkF_eq (s := (s1, s2)) (fun s s' h => by simp only [List.cons.injEq, D.it.injEq, D.st.injEq, D.bo.injEq, true_and, and_true, adr_iff, dat_iff, rec_iff, zone_iff, delta_iff, hist_iff, recs_iff, deltas_iff, strs_iff, ints_iff] at h; simp only [h]) hp
theorem strs_row (l : List (List UInt8)) : (.vec 1 true (l.map D.st) : D) = .vec 1 true (l.map D.st) := rfl
set_option maxHeartbeats 4000000 in
theorem runUnder (cx : Cx) (hP : cx.P = Try.prog) (hbs : cx.bs = 0) (h58 : cx.orc 58 = some FSplit) (h62 : cx.orc 62 = some FSame) (s1 s2 : List UInt8) (hl : Sm s1 ∧ Sm s2) : pureRun cx Try.f44 [] false [.st s1, .st s2] = some (Res.flat (.bo (underB s1 s2))) := by
  have c58 := fun H nid l => (show callD cx 58 l H nid = _ from call_orc h58)
  have c62 := fun H nid l => (show callD cx 62 l H nid = _ from call_orc h62)
  have hs1 := hl.1; have hs2 := hl.2; have hs3 := lb_sm s1; have hs4 := lb_sm s2
  refine pure_flat (rs := [.tmp 4]) rfl hbs rfl ?_
  repeat' first
    | (refine br_mk (fun h => ?_) (fun h => ?_) <;> (try simp only [Bool.not_eq_true, Bool.not_eq_false, Classical.not_not] at h))
    | (refine ms_mk ?_ ?_)
    | simp only [↓cD, cU, cB, intOp, unD, minD_two, builtinD, idx, reduceCtorEq, ↓reduceIte, ofV, ofC, argEnv, Nat.reduceEqDiff, not_false_eq_true, flatL, cG, Bool.and_self,
      decide_true, decide_false, not_true_eq_false, false_and, false_implies, Option.map_some, Option.bind_some, Option.bind_none, Option.map_none, List.getElem?_toArray, List.toList_toArray, decide_eq_true_eq, decide_eq_false_iff_not, ge_iff_le, gt_iff_lt, and_true, true_and, implies_true, forall_const, true_or, or_true,
      immL, immD, Bool.true_and, Bool.and_true, Bool.false_and, Bool.and_false, Bool.true_or, Bool.or_true, Bool.false_or, Bool.or_false, Res.flat, ren, renL, List.length_nil, Nat.add_zero, List.map_cons, List.map_nil, List.nil_append, List.append_nil, List.cons_append, List.getElem?_cons_zero, List.getElem?_cons_succ, Bool.not_eq_true', Bool.not_true, Bool.not_false, Bool.not_eq_true, Bool.not_eq_false', Bool.not_eq_false, Bool.true_eq_false, Bool.false_eq_true, if_true, if_false, Int.reduceEq, Int.reduceLT, Int.reduceLE, Int.reduceNe, ite_self, or_false, false_or, or_self, eq_self, List.zip_cons_cons, List.zip_nil_left, deref, ldD, List.head?_cons, convD, shiftOp, strOp, bitsOp, cC, c58, c62, callX_imm, callX_nil, FSplit_eq, FSame_eq, ↓neq37, ↓eql37, ↓neq39, ↓eql39, ↓neq41, ↓eql41, cV, cT, cF, cW, borT, borM, bor_agg, Res.via, List.size_toArray, List.isEmpty_cons, put_ap, putAll_one, elems_own, refsB, List.isEmpty_nil, Nat.reduceLT, Nat.reduceSub, Nat.reduceLeDiff, Nat.reduceMul, Nat.reduceAdd, Int.toNat_natCast, Int.reduceToNat, appK, nilRow, callX_bor, borL, bor_row, bor_one, take_map_len, List.drop_zero, map_snoc, map_app, fillE, cO, List.length_cons, List.length_replicate, List.length_append, List.length_map, List.replicate, List.set_cons_zero, List.set_cons_succ, List.take_zero, List.take_succ_cons, List.drop_succ_cons, Nat.zero_lt_succ, Option.isSome_some, partD, ofHp, ixOf, hs1, hs2, hs3, hs4, Res.row, Res.rowd, hP, *]
  all_goals first | rfl | (simp [underB, *]; done) | (simp [underB, *]; omega) | trace_state
noncomputable def FCmpN := mkF (fun s : (List UInt8) × (List UInt8) => [.st s.1, .st s.2]) (fun s => Sm s.1 ∧ Sm s.2) (fun s => Res.flat (.it .i64 (cmpB s.1 s.2)))
theorem FCmpN_eq {s1 : List UInt8} {s2 : List UInt8} (hp : Sm s1 ∧ Sm s2) : FCmpN [.st s1, .st s2] = some (Res.flat (.it .i64 (cmpB s1 s2))) := mkF_eq (s := (s1, s2)) (fun s s' h => by simp only [List.cons.injEq, D.it.injEq, D.st.injEq, D.bo.injEq, true_and, and_true, adr_iff, dat_iff, rec_iff, zone_iff, delta_iff, hist_iff, recs_iff, deltas_iff, strs_iff, ints_iff] at h; simp only [h]) hp
theorem rev_wrap {l : List (List UInt8)} {k : Nat} (hs : l.length ≤ 254) (h : (k : Int) < l.length) : IntKind.i64.wrap (IntKind.i64.wrap ((l.length : Int) - 1) - (k : Int)) = ((l.length - 1 - k : Nat) : Int) := by rw [wrap64 (n := (l.length : Int) - 1) (by omega) (by omega), wrap64 (by omega) (by omega)]; omega
theorem rev_in {l : List (List UInt8)} {k : Nat} (h : (k : Int) < l.length) : 0 ≤ ((l.length - 1 - k : Nat) : Int) ∧ ((l.length - 1 - k : Nat) : Int) < l.length := by omega
theorem rev_el {l : List (List UInt8)} {k : Nat} (h : (k : Int) < l.length) : (l.map D.st)[l.length - 1 - k]? = some (.st l.reverse[k]!) := by
  rw [getm (by omega), rev_at (by omega)]

set_option maxHeartbeats 4000000 in
theorem runCmpN (cx : Cx) (hP : cx.P = Try.prog) (hbs : cx.bs = 0) (h58 : cx.orc 58 = some FSplit) (h83 : cx.orc 83 = some FText) (h62 : cx.orc 62 = some FSame) (r58 : cx.rd.contains 58 = true) (r83 : cx.rd.contains 83 = true) (r62 : cx.rd.contains 62 = true) (s1 s2 : List UInt8) (hl : Sm s1 ∧ Sm s2) : pureRun cx Try.f79 [] false [.st s1, .st s2] = some (Res.flat (.it .i64 (cmpB s1 s2))) := by
  have c58 := fun H nid l => (show callD cx 58 l H nid = _ from call_orc h58)
  have d58 := fun nx bef i env H dst ty pos after gd args ts => step_orc (cx := cx) (nx := nx) (bef := bef) (i := i) (env := env) (H := H) (dst := dst) (ty := ty) (pos := pos) (after := after) (gd := gd) (args := args) (ts := ts) r58 h58
  have c83 := fun H nid l => (show callD cx 83 l H nid = _ from call_orc h83)
  have d83 := fun nx bef i env H dst ty pos after gd args ts => step_orc (cx := cx) (nx := nx) (bef := bef) (i := i) (env := env) (H := H) (dst := dst) (ty := ty) (pos := pos) (after := after) (gd := gd) (args := args) (ts := ts) r83 h83
  have c62 := fun H nid l => (show callD cx 62 l H nid = _ from call_orc h62)
  have d62 := fun nx bef i env H dst ty pos after gd args ts => step_orc (cx := cx) (nx := nx) (bef := bef) (i := i) (env := env) (H := H) (dst := dst) (ty := ty) (pos := pos) (after := after) (gd := gd) (args := args) (ts := ts) r62 h62
  have hs1 := hl.1; have hs2 := hl.2; have hs3 := lb_sm s1; have hs4 := lb_sm s2
  have e1a : ((sameL ((labs s1).getD []) ((labs s2).getD []) : Nat) : Int) < ((labs s1).getD []).length → _ := fun h => rev_wrap (labs_sm s1) h
  have e2a : ((sameL ((labs s1).getD []) ((labs s2).getD []) : Nat) : Int) < ((labs s1).getD []).length → _ := fun h => rev_in h
  have e3a : ((sameL ((labs s1).getD []) ((labs s2).getD []) : Nat) : Int) < ((labs s1).getD []).length → _ := fun h => rev_el h
  have e1b : ((sameL ((labs s1).getD []) ((labs s2).getD []) : Nat) : Int) < ((labs s2).getD []).length → _ := fun h => rev_wrap (labs_sm s2) h
  have e2b : ((sameL ((labs s1).getD []) ((labs s2).getD []) : Nat) : Int) < ((labs s2).getD []).length → _ := fun h => rev_in h
  have e3b : ((sameL ((labs s1).getD []) ((labs s2).getD []) : Nat) : Int) < ((labs s2).getD []).length → _ := fun h => rev_el h
  refine pure_flat (rs := [.tmp 4]) rfl hbs rfl ?_
  repeat' first
    | (refine br_mk (fun h => ?_) (fun h => ?_) <;> (try simp only [Bool.not_eq_true, Bool.not_eq_false, Classical.not_not] at h))
    | (refine ms_mk ?_ ?_)
    | simp only [↓cD, cU, cB, intOp, unD, minD_two, builtinD, idx, reduceCtorEq, ↓reduceIte, ofV, ofC, argEnv, Nat.reduceEqDiff, not_false_eq_true, flatL, cG, Bool.and_self,
      decide_true, decide_false, not_true_eq_false, false_and, false_implies, Option.map_some, Option.bind_some, Option.bind_none, Option.map_none, List.getElem?_toArray, List.toList_toArray, decide_eq_true_eq, decide_eq_false_iff_not, ge_iff_le, gt_iff_lt, and_true, true_and, implies_true, forall_const, true_or, or_true,
      immL, immD, Bool.true_and, Bool.and_true, Bool.false_and, Bool.and_false, Bool.true_or, Bool.or_true, Bool.false_or, Bool.or_false, Res.flat, ren, renL, List.length_nil, Nat.add_zero, List.map_cons, List.map_nil, List.nil_append, List.append_nil, List.cons_append, List.getElem?_cons_zero, List.getElem?_cons_succ, Bool.not_eq_true', Bool.not_true, Bool.not_false, Bool.not_eq_true, Bool.not_eq_false', Bool.not_eq_false, Bool.true_eq_false, Bool.false_eq_true, if_true, if_false, Int.reduceEq, Int.reduceLT, Int.reduceLE, Int.reduceNe, ite_self, or_false, false_or, or_self, eq_self, List.zip_cons_cons, List.zip_nil_left, deref, ldD, List.head?_cons, convD, shiftOp, strOp, bitsOp, cC, cS, refs, okRoots, okId, List.all_nil, List.all_cons, List.length_cons, Nat.zero_add, Nat.reduceMul, Nat.reduceAdd, Nat.reduceLeDiff, refsL, List.flatMap_cons, List.flatMap_nil, c58, c83, c62, d58, d83, d62, callX_imm, callX_nil, FSplit_eq, FText_eq, FSame_eq, ↓neq37, ↓eql37, ↓neq39, ↓eql39, ↓neq41, ↓eql41, cV, cT, cF, cW, borT, borM, bor_agg, Res.via, List.size_toArray, List.isEmpty_cons, put_ap, putAll_one, elems_own, refsB, List.isEmpty_nil, Nat.reduceLT, Nat.reduceSub, Nat.reduceLeDiff, Nat.reduceMul, Nat.reduceAdd, Int.toNat_natCast, Int.reduceToNat, appK, nilRow, callX_bor, borL, bor_row, bor_one, take_map_len, List.drop_zero, map_snoc, map_app, fillE, cO, List.length_cons, List.length_replicate, List.length_append, List.length_map, List.replicate, List.set_cons_zero, List.set_cons_succ, List.take_zero, List.take_succ_cons, List.drop_succ_cons, Nat.zero_lt_succ, Option.isSome_some, partD, ofHp, ixOf, cS, refs, okRoots, okId, List.all_nil, List.all_cons, List.length_cons, Nat.zero_add, Nat.reduceMul, Nat.reduceAdd, Nat.reduceLeDiff, refsL, List.flatMap_cons, List.flatMap_nil, hs1, hs2, hs3, hs4, Res.row, Res.rowd, hP, *]
  all_goals first | rfl | (simp [cmpB, *]; done) | (simp [cmpB, *]; omega) |  trace_state
end Go.Mir
