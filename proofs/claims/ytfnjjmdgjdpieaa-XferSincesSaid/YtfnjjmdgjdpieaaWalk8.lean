/- What functions of the program answer, read off. -/
import Derived.Test.YtfnjjmdgjdpieaaWalk7
import Derived.KernelRfl
set_option linter.unusedSimpArgs false
set_option linter.unusedVariables false
namespace Go.Mir
open Go Go.RowKit Go.Proofs
attribute [local congr] Ev.congr EvC.congr EvW.congr Br.congr Ms.congr
set_option maxRecDepth 100000
def RSm (r : Rec) : Prop := Sm r.name ∧ DSm r.dat
def LSm (l : List Rec) : Prop := l.length ≤ 1000000 ∧ ∀ r ∈ l, RSm r
theorem LSm.at {l : List Rec} (h : LSm l) {i : Nat} (hi : (i : Int) < l.length) : RSm l[i]! := h.2 _ (mem_at hi)
theorem LSm.sm {l : List Rec} (h : LSm l) : Sm l := by have := h.1; simp only [Sm]; omega
def validR (r : Rec) : Bool := vName r.name && (known r.typ && (decide (0 ≤ r.ttl) && (decide (r.ttl ≤ 2147483647) && validD r.typ r.dat)))
def numC (a b : Int) : Int := if a < b then -1 else if b < a then 1 else 0
def firstC (a b : Rec) : Int := if ¬ cmpB a.name b.name = 0 then cmpB a.name b.name else if ¬ numC a.typ b.typ = 0 then numC a.typ b.typ else cmpD a.typ a.dat b.dat
def cmpR (a b : Rec) : Int := if ¬ firstC a b = 0 then firstC a b else numC a.ttl b.ttl
def findR (l : List Rec) (n : List UInt8) (t : Int) : List Rec := l.filter fun r => r.name == n && decide (r.typ = t)

noncomputable def FVR := mkF (fun s : Rec => [recE s]) (fun s => RSm s) (fun s => Res.flat (.bo (validR s)))
theorem FVR_eq {r1 : Rec} (hp : RSm r1) : FVR [recE r1] = some (Res.flat (.bo (validR r1))) := mkF_eq (s := (r1)) (fun s s' h => by simp only [List.cons.injEq, D.it.injEq, D.st.injEq, D.bo.injEq, true_and, and_true, adr_iff, dat_iff, rec_iff, zone_iff, delta_iff, hist_iff, recs_iff, deltas_iff, strs_iff, ints_iff] at h; simp only [h]) hp
set_option maxHeartbeats 4000000 in
theorem runVR (cx : Cx) (hP : cx.P = Try.prog) (hbs : cx.bs = 0) (h38 : cx.orc 38 = some FValid) (h59 : cx.orc 59 = some FKnown) (h60 : cx.orc 60 = some FVD) (r1 : Rec) (hl : RSm r1) : pureRun cx Try.f40 [] false [recE r1] = some (Res.flat (.bo (validR r1))) := by
  have c38 := fun H nid l => (show callD cx 38 l H nid = _ from call_orc h38)
  have c59 := fun H nid l => (show callD cx 59 l H nid = _ from call_orc h59)
  have c60 := fun H nid l => (show callD cx 60 l H nid = _ from call_orc h60)
  have hl1 := hl.1; have hl2 := hl.2
  refine pure_flat (rs := [.tmp 2]) rfl hbs rfl ?_
  repeat' first
    | (refine br_mk (fun h => ?_) (fun h => ?_) <;> (try simp only [Bool.not_eq_true, Bool.not_eq_false, Classical.not_not] at h))
    | (refine ms_mk ?_ ?_)
    | simp only [↓cD, cU, cB, intOp, unD, minD_two, builtinD, idx, reduceCtorEq, ↓reduceIte, ofV, ofC, argEnv, Nat.reduceEqDiff, not_false_eq_true, flatL, cG, Bool.and_self,
      decide_true, decide_false, not_true_eq_false, false_and, false_implies, Option.map_some, Option.bind_some, Option.bind_none, Option.map_none, List.getElem?_toArray, List.toList_toArray, decide_eq_true_eq, decide_eq_false_iff_not, ge_iff_le, gt_iff_lt, and_true, true_and, implies_true, forall_const, true_or, or_true,
      immL, immD, Bool.true_and, Bool.and_true, Bool.false_and, Bool.and_false, Bool.true_or, Bool.or_true, Bool.false_or, Bool.or_false, Res.flat, ren, renL, List.length_nil, Nat.add_zero, List.map_cons, List.map_nil, List.nil_append, List.append_nil, List.cons_append, List.getElem?_cons_zero, List.getElem?_cons_succ, Bool.not_eq_true', Bool.not_true, Bool.not_false, Bool.not_eq_true, Bool.not_eq_false', Bool.not_eq_false, Bool.true_eq_false, Bool.false_eq_true, if_true, if_false, Int.reduceEq, Int.reduceLT, Int.reduceLE, Int.reduceNe, ite_self, or_false, false_or, or_self, eq_self, List.zip_cons_cons, List.zip_nil_left, deref, ldD, List.head?_cons, convD, shiftOp, strOp, bitsOp, cC, c38, c59, c60, callX_imm, callX_nil, FValid_eq, FKnown_eq, FVD_eq, ↓neq37, ↓eql37, ↓neq39, ↓eql39, ↓neq41, ↓eql41, cV, cT, cF, cW, borT, borM, bor_agg, Res.via, List.size_toArray, List.isEmpty_cons, put_ap, putAll_one, elems_own, refsB, List.isEmpty_nil, Nat.reduceLT, Nat.reduceSub, Nat.reduceLeDiff, Nat.reduceMul, Nat.reduceAdd, Int.toNat_natCast, Int.reduceToNat, appK, nilRow, callX_bor, borL, bor_row, bor_one, take_map_len, List.drop_zero, map_snoc, map_app, fillE, cO, List.length_cons, List.length_replicate, List.length_append, List.length_map, List.replicate, List.set_cons_zero, List.set_cons_succ, List.take_zero, List.take_succ_cons, List.drop_succ_cons, Nat.zero_lt_succ, Option.isSome_some, partD, ofHp, ixOf, hl1, hl2, hP, *]
  all_goals first
    | rfl
    | (simp [validR, *]; done)
    | (simp [validR, *]; omega)
noncomputable def FNumC := mkF (fun s : Int × Int => [.it .i64 s.1, .it .i64 s.2]) (fun s => True) (fun s => Res.flat (.it .i64 (numC s.1 s.2)))
theorem FNumC_eq {a1 : Int} {b1 : Int} : FNumC [.it .i64 a1, .it .i64 b1] = some (Res.flat (.it .i64 (numC a1 b1))) := mkF_eq (s := (a1, b1)) (fun s s' h => by simp only [List.cons.injEq, D.it.injEq, D.st.injEq, D.bo.injEq, true_and, and_true, adr_iff, dat_iff, rec_iff, zone_iff, delta_iff, hist_iff, recs_iff, deltas_iff, strs_iff, ints_iff] at h; simp only [h]) trivial
set_option maxHeartbeats 4000000 in
theorem runNumC (cx : Cx) (hP : cx.P = Try.prog) (hbs : cx.bs = 0) (a1 b1 : Int)  : pureRun cx Try.f80 [] false [.it .i64 a1, .it .i64 b1] = some (Res.flat (.it .i64 (numC a1 b1))) := by
  refine pure_flat (rs := [.tmp 4]) rfl hbs rfl ?_
  repeat' first
    | (refine br_mk (fun h => ?_) (fun h => ?_) <;> (try simp only [Bool.not_eq_true, Bool.not_eq_false, Classical.not_not] at h))
    | (refine ms_mk ?_ ?_)
    | simp only [↓cD, cU, cB, intOp, unD, minD_two, builtinD, idx, reduceCtorEq, ↓reduceIte, ofV, ofC, argEnv, Nat.reduceEqDiff, not_false_eq_true, flatL, cG, Bool.and_self,
      decide_true, decide_false, not_true_eq_false, false_and, false_implies, Option.map_some, Option.bind_some, Option.bind_none, Option.map_none, List.getElem?_toArray, List.toList_toArray, decide_eq_true_eq, decide_eq_false_iff_not, ge_iff_le, gt_iff_lt, and_true, true_and, implies_true, forall_const, true_or, or_true,
      immL, immD, Bool.true_and, Bool.and_true, Bool.false_and, Bool.and_false, Bool.true_or, Bool.or_true, Bool.false_or, Bool.or_false, Res.flat, ren, renL, List.length_nil, Nat.add_zero, List.map_cons, List.map_nil, List.nil_append, List.append_nil, List.cons_append, List.getElem?_cons_zero, List.getElem?_cons_succ, Bool.not_eq_true', Bool.not_true, Bool.not_false, Bool.not_eq_true, Bool.not_eq_false', Bool.not_eq_false, Bool.true_eq_false, Bool.false_eq_true, if_true, if_false, Int.reduceEq, Int.reduceLT, Int.reduceLE, Int.reduceNe, ite_self, or_false, false_or, or_self, eq_self, List.zip_cons_cons, List.zip_nil_left, deref, ldD, List.head?_cons, convD, shiftOp, strOp, bitsOp, cC, ↓neq37, ↓eql37, ↓neq39, ↓eql39, ↓neq41, ↓eql41, cV, cT, cF, cW, borT, borM, bor_agg, Res.via, List.size_toArray, List.isEmpty_cons, put_ap, putAll_one, elems_own, refsB, List.isEmpty_nil, Nat.reduceLT, Nat.reduceSub, Nat.reduceLeDiff, Nat.reduceMul, Nat.reduceAdd, Int.toNat_natCast, Int.reduceToNat, appK, nilRow, callX_bor, borL, bor_row, bor_one, take_map_len, List.drop_zero, map_snoc, map_app, fillE, cO, List.length_cons, List.length_replicate, List.length_append, List.length_map, List.replicate, List.set_cons_zero, List.set_cons_succ, List.take_zero, List.take_succ_cons, List.drop_succ_cons, Nat.zero_lt_succ, Option.isSome_some, partD, ofHp, ixOf, hP, *]
  all_goals first
    | rfl
    | (simp [numC, *]; done)
    | (simp [numC, *]; omega)
noncomputable def FFirst := mkF (fun s : Rec × Rec => [recE s.1, recE s.2]) (fun s => RSm s.1 ∧ RSm s.2) (fun s => Res.flat (.it .i64 (firstC s.1 s.2)))
theorem FFirst_eq {r1 : Rec} {r2 : Rec} (hp : RSm r1 ∧ RSm r2) : FFirst [recE r1, recE r2] = some (Res.flat (.it .i64 (firstC r1 r2))) := mkF_eq (s := (r1, r2)) (fun s s' h => by simp only [List.cons.injEq, D.it.injEq, D.st.injEq, D.bo.injEq, true_and, and_true, adr_iff, dat_iff, rec_iff, zone_iff, delta_iff, hist_iff, recs_iff, deltas_iff, strs_iff, ints_iff] at h; simp only [h]) hp
set_option maxHeartbeats 4000000 in
theorem runFirst (cx : Cx) (hP : cx.P = Try.prog) (hbs : cx.bs = 0) (h79 : cx.orc 79 = some FCmpN) (h80 : cx.orc 80 = some FNumC) (h81 : cx.orc 81 = some FCD) (r1 r2 : Rec) (hl : RSm r1 ∧ RSm r2) : pureRun cx Try.f61 [] false [recE r1, recE r2] = some (Res.flat (.it .i64 (firstC r1 r2))) := by
  have c79 := fun H nid l => (show callD cx 79 l H nid = _ from call_orc h79)
  have c80 := fun H nid l => (show callD cx 80 l H nid = _ from call_orc h80)
  have c81 := fun H nid l => (show callD cx 81 l H nid = _ from call_orc h81)
  have hl1 := hl.1.1; have hl2 := hl.1.2; have hl3 := hl.2.1; have hl4 := hl.2.2; have hl5 := hl.1; have hl6 := hl.2
  refine pure_flat (rs := [.tmp 4]) rfl hbs rfl ?_
  repeat' first
    | (refine br_mk (fun h => ?_) (fun h => ?_) <;> (try simp only [Bool.not_eq_true, Bool.not_eq_false, Classical.not_not] at h))
    | (refine ms_mk ?_ ?_)
    | simp only [↓cD, cU, cB, intOp, unD, minD_two, builtinD, idx, reduceCtorEq, ↓reduceIte, ofV, ofC, argEnv, Nat.reduceEqDiff, not_false_eq_true, flatL, cG, Bool.and_self,
      decide_true, decide_false, not_true_eq_false, false_and, false_implies, Option.map_some, Option.bind_some, Option.bind_none, Option.map_none, List.getElem?_toArray, List.toList_toArray, decide_eq_true_eq, decide_eq_false_iff_not, ge_iff_le, gt_iff_lt, and_true, true_and, implies_true, forall_const, true_or, or_true,
      immL, immD, Bool.true_and, Bool.and_true, Bool.false_and, Bool.and_false, Bool.true_or, Bool.or_true, Bool.false_or, Bool.or_false, Res.flat, ren, renL, List.length_nil, Nat.add_zero, List.map_cons, List.map_nil, List.nil_append, List.append_nil, List.cons_append, List.getElem?_cons_zero, List.getElem?_cons_succ, Bool.not_eq_true', Bool.not_true, Bool.not_false, Bool.not_eq_true, Bool.not_eq_false', Bool.not_eq_false, Bool.true_eq_false, Bool.false_eq_true, if_true, if_false, Int.reduceEq, Int.reduceLT, Int.reduceLE, Int.reduceNe, ite_self, or_false, false_or, or_self, eq_self, List.zip_cons_cons, List.zip_nil_left, deref, ldD, List.head?_cons, convD, shiftOp, strOp, bitsOp, cC, c79, c80, c81, callX_imm, callX_nil, FCmpN_eq, FNumC_eq, FCD_eq, ↓neq37, ↓eql37, ↓neq39, ↓eql39, ↓neq41, ↓eql41, cV, cT, cF, cW, borT, borM, bor_agg, Res.via, List.size_toArray, List.isEmpty_cons, put_ap, putAll_one, elems_own, refsB, List.isEmpty_nil, Nat.reduceLT, Nat.reduceSub, Nat.reduceLeDiff, Nat.reduceMul, Nat.reduceAdd, Int.toNat_natCast, Int.reduceToNat, appK, nilRow, callX_bor, borL, bor_row, bor_one, take_map_len, List.drop_zero, map_snoc, map_app, fillE, cO, List.length_cons, List.length_replicate, List.length_append, List.length_map, List.replicate, List.set_cons_zero, List.set_cons_succ, List.take_zero, List.take_succ_cons, List.drop_succ_cons, Nat.zero_lt_succ, Option.isSome_some, partD, ofHp, ixOf, hl1, hl2, hl3, hl4, hP, *]
  all_goals first
    | rfl
    | (simp [firstC, *]; done)
    | (simp [firstC, *]; omega)
noncomputable def FCmpR := mkF (fun s : Rec × Rec => [recE s.1, recE s.2]) (fun s => RSm s.1 ∧ RSm s.2) (fun s => Res.flat (.it .i64 (cmpR s.1 s.2)))
theorem FCmpR_eq {r1 : Rec} {r2 : Rec} (hp : RSm r1 ∧ RSm r2) : FCmpR [recE r1, recE r2] = some (Res.flat (.it .i64 (cmpR r1 r2))) := mkF_eq (s := (r1, r2)) (fun s s' h => by simp only [List.cons.injEq, D.it.injEq, D.st.injEq, D.bo.injEq, true_and, and_true, adr_iff, dat_iff, rec_iff, zone_iff, delta_iff, hist_iff, recs_iff, deltas_iff, strs_iff, ints_iff] at h; simp only [h]) hp
set_option maxHeartbeats 4000000 in
theorem runCmpR (cx : Cx) (hP : cx.P = Try.prog) (hbs : cx.bs = 0) (h61 : cx.orc 61 = some FFirst) (h80 : cx.orc 80 = some FNumC) (r1 r2 : Rec) (hl : RSm r1 ∧ RSm r2) : pureRun cx Try.f66 [] false [recE r1, recE r2] = some (Res.flat (.it .i64 (cmpR r1 r2))) := by
  have c61 := fun H nid l => (show callD cx 61 l H nid = _ from call_orc h61)
  have c80 := fun H nid l => (show callD cx 80 l H nid = _ from call_orc h80)
  have hl1 := hl.1.1; have hl2 := hl.1.2; have hl3 := hl.2.1; have hl4 := hl.2.2; have hl5 := hl.1; have hl6 := hl.2
  refine pure_flat (rs := [.tmp 4]) rfl hbs rfl ?_
  repeat' first
    | (refine br_mk (fun h => ?_) (fun h => ?_) <;> (try simp only [Bool.not_eq_true, Bool.not_eq_false, Classical.not_not] at h))
    | (refine ms_mk ?_ ?_)
    | simp only [↓cD, cU, cB, intOp, unD, minD_two, builtinD, idx, reduceCtorEq, ↓reduceIte, ofV, ofC, argEnv, Nat.reduceEqDiff, not_false_eq_true, flatL, cG, Bool.and_self,
      decide_true, decide_false, not_true_eq_false, false_and, false_implies, Option.map_some, Option.bind_some, Option.bind_none, Option.map_none, List.getElem?_toArray, List.toList_toArray, decide_eq_true_eq, decide_eq_false_iff_not, ge_iff_le, gt_iff_lt, and_true, true_and, implies_true, forall_const, true_or, or_true,
      immL, immD, Bool.true_and, Bool.and_true, Bool.false_and, Bool.and_false, Bool.true_or, Bool.or_true, Bool.false_or, Bool.or_false, Res.flat, ren, renL, List.length_nil, Nat.add_zero, List.map_cons, List.map_nil, List.nil_append, List.append_nil, List.cons_append, List.getElem?_cons_zero, List.getElem?_cons_succ, Bool.not_eq_true', Bool.not_true, Bool.not_false, Bool.not_eq_true, Bool.not_eq_false', Bool.not_eq_false, Bool.true_eq_false, Bool.false_eq_true, if_true, if_false, Int.reduceEq, Int.reduceLT, Int.reduceLE, Int.reduceNe, ite_self, or_false, false_or, or_self, eq_self, List.zip_cons_cons, List.zip_nil_left, deref, ldD, List.head?_cons, convD, shiftOp, strOp, bitsOp, cC, c61, c80, callX_imm, callX_nil, FFirst_eq, FNumC_eq, ↓neq37, ↓eql37, ↓neq39, ↓eql39, ↓neq41, ↓eql41, cV, cT, cF, cW, borT, borM, bor_agg, Res.via, List.size_toArray, List.isEmpty_cons, put_ap, putAll_one, elems_own, refsB, List.isEmpty_nil, Nat.reduceLT, Nat.reduceSub, Nat.reduceLeDiff, Nat.reduceMul, Nat.reduceAdd, Int.toNat_natCast, Int.reduceToNat, appK, nilRow, callX_bor, borL, bor_row, bor_one, take_map_len, List.drop_zero, map_snoc, map_app, fillE, cO, List.length_cons, List.length_replicate, List.length_append, List.length_map, List.replicate, List.set_cons_zero, List.set_cons_succ, List.take_zero, List.take_succ_cons, List.drop_succ_cons, Nat.zero_lt_succ, Option.isSome_some, partD, ofHp, ixOf, hl5, hl6, hP, *]
  all_goals first
    | rfl
    | (simp [cmpR, *]; done)
    | (simp [cmpR, *]; omega)
def eqL (a b : List Rec) : Bool := decide (a = b)
noncomputable def FEq := mkF (fun s : (List Rec) × (List Rec) => [recsE s.1, recsE s.2]) (fun s => s.1.length ≤ 1000000 ∧ s.2.length ≤ 1000000) (fun s => Res.flat (.bo (eqL s.1 s.2)))
theorem FEq_eq {a : List Rec} {b : List Rec} (hp : a.length ≤ 1000000 ∧ b.length ≤ 1000000) : FEq [recsE a, recsE b] = some (Res.flat (.bo (eqL a b))) := mkF_eq (s := (a, b)) (fun s s' h => by simp only [List.cons.injEq, D.it.injEq, D.st.injEq, D.bo.injEq, true_and, and_true, adr_iff, dat_iff, rec_iff, zone_iff, delta_iff, hist_iff, recs_iff, deltas_iff, strs_iff, ints_iff] at h; simp only [h]) hp
theorem eq_step {a b : List Rec} {i : Nat} (ha : (i : Int) < a.length) (hb : (i : Int) < b.length) : (a.drop i = b.drop i) = (a[i]! = b[i]! ∧ a.drop (i + 1) = b.drop (i + 1)) := by
  rw [drop_at (zs := a) ha, drop_at (zs := b) hb, List.cons.injEq]

set_option maxHeartbeats 4000000 in
theorem runEq (cx : Cx) (hP : cx.P = Try.prog) (hbs : cx.bs = 0) (hk4 : cx.kp 4 = some [0, 1, 5]) (a b : List Rec) (hl : a.length ≤ 1000000 ∧ b.length ≤ 1000000) : pureRun cx Try.f41 [] false [recsE a, recsE b] = some (Res.flat (.bo (eqL a b))) := by
  have hw : ∀ k : Nat, (k : Int) < a.length → IntKind.i64.wrap ((k : Int) + 1) = ((k + 1 : Nat) : Int) := wrapS (by omega)
  refine pure_flat (rs := [.tmp 4]) rfl hbs rfl ?_
  repeat' first
    | (refine evX_loop_flat (σ := Nat) (fun s4 => [recsE a, recsE b, .it .i64 s4]) (fun s4 => s4 ≤ a.length ∧ (a.drop s4 = b.drop s4 ↔ a = b)) (fun s4 => a.length - s4) [0, 1, 5] hbs (by exact hk4) (fun s4 => by simp only [refsL, refs, refs_ivec, refs_gvec, refs_vecE, List.append_nil]) (fun s4 j4 => ?_) (s := 0) ?_ ?_)
    | (refine br_mk (fun h => ?_) (fun h => ?_) <;> (try simp only [Bool.not_eq_true, Bool.not_eq_false, Classical.not_not] at h))
    | (refine ms_mk ?_ ?_)
    | simp only [↓cD, cU, cB, intOp, unD, minD_two, builtinD, idx, reduceCtorEq, ↓reduceIte, ofV, ofC, argEnv, Nat.reduceEqDiff, not_false_eq_true, flatL, cG, Bool.and_self,
      decide_true, decide_false, not_true_eq_false, false_and, false_implies, Option.map_some, Option.bind_some, Option.bind_none, Option.map_none, List.getElem?_toArray, List.toList_toArray, decide_eq_true_eq, decide_eq_false_iff_not, ge_iff_le, gt_iff_lt, and_true, true_and, implies_true, forall_const, true_or, or_true,
      immL, immD, Bool.true_and, Bool.and_true, Bool.false_and, Bool.and_false, Bool.true_or, Bool.or_true, Bool.false_or, Bool.or_false, Res.flat, ren, renL, List.length_nil, Nat.add_zero, List.map_cons, List.map_nil, List.nil_append, List.append_nil, List.cons_append, List.getElem?_cons_zero, List.getElem?_cons_succ, Bool.not_eq_true', Bool.not_true, Bool.not_false, Bool.not_eq_true, Bool.not_eq_false', Bool.not_eq_false, Bool.true_eq_false, Bool.false_eq_true, if_true, if_false, Int.reduceEq, Int.reduceLT, Int.reduceLE, Int.reduceNe, ite_self, or_false, false_or, or_self, eq_self, List.zip_cons_cons, List.zip_nil_left, deref, ldD, List.head?_cons, convD, shiftOp, strOp, bitsOp, cC, cS, refs, okRoots, okId, List.all_nil, List.all_cons, List.length_cons, Nat.zero_add, Nat.reduceMul, Nat.reduceAdd, Nat.reduceLeDiff, refsL, List.flatMap_cons, List.flatMap_nil, ↓neq37, ↓eql37, ↓neq39, ↓eql39, ↓neq41, ↓eql41, cV, cT, cF, cW, borT, borM, bor_agg, Res.via, List.size_toArray, List.isEmpty_cons, put_ap, putAll_one, elems_own, refsB, List.isEmpty_nil, Nat.reduceLT, Nat.reduceSub, Nat.reduceLeDiff, Nat.reduceMul, Nat.reduceAdd, Int.toNat_natCast, Int.reduceToNat, appK, nilRow, callX_bor, borL, bor_row, bor_one, take_map_len, List.drop_zero, map_snoc, map_app, fillE, cO, List.length_cons, List.length_replicate, List.length_append, List.length_map, List.replicate, List.set_cons_zero, List.set_cons_succ, List.take_zero, List.take_succ_cons, List.drop_succ_cons, Nat.zero_lt_succ, Option.isSome_some, partD, ofHp, ixOf, cS, refs, okRoots, okId, List.all_nil, List.all_cons, List.length_cons, Nat.zero_add, Nat.reduceMul, Nat.reduceAdd, Nat.reduceLeDiff, refsL, List.flatMap_cons, List.flatMap_nil, hw, hP, *]
  all_goals (try simp only [eqL])
  all_goals first
    | rfl
    | exact ⟨Nat.zero_le _, Iff.rfl⟩
    | (refine ⟨_, rfl, ⟨by omega, ?_⟩, by omega⟩; rw [eq_step (by omega) (by omega)] at j4; simp only [*, true_and] at j4; exact j4.2)
    | omega
    | (have hne : a ≠ b := fun e => (by have hq := j4.2.2 e; rw [eq_step (by omega) (by omega)] at hq; exact (‹¬ _› : ¬ a[s4]! = b[s4]!) hq.1); rw [decide_eq_false hne])
    | (rw [drop_end (zs := a) (by omega), drop_end (zs := b) (by omega)] at j4; simp [j4.2.1 rfl]; done)
    | (have hne : a ≠ b := fun e => (by subst e; omega); rw [decide_eq_false hne])
noncomputable def FFind := mkF (fun s : (List Rec) × (List UInt8) × Int => [recsE s.1, .st s.2.1, .it .i64 s.2.2]) (fun s => s.1.length ≤ 1000000) (fun s => Res.row 16 ((findR s.1 s.2.1 s.2.2).map recE))
theorem FFind_eq {a : List Rec} {s1 : List UInt8} {t1 : Int} (hp : a.length ≤ 1000000) : FFind [recsE a, .st s1, .it .i64 t1] = some (Res.row 16 ((findR a s1 t1).map recE)) := mkF_eq (s := (a, s1, t1)) (fun s s' h => by simp only [List.cons.injEq, D.it.injEq, D.st.injEq, D.bo.injEq, true_and, and_true, adr_iff, dat_iff, rec_iff, zone_iff, delta_iff, hist_iff, recs_iff, deltas_iff, strs_iff, ints_iff] at h; simp only [h]) hp
set_option maxHeartbeats 4000000 in
theorem runFind (cx : Cx) (hP : cx.P = Try.prog) (hbs : cx.bs = 0) (hk3 : cx.kp 3 = some [0, 1, 2, 7, 8]) (a : List Rec) (s1 : List UInt8) (t1 : Int) (hl : a.length ≤ 1000000) : pureRun cx Try.f39 [0] false [recsE a, .st s1, .it .i64 t1] = some (Res.row 16 ((findR a s1 t1).map recE)) := by
  have hw : ∀ k : Nat, (k : Int) < a.length → IntKind.i64.wrap ((k : Int) + 1) = ((k + 1 : Nat) : Int) := wrapS (by omega)
  refine pure_row (rs := [.tmp 6]) rfl hbs rfl ?_
  repeat' first
    | (refine evX_loop_rows (σ := Nat) (fun s => [recsE a, .st s1, .it .i64 t1, .own 0 0 (findR (a.take s) s1 t1).length, .it .i64 s]) (fun s => [.row 16 true ((findR (a.take s) s1 t1).map recE)]) (fun s => s ≤ a.length) (fun s => a.length - s) [0, 1, 2, 7, 8] hbs (by exact hk3) (fun q jq b hb => by simp only [List.mem_singleton] at hb; subst hb; exact map_refs (fun _ => rfl)) (fun s js => ?_) (s := 0) [1] ?_ ?_ ?_ ?_ ?_)
    | (refine br_mk (fun h => ?_) (fun h => ?_) <;> (try simp only [Bool.not_eq_true, Bool.not_eq_false, Classical.not_not] at h))
    | (refine ms_mk ?_ ?_)
    | simp only [↓cD, cU, cB, intOp, unD, minD_two, builtinD, idx, reduceCtorEq, ↓reduceIte, ofV, ofC, argEnv, Nat.reduceEqDiff, not_false_eq_true, flatL, cG, Bool.and_self,
      decide_true, decide_false, not_true_eq_false, false_and, false_implies, Option.map_some, Option.bind_some, Option.bind_none, Option.map_none, List.getElem?_toArray, List.toList_toArray, decide_eq_true_eq, decide_eq_false_iff_not, ge_iff_le, gt_iff_lt, and_true, true_and, implies_true, forall_const, true_or, or_true,
      immL, immD, Bool.true_and, Bool.and_true, Bool.false_and, Bool.and_false, Bool.true_or, Bool.or_true, Bool.false_or, Bool.or_false, Res.flat, ren, renL, List.length_nil, Nat.add_zero, List.map_cons, List.map_nil, List.nil_append, List.append_nil, List.cons_append, List.getElem?_cons_zero, List.getElem?_cons_succ, Bool.not_eq_true', Bool.not_true, Bool.not_false, Bool.not_eq_true, Bool.not_eq_false', Bool.not_eq_false, Bool.true_eq_false, Bool.false_eq_true, if_true, if_false, Int.reduceEq, Int.reduceLT, Int.reduceLE, Int.reduceNe, ite_self, or_false, false_or, or_self, eq_self, List.zip_cons_cons, List.zip_nil_left, deref, ldD, List.head?_cons, convD, shiftOp, strOp, bitsOp, cC, ↓neq37, ↓eql37, ↓neq39, ↓eql39, ↓neq41, ↓eql41, cV, cT, cF, cW, borT, borM, bor_agg, Res.via, List.size_toArray, List.isEmpty_cons, put_ap, putAll_one, elems_own, refsB, List.isEmpty_nil, Nat.reduceLT, Nat.reduceSub, Nat.reduceLeDiff, Nat.reduceMul, Nat.reduceAdd, Int.toNat_natCast, Int.reduceToNat, appK, nilRow, callX_bor, borL, bor_row, bor_one, take_map_len, List.drop_zero, map_snoc, map_app, fillE, cO, List.length_cons, List.length_replicate, List.length_append, List.length_map, List.replicate, List.set_cons_zero, List.set_cons_succ, List.take_zero, List.take_succ_cons, List.drop_succ_cons, Nat.zero_lt_succ, Option.isSome_some, partD, ofHp, ixOf, hw, hP, *]
  all_goals first
    | rfl
    | omega
    | (have hq : (findR (a.take s) s1 t1).length ≤ (a.take s).length := List.length_filter_le _ _; rw [List.length_take] at hq; omega)
    | (refine ⟨[0], s + 1, ?_, ?_, ?_, ?_, by omega, by omega⟩ <;> (try rw [show findR (a.take (s + 1)) s1 t1 = findR (a.take s) s1 t1 from ft_no (by omega) (by rw [Bool.and_eq_false_iff]; first | exact .inl ‹_› | exact .inr (decide_eq_false ‹_›))]) <;> (first | rfl | (simp only [refsL, refs, refs_gvec, refs_ivec, ren, ren_gvec, List.nil_append, List.append_nil, List.cons_append, List.map_cons, List.map_nil, upd_atB, upd_offB, Nat.reduceEqDiff, not_false_eq_true, ofHp, ixOf, if_true, Bool.and_self, Bool.true_and]; first | rfl | done) | (simp only [refsL, refs, refs_gvec, refs_ivec, ren, ren_gvec, List.nil_append, List.append_nil, List.cons_append, List.map_cons, List.map_nil, upd_atB, upd_offB, Nat.reduceEqDiff, not_false_eq_true, ofHp, ixOf, if_true, Bool.and_self, Bool.true_and]; simp; done)))
    | (refine ⟨[2], s + 1, ?_, ?_, ?_, ?_, by omega, by omega⟩ <;> (try rw [show findR (a.take (s + 1)) s1 t1 = findR (a.take s) s1 t1 ++ [a[s]!] from ft_yes (by omega) (by rw [Bool.and_eq_true]; exact ⟨‹_›, decide_eq_true ‹_›⟩)]) <;> (first | rfl | (simp only [refsL, refs, refs_gvec, refs_ivec, ren, ren_gvec, List.nil_append, List.append_nil, List.cons_append, List.map_cons, List.map_nil, upd_atB, upd_offB, Nat.reduceEqDiff, not_false_eq_true, ofHp, ixOf, if_true, Bool.and_self, Bool.true_and]; first | rfl | done) | (simp only [refsL, refs, refs_gvec, refs_ivec, ren, ren_gvec, List.nil_append, List.append_nil, List.cons_append, List.map_cons, List.map_nil, upd_atB, upd_offB, Nat.reduceEqDiff, not_false_eq_true, ofHp, ixOf, if_true, Bool.and_self, Bool.true_and]; simp; done)))
    | (first | rfl | (simp only [refsL, refs, refs_gvec, refs_ivec, ren, ren_gvec, List.nil_append, List.append_nil, List.cons_append, List.map_cons, List.map_nil, upd_atB, upd_offB, Nat.reduceEqDiff, not_false_eq_true, ofHp, ixOf, if_true, Bool.and_self, Bool.true_and]; first | rfl | done) | (simp only [refsL, refs, refs_gvec, refs_ivec, ren, ren_gvec, List.nil_append, List.append_nil, List.cons_append, List.map_cons, List.map_nil, upd_atB, upd_offB, Nat.reduceEqDiff, not_false_eq_true, ofHp, ixOf, if_true, Bool.and_self, Bool.true_and]; simp; done))
    | (rw [take_end (by omega)]; exact ⟨_, _, _, _, rfl, rfl, by simp, map_dry (fun _ => rfl), rfl⟩)
end Go.Mir
