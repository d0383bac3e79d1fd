/- What functions of the program answer, read off. -/
import Derived.Test.YtfnjjmdgjdpieaaWalk16
import Derived.Test.YtfnjjmdgjdpieaaMir3
import Derived.KernelRfl
set_option linter.unusedSimpArgs false
set_option linter.unusedVariables false
namespace Go.Mir
open Go Go.RowKit Go.Proofs
attribute [local congr] Ev.congr EvC.congr EvW.congr Br.congr Ms.congr
set_option maxRecDepth 100000
theorem bvn22 {E : Rec → D} {xs : List Rec} : binD Try.prog .eql 22 (vecE 16 E xs) .nils = if xs = [] then none else some (.bo false) := bin_vec_nil Try.underlying22
theorem ben22 {b : Bool} : binD Try.prog .eql 22 (.emp b) .nils = some (.bo (!b)) := bin_emp_nil Try.underlying22
theorem sre22 {b : Bool} : srcOk Try.prog 22 (.emp b) = true := src_emp Try.underlying22

noncomputable def FClA := mkF (fun s : (List Rec) => [recsE s]) (fun s => s ≠ [] ∧ s.length ≤ 1000000) (fun s => Res.flat (recsE s))
theorem FClA_eq {a : List Rec} (hp : a ≠ [] ∧ a.length ≤ 1000000) : FClA [recsE a] = some (Res.flat (recsE a)) := mkF_eq (s := (a)) (fun s s' h => by simp only [List.cons.injEq, D.it.injEq, D.st.injEq, D.bo.injEq, true_and, and_true, adr_iff, dat_iff, rec_iff, zone_iff, delta_iff, hist_iff, recs_iff, deltas_iff, strs_iff, ints_iff] at h; simp only [h]) hp
set_option maxHeartbeats 4000000 in
theorem runClA (cx : Cx) (hP : cx.P = Try.prog) (hbs : cx.bs = 0) (a : List Rec) (hl : a ≠ [] ∧ a.length ≤ 1000000) : pureRun cx Try.f16 [] false [recsE a] = some (Res.flat (recsE a)) := by
  have hl1 := hl.1; have hl2 := hl.2
  refine pure_vec (rs := [.tmp 2]) rfl hbs rfl ?_
  repeat' first
    | (refine br_mk (fun h => ?_) (fun h => ?_) <;> (try simp only [Bool.not_eq_true, Bool.not_eq_false, Classical.not_not] at h))
    | (refine ms_mk ?_ ?_)
    | simp only [↓cD, cU, cB, intOp, unD, minD_two, builtinD, idx, reduceCtorEq, ↓reduceIte, ofV, ofC, argEnv, Nat.reduceEqDiff, not_false_eq_true, flatL, cG, Bool.and_self,
      decide_true, decide_false, not_true_eq_false, false_and, false_implies, Option.map_some, Option.bind_some, Option.bind_none, Option.map_none, List.getElem?_toArray, List.toList_toArray, decide_eq_true_eq, decide_eq_false_iff_not, ge_iff_le, gt_iff_lt, and_true, true_and, implies_true, forall_const, true_or, or_true,
      immL, immD, Bool.true_and, Bool.and_true, Bool.false_and, Bool.and_false, Bool.true_or, Bool.or_true, Bool.false_or, Bool.or_false, Res.flat, ren, renL, List.length_nil, Nat.add_zero, List.map_cons, List.map_nil, List.nil_append, List.append_nil, List.cons_append, List.getElem?_cons_zero, List.getElem?_cons_succ, Bool.not_eq_true', Bool.not_true, Bool.not_false, Bool.not_eq_true, Bool.not_eq_false', Bool.not_eq_false, Bool.true_eq_false, Bool.false_eq_true, if_true, if_false, Int.reduceEq, Int.reduceLT, Int.reduceLE, Int.reduceNe, ite_self, or_false, false_or, or_self, eq_self, List.zip_cons_cons, List.zip_nil_left, deref, ldD, List.head?_cons, convD, shiftOp, strOp, bitsOp, cC, ↓neq37, ↓eql37, ↓neq39, ↓eql39, ↓neq41, ↓eql41, cV, cT, cF, cW, borT, borM, bor_agg, Res.via, List.size_toArray, List.isEmpty_cons, put_ap, putAll_one, elems_own, refsB, List.isEmpty_nil, Nat.reduceLT, Nat.reduceSub, Nat.reduceLeDiff, Nat.reduceMul, Nat.reduceAdd, Int.toNat_natCast, Int.reduceToNat, appK, nilRow, callX_bor, borL, bor_row, bor_one, take_map_len, List.drop_zero, map_snoc, map_app, fillE, cO, List.length_cons, List.length_replicate, List.length_append, List.length_map, List.replicate, List.set_cons_zero, List.set_cons_succ, List.take_zero, List.take_succ_cons, List.drop_succ_cons, Nat.zero_lt_succ, Option.isSome_some, partD, ofHp, ixOf, bvn22, ofV_nil, List.replicate_zero, fillE, Nat.zero_mul, hP, *]
  all_goals first
    | rfl
    | omega
    | (have h2 := hl.2; omega)
    | exact ⟨_, _, _, _, rfl, rfl, by simp, map_dry (fun _ => rfl), rfl⟩
noncomputable def FClB := mkF (fun s : Bool => [.emp s]) (fun s => True) (fun s => Res.flat (recsE []))
theorem FClB_eq {b : Bool} : FClB [.emp b] = some (Res.flat (recsE [])) := mkF_eq (s := (b)) (fun s s' h => rfl) trivial
set_option maxHeartbeats 4000000 in
theorem runClB (cx : Cx) (hP : cx.P = Try.prog) (hbs : cx.bs = 0) (b : Bool)  : pureRun cx Try.f16 [] false [.emp b] = some (Res.flat (recsE [])) := by
  refine pure_vec (rs := [.tmp 2]) rfl hbs rfl ?_
  repeat' first
    | (refine br_mk (fun h => ?_) (fun h => ?_) <;> (try simp only [Bool.not_eq_true, Bool.not_eq_false, Classical.not_not] at h))
    | (refine ms_mk ?_ ?_)
    | simp only [↓cD, cU, cB, intOp, unD, minD_two, builtinD, idx, reduceCtorEq, ↓reduceIte, ofV, ofC, argEnv, Nat.reduceEqDiff, not_false_eq_true, flatL, cG, Bool.and_self,
      decide_true, decide_false, not_true_eq_false, false_and, false_implies, Option.map_some, Option.bind_some, Option.bind_none, Option.map_none, List.getElem?_toArray, List.toList_toArray, decide_eq_true_eq, decide_eq_false_iff_not, ge_iff_le, gt_iff_lt, and_true, true_and, implies_true, forall_const, true_or, or_true,
      immL, immD, Bool.true_and, Bool.and_true, Bool.false_and, Bool.and_false, Bool.true_or, Bool.or_true, Bool.false_or, Bool.or_false, Res.flat, ren, renL, List.length_nil, Nat.add_zero, List.map_cons, List.map_nil, List.nil_append, List.append_nil, List.cons_append, List.getElem?_cons_zero, List.getElem?_cons_succ, Bool.not_eq_true', Bool.not_true, Bool.not_false, Bool.not_eq_true, Bool.not_eq_false', Bool.not_eq_false, Bool.true_eq_false, Bool.false_eq_true, if_true, if_false, Int.reduceEq, Int.reduceLT, Int.reduceLE, Int.reduceNe, ite_self, or_false, false_or, or_self, eq_self, List.zip_cons_cons, List.zip_nil_left, deref, ldD, List.head?_cons, convD, shiftOp, strOp, bitsOp, cC, ↓neq37, ↓eql37, ↓neq39, ↓eql39, ↓neq41, ↓eql41, cV, cT, cF, cW, borT, borM, bor_agg, Res.via, List.size_toArray, List.isEmpty_cons, put_ap, putAll_one, elems_own, refsB, List.isEmpty_nil, Nat.reduceLT, Nat.reduceSub, Nat.reduceLeDiff, Nat.reduceMul, Nat.reduceAdd, Int.toNat_natCast, Int.reduceToNat, appK, nilRow, callX_bor, borL, bor_row, bor_one, take_map_len, List.drop_zero, map_snoc, map_app, fillE, cO, List.length_cons, List.length_replicate, List.length_append, List.length_map, List.replicate, List.set_cons_zero, List.set_cons_succ, List.take_zero, List.take_succ_cons, List.drop_succ_cons, Nat.zero_lt_succ, Option.isSome_some, partD, ofHp, ixOf, ben22, sre22, elems_emp, ofV_nil, List.replicate_zero, fillE, Nat.zero_mul, hP, *]
  all_goals first
    | rfl
    | omega
    | exact ⟨_, _, _, _, rfl, rfl, rfl, rfl, rfl⟩
def soaX (z : Zone) (r : Rec) : Bool := if r.typ = 6 then r.name == z.origin else false
theorem elt_zone {z z' : Zone} : (D.elt (zoneL z) = D.elt (zoneL z')) = (z = z') := by
  have h := zone_iff z z'
  rw [← h]; simp only [zoneE, D.agg.injEq, D.elt.injEq]

noncomputable def FSoaX := mkF (fun s : Rec × Zone => [recE s.1, .elt (zoneL s.2)]) (fun s => True) (fun s => Res.flat (.bo (soaX s.2 s.1)))
theorem FSoaX_eq {r1 : Rec} {z : Zone} : FSoaX [recE r1, .elt (zoneL z)] = some (Res.flat (.bo (soaX z r1))) := mkF_eq (s := (r1, z)) (fun s s' h => by simp only [List.cons.injEq, D.it.injEq, D.st.injEq, D.bo.injEq, true_and, and_true, adr_iff, dat_iff, rec_iff, zone_iff, delta_iff, hist_iff, recs_iff, deltas_iff, strs_iff, ints_iff, elt_zone, D.fn.injEq] at h; simp only [h]) trivial
set_option maxHeartbeats 4000000 in
theorem runSoaX (cx : Cx) (hP : cx.P = Try.prog) (hbs : cx.bs = 0) (r1 : Rec) (z : Zone)  : pureRun cx Try.f56 [] false [recE r1, .elt (zoneL z)] = some (Res.flat (.bo (soaX z r1))) := by
  refine pure_flat (rs := [.tmp 3]) rfl hbs rfl ?_
  repeat' first
    | (refine br_mk (fun h => ?_) (fun h => ?_) <;> (try simp only [Bool.not_eq_true, Bool.not_eq_false, Classical.not_not] at h))
    | (refine ms_mk ?_ ?_)
    | simp only [↓cD, cU, cB, intOp, unD, minD_two, builtinD, idx, reduceCtorEq, ↓reduceIte, ofV, ofC, argEnv, Nat.reduceEqDiff, not_false_eq_true, flatL, cG, Bool.and_self,
      decide_true, decide_false, not_true_eq_false, false_and, false_implies, Option.map_some, Option.bind_some, Option.bind_none, Option.map_none, List.getElem?_toArray, List.toList_toArray, decide_eq_true_eq, decide_eq_false_iff_not, ge_iff_le, gt_iff_lt, and_true, true_and, implies_true, forall_const, true_or, or_true,
      immL, immD, Bool.true_and, Bool.and_true, Bool.false_and, Bool.and_false, Bool.true_or, Bool.or_true, Bool.false_or, Bool.or_false, Res.flat, ren, renL, List.length_nil, Nat.add_zero, List.map_cons, List.map_nil, List.nil_append, List.append_nil, List.cons_append, List.getElem?_cons_zero, List.getElem?_cons_succ, Bool.not_eq_true', Bool.not_true, Bool.not_false, Bool.not_eq_true, Bool.not_eq_false', Bool.not_eq_false, Bool.true_eq_false, Bool.false_eq_true, if_true, if_false, Int.reduceEq, Int.reduceLT, Int.reduceLE, Int.reduceNe, ite_self, or_false, false_or, or_self, eq_self, List.zip_cons_cons, List.zip_nil_left, deref, ldD, List.head?_cons, convD, shiftOp, strOp, bitsOp, cC, ↓neq37, ↓eql37, ↓neq39, ↓eql39, ↓neq41, ↓eql41, cV, cT, cF, cW, borT, borM, bor_agg, Res.via, List.size_toArray, List.isEmpty_cons, put_ap, putAll_one, elems_own, refsB, List.isEmpty_nil, Nat.reduceLT, Nat.reduceSub, Nat.reduceLeDiff, Nat.reduceMul, Nat.reduceAdd, Int.toNat_natCast, Int.reduceToNat, appK, nilRow, callX_bor, borL, bor_row, bor_one, take_map_len, List.drop_zero, map_snoc, map_app, fillE, cO, List.length_cons, List.length_replicate, List.length_append, List.length_map, List.replicate, List.set_cons_zero, List.set_cons_succ, List.take_zero, List.take_succ_cons, List.drop_succ_cons, Nat.zero_lt_succ, Option.isSome_some, partD, ofHp, ixOf, hP, *]
  all_goals first
    | rfl
    | (simp only [soaX, *, if_true, if_false]; done)
noncomputable def FIxR := mkF (fun s : (List Rec) × Zone => [recsE s.1, .fn (.func 56) [] [.elt (zoneL s.2)]]) (fun s => s.1.length ≤ 1000000) (fun s => Res.flat (.it .i64 (findI (soaX s.2) s.1)))
theorem FIxR_eq {a : List Rec} {z : Zone} (hp : a.length ≤ 1000000) : FIxR [recsE a, .fn (.func 56) [] [.elt (zoneL z)]] = some (Res.flat (.it .i64 (findI (soaX z) a))) := mkF_eq (s := (a, z)) (fun s s' h => by simp only [List.cons.injEq, D.it.injEq, D.st.injEq, D.bo.injEq, true_and, and_true, adr_iff, dat_iff, rec_iff, zone_iff, delta_iff, hist_iff, recs_iff, deltas_iff, strs_iff, ints_iff, elt_zone, D.fn.injEq] at h; simp only [h]) hp
set_option maxHeartbeats 4000000 in
theorem runIxR (cx : Cx) (hP : cx.P = Try.prog) (hbs : cx.bs = 0) (h56 : cx.orc 56 = some FSoaX) (hk2 : cx.kp 2 = some [0, 1, 7, 8]) (a : List Rec) (z : Zone) (hl : a.length ≤ 1000000) : pureRun cx Try.f55 [] false [recsE a, .fn (.func 56) [] [.elt (zoneL z)]] = some (Res.flat (.it .i64 (findI (soaX z) a))) := by
  have c56 := fun H nid l => (show callD cx 56 l H nid = _ from call_orc h56)
  have hw : ∀ k : Nat, (k : Int) < a.length → IntKind.i64.wrap ((k : Int) + 1) = ((k + 1 : Nat) : Int) := wrapS (by omega)
  refine pure_flat (rs := [.tmp 4]) rfl hbs rfl ?_
  repeat' first
    | (refine evX_loop_flat (σ := Nat) (fun s2 => [recsE a, .fn (.func 56) [] [.elt (zoneL z)], .it .i64 a.length, .it .i64 s2]) (fun s2 => s2 ≤ a.length ∧ (a.take s2).any (soaX z) = false) (fun s2 => a.length - s2) [0, 1, 7, 8] hbs (by exact hk2) (fun s2 => by simp only [refsL, refs, refs_ivec, refs_gvec, refs_vecE, List.append_nil]) (fun s2 j2 => ?_) (s := 0) ?_ ?_)
    | (refine br_mk (fun h => ?_) (fun h => ?_) <;> (try simp only [Bool.not_eq_true, Bool.not_eq_false, Classical.not_not] at h))
    | (refine ms_mk ?_ ?_)
    | simp only [↓cD, cU, cB, intOp, unD, minD_two, builtinD, idx, reduceCtorEq, ↓reduceIte, ofV, ofC, argEnv, Nat.reduceEqDiff, not_false_eq_true, flatL, cG, Bool.and_self,
      decide_true, decide_false, not_true_eq_false, false_and, false_implies, Option.map_some, Option.bind_some, Option.bind_none, Option.map_none, List.getElem?_toArray, List.toList_toArray, decide_eq_true_eq, decide_eq_false_iff_not, ge_iff_le, gt_iff_lt, and_true, true_and, implies_true, forall_const, true_or, or_true,
      immL, immD, Bool.true_and, Bool.and_true, Bool.false_and, Bool.and_false, Bool.true_or, Bool.or_true, Bool.false_or, Bool.or_false, Res.flat, ren, renL, List.length_nil, Nat.add_zero, List.map_cons, List.map_nil, List.nil_append, List.append_nil, List.cons_append, List.getElem?_cons_zero, List.getElem?_cons_succ, Bool.not_eq_true', Bool.not_true, Bool.not_false, Bool.not_eq_true, Bool.not_eq_false', Bool.not_eq_false, Bool.true_eq_false, Bool.false_eq_true, if_true, if_false, Int.reduceEq, Int.reduceLT, Int.reduceLE, Int.reduceNe, ite_self, or_false, false_or, or_self, eq_self, List.zip_cons_cons, List.zip_nil_left, deref, ldD, List.head?_cons, convD, shiftOp, strOp, bitsOp, cC, c56, callX_imm, callX_nil, FSoaX_eq, ↓neq37, ↓eql37, ↓neq39, ↓eql39, ↓neq41, ↓eql41, cV, cT, cF, cW, borT, borM, bor_agg, Res.via, List.size_toArray, List.isEmpty_cons, put_ap, putAll_one, elems_own, refsB, List.isEmpty_nil, Nat.reduceLT, Nat.reduceSub, Nat.reduceLeDiff, Nat.reduceMul, Nat.reduceAdd, Int.toNat_natCast, Int.reduceToNat, appK, nilRow, callX_bor, borL, bor_row, bor_one, take_map_len, List.drop_zero, map_snoc, map_app, fillE, cO, List.length_cons, List.length_replicate, List.length_append, List.length_map, List.replicate, List.set_cons_zero, List.set_cons_succ, List.take_zero, List.take_succ_cons, List.drop_succ_cons, Nat.zero_lt_succ, Option.isSome_some, partD, ofHp, ixOf, hw, hP, *]
  all_goals first
    | rfl
    | omega
    | exact ⟨Nat.zero_le _, rfl⟩
    | (refine ⟨_, rfl, ⟨by omega, by rw [any_step (by omega), j2.2, Bool.false_or]; exact ‹_›⟩, by omega⟩)
    | (rw [findI_at j2.2 (by omega) ‹_›])
    | (rw [take_end (by omega)] at j2; rw [findI_no j2.2])
noncomputable def FSix := mkF (fun s : Zone => [zoneE s]) (fun s => s.recs.length ≤ 1000000) (fun s => Res.flat (.it .i64 (findI (soaX s) s.recs)))
theorem FSix_eq {z : Zone} (hp : z.recs.length ≤ 1000000) : FSix [zoneE z] = some (Res.flat (.it .i64 (findI (soaX z) z.recs))) := mkF_eq (s := (z)) (fun s s' h => by simp only [List.cons.injEq, D.it.injEq, D.st.injEq, D.bo.injEq, true_and, and_true, adr_iff, dat_iff, rec_iff, zone_iff, delta_iff, hist_iff, recs_iff, deltas_iff, strs_iff, ints_iff] at h; simp only [h]) hp
set_option maxHeartbeats 4000000 in
theorem runSix (cx : Cx) (hP : cx.P = Try.prog) (hbs : cx.bs = 0) (h55 : cx.orc 55 = some FIxR) (z : Zone) (hl : z.recs.length ≤ 1000000) : pureRun cx Try.f33 [] false [zoneE z] = some (Res.flat (.it .i64 (findI (soaX z) z.recs))) := by
  have c55 := fun H nid l => (show callD cx 55 l H nid = _ from call_orc h55)
  refine pure_flat (rs := [.tmp 2]) rfl hbs rfl ?_
  repeat' first
    | (refine br_mk (fun h => ?_) (fun h => ?_) <;> (try simp only [Bool.not_eq_true, Bool.not_eq_false, Classical.not_not] at h))
    | (refine ms_mk ?_ ?_)
    | simp only [↓cD, cU, cB, intOp, unD, minD_two, builtinD, idx, reduceCtorEq, ↓reduceIte, ofV, ofC, argEnv, Nat.reduceEqDiff, not_false_eq_true, flatL, cG, Bool.and_self,
      decide_true, decide_false, not_true_eq_false, false_and, false_implies, Option.map_some, Option.bind_some, Option.bind_none, Option.map_none, List.getElem?_toArray, List.toList_toArray, decide_eq_true_eq, decide_eq_false_iff_not, ge_iff_le, gt_iff_lt, and_true, true_and, implies_true, forall_const, true_or, or_true,
      immL, immD, Bool.true_and, Bool.and_true, Bool.false_and, Bool.and_false, Bool.true_or, Bool.or_true, Bool.false_or, Bool.or_false, Res.flat, ren, renL, List.length_nil, Nat.add_zero, List.map_cons, List.map_nil, List.nil_append, List.append_nil, List.cons_append, List.getElem?_cons_zero, List.getElem?_cons_succ, Bool.not_eq_true', Bool.not_true, Bool.not_false, Bool.not_eq_true, Bool.not_eq_false', Bool.not_eq_false, Bool.true_eq_false, Bool.false_eq_true, if_true, if_false, Int.reduceEq, Int.reduceLT, Int.reduceLE, Int.reduceNe, ite_self, or_false, false_or, or_self, eq_self, List.zip_cons_cons, List.zip_nil_left, deref, ldD, List.head?_cons, convD, shiftOp, strOp, bitsOp, cC, c55, callX_imm, callX_nil, FIxR_eq, ↓neq37, ↓eql37, ↓neq39, ↓eql39, ↓neq41, ↓eql41, cV, cT, cF, cW, borT, borM, bor_agg, Res.via, List.size_toArray, List.isEmpty_cons, put_ap, putAll_one, elems_own, refsB, List.isEmpty_nil, Nat.reduceLT, Nat.reduceSub, Nat.reduceLeDiff, Nat.reduceMul, Nat.reduceAdd, Int.toNat_natCast, Int.reduceToNat, appK, nilRow, callX_bor, borL, bor_row, bor_one, take_map_len, List.drop_zero, map_snoc, map_app, fillE, cO, List.length_cons, List.length_replicate, List.length_append, List.length_map, List.replicate, List.set_cons_zero, List.set_cons_succ, List.take_zero, List.take_succ_cons, List.drop_succ_cons, Nat.zero_lt_succ, Option.isSome_some, partD, ofHp, ixOf, bor_fn, bor_ptr, bor_it, bor_bo, bor_st, bor_vecE, bor_elt, borM_imm, ofV_nil, hP, *]
  all_goals first
    | rfl
def serialP (z : Zone) : Int := if 0 ≤ findI (soaX z) z.recs then (z.recs[(findI (soaX z) z.recs).toNat]!).dat.a else 0
noncomputable def FSerP := mkF (fun s : Zone => [zoneE s]) (fun s => s.recs.length ≤ 1000000) (fun s => Res.flat (.it .i64 (serialP s)))
theorem FSerP_eq {z : Zone} (hp : z.recs.length ≤ 1000000) : FSerP [zoneE z] = some (Res.flat (.it .i64 (serialP z))) := mkF_eq (s := (z)) (fun s s' h => by simp only [List.cons.injEq, D.it.injEq, D.st.injEq, D.bo.injEq, true_and, and_true, adr_iff, dat_iff, rec_iff, zone_iff, delta_iff, hist_iff, recs_iff, deltas_iff, strs_iff, ints_iff] at h; simp only [h]) hp
set_option maxHeartbeats 4000000 in
theorem runSerP (cx : Cx) (hP : cx.P = Try.prog) (hbs : cx.bs = 0) (h33 : cx.orc 33 = some FSix) (z : Zone) (hl : z.recs.length ≤ 1000000) : pureRun cx Try.f19 [] false [zoneE z] = some (Res.flat (.it .i64 (serialP z))) := by
  have c33 := fun H nid l => (show callD cx 33 l H nid = _ from call_orc h33)
  have hix : 0 ≤ findI (soaX z) z.recs → ∀ (H : Hp) (k : IntKind), indexAddrD Try.prog H 22 (recsE z.recs) (.it k (findI (soaX z) z.recs)) = some (.elt (recE z.recs[(findI (soaX z) z.recs).toNat]!).cells) := fun h H k => by have h2 := findI_lt (p := soaX z) (l := z.recs); obtain ⟨j, hj⟩ := Int.eq_ofNat_of_zero_le h; rw [hj] at h2 ⊢; exact ixn_vecE Try.underlying22 sz41 rfl (by omega)
  refine pure_flat (rs := [.tmp 2]) rfl hbs rfl ?_
  repeat' first
    | (refine br_mk (fun h => ?_) (fun h => ?_) <;> (try simp only [Bool.not_eq_true, Bool.not_eq_false, Classical.not_not] at h))
    | (refine ms_mk ?_ ?_)
    | simp only [↓cD, cU, cB, intOp, unD, minD_two, builtinD, idx, reduceCtorEq, ↓reduceIte, ofV, ofC, argEnv, Nat.reduceEqDiff, not_false_eq_true, flatL, cG, Bool.and_self,
      decide_true, decide_false, not_true_eq_false, false_and, false_implies, Option.map_some, Option.bind_some, Option.bind_none, Option.map_none, List.getElem?_toArray, List.toList_toArray, decide_eq_true_eq, decide_eq_false_iff_not, ge_iff_le, gt_iff_lt, and_true, true_and, implies_true, forall_const, true_or, or_true,
      immL, immD, Bool.true_and, Bool.and_true, Bool.false_and, Bool.and_false, Bool.true_or, Bool.or_true, Bool.false_or, Bool.or_false, Res.flat, ren, renL, List.length_nil, Nat.add_zero, List.map_cons, List.map_nil, List.nil_append, List.append_nil, List.cons_append, List.getElem?_cons_zero, List.getElem?_cons_succ, Bool.not_eq_true', Bool.not_true, Bool.not_false, Bool.not_eq_true, Bool.not_eq_false', Bool.not_eq_false, Bool.true_eq_false, Bool.false_eq_true, if_true, if_false, Int.reduceEq, Int.reduceLT, Int.reduceLE, Int.reduceNe, ite_self, or_false, false_or, or_self, eq_self, List.zip_cons_cons, List.zip_nil_left, deref, ldD, List.head?_cons, convD, shiftOp, strOp, bitsOp, cC, c33, callX_imm, callX_nil, FSix_eq, ↓neq37, ↓eql37, ↓neq39, ↓eql39, ↓neq41, ↓eql41, cV, cT, cF, cW, borT, borM, bor_agg, Res.via, List.size_toArray, List.isEmpty_cons, put_ap, putAll_one, elems_own, refsB, List.isEmpty_nil, Nat.reduceLT, Nat.reduceSub, Nat.reduceLeDiff, Nat.reduceMul, Nat.reduceAdd, Int.toNat_natCast, Int.reduceToNat, appK, nilRow, callX_bor, borL, bor_row, bor_one, take_map_len, List.drop_zero, map_snoc, map_app, fillE, cO, List.length_cons, List.length_replicate, List.length_append, List.length_map, List.replicate, List.set_cons_zero, List.set_cons_succ, List.take_zero, List.take_succ_cons, List.drop_succ_cons, Nat.zero_lt_succ, Option.isSome_some, partD, ofHp, ixOf, hix, hP, *]
  all_goals first
    | rfl
    | (rw [serialP, if_pos ‹_›])
    | (rw [serialP, if_neg ‹_›])
def froX (n : Int) (d : Delta) : Bool := decide (d.fro = n)
theorem elt_int {k : IntKind} {a b : Int} : (D.elt [.it k a] = D.elt [.it k b]) = (a = b) := by simp only [D.elt.injEq, List.cons.injEq, D.it.injEq, true_and, and_true]

noncomputable def FFroX := mkF (fun s : Delta × Int => [deltaE s.1, .elt [.it .i64 s.2]]) (fun s => True) (fun s => Res.flat (.bo (froX s.2 s.1)))
theorem FFroX_eq {d : Delta} {n1 : Int} : FFroX [deltaE d, .elt [.it .i64 n1]] = some (Res.flat (.bo (froX n1 d))) := mkF_eq (s := (d, n1)) (fun s s' h => by simp only [List.cons.injEq, D.it.injEq, D.st.injEq, D.bo.injEq, true_and, and_true, adr_iff, dat_iff, rec_iff, zone_iff, delta_iff, hist_iff, recs_iff, deltas_iff, strs_iff, ints_iff, elt_int, D.fn.injEq] at h; simp only [h]) trivial
set_option maxHeartbeats 4000000 in
theorem runFroX (cx : Cx) (hP : cx.P = Try.prog) (hbs : cx.bs = 0) (d : Delta) (n1 : Int)  : pureRun cx Try.f23 [] false [deltaE d, .elt [.it .i64 n1]] = some (Res.flat (.bo (froX n1 d))) := by
  refine pure_flat (rs := [.tmp 3]) rfl hbs rfl ?_
  repeat' first
    | (refine br_mk (fun h => ?_) (fun h => ?_) <;> (try simp only [Bool.not_eq_true, Bool.not_eq_false, Classical.not_not] at h))
    | (refine ms_mk ?_ ?_)
    | simp only [↓cD, cU, cB, intOp, unD, minD_two, builtinD, idx, reduceCtorEq, ↓reduceIte, ofV, ofC, argEnv, Nat.reduceEqDiff, not_false_eq_true, flatL, cG, Bool.and_self,
      decide_true, decide_false, not_true_eq_false, false_and, false_implies, Option.map_some, Option.bind_some, Option.bind_none, Option.map_none, List.getElem?_toArray, List.toList_toArray, decide_eq_true_eq, decide_eq_false_iff_not, ge_iff_le, gt_iff_lt, and_true, true_and, implies_true, forall_const, true_or, or_true,
      immL, immD, Bool.true_and, Bool.and_true, Bool.false_and, Bool.and_false, Bool.true_or, Bool.or_true, Bool.false_or, Bool.or_false, Res.flat, ren, renL, List.length_nil, Nat.add_zero, List.map_cons, List.map_nil, List.nil_append, List.append_nil, List.cons_append, List.getElem?_cons_zero, List.getElem?_cons_succ, Bool.not_eq_true', Bool.not_true, Bool.not_false, Bool.not_eq_true, Bool.not_eq_false', Bool.not_eq_false, Bool.true_eq_false, Bool.false_eq_true, if_true, if_false, Int.reduceEq, Int.reduceLT, Int.reduceLE, Int.reduceNe, ite_self, or_false, false_or, or_self, eq_self, List.zip_cons_cons, List.zip_nil_left, deref, ldD, List.head?_cons, convD, shiftOp, strOp, bitsOp, cC, ↓neq37, ↓eql37, ↓neq39, ↓eql39, ↓neq41, ↓eql41, cV, cT, cF, cW, borT, borM, bor_agg, Res.via, List.size_toArray, List.isEmpty_cons, put_ap, putAll_one, elems_own, refsB, List.isEmpty_nil, Nat.reduceLT, Nat.reduceSub, Nat.reduceLeDiff, Nat.reduceMul, Nat.reduceAdd, Int.toNat_natCast, Int.reduceToNat, appK, nilRow, callX_bor, borL, bor_row, bor_one, take_map_len, List.drop_zero, map_snoc, map_app, fillE, cO, List.length_cons, List.length_replicate, List.length_append, List.length_map, List.replicate, List.set_cons_zero, List.set_cons_succ, List.take_zero, List.take_succ_cons, List.drop_succ_cons, Nat.zero_lt_succ, Option.isSome_some, partD, ofHp, ixOf, hP, *]
  all_goals first
    | rfl
    | (simp only [froX, *, decide_true, decide_false]; done)
noncomputable def FIxD := mkF (fun s : (List Delta) × Int => [deltasE s.1, .fn (.func 23) [] [.elt [.it .i64 s.2]]]) (fun s => s.1.length ≤ 1000000) (fun s => Res.flat (.it .i64 (findI (froX s.2) s.1)))
theorem FIxD_eq {l : List Delta} {n1 : Int} (hp : l.length ≤ 1000000) : FIxD [deltasE l, .fn (.func 23) [] [.elt [.it .i64 n1]]] = some (Res.flat (.it .i64 (findI (froX n1) l))) := mkF_eq (s := (l, n1)) (fun s s' h => by simp only [List.cons.injEq, D.it.injEq, D.st.injEq, D.bo.injEq, true_and, and_true, adr_iff, dat_iff, rec_iff, zone_iff, delta_iff, hist_iff, recs_iff, deltas_iff, strs_iff, ints_iff, elt_int, D.fn.injEq] at h; simp only [h]) hp
set_option maxHeartbeats 4000000 in
theorem runIxD (cx : Cx) (hP : cx.P = Try.prog) (hbs : cx.bs = 0) (h23 : cx.orc 23 = some FFroX) (hk2 : cx.kp 2 = some [0, 1, 7, 8]) (l : List Delta) (n1 : Int) (hl : l.length ≤ 1000000) : pureRun cx Try.f37 [] false [deltasE l, .fn (.func 23) [] [.elt [.it .i64 n1]]] = some (Res.flat (.it .i64 (findI (froX n1) l))) := by
  have c23 := fun H nid l => (show callD cx 23 l H nid = _ from call_orc h23)
  have hw : ∀ k : Nat, (k : Int) < l.length → IntKind.i64.wrap ((k : Int) + 1) = ((k + 1 : Nat) : Int) := wrapS (by omega)
  refine pure_flat (rs := [.tmp 4]) rfl hbs rfl ?_
  repeat' first
    | (refine evX_loop_flat (σ := Nat) (fun s2 => [deltasE l, .fn (.func 23) [] [.elt [.it .i64 n1]], .it .i64 l.length, .it .i64 s2]) (fun s2 => s2 ≤ l.length ∧ (l.take s2).any (froX n1) = false) (fun s2 => l.length - s2) [0, 1, 7, 8] hbs (by exact hk2) (fun s2 => by simp only [refsL, refs, refs_ivec, refs_gvec, refs_vecE, List.append_nil]) (fun s2 j2 => ?_) (s := 0) ?_ ?_)
    | (refine br_mk (fun h => ?_) (fun h => ?_) <;> (try simp only [Bool.not_eq_true, Bool.not_eq_false, Classical.not_not] at h))
    | (refine ms_mk ?_ ?_)
    | simp only [↓cD, cU, cB, intOp, unD, minD_two, builtinD, idx, reduceCtorEq, ↓reduceIte, ofV, ofC, argEnv, Nat.reduceEqDiff, not_false_eq_true, flatL, cG, Bool.and_self,
      decide_true, decide_false, not_true_eq_false, false_and, false_implies, Option.map_some, Option.bind_some, Option.bind_none, Option.map_none, List.getElem?_toArray, List.toList_toArray, decide_eq_true_eq, decide_eq_false_iff_not, ge_iff_le, gt_iff_lt, and_true, true_and, implies_true, forall_const, true_or, or_true,
      immL, immD, Bool.true_and, Bool.and_true, Bool.false_and, Bool.and_false, Bool.true_or, Bool.or_true, Bool.false_or, Bool.or_false, Res.flat, ren, renL, List.length_nil, Nat.add_zero, List.map_cons, List.map_nil, List.nil_append, List.append_nil, List.cons_append, List.getElem?_cons_zero, List.getElem?_cons_succ, Bool.not_eq_true', Bool.not_true, Bool.not_false, Bool.not_eq_true, Bool.not_eq_false', Bool.not_eq_false, Bool.true_eq_false, Bool.false_eq_true, if_true, if_false, Int.reduceEq, Int.reduceLT, Int.reduceLE, Int.reduceNe, ite_self, or_false, false_or, or_self, eq_self, List.zip_cons_cons, List.zip_nil_left, deref, ldD, List.head?_cons, convD, shiftOp, strOp, bitsOp, cC, c23, callX_imm, callX_nil, FFroX_eq, ↓neq37, ↓eql37, ↓neq39, ↓eql39, ↓neq41, ↓eql41, cV, cT, cF, cW, borT, borM, bor_agg, Res.via, List.size_toArray, List.isEmpty_cons, put_ap, putAll_one, elems_own, refsB, List.isEmpty_nil, Nat.reduceLT, Nat.reduceSub, Nat.reduceLeDiff, Nat.reduceMul, Nat.reduceAdd, Int.toNat_natCast, Int.reduceToNat, appK, nilRow, callX_bor, borL, bor_row, bor_one, take_map_len, List.drop_zero, map_snoc, map_app, fillE, cO, List.length_cons, List.length_replicate, List.length_append, List.length_map, List.replicate, List.set_cons_zero, List.set_cons_succ, List.take_zero, List.take_succ_cons, List.drop_succ_cons, Nat.zero_lt_succ, Option.isSome_some, partD, ofHp, ixOf, hw, hP, *]
  all_goals first
    | rfl
    | omega
    | exact ⟨Nat.zero_le _, rfl⟩
    | (refine ⟨_, rfl, ⟨by omega, by rw [any_step (by omega), j2.2, Bool.false_or]; exact ‹_›⟩, by omega⟩)
    | (rw [findI_at j2.2 (by omega) ‹_›])
    | (rw [take_end (by omega)] at j2; rw [findI_no j2.2])
noncomputable def FCont := mkF (fun s : (List Delta) × Int => [deltasE s.1, .fn (.func 23) [] [.elt [.it .i64 s.2]]]) (fun s => s.1.length ≤ 1000000) (fun s => Res.flat (.bo (decide (0 ≤ findI (froX s.2) s.1))))
theorem FCont_eq {l : List Delta} {n1 : Int} (hp : l.length ≤ 1000000) : FCont [deltasE l, .fn (.func 23) [] [.elt [.it .i64 n1]]] = some (Res.flat (.bo (decide (0 ≤ findI (froX n1) l)))) := mkF_eq (s := (l, n1)) (fun s s' h => by simp only [List.cons.injEq, D.it.injEq, D.st.injEq, D.bo.injEq, true_and, and_true, adr_iff, dat_iff, rec_iff, zone_iff, delta_iff, hist_iff, recs_iff, deltas_iff, strs_iff, ints_iff, elt_int, D.fn.injEq] at h; simp only [h]) hp
set_option maxHeartbeats 4000000 in
theorem runCont (cx : Cx) (hP : cx.P = Try.prog) (hbs : cx.bs = 0) (h37 : cx.orc 37 = some FIxD) (l : List Delta) (n1 : Int) (hl : l.length ≤ 1000000) : pureRun cx Try.f22 [] false [deltasE l, .fn (.func 23) [] [.elt [.it .i64 n1]]] = some (Res.flat (.bo (decide (0 ≤ findI (froX n1) l)))) := by
  have c37 := fun H nid l => (show callD cx 37 l H nid = _ from call_orc h37)
  refine pure_flat (rs := [.tmp 4]) rfl hbs rfl ?_
  repeat' first
    | (refine br_mk (fun h => ?_) (fun h => ?_) <;> (try simp only [Bool.not_eq_true, Bool.not_eq_false, Classical.not_not] at h))
    | (refine ms_mk ?_ ?_)
    | simp only [↓cD, cU, cB, intOp, unD, minD_two, builtinD, idx, reduceCtorEq, ↓reduceIte, ofV, ofC, argEnv, Nat.reduceEqDiff, not_false_eq_true, flatL, cG, Bool.and_self,
      decide_true, decide_false, not_true_eq_false, false_and, false_implies, Option.map_some, Option.bind_some, Option.bind_none, Option.map_none, List.getElem?_toArray, List.toList_toArray, decide_eq_true_eq, decide_eq_false_iff_not, ge_iff_le, gt_iff_lt, and_true, true_and, implies_true, forall_const, true_or, or_true,
      immL, immD, Bool.true_and, Bool.and_true, Bool.false_and, Bool.and_false, Bool.true_or, Bool.or_true, Bool.false_or, Bool.or_false, Res.flat, ren, renL, List.length_nil, Nat.add_zero, List.map_cons, List.map_nil, List.nil_append, List.append_nil, List.cons_append, List.getElem?_cons_zero, List.getElem?_cons_succ, Bool.not_eq_true', Bool.not_true, Bool.not_false, Bool.not_eq_true, Bool.not_eq_false', Bool.not_eq_false, Bool.true_eq_false, Bool.false_eq_true, if_true, if_false, Int.reduceEq, Int.reduceLT, Int.reduceLE, Int.reduceNe, ite_self, or_false, false_or, or_self, eq_self, List.zip_cons_cons, List.zip_nil_left, deref, ldD, List.head?_cons, convD, shiftOp, strOp, bitsOp, cC, c37, callX_imm, callX_nil, FIxD_eq, ↓neq37, ↓eql37, ↓neq39, ↓eql39, ↓neq41, ↓eql41, cV, cT, cF, cW, borT, borM, bor_agg, Res.via, List.size_toArray, List.isEmpty_cons, put_ap, putAll_one, elems_own, refsB, List.isEmpty_nil, Nat.reduceLT, Nat.reduceSub, Nat.reduceLeDiff, Nat.reduceMul, Nat.reduceAdd, Int.toNat_natCast, Int.reduceToNat, appK, nilRow, callX_bor, borL, bor_row, bor_one, take_map_len, List.drop_zero, map_snoc, map_app, fillE, cO, List.length_cons, List.length_replicate, List.length_append, List.length_map, List.replicate, List.set_cons_zero, List.set_cons_succ, List.take_zero, List.take_succ_cons, List.drop_succ_cons, Nat.zero_lt_succ, Option.isSome_some, partD, ofHp, ixOf, bor_fn, bor_ptr, bor_it, bor_bo, bor_st, bor_vecE, bor_elt, borM_imm, ofV_nil, hP, *]
  all_goals first
    | rfl
end Go.Mir
