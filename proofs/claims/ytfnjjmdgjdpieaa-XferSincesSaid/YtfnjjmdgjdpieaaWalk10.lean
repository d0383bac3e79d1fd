/- What functions of the program answer, read off. -/
import Derived.Test.YtfnjjmdgjdpieaaWalk9
import Derived.KernelRfl
set_option linter.unusedSimpArgs false
set_option linter.unusedVariables false
namespace Go.Mir
open Go Go.RowKit Go.Proofs
attribute [local congr] Ev.congr EvC.congr EvW.congr Br.congr Ms.congr
set_option maxRecDepth 100000
def ZSm (z : Zone) : Prop := Sm z.origin ∧ LSm z.recs
def belowB (n top : List UInt8) : Bool := !(n == top) && underB n top
def hasR (l : List Rec) (n : List UInt8) (t : Int) : Bool := decide (0 < ((findR l n t).length : Int))
def serialZ (z : Zone) : Int := if ((findR z.recs z.origin 6).length : Int) = 0 then 0 else ((findR z.recs z.origin 6)[0]!).dat.a
theorem zone_flat (z : Zone) : flatRow (.box (zoneL z)) := by intro x hx; simp [zoneL] at hx; rcases hx with rfl | rfl <;> rfl
theorem rec_flat (r : Rec) : flatRow (.box (recL r)) := by intro x hx; simp [recL] at hx; rcases hx with rfl | rfl | rfl | rfl | rfl | rfl | rfl | rfl | rfl | rfl | rfl | rfl | rfl | rfl | rfl | rfl <;> rfl
def besX (r x : Rec) : Bool := if ¬ x.name = r.name then true else if x.typ = r.typ ∧ ¬ r.typ = 46 ∧ ¬ x.ttl = r.ttl then false else
  if x.typ = r.typ ∧ single r.typ = true ∧ ¬ x = r then false else if r.typ = 5 ∧ ¬ x.typ = 5 ∧ ¬ x.typ = 46 ∧ ¬ x.typ = 47 then false else true
def besideR (l : List Rec) (r : Rec) : Bool := l.all (besX r)
theorem all_no {α : Type} [Inhabited α] {l : List α} {p : α → Bool} {i : Nat} (h : (i : Int) < l.length) (hp : p l[i]! = false) : l.all p = false := by
  cases ha : l.all p with
  | false => rfl
  | true => rw [List.all_eq_true.1 ha _ (mem_at h)] at hp; cases hp

noncomputable def FBelow := mkF (fun s : (List UInt8) × (List UInt8) => [.st s.1, .st s.2]) (fun s => Sm s.1 ∧ Sm s.2) (fun s => Res.flat (.bo (belowB s.1 s.2)))
theorem FBelow_eq {s1 : List UInt8} {s2 : List UInt8} (hp : Sm s1 ∧ Sm s2) : FBelow [.st s1, .st s2] = some (Res.flat (.bo (belowB s1 s2))) := mkF_eq (s := (s1, s2)) (fun s s' h => by simp only [List.cons.injEq, D.it.injEq, D.st.injEq, D.bo.injEq, true_and, and_true, adr_iff, dat_iff, rec_iff, zone_iff, delta_iff, hist_iff, recs_iff, deltas_iff, strs_iff, ints_iff] at h; simp only [h]) hp
set_option maxHeartbeats 4000000 in
theorem runBelow (cx : Cx) (hP : cx.P = Try.prog) (hbs : cx.bs = 0) (h44 : cx.orc 44 = some FUnder) (s1 s2 : List UInt8) (hl : Sm s1 ∧ Sm s2) : pureRun cx Try.f65 [] false [.st s1, .st s2] = some (Res.flat (.bo (belowB s1 s2))) := by
  have c44 := fun H nid l => (show callD cx 44 l H nid = _ from call_orc h44)
  have hl1 := hl.1; have hl2 := hl.2
  refine pure_flat (rs := [.tmp 4]) rfl hbs rfl ?_
  repeat' first
    | (refine br_mk (fun h => ?_) (fun h => ?_) <;> (try simp only [Bool.not_eq_true, Bool.not_eq_false, Classical.not_not] at h))
    | (refine ms_mk ?_ ?_)
    | simp only [↓cD, cU, cB, intOp, unD, minD_two, builtinD, idx, reduceCtorEq, ↓reduceIte, ofV, ofC, argEnv, Nat.reduceEqDiff, not_false_eq_true, flatL, cG, Bool.and_self,
      decide_true, decide_false, not_true_eq_false, false_and, false_implies, Option.map_some, Option.bind_some, Option.bind_none, Option.map_none, List.getElem?_toArray, List.toList_toArray, decide_eq_true_eq, decide_eq_false_iff_not, ge_iff_le, gt_iff_lt, and_true, true_and, implies_true, forall_const, true_or, or_true,
      immL, immD, Bool.true_and, Bool.and_true, Bool.false_and, Bool.and_false, Bool.true_or, Bool.or_true, Bool.false_or, Bool.or_false, Res.flat, ren, renL, List.length_nil, Nat.add_zero, List.map_cons, List.map_nil, List.nil_append, List.append_nil, List.cons_append, List.getElem?_cons_zero, List.getElem?_cons_succ, Bool.not_eq_true', Bool.not_true, Bool.not_false, Bool.not_eq_true, Bool.not_eq_false', Bool.not_eq_false, Bool.true_eq_false, Bool.false_eq_true, if_true, if_false, Int.reduceEq, Int.reduceLT, Int.reduceLE, Int.reduceNe, ite_self, or_false, false_or, or_self, eq_self, List.zip_cons_cons, List.zip_nil_left, deref, ldD, List.head?_cons, convD, shiftOp, strOp, bitsOp, cC, c44, callX_imm, callX_nil, FUnder_eq, ↓neq37, ↓eql37, ↓neq39, ↓eql39, ↓neq41, ↓eql41, cV, cT, cF, cW, borT, borM, bor_agg, Res.via, List.size_toArray, List.isEmpty_cons, put_ap, putAll_one, elems_own, refsB, List.isEmpty_nil, Nat.reduceLT, Nat.reduceSub, Nat.reduceLeDiff, Nat.reduceMul, Nat.reduceAdd, Int.toNat_natCast, Int.reduceToNat, appK, nilRow, callX_bor, borL, bor_row, bor_one, take_map_len, List.drop_zero, map_snoc, map_app, fillE, cO, List.length_cons, List.length_replicate, List.length_append, List.length_map, List.replicate, List.set_cons_zero, List.set_cons_succ, List.take_zero, List.take_succ_cons, List.drop_succ_cons, Nat.zero_lt_succ, Option.isSome_some, partD, ofHp, ixOf, hl1, hl2, hP, *]
  all_goals first
    | rfl
    | (simp [belowB, *]; done)
    | (simp [belowB, *]; omega)
noncomputable def FHas := mkF (fun s : (List Rec) × (List UInt8) × Int => [recsE s.1, .st s.2.1, .it .i64 s.2.2]) (fun s => s.1.length ≤ 1000000) (fun s => Res.flat (.bo (hasR s.1 s.2.1 s.2.2)))
theorem FHas_eq {a : List Rec} {s1 : List UInt8} {t1 : Int} (hp : a.length ≤ 1000000) : FHas [recsE a, .st s1, .it .i64 t1] = some (Res.flat (.bo (hasR a s1 t1))) := mkF_eq (s := (a, s1, t1)) (fun s s' h => by simp only [List.cons.injEq, D.it.injEq, D.st.injEq, D.bo.injEq, true_and, and_true, adr_iff, dat_iff, rec_iff, zone_iff, delta_iff, hist_iff, recs_iff, deltas_iff, strs_iff, ints_iff] at h; simp only [h]) hp
set_option maxHeartbeats 4000000 in
theorem runHas (cx : Cx) (hP : cx.P = Try.prog) (hbs : cx.bs = 0) (h39 : cx.orc 39 = some FFind) (a : List Rec) (s1 : List UInt8) (t1 : Int) (hl : a.length ≤ 1000000) : pureRun cx Try.f43 [] false [recsE a, .st s1, .it .i64 t1] = some (Res.flat (.bo (hasR a s1 t1))) := by
  have c39 := fun H nid l => (show callD cx 39 l H nid = _ from call_orc h39)
  refine pure_flat (rs := [.tmp 6]) rfl hbs rfl ?_
  repeat' first
    | (refine br_mk (fun h => ?_) (fun h => ?_) <;> (try simp only [Bool.not_eq_true, Bool.not_eq_false, Classical.not_not] at h))
    | (refine ms_mk ?_ ?_)
    | simp only [↓cD, cU, cB, intOp, unD, minD_two, builtinD, idx, reduceCtorEq, ↓reduceIte, ofV, ofC, argEnv, Nat.reduceEqDiff, not_false_eq_true, flatL, cG, Bool.and_self,
      decide_true, decide_false, not_true_eq_false, false_and, false_implies, Option.map_some, Option.bind_some, Option.bind_none, Option.map_none, List.getElem?_toArray, List.toList_toArray, decide_eq_true_eq, decide_eq_false_iff_not, ge_iff_le, gt_iff_lt, and_true, true_and, implies_true, forall_const, true_or, or_true,
      immL, immD, Bool.true_and, Bool.and_true, Bool.false_and, Bool.and_false, Bool.true_or, Bool.or_true, Bool.false_or, Bool.or_false, Res.flat, ren, renL, List.length_nil, Nat.add_zero, List.map_cons, List.map_nil, List.nil_append, List.append_nil, List.cons_append, List.getElem?_cons_zero, List.getElem?_cons_succ, Bool.not_eq_true', Bool.not_true, Bool.not_false, Bool.not_eq_true, Bool.not_eq_false', Bool.not_eq_false, Bool.true_eq_false, Bool.false_eq_true, if_true, if_false, Int.reduceEq, Int.reduceLT, Int.reduceLE, Int.reduceNe, ite_self, or_false, false_or, or_self, eq_self, List.zip_cons_cons, List.zip_nil_left, deref, ldD, List.head?_cons, convD, shiftOp, strOp, bitsOp, cC, c39, callX_imm, callX_nil, FFind_eq, ↓neq37, ↓eql37, ↓neq39, ↓eql39, ↓neq41, ↓eql41, cV, cT, cF, cW, borT, borM, bor_agg, Res.via, List.size_toArray, List.isEmpty_cons, put_ap, putAll_one, elems_own, refsB, List.isEmpty_nil, Nat.reduceLT, Nat.reduceSub, Nat.reduceLeDiff, Nat.reduceMul, Nat.reduceAdd, Int.toNat_natCast, Int.reduceToNat, appK, nilRow, callX_bor, borL, bor_row, bor_one, take_map_len, List.drop_zero, map_snoc, map_app, fillE, cO, List.length_cons, List.length_replicate, List.length_append, List.length_map, List.replicate, List.set_cons_zero, List.set_cons_succ, List.take_zero, List.take_succ_cons, List.drop_succ_cons, Nat.zero_lt_succ, Option.isSome_some, partD, ofHp, ixOf, Res.row, Res.rowd, hP, *]
  all_goals first
    | rfl
    | (simp [hasR, *]; done)
    | (simp [hasR, *]; omega)
noncomputable def FSerZ := mkF (fun s : Zone => [zoneE s]) (fun s => ZSm s) (fun s => Res.flat (.it .i64 (serialZ s)))
theorem FSerZ_eq {z : Zone} (hp : ZSm z) : FSerZ [zoneE z] = some (Res.flat (.it .i64 (serialZ z))) := mkF_eq (s := (z)) (fun s s' h => by simp only [List.cons.injEq, D.it.injEq, D.st.injEq, D.bo.injEq, true_and, and_true, adr_iff, dat_iff, rec_iff, zone_iff, delta_iff, hist_iff, recs_iff, deltas_iff, strs_iff, ints_iff] at h; simp only [h]) hp
set_option maxHeartbeats 4000000 in
theorem runSerZ (cx : Cx) (hP : cx.P = Try.prog) (hbs : cx.bs = 0) (h39 : cx.orc 39 = some FFind) (z : Zone) (hl : ZSm z) : pureRun cx Try.f26 [] false [zoneE z] = some (Res.flat (.it .i64 (serialZ z))) := by
  have c39 := fun H nid l => (show callD cx 39 l H nid = _ from call_orc h39)
  have hll := hl.2.1
  have hel : ¬ ((findR z.recs z.origin 6).length : Int) = 0 → ((findR z.recs z.origin 6).map recE)[0]? = some (recE (findR z.recs z.origin 6)[0]!) := fun h => getm (by omega)
  have hpos : ¬ ((findR z.recs z.origin 6).length : Int) = 0 → ((0 : Int) < ((findR z.recs z.origin 6).length : Int)) = True := fun h => by simp only [eq_iff_iff, iff_true]; omega
  refine pure_flat (rs := [.tmp 2]) rfl hbs rfl ?_
  repeat' first
    | (refine br_mk (fun h => ?_) (fun h => ?_) <;> (try simp only [Bool.not_eq_true, Bool.not_eq_false, Classical.not_not] at h))
    | (refine ms_mk ?_ ?_)
    | simp only [↓cD, cU, cB, intOp, unD, minD_two, builtinD, idx, reduceCtorEq, ↓reduceIte, ofV, ofC, argEnv, Nat.reduceEqDiff, not_false_eq_true, flatL, cG, Bool.and_self,
      decide_true, decide_false, not_true_eq_false, false_and, false_implies, Option.map_some, Option.bind_some, Option.bind_none, Option.map_none, List.getElem?_toArray, List.toList_toArray, decide_eq_true_eq, decide_eq_false_iff_not, ge_iff_le, gt_iff_lt, and_true, true_and, implies_true, forall_const, true_or, or_true,
      immL, immD, Bool.true_and, Bool.and_true, Bool.false_and, Bool.and_false, Bool.true_or, Bool.or_true, Bool.false_or, Bool.or_false, Res.flat, ren, renL, List.length_nil, Nat.add_zero, List.map_cons, List.map_nil, List.nil_append, List.append_nil, List.cons_append, List.getElem?_cons_zero, List.getElem?_cons_succ, Bool.not_eq_true', Bool.not_true, Bool.not_false, Bool.not_eq_true, Bool.not_eq_false', Bool.not_eq_false, Bool.true_eq_false, Bool.false_eq_true, if_true, if_false, Int.reduceEq, Int.reduceLT, Int.reduceLE, Int.reduceNe, ite_self, or_false, false_or, or_self, eq_self, List.zip_cons_cons, List.zip_nil_left, deref, ldD, List.head?_cons, convD, shiftOp, strOp, bitsOp, cC, c39, callX_imm, callX_nil, FFind_eq, ↓neq37, ↓eql37, ↓neq39, ↓eql39, ↓neq41, ↓eql41, cV, cT, cF, cW, borT, borM, bor_agg, Res.via, List.size_toArray, List.isEmpty_cons, put_ap, putAll_one, elems_own, refsB, List.isEmpty_nil, Nat.reduceLT, Nat.reduceSub, Nat.reduceLeDiff, Nat.reduceMul, Nat.reduceAdd, Int.toNat_natCast, Int.reduceToNat, appK, nilRow, callX_bor, borL, bor_row, bor_one, take_map_len, List.drop_zero, map_snoc, map_app, fillE, cO, List.length_cons, List.length_replicate, List.length_append, List.length_map, List.replicate, List.set_cons_zero, List.set_cons_succ, List.take_zero, List.take_succ_cons, List.drop_succ_cons, Nat.zero_lt_succ, Option.isSome_some, partD, ofHp, ixOf, hll, hel, hpos, Res.row, Res.rowd, hP, *]
  all_goals first
    | (rw [serialZ, if_neg ‹_›])
    | (rw [serialZ, if_pos ‹_›])
noncomputable def FBes := mkF (fun s : Zone × Rec => [zoneE s.1, recE s.2]) (fun s => ZSm s.1 ∧ RSm s.2) (fun s => Res.flat (.bo (besideR s.1.recs s.2)))
theorem FBes_eq {z : Zone} {r1 : Rec} (hp : ZSm z ∧ RSm r1) : FBes [zoneE z, recE r1] = some (Res.flat (.bo (besideR z.recs r1))) := mkF_eq (s := (z, r1)) (fun s s' h => by simp only [List.cons.injEq, D.it.injEq, D.st.injEq, D.bo.injEq, true_and, and_true, adr_iff, dat_iff, rec_iff, zone_iff, delta_iff, hist_iff, recs_iff, deltas_iff, strs_iff, ints_iff] at h; simp only [h]) hp
set_option maxHeartbeats 4000000 in
theorem runBes (cx : Cx) (hP : cx.P = Try.prog) (hbs : cx.bs = 0) (h63 : cx.orc 63 = some FSingle) (hk2 : cx.kp 2 = some [2, 3, 5]) (z : Zone) (r1 : Rec) (hl : ZSm z ∧ RSm r1) : pureRun cx Try.f45 [] false [zoneE z, recE r1] = some (Res.flat (.bo (besideR z.recs r1))) := by
  have c63 := fun H nid l => (show callD cx 63 l H nid = _ from call_orc h63)
  have hll := hl.1.2.1
  have hw : ∀ k : Nat, (k : Int) < z.recs.length → IntKind.i64.wrap ((k : Int) + 1) = ((k + 1 : Nat) : Int) := wrapS hl.1.2.sm
  refine pure_flat (rs := [.tmp 4]) rfl hbs rfl ?_
  repeat' first
    | (refine evX_loop_rows (σ := Nat) (fun i => [.ptr 0 0, .ptr 1 0, .it .i64 i]) (fun i => [.box (zoneL z), .box (recL r1)]) (fun i => i ≤ z.recs.length ∧ (z.recs.take i).all (besX r1) = true) (fun i => z.recs.length - i) [2, 3, 5] hbs (by exact hk2) (fun q jq b hb => by simp only [List.mem_cons, List.not_mem_nil, or_false] at hb; rcases hb with rfl | rfl; exact zone_flat z; exact rec_flat r1) (fun i ji => ?_) (s := 0) [0, 1] ?_ ?_ ?_ ?_ ?_)
    | (refine br_mk (fun h => ?_) (fun h => ?_) <;> (try simp only [Bool.not_eq_true, Bool.not_eq_false, Classical.not_not] at h))
    | (refine ms_mk ?_ ?_)
    | simp only [↓cD, cU, cB, intOp, unD, minD_two, builtinD, idx, reduceCtorEq, ↓reduceIte, ofV, ofC, argEnv, Nat.reduceEqDiff, not_false_eq_true, flatL, cG, Bool.and_self,
      decide_true, decide_false, not_true_eq_false, false_and, false_implies, Option.map_some, Option.bind_some, Option.bind_none, Option.map_none, List.getElem?_toArray, List.toList_toArray, decide_eq_true_eq, decide_eq_false_iff_not, ge_iff_le, gt_iff_lt, and_true, true_and, implies_true, forall_const, true_or, or_true,
      immL, immD, Bool.true_and, Bool.and_true, Bool.false_and, Bool.and_false, Bool.true_or, Bool.or_true, Bool.false_or, Bool.or_false, Res.flat, ren, renL, List.length_nil, Nat.add_zero, List.map_cons, List.map_nil, List.nil_append, List.append_nil, List.cons_append, List.getElem?_cons_zero, List.getElem?_cons_succ, Bool.not_eq_true', Bool.not_true, Bool.not_false, Bool.not_eq_true, Bool.not_eq_false', Bool.not_eq_false, Bool.true_eq_false, Bool.false_eq_true, if_true, if_false, Int.reduceEq, Int.reduceLT, Int.reduceLE, Int.reduceNe, ite_self, or_false, false_or, or_self, eq_self, List.zip_cons_cons, List.zip_nil_left, deref, ldD, List.head?_cons, convD, shiftOp, strOp, bitsOp, cC, c63, callX_imm, callX_nil, FSingle_eq, ↓neq37, ↓eql37, ↓neq39, ↓eql39, ↓neq41, ↓eql41, cV, cT, cF, cW, borT, borM, bor_agg, Res.via, List.size_toArray, List.isEmpty_cons, put_ap, putAll_one, elems_own, refsB, List.isEmpty_nil, Nat.reduceLT, Nat.reduceSub, Nat.reduceLeDiff, Nat.reduceMul, Nat.reduceAdd, Int.toNat_natCast, Int.reduceToNat, appK, nilRow, callX_bor, borL, bor_row, bor_one, take_map_len, List.drop_zero, map_snoc, map_app, fillE, cO, List.length_cons, List.length_replicate, List.length_append, List.length_map, List.replicate, List.set_cons_zero, List.set_cons_succ, List.take_zero, List.take_succ_cons, List.drop_succ_cons, Nat.zero_lt_succ, Option.isSome_some, partD, ofHp, ixOf, hw, hP, *]
  all_goals first
    | rfl
    | omega
    | exact ⟨Nat.zero_le _, rfl⟩
    | (refine ⟨[0, 1], i + 1, rfl, rfl, rfl, rfl, ⟨by omega, by rw [all_step (by omega), ji.2, Bool.true_and]; simp only [besX]; repeat' split; all_goals (first | rfl | (simp_all; done))⟩, by omega⟩)
    | (rw [take_end (by omega)] at ji; simp only [besideR, ji.2])
    | (rw [besideR, all_no (i := i) (by omega) (by simp only [besX]; repeat' split; all_goals (first | rfl | (simp_all; done)))])
    | (first | rfl | (simp only [refsL, refs, refs_gvec, refs_ivec, ren, ren_gvec, List.nil_append, List.append_nil, List.cons_append, List.map_cons, List.map_nil, upd_atB, upd_offB, Nat.reduceEqDiff, not_false_eq_true, ofHp, ixOf, if_true, Bool.and_self, Bool.true_and]; first | rfl | done) | (simp only [refsL, refs, refs_gvec, refs_ivec, ren, ren_gvec, List.nil_append, List.append_nil, List.cons_append, List.map_cons, List.map_nil, upd_atB, upd_offB, Nat.reduceEqDiff, not_false_eq_true, ofHp, ixOf, if_true, Bool.and_self, Bool.true_and]; simp; done))
def plX (o : List UInt8) (r x : Rec) : Bool := if x.typ = 39 ∧ belowB r.name x.name = true then false else
  if x.typ = 2 ∧ belowB x.name o = true ∧ belowB r.name x.name = true ∧ ¬ r.typ = 1 ∧ ¬ r.typ = 28 then false else true
def placedR (z : Zone) (r : Rec) : Bool := if (0 : Int) < (((labs r.name).getD []).length : Int) ∧ (((labs r.name).getD [])[0]! == [42]) = true ∧ (r.typ = 2 ∨ r.typ = 39) then false else
  if z.recs.all (plX z.origin r) = false then false else
  if belowB r.name z.origin = true ∧ hasR z.recs r.name 2 = true then decide (r.typ = 2 ∨ r.typ = 43 ∨ r.typ = 47 ∨ r.typ = 46 ∨ r.typ = 1 ∨ r.typ = 28) else !decide (r.typ = 43)

noncomputable def FPl := mkF (fun s : Zone × Rec => [zoneE s.1, recE s.2]) (fun s => ZSm s.1 ∧ RSm s.2) (fun s => Res.flat (.bo (placedR s.1 s.2)))
theorem FPl_eq {z : Zone} {r1 : Rec} (hp : ZSm z ∧ RSm r1) : FPl [zoneE z, recE r1] = some (Res.flat (.bo (placedR z r1))) := mkF_eq (s := (z, r1)) (fun s s' h => by simp only [List.cons.injEq, D.it.injEq, D.st.injEq, D.bo.injEq, true_and, and_true, adr_iff, dat_iff, rec_iff, zone_iff, delta_iff, hist_iff, recs_iff, deltas_iff, strs_iff, ints_iff] at h; simp only [h]) hp
set_option maxHeartbeats 4000000 in
theorem runPl (cx : Cx) (hP : cx.P = Try.prog) (hbs : cx.bs = 0) (h64 : cx.orc 64 = some FLabels) (h65 : cx.orc 65 = some FBelow) (h43 : cx.orc 43 = some FHas) (hk5 : cx.kp 5 = some [2, 3, 6]) (z : Zone) (r1 : Rec) (hl : ZSm z ∧ RSm r1) : pureRun cx Try.f46 [] false [zoneE z, recE r1] = some (Res.flat (.bo (placedR z r1))) := by
  have c64 := fun H nid l => (show callD cx 64 l H nid = _ from call_orc h64)
  have c65 := fun H nid l => (show callD cx 65 l H nid = _ from call_orc h65)
  have c43 := fun H nid l => (show callD cx 43 l H nid = _ from call_orc h43)
  have hll := hl.1.2.1; have hs2 := hl.2.1; have hs3 := hl.1.1
  have hw : ∀ k : Nat, (k : Int) < z.recs.length → IntKind.i64.wrap ((k : Int) + 1) = ((k + 1 : Nat) : Int) := wrapS hl.1.2.sm
  have hs1 : ∀ k : Nat, (k : Int) < z.recs.length → Sm (z.recs[k]!).name := fun k h => (hl.1.2.at h).1
  have hel : (0 : Int) < (((labs r1.name).getD []).length : Int) → (((labs r1.name).getD []).map D.st)[0]? = some (.st ((labs r1.name).getD [])[0]!) := fun h => getm (by omega)
  have hpos : True := trivial
  refine pure_flat (rs := [.tmp 4]) rfl hbs rfl ?_
  repeat' first
    | (refine evX_loop_rows (σ := Nat) (fun i => [.ptr 0 0, .ptr 1 0, .it .i64 i]) (fun i => [.box (zoneL z), .box (recL r1)]) (fun i => i ≤ z.recs.length ∧ (z.recs.take i).all (plX z.origin r1) = true) (fun i => z.recs.length - i) [2, 3, 6] hbs (by exact hk5) (fun q jq b hb => by simp only [List.mem_cons, List.not_mem_nil, or_false] at hb; rcases hb with rfl | rfl; exact zone_flat z; exact rec_flat r1) (fun i ji => ?_) (s := 0) [0, 1] ?_ ?_ ?_ ?_ ?_)
    | (refine br_mk (fun h => ?_) (fun h => ?_) <;> (try simp only [Bool.not_eq_true, Bool.not_eq_false, Classical.not_not] at h))
    | (refine ms_mk ?_ ?_)
    | simp only [↓cD, cU, cB, intOp, unD, minD_two, builtinD, idx, reduceCtorEq, ↓reduceIte, ofV, ofC, argEnv, Nat.reduceEqDiff, not_false_eq_true, flatL, cG, Bool.and_self,
      decide_true, decide_false, not_true_eq_false, false_and, false_implies, Option.map_some, Option.bind_some, Option.bind_none, Option.map_none, List.getElem?_toArray, List.toList_toArray, decide_eq_true_eq, decide_eq_false_iff_not, ge_iff_le, gt_iff_lt, and_true, true_and, implies_true, forall_const, true_or, or_true,
      immL, immD, Bool.true_and, Bool.and_true, Bool.false_and, Bool.and_false, Bool.true_or, Bool.or_true, Bool.false_or, Bool.or_false, Res.flat, ren, renL, List.length_nil, Nat.add_zero, List.map_cons, List.map_nil, List.nil_append, List.append_nil, List.cons_append, List.getElem?_cons_zero, List.getElem?_cons_succ, Bool.not_eq_true', Bool.not_true, Bool.not_false, Bool.not_eq_true, Bool.not_eq_false', Bool.not_eq_false, Bool.true_eq_false, Bool.false_eq_true, if_true, if_false, Int.reduceEq, Int.reduceLT, Int.reduceLE, Int.reduceNe, ite_self, or_false, false_or, or_self, eq_self, List.zip_cons_cons, List.zip_nil_left, deref, ldD, List.head?_cons, convD, shiftOp, strOp, bitsOp, cC, c64, c65, c43, callX_imm, callX_nil, FLabels_eq, FBelow_eq, FHas_eq, ↓neq37, ↓eql37, ↓neq39, ↓eql39, ↓neq41, ↓eql41, cV, cT, cF, cW, borT, borM, bor_agg, Res.via, List.size_toArray, List.isEmpty_cons, put_ap, putAll_one, elems_own, refsB, List.isEmpty_nil, Nat.reduceLT, Nat.reduceSub, Nat.reduceLeDiff, Nat.reduceMul, Nat.reduceAdd, Int.toNat_natCast, Int.reduceToNat, appK, nilRow, callX_bor, borL, bor_row, bor_one, take_map_len, List.drop_zero, map_snoc, map_app, fillE, cO, List.length_cons, List.length_replicate, List.length_append, List.length_map, List.replicate, List.set_cons_zero, List.set_cons_succ, List.take_zero, List.take_succ_cons, List.drop_succ_cons, Nat.zero_lt_succ, Option.isSome_some, partD, ofHp, ixOf, hw, hs1, hs2, hs3, hll, hel, hpos, Res.row, Res.rowd, hP, *]
  all_goals first
    | rfl
    | omega
    | exact ⟨Nat.zero_le _, rfl⟩
    | (refine ⟨[0, 1], i + 1, rfl, rfl, rfl, rfl, ⟨by omega, by rw [all_step (by omega), ji.2, Bool.true_and]; simp only [plX]; repeat' split; all_goals (first | rfl | (simp_all; done))⟩, by omega⟩)
    | (have hf : z.recs.all (plX z.origin r1) = false := all_no (i := i) (by omega) (by simp only [plX]; repeat' split; all_goals (first | rfl | (simp_all; done))); simp only [placedR]; repeat' split; all_goals (first | rfl | (simp_all; done)))
    | (rw [take_end (by omega)] at ji; have hf := ji.2; simp only [placedR]; repeat' split; all_goals (first | rfl | (simp_all; done)))
    | (simp only [placedR]; repeat' split; all_goals (first | rfl | (simp_all; done)))
    | (first | rfl | (simp only [refsL, refs, refs_gvec, refs_ivec, ren, ren_gvec, List.nil_append, List.append_nil, List.cons_append, List.map_cons, List.map_nil, upd_atB, upd_offB, Nat.reduceEqDiff, not_false_eq_true, ofHp, ixOf, if_true, Bool.and_self, Bool.true_and]; first | rfl | done) | (simp only [refsL, refs, refs_gvec, refs_ivec, ren, ren_gvec, List.nil_append, List.append_nil, List.cons_append, List.map_cons, List.map_nil, upd_atB, upd_offB, Nat.reduceEqDiff, not_false_eq_true, ofHp, ixOf, if_true, Bool.and_self, Bool.true_and]; simp; done))
end Go.Mir
