/- What functions of the program answer, read off. -/
import Derived.Test.YtfnjjmdgjdpieaaWalk20
import Derived.KernelRfl
set_option linter.unusedSimpArgs false
set_option linter.unusedVariables false
namespace Go.Mir
open Go Go.RowKit Go.Proofs
attribute [local congr] Ev.congr EvC.congr EvW.congr Br.congr Ms.congr
set_option maxRecDepth 100000
noncomputable def FRecs := mkF (fun s : (List Rec) × (List Rec) => [recsE s.1, recsE s.2]) (fun s => s.1.length ≤ 1000000 ∧ s.2.length ≤ 1000000) (fun s => Res.flat (.bo (eqL s.1 s.2)))
theorem FRecs_eq {a : List Rec} {b : List Rec} (hp : a.length ≤ 1000000 ∧ b.length ≤ 1000000) : FRecs [recsE a, recsE b] = some (Res.flat (.bo (eqL a b))) := mkF_eq (s := (a, b)) (fun s s' h => by simp only [List.cons.injEq, D.it.injEq, D.st.injEq, D.bo.injEq, true_and, and_true, adr_iff, dat_iff, rec_iff, zone_iff, delta_iff, hist_iff, recs_iff, deltas_iff, strs_iff, ints_iff] at h; simp only [h]) hp
set_option maxHeartbeats 4000000 in
theorem runRecs (cx : Cx) (hP : cx.P = Try.prog) (hbs : cx.bs = 0) (hk4 : cx.kp 4 = some [0, 1, 5]) (a b : List Rec) (hl : a.length ≤ 1000000 ∧ b.length ≤ 1000000) : pureRun cx Try.f10 [] false [recsE a, recsE b] = some (Res.flat (.bo (eqL a b))) := by
  have hw : ∀ k : Nat, (k : Int) < a.length → IntKind.i64.wrap ((k : Int) + 1) = ((k + 1 : Nat) : Int) := wrapS (by omega)
  refine pure_flat (rs := [.tmp 4]) rfl hbs rfl ?_
  repeat' first
    | (refine evX_loop_flat (σ := Nat) (fun s4 => [recsE a, recsE b, .it .i64 s4]) (fun s4 => s4 ≤ a.length ∧ (a.drop s4 = b.drop s4 ↔ a = b)) (fun s4 => a.length - s4) [0, 1, 5] hbs (by exact hk4) (fun s4 => by simp only [refsL, refs, refs_ivec, refs_gvec, refs_vecE, List.append_nil]) (fun s4 j4 => ?_) (s := 0) ?_ ?_)
    | (refine br_mk (fun h => ?_) (fun h => ?_) <;> (try simp only [Bool.not_eq_true, Bool.not_eq_false, Classical.not_not] at h))
    | (refine ms_mk ?_ ?_)
    | simp only [↓cD, cU, cB, intOp, unD, minD_two, builtinD, idx, reduceCtorEq, ↓reduceIte, ofV, ofC, argEnv, Nat.reduceEqDiff, not_false_eq_true, flatL, cG, Bool.and_self,
      decide_true, decide_false, not_true_eq_false, false_and, false_implies, Option.map_some, Option.bind_some, Option.bind_none, Option.map_none, List.getElem?_toArray, List.toList_toArray, decide_eq_true_eq, decide_eq_false_iff_not, ge_iff_le, gt_iff_lt, and_true, true_and, implies_true, forall_const, true_or, or_true,
      immL, immD, Bool.true_and, Bool.and_true, Bool.false_and, Bool.and_false, Bool.true_or, Bool.or_true, Bool.false_or, Bool.or_false, Res.flat, ren, renL, List.length_nil, Nat.add_zero, List.map_cons, List.map_nil, List.nil_append, List.append_nil, List.cons_append, List.getElem?_cons_zero, List.getElem?_cons_succ, Bool.not_eq_true', Bool.not_true, Bool.not_false, Bool.not_eq_true, Bool.not_eq_false', Bool.not_eq_false, Bool.true_eq_false, Bool.false_eq_true, if_true, if_false, Int.reduceEq, Int.reduceLT, Int.reduceLE, Int.reduceNe, ite_self, or_false, false_or, or_self, eq_self, List.zip_cons_cons, List.zip_nil_left, deref, ldD, List.head?_cons, convD, shiftOp, strOp, bitsOp, cC, cS, refs, okRoots, okId, List.all_nil, List.all_cons, List.length_cons, Nat.zero_add, Nat.reduceMul, Nat.reduceAdd, Nat.reduceLeDiff, refsL, List.flatMap_cons, List.flatMap_nil, ↓neq37, ↓eql37, ↓neq39, ↓eql39, ↓neq41, ↓eql41, cV, cT, cF, cW, borT, borM, bor_agg, Res.via, List.size_toArray, List.isEmpty_cons, put_ap, putAll_one, elems_own, refsB, List.isEmpty_nil, Nat.reduceLT, Nat.reduceSub, Nat.reduceLeDiff, Nat.reduceMul, Nat.reduceAdd, Int.toNat_natCast, Int.reduceToNat, appK, nilRow, callX_bor, borL, bor_row, bor_one, take_map_len, List.drop_zero, map_snoc, map_app, fillE, cO, List.length_cons, List.length_replicate, List.length_append, List.length_map, List.replicate, List.set_cons_zero, List.set_cons_succ, List.take_zero, List.take_succ_cons, List.drop_succ_cons, Nat.zero_lt_succ, Option.isSome_some, partD, ofHp, ixOf, cS, refs, okRoots, okId, List.all_nil, List.all_cons, List.length_cons, Nat.zero_add, Nat.reduceMul, Nat.reduceAdd, Nat.reduceLeDiff, refsL, List.flatMap_cons, List.flatMap_nil, hw, hP, *]
  all_goals (try simp only [eqL])
  all_goals first
    | rfl
    | exact ⟨Nat.zero_le _, Iff.rfl⟩
    | (refine ⟨_, rfl, ⟨by omega, ?_⟩, by omega⟩; rw [eq_step (by omega) (by omega)] at j4; simp only [*, true_and] at j4; exact j4.2)
    | omega
    | (have hne : a ≠ b := fun e => (by have hq := j4.2.2 e; rw [eq_step (by omega) (by omega)] at hq; exact (‹¬ _› : ¬ a[s4]! = b[s4]!) hq.1); rw [decide_eq_false hne])
    | (rw [drop_end (zs := a) (by omega), drop_end (zs := b) (by omega)] at j4; simp [j4.2.1 rfl]; done)
    | (have hne : a ≠ b := fun e => (by subst e; omega); rw [decide_eq_false hne])
def bigD (d : Delta) : Bool := if 60 < (d.rem.length : Int) then true else decide (60 < (d.add.length : Int))
def smallB (g : Hist) : Bool := if 5 < (g.deltas.length : Int) then false else if 60 < (g.zone.recs.length : Int) then false else !g.deltas.any bigD

noncomputable def FSmall := mkF (fun s : Hist => [histE s]) (fun s => Sm s.deltas) (fun s => Res.flat (.bo (smallB s)))
theorem FSmall_eq {g : Hist} (hp : Sm g.deltas) : FSmall [histE g] = some (Res.flat (.bo (smallB g))) := mkF_eq (s := (g)) (fun s s' h => by simp only [List.cons.injEq, D.it.injEq, D.st.injEq, D.bo.injEq, true_and, and_true, adr_iff, dat_iff, rec_iff, zone_iff, delta_iff, hist_iff, recs_iff, deltas_iff, strs_iff, ints_iff] at h; simp only [h]) hp
set_option maxHeartbeats 4000000 in
theorem runSmall (cx : Cx) (hP : cx.P = Try.prog) (hbs : cx.bs = 0) (hk4 : cx.kp 4 = some [1, 3]) (g : Hist) (hl : Sm g.deltas) : pureRun cx Try.f12 [] false [histE g] = some (Res.flat (.bo (smallB g))) := by
  have hw : ∀ k : Nat, (k : Int) < g.deltas.length → IntKind.i64.wrap ((k : Int) + 1) = ((k + 1 : Nat) : Int) := wrapS hl
  refine pure_flat (rs := [.tmp 2]) rfl hbs rfl ?_
  repeat' first
    | (refine evX_loop_rows (σ := Nat) (fun s => [.ptr 0 0, .it .i64 s]) (fun s => [.box (histL g)]) (fun s => s ≤ g.deltas.length ∧ (g.deltas.take s).any bigD = false) (fun s => g.deltas.length - s) [1, 3] hbs (by exact hk4) (fun q jq b hb => by simp only [List.mem_singleton] at hb; subst hb; exact hist_flat _) (fun s js => ?_) (s := 0) [0] ?_ ?_ ?_ ?_ ?_)
    | (refine br_mk (fun h => ?_) (fun h => ?_) <;> (try simp only [Bool.not_eq_true, Bool.not_eq_false, Classical.not_not] at h))
    | (refine ms_mk ?_ ?_)
    | simp only [↓cD, cU, cB, intOp, unD, minD_two, builtinD, idx, reduceCtorEq, ↓reduceIte, ofV, ofC, argEnv, Nat.reduceEqDiff, not_false_eq_true, flatL, cG, Bool.and_self,
      decide_true, decide_false, not_true_eq_false, false_and, false_implies, Option.map_some, Option.bind_some, Option.bind_none, Option.map_none, List.getElem?_toArray, List.toList_toArray, decide_eq_true_eq, decide_eq_false_iff_not, ge_iff_le, gt_iff_lt, and_true, true_and, implies_true, forall_const, true_or, or_true,
      immL, immD, Bool.true_and, Bool.and_true, Bool.false_and, Bool.and_false, Bool.true_or, Bool.or_true, Bool.false_or, Bool.or_false, Res.flat, ren, renL, List.length_nil, Nat.add_zero, List.map_cons, List.map_nil, List.nil_append, List.append_nil, List.cons_append, List.getElem?_cons_zero, List.getElem?_cons_succ, Bool.not_eq_true', Bool.not_true, Bool.not_false, Bool.not_eq_true, Bool.not_eq_false', Bool.not_eq_false, Bool.true_eq_false, Bool.false_eq_true, if_true, if_false, Int.reduceEq, Int.reduceLT, Int.reduceLE, Int.reduceNe, ite_self, or_false, false_or, or_self, eq_self, List.zip_cons_cons, List.zip_nil_left, deref, ldD, List.head?_cons, convD, shiftOp, strOp, bitsOp, cC, ↓neq37, ↓eql37, ↓neq39, ↓eql39, ↓neq41, ↓eql41, cV, cT, cF, cW, borT, borM, bor_agg, Res.via, List.size_toArray, List.isEmpty_cons, put_ap, putAll_one, elems_own, refsB, List.isEmpty_nil, Nat.reduceLT, Nat.reduceSub, Nat.reduceLeDiff, Nat.reduceMul, Nat.reduceAdd, Int.toNat_natCast, Int.reduceToNat, appK, nilRow, callX_bor, borL, bor_row, bor_one, take_map_len, List.drop_zero, map_snoc, map_app, fillE, cO, List.length_cons, List.length_replicate, List.length_append, List.length_map, List.replicate, List.set_cons_zero, List.set_cons_succ, List.take_zero, List.take_succ_cons, List.drop_succ_cons, Nat.zero_lt_succ, Option.isSome_some, partD, ofHp, ixOf, hw, hP, *]
  all_goals first
    | rfl
    | omega
    | exact ⟨Nat.zero_le _, rfl⟩
    | (simp only [smallB, *, if_true, if_false, Bool.not_true, Bool.not_false]; done)
    | (have e : g.deltas.any bigD = true := any_no (i := s) (by omega) (by simp only [bigD, *, if_true, if_false, decide_true]); (simp only [smallB, *, if_true, if_false, Bool.not_true, Bool.not_false]; done))
    | (have e : g.deltas.any bigD = false := (by have e := js.2; rw [take_end (by omega)] at e; exact e); (simp only [smallB, *, if_true, if_false, Bool.not_true, Bool.not_false]; done))
    | (refine ⟨[0], s + 1, rfl, rfl, rfl, rfl, ⟨by omega, by rw [any_step (by omega), js.2, Bool.false_or]; simp only [bigD, *, if_false, decide_false]⟩, by omega⟩)
    | (first | rfl | (simp only [refsL, refs, refs_gvec, refs_ivec, ren, ren_gvec, List.nil_append, List.append_nil, List.cons_append, List.map_cons, List.map_nil, upd_atB, upd_offB, Nat.reduceEqDiff, not_false_eq_true, ofHp, ixOf, if_true, Bool.and_self, Bool.true_and]; first | rfl | done) | (simp only [refsL, refs, refs_gvec, refs_ivec, ren, ren_gvec, List.nil_append, List.append_nil, List.cons_append, List.map_cons, List.map_nil, upd_atB, upd_offB, Nat.reduceEqDiff, not_false_eq_true, ofHp, ixOf, if_true, Bool.and_self, Bool.true_and]; simp; done))
def datO : Dat := ⟨⟨false, 0, 0⟩, [], [], [], 0, 0, 0, 0, 0, 0, 0⟩
def nsR : Rec := ⟨[120, 46], 2, 9, { datO with host := [110, 46] }⟩
def soR : Rec := ⟨[120, 46], 6, 9, { datO with host := [110, 46], mail := [109, 46], a := 3 }⟩
def sampleZ : Zone := ⟨[120, 46], [nsR, soR]⟩

noncomputable def FSample := mkF (fun s : Unit => []) (fun s => True) (fun s => Res.via (zoneE sampleZ))
theorem FSample_eq : FSample [] = some (Res.via (zoneE sampleZ)) := mkF_eq (s := ()) (fun s s' h => rfl) trivial
set_option maxHeartbeats 4000000 in
theorem runSample (cx : Cx) (hP : cx.P = Try.prog) (hbs : cx.bs = 0)   : pureRun cx Try.f8 [] true [] = some (Res.via (zoneE sampleZ)) := by
  refine pure_al (rs := [.cell 0 27]) rfl hbs rfl ?_
  repeat' first
    | (refine br_mk (fun h => ?_) (fun h => ?_) <;> (try simp only [Bool.not_eq_true, Bool.not_eq_false, Classical.not_not] at h))
    | (refine ms_mk ?_ ?_)
    | simp only [↓cD, cU, cB, intOp, unD, minD_two, builtinD, idx, reduceCtorEq, ↓reduceIte, ofV, ofC, argEnv, Nat.reduceEqDiff, not_false_eq_true, flatL, cG, Bool.and_self,
      decide_true, decide_false, not_true_eq_false, false_and, false_implies, Option.map_some, Option.bind_some, Option.bind_none, Option.map_none, List.getElem?_toArray, List.toList_toArray, decide_eq_true_eq, decide_eq_false_iff_not, ge_iff_le, gt_iff_lt, and_true, true_and, implies_true, forall_const, true_or, or_true,
      immL, immD, Bool.true_and, Bool.and_true, Bool.false_and, Bool.and_false, Bool.true_or, Bool.or_true, Bool.false_or, Bool.or_false, Res.flat, ren, renL, List.length_nil, Nat.add_zero, List.map_cons, List.map_nil, List.nil_append, List.append_nil, List.cons_append, List.getElem?_cons_zero, List.getElem?_cons_succ, Bool.not_eq_true', Bool.not_true, Bool.not_false, Bool.not_eq_true, Bool.not_eq_false', Bool.not_eq_false, Bool.true_eq_false, Bool.false_eq_true, if_true, if_false, Int.reduceEq, Int.reduceLT, Int.reduceLE, Int.reduceNe, ite_self, or_false, false_or, or_self, eq_self, List.zip_cons_cons, List.zip_nil_left, deref, ldD, List.head?_cons, convD, shiftOp, strOp, bitsOp, cC, ↓neq37, ↓eql37, ↓neq39, ↓eql39, ↓neq41, ↓eql41, cV, cT, cF, cW, borT, borM, bor_agg, Res.via, List.size_toArray, List.isEmpty_cons, put_ap, putAll_one, elems_own, refsB, List.isEmpty_nil, Nat.reduceLT, Nat.reduceSub, Nat.reduceLeDiff, Nat.reduceMul, Nat.reduceAdd, Int.toNat_natCast, Int.reduceToNat, appK, nilRow, callX_bor, borL, bor_row, bor_one, take_map_len, List.drop_zero, map_snoc, map_app, fillE, cO, List.length_cons, List.length_replicate, List.length_append, List.length_map, List.replicate, List.set_cons_zero, List.set_cons_succ, List.take_zero, List.take_succ_cons, List.drop_succ_cons, Nat.zero_lt_succ, Option.isSome_some, partD, ofHp, ixOf, hP, *]
  all_goals first
    | rfl
    | exact ⟨_, rfl, rfl⟩
def HRaw (g : Hist) : Prop := Sm g.deltas ∧ Sm g.zone.origin ∧ (∀ r ∈ g.zone.recs, RSm r) ∧ ∀ d ∈ g.deltas, Sm d.origin ∧ (∀ r ∈ d.rem, RSm r) ∧ ∀ r ∈ d.add, RSm r
theorem raw_pre {g : Hist} (h : HRaw g) (hs : smallB g = true) : HPre g := by
  obtain ⟨h1, h2, h3, h4⟩ := h
  unfold smallB at hs
  split at hs
  · cases hs
  · split at hs
    · cases hs
    · have hb : ∀ d ∈ g.deltas, d.rem.length ≤ 60 ∧ d.add.length ≤ 60 := fun d hd => by
        have hf : g.deltas.any bigD = false := by simpa using hs
        have h5 := List.any_eq_false.1 hf d hd
        unfold bigD at h5
        split at h5
        · exact absurd rfl h5
        · rename_i h6; simp at h5; omega
      refine ⟨⟨⟨h2, by omega, h3⟩, by omega, fun d hd => ?_⟩, by omega, by omega, hb⟩
      have h5 := hb d hd
      have h6 := h4 d hd
      exact ⟨h6.1, ⟨by omega, h6.2.1⟩, ⟨by omega, h6.2.2⟩⟩
def sampleH : Hist := ⟨sampleZ, []⟩
theorem smp : D.agg (zoneL sampleZ ++ [D.vec 5 false []]) = histE sampleH := rfl
theorem sample_raw : HRaw sampleH := by
  refine ⟨by simp [sampleH, Sm], by simp [sampleH, sampleZ, Sm], fun r hr => ?_, fun d hd => by simp [sampleH] at hd⟩
  simp [sampleH, sampleZ] at hr
  rcases hr with rfl | rfl
  · simp [nsR, RSm, DSm, datO, Sm]
  · simp [soR, RSm, DSm, datO, Sm]
theorem sample_pre : HPre sampleH := raw_pre sample_raw (by decide +kernel)
theorem sample_since : sinceX sampleH 3 = [soR] := by decide +kernel
theorem sinceX_len {g : Hist} {n : Int} (h : HPre g) : (sinceX g n).length ≤ 1000000 := by
  have h1 := movXs_len (sinceP g n).1 60 (fun d hd => h.2.2.2 _ (sinceP_sub g n _ hd))
  have h2 := sinceP_len g n; have h3 := h.2.2.1
  have h4 := firstX_len g.zone.recs; have h5 := h.2.1
  have h6 : (fullP g.zone).length ≤ 200 := by
    unfold fullP; split
    · rw [List.length_append, List.length_singleton]; omega
    · omega
  unfold sinceX
  split
  · simp
  · split
    · simp
    · split
      · omega
      · split
        · omega
        · simp only [List.length_append, List.length_singleton]; omega
theorem sinceR_len {g : Hist} {n : Int} (h : HPre g) : (sinceR g n).length ≤ 1000000 := by
  have h1 := moves_len (sinceV g n) 60 (fun d hd => h.2.2.2 _ (sinceV_any g n _ hd))
  have h2 := sinceV_len g n; have h3 := h.2.2.1
  have h4 := soas_len g.zone.recs; have h7 := rests_len g.zone.recs; have h5 := h.2.1
  have h6 : (fullR g.zone.recs).length ≤ 200 := by unfold fullR; rw [List.length_append, List.length_append]; omega
  unfold sinceR
  split
  · omega
  · split
    · omega
    · split
      · omega
      · simp only [List.length_append]; omega
theorem eqL_law {g : Hist} {n : Int} (h : chkH g = 0) : eqL (sinceX g n) (sinceR g n) = true := decide_eq_true (since_law h)

noncomputable def FLaw := mkF (fun s : Hist × Int => [histE s.1, .it .i64 s.2]) (fun s => HRaw s.1) (fun s => Res.flat (.bo true))
theorem FLaw_eq {g : Hist} {n1 : Int} (hp : HRaw g) : FLaw [histE g, .it .i64 n1] = some (Res.flat (.bo true)) := mkF_eq (s := (g, n1)) (fun s s' h => by simp only [List.cons.injEq, D.it.injEq, D.st.injEq, D.bo.injEq, true_and, and_true, adr_iff, dat_iff, rec_iff, zone_iff, delta_iff, hist_iff, recs_iff, deltas_iff, strs_iff, ints_iff] at h; simp only [h]) hp
set_option maxHeartbeats 4000000 in
theorem runLaw (cx : Cx) (hP : cx.P = Try.prog) (hbs : cx.bs = 0) (h8 : cx.orc 8 = some FSample) (h11 : cx.orc 11 = some FSinceX) (h12 : cx.orc 12 = some FSmall) (h13 : cx.orc 13 = some FChkH) (h14 : cx.orc 14 = some FSinceR) (h10 : cx.orc 10 = some FRecs) (r8 : cx.rd.contains 8 = true) (r11 : cx.rd.contains 11 = true) (r12 : cx.rd.contains 12 = true) (r13 : cx.rd.contains 13 = true) (r14 : cx.rd.contains 14 = true) (r10 : cx.rd.contains 10 = true) (g : Hist) (n1 : Int) (hl : HRaw g) : pureRun cx Try.f5 [] false [histE g, .it .i64 n1] = some (Res.flat (.bo true)) := by
  have c8 := fun H nid l => (show callD cx 8 l H nid = _ from call_orc h8)
  have d8 := fun nx bef i env H dst ty pos after gd args ts => step_orc (cx := cx) (nx := nx) (bef := bef) (i := i) (env := env) (H := H) (dst := dst) (ty := ty) (pos := pos) (after := after) (gd := gd) (args := args) (ts := ts) r8 h8
  have c11 := fun H nid l => (show callD cx 11 l H nid = _ from call_orc h11)
  have d11 := fun nx bef i env H dst ty pos after gd args ts => step_orc (cx := cx) (nx := nx) (bef := bef) (i := i) (env := env) (H := H) (dst := dst) (ty := ty) (pos := pos) (after := after) (gd := gd) (args := args) (ts := ts) r11 h11
  have c12 := fun H nid l => (show callD cx 12 l H nid = _ from call_orc h12)
  have d12 := fun nx bef i env H dst ty pos after gd args ts => step_orc (cx := cx) (nx := nx) (bef := bef) (i := i) (env := env) (H := H) (dst := dst) (ty := ty) (pos := pos) (after := after) (gd := gd) (args := args) (ts := ts) r12 h12
  have c13 := fun H nid l => (show callD cx 13 l H nid = _ from call_orc h13)
  have d13 := fun nx bef i env H dst ty pos after gd args ts => step_orc (cx := cx) (nx := nx) (bef := bef) (i := i) (env := env) (H := H) (dst := dst) (ty := ty) (pos := pos) (after := after) (gd := gd) (args := args) (ts := ts) r13 h13
  have c14 := fun H nid l => (show callD cx 14 l H nid = _ from call_orc h14)
  have d14 := fun nx bef i env H dst ty pos after gd args ts => step_orc (cx := cx) (nx := nx) (bef := bef) (i := i) (env := env) (H := H) (dst := dst) (ty := ty) (pos := pos) (after := after) (gd := gd) (args := args) (ts := ts) r14 h14
  have c10 := fun H nid l => (show callD cx 10 l H nid = _ from call_orc h10)
  have d10 := fun nx bef i env H dst ty pos after gd args ts => step_orc (cx := cx) (nx := nx) (bef := bef) (i := i) (env := env) (H := H) (dst := dst) (ty := ty) (pos := pos) (after := after) (gd := gd) (args := args) (ts := ts) r10 h10
  have hl1 := hl.1; have hs1 := sample_pre
  have hp1 : smallB g = true → HSm g := fun h => (raw_pre hl h).1
  have hp2 : smallB g = true → HPre g := fun h => raw_pre hl h
  have hp5 : smallB g = true → (sinceX g n1).length ≤ 1000000 := fun h => sinceX_len (raw_pre hl h)
  have hp6 : smallB g = true → (sinceR g n1).length ≤ 1000000 := fun h => sinceR_len (raw_pre hl h)
  have hp7 : ∀ (H : Hp) (k : IntKind), indexAddrD Try.prog H 22 (vecE 16 recE [soR]) (.it k 0) = some (.elt (recE soR).cells) := fun H k => ixn_vecE (i := 0) Try.underlying22 sz41 rfl (by decide)
  have hp8 : ∀ (H : Hp) (k : IntKind), indexAddrD Try.prog H 22 (recsE sampleZ.recs) (.it k 1) = some (.elt (recE soR).cells) := fun H k => ixn_vecE (i := 1) Try.underlying22 sz41 rfl (by decide)
  have hc1 : ((1 : Nat) : Int) = 1 := rfl
  have hq : chkH g = 0 → eqL (sinceX g n1) (sinceR g n1) = true := fun h => eqL_law h
  refine pure_flat (rs := [.tmp 4]) rfl hbs rfl ?_
  repeat' first
    | (refine br_mk (fun h => ?_) (fun h => ?_) <;> (try simp only [Bool.not_eq_true, Bool.not_eq_false, Classical.not_not] at h))
    | (refine ms_mk ?_ ?_)
    | simp only [↓cD, cU, cB, intOp, unD, minD_two, builtinD, idx, reduceCtorEq, ↓reduceIte, ofV, ofC, argEnv, Nat.reduceEqDiff, not_false_eq_true, flatL, cG, Bool.and_self,
      decide_true, decide_false, not_true_eq_false, false_and, false_implies, Option.map_some, Option.bind_some, Option.bind_none, Option.map_none, List.getElem?_toArray, List.toList_toArray, decide_eq_true_eq, decide_eq_false_iff_not, ge_iff_le, gt_iff_lt, and_true, true_and, implies_true, forall_const, true_or, or_true,
      immL, immD, Bool.true_and, Bool.and_true, Bool.false_and, Bool.and_false, Bool.true_or, Bool.or_true, Bool.false_or, Bool.or_false, Res.flat, ren, renL, List.length_nil, Nat.add_zero, List.map_cons, List.map_nil, List.nil_append, List.append_nil, List.cons_append, List.getElem?_cons_zero, List.getElem?_cons_succ, Bool.not_eq_true', Bool.not_true, Bool.not_false, Bool.not_eq_true, Bool.not_eq_false', Bool.not_eq_false, Bool.true_eq_false, Bool.false_eq_true, if_true, if_false, Int.reduceEq, Int.reduceLT, Int.reduceLE, Int.reduceNe, ite_self, or_false, false_or, or_self, eq_self, List.zip_cons_cons, List.zip_nil_left, deref, ldD, List.head?_cons, convD, shiftOp, strOp, bitsOp, cC, cS, refs, okRoots, okId, List.all_nil, List.all_cons, List.length_cons, Nat.zero_add, Nat.reduceMul, Nat.reduceAdd, Nat.reduceLeDiff, refsL, List.flatMap_cons, List.flatMap_nil, c8, c11, c12, c13, c14, c10, d8, d11, d12, d13, d14, d10, callX_imm, callX_nil, FSample_eq, FSinceX_eq, FSmall_eq, FChkH_eq, FSinceR_eq, FRecs_eq, ↓neq37, ↓eql37, ↓neq39, ↓eql39, ↓neq41, ↓eql41, cV, cT, cF, cW, borT, borM, bor_agg, Res.via, List.size_toArray, List.isEmpty_cons, put_ap, putAll_one, elems_own, refsB, List.isEmpty_nil, Nat.reduceLT, Nat.reduceSub, Nat.reduceLeDiff, Nat.reduceMul, Nat.reduceAdd, Int.toNat_natCast, Int.reduceToNat, appK, nilRow, callX_bor, borL, bor_row, bor_one, take_map_len, List.drop_zero, map_snoc, map_app, fillE, cO, List.length_cons, List.length_replicate, List.length_append, List.length_map, List.replicate, List.set_cons_zero, List.set_cons_succ, List.take_zero, List.take_succ_cons, List.drop_succ_cons, Nat.zero_lt_succ, Option.isSome_some, partD, ofHp, ixOf, cS, refs, okRoots, okId, List.all_nil, List.all_cons, List.length_cons, Nat.zero_add, Nat.reduceMul, Nat.reduceAdd, Nat.reduceLeDiff, refsL, List.flatMap_cons, List.flatMap_nil, hl1, hs1, hp1, hp2, smp, hp5, hp6, hp7, hp8, hc1, hq, sample_since, ↓stepf_field, bor_fn, bor_ptr, bor_it, bor_bo, bor_st, bor_vecE, bor_elt, borM_imm, ofV_nil, hP, *]
  all_goals first
    | rfl
end Go.Mir
