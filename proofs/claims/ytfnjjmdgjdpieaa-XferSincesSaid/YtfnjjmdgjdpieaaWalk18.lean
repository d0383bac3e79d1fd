/- What functions of the program answer, read off. -/
import Derived.Test.YtfnjjmdgjdpieaaWalk17
import Derived.KernelRfl
set_option linter.unusedSimpArgs false
set_option linter.unusedVariables false
namespace Go.Mir
open Go Go.RowKit Go.Proofs
attribute [local congr] Ev.congr EvC.congr EvW.congr Br.congr Ms.congr
set_option maxRecDepth 100000
def DsSm (l : List Delta) : Prop := ∀ d ∈ l, DltSm d
theorem delta_take3 (d : Delta) : List.take 3 (deltaL d) = [.st d.origin, .it .i64 d.fro, .it .i64 d.til] := rfl
theorem delta_eta (d : Delta) : (⟨d.origin, d.fro, d.til, d.rem, d.add⟩ : Delta) = d := rfl
def stepsP (g : Hist) (n : Int) : Int × Bool := if serialP g.zone = n then (0, true) else
  if 0 ≤ lastI (g.deltas.map (·.fro)) n g.deltas.length then (g.deltas.length - lastI (g.deltas.map (·.fro)) n g.deltas.length, true) else (0, false)
def sinceP (g : Hist) (n : Int) : List Delta × Int := if (stepsP g n).2 = false then ([], 11) else (g.deltas.drop ((g.deltas.length : Int) - (stepsP g n).1).toNat, 0)
theorem lastI_ge (l : List Int) (x : Int) : ∀ s : Nat, -1 ≤ lastI l x s
  | 0 => by simp [lastI]
  | s + 1 => by
    unfold lastI
    split
    · omega
    · exact lastI_ge l x s
theorem steps_le (g : Hist) (n : Int) : 0 ≤ (stepsP g n).1 ∧ (stepsP g n).1 ≤ g.deltas.length := by
  have h1 := lastI_le (g.deltas.map (·.fro)) n g.deltas.length
  unfold stepsP
  split
  · exact ⟨Int.le_refl _, by show (0 : Int) ≤ _; omega⟩
  · split
    · constructor
      · show 0 ≤ (g.deltas.length : Int) - _; omega
      · show (g.deltas.length : Int) - _ ≤ _; omega
    · exact ⟨Int.le_refl _, by show (0 : Int) ≤ _; omega⟩
theorem fro_at {l : List Delta} {s : Nat} (h0 : 0 ≤ (s : Int) - 1) (h : s ≤ l.length) : (l.map (·.fro))[s - 1]! = l[s - 1]!.fro := by
  have h2 : s - 1 < l.length := by omega
  rw [getElem!_pos (l.map (·.fro)) (s - 1) (by simpa using h2), List.getElem_map, getElem!_pos l (s - 1) h2]

noncomputable def FSteps := mkF (fun s : Hist × Int => [histE s.1, .it .i64 s.2]) (fun s => s.1.deltas.length ≤ 1000000 ∧ s.1.zone.recs.length ≤ 1000000) (fun s => Res.flat (.tup [.it .i64 (stepsP s.1 s.2).1, .bo (stepsP s.1 s.2).2]))
theorem FSteps_eq {g : Hist} {n1 : Int} (hp : g.deltas.length ≤ 1000000 ∧ g.zone.recs.length ≤ 1000000) : FSteps [histE g, .it .i64 n1] = some (Res.flat (.tup [.it .i64 (stepsP g n1).1, .bo (stepsP g n1).2])) := mkF_eq (s := (g, n1)) (fun s s' h => by simp only [List.cons.injEq, D.it.injEq, D.st.injEq, D.bo.injEq, true_and, and_true, adr_iff, dat_iff, rec_iff, zone_iff, delta_iff, hist_iff, recs_iff, deltas_iff, strs_iff, ints_iff] at h; simp only [h]) hp
set_option maxHeartbeats 4000000 in
theorem runSteps (cx : Cx) (hP : cx.P = Try.prog) (hbs : cx.bs = 0) (h19 : cx.orc 19 = some FSerP) (hk4 : cx.kp 4 = some [1, 2, 6]) (g : Hist) (n1 : Int) (hl : g.deltas.length ≤ 1000000 ∧ g.zone.recs.length ≤ 1000000) : pureRun cx Try.f35 [] false [histE g, .it .i64 n1] = some (Res.flat (.tup [.it .i64 (stepsP g n1).1, .bo (stepsP g n1).2])) := by
  have c19 := fun H nid l => (show callD cx 19 l H nid = _ from call_orc h19)
  have hl1 := hl.1; have hl2 := hl.2
  have hw1 : IntKind.i64.wrap ((g.deltas.length : Int) - 1) = (g.deltas.length : Int) - 1 := by rw [wrap64 (by omega) (by omega)]
  have hw2 : ∀ s : Nat, 0 ≤ (s : Int) - 1 → s ≤ g.deltas.length → IntKind.i64.wrap ((s : Int) - 1 - 1) = ((s - 1 : Nat) : Int) - 1 := fun s h1 h2 => by rw [wrap64 (by omega) (by omega)]; omega
  have hw3 : ∀ s : Nat, 0 ≤ (s : Int) - 1 → s ≤ g.deltas.length → IntKind.i64.wrap ((g.deltas.length : Int) - ((s : Int) - 1)) = (g.deltas.length : Int) - ((s : Int) - 1) := fun s h1 h2 => by rw [wrap64 (by omega) (by omega)]
  have hix : ∀ s : Nat, 0 ≤ (s : Int) - 1 → s ≤ g.deltas.length → ∀ (H : Hp) (k : IntKind), indexAddrD Try.prog H 31 (deltasE g.deltas) (.it k ((s : Int) - 1)) = some (.elt (deltaE g.deltas[s - 1]!).cells) := fun s h1 h2 H k => ixn_vecE Try.underlying31 sz58 (by omega) (by omega)
  refine pure_flat (rs := [.tmp 4, .tmp 5]) rfl hbs rfl ?_
  repeat' first
    | (refine evX_loop_rows (σ := Nat) (fun s => [.it .i64 n1, .ptr 0 0, .it .i64 ((s : Int) - 1)]) (fun s => [.box (histL g)]) (fun s => s ≤ g.deltas.length ∧ lastI (g.deltas.map (·.fro)) n1 s = lastI (g.deltas.map (·.fro)) n1 g.deltas.length) (fun s => s) [1, 2, 6] hbs (by exact hk4) (fun q jq b hb => by simp only [List.mem_singleton] at hb; subst hb; exact hist_flat g) (fun s js => ?_) (s := g.deltas.length) [0] ?_ ?_ ?_ ?_ ?_)
    | (refine br_mk (fun h => ?_) (fun h => ?_) <;> (try simp only [Bool.not_eq_true, Bool.not_eq_false, Classical.not_not] at h))
    | (refine ms_mk ?_ ?_)
    | simp only [↓cD, cU, cB, intOp, unD, minD_two, builtinD, idx, reduceCtorEq, ↓reduceIte, ofV, ofC, argEnv, Nat.reduceEqDiff, not_false_eq_true, flatL, cG, Bool.and_self,
      decide_true, decide_false, not_true_eq_false, false_and, false_implies, Option.map_some, Option.bind_some, Option.bind_none, Option.map_none, List.getElem?_toArray, List.toList_toArray, decide_eq_true_eq, decide_eq_false_iff_not, ge_iff_le, gt_iff_lt, and_true, true_and, implies_true, forall_const, true_or, or_true,
      immL, immD, Bool.true_and, Bool.and_true, Bool.false_and, Bool.and_false, Bool.true_or, Bool.or_true, Bool.false_or, Bool.or_false, Res.flat, ren, renL, List.length_nil, Nat.add_zero, List.map_cons, List.map_nil, List.nil_append, List.append_nil, List.cons_append, List.getElem?_cons_zero, List.getElem?_cons_succ, Bool.not_eq_true', Bool.not_true, Bool.not_false, Bool.not_eq_true, Bool.not_eq_false', Bool.not_eq_false, Bool.true_eq_false, Bool.false_eq_true, if_true, if_false, Int.reduceEq, Int.reduceLT, Int.reduceLE, Int.reduceNe, ite_self, or_false, false_or, or_self, eq_self, List.zip_cons_cons, List.zip_nil_left, deref, ldD, List.head?_cons, convD, shiftOp, strOp, bitsOp, cC, c19, callX_imm, callX_nil, FSerP_eq, ↓neq37, ↓eql37, ↓neq39, ↓eql39, ↓neq41, ↓eql41, cV, cT, cF, cW, borT, borM, bor_agg, Res.via, List.size_toArray, List.isEmpty_cons, put_ap, putAll_one, elems_own, refsB, List.isEmpty_nil, Nat.reduceLT, Nat.reduceSub, Nat.reduceLeDiff, Nat.reduceMul, Nat.reduceAdd, Int.toNat_natCast, Int.reduceToNat, appK, nilRow, callX_bor, borL, bor_row, bor_one, take_map_len, List.drop_zero, map_snoc, map_app, fillE, cO, List.length_cons, List.length_replicate, List.length_append, List.length_map, List.replicate, List.set_cons_zero, List.set_cons_succ, List.take_zero, List.take_succ_cons, List.drop_succ_cons, Nat.zero_lt_succ, Option.isSome_some, partD, ofHp, ixOf, hw1, hw2, hw3, hix, hl2, hP, *]
  all_goals first
    | rfl
    | exact ⟨Nat.le_refl _, rfl⟩
    | exact Nat.le_refl _
    | (rw [stepsP, if_pos ‹_›])
    | (have e := js.2; rw [lastI_yes (by omega) (by rw [fro_at (by omega) (by omega)]; assumption)] at e; have e2 : stepsP g n1 = ((g.deltas.length : Int) - ((s : Int) - 1), true) := (by rw [stepsP, if_neg ‹_›, if_pos (by omega), ← e]); rw [e2])
    | (refine ⟨[0], s - 1, rfl, rfl, rfl, rfl, ⟨by omega, by rw [← lastI_no (by omega) (by rw [fro_at (by omega) (by omega)]; assumption)]; exact js.2⟩, by omega⟩)
    | (have e := js.2; rw [lastI_end (by omega)] at e; have e2 : stepsP g n1 = (0, false) := (by rw [stepsP, if_neg ‹_›, if_neg (by omega)]); rw [e2])
    | (first | rfl | (simp only [refsL, refs, refs_gvec, refs_ivec, ren, ren_gvec, List.nil_append, List.append_nil, List.cons_append, List.map_cons, List.map_nil, upd_atB, upd_offB, Nat.reduceEqDiff, not_false_eq_true, ofHp, ixOf, if_true, Bool.and_self, Bool.true_and]; first | rfl | done) | (simp only [refsL, refs, refs_gvec, refs_ivec, ren, ren_gvec, List.nil_append, List.append_nil, List.cons_append, List.map_cons, List.map_nil, upd_atB, upd_offB, Nat.reduceEqDiff, not_false_eq_true, ofHp, ixOf, if_true, Bool.and_self, Bool.true_and]; simp; done))
noncomputable def FCl := mkF (fun s : (List Rec) => [recsE s]) (fun s => s.length ≤ 1000000) (fun s => Res.flat (recsE s))
theorem FCl_eq {a : List Rec} (hp : a.length ≤ 1000000) : FCl [recsE a] = some (Res.flat (recsE a)) := mkF_eq (s := (a)) (fun s s' h => by simp only [List.cons.injEq, D.it.injEq, D.st.injEq, D.bo.injEq, true_and, and_true, adr_iff, dat_iff, rec_iff, zone_iff, delta_iff, hist_iff, recs_iff, deltas_iff, strs_iff, ints_iff] at h; simp only [h]) hp
noncomputable def FCopied := mkF (fun s : (List Delta) => [deltasE s]) (fun s => s.length ≤ 1000000 ∧ DsSm s) (fun s => Res.via (deltasE s))
theorem FCopied_eq {l : List Delta} (hp : l.length ≤ 1000000 ∧ DsSm l) : FCopied [deltasE l] = some (Res.via (deltasE l)) := mkF_eq (s := (l)) (fun s s' h => by simp only [List.cons.injEq, D.it.injEq, D.st.injEq, D.bo.injEq, true_and, and_true, adr_iff, dat_iff, rec_iff, zone_iff, delta_iff, hist_iff, recs_iff, deltas_iff, strs_iff, ints_iff] at h; simp only [h]) hp
set_option maxHeartbeats 4000000 in
theorem runCopied (cx : Cx) (hP : cx.P = Try.prog) (hbs : cx.bs = 0) (h16 : cx.orc 16 = some FCl) (r16 : cx.rd.contains 16 = true) (hk3 : cx.kp 3 = some [3, 6, 7, 8]) (l : List Delta) (hl : l.length ≤ 1000000 ∧ DsSm l) : pureRun cx Try.f36 [] true [deltasE l] = some (Res.via (deltasE l)) := by
  have c16 := fun H nid l => (show callD cx 16 l H nid = _ from call_orc h16)
  have d16 := fun nx bef i env H dst ty pos after gd args ts => step_orc (cx := cx) (nx := nx) (bef := bef) (i := i) (env := env) (H := H) (dst := dst) (ty := ty) (pos := pos) (after := after) (gd := gd) (args := args) (ts := ts) r16 h16
  have hw : ∀ k : Nat, (k : Int) < l.length → IntKind.i64.wrap ((k : Int) + 1) = ((k + 1 : Nat) : Int) := wrapS (by omega)
  have hd1 : ∀ k : Nat, (k : Int) < l.length → (l[k]!).rem.length ≤ 1000000 := fun k hk => (hl.2 _ (mem_at hk)).2.1.1
  have hd2 : ∀ k : Nat, (k : Int) < l.length → (l[k]!).add.length ≤ 1000000 := fun k hk => (hl.2 _ (mem_at hk)).2.2.1
  refine pure_al (rs := [.tmp 2]) rfl hbs rfl ?_
  repeat' first
    | (refine evX_loop_rows (σ := Nat) (fun s => [.own 0 0 (l.take s).length, deltasE l, .it .i64 l.length, .it .i64 s]) (fun s => [.row 5 true ((l.take s).map deltaE)]) (fun s => s ≤ l.length) (fun s => l.length - s) [3, 6, 7, 8] hbs (by exact hk3) (fun q jq b hb => by simp only [List.mem_singleton] at hb; subst hb; exact map_refs (fun _ => rfl)) (fun s js => ?_) (s := 0) [1] ?_ ?_ ?_ ?_ ?_)
    | (refine br_mk (fun h => ?_) (fun h => ?_) <;> (try simp only [Bool.not_eq_true, Bool.not_eq_false, Classical.not_not] at h))
    | (refine ms_mk ?_ ?_)
    | simp only [↓cD, cU, cB, intOp, unD, minD_two, builtinD, idx, reduceCtorEq, ↓reduceIte, ofV, ofC, argEnv, Nat.reduceEqDiff, not_false_eq_true, flatL, cG, Bool.and_self,
      decide_true, decide_false, not_true_eq_false, false_and, false_implies, Option.map_some, Option.bind_some, Option.bind_none, Option.map_none, List.getElem?_toArray, List.toList_toArray, decide_eq_true_eq, decide_eq_false_iff_not, ge_iff_le, gt_iff_lt, and_true, true_and, implies_true, forall_const, true_or, or_true,
      immL, immD, Bool.true_and, Bool.and_true, Bool.false_and, Bool.and_false, Bool.true_or, Bool.or_true, Bool.false_or, Bool.or_false, Res.flat, ren, renL, List.length_nil, Nat.add_zero, List.map_cons, List.map_nil, List.nil_append, List.append_nil, List.cons_append, List.getElem?_cons_zero, List.getElem?_cons_succ, Bool.not_eq_true', Bool.not_true, Bool.not_false, Bool.not_eq_true, Bool.not_eq_false', Bool.not_eq_false, Bool.true_eq_false, Bool.false_eq_true, if_true, if_false, Int.reduceEq, Int.reduceLT, Int.reduceLE, Int.reduceNe, ite_self, or_false, false_or, or_self, eq_self, List.zip_cons_cons, List.zip_nil_left, deref, ldD, List.head?_cons, convD, shiftOp, strOp, bitsOp, cC, cS, refs, okRoots, okId, List.all_nil, List.all_cons, List.length_cons, Nat.zero_add, Nat.reduceMul, Nat.reduceAdd, Nat.reduceLeDiff, refsL, List.flatMap_cons, List.flatMap_nil, c16, d16, callX_imm, callX_nil, FCl_eq, ↓neq37, ↓eql37, ↓neq39, ↓eql39, ↓neq41, ↓eql41, cV, cT, cF, cW, borT, borM, bor_agg, Res.via, List.size_toArray, List.isEmpty_cons, put_ap, putAll_one, elems_own, refsB, List.isEmpty_nil, Nat.reduceLT, Nat.reduceSub, Nat.reduceLeDiff, Nat.reduceMul, Nat.reduceAdd, Int.toNat_natCast, Int.reduceToNat, appK, nilRow, callX_bor, borL, bor_row, bor_one, take_map_len, List.drop_zero, map_snoc, map_app, fillE, cO, List.length_cons, List.length_replicate, List.length_append, List.length_map, List.replicate, List.set_cons_zero, List.set_cons_succ, List.take_zero, List.take_succ_cons, List.drop_succ_cons, Nat.zero_lt_succ, Option.isSome_some, partD, ofHp, ixOf, cS, refs, okRoots, okId, List.all_nil, List.all_cons, List.length_cons, Nat.zero_add, Nat.reduceMul, Nat.reduceAdd, Nat.reduceLeDiff, refsL, List.flatMap_cons, List.flatMap_nil, hw, hd1, hd2, step_store, storL_ptr, updL, delta_take3, delta_eta, bor_fn, bor_ptr, bor_it, bor_bo, bor_st, bor_vecE, bor_elt, borM_imm, ofV_nil, hP, *]
  all_goals first
    | rfl
    | omega
    | (rw [take_end (by omega)]; exact ⟨_, rfl, rfl⟩)
    | (have h1 := hl.1; rw [List.length_take]; first | omega | (constructor <;> omega))
    | (have e := takeN (l := l) (i := s) (by omega); refine ⟨[643], s + 1, ?_, ?_, ?_, ?_, by omega, by omega⟩ <;> (try rw [e]) <;> (try simp only [List.length_append, List.length_cons, List.length_nil, Nat.zero_add]) <;> (first | rfl | (simp only [refsL, refs, refs_gvec, refs_ivec, ren, ren_gvec, List.nil_append, List.append_nil, List.cons_append, List.map_cons, List.map_nil, upd_atB, upd_offB, Nat.reduceEqDiff, not_false_eq_true, ofHp, ixOf, if_true, Bool.and_self, Bool.true_and]; first | rfl | done) | (simp only [refsL, refs, refs_gvec, refs_ivec, ren, ren_gvec, List.nil_append, List.append_nil, List.cons_append, List.map_cons, List.map_nil, upd_atB, upd_offB, Nat.reduceEqDiff, not_false_eq_true, ofHp, ixOf, if_true, Bool.and_self, Bool.true_and]; simp; done)))
    | (first | rfl | (simp only [refsL, refs, refs_gvec, refs_ivec, ren, ren_gvec, List.nil_append, List.append_nil, List.cons_append, List.map_cons, List.map_nil, upd_atB, upd_offB, Nat.reduceEqDiff, not_false_eq_true, ofHp, ixOf, if_true, Bool.and_self, Bool.true_and]; first | rfl | done) | (simp only [refsL, refs, refs_gvec, refs_ivec, ren, ren_gvec, List.nil_append, List.append_nil, List.cons_append, List.map_cons, List.map_nil, upd_atB, upd_offB, Nat.reduceEqDiff, not_false_eq_true, ofHp, ixOf, if_true, Bool.and_self, Bool.true_and]; simp; done))
noncomputable def FSinceH := mkF (fun s : Hist × Int => [histE s.1, .it .i64 s.2]) (fun s => HSm s.1) (fun s => Res.via (.tup [deltasE (sinceP s.1 s.2).1, .it .i64 (sinceP s.1 s.2).2]))
theorem FSinceH_eq {g : Hist} {n1 : Int} (hp : HSm g) : FSinceH [histE g, .it .i64 n1] = some (Res.via (.tup [deltasE (sinceP g n1).1, .it .i64 (sinceP g n1).2])) := mkF_eq (s := (g, n1)) (fun s s' h => by simp only [List.cons.injEq, D.it.injEq, D.st.injEq, D.bo.injEq, true_and, and_true, adr_iff, dat_iff, rec_iff, zone_iff, delta_iff, hist_iff, recs_iff, deltas_iff, strs_iff, ints_iff] at h; simp only [h]) hp
set_option maxHeartbeats 4000000 in
theorem runSinceH (cx : Cx) (hP : cx.P = Try.prog) (hbs : cx.bs = 0) (h35 : cx.orc 35 = some FSteps) (h36 : cx.orc 36 = some FCopied) (g : Hist) (n1 : Int) (hl : HSm g) : pureRun cx Try.f21 [] true [histE g, .it .i64 n1] = some (Res.via (.tup [deltasE (sinceP g n1).1, .it .i64 (sinceP g n1).2])) := by
  have c35 := fun H nid l => (show callD cx 35 l H nid = _ from call_orc h35)
  have c36 := fun H nid l => (show callD cx 36 l H nid = _ from call_orc h36)
  have hl1 := hl.1.2.1; have hl2 := hl.2.1; have hle := steps_le g n1
  have hw : IntKind.i64.wrap ((g.deltas.length : Int) - (stepsP g n1).1) = (g.deltas.length : Int) - (stepsP g n1).1 := by rw [wrap64 (by omega) (by omega)]
  have hsl : ∀ (H : Hp) (k : IntKind), sliceD Try.prog H 31 (deltasE g.deltas) (some (.it k ((g.deltas.length : Int) - (stepsP g n1).1))) none none = some (deltasE (g.deltas.drop ((g.deltas.length : Int) - (stepsP g n1).1).toNat)) := fun H k => by obtain ⟨j, hj⟩ := Int.eq_ofNat_of_zero_le (by omega : 0 ≤ (g.deltas.length : Int) - (stepsP g n1).1); rw [hj]; exact slf_vecE Try.underlying31 sz58 (by omega)
  have hl3 : ∀ k : Nat, (g.deltas.drop k).length ≤ 1000000 := fun k => by rw [List.length_drop]; omega
  have hl4 : ∀ k : Nat, DsSm (g.deltas.drop k) := fun k d hd => hl.2.2 d (List.mem_of_mem_drop hd)
  refine pure_al (rs := [.tmp 4, .tmp 5]) rfl hbs rfl ?_
  repeat' first
    | (refine br_mk (fun h => ?_) (fun h => ?_) <;> (try simp only [Bool.not_eq_true, Bool.not_eq_false, Classical.not_not] at h))
    | (refine ms_mk ?_ ?_)
    | simp only [↓cD, cU, cB, intOp, unD, minD_two, builtinD, idx, reduceCtorEq, ↓reduceIte, ofV, ofC, argEnv, Nat.reduceEqDiff, not_false_eq_true, flatL, cG, Bool.and_self,
      decide_true, decide_false, not_true_eq_false, false_and, false_implies, Option.map_some, Option.bind_some, Option.bind_none, Option.map_none, List.getElem?_toArray, List.toList_toArray, decide_eq_true_eq, decide_eq_false_iff_not, ge_iff_le, gt_iff_lt, and_true, true_and, implies_true, forall_const, true_or, or_true,
      immL, immD, Bool.true_and, Bool.and_true, Bool.false_and, Bool.and_false, Bool.true_or, Bool.or_true, Bool.false_or, Bool.or_false, Res.flat, ren, renL, List.length_nil, Nat.add_zero, List.map_cons, List.map_nil, List.nil_append, List.append_nil, List.cons_append, List.getElem?_cons_zero, List.getElem?_cons_succ, Bool.not_eq_true', Bool.not_true, Bool.not_false, Bool.not_eq_true, Bool.not_eq_false', Bool.not_eq_false, Bool.true_eq_false, Bool.false_eq_true, if_true, if_false, Int.reduceEq, Int.reduceLT, Int.reduceLE, Int.reduceNe, ite_self, or_false, false_or, or_self, eq_self, List.zip_cons_cons, List.zip_nil_left, deref, ldD, List.head?_cons, convD, shiftOp, strOp, bitsOp, cC, c35, c36, callX_imm, callX_nil, FSteps_eq, FCopied_eq, ↓neq37, ↓eql37, ↓neq39, ↓eql39, ↓neq41, ↓eql41, cV, cT, cF, cW, borT, borM, bor_agg, Res.via, List.size_toArray, List.isEmpty_cons, put_ap, putAll_one, elems_own, refsB, List.isEmpty_nil, Nat.reduceLT, Nat.reduceSub, Nat.reduceLeDiff, Nat.reduceMul, Nat.reduceAdd, Int.toNat_natCast, Int.reduceToNat, appK, nilRow, callX_bor, borL, bor_row, bor_one, take_map_len, List.drop_zero, map_snoc, map_app, fillE, cO, List.length_cons, List.length_replicate, List.length_append, List.length_map, List.replicate, List.set_cons_zero, List.set_cons_succ, List.take_zero, List.take_succ_cons, List.drop_succ_cons, Nat.zero_lt_succ, Option.isSome_some, partD, ofHp, ixOf, hl1, hl2, hl3, hl4, hw, hsl, hP, *]
  all_goals first
    | rfl
    | (have e : sinceP g n1 = ([], 11) := (by rw [sinceP, if_pos ‹_›]); rw [e]; exact ⟨_, rfl, rfl⟩)
    | (have e : sinceP g n1 = (g.deltas.drop ((g.deltas.length : Int) - (stepsP g n1).1).toNat, 0) := (by rw [sinceP, if_neg (by simp only [*, Bool.true_eq_false, not_false_eq_true])]); rw [e]; exact ⟨_, rfl, rfl⟩)
def fstX (l : List Rec) (i j : Nat) : List Rec := if i = 0 then soas (l.take j) else if i = 1 then soas l ++ rests (l.take j) else soas l ++ rests l
def firstX (l : List Rec) : List Rec := soas l ++ rests l
theorem fst_zero (l : List Rec) : fstX l 0 0 = [] := rfl
theorem fst_next {l : List Rec} {i : Nat} (hi : (i : Int) < 2) : fstX l i l.length = fstX l (i + 1) 0 := by
  rcases (by omega : i = 0 ∨ i = 1) with rfl | rfl
  · simp [fstX, soas, rests]
  · simp [fstX, soas, rests]
theorem fst_yes {l : List Rec} {i j : Nat} (hi : (i : Int) < 2) (hj : (j : Int) < l.length) (h : (decide (l[j]!.typ = 6) == decide (i = 0)) = true) : fstX l i (j + 1) = fstX l i j ++ [l[j]!] := by
  rcases (by omega : i = 0 ∨ i = 1) with rfl | rfl
  · simp only [fstX, if_true]; exact soas_yes hj (by simpa using h)
  · simp only [fstX, if_true, if_false, Nat.one_ne_zero, List.append_assoc]; rw [rests_yes hj (by simpa using h)]
theorem fst_no {l : List Rec} {i j : Nat} (hi : (i : Int) < 2) (hj : (j : Int) < l.length) (h : (decide (l[j]!.typ = 6) == decide (i = 0)) = false) : fstX l i (j + 1) = fstX l i j := by
  rcases (by omega : i = 0 ∨ i = 1) with rfl | rfl
  · simp only [fstX, if_true]; exact soas_no hj (by simpa using h)
  · simp only [fstX, if_true, if_false, Nat.one_ne_zero]; rw [rests_no hj (by simpa using h)]
theorem fst_len (l : List Rec) (i j : Nat) : (fstX l i j).length ≤ 2 * l.length := by
  have h1 := soas_len (l.take j); have h2 := soas_len l; have h3 := rests_len (l.take j); have h4 := rests_len l
  rw [List.length_take] at h1 h3
  unfold fstX
  split
  · omega
  · split <;> (rw [List.length_append]; omega)
theorem two_at {i : Nat} (hi : (i : Int) < 2) : ([.bo true, .bo false] : List D)[i]? = some (.bo (decide (i = 0))) := by
  rcases (by omega : i = 0 ∨ i = 1) with rfl | rfl <;> rfl

theorem el67 : elemT Try.prog 67 = some 4 := by kernel_rfl
theorem ze67 : zeroE Try.prog 4 1 = some (.bo false) := by kernel_rfl
theorem leno67 : ∀ (H : Hp) (id off len : Nat), lenD Try.prog H 67 (.own id off len) = match H id with | .row _ _ _ => some (len : Int) | _ => none := fun _ _ _ _ => len_own Try.underlying67
theorem ixo67 : ∀ (H : Hp) (id off len : Nat) (k : IntKind) (n : Int), indexAddrD Try.prog H 67 (.own id off len) (.it k n) = match H id with | .row sz _ _ => if szT Try.prog 4 = some sz ∧ 0 ≤ n ∧ n < len then some (.rowp id (off + n.toNat) 0) else none | _ => none := fun _ _ _ _ _ _ => ixo_eq Try.underlying67
noncomputable def FFst := mkF (fun s : (List Rec) => [recsE s]) (fun s => s.length ≤ 1000000) (fun s => Res.row 16 ((firstX s).map recE))
theorem FFst_eq {a : List Rec} (hp : a.length ≤ 1000000) : FFst [recsE a] = some (Res.row 16 ((firstX a).map recE)) := mkF_eq (s := (a)) (fun s s' h => by simp only [List.cons.injEq, D.it.injEq, D.st.injEq, D.bo.injEq, true_and, and_true, adr_iff, dat_iff, rec_iff, zone_iff, delta_iff, hist_iff, recs_iff, deltas_iff, strs_iff, ints_iff] at h; simp only [h]) hp
set_option maxHeartbeats 4000000 in
theorem runFst (cx : Cx) (hP : cx.P = Try.prog) (hbs : cx.bs = 0) (hk3 : cx.kp 3 = some [0, 3, 12, 13, 14]) (hk6 : cx.kp 6 = some [0, 3, 5, 12, 13, 14, 18, 19, 20]) (a : List Rec) (hl : a.length ≤ 1000000) : pureRun cx Try.f17 [0] false [recsE a] = some (Res.row 16 ((firstX a).map recE)) := by
  have hw : ∀ k : Nat, (k : Int) < a.length → IntKind.i64.wrap ((k : Int) + 1) = ((k + 1 : Nat) : Int) := wrapS (by omega)
  have hw0 : IntKind.i64.wrap ((a.length : Int) + 1) = (a.length : Int) + 1 := by rw [wrap64 (by omega) (by omega)]
  have hm1 : (0 ≤ (a.length : Int) + 1) = True := by simp only [eq_iff_iff, iff_true]; omega
  have hm2 : (((160 : Nat) : Int) * ((a.length : Int) + 1) ≤ 281474976710656) = True := by simp only [eq_iff_iff, iff_true]; omega
  have hm3 : ((160 : Int) * ((a.length : Int) + 1) ≤ 281474976710656) = True := by simp only [eq_iff_iff, iff_true]; omega
  have hw2 : ∀ k : Nat, (k : Int) < 2 → IntKind.i64.wrap ((k : Int) + 1) = ((k + 1 : Nat) : Int) := fun k h => by rw [wrap64 (by omega) (by omega)]; omega
  refine pure_row (rs := [.tmp 2]) rfl hbs rfl ?_
  repeat' first
    | (refine evX_loop_rows (σ := Nat) (fun i => [recsE a, .own 0 0 (fstX a i 0).length, .own 1 0 2, .it .i64 2, .it .i64 i]) (fun i => [.row 16 true ((fstX a i 0).map recE), .row 1 true [.bo true, .bo false]]) (fun i => i ≤ 2) (fun i => 2 - i) [0, 3, 12, 13, 14] hbs (by exact hk3) (fun q jq b hb => by simp only [List.mem_cons, List.not_mem_nil, or_false] at hb; rcases hb with rfl | rfl; exact map_refs (fun _ => rfl); (intro x hx; simp only [List.mem_cons, List.not_mem_nil, or_false] at hx; rcases hx with rfl | rfl <;> rfl)) (fun i ji => ?_) (s := 0) [1, 2] ?_ ?_ ?_ ?_ ?_)
    | (refine evX_loop_rows (σ := Nat) (fun s => [recsE a, .own 0 0 (fstX a i s).length, .bo (decide (i = 0)), .own 1 0 2, .it .i64 2, .it .i64 i, recsE a, .it .i64 a.length, .it .i64 s]) (fun s => [.row 16 true ((fstX a i s).map recE), .row 1 true [.bo true, .bo false]]) (fun s => s ≤ a.length) (fun s => a.length - s) [0, 3, 5, 12, 13, 14, 18, 19, 20] hbs (by exact hk6) (fun q jq b hb => by simp only [List.mem_cons, List.not_mem_nil, or_false] at hb; rcases hb with rfl | rfl; exact map_refs (fun _ => rfl); (intro x hx; simp only [List.mem_cons, List.not_mem_nil, or_false] at hx; rcases hx with rfl | rfl <;> rfl)) (fun s js => ?_) (s := 0) [0, 1] ?_ ?_ ?_ ?_ ?_)
    | (refine br_mk (fun h => ?_) (fun h => ?_) <;> (try simp only [Bool.not_eq_true, Bool.not_eq_false, Classical.not_not] at h))
    | (refine ms_mk ?_ ?_)
    | simp only [↓cD, cU, cB, intOp, unD, minD_two, builtinD, idx, reduceCtorEq, ↓reduceIte, ofV, ofC, argEnv, Nat.reduceEqDiff, not_false_eq_true, flatL, cG, Bool.and_self,
      decide_true, decide_false, not_true_eq_false, false_and, false_implies, Option.map_some, Option.bind_some, Option.bind_none, Option.map_none, List.getElem?_toArray, List.toList_toArray, decide_eq_true_eq, decide_eq_false_iff_not, ge_iff_le, gt_iff_lt, and_true, true_and, implies_true, forall_const, true_or, or_true,
      immL, immD, Bool.true_and, Bool.and_true, Bool.false_and, Bool.and_false, Bool.true_or, Bool.or_true, Bool.false_or, Bool.or_false, Res.flat, ren, renL, List.length_nil, Nat.add_zero, List.map_cons, List.map_nil, List.nil_append, List.append_nil, List.cons_append, List.getElem?_cons_zero, List.getElem?_cons_succ, Bool.not_eq_true', Bool.not_true, Bool.not_false, Bool.not_eq_true, Bool.not_eq_false', Bool.not_eq_false, Bool.true_eq_false, Bool.false_eq_true, if_true, if_false, Int.reduceEq, Int.reduceLT, Int.reduceLE, Int.reduceNe, ite_self, or_false, false_or, or_self, eq_self, List.zip_cons_cons, List.zip_nil_left, deref, ldD, List.head?_cons, convD, shiftOp, strOp, bitsOp, cC, ↓neq37, ↓eql37, ↓neq39, ↓eql39, ↓neq41, ↓eql41, cV, cT, cF, cW, borT, borM, bor_agg, Res.via, List.size_toArray, List.isEmpty_cons, put_ap, putAll_one, elems_own, refsB, List.isEmpty_nil, Nat.reduceLT, Nat.reduceSub, Nat.reduceLeDiff, Nat.reduceMul, Nat.reduceAdd, Int.toNat_natCast, Int.reduceToNat, appK, nilRow, callX_bor, borL, bor_row, bor_one, take_map_len, List.drop_zero, map_snoc, map_app, fillE, cO, List.length_cons, List.length_replicate, List.length_append, List.length_map, List.replicate, List.set_cons_zero, List.set_cons_succ, List.take_zero, List.take_succ_cons, List.drop_succ_cons, Nat.zero_lt_succ, Option.isSome_some, partD, ofHp, ixOf, hw, hw0, hw2, hm1, hm2, hm3, two_at, Nat.zero_add, eqRes, eqD, el67, ze67, leno67, ixo67, hP, *]
  all_goals first
    | rfl
    | omega
    | exact Nat.zero_le _
    | (have e : fstX a i 0 = firstX a := (by rw [show i = 2 by omega]; rfl); rw [e]; exact ⟨_, _, _, _, rfl, rfl, by simp, map_dry (fun _ => rfl), rfl⟩)
    | (have h1 := fst_len a i s; first | omega | (constructor <;> omega))
    | (have e := fst_yes (l := a) (i := i) (j := s) (by omega) (by omega) ‹_›; refine ⟨[4, 1], s + 1, ?_, ?_, ?_, ?_, by omega, by omega⟩ <;> (try rw [e]) <;> (try simp only [List.length_append, List.length_cons, List.length_nil, Nat.zero_add]) <;> (first | rfl | (simp only [refsL, refs, refs_gvec, refs_ivec, ren, ren_gvec, List.nil_append, List.append_nil, List.cons_append, List.map_cons, List.map_nil, upd_atB, upd_offB, Nat.reduceEqDiff, not_false_eq_true, ofHp, ixOf, if_true, Bool.and_self, Bool.true_and]; first | rfl | done) | (simp only [refsL, refs, refs_gvec, refs_ivec, ren, ren_gvec, List.nil_append, List.append_nil, List.cons_append, List.map_cons, List.map_nil, upd_atB, upd_offB, Nat.reduceEqDiff, not_false_eq_true, ofHp, ixOf, if_true, Bool.and_self, Bool.true_and]; simp; done)))
    | (have e := fst_no (l := a) (i := i) (j := s) (by omega) (by omega) ‹_›; refine ⟨[0, 1], s + 1, ?_, ?_, ?_, ?_, by omega, by omega⟩ <;> (try rw [e]) <;> (first | rfl | (simp only [refsL, refs, refs_gvec, refs_ivec, ren, ren_gvec, List.nil_append, List.append_nil, List.cons_append, List.map_cons, List.map_nil, upd_atB, upd_offB, Nat.reduceEqDiff, not_false_eq_true, ofHp, ixOf, if_true, Bool.and_self, Bool.true_and]; first | rfl | done) | (simp only [refsL, refs, refs_gvec, refs_ivec, ren, ren_gvec, List.nil_append, List.append_nil, List.cons_append, List.map_cons, List.map_nil, upd_atB, upd_offB, Nat.reduceEqDiff, not_false_eq_true, ofHp, ixOf, if_true, Bool.and_self, Bool.true_and]; simp; done)))
    | (have e : fstX a (i + 1) 0 = fstX a i s := (by rw [← fst_next (by omega), show s = a.length by omega]); refine ⟨[0, 1], i + 1, ?_, ?_, ?_, ?_, by omega, by omega⟩ <;> (try rw [e]) <;> (first | rfl | (simp only [refsL, refs, refs_gvec, refs_ivec, ren, ren_gvec, List.nil_append, List.append_nil, List.cons_append, List.map_cons, List.map_nil, upd_atB, upd_offB, Nat.reduceEqDiff, not_false_eq_true, ofHp, ixOf, if_true, Bool.and_self, Bool.true_and]; first | rfl | done) | (simp only [refsL, refs, refs_gvec, refs_ivec, ren, ren_gvec, List.nil_append, List.append_nil, List.cons_append, List.map_cons, List.map_nil, upd_atB, upd_offB, Nat.reduceEqDiff, not_false_eq_true, ofHp, ixOf, if_true, Bool.and_self, Bool.true_and]; simp; done)))
    | (first | rfl | (simp only [refsL, refs, refs_gvec, refs_ivec, ren, ren_gvec, List.nil_append, List.append_nil, List.cons_append, List.map_cons, List.map_nil, upd_atB, upd_offB, Nat.reduceEqDiff, not_false_eq_true, ofHp, ixOf, if_true, Bool.and_self, Bool.true_and]; first | rfl | done) | (simp only [refsL, refs, refs_gvec, refs_ivec, ren, ren_gvec, List.nil_append, List.append_nil, List.cons_append, List.map_cons, List.map_nil, upd_atB, upd_offB, Nat.reduceEqDiff, not_false_eq_true, ofHp, ixOf, if_true, Bool.and_self, Bool.true_and]; simp; done))
end Go.Mir
