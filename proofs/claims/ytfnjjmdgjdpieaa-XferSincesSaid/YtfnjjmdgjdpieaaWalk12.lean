/- What functions of the program answer, read off. -/
import Derived.Test.YtfnjjmdgjdpieaaWalk11
import Derived.KernelRfl
set_option linter.unusedSimpArgs false
set_option linter.unusedVariables false
namespace Go.Mir
open Go Go.RowKit Go.Proofs
attribute [local congr] Ev.congr EvC.congr EvW.congr Br.congr Ms.congr
set_option maxRecDepth 100000
def hasL (l : List Rec) (r : Rec) : Bool := l.any fun x => decide (x = r)
def alike (a b : Rec) : Bool := (a.name == b.name) && (decide (a.typ = b.typ) && decide (a.dat = b.dat))
def without (a b : List Rec) : List Rec := a.filter fun x => !hasL b x
def sink : Nat → List Rec → List Rec
  | 0, l => l
  | k + 1, l => if 0 < cmpR l[k]! l[k + 1]! then sink k ((l.set (k + 1) l[k]!).set k l[k + 1]!) else l
def ordR (l : List Rec) : List Rec := l.foldl (fun out x => sink out.length (out ++ [x])) []
def both (a b : List Rec) : List Rec := ordR (a ++ b)
theorem any_no {α : Type} [Inhabited α] {l : List α} {p : α → Bool} {i : Nat} (h : (i : Int) < l.length) (hp : p l[i]! = true) : l.any p = true := List.any_eq_true.2 ⟨_, mem_at h, hp⟩
theorem get_memR {l : List Rec} {i : Nat} (h : i < l.length) : l[i]! ∈ l := by rw [getElem!_pos l i h]; exact List.getElem_mem h
theorem sink_len : ∀ (k : Nat) (l : List Rec), (sink k l).length = l.length
  | 0, l => rfl
  | k + 1, l => by unfold sink; split; rw [sink_len k, List.length_set, List.length_set]; rfl
theorem sink_mem : ∀ (k : Nat) (l : List Rec) (y : Rec), k < l.length → y ∈ sink k l → y ∈ l
  | 0, l, y, _, h => h
  | k + 1, l, y, hk, h => by
    unfold sink at h
    split at h
    · have h := sink_mem k _ y (by rw [List.length_set, List.length_set]; omega) h
      rcases List.mem_or_eq_of_mem_set h with h | h
      · rcases List.mem_or_eq_of_mem_set h with h | h
        · exact h
        · rw [h]; exact get_memR (by omega)
      · rw [h]; exact get_memR (by omega)
    · exact h
theorem ordR_step {l : List Rec} {i : Nat} (h : (i : Int) < l.length) : ordR (l.take (i + 1)) = sink (ordR (l.take i)).length (ordR (l.take i) ++ [l[i]!]) := by
  unfold ordR
  rw [takeN h, List.foldl_append]; rfl
theorem foldS_len : ∀ (l out : List Rec), (l.foldl (fun out x => sink out.length (out ++ [x])) out).length = out.length + l.length
  | [], out => rfl
  | x :: r, out => by
    show (r.foldl _ (sink out.length (out ++ [x]))).length = _
    rw [foldS_len r, sink_len]; simp only [List.length_append, List.length_cons, List.length_nil]; omega
theorem foldS_mem : ∀ (l out : List Rec) (y : Rec), y ∈ l.foldl (fun out x => sink out.length (out ++ [x])) out → y ∈ l ∨ y ∈ out
  | [], out, y, h => .inr h
  | x :: r, out, y, h => by
    rcases foldS_mem r _ y h with h | h
    · exact .inl (by simp [h])
    · rcases List.mem_append.1 (sink_mem _ _ _ (by simp) h) with h | h
      · exact .inr h
      · exact .inl (by simp at h; simp [h])
theorem ordR_len (l : List Rec) : (ordR l).length = l.length := by rw [ordR, foldS_len]; simp
theorem ordR_mem {l : List Rec} {y : Rec} (h : y ∈ ordR l) : y ∈ l := by
  rcases foldS_mem l [] y h with h | h
  · exact h
  · cases h
theorem LSm.ord {l : List Rec} (h : LSm l) : LSm (ordR l) := ⟨by rw [ordR_len]; exact h.1, fun r hr => h.2 r (ordR_mem hr)⟩
theorem LSm.filter {l : List Rec} (h : LSm l) (p : Rec → Bool) : LSm (l.filter p) := ⟨Nat.le_trans (List.length_filter_le _ _) h.1, fun r hr => h.2 r (List.mem_filter.1 hr).1⟩
theorem LSm.app {a b : List Rec} (ha : LSm a) (hb : LSm b) (hn : a.length + b.length ≤ 1000000) : LSm (a ++ b) := ⟨by rw [List.length_append]; exact hn, fun r hr => by rcases List.mem_append.1 hr with h | h; exact ha.2 r h; exact hb.2 r h⟩
theorem both_len (a b : List Rec) : (both a b).length = a.length + b.length := by rw [both, ordR_len, List.length_append]
theorem without_len (a b : List Rec) : (without a b).length ≤ a.length := List.length_filter_le _ _
def srt : List Rec → Bool
  | a :: b :: r => if 0 ≤ cmpR a b then false else if alike a b = true then false else srt (b :: r)
  | _ => true
theorem srt_on {l : List Rec} {s : Nat} (h : ((s : Int) + 1) < l.length) : srt (l.drop s) = if 0 ≤ cmpR l[s]! l[s + 1]! then false else if alike l[s]! l[s + 1]! = true then false else srt (l.drop (s + 1)) := by
  rw [drop_at (zs := l) (by omega), drop_at (zs := l) (i := s + 1) (by omega)]; rfl
theorem srt_end {l : List Rec} {s : Nat} (h : ¬ ((s : Int) + 1) < l.length) : srt (l.drop s) = true := by
  by_cases h2 : s < l.length
  · rw [drop_at (zs := l) (by omega), drop_end (zs := l) (i := s + 1) (by omega)]; rfl
  · rw [drop_end (zs := l) (by omega)]; rfl
def soaD (r : Rec) : Bool := decide (r.typ = 6)
def staX (o : List UInt8) (n : Int) (r : Rec) : Bool := if r.typ = 6 then (r.name == o) && decide (r.dat.a = n) else true
def startB (l : List Rec) (o : List UInt8) (n : Int) : Bool := if l.all (staX o n) = false then false else decide (((l.filter soaD).length : Int) = 1)
def insX (o : List UInt8) (r : Rec) : Bool := if validR r = false then false else underB r.name o
def insideB (l : List Rec) (o : List UInt8) : Bool := l.all (insX o)

noncomputable def FHasL := mkF (fun s : (List Rec) × Rec => [recsE s.1, recE s.2]) (fun s => s.1.length ≤ 1000000) (fun s => Res.flat (.bo (hasL s.1 s.2)))
theorem FHasL_eq {a : List Rec} {r1 : Rec} (hp : a.length ≤ 1000000) : FHasL [recsE a, recE r1] = some (Res.flat (.bo (hasL a r1))) := mkF_eq (s := (a, r1)) (fun s s' h => by simp only [List.cons.injEq, D.it.injEq, D.st.injEq, D.bo.injEq, true_and, and_true, adr_iff, dat_iff, rec_iff, zone_iff, delta_iff, hist_iff, recs_iff, deltas_iff, strs_iff, ints_iff] at h; simp only [h]) hp
set_option maxHeartbeats 4000000 in
theorem runHasL (cx : Cx) (hP : cx.P = Try.prog) (hbs : cx.bs = 0) (hk2 : cx.kp 2 = some [0, 3, 5]) (a : List Rec) (r1 : Rec) (hl : a.length ≤ 1000000) : pureRun cx Try.f68 [] false [recsE a, recE r1] = some (Res.flat (.bo (hasL a r1))) := by
  have hw : ∀ k : Nat, (k : Int) < a.length → IntKind.i64.wrap ((k : Int) + 1) = ((k + 1 : Nat) : Int) := wrapS (by omega)
  refine pure_flat (rs := [.tmp 4]) rfl hbs rfl ?_
  repeat' first
    | (refine evX_loop_rows (σ := Nat) (fun s => [recsE a, .ptr 0 0, .it .i64 s]) (fun s => [.box (recL r1)]) (fun s => s ≤ a.length ∧ (a.take s).any (fun x => decide (x = r1)) = false) (fun s => a.length - s) [0, 3, 5] hbs (by exact hk2) (fun q jq b hb => by simp only [List.mem_singleton] at hb; subst hb; exact rec_flat r1) (fun s js => ?_) (s := 0) [0] ?_ ?_ ?_ ?_ ?_)
    | (refine br_mk (fun h => ?_) (fun h => ?_) <;> (try simp only [Bool.not_eq_true, Bool.not_eq_false, Classical.not_not] at h))
    | (refine ms_mk ?_ ?_)
    | simp only [↓cD, cU, cB, intOp, unD, minD_two, builtinD, idx, reduceCtorEq, ↓reduceIte, ofV, ofC, argEnv, Nat.reduceEqDiff, not_false_eq_true, flatL, cG, Bool.and_self,
      decide_true, decide_false, not_true_eq_false, false_and, false_implies, Option.map_some, Option.bind_some, Option.bind_none, Option.map_none, List.getElem?_toArray, List.toList_toArray, decide_eq_true_eq, decide_eq_false_iff_not, ge_iff_le, gt_iff_lt, and_true, true_and, implies_true, forall_const, true_or, or_true,
      immL, immD, Bool.true_and, Bool.and_true, Bool.false_and, Bool.and_false, Bool.true_or, Bool.or_true, Bool.false_or, Bool.or_false, Res.flat, ren, renL, List.length_nil, Nat.add_zero, List.map_cons, List.map_nil, List.nil_append, List.append_nil, List.cons_append, List.getElem?_cons_zero, List.getElem?_cons_succ, Bool.not_eq_true', Bool.not_true, Bool.not_false, Bool.not_eq_true, Bool.not_eq_false', Bool.not_eq_false, Bool.true_eq_false, Bool.false_eq_true, if_true, if_false, Int.reduceEq, Int.reduceLT, Int.reduceLE, Int.reduceNe, ite_self, or_false, false_or, or_self, eq_self, List.zip_cons_cons, List.zip_nil_left, deref, ldD, List.head?_cons, convD, shiftOp, strOp, bitsOp, cC, cS, refs, okRoots, okId, List.all_nil, List.all_cons, List.length_cons, Nat.zero_add, Nat.reduceMul, Nat.reduceAdd, Nat.reduceLeDiff, refsL, List.flatMap_cons, List.flatMap_nil, ↓neq37, ↓eql37, ↓neq39, ↓eql39, ↓neq41, ↓eql41, cV, cT, cF, cW, borT, borM, bor_agg, Res.via, List.size_toArray, List.isEmpty_cons, put_ap, putAll_one, elems_own, refsB, List.isEmpty_nil, Nat.reduceLT, Nat.reduceSub, Nat.reduceLeDiff, Nat.reduceMul, Nat.reduceAdd, Int.toNat_natCast, Int.reduceToNat, appK, nilRow, callX_bor, borL, bor_row, bor_one, take_map_len, List.drop_zero, map_snoc, map_app, fillE, cO, List.length_cons, List.length_replicate, List.length_append, List.length_map, List.replicate, List.set_cons_zero, List.set_cons_succ, List.take_zero, List.take_succ_cons, List.drop_succ_cons, Nat.zero_lt_succ, Option.isSome_some, partD, ofHp, ixOf, cS, refs, okRoots, okId, List.all_nil, List.all_cons, List.length_cons, Nat.zero_add, Nat.reduceMul, Nat.reduceAdd, Nat.reduceLeDiff, refsL, List.flatMap_cons, List.flatMap_nil, hw, hP, *]
  all_goals (try simp only [hasL])
  all_goals first
    | rfl
    | exact ⟨Nat.zero_le _, rfl⟩
    | (refine ⟨[0], s + 1, rfl, rfl, rfl, rfl, ⟨by omega, by rw [any_step (by omega), js.2, Bool.false_or]; exact decide_eq_false ‹_›⟩, by omega⟩)
    | (rw [any_no (p := fun x => decide (x = r1)) (i := s) (by omega) (decide_eq_true ‹_›)])
    | (rw [take_end (by omega)] at js; rw [js.2])
    | omega
    | (first | rfl | (simp only [refsL, refs, refs_gvec, refs_ivec, ren, ren_gvec, List.nil_append, List.append_nil, List.cons_append, List.map_cons, List.map_nil, upd_atB, upd_offB, Nat.reduceEqDiff, not_false_eq_true, ofHp, ixOf, if_true, Bool.and_self, Bool.true_and]; first | rfl | done) | (simp only [refsL, refs, refs_gvec, refs_ivec, ren, ren_gvec, List.nil_append, List.append_nil, List.cons_append, List.map_cons, List.map_nil, upd_atB, upd_offB, Nat.reduceEqDiff, not_false_eq_true, ofHp, ixOf, if_true, Bool.and_self, Bool.true_and]; simp; done))
noncomputable def FAlike := mkF (fun s : Rec × Rec => [recE s.1, recE s.2]) (fun s => True) (fun s => Res.flat (.bo (alike s.1 s.2)))
theorem FAlike_eq {r1 : Rec} {r2 : Rec} : FAlike [recE r1, recE r2] = some (Res.flat (.bo (alike r1 r2))) := mkF_eq (s := (r1, r2)) (fun s s' h => by simp only [List.cons.injEq, D.it.injEq, D.st.injEq, D.bo.injEq, true_and, and_true, adr_iff, dat_iff, rec_iff, zone_iff, delta_iff, hist_iff, recs_iff, deltas_iff, strs_iff, ints_iff] at h; simp only [h]) trivial
set_option maxHeartbeats 4000000 in
theorem runAlike (cx : Cx) (hP : cx.P = Try.prog) (hbs : cx.bs = 0) (r1 r2 : Rec)  : pureRun cx Try.f67 [] false [recE r1, recE r2] = some (Res.flat (.bo (alike r1 r2))) := by
  refine pure_flat (rs := [.tmp 4]) rfl hbs rfl ?_
  repeat' first
    | (refine br_mk (fun h => ?_) (fun h => ?_) <;> (try simp only [Bool.not_eq_true, Bool.not_eq_false, Classical.not_not] at h))
    | (refine ms_mk ?_ ?_)
    | simp only [↓cD, cU, cB, intOp, unD, minD_two, builtinD, idx, reduceCtorEq, ↓reduceIte, ofV, ofC, argEnv, Nat.reduceEqDiff, not_false_eq_true, flatL, cG, Bool.and_self,
      decide_true, decide_false, not_true_eq_false, false_and, false_implies, Option.map_some, Option.bind_some, Option.bind_none, Option.map_none, List.getElem?_toArray, List.toList_toArray, decide_eq_true_eq, decide_eq_false_iff_not, ge_iff_le, gt_iff_lt, and_true, true_and, implies_true, forall_const, true_or, or_true,
      immL, immD, Bool.true_and, Bool.and_true, Bool.false_and, Bool.and_false, Bool.true_or, Bool.or_true, Bool.false_or, Bool.or_false, Res.flat, ren, renL, List.length_nil, Nat.add_zero, List.map_cons, List.map_nil, List.nil_append, List.append_nil, List.cons_append, List.getElem?_cons_zero, List.getElem?_cons_succ, Bool.not_eq_true', Bool.not_true, Bool.not_false, Bool.not_eq_true, Bool.not_eq_false', Bool.not_eq_false, Bool.true_eq_false, Bool.false_eq_true, if_true, if_false, Int.reduceEq, Int.reduceLT, Int.reduceLE, Int.reduceNe, ite_self, or_false, false_or, or_self, eq_self, List.zip_cons_cons, List.zip_nil_left, deref, ldD, List.head?_cons, convD, shiftOp, strOp, bitsOp, cC, ↓neq37, ↓eql37, ↓neq39, ↓eql39, ↓neq41, ↓eql41, cV, cT, cF, cW, borT, borM, bor_agg, Res.via, List.size_toArray, List.isEmpty_cons, put_ap, putAll_one, elems_own, refsB, List.isEmpty_nil, Nat.reduceLT, Nat.reduceSub, Nat.reduceLeDiff, Nat.reduceMul, Nat.reduceAdd, Int.toNat_natCast, Int.reduceToNat, appK, nilRow, callX_bor, borL, bor_row, bor_one, take_map_len, List.drop_zero, map_snoc, map_app, fillE, cO, List.length_cons, List.length_replicate, List.length_append, List.length_map, List.replicate, List.set_cons_zero, List.set_cons_succ, List.take_zero, List.take_succ_cons, List.drop_succ_cons, Nat.zero_lt_succ, Option.isSome_some, partD, ofHp, ixOf, hP, *]
  all_goals first
    | rfl
    | (simp [alike, *]; done)
    | (simp [alike, *]; omega)
noncomputable def FWo := mkF (fun s : (List Rec) × (List Rec) => [recsE s.1, recsE s.2]) (fun s => s.1.length ≤ 1000000 ∧ s.2.length ≤ 1000000) (fun s => Res.flat (recsE (without s.1 s.2)))
theorem FWo_eq {a : List Rec} {b : List Rec} (hp : a.length ≤ 1000000 ∧ b.length ≤ 1000000) : FWo [recsE a, recsE b] = some (Res.flat (recsE (without a b))) := mkF_eq (s := (a, b)) (fun s s' h => by simp only [List.cons.injEq, D.it.injEq, D.st.injEq, D.bo.injEq, true_and, and_true, adr_iff, dat_iff, rec_iff, zone_iff, delta_iff, hist_iff, recs_iff, deltas_iff, strs_iff, ints_iff] at h; simp only [h]) hp
set_option maxHeartbeats 4000000 in
theorem runWo (cx : Cx) (hP : cx.P = Try.prog) (hbs : cx.bs = 0) (h68 : cx.orc 68 = some FHasL) (hk3 : cx.kp 3 = some [0, 1, 5, 6]) (a b : List Rec) (hl : a.length ≤ 1000000 ∧ b.length ≤ 1000000) : pureRun cx Try.f50 [] false [recsE a, recsE b] = some (Res.flat (recsE (without a b))) := by
  have c68 := fun H nid l => (show callD cx 68 l H nid = _ from call_orc h68)
  have hl2 := hl.2
  have hw : ∀ k : Nat, (k : Int) < a.length → IntKind.i64.wrap ((k : Int) + 1) = ((k + 1 : Nat) : Int) := wrapS (by omega)
  refine pure_vec (rs := [.tmp 4]) rfl hbs rfl ?_
  repeat' first
    | (refine evX_loop_rows (σ := Nat) (fun s => [recsE a, recsE b, .own 0 0 (without (a.take s) b).length, .it .i64 s]) (fun s => [.row 16 true ((without (a.take s) b).map recE)]) (fun s => s ≤ a.length) (fun s => a.length - s) [0, 1, 5, 6] hbs (by exact hk3) (fun q jq b hb => by simp only [List.mem_singleton] at hb; subst hb; exact map_refs (fun _ => rfl)) (fun s js => ?_) (s := 0) [1] ?_ ?_ ?_ ?_ ?_)
    | (refine br_mk (fun h => ?_) (fun h => ?_) <;> (try simp only [Bool.not_eq_true, Bool.not_eq_false, Classical.not_not] at h))
    | (refine ms_mk ?_ ?_)
    | simp only [↓cD, cU, cB, intOp, unD, minD_two, builtinD, idx, reduceCtorEq, ↓reduceIte, ofV, ofC, argEnv, Nat.reduceEqDiff, not_false_eq_true, flatL, cG, Bool.and_self,
      decide_true, decide_false, not_true_eq_false, false_and, false_implies, Option.map_some, Option.bind_some, Option.bind_none, Option.map_none, List.getElem?_toArray, List.toList_toArray, decide_eq_true_eq, decide_eq_false_iff_not, ge_iff_le, gt_iff_lt, and_true, true_and, implies_true, forall_const, true_or, or_true,
      immL, immD, Bool.true_and, Bool.and_true, Bool.false_and, Bool.and_false, Bool.true_or, Bool.or_true, Bool.false_or, Bool.or_false, Res.flat, ren, renL, List.length_nil, Nat.add_zero, List.map_cons, List.map_nil, List.nil_append, List.append_nil, List.cons_append, List.getElem?_cons_zero, List.getElem?_cons_succ, Bool.not_eq_true', Bool.not_true, Bool.not_false, Bool.not_eq_true, Bool.not_eq_false', Bool.not_eq_false, Bool.true_eq_false, Bool.false_eq_true, if_true, if_false, Int.reduceEq, Int.reduceLT, Int.reduceLE, Int.reduceNe, ite_self, or_false, false_or, or_self, eq_self, List.zip_cons_cons, List.zip_nil_left, deref, ldD, List.head?_cons, convD, shiftOp, strOp, bitsOp, cC, c68, callX_imm, callX_nil, FHasL_eq, ↓neq37, ↓eql37, ↓neq39, ↓eql39, ↓neq41, ↓eql41, cV, cT, cF, cW, borT, borM, bor_agg, Res.via, List.size_toArray, List.isEmpty_cons, put_ap, putAll_one, elems_own, refsB, List.isEmpty_nil, Nat.reduceLT, Nat.reduceSub, Nat.reduceLeDiff, Nat.reduceMul, Nat.reduceAdd, Int.toNat_natCast, Int.reduceToNat, appK, nilRow, callX_bor, borL, bor_row, bor_one, take_map_len, List.drop_zero, map_snoc, map_app, fillE, cO, List.length_cons, List.length_replicate, List.length_append, List.length_map, List.replicate, List.set_cons_zero, List.set_cons_succ, List.take_zero, List.take_succ_cons, List.drop_succ_cons, Nat.zero_lt_succ, Option.isSome_some, partD, ofHp, ixOf, hw, hl2, hP, *]
  all_goals first
    | rfl
    | omega
    | (have hq := without_len (a.take s) b; rw [List.length_take] at hq; omega)
    | (refine ⟨[0], s + 1, ?_, ?_, ?_, ?_, by omega, by omega⟩ <;> (try rw [show without (a.take (s + 1)) b = without (a.take s) b from ft_no (by omega) (by simp only [*, Bool.not_true])]) <;> (first | rfl | (simp only [refsL, refs, refs_gvec, refs_ivec, ren, ren_gvec, List.nil_append, List.append_nil, List.cons_append, List.map_cons, List.map_nil, upd_atB, upd_offB, Nat.reduceEqDiff, not_false_eq_true, ofHp, ixOf, if_true, Bool.and_self, Bool.true_and]; first | rfl | done) | (simp only [refsL, refs, refs_gvec, refs_ivec, ren, ren_gvec, List.nil_append, List.append_nil, List.cons_append, List.map_cons, List.map_nil, upd_atB, upd_offB, Nat.reduceEqDiff, not_false_eq_true, ofHp, ixOf, if_true, Bool.and_self, Bool.true_and]; simp; done)))
    | (refine ⟨[2], s + 1, ?_, ?_, ?_, ?_, by omega, by omega⟩ <;> (try rw [show without (a.take (s + 1)) b = without (a.take s) b ++ [a[s]!] from ft_yes (by omega) (by simp only [*, Bool.not_false])]) <;> (first | rfl | (simp only [refsL, refs, refs_gvec, refs_ivec, ren, ren_gvec, List.nil_append, List.append_nil, List.cons_append, List.map_cons, List.map_nil, upd_atB, upd_offB, Nat.reduceEqDiff, not_false_eq_true, ofHp, ixOf, if_true, Bool.and_self, Bool.true_and]; first | rfl | done) | (simp only [refsL, refs, refs_gvec, refs_ivec, ren, ren_gvec, List.nil_append, List.append_nil, List.cons_append, List.map_cons, List.map_nil, upd_atB, upd_offB, Nat.reduceEqDiff, not_false_eq_true, ofHp, ixOf, if_true, Bool.and_self, Bool.true_and]; simp; done)))
    | (first | rfl | (simp only [refsL, refs, refs_gvec, refs_ivec, ren, ren_gvec, List.nil_append, List.append_nil, List.cons_append, List.map_cons, List.map_nil, upd_atB, upd_offB, Nat.reduceEqDiff, not_false_eq_true, ofHp, ixOf, if_true, Bool.and_self, Bool.true_and]; first | rfl | done) | (simp only [refsL, refs, refs_gvec, refs_ivec, ren, ren_gvec, List.nil_append, List.append_nil, List.cons_append, List.map_cons, List.map_nil, upd_atB, upd_offB, Nat.reduceEqDiff, not_false_eq_true, ofHp, ixOf, if_true, Bool.and_self, Bool.true_and]; simp; done))
    | (rw [take_end (by omega)]; exact ⟨_, _, _, _, rfl, rfl, by simp, map_dry (fun _ => rfl), rfl⟩)
noncomputable def FSrt := mkF (fun s : (List Rec) => [recsE s]) (fun s => LSm s) (fun s => Res.flat (.bo (srt s)))
theorem FSrt_eq {a : List Rec} (hp : LSm a) : FSrt [recsE a] = some (Res.flat (.bo (srt a))) := mkF_eq (s := (a)) (fun s s' h => by simp only [List.cons.injEq, D.it.injEq, D.st.injEq, D.bo.injEq, true_and, and_true, adr_iff, dat_iff, rec_iff, zone_iff, delta_iff, hist_iff, recs_iff, deltas_iff, strs_iff, ints_iff] at h; simp only [h]) hp
set_option maxHeartbeats 4000000 in
theorem runSrt (cx : Cx) (hP : cx.P = Try.prog) (hbs : cx.bs = 0) (h66 : cx.orc 66 = some FCmpR) (h67 : cx.orc 67 = some FAlike) (r66 : cx.rd.contains 66 = true) (r67 : cx.rd.contains 67 = true) (hk2 : cx.kp 2 = some [0, 3]) (a : List Rec) (hl : LSm a) : pureRun cx Try.f49 [] false [recsE a] = some (Res.flat (.bo (srt a))) := by
  have c66 := fun H nid l => (show callD cx 66 l H nid = _ from call_orc h66)
  have d66 := fun nx bef i env H dst ty pos after gd args ts => step_orc (cx := cx) (nx := nx) (bef := bef) (i := i) (env := env) (H := H) (dst := dst) (ty := ty) (pos := pos) (after := after) (gd := gd) (args := args) (ts := ts) r66 h66
  have c67 := fun H nid l => (show callD cx 67 l H nid = _ from call_orc h67)
  have d67 := fun nx bef i env H dst ty pos after gd args ts => step_orc (cx := cx) (nx := nx) (bef := bef) (i := i) (env := env) (H := H) (dst := dst) (ty := ty) (pos := pos) (after := after) (gd := gd) (args := args) (ts := ts) r67 h67
  have hw : ∀ k : Nat, ((k + 1 : Nat) : Int) < a.length → IntKind.i64.wrap (((k + 1 : Nat) : Int) + 1) = ((k + 1 + 1 : Nat) : Int) := fun k h => by have := hl.1; rw [wrap64 (by omega) (by omega)]; omega
  have hw1 : ∀ k : Nat, ((k + 1 : Nat) : Int) < a.length → IntKind.i64.wrap (((k + 1 : Nat) : Int) - 1) = (k : Int) := fun k h => by have := hl.1; rw [wrap64 (by omega) (by omega)]; omega
  have hs1 : ∀ k : Nat, ((k + 1 : Nat) : Int) < a.length → RSm a[k]! ∧ RSm a[k + 1]! := fun k h => ⟨hl.at (by omega), hl.at (by omega)⟩
  have hi1 : ∀ k : Nat, ((k + 1 : Nat) : Int) < a.length → (k : Int) < a.length := fun k h => by omega
  refine pure_flat (rs := [.tmp 2]) rfl hbs rfl ?_
  repeat' first
    | (refine evX_loop_flat (σ := Nat) (fun s2 => [recsE a, .it .i64 ((s2 + 1 : Nat) : Int)]) (fun s2 => s2 ≤ a.length ∧ srt (a.drop s2) = srt a) (fun s2 => a.length - s2) [0, 3] hbs (by exact hk2) (fun s2 => by simp only [refsL, refs, refs_ivec, refs_gvec, refs_vecE, List.append_nil]) (fun s2 j2 => ?_) (s := 0) ?_ ?_)
    | (refine br_mk (fun h => ?_) (fun h => ?_) <;> (try simp only [Bool.not_eq_true, Bool.not_eq_false, Classical.not_not] at h))
    | (refine ms_mk ?_ ?_)
    | simp only [↓cD, cU, cB, intOp, unD, minD_two, builtinD, idx, reduceCtorEq, ↓reduceIte, ofV, ofC, argEnv, Nat.reduceEqDiff, not_false_eq_true, flatL, cG, Bool.and_self,
      decide_true, decide_false, not_true_eq_false, false_and, false_implies, Option.map_some, Option.bind_some, Option.bind_none, Option.map_none, List.getElem?_toArray, List.toList_toArray, decide_eq_true_eq, decide_eq_false_iff_not, ge_iff_le, gt_iff_lt, and_true, true_and, implies_true, forall_const, true_or, or_true,
      immL, immD, Bool.true_and, Bool.and_true, Bool.false_and, Bool.and_false, Bool.true_or, Bool.or_true, Bool.false_or, Bool.or_false, Res.flat, ren, renL, List.length_nil, Nat.add_zero, List.map_cons, List.map_nil, List.nil_append, List.append_nil, List.cons_append, List.getElem?_cons_zero, List.getElem?_cons_succ, Bool.not_eq_true', Bool.not_true, Bool.not_false, Bool.not_eq_true, Bool.not_eq_false', Bool.not_eq_false, Bool.true_eq_false, Bool.false_eq_true, if_true, if_false, Int.reduceEq, Int.reduceLT, Int.reduceLE, Int.reduceNe, ite_self, or_false, false_or, or_self, eq_self, List.zip_cons_cons, List.zip_nil_left, deref, ldD, List.head?_cons, convD, shiftOp, strOp, bitsOp, cC, cS, refs, okRoots, okId, List.all_nil, List.all_cons, List.length_cons, Nat.zero_add, Nat.reduceMul, Nat.reduceAdd, Nat.reduceLeDiff, refsL, List.flatMap_cons, List.flatMap_nil, c66, c67, d66, d67, callX_imm, callX_nil, FCmpR_eq, FAlike_eq, ↓neq37, ↓eql37, ↓neq39, ↓eql39, ↓neq41, ↓eql41, cV, cT, cF, cW, borT, borM, bor_agg, Res.via, List.size_toArray, List.isEmpty_cons, put_ap, putAll_one, elems_own, refsB, List.isEmpty_nil, Nat.reduceLT, Nat.reduceSub, Nat.reduceLeDiff, Nat.reduceMul, Nat.reduceAdd, Int.toNat_natCast, Int.reduceToNat, appK, nilRow, callX_bor, borL, bor_row, bor_one, take_map_len, List.drop_zero, map_snoc, map_app, fillE, cO, List.length_cons, List.length_replicate, List.length_append, List.length_map, List.replicate, List.set_cons_zero, List.set_cons_succ, List.take_zero, List.take_succ_cons, List.drop_succ_cons, Nat.zero_lt_succ, Option.isSome_some, partD, ofHp, ixOf, cS, refs, okRoots, okId, List.all_nil, List.all_cons, List.length_cons, Nat.zero_add, Nat.reduceMul, Nat.reduceAdd, Nat.reduceLeDiff, refsL, List.flatMap_cons, List.flatMap_nil, hw, hw1, hs1, hi1, hP, *]
  all_goals first
    | rfl
    | omega
    | exact ⟨Nat.zero_le _, rfl⟩
    | (have e := j2.2; rw [srt_on (by omega)] at e; refine ⟨_, rfl, ⟨by omega, by rw [← e]; simp only [*, if_false, Bool.false_eq_true]⟩, by omega⟩)
    | (have e := j2.2; rw [srt_on (by omega)] at e; rw [← e]; simp only [*, if_true, if_false]; done)
    | (have e := j2.2; rw [srt_end (by omega)] at e; rw [← e])
end Go.Mir
