/- What functions of the program answer, read off. -/
import Derived.Test.YtfnjjmdgjdpieaaWalk8
import Derived.KernelRfl
set_option linter.unusedSimpArgs false
set_option linter.unusedVariables false
namespace Go.Mir
open Go Go.RowKit Go.Proofs
attribute [local congr] Ev.congr EvC.congr EvW.congr Br.congr Ms.congr
set_option maxRecDepth 100000
def posR : List Rec → Rec → Nat
  | [], _ => 0
  | y :: r, x => if firstC y x < 0 then posR r x + 1 else 0
def insR (out : List Rec) (x : Rec) : List Rec := if (posR out x : Int) < out.length ∧ firstC out[posR out x]! x = 0 then (if x.ttl < (out[posR out x]!).ttl then out.set (posR out x) x else out) else out.take (posR out x) ++ x :: out.drop (posR out x)
def sortR (l : List Rec) : List Rec := l.foldl insR []
theorem sortR_step {l : List Rec} {i : Nat} (h : (i : Int) < l.length) : sortR (l.take (i + 1)) = insR (sortR (l.take i)) l[i]! := by
  unfold sortR
  rw [takeN h, List.foldl_append]; rfl
theorem insR_mem {out : List Rec} {x y : Rec} (h : y ∈ insR out x) : y = x ∨ y ∈ out := by
  unfold insR at h
  split at h
  · split at h
    · rcases List.mem_or_eq_of_mem_set h with h | h
      · exact .inr h
      · exact .inl h
    · exact .inr h
  · rcases List.mem_append.1 h with h | h
    · exact .inr (List.mem_of_mem_take h)
    · rcases List.mem_cons.1 h with h | h
      · exact .inl h
      · exact .inr (List.mem_of_mem_drop h)
theorem foldI_mem : ∀ (l out : List Rec) (y : Rec), y ∈ l.foldl insR out → y ∈ l ∨ y ∈ out
  | [], out, y, h => .inr h
  | x :: r, out, y, h => by
    rcases foldI_mem r _ y h with h | h
    · exact .inl (by simp [h])
    · rcases insR_mem h with rfl | h
      · exact .inl (by simp)
      · exact .inr h
theorem sortR_mem {l : List Rec} {y : Rec} (h : y ∈ sortR l) : y ∈ l := by
  rcases foldI_mem l [] y h with h | h
  · exact h
  · cases h
theorem insR_len (out : List Rec) (x : Rec) : (insR out x).length ≤ out.length + 1 := by
  unfold insR
  split
  · split
    · rw [List.length_set]; omega
    · omega
  · simp only [List.length_append, List.length_cons, List.length_take, List.length_drop]; omega
theorem foldI_len : ∀ (l out : List Rec), (l.foldl insR out).length ≤ out.length + l.length
  | [], out => Nat.le_refl _
  | x :: r, out => by
    have h1 := foldI_len r (insR out x)
    have h2 := insR_len out x
    show ((r.foldl insR (insR out x))).length ≤ _
    rw [List.length_cons]; omega
theorem sortR_len (l : List Rec) : (sortR l).length ≤ l.length := by have := foldI_len l []; simpa [sortR] using this
theorem LSm.sort {l : List Rec} (h : LSm l) : LSm (sortR l) := ⟨Nat.le_trans (sortR_len l) h.1, fun r hr => h.2 r (sortR_mem hr)⟩
theorem LSm.take {l : List Rec} (h : LSm l) (i : Nat) : LSm (l.take i) := ⟨by have := h.1; rw [List.length_take]; omega, fun r hr => h.2 r (List.mem_of_mem_take hr)⟩
theorem pos_on {out : List Rec} {x : Rec} {s : Nat} (h : (s : Int) < out.length) (hf : firstC out[s]! x < 0) : posR (out.drop s) x = posR (out.drop (s + 1)) x + 1 := by
  rw [drop_at (zs := out) h]; simp only [posR, hf, if_true]
theorem pos_stop {out : List Rec} {x : Rec} {s : Nat} (h : (s : Int) < out.length) (hf : ¬ firstC out[s]! x < 0) : posR (out.drop s) x = 0 := by
  rw [drop_at (zs := out) h]; simp only [posR, hf, if_false]
theorem pos_end {out : List Rec} {x : Rec} {s : Nat} (h : ¬ (s : Int) < out.length) : posR (out.drop s) x = 0 := by
  rw [drop_end (zs := out) h]; rfl
theorem ins_set {out : List Rec} {x : Rec} {s : Nat} (hp : s = posR out x) (h : (s : Int) < out.length) (hf : firstC out[s]! x = 0) (ht : x.ttl < (out[s]!).ttl) : insR out x = out.set s x := by
  subst hp; unfold insR; rw [if_pos ⟨h, hf⟩, if_pos ht]
theorem ins_same {out : List Rec} {x : Rec} {s : Nat} (hp : s = posR out x) (h : (s : Int) < out.length) (hf : firstC out[s]! x = 0) (ht : ¬ x.ttl < (out[s]!).ttl) : insR out x = out := by
  subst hp; unfold insR; rw [if_pos ⟨h, hf⟩, if_neg ht]
theorem ins_new {out : List Rec} {x : Rec} {s : Nat} (hp : s = posR out x) (h : ¬ ((s : Int) < out.length ∧ firstC out[s]! x = 0)) : insR out x = out.take s ++ x :: out.drop s := by
  subst hp; unfold insR; rw [if_neg h]

noncomputable def FSort := mkF (fun s : (List Rec) => [recsE s]) (fun s => LSm s) (fun s => Res.row 16 ((sortR s).map recE))
theorem FSort_eq {a : List Rec} (hp : LSm a) : FSort [recsE a] = some (Res.row 16 ((sortR a).map recE)) := mkF_eq (s := (a)) (fun s s' h => by simp only [List.cons.injEq, D.it.injEq, D.st.injEq, D.bo.injEq, true_and, and_true, adr_iff, dat_iff, rec_iff, zone_iff, delta_iff, hist_iff, recs_iff, deltas_iff, strs_iff, ints_iff] at h; simp only [h]) hp
set_option maxHeartbeats 4000000 in
theorem runSort (cx : Cx) (hP : cx.P = Try.prog) (hbs : cx.bs = 0) (h61 : cx.orc 61 = some FFirst) (r61 : cx.rd.contains 61 = true) (hk3 : cx.kp 3 = some [0, 3, 4]) (hk6 : cx.kp 6 = some [0, 3, 4, 5]) (a : List Rec) (hl : LSm a) : pureRun cx Try.f42 [0] false [recsE a] = some (Res.row 16 ((sortR a).map recE)) := by
  have c61 := fun H nid l => (show callD cx 61 l H nid = _ from call_orc h61)
  have d61 := fun nx bef i env H dst ty pos after gd args ts => step_orc (cx := cx) (nx := nx) (bef := bef) (i := i) (env := env) (H := H) (dst := dst) (ty := ty) (pos := pos) (after := after) (gd := gd) (args := args) (ts := ts) r61 h61
  have hw : ∀ k : Nat, (k : Int) < a.length → IntKind.i64.wrap ((k : Int) + 1) = ((k + 1 : Nat) : Int) := wrapS hl.sm
  have hw2 : ∀ i k : Nat, (k : Int) < (sortR (a.take i)).length → IntKind.i64.wrap ((k : Int) + 1) = ((k + 1 : Nat) : Int) := fun i => wrapS (hl.take i).sort.sm
  have hel : ∀ (l : List Rec) (k : Nat), (k : Int) < l.length → (l.map recE)[k]? = some (recE l[k]!) := fun l k h => getm (by omega)
  have hs1 : ∀ k : Nat, (k : Int) < a.length → RSm a[k]! := fun k h => hl.at h
  have hs2 : ∀ i k : Nat, (k : Int) < (sortR (a.take i)).length → RSm (sortR (a.take i))[k]! := fun i k h => (hl.take i).sort.at h
  refine pure_row (rs := [.tmp 2]) rfl hbs rfl ?_
  repeat' first
    | (refine evX_loop_rows (σ := Nat) (fun i => [recsE a, .own 0 0 (sortR (a.take i)).length, .it .i64 i]) (fun i => [.row 16 true ((sortR (a.take i)).map recE)]) (fun i => i ≤ a.length) (fun i => a.length - i) [0, 3, 4] hbs (by exact hk3) (fun q jq b hb => by simp only [List.mem_singleton] at hb; subst hb; exact map_refs (fun _ => rfl)) (fun i ji => ?_) (s := 0) [1] ?_ ?_ ?_ ?_ ?_)
    | (refine evX_loop_rows (σ := Nat) (fun s => [recsE a, .own 0 0 (sortR (a.take i)).length, .it .i64 i, .it .i64 s]) (fun s => [.row 16 true ((sortR (a.take i)).map recE)]) (fun s => s ≤ (sortR (a.take i)).length ∧ s + posR ((sortR (a.take i)).drop s) a[i]! = posR (sortR (a.take i)) a[i]!) (fun s => (sortR (a.take i)).length - s) [0, 3, 4, 5] hbs (by exact hk6) (fun q jq b hb => by simp only [List.mem_singleton] at hb; subst hb; exact map_refs (fun _ => rfl)) (fun s js => ?_) (s := 0) [0] ?_ ?_ ?_ ?_ ?_)
    | (refine br_mk (fun h => ?_) (fun h => ?_) <;> (try simp only [Bool.not_eq_true, Bool.not_eq_false, Classical.not_not] at h))
    | (refine ms_mk ?_ ?_)
    | simp only [↓cD, cU, cB, intOp, unD, minD_two, builtinD, idx, reduceCtorEq, ↓reduceIte, ofV, ofC, argEnv, Nat.reduceEqDiff, not_false_eq_true, flatL, cG, Bool.and_self,
      decide_true, decide_false, not_true_eq_false, false_and, false_implies, Option.map_some, Option.bind_some, Option.bind_none, Option.map_none, List.getElem?_toArray, List.toList_toArray, decide_eq_true_eq, decide_eq_false_iff_not, ge_iff_le, gt_iff_lt, and_true, true_and, implies_true, forall_const, true_or, or_true,
      immL, immD, Bool.true_and, Bool.and_true, Bool.false_and, Bool.and_false, Bool.true_or, Bool.or_true, Bool.false_or, Bool.or_false, Res.flat, ren, renL, List.length_nil, Nat.add_zero, List.map_cons, List.map_nil, List.nil_append, List.append_nil, List.cons_append, List.getElem?_cons_zero, List.getElem?_cons_succ, Bool.not_eq_true', Bool.not_true, Bool.not_false, Bool.not_eq_true, Bool.not_eq_false', Bool.not_eq_false, Bool.true_eq_false, Bool.false_eq_true, if_true, if_false, Int.reduceEq, Int.reduceLT, Int.reduceLE, Int.reduceNe, ite_self, or_false, false_or, or_self, eq_self, List.zip_cons_cons, List.zip_nil_left, deref, ldD, List.head?_cons, convD, shiftOp, strOp, bitsOp, cC, cS, refs, okRoots, okId, List.all_nil, List.all_cons, List.length_cons, Nat.zero_add, Nat.reduceMul, Nat.reduceAdd, Nat.reduceLeDiff, refsL, List.flatMap_cons, List.flatMap_nil, c61, d61, callX_imm, callX_nil, FFirst_eq, ↓neq37, ↓eql37, ↓neq39, ↓eql39, ↓neq41, ↓eql41, cV, cT, cF, cW, borT, borM, bor_agg, Res.via, List.size_toArray, List.isEmpty_cons, put_ap, putAll_one, elems_own, refsB, List.isEmpty_nil, Nat.reduceLT, Nat.reduceSub, Nat.reduceLeDiff, Nat.reduceMul, Nat.reduceAdd, Int.toNat_natCast, Int.reduceToNat, appK, nilRow, callX_bor, borL, bor_row, bor_one, take_map_len, List.drop_zero, map_snoc, map_app, fillE, cO, List.length_cons, List.length_replicate, List.length_append, List.length_map, List.replicate, List.set_cons_zero, List.set_cons_succ, List.take_zero, List.take_succ_cons, List.drop_succ_cons, Nat.zero_lt_succ, Option.isSome_some, partD, ofHp, ixOf, cS, refs, okRoots, okId, List.all_nil, List.all_cons, List.length_cons, Nat.zero_add, Nat.reduceMul, Nat.reduceAdd, Nat.reduceLeDiff, refsL, List.flatMap_cons, List.flatMap_nil, hw, hw2, hel, hs1, hs2, rec_again, map_set, List.drop_zero, hP, *]
  all_goals first
    | rfl
    | omega
    | exact ⟨Nat.zero_le _, by rw [List.drop_zero]; omega⟩
    | (refine ⟨[0], s + 1, ?_, ?_, ?_, ?_, ⟨by omega, by rw [pos_on (by omega) ‹_›] at js; omega⟩, by omega⟩ <;> (try rw [hw2 i s (by omega)]) <;> (first | rfl | (simp only [refsL, refs, refs_gvec, refs_ivec, ren, ren_gvec, List.nil_append, List.append_nil, List.cons_append, List.map_cons, List.map_nil, upd_atB, upd_offB, Nat.reduceEqDiff, not_false_eq_true, ofHp, ixOf, if_true, Bool.and_self, Bool.true_and]; first | rfl | done) | (simp only [refsL, refs, refs_gvec, refs_ivec, ren, ren_gvec, List.nil_append, List.append_nil, List.cons_append, List.map_cons, List.map_nil, upd_atB, upd_offB, Nat.reduceEqDiff, not_false_eq_true, ofHp, ixOf, if_true, Bool.and_self, Bool.true_and]; simp; done)))
    | (have e := sortR_len (a.take i); rw [List.length_take] at e; have := hl.1; simp only [List.length_take, List.length_drop, List.length_map]; omega)
    | (have hp : s = posR (sortR (a.take i)) a[i]! := (by have e := js.2; (first | rw [pos_stop (by omega) ‹_›] at e | rw [pos_end (by omega)] at e); omega)
       first
       | (have e2 : sortR (a.take (i + 1)) = (sortR (a.take i)).set s a[i]! := (by rw [sortR_step (by omega), ins_set hp (by omega) ‹_› ‹_›]); refine ⟨[0], i + 1, ?_, ?_, ?_, ?_, by omega, by omega⟩ <;> (try rw [e2]) <;> (try rw [List.length_set]) <;> (first | rfl | (simp only [refsL, refs, refs_gvec, refs_ivec, ren, ren_gvec, List.nil_append, List.append_nil, List.cons_append, List.map_cons, List.map_nil, upd_atB, upd_offB, Nat.reduceEqDiff, not_false_eq_true, ofHp, ixOf, if_true, Bool.and_self, Bool.true_and]; first | rfl | done) | (simp only [refsL, refs, refs_gvec, refs_ivec, ren, ren_gvec, List.nil_append, List.append_nil, List.cons_append, List.map_cons, List.map_nil, upd_atB, upd_offB, Nat.reduceEqDiff, not_false_eq_true, ofHp, ixOf, if_true, Bool.and_self, Bool.true_and]; simp; done)))
       | (have e2 : sortR (a.take (i + 1)) = sortR (a.take i) := (by rw [sortR_step (by omega), ins_same hp (by omega) ‹_› ‹_›]); refine ⟨[0], i + 1, ?_, ?_, ?_, ?_, by omega, by omega⟩ <;> (try rw [e2]) <;> (first | rfl | (simp only [refsL, refs, refs_gvec, refs_ivec, ren, ren_gvec, List.nil_append, List.append_nil, List.cons_append, List.map_cons, List.map_nil, upd_atB, upd_offB, Nat.reduceEqDiff, not_false_eq_true, ofHp, ixOf, if_true, Bool.and_self, Bool.true_and]; first | rfl | done) | (simp only [refsL, refs, refs_gvec, refs_ivec, ren, ren_gvec, List.nil_append, List.append_nil, List.cons_append, List.map_cons, List.map_nil, upd_atB, upd_offB, Nat.reduceEqDiff, not_false_eq_true, ofHp, ixOf, if_true, Bool.and_self, Bool.true_and]; simp; done)))
       | (have e2 : sortR (a.take (i + 1)) = (sortR (a.take i)).take s ++ a[i]! :: (sortR (a.take i)).drop s := (by rw [sortR_step (by omega), ins_new hp (by rintro ⟨h1, h2⟩; first | exact absurd h2 ‹_› | omega)])
          have e3 : List.take ((sortR (a.take i)).length - s) (List.drop s (List.map recE (sortR (a.take i)))) = List.map recE ((sortR (a.take i)).drop s) := (by rw [← List.map_drop, List.take_of_length_le (by simp)])
          have e4 : List.take s (List.map recE (sortR (a.take i))) = List.map recE ((sortR (a.take i)).take s) := (by rw [List.map_take])
          have e5 : ((sortR (a.take i)).take s).length + 1 + ((sortR (a.take i)).drop s).length = ((sortR (a.take i)).take s).length + (((sortR (a.take i)).drop s).length + 1) := (by omega)
          simp only [e3, e4]
          refine ⟨[2053], i + 1, ?_, ?_, ?_, ?_, by omega, by omega⟩ <;> (try simp only [e2, List.map_append, List.map_cons, List.append_assoc, List.cons_append, List.nil_append, List.length_append, List.length_cons, List.length_map]) <;> (try rw [e5]) <;> first | (first | rfl | (simp only [refsL, refs, refs_gvec, refs_ivec, ren, ren_gvec, List.nil_append, List.append_nil, List.cons_append, List.map_cons, List.map_nil, upd_atB, upd_offB, Nat.reduceEqDiff, not_false_eq_true, ofHp, ixOf, if_true, Bool.and_self, Bool.true_and]; first | rfl | done) | (simp only [refsL, refs, refs_gvec, refs_ivec, ren, ren_gvec, List.nil_append, List.append_nil, List.cons_append, List.map_cons, List.map_nil, upd_atB, upd_offB, Nat.reduceEqDiff, not_false_eq_true, ofHp, ixOf, if_true, Bool.and_self, Bool.true_and]; simp; done))))
    | (rw [take_end (by omega)]; exact ⟨_, _, _, _, rfl, rfl, by simp, map_dry (fun _ => rfl), rfl⟩)
    | (first | rfl | (simp only [refsL, refs, refs_gvec, refs_ivec, ren, ren_gvec, List.nil_append, List.append_nil, List.cons_append, List.map_cons, List.map_nil, upd_atB, upd_offB, Nat.reduceEqDiff, not_false_eq_true, ofHp, ixOf, if_true, Bool.and_self, Bool.true_and]; first | rfl | done) | (simp only [refsL, refs, refs_gvec, refs_ivec, ren, ren_gvec, List.nil_append, List.append_nil, List.cons_append, List.map_cons, List.map_nil, upd_atB, upd_offB, Nat.reduceEqDiff, not_false_eq_true, ofHp, ixOf, if_true, Bool.and_self, Bool.true_and]; simp; done))
end Go.Mir
