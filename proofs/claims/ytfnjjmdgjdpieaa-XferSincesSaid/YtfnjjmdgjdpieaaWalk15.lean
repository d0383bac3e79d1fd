/- What functions of the program answer, read off. -/
import Derived.Test.YtfnjjmdgjdpieaaWalk14
import Derived.KernelRfl
set_option linter.unusedSimpArgs false
set_option linter.unusedVariables false
namespace Go.Mir
open Go Go.RowKit Go.Proofs
attribute [local congr] Ev.congr EvC.congr EvW.congr Br.congr Ms.congr
set_option maxRecDepth 100000
theorem hist_flat (g : Hist) : flatRow (.box (histL g)) := by intro x hx; simp [histL] at hx; rcases hx with rfl | rfl | rfl <;> rfl
theorem delta_flat (d : Delta) : flatRow (.box (deltaL d)) := by intro x hx; simp [deltaL] at hx; rcases hx with rfl | rfl | rfl | rfl | rfl <;> rfl
def HSm (g : Hist) : Prop := ZSm g.zone ∧ g.deltas.length ≤ 1000000 ∧ ∀ d ∈ g.deltas, DltSm d
theorem HSm.at {g : Hist} (hh : HSm g) {i : Nat} (hi : (i : Int) < g.deltas.length) : DltSm g.deltas[i]! := hh.2.2 _ (mem_at hi)
def firstE : List Delta → Int
  | [] => 0
  | d :: r => if ¬ chkD d = 0 then chkD d else firstE r
def linkH (o : List UInt8) : Zone → List Delta → Bool
  | _, [] => true
  | z, d :: r => if (d.origin == o) = false then false else if ¬ d.til = serialZ z then false else if ¬ (undoD z d).2 = 0 then false else linkH o (undoD z d).1 r
def chkH (g : Hist) : Int := if ¬ chkZ g.zone = 0 then chkZ g.zone else if 16 < (g.deltas.length : Int) then 9 else if ¬ firstE g.deltas = 0 then firstE g.deltas else
  if linkH g.zone.origin g.zone g.deltas.reverse = false then 15 else 0
def serls (g : Hist) : List Int := g.deltas.map (·.fro) ++ [serialZ g.zone]
def lastI (l : List Int) (x : Int) : Nat → Int
  | 0 => -1
  | s + 1 => if l[s]! = x then (s : Int) else lastI l x s
def placeH (g : Hist) (n : Int) : Int := lastI (serls g) n (serls g).length
def sinceV (g : Hist) (n : Int) : List Delta := if placeH g n < 0 then [] else g.deltas.drop (placeH g n).toNat
theorem serls_len (g : Hist) : (serls g).length = g.deltas.length + 1 := by simp [serls]
theorem lastI_le (l : List Int) (x : Int) : ∀ s : Nat, lastI l x s < s
  | 0 => by simp [lastI]
  | s + 1 => by
    unfold lastI
    split
    · omega
    · have := lastI_le l x s; omega
theorem placeH_le (g : Hist) (n : Int) : placeH g n ≤ g.deltas.length := by have := lastI_le (serls g) n (serls g).length; rw [serls_len] at this; unfold placeH; rw [serls_len]; omega
theorem lastI_yes {l : List Int} {x : Int} {s : Nat} (h0 : 0 ≤ (s : Int) - 1) (h : l[s - 1]! = x) : lastI l x s = (s : Int) - 1 := by
  obtain ⟨k, rfl⟩ : ∃ k, s = k + 1 := ⟨s - 1, by omega⟩
  rw [lastI]; exact (if_pos h).trans (by omega)
theorem lastI_no {l : List Int} {x : Int} {s : Nat} (h0 : 0 ≤ (s : Int) - 1) (h : ¬ l[s - 1]! = x) : lastI l x s = lastI l x (s - 1) := by
  obtain ⟨k, rfl⟩ : ∃ k, s = k + 1 := ⟨s - 1, by omega⟩
  rw [lastI]; exact if_neg h
theorem lastI_end {l : List Int} {x : Int} {s : Nat} (h0 : ¬ 0 ≤ (s : Int) - 1) : lastI l x s = -1 := by
  obtain rfl : s = 0 := by omega
  rfl
theorem undoD_sm {z : Zone} {d : Delta} (hz : ZSm z) (hd : DltSm d) : ZSm (undoD z d).1 := by
  unfold undoD
  split
  · exact zone0_sm
  · rename_i h
    have h2 := (chkD_len (Classical.not_not.1 h)).1
    exact repD_sm hz hd.1 hd.2.1 (by omega)
theorem first_on {l : List Delta} {i : Nat} (h : (i : Int) < l.length) : firstE (l.drop i) = if ¬ chkD l[i]! = 0 then chkD l[i]! else firstE (l.drop (i + 1)) := by rw [drop_at (zs := l) h]; rfl
theorem first_end {l : List Delta} {i : Nat} (h : ¬ (i : Int) < l.length) : firstE (l.drop i) = 0 := by rw [drop_end (zs := l) h]; rfl
theorem rev_on {l : List Delta} {s : Nat} (h : 0 < s) (h2 : s ≤ l.length) : (l.take s).reverse = l[s - 1]! :: (l.take (s - 1)).reverse := by
  obtain ⟨k, rfl⟩ : ∃ k, s = k + 1 := ⟨s - 1, by omega⟩
  rw [takeN (by omega), List.reverse_append]; rfl

noncomputable def FSers := mkF (fun s : Hist => [histE s]) (fun s => HSm s) (fun s => Res.flat (vecE 1 (D.it .i64) (serls s)))
theorem FSers_eq {g : Hist} (hp : HSm g) : FSers [histE g] = some (Res.flat (vecE 1 (D.it .i64) (serls g))) := mkF_eq (s := (g)) (fun s s' h => by simp only [List.cons.injEq, D.it.injEq, D.st.injEq, D.bo.injEq, true_and, and_true, adr_iff, dat_iff, rec_iff, zone_iff, delta_iff, hist_iff, recs_iff, deltas_iff, strs_iff, ints_iff] at h; simp only [h]) hp
set_option maxHeartbeats 4000000 in
theorem runSers (cx : Cx) (hP : cx.P = Try.prog) (hbs : cx.bs = 0) (h26 : cx.orc 26 = some FSerZ) (hk3 : cx.kp 3 = some [1, 3, 4]) (g : Hist) (hl : HSm g) : pureRun cx Try.f70 [] false [histE g] = some (Res.flat (vecE 1 (D.it .i64) (serls g))) := by
  have c26 := fun H nid l => (show callD cx 26 l H nid = _ from call_orc h26)
  have hl1 := hl.1
  have hw : ∀ k : Nat, (k : Int) < g.deltas.length → IntKind.i64.wrap ((k : Int) + 1) = ((k + 1 : Nat) : Int) := wrapS (by have := hl.2.1; omega)
  refine pure_vec (rs := [.tmp 2]) rfl hbs rfl ?_
  repeat' first
    | (refine evX_loop_rows (σ := Nat) (fun s => [.ptr 0 0, .own 1 0 ((g.deltas.take s).map (·.fro)).length, .it .i64 s]) (fun s => [.box (histL g), .row 1 true (((g.deltas.take s).map (·.fro)).map (D.it .i64))]) (fun s => s ≤ g.deltas.length) (fun s => g.deltas.length - s) [1, 3, 4] hbs (by exact hk3) (fun q jq b hb => by simp only [List.mem_cons, List.not_mem_nil, or_false] at hb; rcases hb with rfl | rfl; exact hist_flat g; exact map_refs (fun _ => rfl)) (fun s js => ?_) (s := 0) [0, 2] ?_ ?_ ?_ ?_ ?_)
    | (refine br_mk (fun h => ?_) (fun h => ?_) <;> (try simp only [Bool.not_eq_true, Bool.not_eq_false, Classical.not_not] at h))
    | (refine ms_mk ?_ ?_)
    | simp only [↓cD, cU, cB, intOp, unD, minD_two, builtinD, idx, reduceCtorEq, ↓reduceIte, ofV, ofC, argEnv, Nat.reduceEqDiff, not_false_eq_true, flatL, cG, Bool.and_self,
      decide_true, decide_false, not_true_eq_false, false_and, false_implies, Option.map_some, Option.bind_some, Option.bind_none, Option.map_none, List.getElem?_toArray, List.toList_toArray, decide_eq_true_eq, decide_eq_false_iff_not, ge_iff_le, gt_iff_lt, and_true, true_and, implies_true, forall_const, true_or, or_true,
      immL, immD, Bool.true_and, Bool.and_true, Bool.false_and, Bool.and_false, Bool.true_or, Bool.or_true, Bool.false_or, Bool.or_false, Res.flat, ren, renL, List.length_nil, Nat.add_zero, List.map_cons, List.map_nil, List.nil_append, List.append_nil, List.cons_append, List.getElem?_cons_zero, List.getElem?_cons_succ, Bool.not_eq_true', Bool.not_true, Bool.not_false, Bool.not_eq_true, Bool.not_eq_false', Bool.not_eq_false, Bool.true_eq_false, Bool.false_eq_true, if_true, if_false, Int.reduceEq, Int.reduceLT, Int.reduceLE, Int.reduceNe, ite_self, or_false, false_or, or_self, eq_self, List.zip_cons_cons, List.zip_nil_left, deref, ldD, List.head?_cons, convD, shiftOp, strOp, bitsOp, cC, c26, callX_imm, callX_nil, FSerZ_eq, ↓neq37, ↓eql37, ↓neq39, ↓eql39, ↓neq41, ↓eql41, cV, cT, cF, cW, borT, borM, bor_agg, Res.via, List.size_toArray, List.isEmpty_cons, put_ap, putAll_one, elems_own, refsB, List.isEmpty_nil, Nat.reduceLT, Nat.reduceSub, Nat.reduceLeDiff, Nat.reduceMul, Nat.reduceAdd, Int.toNat_natCast, Int.reduceToNat, appK, nilRow, callX_bor, borL, bor_row, bor_one, take_map_len, List.drop_zero, map_snoc, map_app, fillE, cO, List.length_cons, List.length_replicate, List.length_append, List.length_map, List.replicate, List.set_cons_zero, List.set_cons_succ, List.take_zero, List.take_succ_cons, List.drop_succ_cons, Nat.zero_lt_succ, Option.isSome_some, partD, ofHp, ixOf, hw, hl1, hP, *]
  all_goals first
    | rfl
    | exact Nat.zero_le _
    | (constructor <;> (have := hl.2.1; simp only [List.length_take]; omega))
    | (have e : (g.deltas.take (s + 1)).map (·.fro) = (g.deltas.take s).map (·.fro) ++ [(g.deltas[s]!).fro] := fm_step (by omega); have e2 : (g.deltas.take (s + 1)).length = (g.deltas.take s).length + 1 := (by rw [takeN (l := g.deltas) (by omega)]; simp); refine ⟨[0, 3], s + 1, ?_, ?_, ?_, ?_, by omega, by omega⟩ <;> (try rw [e]) <;> (try rw [e2]) <;> (first | rfl | (simp only [refsL, refs, refs_gvec, refs_ivec, ren, ren_gvec, List.nil_append, List.append_nil, List.cons_append, List.map_cons, List.map_nil, upd_atB, upd_offB, Nat.reduceEqDiff, not_false_eq_true, ofHp, ixOf, if_true, Bool.and_self, Bool.true_and]; first | rfl | done) | (simp only [refsL, refs, refs_gvec, refs_ivec, ren, ren_gvec, List.nil_append, List.append_nil, List.cons_append, List.map_cons, List.map_nil, upd_atB, upd_offB, Nat.reduceEqDiff, not_false_eq_true, ofHp, ixOf, if_true, Bool.and_self, Bool.true_and]; simp; done)))
    | (rw [take_end (by omega)]; exact ⟨_, _, _, _, rfl, rfl, by simp, map_dry (fun _ => rfl), rfl⟩)
    | (first | rfl | (simp only [refsL, refs, refs_gvec, refs_ivec, ren, ren_gvec, List.nil_append, List.append_nil, List.cons_append, List.map_cons, List.map_nil, upd_atB, upd_offB, Nat.reduceEqDiff, not_false_eq_true, ofHp, ixOf, if_true, Bool.and_self, Bool.true_and]; first | rfl | done) | (simp only [refsL, refs, refs_gvec, refs_ivec, ren, ren_gvec, List.nil_append, List.append_nil, List.cons_append, List.map_cons, List.map_nil, upd_atB, upd_offB, Nat.reduceEqDiff, not_false_eq_true, ofHp, ixOf, if_true, Bool.and_self, Bool.true_and]; simp; done))
noncomputable def FPlace := mkF (fun s : Hist × Int => [histE s.1, .it .i64 s.2]) (fun s => HSm s.1) (fun s => Res.flat (.it .i64 (placeH s.1 s.2)))
theorem FPlace_eq {g : Hist} {n1 : Int} (hp : HSm g) : FPlace [histE g, .it .i64 n1] = some (Res.flat (.it .i64 (placeH g n1))) := mkF_eq (s := (g, n1)) (fun s s' h => by simp only [List.cons.injEq, D.it.injEq, D.st.injEq, D.bo.injEq, true_and, and_true, adr_iff, dat_iff, rec_iff, zone_iff, delta_iff, hist_iff, recs_iff, deltas_iff, strs_iff, ints_iff] at h; simp only [h]) hp
set_option maxHeartbeats 4000000 in
theorem runPlace (cx : Cx) (hP : cx.P = Try.prog) (hbs : cx.bs = 0) (h70 : cx.orc 70 = some FSers) (hk3 : cx.kp 3 = some [1, 5, 6]) (g : Hist) (n1 : Int) (hl : HSm g) : pureRun cx Try.f54 [] false [histE g, .it .i64 n1] = some (Res.flat (.it .i64 (placeH g n1))) := by
  have c70 := fun H nid l => (show callD cx 70 l H nid = _ from call_orc h70)
  have hlen : (serls g).length ≤ 1000001 := by have := hl.2.1; rw [serls_len]; omega
  have hw1 : IntKind.i64.wrap (((serls g).length : Int) - 1) = ((serls g).length : Int) - 1 := by rw [wrap64 (by omega) (by omega)]
  have hw : ∀ s : Nat, 0 ≤ (s : Int) - 1 → s ≤ (serls g).length → IntKind.i64.wrap ((s : Int) - 1 - 1) = ((s - 1 : Nat) : Int) - 1 := fun s h1 h2 => by rw [wrap64 (by omega) (by omega)]; omega
  have hix : ∀ s : Nat, 0 ≤ (s : Int) - 1 → s ≤ (serls g).length → ∀ (H : Hp) (k : IntKind), indexAddrD Try.prog H 95 (vecE 1 (D.it .i64) (serls g)) (.it k ((s : Int) - 1)) = some (.elt (D.it .i64 (serls g)[s - 1]!).cells) := fun s h1 h2 H k => ixn_vecE Try.underlying95 sz3 (by omega) (by omega)
  refine pure_flat (rs := [.tmp 4]) rfl hbs rfl ?_
  repeat' first
    | (refine evX_loop_flat (σ := Nat) (fun s => [.it .i64 n1, vecE 1 (D.it .i64) (serls g), .it .i64 ((s : Int) - 1)]) (fun s => s ≤ (serls g).length ∧ lastI (serls g) n1 s = placeH g n1) (fun s => s) [1, 5, 6] hbs (by exact hk3) (fun s => by simp only [refsL, refs, refs_vecE, List.append_nil]) (fun s js => ?_) (s := (serls g).length) ?_ ?_)
    | (refine br_mk (fun h => ?_) (fun h => ?_) <;> (try simp only [Bool.not_eq_true, Bool.not_eq_false, Classical.not_not] at h))
    | (refine ms_mk ?_ ?_)
    | simp only [↓cD, cU, cB, intOp, unD, minD_two, builtinD, idx, reduceCtorEq, ↓reduceIte, ofV, ofC, argEnv, Nat.reduceEqDiff, not_false_eq_true, flatL, cG, Bool.and_self,
      decide_true, decide_false, not_true_eq_false, false_and, false_implies, Option.map_some, Option.bind_some, Option.bind_none, Option.map_none, List.getElem?_toArray, List.toList_toArray, decide_eq_true_eq, decide_eq_false_iff_not, ge_iff_le, gt_iff_lt, and_true, true_and, implies_true, forall_const, true_or, or_true,
      immL, immD, Bool.true_and, Bool.and_true, Bool.false_and, Bool.and_false, Bool.true_or, Bool.or_true, Bool.false_or, Bool.or_false, Res.flat, ren, renL, List.length_nil, Nat.add_zero, List.map_cons, List.map_nil, List.nil_append, List.append_nil, List.cons_append, List.getElem?_cons_zero, List.getElem?_cons_succ, Bool.not_eq_true', Bool.not_true, Bool.not_false, Bool.not_eq_true, Bool.not_eq_false', Bool.not_eq_false, Bool.true_eq_false, Bool.false_eq_true, if_true, if_false, Int.reduceEq, Int.reduceLT, Int.reduceLE, Int.reduceNe, ite_self, or_false, false_or, or_self, eq_self, List.zip_cons_cons, List.zip_nil_left, deref, ldD, List.head?_cons, convD, shiftOp, strOp, bitsOp, cC, c70, callX_imm, callX_nil, FSers_eq, ↓neq37, ↓eql37, ↓neq39, ↓eql39, ↓neq41, ↓eql41, cV, cT, cF, cW, borT, borM, bor_agg, Res.via, List.size_toArray, List.isEmpty_cons, put_ap, putAll_one, elems_own, refsB, List.isEmpty_nil, Nat.reduceLT, Nat.reduceSub, Nat.reduceLeDiff, Nat.reduceMul, Nat.reduceAdd, Int.toNat_natCast, Int.reduceToNat, appK, nilRow, callX_bor, borL, bor_row, bor_one, take_map_len, List.drop_zero, map_snoc, map_app, fillE, cO, List.length_cons, List.length_replicate, List.length_append, List.length_map, List.replicate, List.set_cons_zero, List.set_cons_succ, List.take_zero, List.take_succ_cons, List.drop_succ_cons, Nat.zero_lt_succ, Option.isSome_some, partD, ofHp, ixOf, hl, hw, hw1, hix, hP, *]
  all_goals first
    | rfl
    | exact ⟨Nat.le_refl _, rfl⟩
    | (rw [← js.2, lastI_yes (by omega) ‹_›])
    | (rw [← js.2, lastI_end (by omega)])
    | (refine ⟨s - 1, rfl, ⟨by omega, by rw [← lastI_no (by omega) ‹_›]; exact js.2⟩, by omega⟩)
noncomputable def FSince13 := mkF (fun s : Hist × Int => [histE s.1, .it .i64 s.2]) (fun s => HSm s.1) (fun s => Res.via (.tup [deltasE (sinceV s.1 s.2), .it .i64 (if placeH s.1 s.2 < 0 then 11 else 0)]))
theorem FSince13_eq {g : Hist} {n1 : Int} (hp : HSm g) : FSince13 [histE g, .it .i64 n1] = some (Res.via (.tup [deltasE (sinceV g n1), .it .i64 (if placeH g n1 < 0 then 11 else 0)])) := mkF_eq (s := (g, n1)) (fun s s' h => by simp only [List.cons.injEq, D.it.injEq, D.st.injEq, D.bo.injEq, true_and, and_true, adr_iff, dat_iff, rec_iff, zone_iff, delta_iff, hist_iff, recs_iff, deltas_iff, strs_iff, ints_iff] at h; simp only [h]) hp
set_option maxHeartbeats 4000000 in
theorem runSince13 (cx : Cx) (hP : cx.P = Try.prog) (hbs : cx.bs = 0) (h54 : cx.orc 54 = some FPlace) (g : Hist) (n1 : Int) (hl : HSm g) : pureRun cx Try.f30 [] true [histE g, .it .i64 n1] = some (Res.via (.tup [deltasE (sinceV g n1), .it .i64 (if placeH g n1 < 0 then 11 else 0)])) := by
  have c54 := fun H nid l => (show callD cx 54 l H nid = _ from call_orc h54)
  have hsl : ¬ placeH g n1 < 0 → ∀ (H : Hp) (k : IntKind), sliceD Try.prog H 31 (deltasE g.deltas) (some (.it k (placeH g n1))) none none = some (deltasE (g.deltas.drop (placeH g n1).toNat)) := fun h1 H k => by have h2 := placeH_le g n1; obtain ⟨j, hj⟩ := Int.eq_ofNat_of_zero_le (by omega : 0 ≤ placeH g n1); rw [hj] at h2 ⊢; exact slf_vecE Try.underlying31 sz58 (by omega)
  refine pure_al (rs := [.tmp 4, .tmp 5]) rfl hbs rfl ?_
  repeat' first
    | (refine br_mk (fun h => ?_) (fun h => ?_) <;> (try simp only [Bool.not_eq_true, Bool.not_eq_false, Classical.not_not] at h))
    | (refine ms_mk ?_ ?_)
    | simp only [↓cD, cU, cB, intOp, unD, minD_two, builtinD, idx, reduceCtorEq, ↓reduceIte, ofV, ofC, argEnv, Nat.reduceEqDiff, not_false_eq_true, flatL, cG, Bool.and_self,
      decide_true, decide_false, not_true_eq_false, false_and, false_implies, Option.map_some, Option.bind_some, Option.bind_none, Option.map_none, List.getElem?_toArray, List.toList_toArray, decide_eq_true_eq, decide_eq_false_iff_not, ge_iff_le, gt_iff_lt, and_true, true_and, implies_true, forall_const, true_or, or_true,
      immL, immD, Bool.true_and, Bool.and_true, Bool.false_and, Bool.and_false, Bool.true_or, Bool.or_true, Bool.false_or, Bool.or_false, Res.flat, ren, renL, List.length_nil, Nat.add_zero, List.map_cons, List.map_nil, List.nil_append, List.append_nil, List.cons_append, List.getElem?_cons_zero, List.getElem?_cons_succ, Bool.not_eq_true', Bool.not_true, Bool.not_false, Bool.not_eq_true, Bool.not_eq_false', Bool.not_eq_false, Bool.true_eq_false, Bool.false_eq_true, if_true, if_false, Int.reduceEq, Int.reduceLT, Int.reduceLE, Int.reduceNe, ite_self, or_false, false_or, or_self, eq_self, List.zip_cons_cons, List.zip_nil_left, deref, ldD, List.head?_cons, convD, shiftOp, strOp, bitsOp, cC, c54, callX_imm, callX_nil, FPlace_eq, ↓neq37, ↓eql37, ↓neq39, ↓eql39, ↓neq41, ↓eql41, cV, cT, cF, cW, borT, borM, bor_agg, Res.via, List.size_toArray, List.isEmpty_cons, put_ap, putAll_one, elems_own, refsB, List.isEmpty_nil, Nat.reduceLT, Nat.reduceSub, Nat.reduceLeDiff, Nat.reduceMul, Nat.reduceAdd, Int.toNat_natCast, Int.reduceToNat, appK, nilRow, callX_bor, borL, bor_row, bor_one, take_map_len, List.drop_zero, map_snoc, map_app, fillE, cO, List.length_cons, List.length_replicate, List.length_append, List.length_map, List.replicate, List.set_cons_zero, List.set_cons_succ, List.take_zero, List.take_succ_cons, List.drop_succ_cons, Nat.zero_lt_succ, Option.isSome_some, partD, ofHp, ixOf, hl, hsl, hP, *]
  all_goals first
    | rfl
    | (have e : sinceV g n1 = [] := (by rw [sinceV, if_pos ‹_›]); rw [e]; exact ⟨_, rfl, rfl⟩)
    | (have e : sinceV g n1 = g.deltas.drop (placeH g n1).toNat := (by rw [sinceV, if_neg ‹_›]); rw [e]; exact ⟨_, rfl, rfl⟩)
noncomputable def FChkH := mkF (fun s : Hist => [histE s]) (fun s => HSm s) (fun s => Res.flat (.it .i64 (chkH s)))
theorem FChkH_eq {g : Hist} (hp : HSm g) : FChkH [histE g] = some (Res.flat (.it .i64 (chkH g))) := mkF_eq (s := (g)) (fun s s' h => by simp only [List.cons.injEq, D.it.injEq, D.st.injEq, D.bo.injEq, true_and, and_true, adr_iff, dat_iff, rec_iff, zone_iff, delta_iff, hist_iff, recs_iff, deltas_iff, strs_iff, ints_iff] at h; simp only [h]) hp
set_option maxHeartbeats 4000000 in
theorem runChkH (cx : Cx) (hP : cx.P = Try.prog) (hbs : cx.bs = 0) (h24 : cx.orc 24 = some FChkZ) (h26 : cx.orc 26 = some FSerZ) (h25 : cx.orc 25 = some FChkD) (h27 : cx.orc 27 = some FUndo) (r24 : cx.rd.contains 24 = true) (r26 : cx.rd.contains 26 = true) (r25 : cx.rd.contains 25 = true) (r27 : cx.rd.contains 27 = true) (hk7 : cx.kp 7 = some [1, 4]) (hk14 : cx.kp 14 = some [1, 5, 6]) (g : Hist) (hl : HSm g) : pureRun cx Try.f13 [] false [histE g] = some (Res.flat (.it .i64 (chkH g))) := by
  have c24 := fun H nid l => (show callD cx 24 l H nid = _ from call_orc h24)
  have d24 := fun nx bef i env H dst ty pos after gd args ts => step_orc (cx := cx) (nx := nx) (bef := bef) (i := i) (env := env) (H := H) (dst := dst) (ty := ty) (pos := pos) (after := after) (gd := gd) (args := args) (ts := ts) r24 h24
  have c26 := fun H nid l => (show callD cx 26 l H nid = _ from call_orc h26)
  have d26 := fun nx bef i env H dst ty pos after gd args ts => step_orc (cx := cx) (nx := nx) (bef := bef) (i := i) (env := env) (H := H) (dst := dst) (ty := ty) (pos := pos) (after := after) (gd := gd) (args := args) (ts := ts) r26 h26
  have c25 := fun H nid l => (show callD cx 25 l H nid = _ from call_orc h25)
  have d25 := fun nx bef i env H dst ty pos after gd args ts => step_orc (cx := cx) (nx := nx) (bef := bef) (i := i) (env := env) (H := H) (dst := dst) (ty := ty) (pos := pos) (after := after) (gd := gd) (args := args) (ts := ts) r25 h25
  have c27 := fun H nid l => (show callD cx 27 l H nid = _ from call_orc h27)
  have d27 := fun nx bef i env H dst ty pos after gd args ts => step_orc (cx := cx) (nx := nx) (bef := bef) (i := i) (env := env) (H := H) (dst := dst) (ty := ty) (pos := pos) (after := after) (gd := gd) (args := args) (ts := ts) r27 h27
  have hl1 := hl.1
  have hl2 : ∀ k : Nat, (k : Int) < g.deltas.length → DltSm g.deltas[k]! := fun k h => hl.at h
  have hw : ∀ k : Nat, (k : Int) < g.deltas.length → IntKind.i64.wrap ((k : Int) + 1) = ((k + 1 : Nat) : Int) := wrapS (by have := hl.2.1; omega)
  have hw1 : IntKind.i64.wrap ((g.deltas.length : Int) - 1) = (g.deltas.length : Int) - 1 := by have := hl.2.1; rw [wrap64 (by omega) (by omega)]
  have hw2 : ∀ s : Nat, 0 ≤ (s : Int) - 1 → s ≤ g.deltas.length → IntKind.i64.wrap ((s : Int) - 1 - 1) = ((s - 1 : Nat) : Int) - 1 := fun s h1 h2 => by have := hl.2.1; rw [wrap64 (by omega) (by omega)]; omega
  have hix : ∀ s : Nat, 0 ≤ (s : Int) - 1 → s ≤ g.deltas.length → ∀ (H : Hp) (k : IntKind), indexAddrD Try.prog H 31 (deltasE g.deltas) (.it k ((s : Int) - 1)) = some (.elt (deltaE g.deltas[s - 1]!).cells) := fun s h1 h2 H k => ixn_vecE Try.underlying31 sz58 (by omega) (by omega)
  have hl3 : ∀ s : Nat, 0 ≤ (s : Int) - 1 → s ≤ g.deltas.length → DltSm g.deltas[s - 1]! := fun s h1 h2 => hl.at (by omega)
  refine pure_flat (rs := [.tmp 2]) rfl hbs rfl ?_
  repeat' first
    | (refine evX_loop_rows (σ := Nat) (fun i => [.ptr 0 0, .it .i64 i]) (fun i => [.box (histL g)]) (fun i => i ≤ g.deltas.length ∧ firstE (g.deltas.drop i) = firstE g.deltas) (fun i => g.deltas.length - i) [1, 4] hbs (by exact hk7) (fun q jq b hb => by simp only [List.mem_singleton] at hb; subst hb; exact hist_flat g) (fun i ji => ?_) (s := 0) [0] ?_ ?_ ?_ ?_ ?_)
    | (refine evX_loop_rows (σ := Nat × Zone) (fun s => [.ptr 0 0, .ptr 1 0, .it .i64 ((s.1 : Int) - 1)]) (fun s => [.box (histL g), .box (zoneL s.2)]) (fun s => s.1 ≤ g.deltas.length ∧ ZSm s.2 ∧ linkH g.zone.origin s.2 (g.deltas.take s.1).reverse = linkH g.zone.origin g.zone g.deltas.reverse) (fun s => s.1) [1, 5, 6] hbs (by exact hk14) (fun q jq b hb => by simp only [List.mem_cons, List.not_mem_nil, or_false] at hb; rcases hb with rfl | rfl; exact hist_flat g; exact zone_flat _) (fun s js => ?_) (s := (g.deltas.length, g.zone)) [0, 1] ?_ ?_ ?_ ?_ ?_)
    | (refine br_mk (fun h => ?_) (fun h => ?_) <;> (try simp only [Bool.not_eq_true, Bool.not_eq_false, Classical.not_not] at h))
    | (refine ms_mk ?_ ?_)
    | simp only [↓cD, cU, cB, intOp, unD, minD_two, builtinD, idx, reduceCtorEq, ↓reduceIte, ofV, ofC, argEnv, Nat.reduceEqDiff, not_false_eq_true, flatL, cG, Bool.and_self,
      decide_true, decide_false, not_true_eq_false, false_and, false_implies, Option.map_some, Option.bind_some, Option.bind_none, Option.map_none, List.getElem?_toArray, List.toList_toArray, decide_eq_true_eq, decide_eq_false_iff_not, ge_iff_le, gt_iff_lt, and_true, true_and, implies_true, forall_const, true_or, or_true,
      immL, immD, Bool.true_and, Bool.and_true, Bool.false_and, Bool.and_false, Bool.true_or, Bool.or_true, Bool.false_or, Bool.or_false, Res.flat, ren, renL, List.length_nil, Nat.add_zero, List.map_cons, List.map_nil, List.nil_append, List.append_nil, List.cons_append, List.getElem?_cons_zero, List.getElem?_cons_succ, Bool.not_eq_true', Bool.not_true, Bool.not_false, Bool.not_eq_true, Bool.not_eq_false', Bool.not_eq_false, Bool.true_eq_false, Bool.false_eq_true, if_true, if_false, Int.reduceEq, Int.reduceLT, Int.reduceLE, Int.reduceNe, ite_self, or_false, false_or, or_self, eq_self, List.zip_cons_cons, List.zip_nil_left, deref, ldD, List.head?_cons, convD, shiftOp, strOp, bitsOp, cC, cS, refs, okRoots, okId, List.all_nil, List.all_cons, List.length_cons, Nat.zero_add, Nat.reduceMul, Nat.reduceAdd, Nat.reduceLeDiff, refsL, List.flatMap_cons, List.flatMap_nil, c24, c26, c25, c27, d24, d26, d25, d27, callX_imm, callX_nil, FChkZ_eq, FSerZ_eq, FChkD_eq, FUndo_eq, ↓neq37, ↓eql37, ↓neq39, ↓eql39, ↓neq41, ↓eql41, cV, cT, cF, cW, borT, borM, bor_agg, Res.via, List.size_toArray, List.isEmpty_cons, put_ap, putAll_one, elems_own, refsB, List.isEmpty_nil, Nat.reduceLT, Nat.reduceSub, Nat.reduceLeDiff, Nat.reduceMul, Nat.reduceAdd, Int.toNat_natCast, Int.reduceToNat, appK, nilRow, callX_bor, borL, bor_row, bor_one, take_map_len, List.drop_zero, map_snoc, map_app, fillE, cO, List.length_cons, List.length_replicate, List.length_append, List.length_map, List.replicate, List.set_cons_zero, List.set_cons_succ, List.take_zero, List.take_succ_cons, List.drop_succ_cons, Nat.zero_lt_succ, Option.isSome_some, partD, ofHp, ixOf, cS, refs, okRoots, okId, List.all_nil, List.all_cons, List.length_cons, Nat.zero_add, Nat.reduceMul, Nat.reduceAdd, Nat.reduceLeDiff, refsL, List.flatMap_cons, List.flatMap_nil, hl1, hl2, hw, hw1, hw2, hix, hP, *]
  all_goals first
    | rfl
    | exact Nat.zero_le _
    | exact ⟨Nat.zero_le _, rfl⟩
    | exact ⟨Nat.le_refl _, by rw [List.take_length]⟩
    | (rw [chkH, if_pos ‹_›])
    | (simp only [chkH, *, not_true_eq_false, not_false_eq_true, Bool.true_eq_false, Bool.false_eq_true, if_true, if_false]; done)
    | (have ef : firstE g.deltas = chkD g.deltas[i]! := (by rw [← ji.2, first_on (by omega), if_pos ‹_›]); have e : chkH g = chkD g.deltas[i]! := (by simp only [chkH, *, not_true_eq_false, not_false_eq_true, Bool.true_eq_false, Bool.false_eq_true, if_true, if_false]); rw [e])
    | (refine ⟨[0], i + 1, rfl, rfl, rfl, rfl, ⟨by omega, by have e := ji.2; rw [first_on (i := i) (by omega), if_neg (by simp only [*, not_true_eq_false, not_false_eq_true, Bool.true_eq_false, Bool.false_eq_true, if_true, if_false])] at e; exact e⟩, by omega⟩)
    | (have ef : firstE g.deltas = 0 := (by have e := ji.2; rw [first_end (by omega)] at e; exact e.symm)
       have es := js.1
       first
       | (have el : linkH g.zone.origin g.zone g.deltas.reverse = false := (by rw [← js.2.2, rev_on (by omega) (by omega), linkH]; simp only [*, not_true_eq_false, not_false_eq_true, Bool.true_eq_false, Bool.false_eq_true, if_true, if_false]); have e : chkH g = 15 := (by simp only [chkH, *, not_true_eq_false, not_false_eq_true, Bool.true_eq_false, Bool.false_eq_true, if_true, if_false]); rw [e])
       | (refine ⟨[0, 1], (s.1 - 1, (undoD s.2 g.deltas[s.1 - 1]!).1), ?_, ?_, ?_, ?_, ⟨by show s.1 - 1 ≤ _; omega, undoD_sm js.2.1 (hl.at (by omega)), by have e := js.2.2; rw [rev_on (by omega) (by omega), linkH] at e; simp only [*, not_true_eq_false, not_false_eq_true, Bool.true_eq_false, Bool.false_eq_true, if_true, if_false] at e; exact e⟩, by show s.1 - 1 < s.1; omega⟩ <;> (first | rfl | (simp only [refsL, refs, refs_gvec, refs_ivec, ren, ren_gvec, List.nil_append, List.append_nil, List.cons_append, List.map_cons, List.map_nil, upd_atB, upd_offB, Nat.reduceEqDiff, not_false_eq_true, ofHp, ixOf, if_true, Bool.and_self, Bool.true_and]; first | rfl | done) | (simp only [refsL, refs, refs_gvec, refs_ivec, ren, ren_gvec, List.nil_append, List.append_nil, List.cons_append, List.map_cons, List.map_nil, upd_atB, upd_offB, Nat.reduceEqDiff, not_false_eq_true, ofHp, ixOf, if_true, Bool.and_self, Bool.true_and]; simp; done)))
       | (have el : linkH g.zone.origin g.zone g.deltas.reverse = true := (by rw [← js.2.2, show s.1 = 0 by omega]; rfl); have e : chkH g = 0 := (by simp only [chkH, *, not_true_eq_false, not_false_eq_true, Bool.true_eq_false, Bool.false_eq_true, if_true, if_false]); rw [e]))
    | (first | rfl | (simp only [refsL, refs, refs_gvec, refs_ivec, ren, ren_gvec, List.nil_append, List.append_nil, List.cons_append, List.map_cons, List.map_nil, upd_atB, upd_offB, Nat.reduceEqDiff, not_false_eq_true, ofHp, ixOf, if_true, Bool.and_self, Bool.true_and]; first | rfl | done) | (simp only [refsL, refs, refs_gvec, refs_ivec, ren, ren_gvec, List.nil_append, List.append_nil, List.cons_append, List.map_cons, List.map_nil, upd_atB, upd_offB, Nat.reduceEqDiff, not_false_eq_true, ofHp, ixOf, if_true, Bool.and_self, Bool.true_and]; simp; done))
end Go.Mir
