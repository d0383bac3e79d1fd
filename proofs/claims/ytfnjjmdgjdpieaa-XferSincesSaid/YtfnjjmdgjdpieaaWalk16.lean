/- What functions of the program answer, read off. -/
import Derived.Test.YtfnjjmdgjdpieaaWalk15
import Derived.KernelRfl
set_option linter.unusedSimpArgs false
set_option linter.unusedVariables false
namespace Go.Mir
open Go Go.RowKit Go.Proofs
attribute [local congr] Ev.congr EvC.congr EvW.congr Br.congr Ms.congr
set_option maxRecDepth 100000
def HPre (g : Hist) : Prop := HSm g ∧ g.zone.recs.length ≤ 60 ∧ g.deltas.length ≤ 5 ∧ (∀ d ∈ g.deltas, d.rem.length ≤ 60 ∧ d.add.length ≤ 60)
def nosD (r : Rec) : Bool := !decide (r.typ = 6)
def soas (l : List Rec) : List Rec := l.filter soaD
def rests (l : List Rec) : List Rec := l.filter nosD
def fullR (l : List Rec) : List Rec := soas l ++ rests l ++ soas l
def moveD (d : Delta) : List Rec := soas d.rem ++ rests d.rem ++ soas d.add ++ rests d.add
def sinceR (g : Hist) (n : Int) : List Rec := if sAfter (serialZ g.zone) n = false then soas g.zone.recs else if placeH g n < 0 then fullR g.zone.recs else
  if (sinceV g n).any (fun d => decide (d.fro = serialZ g.zone)) = true then fullR g.zone.recs else soas g.zone.recs ++ (sinceV g n).flatMap moveD ++ soas g.zone.recs
theorem soas_len (l : List Rec) : (soas l).length ≤ l.length := List.length_filter_le _ _
theorem rests_len (l : List Rec) : (rests l).length ≤ l.length := List.length_filter_le _ _
theorem soas_yes {l : List Rec} {i : Nat} (h : (i : Int) < l.length) (hp : l[i]!.typ = 6) : soas (l.take (i + 1)) = soas (l.take i) ++ [l[i]!] := ft_yes h (decide_eq_true hp)
theorem soas_no {l : List Rec} {i : Nat} (h : (i : Int) < l.length) (hp : ¬ l[i]!.typ = 6) : soas (l.take (i + 1)) = soas (l.take i) := ft_no h (decide_eq_false hp)
theorem rests_yes {l : List Rec} {i : Nat} (h : (i : Int) < l.length) (hp : ¬ l[i]!.typ = 6) : rests (l.take (i + 1)) = rests (l.take i) ++ [l[i]!] := ft_yes h (by simp only [nosD, decide_eq_false hp, Bool.not_false])
theorem rests_no {l : List Rec} {i : Nat} (h : (i : Int) < l.length) (hp : l[i]!.typ = 6) : rests (l.take (i + 1)) = rests (l.take i) := ft_no h (by simp only [nosD, decide_eq_true hp, Bool.not_true])
theorem sinceV_any (g : Hist) (n : Int) : ∀ d ∈ sinceV g n, d ∈ g.deltas := by
  intro d hd
  unfold sinceV at hd
  split at hd
  · cases hd
  · exact List.mem_of_mem_drop hd
theorem sinceV_len (g : Hist) (n : Int) : (sinceV g n).length ≤ g.deltas.length := by unfold sinceV; split; simp; rw [List.length_drop]; omega
theorem moveD_len (d : Delta) : (moveD d).length ≤ 2 * d.rem.length + 2 * d.add.length := by
  have h1 := soas_len d.rem; have h2 := rests_len d.rem; have h3 := soas_len d.add; have h4 := rests_len d.add
  simp only [moveD, List.length_append]; omega
theorem moves_len : ∀ (l : List Delta) (k : Nat), (∀ d ∈ l, d.rem.length ≤ k ∧ d.add.length ≤ k) → (l.flatMap moveD).length ≤ l.length * (4 * k)
  | [], k, h => by simp
  | d :: r, k, h => by
    have h1 := moves_len r k (fun x hx => h x (by simp [hx]))
    have h2 := moveD_len d
    have h3 := h d (by simp)
    rw [List.flatMap_cons, List.length_append, List.length_cons, Nat.add_mul]; omega
theorem moves_step {l : List Delta} {i : Nat} (h : (i : Int) < l.length) : (l.take (i + 1)).flatMap moveD = (l.take i).flatMap moveD ++ moveD l[i]! := by rw [takeN h, List.flatMap_append]; simp

noncomputable def FSoa := mkF (fun s : (List Rec) => [recsE s]) (fun s => s.length ≤ 1000000) (fun s => Res.via (.tup [recsE (soas s), recsE (rests s)]))
theorem FSoa_eq {a : List Rec} (hp : a.length ≤ 1000000) : FSoa [recsE a] = some (Res.via (.tup [recsE (soas a), recsE (rests a)])) := mkF_eq (s := (a)) (fun s s' h => by simp only [List.cons.injEq, D.it.injEq, D.st.injEq, D.bo.injEq, true_and, and_true, adr_iff, dat_iff, rec_iff, zone_iff, delta_iff, hist_iff, recs_iff, deltas_iff, strs_iff, ints_iff] at h; simp only [h]) hp
set_option maxHeartbeats 4000000 in
theorem runSoa (cx : Cx) (hP : cx.P = Try.prog) (hbs : cx.bs = 0) (hk3 : cx.kp 3 = some [0, 4, 5, 6]) (a : List Rec) (hl : a.length ≤ 1000000) : pureRun cx Try.f28 [] true [recsE a] = some (Res.via (.tup [recsE (soas a), recsE (rests a)])) := by
  have hw : ∀ k : Nat, (k : Int) < a.length → IntKind.i64.wrap ((k : Int) + 1) = ((k + 1 : Nat) : Int) := wrapS (by omega)
  refine pure_al (rs := [.tmp 2, .tmp 3]) rfl hbs rfl ?_
  repeat' first
    | (refine evX_loop_rows (σ := Nat) (fun s => [recsE a, .own 0 0 (soas (a.take s)).length, .own 1 0 (rests (a.take s)).length, .it .i64 s]) (fun s => [.row 16 true ((soas (a.take s)).map recE), .row 16 true ((rests (a.take s)).map recE)]) (fun s => s ≤ a.length) (fun s => a.length - s) [0, 4, 5, 6] hbs (by exact hk3) (fun q jq b hb => by simp only [List.mem_cons, List.not_mem_nil, or_false] at hb; rcases hb with rfl | rfl <;> exact map_refs (fun _ => rfl)) (fun s js => ?_) (s := 0) [2, 3] ?_ ?_ ?_ ?_ ?_)
    | (refine br_mk (fun h => ?_) (fun h => ?_) <;> (try simp only [Bool.not_eq_true, Bool.not_eq_false, Classical.not_not] at h))
    | (refine ms_mk ?_ ?_)
    | simp only [↓cD, cU, cB, intOp, unD, minD_two, builtinD, idx, reduceCtorEq, ↓reduceIte, ofV, ofC, argEnv, Nat.reduceEqDiff, not_false_eq_true, flatL, cG, Bool.and_self,
      decide_true, decide_false, not_true_eq_false, false_and, false_implies, Option.map_some, Option.bind_some, Option.bind_none, Option.map_none, List.getElem?_toArray, List.toList_toArray, decide_eq_true_eq, decide_eq_false_iff_not, ge_iff_le, gt_iff_lt, and_true, true_and, implies_true, forall_const, true_or, or_true,
      immL, immD, Bool.true_and, Bool.and_true, Bool.false_and, Bool.and_false, Bool.true_or, Bool.or_true, Bool.false_or, Bool.or_false, Res.flat, ren, renL, List.length_nil, Nat.add_zero, List.map_cons, List.map_nil, List.nil_append, List.append_nil, List.cons_append, List.getElem?_cons_zero, List.getElem?_cons_succ, Bool.not_eq_true', Bool.not_true, Bool.not_false, Bool.not_eq_true, Bool.not_eq_false', Bool.not_eq_false, Bool.true_eq_false, Bool.false_eq_true, if_true, if_false, Int.reduceEq, Int.reduceLT, Int.reduceLE, Int.reduceNe, ite_self, or_false, false_or, or_self, eq_self, List.zip_cons_cons, List.zip_nil_left, deref, ldD, List.head?_cons, convD, shiftOp, strOp, bitsOp, cC, ↓neq37, ↓eql37, ↓neq39, ↓eql39, ↓neq41, ↓eql41, cV, cT, cF, cW, borT, borM, bor_agg, Res.via, List.size_toArray, List.isEmpty_cons, put_ap, putAll_one, elems_own, refsB, List.isEmpty_nil, Nat.reduceLT, Nat.reduceSub, Nat.reduceLeDiff, Nat.reduceMul, Nat.reduceAdd, Int.toNat_natCast, Int.reduceToNat, appK, nilRow, callX_bor, borL, bor_row, bor_one, take_map_len, List.drop_zero, map_snoc, map_app, fillE, cO, List.length_cons, List.length_replicate, List.length_append, List.length_map, List.replicate, List.set_cons_zero, List.set_cons_succ, List.take_zero, List.take_succ_cons, List.drop_succ_cons, Nat.zero_lt_succ, Option.isSome_some, partD, ofHp, ixOf, hw, hP, *]
  all_goals first
    | rfl
    | exact Nat.zero_le _
    | (have h1 := soas_len (a.take s); have h2 := rests_len (a.take s); rw [List.length_take] at h1 h2; constructor <;> omega)
    | (refine ⟨[3, 1], s + 1, ?_, ?_, ?_, ?_, by omega, by omega⟩ <;> (try rw [soas_yes (by omega) ‹_›]) <;> (try rw [rests_no (by omega) ‹_›]) <;> (try simp only [List.length_append, List.length_cons, List.length_nil, Nat.zero_add]) <;> (first | rfl | (simp only [refsL, refs, refs_gvec, refs_ivec, ren, ren_gvec, List.nil_append, List.append_nil, List.cons_append, List.map_cons, List.map_nil, upd_atB, upd_offB, Nat.reduceEqDiff, not_false_eq_true, ofHp, ixOf, if_true, Bool.and_self, Bool.true_and]; first | rfl | done) | (simp only [refsL, refs, refs_gvec, refs_ivec, ren, ren_gvec, List.nil_append, List.append_nil, List.cons_append, List.map_cons, List.map_nil, upd_atB, upd_offB, Nat.reduceEqDiff, not_false_eq_true, ofHp, ixOf, if_true, Bool.and_self, Bool.true_and]; simp; done)))
    | (refine ⟨[0, 3], s + 1, ?_, ?_, ?_, ?_, by omega, by omega⟩ <;> (try rw [soas_no (by omega) ‹_›]) <;> (try rw [rests_yes (by omega) ‹_›]) <;> (try simp only [List.length_append, List.length_cons, List.length_nil, Nat.zero_add]) <;> (first | rfl | (simp only [refsL, refs, refs_gvec, refs_ivec, ren, ren_gvec, List.nil_append, List.append_nil, List.cons_append, List.map_cons, List.map_nil, upd_atB, upd_offB, Nat.reduceEqDiff, not_false_eq_true, ofHp, ixOf, if_true, Bool.and_self, Bool.true_and]; first | rfl | done) | (simp only [refsL, refs, refs_gvec, refs_ivec, ren, ren_gvec, List.nil_append, List.append_nil, List.cons_append, List.map_cons, List.map_nil, upd_atB, upd_offB, Nat.reduceEqDiff, not_false_eq_true, ofHp, ixOf, if_true, Bool.and_self, Bool.true_and]; simp; done)))
    | (rw [take_end (by omega)]; exact ⟨_, rfl, rfl⟩)
    | (first | rfl | (simp only [refsL, refs, refs_gvec, refs_ivec, ren, ren_gvec, List.nil_append, List.append_nil, List.cons_append, List.map_cons, List.map_nil, upd_atB, upd_offB, Nat.reduceEqDiff, not_false_eq_true, ofHp, ixOf, if_true, Bool.and_self, Bool.true_and]; first | rfl | done) | (simp only [refsL, refs, refs_gvec, refs_ivec, ren, ren_gvec, List.nil_append, List.append_nil, List.cons_append, List.map_cons, List.map_nil, upd_atB, upd_offB, Nat.reduceEqDiff, not_false_eq_true, ofHp, ixOf, if_true, Bool.and_self, Bool.true_and]; simp; done))
noncomputable def FFullR := mkF (fun s : Zone => [zoneE s]) (fun s => ZSm s) (fun s => Res.flat (recsE (fullR s.recs)))
theorem FFullR_eq {z : Zone} (hp : ZSm z) : FFullR [zoneE z] = some (Res.flat (recsE (fullR z.recs))) := mkF_eq (s := (z)) (fun s s' h => by simp only [List.cons.injEq, D.it.injEq, D.st.injEq, D.bo.injEq, true_and, and_true, adr_iff, dat_iff, rec_iff, zone_iff, delta_iff, hist_iff, recs_iff, deltas_iff, strs_iff, ints_iff] at h; simp only [h]) hp
set_option maxHeartbeats 4000000 in
theorem runFullR (cx : Cx) (hP : cx.P = Try.prog) (hbs : cx.bs = 0) (h28 : cx.orc 28 = some FSoa) (z : Zone) (hl : ZSm z) : pureRun cx Try.f31 [] false [zoneE z] = some (Res.flat (recsE (fullR z.recs))) := by
  have c28 := fun H nid l => (show callD cx 28 l H nid = _ from call_orc h28)
  have hl1 := hl.2.1
  refine pure_vec (rs := [.tmp 2]) rfl hbs rfl ?_
  repeat' first
    | (refine br_mk (fun h => ?_) (fun h => ?_) <;> (try simp only [Bool.not_eq_true, Bool.not_eq_false, Classical.not_not] at h))
    | (refine ms_mk ?_ ?_)
    | simp only [↓cD, cU, cB, intOp, unD, minD_two, builtinD, idx, reduceCtorEq, ↓reduceIte, ofV, ofC, argEnv, Nat.reduceEqDiff, not_false_eq_true, flatL, cG, Bool.and_self,
      decide_true, decide_false, not_true_eq_false, false_and, false_implies, Option.map_some, Option.bind_some, Option.bind_none, Option.map_none, List.getElem?_toArray, List.toList_toArray, decide_eq_true_eq, decide_eq_false_iff_not, ge_iff_le, gt_iff_lt, and_true, true_and, implies_true, forall_const, true_or, or_true,
      immL, immD, Bool.true_and, Bool.and_true, Bool.false_and, Bool.and_false, Bool.true_or, Bool.or_true, Bool.false_or, Bool.or_false, Res.flat, ren, renL, List.length_nil, Nat.add_zero, List.map_cons, List.map_nil, List.nil_append, List.append_nil, List.cons_append, List.getElem?_cons_zero, List.getElem?_cons_succ, Bool.not_eq_true', Bool.not_true, Bool.not_false, Bool.not_eq_true, Bool.not_eq_false', Bool.not_eq_false, Bool.true_eq_false, Bool.false_eq_true, if_true, if_false, Int.reduceEq, Int.reduceLT, Int.reduceLE, Int.reduceNe, ite_self, or_false, false_or, or_self, eq_self, List.zip_cons_cons, List.zip_nil_left, deref, ldD, List.head?_cons, convD, shiftOp, strOp, bitsOp, cC, c28, callX_imm, callX_nil, FSoa_eq, ↓neq37, ↓eql37, ↓neq39, ↓eql39, ↓neq41, ↓eql41, cV, cT, cF, cW, borT, borM, bor_agg, Res.via, List.size_toArray, List.isEmpty_cons, put_ap, putAll_one, elems_own, refsB, List.isEmpty_nil, Nat.reduceLT, Nat.reduceSub, Nat.reduceLeDiff, Nat.reduceMul, Nat.reduceAdd, Int.toNat_natCast, Int.reduceToNat, appK, nilRow, callX_bor, borL, bor_row, bor_one, take_map_len, List.drop_zero, map_snoc, map_app, fillE, cO, List.length_cons, List.length_replicate, List.length_append, List.length_map, List.replicate, List.set_cons_zero, List.set_cons_succ, List.take_zero, List.take_succ_cons, List.drop_succ_cons, Nat.zero_lt_succ, Option.isSome_some, partD, ofHp, ixOf, hl1, hP, *]
  all_goals (have h1 := soas_len z.recs; have h2 := rests_len z.recs; have h3 := hl.2.1)
  all_goals first
    | rfl
    | omega
    | (constructor <;> omega)
    | exact ⟨_, _, _, _, rfl, rfl, by simp only [List.length_map, List.length_append]; omega, map_dry (fun _ => rfl), rfl⟩
noncomputable def FSinceR := mkF (fun s : Hist × Int => [histE s.1, .it .i64 s.2]) (fun s => HPre s.1) (fun s => Res.via (recsE (sinceR s.1 s.2)))
theorem FSinceR_eq {g : Hist} {n1 : Int} (hp : HPre g) : FSinceR [histE g, .it .i64 n1] = some (Res.via (recsE (sinceR g n1))) := mkF_eq (s := (g, n1)) (fun s s' h => by simp only [List.cons.injEq, D.it.injEq, D.st.injEq, D.bo.injEq, true_and, and_true, adr_iff, dat_iff, rec_iff, zone_iff, delta_iff, hist_iff, recs_iff, deltas_iff, strs_iff, ints_iff] at h; simp only [h]) hp
set_option maxHeartbeats 4000000 in
theorem runSinceR (cx : Cx) (hP : cx.P = Try.prog) (hbs : cx.bs = 0) (h28 : cx.orc 28 = some FSoa) (h26 : cx.orc 26 = some FSerZ) (h29 : cx.orc 29 = some FSAfter) (h30 : cx.orc 30 = some FSince13) (h31 : cx.orc 31 = some FFullR) (hk11 : cx.kp 11 = some [2, 5, 7, 8, 10, 11]) (g : Hist) (n1 : Int) (hl : HPre g) : pureRun cx Try.f14 [] true [histE g, .it .i64 n1] = some (Res.via (recsE (sinceR g n1))) := by
  have c28 := fun H nid l => (show callD cx 28 l H nid = _ from call_orc h28)
  have c26 := fun H nid l => (show callD cx 26 l H nid = _ from call_orc h26)
  have c29 := fun H nid l => (show callD cx 29 l H nid = _ from call_orc h29)
  have c30 := fun H nid l => (show callD cx 30 l H nid = _ from call_orc h30)
  have c31 := fun H nid l => (show callD cx 31 l H nid = _ from call_orc h31)
  have hl1 := hl.1; have hl2 := hl.1.1; have hl3 := hl.1.1.2.1
  have hw : ∀ k : Nat, (k : Int) < (sinceV g n1).length → IntKind.i64.wrap ((k : Int) + 1) = ((k + 1 : Nat) : Int) := wrapS (by have := sinceV_len g n1; have := hl.1.2.1; omega)
  have hd : ∀ k : Nat, (k : Int) < (sinceV g n1).length → ((sinceV g n1)[k]!).rem.length ≤ 60 ∧ ((sinceV g n1)[k]!).add.length ≤ 60 := fun k hk => hl.2.2.2 _ (sinceV_any g n1 _ (mem_at hk))
  have hd1 : ∀ k : Nat, (k : Int) < (sinceV g n1).length → ((sinceV g n1)[k]!).rem.length ≤ 1000000 := fun k hk => by have := (hd k hk).1; omega
  have hd2 : ∀ k : Nat, (k : Int) < (sinceV g n1).length → ((sinceV g n1)[k]!).add.length ≤ 1000000 := fun k hk => by have := (hd k hk).2; omega
  have hd3 : True := trivial
  have hb1 : ∀ s : Nat, (((sinceV g n1).take s).flatMap moveD).length ≤ 1200 := fun s => by have h1 := moves_len ((sinceV g n1).take s) 60 (fun d hd => hl.2.2.2 _ (sinceV_any g n1 _ (List.mem_of_mem_take hd))); have h2 := sinceV_len g n1; have h3 := hl.2.2.1; have h4 : ((sinceV g n1).take s).length ≤ 5 := (by rw [List.length_take]; omega); omega
  have hb2 : (soas g.zone.recs).length ≤ 60 := Nat.le_trans (soas_len _) hl.2.1
  have hb3 : ∀ k : Nat, (k : Int) < (sinceV g n1).length → (soas ((sinceV g n1)[k]!).rem).length ≤ 60 ∧ (rests ((sinceV g n1)[k]!).rem).length ≤ 60 ∧ (soas ((sinceV g n1)[k]!).add).length ≤ 60 ∧ (rests ((sinceV g n1)[k]!).add).length ≤ 60 := fun k hk => ⟨Nat.le_trans (soas_len _) (hd k hk).1, Nat.le_trans (rests_len _) (hd k hk).1, Nat.le_trans (soas_len _) (hd k hk).2, Nat.le_trans (rests_len _) (hd k hk).2⟩
  refine pure_al (rs := [.tmp 4]) rfl hbs rfl ?_
  repeat' first
    | (refine evX_loop_rows (σ := Nat) (fun s => [.ptr 0 0, recsE (soas g.zone.recs), .it .i64 (serialZ g.zone), deltasE (sinceV g n1), .own 1 0 (soas g.zone.recs ++ ((sinceV g n1).take s).flatMap moveD).length, .it .i64 s]) (fun s => [.box (histL g), .row 16 true ((soas g.zone.recs ++ ((sinceV g n1).take s).flatMap moveD).map recE)]) (fun s => s ≤ (sinceV g n1).length ∧ ((sinceV g n1).take s).any (fun d => decide (d.fro = serialZ g.zone)) = false) (fun s => (sinceV g n1).length - s) [2, 5, 7, 8, 10, 11] hbs (by exact hk11) (fun q jq b hb => by simp only [List.mem_cons, List.not_mem_nil, or_false] at hb; rcases hb with rfl | rfl; exact hist_flat g; exact map_refs (fun _ => rfl)) (fun s js => ?_) (s := 0) [0, 3] ?_ ?_ ?_ ?_ ?_)
    | (refine br_mk (fun h => ?_) (fun h => ?_) <;> (try simp only [Bool.not_eq_true, Bool.not_eq_false, Classical.not_not] at h))
    | (refine ms_mk ?_ ?_)
    | simp only [↓cD, cU, cB, intOp, unD, minD_two, builtinD, idx, reduceCtorEq, ↓reduceIte, ofV, ofC, argEnv, Nat.reduceEqDiff, not_false_eq_true, flatL, cG, Bool.and_self,
      decide_true, decide_false, not_true_eq_false, false_and, false_implies, Option.map_some, Option.bind_some, Option.bind_none, Option.map_none, List.getElem?_toArray, List.toList_toArray, decide_eq_true_eq, decide_eq_false_iff_not, ge_iff_le, gt_iff_lt, and_true, true_and, implies_true, forall_const, true_or, or_true,
      immL, immD, Bool.true_and, Bool.and_true, Bool.false_and, Bool.and_false, Bool.true_or, Bool.or_true, Bool.false_or, Bool.or_false, Res.flat, ren, renL, List.length_nil, Nat.add_zero, List.map_cons, List.map_nil, List.nil_append, List.append_nil, List.cons_append, List.getElem?_cons_zero, List.getElem?_cons_succ, Bool.not_eq_true', Bool.not_true, Bool.not_false, Bool.not_eq_true, Bool.not_eq_false', Bool.not_eq_false, Bool.true_eq_false, Bool.false_eq_true, if_true, if_false, Int.reduceEq, Int.reduceLT, Int.reduceLE, Int.reduceNe, ite_self, or_false, false_or, or_self, eq_self, List.zip_cons_cons, List.zip_nil_left, deref, ldD, List.head?_cons, convD, shiftOp, strOp, bitsOp, cC, c28, c26, c29, c30, c31, callX_imm, callX_nil, FSoa_eq, FSerZ_eq, FSAfter_eq, FSince13_eq, FFullR_eq, ↓neq37, ↓eql37, ↓neq39, ↓eql39, ↓neq41, ↓eql41, cV, cT, cF, cW, borT, borM, bor_agg, Res.via, List.size_toArray, List.isEmpty_cons, put_ap, putAll_one, elems_own, refsB, List.isEmpty_nil, Nat.reduceLT, Nat.reduceSub, Nat.reduceLeDiff, Nat.reduceMul, Nat.reduceAdd, Int.toNat_natCast, Int.reduceToNat, appK, nilRow, callX_bor, borL, bor_row, bor_one, take_map_len, List.drop_zero, map_snoc, map_app, fillE, cO, List.length_cons, List.length_replicate, List.length_append, List.length_map, List.replicate, List.set_cons_zero, List.set_cons_succ, List.take_zero, List.take_succ_cons, List.drop_succ_cons, Nat.zero_lt_succ, Option.isSome_some, partD, ofHp, ixOf, hl1, hl2, hl3, hw, hd1, hd2, hd3, hP, *]
  all_goals first
    | rfl
    | omega
    | exact ⟨Nat.zero_le _, rfl⟩
    | (have e : sinceR g n1 = soas g.zone.recs := (by rw [sinceR, if_pos ‹_›]); rw [e]; exact ⟨_, rfl, rfl⟩)
    | (have q1 := hb1 s; have q3 := hb3 s (by omega); constructor <;> omega)
    | (have q1 := hb1 s; constructor <;> omega)
    | (simp only [List.flatMap_nil, List.length_nil, Nat.zero_add, Nat.add_zero]; rfl)
    | (rw [List.flatMap_nil, List.append_nil])
    | (have ha : ¬ sAfter (serialZ g.zone) n1 = false := (by simp only [*, Bool.true_eq_false, not_false_eq_true])
       first
       | (have hp : placeH g n1 < 0 := Classical.byContradiction fun hn => (‹¬ (if placeH g n1 < 0 then (11 : Int) else 0) = 0›) (if_neg hn); have e : sinceR g n1 = fullR g.zone.recs := (by rw [sinceR, if_neg ha, if_pos hp]); rw [e]; exact ⟨_, rfl, rfl⟩)
       | (have hp : ¬ placeH g n1 < 0 := (fun hn => by have h0 : (if placeH g n1 < 0 then (11 : Int) else 0) = 0 := ‹_›; rw [if_pos hn] at h0; omega)
          first
          | (have hy : (sinceV g n1).any (fun d => decide (d.fro = serialZ g.zone)) = true := any_no (i := s) (by omega) (decide_eq_true ‹_›); have e : sinceR g n1 = fullR g.zone.recs := (by rw [sinceR, if_neg ha, if_neg hp, if_pos hy]); rw [e]; exact ⟨_, rfl, rfl⟩)
          | (have e : soas g.zone.recs ++ ((sinceV g n1).take (s + 1)).flatMap moveD = soas g.zone.recs ++ ((sinceV g n1).take s).flatMap moveD ++ soas ((sinceV g n1)[s]!).rem ++ rests ((sinceV g n1)[s]!).rem ++ soas ((sinceV g n1)[s]!).add ++ rests ((sinceV g n1)[s]!).add := (by rw [moves_step (by omega)]; simp only [moveD, List.append_assoc])
             have e2 : (soas g.zone.recs).length + (((sinceV g n1).take (s + 1)).flatMap moveD).length = (soas g.zone.recs).length + (((sinceV g n1).take s).flatMap moveD).length + (soas ((sinceV g n1)[s]!).rem).length + (rests ((sinceV g n1)[s]!).rem).length + (soas ((sinceV g n1)[s]!).add).length + (rests ((sinceV g n1)[s]!).add).length := (by rw [moves_step (by omega)]; simp only [moveD, List.length_append]; omega)
             refine ⟨[0, 5], s + 1, ?_, ?_, ?_, ?_, ⟨by omega, by rw [any_step (by omega), js.2, Bool.false_or]; exact decide_eq_false ‹_›⟩, by omega⟩ <;> (try rw [e]) <;> (try rw [e2]) <;> (first | rfl | (simp only [refsL, refs, refs_gvec, refs_ivec, ren, ren_gvec, List.nil_append, List.append_nil, List.cons_append, List.map_cons, List.map_nil, upd_atB, upd_offB, Nat.reduceEqDiff, not_false_eq_true, ofHp, ixOf, if_true, Bool.and_self, Bool.true_and]; first | rfl | done) | (simp only [refsL, refs, refs_gvec, refs_ivec, ren, ren_gvec, List.nil_append, List.append_nil, List.cons_append, List.map_cons, List.map_nil, upd_atB, upd_offB, Nat.reduceEqDiff, not_false_eq_true, ofHp, ixOf, if_true, Bool.and_self, Bool.true_and]; simp; done)))
          | (have hy : ¬ (sinceV g n1).any (fun d => decide (d.fro = serialZ g.zone)) = true := (by have e := js.2; rw [take_end (by omega)] at e; rw [e]; decide); have e : sinceR g n1 = soas g.zone.recs ++ (sinceV g n1).flatMap moveD ++ soas g.zone.recs := (by rw [sinceR, if_neg ha, if_neg hp, if_neg hy]); refine ⟨_, rfl, ?_⟩; rw [List.take_of_length_le (by simp only [List.length_map, List.length_append]; omega), take_end (by omega), e]; rfl)))
    | (first | rfl | (simp only [refsL, refs, refs_gvec, refs_ivec, ren, ren_gvec, List.nil_append, List.append_nil, List.cons_append, List.map_cons, List.map_nil, upd_atB, upd_offB, Nat.reduceEqDiff, not_false_eq_true, ofHp, ixOf, if_true, Bool.and_self, Bool.true_and]; first | rfl | done) | (simp only [refsL, refs, refs_gvec, refs_ivec, ren, ren_gvec, List.nil_append, List.append_nil, List.cons_append, List.map_cons, List.map_nil, upd_atB, upd_offB, Nat.reduceEqDiff, not_false_eq_true, ofHp, ixOf, if_true, Bool.and_self, Bool.true_and]; simp; done))
end Go.Mir
