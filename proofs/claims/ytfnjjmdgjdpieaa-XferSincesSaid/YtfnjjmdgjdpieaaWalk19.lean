/- What functions of the program answer, read off. -/
import Derived.Test.YtfnjjmdgjdpieaaWalk18
import Derived.KernelRfl
set_option linter.unusedSimpArgs false
set_option linter.unusedVariables false
namespace Go.Mir
open Go Go.RowKit Go.Proofs
attribute [local congr] Ev.congr EvC.congr EvW.congr Br.congr Ms.congr
set_option maxRecDepth 100000
def rec0 : Rec := ⟨[], 0, 0, ⟨⟨false, 0, 0⟩, [], [], [], 0, 0, 0, 0, 0, 0, 0⟩⟩
def soaP (l : List Rec) : Rec × Bool := match l.find? soaD with | some r => (r, true) | none => (rec0, false)
theorem find_yes {l : List Rec} {i : Nat} (h0 : (l.take i).any soaD = false) (h : (i : Int) < l.length) (hp : soaD l[i]! = true) : l.find? soaD = some l[i]! := by
  have hi : i < l.length := by omega
  rw [List.find?_eq_some_iff_getElem]
  refine ⟨hp, i, hi, (getElem!_pos l i hi).symm, fun j hj => ?_⟩
  have h1 := List.any_eq_false.1 h0 l[j] (by rw [List.mem_take_iff_getElem]; exact ⟨j, by omega, rfl⟩)
  simpa using h1
theorem find_none {l : List Rec} (h : l.any soaD = false) : l.find? soaD = none := by
  rw [List.find?_eq_none]
  exact List.any_eq_false.1 h

noncomputable def FSoaP := mkF (fun s : Zone => [zoneE s]) (fun s => s.recs.length ≤ 1000000) (fun s => Res.flat (.tup [recE (soaP s.recs).1, .bo (soaP s.recs).2]))
theorem FSoaP_eq {z : Zone} (hp : z.recs.length ≤ 1000000) : FSoaP [zoneE z] = some (Res.flat (.tup [recE (soaP z.recs).1, .bo (soaP z.recs).2])) := mkF_eq (s := (z)) (fun s s' h => by simp only [List.cons.injEq, D.it.injEq, D.st.injEq, D.bo.injEq, true_and, and_true, adr_iff, dat_iff, rec_iff, zone_iff, delta_iff, hist_iff, recs_iff, deltas_iff, strs_iff, ints_iff] at h; simp only [h]) hp
set_option maxHeartbeats 4000000 in
theorem runSoaP (cx : Cx) (hP : cx.P = Try.prog) (hbs : cx.bs = 0) (hk2 : cx.kp 2 = some [2, 7, 8, 9]) (z : Zone) (hl : z.recs.length ≤ 1000000) : pureRun cx Try.f18 [] false [zoneE z] = some (Res.flat (.tup [recE (soaP z.recs).1, .bo (soaP z.recs).2])) := by
  have hw : ∀ k : Nat, (k : Int) < z.recs.length → IntKind.i64.wrap ((k : Int) + 1) = ((k + 1 : Nat) : Int) := wrapS (by omega)
  refine pure_flat (rs := [.cell 2 41, .tmp 3]) rfl hbs rfl ?_
  repeat' first
    | (refine evX_loop_rows (σ := Nat) (fun s => [.ptr 0 0, recsE z.recs, .it .i64 z.recs.length, .it .i64 s]) (fun s => [.box (recL rec0)]) (fun s => s ≤ z.recs.length ∧ (z.recs.take s).any soaD = false) (fun s => z.recs.length - s) [2, 7, 8, 9] hbs (by exact hk2) (fun q jq b hb => by simp only [List.mem_singleton] at hb; subst hb; exact rec_flat _) (fun s js => ?_) (s := 0) [1] ?_ ?_ ?_ ?_ ?_)
    | (refine br_mk (fun h => ?_) (fun h => ?_) <;> (try simp only [Bool.not_eq_true, Bool.not_eq_false, Classical.not_not] at h))
    | (refine ms_mk ?_ ?_)
    | simp only [↓cD, cU, cB, intOp, unD, minD_two, builtinD, idx, reduceCtorEq, ↓reduceIte, ofV, ofC, argEnv, Nat.reduceEqDiff, not_false_eq_true, flatL, cG, Bool.and_self,
      decide_true, decide_false, not_true_eq_false, false_and, false_implies, Option.map_some, Option.bind_some, Option.bind_none, Option.map_none, List.getElem?_toArray, List.toList_toArray, decide_eq_true_eq, decide_eq_false_iff_not, ge_iff_le, gt_iff_lt, and_true, true_and, implies_true, forall_const, true_or, or_true,
      immL, immD, Bool.true_and, Bool.and_true, Bool.false_and, Bool.and_false, Bool.true_or, Bool.or_true, Bool.false_or, Bool.or_false, Res.flat, ren, renL, List.length_nil, Nat.add_zero, List.map_cons, List.map_nil, List.nil_append, List.append_nil, List.cons_append, List.getElem?_cons_zero, List.getElem?_cons_succ, Bool.not_eq_true', Bool.not_true, Bool.not_false, Bool.not_eq_true, Bool.not_eq_false', Bool.not_eq_false, Bool.true_eq_false, Bool.false_eq_true, if_true, if_false, Int.reduceEq, Int.reduceLT, Int.reduceLE, Int.reduceNe, ite_self, or_false, false_or, or_self, eq_self, List.zip_cons_cons, List.zip_nil_left, deref, ldD, List.head?_cons, convD, shiftOp, strOp, bitsOp, cC, ↓neq37, ↓eql37, ↓neq39, ↓eql39, ↓neq41, ↓eql41, cV, cT, cF, cW, borT, borM, bor_agg, Res.via, List.size_toArray, List.isEmpty_cons, put_ap, putAll_one, elems_own, refsB, List.isEmpty_nil, Nat.reduceLT, Nat.reduceSub, Nat.reduceLeDiff, Nat.reduceMul, Nat.reduceAdd, Int.toNat_natCast, Int.reduceToNat, appK, nilRow, callX_bor, borL, bor_row, bor_one, take_map_len, List.drop_zero, map_snoc, map_app, fillE, cO, List.length_cons, List.length_replicate, List.length_append, List.length_map, List.replicate, List.set_cons_zero, List.set_cons_succ, List.take_zero, List.take_succ_cons, List.drop_succ_cons, Nat.zero_lt_succ, Option.isSome_some, partD, ofHp, ixOf, hw, hP, *]
  all_goals first
    | rfl
    | omega
    | exact ⟨Nat.zero_le _, rfl⟩
    | (have e : soaP z.recs = (z.recs[s]!, true) := (by rw [soaP, find_yes js.2 (by omega) (decide_eq_true ‹_›)]); rw [e])
    | (have e : soaP z.recs = (rec0, false) := (by have h := js.2; rw [take_end (by omega)] at h; rw [soaP, find_none h]); rw [e]; rfl)
    | (refine ⟨[0], s + 1, ?_, ?_, ?_, ?_, ⟨by omega, by rw [any_step (by omega), js.2, Bool.false_or]; exact decide_eq_false ‹_›⟩, by omega⟩ <;> (first | rfl | (simp only [refsL, refs, refs_gvec, refs_ivec, ren, ren_gvec, List.nil_append, List.append_nil, List.cons_append, List.map_cons, List.map_nil, upd_atB, upd_offB, Nat.reduceEqDiff, not_false_eq_true, ofHp, ixOf, if_true, Bool.and_self, Bool.true_and]; first | rfl | done) | (simp only [refsL, refs, refs_gvec, refs_ivec, ren, ren_gvec, List.nil_append, List.append_nil, List.cons_append, List.map_cons, List.map_nil, upd_atB, upd_offB, Nat.reduceEqDiff, not_false_eq_true, ofHp, ixOf, if_true, Bool.and_self, Bool.true_and]; simp; done)))
    | (first | rfl | (simp only [refsL, refs, refs_gvec, refs_ivec, ren, ren_gvec, List.nil_append, List.append_nil, List.cons_append, List.map_cons, List.map_nil, upd_atB, upd_offB, Nat.reduceEqDiff, not_false_eq_true, ofHp, ixOf, if_true, Bool.and_self, Bool.true_and]; first | rfl | done) | (simp only [refsL, refs, refs_gvec, refs_ivec, ren, ren_gvec, List.nil_append, List.append_nil, List.cons_append, List.map_cons, List.map_nil, upd_atB, upd_offB, Nat.reduceEqDiff, not_false_eq_true, ofHp, ixOf, if_true, Bool.and_self, Bool.true_and]; simp; done))
def fullP (z : Zone) : List Rec := if (soaP z.recs).2 = true then firstX z.recs ++ [(soaP z.recs).1] else firstX z.recs
theorem firstX_len (l : List Rec) : (firstX l).length ≤ 2 * l.length := fst_len l 2 0

noncomputable def FFullP := mkF (fun s : Zone => [zoneE s]) (fun s => s.recs.length ≤ 1000000) (fun s => Res.flat (recsE (fullP s)))
theorem FFullP_eq {z : Zone} (hp : z.recs.length ≤ 1000000) : FFullP [zoneE z] = some (Res.flat (recsE (fullP z))) := mkF_eq (s := (z)) (fun s s' h => by simp only [List.cons.injEq, D.it.injEq, D.st.injEq, D.bo.injEq, true_and, and_true, adr_iff, dat_iff, rec_iff, zone_iff, delta_iff, hist_iff, recs_iff, deltas_iff, strs_iff, ints_iff] at h; simp only [h]) hp
set_option maxHeartbeats 4000000 in
theorem runFullP (cx : Cx) (hP : cx.P = Try.prog) (hbs : cx.bs = 0) (h17 : cx.orc 17 = some FFst) (h18 : cx.orc 18 = some FSoaP) (z : Zone) (hl : z.recs.length ≤ 1000000) : pureRun cx Try.f7 [] false [zoneE z] = some (Res.flat (recsE (fullP z))) := by
  have c17 := fun H nid l => (show callD cx 17 l H nid = _ from call_orc h17)
  have c18 := fun H nid l => (show callD cx 18 l H nid = _ from call_orc h18)
  refine pure_vec (rs := [.tmp 2]) rfl hbs rfl ?_
  repeat' first
    | (refine br_mk (fun h => ?_) (fun h => ?_) <;> (try simp only [Bool.not_eq_true, Bool.not_eq_false, Classical.not_not] at h))
    | (refine ms_mk ?_ ?_)
    | simp only [↓cD, cU, cB, intOp, unD, minD_two, builtinD, idx, reduceCtorEq, ↓reduceIte, ofV, ofC, argEnv, Nat.reduceEqDiff, not_false_eq_true, flatL, cG, Bool.and_self,
      decide_true, decide_false, not_true_eq_false, false_and, false_implies, Option.map_some, Option.bind_some, Option.bind_none, Option.map_none, List.getElem?_toArray, List.toList_toArray, decide_eq_true_eq, decide_eq_false_iff_not, ge_iff_le, gt_iff_lt, and_true, true_and, implies_true, forall_const, true_or, or_true,
      immL, immD, Bool.true_and, Bool.and_true, Bool.false_and, Bool.and_false, Bool.true_or, Bool.or_true, Bool.false_or, Bool.or_false, Res.flat, ren, renL, List.length_nil, Nat.add_zero, List.map_cons, List.map_nil, List.nil_append, List.append_nil, List.cons_append, List.getElem?_cons_zero, List.getElem?_cons_succ, Bool.not_eq_true', Bool.not_true, Bool.not_false, Bool.not_eq_true, Bool.not_eq_false', Bool.not_eq_false, Bool.true_eq_false, Bool.false_eq_true, if_true, if_false, Int.reduceEq, Int.reduceLT, Int.reduceLE, Int.reduceNe, ite_self, or_false, false_or, or_self, eq_self, List.zip_cons_cons, List.zip_nil_left, deref, ldD, List.head?_cons, convD, shiftOp, strOp, bitsOp, cC, c17, c18, callX_imm, callX_nil, FFst_eq, FSoaP_eq, ↓neq37, ↓eql37, ↓neq39, ↓eql39, ↓neq41, ↓eql41, cV, cT, cF, cW, borT, borM, bor_agg, Res.via, List.size_toArray, List.isEmpty_cons, put_ap, putAll_one, elems_own, refsB, List.isEmpty_nil, Nat.reduceLT, Nat.reduceSub, Nat.reduceLeDiff, Nat.reduceMul, Nat.reduceAdd, Int.toNat_natCast, Int.reduceToNat, appK, nilRow, callX_bor, borL, bor_row, bor_one, take_map_len, List.drop_zero, map_snoc, map_app, fillE, cO, List.length_cons, List.length_replicate, List.length_append, List.length_map, List.replicate, List.set_cons_zero, List.set_cons_succ, List.take_zero, List.take_succ_cons, List.drop_succ_cons, Nat.zero_lt_succ, Option.isSome_some, partD, ofHp, ixOf, Res.row, Res.rowd, hP, *]
  all_goals (have h1 := firstX_len z.recs)
  all_goals first
    | rfl
    | omega
    | (have e : fullP z = firstX z.recs ++ [(soaP z.recs).1] := (by rw [fullP, if_pos ‹_›]); rw [e]; exact ⟨_, _, _, _, rfl, rfl, by simp, map_dry (fun _ => rfl), rfl⟩)
    | (have e : fullP z = firstX z.recs := (by rw [fullP, if_neg (by simp only [*, Bool.false_eq_true, not_false_eq_true])]); rw [e]; exact ⟨_, _, _, _, rfl, rfl, by simp, map_dry (fun _ => rfl), rfl⟩)
    | (constructor <;> omega)
def movX (d : Delta) : List Rec := firstX d.rem ++ firstX d.add
def sinceX (g : Hist) (n : Int) : List Rec := if (soaP g.zone.recs).2 = false then [] else if sAfter (serialP g.zone) n = false then [(soaP g.zone.recs).1] else
  if ¬ (sinceP g n).2 = 0 then fullP g.zone else if 0 ≤ findI (froX (serialP g.zone)) (sinceP g n).1 then fullP g.zone else [(soaP g.zone.recs).1] ++ (sinceP g n).1.flatMap movX ++ [(soaP g.zone.recs).1]
theorem sinceP_sub (g : Hist) (n : Int) : ∀ d ∈ (sinceP g n).1, d ∈ g.deltas := by
  intro d hd
  unfold sinceP at hd
  split at hd
  · cases hd
  · exact List.mem_of_mem_drop hd
theorem sinceP_len (g : Hist) (n : Int) : (sinceP g n).1.length ≤ g.deltas.length := by
  unfold sinceP
  split
  · exact Nat.zero_le _
  · show (List.drop _ _).length ≤ _
    rw [List.length_drop]; omega
theorem movX_len (d : Delta) : (movX d).length ≤ 2 * d.rem.length + 2 * d.add.length := by
  have h1 := firstX_len d.rem; have h2 := firstX_len d.add
  simp only [movX, List.length_append]; omega
theorem movXs_len : ∀ (l : List Delta) (k : Nat), (∀ d ∈ l, d.rem.length ≤ k ∧ d.add.length ≤ k) → (l.flatMap movX).length ≤ l.length * (4 * k)
  | [], k, h => by simp
  | d :: r, k, h => by
    have h1 := movXs_len r k (fun x hx => h x (by simp [hx]))
    have h2 := movX_len d
    have h3 := h d (by simp)
    rw [List.flatMap_cons, List.length_append, List.length_cons, Nat.add_mul]; omega
theorem movX_step {l : List Delta} {i : Nat} (h : (i : Int) < l.length) : (l.take (i + 1)).flatMap movX = (l.take i).flatMap movX ++ movX l[i]! := by rw [takeN h, List.flatMap_append]; simp

theorem zero3 : zeroT Try.prog 3 = some (.it .i64 0) := by kernel_rfl
noncomputable def FSinceX := mkF (fun s : Hist × Int => [histE s.1, .it .i64 s.2]) (fun s => HPre s.1) (fun s => Res.via (recsE (sinceX s.1 s.2)))
theorem FSinceX_eq {g : Hist} {n1 : Int} (hp : HPre g) : FSinceX [histE g, .it .i64 n1] = some (Res.via (recsE (sinceX g n1))) := mkF_eq (s := (g, n1)) (fun s s' h => by simp only [List.cons.injEq, D.it.injEq, D.st.injEq, D.bo.injEq, true_and, and_true, adr_iff, dat_iff, rec_iff, zone_iff, delta_iff, hist_iff, recs_iff, deltas_iff, strs_iff, ints_iff] at h; simp only [h]) hp
set_option maxHeartbeats 4000000 in
theorem runSinceX (cx : Cx) (hP : cx.P = Try.prog) (hbs : cx.bs = 0) (h19 : cx.orc 19 = some FSerP) (h18 : cx.orc 18 = some FSoaP) (h20 : cx.orc 20 = some FSAfter) (h21 : cx.orc 21 = some FSinceH) (h22 : cx.orc 22 = some FCont) (h7 : cx.orc 7 = some FFullP) (h17 : cx.orc 17 = some FFst) (hk12 : cx.kp 12 = some [6, 10, 48, 49, 50]) (g : Hist) (n1 : Int) (hl : HPre g) : pureRun cx Try.f11 [] true [histE g, .it .i64 n1] = some (Res.via (recsE (sinceX g n1))) := by
  have c19 := fun H nid l => (show callD cx 19 l H nid = _ from call_orc h19)
  have c18 := fun H nid l => (show callD cx 18 l H nid = _ from call_orc h18)
  have c20 := fun H nid l => (show callD cx 20 l H nid = _ from call_orc h20)
  have c21 := fun H nid l => (show callD cx 21 l H nid = _ from call_orc h21)
  have c22 := fun H nid l => (show callD cx 22 l H nid = _ from call_orc h22)
  have c7 := fun H nid l => (show callD cx 7 l H nid = _ from call_orc h7)
  have c17 := fun H nid l => (show callD cx 17 l H nid = _ from call_orc h17)
  have hl1 := hl.1; have hl2 : g.zone.recs.length ≤ 1000000 := hl.1.1.2.1; have hl3 : (sinceP g n1).1.length ≤ 1000000 := Nat.le_trans (sinceP_len g n1) hl.1.2.1
  have hw : ∀ k : Nat, (k : Int) < (sinceP g n1).1.length → IntKind.i64.wrap ((k : Int) + 1) = ((k + 1 : Nat) : Int) := wrapS (by omega)
  have hd : ∀ k : Nat, (k : Int) < (sinceP g n1).1.length → ((sinceP g n1).1[k]!).rem.length ≤ 60 ∧ ((sinceP g n1).1[k]!).add.length ≤ 60 := fun k hk => hl.2.2.2 _ (sinceP_sub g n1 _ (mem_at hk))
  have hd1 : ∀ k : Nat, (k : Int) < (sinceP g n1).1.length → ((sinceP g n1).1[k]!).rem.length ≤ 1000000 := fun k hk => by have := (hd k hk).1; omega
  have hd2 : ∀ k : Nat, (k : Int) < (sinceP g n1).1.length → ((sinceP g n1).1[k]!).add.length ≤ 1000000 := fun k hk => by have := (hd k hk).2; omega
  have hb1 : ∀ s : Nat, (((sinceP g n1).1.take s).flatMap movX).length ≤ 1200 := fun s => by have h1 := movXs_len ((sinceP g n1).1.take s) 60 (fun d hd => hl.2.2.2 _ (sinceP_sub g n1 _ (List.mem_of_mem_take hd))); have h2 := sinceP_len g n1; have h3 := hl.2.2.1; have h4 : ((sinceP g n1).1.take s).length ≤ 5 := (by rw [List.length_take]; omega); omega
  have hb3 : ∀ k : Nat, (k : Int) < (sinceP g n1).1.length → (firstX ((sinceP g n1).1[k]!).rem).length ≤ 120 ∧ (firstX ((sinceP g n1).1[k]!).add).length ≤ 120 := fun k hk => ⟨by have h1 := firstX_len ((sinceP g n1).1[k]!).rem; have h2 := (hd k hk).1; omega, by have h1 := firstX_len ((sinceP g n1).1[k]!).add; have h2 := (hd k hk).2; omega⟩
  refine pure_al (rs := [.tmp 4]) rfl hbs rfl ?_
  repeat' first
    | (refine evX_loop_rows (σ := Nat) (fun s => [.ptr 0 0, .own 1 0 ([(soaP g.zone.recs).1] ++ ((sinceP g n1).1.take s).flatMap movX).length, deltasE (sinceP g n1).1, .it .i64 (sinceP g n1).1.length, .it .i64 s]) (fun s => [.box (recL (soaP g.zone.recs).1), .row 16 true (([(soaP g.zone.recs).1] ++ ((sinceP g n1).1.take s).flatMap movX).map recE)]) (fun s => s ≤ (sinceP g n1).1.length) (fun s => (sinceP g n1).1.length - s) [6, 10, 48, 49, 50] hbs (by exact hk12) (fun q jq b hb => by simp only [List.mem_cons, List.not_mem_nil, or_false] at hb; rcases hb with rfl | rfl; exact rec_flat _; exact map_refs (fun _ => rfl)) (fun s js => ?_) (s := 0) [3, 4] ?_ ?_ ?_ ?_ ?_)
    | (refine br_mk (fun h => ?_) (fun h => ?_) <;> (try simp only [Bool.not_eq_true, Bool.not_eq_false, Classical.not_not] at h))
    | (refine ms_mk ?_ ?_)
    | simp only [↓cD, cU, cB, intOp, unD, minD_two, builtinD, idx, reduceCtorEq, ↓reduceIte, ofV, ofC, argEnv, Nat.reduceEqDiff, not_false_eq_true, flatL, cG, Bool.and_self,
      decide_true, decide_false, not_true_eq_false, false_and, false_implies, Option.map_some, Option.bind_some, Option.bind_none, Option.map_none, List.getElem?_toArray, List.toList_toArray, decide_eq_true_eq, decide_eq_false_iff_not, ge_iff_le, gt_iff_lt, and_true, true_and, implies_true, forall_const, true_or, or_true,
      immL, immD, Bool.true_and, Bool.and_true, Bool.false_and, Bool.and_false, Bool.true_or, Bool.or_true, Bool.false_or, Bool.or_false, Res.flat, ren, renL, List.length_nil, Nat.add_zero, List.map_cons, List.map_nil, List.nil_append, List.append_nil, List.cons_append, List.getElem?_cons_zero, List.getElem?_cons_succ, Bool.not_eq_true', Bool.not_true, Bool.not_false, Bool.not_eq_true, Bool.not_eq_false', Bool.not_eq_false, Bool.true_eq_false, Bool.false_eq_true, if_true, if_false, Int.reduceEq, Int.reduceLT, Int.reduceLE, Int.reduceNe, ite_self, or_false, false_or, or_self, eq_self, List.zip_cons_cons, List.zip_nil_left, deref, ldD, List.head?_cons, convD, shiftOp, strOp, bitsOp, cC, c19, c18, c20, c21, c22, c7, c17, callX_imm, callX_nil, FSerP_eq, FSoaP_eq, FSAfter_eq, FSinceH_eq, FCont_eq, FFullP_eq, FFst_eq, ↓neq37, ↓eql37, ↓neq39, ↓eql39, ↓neq41, ↓eql41, cV, cT, cF, cW, borT, borM, bor_agg, Res.via, List.size_toArray, List.isEmpty_cons, put_ap, putAll_one, elems_own, refsB, List.isEmpty_nil, Nat.reduceLT, Nat.reduceSub, Nat.reduceLeDiff, Nat.reduceMul, Nat.reduceAdd, Int.toNat_natCast, Int.reduceToNat, appK, nilRow, callX_bor, borL, bor_row, bor_one, take_map_len, List.drop_zero, map_snoc, map_app, fillE, cO, List.length_cons, List.length_replicate, List.length_append, List.length_map, List.replicate, List.set_cons_zero, List.set_cons_succ, List.take_zero, List.take_succ_cons, List.drop_succ_cons, Nat.zero_lt_succ, Option.isSome_some, partD, ofHp, ixOf, hl1, hl2, hl3, hw, hd1, hd2, zero3, bor_fn, bor_ptr, bor_it, bor_bo, bor_st, bor_vecE, bor_elt, borM_imm, ofV_nil, Res.row, Res.rowd, hP, *]
  all_goals first
    | rfl
    | omega
    | exact Nat.zero_le _
    | (have e : sinceX g n1 = [] := (by rw [sinceX, if_pos ‹_›]); rw [e]; exact ⟨_, rfl, rfl⟩)
    | (have q1 := hb1 s; have q3 := hb3 s (by omega); constructor <;> omega)
    | (have q1 := hb1 s; constructor <;> omega)
    | (have ha : ¬ (soaP g.zone.recs).2 = false := (by simp only [*, Bool.true_eq_false, not_false_eq_true])
       first
       | (have e : sinceX g n1 = [(soaP g.zone.recs).1] := (by rw [sinceX, if_neg ha, if_pos ‹_›]); rw [e]; exact ⟨_, rfl, rfl⟩)
       | (have hb : ¬ sAfter (serialP g.zone) n1 = false := (by simp only [*, Bool.true_eq_false, not_false_eq_true])
          first
          | (have e : sinceX g n1 = fullP g.zone := (by rw [sinceX, if_neg ha, if_neg hb, if_pos ‹_›]); rw [e]; exact ⟨_, rfl, rfl⟩)
          | (have hc : ¬ ¬ (sinceP g n1).2 = 0 := (by simp only [*, not_true_eq_false, not_false_eq_true])
             first
             | (have e : sinceX g n1 = fullP g.zone := (by rw [sinceX, if_neg ha, if_neg hb, if_neg hc, if_pos ‹_›]); rw [e]; exact ⟨_, rfl, rfl⟩)
             | (have e : ((sinceP g n1).1.take (s + 1)).flatMap movX = ((sinceP g n1).1.take s).flatMap movX ++ firstX ((sinceP g n1).1[s]!).rem ++ firstX ((sinceP g n1).1[s]!).add := (by rw [movX_step (by omega)]; simp only [movX, List.append_assoc])
                have e2 : (((sinceP g n1).1.take (s + 1)).flatMap movX).length + 1 = (((sinceP g n1).1.take s).flatMap movX).length + 1 + (firstX ((sinceP g n1).1[s]!).rem).length + (firstX ((sinceP g n1).1[s]!).add).length := (by rw [e]; simp only [List.length_append]; omega)
                refine ⟨[0, 6], s + 1, ?_, ?_, ?_, ?_, by omega, by omega⟩ <;> (try rw [e2]) <;> (try rw [e]) <;> (first | rfl | (simp only [refsL, refs, refs_gvec, refs_ivec, ren, ren_gvec, List.nil_append, List.append_nil, List.cons_append, List.map_cons, List.map_nil, upd_atB, upd_offB, Nat.reduceEqDiff, not_false_eq_true, ofHp, ixOf, if_true, Bool.and_self, Bool.true_and]; first | rfl | done) | (simp only [refsL, refs, refs_gvec, refs_ivec, ren, ren_gvec, List.nil_append, List.append_nil, List.cons_append, List.map_cons, List.map_nil, upd_atB, upd_offB, Nat.reduceEqDiff, not_false_eq_true, ofHp, ixOf, if_true, Bool.and_self, Bool.true_and]; simp; done)))
             | (have e : sinceX g n1 = [(soaP g.zone.recs).1] ++ (sinceP g n1).1.flatMap movX ++ [(soaP g.zone.recs).1] := (by rw [sinceX, if_neg ha, if_neg hb, if_neg hc, if_neg ‹_›]); refine ⟨_, rfl, ?_⟩; rw [List.take_of_length_le (by simp), take_end (by omega), e]; rfl))))
    | (first | rfl | (simp only [refsL, refs, refs_gvec, refs_ivec, ren, ren_gvec, List.nil_append, List.append_nil, List.cons_append, List.map_cons, List.map_nil, upd_atB, upd_offB, Nat.reduceEqDiff, not_false_eq_true, ofHp, ixOf, if_true, Bool.and_self, Bool.true_and]; first | rfl | done) | (simp only [refsL, refs, refs_gvec, refs_ivec, ren, ren_gvec, List.nil_append, List.append_nil, List.cons_append, List.map_cons, List.map_nil, upd_atB, upd_offB, Nat.reduceEqDiff, not_false_eq_true, ofHp, ixOf, if_true, Bool.and_self, Bool.true_and]; simp; done))
end Go.Mir
