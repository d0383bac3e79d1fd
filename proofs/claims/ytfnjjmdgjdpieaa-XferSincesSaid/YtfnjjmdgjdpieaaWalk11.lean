/- What functions of the program answer, read off. -/
import Derived.Test.YtfnjjmdgjdpieaaWalk10
import Derived.KernelRfl
set_option linter.unusedSimpArgs false
set_option linter.unusedVariables false
namespace Go.Mir
open Go Go.RowKit Go.Proofs
attribute [local congr] Ev.congr EvC.congr EvW.congr Br.congr Ms.congr
set_option maxRecDepth 100000
def chk1 (z : Zone) (x : Rec) : Bool := !decide (64 < ((findR z.recs x.name x.typ).length : Int))
theorem chk1_yes {z : Zone} {x : Rec} (h : ¬ 64 < ((findR z.recs x.name x.typ).length : Int)) : chk1 z x = true := by simp only [chk1, decide_eq_false h, Bool.not_false]
theorem chk1_no {z : Zone} {x : Rec} (h : 64 < ((findR z.recs x.name x.typ).length : Int)) : chk1 z x = false := by simp only [chk1, decide_eq_true h, Bool.not_true]
def chk3 (z : Zone) (x : Rec) : Bool := if underB x.name z.origin = false then false else if x.typ = 6 ∧ ¬ x.name = z.origin then false else if besideR z.recs x = false then false else placedR z x
def chkZ (z : Zone) : Int := if vName z.origin = false then 2 else if 2048 < (z.recs.length : Int) then 9 else if z.recs.all (chk1 z) = false then 9 else if z.recs.all validR = false then 5 else
  if eqL z.recs (sortR z.recs) = false then 7 else if ¬ ((findR z.recs z.origin 6).length : Int) = 1 then 13 else if hasR z.recs z.origin 2 = false then 13 else if z.recs.all (chk3 z) = false then 13 else 0

theorem chkZ_0 {z : Zone} (h1 : vName z.origin = false) : chkZ z = 2 := by simp [chkZ, h1]
theorem chkZ_1 {z : Zone} (h1 : vName z.origin = true) (h2 : 2048 < (z.recs.length : Int)) : chkZ z = 9 := by simp [chkZ, h1, h2]
theorem chkZ_2 {z : Zone} (h1 : vName z.origin = true) (h2 : ¬ 2048 < (z.recs.length : Int)) (h3 : z.recs.all (chk1 z) = false) : chkZ z = 9 := by simp [chkZ, h1, h2, h3]
theorem chkZ_3 {z : Zone} (h1 : vName z.origin = true) (h2 : ¬ 2048 < (z.recs.length : Int)) (h3 : z.recs.all (chk1 z) = true) (h4 : z.recs.all validR = false) : chkZ z = 5 := by simp [chkZ, h1, h2, h3, h4]
theorem chkZ_4 {z : Zone} (h1 : vName z.origin = true) (h2 : ¬ 2048 < (z.recs.length : Int)) (h3 : z.recs.all (chk1 z) = true) (h4 : z.recs.all validR = true) (h5 : eqL z.recs (sortR z.recs) = false) : chkZ z = 7 := by simp [chkZ, h1, h2, h3, h4, h5]
theorem chkZ_5 {z : Zone} (h1 : vName z.origin = true) (h2 : ¬ 2048 < (z.recs.length : Int)) (h3 : z.recs.all (chk1 z) = true) (h4 : z.recs.all validR = true) (h5 : eqL z.recs (sortR z.recs) = true) (h6 : ¬ ((findR z.recs z.origin 6).length : Int) = 1) : chkZ z = 13 := by simp [chkZ, h1, h2, h3, h4, h5, h6]
theorem chkZ_6 {z : Zone} (h1 : vName z.origin = true) (h2 : ¬ 2048 < (z.recs.length : Int)) (h3 : z.recs.all (chk1 z) = true) (h4 : z.recs.all validR = true) (h5 : eqL z.recs (sortR z.recs) = true) (h6 : ((findR z.recs z.origin 6).length : Int) = 1) (h7 : hasR z.recs z.origin 2 = false) : chkZ z = 13 := by simp [chkZ, h1, h2, h3, h4, h5, h6, h7]
theorem chkZ_7 {z : Zone} (h1 : vName z.origin = true) (h2 : ¬ 2048 < (z.recs.length : Int)) (h3 : z.recs.all (chk1 z) = true) (h4 : z.recs.all validR = true) (h5 : eqL z.recs (sortR z.recs) = true) (h6 : ((findR z.recs z.origin 6).length : Int) = 1) (h7 : hasR z.recs z.origin 2 = true) (h8 : z.recs.all (chk3 z) = false) : chkZ z = 13 := by simp [chkZ, h1, h2, h3, h4, h5, h6, h7, h8]
theorem chkZ_8 {z : Zone} (h1 : vName z.origin = true) (h2 : ¬ 2048 < (z.recs.length : Int)) (h3 : z.recs.all (chk1 z) = true) (h4 : z.recs.all validR = true) (h5 : eqL z.recs (sortR z.recs) = true) (h6 : ((findR z.recs z.origin 6).length : Int) = 1) (h7 : hasR z.recs z.origin 2 = true) (h8 : z.recs.all (chk3 z) = true) : chkZ z = 0 := by simp [chkZ, h1, h2, h3, h4, h5, h6, h7, h8]
noncomputable def FChkZ := mkF (fun s : Zone => [zoneE s]) (fun s => ZSm s) (fun s => Res.flat (.it .i64 (chkZ s)))
theorem FChkZ_eq {z : Zone} (hp : ZSm z) : FChkZ [zoneE z] = some (Res.flat (.it .i64 (chkZ z))) := mkF_eq (s := (z)) (fun s s' h => by simp only [List.cons.injEq, D.it.injEq, D.st.injEq, D.bo.injEq, true_and, and_true, adr_iff, dat_iff, rec_iff, zone_iff, delta_iff, hist_iff, recs_iff, deltas_iff, strs_iff, ints_iff] at h; simp only [h]) hp
set_option maxHeartbeats 4000000 in
theorem runChkZ (cx : Cx) (hP : cx.P = Try.prog) (hbs : cx.bs = 0) (h38 : cx.orc 38 = some FValid) (h39 : cx.orc 39 = some FFind) (h40 : cx.orc 40 = some FVR) (h42 : cx.orc 42 = some FSort) (h41 : cx.orc 41 = some FEq) (h43 : cx.orc 43 = some FHas) (h44 : cx.orc 44 = some FUnder) (h45 : cx.orc 45 = some FBes) (h46 : cx.orc 46 = some FPl) (r38 : cx.rd.contains 38 = true) (r39 : cx.rd.contains 39 = true) (r40 : cx.rd.contains 40 = true) (r42 : cx.rd.contains 42 = true) (r41 : cx.rd.contains 41 = true) (r43 : cx.rd.contains 43 = true) (r44 : cx.rd.contains 44 = true) (r45 : cx.rd.contains 45 = true) (r46 : cx.rd.contains 46 = true) (hk6 : cx.kp 6 = some [1, 3]) (hk11 : cx.kp 11 = some [1, 4]) (hk20 : cx.kp 20 = some [1, 5]) (z : Zone) (hl : ZSm z) : pureRun cx Try.f24 [] false [zoneE z] = some (Res.flat (.it .i64 (chkZ z))) := by
  have c38 := fun H nid l => (show callD cx 38 l H nid = _ from call_orc h38)
  have d38 := fun nx bef i env H dst ty pos after gd args ts => step_orc (cx := cx) (nx := nx) (bef := bef) (i := i) (env := env) (H := H) (dst := dst) (ty := ty) (pos := pos) (after := after) (gd := gd) (args := args) (ts := ts) r38 h38
  have c39 := fun H nid l => (show callD cx 39 l H nid = _ from call_orc h39)
  have d39 := fun nx bef i env H dst ty pos after gd args ts => step_orc (cx := cx) (nx := nx) (bef := bef) (i := i) (env := env) (H := H) (dst := dst) (ty := ty) (pos := pos) (after := after) (gd := gd) (args := args) (ts := ts) r39 h39
  have c40 := fun H nid l => (show callD cx 40 l H nid = _ from call_orc h40)
  have d40 := fun nx bef i env H dst ty pos after gd args ts => step_orc (cx := cx) (nx := nx) (bef := bef) (i := i) (env := env) (H := H) (dst := dst) (ty := ty) (pos := pos) (after := after) (gd := gd) (args := args) (ts := ts) r40 h40
  have c42 := fun H nid l => (show callD cx 42 l H nid = _ from call_orc h42)
  have d42 := fun nx bef i env H dst ty pos after gd args ts => step_orc (cx := cx) (nx := nx) (bef := bef) (i := i) (env := env) (H := H) (dst := dst) (ty := ty) (pos := pos) (after := after) (gd := gd) (args := args) (ts := ts) r42 h42
  have c41 := fun H nid l => (show callD cx 41 l H nid = _ from call_orc h41)
  have d41 := fun nx bef i env H dst ty pos after gd args ts => step_orc (cx := cx) (nx := nx) (bef := bef) (i := i) (env := env) (H := H) (dst := dst) (ty := ty) (pos := pos) (after := after) (gd := gd) (args := args) (ts := ts) r41 h41
  have c43 := fun H nid l => (show callD cx 43 l H nid = _ from call_orc h43)
  have d43 := fun nx bef i env H dst ty pos after gd args ts => step_orc (cx := cx) (nx := nx) (bef := bef) (i := i) (env := env) (H := H) (dst := dst) (ty := ty) (pos := pos) (after := after) (gd := gd) (args := args) (ts := ts) r43 h43
  have c44 := fun H nid l => (show callD cx 44 l H nid = _ from call_orc h44)
  have d44 := fun nx bef i env H dst ty pos after gd args ts => step_orc (cx := cx) (nx := nx) (bef := bef) (i := i) (env := env) (H := H) (dst := dst) (ty := ty) (pos := pos) (after := after) (gd := gd) (args := args) (ts := ts) r44 h44
  have c45 := fun H nid l => (show callD cx 45 l H nid = _ from call_orc h45)
  have d45 := fun nx bef i env H dst ty pos after gd args ts => step_orc (cx := cx) (nx := nx) (bef := bef) (i := i) (env := env) (H := H) (dst := dst) (ty := ty) (pos := pos) (after := after) (gd := gd) (args := args) (ts := ts) r45 h45
  have c46 := fun H nid l => (show callD cx 46 l H nid = _ from call_orc h46)
  have d46 := fun nx bef i env H dst ty pos after gd args ts => step_orc (cx := cx) (nx := nx) (bef := bef) (i := i) (env := env) (H := H) (dst := dst) (ty := ty) (pos := pos) (after := after) (gd := gd) (args := args) (ts := ts) r46 h46
  have hs2 := hl.2.1; have hs3 := hl.1; have hs4 := hl.2; have hs6 := hl.2.sort.1
  have hw : ∀ k : Nat, (k : Int) < z.recs.length → IntKind.i64.wrap ((k : Int) + 1) = ((k + 1 : Nat) : Int) := wrapS hl.2.sm
  have hs1 : ∀ k : Nat, (k : Int) < z.recs.length → Sm (z.recs[k]!).name := fun k h => (hl.2.at h).1
  have hs5 : ∀ k : Nat, (k : Int) < z.recs.length → RSm z.recs[k]! := fun k h => hl.2.at h
  refine pure_flat (rs := [.tmp 2]) rfl hbs rfl ?_
  repeat' first
    | (refine evX_loop_rows (σ := Nat) (fun i => [.ptr 0 0, .it .i64 i]) (fun i => [.box (zoneL z)]) (fun i => i ≤ z.recs.length ∧ (z.recs.take i).all (chk1 z) = true) (fun i => z.recs.length - i) [1, 3] hbs (by exact hk6) (fun q jq b hb => by simp only [List.mem_singleton] at hb; subst hb; exact zone_flat z) (fun s6 j6 => ?_) (s := 0) [0] ?_ ?_ ?_ ?_ ?_)
    | (refine evX_loop_rows (σ := Nat) (fun i => [.ptr 0 0, .it .i64 i]) (fun i => [.box (zoneL z)]) (fun i => i ≤ z.recs.length ∧ (z.recs.take i).all (validR) = true) (fun i => z.recs.length - i) [1, 4] hbs (by exact hk11) (fun q jq b hb => by simp only [List.mem_singleton] at hb; subst hb; exact zone_flat z) (fun s11 j11 => ?_) (s := 0) [0] ?_ ?_ ?_ ?_ ?_)
    | (refine evX_loop_rows (σ := Nat) (fun i => [.ptr 0 0, .it .i64 i]) (fun i => [.box (zoneL z)]) (fun i => i ≤ z.recs.length ∧ (z.recs.take i).all (chk3 z) = true) (fun i => z.recs.length - i) [1, 5] hbs (by exact hk20) (fun q jq b hb => by simp only [List.mem_singleton] at hb; subst hb; exact zone_flat z) (fun s20 j20 => ?_) (s := 0) [0] ?_ ?_ ?_ ?_ ?_)
    | (refine br_mk (fun h => ?_) (fun h => ?_) <;> (try simp only [Bool.not_eq_true, Bool.not_eq_false, Classical.not_not] at h))
    | (refine ms_mk ?_ ?_)
    | simp (config := { decide := true }) only [↓cD, cU, cB, intOp, unD, minD_two, builtinD, idx, reduceCtorEq, ↓reduceIte, ofV, ofC, argEnv, Nat.reduceEqDiff, not_false_eq_true, flatL, cG, Bool.and_self,
      decide_true, decide_false, not_true_eq_false, false_and, false_implies, Option.map_some, Option.bind_some, Option.bind_none, Option.map_none, List.getElem?_toArray, List.toList_toArray, decide_eq_true_eq, decide_eq_false_iff_not, ge_iff_le, gt_iff_lt, and_true, true_and, implies_true, forall_const, true_or, or_true,
      immL, immD, Bool.true_and, Bool.and_true, Bool.false_and, Bool.and_false, Bool.true_or, Bool.or_true, Bool.false_or, Bool.or_false, Res.flat, ren, renL, List.length_nil, Nat.add_zero, List.map_cons, List.map_nil, List.nil_append, List.append_nil, List.cons_append, List.getElem?_cons_zero, List.getElem?_cons_succ, Bool.not_eq_true', Bool.not_true, Bool.not_false, Bool.not_eq_true, Bool.not_eq_false', Bool.not_eq_false, Bool.true_eq_false, Bool.false_eq_true, if_true, if_false, Int.reduceEq, Int.reduceLT, Int.reduceLE, Int.reduceNe, ite_self, or_false, false_or, or_self, eq_self, List.zip_cons_cons, List.zip_nil_left, deref, ldD, List.head?_cons, convD, shiftOp, strOp, bitsOp, cC, cS, refs, okRoots, okId, List.all_nil, List.all_cons, List.length_cons, Nat.zero_add, Nat.reduceMul, Nat.reduceAdd, Nat.reduceLeDiff, refsL, List.flatMap_cons, List.flatMap_nil, c38, c39, c40, c42, c41, c43, c44, c45, c46, d38, d39, d40, d42, d41, d43, d44, d45, d46, callX_imm, callX_nil, FValid_eq, FFind_eq, FVR_eq, FSort_eq, FEq_eq, FHas_eq, FUnder_eq, FBes_eq, FPl_eq, ↓neq37, ↓eql37, ↓neq39, ↓eql39, ↓neq41, ↓eql41, cV, cT, cF, cW, borT, borM, bor_agg, Res.via, List.size_toArray, List.isEmpty_cons, put_ap, putAll_one, elems_own, refsB, List.isEmpty_nil, Nat.reduceLT, Nat.reduceSub, Nat.reduceLeDiff, Nat.reduceMul, Nat.reduceAdd, Int.toNat_natCast, Int.reduceToNat, appK, nilRow, callX_bor, borL, bor_row, bor_one, take_map_len, List.drop_zero, map_snoc, map_app, fillE, cO, List.length_cons, List.length_replicate, List.length_append, List.length_map, List.replicate, List.set_cons_zero, List.set_cons_succ, List.take_zero, List.take_succ_cons, List.drop_succ_cons, Nat.zero_lt_succ, Option.isSome_some, partD, ofHp, ixOf, cS, refs, okRoots, okId, List.all_nil, List.all_cons, List.length_cons, Nat.zero_add, Nat.reduceMul, Nat.reduceAdd, Nat.reduceLeDiff, refsL, List.flatMap_cons, List.flatMap_nil, hw, hs1, hs2, hs3, hs4, hs5, hs6, hl, Res.row, Res.rowd, hP, *]
  all_goals first
    | rfl
    | omega
    | exact ⟨Nat.zero_le _, rfl⟩
    | (refine ⟨[0], s20 + 1, rfl, rfl, rfl, rfl, ⟨by omega, by rw [all_step (by omega), j20.2, Bool.true_and]; simp only [chk3]; repeat' split; all_goals (first | rfl | (simp only [*]; done) | (simp_all; done))⟩, by omega⟩)
    | (refine ⟨[0], s11 + 1, rfl, rfl, rfl, rfl, ⟨by omega, by rw [all_step (by omega), j11.2, Bool.true_and]; simp only [*]⟩, by omega⟩)
    | (refine ⟨[0], s6 + 1, rfl, rfl, rfl, rfl, ⟨by omega, by rw [all_step (by omega), j6.2, Bool.true_and]; exact chk1_yes (by omega)⟩, by omega⟩)
    | (have f6 : z.recs.all (chk1 z) = true := (by have e := j6.2; rw [take_end (by omega)] at e; exact e); have f11 : z.recs.all (validR) = true := (by have e := j11.2; rw [take_end (by omega)] at e; exact e); have f20 : z.recs.all (chk3 z) = true := (by have e := j20.2; rw [take_end (by omega)] at e; exact e); (simp only [chkZ, *, Bool.true_eq_false, Bool.false_eq_true, not_true_eq_false, not_false_eq_true, if_true, if_false]; done))
    | (have f6 : z.recs.all (chk1 z) = true := (by have e := j6.2; rw [take_end (by omega)] at e; exact e); have f11 : z.recs.all (validR) = true := (by have e := j11.2; rw [take_end (by omega)] at e; exact e); have f20 : z.recs.all (chk3 z) = false := all_no (i := s20) (by omega) (by simp only [chk3]; repeat' split; all_goals (first | rfl | (simp only [*]; done) | (simp_all; done))); (simp only [chkZ, *, Bool.true_eq_false, Bool.false_eq_true, not_true_eq_false, not_false_eq_true, if_true, if_false]; done))
    | (have f6 : z.recs.all (chk1 z) = true := (by have e := j6.2; rw [take_end (by omega)] at e; exact e); have f11 : z.recs.all (validR) = true := (by have e := j11.2; rw [take_end (by omega)] at e; exact e); (simp only [chkZ, *, Bool.true_eq_false, Bool.false_eq_true, not_true_eq_false, not_false_eq_true, if_true, if_false]; done))
    | (have f6 : z.recs.all (chk1 z) = true := (by have e := j6.2; rw [take_end (by omega)] at e; exact e); have f11 : z.recs.all (validR) = false := all_no (i := s11) (by omega) (by simp only [*]); (simp only [chkZ, *, Bool.true_eq_false, Bool.false_eq_true, not_true_eq_false, not_false_eq_true, if_true, if_false]; done))
    | (have f6 : z.recs.all (chk1 z) = false := all_no (i := s6) (by omega) (by exact chk1_no (by omega)); (simp only [chkZ, *, Bool.true_eq_false, Bool.false_eq_true, not_true_eq_false, not_false_eq_true, if_true, if_false]; done))
    | (simp only [chkZ, *, Bool.true_eq_false, Bool.false_eq_true, not_true_eq_false, not_false_eq_true, if_true, if_false]; done)
    | (first | rfl | (simp only [refsL, refs, refs_gvec, refs_ivec, ren, ren_gvec, List.nil_append, List.append_nil, List.cons_append, List.map_cons, List.map_nil, upd_atB, upd_offB, Nat.reduceEqDiff, not_false_eq_true, ofHp, ixOf, if_true, Bool.and_self, Bool.true_and]; first | rfl | done) | (simp only [refsL, refs, refs_gvec, refs_ivec, ren, ren_gvec, List.nil_append, List.append_nil, List.cons_append, List.map_cons, List.map_nil, upd_atB, upd_offB, Nat.reduceEqDiff, not_false_eq_true, ofHp, ixOf, if_true, Bool.and_self, Bool.true_and]; simp; done))
end Go.Mir
