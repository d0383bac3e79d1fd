/- What functions of the program answer, read off. -/
import Derived.Test.YtfnjjmdgjdpieaaWalk13
import Derived.KernelRfl
set_option linter.unusedSimpArgs false
set_option linter.unusedVariables false
namespace Go.Mir
open Go Go.RowKit Go.Proofs
attribute [local congr] Ev.congr EvC.congr EvW.congr Br.congr Ms.congr
set_option maxRecDepth 100000
def DltSm (d : Delta) : Prop := Sm d.origin ∧ LSm d.rem ∧ LSm d.add
def chkD (d : Delta) : Int := if vName d.origin = false then 2 else if 2048 < (d.rem.length : Int) ∨ 2048 < (d.add.length : Int) then 9 else
  if inR d.fro = false ∨ inR d.til = false ∨ sAfter d.til d.fro = false then 14 else if insideB d.rem d.origin = false ∨ insideB d.add d.origin = false then 5 else
  if srt d.rem = false ∨ srt d.add = false ∨ ¬ ((without d.rem d.add).length : Int) = d.rem.length then 7 else if startB d.rem d.origin d.fro = false ∨ startB d.add d.origin d.til = false then 7 else 0
def zone0 : Zone := ⟨[], []⟩
def oldAny (l added : List Rec) : Bool := l.any fun x => added.any (alike x)
def repD (z : Zone) (o : List UInt8) (n : Int) (rem add : List Rec) : Zone × Int :=
  if ¬ chkZ z = 0 ∨ (z.origin == o) = false ∨ ¬ serialZ z = n ∨ 0 < ((without rem z.recs).length : Int) then (zone0, 15) else if oldAny (without z.recs rem) add = true then (zone0, 15) else
  if ¬ chkZ ⟨o, both (without z.recs rem) add⟩ = 0 then (zone0, 13) else (⟨o, both (without z.recs rem) add⟩, 0)
def undoD (z : Zone) (d : Delta) : Zone × Int := if ¬ chkD d = 0 then (zone0, chkD d) else repD z d.origin d.til d.add d.rem
theorem chkD_len {d : Delta} (h : chkD d = 0) : ¬ 2048 < (d.rem.length : Int) ∧ ¬ 2048 < (d.add.length : Int) := by
  unfold chkD at h
  split at h
  · omega
  · split at h
    · omega
    · rename_i h2; exact ⟨fun e => h2 (.inl e), fun e => h2 (.inr e)⟩
theorem chkZ_len {z : Zone} (h : chkZ z = 0) : ¬ 2048 < (z.recs.length : Int) := by
  unfold chkZ at h
  intro hl
  rw [if_pos hl] at h
  split at h <;> omega
theorem zone0_sm : ZSm zone0 := ⟨by simp [zone0, Sm], by simp [zone0], fun r hr => by simp [zone0] at hr⟩
theorem LSm.wo {a : List Rec} (h : LSm a) (b : List Rec) : LSm (without a b) := h.filter _
theorem LSm.both {a b : List Rec} (ha : LSm a) (hb : LSm b) (hn : a.length + b.length ≤ 1000000) : LSm (both a b) := (ha.app hb hn).ord
theorem repD_sm {z : Zone} {o : List UInt8} {n : Int} {rem add : List Rec} (hz : ZSm z) (ho : Sm o) (ha : LSm add) (hl : add.length ≤ 2048) : ZSm (repD z o n rem add).1 := by
  unfold repD
  split
  · exact zone0_sm
  rename_i h
  split
  · exact zone0_sm
  split
  · exact zone0_sm
  have hc : chkZ z = 0 := Classical.not_not.1 (fun e => h (.inl e))
  have h2 := chkZ_len hc
  have h3 := without_len z.recs rem
  exact ⟨ho, (hz.2.wo rem).both ha (by omega)⟩

noncomputable def FChkD := mkF (fun s : Delta => [deltaE s]) (fun s => DltSm s) (fun s => Res.flat (.it .i64 (chkD s)))
theorem FChkD_eq {d : Delta} (hp : DltSm d) : FChkD [deltaE d] = some (Res.flat (.it .i64 (chkD d))) := mkF_eq (s := (d)) (fun s s' h => by simp only [List.cons.injEq, D.it.injEq, D.st.injEq, D.bo.injEq, true_and, and_true, adr_iff, dat_iff, rec_iff, zone_iff, delta_iff, hist_iff, recs_iff, deltas_iff, strs_iff, ints_iff] at h; simp only [h]) hp
set_option maxHeartbeats 4000000 in
theorem runChkD (cx : Cx) (hP : cx.P = Try.prog) (hbs : cx.bs = 0) (h38 : cx.orc 38 = some FValid) (h47 : cx.orc 47 = some FSValid) (h29 : cx.orc 29 = some FSAfter) (h48 : cx.orc 48 = some FIns) (h49 : cx.orc 49 = some FSrt) (h50 : cx.orc 50 = some FWo) (h51 : cx.orc 51 = some FSta) (r38 : cx.rd.contains 38 = true) (r47 : cx.rd.contains 47 = true) (r29 : cx.rd.contains 29 = true) (r48 : cx.rd.contains 48 = true) (r49 : cx.rd.contains 49 = true) (r50 : cx.rd.contains 50 = true) (r51 : cx.rd.contains 51 = true) (d : Delta) (hl : DltSm d) : pureRun cx Try.f25 [] false [deltaE d] = some (Res.flat (.it .i64 (chkD d))) := by
  have c38 := fun H nid l => (show callD cx 38 l H nid = _ from call_orc h38)
  have d38 := fun nx bef i env H dst ty pos after gd args ts => step_orc (cx := cx) (nx := nx) (bef := bef) (i := i) (env := env) (H := H) (dst := dst) (ty := ty) (pos := pos) (after := after) (gd := gd) (args := args) (ts := ts) r38 h38
  have c47 := fun H nid l => (show callD cx 47 l H nid = _ from call_orc h47)
  have d47 := fun nx bef i env H dst ty pos after gd args ts => step_orc (cx := cx) (nx := nx) (bef := bef) (i := i) (env := env) (H := H) (dst := dst) (ty := ty) (pos := pos) (after := after) (gd := gd) (args := args) (ts := ts) r47 h47
  have c29 := fun H nid l => (show callD cx 29 l H nid = _ from call_orc h29)
  have d29 := fun nx bef i env H dst ty pos after gd args ts => step_orc (cx := cx) (nx := nx) (bef := bef) (i := i) (env := env) (H := H) (dst := dst) (ty := ty) (pos := pos) (after := after) (gd := gd) (args := args) (ts := ts) r29 h29
  have c48 := fun H nid l => (show callD cx 48 l H nid = _ from call_orc h48)
  have d48 := fun nx bef i env H dst ty pos after gd args ts => step_orc (cx := cx) (nx := nx) (bef := bef) (i := i) (env := env) (H := H) (dst := dst) (ty := ty) (pos := pos) (after := after) (gd := gd) (args := args) (ts := ts) r48 h48
  have c49 := fun H nid l => (show callD cx 49 l H nid = _ from call_orc h49)
  have d49 := fun nx bef i env H dst ty pos after gd args ts => step_orc (cx := cx) (nx := nx) (bef := bef) (i := i) (env := env) (H := H) (dst := dst) (ty := ty) (pos := pos) (after := after) (gd := gd) (args := args) (ts := ts) r49 h49
  have c50 := fun H nid l => (show callD cx 50 l H nid = _ from call_orc h50)
  have d50 := fun nx bef i env H dst ty pos after gd args ts => step_orc (cx := cx) (nx := nx) (bef := bef) (i := i) (env := env) (H := H) (dst := dst) (ty := ty) (pos := pos) (after := after) (gd := gd) (args := args) (ts := ts) r50 h50
  have c51 := fun H nid l => (show callD cx 51 l H nid = _ from call_orc h51)
  have d51 := fun nx bef i env H dst ty pos after gd args ts => step_orc (cx := cx) (nx := nx) (bef := bef) (i := i) (env := env) (H := H) (dst := dst) (ty := ty) (pos := pos) (after := after) (gd := gd) (args := args) (ts := ts) r51 h51
  have hl1 := hl.1; have hl2 := hl.2.1; have hl3 := hl.2.2; have hl4 := hl.2.1.1; have hl5 := hl.2.2.1; have hl6 : True := trivial
  refine pure_flat (rs := [.tmp 2]) rfl hbs rfl ?_
  repeat' first
    | (refine br_mk (fun h => ?_) (fun h => ?_) <;> (try simp only [Bool.not_eq_true, Bool.not_eq_false, Classical.not_not] at h))
    | (refine ms_mk ?_ ?_)
    | simp only [↓cD, cU, cB, intOp, unD, minD_two, builtinD, idx, reduceCtorEq, ↓reduceIte, ofV, ofC, argEnv, Nat.reduceEqDiff, not_false_eq_true, flatL, cG, Bool.and_self,
      decide_true, decide_false, not_true_eq_false, false_and, false_implies, Option.map_some, Option.bind_some, Option.bind_none, Option.map_none, List.getElem?_toArray, List.toList_toArray, decide_eq_true_eq, decide_eq_false_iff_not, ge_iff_le, gt_iff_lt, and_true, true_and, implies_true, forall_const, true_or, or_true,
      immL, immD, Bool.true_and, Bool.and_true, Bool.false_and, Bool.and_false, Bool.true_or, Bool.or_true, Bool.false_or, Bool.or_false, Res.flat, ren, renL, List.length_nil, Nat.add_zero, List.map_cons, List.map_nil, List.nil_append, List.append_nil, List.cons_append, List.getElem?_cons_zero, List.getElem?_cons_succ, Bool.not_eq_true', Bool.not_true, Bool.not_false, Bool.not_eq_true, Bool.not_eq_false', Bool.not_eq_false, Bool.true_eq_false, Bool.false_eq_true, if_true, if_false, Int.reduceEq, Int.reduceLT, Int.reduceLE, Int.reduceNe, ite_self, or_false, false_or, or_self, eq_self, List.zip_cons_cons, List.zip_nil_left, deref, ldD, List.head?_cons, convD, shiftOp, strOp, bitsOp, cC, cS, refs, okRoots, okId, List.all_nil, List.all_cons, List.length_cons, Nat.zero_add, Nat.reduceMul, Nat.reduceAdd, Nat.reduceLeDiff, refsL, List.flatMap_cons, List.flatMap_nil, c38, c47, c29, c48, c49, c50, c51, d38, d47, d29, d48, d49, d50, d51, callX_imm, callX_nil, FValid_eq, FSValid_eq, FSAfter_eq, FIns_eq, FSrt_eq, FWo_eq, FSta_eq, ↓neq37, ↓eql37, ↓neq39, ↓eql39, ↓neq41, ↓eql41, cV, cT, cF, cW, borT, borM, bor_agg, Res.via, List.size_toArray, List.isEmpty_cons, put_ap, putAll_one, elems_own, refsB, List.isEmpty_nil, Nat.reduceLT, Nat.reduceSub, Nat.reduceLeDiff, Nat.reduceMul, Nat.reduceAdd, Int.toNat_natCast, Int.reduceToNat, appK, nilRow, callX_bor, borL, bor_row, bor_one, take_map_len, List.drop_zero, map_snoc, map_app, fillE, cO, List.length_cons, List.length_replicate, List.length_append, List.length_map, List.replicate, List.set_cons_zero, List.set_cons_succ, List.take_zero, List.take_succ_cons, List.drop_succ_cons, Nat.zero_lt_succ, Option.isSome_some, partD, ofHp, ixOf, cS, refs, okRoots, okId, List.all_nil, List.all_cons, List.length_cons, Nat.zero_add, Nat.reduceMul, Nat.reduceAdd, Nat.reduceLeDiff, refsL, List.flatMap_cons, List.flatMap_nil, hl1, hl2, hl3, hl4, hl5, hl6, hP, *]
  all_goals first
    | rfl
    | (simp only [chkD, *, Bool.true_eq_false, Bool.false_eq_true, not_true_eq_false, not_false_eq_true, or_true, true_or, or_self, or_false, false_or, if_true, if_false]; done)
noncomputable def FRep := mkF (fun s : Zone × (List UInt8) × Int × (List Rec) × (List Rec) => [zoneE s.1, .st s.2.1, .it .i64 s.2.2.1, recsE s.2.2.2.1, recsE s.2.2.2.2]) (fun s => ZSm s.1 ∧ Sm s.2.1 ∧ LSm s.2.2.2.1 ∧ LSm s.2.2.2.2 ∧ s.2.2.2.1.length ≤ 2048 ∧ s.2.2.2.2.length ≤ 2048) (fun s => Res.via (.tup [zoneE (repD s.1 s.2.1 s.2.2.1 s.2.2.2.1 s.2.2.2.2).1, .it .i64 (repD s.1 s.2.1 s.2.2.1 s.2.2.2.1 s.2.2.2.2).2]))
theorem FRep_eq {z : Zone} {s1 : List UInt8} {n1 : Int} {a : List Rec} {b : List Rec} (hp : ZSm z ∧ Sm s1 ∧ LSm a ∧ LSm b ∧ a.length ≤ 2048 ∧ b.length ≤ 2048) : FRep [zoneE z, .st s1, .it .i64 n1, recsE a, recsE b] = some (Res.via (.tup [zoneE (repD z s1 n1 a b).1, .it .i64 (repD z s1 n1 a b).2])) := mkF_eq (s := (z, s1, n1, a, b)) (fun s s' h => by simp only [List.cons.injEq, D.it.injEq, D.st.injEq, D.bo.injEq, true_and, and_true, adr_iff, dat_iff, rec_iff, zone_iff, delta_iff, hist_iff, recs_iff, deltas_iff, strs_iff, ints_iff] at h; simp only [h]) hp
set_option maxHeartbeats 4000000 in
theorem runRep (cx : Cx) (hP : cx.P = Try.prog) (hbs : cx.bs = 0) (h24 : cx.orc 24 = some FChkZ) (h26 : cx.orc 26 = some FSerZ) (h50 : cx.orc 50 = some FWo) (h67 : cx.orc 67 = some FAlike) (h69 : cx.orc 69 = some FBoth) (r24 : cx.rd.contains 24 = true) (r26 : cx.rd.contains 26 = true) (r50 : cx.rd.contains 50 = true) (r67 : cx.rd.contains 67 = true) (r69 : cx.rd.contains 69 = true) (hk5 : cx.kp 5 = some [1, 4, 10, 12, 13]) (hk8 : cx.kp 8 = some [1, 4, 10, 12, 13, 14]) (z : Zone) (s1 : List UInt8) (n1 : Int) (a b : List Rec) (hl : ZSm z ∧ Sm s1 ∧ LSm a ∧ LSm b ∧ a.length ≤ 2048 ∧ b.length ≤ 2048) : pureRun cx Try.f52 [] true [zoneE z, .st s1, .it .i64 n1, recsE a, recsE b] = some (Res.via (.tup [zoneE (repD z s1 n1 a b).1, .it .i64 (repD z s1 n1 a b).2])) := by
  have c24 := fun H nid l => (show callD cx 24 l H nid = _ from call_orc h24)
  have d24 := fun nx bef i env H dst ty pos after gd args ts => step_orc (cx := cx) (nx := nx) (bef := bef) (i := i) (env := env) (H := H) (dst := dst) (ty := ty) (pos := pos) (after := after) (gd := gd) (args := args) (ts := ts) r24 h24
  have c26 := fun H nid l => (show callD cx 26 l H nid = _ from call_orc h26)
  have d26 := fun nx bef i env H dst ty pos after gd args ts => step_orc (cx := cx) (nx := nx) (bef := bef) (i := i) (env := env) (H := H) (dst := dst) (ty := ty) (pos := pos) (after := after) (gd := gd) (args := args) (ts := ts) r26 h26
  have c50 := fun H nid l => (show callD cx 50 l H nid = _ from call_orc h50)
  have d50 := fun nx bef i env H dst ty pos after gd args ts => step_orc (cx := cx) (nx := nx) (bef := bef) (i := i) (env := env) (H := H) (dst := dst) (ty := ty) (pos := pos) (after := after) (gd := gd) (args := args) (ts := ts) r50 h50
  have c67 := fun H nid l => (show callD cx 67 l H nid = _ from call_orc h67)
  have d67 := fun nx bef i env H dst ty pos after gd args ts => step_orc (cx := cx) (nx := nx) (bef := bef) (i := i) (env := env) (H := H) (dst := dst) (ty := ty) (pos := pos) (after := after) (gd := gd) (args := args) (ts := ts) r67 h67
  have c69 := fun H nid l => (show callD cx 69 l H nid = _ from call_orc h69)
  have d69 := fun nx bef i env H dst ty pos after gd args ts => step_orc (cx := cx) (nx := nx) (bef := bef) (i := i) (env := env) (H := H) (dst := dst) (ty := ty) (pos := pos) (after := after) (gd := gd) (args := args) (ts := ts) r69 h69
  have hl1 := hl.1; have hl2 := hl.2.1; have hl3 := hl.2.2.1; have hl4 := hl.2.2.2.1; have hl5 := hl.2.2.1.1; have hl6 := hl.1.2.1
  have hl7 : chkZ z = 0 → (LSm (without z.recs a) ∧ LSm b ∧ (without z.recs a).length + b.length ≤ 1000000) := fun h => ⟨hl.1.2.wo a, hl4, by have := chkZ_len h; have := without_len z.recs a; have := hl.2.2.2.2.2; omega⟩
  have hl8 : chkZ z = 0 → ZSm ⟨s1, both (without z.recs a) b⟩ := fun h => ⟨hl2, (hl7 h).1.both (hl7 h).2.1 (hl7 h).2.2⟩
  have hw1 : ∀ k : Nat, (k : Int) < (without z.recs a).length → IntKind.i64.wrap ((k : Int) + 1) = ((k + 1 : Nat) : Int) := wrapS (hl.1.2.wo a).sm
  have hw2 : ∀ k : Nat, (k : Int) < b.length → IntKind.i64.wrap ((k : Int) + 1) = ((k + 1 : Nat) : Int) := wrapS hl.2.2.2.1.sm
  refine pure_al (rs := [.cell 10 27, .tmp 11]) rfl hbs rfl ?_
  repeat' first
    | (refine evX_loop_rows (σ := Nat) (fun i => [.st s1, recsE b, .ptr 0 0, recsE (without z.recs a), .it .i64 i]) (fun i => [.box (zoneL zone0)]) (fun i => i ≤ (without z.recs a).length ∧ ((without z.recs a).take i).any (fun x => b.any (alike x)) = false) (fun i => (without z.recs a).length - i) [1, 4, 10, 12, 13] hbs (by exact hk5) (fun q jq b hb => by simp only [List.mem_singleton] at hb; subst hb; exact zone_flat zone0) (fun i ji => ?_) (s := 0) [1] ?_ ?_ ?_ ?_ ?_)
    | (refine evX_loop_rows (σ := Nat) (fun s => [.st s1, recsE b, .ptr 0 0, recsE (without z.recs a), .it .i64 i, .it .i64 s]) (fun s => [.box (zoneL zone0)]) (fun s => s ≤ b.length ∧ (b.take s).any (alike (without z.recs a)[i]!) = false) (fun s => b.length - s) [1, 4, 10, 12, 13, 14] hbs (by exact hk8) (fun q jq b hb => by simp only [List.mem_singleton] at hb; subst hb; exact zone_flat zone0) (fun s js => ?_) (s := 0) [0] ?_ ?_ ?_ ?_ ?_)
    | (refine br_mk (fun h => ?_) (fun h => ?_) <;> (try simp only [Bool.not_eq_true, Bool.not_eq_false, Classical.not_not] at h))
    | (refine ms_mk ?_ ?_)
    | simp only [↓cD, cU, cB, intOp, unD, minD_two, builtinD, idx, reduceCtorEq, ↓reduceIte, ofV, ofC, argEnv, Nat.reduceEqDiff, not_false_eq_true, flatL, cG, Bool.and_self,
      decide_true, decide_false, not_true_eq_false, false_and, false_implies, Option.map_some, Option.bind_some, Option.bind_none, Option.map_none, List.getElem?_toArray, List.toList_toArray, decide_eq_true_eq, decide_eq_false_iff_not, ge_iff_le, gt_iff_lt, and_true, true_and, implies_true, forall_const, true_or, or_true,
      immL, immD, Bool.true_and, Bool.and_true, Bool.false_and, Bool.and_false, Bool.true_or, Bool.or_true, Bool.false_or, Bool.or_false, Res.flat, ren, renL, List.length_nil, Nat.add_zero, List.map_cons, List.map_nil, List.nil_append, List.append_nil, List.cons_append, List.getElem?_cons_zero, List.getElem?_cons_succ, Bool.not_eq_true', Bool.not_true, Bool.not_false, Bool.not_eq_true, Bool.not_eq_false', Bool.not_eq_false, Bool.true_eq_false, Bool.false_eq_true, if_true, if_false, Int.reduceEq, Int.reduceLT, Int.reduceLE, Int.reduceNe, ite_self, or_false, false_or, or_self, eq_self, List.zip_cons_cons, List.zip_nil_left, deref, ldD, List.head?_cons, convD, shiftOp, strOp, bitsOp, cC, cS, refs, okRoots, okId, List.all_nil, List.all_cons, List.length_cons, Nat.zero_add, Nat.reduceMul, Nat.reduceAdd, Nat.reduceLeDiff, refsL, List.flatMap_cons, List.flatMap_nil, c24, c26, c50, c67, c69, d24, d26, d50, d67, d69, callX_imm, callX_nil, FChkZ_eq, FSerZ_eq, FWo_eq, FAlike_eq, FBoth_eq, ↓neq37, ↓eql37, ↓neq39, ↓eql39, ↓neq41, ↓eql41, cV, cT, cF, cW, borT, borM, bor_agg, Res.via, List.size_toArray, List.isEmpty_cons, put_ap, putAll_one, elems_own, refsB, List.isEmpty_nil, Nat.reduceLT, Nat.reduceSub, Nat.reduceLeDiff, Nat.reduceMul, Nat.reduceAdd, Int.toNat_natCast, Int.reduceToNat, appK, nilRow, callX_bor, borL, bor_row, bor_one, take_map_len, List.drop_zero, map_snoc, map_app, fillE, cO, List.length_cons, List.length_replicate, List.length_append, List.length_map, List.replicate, List.set_cons_zero, List.set_cons_succ, List.take_zero, List.take_succ_cons, List.drop_succ_cons, Nat.zero_lt_succ, Option.isSome_some, partD, ofHp, ixOf, cS, refs, okRoots, okId, List.all_nil, List.all_cons, List.length_cons, Nat.zero_add, Nat.reduceMul, Nat.reduceAdd, Nat.reduceLeDiff, refsL, List.flatMap_cons, List.flatMap_nil, hw1, hw2, hl1, hl2, hl3, hl4, hl5, hl6, hP, *]
  all_goals first
    | rfl
    | exact ⟨Nat.zero_le _, rfl⟩
    | (refine ⟨[0], s + 1, rfl, rfl, rfl, rfl, ⟨by omega, by rw [any_step (by omega), js.2, Bool.false_or]; exact ‹_›⟩, by omega⟩)
    | (have hb : b.any (alike (without z.recs a)[i]!) = false := (by have e := js.2; rw [take_end (by omega)] at e; exact e); refine ⟨[0], i + 1, rfl, rfl, rfl, rfl, ⟨by omega, by rw [any_step (by omega), ji.2, Bool.false_or]; exact hb⟩, by omega⟩)
    | (have hq : oldAny (without z.recs a) b = true := (any_no (i := i) (by omega) (any_no (i := s) (by omega) ‹_›)); have e : repD z s1 n1 a b = (zone0, 15) := (by simp only [repD, *, not_true_eq_false, not_false_eq_true, Bool.true_eq_false, Bool.false_eq_true, true_or, or_true, false_or, or_false, or_self, if_true, if_false]); rw [e]; exact ⟨_, rfl, rfl⟩)
    | (have e : repD z s1 n1 a b = (zone0, 15) := (by simp only [repD, *, not_true_eq_false, not_false_eq_true, Bool.true_eq_false, Bool.false_eq_true, true_or, or_true, false_or, or_false, or_self, if_true, if_false]); rw [e]; exact ⟨_, rfl, rfl⟩)
    | (have hq : oldAny (without z.recs a) b = false := (by have e := ji.2; rw [take_end (by omega)] at e; exact e); have e : repD z s1 n1 a b = (zone0, 13) := (by simp only [repD, *, not_true_eq_false, not_false_eq_true, Bool.true_eq_false, Bool.false_eq_true, true_or, or_true, false_or, or_false, or_self, if_true, if_false]); rw [e]; exact ⟨_, rfl, rfl⟩)
    | (have hq : oldAny (without z.recs a) b = false := (by have e := ji.2; rw [take_end (by omega)] at e; exact e); have e : repD z s1 n1 a b = (⟨s1, both (without z.recs a) b⟩, 0) := (by simp only [repD, *, not_true_eq_false, not_false_eq_true, Bool.true_eq_false, Bool.false_eq_true, true_or, or_true, false_or, or_false, or_self, if_true, if_false]); rw [e]; exact ⟨_, rfl, rfl⟩)
    | (first | rfl | (simp only [refsL, refs, refs_gvec, refs_ivec, ren, ren_gvec, List.nil_append, List.append_nil, List.cons_append, List.map_cons, List.map_nil, upd_atB, upd_offB, Nat.reduceEqDiff, not_false_eq_true, ofHp, ixOf, if_true, Bool.and_self, Bool.true_and]; first | rfl | done) | (simp only [refsL, refs, refs_gvec, refs_ivec, ren, ren_gvec, List.nil_append, List.append_nil, List.cons_append, List.map_cons, List.map_nil, upd_atB, upd_offB, Nat.reduceEqDiff, not_false_eq_true, ofHp, ixOf, if_true, Bool.and_self, Bool.true_and]; simp; done))
noncomputable def FUndo := mkF (fun s : Zone × Delta => [zoneE s.1, deltaE s.2]) (fun s => ZSm s.1 ∧ DltSm s.2) (fun s => Res.via (.tup [zoneE (undoD s.1 s.2).1, .it .i64 (undoD s.1 s.2).2]))
theorem FUndo_eq {z : Zone} {d : Delta} (hp : ZSm z ∧ DltSm d) : FUndo [zoneE z, deltaE d] = some (Res.via (.tup [zoneE (undoD z d).1, .it .i64 (undoD z d).2])) := mkF_eq (s := (z, d)) (fun s s' h => by simp only [List.cons.injEq, D.it.injEq, D.st.injEq, D.bo.injEq, true_and, and_true, adr_iff, dat_iff, rec_iff, zone_iff, delta_iff, hist_iff, recs_iff, deltas_iff, strs_iff, ints_iff] at h; simp only [h]) hp
set_option maxHeartbeats 4000000 in
theorem runUndo (cx : Cx) (hP : cx.P = Try.prog) (hbs : cx.bs = 0) (h25 : cx.orc 25 = some FChkD) (h52 : cx.orc 52 = some FRep) (z : Zone) (d : Delta) (hl : ZSm z ∧ DltSm d) : pureRun cx Try.f27 [] true [zoneE z, deltaE d] = some (Res.via (.tup [zoneE (undoD z d).1, .it .i64 (undoD z d).2])) := by
  have c25 := fun H nid l => (show callD cx 25 l H nid = _ from call_orc h25)
  have c52 := fun H nid l => (show callD cx 52 l H nid = _ from call_orc h52)
  have hl1 := hl.1; have hl2 := hl.2; have hl3 := hl.2.1; have hl4 := hl.2.2.1; have hl5 := hl.2.2.2; have hl6 : chkD d = 0 → d.rem.length ≤ 2048 ∧ d.add.length ≤ 2048 := fun h => ⟨by have := (chkD_len h).1; omega, by have := (chkD_len h).2; omega⟩
  refine pure_al (rs := [.cell 4 27, .tmp 5]) rfl hbs rfl ?_
  repeat' first
    | (refine br_mk (fun h => ?_) (fun h => ?_) <;> (try simp only [Bool.not_eq_true, Bool.not_eq_false, Classical.not_not] at h))
    | (refine ms_mk ?_ ?_)
    | simp only [↓cD, cU, cB, intOp, unD, minD_two, builtinD, idx, reduceCtorEq, ↓reduceIte, ofV, ofC, argEnv, Nat.reduceEqDiff, not_false_eq_true, flatL, cG, Bool.and_self,
      decide_true, decide_false, not_true_eq_false, false_and, false_implies, Option.map_some, Option.bind_some, Option.bind_none, Option.map_none, List.getElem?_toArray, List.toList_toArray, decide_eq_true_eq, decide_eq_false_iff_not, ge_iff_le, gt_iff_lt, and_true, true_and, implies_true, forall_const, true_or, or_true,
      immL, immD, Bool.true_and, Bool.and_true, Bool.false_and, Bool.and_false, Bool.true_or, Bool.or_true, Bool.false_or, Bool.or_false, Res.flat, ren, renL, List.length_nil, Nat.add_zero, List.map_cons, List.map_nil, List.nil_append, List.append_nil, List.cons_append, List.getElem?_cons_zero, List.getElem?_cons_succ, Bool.not_eq_true', Bool.not_true, Bool.not_false, Bool.not_eq_true, Bool.not_eq_false', Bool.not_eq_false, Bool.true_eq_false, Bool.false_eq_true, if_true, if_false, Int.reduceEq, Int.reduceLT, Int.reduceLE, Int.reduceNe, ite_self, or_false, false_or, or_self, eq_self, List.zip_cons_cons, List.zip_nil_left, deref, ldD, List.head?_cons, convD, shiftOp, strOp, bitsOp, cC, c25, c52, callX_imm, callX_nil, FChkD_eq, FRep_eq, ↓neq37, ↓eql37, ↓neq39, ↓eql39, ↓neq41, ↓eql41, cV, cT, cF, cW, borT, borM, bor_agg, Res.via, List.size_toArray, List.isEmpty_cons, put_ap, putAll_one, elems_own, refsB, List.isEmpty_nil, Nat.reduceLT, Nat.reduceSub, Nat.reduceLeDiff, Nat.reduceMul, Nat.reduceAdd, Int.toNat_natCast, Int.reduceToNat, appK, nilRow, callX_bor, borL, bor_row, bor_one, take_map_len, List.drop_zero, map_snoc, map_app, fillE, cO, List.length_cons, List.length_replicate, List.length_append, List.length_map, List.replicate, List.set_cons_zero, List.set_cons_succ, List.take_zero, List.take_succ_cons, List.drop_succ_cons, Nat.zero_lt_succ, Option.isSome_some, partD, ofHp, ixOf, hl1, hl2, hl3, hl4, hl5, hP, *]
  all_goals first
    | rfl
    | (have e : undoD z d = (zone0, chkD d) := (by rw [undoD, if_pos ‹_›]); rw [e]; exact ⟨_, rfl, rfl⟩)
    | (have e : undoD z d = repD z d.origin d.til d.add d.rem := (by rw [undoD, if_neg (by simp only [*, not_true_eq_false, not_false_eq_true])]); rw [e]; exact ⟨_, rfl, rfl⟩)
end Go.Mir
