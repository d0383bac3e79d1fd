/- What functions of the program answer, read off. -/
import Derived.Test.YtfnjjmdgjdpieaaWalk6
import Derived.KernelRfl
set_option linter.unusedSimpArgs false
set_option linter.unusedVariables false
namespace Go.Mir
open Go Go.RowKit Go.Proofs
attribute [local congr] Ev.congr EvC.congr EvW.congr Br.congr Ms.congr
set_option maxRecDepth 100000
def wireA (a : Adr) : List UInt8 × Int := if vAdr a then (if a.v6 then (numB .u64 a.hi 8 ++ numB .u64 a.lo 8, 0) else (numB .u64 a.lo 4, 0)) else ([], 3)
def wireD (t : Int) (d : Dat) : List UInt8 × Int := if known t then (if validD t d then
  (if t = 1 then wireA d.adr else if t = 28 then wireA d.adr else
   if t = 6 then (wireN d.host ++ wireN d.mail ++ numB .i64 d.a 4 ++ numB .i64 d.b 4 ++ numB .i64 d.c 4 ++ numB .i64 d.d 4 ++ numB .i64 d.e 4, 0) else
   if t = 15 then (numB .i64 d.a 2 ++ wireN d.host, 0) else
   if t = 16 then (numB .i64 d.text.length 1 ++ d.text, 0) else
   if t = 33 then (numB .i64 d.a 2 ++ numB .i64 d.b 2 ++ numB .i64 d.c 2 ++ wireN d.host, 0) else
   if t = 43 ∨ t = 48 then (numB .i64 d.a 2 ++ numB .i64 d.b 1 ++ numB .i64 d.c 1 ++ d.text, 0) else
   if t = 46 then (numB .i64 d.a 2 ++ numB .i64 253 1 ++ numB .i64 d.b 1 ++ numB .i64 d.c 4 ++ numB .i64 d.d 4 ++ numB .i64 d.e 4 ++ numB .i64 d.f 2 ++ wireN d.host ++ d.text, 0) else
   if t = 47 then (wireN d.host ++ numB .i64 0 1 ++ numB .i64 (bmB d.bits).length 1 ++ bmB d.bits, 0) else (wireN d.host, 0)) else ([], 5)) else ([], 4)
def cmpD (t : Int) (a b : Dat) : Int := if (wireD t a).2 = 0 then (if (wireD t b).2 = 0 then textC (wireD t a).1 (wireD t b).1 else -1) else if (wireD t b).2 = 0 then 1 else 0

noncomputable def FWA := mkF (fun s : Adr => [adrE s]) (fun s => True) (fun s => Res.flat (.tup [.st (wireA s).1, .it .i64 (wireA s).2]))
theorem FWA_eq {a1 : Adr} : FWA [adrE a1] = some (Res.flat (.tup [.st (wireA a1).1, .it .i64 (wireA a1).2])) := mkF_eq (s := (a1)) (fun s s' h => by simp only [List.cons.injEq, D.it.injEq, D.st.injEq, D.bo.injEq, true_and, and_true, adr_iff, dat_iff, rec_iff, zone_iff, delta_iff, hist_iff, recs_iff, deltas_iff, strs_iff, ints_iff] at h; simp only [h]) trivial
set_option maxHeartbeats 4000000 in
theorem runWA (cx : Cx) (hP : cx.P = Try.prog) (hbs : cx.bs = 0) (h74 : cx.orc 74 = some FVAdr) (h89 : cx.orc 89 = some FOct) (r74 : cx.rd.contains 74 = true) (r89 : cx.rd.contains 89 = true) (a1 : Adr)  : pureRun cx Try.f85 [] false [adrE a1] = some (Res.flat (.tup [.st (wireA a1).1, .it .i64 (wireA a1).2])) := by
  have c74 := fun H nid l => (show callD cx 74 l H nid = _ from call_orc h74)
  have d74 := fun nx bef i env H dst ty pos after gd args ts => step_orc (cx := cx) (nx := nx) (bef := bef) (i := i) (env := env) (H := H) (dst := dst) (ty := ty) (pos := pos) (after := after) (gd := gd) (args := args) (ts := ts) r74 h74
  have c89 := fun H nid l => (show callD cx 89 l H nid = _ from call_orc h89)
  have d89 := fun nx bef i env H dst ty pos after gd args ts => step_orc (cx := cx) (nx := nx) (bef := bef) (i := i) (env := env) (H := H) (dst := dst) (ty := ty) (pos := pos) (after := after) (gd := gd) (args := args) (ts := ts) r89 h89
  refine pure_flat (rs := [.tmp 2, .tmp 3]) rfl hbs rfl ?_
  repeat' first
    | (refine br_mk (fun h => ?_) (fun h => ?_) <;> (try simp only [Bool.not_eq_true, Bool.not_eq_false, Classical.not_not] at h))
    | (refine ms_mk ?_ ?_)
    | simp only [↓cD, cU, cB, intOp, unD, minD_two, builtinD, idx, reduceCtorEq, ↓reduceIte, ofV, ofC, argEnv, Nat.reduceEqDiff, not_false_eq_true, flatL, cG, Bool.and_self,
      decide_true, decide_false, not_true_eq_false, false_and, false_implies, Option.map_some, Option.bind_some, Option.bind_none, Option.map_none, List.getElem?_toArray, List.toList_toArray, decide_eq_true_eq, decide_eq_false_iff_not, ge_iff_le, gt_iff_lt, and_true, true_and, implies_true, forall_const, true_or, or_true,
      immL, immD, Bool.true_and, Bool.and_true, Bool.false_and, Bool.and_false, Bool.true_or, Bool.or_true, Bool.false_or, Bool.or_false, Res.flat, ren, renL, List.length_nil, Nat.add_zero, List.map_cons, List.map_nil, List.nil_append, List.append_nil, List.cons_append, List.getElem?_cons_zero, List.getElem?_cons_succ, Bool.not_eq_true', Bool.not_true, Bool.not_false, Bool.not_eq_true, Bool.not_eq_false', Bool.not_eq_false, Bool.true_eq_false, Bool.false_eq_true, if_true, if_false, Int.reduceEq, Int.reduceLT, Int.reduceLE, Int.reduceNe, ite_self, or_false, false_or, or_self, eq_self, List.zip_cons_cons, List.zip_nil_left, deref, ldD, List.head?_cons, convD, shiftOp, strOp, bitsOp, cC, cS, refs, okRoots, okId, List.all_nil, List.all_cons, List.length_cons, Nat.zero_add, Nat.reduceMul, Nat.reduceAdd, Nat.reduceLeDiff, refsL, List.flatMap_cons, List.flatMap_nil, c74, c89, d74, d89, callX_imm, callX_nil, FVAdr_eq, FOct_eq, ↓neq37, ↓eql37, ↓neq39, ↓eql39, ↓neq41, ↓eql41, cV, cT, cF, cW, borT, borM, bor_agg, Res.via, List.size_toArray, List.isEmpty_cons, put_ap, putAll_one, elems_own, refsB, List.isEmpty_nil, Nat.reduceLT, Nat.reduceSub, Nat.reduceLeDiff, Nat.reduceMul, Nat.reduceAdd, Int.toNat_natCast, Int.reduceToNat, appK, nilRow, callX_bor, borL, bor_row, bor_one, take_map_len, List.drop_zero, map_snoc, map_app, fillE, cO, List.length_cons, List.length_replicate, List.length_append, List.length_map, List.replicate, List.set_cons_zero, List.set_cons_succ, List.take_zero, List.take_succ_cons, List.drop_succ_cons, Nat.zero_lt_succ, Option.isSome_some, partD, ofHp, ixOf, cS, refs, okRoots, okId, List.all_nil, List.all_cons, List.length_cons, Nat.zero_add, Nat.reduceMul, Nat.reduceAdd, Nat.reduceLeDiff, refsL, List.flatMap_cons, List.flatMap_nil, hP, *]
  all_goals first
    | rfl
    | (simp only [List.length_append, numB_len]; omega)
    | (simp [wireA, *]; done)
    | (subst_vars; simp [wireA, *]; done)
noncomputable def FWD := mkF (fun s : Int × Dat => [.it .i64 s.1, datE s.2]) (fun s => DSm s.2) (fun s => Res.flat (.tup [.st (wireD s.1 s.2).1, .it .i64 (wireD s.1 s.2).2]))
theorem FWD_eq {t1 : Int} {d1 : Dat} (hp : DSm d1) : FWD [.it .i64 t1, datE d1] = some (Res.flat (.tup [.st (wireD t1 d1).1, .it .i64 (wireD t1 d1).2])) := mkF_eq (s := (t1, d1)) (fun s s' h => by simp only [List.cons.injEq, D.it.injEq, D.st.injEq, D.bo.injEq, true_and, and_true, adr_iff, dat_iff, rec_iff, zone_iff, delta_iff, hist_iff, recs_iff, deltas_iff, strs_iff, ints_iff] at h; simp only [h]) hp
set_option maxHeartbeats 4000000 in
theorem runWD (cx : Cx) (hP : cx.P = Try.prog) (hbs : cx.bs = 0) (h59 : cx.orc 59 = some FKnown) (h60 : cx.orc 60 = some FVD) (h85 : cx.orc 85 = some FWA) (h86 : cx.orc 86 = some FWN) (h87 : cx.orc 87 = some FNum) (h88 : cx.orc 88 = some FBm) (r59 : cx.rd.contains 59 = true) (r60 : cx.rd.contains 60 = true) (r85 : cx.rd.contains 85 = true) (r86 : cx.rd.contains 86 = true) (r87 : cx.rd.contains 87 = true) (r88 : cx.rd.contains 88 = true) (t1 : Int) (d1 : Dat) (hl : DSm d1) : pureRun cx Try.f84 [] false [.it .i64 t1, datE d1] = some (Res.flat (.tup [.st (wireD t1 d1).1, .it .i64 (wireD t1 d1).2])) := by
  have c59 := fun H nid l => (show callD cx 59 l H nid = _ from call_orc h59)
  have d59 := fun nx bef i env H dst ty pos after gd args ts => step_orc (cx := cx) (nx := nx) (bef := bef) (i := i) (env := env) (H := H) (dst := dst) (ty := ty) (pos := pos) (after := after) (gd := gd) (args := args) (ts := ts) r59 h59
  have c60 := fun H nid l => (show callD cx 60 l H nid = _ from call_orc h60)
  have d60 := fun nx bef i env H dst ty pos after gd args ts => step_orc (cx := cx) (nx := nx) (bef := bef) (i := i) (env := env) (H := H) (dst := dst) (ty := ty) (pos := pos) (after := after) (gd := gd) (args := args) (ts := ts) r60 h60
  have c85 := fun H nid l => (show callD cx 85 l H nid = _ from call_orc h85)
  have d85 := fun nx bef i env H dst ty pos after gd args ts => step_orc (cx := cx) (nx := nx) (bef := bef) (i := i) (env := env) (H := H) (dst := dst) (ty := ty) (pos := pos) (after := after) (gd := gd) (args := args) (ts := ts) r85 h85
  have c86 := fun H nid l => (show callD cx 86 l H nid = _ from call_orc h86)
  have d86 := fun nx bef i env H dst ty pos after gd args ts => step_orc (cx := cx) (nx := nx) (bef := bef) (i := i) (env := env) (H := H) (dst := dst) (ty := ty) (pos := pos) (after := after) (gd := gd) (args := args) (ts := ts) r86 h86
  have c87 := fun H nid l => (show callD cx 87 l H nid = _ from call_orc h87)
  have d87 := fun nx bef i env H dst ty pos after gd args ts => step_orc (cx := cx) (nx := nx) (bef := bef) (i := i) (env := env) (H := H) (dst := dst) (ty := ty) (pos := pos) (after := after) (gd := gd) (args := args) (ts := ts) r87 h87
  have c88 := fun H nid l => (show callD cx 88 l H nid = _ from call_orc h88)
  have d88 := fun nx bef i env H dst ty pos after gd args ts => step_orc (cx := cx) (nx := nx) (bef := bef) (i := i) (env := env) (H := H) (dst := dst) (ty := ty) (pos := pos) (after := after) (gd := gd) (args := args) (ts := ts) r88 h88
  have hl1 := hl.1; have hl2 := hl.2.1; have hl3 := hl.2.2
  refine pure_flat (rs := [.tmp 4, .tmp 5]) rfl hbs rfl ?_
  repeat' first
    | (refine br_mk (fun h => ?_) (fun h => ?_) <;> (try simp only [Bool.not_eq_true, Bool.not_eq_false, Classical.not_not] at h))
    | (refine ms_mk ?_ ?_)
    | simp only [↓cD, cU, cB, intOp, unD, minD_two, builtinD, idx, reduceCtorEq, ↓reduceIte, ofV, ofC, argEnv, Nat.reduceEqDiff, not_false_eq_true, flatL, cG, Bool.and_self,
      decide_true, decide_false, not_true_eq_false, false_and, false_implies, Option.map_some, Option.bind_some, Option.bind_none, Option.map_none, List.getElem?_toArray, List.toList_toArray, decide_eq_true_eq, decide_eq_false_iff_not, ge_iff_le, gt_iff_lt, and_true, true_and, implies_true, forall_const, true_or, or_true,
      immL, immD, Bool.true_and, Bool.and_true, Bool.false_and, Bool.and_false, Bool.true_or, Bool.or_true, Bool.false_or, Bool.or_false, Res.flat, ren, renL, List.length_nil, Nat.add_zero, List.map_cons, List.map_nil, List.nil_append, List.append_nil, List.cons_append, List.getElem?_cons_zero, List.getElem?_cons_succ, Bool.not_eq_true', Bool.not_true, Bool.not_false, Bool.not_eq_true, Bool.not_eq_false', Bool.not_eq_false, Bool.true_eq_false, Bool.false_eq_true, if_true, if_false, Int.reduceEq, Int.reduceLT, Int.reduceLE, Int.reduceNe, ite_self, or_false, false_or, or_self, eq_self, List.zip_cons_cons, List.zip_nil_left, deref, ldD, List.head?_cons, convD, shiftOp, strOp, bitsOp, cC, cS, refs, okRoots, okId, List.all_nil, List.all_cons, List.length_cons, Nat.zero_add, Nat.reduceMul, Nat.reduceAdd, Nat.reduceLeDiff, refsL, List.flatMap_cons, List.flatMap_nil, c59, c60, c85, c86, c87, c88, d59, d60, d85, d86, d87, d88, callX_imm, callX_nil, FKnown_eq, FVD_eq, FWA_eq, FWN_eq, FNum_eq, FBm_eq, ↓neq37, ↓eql37, ↓neq39, ↓eql39, ↓neq41, ↓eql41, cV, cT, cF, cW, borT, borM, bor_agg, Res.via, List.size_toArray, List.isEmpty_cons, put_ap, putAll_one, elems_own, refsB, List.isEmpty_nil, Nat.reduceLT, Nat.reduceSub, Nat.reduceLeDiff, Nat.reduceMul, Nat.reduceAdd, Int.toNat_natCast, Int.reduceToNat, appK, nilRow, callX_bor, borL, bor_row, bor_one, take_map_len, List.drop_zero, map_snoc, map_app, fillE, cO, List.length_cons, List.length_replicate, List.length_append, List.length_map, List.replicate, List.set_cons_zero, List.set_cons_succ, List.take_zero, List.take_succ_cons, List.drop_succ_cons, Nat.zero_lt_succ, Option.isSome_some, partD, ofHp, ixOf, cS, refs, okRoots, okId, List.all_nil, List.all_cons, List.length_cons, Nat.zero_add, Nat.reduceMul, Nat.reduceAdd, Nat.reduceLeDiff, refsL, List.flatMap_cons, List.flatMap_nil, hl1, hl2, hl3, lens Try.underlying9, hP, *]
  all_goals first
    | rfl
    | (simp only [List.length_append, numB_len]; omega)
    | (have := wireN_len d1.host; have := wireN_len d1.mail; have := bmB_len d1.bits; (try simp only [List.length_append, numB_len]); omega)
    | (simp [wireD, *]; done)
    | (subst_vars; simp [wireD, *]; done)
noncomputable def FCD := mkF (fun s : Int × Dat × Dat => [.it .i64 s.1, datE s.2.1, datE s.2.2]) (fun s => DSm s.2.1 ∧ DSm s.2.2) (fun s => Res.flat (.it .i64 (cmpD s.1 s.2.1 s.2.2)))
theorem FCD_eq {t1 : Int} {d1 : Dat} {e1 : Dat} (hp : DSm d1 ∧ DSm e1) : FCD [.it .i64 t1, datE d1, datE e1] = some (Res.flat (.it .i64 (cmpD t1 d1 e1))) := mkF_eq (s := (t1, d1, e1)) (fun s s' h => by simp only [List.cons.injEq, D.it.injEq, D.st.injEq, D.bo.injEq, true_and, and_true, adr_iff, dat_iff, rec_iff, zone_iff, delta_iff, hist_iff, recs_iff, deltas_iff, strs_iff, ints_iff] at h; simp only [h]) hp
set_option maxHeartbeats 4000000 in
theorem runCD (cx : Cx) (hP : cx.P = Try.prog) (hbs : cx.bs = 0) (h84 : cx.orc 84 = some FWD) (t1 : Int) (d1 e1 : Dat) (hl : DSm d1 ∧ DSm e1) : pureRun cx Try.f81 [] false [.it .i64 t1, datE d1, datE e1] = some (Res.flat (.it .i64 (cmpD t1 d1 e1))) := by
  have c84 := fun H nid l => (show callD cx 84 l H nid = _ from call_orc h84)
  have hl1 := hl.1; have hl2 := hl.2
  refine pure_flat (rs := [.tmp 6]) rfl hbs rfl ?_
  repeat' first
    | (refine br_mk (fun h => ?_) (fun h => ?_) <;> (try simp only [Bool.not_eq_true, Bool.not_eq_false, Classical.not_not] at h))
    | (refine ms_mk ?_ ?_)
    | simp only [↓cD, cU, cB, intOp, unD, minD_two, builtinD, idx, reduceCtorEq, ↓reduceIte, ofV, ofC, argEnv, Nat.reduceEqDiff, not_false_eq_true, flatL, cG, Bool.and_self,
      decide_true, decide_false, not_true_eq_false, false_and, false_implies, Option.map_some, Option.bind_some, Option.bind_none, Option.map_none, List.getElem?_toArray, List.toList_toArray, decide_eq_true_eq, decide_eq_false_iff_not, ge_iff_le, gt_iff_lt, and_true, true_and, implies_true, forall_const, true_or, or_true,
      immL, immD, Bool.true_and, Bool.and_true, Bool.false_and, Bool.and_false, Bool.true_or, Bool.or_true, Bool.false_or, Bool.or_false, Res.flat, ren, renL, List.length_nil, Nat.add_zero, List.map_cons, List.map_nil, List.nil_append, List.append_nil, List.cons_append, List.getElem?_cons_zero, List.getElem?_cons_succ, Bool.not_eq_true', Bool.not_true, Bool.not_false, Bool.not_eq_true, Bool.not_eq_false', Bool.not_eq_false, Bool.true_eq_false, Bool.false_eq_true, if_true, if_false, Int.reduceEq, Int.reduceLT, Int.reduceLE, Int.reduceNe, ite_self, or_false, false_or, or_self, eq_self, List.zip_cons_cons, List.zip_nil_left, deref, ldD, List.head?_cons, convD, shiftOp, strOp, bitsOp, cC, c84, callX_imm, callX_nil, FWD_eq, ↓neq37, ↓eql37, ↓neq39, ↓eql39, ↓neq41, ↓eql41, cV, cT, cF, cW, borT, borM, bor_agg, Res.via, List.size_toArray, List.isEmpty_cons, put_ap, putAll_one, elems_own, refsB, List.isEmpty_nil, Nat.reduceLT, Nat.reduceSub, Nat.reduceLeDiff, Nat.reduceMul, Nat.reduceAdd, Int.toNat_natCast, Int.reduceToNat, appK, nilRow, callX_bor, borL, bor_row, bor_one, take_map_len, List.drop_zero, map_snoc, map_app, fillE, cO, List.length_cons, List.length_replicate, List.length_append, List.length_map, List.replicate, List.set_cons_zero, List.set_cons_succ, List.take_zero, List.take_succ_cons, List.drop_succ_cons, Nat.zero_lt_succ, Option.isSome_some, partD, ofHp, ixOf, hl1, hl2, hP, *]
  all_goals first
    | rfl
    | (simp [cmpD, textC, *]; done)
end Go.Mir
