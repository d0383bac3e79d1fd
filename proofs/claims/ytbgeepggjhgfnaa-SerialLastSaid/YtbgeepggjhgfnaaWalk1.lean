/- What functions of the program answer, read off. -/
import Derived.Test.YtbgeepggjhgfnaaMir3
import Derived.Test.YtbgeepggjhgfnaaRows
import Derived.KernelRfl
set_option linter.unusedSimpArgs false
set_option linter.unusedVariables false
namespace Go.Mir
open Go Go.RowKit Go.Proofs
attribute [local congr] Ev.congr EvC.congr EvW.congr Br.congr Ms.congr
set_option maxRecDepth 100000
def inR (x : Int) : Bool := decide (0 ≤ x ∧ x < 4294967296)
theorem inR_true {x : Int} : inR x = true ↔ 0 ≤ x ∧ x < 4294967296 := by simp [inR]
theorem inR_false {x : Int} : inR x = false ↔ ¬ (0 ≤ x ∧ x < 4294967296) := by simp [inR]

noncomputable def FValid := mkF (fun s : Int => [.it .i64 s]) (fun s => True) (fun s => Res.flat (.bo (inR s)))
theorem FValid_eq {x : Int} : FValid [.it .i64 x] = some (Res.flat (.bo (inR x))) := mkF_eq (s := (x)) (fun s s' h => by simp only [List.cons.injEq, D.it.injEq, D.st.injEq, D.bo.injEq, true_and, and_true] at h; simp only [h]) trivial
def sAdd (x y : Int) : Int × Int := if inR x = false ∨ y < 0 ∨ 2147483648 ≤ y then (0, 1) else ((x + y) % 4294967296, 0)

noncomputable def FAdd := mkF (fun s : Int × Int => [.it .i64 s.1, .it .i64 s.2]) (fun s => True) (fun s => Res.flat (.tup [.it .i64 (sAdd s.1 s.2).1, .it .i64 (sAdd s.1 s.2).2]))
theorem FAdd_eq {x : Int} {y : Int} : FAdd [.it .i64 x, .it .i64 y] = some (Res.flat (.tup [.it .i64 (sAdd x y).1, .it .i64 (sAdd x y).2])) := mkF_eq (s := (x, y)) (fun s s' h => by simp only [List.cons.injEq, D.it.injEq, D.st.injEq, D.bo.injEq, true_and, and_true] at h; simp only [h]) trivial
def sCmp (x y : Int) : Int × Bool := if inR x = false ∨ inR y = false then (0, false) else
  if (y - x) % 4294967296 = 0 then (0, true) else if (y - x) % 4294967296 < 2147483648 then (-1, true) else if 2147483648 < (y - x) % 4294967296 then (1, true) else (0, false)

noncomputable def FCmp := mkF (fun s : Int × Int => [.it .i64 s.1, .it .i64 s.2]) (fun s => True) (fun s => Res.flat (.tup [.it .i64 (sCmp s.1 s.2).1, .bo (sCmp s.1 s.2).2]))
theorem FCmp_eq {x : Int} {y : Int} : FCmp [.it .i64 x, .it .i64 y] = some (Res.flat (.tup [.it .i64 (sCmp x y).1, .bo (sCmp x y).2])) := mkF_eq (s := (x, y)) (fun s s' h => by simp only [List.cons.injEq, D.it.injEq, D.st.injEq, D.bo.injEq, true_and, and_true] at h; simp only [h]) trivial
def sAfter (x y : Int) : Bool := (sCmp x y).2 && decide ((sCmp x y).1 = 1)

noncomputable def FAfter := mkF (fun s : Int × Int => [.it .i64 s.1, .it .i64 s.2]) (fun s => True) (fun s => Res.flat (.bo (sAfter s.1 s.2)))
theorem FAfter_eq {x : Int} {y : Int} : FAfter [.it .i64 x, .it .i64 y] = some (Res.flat (.bo (sAfter x y))) := mkF_eq (s := (x, y)) (fun s s' h => by simp only [List.cons.injEq, D.it.injEq, D.st.injEq, D.bo.injEq, true_and, and_true] at h; simp only [h]) trivial
def sBeat (e : Int) : List Int → Bool
  | [] => true
  | o :: r => if (sCmp e o).2 = false ∨ (sCmp e o).1 < 0 then false else sBeat e r
def sMaxF (zs : List Int) : List Int → Int × Bool
  | [] => (0, false)
  | e :: r => if sBeat e zs then (e, true) else sMaxF zs r
def sMax (zs : List Int) : Int × Bool := sMaxF zs zs
theorem sCmp_range (x y : Int) : -1 ≤ (sCmp x y).1 ∧ (sCmp x y).1 ≤ 1 := by
  unfold sCmp; repeat' split
  all_goals simp
theorem sCmp_neg (x y : Int) : (sCmp x y).1 = -1 ↔ (sCmp x y).1 < 0 := by have := sCmp_range x y; omega

noncomputable def FMax := mkF (fun s : (Option Bool) × (List Int) => [iv s.1 s.2]) (fun s => Sm s.2) (fun s => Res.flat (.tup [.it .i64 (sMax s.2).1, .bo (sMax s.2).2]))
theorem FMax_eq {o : Option Bool} {zs : List Int} (hp : Sm zs) : FMax [iv o zs] = some (Res.flat (.tup [.it .i64 (sMax zs).1, .bo (sMax zs).2])) := mkF_eq (s := (o, zs)) (fun s s' h => by simp only [List.cons.injEq, and_true] at h; rw [iv_inj h]) hp
theorem sz3 : szT Try.prog 3 = some 1 := by kernel_rfl
theorem agg3 : aggT Try.prog 3 = some false := by kernel_rfl
set_option maxHeartbeats 4000000 in
theorem runValid (cx : Cx) (hP : cx.P = Try.prog) (hbs : cx.bs = 0) (x : Int)  : pureRun cx Try.f11 [] false [.it .i64 x] = some (Res.flat (.bo (inR x))) := by
  refine pure_flat (rs := [.tmp 2]) rfl hbs rfl ?_
  repeat' first
    | (refine br_mk (fun h => ?_) (fun h => ?_) <;> (try simp only [Bool.not_eq_true, Bool.not_eq_false, Classical.not_not] at h))
    | (refine ms_mk ?_ ?_)
    | simp only [↓cD, cU, binD, intOp, unD, minD_two, builtinD, idx, reduceCtorEq, ↓reduceIte, ofV, ofC, argEnv, Nat.reduceEqDiff, not_false_eq_true, flatL, flatD, Bool.and_self,
      decide_true, decide_false, not_true_eq_false, false_and, false_implies, Option.map_some, Option.bind_some, Option.bind_none, Option.map_none, List.getElem?_toArray, List.toList_toArray, decide_eq_true_eq, decide_eq_false_iff_not, ge_iff_le, gt_iff_lt, and_true, true_and, implies_true, forall_const, true_or, or_true,
      immL, immD, Bool.true_and, Bool.and_true, Bool.false_and, Bool.and_false, Bool.true_or, Bool.or_true, Bool.false_or, Bool.or_false, Res.flat, ren, renL, List.length_nil, Nat.add_zero, List.map_cons, List.map_nil, List.nil_append, List.append_nil, List.cons_append, List.getElem?_cons_zero, List.getElem?_cons_succ, Bool.not_eq_true', Bool.not_true, Bool.not_false, Bool.not_eq_true, Bool.not_eq_false', Bool.not_eq_false, Bool.true_eq_false, Bool.false_eq_true, if_true, if_false, Int.reduceEq, Int.reduceLT, Int.reduceLE, Int.reduceNe, ite_self, or_false, false_or, or_self, eq_self, List.zip_cons_cons, List.zip_nil_left, deref, ldD, List.head?_cons, convD, shiftOp, strOp, bitsOp, D.cells, inR, hP, *]
set_option maxHeartbeats 4000000 in
theorem runValidR (cx : Cx) (hP : cx.P = Try.prog) (hbs : cx.bs = 0) (x : Int)  : pureRun cx Try.f12 [] false [.it .i64 x] = some (Res.flat (.bo (inR x))) := by
  refine pure_flat (rs := [.tmp 2]) rfl hbs rfl ?_
  repeat' first
    | (refine br_mk (fun h => ?_) (fun h => ?_) <;> (try simp only [Bool.not_eq_true, Bool.not_eq_false, Classical.not_not] at h))
    | (refine ms_mk ?_ ?_)
    | simp only [↓cD, cU, binD, intOp, unD, minD_two, builtinD, idx, reduceCtorEq, ↓reduceIte, ofV, ofC, argEnv, Nat.reduceEqDiff, not_false_eq_true, flatL, flatD, Bool.and_self,
      decide_true, decide_false, not_true_eq_false, false_and, false_implies, Option.map_some, Option.bind_some, Option.bind_none, Option.map_none, List.getElem?_toArray, List.toList_toArray, decide_eq_true_eq, decide_eq_false_iff_not, ge_iff_le, gt_iff_lt, and_true, true_and, implies_true, forall_const, true_or, or_true,
      immL, immD, Bool.true_and, Bool.and_true, Bool.false_and, Bool.and_false, Bool.true_or, Bool.or_true, Bool.false_or, Bool.or_false, Res.flat, ren, renL, List.length_nil, Nat.add_zero, List.map_cons, List.map_nil, List.nil_append, List.append_nil, List.cons_append, List.getElem?_cons_zero, List.getElem?_cons_succ, Bool.not_eq_true', Bool.not_true, Bool.not_false, Bool.not_eq_true, Bool.not_eq_false', Bool.not_eq_false, Bool.true_eq_false, Bool.false_eq_true, if_true, if_false, Int.reduceEq, Int.reduceLT, Int.reduceLE, Int.reduceNe, ite_self, or_false, false_or, or_self, eq_self, List.zip_cons_cons, List.zip_nil_left, deref, ldD, List.head?_cons, convD, shiftOp, strOp, bitsOp, D.cells, inR, hP, *]
set_option maxHeartbeats 4000000 in
theorem runAdd (cx : Cx) (hP : cx.P = Try.prog) (hbs : cx.bs = 0) (h11 : cx.orc 11 = some FValid) (x y : Int)  : pureRun cx Try.f9 [] false [.it .i64 x, .it .i64 y] = some (Res.flat (.tup [.it .i64 (sAdd x y).1, .it .i64 (sAdd x y).2])) := by
  have c11 := fun H nid l => (show callD cx 11 l H nid = _ from call_orc h11)
  refine pure_flat (rs := [.tmp 4, .tmp 5]) rfl hbs rfl ?_
  repeat' first
    | (refine br_mk (fun h => ?_) (fun h => ?_) <;> (try simp only [Bool.not_eq_true, Bool.not_eq_false, Classical.not_not] at h))
    | (refine ms_mk ?_ ?_)
    | simp only [↓cD, cU, binD, intOp, unD, minD_two, builtinD, idx, reduceCtorEq, ↓reduceIte, ofV, ofC, argEnv, Nat.reduceEqDiff, not_false_eq_true, flatL, flatD, Bool.and_self,
      decide_true, decide_false, not_true_eq_false, false_and, false_implies, Option.map_some, Option.bind_some, Option.bind_none, Option.map_none, List.getElem?_toArray, List.toList_toArray, decide_eq_true_eq, decide_eq_false_iff_not, ge_iff_le, gt_iff_lt, and_true, true_and, implies_true, forall_const, true_or, or_true,
      immL, immD, Bool.true_and, Bool.and_true, Bool.false_and, Bool.and_false, Bool.true_or, Bool.or_true, Bool.false_or, Bool.or_false, Res.flat, ren, renL, List.length_nil, Nat.add_zero, List.map_cons, List.map_nil, List.nil_append, List.append_nil, List.cons_append, List.getElem?_cons_zero, List.getElem?_cons_succ, Bool.not_eq_true', Bool.not_true, Bool.not_false, Bool.not_eq_true, Bool.not_eq_false', Bool.not_eq_false, Bool.true_eq_false, Bool.false_eq_true, if_true, if_false, Int.reduceEq, Int.reduceLT, Int.reduceLE, Int.reduceNe, ite_self, or_false, false_or, or_self, eq_self, List.zip_cons_cons, List.zip_nil_left, deref, ldD, List.head?_cons, convD, shiftOp, strOp, bitsOp, D.cells, c11, callX_imm, callX_nil, FValid_eq, Try.underlying3, Try.underlying36, sAdd, hP, *]
  · rename_i h1 h2
    rw [inR_true] at h1
    have e : IntKind.i64.wrap (IntKind.u32.wrap (IntKind.u32.wrap x + IntKind.u32.wrap y)) = (x + y) % 4294967296 := by
      simp only [wrap32]
      rw [wrap64 (by omega) (by omega)]
      omega
    rw [e]
set_option maxHeartbeats 4000000 in
theorem runAddR (cx : Cx) (hP : cx.P = Try.prog) (hbs : cx.bs = 0) (h12 : cx.orc 12 = some FValid) (x y : Int)  : pureRun cx Try.f10 [] false [.it .i64 x, .it .i64 y] = some (Res.flat (.tup [.it .i64 (sAdd x y).1, .it .i64 (sAdd x y).2])) := by
  have c12 := fun H nid l => (show callD cx 12 l H nid = _ from call_orc h12)
  refine pure_flat (rs := [.tmp 4, .tmp 5]) rfl hbs rfl ?_
  repeat' first
    | (refine br_mk (fun h => ?_) (fun h => ?_) <;> (try simp only [Bool.not_eq_true, Bool.not_eq_false, Classical.not_not] at h))
    | (refine ms_mk ?_ ?_)
    | simp only [↓cD, cU, binD, intOp, unD, minD_two, builtinD, idx, reduceCtorEq, ↓reduceIte, ofV, ofC, argEnv, Nat.reduceEqDiff, not_false_eq_true, flatL, flatD, Bool.and_self,
      decide_true, decide_false, not_true_eq_false, false_and, false_implies, Option.map_some, Option.bind_some, Option.bind_none, Option.map_none, List.getElem?_toArray, List.toList_toArray, decide_eq_true_eq, decide_eq_false_iff_not, ge_iff_le, gt_iff_lt, and_true, true_and, implies_true, forall_const, true_or, or_true,
      immL, immD, Bool.true_and, Bool.and_true, Bool.false_and, Bool.and_false, Bool.true_or, Bool.or_true, Bool.false_or, Bool.or_false, Res.flat, ren, renL, List.length_nil, Nat.add_zero, List.map_cons, List.map_nil, List.nil_append, List.append_nil, List.cons_append, List.getElem?_cons_zero, List.getElem?_cons_succ, Bool.not_eq_true', Bool.not_true, Bool.not_false, Bool.not_eq_true, Bool.not_eq_false', Bool.not_eq_false, Bool.true_eq_false, Bool.false_eq_true, if_true, if_false, Int.reduceEq, Int.reduceLT, Int.reduceLE, Int.reduceNe, ite_self, or_false, false_or, or_self, eq_self, List.zip_cons_cons, List.zip_nil_left, deref, ldD, List.head?_cons, convD, shiftOp, strOp, bitsOp, D.cells, c12, callX_imm, callX_nil, FValid_eq, Try.underlying3, Try.underlying36, sAdd, hP, *]
  · rename_i h1 h2
    rw [inR_true] at h1
    rw [wrap64 (by omega) (by omega), Int.tmod_eq_emod_of_nonneg (by omega)]
set_option maxHeartbeats 4000000 in
theorem runCmp (cx : Cx) (hP : cx.P = Try.prog) (hbs : cx.bs = 0) (h11 : cx.orc 11 = some FValid) (x y : Int)  : pureRun cx Try.f14 [] false [.it .i64 x, .it .i64 y] = some (Res.flat (.tup [.it .i64 (sCmp x y).1, .bo (sCmp x y).2])) := by
  have c11 := fun H nid l => (show callD cx 11 l H nid = _ from call_orc h11)
  refine pure_flat (rs := [.tmp 4, .tmp 5]) rfl hbs rfl ?_
  repeat' first
    | (refine br_mk (fun h => ?_) (fun h => ?_) <;> (try simp only [Bool.not_eq_true, Bool.not_eq_false, Classical.not_not] at h))
    | (refine ms_mk ?_ ?_)
    | simp only [↓cD, cU, binD, intOp, unD, minD_two, builtinD, idx, reduceCtorEq, ↓reduceIte, ofV, ofC, argEnv, Nat.reduceEqDiff, not_false_eq_true, flatL, flatD, Bool.and_self,
      decide_true, decide_false, not_true_eq_false, false_and, false_implies, Option.map_some, Option.bind_some, Option.bind_none, Option.map_none, List.getElem?_toArray, List.toList_toArray, decide_eq_true_eq, decide_eq_false_iff_not, ge_iff_le, gt_iff_lt, and_true, true_and, implies_true, forall_const, true_or, or_true,
      immL, immD, Bool.true_and, Bool.and_true, Bool.false_and, Bool.and_false, Bool.true_or, Bool.or_true, Bool.false_or, Bool.or_false, Res.flat, ren, renL, List.length_nil, Nat.add_zero, List.map_cons, List.map_nil, List.nil_append, List.append_nil, List.cons_append, List.getElem?_cons_zero, List.getElem?_cons_succ, Bool.not_eq_true', Bool.not_true, Bool.not_false, Bool.not_eq_true, Bool.not_eq_false', Bool.not_eq_false, Bool.true_eq_false, Bool.false_eq_true, if_true, if_false, Int.reduceEq, Int.reduceLT, Int.reduceLE, Int.reduceNe, ite_self, or_false, false_or, or_self, eq_self, List.zip_cons_cons, List.zip_nil_left, deref, ldD, List.head?_cons, convD, shiftOp, strOp, bitsOp, D.cells, c11, callX_imm, callX_nil, FValid_eq, Try.underlying3, Try.underlying36, sCmp, hP, *]
  all_goals
    simp only [inR_true, inR_false] at *
    have e : IntKind.u32.wrap (IntKind.u32.wrap y - IntKind.u32.wrap x) = (y - x) % 4294967296 := by
      simp only [wrap32]; omega
    simp only [e] at *
    repeat' split
    all_goals first | rfl | omega
set_option maxHeartbeats 4000000 in
theorem runCmpR (cx : Cx) (hP : cx.P = Try.prog) (hbs : cx.bs = 0) (h12 : cx.orc 12 = some FValid) (x y : Int)  : pureRun cx Try.f15 [] false [.it .i64 x, .it .i64 y] = some (Res.flat (.tup [.it .i64 (sCmp x y).1, .bo (sCmp x y).2])) := by
  have c12 := fun H nid l => (show callD cx 12 l H nid = _ from call_orc h12)
  refine pure_flat (rs := [.tmp 4, .tmp 5]) rfl hbs rfl ?_
  repeat' first
    | (refine br_mk (fun h => ?_) (fun h => ?_) <;> (try simp only [Bool.not_eq_true, Bool.not_eq_false, Classical.not_not] at h))
    | (refine ms_mk ?_ ?_)
    | simp only [↓cD, cU, binD, intOp, unD, minD_two, builtinD, idx, reduceCtorEq, ↓reduceIte, ofV, ofC, argEnv, Nat.reduceEqDiff, not_false_eq_true, flatL, flatD, Bool.and_self,
      decide_true, decide_false, not_true_eq_false, false_and, false_implies, Option.map_some, Option.bind_some, Option.bind_none, Option.map_none, List.getElem?_toArray, List.toList_toArray, decide_eq_true_eq, decide_eq_false_iff_not, ge_iff_le, gt_iff_lt, and_true, true_and, implies_true, forall_const, true_or, or_true,
      immL, immD, Bool.true_and, Bool.and_true, Bool.false_and, Bool.and_false, Bool.true_or, Bool.or_true, Bool.false_or, Bool.or_false, Res.flat, ren, renL, List.length_nil, Nat.add_zero, List.map_cons, List.map_nil, List.nil_append, List.append_nil, List.cons_append, List.getElem?_cons_zero, List.getElem?_cons_succ, Bool.not_eq_true', Bool.not_true, Bool.not_false, Bool.not_eq_true, Bool.not_eq_false', Bool.not_eq_false, Bool.true_eq_false, Bool.false_eq_true, if_true, if_false, Int.reduceEq, Int.reduceLT, Int.reduceLE, Int.reduceNe, ite_self, or_false, false_or, or_self, eq_self, List.zip_cons_cons, List.zip_nil_left, deref, ldD, List.head?_cons, convD, shiftOp, strOp, bitsOp, D.cells, c12, callX_imm, callX_nil, FValid_eq, Try.underlying3, Try.underlying36, sCmp, hP, *]
  all_goals
    simp only [inR_true, inR_false] at *
    have e : (IntKind.i64.wrap (IntKind.i64.wrap (y - x) + 4294967296)).tmod 4294967296 = (y - x) % 4294967296 := by
      rw [wrap64 (n := y - x) (by omega) (by omega), wrap64 (by omega) (by omega), Int.tmod_eq_emod_of_nonneg (by omega)]
      omega
    simp only [e] at *
    repeat' split
    all_goals first | rfl | omega
set_option maxHeartbeats 4000000 in
theorem runAfter (cx : Cx) (hP : cx.P = Try.prog) (hbs : cx.bs = 0) (h14 : cx.orc 14 = some FCmp) (x y : Int)  : pureRun cx Try.f16 [] false [.it .i64 x, .it .i64 y] = some (Res.flat (.bo (sAfter x y))) := by
  have c14 := fun H nid l => (show callD cx 14 l H nid = _ from call_orc h14)
  refine pure_flat (rs := [.tmp 4]) rfl hbs rfl ?_
  repeat' first
    | (refine br_mk (fun h => ?_) (fun h => ?_) <;> (try simp only [Bool.not_eq_true, Bool.not_eq_false, Classical.not_not] at h))
    | (refine ms_mk ?_ ?_)
    | simp only [↓cD, cU, binD, intOp, unD, minD_two, builtinD, idx, reduceCtorEq, ↓reduceIte, ofV, ofC, argEnv, Nat.reduceEqDiff, not_false_eq_true, flatL, flatD, Bool.and_self,
      decide_true, decide_false, not_true_eq_false, false_and, false_implies, Option.map_some, Option.bind_some, Option.bind_none, Option.map_none, List.getElem?_toArray, List.toList_toArray, decide_eq_true_eq, decide_eq_false_iff_not, ge_iff_le, gt_iff_lt, and_true, true_and, implies_true, forall_const, true_or, or_true,
      immL, immD, Bool.true_and, Bool.and_true, Bool.false_and, Bool.and_false, Bool.true_or, Bool.or_true, Bool.false_or, Bool.or_false, Res.flat, ren, renL, List.length_nil, Nat.add_zero, List.map_cons, List.map_nil, List.nil_append, List.append_nil, List.cons_append, List.getElem?_cons_zero, List.getElem?_cons_succ, Bool.not_eq_true', Bool.not_true, Bool.not_false, Bool.not_eq_true, Bool.not_eq_false', Bool.not_eq_false, Bool.true_eq_false, Bool.false_eq_true, if_true, if_false, Int.reduceEq, Int.reduceLT, Int.reduceLE, Int.reduceNe, ite_self, or_false, false_or, or_self, eq_self, List.zip_cons_cons, List.zip_nil_left, deref, ldD, List.head?_cons, convD, shiftOp, strOp, bitsOp, D.cells, c14, callX_imm, callX_nil, FCmp_eq, Try.underlying3, Try.underlying36, sAfter, hP, *]
set_option maxHeartbeats 4000000 in
theorem runAfterR (cx : Cx) (hP : cx.P = Try.prog) (hbs : cx.bs = 0) (h15 : cx.orc 15 = some FCmp) (x y : Int)  : pureRun cx Try.f17 [] false [.it .i64 x, .it .i64 y] = some (Res.flat (.bo (sAfter x y))) := by
  have c15 := fun H nid l => (show callD cx 15 l H nid = _ from call_orc h15)
  refine pure_flat (rs := [.tmp 4]) rfl hbs rfl ?_
  repeat' first
    | (refine br_mk (fun h => ?_) (fun h => ?_) <;> (try simp only [Bool.not_eq_true, Bool.not_eq_false, Classical.not_not] at h))
    | (refine ms_mk ?_ ?_)
    | simp only [↓cD, cU, binD, intOp, unD, minD_two, builtinD, idx, reduceCtorEq, ↓reduceIte, ofV, ofC, argEnv, Nat.reduceEqDiff, not_false_eq_true, flatL, flatD, Bool.and_self,
      decide_true, decide_false, not_true_eq_false, false_and, false_implies, Option.map_some, Option.bind_some, Option.bind_none, Option.map_none, List.getElem?_toArray, List.toList_toArray, decide_eq_true_eq, decide_eq_false_iff_not, ge_iff_le, gt_iff_lt, and_true, true_and, implies_true, forall_const, true_or, or_true,
      immL, immD, Bool.true_and, Bool.and_true, Bool.false_and, Bool.and_false, Bool.true_or, Bool.or_true, Bool.false_or, Bool.or_false, Res.flat, ren, renL, List.length_nil, Nat.add_zero, List.map_cons, List.map_nil, List.nil_append, List.append_nil, List.cons_append, List.getElem?_cons_zero, List.getElem?_cons_succ, Bool.not_eq_true', Bool.not_true, Bool.not_false, Bool.not_eq_true, Bool.not_eq_false', Bool.not_eq_false, Bool.true_eq_false, Bool.false_eq_true, if_true, if_false, Int.reduceEq, Int.reduceLT, Int.reduceLE, Int.reduceNe, ite_self, or_false, false_or, or_self, eq_self, List.zip_cons_cons, List.zip_nil_left, deref, ldD, List.head?_cons, convD, shiftOp, strOp, bitsOp, D.cells, c15, callX_imm, callX_nil, FCmp_eq, Try.underlying3, Try.underlying36, sAfter, hP, *]
set_option maxHeartbeats 4000000 in
theorem runMax (cx : Cx) (hP : cx.P = Try.prog) (hbs : cx.bs = 0) (h14 : cx.orc 14 = some FCmp) (hk2 : cx.kp 2 = some [0, 11, 12, 13]) (hk6 : cx.kp 6 = some [0, 5, 6, 11, 12, 13, 17, 18, 19]) (o : Option Bool) (zs : List Int) (hl : Sm zs) : pureRun cx Try.f18 [] false [iv o zs] = some (Res.flat (.tup [.it .i64 (sMax zs).1, .bo (sMax zs).2])) := by
  have c14 := fun H nid l => (show callD cx 14 l H nid = _ from call_orc h14)
  have hw := wrapS hl
  refine pure_flat (rs := [.tmp 2, .tmp 3]) rfl hbs rfl ?_
  repeat' first
    | (refine evX_loop_flat (σ := Nat) (fun s2 => [iv o zs, iv o zs, .it .i64 zs.length, .it .i64 s2]) (fun s2 => s2 ≤ zs.length ∧ sMaxF zs (zs.drop s2) = sMax zs) (fun s2 => zs.length - s2) [0, 11, 12, 13] hbs (by exact hk2) (fun s2 => by simp only [refsL, refs, refs_ivec, refs_gvec, List.append_nil]) (fun s2 j2 => ?_) (s := 0) ?_ ?_)
    | (refine evX_loop_flat (σ := Nat) (fun s6 => [iv o zs, .it .i64 zs[s2]!, .bo true, iv o zs, .it .i64 zs.length, .it .i64 s2, iv o zs, .it .i64 zs.length, .it .i64 s6]) (fun s6 => s6 ≤ zs.length ∧ sBeat zs[s2]! (zs.drop s6) = sBeat zs[s2]! zs) (fun s6 => zs.length - s6) [0, 5, 6, 11, 12, 13, 17, 18, 19] hbs (by exact hk6) (fun s6 => by simp only [refsL, refs, refs_ivec, refs_gvec, List.append_nil]) (fun s6 j6 => ?_) (s := 0) ?_ ?_)
    | (refine br_mk (fun h => ?_) (fun h => ?_) <;> (try simp only [Bool.not_eq_true, Bool.not_eq_false, Classical.not_not] at h))
    | (refine ms_mk ?_ ?_)
    | simp only [↓cD, cU, binD, intOp, unD, minD_two, builtinD, idx, reduceCtorEq, ↓reduceIte, ofV, ofC, argEnv, Nat.reduceEqDiff, not_false_eq_true, flatL, flatD, Bool.and_self,
      decide_true, decide_false, not_true_eq_false, false_and, false_implies, Option.map_some, Option.bind_some, Option.bind_none, Option.map_none, List.getElem?_toArray, List.toList_toArray, decide_eq_true_eq, decide_eq_false_iff_not, ge_iff_le, gt_iff_lt, and_true, true_and, implies_true, forall_const, true_or, or_true,
      immL, immD, Bool.true_and, Bool.and_true, Bool.false_and, Bool.and_false, Bool.true_or, Bool.or_true, Bool.false_or, Bool.or_false, Res.flat, ren, renL, List.length_nil, Nat.add_zero, List.map_cons, List.map_nil, List.nil_append, List.append_nil, List.cons_append, List.getElem?_cons_zero, List.getElem?_cons_succ, Bool.not_eq_true', Bool.not_true, Bool.not_false, Bool.not_eq_true, Bool.not_eq_false', Bool.not_eq_false, Bool.true_eq_false, Bool.false_eq_true, if_true, if_false, Int.reduceEq, Int.reduceLT, Int.reduceLE, Int.reduceNe, ite_self, or_false, false_or, or_self, eq_self, List.zip_cons_cons, List.zip_nil_left, deref, ldD, List.head?_cons, convD, shiftOp, strOp, bitsOp, D.cells, c14, callX_imm, callX_nil, FCmp_eq, Try.underlying3, Try.underlying36, Try.underlying30, sz3, agg3, len_gvec Try.underlying30, ix_at Try.underlying30 sz3, hw, hP, *]
  all_goals first
    | rfl
    | exact ⟨Nat.zero_le _, rfl⟩
    | (first | refine ⟨s2 + 1, rfl, ?_⟩ | refine ⟨s6 + 1, rfl, ?_⟩) <;> (refine ⟨⟨by (try simp only); omega, ?_⟩, by (try simp only); omega⟩; have r := sCmp_range zs[s2]! zs[s6]!; (try rw [drop_at (zs := zs) (i := s6) (by omega)] at j6); (try rw [drop_end (zs := zs) (i := s6) (by omega)] at j6); (try rw [drop_at (zs := zs) (i := s2) (by omega)] at j2); clear hw; grind [sMaxF, sBeat])
    | ((try rw [drop_end (zs := zs) (i := s6) (by omega)] at j6); (try rw [drop_end (zs := zs) (i := s2) (by omega)] at j2); (try rw [drop_at (zs := zs) (i := s2) (by omega)] at j2); clear hw; grind [sMaxF, sBeat])
set_option maxHeartbeats 4000000 in
theorem runMaxR (cx : Cx) (hP : cx.P = Try.prog) (hbs : cx.bs = 0) (h15 : cx.orc 15 = some FCmp) (r15 : cx.rd.contains 15 = true) (hk2 : cx.kp 2 = some [0, 4]) (hk6 : cx.kp 6 = some [0, 4, 5, 6]) (o : Option Bool) (zs : List Int) (hl : Sm zs) : pureRun cx Try.f19 [] false [iv o zs] = some (Res.flat (.tup [.it .i64 (sMax zs).1, .bo (sMax zs).2])) := by
  have c15 := fun H nid l => (show callD cx 15 l H nid = _ from call_orc h15)
  have d15 := fun nx bef i env H dst ty pos after gd args ts => step_orc (cx := cx) (nx := nx) (bef := bef) (i := i) (env := env) (H := H) (dst := dst) (ty := ty) (pos := pos) (after := after) (gd := gd) (args := args) (ts := ts) r15 h15
  have hw := wrapS hl
  refine pure_flat (rs := [.tmp 2, .tmp 3]) rfl hbs rfl ?_
  repeat' first
    | (refine evX_loop_flat (σ := Nat) (fun s2 => [iv o zs, .it .i64 s2]) (fun s2 => s2 ≤ zs.length ∧ sMaxF zs (zs.drop s2) = sMax zs) (fun s2 => zs.length - s2) [0, 4] hbs (by exact hk2) (fun s2 => by simp only [refsL, refs, refs_ivec, refs_gvec, List.append_nil]) (fun s2 j2 => ?_) (s := 0) ?_ ?_)
    | (refine evX_loop_flat (σ := Nat × Bool) (fun s6 => [iv o zs, .it .i64 s2, .bo s6.2, .it .i64 s6.1]) (fun s6 => s6.1 ≤ zs.length ∧ (s6.2 && sBeat zs[s2]! (zs.drop s6.1)) = sBeat zs[s2]! zs) (fun s6 => zs.length - s6.1) [0, 4, 5, 6] hbs (by exact hk6) (fun s6 => by simp only [refsL, refs, refs_ivec, refs_gvec, List.append_nil]) (fun s6 j6 => ?_) (s := (0, true)) ?_ ?_)
    | (refine br_mk (fun h => ?_) (fun h => ?_) <;> (try simp only [Bool.not_eq_true, Bool.not_eq_false, Classical.not_not] at h))
    | (refine ms_mk ?_ ?_)
    | simp only [↓cD, cU, binD, intOp, unD, minD_two, builtinD, idx, reduceCtorEq, ↓reduceIte, ofV, ofC, argEnv, Nat.reduceEqDiff, not_false_eq_true, flatL, flatD, Bool.and_self,
      decide_true, decide_false, not_true_eq_false, false_and, false_implies, Option.map_some, Option.bind_some, Option.bind_none, Option.map_none, List.getElem?_toArray, List.toList_toArray, decide_eq_true_eq, decide_eq_false_iff_not, ge_iff_le, gt_iff_lt, and_true, true_and, implies_true, forall_const, true_or, or_true,
      immL, immD, Bool.true_and, Bool.and_true, Bool.false_and, Bool.and_false, Bool.true_or, Bool.or_true, Bool.false_or, Bool.or_false, Res.flat, ren, renL, List.length_nil, Nat.add_zero, List.map_cons, List.map_nil, List.nil_append, List.append_nil, List.cons_append, List.getElem?_cons_zero, List.getElem?_cons_succ, Bool.not_eq_true', Bool.not_true, Bool.not_false, Bool.not_eq_true, Bool.not_eq_false', Bool.not_eq_false, Bool.true_eq_false, Bool.false_eq_true, if_true, if_false, Int.reduceEq, Int.reduceLT, Int.reduceLE, Int.reduceNe, ite_self, or_false, false_or, or_self, eq_self, List.zip_cons_cons, List.zip_nil_left, deref, ldD, List.head?_cons, convD, shiftOp, strOp, bitsOp, D.cells, cS, refs, okRoots, List.all_nil, List.all_cons, List.length_cons, Nat.zero_add, Nat.reduceMul, Nat.reduceAdd, Nat.reduceLeDiff, refsL, List.flatMap_cons, List.flatMap_nil, c15, d15, callX_imm, callX_nil, FCmp_eq, Try.underlying3, Try.underlying36, Try.underlying30, sz3, agg3, len_gvec Try.underlying30, ix_at Try.underlying30 sz3, hw, hP, *]
  all_goals first
    | rfl
    | exact ⟨Nat.zero_le _, rfl⟩
    | (first | refine ⟨(s6.1 + 1, s6.2), rfl, ?_⟩ | refine ⟨(s6.1 + 1, false), rfl, ?_⟩ | refine ⟨s2 + 1, rfl, ?_⟩) <;> (refine ⟨⟨by (try simp only); omega, ?_⟩, by (try simp only); omega⟩; have r := sCmp_range zs[s2]! zs[s6.1]!; (try rw [drop_at (zs := zs) (i := s6.1) (by omega)] at j6); (try rw [drop_end (zs := zs) (i := s6.1) (by omega)] at j6); (try rw [drop_at (zs := zs) (i := s2) (by omega)] at j2); clear hw; grind [sMaxF, sBeat])
    | ((try rw [drop_end (zs := zs) (i := s6.1) (by omega)] at j6); (try rw [drop_end (zs := zs) (i := s2) (by omega)] at j2); (try rw [drop_at (zs := zs) (i := s2) (by omega)] at j2); clear hw; grind [sMaxF, sBeat])
end Go.Mir
