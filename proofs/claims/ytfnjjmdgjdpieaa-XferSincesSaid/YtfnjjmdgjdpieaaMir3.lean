/- A verified interpreter of loaded code, part 3 of 3: no theorem about any program stands here; no conditions. -/
import Derived.Test.YtfnjjmdgjdpieaaMir2
import Derived.SizedLaws
import Derived.ChangeSlices
import Derived.Carry
import Derived.WideShapes
/- The mirror machine, part 27: how a run is read off, piece by piece. Nothing is claimed of any program here. -/
set_option linter.unusedSimpArgs false
set_option linter.unusedVariables false
namespace Go.Mir
open Go Go.RowKit

/-- Rules for what is read off apply at 'go' alone: under a binder nothing is read off. -/
inductive Tok where
  | go
  | no
/-- It answers, and the answer is so. -/
def Ev {α : Type} (t : Tok) (o : Option α) (Q : α → Tok → Prop) : Prop := ∃ a, o = some a ∧ Q a .go
def EvC (t : Tok) (d : D) (k : Bool → Tok → Prop) : Prop := ∃ b, d = .bo b ∧ k b .go
def Br (t : Tok) (c : Prop) (A B : Tok → Prop) : Prop := (c → A .go) ∧ (¬ c → B .go)
def Ms (t : Tok) (c : Prop) (A : Tok → Prop) : Prop := c ∧ A .go
/-- Is it to be done? -/
def EvW (t : Tok) (d : D) (b : Bool) (A B : Tok → Prop) : Prop := match d with | .bo v => Br .go (v = b) A B | .tup _ => B .go | _ => False
def EvX (t : Tok) (cx : Cx) (c : Code) (st : St) (k : Ex → St → Tok → Prop) : Prop := Ev .go (exec cx c st) fun r t => k r.1 r.2 t
def EvO (t : Tok) (cx : Cx) (ops : List Oper) (l : List Oper) (st : St) (k : St → Tok → Prop) : Prop := Ev .go (seqOps cx ops l st) k
/-- An operation that is to be done, and the rest. -/
def EvO1 (t : Tok) (cx : Cx) (ops : List Oper) (o : Oper) (l : List Oper) (env : Nat → D) (H : Hp) (nx : Nat) (k : St → Tok → Prop) : Prop := Ev .go (opD cx env o H nx) fun r _ => EvO .go cx ops l ⟨setDst env o.dst r.1, r.2.1, r.2.2⟩ k

section
variable {α β : Type} {cx : Cx} {ops l : List Oper} {env : Nat → D} {H : Hp} {nx nid : Nat} {st : St} {o : Oper} {c c1 c2 : Code} {k : Ex → St → Tok → Prop} {q : St → Tok → Prop} {Q : α → Tok → Prop} {t : Tok}

theorem Ev.congr {o o' : Option α} (h : o = o') : Ev t o Q = Ev t o' Q := by rw [h]
theorem EvC.congr {d d' : D} {k : Bool → Tok → Prop} (h : d = d') : EvC t d k = EvC t d' k := by rw [h]
theorem Br.congr {c c' : Prop} {A B : Tok → Prop} (h : c = c') : Br t c A B = Br t c' A B := by rw [h]
theorem Ms.congr {c c' : Prop} {A : Tok → Prop} (h : c = c') : Ms t c A = Ms t c' A := by rw [h]
theorem ev_some {a : α} : Ev .go (some a) Q ↔ Q a .go := ⟨fun ⟨_, e, h⟩ => (by cases e; exact h), fun h => ⟨a, rfl, h⟩⟩
theorem ev_none : Ev .go (none : Option α) Q ↔ False := ⟨fun ⟨_, e, _⟩ => (by cases e), fun h => h.elim⟩
theorem ev_map {o : Option β} {f : β → α} : Ev .go (o.map f) Q ↔ Ev .go o fun a t => Q (f a) t := by
  cases o <;> simp [ev_some, ev_none]
theorem ev_bind {o : Option β} {f : β → Option α} : Ev .go (o.bind f) Q ↔ Ev .go o fun a t => Ev t (f a) Q := by
  cases o <;> simp [ev_some, ev_none]
theorem ev_ite {p : Prop} [Decidable p] {a b : Option α} : Ev .go (if p then a else b) Q ↔ Br .go p (fun t => Ev t a Q) (fun t => Ev t b Q) := by
  by_cases h : p <;> simp [h, Br, Ev]
theorem ev_must {p : Prop} [Decidable p] {a : Option α} : Ev .go (if p then a else none) Q ↔ Ms .go p (fun t => Ev t a Q) := by
  by_cases h : p <;> simp [h, ev_none, Ms, Ev]
theorem br_true {A B : Tok → Prop} : Br .go True A B ↔ A .go := by simp [Br]
theorem br_false {A B : Tok → Prop} : Br .go False A B ↔ B .go := by simp [Br]
theorem ms_true {A : Tok → Prop} : Ms .go True A ↔ A .go := by simp [Ms]
theorem br_mk {p : Prop} {A B : Tok → Prop} (h : p → A .go) (h' : ¬ p → B .go) : Br .go p A B := ⟨h, h'⟩
theorem ms_mk {p : Prop} {A : Tok → Prop} (h : p) (h' : A .go) : Ms .go p A := ⟨h, h'⟩
theorem one_one {d : D} : one [d] = d := rfl
theorem one_two {d e : D} : one [d, e] = .tup [d, e] := rfl
theorem one_three {d e f : D} : one [d, e, f] = .tup [d, e, f] := rfl
theorem evC_bo {b : Bool} {k : Bool → Tok → Prop} : EvC .go (.bo b) k ↔ k b .go := ⟨fun ⟨_, e, h⟩ => (by cases e; exact h), fun h => ⟨b, rfl, h⟩⟩
theorem evC_ite {p : Prop} [Decidable p] {d e : D} {k : Bool → Tok → Prop} : EvC .go (if p then d else e) k ↔ Br .go p (fun t => EvC t d k) (fun t => EvC t e k) := by
  by_cases h : p <;> simp [h, Br, EvC]

theorem evW_bo {v b : Bool} {A B : Tok → Prop} : EvW .go (.bo v) b A B ↔ Br .go (v = b) A B := Iff.rfl
theorem evW_tup {ds : List D} {b : Bool} {A B : Tok → Prop} : EvW .go (.tup ds) b A B ↔ B .go := Iff.rfl
theorem evW_ite {p : Prop} [Decidable p] {d e : D} {b : Bool} {A B : Tok → Prop} : EvW .go (if p then d else e) b A B ↔ Br .go p (fun t => EvW t d b A B) (fun t => EvW t e b A B) := by
  by_cases h : p <;> simp [h, Br]
theorem EvW.congr {t : Tok} {d d' : D} {b : Bool} {A B : Tok → Prop} (h : d = d') : EvW t d b A B = EvW t d' b A B := by rw [h]
theorem evX_region {id : Nat} {a : Array Oper} : EvX .go cx (.region id a false) st k ↔ EvO .go cx a.toList a.toList st (k .nrm) := by
  simp only [EvX, EvO, exec, Bool.false_eq_true, if_false, ev_map]
theorem evX_seq : EvX .go cx (.seq c1 c2) st k ↔ EvX .go cx c1 st fun e s t => match e with | .nrm => EvX t cx c2 s k | e => k e s t := by
  simp only [EvX, exec]
  cases h : exec cx c1 st with
  | none => simp [ev_none]
  | some r =>
    obtain ⟨e, s⟩ := r
    cases e <;> simp [ev_some]
theorem evX_cond {x : Operand} : EvX .go cx (.cond x c1 c2) st k ↔ EvC .go (ev st.env x) fun b t => Br t (b = true) (fun t => EvX t cx c1 st k) (fun t => EvX t cx c2 st k) := by
  simp only [EvX, exec, EvC, Br]
  cases h : ev st.env x <;> simp [ev_none]
  rename_i t
  cases t <;> simp
theorem evX_block {id : Nat} : EvX .go cx (.block id c) st k ↔ EvX .go cx c st fun e s t => match e with | .exit j => if j = id then k .nrm s t else k (.exit j) s t | e => k e s t := by
  simp only [EvX, exec]
  cases h : exec cx c st with
  | none => simp [ev_none]
  | some r =>
    obtain ⟨e, s⟩ := r
    cases e <;> simp [ev_some]
    rename_i j
    by_cases hj : j = id <;> simp [hj, ev_some]
theorem evX_exit {id : Nat} : EvX .go cx (.exit id) st k ↔ k (.exit id) st .go := by simp [EvX, exec, ev_some]
theorem evX_ret : EvX .go cx .ret st k ↔ k .ret st .go := by simp [EvX, exec, ev_some]
theorem evX_skip : EvX .go cx .skip st k ↔ k .nrm st .go := by simp [EvX, exec, ev_some]

/-- A region whose order is drawn. -/
def EvD (t : Tok) (cx : Cx) (ops : List Oper) (bs : List Nat) (nx : Nat) (l : List Oper) (i : Nat) (env : Nat → D) (H : Hp) (k : (Nat → D) → Hp → Tok → Prop) : Prop := Ev .go (drawOps cx ops bs nx l i env H) fun r t => k r.1 r.2 t
def EvD1 (t : Tok) (cx : Cx) (ops : List Oper) (bs : List Nat) (nx : Nat) (o : Oper) (l : List Oper) (i : Nat) (env : Nat → D) (H : Hp) (k : (Nat → D) → Hp → Tok → Prop) : Prop := Ev .go (stepD cx nx (bs.getD i 0) i o env H) fun r _ => EvD .go cx ops bs nx l (i + 1) (setDst env o.dst r.1) r.2 k
theorem evX_draw {id : Nat} {a : Array Oper} : EvX .go cx (.region id a true) ⟨env, H, nx⟩ k ↔ EvD .go cx a.toList (befs a.toList []) nx a.toList 0 env H fun env H t => k .nrm ⟨env, H, nx + a.size * 64⟩ t := by
  simp only [EvX, EvD, exec, if_true, ev_map]
theorem evD_nil {bs : List Nat} {i : Nat} {q : (Nat → D) → Hp → Tok → Prop} : EvD .go cx ops bs nx [] i env H q ↔ q env H .go := by simp [EvD, drawOps, ev_some]
theorem evD_plain {bs : List Nat} {i : Nat} {q : (Nat → D) → Hp → Tok → Prop} {dst : Option Tmp} {op : Op} {ty : TypeId} {pos : String} {after : Array Edge} : EvD .go cx ops bs nx (⟨dst, op, ty, pos, after, none⟩ :: l) i env H q ↔
    EvD1 .go cx ops bs nx ⟨dst, op, ty, pos, after, none⟩ l i env H q := by
  simp only [EvD, EvD1, drawOps, wantD, Option.bind_some, if_true, ev_bind]
  constructor <;> exact id
theorem evD_one {bs : List Nat} {i : Nat} {q : (Nat → D) → Hp → Tok → Prop} {dst : Option Tmp} {op : Op} {ty : TypeId} {pos : String} {after : Array Edge} {g : Option (Nat × Bool)} : EvD1 .go cx ops bs nx ⟨dst, op, ty, pos, after, g⟩ l i env H q ↔
    Ev .go (stepD cx nx (bs.getD i 0) i ⟨dst, op, ty, pos, after, g⟩ env H) fun r t => EvD t cx ops bs nx l (i + 1) (setDst env dst r.1) r.2 q := Iff.rfl
theorem evO_nil : EvO .go cx ops [] st q ↔ q st .go := by simp [EvO, seqOps, ev_some]
theorem evO_plain {dst : Option Tmp} {op : Op} {ty : TypeId} {pos : String} {after : Array Edge} : EvO .go cx ops (⟨dst, op, ty, pos, after, none⟩ :: l) ⟨env, H, nx⟩ q ↔ EvO1 .go cx ops ⟨dst, op, ty, pos, after, none⟩ l env H nx q := by
  simp only [EvO, EvO1, seqOps, wantD, Option.bind_some, if_true, ev_bind]
  constructor <;> exact id
theorem evO_one {dst : Option Tmp} {op : Op} {ty : TypeId} {pos : String} {after : Array Edge} {g : Option (Nat × Bool)} : EvO1 .go cx ops ⟨dst, op, ty, pos, after, g⟩ l env H nx q ↔ Ev .go (opD cx env ⟨dst, op, ty, pos, after, g⟩ H nx) fun r t => EvO t cx ops l ⟨setDst env dst r.1, r.2.1, r.2.2⟩ q := Iff.rfl
def dstAt : List Oper → Nat → Option Tmp
  | [], _ => none
  | o :: _, 0 => o.dst
  | _ :: r, n + 1 => dstAt r n
theorem dstAt_eq : ∀ (l : List Oper) (j : Nat), (l[j]?).bind (·.dst) = dstAt l j
  | [], _ => rfl
  | _ :: _, 0 => rfl
  | _ :: r, n + 1 => by simp only [List.getElem?_cons_succ, dstAt]; exact dstAt_eq r n
theorem dstAt_zero {dst : Option Tmp} {op : Op} {ty : TypeId} {pos : String} {after : Array Edge} {g : Option (Nat × Bool)} : dstAt (⟨dst, op, ty, pos, after, g⟩ :: l) 0 = dst := rfl
theorem dstAt_succ {n : Nat} : dstAt (o :: l) (n + 1) = dstAt l n := rfl
theorem evD_guard {bs : List Nat} {i : Nat} {q : (Nat → D) → Hp → Tok → Prop} {dst : Option Tmp} {op : Op} {ty : TypeId} {pos : String} {after : Array Edge} {j : Nat} {b : Bool} : EvD .go cx ops bs nx (⟨dst, op, ty, pos, after, some (j, b)⟩ :: l) i env H q ↔
    Ev .go (dstAt ops j) fun x t => EvW t (env x) b (fun t => EvD1 t cx ops bs nx ⟨dst, op, ty, pos, after, some (j, b)⟩ l i env H q) (fun t => EvD t cx ops bs nx l (i + 1) (setDst env dst (.tup [])) H q) := by
  simp only [EvD, EvD1, drawOps, wantD, dstAt_eq]
  cases h : dstAt ops j with
  | none => simp [ev_none]
  | some t =>
    simp only [ev_some, EvW]
    cases h : env t <;> simp [ev_none, Br]
    rename_i v
    by_cases hv : v = b
    · subst hv; simp [ev_bind]; constructor <;> exact id
    · simp [hv]
theorem step_pure {bef i : Nat} (hk : kindO cx.rd o.op = 0) : stepD cx nx bef i o env H = (opD cx env o (fun _ => .gone) 0).map fun r => (r.1, H) := by unfold stepD; rw [if_pos hk]
/-- An operation that looks at nothing of the call's own. -/
theorem step_free {bef i : Nat} (hk : kindO cx.rd o.op = 1) (hr : roots env o = []) : stepD cx nx bef i o env H = (opD cx env o (fun _ => .gone) (nx + i * 64)).bind fun r =>
    if r.2.2 ≤ nx + i * 64 + 64 then some (r.1, if r.2.2 = nx + i * 64 then H else mend [] (nx + i * 64) H r.2.1) else none := by
  unfold stepD
  rw [if_neg (by omega), hr]
  have : restr [] H = fun _ => .gone := by funext id; simp [restr]
  simp [reach, closed, this, hk]
/-- An operation that looks at what it can reach. -/
theorem step_reach {bef i : Nat} {n : Nat} (hk : kindO cx.rd o.op = n) (hn : ¬ n = 0) : stepD cx nx bef i o env H = (fun ids => if closed H ids && (roots env o).all (fun j => ids.contains j) && ids.all (vis nx bef) then
      (opD cx env o (restr ids H) (nx + i * 64)).bind fun r => if r.2.2 ≤ nx + i * 64 + 64 then some (r.1, if n = 1 ∧ r.2.2 = nx + i * 64 then H else mend ids (nx + i * 64) H r.2.1) else none
    else none) (reach H 60 (roots env o) []) := by
  unfold stepD
  rw [if_neg (by omega), hk]

theorem evO_guard {dst : Option Tmp} {op : Op} {ty : TypeId} {pos : String} {after : Array Edge} {j : Nat} {b : Bool} : EvO .go cx ops (⟨dst, op, ty, pos, after, some (j, b)⟩ :: l) ⟨env, H, nx⟩ q ↔
    Ev .go (dstAt ops j) fun x t => EvW t (env x) b (fun t => EvO1 t cx ops ⟨dst, op, ty, pos, after, some (j, b)⟩ l env H nx q) (fun t => EvO t cx ops l ⟨setDst env dst (.tup []), H, nx⟩ q) := by
  simp only [EvO, EvO1, seqOps, wantD, dstAt_eq]
  cases h : dstAt ops j with
  | none => simp [ev_none]
  | some t =>
    simp only [ev_some, EvW]
    cases h : env t <;> simp [ev_none, Br]
    rename_i v
    by_cases hv : v = b
    · subst hv; simp [ev_bind]; constructor <;> exact id
    · simp [hv]

section
variable {dst : Option Tmp} {ty t : TypeId} {pos : String} {after : Array Edge} {g : Option (Nat × Bool)} {x y z : Operand}
theorem ev_tmp {t : Tmp} : ev env (.tmp t) = env t := rfl
theorem ev_const {v : Value} : ev env (.const v) = ofV v := rfl
theorem ev_func {f : FuncId} : ev env (.func f) = .fn (.func f) [] [] := rfl
theorem upd_at {f : Nat → D} {n : Nat} {v : D} : upd f n v n = v := by simp [upd]
theorem upd_off {f : Nat → D} {n m : Nat} {v : D} (h : ¬ m = n) : upd f n v m = f m := by simp [upd, h]
theorem upd_atB {f : Hp} {n : Nat} {v : Blk} : upd f n v n = v := by simp [upd]
theorem upd_offB {f : Hp} {n m : Nat} {v : Blk} (h : ¬ m = n) : upd f n v m = f m := by simp [upd, h]
theorem set_some {n : Nat} {v : D} : setDst env (some n) v = upd env n v := rfl
theorem set_none {v : D} : setDst env none v = env := rfl
theorem op_move : opD cx env ⟨dst, .move x, ty, pos, after, g⟩ H nid = some (ev env x, H, nid) := rfl
theorem op_assign : opD cx env ⟨dst, .assign x, ty, pos, after, g⟩ H nid = if nilC x then nilRow cx.P ty H nid else some (ev env x, H, nid) := rfl
theorem nilC_tmp {t : Tmp} : nilC (.tmp t) = false := rfl
theorem nilC_func {f : FuncId} : nilC (.func f) = false := rfl
theorem nilC_nil : nilC (.const (.slice none 0 0)) = true := rfl
theorem nilC_int {k : IntKind} {n : Int} : nilC (.const (.int k n)) = false := rfl
theorem nilC_bool {b : Bool} : nilC (.const (.bool b)) = false := rfl
theorem nilC_string {b : ByteArray} : nilC (.const (.string b)) = false := rfl
theorem nilC_agg {b : Array Value} : nilC (.const (.agg b)) = false := rfl
theorem op_pick : opD cx env ⟨dst, .pick x y z, ty, pos, after, g⟩ H nid = match ev env x with | .bo t => some (if t then ev env y else ev env z, H, nid) | _ => none := rfl
theorem op_alloc : opD cx env ⟨dst, .alloc t, ty, pos, after, g⟩ H nid = (zeroT cx.P t).bind fun z => (cellsOf z).map fun cs => (.ptr nid 0, upd H nid (.box cs), nid + 1) := rfl
theorem op_box : opD cx env ⟨dst, .box t x, ty, pos, after, g⟩ H nid = (cellsOf (ev env x)).map fun cs => (.ptr nid 0, upd H nid (.box cs), nid + 1) := rfl
theorem op_build {ps : Array (Nat × Operand)} : opD cx env ⟨dst, .build t ps, ty, pos, after, g⟩ H nid = (buildD cx.P t (ps.toList.map fun (i, x) => (i, ev env x))).map fun d => (d, H, nid) := rfl
theorem op_buildSlice {n : Nat} {ps : Array (Nat × Operand)} : opD cx env ⟨dst, .buildSlice t n ps, ty, pos, after, g⟩ H nid = (elemT cx.P t).bind fun e => (szT cx.P e).bind fun sz => (zeroE cx.P e sz).bind fun z =>
    if n * sz ≤ 16777216 ∧ 0 ≤ n then (fillE sz (List.replicate n z) (ps.toList.map fun (i, x) => (i, ev env x))).map fun es => (.own nid 0 n, upd H nid (.row sz (immL es) es), nid + 1) else none := rfl
theorem op_load : opD cx env ⟨dst, .load t x, ty, pos, after, g⟩ H nid = (deref H (ev env x)).bind fun cs => (ldD cx.P t cs).map fun d => (d, H, nid) := rfl
theorem op_store : opD cx env ⟨dst, .store t x y, ty, pos, after, g⟩ H nid = (cellsOf (ev env y)).bind fun xs => if szT cx.P t = some xs.length then (storD H (ev env x) xs).map fun H' => (.un, H', nid) else none := rfl
theorem op_nilCheck : opD cx env ⟨dst, .nilCheck x, ty, pos, after, g⟩ H nid = (nilCheckD H (ev env x)).map fun d => (d, H, nid) := rfl
theorem op_bin {op : BinOp} {t' : TypeId} : opD cx env ⟨dst, .binOp op t x y t', ty, pos, after, g⟩ H nid = (binD cx.P op t (ev env x) (ev env y)).map fun d => (d, H, nid) := rfl
theorem op_un {op : UnOp} : opD cx env ⟨dst, .unOp op t x, ty, pos, after, g⟩ H nid = (unD op (ev env x)).map fun d => (d, H, nid) := rfl
theorem op_makeFunc {fn : Fn} {first caps : Array Operand} : opD cx env ⟨dst, .makeFunc fn first caps, ty, pos, after, g⟩ H nid = some (.fn fn (first.toList.map (ev env)) (caps.toList.map (ev env)), H, nid) := rfl
theorem op_makeSlice : opD cx env ⟨dst, .makeSlice t x y, ty, pos, after, g⟩ H nid = makeD cx.P t H nid (ev env x) (ev env y) := rfl
theorem op_slice {lo hi mx : Option Operand} : opD cx env ⟨dst, .slice t x lo hi mx, ty, pos, after, g⟩ H nid = (sliceD cx.P H t (ev env x) (lo.map (ev env)) (hi.map (ev env)) (mx.map (ev env))).map fun d => (d, H, nid) := rfl
theorem op_fieldAddr {f : Nat} : opD cx env ⟨dst, .fieldAddr t x f, ty, pos, after, g⟩ H nid = (fieldAddrD cx.P H t (ev env x) f).map fun d => (d, H, nid) := rfl
theorem op_field {f : Nat} : opD cx env ⟨dst, .field t x f, ty, pos, after, g⟩ H nid = match ev env x with | .agg cs => (fieldT cx.P t f).bind fun fl => (partD cx.P fl.type cs fl.offset).map fun d => (d, H, nid) | _ => none := rfl
theorem op_indexAddr : opD cx env ⟨dst, .indexAddr t x y, ty, pos, after, g⟩ H nid = (indexAddrD cx.P H t (ev env x) (ev env y)).map fun d => (d, H, nid) := rfl
theorem op_index : opD cx env ⟨dst, .index t x y, ty, pos, after, g⟩ H nid = (indexD cx.P t (ev env x) (ev env y)).map fun d => (d, H, nid) := rfl
theorem op_lookup {b : Bool} : opD cx env ⟨dst, .lookup t x y b, ty, pos, after, g⟩ H nid = (lookupD cx.P H t (ev env x) (ev env y) b).map fun d => (d, H, nid) := rfl
theorem op_mapUpdate : opD cx env ⟨dst, .mapUpdate t x y z, ty, pos, after, g⟩ H nid = (updateD cx.P H t (ev env x) (ev env y) (ev env z)).map fun H' => (.un, H', nid) := rfl
theorem op_insert : opD cx env ⟨dst, .insert t x y z, ty, pos, after, g⟩ H nid = (updateD cx.P H t (ev env x) (ev env y) (ev env z)).map fun H' => (.un, H', nid) := rfl
theorem op_extract {j : Nat} : opD cx env ⟨dst, .extract x j, ty, pos, after, g⟩ H nid = match ev env x with | .tup ds => (ds[j]?).map fun d => (d, H, nid) | _ => none := rfl
def convD (P : Program) (src dst : TypeId) (x : D) (H : Hp) (nid : Nat) : Option (D × Hp × Nat) := match P.underlying src, P.underlying dst, x with
    | some _, some (.int k), .it _ n => some (.it k (k.wrap n), H, nid)
    | some .string, some .string, .st l => some (.st l, H, nid)
    | some .string, some (.slice e), .st l => match P.underlying e, szT P e with
      | some (.int .u8), some 1 => if l.length ≤ 140737488355328 then some (.own nid 0 l.length, upd H nid (.row 1 true (l.map fun c => .it .u8 c.toNat)), nid + 1) else none
      | _, _ => none
    | some (.slice e), some .string, d => match P.underlying e, szT P e with
      | some (.int .u8), some 1 => if srcOk P src d then (elems H 1 d).bind fun (_, es) => (es.mapM byteOfD).map fun l => (.st l, H, nid) else none
      | _, _ => none
    | _, _, _ => none
theorem op_convert {t' : TypeId} : opD cx env ⟨dst, .convert t t' x, ty, pos, after, g⟩ H nid = convD cx.P t t' (ev env x) H nid := rfl
theorem op_call {f : Operand} {args : Array Operand} {ts : Array TypeId} : opD cx env ⟨dst, .call ⟨.value f, args, ts⟩, ty, pos, after, g⟩ H nid = match ev env f with | .fn (.func g) first caps => callD cx g (first ++ args.toList.map (ev env) ++ caps) H nid | _ => none := rfl
theorem op_builtin {b : Builtin} {args : Array Operand} {ts : Array TypeId} : opD cx env ⟨dst, .call ⟨.builtin b, args, ts⟩, ty, pos, after, g⟩ H nid = builtinD cx b ts.toList (args.toList.map (ev env)) H nid := rfl
end

/-- A call of a function that only reads, with arguments that lead to nothing of the call's own. -/
theorem call_pure {g : FuncId} {F : List D → Option Res} {args : List D} (ho : cx.orc g = some F) (hi : immL args = true) : callD cx g args H nid = (F args).map fun r => (ren (fun i => some (nid + i)) r.r, putAll H nid r.hs, nid + r.hs.length) := by
  have hm : ∀ l : List D, immL l = true → l.mapM (bor H 3) = some l := by
    intro l
    induction l with
    | nil => intro _; rfl
    | cons x r ih => intro h; simp only [immL, Bool.and_eq_true] at h; rw [List.mapM_cons, bor_imm 3 x h.1, ih h.2]; rfl
  unfold callD
  simp only [ho, hm args hi, hi, Option.bind_some, Bool.not_true, Bool.and_false, Bool.false_eq_true, if_false]
  cases F args <;> rfl

theorem iter_mono {f : St → Option (Ex × St)} : ∀ {n m : Nat} {st : St} {r : Ex × St}, n ≤ m → iter f n st = some r → iter f m st = some r := by
  intro n
  induction n with
  | zero => intro m st r _ h; cases h
  | succ n ih =>
    intro m st r hm h
    obtain ⟨m, rfl⟩ : ∃ m', m = m' + 1 := ⟨m - 1, by omega⟩
    simp only [iter] at h ⊢
    cases hf : f st with
    | none => rw [hf] at h; cases h
    | some q =>
      obtain ⟨e, s⟩ := q
      rw [hf] at h
      cases e with
      | nrm => exact ih (by omega) h
      | _ => exact h

theorem lim_eq {g : Nat → Option α} {n : Nat} {r : α} (hm : ∀ {n m : Nat} {r : α}, n ≤ m → g n = some r → g m = some r) (h : g n = some r) : lim g = some r := by
  have hex : ∃ a n, g n = some a := ⟨r, n, h⟩
  unfold lim
  rw [dif_pos hex]
  obtain ⟨n', h'⟩ := Classical.choose_spec hex
  rcases Nat.le_total n n' with hle | hle
  · rw [← h', hm hle h]
  · rw [← h, hm hle h']

/-- A loop: 'I' tells the state at its head. -/
theorem evX_loop {σ : Type} (I : σ → St) (J : σ → Prop) (m : σ → Nat) (ks : List Nat) (hk : cx.kp (firstRegion c) = some ks) (K : Ex → St → Prop)
    (h : ∀ s, J s → EvX .go cx c (I s) fun e st' _ => match e with | .nrm => ∃ s', tidy cx.bs ks st' = some (I s') ∧ J s' ∧ m s' < m s | e => K e st') (hK : ∀ e s, K e s → e ≠ .nrm → k e s .go)
    {s : σ} (h0 : tidy cx.bs ks st = some (I s)) (hJ : J s) : EvX .go cx (.loop c) st k := by
  have key : ∀ (n : Nat) (s : σ) (st : St), m s = n → J s → tidy cx.bs ks st = some (I s) → ∃ n r, iter (fun s => (match cx.kp (firstRegion c) with | some ks => tidy cx.bs ks s | none => some s).bind fun s => exec cx c s) n st = some r ∧ K r.1 r.2 ∧ r.1 ≠ .nrm := by
    intro n
    induction n using Nat.strongRecOn with
    | _ n ih =>
      intro s st hm hJ ht
      obtain ⟨⟨e, st'⟩, he, hq⟩ := h s hJ
      cases e with
      | nrm =>
        obtain ⟨s', t1, t2, t3⟩ := hq
        obtain ⟨n', r, r1, r2⟩ := ih (m s') (by omega) s' st' rfl t2 t1
        refine ⟨n' + 1, r, ?_, r2⟩
        simp only [iter, hk, ht, Option.bind_some, he]
        simp only [hk] at r1
        exact r1
      | exit j => exact ⟨1, (.exit j, st'), by simp only [iter, hk, ht, Option.bind_some, he], hq, by simp⟩
      | gto j => exact ⟨1, (.gto j, st'), by simp only [iter, hk, ht, Option.bind_some, he], hq, by simp⟩
      | ret => exact ⟨1, (.ret, st'), by simp only [iter, hk, ht, Option.bind_some, he], hq, by simp⟩
  obtain ⟨n, r, r1, r2, r3⟩ := key _ s st rfl hJ h0
  refine ⟨r, ?_, hK r.1 r.2 r2 r3⟩
  exact lim_eq (fun hle => iter_mono hle) r1

/-- What a function that only reads answers, by its run. -/
theorem pure_of {fn : Func} {c : Code} {ds : List D} {r : Res} (hb : fn.body = some c) (hbs : cx.bs = 0) (ks : List Nat) (al : Bool) (h : EvX .go cx c ⟨argEnv ds, ofHp [], 0⟩ fun e st t => (e = .nrm ∨ e = .ret) ∧ Ev t (resD cx.P st fn.results.toList) fun out t => (distinct (ownOf out ks) && (al || dry out st.H)) = true ∧
      Ev t ((ownOf out ks).mapM (finB (ownOf out ks) (if al then st.H else restr (reach st.H 60 (refsL out) []) st.H))) fun hs t => Ev t (finT (ownOf out ks) (if al then st.H else restr (reach st.H 60 (refsL out) []) st.H) out) fun d _ => (⟨al, d, hs⟩ : Res) = r) : pureRun cx fn ks al ds = some r := by
  obtain ⟨⟨e, s⟩, he, hen, out, ho, hd, hs, hhs, d, hd', rfl⟩ := h
  have hcx : { cx with bs := 0 } = cx := by rw [← hbs]
  unfold pureRun runD
  rw [hb, hcx]
  simp only [Option.bind_some, List.length_nil, he]
  rcases hen with rfl | rfl <;> simp only [ho, Option.map_some, Option.bind_some, hd, if_true, hhs, hd']

def leafD : D → Bool
  | .bo _ => true
  | .it _ _ => true
  | .st _ => true
  | .nils => true
  | _ => false
def flatD : D → Bool
  | .agg cs => cs.all leafD
  | .bo _ => true
  | .it _ _ => true
  | .st _ => true
  | .nils => true
  | .nilp => true
  | .nilf => true
  | .nilm => true
  | _ => false
def flatL : List D → Bool
  | [] => true
  | d :: r => flatD d && flatL r
theorem flatD_facts {d : D} (h : flatD d = true) : refs d = [] ∧ noMem d = true ∧ immD d = true ∧ ∀ id off len, d ≠ .own id off len := by
  have hl : ∀ cs : List D, (∀ d ∈ cs, leafD d = true) → refsL cs = [] ∧ noMemL cs = true ∧ immL cs = true := by
    intro cs
    induction cs with
    | nil => intro _; simp [refsL, noMemL, immL]
    | cons x r ih =>
      intro h
      obtain ⟨h1, h2, h3⟩ := ih fun d hd => h d (by simp [hd])
      have hx := h x (by simp)
      cases x <;> simp [leafD] at hx <;> simp [refsL, noMemL, immL, refs, noMem, immD, h1, h2, h3]
  cases d <;> simp [flatD] at h <;> simp [refs, noMem, immD]
  obtain ⟨h1, h2, h3⟩ := hl _ h
  exact ⟨h1, h2, h3⟩
theorem flatL_facts : ∀ {l : List D}, flatL l = true → refsL l = [] ∧ noMemL l = true ∧ ∀ d ∈ l, flatD d = true
  | [], _ => by simp [refsL, noMemL]
  | d :: r, h => by
    simp only [flatL, Bool.and_eq_true] at h
    obtain ⟨h1, h2, h3⟩ := flatL_facts h.2
    obtain ⟨g1, g2, _⟩ := flatD_facts h.1
    refine ⟨by simp [refsL, g1, h1], by simp [noMemL, g2, h2], fun e he => ?_⟩
    rcases List.mem_cons.1 he with rfl | he
    · exact h.1
    · exact h3 e he
theorem fin_flat {own : List Nat} {H : Hp} {d : D} (h : flatD d = true) : finV own H d = some d := by
  obtain ⟨_, _, hi, hn⟩ := flatD_facts h
  have := bor_imm (H := killAll own H) 6 d hi
  cases d <;> simp only [finV] <;> first | exact this | exact absurd rfl (hn _ _ _)
theorem finT_flat {own : List Nat} {H : Hp} {out : List D} (h : flatL out = true) : finT own H out = some (one out) := by
  obtain ⟨_, _, hf⟩ := flatL_facts h
  have hm : ∀ l : List D, (∀ d ∈ l, flatD d = true) → l.mapM (finV own H) = some l := by
    intro l
    induction l with
    | nil => intro _; rfl
    | cons x r ih => intro h; rw [List.mapM_cons, fin_flat (h x (by simp)), ih (fun d hd => h d (by simp [hd]))]; rfl
  cases out with
  | nil => rfl
  | cons d r =>
    cases r with
    | nil => exact fin_flat (hf d (by simp))
    | cons e r => simp only [finT, one, hm _ hf, Option.map_some]

/-- What a function that only reads answers, where the answer is plain. -/
theorem pure_flat {fn : Func} {c : Code} {ds : List D} {r : Res} {rs : List ResultVar} (hb : fn.body = some c) (hbs : cx.bs = 0) (hrs : fn.results.toList = rs) (h : EvX .go cx c ⟨argEnv ds, ofHp [], 0⟩ fun e st t => (e = .nrm ∨ e = .ret) ∧ Ev t (resD cx.P st rs) fun out _ => flatL out = true ∧ Res.flat (one out) = r) : pureRun cx fn [] false ds = some r := by
  obtain ⟨⟨e, s⟩, he, hen, out, ho, hf, rfl⟩ := h
  refine pure_of hb hbs [] false ⟨(e, s), he, hen, out, hrs ▸ ho, ?_, [], rfl, one out, finT_flat hf, rfl⟩
  obtain ⟨h1, h2, _⟩ := flatL_facts hf
  simp [ownOf, distinct, dry, h1, h2, reach, closed]

theorem resD_nil {P : Program} : resD P st [] = some [] := rfl
theorem resD_tmp {P : Program} {t : Tmp} {r : List ResultVar} : resD P ⟨env, H, nx⟩ (.tmp t :: r) = (resD P ⟨env, H, nx⟩ r).map (env t :: ·) := rfl
theorem resD_cell {P : Program} {a : Tmp} {t : TypeId} {r : List ResultVar} : resD P ⟨env, H, nx⟩ (.cell a t :: r) = (deref H (env a)).bind fun cs => (ldD P t cs).bind fun d => (resD P ⟨env, H, nx⟩ r).map (d :: ·) := rfl
end
end Go.Mir

/- The mirror machine, part 28: what is known of a program's functions, gathered. Nothing is claimed of any program here. -/
set_option linter.unusedSimpArgs false
set_option linter.unusedVariables false
namespace Go.Mir
open Go Go.RowKit

def lk {α : Type} : List (FuncId × α) → FuncId → Option α
  | [], _ => none
  | (a, F) :: r, g => if g = a then some F else lk r g
theorem lk_mem {α : Type} : ∀ {l : List (FuncId × α)} {g : FuncId} {F : α}, lk l g = some F → (g, F) ∈ l
  | [], _, _, h => by cases h
  | (a, G) :: r, g, F, h => by
    simp only [lk] at h
    split at h
    · rename_i e; simp only [Option.some.injEq] at h; subst h; subst e; simp
    · exact List.mem_cons_of_mem _ (lk_mem h)
theorem lk_some {α : Type} : ∀ {l : List (FuncId × α)} {g : FuncId}, g ∈ l.map (·.1) → (lk l g).isSome = true
  | [], _, h => by simp at h
  | (a, G) :: r, g, h => by
    simp only [lk]
    split
    · rfl
    · rename_i e; exact lk_some (by simpa [e] using h)

/-- What is known: functions that only read, functions without a body, functions that are lent blocks. -/
structure Known where
  P : Program
  orcs : List (FuncId × (List D → Option Res))
  exts : List (FuncId × (List D → Option D))
  effs : List (FuncId × (List D → List Blk → Option (D × List Blk)))
def Known.cx (K : Known) (kp : Nat → Option (List Nat)) : Cx := ⟨K.P, K.orcs.map (·.1) ++ K.exts.map (·.1), lk K.orcs, lk K.exts, lk K.effs, 0, kp⟩
structure Known.OK (K : Known) : Prop where
  orcs : ∀ p ∈ K.orcs, PureOK K.P p.1 p.2
  exts : ∀ p ∈ K.exts, ExtOK K.P p.1 p.2
  effs : ∀ p ∈ K.effs, EffOK K.P p.1 p.2
theorem Known.OK.cx {K : Known} (h : K.OK) (kp : Nat → Option (List Nat)) : CxOK (K.cx kp) := by
  refine ⟨fun g hg => ?_, fun g F hF => h.orcs (g, F) (lk_mem hF), fun g F hF => h.exts (g, F) (lk_mem hF), fun g F hF => h.effs (g, F) (lk_mem hF)⟩
  simp only [Known.cx, List.mem_append] at hg
  rcases hg with hg | hg
  · exact .inl (lk_some hg)
  · exact .inr (lk_some hg)
def Known.pure (K : Known) (g : FuncId) (F : List D → Option Res) : Known := { K with orcs := (g, F) :: K.orcs }
def Known.eff (K : Known) (g : FuncId) (F : List D → List Blk → Option (D × List Blk)) : Known := { K with effs := (g, F) :: K.effs }
def Known.ext (K : Known) (g : FuncId) (F : List D → Option D) : Known := { K with exts := (g, F) :: K.exts }
theorem Known.OK.pure {K : Known} (h : K.OK) {g : FuncId} {F : List D → Option Res} (hF : PureOK K.P g F) : (K.pure g F).OK :=
  ⟨fun p hp => by
    simp only [Known.pure, List.mem_cons] at hp
    rcases hp with rfl | hp
    · exact hF
    · exact h.orcs p hp, h.exts, h.effs⟩
theorem Known.OK.eff {K : Known} (h : K.OK) {g : FuncId} {F : List D → List Blk → Option (D × List Blk)} (hF : EffOK K.P g F) : (K.eff g F).OK :=
  ⟨h.orcs, h.exts, fun p hp => by
    simp only [Known.eff, List.mem_cons] at hp
    rcases hp with rfl | hp
    · exact hF
    · exact h.effs p hp⟩
theorem Known.OK.ext {K : Known} (h : K.OK) {g : FuncId} {F : List D → Option D} (hF : ExtOK K.P g F) : (K.ext g F).OK :=
  ⟨h.orcs, fun p hp => by
    simp only [Known.ext, List.mem_cons] at hp
    rcases hp with rfl | hp
    · exact hF
    · exact h.exts p hp, h.effs⟩
theorem Known.OK.none (P : Program) : (⟨P, [], [], []⟩ : Known).OK := ⟨fun p h => (by cases h), fun p h => (by cases h), fun p h => (by cases h)⟩

/-- A body of a program. -/
structure Body (P : Program) (rd : List FuncId) (g : FuncId) (fn : Func) (c : Code) : Prop where
  found : P.funcs[g]? = some fn
  body : fn.body = some c
  name : (fn.name == "runtime.NumGoroutine") = false
  code : codeOk rd fn.ntmps c = true
theorem Known.fn {K : Known} (h : K.OK) (hP : K.P.follows .mixedOrders = true) {g : FuncId} {fn : Func} {c : Code} {F : List D → Option Res} (kp : Nat → Option (List Nat)) (hb : Body K.P (K.cx kp).rd g fn c)
    (hF : ∀ ds r, F ds = some r → ds.length ≤ fn.ntmps ∧ ∃ ks al, pureRun (K.cx kp) fn ks al ds = some r) : (K.pure g F).OK :=
  h.pure (pure_intro (h.cx kp) hP ⟨hb.found, hb.body, hb.name, hb.code⟩ hF)
theorem Known.fnEff {K : Known} (h : K.OK) (hP : K.P.follows .mixedOrders = true) {g : FuncId} {fn : Func} {c : Code} {F : List D → List Blk → Option (D × List Blk)} (kp : Nat → Option (List Nat)) (hb : Body K.P (K.cx kp).rd g fn c)
    (hF : ∀ ds hs r, F ds hs = some r → ds.length ≤ fn.ntmps ∧ effRun (K.cx kp) fn ds hs = some r) : (K.eff g F).OK :=
  h.eff (eff_intro (h.cx kp) hP ⟨hb.found, hb.body, hb.name, hb.code⟩ hF)
end Go.Mir

/- The mirror machine, part 29: loops without blocks of the call's own; slices of numbers. Nothing is claimed of any program here. -/
set_option linter.unusedSimpArgs false
set_option linter.unusedVariables false
namespace Go.Mir
open Go Go.RowKit

mutual
theorem ren_norefs (f : Nat → Option Nat) : ∀ d : D, refs d = [] → ren f d = d
  | .own .., h => by simp [refs] at h
  | .ptr .., h => by simp [refs] at h
  | .rowp .., h => by simp [refs] at h
  | .map _, h => by simp [refs] at h
  | .agg cs, h => by rw [ren, renL_norefs f cs (by simpa [refs] using h)]
  | .tup cs, h => by rw [ren, renL_norefs f cs (by simpa [refs] using h)]
  | .fn g p q, h => by
    have h' : refsL p = [] ∧ refsL q = [] := by simpa [refs] using h
    rw [ren, renL_norefs f p h'.1, renL_norefs f q h'.2]
  | .un, _ => rfl
  | .bo _, _ => rfl
  | .it .., _ => rfl
  | .st _, _ => rfl
  | .vec .., _ => rfl
  | .nils, _ => rfl
  | .emp _, _ => rfl
  | .elt _, _ => rfl
  | .nilp, _ => rfl
  | .nilf, _ => rfl
  | .nilm, _ => rfl
theorem renL_norefs (f : Nat → Option Nat) : ∀ l : List D, refsL l = [] → renL f l = l
  | [], _ => rfl
  | d :: r, h => by
    have h' : refs d = [] ∧ refsL r = [] := by simpa [refsL] using h
    rw [renL, ren_norefs f d h'.1, renL_norefs f r h'.2]
end

theorem refsL_get {l : List D} (h : refsL l = []) {d : D} (hd : d ∈ l) : refs d = [] := by
  induction l with
  | nil => simp at hd
  | cons x r ih =>
    have h' : refs x = [] ∧ refsL r = [] := by simpa [refsL] using h
    rcases List.mem_cons.1 hd with rfl | hd
    · exact h'.1
    · exact ih h'.2 hd

/-- At a loop's head, where there are no blocks of the call's own. -/
theorem tidy_flat {ks : List Nat} {st : St} (h : refsL (ks.map st.env) = []) : tidy 0 ks st = some ⟨ofEnv (ks.map fun t => (t, st.env t)), ofHp [], 0⟩ := by
  unfold tidy tidyIds
  simp only [h, List.range_zero, List.flatMap_nil, List.append_nil]
  have h1 : reach st.H 60 [] [] = [] := by simp [reach]
  rw [h1]
  have h2 : (ks.map fun t => (t, ren (ixOf []) (st.env t))) = ks.map fun t => (t, st.env t) := List.map_congr_left (fun t ht => by
    rw [ren_norefs _ _ (refsL_get h (List.mem_map.2 ⟨t, ht, rfl⟩))])
  simp [closed, h2]

section
variable {cx : Cx} {c : Code} {st : St} {k : Ex → St → Tok → Prop}
/-- A loop without blocks of the call's own: 'I' tells what the kept temporaries hold. -/
theorem evX_loop_flat {σ : Type} (I : σ → List D) (J : σ → Prop) (m : σ → Nat) (ks : List Nat) (hbs : cx.bs = 0) (hk : cx.kp (firstRegion c) = some ks) (hI : ∀ s, refsL (I s) = [])
    (h : ∀ s, J s → EvX .go cx c ⟨ofEnv (ks.zip (I s)), ofHp [], 0⟩ fun e st' t => match e with | .nrm => ∃ s', ks.map st'.env = I s' ∧ J s' ∧ m s' < m s | e => k e st' t)
    {s : σ} (h0 : ks.map st.env = I s) (hJ : J s) : EvX .go cx (.loop c) st k := by
  have hz : ∀ (f : Nat → D) (l : List D), ks.map f = l → (ks.map fun t => (t, f t)) = ks.zip l := by
    intro f l h
    subst h
    clear h0 hk h
    induction ks with
    | nil => rfl
    | cons a r ih => simp only [List.map_cons, List.zip_cons_cons, ih]
  refine evX_loop (fun s => ⟨ofEnv (ks.zip (I s)), ofHp [], 0⟩) J m ks hk (fun e s => e ≠ .nrm ∧ k e s .go) (fun s hs => ?_) (fun e s h _ => h.2) (s := s) ?_ hJ
  · obtain ⟨r, hr, hq⟩ := h s hs
    refine ⟨r, hr, ?_⟩
    obtain ⟨e, st'⟩ := r
    cases e with
    | nrm =>
      obtain ⟨s', q1, q2, q3⟩ := hq
      refine ⟨s', ?_, q2, q3⟩
      rw [hbs, tidy_flat (by rw [q1]; exact hI s'), hz _ _ q1]
    | _ => exact ⟨by simp, hq⟩
  · rw [hbs, tidy_flat (by rw [h0]; exact hI s), hz _ _ h0]
end

theorem int_beq (a b : Int) : (a == b) = decide (a = b) := by by_cases h : a = b <;> simp [h]
theorem int_bne (a b : Int) : (a != b) = !decide (a = b) := by by_cases h : a = b <;> simp [h]
theorem ofEnv_at {t : Nat} {d : D} {r : List (Nat × D)} : ofEnv ((t, d) :: r) t = d := by simp [ofEnv]
theorem ofEnv_off {t k : Nat} {d : D} {r : List (Nat × D)} (h : ¬ k = t) : ofEnv ((t, d) :: r) k = ofEnv r k := by simp [ofEnv, h]
theorem refsL_nil : refsL [] = [] := rfl
theorem refsL_cons {d : D} {r : List D} (h : refs d = []) : refsL (d :: r) = refsL r := by simp [refsL, h]
theorem refs_it {k : IntKind} {n : Int} : refs (.it k n) = [] := rfl
theorem refs_bo {b : Bool} : refs (.bo b) = [] := rfl
theorem refs_st {l : List UInt8} : refs (.st l) = [] := rfl

/-- A slice of numbers that is only read. -/
def ivec : Option Bool → List Int → D
  | none, [] => .nils
  | o, zs => .vec 1 (o.getD false) (zs.map (D.it .i64))
theorem ivec_cases (o : Option Bool) (zs : List Int) : (ivec o zs = .nils ∧ zs = []) ∨ ivec o zs = .vec 1 (o.getD false) (zs.map (D.it .i64)) := by
  cases o <;> cases zs <;> simp [ivec]
theorem refs_ivec {o : Option Bool} {zs : List Int} : refs (ivec o zs) = [] := by rcases ivec_cases o zs with ⟨h, _⟩ | h <;> rw [h] <;> rfl
theorem imm_ivec {o : Option Bool} {zs : List Int} : immD (ivec o zs) = true := by rcases ivec_cases o zs with ⟨h, _⟩ | h <;> rw [h] <;> rfl
theorem ren_ivec {f : Nat → Option Nat} {o : Option Bool} {zs : List Int} : ren f (ivec o zs) = ivec o zs := ren_norefs f _ refs_ivec
section
variable {P : Program} {H : Hp} {t e : TypeId} {o : Option Bool} {zs : List Int} {k : IntKind}
theorem len_ivec (hu : P.underlying t = some (.slice e)) : lenD P H t (ivec o zs) = some (zs.length : Int) := by
  rcases ivec_cases o zs with ⟨h, rfl⟩ | h <;> rw [h] <;> simp [lenD, hu]
theorem ix_ivec (hu : P.underlying t = some (.slice e)) (hs : szT P e = some 1) {i : Nat} {z : Int} (hz : zs[i]? = some z) : indexAddrD P H t (ivec o zs) (.it k i) = some (.elt [.it .i64 z]) := by
  rcases ivec_cases o zs with ⟨h, rfl⟩ | h
  · simp at hz
  · rw [h]; simp [indexAddrD, idx, hu, hs, hz, D.cells]
theorem slice_ivec (hu : P.underlying t = some (.slice e)) (hs : szT P e = some 1) {n : Int} (h0 : 0 ≤ n) (hn : n ≤ zs.length) : ∃ o', sliceD P H t (ivec o zs) none (some (.it k n)) none = some (ivec o' (zs.take n.toNat)) := by
  rcases ivec_cases o zs with ⟨h, rfl⟩ | h
  · refine ⟨none, ?_⟩
    have : n = 0 := by simp at hn; omega
    subst this
    rw [h]; simp [sliceD, elemT, hu, hs, bnds, idx, ivec]
  · refine ⟨some false, ?_⟩
    rw [h]
    have h1 : (0 : Int) ≤ n ∧ n ≤ (zs.map (D.it .i64)).length := ⟨h0, by simpa using hn⟩
    simp only [sliceD, elemT, hu, Option.bind_some, hs, if_true, bnds, idx]
    rw [if_pos ⟨Int.le_refl _, h1.1, h1.2⟩]
    simp [ivec, capB, List.map_take]
end
end Go.Mir

/- The mirror machine, part 30: a call's arguments, as they are read before the call. Nothing is claimed of any program here. -/
set_option linter.unusedSimpArgs false
set_option linter.unusedVariables false
namespace Go.Mir
open Go Go.RowKit

def layB (P : Program) : Nat → List Field → Nat → Bool
  | off, [], tot => off == tot
  | off, f :: r, tot => f.offset == off && layB P (off + P.cellsOf f.type) r tot
/-- Types of plain data: numbers, strings, slices and structs of such. -/
def plainT (P : Program) : Nat → TypeId → Bool
  | 0, _ => false
  | n + 1, t => match P.underlying t with
    | some .bool => true
    | some (.int _) => true
    | some .string => true
    | some (.slice e) => plainT P n e && decide (0 < P.cellsOf e) && (aggT P e).isSome && decide (aggT P e = some true ∨ P.cellsOf e = 1)
    | some (.struct fs) => fs.toList.all (fun f => plainT P n f.type) && layB P 0 fs.toList (P.cellsOf t)
    | _ => false

/-- What a reading of a type may be, cell by cell. -/
def TD (P : Program) : Nat → TypeId → List D → Prop
  | 0, _, _ => False
  | n + 1, t, ds => match P.underlying t with
    | some .bool => ∃ b, ds = [.bo b]
    | some (.int k) => ∃ x, ds = [.it k x] ∧ k.min ≤ x ∧ x ≤ k.max
    | some .string => ∃ l, ds = [.st l] ∧ l.length ≤ reachBytes
    | some (.slice e) => ∃ es, ds = [.vec (P.cellsOf e) false es] ∧ es.length * P.bytesOf e ≤ reachBytes ∧
        ∀ x ∈ es, x.cells.length = P.cellsOf e ∧ TD P n e x.cells ∧ (aggT P e = some true → ∃ cs, x = .agg cs) ∧ (aggT P e = some false → x.cells = [x])
    | some (.struct fs) => fs.toList.foldr (fun f Q ds => ∃ a b, ds = a ++ b ∧ a.length = P.cellsOf f.type ∧ TD P n f.type a ∧ Q b) (fun ds => ds = []) ds
    | _ => False

theorem addr_add_add (a : Addr) (m n : Nat) : (a.add m).add n = a.add (m + n) := by
  unfold Addr.add
  by_cases hm : m = 0
  · subst hm; simp
  · by_cases hn : n = 0
    · subst hn; simp
    · have : ¬ m + n = 0 := by omega
      simp [hm, hn, this, Nat.add_assoc]

theorem cells_get {w : World} {base n : Nat} {a : Addr} {cs : List Value} (h : w.cells? base a n = some cs) : cs.length = n ∧ ∀ (k : Nat) (v : Value), cs[k]? = some v → w.cell? (a.add k) = some v := by
  unfold World.cells? at h
  split at h
  · have hl := mapM_some_length h
    simp at hl
    refine ⟨hl, fun k v hv => ?_⟩
    have hk : k < n := by rw [← hl]; exact (List.getElem?_eq_some_iff.1 hv).1
    have := mapM_some_get h k k (by simp [hk])
    rw [this]; exact hv
  · cases h

section
variable {H : Type} {enc : TypeId × Value → H} {P : Program} {w : World} {base : Nat} {spare : Nat → Bool} {held : Bool}

theorem one_of {x : D} (h : ∀ cs, x ≠ .agg cs) : x.cells = [x] := by cases x <;> first | rfl | exact absurd rfl (h _)

theorem fold_mem {e : TypeId} : ∀ (l : List (DataW H)), ∀ d ∈ l, ∀ m ∈ d.weights P e, m ∈ DataW.weightsAll P e l
  | [], _, h, _, _ => by simp at h
  | x :: r, d, h, m, hm => by
    simp only [DataW.weightsAll, List.mem_append]
    rcases List.mem_cons.1 h with rfl | h
    · exact .inl hm
    · exact .inr (fold_mem r d h m hm)

def Holds (w : World) (ds : List D) (cs : List Value) : Prop := ds.length = cs.length ∧ ∀ (k : Nat) (d : D), ds[k]? = some d → ∃ v, cs[k]? = some v ∧ v.oneCell' = true ∧ VRi (World.mem w) d v

theorem Holds.one {d : D} {v : Value} (h1 : v.oneCell' = true) (h : VRi (World.mem w) d v) : Holds w [d] [v] :=
  ⟨rfl, fun k x hx => by
    cases k with
    | zero => simp at hx; subst hx; exact ⟨v, rfl, h1, h⟩
    | succ k => simp at hx⟩
theorem Holds.append {a b : List D} {x y : List Value} (h : Holds w a x) (k : Holds w b y) : Holds w (a ++ b) (x ++ y) :=
  ⟨by simp [h.1, k.1], fun i d hd => by
    by_cases hi : i < a.length
    · rw [List.getElem?_append_left hi] at hd
      rw [List.getElem?_append_left (by rw [← h.1]; exact hi)]; exact h.2 i d hd
    · rw [List.getElem?_append_right (by omega)] at hd
      rw [List.getElem?_append_right (by rw [← h.1]; omega), ← h.1]; exact k.2 _ d hd⟩

/-- What is read of an argument is what the mirror takes it for. -/
theorem trod_read : ∀ (n : Nat) (fuel : Nat) (t : TypeId) (cs : List Value) (y : DataW H) (ps : List MemPlace), plainT P n t = true → DataW.trod enc P w base spare held fuel t cs = some (y, ps) →
    (∀ m ∈ y.weights P t, m ≤ reachBytes) → ∃ ds, TD P n t ds ∧ Holds w ds cs ∧ ds.length = cs.length := by
  intro n
  induction n with
  | zero => intro fuel t cs y ps hp; simp [plainT] at hp
  | succ n ih =>
    intro fuel t cs y ps hp h hw
    simp only [plainT] at hp
    cases hu : P.underlying t with
    | none => simp [hu] at hp
    | some dsc =>
    simp only [hu] at hp
    cases dsc <;> simp only [Bool.false_eq_true] at hp
    case bool =>
      obtain ⟨b, rfl, _⟩ := DataW.trod_bool hu h
      exact ⟨[.bo b], by simp [TD, hu], Holds.one rfl (.bo b), rfl⟩
    case int k =>
      obtain ⟨x, rfl, _, hwf⟩ := DataW.trod_int hu h
      simp [Lit.wf] at hwf
      exact ⟨[.it k x], by simp [TD, hu, hwf], Holds.one rfl (.it k x), rfl⟩
    case string =>
      obtain ⟨s, rfl, hx, _⟩ := DataW.trod_string hu h
      obtain ⟨rfl, _⟩ := Prod.mk.inj hx
      refine ⟨[.st s.data.toList], ?_, Holds.one rfl ?_, rfl⟩
      · simp only [TD, hu]
        exact ⟨_, rfl, hw _ (by simp [DataW.weights])⟩
      · have := VRi.st (M := World.mem w) s.data.toList
        simpa using this
    case slice e =>
      simp only [Bool.and_eq_true, decide_eq_true_eq] at hp
      obtain ⟨⟨⟨hp, hpos⟩, hag⟩, hone⟩ := hp
      rcases DataW.trod_slice hu h with ⟨rfl, _⟩ | ⟨a, len, cap, elems, rest, m, rfl, rfl, hx, hb, hl, hm, hlen, hel, _, _⟩
      · exact ⟨[.vec (P.cellsOf e) false []], by simp [TD, hu], Holds.one rfl (.vec _ false [] none 0 (Nat.le_refl _) (fun h => by cases h) (fun e he => by simp at he) hpos (fun _ => undef) (fun h => absurd rfl h) (fun k hk => by simp [flat] at hk) (fun k d hd => by simp [flat] at hd)), rfl⟩
      · obtain ⟨rfl, _⟩ := Prod.mk.inj hx
        simp only [DataW.weights, hu, List.mem_cons, List.mem_append] at hw
        have hfirst := hw _ (.inl rfl)
        have hex : ∀ i, ∃ x : D, i < len → (x.cells.length = P.cellsOf e ∧ TD P n e x.cells ∧ (aggT P e = some true → ∃ cs, x = .agg cs) ∧ (aggT P e = some false → x.cells = [x])) ∧
            ∀ (k : Nat) (d : D), x.cells[k]? = some d → ∃ v, w.cell? ((a.add (i * P.cellsOf e)).add k) = some v ∧ v.oneCell' = true ∧ VRi (World.mem w) d v := by
          intro i
          by_cases hi : i < len
          · have h1 := hel i hi
            rw [List.getElem?_eq_getElem (by omega)] at h1
            rw [Option.bind_eq_some_iff] at h1
            obtain ⟨cs', hc', ht'⟩ := h1
            obtain ⟨hcl, hcg⟩ := cells_get hc'
            obtain ⟨ds, d1, d2, d3⟩ := ih m e cs' (elems[i]'(by omega)).1 (elems[i]'(by omega)).2 hp ht' (fun q hq => hw q (.inr (.inl (fold_mem _ _ (List.mem_map.2 ⟨_, List.getElem_mem _, rfl⟩) q hq))))
            cases hg : aggT P e with
            | none => simp [hg] at hag
            | some g =>
            cases g with
            | true =>
              refine ⟨.agg ds, fun _ => ⟨⟨by simp [D.cells, d3, hcl], d1, fun _ => ⟨ds, rfl⟩, fun h => by simp at h⟩, fun k d hd => ?_⟩⟩
              obtain ⟨v, v1, v2, v3⟩ := d2.2 k d hd
              exact ⟨v, hcg k v v1, v2, v3⟩
            | false =>
              have hc1 : P.cellsOf e = 1 := by simpa [hg] using hone
              obtain ⟨x, rfl⟩ : ∃ x, ds = [x] := by
                match ds, (by omega : ds.length = 1) with
                | [x], _ => exact ⟨x, rfl⟩
              have hxa : ∀ cs, x ≠ .agg cs := by
                intro cs hc
                subst hc
                obtain ⟨v, v1, v2, v3⟩ := d2.2 0 _ rfl
                cases v3
                simp [Value.oneCell'] at v2
              refine ⟨x, fun _ => ⟨⟨by rw [one_of hxa, hc1]; rfl, by rw [one_of hxa]; exact d1, fun h => by simp at h, fun _ => one_of hxa⟩, fun k d hd => ?_⟩⟩
              rw [one_of hxa] at hd
              obtain ⟨v, v1, v2, v3⟩ := d2.2 k d hd
              exact ⟨v, hcg k v v1, v2, v3⟩
          · exact ⟨.un, fun hc => absurd hc hi⟩
        obtain ⟨f, hf⟩ := Classical.axiomOfChoice hex
        have hget : ∀ {i : Nat} {x : D}, ((List.range len).map f)[i]? = some x → i < len ∧ x = f i := by
          intro i x hx
          have hi : i < len := by have := (List.getElem?_eq_some_iff.1 hx).1; simpa using this
          rw [List.getElem?_map, List.getElem?_range hi] at hx
          simp at hx
          exact ⟨hi, hx.symm⟩
        have hmem : ∀ x ∈ (List.range len).map f, x.cells.length = P.cellsOf e ∧ TD P n e x.cells ∧ (aggT P e = some true → ∃ cs, x = .agg cs) ∧ (aggT P e = some false → x.cells = [x]) := by
          intro x hx
          obtain ⟨i, hi⟩ := List.mem_iff_getElem?.1 hx
          obtain ⟨h1, rfl⟩ := hget hi
          exact (hf i h1).1
        refine ⟨[.vec (P.cellsOf e) false ((List.range len).map f)], ?_, Holds.one rfl ?_, rfl⟩
        · simp only [TD, hu]
          refine ⟨_, rfl, ?_, hmem⟩
          have h2 : len * P.bytesOf e ≤ (elems.length + rest.length) * P.bytesOf e := Nat.mul_le_mul_right _ (by omega)
          simp at hfirst
          simp
          omega
        · have := vec_mk (M := World.mem w) (sz := P.cellsOf e) (cl := false) (es := (List.range len).map f) (a := some a) (c := cap) (by simpa using hl) (fun h => by cases h) (fun x hx => (hmem x hx).1) hpos
            (fun _ => ⟨a, rfl, fun k d hd => by
              obtain ⟨i, j, x, rfl, hj, hx, hd'⟩ := flat_ix hpos (fun x hx => (hmem x hx).1) hd
              obtain ⟨h1, rfl⟩ := hget hx
              obtain ⟨v, v1, v2, v3⟩ := (hf i h1).2 j d hd'
              rw [addr_add_add] at v1
              exact ⟨v, v1, v2, v3⟩⟩)
          simpa using this
    case struct fs =>
      simp only [Bool.and_eq_true] at hp
      obtain ⟨hpf, hlay⟩ := hp
      obtain ⟨xs, m, rfl, hx, hcl, hxl, hg⟩ := DataW.trod_struct hu h
      obtain ⟨rfl, _⟩ := Prod.mk.inj hx
      simp only [DataW.weights, hu] at hw
      have key : ∀ (l : List Field) (zs : List (DataW H × List MemPlace)) (off : Nat), layB P off l (P.cellsOf t) = true → off ≤ P.cellsOf t → l.all (fun f => plainT P n f.type) = true → zs.length = l.length →
          (∀ (i : Nat) (f : Field), l[i]? = some f → DataW.trod enc P w base spare held m f.type ((cs.drop f.offset).take (P.cellsOf f.type)) = zs[i]?) →
          (∀ q ∈ DataW.weightsEach P (l.map (·.type)) (zs.map (·.1)), q ≤ reachBytes) →
          ∃ ds, l.foldr (fun f Q ds => ∃ a b, ds = a ++ b ∧ a.length = P.cellsOf f.type ∧ TD P n f.type a ∧ Q b) (fun ds => ds = []) ds ∧ Holds w ds (cs.drop off) ∧ ds.length = (cs.drop off).length := by
        intro l
        induction l with
        | nil =>
          intro zs off hlay hoff _ _ _ _
          simp [layB] at hlay
          have : cs.drop off = [] := List.drop_eq_nil_of_le (by omega)
          exact ⟨[], rfl, by rw [this]; exact ⟨rfl, fun k d hd => by simp at hd⟩, by rw [this]; rfl⟩
        | cons f r ihl =>
          intro zs off hlay hoff hpl hzl hgz hwz
          simp only [layB, Bool.and_eq_true, beq_iff_eq] at hlay
          obtain ⟨hfo, hlay⟩ := hlay
          simp only [List.all_cons, Bool.and_eq_true] at hpl
          match zs, hzl with
          | z :: zs, hzl =>
          simp only [List.length_cons, Nat.add_right_cancel_iff] at hzl
          have h0 := hgz 0 f rfl
          simp only [List.getElem?_cons_zero] at h0
          simp only [List.map_cons, DataW.weightsEach, List.mem_append] at hwz
          obtain ⟨d0, t0, H0, l0⟩ := ih m f.type _ z.1 z.2 hpl.1 h0 (fun q hq => hwz q (.inl hq))
          have hoff' : off + P.cellsOf f.type ≤ P.cellsOf t := by
            clear ihl hgz hwz h0 H0 t0 l0
            have : ∀ (l : List Field) (o : Nat), layB P o l (P.cellsOf t) = true → o ≤ P.cellsOf t := by
              intro l
              induction l with
              | nil => intro o h; simp [layB] at h; omega
              | cons g r ih => intro o h; simp only [layB, Bool.and_eq_true] at h; have := ih _ h.2; omega
            exact this r _ hlay
          have hl0 : d0.length = P.cellsOf f.type := by rw [l0, hfo]; simp; omega
          obtain ⟨d1, t1, H1, l1⟩ := ihl zs (off + P.cellsOf f.type) hlay hoff' hpl.2 hzl (fun i g hgi => by have := hgz (i + 1) g (by simpa using hgi); simpa using this) (fun q hq => hwz q (.inr hq))
          have hsplit : cs.drop off = (cs.drop f.offset).take (P.cellsOf f.type) ++ cs.drop (off + P.cellsOf f.type) := by
            rw [hfo, ← List.drop_drop, List.take_append_drop]
          refine ⟨d0 ++ d1, ?_, ?_, ?_⟩
          · simp only [List.foldr_cons]
            exact ⟨d0, d1, rfl, hl0, t0, t1⟩
          · rw [hsplit]; exact H0.append H1
          · rw [hsplit]; simp [l0, l1]
      obtain ⟨ds, h1, h2, h3⟩ := key fs.toList xs 0 hlay (Nat.zero_le _) hpf (by simpa using hxl) (fun i f hf => hg i f (by simpa using hf)) hw
      simp only [List.drop_zero] at h2 h3
      exact ⟨ds, by simp only [TD, hu]; exact h1, h2, h3⟩
end
end Go.Mir

/- The mirror machine, part 31: from what a function answers to what a law's row asks. Nothing is claimed of any program here. -/
set_option linter.unusedSimpArgs false
set_option linter.unusedVariables false
namespace Go.Mir
open Go Go.RowKit

def TD1 (P : Program) (n : Nat) (t : TypeId) (d : D) : Prop := (aggT P t = some true ∧ ∃ cs, d = .agg cs ∧ TD P n t cs) ∨ (aggT P t = some false ∧ TD P n t [d])
def TDA (P : Program) (n : Nat) : List TypeId → List D → Prop
  | [], ds => ds = []
  | t :: ts, ds => ∃ d r, ds = d :: r ∧ TD1 P n t d ∧ TDA P n ts r

section
variable {H : Type} {enc : TypeId × Value → H} {P : Program} {w : World} {base : Nat}

theorem cells_one {v : Value} (h : v.oneCell' = true) : v.cells.toList = [v] := by cases v <;> first | rfl | (simp [Value.oneCell'] at h)
theorem holds_one {d : D} {v : Value} (h : Mir.Holds w [d] [v]) : VRi (World.mem w) d v := by
  obtain ⟨u, h1, _, h3⟩ := h.2 0 d rfl
  simp at h1; subst h1; exact h3

theorem arg_read {n : Nat} {t : TypeId} {v : Value} {y : DataW H} {p : List MemPlace} {spare : Nat → Bool} (hp : plainT P n t = true) (hv : Value.okWide P w .any base t v) (h : DataW.Trod enc P w 0 spare true t v y p)
    (hw : ∀ m ∈ y.weights P t, m ≤ reachBytes) : ∃ d, TD1 P n t d ∧ VRi (World.mem w) d v := by
  obtain ⟨fuel, hf⟩ := h
  obtain ⟨ds, h1, h2, h3⟩ := trod_read n fuel t _ y p hp hf hw
  have hflat : aggT P t = some false → v.oneCell' = true → ∃ d, TD1 P n t d ∧ VRi (World.mem w) d v := by
    intro ha ho
    rw [cells_one ho] at h2 h3
    match ds, h3 with
    | [d], _ => exact ⟨d, .inr ⟨ha, h1⟩, holds_one h2⟩
  cases n with
  | zero => simp [plainT] at hp
  | succ n =>
  simp only [plainT] at hp
  cases hu : P.underlying t with
  | none => simp [hu] at hp
  | some dsc =>
  simp only [hu] at hp
  cases dsc <;> simp only [Bool.false_eq_true] at hp
  case bool => obtain ⟨b, rfl⟩ := WideShapes.okWide_bool hu hv; exact hflat (by simp [aggT, hu]) rfl
  case int k => obtain ⟨x, rfl⟩ := WideShapes.okWide_int hu hv; exact hflat (by simp [aggT, hu]) rfl
  case string => obtain ⟨s, rfl⟩ := WideShapes.okWide_string hu hv; exact hflat (by simp [aggT, hu]) rfl
  case slice e => obtain ⟨a, l, c, rfl⟩ := WideShapes.okWide_slice hu hv; exact hflat (by simp [aggT, hu]) rfl
  case struct fs =>
    obtain ⟨cs, rfl, hcs⟩ := WideShapes.okWide_struct hu hv
    refine ⟨.agg ds, .inl ⟨by simp [aggT, hu], ds, rfl, h1⟩, ?_⟩
    simp only [Value.cells] at h2 h3
    refine .agg ds cs (by simp at h3; omega) (fun k => cs.getD k undef) (fun k hk => by simp [hk]) (fun k hk => ?_) (fun k d hd => ?_)
    · have hk' : k < ds.length := by simp at h3; omega
      obtain ⟨v, v1, v2, _⟩ := h2.2 k _ (List.getElem?_eq_getElem hk')
      rw [Array.getElem?_toList] at v1
      rw [Array.getD_eq_getD_getElem?, v1]; exact v2
    · obtain ⟨v, v1, v2, v3⟩ := h2.2 k d hd
      rw [Array.getElem?_toList] at v1
      rw [Array.getD_eq_getD_getElem?, v1]; exact v3

theorem args_read {n : Nat} {spare : Nat → Bool} : ∀ (ts : List TypeId) (vs : List Value) (ys : List (DataW H)) (p : List MemPlace), ts.all (plainT P n) = true → DataW.TrodAll enc P w 0 spare true ts vs ys p →
    (∀ (j : Nat) t v, ts[j]? = some t → vs[j]? = some v → Value.okWide P w .any base t v) → (∀ m ∈ DataW.weightsEach P ts ys, m ≤ reachBytes) →
    ∃ ds, TDA P n ts ds ∧ vs.length = ds.length ∧ ∀ (k : Nat) (d : D), ds[k]? = some d → ∃ v, vs[k]? = some v ∧ VRi (World.mem w) d v
  | [], [], [], _, _, _, _, _ => ⟨[], rfl, rfl, fun k d hd => by simp at hd⟩
  | t :: ts, v :: vs, y :: ys, p, hp, hA, hv, hw => by
    obtain ⟨p1, p2, h1, h2, _⟩ := hA
    simp only [List.all_cons, Bool.and_eq_true] at hp
    simp only [DataW.weightsEach, List.mem_append] at hw
    obtain ⟨d, d1, d2⟩ := arg_read hp.1 (hv 0 t v rfl rfl) h1 (fun m hm => hw m (.inl hm))
    obtain ⟨ds, e1, e2, e3⟩ := args_read ts vs ys p2 hp.2 h2 (fun j t v ht hv' => hv (j + 1) t v (by simpa using ht) (by simpa using hv')) (fun m hm => hw m (.inr hm))
    refine ⟨d :: ds, ⟨d, ds, rfl, d1, e1⟩, by simp [e2], fun k x hx => ?_⟩
    cases k with
    | zero => simp at hx; subst hx; exact ⟨v, rfl, d2⟩
    | succ k => exact e3 k x (by simpa using hx)
  | [], _ :: _, _, _, _, h, _, _ => by cases ‹List (DataW H)› <;> simp [DataW.TrodAll] at h
  | [], [], _ :: _, _, _, h, _, _ => by simp [DataW.TrodAll] at h
  | _ :: _, [], _, _, _, h, _, _ => by cases ‹List (DataW H)› <;> simp [DataW.TrodAll] at h
  | _ :: _, _ :: _, [], _, _, h, _, _ => by simp [DataW.TrodAll] at h

/-- A law's call, from its contract. -/
theorem law_run {n : Nat} {g : FuncId} {F : List D → Option Res} {ts : List TypeId} {args : Array Value} {ys : List (DataW H)} {p : List MemPlace} {spare : Nat → Bool} (hF : PureOK P g F) (hp : ts.all (plainT P n) = true)
    (hA : DataW.TrodAll enc P w 0 spare true ts args.toList ys p) (hv : ∀ (j : Nat) t v, ts[j]? = some t → args[j]? = some v → Value.okWide P w .any base t v)
    (hw : (DataW.weightsEach P ts ys).all (· ≤ reachBytes) = true) (hT : ∀ ds, TDA P n ts ds → F ds = some (Res.flat (.bo true))) :
    Calls P g args w fun e w' => e = .returned (.bool true) ∧ Below w.heap.size w w' := by
  obtain ⟨ds, d1, d2, d3⟩ := args_read ts args.toList ys p hp hA (fun j t v ht hv' => hv j t v ht (by simpa using hv')) (fun m hm => by simpa using List.all_eq_true.1 hw m hm)
  have hc := (hF.2 ds _ (hT ds d1)).2 (World.mem w) w args.toList (fun a v h => h) d2 d3
  refine hc.mono fun e w' hq => ?_
  obtain ⟨v, Mr, μ, rfl, hb, _, _, _, hr⟩ := hq
  refine ⟨?_, hb⟩
  simp only [Res.flat] at hr
  cases hr with
  | imm h => cases h; rfl
  | leaf h => exact h.elim

/-- What an argument read as, it reads as. -/
theorem args_stay {spare : Nat → Bool} (hl : laidOutB P = true) {w' : World} (hb : Below w.heap.size w w') : ∀ (ts : List TypeId) (vs : List Value) (ys : List (DataW H)) (p : List MemPlace), ts.all (fun t => P.readableRec t && decide (t < P.types.size)) = true →
    DataW.TrodAll enc P w 0 (fun _ => true) true ts vs ys p → DataW.TrodAll enc P w' 0 (fun b => decide (b < w.heap.size)) true ts vs ys p
  | [], [], [], _, _, h => h
  | t :: ts, v :: vs, y :: ys, p, hr, h => by
    obtain ⟨p1, p2, h1, h2, rfl⟩ := h
    simp only [List.all_cons, Bool.and_eq_true, decide_eq_true_eq] at hr
    exact ⟨p1, p2, Below.trod hl hr.1.1 hr.1.2 h1 hb (by obtain ⟨m, hm⟩ := h1; exact DataW.trod_lt m _ _ _ hm), args_stay (spare := spare) hl hb ts vs ys p2 hr.2 h2, rfl⟩
  | [], _ :: _, _, _, _, h => by cases ‹List (DataW H)› <;> simp [DataW.TrodAll] at h
  | [], [], _ :: _, _, _, h => by simp [DataW.TrodAll] at h
  | _ :: _, [], _, _, _, h => by cases ‹List (DataW H)› <;> simp [DataW.TrodAll] at h
  | _ :: _, _ :: _, [], _, _, h => by simp [DataW.TrodAll] at h
end
end Go.Mir

/- The mirror machine, part 32: operations of a region whose order is drawn, one by one. Nothing is claimed of any program here. -/
set_option linter.unusedSimpArgs false
set_option linter.unusedVariables false
namespace Go.Mir
open Go Go.RowKit
section
variable {cx : Cx} {l : List Nat} {nx bef i : Nat} {env : Nat → D} {H : Hp} {dst : Option Tmp} {ty t : TypeId} {pos : String} {after : Array Edge} {g : Option (Nat × Bool)} {x y z : Operand}

theorem step_move : stepD cx nx bef i ⟨dst, .move x, ty, pos, after, g⟩ env H = some (ev env x, H) := by simp [stepD, kindO, opD]
theorem step_assign (hx : nilC x = false) : stepD cx nx bef i ⟨dst, .assign x, ty, pos, after, g⟩ env H = some (ev env x, H) := by simp [stepD, kindO, opD, hx]
theorem step_pick : stepD cx nx bef i ⟨dst, .pick x y z, ty, pos, after, g⟩ env H = match ev env x with | .bo t => some (if t then ev env y else ev env z, H) | _ => none := by
  simp only [stepD, kindO, opD, if_true]
  cases ev env x <;> rfl
theorem step_build {ps : Array (Nat × Operand)} : stepD cx nx bef i ⟨dst, .build t ps, ty, pos, after, g⟩ env H = (buildD cx.P t (ps.toList.map fun (i, x) => (i, ev env x))).map fun d => (d, H) := by
  simp only [stepD, kindO, opD, if_true, Option.map_map, Function.comp_def]
theorem step_bin {op : BinOp} {t' : TypeId} : stepD cx nx bef i ⟨dst, .binOp op t x y t', ty, pos, after, g⟩ env H = (binD cx.P op t (ev env x) (ev env y)).map fun d => (d, H) := by
  simp only [stepD, kindO, opD, if_true, Option.map_map, Function.comp_def]
theorem step_un {op : UnOp} : stepD cx nx bef i ⟨dst, .unOp op t x, ty, pos, after, g⟩ env H = (unD op (ev env x)).map fun d => (d, H) := by
  simp only [stepD, kindO, opD, if_true, Option.map_map, Function.comp_def]
theorem step_field {f : Nat} : stepD cx nx bef i ⟨dst, .field t x f, ty, pos, after, g⟩ env H = match ev env x with | .agg cs => (fieldT cx.P t f).bind fun fl => (partD cx.P fl.type cs fl.offset).map fun d => (d, H) | _ => none := by
  simp only [stepD, kindO, opD, if_true]
  cases ev env x <;> simp [Option.map_map, Function.comp_def, Option.map_bind]
theorem step_index : stepD cx nx bef i ⟨dst, .index t x y, ty, pos, after, g⟩ env H = (indexD cx.P t (ev env x) (ev env y)).map fun d => (d, H) := by
  simp only [stepD, kindO, opD, if_true, Option.map_map, Function.comp_def]
theorem step_makeFunc {fn : Fn} {first caps : Array Operand} : stepD cx nx bef i ⟨dst, .makeFunc fn first caps, ty, pos, after, g⟩ env H = some (.fn fn (first.toList.map (ev env)) (caps.toList.map (ev env)), H) := by simp [stepD, kindO, opD]
theorem step_extract {j : Nat} : stepD cx nx bef i ⟨dst, .extract x j, ty, pos, after, g⟩ env H = match ev env x with | .tup ds => (ds[j]?).map fun d => (d, H) | _ => none := by
  simp only [stepD, kindO, opD, if_true]
  cases ev env x <;> simp [Option.map_map, Function.comp_def]

/-- An operation that reads, of which the roots lead to nothing of the call's own, or to plain rows that were there. -/
def okId (nx bef i id : Nat) : Bool := (decide (id < nx) || bef.testBit ((id - nx) / 64)) && (decide (id < nx + i * 64) || decide (nx + i * 64 + 64 ≤ id))
def okRoots (nx bef i : Nat) (H : Hp) (l : List Nat) : Bool := decide (l.length ≤ 60) && l.all fun id => okId nx bef i id && (refsB (H id)).isEmpty

theorem reach_flat {H : Hp} : ∀ (n : Nat) (l acc : List Nat), (∀ id ∈ l, refsB (H id) = []) → ∃ r, reach H n l acc = r ∧ (∀ id ∈ r, id ∈ l ∨ id ∈ acc) ∧ (∀ id ∈ acc, id ∈ r) ∧ (l.length ≤ n → ∀ id ∈ l, id ∈ r) := by
  intro n
  induction n with
  | zero => intro l acc h; refine ⟨_, rfl, fun id hid => ?_, fun id hid => ?_, fun hl id hid => ?_⟩
            · simp [reach] at hid; exact .inr hid
            · simp [reach]; exact hid
            · have : l = [] := List.length_eq_zero_iff.1 (by omega)
              subst this; simp at hid
  | succ n ih =>
    intro l acc h
    cases l with
    | nil => exact ⟨_, rfl, fun id hid => by simp [reach] at hid; exact .inr hid, fun id hid => by simp [reach]; exact hid, fun _ id hid => by simp at hid⟩
    | cons a r =>
      simp only [reach]
      split
      · rename_i hc
        obtain ⟨q, q1, q2, q3, q4⟩ := ih r acc (fun id hid => h id (by simp [hid]))
        refine ⟨q, q1, fun id hid => ?_, q3, fun hl id hid => ?_⟩
        · rcases q2 id hid with h1 | h1
          · exact .inl (by simp [h1])
          · exact .inr h1
        · rcases List.mem_cons.1 hid with rfl | hid
          · exact q3 _ (by simpa using hc)
          · exact q4 (by simp at hl; omega) id hid
      · rename_i hc
        rw [h a (by simp), List.nil_append]
        obtain ⟨q, q1, q2, q3, q4⟩ := ih r (acc ++ [a]) (fun id hid => h id (by simp [hid]))
        refine ⟨q, q1, fun id hid => ?_, fun id hid => q3 id (by simp [hid]), fun hl id hid => ?_⟩
        · rcases q2 id hid with h1 | h1
          · exact .inl (by simp [h1])
          · rcases List.mem_append.1 h1 with h1 | h1
            · exact .inr h1
            · simp at h1; exact .inl (by simp [h1])
        · rcases List.mem_cons.1 hid with rfl | hid
          · exact q3 _ (by simp)
          · exact q4 (by simp at hl; omega) id hid

theorem okId_off {nx bef i id : Nat} (h : okId nx bef i id = true) : id < nx + i * 64 ∨ nx + i * 64 + 64 ≤ id := by
  simp only [okId, Bool.and_eq_true, Bool.or_eq_true, decide_eq_true_eq] at h
  exact h.2

/-- What was reached, where only plain rows can be. -/
theorem step_ids {nx bef i : Nat} {H : Hp} {l : List Nat} (hr : okRoots nx bef i H l = true) : ∃ q, reach H 60 l [] = q ∧ (∀ id ∈ q, id ∈ l ∧ okId nx bef i id = true ∧ refsB (H id) = []) ∧ (∀ id ∈ l, id ∈ q) ∧ closed H q = true ∧ l.all (fun j => q.contains j) = true ∧ q.all (vis nx bef) = true := by
  simp only [okRoots, Bool.and_eq_true, decide_eq_true_eq] at hr
  obtain ⟨hlen, hr⟩ := hr
  have hr' : ∀ id ∈ l, okId nx bef i id = true ∧ refsB (H id) = [] := fun id hid => by
    have := List.all_eq_true.1 hr id hid
    simpa using this
  obtain ⟨q, q1, q2, q3, q4⟩ := reach_flat (H := H) 60 l [] (fun id hid => (hr' id hid).2)
  have hq : ∀ id ∈ q, id ∈ l ∧ okId nx bef i id = true ∧ refsB (H id) = [] := fun id hid => by
    rcases q2 id hid with h1 | h1
    · exact ⟨h1, hr' id h1⟩
    · simp at h1
  refine ⟨q, q1, hq, q4 hlen, ?_, ?_, ?_⟩
  · simp only [closed, List.all_eq_true]
    intro id hid
    rw [(hq id hid).2.2]; simp
  · simp only [List.all_eq_true]
    intro id hid
    simpa using q4 hlen id hid
  · simp only [List.all_eq_true]
    intro id hid
    have := (hq id hid).2.1
    simp only [okId, Bool.and_eq_true] at this
    exact this.1

/-- New blocks in an operation's slot. -/
def putSlot (H : Hp) (nid : Nat) (hs : List Blk) : Hp := fun id => if nid ≤ id ∧ id < nid + 64 then ofHp hs (id - nid) else H id
theorem putSlot_in {nid k : Nat} {hs : List Blk} (h : k < 64) : putSlot H nid hs (nid + k) = ofHp hs k := by
  unfold putSlot; rw [if_pos (by omega)]; congr 1; omega
theorem putSlot_off {nid id : Nat} {hs : List Blk} (h : id < nid ∨ nid + 64 ≤ id) : putSlot H nid hs id = H id := by
  unfold putSlot; rw [if_neg (by omega)]

/-- Such an operation that makes new blocks, or none. -/
theorem step_make {o : Oper} {X : Option (D × List Blk)} (hk : kindO cx.rd o.op = 1) (hr : okRoots nx bef i H (roots env o) = true)
    (h : ∀ H' : Hp, (∀ id ∈ roots env o, H' id = H id) → opD cx env o H' (nx + i * 64) = X.map fun r => (r.1, putAll H' (nx + i * 64) r.2, nx + i * 64 + r.2.length)) (hl : ∀ r, X = some r → r.2.length ≤ 64) :
    stepD cx nx bef i o env H = X.map fun r => (r.1, if r.2.isEmpty then H else putSlot H (nx + i * 64) r.2) := by
  obtain ⟨q, q1, hq, q4, h1, h2, h3⟩ := step_ids hr
  unfold stepD
  rw [if_neg (by omega)]
  simp only [q1]
  rw [h1, h2, h3]
  have hK := h (restr q H) (fun id hid => by unfold restr; rw [if_pos (by simpa using q4 id hid)])
  cases X with
  | none => simp [hK]
  | some r =>
    have hl' := hl r rfl
    simp only [hK, Bool.and_self, if_true, Option.map_some, Option.bind_some, hk, true_and]
    rw [if_pos (by omega)]
    congr 2
    by_cases he : r.2 = []
    · simp [he]
    · have hne : ¬ r.2.length = 0 := by simpa using he
      rw [if_neg (by omega), if_neg (by simpa using he)]
      funext id
      unfold mend putSlot putAll restr
      by_cases hid : nx + i * 64 ≤ id ∧ id < nx + i * 64 + 64
      · rw [if_pos (by simp [hid]), if_pos hid]
        rw [ofHp_get]
        split
        · have hnm : ¬ id ∈ q := fun hm => by have := okId_off (hq id hm).2.1; omega
          simp [hnm]
        · rw [List.getElem?_eq_none (by omega)]
          have hnm : ¬ id ∈ q := fun hm => by have := okId_off (hq id hm).2.1; omega
          simp [hnm]
      · rw [if_neg hid]
        by_cases hm : id ∈ q
        · rcases okId_off (hq id hm).2.1 with h5 | h5
          · rw [if_pos (by simp [hm]), if_neg (by omega), if_pos (by simpa using hm)]
          · rw [if_pos (by simp [hm]), if_pos (by omega), List.getElem?_eq_none (by omega), Option.getD_none, if_pos (by simpa using hm)]
        · rw [if_neg (by simp [hm]; omega)]
/-- Such an operation, by what it does with the blocks that it looks at. -/
theorem step_read {o : Oper} {X : Option D} (hk : kindO cx.rd o.op = 1) (hr : okRoots nx bef i H (roots env o) = true)
    (h : ∀ H' : Hp, (∀ id ∈ roots env o, H' id = H id) → opD cx env o H' (nx + i * 64) = X.map fun r => (r, H', nx + i * 64)) : stepD cx nx bef i o env H = X.map fun r => (r, H) := by
  have := step_make (bef := bef) (X := X.map fun r => (r, [])) hk hr (fun H' hH => by rw [h H' hH]; cases X <;> simp [putAll_nil]) (fun r hr => by cases X <;> simp at hr; subst hr; simp)
  rw [this]
  cases X <;> simp

theorem deref_look {H H' : Hp} {d : D} (h : ∀ id ∈ refs d, H' id = H id) : deref H' d = deref H d := by
  unfold deref
  cases d <;> (try simp only [refs, List.mem_singleton, forall_eq] at h) <;> first | rfl | (simp only [h]; done)
theorem index_look {P : Program} {H H' : Hp} {d k : D} (h : ∀ id ∈ refs d, H' id = H id) : indexAddrD P H' t d k = indexAddrD P H t d k := by
  unfold indexAddrD
  cases d <;> (try simp only [refs, List.mem_singleton, forall_eq] at h) <;> first | rfl | (simp only [h]; done) | (cases P.underlying t with | none => rfl | some u => cases u <;> first | rfl | (simp only [h]; done))
theorem field_look {P : Program} {H H' : Hp} {d : D} {f : Nat} (h : ∀ id ∈ refs d, H' id = H id) : fieldAddrD P H' t d f = fieldAddrD P H t d f := by
  unfold fieldAddrD
  cases d <;> (try simp only [refs, List.mem_singleton, forall_eq] at h) <;> first | rfl | (simp only [h]; done)
theorem nil_look {H H' : Hp} {d : D} (h : ∀ id ∈ refs d, H' id = H id) : nilCheckD H' d = nilCheckD H d := by
  unfold nilCheckD
  cases d <;> (try simp only [refs, List.mem_singleton, forall_eq] at h) <;> first | rfl | (simp only [h]; done) | (rename_i f _ _; cases f <;> rfl)
theorem len_look {P : Program} {H H' : Hp} {d : D} (h : ∀ id ∈ refs d, H' id = H id) : lenD P H' t d = lenD P H t d := by
  unfold lenD
  cases d <;> (try simp only [refs, List.mem_singleton, forall_eq] at h) <;> first | rfl | (simp only [h]; done) | (cases P.underlying t with | none => rfl | some u => cases u <;> first | rfl | (simp only [h]; done))
theorem slice_look {P : Program} {H H' : Hp} {d : D} {lo hi mx : Option D} (h : ∀ id ∈ refs d, H' id = H id) : sliceD P H' t d lo hi mx = sliceD P H t d lo hi mx := by
  unfold sliceD
  cases d <;> (try simp only [refs, List.mem_singleton, forall_eq] at h) <;> first | rfl | (simp only [h]; done) | (cases P.underlying t with | none => rfl | some u => cases u <;> first | rfl | (simp only [h]; done))
theorem lookup_look {P : Program} {H H' : Hp} {d k : D} {b : Bool} (h : ∀ id ∈ refs d, H' id = H id) : lookupD P H' t d k b = lookupD P H t d k b := by
  unfold lookupD
  cases d <;> (try simp only [refs, List.mem_singleton, forall_eq] at h) <;> first | rfl | (simp only [h]; done) | (cases P.underlying t with | none => rfl | some u => cases u <;> first | rfl | (simp only [h]; done))
theorem elems_look {H H' : Hp} {d : D} {n : Nat} (h : ∀ id ∈ refs d, H' id = H id) : elems H' n d = elems H n d := by
  unfold elems
  cases d <;> (try simp only [refs, List.mem_singleton, forall_eq] at h) <;> first | rfl | (simp only [h]; done)
theorem step_load (hr : okRoots nx bef i H (refs (ev env x)) = true) : stepD cx nx bef i ⟨dst, .load t x, ty, pos, after, g⟩ env H = ((deref H (ev env x)).bind fun cs => ldD cx.P t cs).map fun d => (d, H) := by
  have hro : roots env ⟨dst, .load t x, ty, pos, after, g⟩ = refs (ev env x) := by simp [roots, Op.operands]
  refine step_read rfl (by rw [hro]; exact hr) (fun H' hH => ?_)
  rw [hro] at hH
  rw [op_load, deref_look hH]
  cases deref H (ev env x) <;> rfl
theorem step_nilCheck (hr : okRoots nx bef i H (refs (ev env x)) = true) : stepD cx nx bef i ⟨dst, .nilCheck x, ty, pos, after, g⟩ env H = (nilCheckD H (ev env x)).map fun d => (d, H) := by
  have hro : roots env ⟨dst, .nilCheck x, ty, pos, after, g⟩ = refs (ev env x) := by simp [roots, Op.operands]
  refine step_read rfl (by rw [hro]; exact hr) (fun H' hH => ?_)
  rw [hro] at hH
  rw [op_nilCheck, nil_look hH]
theorem step_fieldAddr {f : Nat} (hr : okRoots nx bef i H (refs (ev env x)) = true) : stepD cx nx bef i ⟨dst, .fieldAddr t x f, ty, pos, after, g⟩ env H = (fieldAddrD cx.P H t (ev env x) f).map fun d => (d, H) := by
  have hro : roots env ⟨dst, .fieldAddr t x f, ty, pos, after, g⟩ = refs (ev env x) := by simp [roots, Op.operands]
  refine step_read rfl (by rw [hro]; exact hr) (fun H' hH => ?_)
  rw [hro] at hH
  rw [op_fieldAddr, field_look hH]
theorem step_indexAddr (hr : okRoots nx bef i H (refs (ev env x) ++ refs (ev env y)) = true) : stepD cx nx bef i ⟨dst, .indexAddr t x y, ty, pos, after, g⟩ env H = (indexAddrD cx.P H t (ev env x) (ev env y)).map fun d => (d, H) := by
  have hro : roots env ⟨dst, .indexAddr t x y, ty, pos, after, g⟩ = refs (ev env x) ++ refs (ev env y) := by simp [roots, Op.operands]
  refine step_read rfl (by rw [hro]; exact hr) (fun H' hH => ?_)
  rw [hro] at hH
  rw [op_indexAddr, index_look (fun id hid => hH id (by simp [hid]))]
theorem step_lookup {b : Bool} (hr : okRoots nx bef i H (refs (ev env x) ++ refs (ev env y)) = true) : stepD cx nx bef i ⟨dst, .lookup t x y b, ty, pos, after, g⟩ env H = (lookupD cx.P H t (ev env x) (ev env y) b).map fun d => (d, H) := by
  have hro : roots env ⟨dst, .lookup t x y b, ty, pos, after, g⟩ = refs (ev env x) ++ refs (ev env y) := by simp [roots, Op.operands]
  refine step_read rfl (by rw [hro]; exact hr) (fun H' hH => ?_)
  rw [hro] at hH
  rw [op_lookup, lookup_look (fun id hid => hH id (by simp [hid]))]
theorem step_slice {lo hi mx : Option Operand} (hr : okRoots nx bef i H (roots env ⟨dst, .slice t x lo hi mx, ty, pos, after, g⟩) = true) : stepD cx nx bef i ⟨dst, .slice t x lo hi mx, ty, pos, after, g⟩ env H = (sliceD cx.P H t (ev env x) (lo.map (ev env)) (hi.map (ev env)) (mx.map (ev env))).map fun d => (d, H) := by
  refine step_read rfl hr (fun H' hH => ?_)
  rw [op_slice, slice_look (fun id hid => hH id (by simp [roots, Op.operands, hid]))]
theorem step_len (hr : okRoots nx bef i H (refs (ev env x)) = true) : stepD cx nx bef i ⟨dst, .call ⟨.builtin .len, #[x], #[t]⟩, ty, pos, after, g⟩ env H = (lenD cx.P H t (ev env x)).map fun n => (.it .i64 n, H) := by
  have hro : roots env ⟨dst, .call ⟨.builtin .len, #[x], #[t]⟩, ty, pos, after, g⟩ = refs (ev env x) := by simp [roots, Op.operands, Call.operands]
  have := step_read (cx := cx) (bef := bef) (i := i) (o := ⟨dst, .call ⟨.builtin .len, #[x], #[t]⟩, ty, pos, after, g⟩) (X := (lenD cx.P H t (ev env x)).map fun n => .it .i64 n) rfl (by rw [hro]; exact hr) (fun H' hH => by
    rw [hro] at hH
    rw [op_builtin]
    simp only [builtinD, List.map_cons, List.map_nil, Array.toList, len_look hH, Option.map_map, Function.comp_def])
  rw [this, Option.map_map]; rfl
/-- The least, the greatest of some numbers. -/
theorem step_min {args : Array Operand} {ts : Array TypeId} (hr : (args.toList.flatMap fun x => refs (ev env x)) = []) : stepD cx nx bef i ⟨dst, .call ⟨.builtin .min, args, ts⟩, ty, pos, after, g⟩ env H = (minD (fun p q => if q < p then q else p) (args.toList.map (ev env))).map fun d => (d, H) := by
  have hro : roots env ⟨dst, .call ⟨.builtin .min, args, ts⟩, ty, pos, after, g⟩ = [] := by simpa [roots, Op.operands, Call.operands] using hr
  exact step_read (cx := cx) (bef := bef) (i := i) (o := ⟨dst, .call ⟨.builtin .min, args, ts⟩, ty, pos, after, g⟩) rfl (by rw [hro]; rfl) (fun H' hH => by rw [op_builtin]; simp only [builtinD])
theorem step_max {args : Array Operand} {ts : Array TypeId} (hr : (args.toList.flatMap fun x => refs (ev env x)) = []) : stepD cx nx bef i ⟨dst, .call ⟨.builtin .max, args, ts⟩, ty, pos, after, g⟩ env H = (minD (fun p q => if p < q then q else p) (args.toList.map (ev env))).map fun d => (d, H) := by
  have hro : roots env ⟨dst, .call ⟨.builtin .max, args, ts⟩, ty, pos, after, g⟩ = [] := by simpa [roots, Op.operands, Call.operands] using hr
  exact step_read (cx := cx) (bef := bef) (i := i) (o := ⟨dst, .call ⟨.builtin .max, args, ts⟩, ty, pos, after, g⟩) rfl (by rw [hro]; rfl) (fun H' hH => by rw [op_builtin]; simp only [builtinD])
/-- A number is made one of another kind. -/
theorem step_conv {t' : TypeId} {k' : IntKind} {n : Int} (hu : (cx.P.underlying t).isSome = true) (hd : cx.P.underlying t' = some (.int k')) {k : IntKind} (hx : ev env x = .it k n) : stepD cx nx bef i ⟨dst, .convert t t' x, ty, pos, after, g⟩ env H = some (.it k' (k'.wrap n), H) := by
  have hro : roots env ⟨dst, .convert t t' x, ty, pos, after, g⟩ = [] := by simp [roots, Op.operands, hx, refs]
  obtain ⟨u, hu⟩ := Option.isSome_iff_exists.1 hu
  exact step_read (X := some (.it k' (k'.wrap n))) rfl (by rw [hro]; rfl) (fun H' hH => by simp [op_convert, convD, hu, hd, hx])

theorem mapM_look {α β : Type} {f g : α → Option β} : ∀ (l : List α), (∀ x ∈ l, f x = g x) → l.mapM f = l.mapM g
  | [], _ => rfl
  | x :: r, h => by rw [List.mapM_cons, List.mapM_cons, h x (by simp), mapM_look r (fun y hy => h y (by simp [hy]))]
theorem refsL_sub {l : List D} {d : D} (hd : d ∈ l) {id : Nat} (h : id ∈ refs d) : id ∈ refsL l := by
  obtain ⟨k, hk⟩ := List.mem_iff_getElem?.1 hd
  exact refsL_mem hk h
theorem bor_norefs {H H' : Hp} : ∀ (n : Nat) (d : D), refs d = [] → bor H' n d = bor H n d := by
  intro n
  induction n with
  | zero => intro d _; rfl
  | succ n ih =>
    intro d h
    cases d <;> simp only [bor] <;> first | rfl | (simp [refs] at h; done) | skip
    case agg cs => rw [mapM_look cs (fun x hx => ih x (by cases hh : refs x with | nil => rfl | cons a r => have := refsL_sub hx (id := a) (by rw [hh]; simp); simp [refs] at h; rw [h] at this; simp at this))]
    case tup cs => rw [mapM_look cs (fun x hx => ih x (by cases hh : refs x with | nil => rfl | cons a r => have := refsL_sub hx (id := a) (by rw [hh]; simp); simp [refs] at h; rw [h] at this; simp at this))]
    case fn f p q =>
      simp only [refs, List.append_eq_nil_iff] at h
      rw [mapM_look p (fun x hx => ih x (by cases hh : refs x with | nil => rfl | cons a r => have := refsL_sub hx (id := a) (by rw [hh]; simp); rw [h.1] at this; simp at this)),
        mapM_look q (fun x hx => ih x (by cases hh : refs x with | nil => rfl | cons a r => have := refsL_sub hx (id := a) (by rw [hh]; simp); rw [h.2] at this; simp at this))]
theorem refsB_row {sz : Nat} {es : List D} (h : refsB (.row sz false es) = []) : ∀ x ∈ es, refs x = [] := fun x hx => by
  cases hh : refs x with
  | nil => rfl
  | cons a r => have := refsL_sub hx (id := a) (by rw [hh]; simp); simp only [refsB] at h; rw [h] at this; simp at this
theorem refsB_box {es : List D} (h : refsB (.box es) = []) : ∀ x ∈ es, refs x = [] := fun x hx => by
  cases hh : refs x with
  | nil => rfl
  | cons a r => have := refsL_sub hx (id := a) (by rw [hh]; simp); simp only [refsB] at h; rw [h] at this; simp at this
theorem bor_look {H H' : Hp} : ∀ (n : Nat) (d : D), (∀ id ∈ refs d, H' id = H id ∧ refsB (H id) = []) → bor H' n d = bor H n d := by
  intro n
  induction n with
  | zero => intro d _; rfl
  | succ n ih =>
    intro d h
    cases d <;> simp only [bor] <;> try rfl
    case own id off len =>
      obtain ⟨h1, h2⟩ := h id (by simp [refs])
      rw [h1]
      cases hh : H id <;> try rfl
      rename_i sz pl es
      cases pl
      · simp only
        rw [mapM_look _ (fun x hx => bor_norefs n x (refsB_row (hh ▸ h2) x (List.mem_of_mem_drop (List.mem_of_mem_take hx))))]
      · rfl
    case ptr id off =>
      obtain ⟨h1, h2⟩ := h id (by simp [refs])
      rw [h1]
      cases hh : H id <;> try rfl
      simp only
      rw [mapM_look _ (fun x hx => bor_norefs n x (refsB_box (hh ▸ h2) x (List.mem_of_mem_drop hx)))]
    case rowp id ix off =>
      obtain ⟨h1, h2⟩ := h id (by simp [refs])
      rw [h1]
      cases hh : H id <;> try rfl
      rename_i sz pl es
      cases pl
      · simp only
        cases he : es[ix]? with
        | none => rfl
        | some e =>
          simp only [Option.bind_some]
          rw [mapM_look _ (fun x hx => bor_norefs n x (by
            have := refsB_row (hh ▸ h2) e (List.mem_of_getElem? he)
            cases hq : refs x with
            | nil => rfl
            | cons a r => have hc := cells_refs (List.mem_of_mem_drop hx) (id := a) (by rw [hq]; simp); rw [this] at hc; simp at hc))]
      · rfl
    case agg cs => rw [mapM_look cs (fun x hx => ih x (fun id hid => h id (by simp only [refs]; exact refsL_sub hx hid)))]
    case tup cs => rw [mapM_look cs (fun x hx => ih x (fun id hid => h id (by simp only [refs]; exact refsL_sub hx hid)))]
    case fn f p q =>
      rw [mapM_look p (fun x hx => ih x (fun id hid => h id (by simp only [refs, List.mem_append]; exact .inl (refsL_sub hx hid)))),
        mapM_look q (fun x hx => ih x (fun id hid => h id (by simp only [refs, List.mem_append]; exact .inr (refsL_sub hx hid))))]
/-- A call of a function that only reads. -/
theorem step_call {f : FuncId} {F : List D → Option Res} {args : Array Operand} {ts : Array TypeId} (hc : cx.rd.contains f = true) (ho : cx.orc f = some F) (hr : okRoots nx bef i H (refsL (args.toList.map (ev env))) = true) {X : Option Res}
    (hX : ((args.toList.map (ev env)).mapM (bor H 3)).bind (fun as => (F as).bind fun r => if r.al && !(immL (args.toList.map (ev env))) then none else some r) = X) (hl : ∀ r, X = some r → r.hs.length ≤ 64) :
    stepD cx nx bef i ⟨dst, .call ⟨.value (.func f), args, ts⟩, ty, pos, after, g⟩ env H = X.map fun r => (ren (fun k => some (nx + i * 64 + k)) r.r, if r.hs.isEmpty then H else putSlot H (nx + i * 64) r.hs) := by
  have hro : roots env ⟨dst, .call ⟨.value (.func f), args, ts⟩, ty, pos, after, g⟩ = refsL (args.toList.map (ev env)) := by
    have : ∀ l : List Operand, (l.flatMap fun x => refs (ev env x)) = refsL (l.map (ev env)) := by
      intro l
      induction l with
      | nil => rfl
      | cons x r ih => simp [refsL, ih]
    simp only [roots, Op.operands, Call.operands, Array.toList_append, List.flatMap_append, this]
    simp [ev, refs, refsL]
  have hk : kindO cx.rd (Op.call ⟨.value (.func f), args, ts⟩) = 1 := by simp only [kindO, hc, if_true]
  have := step_make (cx := cx) (bef := bef) (i := i) (o := ⟨dst, .call ⟨.value (.func f), args, ts⟩, ty, pos, after, g⟩) (X := X.map fun r => (ren (fun k => some (nx + i * 64 + k)) r.r, r.hs)) hk (by rw [hro]; exact hr) (fun H' hH => by
    rw [hro] at hH
    rw [op_call]
    simp only [ev, List.nil_append, List.append_nil]
    unfold callD
    simp only [ho]
    have hb : (args.toList.map (ev env)).mapM (bor H' 3) = (args.toList.map (ev env)).mapM (bor H 3) := mapM_look _ (fun x hx => bor_look 3 x (fun id hid => by
      refine ⟨hH id (refsL_sub hx hid), ?_⟩
      simp only [okRoots, Bool.and_eq_true] at hr
      have := List.all_eq_true.1 hr.2 id (refsL_sub hx hid)
      simp at this; exact this.2))
    rw [hb, ← hX]
    cases (args.toList.map (ev env)).mapM (bor H 3) with
    | none => rfl
    | some as =>
      simp only [Option.bind_some]
      cases F as with
      | none => rfl
      | some r =>
        simp only [Option.bind_some]
        split <;> simp) (fun r hr => by
      simp only [Option.map_eq_some_iff] at hr
      obtain ⟨r', h1, rfl⟩ := hr
      exact hl r' h1)
  rw [this, Option.map_map]; rfl
end
end Go.Mir

/- The mirror machine, part 33: operations of a region whose order is drawn that write or make. Nothing is claimed of any program here. -/
set_option linter.unusedSimpArgs false
set_option linter.unusedVariables false
namespace Go.Mir
open Go Go.RowKit
def updL (H : Hp) : List (Nat × Blk) → Hp
  | [] => H
  | (a, b) :: r => updL (upd H a b) r
def clr (H : Hp) (nid : Nat) : Hp := fun id => if nid ≤ id ∧ id < nid + 64 then .gone else H id
theorem clr_off {H : Hp} {nid id : Nat} (h : id < nid ∨ nid + 64 ≤ id) : clr H nid id = H id := by unfold clr; rw [if_neg (by omega)]
theorem clr_in {H : Hp} {nid id : Nat} (h : nid ≤ id ∧ id < nid + 64) : clr H nid id = .gone := by unfold clr; rw [if_pos h]
theorem updL_congr {F G : Hp} {id : Nat} : ∀ (K : List (Nat × Blk)) (F G : Hp), F id = G id → updL F K id = updL G K id
  | [], F, G, h => h
  | (a, b) :: r, F, G, h => by
    simp only [updL]
    refine updL_congr (F := F) (G := G) r _ _ ?_
    by_cases e : id = a
    · subst e; simp [upd]
    · rw [upd_ne _ _ e, upd_ne _ _ e]; exact h
theorem updL_off {id : Nat} : ∀ (K : List (Nat × Blk)) (F : Hp), (∀ p ∈ K, p.1 ≠ id) → updL F K id = F id
  | [], _, _ => rfl
  | (a, b) :: r, F, h => by
    simp only [updL]
    rw [updL_off r _ (fun p hp => h p (by simp [hp])), upd_ne _ _ (fun e => h (a, b) (by simp) e.symm)]

section
variable {cx : Cx} {l : List Nat} {nx bef i : Nat} {env : Nat → D} {H : Hp} {dst : Option Tmp} {ty t : TypeId} {pos : String} {after : Array Edge} {g : Option (Nat × Bool)} {x y z : Operand}

theorem step_upd {o : Oper} {X : Option (D × List (Nat × Blk) × Nat)} (hk : kindO cx.rd o.op = 2) (hr : okRoots nx bef i H (roots env o) = true)
    (h : ∀ H' : Hp, (∀ id ∈ roots env o, H' id = H id) → opD cx env o H' (nx + i * 64) = X.map fun r => (r.1, updL H' r.2.1, nx + i * 64 + r.2.2))
    (hl : ∀ r, X = some r → r.2.2 ≤ 64 ∧ ∀ p ∈ r.2.1, p.1 ∈ roots env o ∨ (nx + i * 64 ≤ p.1 ∧ p.1 < nx + i * 64 + 64)) :
    stepD cx nx bef i o env H = X.map fun r => (r.1, updL (clr H (nx + i * 64)) r.2.1) := by
  obtain ⟨q, q1, hq, q4, h1, h2, h3⟩ := step_ids hr
  unfold stepD
  rw [if_neg (by omega)]
  simp only [q1]
  rw [h1, h2, h3]
  have hK := h (restr q H) (fun id hid => by unfold restr; rw [if_pos (by simpa using q4 id hid)])
  cases X with
  | none => simp [hK]
  | some r =>
    obtain ⟨hl1, hl2⟩ := hl r rfl
    simp only [hK, Bool.and_self, if_true, Option.map_some, Option.bind_some, hk]
    rw [if_pos (by omega), if_neg (by omega)]
    congr 2
    funext id
    unfold mend
    by_cases hid : nx + i * 64 ≤ id ∧ id < nx + i * 64 + 64
    · rw [if_pos (by simp [hid])]
      refine updL_congr (F := H) (G := H) _ _ _ ?_
      have hnm : ¬ id ∈ q := fun hm => by have := okId_off (hq id hm).2.1; omega
      rw [clr_in hid]; unfold restr; rw [if_neg (by simpa using hnm)]
    · by_cases hm : id ∈ q
      · rw [if_pos (by simp [hm])]
        refine updL_congr (F := H) (G := H) _ _ _ ?_
        unfold restr clr; rw [if_pos (by simpa using hm), if_neg hid]
      · rw [if_neg (by simp [hm]; omega), updL_off, clr, if_neg hid]
        intro p hp e
        rcases hl2 p hp with h' | h'
        · exact hm (q4 _ (e ▸ h'))
        · exact hid (e ▸ h')

/-- 'append', as a list of what is written. -/
def appendL (P : Program) (t : TypeId) (H : Hp) (nid : Nat) (s x : D) : Option (D × List (Nat × Blk) × Nat) :=
  (elemT P t).bind fun e => (P.info? e).bind fun inf => (elems H inf.size x).bind fun (px, ys) => (zcells P e).bind fun z =>
  if inf.size = 0 ∨ inf.bytes = 0 ∨ z.length ≠ inf.size then none else
  match s with
  | .nils => if ys.length * inf.bytes ≤ 140737488355328 then some (.own nid 0 ys.length, [(nid, .row inf.size px ys)], 1) else none
  | .vec sz true es => if sz = inf.size ∧ (es = [] ∨ ys ≠ []) ∧ (es.length + ys.length) * inf.bytes ≤ 140737488355328 then some (.own nid 0 (es.length + ys.length), [(nid, .row inf.size px (es ++ ys))], 1) else none
  | .own id off len => match H id with
    | .row sz pl es => if sz = inf.size ∧ off + len = es.length ∧ (len + ys.length) * inf.bytes ≤ 140737488355328 then
        some (.own nid 0 (len + ys.length), [(id, .gone), (nid, .row sz (pl && px) (es.drop off ++ ys))], 1) else none
    | _ => none
  | _ => none
theorem appendL_eq {P : Program} {nid : Nat} {s x : D} : appendD P t H nid s x = (appendL P t H nid s x).map fun r => (r.1, updL H r.2.1, nid + r.2.2) := by
  unfold appendD appendL
  cases elemT P t with
  | none => rfl
  | some e =>
  simp only [Option.bind_some]
  cases P.info? e with
  | none => rfl
  | some inf =>
  simp only [Option.bind_some]
  cases elems H inf.size x with
  | none => rfl
  | some r =>
  obtain ⟨px, ys⟩ := r
  simp only [Option.bind_some]
  cases zcells P e with
  | none => rfl
  | some z =>
  simp only [Option.bind_some]
  split
  · rfl
  · cases s
    case nils => simp only []; split <;> rfl
    case vec sz cl es => cases cl <;> first | rfl | (simp only []; split <;> rfl)
    case own id off len =>
      simp only []
      generalize H id = b
      cases b <;> first | rfl | (simp only []; split <;> rfl)
    all_goals rfl
theorem appendL_ids {P : Program} {nid : Nat} {s x : D} {r : D × List (Nat × Blk) × Nat} (h : appendL P t H nid s x = some r) : r.2.2 = 1 ∧ ∀ p ∈ r.2.1, p.1 ∈ refs s ∨ p.1 = nid := by
  unfold appendL at h
  simp only [Option.bind_eq_some_iff] at h
  obtain ⟨e, _, inf, _, ⟨px, ys⟩, _, z, _, h⟩ := h
  split at h
  · cases h
  · cases s <;> simp only [reduceCtorEq] at h
    case nils => split at h <;> simp at h; subst h; simp
    case vec sz cl es => cases cl <;> simp only [reduceCtorEq] at h; split at h <;> simp at h; subst h; simp
    case own id off len =>
      cases hh : H id <;> simp only [hh, reduceCtorEq] at h
      split at h <;> simp at h
      subst h
      simp [refs]
theorem appendL_look {P : Program} {H' : Hp} {nid : Nat} {s x : D} (hs : ∀ id ∈ refs s, H' id = H id) (hx : ∀ id ∈ refs x, H' id = H id) : appendL P t H' nid s x = appendL P t H nid s x := by
  unfold appendL
  simp only [elems_look hx]
  cases elemT P t with
  | none => rfl
  | some e =>
  simp only [Option.bind_some]
  cases P.info? e with
  | none => rfl
  | some inf =>
  simp only [Option.bind_some]
  cases elems H inf.size x with
  | none => rfl
  | some r =>
  obtain ⟨px, ys⟩ := r
  simp only [Option.bind_some]
  cases zcells P e with
  | none => rfl
  | some z =>
  simp only [Option.bind_some]
  cases s
  case own id off len =>
    simp only [refs, List.mem_singleton, forall_eq] at hs
    simp only [hs]
  case vec sz cl es => cases cl <;> rfl
  all_goals rfl
theorem step_append {t' : TypeId} (hr : okRoots nx bef i H (refs (ev env x) ++ refs (ev env y)) = true) : stepD cx nx bef i ⟨dst, .call ⟨.builtin .append, #[x, y], #[t, t']⟩, ty, pos, after, g⟩ env H =
    (if srcOk cx.P t' (ev env y) then appendL cx.P t H (nx + i * 64) (ev env x) (ev env y) else none).map fun r => (r.1, updL (clr H (nx + i * 64)) r.2.1) := by
  have hro : roots env ⟨dst, .call ⟨.builtin .append, #[x, y], #[t, t']⟩, ty, pos, after, g⟩ = refs (ev env x) ++ refs (ev env y) := by simp [roots, Op.operands, Call.operands]
  refine step_upd rfl (by rw [hro]; exact hr) (fun H' hH => ?_) (fun r hr' => ?_)
  · rw [hro] at hH
    rw [op_builtin]
    simp only [builtinD, Array.toList, List.map_cons, List.map_nil]
    split
    · rw [appendL_eq, appendL_look (fun id hid => hH id (by simp [hid])) (fun id hid => hH id (by simp [hid]))]
    · rfl
  · split at hr'
    · obtain ⟨h1, h2⟩ := appendL_ids hr'
      refine ⟨by omega, fun p hp => ?_⟩
      rw [hro]
      rcases h2 p hp with h | h
      · exact .inl (by simp [h])
      · exact .inr (by omega)
    · cases hr'

theorem step_buildSlice {n : Nat} {ps : Array (Nat × Operand)} (hr : okRoots nx bef i H (roots env ⟨dst, .buildSlice t n ps, ty, pos, after, g⟩) = true) : stepD cx nx bef i ⟨dst, .buildSlice t n ps, ty, pos, after, g⟩ env H =
    ((elemT cx.P t).bind fun e => (szT cx.P e).bind fun sz => (zeroE cx.P e sz).bind fun z =>
    if n * sz ≤ 16777216 ∧ 0 ≤ n then (fillE sz (List.replicate n z) (ps.toList.map fun (i, x) => (i, ev env x))).map fun es => (.own (nx + i * 64) 0 n, putSlot H (nx + i * 64) [.row sz (immL es) es]) else none) := by
  have hput : ∀ (H : Hp) n b, upd H n b = putAll H n [b] := fun H n b => by
    funext id
    unfold upd putAll
    by_cases h : id = n
    · subst h; simp
    · rw [if_neg h]
      split
      · rw [List.getElem?_eq_none (by simp; omega)]; rfl
      · rfl
  have := step_make (cx := cx) (bef := bef) (i := i) (o := ⟨dst, .buildSlice t n ps, ty, pos, after, g⟩) (X := (elemT cx.P t).bind fun e => (szT cx.P e).bind fun sz => (zeroE cx.P e sz).bind fun z =>
    if n * sz ≤ 16777216 ∧ 0 ≤ n then (fillE sz (List.replicate n z) (ps.toList.map fun (i, x) => (i, ev env x))).map fun es => (.own (nx + i * 64) 0 n, [.row sz (immL es) es]) else none) rfl hr (fun H' hH => by
      rw [op_buildSlice]
      cases elemT cx.P t with
      | none => rfl
      | some e =>
      simp only [Option.bind_some]
      cases szT cx.P e with
      | none => rfl
      | some sz =>
      simp only [Option.bind_some]
      cases zeroE cx.P e sz with
      | none => rfl
      | some z =>
      simp only [Option.bind_some]
      split
      · cases fillE sz (List.replicate n z) (ps.toList.map fun (i, x) => (i, ev env x)) <;> simp [hput]
      · rfl) (fun r hr => by
      simp only [Option.bind_eq_some_iff] at hr
      obtain ⟨_, _, _, _, _, _, hr⟩ := hr
      split at hr
      · simp only [Option.map_eq_some_iff] at hr
        obtain ⟨_, _, rfl⟩ := hr
        simp
      · cases hr)
  rw [this]
  cases elemT cx.P t with
  | none => rfl
  | some e =>
  simp only [Option.bind_some]
  cases szT cx.P e with
  | none => rfl
  | some sz =>
  simp only [Option.bind_some]
  cases zeroE cx.P e sz with
  | none => rfl
  | some z =>
  simp only [Option.bind_some]
  split
  · cases fillE sz (List.replicate n z) (ps.toList.map fun (i, x) => (i, ev env x)) <;> simp
  · rfl
end
end Go.Mir

/- The mirror machine, part 34: the rules bundled; loops that have rows of the call's own; typed slices. Nothing is claimed of any program here. -/
set_option linter.unusedSimpArgs false
set_option linter.unusedVariables false
namespace Go.Mir
open Go Go.RowKit

/-- At a loop's head, where the kept temporaries lead to rows without references: 'ids', in the order in which they are met. -/
theorem tidy_rows {ks ids : List Nat} {st : St} (hr : ∀ id ∈ ids, refsB (st.H id) = [] ∧ renBlk (ixOf ids) (st.H id) = st.H id) (h : reach st.H 60 (refsL (ks.map st.env)) [] = ids) (hl : (refsL (ks.map st.env)).all (fun j => ids.contains j) = true) :
    tidy 0 ks st = some ⟨ofEnv (ks.map fun t => (t, ren (ixOf ids) (st.env t))), ofHp (ids.map st.H), ids.length⟩ := by
  unfold tidy tidyIds
  simp only [List.range_zero, List.flatMap_nil, List.append_nil, h]
  have hc : closed st.H ids = true := by
    simp only [closed, List.all_eq_true]
    intro id hid
    rw [(hr id hid).1]; simp
  rw [hc, hl]
  simp only [Bool.and_self, if_true, Option.some.injEq, St.mk.injEq, true_and, and_true]
  have : ids.map (fun i => renBlk (ixOf ids) (st.H i)) = ids.map st.H := List.map_congr_left (fun id hid => (hr id hid).2)
  rw [this]

theorem renL_all {f : Nat → Option Nat} : ∀ {es : List D}, (∀ x ∈ es, refs x = []) → renL f es = es
  | [], _ => rfl
  | x :: r, h => by rw [renL, ren_norefs f x (h x (by simp)), renL_all (fun y hy => h y (by simp [hy]))]
/-- A row of which no element leads to a block of the call's own. -/
def flatRow : Blk → Prop
  | .row _ true es => ∀ x ∈ es, refs x = []
  | .row _ false _ => False
  | .mp es => ∀ p ∈ es, refs p.1 = [] ∧ refs p.2 = []
  | .box cs => ∀ x ∈ cs, refs x = []
  | .gone => False
theorem flatRow_ok {b : Blk} (h : flatRow b) (f : Nat → Option Nat) : refsB b = [] ∧ renBlk f b = b := by
  cases b with
  | gone => exact h.elim
  | box cs =>
    refine ⟨?_, by simp only [renBlk, renL_all h]⟩
    simp only [refsB]
    have : ∀ l : List D, (∀ x ∈ l, refs x = []) → refsL l = [] := fun l => by
      induction l with
      | nil => intro _; rfl
      | cons a r ih => intro h; rw [refsL, h a (by simp), ih (fun y hy => h y (by simp [hy]))]; rfl
    exact this cs h
  | row sz pl es =>
    cases pl
    · exact h.elim
    · exact ⟨rfl, by simp only [renBlk, renL_all h]⟩
  | mp es => exact ⟨rfl, by
      simp only [renBlk]⟩

section
variable {cx : Cx} {c : Code} {st : St} {k : Ex → St → Tok → Prop}
theorem zip_env : ∀ (ks : List Nat) (f : Nat → D) (l : List D), ks.map f = l → (ks.map fun t => (t, f t)) = ks.zip l := by
  intro ks
  induction ks with
  | nil => intro f l h; subst h; rfl
  | cons a r ih => intro f l h; subst h; simp only [List.map_cons, List.zip_cons_cons, ih f _ rfl]
theorem evX_loop_rows {σ : Type} (I : σ → List D) (R : σ → List Blk) (J : σ → Prop) (m : σ → Nat) (ks : List Nat) (hbs : cx.bs = 0) (hk : cx.kp (firstRegion c) = some ks)
    (hR : ∀ s, J s → ∀ b ∈ R s, flatRow b)
    (h : ∀ s, J s → EvX .go cx c ⟨ofEnv (ks.zip (I s)), ofHp (R s), (R s).length⟩ fun e st' t => match e with
      | .nrm => ∃ (ids : List Nat) (s' : σ), reach st'.H 60 (refsL (ks.map st'.env)) [] = ids ∧ (refsL (ks.map st'.env)).all (fun j => ids.contains j) = true ∧ ks.map (fun t => ren (ixOf ids) (st'.env t)) = I s' ∧ ids.map st'.H = R s' ∧ J s' ∧ m s' < m s
      | e => k e st' t)
    {s : σ} (ids : List Nat) (h1 : reach st.H 60 (refsL (ks.map st.env)) [] = ids) (h2 : (refsL (ks.map st.env)).all (fun j => ids.contains j) = true) (h3 : ks.map (fun t => ren (ixOf ids) (st.env t)) = I s) (h4 : ids.map st.H = R s) (hJ : J s) : EvX .go cx (.loop c) st k := by
  have key : ∀ (st : St) (ids : List Nat) (s : σ), J s → reach st.H 60 (refsL (ks.map st.env)) [] = ids → (refsL (ks.map st.env)).all (fun j => ids.contains j) = true → ks.map (fun t => ren (ixOf ids) (st.env t)) = I s → ids.map st.H = R s →
      tidy 0 ks st = some ⟨ofEnv (ks.zip (I s)), ofHp (R s), (R s).length⟩ := by
    intro st ids s hJ h1 h2 h3 h4
    rw [tidy_rows (ids := ids) (fun id hid => flatRow_ok (hR s hJ _ (by rw [← h4]; exact List.mem_map.2 ⟨id, hid, rfl⟩)) _) h1 h2]
    rw [zip_env ks _ _ h3, h4, ← h4, List.length_map]
  refine evX_loop (fun s => ⟨ofEnv (ks.zip (I s)), ofHp (R s), (R s).length⟩) J m ks hk (fun e s => e ≠ .nrm ∧ k e s .go) (fun s hs => ?_) (fun e s h _ => h.2) (s := s) ?_ hJ
  · obtain ⟨r, hr, hq⟩ := h s hs
    refine ⟨r, hr, ?_⟩
    obtain ⟨e, st'⟩ := r
    cases e with
    | nrm =>
      obtain ⟨ids, s', q1, q2, q3, q4, q5, q6⟩ := hq
      exact ⟨s', by rw [hbs]; exact key st' ids s' q5 q1 q2 q3 q4, q5, q6⟩
    | _ => exact ⟨by simp, hq⟩
  · rw [hbs]; exact key st ids s hJ h1 h2 h3 h4
end

/-- A slice that nobody writes, of values of one kind. -/
def gvec {α : Type} (sz : Nat) (E : α → D) : Option Bool → List α → D
  | none, [] => .nils
  | o, xs => .vec sz (o.getD false) (xs.map E)
section
variable {α : Type} {sz : Nat} {E : α → D} {P : Program} {H : Hp} {t e : TypeId} {o : Option Bool} {xs : List α} {k : IntKind}
theorem gvec_cases (sz : Nat) (E : α → D) (o : Option Bool) (xs : List α) : (gvec sz E o xs = .nils ∧ xs = [] ∧ o = none) ∨ gvec sz E o xs = .vec sz (o.getD false) (xs.map E) := by
  cases o <;> cases xs <;> simp [gvec]
theorem refs_gvec : refs (gvec sz E o xs) = [] := by rcases gvec_cases sz E o xs with ⟨h, _⟩ | h <;> rw [h] <;> rfl
theorem imm_gvec : immD (gvec sz E o xs) = true := by rcases gvec_cases sz E o xs with ⟨h, _⟩ | h <;> rw [h] <;> rfl
theorem ren_gvec {f : Nat → Option Nat} : ren f (gvec sz E o xs) = gvec sz E o xs := ren_norefs f _ refs_gvec
theorem cells_gvec : cellsOf (gvec sz E o xs) = some [gvec sz E o xs] := by rcases gvec_cases sz E o xs with ⟨h, _⟩ | h <;> rw [h] <;> rfl
theorem len_gvec (hu : P.underlying t = some (.slice e)) : lenD P H t (gvec sz E o xs) = some (xs.length : Int) := by
  rcases gvec_cases sz E o xs with ⟨h, rfl, _⟩ | h <;> rw [h] <;> simp [lenD, hu]
theorem ix_gvec (hu : P.underlying t = some (.slice e)) (hs : szT P e = some sz) {i : Nat} {x : α} (hx : xs[i]? = some x) : indexAddrD P H t (gvec sz E o xs) (.it k i) = some (.elt (E x).cells) := by
  rcases gvec_cases sz E o xs with ⟨h, rfl, _⟩ | h
  · simp at hx
  · rw [h]; simp [indexAddrD, idx, hu, hs, hx, D.cells]
theorem slice_gvec (hu : P.underlying t = some (.slice e)) (hs : szT P e = some sz) {lo hi : Option D} {l h : Nat} (hb : bnds xs.length lo hi none = some (l, h, none)) : ∃ o', sliceD P H t (gvec sz E o xs) lo hi none = some (gvec sz E o' ((xs.take h).drop l)) := by
  rcases gvec_cases sz E o xs with ⟨h', rfl, rfl⟩ | h'
  · refine ⟨none, ?_⟩
    rw [h']
    simp only [List.length_nil] at hb
    simp [sliceD, elemT, hu, hs, hb, gvec]
  · refine ⟨some (capB none (o.getD false && hi.isNone) h), ?_⟩
    rw [h']
    simp only [sliceD, elemT, hu, Option.bind_some, hs, if_true, List.length_map, hb, Option.map_some]
    simp [gvec, List.map_take, List.map_drop]
theorem elems_gvec : elems H sz (gvec sz E o xs) = some (true, xs.map E) := by
  rcases gvec_cases sz E o xs with ⟨h, rfl, _⟩ | h <;> rw [h] <;> simp [elems]
theorem src_gvec (hu : P.underlying t = some (.slice e)) : srcOk P t (gvec sz E o xs) = true := by
  rcases gvec_cases sz E o xs with ⟨h, rfl, _⟩ | h <;> rw [h] <;> simp [srcOk, hu]
theorem gvec_inj (hE : ∀ a b, E a = E b → a = b) {o' : Option Bool} {ys : List α} (h : gvec sz E o xs = gvec sz E o' ys) : xs = ys := by
  have hm : ∀ (a b : List α), a.map E = b.map E → a = b := fun a b h => List.map_inj_right (fun x y hxy => hE x y hxy) |>.1 h
  rcases gvec_cases sz E o xs with ⟨h1, h2, _⟩ | h1 <;> rcases gvec_cases sz E o' ys with ⟨g1, g2, _⟩ | g1 <;> rw [h1, g1] at h
  · rw [h2, g2]
  · cases h
  · cases h
  · simp at h; exact hm _ _ h.2
end

/-- 'append', the type's facts taken out. -/
def appK (sz by' : Nat) (H : Hp) (nid : Nat) (s x : D) : Option (D × Hp × Nat) :=
  (elems H sz x).bind fun r => match s with
  | .nils => if r.2.length * by' ≤ 140737488355328 then some (.own nid 0 r.2.length, upd H nid (.row sz r.1 r.2), nid + 1) else none
  | .vec sz' true es => if sz' = sz ∧ (es = [] ∨ r.2 ≠ []) ∧ (es.length + r.2.length) * by' ≤ 140737488355328 then some (.own nid 0 (es.length + r.2.length), upd H nid (.row sz r.1 (es ++ r.2)), nid + 1) else none
  | .own id off len => match H id with
    | .row sz' pl es => if sz' = sz ∧ off + len = es.length ∧ (len + r.2.length) * by' ≤ 140737488355328 then
        some (.own nid 0 (len + r.2.length), upd (upd H id .gone) nid (.row sz' (pl && r.1) (es.drop off ++ r.2)), nid + 1) else none
    | _ => none
  | _ => none
/-- What 'append' asks of a slice's type. -/
def appT (P : Program) (t : TypeId) (sz by' : Nat) : Bool := match elemT P t with
  | some e => match P.info? e, zcells P e with
    | some inf, some z => inf.size == sz && inf.bytes == by' && z.length == sz && decide (0 < sz) && decide (0 < by')
    | _, _ => false
  | none => false
theorem app_eq {P : Program} {t : TypeId} {sz by' : Nat} {H : Hp} {nid : Nat} {s x : D} (h : appT P t sz by' = true) : appendD P t H nid s x = appK sz by' H nid s x := by
  unfold appT at h
  unfold appendD appK
  cases he : elemT P t with
  | none => simp [he] at h
  | some e =>
  simp only [he] at h
  cases hi : P.info? e with
  | none => simp [hi] at h
  | some inf =>
  simp only [hi] at h
  cases hz : zcells P e with
  | none => simp [hz] at h
  | some z =>
  simp only [hz, Bool.and_eq_true, beq_iff_eq, decide_eq_true_eq] at h
  obtain ⟨⟨⟨⟨h1, h2⟩, h3⟩, h4⟩, h5⟩ := h
  subst h1; subst h2
  simp only [Option.bind_some, he, hi, hz]
  cases hel : elems H inf.size x with
  | none => rfl
  | some r =>
  obtain ⟨px, ys⟩ := r
  simp only [Option.bind_some]
  rw [if_neg (by omega)]
  all_goals (cases s <;> rfl)
def appKL (sz by' : Nat) (H : Hp) (nid : Nat) (s x : D) : Option (D × List (Nat × Blk) × Nat) :=
  (elems H sz x).bind fun r => match s with
  | .nils => if r.2.length * by' ≤ 140737488355328 then some (.own nid 0 r.2.length, [(nid, .row sz r.1 r.2)], 1) else none
  | .vec sz' true es => if sz' = sz ∧ (es = [] ∨ r.2 ≠ []) ∧ (es.length + r.2.length) * by' ≤ 140737488355328 then some (.own nid 0 (es.length + r.2.length), [(nid, .row sz r.1 (es ++ r.2))], 1) else none
  | .own id off len => match H id with
    | .row sz' pl es => if sz' = sz ∧ off + len = es.length ∧ (len + r.2.length) * by' ≤ 140737488355328 then
        some (.own nid 0 (len + r.2.length), [(id, .gone), (nid, .row sz' (pl && r.1) (es.drop off ++ r.2))], 1) else none
    | _ => none
  | _ => none
theorem appL_eq {P : Program} {t : TypeId} {sz by' : Nat} {H : Hp} {nid : Nat} {s x : D} (h : appT P t sz by' = true) : appendL P t H nid s x = appKL sz by' H nid s x := by
  unfold appT at h
  unfold appendL appKL
  cases he : elemT P t with
  | none => simp [he] at h
  | some e =>
  simp only [he] at h
  cases hi : P.info? e with
  | none => simp [hi] at h
  | some inf =>
  simp only [hi] at h
  cases hz : zcells P e with
  | none => simp [hz] at h
  | some z =>
  simp only [hz, Bool.and_eq_true, beq_iff_eq, decide_eq_true_eq] at h
  obtain ⟨⟨⟨⟨h1, h2⟩, h3⟩, h4⟩, h5⟩ := h
  subst h1; subst h2
  simp only [Option.bind_some, he, hi, hz]
  cases hel : elems H inf.size x with
  | none => rfl
  | some r =>
  obtain ⟨px, ys⟩ := r
  simp only [Option.bind_some]
  rw [if_neg (by omega)]
  all_goals (cases s <;> rfl)
end Go.Mir

/- The mirror machine, part 35: the rules, gathered. Nothing is claimed of any program here. -/
set_option linter.unusedSimpArgs false
set_option linter.unusedVariables false
set_option linter.defProp false
namespace Go.Mir
open Go Go.RowKit
theorem refs_nils : refs .nils = [] := rfl
theorem refs_nilp : refs .nilp = [] := rfl
theorem refs_nilm : refs .nilm = [] := rfl
theorem refs_nilf : refs .nilf = [] := rfl
theorem refs_vec {sz : Nat} {cl : Bool} {es : List D} : refs (.vec sz cl es) = [] := rfl
theorem refs_elt {cs : List D} : refs (.elt cs) = [] := rfl
/-- Rules that are tried on the way in. -/
def cD := And.intro @evX_seq (And.intro @evX_region (And.intro @evX_cond (And.intro @evX_block (And.intro @evX_exit (And.intro @evX_ret (And.intro @evX_skip (And.intro @evO_nil (And.intro @evO_plain (And.intro @evO_one (And.intro @evO_guard (And.intro @evX_draw (And.intro @evD_nil (And.intro @evD_plain (And.intro @evD_one (And.intro @evD_guard (And.intro @ev_some (And.intro @ev_none (And.intro @ev_map (And.intro @ev_bind (And.intro @ev_must (And.intro @evC_bo (And.intro @evW_bo (And.intro @evW_tup (And.intro @br_true (And.intro @br_false (And.intro @ms_true (And.intro @dstAt_zero (And.intro @dstAt_succ (And.intro @op_move (And.intro @op_assign (And.intro @op_pick (And.intro @op_bin (And.intro @op_un (And.intro @op_call (And.intro @op_builtin (And.intro @op_convert (And.intro @op_extract (And.intro @op_load (And.intro @op_store (And.intro @op_alloc (And.intro @op_box (And.intro @op_build (And.intro @op_buildSlice (And.intro @op_nilCheck (And.intro @op_makeFunc (And.intro @op_makeSlice (And.intro @op_slice (And.intro @op_fieldAddr (And.intro @op_field (And.intro @op_indexAddr (And.intro @op_index (And.intro @op_lookup (And.intro @op_mapUpdate (And.intro @op_insert (And.intro @ev_tmp (And.intro @ev_const (And.intro @ev_func (And.intro @upd_at (And.intro @upd_off (And.intro @upd_atB (And.intro @upd_offB (And.intro @set_some (And.intro @set_none (And.intro @resD_nil (And.intro @resD_tmp (And.intro @nilC_tmp (And.intro @nilC_func (And.intro @nilC_nil (And.intro @nilC_int (And.intro @nilC_bool (And.intro @nilC_string (And.intro @nilC_agg (And.intro @ofEnv_at (@ofEnv_off))))))))))))))))))))))))))))))))))))))))))))))))))))))))))))))))))))))))))
/-- Rules that are tried on the way out. -/
def cU := And.intro @ev_some (And.intro @ev_none (And.intro @ev_map (And.intro @ev_bind (And.intro @ev_must (And.intro @evC_bo (And.intro @evC_ite (And.intro @evW_bo (And.intro @evW_tup (And.intro @evW_ite (And.intro @br_true (And.intro @br_false (And.intro @ms_true (And.intro @one_one (And.intro @one_two (And.intro @one_three (And.intro @int_beq (And.intro @int_bne (And.intro @refsL_nil (And.intro @refs_it (And.intro @refs_bo (And.intro @refs_st (And.intro @putAll_nil (And.intro @refs_ivec (And.intro @imm_ivec (And.intro @refs_gvec (And.intro @imm_gvec (And.intro @ren_gvec (And.intro @ren_ivec (And.intro @cells_gvec (And.intro @elems_gvec (@clr_off)))))))))))))))))))))))))))))))
/-- Operations of regions whose order is drawn. -/
def cS := And.intro @step_move (And.intro @step_assign (And.intro @step_pick (And.intro @step_build (And.intro @step_bin (And.intro @step_un (And.intro @step_field (And.intro @step_index (And.intro @step_makeFunc (And.intro @step_extract (And.intro @step_load (And.intro @step_nilCheck (And.intro @step_fieldAddr (And.intro @step_indexAddr (And.intro @step_lookup (And.intro @step_slice (And.intro @step_len (And.intro @step_min (And.intro @step_max (And.intro @step_append (@step_buildSlice))))))))))))))))))))
end Go.Mir

/- The mirror machine, part 36: numbers; contracts over typed arguments. Nothing is claimed of any program here. -/
set_option linter.unusedSimpArgs false
set_option linter.unusedVariables false
namespace Go.Mir
open Go Go.RowKit
theorem wrap64 {n : Int} (h : -9223372036854775808 ≤ n) (h' : n < 9223372036854775808) : IntKind.i64.wrap n = n := by
  simp only [IntKind.wrap, IntKind.signed, IntKind.bits]
  simp
  omega
theorem wrap32 {n : Int} : IntKind.u32.wrap n = n % 4294967296 := by
  simp [IntKind.wrap, IntKind.signed, IntKind.bits]
theorem wrapu64 {n : Int} : IntKind.u64.wrap n = n % 18446744073709551616 := by
  simp [IntKind.wrap, IntKind.signed, IntKind.bits]
theorem wrapu8 {n : Int} : IntKind.u8.wrap n = n % 256 := by
  simp [IntKind.wrap, IntKind.signed, IntKind.bits]
/-- A list that is no longer than memory could hold. -/
abbrev Sm {α : Type} (l : List α) : Prop := (l.length : Int) < 4611686018427387904
theorem wrapS {n : Nat} (hn : (n : Int) < 4611686018427387904) (i : Nat) (h : (i : Int) < n) : IntKind.i64.wrap ((i : Int) + 1) = ((i + 1 : Nat) : Int) := by rw [wrap64 (by omega) (by omega)]; simp
theorem drop_at {α : Type} [Inhabited α] {zs : List α} {i : Nat} (h : (i : Int) < zs.length) : zs.drop i = zs[i]! :: zs.drop (i + 1) := by
  have h' : i < zs.length := by omega
  rw [List.drop_eq_getElem_cons h', getElem!_pos zs i h']
theorem drop_end {α : Type} {zs : List α} {i : Nat} (h : ¬ (i : Int) < zs.length) : zs.drop i = [] := List.drop_eq_nil_of_le (by omega)
theorem ix_at {sz : Nat} {α : Type} [Inhabited α] {E : α → D} {P : Program} {H : Hp} {t e : TypeId} {o : Option Bool} {xs : List α} {k : IntKind} (hu : P.underlying t = some (.slice e)) (hs : szT P e = some sz) {i : Nat} (h : (i : Int) < xs.length) :
    indexAddrD P H t (gvec sz E o xs) (.it k (i : Int)) = some (.elt (E xs[i]!).cells) := by
  have h' : i < xs.length := by omega
  exact ix_gvec hu hs (by rw [getElem!_pos xs i h', List.getElem?_eq_getElem h'])

theorem slice_to {α : Type} {sz : Nat} {E : α → D} {P : Program} {t e : TypeId} {o : Option Bool} {xs : List α} {k : IntKind} (hu : P.underlying t = some (.slice e)) (hs : szT P e = some sz) {n : Int} (h0 : 0 ≤ n) (hn : n ≤ xs.length) :
    ∃ o', ∀ H, sliceD P H t (gvec sz E o xs) none (some (.it k n)) none = some (gvec sz E o' (xs.take n.toNat)) := by
  rcases gvec_cases sz E o xs with ⟨h', rfl, rfl⟩ | h'
  · refine ⟨none, fun H => ?_⟩
    have : n = 0 := by simp at hn; omega
    subst this
    rw [h']; simp [sliceD, elemT, hu, hs, bnds, idx, gvec]
  · refine ⟨some (capB none (o.getD false && false) n.toNat), fun H => ?_⟩
    rw [h']
    have hb : bnds (xs.map E).length none (some (.it k n)) none = some (0, n.toNat, none) := by
      simp only [bnds, idx, Option.bind_some]
      rw [if_pos ⟨Int.le_refl _, h0, by simpa using hn⟩]; rfl
    simp only [sliceD, elemT, hu, Option.bind_some, hs, if_true, hb, Option.map_some]
    simp [gvec, List.map_take]
open Classical in
/-- A contract over typed arguments. -/
noncomputable def mkF {σ : Type} (enc : σ → List D) (pre : σ → Prop) (out : σ → Res) : List D → Option Res := fun ds => if h : ∃ s, enc s = ds ∧ pre s then some (out h.choose) else none
theorem mkF_eq {σ : Type} {enc : σ → List D} {pre : σ → Prop} {out : σ → Res} {s : σ} (hinj : ∀ s s', enc s = enc s' → out s = out s') (hp : pre s) : mkF enc pre out (enc s) = some (out s) := by
  have h : ∃ s', enc s' = enc s ∧ pre s' := ⟨s, rfl, hp⟩
  unfold mkF
  rw [dif_pos h, hinj _ _ h.choose_spec.1]
theorem mkF_inv {σ : Type} {enc : σ → List D} {pre : σ → Prop} {out : σ → Res} {ds : List D} {r : Res} (h : mkF enc pre out ds = some r) : ∃ s, ds = enc s ∧ pre s ∧ r = out s := by
  unfold mkF at h
  split at h
  · rename_i hs
    simp only [Option.some.injEq] at h
    exact ⟨_, hs.choose_spec.1.symm, hs.choose_spec.2, h.symm⟩
  · cases h
abbrev iv (o : Option Bool) (zs : List Int) : D := gvec 1 (D.it .i64) o zs
theorem it_inj {k : IntKind} : ∀ a b : Int, D.it k a = D.it k b → a = b := fun a b h => by cases h; rfl
theorem st_inj : ∀ a b : List UInt8, D.st a = D.st b → a = b := fun a b h => by cases h; rfl
theorem iv_inj {o o' : Option Bool} {a b : List Int} (h : iv o a = iv o' b) : a = b := gvec_inj it_inj h
/-- A body's run, as a contract. -/
theorem Known.add {K : Known} (h : K.OK) (hP : K.P.follows .mixedOrders = true) {g : FuncId} {fn : Func} {c : Code} (kp : Nat → Option (List Nat)) (hb : Body K.P (K.cx kp).rd g fn c) {σ : Type} {enc : σ → List D} {pre : σ → Prop} {out : σ → Res} {n : Nat} (hn : n ≤ fn.ntmps) (hl : ∀ s, (enc s).length = n)
    (ks : List Nat) (al : Bool) (hF : ∀ s, pre s → pureRun (K.cx kp) fn ks al (enc s) = some (out s)) : (K.pure g (mkF enc pre out)).OK :=
  Known.fn h hP kp hb (fun ds r hr => by
    obtain ⟨s, rfl, hp, rfl⟩ := mkF_inv hr
    exact ⟨by rw [hl]; exact hn, ks, al, hF s hp⟩)
end Go.Mir

/- The mirror machine, part 37: calls of known functions, one rule for all. Nothing is claimed of any program here. -/
set_option linter.unusedSimpArgs false
set_option linter.unusedVariables false
namespace Go.Mir
open Go Go.RowKit
/-- What a known function answers to these arguments, as it sees them. -/
def callX (F : List D → Option Res) (as : List D) (H : Hp) : Option Res :=
  (as.mapM (bor H 3)).bind fun as' => (F as').bind fun r => if r.al && !(immL as) then none else some r
def borL (H : Hp) : List D → Option (List D)
  | [] => some []
  | d :: r => (bor H 3 d).bind fun d' => (borL H r).map (d' :: ·)
theorem borL_eq (H : Hp) : ∀ l : List D, l.mapM (bor H 3) = borL H l
  | [] => rfl
  | d :: r => by rw [List.mapM_cons, borL_eq H r, borL]; cases bor H 3 d <;> cases borL H r <;> rfl
section
variable {cx : Cx} {H : Hp} {nid nx bef i : Nat} {F : List D → Option Res} {as : List D} {g : FuncId} {env : Nat → D} {dst : Option Tmp} {ty t : TypeId} {pos : String} {after : Array Edge} {gd : Option (Nat × Bool)}
theorem callX_imm (h : immL as = true) : callX F as H = F as := by
  have hm : ∀ l : List D, immL l = true → l.mapM (bor H 3) = some l := by
    intro l
    induction l with
    | nil => intro _; rfl
    | cons x r ih => intro h; simp only [immL, Bool.and_eq_true] at h; rw [List.mapM_cons, bor_imm 3 x h.1, ih h.2]; rfl
  unfold callX
  rw [hm as h, h]
  simp
theorem callX_nil : callX F [] H = F [] := callX_imm (by simp only [immL])
theorem callX_bor : callX F as H = (borL H as).bind fun as' => (F as').bind fun r => if r.al && !(immL as) then none else some r := by unfold callX; rw [borL_eq]
theorem bor_one {n : Nat} {d : D} (h : immD d = true) : bor H n d = some d := bor_imm n d h
theorem bor_row {n id off len : Nat} : bor H (n + 1) (.own id off len) = match H id with
      | .row sz true es => some (.vec sz false ((es.drop off).take len))
      | .row sz false es => (((es.drop off).take len).mapM (bor H n)).map (.vec sz false)
      | _ => none := rfl
/-- A call of a known function. -/
theorem call_orc (ho : cx.orc g = some F) : callD cx g as H nid = (callX F as H).map fun r => (ren (fun i => some (nid + i)) r.r, putAll H nid r.hs, nid + r.hs.length) := by
  unfold callD callX
  simp only [ho]
  cases as.mapM (bor H 3) with
  | none => rfl
  | some as' =>
    simp only [Option.bind_some]
    cases F as' with
    | none => rfl
    | some r =>
      simp only [Option.bind_some]
      split <;> simp
theorem len_own {P : Program} {t e : TypeId} {id off len : Nat} (hu : P.underlying t = some (.slice e)) : lenD P H t (.own id off len) = match H id with | .row _ _ _ => some (len : Int) | _ => none := by
  simp only [lenD, hu]
  cases H id <;> rfl
theorem src_own {P : Program} {t e : TypeId} {id off len : Nat} (hu : P.underlying t = some (.slice e)) : srcOk P t (.own id off len) = true := by simp only [srcOk, hu]
theorem minD_two {f : Int → Int → Int} {k k' : IntKind} {p q : Int} : minD f [.it k p, .it k' q] = some (.it k (f p q)) := rfl
def stepX := @stepD
theorem step_orc {args : Array Operand} {ts : Array TypeId} (hc : cx.rd.contains g = true) (ho : cx.orc g = some F) (hr : okRoots nx bef i H (refsL (args.toList.map (ev env))) = true) :
    stepD cx nx bef i ⟨dst, .call ⟨.value (.func g), args, ts⟩, ty, pos, after, gd⟩ env H = (callX F (args.toList.map (ev env)) H).bind fun r => if r.hs.length ≤ 64 then some (ren (fun k => some (nx + i * 64 + k)) r.r, if r.hs.isEmpty then H else putSlot H (nx + i * 64) r.hs)
      else stepX cx nx bef i ⟨dst, .call ⟨.value (.func g), args, ts⟩, ty, pos, after, gd⟩ env H := by
  cases h : callX F (args.toList.map (ev env)) H with
  | none => rw [step_call hc ho hr (X := none) h (fun r hr => by cases hr)]; rfl
  | some r =>
    simp only [Option.bind_some]
    split
    · rename_i hl
      rw [step_call hc ho hr (X := some r) h (fun r' hr => by simp at hr; subst hr; exact hl)]; rfl
    · rfl
end
/-- What a call of a function without a body answers. -/
theorem call_ext {cx : Cx} {H : Hp} {nid : Nat} {g : FuncId} {F : List D → Option D} {as : List D} (hn : cx.orc g = none) (he : cx.ext g = some F) (hi : immL as = true) : callD cx g as H nid = (F as).map fun d => (d, H, nid) := by
  have hm : ∀ l : List D, immL l = true → l.mapM (bor H 3) = some l := by
    intro l
    induction l with
    | nil => intro _; rfl
    | cons x r ih => intro h; simp only [immL, Bool.and_eq_true] at h; rw [List.mapM_cons, bor_imm 3 x h.1, ih h.2]; rfl
  unfold callD
  simp only [hn, he, hm as hi, Option.bind_some]
end Go.Mir

/- The mirror machine, part 38: what arguments of plain types are. Nothing is claimed of any program here. -/
set_option linter.unusedSimpArgs false
set_option linter.unusedVariables false
namespace Go.Mir
open Go Go.RowKit
section
variable {P : Program} {n : Nat} {t e : TypeId} {d : D}
theorem td_int {k : IntKind} (hu : P.underlying t = some (.int k)) (h : TD1 P (n + 1) t d) : ∃ x, d = .it k x ∧ k.min ≤ x ∧ x ≤ k.max := by
  rcases h with ⟨h, _⟩ | ⟨_, h⟩
  · simp [aggT, hu] at h
  · simpa [TD, hu] using h
theorem td_bool (hu : P.underlying t = some .bool) (h : TD1 P (n + 1) t d) : ∃ b, d = .bo b := by
  rcases h with ⟨h, _⟩ | ⟨_, h⟩
  · simp [aggT, hu] at h
  · simpa [TD, hu] using h
theorem td_str (hu : P.underlying t = some .string) (h : TD1 P (n + 1) t d) : ∃ l, d = .st l ∧ l.length ≤ reachBytes := by
  rcases h with ⟨h, _⟩ | ⟨_, h⟩
  · simp [aggT, hu] at h
  · simpa [TD, hu] using h
theorem td_struct {fs : Array Field} (hu : P.underlying t = some (.struct fs)) (h : TD1 P (n + 1) t d) : ∃ ds, d = .agg ds ∧ fs.toList.foldr (fun f Q ds => ∃ a b, ds = a ++ b ∧ a.length = P.cellsOf f.type ∧ TD P n f.type a ∧ Q b) (fun ds => ds = []) ds := by
  rcases h with ⟨_, cs, rfl, h⟩ | ⟨h, _⟩
  · simp only [TD, hu] at h; exact ⟨cs, rfl, h⟩
  · simp [aggT, hu] at h
/-- One cell of a struct. -/
theorem td_one (h : TD P n t [d]) (ha : aggT P t = some false) : TD1 P n t d := .inr ⟨ha, h⟩
theorem td_agg {ds : List D} (h : TD P n t ds) (ha : aggT P t = some true) : TD1 P n t (.agg ds) := .inl ⟨ha, ds, rfl, h⟩
theorem td_slice {α : Type} {E : α → D} {W : α → Prop} (hu : P.underlying t = some (.slice e)) (ha : (aggT P e).isSome = true) (hE : ∀ x, TD1 P n e x → ∃ a, x = E a ∧ W a) (h : TD1 P (n + 1) t d) :
    ∃ o xs, d = gvec (P.cellsOf e) E o xs ∧ xs.length * P.bytesOf e ≤ reachBytes ∧ ∀ a ∈ xs, W a := by
  have h' : TD P (n + 1) t [d] := by
    rcases h with ⟨h, _⟩ | ⟨_, h⟩
    · simp [aggT, hu] at h
    · exact h
  simp only [TD, hu] at h'
  obtain ⟨es, h', hl, hes⟩ := h'
  · simp only [List.cons.injEq, and_true] at h'
    subst h'
    have : ∃ xs : List α, es = xs.map E ∧ ∀ a ∈ xs, W a := by
      clear hl h
      induction es with
      | nil => exact ⟨[], rfl, fun a ha => by simp at ha⟩
      | cons x r ih =>
        obtain ⟨xs, rfl, hxs⟩ := ih (fun y hy => hes y (by simp [hy]))
        obtain ⟨_, h2, h3, h4⟩ := hes x (by simp)
        have h1 : TD1 P n e x := by
          cases hg : aggT P e with
          | none => simp [hg] at ha
          | some g =>
            cases g
            · exact .inr ⟨hg, by rw [h4 hg] at h2; exact h2⟩
            · obtain ⟨cs, rfl⟩ := h3 hg
              exact .inl ⟨hg, cs, rfl, h2⟩
        obtain ⟨a, rfl, hw⟩ := hE x h1
        exact ⟨a :: xs, rfl, fun b hb => by rcases List.mem_cons.1 hb with rfl | hb; exact hw; exact hxs b hb⟩
    obtain ⟨xs, rfl, hxs⟩ := this
    exact ⟨some false, xs, rfl, by simpa using hl, hxs⟩
theorem td_ints {k : IntKind} (hu : P.underlying t = some (.slice e)) (he : P.underlying e = some (.int k)) (hc : P.cellsOf e = 1) (hb : 0 < P.bytesOf e) (h : TD1 P (n + 2) t d) : ∃ o zs, d = gvec 1 (D.it k) o zs ∧ Sm zs ∧ ∀ z ∈ zs, k.min ≤ z ∧ z ≤ k.max := by
  obtain ⟨o, xs, rfl, hl, hw⟩ := td_slice (E := D.it k) (W := fun z => k.min ≤ z ∧ z ≤ k.max) hu (by simp [aggT, he]) (fun x hx => td_int he hx) h
  refine ⟨o, xs, by rw [hc], ?_, hw⟩
  have : xs.length * 1 ≤ xs.length * P.bytesOf e := Nat.mul_le_mul_left _ hb
  simp only [reachBytes] at hl
  simp only [Sm]; omega
theorem tda_nil {ds : List D} (h : TDA P n [] ds) : ds = [] := h
theorem tda_cons {ts : List TypeId} {ds : List D} (h : TDA P n (t :: ts) ds) : ∃ d r, ds = d :: r ∧ TD1 P n t d ∧ TDA P n ts r := h
end
theorem Known.OK.get {K : Known} (h : K.OK) (g : FuncId) {F : List D → Option Res} (hg : lk K.orcs g = some F) : PureOK K.P g F := h.orcs (g, F) (lk_mem hg)
end Go.Mir

/- The mirror machine, part 39: typed slices in one form; lists by index. Nothing is claimed of any program here. -/
set_option linter.unusedSimpArgs false
set_option linter.unusedVariables false
set_option linter.defProp false
set_option linter.unusedSectionVars false
namespace Go.Mir
open Go Go.RowKit
/-- A slice that nobody writes, of values of one kind. -/
def vecE {α : Type} (sz : Nat) (E : α → D) (xs : List α) : D := .vec sz false (xs.map E)
section
variable {α : Type} {sz : Nat} {E : α → D} {P : Program} {H : Hp} {t e : TypeId} {xs ys : List α} {k : IntKind}
theorem vec_fold : D.vec sz false (xs.map E) = vecE sz E xs := rfl
theorem vec_fold0 : D.vec sz false [] = vecE sz E [] := rfl
theorem refs_vecE : refs (vecE sz E xs) = [] := rfl
theorem imm_vecE : immD (vecE sz E xs) = true := rfl
theorem ren_vecE {f : Nat → Option Nat} : ren f (vecE sz E xs) = vecE sz E xs := rfl
theorem cells_vecE : cellsOf (vecE sz E xs) = some [vecE sz E xs] := rfl
theorem dcells_vecE : D.cells (vecE sz E xs) = [vecE sz E xs] := rfl
theorem len_vecE (hu : P.underlying t = some (.slice e)) : lenD P H t (vecE sz E xs) = some (xs.length : Int) := by simp [lenD, hu, vecE]
theorem ix_vecE [Inhabited α] (hu : P.underlying t = some (.slice e)) (hs : szT P e = some sz) {i : Nat} (h : (i : Int) < xs.length) : indexAddrD P H t (vecE sz E xs) (.it k (i : Int)) = some (.elt (E xs[i]!).cells) := by
  have h' : i < xs.length := by omega
  simp [indexAddrD, idx, hu, hs, vecE, getElem!_pos xs i h', h']
theorem ixn_vecE [Inhabited α] (hu : P.underlying t = some (.slice e)) (hs : szT P e = some sz) {n : Int} {i : Nat} (hn : n = i) (h : i < xs.length) : indexAddrD P H t (vecE sz E xs) (.it k n) = some (.elt (E xs[i]!).cells) := by
  subst hn; exact ix_vecE hu hs (by omega)
theorem slice_vecE (hu : P.underlying t = some (.slice e)) (hs : szT P e = some sz) {lo hi : Option D} {l h : Nat} (hb : bnds xs.length lo hi none = some (l, h, none)) : sliceD P H t (vecE sz E xs) lo hi none = some (vecE sz E ((xs.take h).drop l)) := by
  unfold vecE
  simp only [sliceD, elemT, hu, Option.bind_some, hs, if_true, List.length_map, hb, Option.map_some, capB]
  simp [List.map_take, List.map_drop]
theorem elems_vecE : elems H sz (vecE sz E xs) = some (true, xs.map E) := by simp [elems, vecE]
theorem src_vecE (hu : P.underlying t = some (.slice e)) : srcOk P t (vecE sz E xs) = true := by simp [srcOk, hu, vecE]
theorem vecE_inj (hE : ∀ a b, E a = E b → a = b) (h : vecE sz E xs = vecE sz E ys) : xs = ys := by
  simp only [vecE, D.vec.injEq, true_and] at h
  exact List.map_inj_right (fun x y hxy => hE x y hxy) |>.1 h
theorem take_map_len : List.take xs.length (List.map E xs) = List.map E xs := List.take_of_length_le (by simp)
theorem map_snoc {y : α} : List.map E xs ++ [E y] = List.map E (xs ++ [y]) := by simp
theorem map_app : List.map E xs ++ List.map E ys = List.map E (xs ++ ys) := by simp
theorem map_one {y : α} : [E y] = List.map E [y] := rfl
theorem map_refs (hE : ∀ a, refs (E a) = []) : ∀ x ∈ xs.map E, refs x = [] := fun x hx => by obtain ⟨a, _, rfl⟩ := List.mem_map.1 hx; exact hE a
theorem map_imm (hE : ∀ a, immD (E a) = true) : immL (xs.map E) = true := by
  induction xs with
  | nil => simp [immL]
  | cons a r ih => simp [immL, hE, ih]
theorem map_dry (hE : ∀ a, noMem (E a) = true) : noMemL (xs.map E) = true := by
  induction xs with
  | nil => simp [noMemL]
  | cons a r ih => simp [noMemL, hE, ih]
end
section
variable {α : Type} [Inhabited α] {l : List α} {i : Nat} {p : α → Bool}
theorem takeN {l : List α} {i : Nat} (h : (i : Int) < l.length) : l.take (i + 1) = l.take i ++ [l[i]!] := by
  have h' : i < l.length := by omega
  rw [List.take_succ_eq_append_getElem h', getElem!_pos l i h']
theorem take_end {α : Type} {l : List α} {i : Nat} (h : ¬ (i : Int) < l.length) : l.take i = l := List.take_of_length_le (by omega)
theorem ft_yes (h : (i : Int) < l.length) (hp : p l[i]! = true) : (l.take (i + 1)).filter p = (l.take i).filter p ++ [l[i]!] := by rw [takeN h, List.filter_append, List.filter_cons_of_pos hp, List.filter_nil]
theorem ft_no (h : (i : Int) < l.length) (hp : p l[i]! = false) : (l.take (i + 1)).filter p = (l.take i).filter p := by rw [takeN h, List.filter_append, List.filter_cons_of_neg (by simp only [hp]; decide), List.filter_nil, List.append_nil]
theorem fm_step {β : Type} {f : α → β} (h : (i : Int) < l.length) : (l.take (i + 1)).map f = (l.take i).map f ++ [f l[i]!] := by rw [takeN h]; simp
theorem any_step (h : (i : Int) < l.length) : (l.take (i + 1)).any p = ((l.take i).any p || p l[i]!) := by rw [takeN h, List.any_append]; simp
theorem all_step (h : (i : Int) < l.length) : (l.take (i + 1)).all p = ((l.take i).all p && p l[i]!) := by rw [takeN h, List.all_append]; simp
theorem mem_at {l : List α} {i : Nat} (h : (i : Int) < l.length) : l[i]! ∈ l := by
  have h' : i < l.length := by omega
  rw [getElem!_pos l i h']; exact List.getElem_mem h'
end
/-- A function's answer that is a slice of its own, of plain elements. -/
def Res.row (sz : Nat) (es : List D) : Res := ⟨false, .own 0 0 es.length, [.row sz true es]⟩
theorem pure_row {cx : Cx} {fn : Func} {c : Code} {ds : List D} {r : Res} {rs : List ResultVar} (hb : fn.body = some c) (hbs : cx.bs = 0) (hrs : fn.results.toList = rs)
    (h : EvX .go cx c ⟨argEnv ds, ofHp [], 0⟩ fun e st t => (e = .nrm ∨ e = .ret) ∧ Ev t (resD cx.P st rs) fun out _ => ∃ id len sz es, out = [.own id 0 len] ∧ st.H id = .row sz true es ∧ len = es.length ∧ noMemL es = true ∧ Res.row sz es = r) : pureRun cx fn [0] false ds = some r := by
  obtain ⟨⟨e, s⟩, he, hen, out, ho, id, len, sz, es, rfl, hH, rfl, hm, rfl⟩ := h
  simp only at hH
  have hr : reach s.H 60 [id] [] = [id] := by
    have : refsB (s.H id) = [] := by rw [hH]; rfl
    show reach s.H (59 + 1) [id] [] = [id]
    simp only [reach, List.contains_nil, Bool.false_eq_true, if_false, this, List.nil_append]
  refine pure_of hb hbs [0] false ⟨(e, s), he, hen, _, hrs ▸ ho, ?_, [.row sz true es], ?_, .own 0 0 es.length, ?_, rfl⟩
  · have h1 : refsL [D.own id 0 es.length] = [id] := rfl
    have h2 : closed s.H [id] = true := by simp [closed, hH, refsB]
    simp [ownOf, distinct, dry, h1, hr, h2, noMemL, noMem, noMemB, hH, hm]
  · simp [ownOf, refsL, refs, hr, finB, restr, hH]
  · simp [ownOf, finT, finV, ixOf]
end Go.Mir

/- The mirror machine, part 40: fields; records, zones, deltas, histories as typed data. Nothing is claimed of any program here. -/
set_option linter.unusedSimpArgs false
set_option linter.unusedVariables false
set_option linter.defProp false
namespace Go.Mir
open Go Go.RowKit
def fieldOf (P : Program) (t : TypeId) (f : Nat) (d : D) : Option D := match d with
  | .agg cs => (fieldT P t f).bind fun fl => partD P fl.type cs fl.offset
  | _ => none
section
variable {cx : Cx} {nx bef i nid : Nat} {env : Nat → D} {H : Hp} {dst : Option Tmp} {ty t : TypeId} {pos : String} {after : Array Edge} {g : Option (Nat × Bool)} {x y z : Operand} {f : Nat}
theorem opf_field : opD cx env ⟨dst, .field t x f, ty, pos, after, g⟩ H nid = (fieldOf cx.P t f (ev env x)).map fun d => (d, H, nid) := by
  rw [op_field]
  unfold fieldOf
  cases ev env x <;> first | rfl | (simp only [Option.map_bind]; rfl)
theorem stepf_field : stepD cx nx bef i ⟨dst, .field t x f, ty, pos, after, g⟩ env H = (fieldOf cx.P t f (ev env x)).map fun d => (d, H) := by
  rw [step_field]
  unfold fieldOf
  cases ev env x <;> first | rfl | (simp only [Option.map_bind]; rfl)
end
/-- What an equality test of two structs answers. -/
theorem bin_eql {P : Program} {t : TypeId} {a b : D} {cs ds : List D} {r : Bool} (ha : a = .agg cs) (hb : b = .agg ds) (hg : P.eqGuardType P.depth t = false) (h : eqD P 12 t (.agg cs) (.agg ds) = some r) : binD P .eql t a b = some (.bo r) := by
  subst ha; subst hb
  simp only [binD, hg, eqRes, h]; rfl
theorem bin_neq {P : Program} {t : TypeId} {a b : D} {cs ds : List D} {r : Bool} (ha : a = .agg cs) (hb : b = .agg ds) (hg : P.eqGuardType P.depth t = false) (h : eqD P 12 t (.agg cs) (.agg ds) = some r) : binD P .neq t a b = some (.bo (!r)) := by
  subst ha; subst hb
  simp only [binD, hg, eqRes, h]; rfl

section
variable {P : Program} {t : TypeId} {n : Nat}
theorem eqD_struct {fs : Array Field} {xs ys : List D} (h : P.underlying t = some (.struct fs)) (hh : P.stoodInHeld t = false) : eqD P (n + 1) t (.agg xs) (.agg ys) = eqF P n fs.toList xs ys := by simp [eqD, h, hh]
theorem eqD_int {k : IntKind} {a b : Int} (h : P.underlying t = some (.int k)) : eqD P (n + 1) t (.it k a) (.it k b) = some (a == b) := by simp [eqD, h]
theorem eqD_str {a b : List UInt8} (h : P.underlying t = some .string) : eqD P (n + 1) t (.st a) (.st b) = some (a == b) := by simp [eqD, h]
theorem eqD_bool {a b : Bool} (h : P.underlying t = some .bool) : eqD P (n + 1) t (.bo a) (.bo b) = some (a == b) := by simp [eqD, h]
theorem eqF_nil {xs ys : List D} : eqF P n [] xs ys = some true := by simp [eqF]
theorem eqF_cons {f : Field} {fs : List Field} {xs ys : List D} (hf : f.name ≠ "_") : eqF P n (f :: fs) xs ys = (partD P f.type xs f.offset).bind fun p => (partD P f.type ys f.offset).bind fun q => (eqD P n f.type p q).bind fun r => (eqF P n fs xs ys).map fun r' => r && r' := by rw [eqF, if_neg hf]
end
structure Adr where
  v6 : Bool
  hi : Int
  lo : Int
  deriving DecidableEq, Inhabited
structure Dat where
  adr : Adr
  host : List UInt8
  mail : List UInt8
  text : List UInt8
  a : Int
  b : Int
  c : Int
  d : Int
  e : Int
  f : Int
  bits : Int
  deriving DecidableEq, Inhabited
structure Rec where
  name : List UInt8
  typ : Int
  ttl : Int
  dat : Dat
  deriving DecidableEq, Inhabited
structure Zone where
  origin : List UInt8
  recs : List Rec
  deriving DecidableEq, Inhabited
structure Delta where
  origin : List UInt8
  fro : Int
  til : Int
  rem : List Rec
  add : List Rec
  deriving DecidableEq, Inhabited
structure Hist where
  zone : Zone
  deltas : List Delta
  deriving DecidableEq, Inhabited
def adrL (x : Adr) : List D := [.bo x.v6, .it .u64 x.hi, .it .u64 x.lo]
def adrE (x : Adr) : D := .agg (adrL x)
def datL (x : Dat) : List D := [.bo x.adr.v6, .it .u64 x.adr.hi, .it .u64 x.adr.lo, .st x.host, .st x.mail, .st x.text, .it .i64 x.a, .it .i64 x.b, .it .i64 x.c, .it .i64 x.d, .it .i64 x.e, .it .i64 x.f, .it .u64 x.bits]
def datE (x : Dat) : D := .agg (datL x)
def recL (r : Rec) : List D := [.st r.name, .it .i64 r.typ, .it .i64 r.ttl, .bo r.dat.adr.v6, .it .u64 r.dat.adr.hi, .it .u64 r.dat.adr.lo, .st r.dat.host, .st r.dat.mail, .st r.dat.text, .it .i64 r.dat.a, .it .i64 r.dat.b, .it .i64 r.dat.c, .it .i64 r.dat.d, .it .i64 r.dat.e, .it .i64 r.dat.f, .it .u64 r.dat.bits]
def recE (r : Rec) : D := .agg (recL r)
abbrev recsE (l : List Rec) : D := vecE 16 recE l
def zoneL (z : Zone) : List D := [.st z.origin, recsE z.recs]
def zoneE (z : Zone) : D := .agg (zoneL z)
def deltaL (d : Delta) : List D := [.st d.origin, .it .i64 d.fro, .it .i64 d.til, recsE d.rem, recsE d.add]
def deltaE (d : Delta) : D := .agg (deltaL d)
abbrev deltasE (l : List Delta) : D := vecE 5 deltaE l
def histL (h : Hist) : List D := [.st h.zone.origin, recsE h.zone.recs, deltasE h.deltas]
def histE (h : Hist) : D := .agg (histL h)
abbrev strsE (l : List (List UInt8)) : D := vecE 1 D.st l
abbrev intsE (l : List Int) : D := vecE 1 (D.it .i64) l
section
variable {x : Adr} {d : Dat} {r s : Rec} {z z' : Zone} {q q' : Delta} {h h' : Hist} {n : Nat} {f : Nat → Option Nat}
theorem rec_cells : (recE r).cells = recL r := rfl
theorem dat_cells : (datE d).cells = datL d := rfl
theorem adr_cells : (adrE x).cells = adrL x := rfl
theorem zone_cells : (zoneE z).cells = zoneL z := rfl
theorem delta_cells : (deltaE q).cells = deltaL q := rfl
theorem hist_cells : (histE h).cells = histL h := rfl
theorem rec_cellsOf : cellsOf (recE r) = some (recL r) := rfl
theorem dat_cellsOf : cellsOf (datE d) = some (datL d) := rfl
theorem adr_cellsOf : cellsOf (adrE x) = some (adrL x) := rfl
theorem zone_cellsOf : cellsOf (zoneE z) = some (zoneL z) := rfl
theorem delta_cellsOf : cellsOf (deltaE q) = some (deltaL q) := rfl
theorem hist_cellsOf : cellsOf (histE h) = some (histL h) := rfl
theorem rec_len : (recL r).length = 16 := rfl
theorem dat_len : (datL d).length = 13 := rfl
theorem adr_len : (adrL x).length = 3 := rfl
theorem zone_len : (zoneL z).length = 2 := rfl
theorem delta_len : (deltaL q).length = 5 := rfl
theorem hist_len : (histL h).length = 3 := rfl
theorem rec_take : List.take 16 (recL r) = recL r := rfl
theorem dat_take : List.take 13 (datL d) = datL d := rfl
theorem adr_take : List.take 3 (adrL x) = adrL x := rfl
theorem zone_take : List.take 2 (zoneL z) = zoneL z := rfl
theorem delta_take : List.take 5 (deltaL q) = deltaL q := rfl
theorem hist_take : List.take 3 (histL h) = histL h := rfl
theorem rec_agg : D.agg (recL r) = recE r := rfl
theorem dat_agg : D.agg (datL d) = datE d := rfl
theorem adr_agg : D.agg (adrL x) = adrE x := rfl
theorem zone_agg : D.agg (zoneL z) = zoneE z := rfl
theorem delta_agg : D.agg (deltaL q) = deltaE q := rfl
theorem hist_agg : D.agg (histL h) = histE h := rfl
theorem rec_refs : refs (recE r) = [] := rfl
theorem dat_refs : refs (datE d) = [] := rfl
theorem adr_refs : refs (adrE x) = [] := rfl
theorem zone_refs : refs (zoneE z) = [] := rfl
theorem delta_refs : refs (deltaE q) = [] := rfl
theorem hist_refs : refs (histE h) = [] := rfl
theorem rec_imm : immD (recE r) = true := rfl
theorem dat_imm : immD (datE d) = true := rfl
theorem adr_imm : immD (adrE x) = true := rfl
theorem zone_imm : immD (zoneE z) = true := rfl
theorem delta_imm : immD (deltaE q) = true := rfl
theorem hist_imm : immD (histE h) = true := rfl
theorem rec_ren : ren f (recE r) = recE r := rfl
theorem dat_ren : ren f (datE d) = datE d := rfl
theorem adr_ren : ren f (adrE x) = adrE x := rfl
theorem zone_ren : ren f (zoneE z) = zoneE z := rfl
theorem delta_ren : ren f (deltaE q) = deltaE q := rfl
theorem hist_ren : ren f (histE h) = histE h := rfl
theorem rec_dry : noMem (recE r) = true := rfl
theorem dat_dry : noMem (datE d) = true := rfl
theorem adr_dry : noMem (adrE x) = true := rfl
theorem rec_inj : ∀ a b : Rec, recE a = recE b → a = b := by
  rintro ⟨n, t, l, ⟨⟨v, i, o⟩, h, m, x, a, b, c, d, e, f, g⟩⟩ ⟨n', t', l', ⟨⟨v', i', o'⟩, h', m', x', a', b', c', d', e', f', g'⟩⟩ hh
  simp [recE, recL] at hh
  simp [hh]
theorem dat_inj : ∀ a b : Dat, datE a = datE b → a = b := by
  rintro ⟨⟨v, i, o⟩, h, m, x, a, b, c, d, e, f, g⟩ ⟨⟨v', i', o'⟩, h', m', x', a', b', c', d', e', f', g'⟩ hh
  simp [datE, datL] at hh
  simp [hh]
theorem adr_inj : ∀ a b : Adr, adrE a = adrE b → a = b := by
  rintro ⟨v, i, o⟩ ⟨v', i', o'⟩ hh
  simp [adrE, adrL] at hh
  simp [hh]
theorem recs_inj {a b : List Rec} (h : recsE a = recsE b) : a = b := vecE_inj rec_inj h
theorem zone_inj : ∀ a b : Zone, zoneE a = zoneE b → a = b := by
  rintro ⟨n, l⟩ ⟨n', l'⟩ hh
  simp only [zoneE, zoneL, D.agg.injEq, List.cons.injEq, D.st.injEq, and_true] at hh
  rw [hh.1, recs_inj hh.2]
theorem delta_inj : ∀ a b : Delta, deltaE a = deltaE b → a = b := by
  rintro ⟨n, u, v, l, m⟩ ⟨n', u', v', l', m'⟩ hh
  simp only [deltaE, deltaL, D.agg.injEq, List.cons.injEq, D.st.injEq, D.it.injEq, and_true, true_and] at hh
  rw [hh.1, hh.2.1, hh.2.2.1, recs_inj hh.2.2.2.1, recs_inj hh.2.2.2.2]
theorem hist_inj : ∀ a b : Hist, histE a = histE b → a = b := by
  rintro ⟨⟨n, l⟩, m⟩ ⟨⟨n', l'⟩, m'⟩ hh
  simp only [histE, histL, D.agg.injEq, List.cons.injEq, D.st.injEq, and_true] at hh
  rw [hh.1, recs_inj hh.2.1, vecE_inj delta_inj hh.2.2]
/-- Explicit cells are a record's. -/
theorem rec_mk {n1 : List UInt8} {t l : Int} {v : Bool} {i o : Int} {h m x : List UInt8} {a b c d e f g : Int} : D.agg [.st n1, .it .i64 t, .it .i64 l, .bo v, .it .u64 i, .it .u64 o, .st h, .st m, .st x, .it .i64 a, .it .i64 b, .it .i64 c, .it .i64 d, .it .i64 e, .it .i64 f, .it .u64 g] = recE ⟨n1, t, l, ⟨⟨v, i, o⟩, h, m, x, a, b, c, d, e, f, g⟩⟩ := rfl
theorem dat_mk {v : Bool} {i o : Int} {h m x : List UInt8} {a b c d e f g : Int} : D.agg [.bo v, .it .u64 i, .it .u64 o, .st h, .st m, .st x, .it .i64 a, .it .i64 b, .it .i64 c, .it .i64 d, .it .i64 e, .it .i64 f, .it .u64 g] = datE ⟨⟨v, i, o⟩, h, m, x, a, b, c, d, e, f, g⟩ := rfl
theorem adr_mk {v : Bool} {i o : Int} : D.agg [.bo v, .it .u64 i, .it .u64 o] = adrE ⟨v, i, o⟩ := rfl
theorem zone_mk {o : List UInt8} {l : List Rec} : D.agg [.st o, recsE l] = zoneE ⟨o, l⟩ := rfl
theorem delta_mk {o : List UInt8} {a b : Int} {l m : List Rec} : D.agg [.st o, .it .i64 a, .it .i64 b, recsE l, recsE m] = deltaE ⟨o, a, b, l, m⟩ := rfl
theorem hist_mk {o : List UInt8} {l : List Rec} {m : List Delta} : D.agg [.st o, recsE l, deltasE m] = histE ⟨⟨o, l⟩, m⟩ := rfl
theorem dat_eta : datE ⟨⟨r.dat.adr.v6, r.dat.adr.hi, r.dat.adr.lo⟩, r.dat.host, r.dat.mail, r.dat.text, r.dat.a, r.dat.b, r.dat.c, r.dat.d, r.dat.e, r.dat.f, r.dat.bits⟩ = datE r.dat := rfl
theorem adr_eta : adrE ⟨d.adr.v6, d.adr.hi, d.adr.lo⟩ = adrE d.adr := rfl
theorem zone_eta : zoneE ⟨h.zone.origin, h.zone.recs⟩ = zoneE h.zone := rfl
end
def cT := And.intro @rec_cells (And.intro @dat_cells (And.intro @adr_cells (And.intro @zone_cells (And.intro @delta_cells (And.intro @hist_cells (And.intro @rec_cellsOf (And.intro @dat_cellsOf (And.intro @adr_cellsOf (And.intro @zone_cellsOf (And.intro @delta_cellsOf (And.intro @hist_cellsOf
  (And.intro @rec_len (And.intro @dat_len (And.intro @adr_len (And.intro @zone_len (And.intro @delta_len (And.intro @hist_len (And.intro @rec_take (And.intro @dat_take (And.intro @adr_take (And.intro @zone_take (And.intro @delta_take (And.intro @hist_take
  (And.intro @rec_agg (And.intro @dat_agg (And.intro @adr_agg (And.intro @zone_agg (And.intro @delta_agg (And.intro @hist_agg (And.intro @rec_refs (And.intro @dat_refs (And.intro @adr_refs (And.intro @zone_refs (And.intro @delta_refs (And.intro @hist_refs
  (And.intro @rec_imm (And.intro @dat_imm (And.intro @adr_imm (And.intro @zone_imm (And.intro @delta_imm (And.intro @hist_imm (And.intro @rec_ren (And.intro @dat_ren (And.intro @adr_ren (And.intro @zone_ren (And.intro @delta_ren (And.intro @hist_ren
  (And.intro @rec_dry (And.intro @dat_dry (And.intro @adr_dry (And.intro @rec_mk (And.intro @dat_mk (And.intro @adr_mk (And.intro @zone_mk (And.intro @delta_mk (And.intro @hist_mk (And.intro @dat_eta (And.intro @adr_eta @zone_eta))))))))))))))))))))))))))))))))))))))))))))))))))))))))))
def cV := And.intro @refs_vecE (And.intro @imm_vecE (And.intro @ren_vecE (And.intro @cells_vecE (And.intro @dcells_vecE (And.intro @elems_vecE (And.intro @vec_fold (And.intro @vec_fold0 (And.intro @opf_field @stepf_field))))))))
end Go.Mir

/- The mirror machine, part 41: strings by index, rows by index, answers with a row in front. Nothing is claimed of any program here. -/
set_option linter.unusedSimpArgs false
set_option linter.unusedVariables false
set_option linter.defProp false
set_option linter.unusedSectionVars false
namespace Go.Mir
open Go Go.RowKit
theorem ixs {P : Program} {t : TypeId} {l : List UInt8} {k : IntKind} (hu : P.underlying t = some .string) {i : Nat} (h : (i : Int) < l.length) : indexD P t (.st l) (.it k (i : Int)) = some (.it .u8 (l[i]!.toNat : Int)) := by
  have h' : i < l.length := by omega
  simp [indexD, idx, hu, getElem!_pos l i h', h']
theorem ixsN {P : Program} {t : TypeId} {l : List UInt8} {k : IntKind} (hu : P.underlying t = some .string) {n : Int} (h0 : 0 ≤ n) (h : n < l.length) : indexD P t (.st l) (.it k n) = some (.it .u8 (l[n.toNat]!.toNat : Int)) := by
  obtain ⟨i, rfl⟩ := Int.eq_ofNat_of_zero_le h0
  rw [ixs hu h]; rfl
theorem lens {P : Program} {H : Hp} {t : TypeId} {l : List UInt8} (hu : P.underlying t = some .string) : lenD P H t (.st l) = some (l.length : Int) := by simp [lenD, hu]
theorem slices_eq {P : Program} {H : Hp} {t : TypeId} {l : List UInt8} {lo hi : Option D} {a b : Nat} (hu : P.underlying t = some .string) (hb : bnds l.length lo hi none = some (a, b, none)) : sliceD P H t (.st l) lo hi none = some (.st ((l.take b).drop a)) := by
  simp [sliceD, hb, isStr, hu]
theorem bnds_two {n i j : Nat} {k k' : IntKind} (h : i ≤ j) (h' : j ≤ n) : bnds n (some (.it k (i : Int))) (some (.it k' (j : Int))) none = some (i, j, none) := by
  simp only [bnds, idx, Option.bind_some]
  rw [if_pos (by omega)]; rfl
theorem bnds_from {n i : Nat} {k : IntKind} (h : i ≤ n) : bnds n (some (.it k (i : Int))) none none = some (i, n, none) := by
  simp only [bnds, idx, Option.bind_some]
  rw [if_pos (by omega)]; rfl
theorem bnds_to {n j : Nat} {k : IntKind} (h : j ≤ n) : bnds n none (some (.it k (j : Int))) none = some (0, j, none) := by
  simp only [bnds, idx, Option.bind_some]
  rw [if_pos (by omega)]; rfl
theorem ixo {P : Program} {H : Hp} {t e : TypeId} {sz id len : Nat} {pl : Bool} {es : List D} {k : IntKind} (hu : P.underlying t = some (.slice e)) (hs : szT P e = some sz) (hH : H id = .row sz pl es) {n : Int} (h0 : 0 ≤ n) (h : n < len) : indexAddrD P H t (.own id 0 len) (.it k n) = some (.rowp id n.toNat 0) := by
  simp [indexAddrD, idx, hu, hs, hH, h0, h]
theorem ixo_eq {P : Program} {H : Hp} {t e : TypeId} {id off len : Nat} {k : IntKind} {n : Int} (hu : P.underlying t = some (.slice e)) : indexAddrD P H t (.own id off len) (.it k n) = match H id with | .row sz _ _ => if szT P e = some sz ∧ 0 ≤ n ∧ n < len then some (.rowp id (off + n.toNat) 0) else none | _ => none := by
  simp only [indexAddrD, idx, Option.bind_some, hu]
  cases H id <;> rfl
theorem rev_at {α : Type} [Inhabited α] {l : List α} {k : Nat} (h : k < l.length) : l[l.length - 1 - k]! = l.reverse[k]! := by
  rw [getElem!_pos l _ (by omega), getElem!_pos l.reverse k (by simpa using h), List.getElem_reverse]
theorem getm {α : Type} [Inhabited α] {E : α → D} {xs : List α} {i : Nat} (h : i < xs.length) : (xs.map E)[i]? = some (E xs[i]!) := by
  rw [List.getElem?_map, List.getElem?_eq_getElem h, getElem!_pos xs i h]; rfl
theorem elems_own {H : Hp} {n id off len : Nat} : elems H n (.own id off len) = match H id with | .row sz pl es => if sz = n then some (pl, (es.drop off).take len) else none | _ => none := rfl
theorem putAll_one {H : Hp} {nid : Nat} {b : Blk} : putAll H nid [b] = upd H nid b := by
  funext id
  unfold upd putAll
  by_cases h : id = nid
  · subst h; simp
  · rw [if_neg h]
    split
    · rw [List.getElem?_eq_none (by simp; omega)]; rfl
    · rfl
theorem u8_eq {a b : UInt8} : ((a.toNat : Int) = (b.toNat : Int)) ↔ a = b := by
  rw [Int.ofNat_inj]; exact UInt8.toNat_inj
/-- A function's answer that begins with a slice of its own, of plain elements. -/
def Res.rowd (sz : Nat) (es : List D) (ds : List D) : Res := ⟨false, .tup (.own 0 0 es.length :: ds), [.row sz true es]⟩
theorem finV_flat {own : List Nat} {H : Hp} {d : D} (h : flatD d = true) : finV own H d = some d := fin_flat h
theorem pure_rowd {cx : Cx} {fn : Func} {c : Code} {ds : List D} {r : Res} {rs : List ResultVar} (hb : fn.body = some c) (hbs : cx.bs = 0) (hrs : fn.results.toList = rs)
    (h : EvX .go cx c ⟨argEnv ds, ofHp [], 0⟩ fun e st t => (e = .nrm ∨ e = .ret) ∧ Ev t (resD cx.P st rs) fun out _ => ∃ id len sz es d fs, out = .own id 0 len :: d :: fs ∧ st.H id = .row sz true es ∧ len = es.length ∧ flatL (d :: fs) = true ∧ noMemL es = true ∧ Res.rowd sz es (d :: fs) = r) : pureRun cx fn [0] false ds = some r := by
  obtain ⟨⟨e, s⟩, he, hen, out, ho, id, len, sz, es, d, fs, rfl, hH, rfl, hfl, hm, rfl⟩ := h
  simp only at hH
  obtain ⟨f1, f2, f3⟩ := flatL_facts hfl
  have hr : reach s.H 60 [id] [] = [id] := by
    have : refsB (s.H id) = [] := by rw [hH]; rfl
    show reach s.H (59 + 1) [id] [] = [id]
    simp only [reach, List.contains_nil, Bool.false_eq_true, if_false, this, List.nil_append]
  have h1 : refsL (D.own id 0 es.length :: d :: fs) = [id] := by simp only [refsL, refs] at f1 ⊢; simpa using f1
  refine pure_of hb hbs [0] false ⟨(e, s), he, hen, _, hrs ▸ ho, ?_, [.row sz true es], ?_, .tup (.own 0 0 es.length :: d :: fs), ?_, rfl⟩
  · have h2 : closed s.H [id] = true := by simp [closed, hH, refsB]
    have h3 : noMemL (D.own id 0 es.length :: d :: fs) = true := by simp only [noMemL, noMem, Bool.true_and] at f2 ⊢; exact f2
    simp [ownOf, distinct, dry, h1, hr, h2, h3, noMemB, hH, hm]
  · simp only [h1]
    simp [ownOf, hr, finB, restr, hH]
  · have hmm : ∀ (own : List Nat) (H : Hp) (l : List D), (∀ d ∈ l, flatD d = true) → l.mapM (finV own H) = some l := by
      intro own H l
      induction l with
      | nil => intro _; rfl
      | cons x r ih => intro h; rw [List.mapM_cons, fin_flat (h x (by simp)), ih (fun d hd => h d (by simp [hd]))]; rfl
    have ho' : ownOf (D.own id 0 es.length :: d :: fs) [0] = [id] := by simp [ownOf]
    rw [ho']
    simp only [finT]
    rw [List.mapM_cons, hmm _ _ _ f3]
    simp [finV, ixOf]
end Go.Mir

/- The mirror machine, part 42: cells, one by one; equations of typed values. Nothing is claimed of any program here. -/
set_option linter.unusedSimpArgs false
set_option linter.unusedVariables false
set_option linter.defProp false
namespace Go.Mir
open Go Go.RowKit
section
variable {k : IntKind} {n id off len sz ix : Nat} {i : Int} {b : Bool} {l : List UInt8} {cs es p q : List D} {f : Fn}
theorem co_it : cellsOf (.it k i) = some [.it k i] := rfl
theorem co_bo : cellsOf (.bo b) = some [.bo b] := rfl
theorem co_st : cellsOf (.st l) = some [.st l] := rfl
theorem co_vec : cellsOf (.vec sz b es) = some [.vec sz b es] := rfl
theorem co_nils : cellsOf .nils = some [.nils] := rfl
theorem co_own : cellsOf (.own id off len) = some [.own id off len] := rfl
theorem co_agg : cellsOf (.agg cs) = some cs := rfl
theorem co_ptr : cellsOf (.ptr id off) = some [.ptr id off] := rfl
theorem co_rowp : cellsOf (.rowp id ix off) = some [.rowp id ix off] := rfl
theorem co_fn : cellsOf (.fn f p q) = some [.fn f p q] := rfl
theorem co_nilf : cellsOf .nilf = some [.nilf] := rfl
theorem co_elt : cellsOf (.elt cs) = some [.elt cs] := rfl
theorem co_nilp : cellsOf .nilp = some [.nilp] := rfl
theorem dc_it : D.cells (.it k i) = [.it k i] := rfl
theorem dc_bo : D.cells (.bo b) = [.bo b] := rfl
theorem dc_st : D.cells (.st l) = [.st l] := rfl
theorem dc_vec : D.cells (.vec sz b es) = [.vec sz b es] := rfl
theorem dc_nils : D.cells .nils = [.nils] := rfl
theorem dc_own : D.cells (.own id off len) = [.own id off len] := rfl
theorem dc_agg : D.cells (.agg cs) = cs := rfl
theorem dc_ptr : D.cells (.ptr id off) = [.ptr id off] := rfl
theorem dc_rowp : D.cells (.rowp id ix off) = [.rowp id ix off] := rfl
theorem dc_fn : D.cells (.fn f p q) = [.fn f p q] := rfl
theorem dc_nilf : D.cells .nilf = [.nilf] := rfl
theorem dc_elt : D.cells (.elt cs) = [.elt cs] := rfl
theorem dc_nilp : D.cells .nilp = [.nilp] := rfl
end
def cO := And.intro @co_it (And.intro @co_bo (And.intro @co_st (And.intro @co_vec (And.intro @co_nils (And.intro @co_own (And.intro @co_agg (And.intro @co_ptr (And.intro @co_rowp (And.intro @co_fn (And.intro @co_nilf (And.intro @co_elt @co_nilp)))))))))))
theorem rec_drop1 (r : Rec) : List.drop 1 (recL r) = [.it .i64 r.typ, .it .i64 r.ttl, .bo r.dat.adr.v6, .it .u64 r.dat.adr.hi, .it .u64 r.dat.adr.lo, .st r.dat.host, .st r.dat.mail, .st r.dat.text, .it .i64 r.dat.a, .it .i64 r.dat.b, .it .i64 r.dat.c, .it .i64 r.dat.d, .it .i64 r.dat.e, .it .i64 r.dat.f, .it .u64 r.dat.bits] := rfl
theorem rec_drop2 (r : Rec) : List.drop 2 (recL r) = [.it .i64 r.ttl, .bo r.dat.adr.v6, .it .u64 r.dat.adr.hi, .it .u64 r.dat.adr.lo, .st r.dat.host, .st r.dat.mail, .st r.dat.text, .it .i64 r.dat.a, .it .i64 r.dat.b, .it .i64 r.dat.c, .it .i64 r.dat.d, .it .i64 r.dat.e, .it .i64 r.dat.f, .it .u64 r.dat.bits] := rfl
theorem rec_drop3 (r : Rec) : List.drop 3 (recL r) = datL r.dat := rfl
theorem rec_drop4 (r : Rec) : List.drop 4 (recL r) = [.it .u64 r.dat.adr.hi, .it .u64 r.dat.adr.lo, .st r.dat.host, .st r.dat.mail, .st r.dat.text, .it .i64 r.dat.a, .it .i64 r.dat.b, .it .i64 r.dat.c, .it .i64 r.dat.d, .it .i64 r.dat.e, .it .i64 r.dat.f, .it .u64 r.dat.bits] := rfl
theorem rec_drop5 (r : Rec) : List.drop 5 (recL r) = [.it .u64 r.dat.adr.lo, .st r.dat.host, .st r.dat.mail, .st r.dat.text, .it .i64 r.dat.a, .it .i64 r.dat.b, .it .i64 r.dat.c, .it .i64 r.dat.d, .it .i64 r.dat.e, .it .i64 r.dat.f, .it .u64 r.dat.bits] := rfl
theorem rec_drop6 (r : Rec) : List.drop 6 (recL r) = [.st r.dat.host, .st r.dat.mail, .st r.dat.text, .it .i64 r.dat.a, .it .i64 r.dat.b, .it .i64 r.dat.c, .it .i64 r.dat.d, .it .i64 r.dat.e, .it .i64 r.dat.f, .it .u64 r.dat.bits] := rfl
theorem rec_drop7 (r : Rec) : List.drop 7 (recL r) = [.st r.dat.mail, .st r.dat.text, .it .i64 r.dat.a, .it .i64 r.dat.b, .it .i64 r.dat.c, .it .i64 r.dat.d, .it .i64 r.dat.e, .it .i64 r.dat.f, .it .u64 r.dat.bits] := rfl
theorem rec_drop8 (r : Rec) : List.drop 8 (recL r) = [.st r.dat.text, .it .i64 r.dat.a, .it .i64 r.dat.b, .it .i64 r.dat.c, .it .i64 r.dat.d, .it .i64 r.dat.e, .it .i64 r.dat.f, .it .u64 r.dat.bits] := rfl
theorem rec_drop9 (r : Rec) : List.drop 9 (recL r) = [.it .i64 r.dat.a, .it .i64 r.dat.b, .it .i64 r.dat.c, .it .i64 r.dat.d, .it .i64 r.dat.e, .it .i64 r.dat.f, .it .u64 r.dat.bits] := rfl
theorem rec_drop10 (r : Rec) : List.drop 10 (recL r) = [.it .i64 r.dat.b, .it .i64 r.dat.c, .it .i64 r.dat.d, .it .i64 r.dat.e, .it .i64 r.dat.f, .it .u64 r.dat.bits] := rfl
theorem rec_drop11 (r : Rec) : List.drop 11 (recL r) = [.it .i64 r.dat.c, .it .i64 r.dat.d, .it .i64 r.dat.e, .it .i64 r.dat.f, .it .u64 r.dat.bits] := rfl
theorem rec_drop12 (r : Rec) : List.drop 12 (recL r) = [.it .i64 r.dat.d, .it .i64 r.dat.e, .it .i64 r.dat.f, .it .u64 r.dat.bits] := rfl
theorem rec_drop13 (r : Rec) : List.drop 13 (recL r) = [.it .i64 r.dat.e, .it .i64 r.dat.f, .it .u64 r.dat.bits] := rfl
theorem rec_drop14 (r : Rec) : List.drop 14 (recL r) = [.it .i64 r.dat.f, .it .u64 r.dat.bits] := rfl
theorem rec_drop15 (r : Rec) : List.drop 15 (recL r) = [.it .u64 r.dat.bits] := rfl
theorem rec_hd (r : Rec) : (recL r).head? = some (D.st r.name) := rfl
theorem dat_drop1 (x : Dat) : List.drop 1 (datL x) = [.it .u64 x.adr.hi, .it .u64 x.adr.lo, .st x.host, .st x.mail, .st x.text, .it .i64 x.a, .it .i64 x.b, .it .i64 x.c, .it .i64 x.d, .it .i64 x.e, .it .i64 x.f, .it .u64 x.bits] := rfl
theorem dat_drop2 (x : Dat) : List.drop 2 (datL x) = [.it .u64 x.adr.lo, .st x.host, .st x.mail, .st x.text, .it .i64 x.a, .it .i64 x.b, .it .i64 x.c, .it .i64 x.d, .it .i64 x.e, .it .i64 x.f, .it .u64 x.bits] := rfl
theorem dat_drop3 (x : Dat) : List.drop 3 (datL x) = [.st x.host, .st x.mail, .st x.text, .it .i64 x.a, .it .i64 x.b, .it .i64 x.c, .it .i64 x.d, .it .i64 x.e, .it .i64 x.f, .it .u64 x.bits] := rfl
theorem dat_drop4 (x : Dat) : List.drop 4 (datL x) = [.st x.mail, .st x.text, .it .i64 x.a, .it .i64 x.b, .it .i64 x.c, .it .i64 x.d, .it .i64 x.e, .it .i64 x.f, .it .u64 x.bits] := rfl
theorem dat_drop5 (x : Dat) : List.drop 5 (datL x) = [.st x.text, .it .i64 x.a, .it .i64 x.b, .it .i64 x.c, .it .i64 x.d, .it .i64 x.e, .it .i64 x.f, .it .u64 x.bits] := rfl
theorem dat_drop6 (x : Dat) : List.drop 6 (datL x) = [.it .i64 x.a, .it .i64 x.b, .it .i64 x.c, .it .i64 x.d, .it .i64 x.e, .it .i64 x.f, .it .u64 x.bits] := rfl
theorem dat_drop7 (x : Dat) : List.drop 7 (datL x) = [.it .i64 x.b, .it .i64 x.c, .it .i64 x.d, .it .i64 x.e, .it .i64 x.f, .it .u64 x.bits] := rfl
theorem dat_drop8 (x : Dat) : List.drop 8 (datL x) = [.it .i64 x.c, .it .i64 x.d, .it .i64 x.e, .it .i64 x.f, .it .u64 x.bits] := rfl
theorem dat_drop9 (x : Dat) : List.drop 9 (datL x) = [.it .i64 x.d, .it .i64 x.e, .it .i64 x.f, .it .u64 x.bits] := rfl
theorem dat_drop10 (x : Dat) : List.drop 10 (datL x) = [.it .i64 x.e, .it .i64 x.f, .it .u64 x.bits] := rfl
theorem dat_drop11 (x : Dat) : List.drop 11 (datL x) = [.it .i64 x.f, .it .u64 x.bits] := rfl
theorem dat_drop12 (x : Dat) : List.drop 12 (datL x) = [.it .u64 x.bits] := rfl
theorem dat_hd (x : Dat) : (datL x).head? = some (.bo x.adr.v6) := rfl
theorem adr_drop1 (x : Adr) : List.drop 1 (adrL x) = [.it .u64 x.hi, .it .u64 x.lo] := rfl
theorem adr_drop2 (x : Adr) : List.drop 2 (adrL x) = [.it .u64 x.lo] := rfl
theorem adr_hd (x : Adr) : (adrL x).head? = some (.bo x.v6) := rfl
theorem zone_drop1 (z : Zone) : List.drop 1 (zoneL z) = [recsE z.recs] := rfl
theorem zone_hd (z : Zone) : (zoneL z).head? = some (.st z.origin) := rfl
theorem delta_drop1 (d : Delta) : List.drop 1 (deltaL d) = [.it .i64 d.fro, .it .i64 d.til, recsE d.rem, recsE d.add] := rfl
theorem delta_drop2 (d : Delta) : List.drop 2 (deltaL d) = [.it .i64 d.til, recsE d.rem, recsE d.add] := rfl
theorem delta_drop3 (d : Delta) : List.drop 3 (deltaL d) = [recsE d.rem, recsE d.add] := rfl
theorem delta_drop4 (d : Delta) : List.drop 4 (deltaL d) = [recsE d.add] := rfl
theorem delta_hd (d : Delta) : (deltaL d).head? = some (.st d.origin) := rfl
theorem hist_drop1 (h : Hist) : List.drop 1 (histL h) = [recsE h.zone.recs, deltasE h.deltas] := rfl
theorem hist_drop2 (h : Hist) : List.drop 2 (histL h) = [deltasE h.deltas] := rfl
theorem hist_hd (h : Hist) : (histL h).head? = some (.st h.zone.origin) := rfl
theorem dat_take3 (x : Dat) : List.take 3 (datL x) = adrL x.adr := rfl
theorem hist_take2 (h : Hist) : List.take 2 (histL h) = zoneL h.zone := rfl
/-- The address of a field that lies so far behind. -/
def faD (H : Hp) (x : D) (o : Nat) : Option D := match x with
  | .ptr id off => match H id with | .box cs => if off + o ≤ cs.length then some (.ptr id (off + o)) else none | _ => none
  | .rowp id ix off => match H id with | .row sz _ _ => if off + o ≤ sz then some (.rowp id ix (off + o)) else none | _ => none
  | .elt cs => if o ≤ cs.length then some (.elt (cs.drop o)) else none
  | _ => none
theorem faD_ptr {H : Hp} {id off o : Nat} : faD H (.ptr id off) o = match H id with | .box cs => if off + o ≤ cs.length then some (.ptr id (off + o)) else none | _ => none := rfl
theorem faD_row {H : Hp} {id ix off o : Nat} : faD H (.rowp id ix off) o = match H id with | .row sz _ _ => if off + o ≤ sz then some (.rowp id ix (off + o)) else none | _ => none := rfl
theorem faD_elt {H : Hp} {cs : List D} {o : Nat} : faD H (.elt cs) o = if o ≤ cs.length then some (.elt (cs.drop o)) else none := rfl
theorem fa_eq {P : Program} {t : TypeId} {f o n : Nat} {fl : Field} (h : fieldT P t f = some fl) (hn : szT P fl.type = some n) (h0 : n ≠ 0) (ho : fl.offset = o) (H : Hp) (x : D) : fieldAddrD P H t x f = faD H x o := by
  subst ho
  simp only [fieldAddrD, h, hn, Option.bind_some, if_neg h0]
  rfl
theorem bd_eq {P : Program} {t : TypeId} {fs : Array Field} {zc : List D} {L : List (Nat × Nat)} (hz : zeroT P t = some (.agg zc)) (hu : P.underlying t = some (.struct fs)) (hL : (fs.toList.map fun (f : Field) => (szT P f.type).map fun n => (f.offset, n)) = L.map some) (parts : List (Nat × D)) :
    buildD P t parts = (fillD (fun i => L[i]?) zc parts).map .agg := by
  have hall : fs.toList.all (fun f => (szT P f.type).isSome) = true := by
    rw [List.all_eq_true]
    intro f hf
    have : (szT P f.type).map (fun n => (f.offset, n)) ∈ L.map some := hL ▸ List.mem_map_of_mem hf
    obtain ⟨y, _, hy⟩ := List.mem_map.1 this
    cases hs : szT P f.type with
    | none => rw [hs] at hy; cases hy
    | some n => rfl
  have hp : (fun (i : Nat) => (fs[i]?).bind fun (f : Field) => (szT P f.type).map fun n => (f.offset, n)) = fun i => L[i]? := by
    funext i
    have h1 := congrArg (fun l => l[i]?) hL
    simp only [List.getElem?_map] at h1
    rw [← Array.getElem?_toList]
    cases hf : fs.toList[i]? with
    | none => rw [hf] at h1; cases hl : L[i]? with
      | none => rfl
      | some y => rw [hl] at h1; cases h1
    | some f => rw [hf] at h1; cases hl : L[i]? with
      | none => rw [hl] at h1; cases h1
      | some y => rw [hl] at h1; simp only [Option.map_some, Option.some.injEq] at h1; exact h1
  simp only [buildD, hz, cellsOf, Option.bind_some, hu]
  rw [if_pos hall, hp]
theorem fill_nil {place : Nat → Option (Nat × Nat)} {cs : List D} : fillD place cs [] = some cs := rfl
theorem fill_cons {place : Nat → Option (Nat × Nat)} {cs : List D} {i : Nat} {v : D} {rest : List (Nat × D)} : fillD place cs ((i, v) :: rest) = (place i).bind fun (off, n) => (cellsOf v).bind fun xs => if xs.length = n then (setAt cs off xs).bind fun cs' => fillD place cs' rest else none := rfl
theorem adr_app (x : Adr) (l : List D) : adrL x ++ l = .bo x.v6 :: .it .u64 x.hi :: .it .u64 x.lo :: l := rfl
theorem dat_app (x : Dat) (l : List D) : datL x ++ l = .bo x.adr.v6 :: .it .u64 x.adr.hi :: .it .u64 x.adr.lo :: .st x.host :: .st x.mail :: .st x.text :: .it .i64 x.a :: .it .i64 x.b :: .it .i64 x.c :: .it .i64 x.d :: .it .i64 x.e :: .it .i64 x.f :: .it .u64 x.bits :: l := rfl
theorem set_at {cs xs : List D} {off : Nat} : setAt cs off xs = if off + xs.length ≤ cs.length then some (cs.take off ++ (xs ++ cs.drop (off + xs.length))) else none := rfl
theorem stor_ptr {H : Hp} {id off : Nat} {xs : List D} : storD H (.ptr id off) xs = match H id with | .box cs => (setAt cs off xs).map fun cs' => upd H id (.box cs') | _ => none := rfl
theorem stor_row {H : Hp} {id ix off : Nat} {xs : List D} : storD H (.rowp id ix off) xs = match H id with
    | .row sz pl es => (es[ix]?).bind fun e => (setAt e.cells off xs).map fun cs' => upd H id (.row sz (pl && immL xs) (es.set ix (again e cs')))
    | _ => none := rfl
theorem rec_drop16 (r : Rec) : List.drop 16 (recL r) = [] := rfl
theorem dat_drop13 (x : Dat) : List.drop 13 (datL x) = [] := rfl
theorem adr_drop3 (x : Adr) : List.drop 3 (adrL x) = [] := rfl
theorem zone_drop2 (x : Zone) : List.drop 2 (zoneL x) = [] := rfl
theorem delta_drop5 (x : Delta) : List.drop 5 (deltaL x) = [] := rfl
theorem hist_drop3 (x : Hist) : List.drop 3 (histL x) = [] := rfl
theorem rec_refsL (x : Rec) : refsL (recL x) = [] := rfl
theorem rec_immL (x : Rec) : immL (recL x) = true := rfl
theorem dat_refsL (x : Dat) : refsL (datL x) = [] := rfl
theorem dat_immL (x : Dat) : immL (datL x) = true := rfl
theorem adr_refsL (x : Adr) : refsL (adrL x) = [] := rfl
theorem adr_immL (x : Adr) : immL (adrL x) = true := rfl
theorem zone_refsL (x : Zone) : refsL (zoneL x) = [] := rfl
theorem zone_immL (x : Zone) : immL (zoneL x) = true := rfl
theorem delta_refsL (x : Delta) : refsL (deltaL x) = [] := rfl
theorem delta_immL (x : Delta) : immL (deltaL x) = true := rfl
theorem hist_refsL (x : Hist) : refsL (histL x) = [] := rfl
theorem hist_immL (x : Hist) : immL (histL x) = true := rfl
def cW := And.intro @rec_drop1 (And.intro @rec_drop2 (And.intro @rec_drop3 (And.intro @rec_drop4 (And.intro @rec_drop5 (And.intro @rec_drop6 (And.intro @rec_drop7 (And.intro @rec_drop8 (And.intro @rec_drop9 (And.intro @rec_drop10 (And.intro @rec_drop11 (And.intro @rec_drop12 (And.intro @rec_drop13 (And.intro @rec_drop14 (And.intro @rec_drop15 (And.intro @rec_hd (And.intro @dat_drop1 (And.intro @dat_drop2 (And.intro @dat_drop3 (And.intro @dat_drop4 (And.intro @dat_drop5 (And.intro @dat_drop6 (And.intro @dat_drop7 (And.intro @dat_drop8 (And.intro @dat_drop9 (And.intro @dat_drop10 (And.intro @dat_drop11 (And.intro @dat_drop12 (And.intro @dat_hd (And.intro @adr_drop1 (And.intro @adr_drop2 (And.intro @adr_hd (And.intro @zone_drop1 (And.intro @zone_hd (And.intro @delta_drop1 (And.intro @delta_drop2 (And.intro @delta_drop3 (And.intro @delta_drop4 (And.intro @delta_hd (And.intro @hist_drop1 (And.intro @hist_drop2 (And.intro @hist_hd (And.intro @dat_take3 (And.intro @hist_take2 (And.intro @faD_ptr (And.intro @faD_row (And.intro @faD_elt (And.intro @fill_nil (And.intro @fill_cons (And.intro @adr_app (And.intro @dat_app (And.intro @stor_ptr (And.intro @stor_row (And.intro @rec_drop16 (And.intro @dat_drop13 (And.intro @adr_drop3 (And.intro @zone_drop2 (And.intro @delta_drop5 (And.intro @hist_drop3 (And.intro @resD_cell (And.intro @rec_refsL (And.intro @rec_immL (And.intro @dat_refsL (And.intro @dat_immL (And.intro @adr_refsL (And.intro @adr_immL (And.intro @zone_refsL (And.intro @zone_immL (And.intro @delta_refsL (And.intro @delta_immL (And.intro @hist_refsL (And.intro @hist_immL (@set_at))))))))))))))))))))))))))))))))))))))))))))))))))))))))))))))))))))))))
section
variable {k : IntKind} {i : Int} {b : Bool} {l : List UInt8}
theorem fl_it : flatD (.it k i) = true := rfl
theorem fl_bo : flatD (.bo b) = true := rfl
theorem fl_st : flatD (.st l) = true := rfl
theorem fl_nils : flatD .nils = true := rfl
theorem fl_nilp : flatD .nilp = true := rfl
theorem fl_nilf : flatD .nilf = true := rfl
theorem fl_nilm : flatD .nilm = true := rfl
theorem fl_adr (x : Adr) : flatD (adrE x) = true := rfl
theorem fl_dat (x : Dat) : flatD (datE x) = true := rfl
theorem fl_rec (x : Rec) : flatD (recE x) = true := rfl
end
def cG := And.intro @fl_it (And.intro @fl_bo (And.intro @fl_st (And.intro @fl_nils (And.intro @fl_nilp (And.intro @fl_nilf (And.intro @fl_nilm (And.intro @fl_adr (And.intro @fl_dat @fl_rec))))))))
section
variable {P : Program} {op : BinOp} {t : TypeId} {k k' : IntKind} {x y : Int} {a b : List UInt8} {p q : Bool}
theorem bin_it : binD P op t (.it k x) (.it k' y) = match op with | .shl => shiftOp op k x y | .shr => shiftOp op k x y | _ => if k = k' then intOp op k x y else none := rfl
theorem bin_st : binD P op t (.st a) (.st b) = strOp op a b := rfl
theorem bin_bo : binD P op t (.bo p) (.bo q) = eqRes op (eqD P 12 t (.bo p) (.bo q)) := rfl
end
def cB := And.intro @bin_it (And.intro @bin_st @bin_bo)
def cC := And.intro @dc_it (And.intro @dc_bo (And.intro @dc_st (And.intro @dc_vec (And.intro @dc_nils (And.intro @dc_own (And.intro @dc_agg (And.intro @dc_ptr (And.intro @dc_rowp (And.intro @dc_fn (And.intro @dc_nilf (And.intro @dc_elt (@dc_nilp))))))))))))
theorem adr_iff (a b : Adr) : (adrE a = adrE b) = (a = b) := propext ⟨adr_inj a b, fun h => h ▸ rfl⟩
theorem dat_iff (a b : Dat) : (datE a = datE b) = (a = b) := propext ⟨dat_inj a b, fun h => h ▸ rfl⟩
theorem rec_iff (a b : Rec) : (recE a = recE b) = (a = b) := propext ⟨rec_inj a b, fun h => h ▸ rfl⟩
theorem zone_iff (a b : Zone) : (zoneE a = zoneE b) = (a = b) := propext ⟨zone_inj a b, fun h => h ▸ rfl⟩
theorem delta_iff (a b : Delta) : (deltaE a = deltaE b) = (a = b) := propext ⟨delta_inj a b, fun h => h ▸ rfl⟩
theorem hist_iff (a b : Hist) : (histE a = histE b) = (a = b) := propext ⟨hist_inj a b, fun h => h ▸ rfl⟩
theorem recs_iff (a b : List Rec) : (recsE a = recsE b) = (a = b) := propext ⟨recs_inj, fun h => h ▸ rfl⟩
theorem deltas_iff (a b : List Delta) : (deltasE a = deltasE b) = (a = b) := propext ⟨vecE_inj delta_inj, fun h => h ▸ rfl⟩
theorem strs_iff (a b : List (List UInt8)) : (strsE a = strsE b) = (a = b) := propext ⟨vecE_inj st_inj, fun h => h ▸ rfl⟩
theorem ints_iff (a b : List Int) : (intsE a = intsE b) = (a = b) := propext ⟨vecE_inj it_inj, fun h => h ▸ rfl⟩
end Go.Mir

/- The mirror machine, part 43: bytes as a string. Nothing is claimed of any program here. -/
set_option linter.unusedSimpArgs false
set_option linter.unusedVariables false
set_option linter.defProp false
namespace Go.Mir
open Go Go.RowKit
def byteI (x : Int) : UInt8 := UInt8.ofNat x.toNat
theorem bytes_map : ∀ l : List Int, (l.map (D.it .u8)).mapM byteOfD = some (l.map byteI)
  | [] => rfl
  | x :: r => by rw [List.map_cons, List.mapM_cons, bytes_map r]; rfl
theorem bytes_take (k : Nat) (l : List Int) : (List.take k (l.map (D.it .u8))).mapM byteOfD = some ((l.take k).map byteI) := by rw [← List.map_take, bytes_map]
theorem conv_bytes {P : Program} {t t' e : TypeId} {H : Hp} {nid id len : Nat} {l : List Int} (hu : P.underlying t = some (.slice e)) (he : P.underlying e = some (.int .u8)) (hs : szT P e = some 1) (hd : P.underlying t' = some .string) (hH : H id = .row 1 true (l.map (D.it .u8))) (hl : len = l.length) :
    convD P t t' (.own id 0 len) H nid = some (.st (l.map byteI), H, nid) := by
  subst hl
  have h1 : srcOk P t (.own id 0 l.length) = true := src_own hu
  simp only [convD, hu, hd, he, hs, h1, if_true, elems, hH, Option.bind_some, List.drop_zero]
  rw [List.take_of_length_le (by simp), bytes_map]
  rfl
theorem slice_own_to {P : Program} {t e : TypeId} {H : Hp} {id len k sz : Nat} {pl : Bool} {es : List D} {kd : IntKind} (hu : P.underlying t = some (.slice e)) (hs : szT P e = some sz) (hH : H id = .row sz pl es) (hk : k ≤ len) :
    sliceD P H t (.own id 0 len) none (some (.it kd (k : Int))) none = some (.own id 0 k) := by
  have hb : bnds len none (some (.it kd (k : Int))) none = some (0, k, none) := by
    simp only [bnds, idx, Option.bind_some]
    rw [if_pos ⟨Int.le_refl _, by omega, by omega⟩]; rfl
  simp [sliceD, elemT, hu, hs, hH, hb]
theorem slice_own_from {P : Program} {t e : TypeId} {H : Hp} {id off len k sz : Nat} {pl : Bool} {es : List D} {kd : IntKind} (hu : P.underlying t = some (.slice e)) (hs : szT P e = some sz) (hH : H id = .row sz pl es) (hk : k ≤ len) :
    sliceD P H t (.own id off len) (some (.it kd (k : Int))) none none = some (.own id (off + k) (len - k)) := by
  have hb : bnds len (some (.it kd (k : Int))) none none = some (k, len, none) := by
    simp only [bnds, idx, Option.bind_some]
    rw [if_pos ⟨by omega, by omega, Int.le_refl _⟩]; rfl
  simp [sliceD, elemT, hu, hs, hH, hb]
theorem sow_to {P : Program} {t e : TypeId} {H : Hp} {id len k : Nat} {kd : IntKind} (hu : P.underlying t = some (.slice e)) :
    sliceD P H t (.own id 0 len) none (some (.it kd (k : Int))) none = match H id with | .row sz _ _ => if szT P e = some sz ∧ k ≤ len then some (.own id 0 k) else none | _ => none := by
  have hb : bnds len none (some (.it kd (k : Int))) none = if k ≤ len then some (0, k, none) else none := by
    simp only [bnds, idx, Option.bind_some]
    by_cases h : k ≤ len
    · rw [if_pos ⟨Int.le_refl _, by omega, by omega⟩, if_pos h]; rfl
    · rw [if_neg (by omega), if_neg h]
  simp only [sliceD, elemT, hu, Option.bind_some, hb]
  cases H id with
  | row sz pl es => by_cases hk : k ≤ len <;> by_cases hs : szT P e = some sz <;> simp [hs, hk]
  | _ => rfl
theorem sow_from {P : Program} {t e : TypeId} {H : Hp} {id off len k : Nat} {kd : IntKind} (hu : P.underlying t = some (.slice e)) :
    sliceD P H t (.own id off len) (some (.it kd (k : Int))) none none = match H id with | .row sz _ _ => if szT P e = some sz ∧ k ≤ len then some (.own id (off + k) (len - k)) else none | _ => none := by
  have hb : bnds len (some (.it kd (k : Int))) none none = if k ≤ len then some (k, len, none) else none := by
    simp only [bnds, idx, Option.bind_some]
    by_cases h : k ≤ len
    · rw [if_pos ⟨by omega, by omega, Int.le_refl _⟩, if_pos h]; rfl
    · rw [if_neg (by omega), if_neg h]
  simp only [sliceD, elemT, hu, Option.bind_some, hb]
  cases H id with
  | row sz pl es => by_cases hk : k ≤ len <;> by_cases hs : szT P e = some sz <;> simp [hs, hk]
  | _ => rfl
theorem put_ap {H : Hp} {nid id : Nat} {hs : List Blk} : putSlot H nid hs id = if nid ≤ id ∧ id < nid + 64 then ofHp hs (id - nid) else H id := rfl
theorem rec_again (a b : Rec) : again (recE a) (recL b) = recE b := rfl
theorem map_set {α : Type} {E : α → D} {l : List α} {k : Nat} {x : α} : (l.map E).set k (E x) = (l.set k x).map E := by rw [List.map_set]
end Go.Mir

/- The mirror machine, part 44: answers that nobody writes any more; slices that are nil or not. Nothing is claimed of any program here. -/
set_option linter.unusedSimpArgs false
set_option linter.unusedVariables false
set_option linter.defProp false
namespace Go.Mir
open Go Go.RowKit
/-- An answer that may lead to what was given. -/
def Res.via (d : D) : Res := ⟨true, d, []⟩
def borT (H : Hp) : List D → Option (List D)
  | [] => some []
  | d :: r => (bor H 6 d).bind fun d' => (borT H r).map (d' :: ·)
def borM (H : Hp) (n : Nat) : List D → Option (List D)
  | [] => some []
  | d :: r => (bor H n d).bind fun d' => (borM H n r).map (d' :: ·)
theorem borM_eq (H : Hp) (n : Nat) : ∀ l : List D, l.mapM (bor H n) = borM H n l
  | [] => rfl
  | d :: r => by rw [List.mapM_cons, borM_eq H n r, borM]; cases bor H n d <;> cases borM H n r <;> rfl
theorem bor_agg {H : Hp} {n : Nat} {cs : List D} : bor H (n + 1) (.agg cs) = (borM H n cs).map .agg := by rw [bor, borM_eq]
theorem kill_nil (H : Hp) : killAll [] H = H := rfl
theorem finV_nil {H : Hp} : ∀ d : D, finV [] H d = bor H 6 d := by
  intro d
  cases d <;> simp only [finV, kill_nil, ixOf]
theorem finT_nil {H : Hp} {out ds : List D} (h : borT H out = some ds) : finT [] H out = some (one ds) := by
  have hm : ∀ (l ds : List D), borT H l = some ds → l.mapM (finV [] H) = some ds := by
    intro l
    induction l with
    | nil => intro ds h; simp only [borT, Option.some.injEq] at h; subst h; rfl
    | cons x r ih =>
      intro ds h
      simp only [borT, Option.bind_eq_some_iff, Option.map_eq_some_iff] at h
      obtain ⟨x', hx, ds', hr, rfl⟩ := h
      rw [List.mapM_cons, finV_nil, hx, ih ds' hr]; rfl
  cases out with
  | nil => simp only [borT, Option.some.injEq] at h; subst h; rfl
  | cons x r =>
    cases r with
    | nil =>
      simp only [borT, Option.bind_eq_some_iff, Option.map_eq_some_iff, Option.some.injEq] at h
      obtain ⟨x', hx, _, rfl, rfl⟩ := h
      rw [show finT [] H [x] = finV [] H x from rfl, finV_nil, hx]; rfl
    | cons y r =>
      have h2 := hm _ _ h
      simp only [borT, Option.bind_eq_some_iff, Option.map_eq_some_iff] at h
      obtain ⟨x', hx, ds', ⟨y', hy, ds2, hr, rfl⟩, rfl⟩ := h
      show ((x :: y :: r).mapM (finV [] H)).map D.tup = _
      rw [h2]; rfl
/-- What a function that only reads answers, where the answer may lead to what was given. -/
theorem pure_al {cx : Cx} {fn : Func} {c : Code} {ds : List D} {r : Res} {rs : List ResultVar} (hb : fn.body = some c) (hbs : cx.bs = 0) (hrs : fn.results.toList = rs)
    (h : EvX .go cx c ⟨argEnv ds, ofHp [], 0⟩ fun e st t => (e = .nrm ∨ e = .ret) ∧ Ev t (resD cx.P st rs) fun out _ => ∃ ds', borT st.H out = some ds' ∧ Res.via (one ds') = r) : pureRun cx fn [] true ds = some r := by
  obtain ⟨⟨e, s⟩, he, hen, out, ho, ds', hf, rfl⟩ := h
  exact pure_of hb hbs [] true ⟨(e, s), he, hen, out, hrs ▸ ho, rfl, [], rfl, one ds', finT_nil hf, rfl⟩
/-- What a function that only reads answers, where the answer is one slice of its own that nobody writes any more. -/
theorem pure_vec {cx : Cx} {fn : Func} {c : Code} {ds : List D} {r : Res} {rs : List ResultVar} (hb : fn.body = some c) (hbs : cx.bs = 0) (hrs : fn.results.toList = rs)
    (h : EvX .go cx c ⟨argEnv ds, ofHp [], 0⟩ fun e st t => (e = .nrm ∨ e = .ret) ∧ Ev t (resD cx.P st rs) fun out _ => ∃ id len sz es, out = [.own id 0 len] ∧ st.H id = .row sz true es ∧ len = es.length ∧ noMemL es = true ∧ Res.flat (.vec sz false es) = r) : pureRun cx fn [] false ds = some r := by
  obtain ⟨⟨e, s⟩, he, hen, out, ho, id, len, sz, es, rfl, hH, rfl, hm, rfl⟩ := h
  simp only at hH
  have hr : reach s.H 60 [id] [] = [id] := by
    have : refsB (s.H id) = [] := by rw [hH]; rfl
    show reach s.H (59 + 1) [id] [] = [id]
    simp only [reach, List.contains_nil, Bool.false_eq_true, if_false, this, List.nil_append]
  have h1 : refsL [D.own id 0 es.length] = [id] := rfl
  refine pure_of hb hbs [] false ⟨(e, s), he, hen, _, hrs ▸ ho, ?_, [], rfl, .vec sz false es, ?_, rfl⟩
  · have h2 : closed s.H [id] = true := by simp [closed, hH, refsB]
    simp [ownOf, distinct, dry, h1, hr, h2, noMemL, noMem, noMemB, hH, hm]
  · show finV [] (restr (reach s.H 60 (refsL [D.own id 0 es.length]) []) s.H) (.own id 0 es.length) = _
    rw [finV_nil, h1, hr, bor_row]
    simp [restr, hH]
/-- Slicing a slice that nobody writes, from an index on. -/
theorem slf_vecE {α : Type} {sz : Nat} {E : α → D} {P : Program} {H : Hp} {t e : TypeId} {xs : List α} {k : IntKind} (hu : P.underlying t = some (.slice e)) (hs : szT P e = some sz) {i : Nat} (h : i ≤ xs.length) :
    sliceD P H t (vecE sz E xs) (some (.it k (i : Int))) none none = some (vecE sz E (xs.drop i)) := by
  rw [slice_vecE hu hs (bnds_from h), List.take_length]
theorem mk_eq {P : Program} {t e : TypeId} {H : Hp} {nid n b : Nat} {z : D} {c : Int} (he : elemT P t = some e) (hz : zeroE P e n = some z) (hi : (P.info? e).map (fun i => (i.size, i.bytes)) = some (n, b)) (hb : 0 < b) :
    makeD P t H nid (.it .i64 0) (.it .i64 c) = if 0 ≤ c ∧ (b : Int) * c ≤ 281474976710656 then some (.own nid 0 0, upd H nid (.row n true []), nid + 1) else none := by
  unfold makeD
  rw [he]
  cases hi' : P.info? e with
  | none => rw [hi'] at hi; cases hi
  | some inf =>
    rw [hi'] at hi
    simp only [Option.map_some, Option.some.injEq, Prod.mk.injEq] at hi
    obtain ⟨h1, h2⟩ := hi
    subst h1; subst h2
    simp only [Option.bind_some, hi', hz]
    by_cases hc : 0 ≤ c ∧ (inf.bytes : Int) * c ≤ 281474976710656
    · rw [if_pos ⟨by omega, hc.1, hc.2, hb⟩, if_pos hc]; rfl
    · rw [if_neg (fun h => hc ⟨h.2.1, h.2.2.1⟩), if_neg hc]
section
variable {cx : Cx} {nx bef i : Nat} {env : Nat → D} {H : Hp} {dst : Option Tmp} {ty t : TypeId} {pos : String} {after : Array Edge} {g : Option (Nat × Bool)} {x y : Operand}
def storL (H : Hp) (a : D) (xs : List D) : Option (List (Nat × Blk)) := match a with
  | .ptr id off => match H id with | .box cs => (setAt cs off xs).map fun cs' => [(id, .box cs')] | _ => none
  | .rowp id ix off => match H id with
    | .row sz pl es => (es[ix]?).bind fun e => (setAt e.cells off xs).map fun cs' => [(id, .row sz (pl && immL xs) (es.set ix (again e cs')))]
    | _ => none
  | _ => none
theorem storL_ptr {id off : Nat} {xs : List D} : storL H (.ptr id off) xs = match H id with | .box cs => (setAt cs off xs).map fun cs' => [(id, .box cs')] | _ => none := rfl
theorem storL_row {id ix off : Nat} {xs : List D} : storL H (.rowp id ix off) xs = match H id with
    | .row sz pl es => (es[ix]?).bind fun e => (setAt e.cells off xs).map fun cs' => [(id, .row sz (pl && immL xs) (es.set ix (again e cs')))]
    | _ => none := rfl
theorem storL_eq (a : D) (xs : List D) : storD H a xs = (storL H a xs).map (updL H) := by
  cases a <;> simp only [storD, storL, Option.map_none]
  case ptr id off =>
    cases hh : H id <;> simp only [Option.map_none]
    rename_i cs
    cases setAt cs off xs <;> rfl
  case rowp id ix off =>
    cases hh : H id <;> simp only [Option.map_none]
    rename_i sz pl es
    cases es[ix]? with
    | none => rfl
    | some e => simp only [Option.bind_some]; cases setAt e.cells off xs <;> rfl
theorem storL_ids {a : D} {xs : List D} {K : List (Nat × Blk)} (h : storL H a xs = some K) : ∀ p ∈ K, p.1 ∈ refs a := by
  cases a <;> simp only [storL, reduceCtorEq] at h
  case ptr id off =>
    cases hh : H id <;> simp only [hh, reduceCtorEq] at h
    rename_i cs
    simp only [Option.map_eq_some_iff] at h
    obtain ⟨_, _, rfl⟩ := h
    intro p hp; simp only [List.mem_singleton] at hp; subst hp; simp [refs]
  case rowp id ix off =>
    cases hh : H id <;> simp only [hh, reduceCtorEq] at h
    rename_i sz pl es
    simp only [Option.bind_eq_some_iff, Option.map_eq_some_iff] at h
    obtain ⟨_, _, _, _, rfl⟩ := h
    intro p hp; simp only [List.mem_singleton] at hp; subst hp; simp [refs]
theorem storL_look {H' : Hp} {a : D} {xs : List D} (h : ∀ id ∈ refs a, H' id = H id) : storL H' a xs = storL H a xs := by
  cases a <;> try rfl
  case ptr id off => simp only [storL, h id (by simp [refs])]
  case rowp id ix off => simp only [storL, h id (by simp [refs])]
/-- A store in a region whose order is drawn. -/
theorem step_store (hr : okRoots nx bef i H (refs (ev env x) ++ refs (ev env y)) = true) : stepD cx nx bef i ⟨dst, .store t x y, ty, pos, after, g⟩ env H =
    ((cellsOf (ev env y)).bind fun xs => if szT cx.P t = some xs.length then storL H (ev env x) xs else none).map fun K => (.un, updL (clr H (nx + i * 64)) K) := by
  have hro : roots env ⟨dst, .store t x y, ty, pos, after, g⟩ = refs (ev env x) ++ refs (ev env y) := by simp [roots, Op.operands]
  have := step_upd (cx := cx) (bef := bef) (i := i) (o := ⟨dst, .store t x y, ty, pos, after, g⟩) (X := ((cellsOf (ev env y)).bind fun xs => if szT cx.P t = some xs.length then storL H (ev env x) xs else none).map fun K => (.un, K, 0)) rfl (by rw [hro]; exact hr) (fun H' hH => ?_) (fun r hr' => ?_)
  · rw [this]
    cases (cellsOf (ev env y)).bind fun xs => if szT cx.P t = some xs.length then storL H (ev env x) xs else none <;> rfl
  · rw [hro] at hH
    rw [op_store]
    cases cellsOf (ev env y) with
    | none => rfl
    | some xs =>
      simp only [Option.bind_some]
      split
      · rw [storL_eq, storL_look (fun id hid => hH id (by simp [hid]))]
        cases storL H (ev env x) xs <;> rfl
      · rfl
  · simp only [Option.map_eq_some_iff, Option.bind_eq_some_iff] at hr'
    obtain ⟨K, ⟨xs, _, hK⟩, rfl⟩ := hr'
    split at hK
    · refine ⟨Nat.zero_le _, fun p hp => ?_⟩
      rw [hro]
      exact .inl (by simp [storL_ids hK p hp])
    · cases hK
end
/-- A contract for slices of which nothing is known, by what is known of those with elements, of nil, and of those that are not nil. -/
theorem PureOK.slices {P : Program} {g : FuncId} {F G : List D → Option Res} (h : PureOK P g G) (hF : ∀ ds r, F ds = some r → ∃ sz es, ds = [.vec sz false es] ∧ (es ≠ [] → G ds = some r) ∧ (es = [] → ∀ b, G [.emp b] = some r)) : PureOK P g F := by
  refine ⟨h.1, fun ds r hr => ?_⟩
  obtain ⟨sz, es, rfl, h1, h2⟩ := hF ds r hr
  by_cases he : es = []
  · subst he
    have h3 := h2 rfl
    refine ⟨(h.2 _ _ (h3 true)).1, fun M w vs hmem hl hv => ?_⟩
    obtain ⟨v, hv1, hv2⟩ := hv 0 _ rfl
    have : ∃ b, VRi M (.emp b) v := by
      cases hv2 with
      | vec _ _ _ a c _ _ _ _ _ _ _ _ => exact ⟨a.isSome, .emp _ a c rfl⟩
    obtain ⟨b, hb⟩ := this
    exact (h.2 _ _ (h3 b)).2 M w vs hmem (by simpa using hl) (fun k d hd => by
      cases k with
      | zero => simp only [List.getElem?_cons_zero, Option.some.injEq] at hd; subst hd; exact ⟨v, hv1, hb⟩
      | succ k => simp at hd)
  · exact h.2 _ _ (h1 he)
end Go.Mir

/- The mirror machine, part 45: functions as arguments; slices that are nil or not, compared. Nothing is claimed of any program here. -/
set_option linter.unusedSimpArgs false
set_option linter.unusedVariables false
set_option linter.defProp false
namespace Go.Mir
open Go Go.RowKit
section
variable {H : Hp} {n : Nat}
theorem borM_imm (n : Nat) : ∀ l : List D, immL l = true → borM H n l = some l
  | [], _ => rfl
  | d :: r, h => by
    simp only [immL, Bool.and_eq_true] at h
    rw [borM, bor_imm n d h.1, borM_imm n r h.2]; rfl
theorem bor_fn {g : Fn} {p q : List D} : bor H (n + 1) (.fn g p q) = (borM H n p).bind fun p' => (borM H n q).map fun q' => .fn g p' q' := by rw [bor, borM_eq, borM_eq]
theorem bor_ptr {id off : Nat} : bor H (n + 1) (.ptr id off) = match H id with | .box cs => (borM H n (cs.drop off)).map .elt | _ => none := by
  rw [bor]
  cases H id <;> simp only [borM_eq]
theorem bor_it {k : IntKind} {x : Int} : bor H (n + 1) (.it k x) = some (.it k x) := rfl
theorem bor_bo {b : Bool} : bor H (n + 1) (.bo b) = some (.bo b) := rfl
theorem bor_st {l : List UInt8} : bor H (n + 1) (.st l) = some (.st l) := rfl
theorem bor_vecE {α : Type} {sz : Nat} {E : α → D} {xs : List α} : bor H (n + 1) (vecE sz E xs) = some (vecE sz E xs) := rfl
theorem bor_vec {sz : Nat} {cl : Bool} {es : List D} : bor H (n + 1) (.vec sz cl es) = some (.vec sz cl es) := rfl
theorem bor_elt {cs : List D} : bor H (n + 1) (.elt cs) = some (.elt cs) := rfl
theorem bin_vec_nil {P : Program} {t e : TypeId} {α : Type} {sz : Nat} {E : α → D} {xs : List α} (hu : P.underlying t = some (.slice e)) : binD P .eql t (vecE sz E xs) .nils = if xs = [] then none else some (.bo false) := by
  cases xs with
  | nil => simp [binD, vecE, eqRes, eqD, hu]
  | cons x r => simp [binD, vecE, eqRes, eqD, hu]
theorem bin_emp_nil {P : Program} {t e : TypeId} {b : Bool} (hu : P.underlying t = some (.slice e)) : binD P .eql t (.emp b) .nils = some (.bo (!b)) := by simp [binD, eqRes, eqD, hu]
theorem bin_nil_nil {P : Program} {t e : TypeId} (hu : P.underlying t = some (.slice e)) : binD P .eql t .nils .nils = some (.bo true) := by simp [binD, eqRes, eqD, hu]
theorem elems_emp {k : Nat} {b : Bool} : elems H k (.emp b) = some (true, []) := rfl
theorem src_emp {P : Program} {t e : TypeId} {b : Bool} (hu : P.underlying t = some (.slice e)) : srcOk P t (.emp b) = true := by simp only [srcOk, hu]
theorem ofV_nil : ofV (.slice none 0 0) = .nils := rfl
end
theorem PureOK.either {P : Program} {g : FuncId} {F1 F2 : List D → Option Res} (h1 : PureOK P g F1) (h2 : PureOK P g F2) : PureOK P g (fun ds => (F1 ds).or (F2 ds)) := by
  refine ⟨h1.1, fun ds r hr => ?_⟩
  simp only [] at hr
  cases h : F1 ds with
  | none => rw [h, Option.none_or] at hr; exact h2.2 ds r hr
  | some r' => rw [h, Option.some_or] at hr; cases hr; exact h1.2 ds _ h
theorem mkF_none {σ : Type} {enc : σ → List D} {pre : σ → Prop} {out : σ → Res} {ds : List D} (h : ∀ s, enc s ≠ ds) : mkF enc pre out ds = none := by
  unfold mkF
  rw [dif_neg (fun ⟨s, hs, _⟩ => h s hs)]
/-- The first element for which something holds. -/
def findI {α : Type} (p : α → Bool) (l : List α) : Int := if l.any p = true then (l.findIdx p : Int) else -1
theorem findI_no {α : Type} {p : α → Bool} {l : List α} (h : l.any p = false) : findI p l = -1 := by rw [findI, if_neg (by simp only [h]; decide)]
theorem findI_at {α : Type} [Inhabited α] {p : α → Bool} {l : List α} {i : Nat} (h0 : (l.take i).any p = false) (hi : (i : Int) < l.length) (hp : p l[i]! = true) : findI p l = (i : Int) := by
  have hi' : i < l.length := by omega
  rw [findI, if_pos (List.any_eq_true.2 ⟨_, mem_at hi, hp⟩)]
  congr 1
  rw [List.findIdx_eq hi']
  refine ⟨by rw [getElem!_pos l i hi'] at hp; exact hp, fun j hj => ?_⟩
  have h1 := List.any_eq_false.1 h0 l[j] (by rw [List.mem_take_iff_getElem]; exact ⟨j, by omega, rfl⟩)
  simpa using h1
theorem findI_lt {α : Type} {p : α → Bool} {l : List α} : findI p l < l.length := by
  unfold findI
  split
  · rename_i h
    have := List.findIdx_lt_length.2 (by obtain ⟨x, h1, h2⟩ := List.any_eq_true.1 h; exact ⟨x, h1, h2⟩)
    omega
  · omega
end Go.Mir

/- The mirror machine, part 46: what arguments of plain types are, leaf by leaf. Nothing is claimed of any program here. -/
set_option linter.unusedSimpArgs false
set_option linter.unusedVariables false
namespace Go.Mir
open Go Go.RowKit
section
variable {P : Program} {n : Nat} {t e : TypeId} {ds : List D}
theorem tdl_int {k : IntKind} (hu : P.underlying t = some (.int k)) (h : TD P (n + 1) t ds) : ∃ x, ds = [.it k x] := by
  simp only [TD, hu] at h; obtain ⟨x, h, _⟩ := h; exact ⟨x, h⟩
theorem tdl_bool (hu : P.underlying t = some .bool) (h : TD P (n + 1) t ds) : ∃ x, ds = [.bo x] := by
  simp only [TD, hu] at h; exact h
theorem tdl_str (hu : P.underlying t = some .string) (h : TD P (n + 1) t ds) : ∃ l, ds = [.st l] ∧ Sm l := by
  simp only [TD, hu] at h; obtain ⟨l, h, hl⟩ := h
  refine ⟨l, h, ?_⟩
  simp only [reachBytes] at hl
  simp only [Sm]; omega
theorem tdl_slice {α : Type} {sz : Nat} {E : α → D} {W : α → Prop} (hu : P.underlying t = some (.slice e)) (ha : aggT P e = some true) (hc : P.cellsOf e = sz) (hb : 0 < P.bytesOf e) (hE : ∀ cs, TD P n e cs → ∃ a, D.agg cs = E a ∧ W a) (h : TD P (n + 1) t ds) :
    ∃ xs, ds = [vecE sz E xs] ∧ Sm xs ∧ ∀ a ∈ xs, W a := by
  simp only [TD, hu] at h
  obtain ⟨es, h, hl, hes⟩ := h
  have : ∃ xs : List α, es = xs.map E ∧ ∀ a ∈ xs, W a := by
    clear hl h
    induction es with
    | nil => exact ⟨[], rfl, fun a ha => by simp at ha⟩
    | cons x r ih =>
      obtain ⟨xs, rfl, hxs⟩ := ih (fun y hy => hes y (by simp [hy]))
      obtain ⟨_, h2, h3, _⟩ := hes x (by simp)
      obtain ⟨cs, rfl⟩ := h3 ha
      obtain ⟨a, h4, hw⟩ := hE cs h2
      exact ⟨a :: xs, by rw [h4]; rfl, fun b hb => by rcases List.mem_cons.1 hb with rfl | hb; exact hw; exact hxs b hb⟩
  obtain ⟨xs, rfl, hxs⟩ := this
  refine ⟨xs, by rw [h, hc]; rfl, ?_, hxs⟩
  rw [List.length_map] at hl
  have : xs.length * 1 ≤ xs.length * P.bytesOf e := Nat.mul_le_mul_left _ hb
  simp only [reachBytes] at hl
  simp only [Sm]; omega
theorem td1_agg (ha : aggT P t = some true) {d : D} (h : TD1 P n t d) : ∃ cs, d = .agg cs ∧ TD P n t cs := by
  rcases h with ⟨_, cs, rfl, h⟩ | ⟨h, _⟩
  · exact ⟨cs, rfl, h⟩
  · rw [ha] at h; cases h
theorem td1_leaf (ha : aggT P t = some false) {d : D} (h : TD1 P n t d) : TD P n t [d] := by
  rcases h with ⟨h, _⟩ | ⟨_, h⟩
  · rw [ha] at h; cases h
  · exact h
end
end Go.Mir
