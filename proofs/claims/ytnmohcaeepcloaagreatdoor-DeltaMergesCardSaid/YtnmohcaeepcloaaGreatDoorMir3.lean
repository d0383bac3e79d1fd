/- A verified interpreter of loaded code: no theorem about any program stands here; no conditions. -/
import Derived.Test.YtnmohcaeepcloaaGreatDoorMir2
import Derived.Lib.Bytealg
import Derived.Laws.Externs
import Derived.Shelf.SlSortCmp.WholeK
import Derived.Shelf.SlSortCmp.NoneTotal
import Derived.Lib.QuietBelow
set_option linter.unusedSimpArgs false
set_option linter.unusedVariables false
set_option linter.defProp false
set_option maxRecDepth 100000
set_option maxHeartbeats 4000000
open Go Go.RowKit
namespace Go.Mir
section
variable {cx : Cx} {l : List Nat} {nx bef i : Nat} {env : Nat → D} {H : Hp} {dst : Option Tmp} {ty t : TypeId} {pos : String} {after : Array Edge} {g : Option (Nat × Bool)} {x y z : Operand}

theorem zXF : stepD cx nx bef i ⟨dst, .move x, ty, pos, after, g⟩ env H = some (ev env x, H) := by simp [stepD, zDM, opD]
theorem zSZ (hx : nilC x = false) : stepD cx nx bef i ⟨dst, .assign x, ty, pos, after, g⟩ env H = some (ev env x, H) := by simp [stepD, zDM, opD, hx]
theorem zXE : stepD cx nx bef i ⟨dst, .pick x y z, ty, pos, after, g⟩ env H = match ev env x with | .bo t => some (if t then ev env y else ev env z, H) | _ => none := by
 simp only [stepD, zDM, opD, if_true]
 cases ev env x <;> rfl
theorem zV9 {ps : Array (Nat × Operand)} : stepD cx nx bef i ⟨dst, .build t ps, ty, pos, after, g⟩ env H = (zHJ cx.P t (ps.toList.map fun (i, x) => (i, ev env x))).map fun d => (d, H) := by
 simp only [stepD, zDM, opD, if_true, Option.map_map, Function.comp_def]
theorem yBo {op : BinOp} {t' : TypeId} : stepD cx nx bef i ⟨dst, .binOp op t x y t', ty, pos, after, g⟩ env H = (binD cx.P op t (ev env x) (ev env y)).map fun d => (d, H) := by
 simp only [stepD, zDM, opD, if_true, Option.map_map, Function.comp_def]
theorem yED {op : UnOp} : stepD cx nx bef i ⟨dst, .unOp op t x, ty, pos, after, g⟩ env H = (unD op (ev env x)).map fun d => (d, H) := by
 simp only [stepD, zDM, opD, if_true, Option.map_map, Function.comp_def]
theorem zPx {f : Nat} : stepD cx nx bef i ⟨dst, .field t x f, ty, pos, after, g⟩ env H = match ev env x with | .agg cs => (zA5 cx.P t f).bind fun fl => (zAC cx.P fl.type cs fl.offset).map fun d => (d, H) | _ => none := by
 simp only [stepD, zDM, opD, if_true]
 cases ev env x <;> simp [Option.map_map, Function.comp_def, Option.map_bind]
theorem zV7 : stepD cx nx bef i ⟨dst, .index t x y, ty, pos, after, g⟩ env H = (zGd cx.P t (ev env x) (ev env y)).map fun d => (d, H) := by
 simp only [stepD, zDM, opD, if_true, Option.map_map, Function.comp_def]
theorem zP6 {fn : Fn} {first caps : Array Operand} : stepD cx nx bef i ⟨dst, .makeFunc fn first caps, ty, pos, after, g⟩ env H = some (.fn fn (first.toList.map (ev env)) (caps.toList.map (ev env)), H) := by simp [stepD, zDM, opD]
theorem zRy {j : Nat} : stepD cx nx bef i ⟨dst, .extract x j, ty, pos, after, g⟩ env H = match ev env x with | .tup ds => (ds[j]?).map fun d => (d, H) | _ => none := by
 simp only [stepD, zDM, opD, if_true]
 cases ev env x <;> simp [Option.map_map, Function.comp_def]

def okId (nx bef i id : Nat) : Bool := (decide (id < nx) || bef.testBit ((id - nx) / 64)) && (decide (id < nx + i * 64) || decide (nx + i * 64 + 64 ≤ id))
def zAD (nx bef i : Nat) (H : Hp) (l : List Nat) : Bool := decide (l.length ≤ 60) && l.all fun id => okId nx bef i id && (refsB (H id)).isEmpty

theorem zWr {H : Hp} : ∀ (n : Nat) (l acc : List Nat), (∀ id ∈ l, refsB (H id) = []) → ∃ r, zBr H n l acc = r ∧ (∀ id ∈ r, id ∈ l ∨ id ∈ acc) ∧ (∀ id ∈ acc, id ∈ r) ∧ (l.length ≤ n → ∀ id ∈ l, id ∈ r) := by
 intro n
 induction n with
 | zero => intro l acc h; refine ⟨_, rfl, fun id hid => ?_, fun id hid => ?_, fun hl id hid => ?_⟩
           · simp [zBr] at hid; exact .inr hid
           · simp [zBr]; exact hid
           · have : l = [] := List.length_eq_zero_iff.1 (by omega)
             subst this; simp at hid
 | succ n ih =>
   intro l acc h
   cases l with
   | nil => exact ⟨_, rfl, fun id hid => by simp [zBr] at hid; exact .inr hid, fun id hid => by simp [zBr]; exact hid, fun _ id hid => by simp at hid⟩
   | cons a r =>
     simp only [zBr]
     split
     · rename_i hc
       obtain ⟨q, q1, q2, q3, q4⟩ := ih r acc (fun id hid => h id (by simp [hid]))
       refine ⟨q, q1, fun id hid => ?_, q3, fun hl id hid => ?_⟩
       · rcases q2 id hid with h1 | h1
         · exact .inl (by simp [h1])
         · exact .inr h1
       · rcases List.mem_cons.1 hid with rfl | hid
         · exact q3 _ (by simpa using hc)
         · exact q4 (by simp at hl; omega) id hid
     · rename_i hc
       rw [h a (by simp), List.nil_append]
       obtain ⟨q, q1, q2, q3, q4⟩ := ih r (acc ++ [a]) (fun id hid => h id (by simp [hid]))
       refine ⟨q, q1, fun id hid => ?_, fun id hid => q3 id (by simp [hid]), fun hl id hid => ?_⟩
       · rcases q2 id hid with h1 | h1
         · exact .inl (by simp [h1])
         · rcases List.mem_append.1 h1 with h1 | h1
           · exact .inr h1
           · simp at h1; exact .inl (by simp [h1])
       · rcases List.mem_cons.1 hid with rfl | hid
         · exact q3 _ (by simp)
         · exact q4 (by simp at hl; omega) id hid

theorem zNx {nx bef i id : Nat} (h : okId nx bef i id = true) : id < nx + i * 64 ∨ nx + i * 64 + 64 ≤ id := by
 simp only [okId, Bool.and_eq_true, Bool.or_eq_true, decide_eq_true_eq] at h
 exact h.2

theorem zUA {nx bef i : Nat} {H : Hp} {l : List Nat} (hr : zAD nx bef i H l = true) : ∃ q, zBr H 60 l [] = q ∧ (∀ id ∈ q, id ∈ l ∧ okId nx bef i id = true ∧ refsB (H id) = []) ∧ (∀ id ∈ l, id ∈ q) ∧ closed H q = true ∧ l.all (fun j => q.contains j) = true ∧ q.all (vis nx bef) = true := by
 simp only [zAD, Bool.and_eq_true, decide_eq_true_eq] at hr
 obtain ⟨hlen, hr⟩ := hr
 have hr' : ∀ id ∈ l, okId nx bef i id = true ∧ refsB (H id) = [] := fun id hid => by
   have := List.all_eq_true.1 hr id hid
   simpa using this
 obtain ⟨q, q1, q2, q3, q4⟩ := zWr (H := H) 60 l [] (fun id hid => (hr' id hid).2)
 have hq : ∀ id ∈ q, id ∈ l ∧ okId nx bef i id = true ∧ refsB (H id) = [] := fun id hid => by
   rcases q2 id hid with h1 | h1
   · exact ⟨h1, hr' id h1⟩
   · simp at h1
 refine ⟨q, q1, hq, q4 hlen, ?_, ?_, ?_⟩
 · simp only [closed, List.all_eq_true]
   intro id hid
   rw [(hq id hid).2.2]; simp
 · simp only [List.all_eq_true]
   intro id hid
   simpa using q4 hlen id hid
 · simp only [List.all_eq_true]
   intro id hid
   have := (hq id hid).2.1
   simp only [okId, Bool.and_eq_true] at this
   exact this.1

def zKZ (H : Hp) (nid : Nat) (hs : List Blk) : Hp := fun id => if nid ≤ id ∧ id < nid + 64 then ofHp hs (id - nid) else H id
theorem zN0 {o : Oper} {X : Option (D × List Blk)} (hk : zDM cx.rd o.op = 1) (hr : zAD nx bef i H (roots env o) = true)
   (h : ∀ H' : Hp, (∀ id ∈ roots env o, H' id = H id) → opD cx env o H' (nx + i * 64) = X.map fun r => (r.1, zEG H' (nx + i * 64) r.2, nx + i * 64 + r.2.length)) (hl : ∀ r, X = some r → r.2.length ≤ 64) :
   stepD cx nx bef i o env H = X.map fun r => (r.1, if r.2.isEmpty then H else zKZ H (nx + i * 64) r.2) := by
 obtain ⟨q, q1, hq, q4, h1, h2, h3⟩ := zUA hr
 unfold stepD
 rw [if_neg (by omega)]
 simp only [q1]
 rw [h1, h2, h3]
 have hK := h (zCR q H) (fun id hid => by unfold zCR; rw [if_pos (by simpa using q4 id hid)])
 cases X with
 | none => simp [hK]
 | some r =>
   have hl' := hl r rfl
   simp only [hK, Bool.and_self, if_true, Option.map_some, Option.bind_some, hk, true_and]
   rw [if_pos (by omega)]
   congr 2
   by_cases he : r.2 = []
   · simp [he]
   · have hne : ¬ r.2.length = 0 := by simpa using he
     rw [if_neg (by omega), if_neg (by simpa using he)]
     funext id
     unfold mend zKZ zEG zCR
     by_cases hid : nx + i * 64 ≤ id ∧ id < nx + i * 64 + 64
     · rw [if_pos (by simp [hid]), if_pos hid]
       rw [zIs]
       split
       · have hnm : ¬ id ∈ q := fun hm => by have := zNx (hq id hm).2.1; omega
         simp [hnm]
       · rw [List.getElem?_eq_none (by omega)]
         have hnm : ¬ id ∈ q := fun hm => by have := zNx (hq id hm).2.1; omega
         simp [hnm]
     · rw [if_neg hid]
       by_cases hm : id ∈ q
       · rcases zNx (hq id hm).2.1 with h5 | h5
         · rw [if_pos (by simp [hm]), if_neg (by omega), if_pos (by simpa using hm)]
         · rw [if_pos (by simp [hm]), if_pos (by omega), List.getElem?_eq_none (by omega), Option.getD_none, if_pos (by simpa using hm)]
       · rw [if_neg (by simp [hm]; omega)]
theorem zEn {o : Oper} {X : Option D} (hk : zDM cx.rd o.op = 1) (hr : zAD nx bef i H (roots env o) = true)
   (h : ∀ H' : Hp, (∀ id ∈ roots env o, H' id = H id) → opD cx env o H' (nx + i * 64) = X.map fun r => (r, H', nx + i * 64)) : stepD cx nx bef i o env H = X.map fun r => (r, H) := by
 have := zN0 (bef := bef) (X := X.map fun r => (r, [])) hk hr (fun H' hH => by rw [h H' hH]; cases X <;> simp [zMs]) (fun r hr => by cases X <;> simp at hr; subst hr; simp)
 rw [this]
 cases X <;> simp

theorem zWU {H H' : Hp} {d : D} (h : ∀ id ∈ refs d, H' id = H id) : deref H' d = deref H d := by
 unfold deref
 cases d <;> (try simp only [refs, List.mem_singleton, forall_eq] at h) <;> first | rfl | (simp only [h]; done)
theorem zWB {P : Program} {H H' : Hp} {d k : D} (h : ∀ id ∈ refs d, H' id = H id) : zA6 P H' t d k = zA6 P H t d k := by
 unfold zA6
 cases d <;> (try simp only [refs, List.mem_singleton, forall_eq] at h) <;> first | rfl | (simp only [h]; done) | (cases P.underlying t with | none => rfl | some u => cases u <;> first | rfl | (simp only [h]; done))
theorem zWJ {P : Program} {H H' : Hp} {d : D} {f : Nat} (h : ∀ id ∈ refs d, H' id = H id) : zA7 P H' t d f = zA7 P H t d f := by
 unfold zA7
 cases d <;> (try simp only [refs, List.mem_singleton, forall_eq] at h) <;> first | rfl | (simp only [h]; done)
theorem yBT {H H' : Hp} {d : D} (h : ∀ id ∈ refs d, H' id = H id) : zEp H' d = zEp H d := by
 unfold zEp
 cases d <;> (try simp only [refs, List.mem_singleton, forall_eq] at h) <;> first | rfl | (simp only [h]; done) | (rename_i f _ _; cases f <;> rfl)
theorem yB8 {P : Program} {H H' : Hp} {d : D} (h : ∀ id ∈ refs d, H' id = H id) : lenD P H' t d = lenD P H t d := by
 unfold lenD
 cases d <;> (try simp only [refs, List.mem_singleton, forall_eq] at h) <;> first | rfl | (simp only [h]; done) | (cases P.underlying t with | none => rfl | some u => cases u <;> first | rfl | (simp only [h]; done))
theorem zWb {P : Program} {H H' : Hp} {d : D} {lo hi mx : Option D} (h : ∀ id ∈ refs d, H' id = H id) : zBm P H' t d lo hi mx = zBm P H t d lo hi mx := by
 unfold zBm
 cases d <;> (try simp only [refs, List.mem_singleton, forall_eq] at h) <;> first | rfl | (simp only [h]; done) | (cases P.underlying t with | none => rfl | some u => cases u <;> first | rfl | (simp only [h]; done))
theorem zTR {P : Program} {H H' : Hp} {d k : D} {b : Bool} (h : ∀ id ∈ refs d, H' id = H id) : zHP P H' t d k b = zHP P H t d k b := by
 unfold zHP
 cases d <;> (try simp only [refs, List.mem_singleton, forall_eq] at h) <;> first | rfl | (simp only [h]; done) | (cases P.underlying t with | none => rfl | some u => cases u <;> first | rfl | (simp only [h]; done))
theorem zWO {H H' : Hp} {d : D} {n : Nat} (h : ∀ id ∈ refs d, H' id = H id) : elems H' n d = elems H n d := by
 unfold elems
 cases d <;> (try simp only [refs, List.mem_singleton, forall_eq] at h) <;> first | rfl | (simp only [h]; done)
theorem zXG (hr : zAD nx bef i H (refs (ev env x)) = true) : stepD cx nx bef i ⟨dst, .load t x, ty, pos, after, g⟩ env H = ((deref H (ev env x)).bind fun cs => ldD cx.P t cs).map fun d => (d, H) := by
 have hro : roots env ⟨dst, .load t x, ty, pos, after, g⟩ = refs (ev env x) := by simp [roots, Op.operands]
 refine zEn rfl (by rw [hro]; exact hr) (fun H' hH => ?_)
 rw [hro] at hH
 rw [zYy, zWU hH]
 cases deref H (ev env x) <;> rfl
theorem zP5 (hr : zAD nx bef i H (refs (ev env x)) = true) : stepD cx nx bef i ⟨dst, .nilCheck x, ty, pos, after, g⟩ env H = (zEp H (ev env x)).map fun d => (d, H) := by
 have hro : roots env ⟨dst, .nilCheck x, ty, pos, after, g⟩ = refs (ev env x) := by simp [roots, Op.operands]
 refine zEn rfl (by rw [hro]; exact hr) (fun H' hH => ?_)
 rw [hro] at hH
 rw [zOm, yBT hH]
theorem zPc {f : Nat} (hr : zAD nx bef i H (refs (ev env x)) = true) : stepD cx nx bef i ⟨dst, .fieldAddr t x f, ty, pos, after, g⟩ env H = (zA7 cx.P H t (ev env x) f).map fun d => (d, H) := by
 have hro : roots env ⟨dst, .fieldAddr t x f, ty, pos, after, g⟩ = refs (ev env x) := by simp [roots, Op.operands]
 refine zEn rfl (by rw [hro]; exact hr) (fun H' hH => ?_)
 rw [hro] at hH
 rw [zNo, zWJ hH]
theorem zPb (hr : zAD nx bef i H (refs (ev env x) ++ refs (ev env y)) = true) : stepD cx nx bef i ⟨dst, .indexAddr t x y, ty, pos, after, g⟩ env H = (zA6 cx.P H t (ev env x) (ev env y)).map fun d => (d, H) := by
 have hro : roots env ⟨dst, .indexAddr t x y, ty, pos, after, g⟩ = refs (ev env x) ++ refs (ev env y) := by simp [roots, Op.operands]
 refine zEn rfl (by rw [hro]; exact hr) (fun H' hH => ?_)
 rw [hro] at hH
 rw [zNn, zWB (fun id hid => hH id (by simp [hid]))]
theorem zSY {b : Bool} (hr : zAD nx bef i H (refs (ev env x) ++ refs (ev env y)) = true) : stepD cx nx bef i ⟨dst, .lookup t x y b, ty, pos, after, g⟩ env H = (zHP cx.P H t (ev env x) (ev env y) b).map fun d => (d, H) := by
 have hro : roots env ⟨dst, .lookup t x y b, ty, pos, after, g⟩ = refs (ev env x) ++ refs (ev env y) := by simp [roots, Op.operands]
 refine zEn rfl (by rw [hro]; exact hr) (fun H' hH => ?_)
 rw [hro] at hH
 rw [zRU, zTR (fun id hid => hH id (by simp [hid]))]
theorem zV6 {lo hi mx : Option Operand} (hr : zAD nx bef i H (roots env ⟨dst, .slice t x lo hi mx, ty, pos, after, g⟩) = true) : stepD cx nx bef i ⟨dst, .slice t x lo hi mx, ty, pos, after, g⟩ env H = (zBm cx.P H t (ev env x) (lo.map (ev env)) (hi.map (ev env)) (mx.map (ev env))).map fun d => (d, H) := by
 refine zEn rfl hr (fun H' hH => ?_)
 rw [zUT, zWb (fun id hid => hH id (by simp [roots, Op.operands, hid]))]
theorem yBn (hr : zAD nx bef i H (refs (ev env x)) = true) : stepD cx nx bef i ⟨dst, .call ⟨.builtin .len, #[x], #[t]⟩, ty, pos, after, g⟩ env H = (lenD cx.P H t (ev env x)).map fun n => (.it .i64 n, H) := by
 have hro : roots env ⟨dst, .call ⟨.builtin .len, #[x], #[t]⟩, ty, pos, after, g⟩ = refs (ev env x) := by simp [roots, Op.operands, Call.operands]
 have := zEn (cx := cx) (bef := bef) (i := i) (o := ⟨dst, .call ⟨.builtin .len, #[x], #[t]⟩, ty, pos, after, g⟩) (X := (lenD cx.P H t (ev env x)).map fun n => .it .i64 n) rfl (by rw [hro]; exact hr) (fun H' hH => by
   rw [hro] at hH
   rw [zH2]
   simp only [zAd, List.map_cons, List.map_nil, Array.toList, yB8 hH, Option.map_map, Function.comp_def])
 rw [this, Option.map_map]; rfl
theorem yBl {args : Array Operand} {ts : Array TypeId} (hr : (args.toList.flatMap fun x => refs (ev env x)) = []) : stepD cx nx bef i ⟨dst, .call ⟨.builtin .min, args, ts⟩, ty, pos, after, g⟩ env H = (minD (fun p q => if q < p then q else p) (args.toList.map (ev env))).map fun d => (d, H) := by
 have hro : roots env ⟨dst, .call ⟨.builtin .min, args, ts⟩, ty, pos, after, g⟩ = [] := by simpa [roots, Op.operands, Call.operands] using hr
 exact zEn (cx := cx) (bef := bef) (i := i) (o := ⟨dst, .call ⟨.builtin .min, args, ts⟩, ty, pos, after, g⟩) rfl (by rw [hro]; rfl) (fun H' hH => by rw [zH2]; simp only [zAd])
theorem yBm {args : Array Operand} {ts : Array TypeId} (hr : (args.toList.flatMap fun x => refs (ev env x)) = []) : stepD cx nx bef i ⟨dst, .call ⟨.builtin .max, args, ts⟩, ty, pos, after, g⟩ env H = (minD (fun p q => if p < q then q else p) (args.toList.map (ev env))).map fun d => (d, H) := by
 have hro : roots env ⟨dst, .call ⟨.builtin .max, args, ts⟩, ty, pos, after, g⟩ = [] := by simpa [roots, Op.operands, Call.operands] using hr
 exact zEn (cx := cx) (bef := bef) (i := i) (o := ⟨dst, .call ⟨.builtin .max, args, ts⟩, ty, pos, after, g⟩) rfl (by rw [hro]; rfl) (fun H' hH => by rw [zH2]; simp only [zAd])
theorem zDg {α β : Type} {f g : α → Option β} : ∀ (l : List α), (∀ x ∈ l, f x = g x) → l.mapM f = l.mapM g
 | [], _ => rfl
 | x :: r, h => by rw [List.mapM_cons, List.mapM_cons, h x (by simp), zDg r (fun y hy => h y (by simp [hy]))]
theorem zDB {l : List D} {d : D} (hd : d ∈ l) {id : Nat} (h : id ∈ refs d) : id ∈ zAv l := by
 obtain ⟨k, hk⟩ := List.mem_iff_getElem?.1 hd
 exact zDC hk h
theorem zMH {H H' : Hp} : ∀ (n : Nat) (d : D), refs d = [] → bor H' n d = bor H n d := by
 intro n
 induction n with
 | zero => intro d _; rfl
 | succ n ih =>
   intro d h
   cases d <;> simp only [bor] <;> first | rfl | (simp [refs] at h; done) | skip
   case agg cs => rw [zDg cs (fun x hx => ih x (by cases hh : refs x with | nil => rfl | cons a r => have := zDB hx (id := a) (by rw [hh]; simp); simp [refs] at h; rw [h] at this; simp at this))]
   case tup cs => rw [zDg cs (fun x hx => ih x (by cases hh : refs x with | nil => rfl | cons a r => have := zDB hx (id := a) (by rw [hh]; simp); simp [refs] at h; rw [h] at this; simp at this))]
   case fn f p q =>
     simp only [refs, List.append_eq_nil_iff] at h
     rw [zDg p (fun x hx => ih x (by cases hh : refs x with | nil => rfl | cons a r => have := zDB hx (id := a) (by rw [hh]; simp); rw [h.1] at this; simp at this)),
       zDg q (fun x hx => ih x (by cases hh : refs x with | nil => rfl | cons a r => have := zDB hx (id := a) (by rw [hh]; simp); rw [h.2] at this; simp at this))]
theorem zRK {sz : Nat} {es : List D} (h : refsB (.row sz false es) = []) : ∀ x ∈ es, refs x = [] := fun x hx => by
 cases hh : refs x with
 | nil => rfl
 | cons a r => have := zDB hx (id := a) (by rw [hh]; simp); simp only [refsB] at h; rw [h] at this; simp at this
theorem zYc {es : List D} (h : refsB (.box es) = []) : ∀ x ∈ es, refs x = [] := fun x hx => by
 cases hh : refs x with
 | nil => rfl
 | cons a r => have := zDB hx (id := a) (by rw [hh]; simp); simp only [refsB] at h; rw [h] at this; simp at this
theorem yC3 {H H' : Hp} : ∀ (n : Nat) (d : D), (∀ id ∈ refs d, H' id = H id ∧ refsB (H id) = []) → bor H' n d = bor H n d := by
 intro n
 induction n with
 | zero => intro d _; rfl
 | succ n ih =>
   intro d h
   cases d <;> simp only [bor] <;> try rfl
   case own id off len =>
     obtain ⟨h1, h2⟩ := h id (by simp [refs])
     rw [h1]
     cases hh : H id <;> try rfl
     rename_i sz pl es
     cases pl
     · simp only
       rw [zDg _ (fun x hx => zMH n x (zRK (hh ▸ h2) x (List.mem_of_mem_drop (List.mem_of_mem_take hx))))]
     · rfl
   case ptr id off =>
     obtain ⟨h1, h2⟩ := h id (by simp [refs])
     rw [h1]
     cases hh : H id <;> try rfl
     simp only
     rw [zDg _ (fun x hx => zMH n x (zYc (hh ▸ h2) x (List.mem_of_mem_drop hx)))]
   case rowp id ix off =>
     obtain ⟨h1, h2⟩ := h id (by simp [refs])
     rw [h1]
     cases hh : H id <;> try rfl
     rename_i sz pl es
     cases pl
     · simp only
       cases he : es[ix]? with
       | none => rfl
       | some e =>
         simp only [Option.bind_some]
         rw [zDg _ (fun x hx => zMH n x (by
           have := zRK (hh ▸ h2) e (List.mem_of_getElem? he)
           cases hq : refs x with
           | nil => rfl
           | cons a r => have hc := zPP (List.mem_of_mem_drop hx) (id := a) (by rw [hq]; simp); rw [this] at hc; simp at hc))]
     · rfl
   case agg cs => rw [zDg cs (fun x hx => ih x (fun id hid => h id (by simp only [refs]; exact zDB hx hid)))]
   case tup cs => rw [zDg cs (fun x hx => ih x (fun id hid => h id (by simp only [refs]; exact zDB hx hid)))]
   case fn f p q =>
     rw [zDg p (fun x hx => ih x (fun id hid => h id (by simp only [refs, List.mem_append]; exact .inl (zDB hx hid)))),
       zDg q (fun x hx => ih x (fun id hid => h id (by simp only [refs, List.mem_append]; exact .inr (zDB hx hid))))]
theorem zRz {f : FuncId} {F : List D → Option Res} {args : Array Operand} {ts : Array TypeId} (hc : cx.rd.contains f = true) (ho : cx.orc f = some F) (hr : zAD nx bef i H (zAv (args.toList.map (ev env))) = true) {X : Option Res}
   (hX : ((args.toList.map (ev env)).mapM (bor H 3)).bind (fun asx => (F asx).bind fun r => if r.al && !(immL (args.toList.map (ev env))) then none else some r) = X) (hl : ∀ r, X = some r → r.hs.length ≤ 64) :
   stepD cx nx bef i ⟨dst, .call ⟨.value (.func f), args, ts⟩, ty, pos, after, g⟩ env H = X.map fun r => (ren (fun k => some (nx + i * 64 + k)) r.r, if r.hs.isEmpty then H else zKZ H (nx + i * 64) r.hs) := by
 have hro : roots env ⟨dst, .call ⟨.value (.func f), args, ts⟩, ty, pos, after, g⟩ = zAv (args.toList.map (ev env)) := by
   have : ∀ l : List Operand, (l.flatMap fun x => refs (ev env x)) = zAv (l.map (ev env)) := by
     intro l
     induction l with
     | nil => rfl
     | cons x r ih => simp [zAv, ih]
   simp only [roots, Op.operands, Call.operands, Array.toList_append, List.flatMap_append, this]
   simp [ev, refs, zAv]
 have hk : zDM cx.rd (Op.call ⟨.value (.func f), args, ts⟩) = 1 := by simp only [zDM, hc, if_true]
 have := zN0 (cx := cx) (bef := bef) (i := i) (o := ⟨dst, .call ⟨.value (.func f), args, ts⟩, ty, pos, after, g⟩) (X := X.map fun r => (ren (fun k => some (nx + i * 64 + k)) r.r, r.hs)) hk (by rw [hro]; exact hr) (fun H' hH => by
   rw [hro] at hH
   rw [zTv]
   simp only [ev, List.nil_append, List.append_nil]
   unfold zDD
   simp only [ho]
   have hb : (args.toList.map (ev env)).mapM (bor H' 3) = (args.toList.map (ev env)).mapM (bor H 3) := zDg _ (fun x hx => yC3 3 x (fun id hid => by
     refine ⟨hH id (zDB hx hid), ?_⟩
     simp only [zAD, Bool.and_eq_true] at hr
     have := List.all_eq_true.1 hr.2 id (zDB hx hid)
     simp at this; exact this.2))
   rw [hb, ← hX]
   cases (args.toList.map (ev env)).mapM (bor H 3) with
   | none => rfl
   | some asx =>
     simp only [Option.bind_some]
     cases F asx with
     | none => rfl
     | some r =>
       simp only [Option.bind_some]
       split <;> simp) (fun r hr => by
     simp only [Option.map_eq_some_iff] at hr
     obtain ⟨r', h1, rfl⟩ := hr
     exact hl r' h1)
 rw [this, Option.map_map]; rfl
end
def updL (H : Hp) : List (Nat × Blk) → Hp
 | [] => H
 | (a, b) :: r => updL (upd H a b) r
def clr (H : Hp) (nid : Nat) : Hp := fun id => if nid ≤ id ∧ id < nid + 64 then .gone else H id
theorem yGz {H : Hp} {nid id : Nat} (h : id < nid ∨ nid + 64 ≤ id) : clr H nid id = H id := by unfold clr; rw [if_neg (by omega)]
theorem yJF {H : Hp} {nid id : Nat} (h : nid ≤ id ∧ id < nid + 64) : clr H nid id = .gone := by unfold clr; rw [if_pos h]
theorem zMm {F G : Hp} {id : Nat} : ∀ (K : List (Nat × Blk)) (F G : Hp), F id = G id → updL F K id = updL G K id
 | [], F, G, h => h
 | (a, b) :: r, F, G, h => by
   simp only [updL]
   refine zMm (F := F) (G := G) r _ _ ?_
   by_cases e : id = a
   · subst e; simp [upd]
   · rw [upd_ne _ _ e, upd_ne _ _ e]; exact h
theorem zUy {id : Nat} : ∀ (K : List (Nat × Blk)) (F : Hp), (∀ p ∈ K, p.1 ≠ id) → updL F K id = F id
 | [], _, _ => rfl
 | (a, b) :: r, F, h => by
   simp only [updL]
   rw [zUy r _ (fun p hp => h p (by simp [hp])), upd_ne _ _ (fun e => h (a, b) (by simp) e.symm)]

section
variable {cx : Cx} {l : List Nat} {nx bef i : Nat} {env : Nat → D} {H : Hp} {dst : Option Tmp} {ty t : TypeId} {pos : String} {after : Array Edge} {g : Option (Nat × Bool)} {x y z : Operand}

theorem zNu {o : Oper} {X : Option (D × List (Nat × Blk) × Nat)} (hk : zDM cx.rd o.op = 2) (hr : zAD nx bef i H (roots env o) = true)
   (h : ∀ H' : Hp, (∀ id ∈ roots env o, H' id = H id) → opD cx env o H' (nx + i * 64) = X.map fun r => (r.1, updL H' r.2.1, nx + i * 64 + r.2.2))
   (hl : ∀ r, X = some r → r.2.2 ≤ 64 ∧ ∀ p ∈ r.2.1, p.1 ∈ roots env o ∨ (nx + i * 64 ≤ p.1 ∧ p.1 < nx + i * 64 + 64)) :
   stepD cx nx bef i o env H = X.map fun r => (r.1, updL (clr H (nx + i * 64)) r.2.1) := by
 obtain ⟨q, q1, hq, q4, h1, h2, h3⟩ := zUA hr
 unfold stepD
 rw [if_neg (by omega)]
 simp only [q1]
 rw [h1, h2, h3]
 have hK := h (zCR q H) (fun id hid => by unfold zCR; rw [if_pos (by simpa using q4 id hid)])
 cases X with
 | none => simp [hK]
 | some r =>
   obtain ⟨hl1, hl2⟩ := hl r rfl
   simp only [hK, Bool.and_self, if_true, Option.map_some, Option.bind_some, hk]
   rw [if_pos (by omega), if_neg (by omega)]
   congr 2
   funext id
   unfold mend
   by_cases hid : nx + i * 64 ≤ id ∧ id < nx + i * 64 + 64
   · rw [if_pos (by simp [hid])]
     refine zMm (F := H) (G := H) _ _ _ ?_
     have hnm : ¬ id ∈ q := fun hm => by have := zNx (hq id hm).2.1; omega
     rw [yJF hid]; unfold zCR; rw [if_neg (by simpa using hnm)]
   · by_cases hm : id ∈ q
     · rw [if_pos (by simp [hm])]
       refine zMm (F := H) (G := H) _ _ _ ?_
       unfold zCR clr; rw [if_pos (by simpa using hm), if_neg hid]
     · rw [if_neg (by simp [hm]; omega), zUy, clr, if_neg hid]
       intro p hp e
       rcases hl2 p hp with h' | h'
       · exact hm (q4 _ (e ▸ h'))
       · exact hid (e ▸ h')

def zD9 (P : Program) (t : TypeId) (H : Hp) (nid : Nat) (s x : D) : Option (D × List (Nat × Blk) × Nat) :=
 (zDp P t).bind fun e => (P.info? e).bind fun inf => (elems H inf.size x).bind fun (px, ys) => (zLp P e).bind fun z =>
 if inf.size = 0 ∨ inf.bytes = 0 ∨ z.length ≠ inf.size then none else
 match s with
 | .nils => if ys.length * inf.bytes ≤ 140737488355328 then some (.own nid 0 ys.length, [(nid, .row inf.size px ys)], 1) else none
 | .vec sz true es => if sz = inf.size ∧ (es = [] ∨ ys ≠ []) ∧ (es.length + ys.length) * inf.bytes ≤ 140737488355328 then some (.own nid 0 (es.length + ys.length), [(nid, .row inf.size px (es ++ ys))], 1) else none
 | .own id off len => match H id with
   | .row sz pl es => if sz = inf.size ∧ off + len = es.length ∧ (len + ys.length) * inf.bytes ≤ 140737488355328 then
       some (.own nid 0 (len + ys.length), [(id, .gone), (nid, .row sz (pl && px) (es.drop off ++ ys))], 1) else none
   | _ => none
 | _ => none
theorem zW7 {P : Program} {nid : Nat} {s x : D} : zEl P t H nid s x = (zD9 P t H nid s x).map fun r => (r.1, updL H r.2.1, nid + r.2.2) := by
 unfold zEl zD9
 cases zDp P t with
 | none => rfl
 | some e =>
 simp only [Option.bind_some]
 cases P.info? e with
 | none => rfl
 | some inf =>
 simp only [Option.bind_some]
 cases elems H inf.size x with
 | none => rfl
 | some r =>
 obtain ⟨px, ys⟩ := r
 simp only [Option.bind_some]
 cases zLp P e with
 | none => rfl
 | some z =>
 simp only [Option.bind_some]
 split
 · rfl
 · cases s
   case nils => simp only []; split <;> rfl
   case vec sz cl es => cases cl <;> first | rfl | (simp only []; split <;> rfl)
   case own id off len =>
     simp only []
     generalize H id = b
     cases b <;> first | rfl | (simp only []; split <;> rfl)
   all_goals rfl
theorem zUm {P : Program} {nid : Nat} {s x : D} {r : D × List (Nat × Blk) × Nat} (h : zD9 P t H nid s x = some r) : r.2.2 = 1 ∧ ∀ p ∈ r.2.1, p.1 ∈ refs s ∨ p.1 = nid := by
 unfold zD9 at h
 simp only [Option.bind_eq_some_iff] at h
 obtain ⟨e, _, inf, _, ⟨px, ys⟩, _, z, _, h⟩ := h
 split at h
 · cases h
 · cases s <;> simp only [reduceCtorEq] at h
   case nils => split at h <;> simp at h; subst h; simp
   case vec sz cl es => cases cl <;> simp only [reduceCtorEq] at h; split at h <;> simp at h; subst h; simp
   case own id off len =>
     cases hh : H id <;> simp only [hh, reduceCtorEq] at h
     split at h <;> simp at h
     subst h
     simp [refs]
theorem zSC {P : Program} {H' : Hp} {nid : Nat} {s x : D} (hs : ∀ id ∈ refs s, H' id = H id) (hx : ∀ id ∈ refs x, H' id = H id) : zD9 P t H' nid s x = zD9 P t H nid s x := by
 unfold zD9
 simp only [zWO hx]
 cases zDp P t with
 | none => rfl
 | some e =>
 simp only [Option.bind_some]
 cases P.info? e with
 | none => rfl
 | some inf =>
 simp only [Option.bind_some]
 cases elems H inf.size x with
 | none => rfl
 | some r =>
 obtain ⟨px, ys⟩ := r
 simp only [Option.bind_some]
 cases zLp P e with
 | none => rfl
 | some z =>
 simp only [Option.bind_some]
 cases s
 case own id off len =>
   simp only [refs, List.mem_singleton, forall_eq] at hs
   simp only [hs]
 case vec sz cl es => cases cl <;> rfl
 all_goals rfl
theorem zS0 {t' : TypeId} (hr : zAD nx bef i H (refs (ev env x) ++ refs (ev env y)) = true) : stepD cx nx bef i ⟨dst, .call ⟨.builtin .append, #[x, y], #[t, t']⟩, ty, pos, after, g⟩ env H =
   (if zDu cx.P t' (ev env y) then zD9 cx.P t H (nx + i * 64) (ev env x) (ev env y) else none).map fun r => (r.1, updL (clr H (nx + i * 64)) r.2.1) := by
 have hro : roots env ⟨dst, .call ⟨.builtin .append, #[x, y], #[t, t']⟩, ty, pos, after, g⟩ = refs (ev env x) ++ refs (ev env y) := by simp [roots, Op.operands, Call.operands]
 refine zNu rfl (by rw [hro]; exact hr) (fun H' hH => ?_) (fun r hr' => ?_)
 · rw [hro] at hH
   rw [zH2]
   simp only [zAd, Array.toList, List.map_cons, List.map_nil]
   split
   · rw [zW7, zSC (fun id hid => hH id (by simp [hid])) (fun id hid => hH id (by simp [hid]))]
   · rfl
 · split at hr'
   · obtain ⟨h1, h2⟩ := zUm hr'
     refine ⟨by omega, fun p hp => ?_⟩
     rw [hro]
     rcases h2 p hp with h | h
     · exact .inl (by simp [h])
     · exact .inr (by omega)
   · cases hr'

theorem zN1 {n : Nat} {ps : Array (Nat × Operand)} (hr : zAD nx bef i H (roots env ⟨dst, .buildSlice t n ps, ty, pos, after, g⟩) = true) : stepD cx nx bef i ⟨dst, .buildSlice t n ps, ty, pos, after, g⟩ env H =
   ((zDp cx.P t).bind fun e => (szT cx.P e).bind fun sz => (zHL cx.P e sz).bind fun z =>
   if n * sz ≤ 16777216 ∧ 0 ≤ n then (zAE sz (List.replicate n z) (ps.toList.map fun (i, x) => (i, ev env x))).map fun es => (.own (nx + i * 64) 0 n, zKZ H (nx + i * 64) [.row sz (immL es) es]) else none) := by
 have hput : ∀ (H : Hp) n b, upd H n b = zEG H n [b] := fun H n b => by
   funext id
   unfold upd zEG
   by_cases h : id = n
   · subst h; simp
   · rw [if_neg h]
     split
     · rw [List.getElem?_eq_none (by simp; omega)]; rfl
     · rfl
 have := zN0 (cx := cx) (bef := bef) (i := i) (o := ⟨dst, .buildSlice t n ps, ty, pos, after, g⟩) (X := (zDp cx.P t).bind fun e => (szT cx.P e).bind fun sz => (zHL cx.P e sz).bind fun z =>
   if n * sz ≤ 16777216 ∧ 0 ≤ n then (zAE sz (List.replicate n z) (ps.toList.map fun (i, x) => (i, ev env x))).map fun es => (.own (nx + i * 64) 0 n, [.row sz (immL es) es]) else none) rfl hr (fun H' hH => by
     rw [zLW]
     cases zDp cx.P t with
     | none => rfl
     | some e =>
     simp only [Option.bind_some]
     cases szT cx.P e with
     | none => rfl
     | some sz =>
     simp only [Option.bind_some]
     cases zHL cx.P e sz with
     | none => rfl
     | some z =>
     simp only [Option.bind_some]
     split
     · cases zAE sz (List.replicate n z) (ps.toList.map fun (i, x) => (i, ev env x)) <;> simp [hput]
     · rfl) (fun r hr => by
     simp only [Option.bind_eq_some_iff] at hr
     obtain ⟨_, _, _, _, _, _, hr⟩ := hr
     split at hr
     · simp only [Option.map_eq_some_iff] at hr
       obtain ⟨_, _, rfl⟩ := hr
       simp
     · cases hr)
 rw [this]
 cases zDp cx.P t with
 | none => rfl
 | some e =>
 simp only [Option.bind_some]
 cases szT cx.P e with
 | none => rfl
 | some sz =>
 simp only [Option.bind_some]
 cases zHL cx.P e sz with
 | none => rfl
 | some z =>
 simp only [Option.bind_some]
 split
 · cases zAE sz (List.replicate n z) (ps.toList.map fun (i, x) => (i, ev env x)) <;> simp
 · rfl
end
theorem zXz {ks ids : List Nat} {st : St} (hr : ∀ id ∈ ids, refsB (st.H id) = [] ∧ renBlk (ixOf ids) (st.H id) = st.H id) (h : zBr st.H 60 (zAv (ks.map st.env)) [] = ids) (hl : (zAv (ks.map st.env)).all (fun j => ids.contains j) = true) :
   tidy 0 ks st = some ⟨zH3 (ks.map fun t => (t, ren (ixOf ids) (st.env t))), ofHp (ids.map st.H), ids.length⟩ := by
 unfold tidy zF7
 simp only [List.range_zero, List.flatMap_nil, List.append_nil, h]
 have hc : closed st.H ids = true := by
   simp only [closed, List.all_eq_true]
   intro id hid
   rw [(hr id hid).1]; simp
 rw [hc, hl]
 simp only [Bool.and_self, if_true, Option.some.injEq, St.mk.injEq, true_and, and_true]
 have : ids.map (fun i => renBlk (ixOf ids) (st.H i)) = ids.map st.H := List.map_congr_left (fun id hid => (hr id hid).2)
 rw [this]

theorem zKh {f : Nat → Option Nat} : ∀ {es : List D}, (∀ x ∈ es, refs x = []) → renL f es = es
 | [], _ => rfl
 | x :: r, h => by rw [renL, zFu f x (h x (by simp)), zKh (fun y hy => h y (by simp [hy]))]
def zEw : Blk → Prop
 | .row _ true es => ∀ x ∈ es, refs x = []
 | .row _ false _ => False
 | .mp es => ∀ p ∈ es, refs p.1 = [] ∧ refs p.2 = []
 | .box cs => ∀ x ∈ cs, refs x = []
 | .gone => False
theorem zEH {b : Blk} (h : zEw b) (f : Nat → Option Nat) : refsB b = [] ∧ renBlk f b = b := by
 cases b with
 | gone => exact h.elim
 | box cs =>
   refine ⟨?_, by simp only [renBlk, zKh h]⟩
   simp only [refsB]
   have : ∀ l : List D, (∀ x ∈ l, refs x = []) → zAv l = [] := fun l => by
     induction l with
     | nil => intro _; rfl
     | cons a r ih => intro h; rw [zAv, h a (by simp), ih (fun y hy => h y (by simp [hy]))]; rfl
   exact this cs h
 | row sz pl es =>
   cases pl
   · exact h.elim
   · exact ⟨rfl, by simp only [renBlk, zKh h]⟩
 | mp es => exact ⟨rfl, by
     simp only [renBlk]⟩

section
variable {cx : Cx} {c : Code} {st : St} {k : Ex → St → Tok → Prop}
theorem zXg : ∀ (ks : List Nat) (f : Nat → D) (l : List D), ks.map f = l → (ks.map fun t => (t, f t)) = ks.zip l := by
 intro ks
 induction ks with
 | nil => intro f l h; subst h; rfl
 | cons a r ih => intro f l h; subst h; simp only [List.map_cons, List.zip_cons_cons, ih f _ rfl]
theorem zAw {σ : Type} (I : σ → List D) (R : σ → List Blk) (J : σ → Prop) (m : σ → Nat) (ks : List Nat) (hbs : cx.bs = 0) (hk : cx.kp (zC9 c) = some ks)
   (hR : ∀ s, J s → ∀ b ∈ R s, zEw b)
   (h : ∀ s, J s → EvX .go cx c ⟨zH3 (ks.zip (I s)), ofHp (R s), (R s).length⟩ fun e st' t => match e with
     | .nrm => ∃ (ids : List Nat) (s' : σ), zBr st'.H 60 (zAv (ks.map st'.env)) [] = ids ∧ (zAv (ks.map st'.env)).all (fun j => ids.contains j) = true ∧ ks.map (fun t => ren (ixOf ids) (st'.env t)) = I s' ∧ ids.map st'.H = R s' ∧ J s' ∧ m s' < m s
     | e => k e st' t)
   {s : σ} (ids : List Nat) (h1 : zBr st.H 60 (zAv (ks.map st.env)) [] = ids) (h2 : (zAv (ks.map st.env)).all (fun j => ids.contains j) = true) (h3 : ks.map (fun t => ren (ixOf ids) (st.env t)) = I s) (h4 : ids.map st.H = R s) (hJ : J s) : EvX .go cx (.loop c) st k := by
 have key : ∀ (st : St) (ids : List Nat) (s : σ), J s → zBr st.H 60 (zAv (ks.map st.env)) [] = ids → (zAv (ks.map st.env)).all (fun j => ids.contains j) = true → ks.map (fun t => ren (ixOf ids) (st.env t)) = I s → ids.map st.H = R s →
     tidy 0 ks st = some ⟨zH3 (ks.zip (I s)), ofHp (R s), (R s).length⟩ := by
   intro st ids s hJ h1 h2 h3 h4
   rw [zXz (ids := ids) (fun id hid => zEH (hR s hJ _ (by rw [← h4]; exact List.mem_map.2 ⟨id, hid, rfl⟩)) _) h1 h2]
   rw [zXg ks _ _ h3, h4, ← h4, List.length_map]
 refine zQN (fun s => ⟨zH3 (ks.zip (I s)), ofHp (R s), (R s).length⟩) J m ks hk (fun e s => e ≠ .nrm ∧ k e s .go) (fun s hs => ?_) (fun e s h _ => h.2) (s := s) ?_ hJ
 · obtain ⟨r, hr, hq⟩ := h s hs
   refine ⟨r, hr, ?_⟩
   obtain ⟨e, st'⟩ := r
   cases e with
   | nrm =>
     obtain ⟨ids, s', q1, q2, q3, q4, q5, q6⟩ := hq
     exact ⟨s', by rw [hbs]; exact key st' ids s' q5 q1 q2 q3 q4, q5, q6⟩
   | _ => exact ⟨by simp, hq⟩
 · rw [hbs]; exact key st ids s hJ h1 h2 h3 h4
end

def gvec {α : Type} (sz : Nat) (E : α → D) : Option Bool → List α → D
 | none, [] => .nils
 | o, xs => .vec sz (o.getD false) (xs.map E)
section
variable {α : Type} {sz : Nat} {E : α → D} {P : Program} {H : Hp} {t e : TypeId} {o : Option Bool} {xs : List α} {k : IntKind}
theorem zKm (sz : Nat) (E : α → D) (o : Option Bool) (xs : List α) : (gvec sz E o xs = .nils ∧ xs = [] ∧ o = none) ∨ gvec sz E o xs = .vec sz (o.getD false) (xs.map E) := by
 cases o <;> cases xs <;> simp [gvec]
theorem zBc : refs (gvec sz E o xs) = [] := by rcases zKm sz E o xs with ⟨h, _⟩ | h <;> rw [h] <;> rfl
theorem yCt : immD (gvec sz E o xs) = true := by rcases zKm sz E o xs with ⟨h, _⟩ | h <;> rw [h] <;> rfl
theorem zUO {f : Nat → Option Nat} : ren f (gvec sz E o xs) = gvec sz E o xs := zFu f _ zBc
theorem zW6 : cellsOf (gvec sz E o xs) = some [gvec sz E o xs] := by rcases zKm sz E o xs with ⟨h, _⟩ | h <;> rw [h] <;> rfl
theorem zWP : elems H sz (gvec sz E o xs) = some (true, xs.map E) := by
 rcases zKm sz E o xs with ⟨h, rfl, _⟩ | h <;> rw [h] <;> simp [elems]
end

def appK (sz by' : Nat) (H : Hp) (nid : Nat) (s x : D) : Option (D × Hp × Nat) :=
 (elems H sz x).bind fun r => match s with
 | .nils => if r.2.length * by' ≤ 140737488355328 then some (.own nid 0 r.2.length, upd H nid (.row sz r.1 r.2), nid + 1) else none
 | .vec sz' true es => if sz' = sz ∧ (es = [] ∨ r.2 ≠ []) ∧ (es.length + r.2.length) * by' ≤ 140737488355328 then some (.own nid 0 (es.length + r.2.length), upd H nid (.row sz r.1 (es ++ r.2)), nid + 1) else none
 | .own id off len => match H id with
   | .row sz' pl es => if sz' = sz ∧ off + len = es.length ∧ (len + r.2.length) * by' ≤ 140737488355328 then
       some (.own nid 0 (len + r.2.length), upd (upd H id .gone) nid (.row sz' (pl && r.1) (es.drop off ++ r.2)), nid + 1) else none
   | _ => none
 | _ => none
def appT (P : Program) (t : TypeId) (sz by' : Nat) : Bool := match zDp P t with
 | some e => match P.info? e, zLp P e with
   | some inf, some z => inf.size == sz && inf.bytes == by' && z.length == sz && decide (0 < sz) && decide (0 < by')
   | _, _ => false
 | none => false
theorem zOO {P : Program} {t : TypeId} {sz by' : Nat} {H : Hp} {nid : Nat} {s x : D} (h : appT P t sz by' = true) : zEl P t H nid s x = appK sz by' H nid s x := by
 unfold appT at h
 unfold zEl appK
 cases he : zDp P t with
 | none => simp [he] at h
 | some e =>
 simp only [he] at h
 cases hi : P.info? e with
 | none => simp [hi] at h
 | some inf =>
 simp only [hi] at h
 cases hz : zLp P e with
 | none => simp [hz] at h
 | some z =>
 simp only [hz, Bool.and_eq_true, beq_iff_eq, decide_eq_true_eq] at h
 obtain ⟨⟨⟨⟨h1, h2⟩, h3⟩, h4⟩, h5⟩ := h
 subst h1; subst h2
 simp only [Option.bind_some, he, hi, hz]
 cases hel : elems H inf.size x with
 | none => rfl
 | some r =>
 obtain ⟨px, ys⟩ := r
 simp only [Option.bind_some]
 rw [if_neg (by omega)]
 all_goals (cases s <;> rfl)
def zQ8 (sz by' : Nat) (H : Hp) (nid : Nat) (s x : D) : Option (D × List (Nat × Blk) × Nat) :=
 (elems H sz x).bind fun r => match s with
 | .nils => if r.2.length * by' ≤ 140737488355328 then some (.own nid 0 r.2.length, [(nid, .row sz r.1 r.2)], 1) else none
 | .vec sz' true es => if sz' = sz ∧ (es = [] ∨ r.2 ≠ []) ∧ (es.length + r.2.length) * by' ≤ 140737488355328 then some (.own nid 0 (es.length + r.2.length), [(nid, .row sz r.1 (es ++ r.2))], 1) else none
 | .own id off len => match H id with
   | .row sz' pl es => if sz' = sz ∧ off + len = es.length ∧ (len + r.2.length) * by' ≤ 140737488355328 then
       some (.own nid 0 (len + r.2.length), [(id, .gone), (nid, .row sz' (pl && r.1) (es.drop off ++ r.2))], 1) else none
   | _ => none
 | _ => none
theorem zLe {P : Program} {t : TypeId} {sz by' : Nat} {H : Hp} {nid : Nat} {s x : D} (h : appT P t sz by' = true) : zD9 P t H nid s x = zQ8 sz by' H nid s x := by
 unfold appT at h
 unfold zD9 zQ8
 cases he : zDp P t with
 | none => simp [he] at h
 | some e =>
 simp only [he] at h
 cases hi : P.info? e with
 | none => simp [hi] at h
 | some inf =>
 simp only [hi] at h
 cases hz : zLp P e with
 | none => simp [hz] at h
 | some z =>
 simp only [hz, Bool.and_eq_true, beq_iff_eq, decide_eq_true_eq] at h
 obtain ⟨⟨⟨⟨h1, h2⟩, h3⟩, h4⟩, h5⟩ := h
 subst h1; subst h2
 simp only [Option.bind_some, he, hi, hz]
 cases hel : elems H inf.size x with
 | none => rfl
 | some r =>
 obtain ⟨px, ys⟩ := r
 simp only [Option.bind_some]
 rw [if_neg (by omega)]
 all_goals (cases s <;> rfl)
def cD := And.intro @yFY (And.intro @zWL (And.intro @yCL (And.intro @zZz (And.intro @yCJ (And.intro @yFZ (And.intro @yCI (And.intro @yF2 (And.intro @zZB (And.intro @yF1 (And.intro @zZC (And.intro @yCK (And.intro @yF4 (And.intro @zZD (And.intro @yF3 (And.intro @zZE (And.intro @zEX (And.intro @zGa (And.intro @zVu (And.intro @zMD (And.intro @zZy (And.intro @yEb (And.intro @yEa (And.intro @zZA (And.intro @yAo (And.intro @zVG (And.intro @zYN (And.intro @zWQ (And.intro @zWR (And.intro @yFh (And.intro @zYA (And.intro @yFg (And.intro @yHZ (And.intro @yKk (And.intro @zTv (And.intro @zH2 (And.intro @zPD (And.intro @zWw (And.intro @zYy (And.intro @zUR (And.intro @yBN (And.intro @yHY (And.intro @yBM (And.intro @zLW (And.intro @zOm (And.intro @zTu (And.intro @zRT (And.intro @zUT (And.intro @zNo (And.intro @zUU (And.intro @zNn (And.intro @yBL (And.intro @zRU (And.intro @zRS (And.intro @zYz (And.intro @yJi (And.intro @yCH (And.intro @yFX (And.intro @yHj (And.intro @yEq (And.intro @zXs (And.intro @zUx (And.intro @yBu (And.intro @yBv (And.intro @yBD (And.intro @yBC (And.intro @yBU (And.intro @zYK (And.intro @yBV (And.intro @yBX (And.intro @zYL (And.intro @zTN (And.intro @yBY (And.intro @yBP (@zYG))))))))))))))))))))))))))))))))))))))))))))))))))))))))))))))))))))))))))
def cU := And.intro @zEX (And.intro @zGa (And.intro @zVu (And.intro @zMD (And.intro @zZy (And.intro @yEb (And.intro @yF5 (And.intro @yEa (And.intro @zZA (And.intro @yF0 (And.intro @yAo (And.intro @zVG (And.intro @zYN (And.intro @one_one (And.intro @yFi (And.intro @zYB (And.intro @yFC (And.intro @yFB (And.intro @zYa (And.intro @yE4 (And.intro @yE5 (And.intro @yE3 (And.intro @zMs (And.intro @zBb (And.intro @yCs (And.intro @zBc (And.intro @yCt (And.intro @zUO (And.intro @yBF (And.intro @zW6 (And.intro @zWP (@yGz)))))))))))))))))))))))))))))))
def cS := And.intro @zXF (And.intro @zSZ (And.intro @zXE (And.intro @zV9 (And.intro @yBo (And.intro @yED (And.intro @zPx (And.intro @zV7 (And.intro @zP6 (And.intro @zRy (And.intro @zXG (And.intro @zP5 (And.intro @zPc (And.intro @zPb (And.intro @zSY (And.intro @zV6 (And.intro @yBn (And.intro @yBl (And.intro @yBm (And.intro @zS0 (@zN1))))))))))))))))))))
theorem wrap64 {n : Int} (h : -9223372036854775808 ≤ n) (h' : n < 9223372036854775808) : IntKind.i64.wrap n = n := by
 simp only [IntKind.wrap, IntKind.signed, IntKind.bits]
 simp
 omega
theorem wrap32 {n : Int} : IntKind.u32.wrap n = n % 4294967296 := by
 simp [IntKind.wrap, IntKind.signed, IntKind.bits]
theorem zCs {n : Int} : IntKind.u64.wrap n = n % 18446744073709551616 := by
 simp [IntKind.wrap, IntKind.signed, IntKind.bits]
abbrev Sm {α : Type} (l : List α) : Prop := (l.length : Int) < 4611686018427387904
theorem zBL {n : Nat} (hn : (n : Int) < 4611686018427387904) (i : Nat) (h : (i : Int) < n) : IntKind.i64.wrap ((i : Int) + 1) = ((i + 1 : Nat) : Int) := by rw [wrap64 (by omega) (by omega)]; simp
theorem drop_at {α : Type} [Inhabited α] {zs : List α} {i : Nat} (h : (i : Int) < zs.length) : zs.drop i = zs[i]! :: zs.drop (i + 1) := by
 have h' : i < zs.length := by omega
 rw [List.drop_eq_getElem_cons h', getElem!_pos zs i h']
theorem zBw {α : Type} {zs : List α} {i : Nat} (h : ¬ (i : Int) < zs.length) : zs.drop i = [] := List.drop_eq_nil_of_le (by omega)
open Classical in
noncomputable def mkF {σ : Type} (enc : σ → List D) (pre : σ → Prop) (out : σ → Res) : List D → Option Res := fun ds => if h : ∃ s, enc s = ds ∧ pre s then some (out h.choose) else none
theorem zAB {σ : Type} {enc : σ → List D} {pre : σ → Prop} {out : σ → Res} {s : σ} (hinj : ∀ s s', enc s = enc s' → out s = out s') (hp : pre s) : mkF enc pre out (enc s) = some (out s) := by
 have h : ∃ s', enc s' = enc s ∧ pre s' := ⟨s, rfl, hp⟩
 unfold mkF
 rw [dif_pos h, hinj _ _ h.choose_spec.1]
theorem zBv {σ : Type} {enc : σ → List D} {pre : σ → Prop} {out : σ → Res} {ds : List D} {r : Res} (h : mkF enc pre out ds = some r) : ∃ s, ds = enc s ∧ pre s ∧ r = out s := by
 unfold mkF at h
 split at h
 · rename_i hs
   simp only [Option.some.injEq] at h
   exact ⟨_, hs.choose_spec.1.symm, hs.choose_spec.2, h.symm⟩
 · cases h
theorem yIo {k : IntKind} : ∀ a b : Int, D.it k a = D.it k b → a = b := fun a b h => by cases h; rfl
theorem yHw : ∀ a b : List UInt8, D.st a = D.st b → a = b := fun a b h => by cases h; rfl
theorem Known.add {K : Known} (h : K.OK) (hP : K.P.follows .mixedOrders = true) {g : FuncId} {fn : Func} {c : Code} (kp : Nat → Option (List Nat)) (hb : Body K.P (K.cx kp).rd g fn c) {σ : Type} {enc : σ → List D} {pre : σ → Prop} {out : σ → Res} {n : Nat} (hn : n ≤ fn.ntmps) (hl : ∀ s, (enc s).length = n)
   (ks : List Nat) (al : Bool) (hF : ∀ s, pre s → zAj (K.cx kp) fn ks al (enc s) = some (out s)) : (K.pure g (mkF enc pre out)).OK :=
 Known.fn h hP kp hb (fun ds r hr => by
   obtain ⟨s, rfl, hp, rfl⟩ := zBv hr
   exact ⟨by rw [hl]; exact hn, ks, al, hF s hp⟩)
def zOL (F : List D → Option Res) (asx : List D) (H : Hp) : Option Res :=
 (asx.mapM (bor H 3)).bind fun as' => (F as').bind fun r => if r.al && !(immL asx) then none else some r
def borL (H : Hp) : List D → Option (List D)
 | [] => some []
 | d :: r => (bor H 3 d).bind fun d' => (borL H r).map (d' :: ·)
theorem yAq (H : Hp) : ∀ l : List D, l.mapM (bor H 3) = borL H l
 | [] => rfl
 | d :: r => by rw [List.mapM_cons, yAq H r, borL]; cases bor H 3 d <;> cases borL H r <;> rfl
section
variable {cx : Cx} {H : Hp} {nid nx bef i : Nat} {F : List D → Option Res} {asx : List D} {g : FuncId} {env : Nat → D} {dst : Option Tmp} {ty t : TypeId} {pos : String} {after : Array Edge} {gd : Option (Nat × Bool)}
theorem zAo (h : immL asx = true) : zOL F asx H = F asx := by
 have hm : ∀ l : List D, immL l = true → l.mapM (bor H 3) = some l := by
   intro l
   induction l with
   | nil => intro _; rfl
   | cons x r ih => intro h; simp only [immL, Bool.and_eq_true] at h; rw [List.mapM_cons, zLb 3 x h.1, ih h.2]; rfl
 unfold zOL
 rw [hm asx h, h]
 simp
theorem zAp : zOL F [] H = F [] := zAo (by simp only [immL])
theorem zAc : zOL F asx H = (borL H asx).bind fun as' => (F as').bind fun r => if r.al && !(immL asx) then none else some r := by unfold zOL; rw [yAq]
theorem zAn {n : Nat} {d : D} (h : immD d = true) : bor H n d = some d := zLb n d h
theorem zAl {n id off len : Nat} : bor H (n + 1) (.own id off len) = match H id with
     | .row sz true es => some (.vec sz false ((es.drop off).take len))
     | .row sz false es => (((es.drop off).take len).mapM (bor H n)).map (.vec sz false)
     | _ => none := rfl
theorem yC0 (ho : cx.orc g = some F) : zDD cx g asx H nid = (zOL F asx H).map fun r => (ren (fun i => some (nid + i)) r.r, zEG H nid r.hs, nid + r.hs.length) := by
 unfold zDD zOL
 simp only [ho]
 cases asx.mapM (bor H 3) with
 | none => rfl
 | some as' =>
   simp only [Option.bind_some]
   cases F as' with
   | none => rfl
   | some r =>
     simp only [Option.bind_some]
     split <;> simp
theorem zK5 {P : Program} {t e : TypeId} {id off len : Nat} (hu : P.underlying t = some (.slice e)) : lenD P H t (.own id off len) = match H id with | .row _ _ _ => some (len : Int) | _ => none := by
 simp only [lenD, hu]
 cases H id <;> rfl
theorem zFp {P : Program} {t e : TypeId} {id off len : Nat} (hu : P.underlying t = some (.slice e)) : zDu P t (.own id off len) = true := by simp only [zDu, hu]
theorem zAf {f : Int → Int → Int} {k k' : IntKind} {p q : Int} : minD f [.it k p, .it k' q] = some (.it k (f p q)) := rfl
def yEE := @stepD
theorem yBk {args : Array Operand} {ts : Array TypeId} (hc : cx.rd.contains g = true) (ho : cx.orc g = some F) (hr : zAD nx bef i H (zAv (args.toList.map (ev env))) = true) :
   stepD cx nx bef i ⟨dst, .call ⟨.value (.func g), args, ts⟩, ty, pos, after, gd⟩ env H = (zOL F (args.toList.map (ev env)) H).bind fun r => if r.hs.length ≤ 64 then some (ren (fun k => some (nx + i * 64 + k)) r.r, if r.hs.isEmpty then H else zKZ H (nx + i * 64) r.hs)
     else yEE cx nx bef i ⟨dst, .call ⟨.value (.func g), args, ts⟩, ty, pos, after, gd⟩ env H := by
 cases h : zOL F (args.toList.map (ev env)) H with
 | none => rw [zRz hc ho hr (X := none) h (fun r hr => by cases hr)]; rfl
 | some r =>
   simp only [Option.bind_some]
   split
   · rename_i hl
     rw [zRz hc ho hr (X := some r) h (fun r' hr => by simp at hr; subst hr; exact hl)]; rfl
   · rfl
end
theorem zQ1 {cx : Cx} {H : Hp} {nid : Nat} {g : FuncId} {F : List D → Option D} {asx : List D} (hn : cx.orc g = none) (he : cx.ext g = some F) (hi : immL asx = true) : zDD cx g asx H nid = (F asx).map fun d => (d, H, nid) := by
 have hm : ∀ l : List D, immL l = true → l.mapM (bor H 3) = some l := by
   intro l
   induction l with
   | nil => intro _; rfl
   | cons x r ih => intro h; simp only [immL, Bool.and_eq_true] at h; rw [List.mapM_cons, zLb 3 x h.1, ih h.2]; rfl
 unfold zDD
 simp only [hn, he, hm asx hi, Option.bind_some]
theorem zAa {F : List D → Option Res} {g : FuncId} {cx : Cx} (ho : cx.orc g = some F) (H : Hp) (nid : Nat) (l : List D) : zDD cx g l H nid = (zOL F l H).map fun r => (ren (fun i => some (nid + i)) r.r, zEG H nid r.hs, nid + r.hs.length) := yC0 ho
theorem zAh {F : List D → Option Res} {g : FuncId} {cx : Cx} (hc : cx.rd.contains g = true) (ho : cx.orc g = some F) (nx bef i : Nat) (env : Nat → D) (H : Hp) (dst : Option Tmp) (ty : TypeId) (pos : String) (after : Array Edge) (gd : Option (Nat × Bool)) (args : Array Operand) (ts : Array TypeId) (hr : zAD nx bef i H (zAv (args.toList.map (ev env))) = true) :
   stepD cx nx bef i ⟨dst, .call ⟨.value (.func g), args, ts⟩, ty, pos, after, gd⟩ env H = (zOL F (args.toList.map (ev env)) H).bind fun r => if r.hs.length ≤ 64 then some (ren (fun k => some (nx + i * 64 + k)) r.r, if r.hs.isEmpty then H else zKZ H (nx + i * 64) r.hs)
     else yEE cx nx bef i ⟨dst, .call ⟨.value (.func g), args, ts⟩, ty, pos, after, gd⟩ env H := yBk hc ho hr
section
variable {P : Program} {n : Nat} {t e : TypeId} {d : D}
theorem tda_nil {ds : List D} (h : TDA P n [] ds) : ds = [] := h
theorem tda_cons {ts : List TypeId} {ds : List D} (h : TDA P n (t :: ts) ds) : ∃ d r, ds = d :: r ∧ TD1 P n t d ∧ TDA P n ts r := h
end
theorem Known.OK.get {K : Known} (h : K.OK) (g : FuncId) {F : List D → Option Res} (hg : lk K.orcs g = some F) : PureOK K.P g F := h.orcs (g, F) (zR3 hg)
def vecE {α : Type} (sz : Nat) (E : α → D) (xs : List α) : D := .vec sz false (xs.map E)
section
variable {α : Type} {sz : Nat} {E : α → D} {P : Program} {H : Hp} {t e : TypeId} {xs ys : List α} {k : IntKind}
theorem yA5 : D.vec sz false (xs.map E) = vecE sz E xs := rfl
theorem zXn : D.vec sz false [] = vecE sz E [] := rfl
theorem zBe : refs (vecE sz E xs) = [] := rfl
theorem yCr : immD (vecE sz E xs) = true := rfl
theorem yBE {f : Nat → Option Nat} : ren f (vecE sz E xs) = vecE sz E xs := rfl
theorem zW5 : cellsOf (vecE sz E xs) = some [vecE sz E xs] := rfl
theorem zT8 : D.cells (vecE sz E xs) = [vecE sz E xs] := rfl
theorem zIx (hu : P.underlying t = some (.slice e)) : lenD P H t (vecE sz E xs) = some (xs.length : Int) := by simp [lenD, hu, vecE]
theorem zJ0 [Inhabited α] (hu : P.underlying t = some (.slice e)) (hs : szT P e = some sz) {i : Nat} (h : (i : Int) < xs.length) : zA6 P H t (vecE sz E xs) (.it k (i : Int)) = some (.elt (E xs[i]!).cells) := by
 have h' : i < xs.length := by omega
 simp [zA6, idx, hu, hs, vecE, getElem!_pos xs i h', h']
theorem zNF [Inhabited α] (hu : P.underlying t = some (.slice e)) (hs : szT P e = some sz) {n : Int} {i : Nat} (hn : n = i) (h : i < xs.length) : zA6 P H t (vecE sz E xs) (.it k n) = some (.elt (E xs[i]!).cells) := by
 subst hn; exact zJ0 hu hs (by omega)
theorem zWa (hu : P.underlying t = some (.slice e)) (hs : szT P e = some sz) {lo hi : Option D} {l h : Nat} (hb : bnds xs.length lo hi none = some (l, h, none)) : zBm P H t (vecE sz E xs) lo hi none = some (vecE sz E ((xs.take h).drop l)) := by
 unfold vecE
 simp only [zBm, zDp, hu, Option.bind_some, hs, if_true, List.length_map, hb, Option.map_some, capB]
 simp [List.map_take, List.map_drop]
theorem zWN : elems H sz (vecE sz E xs) = some (true, xs.map E) := by simp [elems, vecE]
theorem zIf (hu : P.underlying t = some (.slice e)) : zDu P t (vecE sz E xs) = true := by simp [zDu, hu, vecE]
theorem zLs (hE : ∀ a b, E a = E b → a = b) (h : vecE sz E xs = vecE sz E ys) : xs = ys := by
 simp only [vecE, D.vec.injEq, true_and] at h
 exact List.map_inj_right (fun x y hxy => hE x y hxy) |>.1 h
theorem zRw : List.take xs.length (List.map E xs) = List.map E xs := List.take_of_length_le (by simp)
theorem yB0 {y : α} : List.map E xs ++ [E y] = List.map E (xs ++ [y]) := by simp
theorem yFp : List.map E xs ++ List.map E ys = List.map E (xs ++ ys) := by simp
theorem zA2 (hE : ∀ a, refs (E a) = []) : ∀ x ∈ xs.map E, refs x = [] := fun x hx => by obtain ⟨a, _, rfl⟩ := List.mem_map.1 hx; exact hE a
theorem zBP (hE : ∀ a, zDL (E a) = true) : zBN (xs.map E) = true := by
 induction xs with
 | nil => simp [zBN]
 | cons a r ih => simp [zBN, hE, ih]
end
section
variable {α : Type} [Inhabited α] {l : List α} {i : Nat} {p : α → Bool}
theorem takeN {l : List α} {i : Nat} (h : (i : Int) < l.length) : l.take (i + 1) = l.take i ++ [l[i]!] := by
 have h' : i < l.length := by omega
 rw [List.take_succ_eq_append_getElem h', getElem!_pos l i h']
theorem zAW {α : Type} {l : List α} {i : Nat} (h : ¬ (i : Int) < l.length) : l.take i = l := List.take_of_length_le (by omega)
theorem zH4 (h : (i : Int) < l.length) (hp : p l[i]! = true) : (l.take (i + 1)).filter p = (l.take i).filter p ++ [l[i]!] := by rw [takeN h, List.filter_append, List.filter_cons_of_pos hp, List.filter_nil]
theorem zMA (h : (i : Int) < l.length) (hp : p l[i]! = false) : (l.take (i + 1)).filter p = (l.take i).filter p := by rw [takeN h, List.filter_append, List.filter_cons_of_neg (by simp only [hp]; decide), List.filter_nil, List.append_nil]
theorem zEv (h : (i : Int) < l.length) : (l.take (i + 1)).any p = ((l.take i).any p || p l[i]!) := by rw [takeN h, List.any_append]; simp
theorem zB6 (h : (i : Int) < l.length) : (l.take (i + 1)).all p = ((l.take i).all p && p l[i]!) := by rw [takeN h, List.all_append]; simp
theorem zBO {l : List α} {i : Nat} (h : (i : Int) < l.length) : l[i]! ∈ l := by
 have h' : i < l.length := by omega
 rw [getElem!_pos l i h']; exact List.getElem_mem h'
end
def Res.row (sz : Nat) (es : List D) : Res := ⟨false, .own 0 0 es.length, [.row sz true es]⟩
theorem zDv {cx : Cx} {fn : Func} {c : Code} {ds : List D} {r : Res} {rs : List ResultVar} (hb : fn.body = some c) (hbs : cx.bs = 0) (hrs : fn.results.toList = rs)
   (h : EvX .go cx c ⟨zAq ds, ofHp [], 0⟩ fun e st t => (e = .nrm ∨ e = .ret) ∧ Ev t (resD cx.P st rs) fun out _ => ∃ id len sz es, out = [.own id 0 len] ∧ st.H id = .row sz true es ∧ len = es.length ∧ zBN es = true ∧ Res.row sz es = r) : zAj cx fn [0] false ds = some r := by
 obtain ⟨⟨e, s⟩, he, hen, out, ho, id, len, sz, es, rfl, hH, rfl, hm, rfl⟩ := h
 simp only at hH
 have hr : zBr s.H 60 [id] [] = [id] := by
   have : refsB (s.H id) = [] := by rw [hH]; rfl
   show zBr s.H (59 + 1) [id] [] = [id]
   simp only [zBr, List.contains_nil, Bool.false_eq_true, if_false, this, List.nil_append]
 refine zF9 hb hbs [0] false ⟨(e, s), he, hen, _, hrs ▸ ho, ?_, [.row sz true es], ?_, .own 0 0 es.length, ?_, rfl⟩
 · have h1 : zAv [D.own id 0 es.length] = [id] := rfl
   have h2 : closed s.H [id] = true := by simp [closed, hH, refsB]
   simp [zD4, distinct, dry, h1, hr, h2, zBN, zDL, zI0, hH, hm]
 · simp [zD4, zAv, refs, hr, finB, zCR, hH]
 · simp [zD4, finT, finV, ixOf]
def zAX (P : Program) (t : TypeId) (f : Nat) (d : D) : Option D := match d with
 | .agg cs => (zA5 P t f).bind fun fl => zAC P fl.type cs fl.offset
 | _ => none
section
variable {cx : Cx} {nx bef i nid : Nat} {env : Nat → D} {H : Hp} {dst : Option Tmp} {ty t : TypeId} {pos : String} {after : Array Edge} {g : Option (Nat × Bool)} {x y z : Operand} {f : Nat}
theorem zYx : opD cx env ⟨dst, .field t x f, ty, pos, after, g⟩ H nid = (zAX cx.P t f (ev env x)).map fun d => (d, H, nid) := by
 rw [zUU]
 unfold zAX
 cases ev env x <;> first | rfl | (simp only [Option.map_bind]; rfl)
theorem zSX : stepD cx nx bef i ⟨dst, .field t x f, ty, pos, after, g⟩ env H = (zAX cx.P t f (ev env x)).map fun d => (d, H) := by
 rw [zPx]
 unfold zAX
 cases ev env x <;> first | rfl | (simp only [Option.map_bind]; rfl)
end
theorem zQ6 {P : Program} {t : TypeId} {a b : D} {cs ds : List D} {r : Bool} (ha : a = .agg cs) (hb : b = .agg ds) (hg : P.eqGuardType P.depth t = false) (h : eqD P 12 t (.agg cs) (.agg ds) = some r) : binD P .eql t a b = some (.bo r) := by
 subst ha; subst hb
 simp only [binD, hg, zI8, h]; rfl
theorem zUj {P : Program} {t : TypeId} {a b : D} {cs ds : List D} {r : Bool} (ha : a = .agg cs) (hb : b = .agg ds) (hg : P.eqGuardType P.depth t = false) (h : eqD P 12 t (.agg cs) (.agg ds) = some r) : binD P .neq t a b = some (.bo (!r)) := by
 subst ha; subst hb
 simp only [binD, hg, zI8, h]; rfl

section
variable {P : Program} {t : TypeId} {n : Nat}
theorem zFw {fs : Array Field} {xs ys : List D} (h : P.underlying t = some (.struct fs)) (hh : P.stoodInHeld t = false) : eqD P (n + 1) t (.agg xs) (.agg ys) = eqF P n fs.toList xs ys := by simp [eqD, h, hh]
theorem zQQ {k : IntKind} {a b : Int} (h : P.underlying t = some (.int k)) : eqD P (n + 1) t (.it k a) (.it k b) = some (a == b) := by simp [eqD, h]
theorem zQP {a b : List UInt8} (h : P.underlying t = some .string) : eqD P (n + 1) t (.st a) (.st b) = some (a == b) := by simp [eqD, h]
theorem zNJ {a b : Bool} (h : P.underlying t = some .bool) : eqD P (n + 1) t (.bo a) (.bo b) = some (a == b) := by simp [eqD, h]
theorem zQO {xs ys : List D} : eqF P n [] xs ys = some true := by simp [eqF]
theorem zNI {f : Field} {fs : List Field} {xs ys : List D} (hf : f.name ≠ "_") : eqF P n (f :: fs) xs ys = (zAC P f.type xs f.offset).bind fun p => (zAC P f.type ys f.offset).bind fun q => (eqD P n f.type p q).bind fun r => (eqF P n fs xs ys).map fun r' => r && r' := by rw [eqF, if_neg hf]
end
structure Adr where
 v6 : Bool
 hi : Int
 lo : Int
 deriving DecidableEq, Inhabited
structure Dat where
 adr : Adr
 host : List UInt8
 mail : List UInt8
 text : List UInt8
 a : Int
 b : Int
 c : Int
 d : Int
 e : Int
 f : Int
 bits : Int
 deriving DecidableEq, Inhabited
structure Rec where
 name : List UInt8
 typ : Int
 ttl : Int
 dat : Dat
 deriving DecidableEq, Inhabited
structure Zone where
 origin : List UInt8
 recs : List Rec
 deriving DecidableEq, Inhabited
structure Delta where
 origin : List UInt8
 fro : Int
 til : Int
 rem : List Rec
 add : List Rec
 deriving DecidableEq, Inhabited
structure Hist where
 zone : Zone
 deltas : List Delta
 deriving DecidableEq, Inhabited
def adrL (x : Adr) : List D := [.bo x.v6, .it .u64 x.hi, .it .u64 x.lo]
def adrE (x : Adr) : D := .agg (adrL x)
def datL (x : Dat) : List D := [.bo x.adr.v6, .it .u64 x.adr.hi, .it .u64 x.adr.lo, .st x.host, .st x.mail, .st x.text, .it .i64 x.a, .it .i64 x.b, .it .i64 x.c, .it .i64 x.d, .it .i64 x.e, .it .i64 x.f, .it .u64 x.bits]
def datE (x : Dat) : D := .agg (datL x)
def recL (r : Rec) : List D := [.st r.name, .it .i64 r.typ, .it .i64 r.ttl, .bo r.dat.adr.v6, .it .u64 r.dat.adr.hi, .it .u64 r.dat.adr.lo, .st r.dat.host, .st r.dat.mail, .st r.dat.text, .it .i64 r.dat.a, .it .i64 r.dat.b, .it .i64 r.dat.c, .it .i64 r.dat.d, .it .i64 r.dat.e, .it .i64 r.dat.f, .it .u64 r.dat.bits]
def recE (r : Rec) : D := .agg (recL r)
abbrev zAt (l : List Rec) : D := vecE 16 recE l
def zDo (z : Zone) : List D := [.st z.origin, zAt z.recs]
def zAU (z : Zone) : D := .agg (zDo z)
def zEs (d : Delta) : List D := [.st d.origin, .it .i64 d.fro, .it .i64 d.til, zAt d.rem, zAt d.add]
def zAS (d : Delta) : D := .agg (zEs d)
abbrev zMG (l : List Delta) : D := vecE 5 zAS l
def zK7 (h : Hist) : List D := [.st h.zone.origin, zAt h.zone.recs, zMG h.deltas]
def zMw (h : Hist) : D := .agg (zK7 h)
abbrev zDa (l : List (List UInt8)) : D := vecE 1 D.st l
abbrev zGk (l : List Int) : D := vecE 1 (D.it .i64) l
section
variable {x : Adr} {d : Dat} {r s : Rec} {z z' : Zone} {q q' : Delta} {h h' : Hist} {n : Nat} {f : Nat → Option Nat}
theorem zYp : (recE r).cells = recL r := rfl
theorem zZZ : (datE d).cells = datL d := rfl
theorem yAC : (adrE x).cells = adrL x := rfl
theorem zVZ : (zAU z).cells = zDo z := rfl
theorem zT7 : (zAS q).cells = zEs q := rfl
theorem zWH : (zMw h).cells = zK7 h := rfl
theorem zTr : cellsOf (recE r) = some (recL r) := rfl
theorem zT9 : cellsOf (datE d) = some (datL d) := rfl
theorem zUo : cellsOf (adrE x) = some (adrL x) := rfl
theorem zRp : cellsOf (zAU z) = some (zDo z) := rfl
theorem zQU : cellsOf (zAS q) = some (zEs q) := rfl
theorem zSg : cellsOf (zMw h) = some (zK7 h) := rfl
theorem yE7 : (recL r).length = 16 := rfl
theorem yGd : (datL d).length = 13 := rfl
theorem yGJ : (adrL x).length = 3 := rfl
theorem yAW : (zDo z).length = 2 := rfl
theorem zZK : (zEs q).length = 5 := rfl
theorem yCw : (zK7 h).length = 3 := rfl
theorem yBG : List.take 16 (recL r) = recL r := rfl
theorem yCT : List.take 13 (datL d) = datL d := rfl
theorem yDc : List.take 3 (adrL x) = adrL x := rfl
theorem zXd : List.take 2 (zDo z) = zDo z := rfl
theorem zWW : List.take 5 (zEs q) = zEs q := rfl
theorem zZp : List.take 3 (zK7 h) = zK7 h := rfl
theorem yFa : D.agg (recL r) = recE r := rfl
theorem yGk : D.agg (datL d) = datE d := rfl
theorem yGQ : D.agg (adrL x) = adrE x := rfl
theorem yA0 : D.agg (zDo z) = zAU z := rfl
theorem zZN : D.agg (zEs q) = zAS q := rfl
theorem yCA : D.agg (zK7 h) = zMw h := rfl
theorem yBH : refs (recE r) = [] := rfl
theorem yCU : refs (datE d) = [] := rfl
theorem yDd : refs (adrE x) = [] := rfl
theorem zXe : refs (zAU z) = [] := rfl
theorem zWX : refs (zAS q) = [] := rfl
theorem zZq : refs (zMw h) = [] := rfl
theorem yE8 : immD (recE r) = true := rfl
theorem yGf : immD (datE d) = true := rfl
theorem yGL : immD (adrE x) = true := rfl
theorem yAY : immD (zAU z) = true := rfl
theorem zZL : immD (zAS q) = true := rfl
theorem yCy : immD (zMw h) = true := rfl
theorem yE6 : ren f (recE r) = recE r := rfl
theorem yGc : ren f (datE d) = datE d := rfl
theorem yGI : ren f (adrE x) = adrE x := rfl
theorem yAV : ren f (zAU z) = zAU z := rfl
theorem zZJ : ren f (zAS q) = zAS q := rfl
theorem yCv : ren f (zMw h) = zMw h := rfl
theorem yE9 : zDL (recE r) = true := rfl
theorem yGi : zDL (datE d) = true := rfl
theorem yGO : zDL (adrE x) = true := rfl
theorem zYe : ∀ a b : Rec, recE a = recE b → a = b := by
 rintro ⟨n, t, l, ⟨⟨v, i, o⟩, h, m, x, a, b, c, d, e, f, g⟩⟩ ⟨n', t', l', ⟨⟨v', i', o'⟩, h', m', x', a', b', c', d', e', f', g'⟩⟩ hh
 simp [recE, recL] at hh
 simp [hh]
theorem yGe : ∀ a b : Dat, datE a = datE b → a = b := by
 rintro ⟨⟨v, i, o⟩, h, m, x, a, b, c, d, e, f, g⟩ ⟨⟨v', i', o'⟩, h', m', x', a', b', c', d', e', f', g'⟩ hh
 simp [datE, datL] at hh
 simp [hh]
theorem yGK : ∀ a b : Adr, adrE a = adrE b → a = b := by
 rintro ⟨v, i, o⟩ ⟨v', i', o'⟩ hh
 simp [adrE, adrL] at hh
 simp [hh]
theorem zLI {a b : List Rec} (h : zAt a = zAt b) : a = b := zLs zYe h
theorem yAX : ∀ a b : Zone, zAU a = zAU b → a = b := by
 rintro ⟨n, l⟩ ⟨n', l'⟩ hh
 simp only [zAU, zDo, D.agg.injEq, List.cons.injEq, D.st.injEq, and_true] at hh
 rw [hh.1, zLI hh.2]
theorem zOG : ∀ a b : Delta, zAS a = zAS b → a = b := by
 rintro ⟨n, u, v, l, m⟩ ⟨n', u', v', l', m'⟩ hh
 simp only [zAS, zEs, D.agg.injEq, List.cons.injEq, D.st.injEq, D.it.injEq, and_true, true_and] at hh
 rw [hh.1, hh.2.1, hh.2.2.1, zLI hh.2.2.2.1, zLI hh.2.2.2.2]
theorem yCx : ∀ a b : Hist, zMw a = zMw b → a = b := by
 rintro ⟨⟨n, l⟩, m⟩ ⟨⟨n', l'⟩, m'⟩ hh
 simp only [zMw, zK7, D.agg.injEq, List.cons.injEq, D.st.injEq, and_true] at hh
 rw [hh.1, zLI hh.2.1, zLs zOG hh.2.2]
theorem yHV {n1 : List UInt8} {t l : Int} {v : Bool} {i o : Int} {h m x : List UInt8} {a b c d e f g : Int} : D.agg [.st n1, .it .i64 t, .it .i64 l, .bo v, .it .u64 i, .it .u64 o, .st h, .st m, .st x, .it .i64 a, .it .i64 b, .it .i64 c, .it .i64 d, .it .i64 e, .it .i64 f, .it .u64 g] = recE ⟨n1, t, l, ⟨⟨v, i, o⟩, h, m, x, a, b, c, d, e, f, g⟩⟩ := rfl
theorem yJx {v : Bool} {i o : Int} {h m x : List UInt8} {a b c d e f g : Int} : D.agg [.bo v, .it .u64 i, .it .u64 o, .st h, .st m, .st x, .it .i64 a, .it .i64 b, .it .i64 c, .it .i64 d, .it .i64 e, .it .i64 f, .it .u64 g] = datE ⟨⟨v, i, o⟩, h, m, x, a, b, c, d, e, f, g⟩ := rfl
theorem yJW {v : Bool} {i o : Int} : D.agg [.bo v, .it .u64 i, .it .u64 o] = adrE ⟨v, i, o⟩ := rfl
theorem yEf {o : List UInt8} {l : List Rec} : D.agg [.st o, zAt l] = zAU ⟨o, l⟩ := rfl
theorem yCR {o : List UInt8} {a b : Int} {l m : List Rec} : D.agg [.st o, .it .i64 a, .it .i64 b, zAt l, zAt m] = zAS ⟨o, a, b, l, m⟩ := rfl
theorem yFI {o : List UInt8} {l : List Rec} {m : List Delta} : D.agg [.st o, zAt l, zMG m] = zMw ⟨⟨o, l⟩, m⟩ := rfl
theorem yGh : datE ⟨⟨r.dat.adr.v6, r.dat.adr.hi, r.dat.adr.lo⟩, r.dat.host, r.dat.mail, r.dat.text, r.dat.a, r.dat.b, r.dat.c, r.dat.d, r.dat.e, r.dat.f, r.dat.bits⟩ = datE r.dat := rfl
theorem yGN : adrE ⟨d.adr.v6, d.adr.hi, d.adr.lo⟩ = adrE d.adr := rfl
theorem yAZ : zAU ⟨h.zone.origin, h.zone.recs⟩ = zAU h.zone := rfl
end
def cT := And.intro @zYp (And.intro @zZZ (And.intro @yAC (And.intro @zVZ (And.intro @zT7 (And.intro @zWH (And.intro @zTr (And.intro @zT9 (And.intro @zUo (And.intro @zRp (And.intro @zQU (And.intro @zSg
 (And.intro @yE7 (And.intro @yGd (And.intro @yGJ (And.intro @yAW (And.intro @zZK (And.intro @yCw (And.intro @yBG (And.intro @yCT (And.intro @yDc (And.intro @zXd (And.intro @zWW (And.intro @zZp
 (And.intro @yFa (And.intro @yGk (And.intro @yGQ (And.intro @yA0 (And.intro @zZN (And.intro @yCA (And.intro @yBH (And.intro @yCU (And.intro @yDd (And.intro @zXe (And.intro @zWX (And.intro @zZq
 (And.intro @yE8 (And.intro @yGf (And.intro @yGL (And.intro @yAY (And.intro @zZL (And.intro @yCy (And.intro @yE6 (And.intro @yGc (And.intro @yGI (And.intro @yAV (And.intro @zZJ (And.intro @yCv
 (And.intro @yE9 (And.intro @yGi (And.intro @yGO (And.intro @yHV (And.intro @yJx (And.intro @yJW (And.intro @yEf (And.intro @yCR (And.intro @yFI (And.intro @yGh (And.intro @yGN @yAZ))))))))))))))))))))))))))))))))))))))))))))))))))))))))))
def cV := And.intro @zBe (And.intro @yCr (And.intro @yBE (And.intro @zW5 (And.intro @zT8 (And.intro @zWN (And.intro @yA5 (And.intro @zXn (And.intro @zYx @zSX))))))))
theorem ixs {P : Program} {t : TypeId} {l : List UInt8} {k : IntKind} (hu : P.underlying t = some .string) {i : Nat} (h : (i : Int) < l.length) : zGd P t (.st l) (.it k (i : Int)) = some (.it .u8 (l[i]!.toNat : Int)) := by
 have h' : i < l.length := by omega
 simp [zGd, idx, hu, getElem!_pos l i h', h']
theorem ixsN {P : Program} {t : TypeId} {l : List UInt8} {k : IntKind} (hu : P.underlying t = some .string) {n : Int} (h0 : 0 ≤ n) (h : n < l.length) : zGd P t (.st l) (.it k n) = some (.it .u8 (l[n.toNat]!.toNat : Int)) := by
 obtain ⟨i, rfl⟩ := Int.eq_ofNat_of_zero_le h0
 rw [ixs hu h]; rfl
theorem lens {P : Program} {H : Hp} {t : TypeId} {l : List UInt8} (hu : P.underlying t = some .string) : lenD P H t (.st l) = some (l.length : Int) := by simp [lenD, hu]
theorem zHZ {P : Program} {H : Hp} {t : TypeId} {l : List UInt8} {lo hi : Option D} {a b : Nat} (hu : P.underlying t = some .string) (hb : bnds l.length lo hi none = some (a, b, none)) : zBm P H t (.st l) lo hi none = some (.st ((l.take b).drop a)) := by
 simp [zBm, hb, yFA, hu]
theorem zSy {n i : Nat} {k : IntKind} (h : i ≤ n) : bnds n (some (.it k (i : Int))) none none = some (i, n, none) := by
 simp only [bnds, idx, Option.bind_some]
 rw [if_pos (by omega)]; rfl
theorem yGC {n j : Nat} {k : IntKind} (h : j ≤ n) : bnds n none (some (.it k (j : Int))) none = some (0, j, none) := by
 simp only [bnds, idx, Option.bind_some]
 rw [if_pos (by omega)]; rfl
theorem zNq {P : Program} {H : Hp} {t e : TypeId} {id off len : Nat} {k : IntKind} {n : Int} (hu : P.underlying t = some (.slice e)) : zA6 P H t (.own id off len) (.it k n) = match H id with | .row sz _ _ => if szT P e = some sz ∧ 0 ≤ n ∧ n < len then some (.rowp id (off + n.toNat) 0) else none | _ => none := by
 simp only [zA6, idx, Option.bind_some, hu]
 cases H id <;> rfl
theorem rev_at {α : Type} [Inhabited α] {l : List α} {k : Nat} (h : k < l.length) : l[l.length - 1 - k]! = l.reverse[k]! := by
 rw [getElem!_pos l _ (by omega), getElem!_pos l.reverse k (by simpa using h), List.getElem_reverse]
theorem getm {α : Type} [Inhabited α] {E : α → D} {xs : List α} {i : Nat} (h : i < xs.length) : (xs.map E)[i]? = some (E xs[i]!) := by
 rw [List.getElem?_map, List.getElem?_eq_getElem h, getElem!_pos xs i h]; rfl
theorem zAb {H : Hp} {n id off len : Nat} : elems H n (.own id off len) = match H id with | .row sz pl es => if sz = n then some (pl, (es.drop off).take len) else none | _ => none := rfl
theorem zWs {H : Hp} {nid : Nat} {b : Blk} : zEG H nid [b] = upd H nid b := by
 funext id
 unfold upd zEG
 by_cases h : id = nid
 · subst h; simp
 · rw [if_neg h]
   split
   · rw [List.getElem?_eq_none (by simp; omega)]; rfl
   · rfl
theorem yJ4 {a b : UInt8} : ((a.toNat : Int) = (b.toNat : Int)) ↔ a = b := by
 rw [Int.ofNat_inj]; exact UInt8.toNat_inj
def Res.rowd (sz : Nat) (es : List D) (ds : List D) : Res := ⟨false, .tup (.own 0 0 es.length :: ds), [.row sz true es]⟩
section
variable {k : IntKind} {n id off len sz ix : Nat} {i : Int} {b : Bool} {l : List UInt8} {cs es p q : List D} {f : Fn}
theorem yKP : cellsOf (.it k i) = some [.it k i] := rfl
theorem yKR : cellsOf (.bo b) = some [.bo b] := rfl
theorem yKO : cellsOf (.st l) = some [.st l] := rfl
theorem yJA : cellsOf (.vec sz b es) = some [.vec sz b es] := rfl
theorem yGr : cellsOf .nils = some [.nils] := rfl
theorem yJC : cellsOf (.own id off len) = some [.own id off len] := rfl
theorem yJE : cellsOf (.agg cs) = some cs := rfl
theorem yJB : cellsOf (.ptr id off) = some [.ptr id off] := rfl
theorem yGq : cellsOf (.rowp id ix off) = some [.rowp id ix off] := rfl
theorem yKQ : cellsOf (.fn f p q) = some [.fn f p q] := rfl
theorem yGt : cellsOf .nilf = some [.nilf] := rfl
theorem yJD : cellsOf (.elt cs) = some [.elt cs] := rfl
theorem yGs : cellsOf .nilp = some [.nilp] := rfl
theorem yKL : D.cells (.it k i) = [.it k i] := rfl
theorem yKN : D.cells (.bo b) = [.bo b] := rfl
theorem yKK : D.cells (.st l) = [.st l] := rfl
theorem yJs : D.cells (.vec sz b es) = [.vec sz b es] := rfl
theorem yF9 : D.cells .nils = [.nils] := rfl
theorem yJu : D.cells (.own id off len) = [.own id off len] := rfl
theorem yJw : D.cells (.agg cs) = cs := rfl
theorem yJt : D.cells (.ptr id off) = [.ptr id off] := rfl
theorem yF8 : D.cells (.rowp id ix off) = [.rowp id ix off] := rfl
theorem yKM : D.cells (.fn f p q) = [.fn f p q] := rfl
theorem yGb : D.cells .nilf = [.nilf] := rfl
theorem yJv : D.cells (.elt cs) = [.elt cs] := rfl
theorem yGa : D.cells .nilp = [.nilp] := rfl
end
def cO := And.intro @yKP (And.intro @yKR (And.intro @yKO (And.intro @yJA (And.intro @yGr (And.intro @yJC (And.intro @yJE (And.intro @yJB (And.intro @yGq (And.intro @yKQ (And.intro @yGt (And.intro @yJD @yGs)))))))))))
theorem zYo (r : Rec) : List.drop 1 (recL r) = [.it .i64 r.typ, .it .i64 r.ttl, .bo r.dat.adr.v6, .it .u64 r.dat.adr.hi, .it .u64 r.dat.adr.lo, .st r.dat.host, .st r.dat.mail, .st r.dat.text, .it .i64 r.dat.a, .it .i64 r.dat.b, .it .i64 r.dat.c, .it .i64 r.dat.d, .it .i64 r.dat.e, .it .i64 r.dat.f, .it .u64 r.dat.bits] := rfl
theorem zYn (r : Rec) : List.drop 2 (recL r) = [.it .i64 r.ttl, .bo r.dat.adr.v6, .it .u64 r.dat.adr.hi, .it .u64 r.dat.adr.lo, .st r.dat.host, .st r.dat.mail, .st r.dat.text, .it .i64 r.dat.a, .it .i64 r.dat.b, .it .i64 r.dat.c, .it .i64 r.dat.d, .it .i64 r.dat.e, .it .i64 r.dat.f, .it .u64 r.dat.bits] := rfl
theorem zYm (r : Rec) : List.drop 3 (recL r) = datL r.dat := rfl
theorem zYl (r : Rec) : List.drop 4 (recL r) = [.it .u64 r.dat.adr.hi, .it .u64 r.dat.adr.lo, .st r.dat.host, .st r.dat.mail, .st r.dat.text, .it .i64 r.dat.a, .it .i64 r.dat.b, .it .i64 r.dat.c, .it .i64 r.dat.d, .it .i64 r.dat.e, .it .i64 r.dat.f, .it .u64 r.dat.bits] := rfl
theorem zYk (r : Rec) : List.drop 5 (recL r) = [.it .u64 r.dat.adr.lo, .st r.dat.host, .st r.dat.mail, .st r.dat.text, .it .i64 r.dat.a, .it .i64 r.dat.b, .it .i64 r.dat.c, .it .i64 r.dat.d, .it .i64 r.dat.e, .it .i64 r.dat.f, .it .u64 r.dat.bits] := rfl
theorem zYj (r : Rec) : List.drop 6 (recL r) = [.st r.dat.host, .st r.dat.mail, .st r.dat.text, .it .i64 r.dat.a, .it .i64 r.dat.b, .it .i64 r.dat.c, .it .i64 r.dat.d, .it .i64 r.dat.e, .it .i64 r.dat.f, .it .u64 r.dat.bits] := rfl
theorem zYi (r : Rec) : List.drop 7 (recL r) = [.st r.dat.mail, .st r.dat.text, .it .i64 r.dat.a, .it .i64 r.dat.b, .it .i64 r.dat.c, .it .i64 r.dat.d, .it .i64 r.dat.e, .it .i64 r.dat.f, .it .u64 r.dat.bits] := rfl
theorem zYh (r : Rec) : List.drop 8 (recL r) = [.st r.dat.text, .it .i64 r.dat.a, .it .i64 r.dat.b, .it .i64 r.dat.c, .it .i64 r.dat.d, .it .i64 r.dat.e, .it .i64 r.dat.f, .it .u64 r.dat.bits] := rfl
theorem zYg (r : Rec) : List.drop 9 (recL r) = [.it .i64 r.dat.a, .it .i64 r.dat.b, .it .i64 r.dat.c, .it .i64 r.dat.d, .it .i64 r.dat.e, .it .i64 r.dat.f, .it .u64 r.dat.bits] := rfl
theorem zWq (r : Rec) : List.drop 10 (recL r) = [.it .i64 r.dat.b, .it .i64 r.dat.c, .it .i64 r.dat.d, .it .i64 r.dat.e, .it .i64 r.dat.f, .it .u64 r.dat.bits] := rfl
theorem zWp (r : Rec) : List.drop 11 (recL r) = [.it .i64 r.dat.c, .it .i64 r.dat.d, .it .i64 r.dat.e, .it .i64 r.dat.f, .it .u64 r.dat.bits] := rfl
theorem zWo (r : Rec) : List.drop 12 (recL r) = [.it .i64 r.dat.d, .it .i64 r.dat.e, .it .i64 r.dat.f, .it .u64 r.dat.bits] := rfl
theorem zWn (r : Rec) : List.drop 13 (recL r) = [.it .i64 r.dat.e, .it .i64 r.dat.f, .it .u64 r.dat.bits] := rfl
theorem zWm (r : Rec) : List.drop 14 (recL r) = [.it .i64 r.dat.f, .it .u64 r.dat.bits] := rfl
theorem zWl (r : Rec) : List.drop 15 (recL r) = [.it .u64 r.dat.bits] := rfl
theorem yHW (r : Rec) : (recL r).head? = some (D.st r.name) := rfl
theorem zZY (x : Dat) : List.drop 1 (datL x) = [.it .u64 x.adr.hi, .it .u64 x.adr.lo, .st x.host, .st x.mail, .st x.text, .it .i64 x.a, .it .i64 x.b, .it .i64 x.c, .it .i64 x.d, .it .i64 x.e, .it .i64 x.f, .it .u64 x.bits] := rfl
theorem zZX (x : Dat) : List.drop 2 (datL x) = [.it .u64 x.adr.lo, .st x.host, .st x.mail, .st x.text, .it .i64 x.a, .it .i64 x.b, .it .i64 x.c, .it .i64 x.d, .it .i64 x.e, .it .i64 x.f, .it .u64 x.bits] := rfl
theorem zZW (x : Dat) : List.drop 3 (datL x) = [.st x.host, .st x.mail, .st x.text, .it .i64 x.a, .it .i64 x.b, .it .i64 x.c, .it .i64 x.d, .it .i64 x.e, .it .i64 x.f, .it .u64 x.bits] := rfl
theorem zZV (x : Dat) : List.drop 4 (datL x) = [.st x.mail, .st x.text, .it .i64 x.a, .it .i64 x.b, .it .i64 x.c, .it .i64 x.d, .it .i64 x.e, .it .i64 x.f, .it .u64 x.bits] := rfl
theorem zZU (x : Dat) : List.drop 5 (datL x) = [.st x.text, .it .i64 x.a, .it .i64 x.b, .it .i64 x.c, .it .i64 x.d, .it .i64 x.e, .it .i64 x.f, .it .u64 x.bits] := rfl
theorem zZT (x : Dat) : List.drop 6 (datL x) = [.it .i64 x.a, .it .i64 x.b, .it .i64 x.c, .it .i64 x.d, .it .i64 x.e, .it .i64 x.f, .it .u64 x.bits] := rfl
theorem zZS (x : Dat) : List.drop 7 (datL x) = [.it .i64 x.b, .it .i64 x.c, .it .i64 x.d, .it .i64 x.e, .it .i64 x.f, .it .u64 x.bits] := rfl
theorem zZR (x : Dat) : List.drop 8 (datL x) = [.it .i64 x.c, .it .i64 x.d, .it .i64 x.e, .it .i64 x.f, .it .u64 x.bits] := rfl
theorem zZQ (x : Dat) : List.drop 9 (datL x) = [.it .i64 x.d, .it .i64 x.e, .it .i64 x.f, .it .u64 x.bits] := rfl
theorem zW2 (x : Dat) : List.drop 10 (datL x) = [.it .i64 x.e, .it .i64 x.f, .it .u64 x.bits] := rfl
theorem zW1 (x : Dat) : List.drop 11 (datL x) = [.it .i64 x.f, .it .u64 x.bits] := rfl
theorem zW0 (x : Dat) : List.drop 12 (datL x) = [.it .u64 x.bits] := rfl
theorem yJy (x : Dat) : (datL x).head? = some (.bo x.adr.v6) := rfl
theorem yAB (x : Adr) : List.drop 1 (adrL x) = [.it .u64 x.hi, .it .u64 x.lo] := rfl
theorem yAA (x : Adr) : List.drop 2 (adrL x) = [.it .u64 x.lo] := rfl
theorem yJX (x : Adr) : (adrL x).head? = some (.bo x.v6) := rfl
theorem zVY (z : Zone) : List.drop 1 (zDo z) = [zAt z.recs] := rfl
theorem yEg (z : Zone) : (zDo z).head? = some (.st z.origin) := rfl
theorem zT6 (d : Delta) : List.drop 1 (zEs d) = [.it .i64 d.fro, .it .i64 d.til, zAt d.rem, zAt d.add] := rfl
theorem zT5 (d : Delta) : List.drop 2 (zEs d) = [.it .i64 d.til, zAt d.rem, zAt d.add] := rfl
theorem zT4 (d : Delta) : List.drop 3 (zEs d) = [zAt d.rem, zAt d.add] := rfl
theorem zT3 (d : Delta) : List.drop 4 (zEs d) = [zAt d.add] := rfl
theorem yCS (d : Delta) : (zEs d).head? = some (.st d.origin) := rfl
theorem zWG (h : Hist) : List.drop 1 (zK7 h) = [zAt h.zone.recs, zMG h.deltas] := rfl
theorem zWF (h : Hist) : List.drop 2 (zK7 h) = [zMG h.deltas] := rfl
theorem yFJ (h : Hist) : (zK7 h).head? = some (.st h.zone.origin) := rfl
theorem zZO (x : Dat) : List.take 3 (datL x) = adrL x.adr := rfl
theorem zWC (h : Hist) : List.take 2 (zK7 h) = zDo h.zone := rfl
def faD (H : Hp) (x : D) (o : Nat) : Option D := match x with
 | .ptr id off => match H id with | .box cs => if off + o ≤ cs.length then some (.ptr id (off + o)) else none | _ => none
 | .rowp id ix off => match H id with | .row sz _ _ => if off + o ≤ sz then some (.rowp id ix (off + o)) else none | _ => none
 | .elt cs => if o ≤ cs.length then some (.elt (cs.drop o)) else none
 | _ => none
theorem yFT {H : Hp} {id off o : Nat} : faD H (.ptr id off) o = match H id with | .box cs => if off + o ≤ cs.length then some (.ptr id (off + o)) else none | _ => none := rfl
theorem yFS {H : Hp} {id ix off o : Nat} : faD H (.rowp id ix off) o = match H id with | .row sz _ _ => if off + o ≤ sz then some (.rowp id ix (off + o)) else none | _ => none := rfl
theorem yFU {H : Hp} {cs : List D} {o : Nat} : faD H (.elt cs) o = if o ≤ cs.length then some (.elt (cs.drop o)) else none := rfl
theorem zEP {P : Program} {t : TypeId} {f o n : Nat} {fl : Field} (h : zA5 P t f = some fl) (hn : szT P fl.type = some n) (h0 : n ≠ 0) (ho : fl.offset = o) (H : Hp) (x : D) : zA7 P H t x f = faD H x o := by
 subst ho
 simp only [zA7, h, hn, Option.bind_some, if_neg h0]
 rfl
theorem zUl {P : Program} {t : TypeId} {fs : Array Field} {zc : List D} {L : List (Nat × Nat)} (hz : zHX P t = some (.agg zc)) (hu : P.underlying t = some (.struct fs)) (hL : (fs.toList.map fun (f : Field) => (szT P f.type).map fun n => (f.offset, n)) = L.map some) (parts : List (Nat × D)) :
   zHJ P t parts = (zJ5 (fun i => L[i]?) zc parts).map .agg := by
 have hall : fs.toList.all (fun f => (szT P f.type).isSome) = true := by
   rw [List.all_eq_true]
   intro f hf
   have : (szT P f.type).map (fun n => (f.offset, n)) ∈ L.map some := hL ▸ List.mem_map_of_mem hf
   obtain ⟨y, _, hy⟩ := List.mem_map.1 this
   cases hs : szT P f.type with
   | none => rw [hs] at hy; cases hy
   | some n => rfl
 have hp : (fun (i : Nat) => (fs[i]?).bind fun (f : Field) => (szT P f.type).map fun n => (f.offset, n)) = fun i => L[i]? := by
   funext i
   have h1 := congrArg (fun l => l[i]?) hL
   simp only [List.getElem?_map] at h1
   rw [← Array.getElem?_toList]
   cases hf : fs.toList[i]? with
   | none => rw [hf] at h1; cases hl : L[i]? with
     | none => rfl
     | some y => rw [hl] at h1; cases h1
   | some f => rw [hf] at h1; cases hl : L[i]? with
     | none => rw [hl] at h1; cases h1
     | some y => rw [hl] at h1; simp only [Option.map_some, Option.some.injEq] at h1; exact h1
 simp only [zHJ, hz, cellsOf, Option.bind_some, hu]
 rw [if_pos hall, hp]
theorem yCF {place : Nat → Option (Nat × Nat)} {cs : List D} : zJ5 place cs [] = some cs := rfl
theorem zZw {place : Nat → Option (Nat × Nat)} {cs : List D} {i : Nat} {v : D} {rest : List (Nat × D)} : zJ5 place cs ((i, v) :: rest) = (place i).bind fun (off, n) => (cellsOf v).bind fun xs => if xs.length = n then (setAt cs off xs).bind fun cs' => zJ5 place cs' rest else none := rfl
theorem yGP (x : Adr) (l : List D) : adrL x ++ l = .bo x.v6 :: .it .u64 x.hi :: .it .u64 x.lo :: l := rfl
theorem yGj (x : Dat) (l : List D) : datL x ++ l = .bo x.adr.v6 :: .it .u64 x.adr.hi :: .it .u64 x.adr.lo :: .st x.host :: .st x.mail :: .st x.text :: .it .i64 x.a :: .it .i64 x.b :: .it .i64 x.c :: .it .i64 x.d :: .it .i64 x.e :: .it .i64 x.f :: .it .u64 x.bits :: l := rfl
theorem yHR {cs xs : List D} {off : Nat} : setAt cs off xs = if off + xs.length ≤ cs.length then some (cs.take off ++ (xs ++ cs.drop (off + xs.length))) else none := rfl
theorem yBi {H : Hp} {id off : Nat} {xs : List D} : zRx H (.ptr id off) xs = match H id with | .box cs => (setAt cs off xs).map fun cs' => upd H id (.box cs') | _ => none := rfl
theorem yBh {H : Hp} {id ix off : Nat} {xs : List D} : zRx H (.rowp id ix off) xs = match H id with
   | .row sz pl es => (es[ix]?).bind fun e => (setAt e.cells off xs).map fun cs' => upd H id (.row sz (pl && immL xs) (es.set ix (again e cs')))
   | _ => none := rfl
theorem zWk (r : Rec) : List.drop 16 (recL r) = [] := rfl
theorem zWZ (x : Dat) : List.drop 13 (datL x) = [] := rfl
theorem yAz (x : Adr) : List.drop 3 (adrL x) = [] := rfl
theorem zVX (x : Zone) : List.drop 2 (zDo x) = [] := rfl
theorem zT2 (x : Delta) : List.drop 5 (zEs x) = [] := rfl
theorem zWE (x : Hist) : List.drop 3 (zK7 x) = [] := rfl
theorem zYd (x : Rec) : zAv (recL x) = [] := rfl
theorem yBI (x : Rec) : immL (recL x) = true := rfl
theorem zZP (x : Dat) : zAv (datL x) = [] := rfl
theorem yCV (x : Dat) : immL (datL x) = true := rfl
theorem yAy (x : Adr) : zAv (adrL x) = [] := rfl
theorem yDe (x : Adr) : immL (adrL x) = true := rfl
theorem zVW (x : Zone) : zAv (zDo x) = [] := rfl
theorem zXf (x : Zone) : immL (zDo x) = true := rfl
theorem zT1 (x : Delta) : zAv (zEs x) = [] := rfl
theorem zWY (x : Delta) : immL (zEs x) = true := rfl
theorem zWD (x : Hist) : zAv (zK7 x) = [] := rfl
theorem zZr (x : Hist) : immL (zK7 x) = true := rfl
def cW := And.intro @zYo (And.intro @zYn (And.intro @zYm (And.intro @zYl (And.intro @zYk (And.intro @zYj (And.intro @zYi (And.intro @zYh (And.intro @zYg (And.intro @zWq (And.intro @zWp (And.intro @zWo (And.intro @zWn (And.intro @zWm (And.intro @zWl (And.intro @yHW (And.intro @zZY (And.intro @zZX (And.intro @zZW (And.intro @zZV (And.intro @zZU (And.intro @zZT (And.intro @zZS (And.intro @zZR (And.intro @zZQ (And.intro @zW2 (And.intro @zW1 (And.intro @zW0 (And.intro @yJy (And.intro @yAB (And.intro @yAA (And.intro @yJX (And.intro @zVY (And.intro @yEg (And.intro @zT6 (And.intro @zT5 (And.intro @zT4 (And.intro @zT3 (And.intro @yCS (And.intro @zWG (And.intro @zWF (And.intro @yFJ (And.intro @zZO (And.intro @zWC (And.intro @yFT (And.intro @yFS (And.intro @yFU (And.intro @yCF (And.intro @zZw (And.intro @yGP (And.intro @yGj (And.intro @yBi (And.intro @yBh (And.intro @zWk (And.intro @zWZ (And.intro @yAz (And.intro @zVX (And.intro @zT2 (And.intro @zWE (And.intro @zX9 (And.intro @zYd (And.intro @yBI (And.intro @zZP (And.intro @yCV (And.intro @yAy (And.intro @yDe (And.intro @zVW (And.intro @zXf (And.intro @zT1 (And.intro @zWY (And.intro @zWD (And.intro @zZr (@yHR))))))))))))))))))))))))))))))))))))))))))))))))))))))))))))))))))))))))
section
variable {k : IntKind} {i : Int} {b : Bool} {l : List UInt8}
theorem yKE : zGW (.it k i) = true := rfl
theorem yKF : zGW (.bo b) = true := rfl
theorem yKD : zGW (.st l) = true := rfl
theorem yFL : zGW .nils = true := rfl
theorem yFM : zGW .nilp = true := rfl
theorem yFO : zGW .nilf = true := rfl
theorem yFN : zGW .nilm = true := rfl
theorem yIu (x : Adr) : zGW (adrE x) = true := rfl
theorem yIt (x : Dat) : zGW (datE x) = true := rfl
theorem yIs (x : Rec) : zGW (recE x) = true := rfl
end
def cG := And.intro @yKE (And.intro @yKF (And.intro @yKD (And.intro @yFL (And.intro @yFM (And.intro @yFO (And.intro @yFN (And.intro @yIu (And.intro @yIt @yIs))))))))
section
variable {P : Program} {op : BinOp} {t : TypeId} {k k' : IntKind} {x y : Int} {a b : List UInt8} {p q : Bool}
theorem yJK : binD P op t (.it k x) (.it k' y) = match op with | .shl => zAk op k x y | .shr => zAk op k x y | _ => if k = k' then zAJ op k x y else none := rfl
theorem yJJ : binD P op t (.st a) (.st b) = zAI op a b := rfl
theorem yJL : binD P op t (.bo p) (.bo q) = zI8 op (eqD P 12 t (.bo p) (.bo q)) := rfl
end
def cB := And.intro @yJK (And.intro @yJJ @yJL)
def cC := And.intro @yKL (And.intro @yKN (And.intro @yKK (And.intro @yJs (And.intro @yF9 (And.intro @yJu (And.intro @yJw (And.intro @yJt (And.intro @yF8 (And.intro @yKM (And.intro @yGb (And.intro @yJv (@yGa))))))))))))
theorem yGM (a b : Adr) : (adrE a = adrE b) = (a = b) := propext ⟨yGK a b, fun h => h ▸ rfl⟩
theorem yGg (a b : Dat) : (datE a = datE b) = (a = b) := propext ⟨yGe a b, fun h => h ▸ rfl⟩
theorem zYf (a b : Rec) : (recE a = recE b) = (a = b) := propext ⟨zYe a b, fun h => h ▸ rfl⟩
theorem zNt (a b : Zone) : (zAU a = zAU b) = (a = b) := propext ⟨yAX a b, fun h => h ▸ rfl⟩
theorem zZM (a b : Delta) : (zAS a = zAS b) = (a = b) := propext ⟨zOG a b, fun h => h ▸ rfl⟩
theorem yCz (a b : Hist) : (zMw a = zMw b) = (a = b) := propext ⟨yCx a b, fun h => h ▸ rfl⟩
theorem zQf (a b : List Rec) : (zAt a = zAt b) = (a = b) := propext ⟨zLI, fun h => h ▸ rfl⟩
theorem zWV (a b : List Delta) : (zMG a = zMG b) = (a = b) := propext ⟨zLs zOG, fun h => h ▸ rfl⟩
theorem yBf (a b : List (List UInt8)) : (zDa a = zDa b) = (a = b) := propext ⟨zLs yHw, fun h => h ▸ rfl⟩
theorem zVe (a b : List Int) : (zGk a = zGk b) = (a = b) := propext ⟨zLs yIo, fun h => h ▸ rfl⟩
def zDq (x : Int) : UInt8 := UInt8.ofNat x.toNat
theorem zCo : ∀ l : List Int, (l.map (D.it .u8)).mapM byteOfD = some (l.map zDq)
 | [] => rfl
 | x :: r => by rw [List.map_cons, List.mapM_cons, zCo r]; rfl
theorem zEI (k : Nat) (l : List Int) : (List.take k (l.map (D.it .u8))).mapM byteOfD = some ((l.take k).map zDq) := by rw [← List.map_take, zCo]
theorem zCU {P : Program} {t t' e : TypeId} {H : Hp} {nid id len : Nat} {l : List Int} (hu : P.underlying t = some (.slice e)) (he : P.underlying e = some (.int .u8)) (hs : szT P e = some 1) (hd : P.underlying t' = some .string) (hH : H id = .row 1 true (l.map (D.it .u8))) (hl : len = l.length) :
   zAF P t t' (.own id 0 len) H nid = some (.st (l.map zDq), H, nid) := by
 subst hl
 have h1 : zDu P t (.own id 0 l.length) = true := zFp hu
 simp only [zAF, hu, hd, he, hs, h1, if_true, elems, hH, Option.bind_some, List.drop_zero]
 rw [List.take_of_length_le (by simp), zCo]
 rfl
theorem zN7 {P : Program} {t e : TypeId} {H : Hp} {id len k : Nat} {kd : IntKind} (hu : P.underlying t = some (.slice e)) :
   zBm P H t (.own id 0 len) none (some (.it kd (k : Int))) none = match H id with | .row sz _ _ => if szT P e = some sz ∧ k ≤ len then some (.own id 0 k) else none | _ => none := by
 have hb : bnds len none (some (.it kd (k : Int))) none = if k ≤ len then some (0, k, none) else none := by
   simp only [bnds, idx, Option.bind_some]
   by_cases h : k ≤ len
   · rw [if_pos ⟨Int.le_refl _, by omega, by omega⟩, if_pos h]; rfl
   · rw [if_neg (by omega), if_neg h]
 simp only [zBm, zDp, hu, Option.bind_some, hb]
 cases H id with
 | row sz pl es => by_cases hk : k ≤ len <;> by_cases hs : szT P e = some sz <;> simp [hs, hk]
 | _ => rfl
theorem zIg {P : Program} {t e : TypeId} {H : Hp} {id off len k : Nat} {kd : IntKind} (hu : P.underlying t = some (.slice e)) :
   zBm P H t (.own id off len) (some (.it kd (k : Int))) none none = match H id with | .row sz _ _ => if szT P e = some sz ∧ k ≤ len then some (.own id (off + k) (len - k)) else none | _ => none := by
 have hb : bnds len (some (.it kd (k : Int))) none none = if k ≤ len then some (k, len, none) else none := by
   simp only [bnds, idx, Option.bind_some]
   by_cases h : k ≤ len
   · rw [if_pos ⟨by omega, by omega, Int.le_refl _⟩, if_pos h]; rfl
   · rw [if_neg (by omega), if_neg h]
 simp only [zBm, zDp, hu, Option.bind_some, hb]
 cases H id with
 | row sz pl es => by_cases hk : k ≤ len <;> by_cases hs : szT P e = some sz <;> simp [hs, hk]
 | _ => rfl
theorem zAu {H : Hp} {nid id : Nat} {hs : List Blk} : zKZ H nid hs id = if nid ≤ id ∧ id < nid + 64 then ofHp hs (id - nid) else H id := rfl
theorem zQm {α : Type} {E : α → D} {l : List α} {k : Nat} {x : α} : (l.map E).set k (E x) = (l.set k x).map E := by rw [List.map_set]
def cR := And.intro @zBc (And.intro @zBb (And.intro @zUO (And.intro @zXs @zUx)))
def cN := And.intro @Bool.not_eq_true (And.intro @Bool.not_eq_false @Classical.not_not)
def Res.via (d : D) : Res := ⟨true, d, []⟩
def borT (H : Hp) : List D → Option (List D)
 | [] => some []
 | d :: r => (bor H 6 d).bind fun d' => (borT H r).map (d' :: ·)
def borM (H : Hp) (n : Nat) : List D → Option (List D)
 | [] => some []
 | d :: r => (bor H n d).bind fun d' => (borM H n r).map (d' :: ·)
theorem zOM (H : Hp) (n : Nat) : ∀ l : List D, l.mapM (bor H n) = borM H n l
 | [] => rfl
 | d :: r => by rw [List.mapM_cons, zOM H n r, borM]; cases bor H n d <;> cases borM H n r <;> rfl
theorem zAm {H : Hp} {n : Nat} {cs : List D} : bor H (n + 1) (.agg cs) = (borM H n cs).map .agg := by rw [bor, zOM]
theorem yCa (H : Hp) : killAll [] H = H := rfl
theorem zNH {H : Hp} : ∀ d : D, finV [] H d = bor H 6 d := by
 intro d
 cases d <;> simp only [finV, yCa, ixOf]
theorem zQG {H : Hp} {out ds : List D} (h : borT H out = some ds) : finT [] H out = some (one ds) := by
 have hm : ∀ (l ds : List D), borT H l = some ds → l.mapM (finV [] H) = some ds := by
   intro l
   induction l with
   | nil => intro ds h; simp only [borT, Option.some.injEq] at h; subst h; rfl
   | cons x r ih =>
     intro ds h
     simp only [borT, Option.bind_eq_some_iff, Option.map_eq_some_iff] at h
     obtain ⟨x', hx, ds', hr, rfl⟩ := h
     rw [List.mapM_cons, zNH, hx, ih ds' hr]; rfl
 cases out with
 | nil => simp only [borT, Option.some.injEq] at h; subst h; rfl
 | cons x r =>
   cases r with
   | nil =>
     simp only [borT, Option.bind_eq_some_iff, Option.map_eq_some_iff, Option.some.injEq] at h
     obtain ⟨x', hx, _, rfl, rfl⟩ := h
     rw [show finT [] H [x] = finV [] H x from rfl, zNH, hx]; rfl
   | cons y r =>
     have h2 := hm _ _ h
     simp only [borT, Option.bind_eq_some_iff, Option.map_eq_some_iff] at h
     obtain ⟨x', hx, ds', ⟨y', hy, ds2, hr, rfl⟩, rfl⟩ := h
     show ((x :: y :: r).mapM (finV [] H)).map D.tup = _
     rw [h2]; rfl
theorem zEj {cx : Cx} {fn : Func} {c : Code} {ds : List D} {r : Res} {rs : List ResultVar} (hb : fn.body = some c) (hbs : cx.bs = 0) (hrs : fn.results.toList = rs)
   (h : EvX .go cx c ⟨zAq ds, ofHp [], 0⟩ fun e st t => (e = .nrm ∨ e = .ret) ∧ Ev t (resD cx.P st rs) fun out _ => ∃ ds', borT st.H out = some ds' ∧ Res.via (one ds') = r) : zAj cx fn [] true ds = some r := by
 obtain ⟨⟨e, s⟩, he, hen, out, ho, ds', hf, rfl⟩ := h
 exact zF9 hb hbs [] true ⟨(e, s), he, hen, out, hrs ▸ ho, rfl, [], rfl, one ds', zQG hf, rfl⟩
theorem zEf {cx : Cx} {fn : Func} {c : Code} {ds : List D} {r : Res} {rs : List ResultVar} (hb : fn.body = some c) (hbs : cx.bs = 0) (hrs : fn.results.toList = rs)
   (h : EvX .go cx c ⟨zAq ds, ofHp [], 0⟩ fun e st t => (e = .nrm ∨ e = .ret) ∧ Ev t (resD cx.P st rs) fun out _ => ∃ id len sz es, out = [.own id 0 len] ∧ st.H id = .row sz true es ∧ len = es.length ∧ zBN es = true ∧ Res.flat (.vec sz false es) = r) : zAj cx fn [] false ds = some r := by
 obtain ⟨⟨e, s⟩, he, hen, out, ho, id, len, sz, es, rfl, hH, rfl, hm, rfl⟩ := h
 simp only at hH
 have hr : zBr s.H 60 [id] [] = [id] := by
   have : refsB (s.H id) = [] := by rw [hH]; rfl
   show zBr s.H (59 + 1) [id] [] = [id]
   simp only [zBr, List.contains_nil, Bool.false_eq_true, if_false, this, List.nil_append]
 have h1 : zAv [D.own id 0 es.length] = [id] := rfl
 refine zF9 hb hbs [] false ⟨(e, s), he, hen, _, hrs ▸ ho, ?_, [], rfl, .vec sz false es, ?_, rfl⟩
 · have h2 : closed s.H [id] = true := by simp [closed, hH, refsB]
   simp [zD4, distinct, dry, h1, hr, h2, zBN, zDL, zI0, hH, hm]
 · show finV [] (zCR (zBr s.H 60 (zAv [D.own id 0 es.length]) []) s.H) (.own id 0 es.length) = _
   rw [zNH, h1, hr, zAl]
   simp [zCR, hH]
theorem zIh {α : Type} {sz : Nat} {E : α → D} {P : Program} {H : Hp} {t e : TypeId} {xs : List α} {k : IntKind} (hu : P.underlying t = some (.slice e)) (hs : szT P e = some sz) {i : Nat} (h : i ≤ xs.length) :
   zBm P H t (vecE sz E xs) (some (.it k (i : Int))) none none = some (vecE sz E (xs.drop i)) := by
 rw [zWa hu hs (zSy h), List.take_length]
theorem zTP {P : Program} {t e : TypeId} {H : Hp} {nid n b : Nat} {z : D} {c : Int} (he : zDp P t = some e) (hz : zHL P e n = some z) (hi : (P.info? e).map (fun i => (i.size, i.bytes)) = some (n, b)) (hb : 0 < b) :
   zG9 P t H nid (.it .i64 0) (.it .i64 c) = if 0 ≤ c ∧ (b : Int) * c ≤ 281474976710656 then some (.own nid 0 0, upd H nid (.row n true []), nid + 1) else none := by
 unfold zG9
 rw [he]
 cases hi' : P.info? e with
 | none => rw [hi'] at hi; cases hi
 | some inf =>
   rw [hi'] at hi
   simp only [Option.map_some, Option.some.injEq, Prod.mk.injEq] at hi
   obtain ⟨h1, h2⟩ := hi
   subst h1; subst h2
   simp only [Option.bind_some, hi', hz]
   by_cases hc : 0 ≤ c ∧ (inf.bytes : Int) * c ≤ 281474976710656
   · rw [if_pos ⟨by omega, hc.1, hc.2, hb⟩, if_pos hc]; rfl
   · rw [if_neg (fun h => hc ⟨h.2.1, h.2.2.1⟩), if_neg hc]
section
variable {cx : Cx} {nx bef i : Nat} {env : Nat → D} {H : Hp} {dst : Option Tmp} {ty t : TypeId} {pos : String} {after : Array Edge} {g : Option (Nat × Bool)} {x y : Operand}
def zJk (H : Hp) (a : D) (xs : List D) : Option (List (Nat × Blk)) := match a with
 | .ptr id off => match H id with | .box cs => (setAt cs off xs).map fun cs' => [(id, .box cs')] | _ => none
 | .rowp id ix off => match H id with
   | .row sz pl es => (es[ix]?).bind fun e => (setAt e.cells off xs).map fun cs' => [(id, .row sz (pl && immL xs) (es.set ix (again e cs')))]
   | _ => none
 | _ => none
theorem zHY {id off : Nat} {xs : List D} : zJk H (.ptr id off) xs = match H id with | .box cs => (setAt cs off xs).map fun cs' => [(id, .box cs')] | _ => none := rfl
theorem yBj (a : D) (xs : List D) : zRx H a xs = (zJk H a xs).map (updL H) := by
 cases a <;> simp only [zRx, zJk, Option.map_none]
 case ptr id off =>
   cases hh : H id <;> simp only [Option.map_none]
   rename_i cs
   cases setAt cs off xs <;> rfl
 case rowp id ix off =>
   cases hh : H id <;> simp only [Option.map_none]
   rename_i sz pl es
   cases es[ix]? with
   | none => rfl
   | some e => simp only [Option.bind_some]; cases setAt e.cells off xs <;> rfl
theorem zXC {a : D} {xs : List D} {K : List (Nat × Blk)} (h : zJk H a xs = some K) : ∀ p ∈ K, p.1 ∈ refs a := by
 cases a <;> simp only [zJk, reduceCtorEq] at h
 case ptr id off =>
   cases hh : H id <;> simp only [hh, reduceCtorEq] at h
   rename_i cs
   simp only [Option.map_eq_some_iff] at h
   obtain ⟨_, _, rfl⟩ := h
   intro p hp; simp only [List.mem_singleton] at hp; subst hp; simp [refs]
 case rowp id ix off =>
   cases hh : H id <;> simp only [hh, reduceCtorEq] at h
   rename_i sz pl es
   simp only [Option.bind_eq_some_iff, Option.map_eq_some_iff] at h
   obtain ⟨_, _, _, _, rfl⟩ := h
   intro p hp; simp only [List.mem_singleton] at hp; subst hp; simp [refs]
theorem zV5 {H' : Hp} {a : D} {xs : List D} (h : ∀ id ∈ refs a, H' id = H id) : zJk H' a xs = zJk H a xs := by
 cases a <;> try rfl
 case ptr id off => simp only [zJk, h id (by simp [refs])]
 case rowp id ix off => simp only [zJk, h id (by simp [refs])]
theorem zDH (hr : zAD nx bef i H (refs (ev env x) ++ refs (ev env y)) = true) : stepD cx nx bef i ⟨dst, .store t x y, ty, pos, after, g⟩ env H =
   ((cellsOf (ev env y)).bind fun xs => if szT cx.P t = some xs.length then zJk H (ev env x) xs else none).map fun K => (.un, updL (clr H (nx + i * 64)) K) := by
 have hro : roots env ⟨dst, .store t x y, ty, pos, after, g⟩ = refs (ev env x) ++ refs (ev env y) := by simp [roots, Op.operands]
 have := zNu (cx := cx) (bef := bef) (i := i) (o := ⟨dst, .store t x y, ty, pos, after, g⟩) (X := ((cellsOf (ev env y)).bind fun xs => if szT cx.P t = some xs.length then zJk H (ev env x) xs else none).map fun K => (.un, K, 0)) rfl (by rw [hro]; exact hr) (fun H' hH => ?_) (fun r hr' => ?_)
 · rw [this]
   cases (cellsOf (ev env y)).bind fun xs => if szT cx.P t = some xs.length then zJk H (ev env x) xs else none <;> rfl
 · rw [hro] at hH
   rw [zUR]
   cases cellsOf (ev env y) with
   | none => rfl
   | some xs =>
     simp only [Option.bind_some]
     split
     · rw [yBj, zV5 (fun id hid => hH id (by simp [hid]))]
       cases zJk H (ev env x) xs <;> rfl
     · rfl
 · simp only [Option.map_eq_some_iff, Option.bind_eq_some_iff] at hr'
   obtain ⟨K, ⟨xs, _, hK⟩, rfl⟩ := hr'
   split at hK
   · refine ⟨Nat.zero_le _, fun p hp => ?_⟩
     rw [hro]
     exact .inl (by simp [zXC hK p hp])
   · cases hK
end
theorem PureOK.slices {P : Program} {g : FuncId} {F G : List D → Option Res} (h : PureOK P g G) (hF : ∀ ds r, F ds = some r → ∃ sz es, ds = [.vec sz false es] ∧ (es ≠ [] → G ds = some r) ∧ (es = [] → ∀ b, G [.emp b] = some r)) : PureOK P g F := by
 refine ⟨h.1, fun ds r hr => ?_⟩
 obtain ⟨sz, es, rfl, h1, h2⟩ := hF ds r hr
 by_cases he : es = []
 · subst he
   have h3 := h2 rfl
   refine ⟨(h.2 _ _ (h3 true)).1, fun M w vs hmem hl hv => ?_⟩
   obtain ⟨v, hv1, hv2⟩ := hv 0 _ rfl
   have : ∃ b, VRi M (.emp b) v := by
     cases hv2 with
     | vec _ _ _ a c _ _ _ _ _ _ _ _ => exact ⟨a.isSome, .emp _ a c rfl⟩
   obtain ⟨b, hb⟩ := this
   exact (h.2 _ _ (h3 b)).2 M w vs hmem (by simpa using hl) (fun k d hd => by
     cases k with
     | zero => simp only [List.getElem?_cons_zero, Option.some.injEq] at hd; subst hd; exact ⟨v, hv1, hb⟩
     | succ k => simp at hd)
 · exact h.2 _ _ (h1 he)
section
variable {H : Hp} {n : Nat}
theorem zE1 (n : Nat) : ∀ l : List D, immL l = true → borM H n l = some l
 | [], _ => rfl
 | d :: r, h => by
   simp only [immL, Bool.and_eq_true] at h
   rw [borM, zLb n d h.1, zE1 n r h.2]; rfl
theorem zKu {g : Fn} {p q : List D} : bor H (n + 1) (.fn g p q) = (borM H n p).bind fun p' => (borM H n q).map fun q' => .fn g p' q' := by rw [bor, zOM, zOM]
theorem zHU {id off : Nat} : bor H (n + 1) (.ptr id off) = match H id with | .box cs => (borM H n (cs.drop off)).map .elt | _ => none := by
 rw [bor]
 cases H id <;> simp only [zOM]
theorem zI2 {k : IntKind} {x : Int} : bor H (n + 1) (.it k x) = some (.it k x) := rfl
theorem zKv {b : Bool} : bor H (n + 1) (.bo b) = some (.bo b) := rfl
theorem zI1 {l : List UInt8} : bor H (n + 1) (.st l) = some (.st l) := rfl
theorem zFI {α : Type} {sz : Nat} {E : α → D} {xs : List α} : bor H (n + 1) (vecE sz E xs) = some (vecE sz E xs) := rfl
theorem zGX {sz : Nat} {cl : Bool} {es : List D} : bor H (n + 1) (.vec sz cl es) = some (.vec sz cl es) := rfl
theorem zHV {cs : List D} : bor H (n + 1) (.elt cs) = some (.elt cs) := rfl
theorem zUi {P : Program} {t e : TypeId} {α : Type} {sz : Nat} {E : α → D} {xs : List α} (hu : P.underlying t = some (.slice e)) : binD P .eql t (vecE sz E xs) .nils = if xs = [] then none else some (.bo false) := by
 cases xs with
 | nil => simp [binD, vecE, zI8, eqD, hu]
 | cons x r => simp [binD, vecE, zI8, eqD, hu]
theorem zUk {P : Program} {t e : TypeId} {b : Bool} (hu : P.underlying t = some (.slice e)) : binD P .eql t (.emp b) .nils = some (.bo (!b)) := by simp [binD, zI8, eqD, hu]
theorem zOF {k : Nat} {b : Bool} : elems H k (.emp b) = some (true, []) := rfl
theorem yEM {P : Program} {t e : TypeId} {b : Bool} (hu : P.underlying t = some (.slice e)) : zDu P t (.emp b) = true := by simp only [zDu, hu]
theorem zEk : ofV (.slice none 0 0) = .nils := rfl
end
theorem PureOK.either {P : Program} {g : FuncId} {F1 F2 : List D → Option Res} (h1 : PureOK P g F1) (h2 : PureOK P g F2) : PureOK P g (fun ds => (F1 ds).or (F2 ds)) := by
 refine ⟨h1.1, fun ds r hr => ?_⟩
 simp only [] at hr
 cases h : F1 ds with
 | none => rw [h, Option.none_or] at hr; exact h2.2 ds r hr
 | some r' => rw [h, Option.some_or] at hr; cases hr; exact h1.2 ds _ h
theorem zCz {σ : Type} {enc : σ → List D} {pre : σ → Prop} {out : σ → Res} {ds : List D} (h : ∀ s, enc s ≠ ds) : mkF enc pre out ds = none := by
 unfold mkF
 rw [dif_neg (fun ⟨s, hs, _⟩ => h s hs)]
def zDi {α : Type} (p : α → Bool) (l : List α) : Int := if l.any p = true then (l.findIdx p : Int) else -1
theorem zFF {α : Type} {p : α → Bool} {l : List α} (h : l.any p = false) : zDi p l = -1 := by rw [zDi, if_neg (by simp only [h]; decide)]
theorem zL4 {α : Type} [Inhabited α] {p : α → Bool} {l : List α} {i : Nat} (h0 : (l.take i).any p = false) (hi : (i : Int) < l.length) (hp : p l[i]! = true) : zDi p l = (i : Int) := by
 have hi' : i < l.length := by omega
 rw [zDi, if_pos (List.any_eq_true.2 ⟨_, zBO hi, hp⟩)]
 congr 1
 rw [List.findIdx_eq hi']
 refine ⟨by rw [getElem!_pos l i hi'] at hp; exact hp, fun j hj => ?_⟩
 have h1 := List.any_eq_false.1 h0 l[j] (by rw [List.mem_take_iff_getElem]; exact ⟨j, by omega, rfl⟩)
 simpa using h1
theorem yCD {α : Type} {p : α → Bool} {l : List α} : zDi p l < l.length := by
 unfold zDi
 split
 · rename_i h
   have := List.findIdx_lt_length.2 (by obtain ⟨x, h1, h2⟩ := List.any_eq_true.1 h; exact ⟨x, h1, h2⟩)
   omega
 · omega
section
variable {P : Program} {n : Nat} {t e : TypeId} {ds : List D}
theorem zDK {k : IntKind} (hu : P.underlying t = some (.int k)) (h : TD P (n + 1) t ds) : ∃ x, ds = [.it k x] := by
 simp only [TD, hu] at h; obtain ⟨x, h, _⟩ := h; exact ⟨x, h⟩
theorem yBd (hu : P.underlying t = some .bool) (h : TD P (n + 1) t ds) : ∃ x, ds = [.bo x] := by
 simp only [TD, hu] at h; exact h
theorem zER (hu : P.underlying t = some .string) (h : TD P (n + 1) t ds) : ∃ l, ds = [.st l] ∧ Sm l := by
 simp only [TD, hu] at h; obtain ⟨l, h, hl⟩ := h
 refine ⟨l, h, ?_⟩
 simp only [reachBytes] at hl
 simp only [Sm]; omega
theorem td1_agg (ha : aggT P t = some true) {d : D} (h : TD1 P n t d) : ∃ cs, d = .agg cs ∧ TD P n t cs := by
 rcases h with ⟨_, cs, rfl, h⟩ | ⟨h, _⟩
 · exact ⟨cs, rfl, h⟩
 · rw [ha] at h; cases h
end
theorem zXA {ks ids : List Nat} {st : St} (hr : ∀ id ∈ ids, refsB (st.H id) = [] ∧ renBlk (ixOf ids) (st.H id) = st.H id) (h0 : refsB (st.H 0) = []) (h : zBr st.H 60 (zAv (ks.map st.env)) [0] = ids) (hl : (zAv (ks.map st.env)).all (fun j => ids.contains j) = true) :
   tidy 1 ks st = some ⟨zH3 (ks.map fun t => (t, ren (ixOf ids) (st.env t))), ofHp (ids.map st.H), ids.length⟩ := by
 unfold tidy zF7
 have e1 : (List.range 1).flatMap (fun i => refsB (st.H i)) = [] := by simp [List.range_succ, h0]
 have e2 : List.range 1 = [0] := rfl
 rw [e1, e2, List.append_nil]
 simp only [h]
 have hc : closed st.H ids = true := by
   simp only [closed, List.all_eq_true]
   intro id hid
   rw [(hr id hid).1]; simp
 rw [hc, hl]
 simp only [Bool.and_self, if_true, Option.some.injEq, St.mk.injEq, true_and, and_true]
 have : ids.map (fun i => renBlk (ixOf ids) (st.H i)) = ids.map st.H := List.map_congr_left (fun id hid => (hr id hid).2)
 rw [this]
section
variable {cx : Cx} {c : Code} {st : St} {k : Ex → St → Tok → Prop}
theorem zBz {σ : Type} (I : σ → List D) (R : σ → List Blk) (J : σ → Prop) (m : σ → Nat) (ks : List Nat) (hbs : cx.bs = 1) (hk : cx.kp (zC9 c) = some ks)
   (hR : ∀ s, J s → ∀ b ∈ R s, zEw b)
   (h : ∀ s, J s → EvX .go cx c ⟨zH3 (ks.zip (I s)), ofHp (R s), (R s).length⟩ fun e st' t => match e with
     | .nrm => ∃ (ids : List Nat) (s' : σ), zBr st'.H 60 (zAv (ks.map st'.env)) [0] = ids ∧ (zAv (ks.map st'.env)).all (fun j => ids.contains j) = true ∧ ids.head? = some 0 ∧ ks.map (fun t => ren (ixOf ids) (st'.env t)) = I s' ∧ ids.map st'.H = R s' ∧ J s' ∧ m s' < m s
     | e => k e st' t)
   {s : σ} (ids : List Nat) (h1 : zBr st.H 60 (zAv (ks.map st.env)) [0] = ids) (h2 : (zAv (ks.map st.env)).all (fun j => ids.contains j) = true) (h2' : ids.head? = some 0) (h3 : ks.map (fun t => ren (ixOf ids) (st.env t)) = I s) (h4 : ids.map st.H = R s) (hJ : J s) : EvX .go cx (.loop c) st k := by
 have key : ∀ (st : St) (ids : List Nat) (s : σ), J s → zBr st.H 60 (zAv (ks.map st.env)) [0] = ids → (zAv (ks.map st.env)).all (fun j => ids.contains j) = true → ids.head? = some 0 → ks.map (fun t => ren (ixOf ids) (st.env t)) = I s → ids.map st.H = R s →
     tidy 1 ks st = some ⟨zH3 (ks.zip (I s)), ofHp (R s), (R s).length⟩ := by
   intro st ids s hJ h1 h2 h2' h3 h4
   have hf : ∀ id ∈ ids, zEw (st.H id) := fun id hid => hR s hJ _ (by rw [← h4]; exact List.mem_map.2 ⟨id, hid, rfl⟩)
   have h0 : (0 : Nat) ∈ ids := by cases ids with | nil => cases h2' | cons a r => simp only [List.head?_cons, Option.some.injEq] at h2'; subst h2'; simp
   rw [zXA (ids := ids) (fun id hid => zEH (hf id hid) _) (zEH (hf 0 h0) some).1 h1 h2]
   rw [zXg ks _ _ h3, h4, ← h4, List.length_map]
 refine zQN (fun s => ⟨zH3 (ks.zip (I s)), ofHp (R s), (R s).length⟩) J m ks hk (fun e s => e ≠ .nrm ∧ k e s .go) (fun s hs => ?_) (fun e s h _ => h.2) (s := s) ?_ hJ
 · obtain ⟨r, hr, hq⟩ := h s hs
   refine ⟨r, hr, ?_⟩
   obtain ⟨e, st'⟩ := r
   cases e with
   | nrm =>
     obtain ⟨ids, s', q1, q2, q2', q3, q4, q5, q6⟩ := hq
     exact ⟨s', by rw [hbs]; exact key st' ids s' q5 q1 q2 q2' q3 q4, q5, q6⟩
   | _ => exact ⟨by simp, hq⟩
 · rw [hbs]; exact key st ids s hJ h1 h2 h2' h3 h4
end
def yKu := @zEN
theorem zIw {F : List D → List Blk → Option (D × List Blk)} {id off len nid : Nat} {rest : List D} {H : Hp} (hr : zAv rest = []) : zEN F (.own id off len :: rest) H nid = match H id with
   | .row sz true es => (F (.own 0 off len :: rest) [.row sz true es]).bind fun p => if 1 ≤ p.2.length then some (ren (zKr [id] nid) p.1, zLd [id] nid p.2 H, nid + (p.2.length - 1)) else none
   | _ => yKu F (.own id off len :: rest) H nid := by
 have hrefs : zAv (.own id off len :: rest) = [id] := by simp [zAv, refs, hr]
 have hren : renL (ixOf [id]) (.own id off len :: rest) = .own 0 off len :: rest := by
   have h2 : renL (ixOf [id]) rest = rest := by
     have hall : ∀ x ∈ rest, refs x = [] := fun x hx => by
       have : ∀ l : List D, zAv l = [] → ∀ x ∈ l, refs x = [] := by
         intro l
         induction l with
         | nil => intro _ x hx; simp at hx
         | cons a r ih =>
           intro h x hx
           rw [zAv, List.append_eq_nil_iff] at h
           rcases List.mem_cons.1 hx with rfl | hx
           · exact h.1
           · exact ih h.2 x hx
       exact this rest hr x hx
     exact zKh hall
   rw [renL, h2]; simp [ren, ixOf]
 cases hH : H id with
 | row sz pl es =>
   cases pl with
   | false => rfl
   | true =>
     have hrc : zBr H 60 [id] [] = [id] := by
       show zBr H (59 + 1) [id] [] = [id]
       simp only [zBr, List.contains_nil, Bool.false_eq_true, if_false, hH, refsB, List.nil_append]
     unfold zEN
     simp only [hrefs, hrc]
     have hc : closed H [id] = true := by simp [closed, hH, refsB]
     rw [hc, hren]
     simp only [List.all_cons, List.all_nil, List.contains_cons, beq_self_eq_true, Bool.true_or, Bool.and_self, if_true, List.map_cons, List.map_nil, hH, renBlk, List.length_cons, List.length_nil, Nat.zero_add]
 | _ => rfl
theorem zIN {id nid sz : Nat} {es : List D} {H : Hp} : zLd [id] nid [.row sz true es] H = upd H id (.row sz true es) := by
 funext i
 unfold zLd upd
 by_cases h : i = id
 · subst h; simp [ixOf, ofHp, renBlk]
 · rw [if_neg h]
   have : ixOf [id] i = none := by simp [ixOf, Ne.symm h]
   rw [this]
   simp
   intro h1 h2; omega
theorem zNO {id nid off len : Nat} : ren (zKr [id] nid) (.own 0 off len) = .own id off len := by simp [ren, zKr]
theorem zIM {f : Nat → Option Nat} : ren f (.tup []) = .tup [] := by simp [ren, renL]
theorem zCD {cx : Cx} {H : Hp} {nid : Nat} {g : FuncId} {F : List D → List Blk → Option (D × List Blk)} {asx : List D} (hn : cx.orc g = none) (he : cx.ext g = none) (hf : cx.eff g = some F) : zDD cx g asx H nid = zEN F asx H nid := by
 unfold zDD
 simp only [hn, he, hf, Option.bind_some]
open Classical in
noncomputable def mkE {σ : Type} (enc : σ → List D) (blk : σ → Blk) (pre : σ → Prop) (out : σ → D × List Blk) : List D → List Blk → Option (D × List Blk) :=
 fun ds hs => if h : ∃ s, enc s = ds ∧ [blk s] = hs ∧ pre s then some (out h.choose) else none
theorem yDR {σ : Type} {enc : σ → List D} {blk : σ → Blk} {pre : σ → Prop} {out : σ → D × List Blk} {s : σ} (hinj : ∀ s s', enc s = enc s' → blk s = blk s' → out s = out s') (hp : pre s) : mkE enc blk pre out (enc s) [blk s] = some (out s) := by
 have h : ∃ s', enc s' = enc s ∧ [blk s'] = [blk s] ∧ pre s' := ⟨s, rfl, rfl, hp⟩
 unfold mkE
 rw [dif_pos h, hinj _ _ h.choose_spec.1 (by have := h.choose_spec.2.1; simpa using this)]
theorem zGS {σ : Type} {enc : σ → List D} {blk : σ → Blk} {pre : σ → Prop} {out : σ → D × List Blk} {ds : List D} {hs : List Blk} {r : D × List Blk} (h : mkE enc blk pre out ds hs = some r) : ∃ s, ds = enc s ∧ hs = [blk s] ∧ pre s ∧ r = out s := by
 unfold mkE at h
 split at h
 · rename_i hs'
   simp only [Option.some.injEq] at h
   exact ⟨_, hs'.choose_spec.1.symm, hs'.choose_spec.2.1.symm, hs'.choose_spec.2.2, h.symm⟩
 · cases h
def Known.cx1 (K : Known) (kp : Nat → Option (List Nat)) : Cx := { K.cx kp with bs := 1 }
theorem Known.addEff {K : Known} (h : K.OK) (hP : K.P.follows .mixedOrders = true) {g : FuncId} {fn : Func} {c : Code} (kp : Nat → Option (List Nat)) (hb : Body K.P (K.cx kp).rd g fn c) {σ : Type} {enc : σ → List D} {blk : σ → Blk} {pre : σ → Prop} {out : σ → D × List Blk} {n : Nat} (hn : n ≤ fn.ntmps) (hl : ∀ s, (enc s).length = n)
   (hF : ∀ s, pre s → zFl (K.cx1 kp) fn (enc s) [blk s] = some (out s)) : (K.eff g (mkE enc blk pre out)).OK :=
 Known.fnEff h hP kp hb (fun ds hs r hr => by
   obtain ⟨s, rfl, rfl, hp, rfl⟩ := zGS hr
   exact ⟨by rw [hl]; exact hn, hF s hp⟩)
theorem zRP {cx : Cx} {fn : Func} {c : Code} {ds : List D} {r : Res} {rs : List ResultVar} (hb : fn.body = some c) (hbs : cx.bs = 0) (hrs : fn.results.toList = rs)
   (h : EvX .go cx c ⟨zAq ds, ofHp [], 0⟩ fun e st t => (e = .nrm ∨ e = .ret) ∧ Ev t (resD cx.P st rs) fun out _ => ∃ id len sz es, out = [.own id 0 len] ∧ st.H id = .row sz true es ∧ zBN es = true ∧ Res.flat (.vec sz false (es.take len)) = r) : zAj cx fn [] false ds = some r := by
 obtain ⟨⟨e, s⟩, he, hen, out, ho, id, len, sz, es, rfl, hH, hm, rfl⟩ := h
 simp only at hH
 have hr : zBr s.H 60 [id] [] = [id] := by
   have : refsB (s.H id) = [] := by rw [hH]; rfl
   show zBr s.H (59 + 1) [id] [] = [id]
   simp only [zBr, List.contains_nil, Bool.false_eq_true, if_false, this, List.nil_append]
 have h1 : zAv [D.own id 0 len] = [id] := rfl
 refine zF9 hb hbs [] false ⟨(e, s), he, hen, _, hrs ▸ ho, ?_, [], rfl, .vec sz false (es.take len), ?_, rfl⟩
 · have h2 : closed s.H [id] = true := by simp [closed, hH, refsB]
   simp [zD4, distinct, dry, h1, hr, h2, zBN, zDL, zI0, hH, hm]
 · show finV [] (zCR (zBr s.H 60 (zAv [D.own id 0 len]) []) s.H) (.own id 0 len) = _
   rw [zNH, h1, hr, zAl]
   simp [zCR, hH]
theorem zZx {P : Program} {g : FuncId} {fn : Func} {e : Array Value → Sem Value} {F : List D → Option D} (hf : P.funcs[g]? = some fn) (hn : (fn.name == "runtime.NumGoroutine") = false) (hb : fn.body.isNone = true) (h2 : Extern.findNext fn = none) (h3 : Extern.find fn = some e)
   (hF : ∀ ds d, F ds = some d → ∀ (M : Mem) (w : World) (vs : List Value), vs.length = ds.length → (∀ (k : Nat) (d : D), ds[k]? = some d → ∃ v, vs[k]? = some v ∧ VRi M d v) → ∃ v, (e vs.toArray).run P w = .ok v w ∧ ∀ M', VRi M' d v) : ExtOK P g F := by
 intro ds d hd M w vs hm hl hv
 obtain ⟨v, hr, hvd⟩ := hF ds d hd M w vs hl hv
 refine ⟨v, ?_, hvd⟩
 rw [run_callFunc_extern hf hn hb h2 h3, hr]; rfl
theorem zUv {M : Mem} {l : List UInt8} {v : Value} (h : VRi M (.st l) v) : v = .string ⟨l.toArray⟩ := by cases h; rfl
theorem yDB {M : Mem} {k : IntKind} {n : Int} {v : Value} (h : VRi M (.it k n) v) : v = .int k n := by cases h; rfl
theorem zPY {M : Mem} {a b : D} {vs : List Value} (hl : vs.length = [a, b].length) (hv : ∀ (k : Nat) (d : D), [a, b][k]? = some d → ∃ v, vs[k]? = some v ∧ VRi M d v) : ∃ x y, vs = [x, y] ∧ VRi M a x ∧ VRi M b y := by
 match vs, hl with
 | [x, y], _ =>
   obtain ⟨_, h1, h2⟩ := hv 0 a rfl
   obtain ⟨_, h3, h4⟩ := hv 1 b rfl
   simp at h1 h3; subst h1; subst h3
   exact ⟨x, y, rfl, h2, h4⟩
def zI5 : List D → Option D := fun ds => match ds with | [.st l, .it .u8 c] => some (.it .i64 ((Lib.countByte l c.toNat.toUInt8 : Nat) : Int)) | _ => none
def FIxB : List D → Option D := fun ds => match ds with | [.st l, .it .u8 c] => some (.it .i64 (Lib.indexByte l c.toNat.toUInt8)) | _ => none
def zNs : List D → Option D := fun ds => match ds with | [.st a, .st b] => some (.it .i64 (Lib.compareBytes a b)) | _ => none
section
variable {P : Program} {g : FuncId} {fn : Func} (hf : P.funcs[g]? = some fn) (hn : (fn.name == "runtime.NumGoroutine") = false) (hb : fn.body.isNone = true) (h2 : Extern.findNext fn = none)
include hf hn hb h2
theorem zFZ (h3 : Extern.find fn = some Extern.BytealgCount.count) : ExtOK P g zI5 := zZx hf hn hb h2 h3 fun ds d h M w vs hl hv => by
 unfold zI5 at h
 split at h
 · simp only [Option.some.injEq] at h; subst h
   obtain ⟨x, y, rfl, hx, hy⟩ := zPY hl hv
   rw [zUv hx, yDB hy]
   refine ⟨_, Lib.run_countString _ _ w, fun _ => ?_⟩
   simpa using VRi.it _ _
 · cases h
theorem zJZ (h3 : Extern.find fn = some Extern.BytealgIndexByte.indexByte) : ExtOK P g FIxB := zZx hf hn hb h2 h3 fun ds d h M w vs hl hv => by
 unfold FIxB at h
 split at h
 · simp only [Option.some.injEq] at h; subst h
   obtain ⟨x, y, rfl, hx, hy⟩ := zPY hl hv
   rw [zUv hx, yDB hy]
   refine ⟨_, Lib.run_indexByteString _ _ w, fun _ => ?_⟩
   simpa using VRi.it _ _
 · cases h
theorem zHI (h3 : Extern.find fn = some Extern.BytealgCompare.compare) : ExtOK P g zNs := zZx hf hn hb h2 h3 fun ds d h M w vs hl hv => by
 unfold zNs at h
 split at h
 · simp only [Option.some.injEq] at h; subst h
   obtain ⟨x, y, rfl, hx, hy⟩ := zPY hl hv
   rw [zUv hx, zUv hy]
   refine ⟨_, Lib.run_compareString _ _ w, fun _ => ?_⟩
   simpa using VRi.it _ _
 · cases h
end
theorem yIT {l : List UInt8} {c : Int} : zI5 [.st l, .it .u8 c] = some (.it .i64 ((Lib.countByte l c.toNat.toUInt8 : Nat) : Int)) := rfl
theorem fixb {l : List UInt8} {c : Int} : FIxB [.st l, .it .u8 c] = some (.it .i64 (Lib.indexByte l c.toNat.toUInt8)) := rfl
theorem yKG {a b : List UInt8} : zNs [.st a, .st b] = some (.it .i64 (Lib.compareBytes a b)) := rfl
theorem yDP {P : Program} {t e : TypeId} {H : Hp} {nid n b : Nat} {z : D} {k : Nat} (he : zDp P t = some e) (hz : zHL P e n = some z) (hi : (P.info? e).map (fun i => (i.size, i.bytes)) = some (n, b)) (hb : 0 < b) :
   zG9 P t H nid (.it .i64 (k : Int)) (.it .i64 (k : Int)) = if (b : Int) * (k : Int) ≤ 281474976710656 then some (.own nid 0 k, upd H nid (.row n true (List.replicate k z)), nid + 1) else none := by
 unfold zG9
 rw [he]
 cases hi' : P.info? e with
 | none => rw [hi'] at hi; cases hi
 | some inf =>
   rw [hi'] at hi
   simp only [Option.map_some, Option.some.injEq, Prod.mk.injEq] at hi
   obtain ⟨h1, h2⟩ := hi
   subst h1; subst h2
   simp only [Option.bind_some, hi', hz]
   by_cases hc : (inf.bytes : Int) * (k : Int) ≤ 281474976710656
   · rw [if_pos ⟨by omega, by omega, hc, hb⟩, if_pos hc]; rfl
   · rw [if_neg (fun h => hc h.2.2.1), if_neg hc]
def out0 (x : D) : Prop := (∀ j ∈ refs x, j = 0) ∧ ren (ixOf [0]) x = x
theorem zYv {x : D} (h : zGW x = true) : out0 x := by
 obtain ⟨f1, _⟩ := zK8 h
 exact ⟨fun j hj => by rw [f1] at hj; simp at hj, zFu _ x f1⟩
theorem yBK {k : Nat} : out0 (.ptr 0 k) := ⟨fun j hj => by simpa [refs] using hj, rfl⟩
theorem zQi {k n : Nat} : out0 (.own 0 k n) := ⟨fun j hj => by simpa [refs] using hj, rfl⟩
theorem zJ7 {cx : Cx} {fn : Func} {c : Code} {ds : List D} {b0 : Blk} {r : D × List Blk} {rs : List ResultVar} (hb : fn.body = some c) (hbs : cx.bs = 1) (hrs : fn.results.toList = rs)
   (h : EvX .go cx c ⟨zAq ds, ofHp [b0], 1⟩ fun e st t => (e = .nrm ∨ e = .ret) ∧ Ev t (resD cx.P st rs) fun out _ => ∃ b, st.H 0 = b ∧ zEw b ∧ (∀ x ∈ out, out0 x) ∧ (one out, [b]) = r) : zFl cx fn ds [b0] = some r := by
 obtain ⟨⟨e, s⟩, he, hen, out, ho, b, hH, hfl, hf, rfl⟩ := h
 replace hH : s.H 0 = b := hH
 replace ho : resD cx.P s rs = some out := ho
 replace hen : e = .nrm ∨ e = .ret := hen
 have hcx : { cx with bs := [b0].length } = cx := by show { cx with bs := 1 } = cx; rw [← hbs]
 have hrefs : ∀ l : List D, (∀ x ∈ l, out0 x) → (∀ j ∈ zAv l, j = 0) ∧ renL (ixOf [0]) l = l := by
   intro l
   induction l with
   | nil => intro _; exact ⟨fun j hj => by simp [zAv] at hj, rfl⟩
   | cons x r ih =>
     intro hl
     obtain ⟨i1, i2⟩ := ih fun y hy => hl y (by simp [hy])
     obtain ⟨x1, x2⟩ := hl x (by simp)
     refine ⟨fun j hj => ?_, by rw [renL, i2, x2]⟩
     rw [zAv] at hj
     rcases List.mem_append.1 hj with hj | hj
     · exact x1 j hj
     · exact i1 j hj
 obtain ⟨h1, h2⟩ := hrefs out hf
 have hreach : ∀ (n : Nat) (todo : List Nat), (∀ j ∈ todo, j = 0) → zBr s.H n todo [0] = [0] := by
   intro n
   induction n with
   | zero => intro _ _; rfl
   | succ n ih =>
     intro todo ht
     cases todo with
     | nil => rfl
     | cons a r =>
       obtain rfl := ht a (by simp)
       simp only [zBr]
       rw [if_pos (by simp)]
       exact ih r fun j hj => ht j (by simp [hj])
 have hrb := (zEH hfl (ixOf [0]))
 have hids : zF7 1 out s.H = [0] := by
   unfold zF7
   rw [show List.range 1 = [0] from rfl]
   refine hreach 60 _ fun j hj => ?_
   rcases List.mem_append.1 hj with hj | hj
   · exact h1 j hj
   · simp [hH, hrb.1] at hj
 unfold zFl runD
 rw [hb, hcx]
 simp only [Option.bind_some, List.length_cons, List.length_nil, Nat.zero_add, he]
 have hfin : (let ids := zF7 1 out s.H; if closed s.H ids && (zAv out).all (fun j => ids.contains j) then some (one (renL (ixOf ids) out), ids.map fun i => renBlk (ixOf ids) (s.H i)) else none) = some (one out, [b]) := by
   simp only [hids]
   have hc : closed s.H [0] = true := by simp [closed, hH, hrb.1]
   have ha : (zAv out).all (fun j => [0].contains j) = true := by
     simp only [List.all_eq_true]; intro j hj; rw [h1 j hj]; rfl
   rw [hc, ha, h2]
   simp only [Bool.and_self, if_true, List.map_cons, List.map_nil, hH, hrb.2]
 rcases hen with rfl | rfl <;> (rw [hrs]; simp only [ho, Option.map_some, Option.bind_some]; exact hfin)
theorem yB6 {F : List D → List Blk → Option (D × List Blk)} {id off nid : Nat} {rest : List D} {H : Hp} (hr : zAv rest = []) {b : Blk} (hH : H id = b) (hb : zEw b) : zEN F (.ptr id off :: rest) H nid =
   (F (.ptr 0 off :: rest) [b]).bind fun p => if 1 ≤ p.2.length then some (ren (zKr [id] nid) p.1, zLd [id] nid p.2 H, nid + (p.2.length - 1)) else none := by
 have hrefs : zAv (.ptr id off :: rest) = [id] := by simp [zAv, refs, hr]
 have hrb := zEH hb (ixOf [id])
 have hren : renL (ixOf [id]) (.ptr id off :: rest) = .ptr 0 off :: rest := by
   have h2 : renL (ixOf [id]) rest = rest := by
     have hall : ∀ x ∈ rest, refs x = [] := fun x hx => by
       have : ∀ l : List D, zAv l = [] → ∀ x ∈ l, refs x = [] := by
         intro l
         induction l with
         | nil => intro _ x hx; simp at hx
         | cons a r ih =>
           intro h x hx
           rw [zAv, List.append_eq_nil_iff] at h
           rcases List.mem_cons.1 hx with rfl | hx
           · exact h.1
           · exact ih h.2 x hx
       exact this rest hr x hx
     exact zKh hall
   rw [renL, h2]; simp [ren, ixOf]
 have hrc : zBr H 60 [id] [] = [id] := by
   show zBr H (59 + 1) [id] [] = [id]
   simp only [zBr, List.contains_nil, Bool.false_eq_true, if_false, hH, hrb.1, List.nil_append]
 unfold zEN
 simp only [hrefs, hrc]
 have hc : closed H [id] = true := by simp [closed, hH, hrb.1]
 rw [hc, hren]
 simp only [List.all_cons, List.all_nil, List.contains_cons, beq_self_eq_true, Bool.true_or, Bool.and_self, if_true, List.map_cons, List.map_nil, hH, hrb.2, List.length_cons, List.length_nil, Nat.zero_add]
theorem yC6 {id nid : Nat} {b : Blk} {H : Hp} (hb : zEw b) : zLd [id] nid [b] H = upd H id b := by
 funext i
 unfold zLd upd
 by_cases h : i = id
 · subst h; simp [ixOf, ofHp, (zEH hb _).2]
 · rw [if_neg h]
   have : ixOf [id] i = none := by simp [ixOf, Ne.symm h]
   rw [this]
   simp
   intro h1 h2; omega
section
variable {cx : Cx} {nx bef i : Nat} {env : Nat → D} {H : Hp} {dst : Option Tmp} {ty : TypeId} {pos : String} {after : Array Edge} {gd : Option (Nat × Bool)}
theorem zNv {k : Tmp} {args : Array Operand} {ts : Array TypeId} {g0 : FuncId} {F : List D → Option Res} (hk : env k = .fn (.func g0) [] []) (ho : cx.orc g0 = some F)
   (hr : zAD nx bef i H (refs (env k) ++ zAv (args.toList.map (ev env))) = true) (hi : immL (args.toList.map (ev env)) = true) :
   stepD cx nx bef i ⟨dst, .call ⟨.value (.tmp k), args, ts⟩, ty, pos, after, gd⟩ env H = (F (args.toList.map (ev env))).bind fun r => if r.hs.isEmpty = true ∧ r.al = false ∧ refs r.r = [] then some (r.r, clr H (nx + i * 64))
     else yEE cx nx bef i ⟨dst, .call ⟨.value (.tmp k), args, ts⟩, ty, pos, after, gd⟩ env H := by
 have hro : roots env ⟨dst, .call ⟨.value (.tmp k), args, ts⟩, ty, pos, after, gd⟩ = refs (env k) ++ zAv (args.toList.map (ev env)) := by
   have : ∀ l : List Operand, l.flatMap (fun x => refs (ev env x)) = zAv (l.map (ev env)) := by
     intro l; induction l with
     | nil => rfl
     | cons a r ih => simp only [List.flatMap_cons, List.map_cons, zAv, ih]
   have e1 : (Op.call ⟨.value (.tmp k), args, ts⟩).operands.toList = .tmp k :: args.toList := by simp [Op.operands, Call.operands]
   unfold roots
   rw [e1, List.flatMap_cons, this]; rfl
 have hop : ∀ H', opD cx env ⟨dst, .call ⟨.value (.tmp k), args, ts⟩, ty, pos, after, gd⟩ H' (nx + i * 64) = zDD cx g0 (args.toList.map (ev env)) H' (nx + i * 64) := by
   intro H'
   rw [zTv]
   simp only [ev, hk, List.nil_append, List.append_nil]
 cases h : F (args.toList.map (ev env)) with
 | none =>
   rw [zNu (X := none) rfl (by rw [hro]; exact hr) (fun H' _ => by rw [hop, zSx ho hi, h]; rfl) (fun r hr => by cases hr)]; rfl
 | some r =>
   simp only [Option.bind_some]
   split
   · rename_i hc
     rw [zNu (X := some (r.r, [], 0)) rfl (by rw [hro]; exact hr) (fun H' _ => ?_) (fun r' hr' => by simp at hr'; subst hr'; exact ⟨by simp, by simp⟩)]
     · rfl
     · rw [hop, zSx ho hi, h]
       have h1 : r.hs = [] := by simpa using hc.1
       simp only [Option.map_some, h1, List.length_nil, Nat.add_zero, zMs, updL, zFu _ _ hc.2.2]
   · rfl
end
theorem zIu {σ : Type} {enc : σ → List D} {blk : σ → Blk} {pre : σ → Prop} {out : σ → D × List Blk} {s : σ} (hinj : ∀ s s', pre s → pre s' → enc s = enc s' → blk s = blk s' → out s = out s') (hp : pre s) : mkE enc blk pre out (enc s) [blk s] = some (out s) := by
 have h : ∃ s', enc s' = enc s ∧ [blk s'] = [blk s] ∧ pre s' := ⟨s, rfl, rfl, hp⟩
 unfold mkE
 rw [dif_pos h, hinj _ _ h.choose_spec.2.2 hp h.choose_spec.1 (by have := h.choose_spec.2.1; simpa using this)]
theorem upd0 {b b' : Blk} : upd (ofHp [b]) 0 b' = ofHp [b'] := by
 funext i
 unfold upd ofHp
 by_cases h : i = 0
 · subst h; rfl
 · rw [if_neg h]
   cases i with
   | zero => exact absurd rfl h
   | succ i => rfl
theorem zYT {F : List D → List Blk → Option (D × List Blk)} {rest : List D} {es es' : List D} {sz tot nid : Nat} (hr : zAv rest = []) (hF : F (.own 0 0 tot :: rest) [.row sz true es] = some (.tup [], [.row sz true es'])) :
   zEN F (.own 0 0 tot :: rest) (ofHp [.row sz true es]) nid = some (.tup [], ofHp [.row sz true es'], nid) := by
 rw [zIw hr]
 show ((F (.own 0 0 tot :: rest) [.row sz true es]).bind _) = _
 rw [hF]
 simp only [Option.bind_some, List.length_cons, List.length_nil, zIN, zIM]
 rw [upd0]; rfl
theorem zS1 {α : Type} {sz : Nat} {E : α → D} {P : Program} {H : Hp} {t e : TypeId} {xs : List α} {k1 k2 k3 : IntKind} (hu : P.underlying t = some (.slice e)) (hs : szT P e = some sz) {i j : Nat} (h : i ≤ j) (h' : j ≤ xs.length) :
   zBm P H t (vecE sz E xs) (some (.it k1 (i : Int))) (some (.it k2 (j : Int))) (some (.it k3 (j : Int))) = some (.vec sz true (((xs.take j).drop i).map E)) := by
 have hb : bnds (xs.map E).length (some (.it k1 (i : Int))) (some (.it k2 (j : Int))) (some (.it k3 (j : Int))) = some (i, j, some j) := by
   simp only [bnds, idx, Option.bind_some, List.length_map]
   rw [if_pos (by omega)]; rfl
 unfold vecE
 simp only [zBm, zDp, hu, Option.bind_some, hs, if_true, hb, Option.map_some, capB, decide_true, List.map_take, List.map_drop]
theorem yCO {cx : Cx} {fn : Func} {c : Code} {ds : List D} {r : D × List Blk} {rs : List ResultVar} (hb : fn.body = some c) (hbs : cx.bs = 0) (hrs : fn.results.toList = rs)
   (h : EvX .go cx c ⟨zAq ds, ofHp [], 0⟩ fun e st t => (e = .nrm ∨ e = .ret) ∧ Ev t (resD cx.P st rs) fun out _ => ∃ id b, out = [.map id] ∧ st.H id = b ∧ zEw b ∧ (.map 0, [b]) = r) : zFl cx fn ds [] = some r := by
 obtain ⟨⟨e, s⟩, he, hen, out, ho, id, b, rfl, hH, hfl, rfl⟩ := h
 replace hH : s.H id = b := hH
 replace ho : resD cx.P s rs = some [.map id] := ho
 replace hen : e = .nrm ∨ e = .ret := hen
 have hcx : { cx with bs := ([] : List Blk).length } = cx := by show { cx with bs := 0 } = cx; rw [← hbs]
 have hrb := zEH hfl (ixOf [id])
 have hids : zF7 0 [.map id] s.H = [id] := by
   show zBr s.H (59 + 1) [id] [] = [id]
   simp only [zBr, List.contains_nil, Bool.false_eq_true, if_false, hH, hrb.1, List.nil_append]
 unfold zFl runD
 rw [hb, hcx]
 simp only [Option.bind_some, List.length_nil]
 rw [show (ofHp [] : Hp) = ofHp [] from rfl, he]
 have hfin : (let ids := zF7 0 [D.map id] s.H; if closed s.H ids && (zAv [D.map id]).all (fun j => ids.contains j) then some (one (renL (ixOf ids) [D.map id]), ids.map fun i => renBlk (ixOf ids) (s.H i)) else none) = some (.map 0, [b]) := by
   simp only [hids]
   have hc : closed s.H [id] = true := by simp [closed, hH, hrb.1]
   have ha : (zAv [D.map id]).all (fun j => [id].contains j) = true := by simp [zAv, refs]
   rw [hc, ha]
   simp only [Bool.and_self, if_true, List.map_cons, List.map_nil, hH, hrb.2]
   simp [renL, ren, ixOf, one]
 rcases hen with rfl | rfl <;> (rw [hrs]; simp only [ho, Option.map_some, Option.bind_some]; exact hfin)
theorem zRJ : ∀ {l : List D}, zAv l = [] → ∀ x ∈ l, refs x = []
 | [], _, x, hx => by simp at hx
 | a :: r, h, x, hx => by
   rw [zAv, List.append_eq_nil_iff] at h
   rcases List.mem_cons.1 hx with rfl | hx
   · exact h.1
   · exact zRJ h.2 x hx
theorem yB7 {F : List D → List Blk → Option (D × List Blk)} {asx : List D} {H : Hp} {nid : Nat} {b : Blk} (hr : zAv asx = []) (hF : F asx [] = some (.map 0, [b])) (hb : zEw b) :
   zEN F asx H nid = some (.map nid, upd H nid b, nid + 1) := by
 unfold zEN
 have h2 : renL (ixOf []) asx = asx := zKh (zRJ hr)
 have h0 : zBr H 60 [] [] = [] := rfl
 simp only [hr, h0, List.all_nil, Bool.and_true, List.map_nil, h2, hF, Option.bind_some]
 have h3 : closed H [] = true := by simp [closed]
 rw [h3]
 simp only [if_true, List.length_nil, Nat.zero_le, List.length_cons, Nat.zero_add, Nat.sub_zero, Option.some.injEq, Prod.mk.injEq, and_true]
 refine ⟨by simp [ren, zKr], ?_⟩
 funext i
 unfold zLd upd
 by_cases h : i = nid
 · subst h; simp [ixOf, ofHp, (zEH hb _).2]
 · rw [if_neg h]
   simp only [ixOf]
   rw [if_neg]
   simp only [List.length_cons, List.length_nil]
   omega
open Classical in
noncomputable def mkN {σ : Type} (enc : σ → List D) (pre : σ → Prop) (out : σ → D × List Blk) : List D → List Blk → Option (D × List Blk) :=
 fun ds hs => if h : ∃ s, enc s = ds ∧ [] = hs ∧ pre s then some (out h.choose) else none
theorem yH6 {σ : Type} {enc : σ → List D} {pre : σ → Prop} {out : σ → D × List Blk} {s : σ} (hinj : ∀ s s', enc s = enc s' → out s = out s') (hp : pre s) : mkN enc pre out (enc s) [] = some (out s) := by
 have h : ∃ s', enc s' = enc s ∧ ([] : List Blk) = [] ∧ pre s' := ⟨s, rfl, rfl, hp⟩
 unfold mkN
 rw [dif_pos h, hinj _ _ h.choose_spec.1]
theorem yFo {σ : Type} {enc : σ → List D} {pre : σ → Prop} {out : σ → D × List Blk} {ds : List D} {hs : List Blk} {r : D × List Blk} (h : mkN enc pre out ds hs = some r) : ∃ s, ds = enc s ∧ hs = [] ∧ pre s ∧ r = out s := by
 unfold mkN at h
 split at h
 · rename_i hs'
   simp only [Option.some.injEq] at h
   exact ⟨_, hs'.choose_spec.1.symm, hs'.choose_spec.2.1.symm, hs'.choose_spec.2.2, h.symm⟩
 · cases h
theorem Known.addEffN {K : Known} (h : K.OK) (hP : K.P.follows .mixedOrders = true) {g : FuncId} {fn : Func} {c : Code} (kp : Nat → Option (List Nat)) (hb : Body K.P (K.cx kp).rd g fn c) {σ : Type} {enc : σ → List D} {pre : σ → Prop} {out : σ → D × List Blk} {n : Nat} (hn : n ≤ fn.ntmps) (hl : ∀ s, (enc s).length = n)
   (hF : ∀ s, pre s → zFl (K.cx kp) fn (enc s) [] = some (out s)) : (K.eff g (mkN enc pre out)).OK :=
 Known.fnEff h hP kp hb (fun ds hs r hr => by
   obtain ⟨s, rfl, rfl, hp, rfl⟩ := yFo hr
   exact ⟨by rw [hl]; exact hn, hF s hp⟩)
theorem PureOK.of {P : Program} {g : FuncId} {F G : List D → Option Res} (h : PureOK P g G) (hF : ∀ ds r, F ds = some r → G ds = some r) : PureOK P g F := ⟨h.1, fun ds r hr => h.2 ds r (hF ds r hr)⟩
def cellS : D → Bool
 | .bo _ | .it _ _ | .st _ => true
 | _ => false
def valC : D → Value
 | .bo b => .bool b
 | .it k n => .int k n
 | .st l => .string ⟨l.toArray⟩
 | _ => undef
theorem zSR {M : Mem} {d : D} (h : cellS d = true) : VRi M d (valC d) := by
 cases d <;> simp only [cellS, Bool.false_eq_true] at h
 · exact .bo _
 · exact .it _ _
 · exact .st _
theorem yA3 {M : Mem} {d : D} {u : Value} (h : cellS d = true) (hv : VRi M d u) : u = valC d := by
 cases d <;> simp only [cellS, Bool.false_eq_true] at h <;> cases hv <;> rfl
theorem zST {d : D} (h : cellS d = true) : (valC d).oneCell' = true := by
 cases d <;> simp only [cellS, Bool.false_eq_true] at h <;> rfl
theorem zXm {M : Mem} {cs : List D} (h : ∀ d ∈ cs, cellS d = true) : VRi M (.agg cs) (.agg (cs.map valC).toArray) := by
 refine .agg cs _ (by simp) (fun k => valC ((cs[k]?).getD .un)) (fun k hk => ?_) (fun k hk => ?_) (fun k d hd => ?_)
 · simp only [List.size_toArray, List.length_map] at hk
   simp [List.getElem?_eq_getElem hk]
 · simp only [List.size_toArray, List.length_map] at hk
   rw [List.getElem?_eq_getElem hk]; exact zST (h _ (List.getElem_mem hk))
 · rw [hd]; exact zSR (h d (List.mem_of_getElem? hd))
theorem Rel.grown {B : Nat → Prop} {M : Mem} {A : Nat → Prop} {H : Hp} {μ : Mu} {w w' : World} (hR : Rel B M A H μ w) (h : Below w.heap.size w w') : Rel B M A H μ w' :=
 ⟨fun a v hm => by rw [h.cell (World.block_lt_of_cell? w a (hR.mem a v hm))]; exact hR.mem a v hm, hR.given, hR.place, hR.apart, hR.alone, fun id => by
   by_cases hg : H id = .gone
   · rw [hg]; trivial
   · exact (hR.blk id).mono (MLe.refl M) (fun _ _ h => h) h.size (fun β bs top hm => h.block β (hR.lt hg hm))⟩
theorem zQD {α : Type} [Inhabited α] {k : Nat} {cs : α → List D} (hk : ∀ x, (cs x).length = k) (h0 : 0 < k) : ∀ (l : List α) (j : Nat), j < l.length * k → (flat (l.map fun x => .agg (cs x)))[j]? = (cs l[j / k]!)[j % k]?
 | [], j, h => by simp at h
 | x :: l, j, h => by
   have ih := zQD hk h0 l (j - k)
   unfold flat at ih ⊢
   rw [List.map_cons, List.flatMap_cons]
   show (cs x ++ _)[j]? = _
   by_cases hj : j < k
   · rw [List.getElem?_append_left (by rw [hk]; exact hj), Nat.div_eq_of_lt hj, Nat.mod_eq_of_lt hj]; rfl
   · rw [List.getElem?_append_right (by rw [hk]; omega), hk, ih (by rw [List.length_cons, Nat.add_mul] at h; omega)]
     have e1 : j / k = (j - k) / k + 1 := by rw [← Nat.add_div_right _ h0, Nat.sub_add_cancel (by omega)]
     have e2 : j % k = (j - k) % k := by rw [Nat.mod_eq_sub_mod (by omega)]
     rw [e1, e2]; rfl
theorem zVp {α : Type} {k : Nat} {cs : α → List D} (hk : ∀ x, (cs x).length = k) : ∀ (l : List α), (flat (l.map fun x => .agg (cs x))).length = l.length * k
 | [] => by simp [flat]
 | x :: l => by
   have ih := zVp hk l
   unfold flat at ih ⊢
   rw [List.map_cons, List.flatMap_cons, List.length_append, ih]
   show (cs x).length + _ = _
   rw [hk, List.length_cons, Nat.add_mul]; omega
theorem zTW {w w' : World} (h : Blw w.heap.size w w') : ∃ q os, w' = Sort.grow (w.drewN q) os := by
 obtain ⟨p, e⟩ := regrown_of_below h.toBelow
 have hd := h.drawn
 refine ⟨p.d - w.drawn, p.os, ?_⟩
 have h2 : w'.drawn = p.d := by rw [e]; rfl
 rw [e]
 congr 1
 have h3 : w.drawn + (p.d - w.drawn) = p.d := by omega
 unfold World.drewN redrawn
 rw [h3]
noncomputable def pdqL {α : Type} [Inhabited α] (cf : α → α → Int) (l : List α) : List α := (Sort.pdq (Go.Proofs.ltOf cf) l.toArray 0 l.toArray.size (Lib.bitLen l.toArray.size) true true).toList
theorem zDe {P : Program} {ρ : Shelf.Ren} (L : Go.Proofs.SlLaysF0.n6 P ρ) (he : Enters P (ρ.f 6)) {k : Nat} (aE : ∀ w, (isAgg (ρ.t 24)).run P w = .ok true w) (zE : ∀ w, (Go.sizeOf (ρ.t 24)).run P w = .ok k w) {α : Type} [Inhabited α] (cs : α → List D) (hk : ∀ x, (cs x).length = k) (h0 : 0 < k)
   (hS : ∀ x, ∀ d ∈ cs x, cellS d = true) (cf : α → α → Int) (hO : Sort.SWO (Go.Proofs.ltOf cf)) {g : Nat} {Fc : List D → Option Res} (hc : PureOK P g Fc) (hF : ∀ x y, Fc [.agg (cs x), .agg (cs y)] = some (Res.flat (.it .i64 (cf x y)))) :
   EffOK P (ρ.f 6) (mkE (fun l : List α => [.own 0 0 l.length, .fn (.func g) [] []]) (fun l => .row k true (l.map fun x => .agg (cs x))) (fun l => l.length < 4611686018427387904) (fun l => (.tup [], [.row k true ((pdqL cf l).map fun x => .agg (cs x))]))) := by
 refine ⟨he, fun ds hs r hs' h => ?_⟩
 obtain ⟨l, rfl, rfl, hp, hr⟩ := zGS h
 simp only [Prod.mk.injEq] at hr
 obtain ⟨rfl, rfl⟩ := hr
 have hps := Sort.pdq_sorts (Go.Proofs.ltOf cf) hO l.toArray 0 l.toArray.size (Lib.bitLen l.toArray.size) true true (Nat.zero_le _) (Nat.le_refl _) (Or.inl rfl)
 have hsz : (Sort.pdq (Go.Proofs.ltOf cf) l.toArray 0 l.toArray.size (Lib.bitLen l.toArray.size) true true).size = l.toArray.size := hps.1.1
 have hlen : (pdqL cf l).length = l.length := by unfold pdqL; rw [Array.length_toList, hsz, List.size_toArray]
 refine ⟨by simp, fun B M μ w vs hR hB hl hv => ?_⟩
 obtain ⟨v0, hv0, q0⟩ := hv 0 _ rfl
 obtain ⟨v1, hv1, q1⟩ := hv 1 _ rfl
 obtain rfl : vs = [v0, v1] := by
   match vs, hl with
   | [a, b], _ => simp at hv0 hv1; rw [hv0, hv1]
 obtain rfl : v1 = .func (.func g) #[] #[] := by
   cases q1 with
   | imm h =>
     cases h with
     | fn _ _ _ vf vc hf hc _ _ _ _ _ _ =>
       obtain rfl := Array.eq_empty_of_size_eq_zero (xs := vf) (by simpa using hf)
       obtain rfl := Array.eq_empty_of_size_eq_zero (xs := vc) (by simpa using hc)
       rfl
   | leaf h => exact h.elim
   | fn _ _ _ vf vc hf hc _ _ _ _ _ _ =>
     obtain rfl := Array.eq_empty_of_size_eq_zero (xs := vf) (by simpa using hf)
     obtain rfl := Array.eq_empty_of_size_eq_zero (xs := vc) (by simpa using hc)
     rfl
 have hH0 : ofHp [Blk.row k true (l.map fun x => D.agg (cs x))] 0 = .row k true (l.map fun x => D.agg (cs x)) := rfl
 cases q0 with
 | imm h => cases h
 | leaf hleaf =>
 obtain ⟨⟨_, _⟩, hm⟩ := hleaf
 rw [hH0] at hm
 obtain ⟨_, a, c, rfl, hnc, hloc⟩ := hm
 have hup : ∀ b : Blk, upd (ofHp [Blk.row k true (l.map fun x => D.agg (cs x))]) 0 b = ofHp [b] := fun b => by
   funext i; unfold upd; cases i with
   | zero => rfl
   | succ i => simp [ofHp]
 by_cases hl0 : l = []
 · subst hl0
   have hpe : pdqL cf ([] : List α) = [] := List.length_eq_zero_iff.1 hlen
   rw [hpe]
   refine (Go.Proofs.AnyF.slices_SortFunc_none L a c (.func (.func g) #[] #[]) w).mono fun e w' ⟨e1, e2⟩ => ?_
   subst e1; subst e2
   exact ⟨_, M, μ, rfl, MLe.refl M, hR, .imm (.tup [] #[] rfl (fun _ => undef) (fun k hk => by simp at hk) (fun k d hd => by simp at hd)), fun _ _ h => h, Keep.refl _ _, fun _ _ h => .inl h⟩
 · have hl1 : 0 < l.length := List.length_pos_iff.2 hl0
   rcases hloc with hc0 | ⟨β, bs, top, hμ, ha, htop⟩
   · omega
   simp only [Nat.zero_mul, Nat.add_zero] at ha
   subst ha
   have hb := hR.blk 0
   rw [hH0, hμ] at hb
   obtain ⟨_, hz, hr⟩ := hb
   rcases hr with ⟨_, hx⟩ | ⟨β', bs', top', e, hlt, hle, hcells, hvals⟩
   · cases hx
   simp only [Option.some.injEq, Prod.mk.injEq] at e
   obtain ⟨rfl, rfl, rfl⟩ := e
   rw [List.length_map] at hle
   have hk1 : ∀ x, ((cs x).map valC).length = k := fun x => by rw [List.length_map, hk]
   have h1 : ∀ x, ∀ v ∈ (cs x).map valC, v.oneCell' = true := fun x v hv => by
     obtain ⟨d, hd, rfl⟩ := List.mem_map.1 hv
     exact zST (hS x d hd)
   have hbig : ∀ j, j < l.length * k → j < top * k := fun j hj => Nat.lt_of_lt_of_le hj (Nat.mul_le_mul_right k hle)
   have hHo : Sort.HoldsK (fun x => (cs x).map valC) k w β bs l.toArray := fun j hj => by
     have hj' : j < l.length * k := by simpa using hj
     refine ⟨?_, (hcells j (hbig j hj')).2⟩
     have hlt2 : j % k < k := Nat.mod_lt _ h0
     have hf := zQD hk h0 l j hj'
     have hf2 : (cs l[j / k]!)[j % k]? = some ((cs l[j / k]!)[j % k]'(by rw [hk]; exact hlt2)) := List.getElem?_eq_getElem _
     rw [hf2] at hf
     obtain ⟨u, u1, u2, u3, u4⟩ := hvals j _ hf
     have e := yA3 (hS _ _ (List.getElem_mem _)) (u4 rfl)
     rw [u1, e]
     have g1 := Sort.get_flatK (fun x => (cs x).map valC) k l.toArray j (by simpa using hj')
     show _ = some ((Sort.flatK (fun x => (cs x).map valC) k l.toArray)[j]!)
     rw [g1]
     have g2 : l.toArray[j / k]! = l[j / k]! := by simp
     rw [g2, getElem!_pos ((cs l[j / k]!).map valC) (j % k) (by rw [List.length_map, hk]; exact hlt2), List.getElem_map]
   have hcmp : Go.Proofs.CmpLays P g #[] (fun x => (cs x).map valC) k cf β bs l.toArray.size w := fun m os dk hdk x y => by
     have hx := (hc.2 _ _ (hF x y)).2 (fun _ => none) (Go.Proofs.sortWorldK (fun x => (cs x).map valC) k w β bs m dk os) [.agg ((cs x).map valC).toArray, .agg ((cs y).map valC).toArray] (fun a v h => by cases h) rfl (fun i d hd => by
       match i, hd with
       | 0, hd => simp only [List.getElem?_cons_zero, Option.some.injEq] at hd; subst hd; exact ⟨_, rfl, zXm (hS x)⟩
       | 1, hd => simp only [List.getElem?_cons_succ, List.getElem?_cons_zero, Option.some.injEq] at hd; subst hd; exact ⟨_, rfl, zXm (hS y)⟩
       | _ + 2, hd => simp at hd)
     refine hx.mono fun e w' ⟨v, Mr, μr, e1, e2, _, _, _, e6⟩ => ?_
     subst e1
     simp only [Res.flat] at e6
     refine ⟨?_, zTW e2⟩
     cases e6 with
     | imm h => cases h; rfl
     | leaf h => exact h.elim
   have hs2 : l.toArray.size < 4611686018427387904 := by simpa using hp
   refine (Go.Proofs.AnyQ.slices_SortFunc_eq L k aE zE (fun x => (cs x).map valC) hk1 h1 cf hO g #[] β bs c l.toArray w (fun args w => zOb hc.1) hcmp hHo hlt hs2).mono fun e w' ⟨e1, n, os, e2⟩ => ?_
   subst e1
   generalize hd' : Sort.pdq (Go.Proofs.ltOf cf) l.toArray 0 l.toArray.size (Lib.bitLen l.toArray.size) true true = d' at e2 hsz
   have hpd : pdqL cf l = d'.toList := by unfold pdqL; rw [hd']
   rw [hpd] at hlen ⊢
   let w1 := Sort.putRowK (fun x => (cs x).map valC) k (Sort.ahead w n) β bs d'
   have hw1 : w1.heap.size = w.heap.size := by show (Sort.putRow id _ _ _ _).heap.size = _; rw [Sort.size_putRow]; rfl
   have hHo2 : Sort.HoldsK (fun x => (cs x).map valC) k w1 β bs d' := Sort.holdsK_putRowK _ _ _ _ _ l.toArray d' hHo hsz
   have hsd : d'.size = l.length := by rw [hsz, List.size_toArray]
   have hoth : ∀ j, j ≠ β → w1.heap[j]? = w.heap[j]? := fun j hj => by
     show (Sort.putRow id _ _ _ _).heap[j]? = _
     unfold Sort.putRow Sort.mapBlock
     simp only [Array.getElem?_modify]
     rw [if_neg (fun e => hj e.symm)]; rfl
   obtain ⟨r1, r2, r3⟩ := hR.write (id := 0) (A' := fun i => i < 1) (blk := .row k true (d'.toList.map fun x => D.agg (cs x))) (w' := w1) (by rw [hH0]; simp) hμ (fun _ h => h) (by rw [hH0]; exact ⟨rfl, by simp [hsd]⟩) rfl rfl rfl hw1 hoth
     (fun _ => by
       rw [hμ]
       refine ⟨h0, fun e he => by obtain ⟨x, _, rfl⟩ := List.mem_map.1 he; exact hk x, .inr ⟨β, bs, top, rfl, by rw [hw1]; exact hlt, by rw [List.length_map, hlen]; exact hle, fun o ho => ?_, fun i d hd => ?_⟩⟩
       · by_cases ho2 : o < l.length * k
         · have h2 := hHo2 o (by rw [Sort.size_flatK, hsd]; exact ho2)
           exact ⟨by rw [h2.1]; rfl, h2.2⟩
         · have h2 := hcells o ho
           refine ⟨?_, ?_⟩
           · show ((Sort.putRow id (Sort.ahead w n) β bs _).cell? _).isSome = true
             rw [Sort.cell?_putRow_other id (Sort.ahead w n) β bs _ _ (.inr (.inr (by rw [Sort.size_flatK, hsd]; show bs + l.length * k ≤ bs + o; omega)))]
             exact h2.1
           · show (Sort.putRow id (Sort.ahead w n) β bs _).frozen? _ = false
             rw [Sort.frozen?_putRow]; exact h2.2
       · have hi : i < d'.toList.length * k := by
           have := (List.getElem?_eq_some_iff.1 hd).1
           rwa [zVp hk] at this
         have hf := zQD hk h0 d'.toList i hi
         rw [hd] at hf
         have hmem := List.mem_of_getElem? hf.symm
         have hi2 : i < d'.size * k := by simpa using hi
         have h2 := hHo2 i (by rw [Sort.size_flatK]; exact hi2)
         have g1 := Sort.get_flatK (fun x => (cs x).map valC) k d' i hi2
         have g2 : d'[i / k]! = d'.toList[i / k]! := by cases d'; simp
         have hx := (List.getElem?_eq_some_iff.1 hf.symm)
         have g3 : ((cs d'.toList[i / k]!).map valC)[i % k]! = valC d := by
           rw [getElem!_pos ((cs d'.toList[i / k]!).map valC) (i % k) (by rw [List.length_map]; exact hx.1), List.getElem_map, hx.2]
         have hu : w1.cell? ⟨β, bs + i, none⟩ = some (valC d) := by
           rw [h2.1, g1, g2, g3]; rfl
         have hcs := hS _ _ hmem
         exact ⟨valC d, hu, zST hcs, .imm (zSR hcs), fun _ => zSR hcs⟩)
     (by show w.drawn ≤ (Sort.putRow id (Sort.ahead w n) β bs _).drawn; rw [Sort.drawn_putRow, Sort.drawn_ahead]; omega)
   rw [hup] at r1 r2
   have hw' : w' = Sort.grow w1 os := e2
   have hbl : Below w1.heap.size w1 w' := by
     rw [hw']; exact ⟨rfl, rfl, rfl, by rw [Sort.size_grow]; omega, fun k hk => Sort.heap_grow_old w1 os hk⟩
   have hkp : Keep B w1 w' := ⟨hbl.os, hbl.tape, hbl.output, hbl.size, fun j hj => hbl.block j (by rw [hw1]; exact hB j hj), by rw [hw']; exact Nat.le_refl _⟩
   exact ⟨_, M, μ, rfl, MLe.refl M, r1.grown hbl, .imm (.tup [] #[] rfl (fun _ => undef) (fun k hk => by simp at hk) (fun k d hd => by simp at hd)), r2, r3.trans hkp, fun _ _ h => .inl h⟩
def Res.front (len sz : Nat) (es : List D) : Res := ⟨false, .own 0 0 len, [.row sz true es]⟩
theorem zRO {H : Hp} {id sz : Nat} {es : List D} (hH : H id = .row sz true es) : zBr H 60 [id] [] = [id] := by
 have : refsB (H id) = [] := by rw [hH]; rfl
 show zBr H (59 + 1) [id] [] = [id]
 simp only [zBr, List.contains_nil, Bool.false_eq_true, if_false, this, List.nil_append]
theorem zPC {cx : Cx} {fn : Func} {c : Code} {ds : List D} {r : Res} {rs : List ResultVar} (hb : fn.body = some c) (hbs : cx.bs = 0) (hrs : fn.results.toList = rs)
   (h : EvX .go cx c ⟨zAq ds, ofHp [], 0⟩ fun e st t => (e = .nrm ∨ e = .ret) ∧ Ev t (resD cx.P st rs) fun out _ => ∃ id len sz es, out = [.own id 0 len] ∧ st.H id = .row sz true es ∧ zBN es = true ∧ Res.front len sz es = r) : zAj cx fn [0] false ds = some r := by
 obtain ⟨⟨e, s⟩, he, hen, out, ho, id, len, sz, es, rfl, hH, hm, rfl⟩ := h
 simp only at hH
 have hr := zRO hH
 refine zF9 hb hbs [0] false ⟨(e, s), he, hen, _, hrs ▸ ho, ?_, [.row sz true es], ?_, .own 0 0 len, ?_, rfl⟩
 · have h1 : zAv [D.own id 0 len] = [id] := rfl
   have h2 : closed s.H [id] = true := by simp [closed, hH, refsB]
   simp [zD4, distinct, dry, h1, hr, h2, zBN, zDL, zI0, hH, hm]
 · simp [zD4, zAv, refs, hr, finB, zCR, hH]
 · simp [zD4, finT, finV, ixOf]
theorem zYs {cx : Cx} {fn : Func} {c : Code} {ds : List D} {r : Res} {rs : List ResultVar} (hb : fn.body = some c) (hbs : cx.bs = 0) (hrs : fn.results.toList = rs)
   (h : EvX .go cx c ⟨zAq ds, ofHp [], 0⟩ fun e st t => (e = .nrm ∨ e = .ret) ∧ Ev t (resD cx.P st rs) fun out _ => ∃ x k n, out = [x, .it k n] ∧
     ((∃ o id len sz es, x = .agg [.st o, .own id 0 len] ∧ st.H id = .row sz true es ∧ zBN es = true ∧ Res.flat (.tup [.agg [.st o, .vec sz false (es.take len)], .it k n]) = r) ∨ (∃ o sz, x = .agg [.st o, .vec sz false []] ∧ Res.flat (.tup [x, .it k n]) = r))) : zAj cx fn [] false ds = some r := by
 obtain ⟨⟨e, s⟩, he, hen, out, ho, x, k, n, rfl, h⟩ := h
 rcases h with ⟨o, id, len, sz, es, rfl, hH, hm, rfl⟩ | ⟨o, sz, rfl, rfl⟩
 · simp only at hH
   have hr := zRO hH
   have h1 : zAv [D.agg [.st o, .own id 0 len], .it k n] = [id] := by simp [zAv, refs]
   refine zF9 hb hbs [] false ⟨(e, s), he, hen, _, hrs ▸ ho, ?_, [], rfl, .tup [.agg [.st o, .vec sz false (es.take len)], .it k n], ?_, rfl⟩
   · have h2 : closed s.H [id] = true := by simp [closed, hH, refsB]
     simp [zD4, distinct, dry, h1, hr, h2, zBN, zDL, zI0, hH, hm]
   · show finT [] (zCR (zBr s.H 60 (zAv [D.agg [.st o, .own id 0 len], .it k n]) []) s.H) _ = _
     rw [h1, hr]
     refine (zQG (ds := [.agg [.st o, .vec sz false (es.take len)], .it k n]) ?_)
     simp only [borT, zAm, borM, zI2, zI1, zAl]
     simp [zCR, hH]
 · refine zF9 hb hbs [] false ⟨(e, s), he, hen, _, hrs ▸ ho, ?_, [], rfl, .tup [.agg [.st o, .vec sz false []], .it k n], ?_, rfl⟩
   · have h1 : zAv [D.agg [.st o, .vec sz false []], .it k n] = [] := by simp [zAv, refs]
     have h2 : zBr s.H 60 [] [] = [] := rfl
     have h3 : closed s.H [] = true := by simp [closed]
     simp [zD4, distinct, dry, h1, h2, h3, zBN, zDL]
   · show finT [] _ _ = _
     refine (zQG (ds := [.agg [.st o, .vec sz false []], .it k n]) ?_)
     simp only [borT, zAm, borM, zI2, zI1, zGX, Option.bind_some, Option.map_some]
end Go.Mir
