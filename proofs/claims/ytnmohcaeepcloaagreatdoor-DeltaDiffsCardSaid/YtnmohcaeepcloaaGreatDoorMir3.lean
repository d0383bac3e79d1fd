/- A verified interpreter of loaded code: no theorem about any program stands here; no conditions. -/
import Derived.Test.YtnmohcaeepcloaaGreatDoorMir2
import Derived.Lib.Bytealg
import Derived.Laws.Externs
import Derived.Shelf.SlSortCmp.WholeK
import Derived.Shelf.SlSortCmp.NoneTotal
import Derived.Lib.QuietBelow
set_option linter.unusedSimpArgs false
set_option linter.unusedVariables false
set_option linter.defProp false
set_option maxRecDepth 100000
set_option maxHeartbeats 4000000
open Go Go.RowKit
namespace Go.Mir
section
variable {cx : Cx} {l : List Nat} {nx bef i : Nat} {env : Nat → D} {H : Hp} {dst : Option Tmp} {ty t : TypeId} {pos : String} {after : Array Edge} {g : Option (Nat × Bool)} {x y z : Operand}

theorem zSB : stepD cx nx bef i ⟨dst, .move x, ty, pos, after, g⟩ env H = some (ev env x, H) := by simp [stepD, zBK, opD]
theorem zMP (hx : nilC x = false) : stepD cx nx bef i ⟨dst, .assign x, ty, pos, after, g⟩ env H = some (ev env x, H) := by simp [stepD, zBK, opD, hx]
theorem zSA : stepD cx nx bef i ⟨dst, .pick x y z, ty, pos, after, g⟩ env H = match ev env x with | .bo t => some (if t then ev env y else ev env z, H) | _ => none := by
 simp only [stepD, zBK, opD, if_true]
 cases ev env x <;> rfl
theorem zQP {ps : Array (Nat × Operand)} : stepD cx nx bef i ⟨dst, .build t ps, ty, pos, after, g⟩ env H = (zDm cx.P t (ps.toList.map fun (i, x) => (i, ev env x))).map fun d => (d, H) := by
 simp only [stepD, zBK, opD, if_true, tBf, Function.comp_def]
theorem zXE {op : BinOp} {t' : TypeId} : stepD cx nx bef i ⟨dst, .binOp op t x y t', ty, pos, after, g⟩ env H = (binD cx.P op t (ev env x) (ev env y)).map fun d => (d, H) := by
 simp only [stepD, zBK, opD, if_true, tBf, Function.comp_def]
theorem yCu {op : UnOp} : stepD cx nx bef i ⟨dst, .unOp op t x, ty, pos, after, g⟩ env H = (unD op (ev env x)).map fun d => (d, H) := by
 simp only [stepD, zBK, opD, if_true, tBf, Function.comp_def]
theorem zIK {f : Nat} : stepD cx nx bef i ⟨dst, .field t x f, ty, pos, after, g⟩ env H = match ev env x with | .agg cs => (zAQ cx.P t f).bind fun fl => (zAx cx.P fl.type cs fl.offset).map fun d => (d, H) | _ => none := by
 simp only [stepD, zBK, opD, if_true]
 cases ev env x <;> simp [tBf, Function.comp_def, Option.map_bind]
theorem zQN : stepD cx nx bef i ⟨dst, .index t x y, ty, pos, after, g⟩ env H = (zDL cx.P t (ev env x) (ev env y)).map fun d => (d, H) := by
 simp only [stepD, zBK, opD, if_true, tBf, Function.comp_def]
theorem zJs {fn : Fn} {first caps : Array Operand} : stepD cx nx bef i ⟨dst, .makeFunc fn first caps, ty, pos, after, g⟩ env H = some (.fn fn (first.toList.map (ev env)) (caps.toList.map (ev env)), H) := by simp [stepD, zBK, opD]
theorem zKM {j : Nat} : stepD cx nx bef i ⟨dst, .extract x j, ty, pos, after, g⟩ env H = match ev env x with | .tup ds => (ds[j]?).map fun d => (d, H) | _ => none := by
 simp only [stepD, zBK, opD, if_true]
 cases ev env x <;> simp [tBf, Function.comp_def]

def okId (nx bef i id : Nat) : Bool := (decide (id < nx) || bef.testBit ((id - nx) / 64)) && (decide (id < nx + i * 64) || decide (nx + i * 64 + 64 ≤ id))
def zAy (nx bef i : Nat) (H : Hp) (l : List Nat) : Bool := decide (l.length ≤ 60) && l.all fun id => okId nx bef i id && (refsB (H id)).isEmpty

theorem zRa {H : Hp} : ∀ (n : Nat) (l acc : List Nat), (∀ id ∈ l, refsB (H id) = []) → ∃ r, zAY H n l acc = r ∧ (∀ id ∈ r, id ∈ l ∨ id ∈ acc) ∧ (∀ id ∈ acc, id ∈ r) ∧ (l.length ≤ n → ∀ id ∈ l, id ∈ r) := by
 intro n
 induction n with
 | zero => intro l acc h; refine ⟨_, rfl, fun id hid => ?_, fun id hid => ?_, fun hl id hid => ?_⟩
           · simp [zAY] at hid; exact .inr hid
           · simp [zAY]; exact hid
           · have : l = [] := tB4.1 (by omega)
             subst this; simp at hid
 | succ n ih =>
   intro l acc h
   cases l with
   | nil => exact ⟨_, rfl, fun id hid => by simp [zAY] at hid; exact .inr hid, fun id hid => by simp [zAY]; exact hid, fun _ id hid => by simp at hid⟩
   | cons a r =>
     simp only [zAY]
     split
     · rename_i hc
       obtain ⟨q, q1, q2, q3, q4⟩ := ih r acc (fun id hid => h id (by simp [hid]))
       refine ⟨q, q1, fun id hid => ?_, q3, fun hl id hid => ?_⟩
       · rcases q2 id hid with h1 | h1
         · exact .inl (by simp [h1])
         · exact .inr h1
       · rcases tAr.1 hid with rfl | hid
         · exact q3 _ (by simpa using hc)
         · exact q4 (by simp at hl; omega) id hid
     · rename_i hc
       rw [h a (by simp), tAJ]
       obtain ⟨q, q1, q2, q3, q4⟩ := ih r (acc ++ [a]) (fun id hid => h id (by simp [hid]))
       refine ⟨q, q1, fun id hid => ?_, fun id hid => q3 id (by simp [hid]), fun hl id hid => ?_⟩
       · rcases q2 id hid with h1 | h1
         · exact .inl (by simp [h1])
         · rcases tAz.1 h1 with h1 | h1
           · exact .inr h1
           · simp at h1; exact .inl (by simp [h1])
       · rcases tAr.1 hid with rfl | hid
         · exact q3 _ (by simp)
         · exact q4 (by simp at hl; omega) id hid

theorem zGY {nx bef i id : Nat} (h : okId nx bef i id = true) : id < nx + i * 64 ∨ nx + i * 64 + 64 ≤ id := by
 simp only [okId, tAd, tAK, decide_eq_true_eq] at h
 exact h.2

theorem zN3 {nx bef i : Nat} {H : Hp} {l : List Nat} (hr : zAy nx bef i H l = true) : ∃ q, zAY H 60 l [] = q ∧ (∀ id ∈ q, id ∈ l ∧ okId nx bef i id = true ∧ refsB (H id) = []) ∧ (∀ id ∈ l, id ∈ q) ∧ closed H q = true ∧ l.all (fun j => q.contains j) = true ∧ q.all (vis nx bef) = true := by
 simp only [zAy, tAd, decide_eq_true_eq] at hr
 obtain ⟨hlen, hr⟩ := hr
 have hr' : ∀ id ∈ l, okId nx bef i id = true ∧ refsB (H id) = [] := fun id hid => by
   have := tAw.1 hr id hid
   simpa using this
 obtain ⟨q, q1, q2, q3, q4⟩ := zRa (H := H) 60 l [] (fun id hid => (hr' id hid).2)
 have hq : ∀ id ∈ q, id ∈ l ∧ okId nx bef i id = true ∧ refsB (H id) = [] := fun id hid => by
   rcases q2 id hid with h1 | h1
   · exact ⟨h1, hr' id h1⟩
   · simp at h1
 refine ⟨q, q1, hq, q4 hlen, ?_, ?_, ?_⟩
 · simp only [closed, tAw]
   intro id hid
   rw [(hq id hid).2.2]; simp
 · simp only [tAw]
   intro id hid
   simpa using q4 hlen id hid
 · simp only [tAw]
   intro id hid
   have := (hq id hid).2.1
   simp only [okId, tAd] at this
   exact this.1

def zE9 (H : Hp) (nid : Nat) (hs : List Blk) : Hp := fun id => if nid ≤ id ∧ id < nid + 64 then ofHp hs (id - nid) else H id
theorem zHD {o : Oper} {X : Option (D × List Blk)} (hk : zBK cx.rd o.op = 1) (hr : zAy nx bef i H (roots env o) = true)
   (h : ∀ H' : Hp, (∀ id ∈ roots env o, H' id = H id) → opD cx env o H' (nx + i * 64) = X.map fun r => (r.1, zB8 H' (nx + i * 64) r.2, nx + i * 64 + r.2.length)) (hl : ∀ r, X = some r → r.2.length ≤ 64) :
   stepD cx nx bef i o env H = X.map fun r => (r.1, if r.2.isEmpty then H else zE9 H (nx + i * 64) r.2) := by
 obtain ⟨q, q1, hq, q4, h1, h2, h3⟩ := zN3 hr
 unfold stepD
 rw [if_neg (by omega)]
 simp only [q1]
 rw [h1, h2, h3]
 have hK := h (zBv q H) (fun id hid => by unfold zBv; rw [if_pos (by simpa using q4 id hid)])
 cases X with
 | none => simp [hK]
 | some r =>
   have hl' := hl r rfl
   simp only [hK, tBp, if_true, tAF, tAg, hk, true_and]
   rw [if_pos (by omega)]
   congr 2
   by_cases he : r.2 = []
   · simp [he]
   · have hne : ¬ r.2.length = 0 := by simpa using he
     rw [if_neg (by omega), if_neg (by simpa using he)]
     funext id
     unfold mend zE9 zB8 zBv
     by_cases hid : nx + i * 64 ≤ id ∧ id < nx + i * 64 + 64
     · rw [if_pos (by simp [hid]), if_pos hid]
       rw [zD2]
       split
       · have hnm : ¬ id ∈ q := fun hm => by have := zGY (hq id hm).2.1; omega
         simp [hnm]
       · rw [tBu (by omega)]
         have hnm : ¬ id ∈ q := fun hm => by have := zGY (hq id hm).2.1; omega
         simp [hnm]
     · rw [if_neg hid]
       by_cases hm : id ∈ q
       · rcases zGY (hq id hm).2.1 with h5 | h5
         · rw [if_pos (by simp [hm]), if_neg (by omega), if_pos (by simpa using hm)]
         · rw [if_pos (by simp [hm]), if_pos (by omega), tBu (by omega), Option.getD_none, if_pos (by simpa using hm)]
       · rw [if_neg (by simp [hm]; omega)]
theorem zBZ {o : Oper} {X : Option D} (hk : zBK cx.rd o.op = 1) (hr : zAy nx bef i H (roots env o) = true)
   (h : ∀ H' : Hp, (∀ id ∈ roots env o, H' id = H id) → opD cx env o H' (nx + i * 64) = X.map fun r => (r, H', nx + i * 64)) : stepD cx nx bef i o env H = X.map fun r => (r, H) := by
 have := zHD (bef := bef) (X := X.map fun r => (r, [])) hk hr (fun H' hH => by rw [h H' hH]; cases X <;> simp [zGm]) (fun r hr => by cases X <;> simp at hr; subst hr; simp)
 rw [this]
 cases X <;> simp

theorem zRD {H H' : Hp} {d : D} (h : ∀ id ∈ refs d, H' id = H id) : deref H' d = deref H d := by
 unfold deref
 cases d <;> (try simp only [refs, tAy, forall_eq] at h) <;> first | rfl | (simp only [h]; done)
theorem zRk {P : Program} {H H' : Hp} {d k : D} (h : ∀ id ∈ refs d, H' id = H id) : zAP P H' t d k = zAP P H t d k := by
 unfold zAP
 cases d <;> (try simp only [refs, tAy, forall_eq] at h) <;> first | rfl | (simp only [h]; done) | (cases P.underlying t with | none => rfl | some u => cases u <;> first | rfl | (simp only [h]; done))
theorem zRt {P : Program} {H H' : Hp} {d : D} {f : Nat} (h : ∀ id ∈ refs d, H' id = H id) : zAM P H' t d f = zAM P H t d f := by
 unfold zAM
 cases d <;> (try simp only [refs, tAy, forall_eq] at h) <;> first | rfl | (simp only [h]; done)
theorem zYk {H H' : Hp} {d : D} (h : ∀ id ∈ refs d, H' id = H id) : zB1 H' d = zB1 H d := by
 unfold zB1
 cases d <;> (try simp only [refs, tAy, forall_eq] at h) <;> first | rfl | (simp only [h]; done) | (rename_i f _ _; cases f <;> rfl)
theorem zYz {P : Program} {H H' : Hp} {d : D} (h : ∀ id ∈ refs d, H' id = H id) : lenD P H' t d = lenD P H t d := by
 unfold lenD
 cases d <;> (try simp only [refs, tAy, forall_eq] at h) <;> first | rfl | (simp only [h]; done) | (cases P.underlying t with | none => rfl | some u => cases u <;> first | rfl | (simp only [h]; done))
theorem zQR {P : Program} {H H' : Hp} {d : D} {lo hi mx : Option D} (h : ∀ id ∈ refs d, H' id = H id) : zAW P H' t d lo hi mx = zAW P H t d lo hi mx := by
 unfold zAW
 cases d <;> (try simp only [refs, tAy, forall_eq] at h) <;> first | rfl | (simp only [h]; done) | (cases P.underlying t with | none => rfl | some u => cases u <;> first | rfl | (simp only [h]; done))
theorem zM7 {P : Program} {H H' : Hp} {d k : D} {b : Bool} (h : ∀ id ∈ refs d, H' id = H id) : zDt P H' t d k b = zDt P H t d k b := by
 unfold zDt
 cases d <;> (try simp only [refs, tAy, forall_eq] at h) <;> first | rfl | (simp only [h]; done) | (cases P.underlying t with | none => rfl | some u => cases u <;> first | rfl | (simp only [h]; done))
theorem zRy {H H' : Hp} {d : D} {n : Nat} (h : ∀ id ∈ refs d, H' id = H id) : elems H' n d = elems H n d := by
 unfold elems
 cases d <;> (try simp only [refs, tAy, forall_eq] at h) <;> first | rfl | (simp only [h]; done)
theorem zSC (hr : zAy nx bef i H (refs (ev env x)) = true) : stepD cx nx bef i ⟨dst, .load t x, ty, pos, after, g⟩ env H = ((deref H (ev env x)).bind fun cs => ldD cx.P t cs).map fun d => (d, H) := by
 have hro : roots env ⟨dst, .load t x, ty, pos, after, g⟩ = refs (ev env x) := by simp [roots, Op.operands]
 refine zBZ rfl (by rw [hro]; exact hr) (fun H' hH => ?_)
 rw [hro] at hH
 rw [zT5, zRD hH]
 cases deref H (ev env x) <;> rfl
theorem zJr (hr : zAy nx bef i H (refs (ev env x)) = true) : stepD cx nx bef i ⟨dst, .nilCheck x, ty, pos, after, g⟩ env H = (zB1 H (ev env x)).map fun d => (d, H) := by
 have hro : roots env ⟨dst, .nilCheck x, ty, pos, after, g⟩ = refs (ev env x) := by simp [roots, Op.operands]
 refine zBZ rfl (by rw [hro]; exact hr) (fun H' hH => ?_)
 rw [hro] at hH
 rw [zHT, zYk hH]
theorem zIF {f : Nat} (hr : zAy nx bef i H (refs (ev env x)) = true) : stepD cx nx bef i ⟨dst, .fieldAddr t x f, ty, pos, after, g⟩ env H = (zAM cx.P H t (ev env x) f).map fun d => (d, H) := by
 have hro : roots env ⟨dst, .fieldAddr t x f, ty, pos, after, g⟩ = refs (ev env x) := by simp [roots, Op.operands]
 refine zBZ rfl (by rw [hro]; exact hr) (fun H' hH => ?_)
 rw [hro] at hH
 rw [zGG, zRt hH]
theorem zIE (hr : zAy nx bef i H (refs (ev env x) ++ refs (ev env y)) = true) : stepD cx nx bef i ⟨dst, .indexAddr t x y, ty, pos, after, g⟩ env H = (zAP cx.P H t (ev env x) (ev env y)).map fun d => (d, H) := by
 have hro : roots env ⟨dst, .indexAddr t x y, ty, pos, after, g⟩ = refs (ev env x) ++ refs (ev env y) := by simp [roots, Op.operands]
 refine zBZ rfl (by rw [hro]; exact hr) (fun H' hH => ?_)
 rw [hro] at hH
 rw [zGF, zRk (fun id hid => hH id (by simp [hid]))]
theorem zMO {b : Bool} (hr : zAy nx bef i H (refs (ev env x) ++ refs (ev env y)) = true) : stepD cx nx bef i ⟨dst, .lookup t x y b, ty, pos, after, g⟩ env H = (zDt cx.P H t (ev env x) (ev env y) b).map fun d => (d, H) := by
 have hro : roots env ⟨dst, .lookup t x y b, ty, pos, after, g⟩ = refs (ev env x) ++ refs (ev env y) := by simp [roots, Op.operands]
 refine zBZ rfl (by rw [hro]; exact hr) (fun H' hH => ?_)
 rw [hro] at hH
 rw [zLm, zM7 (fun id hid => hH id (by simp [hid]))]
theorem zQM {lo hi mx : Option Operand} (hr : zAy nx bef i H (roots env ⟨dst, .slice t x lo hi mx, ty, pos, after, g⟩) = true) : stepD cx nx bef i ⟨dst, .slice t x lo hi mx, ty, pos, after, g⟩ env H = (zAW cx.P H t (ev env x) (lo.map (ev env)) (hi.map (ev env)) (mx.map (ev env))).map fun d => (d, H) := by
 refine zBZ rfl hr (fun H' hH => ?_)
 rw [zO3, zQR (fun id hid => hH id (by simp [roots, Op.operands, hid]))]
theorem zXD (hr : zAy nx bef i H (refs (ev env x)) = true) : stepD cx nx bef i ⟨dst, .call ⟨.builtin .len, #[x], #[t]⟩, ty, pos, after, g⟩ env H = (lenD cx.P H t (ev env x)).map fun n => (.it .i64 n, H) := by
 have hro : roots env ⟨dst, .call ⟨.builtin .len, #[x], #[t]⟩, ty, pos, after, g⟩ = refs (ev env x) := by simp [roots, Op.operands, Call.operands]
 have := zBZ (cx := cx) (bef := bef) (i := i) (o := ⟨dst, .call ⟨.builtin .len, #[x], #[t]⟩, ty, pos, after, g⟩) (X := (lenD cx.P H t (ev env x)).map fun n => .it .i64 n) rfl (by rw [hro]; exact hr) (fun H' hH => by
   rw [hro] at hH
   rw [zDI]
   simp only [zAd, tAO, tBn, Array.toList, zYz hH, tBf, Function.comp_def])
 rw [this, tBf]; rfl
theorem zXB {args : Array Operand} {ts : Array TypeId} (hr : (args.toList.flatMap fun x => refs (ev env x)) = []) : stepD cx nx bef i ⟨dst, .call ⟨.builtin .min, args, ts⟩, ty, pos, after, g⟩ env H = (minD (fun p q => if q < p then q else p) (args.toList.map (ev env))).map fun d => (d, H) := by
 have hro : roots env ⟨dst, .call ⟨.builtin .min, args, ts⟩, ty, pos, after, g⟩ = [] := by simpa [roots, Op.operands, Call.operands] using hr
 exact zBZ (cx := cx) (bef := bef) (i := i) (o := ⟨dst, .call ⟨.builtin .min, args, ts⟩, ty, pos, after, g⟩) rfl (by rw [hro]; rfl) (fun H' hH => by rw [zDI]; simp only [zAd])
theorem zXC {args : Array Operand} {ts : Array TypeId} (hr : (args.toList.flatMap fun x => refs (ev env x)) = []) : stepD cx nx bef i ⟨dst, .call ⟨.builtin .max, args, ts⟩, ty, pos, after, g⟩ env H = (minD (fun p q => if p < q then q else p) (args.toList.map (ev env))).map fun d => (d, H) := by
 have hro : roots env ⟨dst, .call ⟨.builtin .max, args, ts⟩, ty, pos, after, g⟩ = [] := by simpa [roots, Op.operands, Call.operands] using hr
 exact zBZ (cx := cx) (bef := bef) (i := i) (o := ⟨dst, .call ⟨.builtin .max, args, ts⟩, ty, pos, after, g⟩) rfl (by rw [hro]; rfl) (fun H' hH => by rw [zDI]; simp only [zAd])
theorem zBz {α β : Type} {f g : α → Option β} : ∀ (l : List α), (∀ x ∈ l, f x = g x) → l.mapM f = l.mapM g
 | [], _ => rfl
 | x :: r, h => by rw [tA8, tA8, h x (by simp), zBz r (fun y hy => h y (by simp [hy]))]
theorem zBG {l : List D} {d : D} (hd : d ∈ l) {id : Nat} (h : id ∈ refs d) : id ∈ zAp l := by
 obtain ⟨k, hk⟩ := tAT.1 hd
 exact zBH hk h
theorem zGD {H H' : Hp} : ∀ (n : Nat) (d : D), refs d = [] → bor H' n d = bor H n d := by
 intro n
 induction n with
 | zero => intro d _; rfl
 | succ n ih =>
   intro d h
   cases d <;> simp only [bor] <;> first | rfl | (simp [refs] at h; done) | skip
   case agg cs => rw [zBz cs (fun x hx => ih x (by cases hh : refs x with | nil => rfl | cons a r => have := zBG hx (id := a) (by rw [hh]; simp); simp [refs] at h; rw [h] at this; simp at this))]
   case tup cs => rw [zBz cs (fun x hx => ih x (by cases hh : refs x with | nil => rfl | cons a r => have := zBG hx (id := a) (by rw [hh]; simp); simp [refs] at h; rw [h] at this; simp at this))]
   case fn f p q =>
     simp only [refs, List.append_eq_nil_iff] at h
     rw [zBz p (fun x hx => ih x (by cases hh : refs x with | nil => rfl | cons a r => have := zBG hx (id := a) (by rw [hh]; simp); rw [h.1] at this; simp at this)),
       zBz q (fun x hx => ih x (by cases hh : refs x with | nil => rfl | cons a r => have := zBG hx (id := a) (by rw [hh]; simp); rw [h.2] at this; simp at this))]
theorem zLa {sz : Nat} {es : List D} (h : refsB (.row sz false es) = []) : ∀ x ∈ es, refs x = [] := fun x hx => by
 cases hh : refs x with
 | nil => rfl
 | cons a r => have := zBG hx (id := a) (by rw [hh]; simp); simp only [refsB] at h; rw [h] at this; simp at this
theorem zTI {es : List D} (h : refsB (.box es) = []) : ∀ x ∈ es, refs x = [] := fun x hx => by
 cases hh : refs x with
 | nil => rfl
 | cons a r => have := zBG hx (id := a) (by rw [hh]; simp); simp only [refsB] at h; rw [h] at this; simp at this
theorem zZE {H H' : Hp} : ∀ (n : Nat) (d : D), (∀ id ∈ refs d, H' id = H id ∧ refsB (H id) = []) → bor H' n d = bor H n d := by
 intro n
 induction n with
 | zero => intro d _; rfl
 | succ n ih =>
   intro d h
   cases d <;> simp only [bor] <;> try rfl
   case own id off len =>
     obtain ⟨h1, h2⟩ := h id (by simp [refs])
     rw [h1]
     cases hh : H id <;> try rfl
     rename_i sz pl es
     cases pl
     · simp only
       rw [zBz _ (fun x hx => zGD n x (zLa (hh ▸ h2) x (tA2 (tAS hx))))]
     · rfl
   case ptr id off =>
     obtain ⟨h1, h2⟩ := h id (by simp [refs])
     rw [h1]
     cases hh : H id <;> try rfl
     simp only
     rw [zBz _ (fun x hx => zGD n x (zTI (hh ▸ h2) x (tA2 hx)))]
   case rowp id ix off =>
     obtain ⟨h1, h2⟩ := h id (by simp [refs])
     rw [h1]
     cases hh : H id <;> try rfl
     rename_i sz pl es
     cases pl
     · simp only
       cases he : es[ix]? with
       | none => rfl
       | some e =>
         simp only [tAg]
         rw [zBz _ (fun x hx => zGD n x (by
           have := zLa (hh ▸ h2) e (tAB he)
           cases hq : refs x with
           | nil => rfl
           | cons a r => have hc := zI5 (tA2 hx) (id := a) (by rw [hq]; simp); rw [this] at hc; simp at hc))]
     · rfl
   case agg cs => rw [zBz cs (fun x hx => ih x (fun id hid => h id (by simp only [refs]; exact zBG hx hid)))]
   case tup cs => rw [zBz cs (fun x hx => ih x (fun id hid => h id (by simp only [refs]; exact zBG hx hid)))]
   case fn f p q =>
     rw [zBz p (fun x hx => ih x (fun id hid => h id (by simp only [refs, tAz]; exact .inl (zBG hx hid)))),
       zBz q (fun x hx => ih x (fun id hid => h id (by simp only [refs, tAz]; exact .inr (zBG hx hid))))]
theorem zKN {f : FuncId} {F : List D → Option Res} {args : Array Operand} {ts : Array TypeId} (hc : cx.rd.contains f = true) (ho : cx.orc f = some F) (hr : zAy nx bef i H (zAp (args.toList.map (ev env))) = true) {X : Option Res}
   (hX : ((args.toList.map (ev env)).mapM (bor H 3)).bind (fun asx => (F asx).bind fun r => if r.al && !(immL (args.toList.map (ev env))) then none else some r) = X) (hl : ∀ r, X = some r → r.hs.length ≤ 64) :
   stepD cx nx bef i ⟨dst, .call ⟨.value (.func f), args, ts⟩, ty, pos, after, g⟩ env H = X.map fun r => (ren (fun k => some (nx + i * 64 + k)) r.r, if r.hs.isEmpty then H else zE9 H (nx + i * 64) r.hs) := by
 have hro : roots env ⟨dst, .call ⟨.value (.func f), args, ts⟩, ty, pos, after, g⟩ = zAp (args.toList.map (ev env)) := by
   have : ∀ l : List Operand, (l.flatMap fun x => refs (ev env x)) = zAp (l.map (ev env)) := by
     intro l
     induction l with
     | nil => rfl
     | cons x r ih => simp [zAp, ih]
   simp only [roots, Op.operands, Call.operands, Array.toList_append, List.flatMap_append, this]
   simp [ev, refs, zAp]
 have hk : zBK cx.rd (Op.call ⟨.value (.func f), args, ts⟩) = 1 := by simp only [zBK, hc, if_true]
 have := zHD (cx := cx) (bef := bef) (i := i) (o := ⟨dst, .call ⟨.value (.func f), args, ts⟩, ty, pos, after, g⟩) (X := X.map fun r => (ren (fun k => some (nx + i * 64 + k)) r.r, r.hs)) hk (by rw [hro]; exact hr) (fun H' hH => by
   rw [hro] at hH
   rw [zM2]
   simp only [ev, tAJ, tAo]
   unfold zBI
   simp only [ho]
   have hb : (args.toList.map (ev env)).mapM (bor H' 3) = (args.toList.map (ev env)).mapM (bor H 3) := zBz _ (fun x hx => zZE 3 x (fun id hid => by
     refine ⟨hH id (zBG hx hid), ?_⟩
     simp only [zAy, tAd] at hr
     have := tAw.1 hr.2 id (zBG hx hid)
     simp at this; exact this.2))
   rw [hb, ← hX]
   cases (args.toList.map (ev env)).mapM (bor H 3) with
   | none => rfl
   | some asx =>
     simp only [tAg]
     cases F asx with
     | none => rfl
     | some r =>
       simp only [tAg]
       split <;> simp) (fun r hr => by
     simp only [tAe] at hr
     obtain ⟨r', h1, rfl⟩ := hr
     exact hl r' h1)
 rw [this, tBf]; rfl
end
def updL (H : Hp) : List (Nat × Blk) → Hp
 | [] => H
 | (a, b) :: r => updL (upd H a b) r
def clr (H : Hp) (nid : Nat) : Hp := fun id => if nid ≤ id ∧ id < nid + 64 then .gone else H id
theorem yFp {H : Hp} {nid id : Nat} (h : id < nid ∨ nid + 64 ≤ id) : clr H nid id = H id := by unfold clr; rw [if_neg (by omega)]
theorem yI4 {H : Hp} {nid id : Nat} (h : nid ≤ id ∧ id < nid + 64) : clr H nid id = .gone := by unfold clr; rw [if_pos h]
theorem zGa {F G : Hp} {id : Nat} : ∀ (K : List (Nat × Blk)) (F G : Hp), F id = G id → updL F K id = updL G K id
 | [], F, G, h => h
 | (a, b) :: r, F, G, h => by
   simp only [updL]
   refine zGa (F := F) (G := G) r _ _ ?_
   by_cases e : id = a
   · subst e; simp [upd]
   · rw [upd_ne _ _ e, upd_ne _ _ e]; exact h
theorem zN0 {id : Nat} : ∀ (K : List (Nat × Blk)) (F : Hp), (∀ p ∈ K, p.1 ≠ id) → updL F K id = F id
 | [], _, _ => rfl
 | (a, b) :: r, F, h => by
   simp only [updL]
   rw [zN0 r _ (fun p hp => h p (by simp [hp])), upd_ne _ _ (fun e => h (a, b) (by simp) e.symm)]

section
variable {cx : Cx} {l : List Nat} {nx bef i : Nat} {env : Nat → D} {H : Hp} {dst : Option Tmp} {ty t : TypeId} {pos : String} {after : Array Edge} {g : Option (Nat × Bool)} {x y z : Operand}

theorem zGS {o : Oper} {X : Option (D × List (Nat × Blk) × Nat)} (hk : zBK cx.rd o.op = 2) (hr : zAy nx bef i H (roots env o) = true)
   (h : ∀ H' : Hp, (∀ id ∈ roots env o, H' id = H id) → opD cx env o H' (nx + i * 64) = X.map fun r => (r.1, updL H' r.2.1, nx + i * 64 + r.2.2))
   (hl : ∀ r, X = some r → r.2.2 ≤ 64 ∧ ∀ p ∈ r.2.1, p.1 ∈ roots env o ∨ (nx + i * 64 ≤ p.1 ∧ p.1 < nx + i * 64 + 64)) :
   stepD cx nx bef i o env H = X.map fun r => (r.1, updL (clr H (nx + i * 64)) r.2.1) := by
 obtain ⟨q, q1, hq, q4, h1, h2, h3⟩ := zN3 hr
 unfold stepD
 rw [if_neg (by omega)]
 simp only [q1]
 rw [h1, h2, h3]
 have hK := h (zBv q H) (fun id hid => by unfold zBv; rw [if_pos (by simpa using q4 id hid)])
 cases X with
 | none => simp [hK]
 | some r =>
   obtain ⟨hl1, hl2⟩ := hl r rfl
   simp only [hK, tBp, if_true, tAF, tAg, hk]
   rw [if_pos (by omega), if_neg (by omega)]
   congr 2
   funext id
   unfold mend
   by_cases hid : nx + i * 64 ≤ id ∧ id < nx + i * 64 + 64
   · rw [if_pos (by simp [hid])]
     refine zGa (F := H) (G := H) _ _ _ ?_
     have hnm : ¬ id ∈ q := fun hm => by have := zGY (hq id hm).2.1; omega
     rw [yI4 hid]; unfold zBv; rw [if_neg (by simpa using hnm)]
   · by_cases hm : id ∈ q
     · rw [if_pos (by simp [hm])]
       refine zGa (F := H) (G := H) _ _ _ ?_
       unfold zBv clr; rw [if_pos (by simpa using hm), if_neg hid]
     · rw [if_neg (by simp [hm]; omega), zN0, clr, if_neg hid]
       intro p hp e
       rcases hl2 p hp with h' | h'
       · exact hm (q4 _ (e ▸ h'))
       · exact hid (e ▸ h')

def zBR (P : Program) (t : TypeId) (H : Hp) (nid : Nat) (s x : D) : Option (D × List (Nat × Blk) × Nat) :=
 (zBL P t).bind fun e => (P.info? e).bind fun inf => (elems H inf.size x).bind fun (px, ys) => (zFl P e).bind fun z =>
 if inf.size = 0 ∨ inf.bytes = 0 ∨ z.length ≠ inf.size then none else
 match s with
 | .nils => if ys.length * inf.bytes ≤ 140737488355328 then some (.own nid 0 ys.length, [(nid, .row inf.size px ys)], 1) else none
 | .vec sz true es => if sz = inf.size ∧ (es = [] ∨ ys ≠ []) ∧ (es.length + ys.length) * inf.bytes ≤ 140737488355328 then some (.own nid 0 (es.length + ys.length), [(nid, .row inf.size px (es ++ ys))], 1) else none
 | .own id off len => match H id with
   | .row sz pl es => if sz = inf.size ∧ off + len = es.length ∧ (len + ys.length) * inf.bytes ≤ 140737488355328 then
       some (.own nid 0 (len + ys.length), [(id, .gone), (nid, .row sz (pl && px) (es.drop off ++ ys))], 1) else none
   | _ => none
 | _ => none
theorem zRR {P : Program} {nid : Nat} {s x : D} : zBY P t H nid s x = (zBR P t H nid s x).map fun r => (r.1, updL H r.2.1, nid + r.2.2) := by
 unfold zBY zBR
 cases zBL P t with
 | none => rfl
 | some e =>
 simp only [tAg]
 cases P.info? e with
 | none => rfl
 | some inf =>
 simp only [tAg]
 cases elems H inf.size x with
 | none => rfl
 | some r =>
 obtain ⟨px, ys⟩ := r
 simp only [tAg]
 cases zFl P e with
 | none => rfl
 | some z =>
 simp only [tAg]
 split
 · rfl
 · cases s
   case nils => simp only []; split <;> rfl
   case vec sz cl es => cases cl <;> first | rfl | (simp only []; split <;> rfl)
   case own id off len =>
     simp only []
     generalize H id = b
     cases b <;> first | rfl | (simp only []; split <;> rfl)
   all_goals rfl
theorem zNH {P : Program} {nid : Nat} {s x : D} {r : D × List (Nat × Blk) × Nat} (h : zBR P t H nid s x = some r) : r.2.2 = 1 ∧ ∀ p ∈ r.2.1, p.1 ∈ refs s ∨ p.1 = nid := by
 unfold zBR at h
 simp only [tAc] at h
 obtain ⟨e, _, inf, _, ⟨px, ys⟩, _, z, _, h⟩ := h
 split at h
 · cases h
 · cases s <;> simp only [reduceCtorEq] at h
   case nils => split at h <;> simp at h; subst h; simp
   case vec sz cl es => cases cl <;> simp only [reduceCtorEq] at h; split at h <;> simp at h; subst h; simp
   case own id off len =>
     cases hh : H id <;> simp only [hh, reduceCtorEq] at h
     split at h <;> simp at h
     subst h
     simp [refs]
theorem zMa {P : Program} {H' : Hp} {nid : Nat} {s x : D} (hs : ∀ id ∈ refs s, H' id = H id) (hx : ∀ id ∈ refs x, H' id = H id) : zBR P t H' nid s x = zBR P t H nid s x := by
 unfold zBR
 simp only [zRy hx]
 cases zBL P t with
 | none => rfl
 | some e =>
 simp only [tAg]
 cases P.info? e with
 | none => rfl
 | some inf =>
 simp only [tAg]
 cases elems H inf.size x with
 | none => rfl
 | some r =>
 obtain ⟨px, ys⟩ := r
 simp only [tAg]
 cases zFl P e with
 | none => rfl
 | some z =>
 simp only [tAg]
 cases s
 case own id off len =>
   simp only [refs, tAy, forall_eq] at hs
   simp only [hs]
 case vec sz cl es => cases cl <;> rfl
 all_goals rfl
theorem zMQ {t' : TypeId} (hr : zAy nx bef i H (refs (ev env x) ++ refs (ev env y)) = true) : stepD cx nx bef i ⟨dst, .call ⟨.builtin .append, #[x, y], #[t, t']⟩, ty, pos, after, g⟩ env H =
   (if zBP cx.P t' (ev env y) then zBR cx.P t H (nx + i * 64) (ev env x) (ev env y) else none).map fun r => (r.1, updL (clr H (nx + i * 64)) r.2.1) := by
 have hro : roots env ⟨dst, .call ⟨.builtin .append, #[x, y], #[t, t']⟩, ty, pos, after, g⟩ = refs (ev env x) ++ refs (ev env y) := by simp [roots, Op.operands, Call.operands]
 refine zGS rfl (by rw [hro]; exact hr) (fun H' hH => ?_) (fun r hr' => ?_)
 · rw [hro] at hH
   rw [zDI]
   simp only [zAd, Array.toList, tAO, tBn]
   split
   · rw [zRR, zMa (fun id hid => hH id (by simp [hid])) (fun id hid => hH id (by simp [hid]))]
   · rfl
 · split at hr'
   · obtain ⟨h1, h2⟩ := zNH hr'
     refine ⟨by omega, fun p hp => ?_⟩
     rw [hro]
     rcases h2 p hp with h | h
     · exact .inl (by simp [h])
     · exact .inr (by omega)
   · cases hr'

theorem zHE {n : Nat} {ps : Array (Nat × Operand)} (hr : zAy nx bef i H (roots env ⟨dst, .buildSlice t n ps, ty, pos, after, g⟩) = true) : stepD cx nx bef i ⟨dst, .buildSlice t n ps, ty, pos, after, g⟩ env H =
   ((zBL cx.P t).bind fun e => (szT cx.P e).bind fun sz => (zDn cx.P e sz).bind fun z =>
   if n * sz ≤ 16777216 ∧ 0 ≤ n then (zAz sz (List.replicate n z) (ps.toList.map fun (i, x) => (i, ev env x))).map fun es => (.own (nx + i * 64) 0 n, zE9 H (nx + i * 64) [.row sz (immL es) es]) else none) := by
 have hput : ∀ (H : Hp) n b, upd H n b = zB8 H n [b] := fun H n b => by
   funext id
   unfold upd zB8
   by_cases h : id = n
   · subst h; simp
   · rw [if_neg h]
     split
     · rw [tBu (by simp; omega)]; rfl
     · rfl
 have := zHD (cx := cx) (bef := bef) (i := i) (o := ⟨dst, .buildSlice t n ps, ty, pos, after, g⟩) (X := (zBL cx.P t).bind fun e => (szT cx.P e).bind fun sz => (zDn cx.P e sz).bind fun z =>
   if n * sz ≤ 16777216 ∧ 0 ≤ n then (zAz sz (List.replicate n z) (ps.toList.map fun (i, x) => (i, ev env x))).map fun es => (.own (nx + i * 64) 0 n, [.row sz (immL es) es]) else none) rfl hr (fun H' hH => by
     rw [zFJ]
     cases zBL cx.P t with
     | none => rfl
     | some e =>
     simp only [tAg]
     cases szT cx.P e with
     | none => rfl
     | some sz =>
     simp only [tAg]
     cases zDn cx.P e sz with
     | none => rfl
     | some z =>
     simp only [tAg]
     split
     · cases zAz sz (List.replicate n z) (ps.toList.map fun (i, x) => (i, ev env x)) <;> simp [hput]
     · rfl) (fun r hr => by
     simp only [tAc] at hr
     obtain ⟨_, _, _, _, _, _, hr⟩ := hr
     split at hr
     · simp only [tAe] at hr
       obtain ⟨_, _, rfl⟩ := hr
       simp
     · cases hr)
 rw [this]
 cases zBL cx.P t with
 | none => rfl
 | some e =>
 simp only [tAg]
 cases szT cx.P e with
 | none => rfl
 | some sz =>
 simp only [tAg]
 cases zDn cx.P e sz with
 | none => rfl
 | some z =>
 simp only [tAg]
 split
 · cases zAz sz (List.replicate n z) (ps.toList.map fun (i, x) => (i, ev env x)) <;> simp
 · rfl
end
theorem zSs {ks ids : List Nat} {st : St} (hr : ∀ id ∈ ids, refsB (st.H id) = [] ∧ renBlk (ixOf ids) (st.H id) = st.H id) (h : zAY st.H 60 (zAp (ks.map st.env)) [] = ids) (hl : (zAp (ks.map st.env)).all (fun j => ids.contains j) = true) :
   tidy 0 ks st = some ⟨zDJ (ks.map fun t => (t, ren (ixOf ids) (st.env t))), ofHp (ids.map st.H), ids.length⟩ := by
 unfold tidy zCH
 simp only [List.range_zero, List.flatMap_nil, tAo, h]
 have hc : closed st.H ids = true := by
   simp only [closed, tAw]
   intro id hid
   rw [(hr id hid).1]; simp
 rw [hc, hl]
 simp only [tBp, if_true, tAb, St.mk.injEq, true_and, and_true]
 have : ids.map (fun i => renBlk (ixOf ids) (st.H i)) = ids.map st.H := tBo (fun id hid => (hr id hid).2)
 rw [this]

theorem zEN {f : Nat → Option Nat} : ∀ {es : List D}, (∀ x ∈ es, refs x = []) → renL f es = es
 | [], _ => rfl
 | x :: r, h => by rw [renL, zCp f x (h x (by simp)), zEN (fun y hy => h y (by simp [hy]))]
def zBn : Blk → Prop
 | .row _ true es => ∀ x ∈ es, refs x = []
 | .row _ false _ => False
 | .mp es => ∀ p ∈ es, refs p.1 = [] ∧ refs p.2 = []
 | .box cs => ∀ x ∈ cs, refs x = []
 | .gone => False
theorem zCa {b : Blk} (h : zBn b) (f : Nat → Option Nat) : refsB b = [] ∧ renBlk f b = b := by
 cases b with
 | gone => exact h.elim
 | box cs =>
   refine ⟨?_, by simp only [renBlk, zEN h]⟩
   simp only [refsB]
   have : ∀ l : List D, (∀ x ∈ l, refs x = []) → zAp l = [] := fun l => by
     induction l with
     | nil => intro _; rfl
     | cons a r ih => intro h; rw [zAp, h a (by simp), ih (fun y hy => h y (by simp [hy]))]; rfl
   exact this cs h
 | row sz pl es =>
   cases pl
   · exact h.elim
   · exact ⟨rfl, by simp only [renBlk, zEN h]⟩
 | mp es => exact ⟨rfl, by
     simp only [renBlk]⟩

section
variable {cx : Cx} {c : Code} {st : St} {k : Ex → St → Tok → Prop}
theorem zR4 : ∀ (ks : List Nat) (f : Nat → D) (l : List D), ks.map f = l → (ks.map fun t => (t, f t)) = ks.zip l := by
 intro ks
 induction ks with
 | nil => intro f l h; subst h; rfl
 | cons a r ih => intro f l h; subst h; simp only [tAO, List.zip_cons_cons, ih f _ rfl]
theorem zAv {σ : Type} (I : σ → List D) (R : σ → List Blk) (J : σ → Prop) (m : σ → Nat) (ks : List Nat) (hbs : cx.bs = 0) (hk : cx.kp (zBt c) = some ks)
   (hR : ∀ s, J s → ∀ b ∈ R s, zBn b)
   (h : ∀ s, J s → EvX .go cx c ⟨zDJ (ks.zip (I s)), ofHp (R s), (R s).length⟩ fun e st' t => match e with
     | .nrm => ∃ (ids : List Nat) (s' : σ), zAY st'.H 60 (zAp (ks.map st'.env)) [] = ids ∧ (zAp (ks.map st'.env)).all (fun j => ids.contains j) = true ∧ ks.map (fun t => ren (ixOf ids) (st'.env t)) = I s' ∧ ids.map st'.H = R s' ∧ J s' ∧ m s' < m s
     | e => k e st' t)
   {s : σ} (ids : List Nat) (h1 : zAY st.H 60 (zAp (ks.map st.env)) [] = ids) (h2 : (zAp (ks.map st.env)).all (fun j => ids.contains j) = true) (h3 : ks.map (fun t => ren (ixOf ids) (st.env t)) = I s) (h4 : ids.map st.H = R s) (hJ : J s) : EvX .go cx (.loop c) st k := by
 have key : ∀ (st : St) (ids : List Nat) (s : σ), J s → zAY st.H 60 (zAp (ks.map st.env)) [] = ids → (zAp (ks.map st.env)).all (fun j => ids.contains j) = true → ks.map (fun t => ren (ixOf ids) (st.env t)) = I s → ids.map st.H = R s →
     tidy 0 ks st = some ⟨zDJ (ks.zip (I s)), ofHp (R s), (R s).length⟩ := by
   intro st ids s hJ h1 h2 h3 h4
   rw [zSs (ids := ids) (fun id hid => zCa (hR s hJ _ (by rw [← h4]; exact tBk.2 ⟨id, hid, rfl⟩)) _) h1 h2]
   rw [zR4 ks _ _ h3, h4, ← h4, tAI]
 refine zJ7 (fun s => ⟨zDJ (ks.zip (I s)), ofHp (R s), (R s).length⟩) J m ks hk (fun e s => e ≠ .nrm ∧ k e s .go) (fun s hs => ?_) (fun e s h _ => h.2) (s := s) ?_ hJ
 · obtain ⟨r, hr, hq⟩ := h s hs
   refine ⟨r, hr, ?_⟩
   obtain ⟨e, st'⟩ := r
   cases e with
   | nrm =>
     obtain ⟨ids, s', q1, q2, q3, q4, q5, q6⟩ := hq
     exact ⟨s', by rw [hbs]; exact key st' ids s' q5 q1 q2 q3 q4, q5, q6⟩
   | _ => exact ⟨by simp, hq⟩
 · rw [hbs]; exact key st ids s hJ h1 h2 h3 h4
end

def gvec {α : Type} (sz : Nat) (E : α → D) : Option Bool → List α → D
 | none, [] => .nils
 | o, xs => .vec sz (o.getD false) (xs.map E)
section
variable {α : Type} {sz : Nat} {E : α → D} {P : Program} {H : Hp} {t e : TypeId} {o : Option Bool} {xs : List α} {k : IntKind}
theorem zES (sz : Nat) (E : α → D) (o : Option Bool) (xs : List α) : (gvec sz E o xs = .nils ∧ xs = [] ∧ o = none) ∨ gvec sz E o xs = .vec sz (o.getD false) (xs.map E) := by
 cases o <;> cases xs <;> simp [gvec]
theorem zA0 : refs (gvec sz E o xs) = [] := by rcases zES sz E o xs with ⟨h, _⟩ | h <;> rw [h] <;> rfl
theorem zYZ : immD (gvec sz E o xs) = true := by rcases zES sz E o xs with ⟨h, _⟩ | h <;> rw [h] <;> rfl
theorem zOV {f : Nat → Option Nat} : ren f (gvec sz E o xs) = gvec sz E o xs := zCp f _ zA0
theorem zRQ : cellsOf (gvec sz E o xs) = some [gvec sz E o xs] := by rcases zES sz E o xs with ⟨h, _⟩ | h <;> rw [h] <;> rfl
theorem zRz : elems H sz (gvec sz E o xs) = some (true, xs.map E) := by
 rcases zES sz E o xs with ⟨h, rfl, _⟩ | h <;> rw [h] <;> simp [elems]
end

def appK (sz by' : Nat) (H : Hp) (nid : Nat) (s x : D) : Option (D × Hp × Nat) :=
 (elems H sz x).bind fun r => match s with
 | .nils => if r.2.length * by' ≤ 140737488355328 then some (.own nid 0 r.2.length, upd H nid (.row sz r.1 r.2), nid + 1) else none
 | .vec sz' true es => if sz' = sz ∧ (es = [] ∨ r.2 ≠ []) ∧ (es.length + r.2.length) * by' ≤ 140737488355328 then some (.own nid 0 (es.length + r.2.length), upd H nid (.row sz r.1 (es ++ r.2)), nid + 1) else none
 | .own id off len => match H id with
   | .row sz' pl es => if sz' = sz ∧ off + len = es.length ∧ (len + r.2.length) * by' ≤ 140737488355328 then
       some (.own nid 0 (len + r.2.length), upd (upd H id .gone) nid (.row sz' (pl && r.1) (es.drop off ++ r.2)), nid + 1) else none
   | _ => none
 | _ => none
def appT (P : Program) (t : TypeId) (sz by' : Nat) : Bool := match zBL P t with
 | some e => match P.info? e, zFl P e with
   | some inf, some z => inf.size == sz && inf.bytes == by' && z.length == sz && decide (0 < sz) && decide (0 < by')
   | _, _ => false
 | none => false
theorem zIn {P : Program} {t : TypeId} {sz by' : Nat} {H : Hp} {nid : Nat} {s x : D} (h : appT P t sz by' = true) : zBY P t H nid s x = appK sz by' H nid s x := by
 unfold appT at h
 unfold zBY appK
 cases he : zBL P t with
 | none => simp [he] at h
 | some e =>
 simp only [he] at h
 cases hi : P.info? e with
 | none => simp [hi] at h
 | some inf =>
 simp only [hi] at h
 cases hz : zFl P e with
 | none => simp [hz] at h
 | some z =>
 simp only [hz, tAd, beq_iff_eq, decide_eq_true_eq] at h
 obtain ⟨⟨⟨⟨h1, h2⟩, h3⟩, h4⟩, h5⟩ := h
 subst h1; subst h2
 simp only [tAg, he, hi, hz]
 cases hel : elems H inf.size x with
 | none => rfl
 | some r =>
 obtain ⟨px, ys⟩ := r
 simp only [tAg]
 rw [if_neg (by omega)]
 all_goals (cases s <;> rfl)
def zKr (sz by' : Nat) (H : Hp) (nid : Nat) (s x : D) : Option (D × List (Nat × Blk) × Nat) :=
 (elems H sz x).bind fun r => match s with
 | .nils => if r.2.length * by' ≤ 140737488355328 then some (.own nid 0 r.2.length, [(nid, .row sz r.1 r.2)], 1) else none
 | .vec sz' true es => if sz' = sz ∧ (es = [] ∨ r.2 ≠ []) ∧ (es.length + r.2.length) * by' ≤ 140737488355328 then some (.own nid 0 (es.length + r.2.length), [(nid, .row sz r.1 (es ++ r.2))], 1) else none
 | .own id off len => match H id with
   | .row sz' pl es => if sz' = sz ∧ off + len = es.length ∧ (len + r.2.length) * by' ≤ 140737488355328 then
       some (.own nid 0 (len + r.2.length), [(id, .gone), (nid, .row sz' (pl && r.1) (es.drop off ++ r.2))], 1) else none
   | _ => none
 | _ => none
theorem zFi {P : Program} {t : TypeId} {sz by' : Nat} {H : Hp} {nid : Nat} {s x : D} (h : appT P t sz by' = true) : zBR P t H nid s x = zKr sz by' H nid s x := by
 unfold appT at h
 unfold zBR zKr
 cases he : zBL P t with
 | none => simp [he] at h
 | some e =>
 simp only [he] at h
 cases hi : P.info? e with
 | none => simp [hi] at h
 | some inf =>
 simp only [hi] at h
 cases hz : zFl P e with
 | none => simp [hz] at h
 | some z =>
 simp only [hz, tAd, beq_iff_eq, decide_eq_true_eq] at h
 obtain ⟨⟨⟨⟨h1, h2⟩, h3⟩, h4⟩, h5⟩ := h
 subst h1; subst h2
 simp only [tAg, he, hi, hz]
 cases hel : elems H inf.size x with
 | none => rfl
 | some r =>
 obtain ⟨px, ys⟩ := r
 simp only [tAg]
 rw [if_neg (by omega)]
 all_goals (cases s <;> rfl)
def cD := tAa @yEN (tAa @zRv (tAa @zZi (tAa @zVf (tAa @zZg (tAa @yEO (tAa @zZf (tAa @yER (tAa @zVh (tAa @yEQ (tAa @zVi (tAa @zZh (tAa @yET (tAa @zVj (tAa @yES (tAa @zVk (tAa @zCh (tAa @zCK (tAa @zPG (tAa @zGy (tAa @zVe (tAa @yBO (tAa @yBN (tAa @zVg (tAa @zV7 (tAa @zPX (tAa @zUi (tAa @zRA (tAa @zRB (tAa @yC8 (tAa @zT7 (tAa @yC7 (tAa @yHm (tAa @yJP (tAa @zM2 (tAa @zDI (tAa @zIU (tAa @zRf (tAa @zT5 (tAa @zO1 (tAa @zX9 (tAa @yHl (tAa @zX8 (tAa @zFJ (tAa @zHT (tAa @zM1 (tAa @zLl (tAa @zO3 (tAa @zGG (tAa @zO4 (tAa @zGF (tAa @zX7 (tAa @zLm (tAa @zLk (tAa @zT6 (tAa @yIF (tAa @zZe (tAa @yEM (tAa @yGm (tAa @yCg (tAa @zSk (tAa @zNZ (tAa @zXM (tAa @zXN (tAa @zXX (tAa @zXW (tAa @zYl (tAa @zUf (tAa @zYm (tAa @zYo (tAa @zUg (tAa @zM4 (tAa @zYp (tAa @zYg (@zUb))))))))))))))))))))))))))))))))))))))))))))))))))))))))))))))))))))))))))
def cU := tAa @zCh (tAa @zCK (tAa @zPG (tAa @zGy (tAa @zVe (tAa @yBO (tAa @yEU (tAa @yBN (tAa @zVg (tAa @yEP (tAa @zV7 (tAa @zPX (tAa @zUi (tAa @one_one (tAa @yC9 (tAa @zT8 (tAa @yEn (tAa @yEm (tAa @zTG (tAa @yCT (tAa @yCU (tAa @yCS (tAa @zGm (tAa @zAZ (tAa @zYY (tAa @zA0 (tAa @zYZ (tAa @zOV (tAa @zXZ (tAa @zRQ (tAa @zRz (@yFp)))))))))))))))))))))))))))))))
def cS := tAa @zSB (tAa @zMP (tAa @zSA (tAa @zQP (tAa @zXE (tAa @yCu (tAa @zIK (tAa @zQN (tAa @zJs (tAa @zKM (tAa @zSC (tAa @zJr (tAa @zIF (tAa @zIE (tAa @zMO (tAa @zQM (tAa @zXD (tAa @zXB (tAa @zXC (tAa @zMQ (@zHE))))))))))))))))))))
theorem wrap64 {n : Int} (h : -9223372036854775808 ≤ n) (h' : n < 9223372036854775808) : IntKind.i64.wrap n = n := by
 simp only [IntKind.wrap, IntKind.signed, IntKind.bits]
 simp
 omega
theorem wrap32 {n : Int} : IntKind.u32.wrap n = n % 4294967296 := by
 simp [IntKind.wrap, IntKind.signed, IntKind.bits]
theorem zDR {n : Int} : IntKind.u64.wrap n = n % 18446744073709551616 := by
 simp [IntKind.wrap, IntKind.signed, IntKind.bits]
abbrev Sm {α : Type} (l : List α) : Prop := (l.length : Int) < 4611686018427387904
theorem zBF {n : Nat} (hn : (n : Int) < 4611686018427387904) (i : Nat) (h : (i : Int) < n) : IntKind.i64.wrap ((i : Int) + 1) = ((i + 1 : Nat) : Int) := by rw [wrap64 (by omega) (by omega)]; simp
theorem drop_at {α : Type} [Inhabited α] {zs : List α} {i : Nat} (h : (i : Int) < zs.length) : zs.drop i = zs[i]! :: zs.drop (i + 1) := by
 have h' : i < zs.length := by omega
 rw [List.drop_eq_getElem_cons h', getElem!_pos zs i h']
theorem zBE {α : Type} {zs : List α} {i : Nat} (h : ¬ (i : Int) < zs.length) : zs.drop i = [] := List.drop_eq_nil_of_le (by omega)
open Classical in
noncomputable def mkF {σ : Type} (enc : σ → List D) (pre : σ → Prop) (out : σ → Res) : List D → Option Res := fun ds => if h : ∃ s, enc s = ds ∧ pre s then some (out h.choose) else none
theorem zBV {σ : Type} {enc : σ → List D} {pre : σ → Prop} {out : σ → Res} {s : σ} (hinj : ∀ s s', enc s = enc s' → out s = out s') (hp : pre s) : mkF enc pre out (enc s) = some (out s) := by
 have h : ∃ s', enc s' = enc s ∧ pre s' := ⟨s, rfl, hp⟩
 unfold mkF
 rw [dif_pos h, hinj _ _ h.choose_spec.1]
theorem zCq {σ : Type} {enc : σ → List D} {pre : σ → Prop} {out : σ → Res} {ds : List D} {r : Res} (h : mkF enc pre out ds = some r) : ∃ s, ds = enc s ∧ pre s ∧ r = out s := by
 unfold mkF at h
 split at h
 · rename_i hs
   simp only [tAb] at h
   exact ⟨_, hs.choose_spec.1.symm, hs.choose_spec.2, h.symm⟩
 · cases h
theorem yHJ {k : IntKind} : ∀ a b : Int, D.it k a = D.it k b → a = b := fun a b h => by cases h; rfl
theorem yGB : ∀ a b : List UInt8, D.st a = D.st b → a = b := fun a b h => by cases h; rfl
theorem Known.add {K : Known} (h : K.OK) (hP : K.P.follows .mixedOrders = true) {g : FuncId} {fn : Func} {c : Code} (kp : Nat → Option (List Nat)) (hb : Body K.P (K.cx kp).rd g fn c) {σ : Type} {enc : σ → List D} {pre : σ → Prop} {out : σ → Res} {n : Nat} (hn : n ≤ fn.ntmps) (hl : ∀ s, (enc s).length = n)
   (ks : List Nat) (al : Bool) (hF : ∀ s, pre s → zAg (K.cx kp) fn ks al (enc s) = some (out s)) : (K.pure g (mkF enc pre out)).OK :=
 Known.fn h hP kp hb (fun ds r hr => by
   obtain ⟨s, rfl, hp, rfl⟩ := zCq hr
   exact ⟨by rw [hl]; exact hn, ks, al, hF s hp⟩)
def zIl (F : List D → Option Res) (asx : List D) (H : Hp) : Option Res :=
 (asx.mapM (bor H 3)).bind fun as' => (F as').bind fun r => if r.al && !(immL asx) then none else some r
def borL (H : Hp) : List D → Option (List D)
 | [] => some []
 | d :: r => (bor H 3 d).bind fun d' => (borL H r).map (d' :: ·)
theorem zV9 (H : Hp) : ∀ l : List D, l.mapM (bor H 3) = borL H l
 | [] => rfl
 | d :: r => by rw [tA8, zV9 H r, borL]; cases bor H 3 d <;> cases borL H r <;> rfl
section
variable {cx : Cx} {H : Hp} {nid nx bef i : Nat} {F : List D → Option Res} {asx : List D} {g : FuncId} {env : Nat → D} {dst : Option Tmp} {ty t : TypeId} {pos : String} {after : Array Edge} {gd : Option (Nat × Bool)}
theorem zAi (h : immL asx = true) : zIl F asx H = F asx := by
 have hm : ∀ l : List D, immL l = true → l.mapM (bor H 3) = some l := by
   intro l
   induction l with
   | nil => intro _; rfl
   | cons x r ih => intro h; simp only [immL, tAd] at h; rw [tA8, zFg 3 x h.1, ih h.2]; rfl
 unfold zIl
 rw [hm asx h, h]
 simp
theorem zAk : zIl F [] H = F [] := zAi (by simp only [immL])
theorem zAc : zIl F asx H = (borL H asx).bind fun as' => (F as').bind fun r => if r.al && !(immL asx) then none else some r := by unfold zIl; rw [zV9]
theorem zAm {n : Nat} {d : D} (h : immD d = true) : bor H n d = some d := zFg n d h
theorem zAj {n id off len : Nat} : bor H (n + 1) (.own id off len) = match H id with
     | .row sz true es => some (.vec sz false ((es.drop off).take len))
     | .row sz false es => (((es.drop off).take len).mapM (bor H n)).map (.vec sz false)
     | _ => none := rfl
theorem zZB (ho : cx.orc g = some F) : zBI cx g asx H nid = (zIl F asx H).map fun r => (ren (fun i => some (nid + i)) r.r, zB8 H nid r.hs, nid + r.hs.length) := by
 unfold zBI zIl
 simp only [ho]
 cases asx.mapM (bor H 3) with
 | none => rfl
 | some as' =>
   simp only [tAg]
   cases F as' with
   | none => rfl
   | some r =>
     simp only [tAg]
     split <;> simp
theorem zFb {P : Program} {t e : TypeId} {id off len : Nat} (hu : P.underlying t = some (.slice e)) : lenD P H t (.own id off len) = match H id with | .row _ _ _ => some (len : Int) | _ => none := by
 simp only [lenD, hu]
 cases H id <;> rfl
theorem zDs {P : Program} {t e : TypeId} {id off len : Nat} (hu : P.underlying t = some (.slice e)) : zBP P t (.own id off len) = true := by simp only [zBP, hu]
theorem zAe {f : Int → Int → Int} {k k' : IntKind} {p q : Int} : minD f [.it k p, .it k' q] = some (.it k (f p q)) := rfl
def yCv := @stepD
theorem zXA {args : Array Operand} {ts : Array TypeId} (hc : cx.rd.contains g = true) (ho : cx.orc g = some F) (hr : zAy nx bef i H (zAp (args.toList.map (ev env))) = true) :
   stepD cx nx bef i ⟨dst, .call ⟨.value (.func g), args, ts⟩, ty, pos, after, gd⟩ env H = (zIl F (args.toList.map (ev env)) H).bind fun r => if r.hs.length ≤ 64 then some (ren (fun k => some (nx + i * 64 + k)) r.r, if r.hs.isEmpty then H else zE9 H (nx + i * 64) r.hs)
     else yCv cx nx bef i ⟨dst, .call ⟨.value (.func g), args, ts⟩, ty, pos, after, gd⟩ env H := by
 cases h : zIl F (args.toList.map (ev env)) H with
 | none => rw [zKN hc ho hr (X := none) h (fun r hr => by cases hr)]; rfl
 | some r =>
   simp only [tAg]
   split
   · rename_i hl
     rw [zKN hc ho hr (X := some r) h (fun r' hr => by simp at hr; subst hr; exact hl)]; rfl
   · rfl
end
theorem zKl {cx : Cx} {H : Hp} {nid : Nat} {g : FuncId} {F : List D → Option D} {asx : List D} (hn : cx.orc g = none) (he : cx.ext g = some F) (hi : immL asx = true) : zBI cx g asx H nid = (F asx).map fun d => (d, H, nid) := by
 have hm : ∀ l : List D, immL l = true → l.mapM (bor H 3) = some l := by
   intro l
   induction l with
   | nil => intro _; rfl
   | cons x r ih => intro h; simp only [immL, tAd] at h; rw [tA8, zFg 3 x h.1, ih h.2]; rfl
 unfold zBI
 simp only [hn, he, hm asx hi, tAg]
theorem zAa {F : List D → Option Res} {g : FuncId} {cx : Cx} (ho : cx.orc g = some F) (H : Hp) (nid : Nat) (l : List D) : zBI cx g l H nid = (zIl F l H).map fun r => (ren (fun i => some (nid + i)) r.r, zB8 H nid r.hs, nid + r.hs.length) := zZB ho
theorem zAo {F : List D → Option Res} {g : FuncId} {cx : Cx} (hc : cx.rd.contains g = true) (ho : cx.orc g = some F) (nx bef i : Nat) (env : Nat → D) (H : Hp) (dst : Option Tmp) (ty : TypeId) (pos : String) (after : Array Edge) (gd : Option (Nat × Bool)) (args : Array Operand) (ts : Array TypeId) (hr : zAy nx bef i H (zAp (args.toList.map (ev env))) = true) :
   stepD cx nx bef i ⟨dst, .call ⟨.value (.func g), args, ts⟩, ty, pos, after, gd⟩ env H = (zIl F (args.toList.map (ev env)) H).bind fun r => if r.hs.length ≤ 64 then some (ren (fun k => some (nx + i * 64 + k)) r.r, if r.hs.isEmpty then H else zE9 H (nx + i * 64) r.hs)
     else yCv cx nx bef i ⟨dst, .call ⟨.value (.func g), args, ts⟩, ty, pos, after, gd⟩ env H := zXA hc ho hr
section
variable {P : Program} {n : Nat} {t e : TypeId} {d : D}
theorem tda_nil {ds : List D} (h : TDA P n [] ds) : ds = [] := h
theorem tda_cons {ts : List TypeId} {ds : List D} (h : TDA P n (t :: ts) ds) : ∃ d r, ds = d :: r ∧ TD1 P n t d ∧ TDA P n ts r := h
end
theorem Known.OK.get {K : Known} (h : K.OK) (g : FuncId) {F : List D → Option Res} (hg : lk K.orcs g = some F) : PureOK K.P g F := h.orcs (g, F) (zLr hg)
def vecE {α : Type} (sz : Nat) (E : α → D) (xs : List α) : D := .vec sz false (xs.map E)
section
variable {α : Type} {sz : Nat} {E : α → D} {P : Program} {H : Hp} {t e : TypeId} {xs ys : List α} {k : IntKind}
theorem zXj : D.vec sz false (xs.map E) = vecE sz E xs := rfl
theorem zSe : D.vec sz false [] = vecE sz E [] := rfl
theorem zA5 : refs (vecE sz E xs) = [] := rfl
theorem zYX : immD (vecE sz E xs) = true := rfl
theorem zXY {f : Nat → Option Nat} : ren f (vecE sz E xs) = vecE sz E xs := rfl
theorem zRP : cellsOf (vecE sz E xs) = some [vecE sz E xs] := rfl
theorem zNo : D.cells (vecE sz E xs) = [vecE sz E xs] := rfl
theorem zD6 (hu : P.underlying t = some (.slice e)) : lenD P H t (vecE sz E xs) = some (xs.length : Int) := by simp [lenD, hu, vecE]
theorem zEC [Inhabited α] (hu : P.underlying t = some (.slice e)) (hs : szT P e = some sz) {i : Nat} (h : (i : Int) < xs.length) : zAP P H t (vecE sz E xs) (.it k (i : Int)) = some (.elt (E xs[i]!).cells) := by
 have h' : i < xs.length := by omega
 simp [zAP, idx, hu, hs, vecE, getElem!_pos xs i h', h']
theorem zG6 [Inhabited α] (hu : P.underlying t = some (.slice e)) (hs : szT P e = some sz) {n : Int} {i : Nat} (hn : n = i) (h : i < xs.length) : zAP P H t (vecE sz E xs) (.it k n) = some (.elt (E xs[i]!).cells) := by
 subst hn; exact zEC hu hs (by omega)
theorem zQQ (hu : P.underlying t = some (.slice e)) (hs : szT P e = some sz) {lo hi : Option D} {l h : Nat} (hb : bnds xs.length lo hi none = some (l, h, none)) : zAW P H t (vecE sz E xs) lo hi none = some (vecE sz E ((xs.take h).drop l)) := by
 unfold vecE
 simp only [zAW, zBL, hu, tAg, hs, if_true, tAI, hb, tAF, capB]
 simp [tB1, List.map_drop]
theorem zRx : elems H sz (vecE sz E xs) = some (true, xs.map E) := by simp [elems, vecE]
theorem zDV (hu : P.underlying t = some (.slice e)) : zBP P t (vecE sz E xs) = true := by simp [zBP, hu, vecE]
theorem zFo (hE : ∀ a b, E a = E b → a = b) (h : vecE sz E xs = vecE sz E ys) : xs = ys := by
 simp only [vecE, D.vec.injEq, true_and] at h
 exact List.map_inj_right (fun x y hxy => hE x y hxy) |>.1 h
theorem zKK : List.take xs.length (List.map E xs) = List.map E xs := tAM (by simp)
theorem zYr {y : α} : List.map E xs ++ [E y] = List.map E (xs ++ [y]) := by simp
theorem yD8 : List.map E xs ++ List.map E ys = List.map E (xs ++ ys) := by simp
theorem zA2 (hE : ∀ a, refs (E a) = []) : ∀ x ∈ xs.map E, refs x = [] := fun x hx => by obtain ⟨a, _, rfl⟩ := tBk.1 hx; exact hE a
theorem zBJ (hE : ∀ a, zBU (E a) = true) : zBh (xs.map E) = true := by
 induction xs with
 | nil => simp [zBh]
 | cons a r ih => simp [zBh, hE, ih]
end
section
variable {α : Type} [Inhabited α] {l : List α} {i : Nat} {p : α → Bool}
theorem takeN {l : List α} {i : Nat} (h : (i : Int) < l.length) : l.take (i + 1) = l.take i ++ [l[i]!] := by
 have h' : i < l.length := by omega
 rw [List.take_succ_eq_append_getElem h', getElem!_pos l i h']
theorem zAS {α : Type} {l : List α} {i : Nat} (h : ¬ (i : Int) < l.length) : l.take i = l := tAM (by omega)
theorem zH5 (h : (i : Int) < l.length) (hp : p l[i]! = true) : (l.take (i + 1)).filter p = (l.take i).filter p ++ [l[i]!] := by rw [takeN h, tCd, List.filter_cons_of_pos hp, List.filter_nil]
theorem zNc (h : (i : Int) < l.length) (hp : p l[i]! = false) : (l.take (i + 1)).filter p = (l.take i).filter p := by rw [takeN h, tCd, List.filter_cons_of_neg (by simp only [hp]; decide), List.filter_nil, tAo]
theorem zCR (h : (i : Int) < l.length) : (l.take (i + 1)).any p = ((l.take i).any p || p l[i]!) := by rw [takeN h, List.any_append]; simp
theorem zCj (h : (i : Int) < l.length) : (l.take (i + 1)).all p = ((l.take i).all p && p l[i]!) := by rw [takeN h, List.all_append]; simp
theorem zBu {l : List α} {i : Nat} (h : (i : Int) < l.length) : l[i]! ∈ l := by
 have h' : i < l.length := by omega
 rw [getElem!_pos l i h']; exact tBH h'
end
def Res.row (sz : Nat) (es : List D) : Res := ⟨false, .own 0 0 es.length, [.row sz true es]⟩
theorem zCv {cx : Cx} {fn : Func} {c : Code} {ds : List D} {r : Res} {rs : List ResultVar} (hb : fn.body = some c) (hbs : cx.bs = 0) (hrs : fn.results.toList = rs)
   (h : EvX .go cx c ⟨zAq ds, ofHp [], 0⟩ fun e st t => (e = .nrm ∨ e = .ret) ∧ Ev t (resD cx.P st rs) fun out _ => ∃ id len sz es, out = [.own id 0 len] ∧ st.H id = .row sz true es ∧ len = es.length ∧ zBh es = true ∧ Res.row sz es = r) : zAg cx fn [0] false ds = some r := by
 obtain ⟨⟨e, s⟩, he, hen, out, ho, id, len, sz, es, rfl, hH, rfl, hm, rfl⟩ := h
 simp only at hH
 have hr : zAY s.H 60 [id] [] = [id] := by
   have : refsB (s.H id) = [] := by rw [hH]; rfl
   show zAY s.H (59 + 1) [id] [] = [id]
   simp only [zAY, tBM, tAf, if_false, this, tAJ]
 refine zD0 hb hbs [0] false ⟨(e, s), he, hen, _, hrs ▸ ho, ?_, [.row sz true es], ?_, .own 0 0 es.length, ?_, rfl⟩
 · have h1 : zAp [D.own id 0 es.length] = [id] := rfl
   have h2 : closed s.H [id] = true := by simp [closed, hH, refsB]
   simp [zC5, distinct, dry, h1, hr, h2, zBh, zBU, zFL, hH, hm]
 · simp [zC5, zAp, refs, hr, finB, zBv, hH]
 · simp [zC5, finT, finV, ixOf]
def zAN (P : Program) (t : TypeId) (f : Nat) (d : D) : Option D := match d with
 | .agg cs => (zAQ P t f).bind fun fl => zAx P fl.type cs fl.offset
 | _ => none
section
variable {cx : Cx} {nx bef i nid : Nat} {env : Nat → D} {H : Hp} {dst : Option Tmp} {ty t : TypeId} {pos : String} {after : Array Edge} {g : Option (Nat × Bool)} {x y z : Operand} {f : Nat}
theorem zT4 : opD cx env ⟨dst, .field t x f, ty, pos, after, g⟩ H nid = (zAN cx.P t f (ev env x)).map fun d => (d, H, nid) := by
 rw [zO4]
 unfold zAN
 cases ev env x <;> first | rfl | (simp only [Option.map_bind]; rfl)
theorem zMN : stepD cx nx bef i ⟨dst, .field t x f, ty, pos, after, g⟩ env H = (zAN cx.P t f (ev env x)).map fun d => (d, H) := by
 rw [zIK]
 unfold zAN
 cases ev env x <;> first | rfl | (simp only [Option.map_bind]; rfl)
end
theorem zKq {P : Program} {t : TypeId} {a b : D} {cs ds : List D} {r : Bool} (ha : a = .agg cs) (hb : b = .agg ds) (hg : P.eqGuardType P.depth t = false) (h : eqD P 12 t (.agg cs) (.agg ds) = some r) : binD P .eql t a b = some (.bo r) := by
 subst ha; subst hb
 simp only [binD, hg, zEq, h]; rfl
theorem zNE {P : Program} {t : TypeId} {a b : D} {cs ds : List D} {r : Bool} (ha : a = .agg cs) (hb : b = .agg ds) (hg : P.eqGuardType P.depth t = false) (h : eqD P 12 t (.agg cs) (.agg ds) = some r) : binD P .neq t a b = some (.bo (!r)) := by
 subst ha; subst hb
 simp only [binD, hg, zEq, h]; rfl

section
variable {P : Program} {t : TypeId} {n : Nat}
theorem zCs {fs : Array Field} {xs ys : List D} (h : P.underlying t = some (.struct fs)) (hh : P.stoodInHeld t = false) : eqD P (n + 1) t (.agg xs) (.agg ys) = eqF P n fs.toList xs ys := by simp [eqD, h, hh]
theorem zKa {k : IntKind} {a b : Int} (h : P.underlying t = some (.int k)) : eqD P (n + 1) t (.it k a) (.it k b) = some (a == b) := by simp [eqD, h]
theorem zJ9 {a b : List UInt8} (h : P.underlying t = some .string) : eqD P (n + 1) t (.st a) (.st b) = some (a == b) := by simp [eqD, h]
theorem zHe {a b : Bool} (h : P.underlying t = some .bool) : eqD P (n + 1) t (.bo a) (.bo b) = some (a == b) := by simp [eqD, h]
theorem zJ8 {xs ys : List D} : eqF P n [] xs ys = some true := by simp [eqF]
theorem zHd {f : Field} {fs : List Field} {xs ys : List D} (hf : f.name ≠ "_") : eqF P n (f :: fs) xs ys = (zAx P f.type xs f.offset).bind fun p => (zAx P f.type ys f.offset).bind fun q => (eqD P n f.type p q).bind fun r => (eqF P n fs xs ys).map fun r' => r && r' := by rw [eqF, if_neg hf]
end
structure Adr where
 v6 : Bool
 hi : Int
 lo : Int
 deriving DecidableEq, Inhabited
structure Dat where
 adr : Adr
 host : List UInt8
 mail : List UInt8
 text : List UInt8
 a : Int
 b : Int
 c : Int
 d : Int
 e : Int
 f : Int
 bits : Int
 deriving DecidableEq, Inhabited
structure Rec where
 name : List UInt8
 typ : Int
 ttl : Int
 dat : Dat
 deriving DecidableEq, Inhabited
structure Zone where
 origin : List UInt8
 recs : List Rec
 deriving DecidableEq, Inhabited
structure Delta where
 origin : List UInt8
 fro : Int
 til : Int
 rem : List Rec
 add : List Rec
 deriving DecidableEq, Inhabited
structure Hist where
 zone : Zone
 deltas : List Delta
 deriving DecidableEq, Inhabited
def adrL (x : Adr) : List D := [.bo x.v6, .it .u64 x.hi, .it .u64 x.lo]
def adrE (x : Adr) : D := .agg (adrL x)
def datL (x : Dat) : List D := [.bo x.adr.v6, .it .u64 x.adr.hi, .it .u64 x.adr.lo, .st x.host, .st x.mail, .st x.text, .it .i64 x.a, .it .i64 x.b, .it .i64 x.c, .it .i64 x.d, .it .i64 x.e, .it .i64 x.f, .it .u64 x.bits]
def datE (x : Dat) : D := .agg (datL x)
def recL (r : Rec) : List D := [.st r.name, .it .i64 r.typ, .it .i64 r.ttl, .bo r.dat.adr.v6, .it .u64 r.dat.adr.hi, .it .u64 r.dat.adr.lo, .st r.dat.host, .st r.dat.mail, .st r.dat.text, .it .i64 r.dat.a, .it .i64 r.dat.b, .it .i64 r.dat.c, .it .i64 r.dat.d, .it .i64 r.dat.e, .it .i64 r.dat.f, .it .u64 r.dat.bits]
def recE (r : Rec) : D := .agg (recL r)
abbrev zAn (l : List Rec) : D := vecE 16 recE l
def zBQ (z : Zone) : List D := [.st z.origin, zAn z.recs]
def zAE (z : Zone) : D := .agg (zBQ z)
def zB3 (d : Delta) : List D := [.st d.origin, .it .i64 d.fro, .it .i64 d.til, zAn d.rem, zAn d.add]
def zAR (d : Delta) : D := .agg (zB3 d)
abbrev zGB (l : List Delta) : D := vecE 5 zAR l
def zFc (h : Hist) : List D := [.st h.zone.origin, zAn h.zone.recs, zGB h.deltas]
def zGq (h : Hist) : D := .agg (zFc h)
abbrev zGN (l : List (List UInt8)) : D := vecE 1 D.st l
abbrev zCP (l : List Int) : D := vecE 1 (D.it .i64) l
section
variable {x : Adr} {d : Dat} {r s : Rec} {z z' : Zone} {q q' : Delta} {h h' : Hist} {n : Nat} {f : Nat → Option Nat}
theorem zTV : (recE r).cells = recL r := rfl
theorem zVG : (datE d).cells = datL d := rfl
theorem zWx : (adrE x).cells = adrL x := rfl
theorem zQF : (zAE z).cells = zBQ z := rfl
theorem zNn : (zAR q).cells = zB3 q := rfl
theorem zRq : (zGq h).cells = zFc h := rfl
theorem zMZ : cellsOf (recE r) = some (recL r) := rfl
theorem zNp : cellsOf (datE d) = some (datL d) := rfl
theorem zNJ : cellsOf (adrE x) = some (adrL x) := rfl
theorem zKE : cellsOf (zAE z) = some (zBQ z) := rfl
theorem zKd : cellsOf (zAR q) = some (zB3 q) := rfl
theorem zLG : cellsOf (zGq h) = some (zFc h) := rfl
theorem yCW : (recL r).length = 16 := rfl
theorem yE3 : (datL d).length = 13 := rfl
theorem yFB : (adrL x).length = 3 := rfl
theorem zW9 : (zBQ z).length = 2 := rfl
theorem zVr : (zB3 q).length = 5 := rfl
theorem zY2 : (zFc h).length = 3 := rfl
theorem zX0 : List.take 16 (recL r) = recL r := rfl
theorem zZr : List.take 13 (datL d) = datL d := rfl
theorem zZO : List.take 3 (adrL x) = adrL x := rfl
theorem zR1 : List.take 2 (zBQ z) = zBQ z := rfl
theorem zRF : List.take 5 (zB3 q) = zB3 q := rfl
theorem zU3 : List.take 3 (zFc h) = zFc h := rfl
theorem yCZ : D.agg (recL r) = recE r := rfl
theorem yFa : D.agg (datL d) = datE d := rfl
theorem yFI : D.agg (adrL x) = adrE x := rfl
theorem zXd : D.agg (zBQ z) = zAE z := rfl
theorem zVu : D.agg (zB3 q) = zAR q := rfl
theorem zY6 : D.agg (zFc h) = zGq h := rfl
theorem zX1 : refs (recE r) = [] := rfl
theorem zZs : refs (datE d) = [] := rfl
theorem zZP : refs (adrE x) = [] := rfl
theorem zR2 : refs (zAE z) = [] := rfl
theorem zRG : refs (zAR q) = [] := rfl
theorem zU4 : refs (zGq h) = [] := rfl
theorem yCX : immD (recE r) = true := rfl
theorem yE5 : immD (datE d) = true := rfl
theorem yFD : immD (adrE x) = true := rfl
theorem zXb : immD (zAE z) = true := rfl
theorem zVs : immD (zAR q) = true := rfl
theorem zY4 : immD (zGq h) = true := rfl
theorem yCV : ren f (recE r) = recE r := rfl
theorem yE2 : ren f (datE d) = datE d := rfl
theorem yFA : ren f (adrE x) = adrE x := rfl
theorem zW8 : ren f (zAE z) = zAE z := rfl
theorem zVq : ren f (zAR q) = zAR q := rfl
theorem zY1 : ren f (zGq h) = zGq h := rfl
theorem yCY : zBU (recE r) = true := rfl
theorem yE8 : zBU (datE d) = true := rfl
theorem yFG : zBU (adrE x) = true := rfl
theorem zTK : ∀ a b : Rec, recE a = recE b → a = b := by
 rintro ⟨n, t, l, ⟨⟨v, i, o⟩, h, m, x, a, b, c, d, e, f, g⟩⟩ ⟨n', t', l', ⟨⟨v', i', o'⟩, h', m', x', a', b', c', d', e', f', g'⟩⟩ hh
 simp [recE, recL] at hh
 simp [hh]
theorem yE4 : ∀ a b : Dat, datE a = datE b → a = b := by
 rintro ⟨⟨v, i, o⟩, h, m, x, a, b, c, d, e, f, g⟩ ⟨⟨v', i', o'⟩, h', m', x', a', b', c', d', e', f', g'⟩ hh
 simp [datE, datL] at hh
 simp [hh]
theorem yFC : ∀ a b : Adr, adrE a = adrE b → a = b := by
 rintro ⟨v, i, o⟩ ⟨v', i', o'⟩ hh
 simp [adrE, adrL] at hh
 simp [hh]
theorem zFv {a b : List Rec} (h : zAn a = zAn b) : a = b := zFo zTK h
theorem zXa : ∀ a b : Zone, zAE a = zAE b → a = b := by
 rintro ⟨n, l⟩ ⟨n', l'⟩ hh
 simp only [zAE, zBQ, D.agg.injEq, tAv, D.st.injEq, and_true] at hh
 rw [hh.1, zFv hh.2]
theorem zIe : ∀ a b : Delta, zAR a = zAR b → a = b := by
 rintro ⟨n, u, v, l, m⟩ ⟨n', u', v', l', m'⟩ hh
 simp only [zAR, zB3, D.agg.injEq, tAv, D.st.injEq, D.it.injEq, and_true, true_and] at hh
 rw [hh.1, hh.2.1, hh.2.2.1, zFv hh.2.2.2.1, zFv hh.2.2.2.2]
theorem zY3 : ∀ a b : Hist, zGq a = zGq b → a = b := by
 rintro ⟨⟨n, l⟩, m⟩ ⟨⟨n', l'⟩, m'⟩ hh
 simp only [zGq, zFc, D.agg.injEq, tAv, D.st.injEq, and_true] at hh
 rw [hh.1, zFv hh.2.1, zFo zIe hh.2.2]
theorem yHh {n1 : List UInt8} {t l : Int} {v : Bool} {i o : Int} {h m x : List UInt8} {a b c d e f g : Int} : D.agg [.st n1, .it .i64 t, .it .i64 l, .bo v, .it .u64 i, .it .u64 o, .st h, .st m, .st x, .it .i64 a, .it .i64 b, .it .i64 c, .it .i64 d, .it .i64 e, .it .i64 f, .it .u64 g] = recE ⟨n1, t, l, ⟨⟨v, i, o⟩, h, m, x, a, b, c, d, e, f, g⟩⟩ := rfl
theorem yIV {v : Bool} {i o : Int} {h m x : List UInt8} {a b c d e f g : Int} : D.agg [.bo v, .it .u64 i, .it .u64 o, .st h, .st m, .st x, .it .i64 a, .it .i64 b, .it .i64 c, .it .i64 d, .it .i64 e, .it .i64 f, .it .u64 g] = datE ⟨⟨v, i, o⟩, h, m, x, a, b, c, d, e, f, g⟩ := rfl
theorem yJl {v : Bool} {i o : Int} : D.agg [.bo v, .it .u64 i, .it .u64 o] = adrE ⟨v, i, o⟩ := rfl
theorem yBV {o : List UInt8} {l : List Rec} : D.agg [.st o, zAn l] = zAE ⟨o, l⟩ := rfl
theorem zZp {o : List UInt8} {a b : Int} {l m : List Rec} : D.agg [.st o, .it .i64 a, .it .i64 b, zAn l, zAn m] = zAR ⟨o, a, b, l, m⟩ := rfl
theorem yEv {o : List UInt8} {l : List Rec} {m : List Delta} : D.agg [.st o, zAn l, zGB m] = zGq ⟨⟨o, l⟩, m⟩ := rfl
theorem yE7 : datE ⟨⟨r.dat.adr.v6, r.dat.adr.hi, r.dat.adr.lo⟩, r.dat.host, r.dat.mail, r.dat.text, r.dat.a, r.dat.b, r.dat.c, r.dat.d, r.dat.e, r.dat.f, r.dat.bits⟩ = datE r.dat := rfl
theorem yFF : adrE ⟨d.adr.v6, d.adr.hi, d.adr.lo⟩ = adrE d.adr := rfl
theorem zXc : zAE ⟨h.zone.origin, h.zone.recs⟩ = zAE h.zone := rfl
end
def cT := tAa @zTV (tAa @zVG (tAa @zWx (tAa @zQF (tAa @zNn (tAa @zRq (tAa @zMZ (tAa @zNp (tAa @zNJ (tAa @zKE (tAa @zKd (tAa @zLG
 (tAa @yCW (tAa @yE3 (tAa @yFB (tAa @zW9 (tAa @zVr (tAa @zY2 (tAa @zX0 (tAa @zZr (tAa @zZO (tAa @zR1 (tAa @zRF (tAa @zU3
 (tAa @yCZ (tAa @yFa (tAa @yFI (tAa @zXd (tAa @zVu (tAa @zY6 (tAa @zX1 (tAa @zZs (tAa @zZP (tAa @zR2 (tAa @zRG (tAa @zU4
 (tAa @yCX (tAa @yE5 (tAa @yFD (tAa @zXb (tAa @zVs (tAa @zY4 (tAa @yCV (tAa @yE2 (tAa @yFA (tAa @zW8 (tAa @zVq (tAa @zY1
 (tAa @yCY (tAa @yE8 (tAa @yFG (tAa @yHh (tAa @yIV (tAa @yJl (tAa @yBV (tAa @zZp (tAa @yEv (tAa @yE7 (tAa @yFF @zXc))))))))))))))))))))))))))))))))))))))))))))))))))))))))))
def cV := tAa @zA5 (tAa @zYX (tAa @zXY (tAa @zRP (tAa @zNo (tAa @zRx (tAa @zXj (tAa @zSe (tAa @zT4 @zMN))))))))
theorem ixs {P : Program} {t : TypeId} {l : List UInt8} {k : IntKind} (hu : P.underlying t = some .string) {i : Nat} (h : (i : Int) < l.length) : zDL P t (.st l) (.it k (i : Int)) = some (.it .u8 (l[i]!.toNat : Int)) := by
 have h' : i < l.length := by omega
 simp [zDL, idx, hu, getElem!_pos l i h', h']
theorem ixsN {P : Program} {t : TypeId} {l : List UInt8} {k : IntKind} (hu : P.underlying t = some .string) {n : Int} (h0 : 0 ≤ n) (h : n < l.length) : zDL P t (.st l) (.it k n) = some (.it .u8 (l[n.toNat]!.toNat : Int)) := by
 obtain ⟨i, rfl⟩ := tBj h0
 rw [ixs hu h]; rfl
theorem lens {P : Program} {H : Hp} {t : TypeId} {l : List UInt8} (hu : P.underlying t = some .string) : lenD P H t (.st l) = some (l.length : Int) := by simp [lenD, hu]
theorem zHL {P : Program} {H : Hp} {t : TypeId} {l : List UInt8} {lo hi : Option D} {a b : Nat} (hu : P.underlying t = some .string) (hb : bnds l.length lo hi none = some (a, b, none)) : zAW P H t (.st l) lo hi none = some (.st ((l.take b).drop a)) := by
 simp [zAW, hb, yEl, hu]
theorem zZF {n i j : Nat} {k k' : IntKind} (h : i ≤ j) (h' : j ≤ n) : bnds n (some (.it k (i : Int))) (some (.it k' (j : Int))) none = some (i, j, none) := by
 simp only [bnds, idx, tAg]
 rw [if_pos (by omega)]; rfl
theorem zL5 {n i : Nat} {k : IntKind} (h : i ≤ n) : bnds n (some (.it k (i : Int))) none none = some (i, n, none) := by
 simp only [bnds, idx, tAg]
 rw [if_pos (by omega)]; rfl
theorem yFs {n j : Nat} {k : IntKind} (h : j ≤ n) : bnds n none (some (.it k (j : Int))) none = some (0, j, none) := by
 simp only [bnds, idx, tAg]
 rw [if_pos (by omega)]; rfl
theorem zGJ {P : Program} {H : Hp} {t e : TypeId} {id off len : Nat} {k : IntKind} {n : Int} (hu : P.underlying t = some (.slice e)) : zAP P H t (.own id off len) (.it k n) = match H id with | .row sz _ _ => if szT P e = some sz ∧ 0 ≤ n ∧ n < len then some (.rowp id (off + n.toNat) 0) else none | _ => none := by
 simp only [zAP, idx, tAg, hu]
 cases H id <;> rfl
theorem rev_at {α : Type} [Inhabited α] {l : List α} {k : Nat} (h : k < l.length) : l[l.length - 1 - k]! = l.reverse[k]! := by
 rw [getElem!_pos l _ (by omega), getElem!_pos l.reverse k (by simpa using h), List.getElem_reverse]
theorem getm {α : Type} [Inhabited α] {E : α → D} {xs : List α} {i : Nat} (h : i < xs.length) : (xs.map E)[i]? = some (E xs[i]!) := by
 rw [tAE, tAn h, getElem!_pos xs i h]; rfl
theorem zAb {H : Hp} {n id off len : Nat} : elems H n (.own id off len) = match H id with | .row sz pl es => if sz = n then some (pl, (es.drop off).take len) else none | _ => none := rfl
theorem zRb {H : Hp} {nid : Nat} {b : Blk} : zB8 H nid [b] = upd H nid b := by
 funext id
 unfold upd zB8
 by_cases h : id = nid
 · subst h; simp
 · rw [if_neg h]
   split
   · rw [tBu (by simp; omega)]; rfl
   · rfl
theorem yJy {a b : UInt8} : ((a.toNat : Int) = (b.toNat : Int)) ↔ a = b := by
 rw [tBh]; exact tBF
def Res.rowd (sz : Nat) (es : List D) (ds : List D) : Res := ⟨false, .tup (.own 0 0 es.length :: ds), [.row sz true es]⟩
theorem zTZ {cx : Cx} {fn : Func} {c : Code} {ds : List D} {r : Res} {rs : List ResultVar} (hb : fn.body = some c) (hbs : cx.bs = 0) (hrs : fn.results.toList = rs)
   (h : EvX .go cx c ⟨zAq ds, ofHp [], 0⟩ fun e st t => (e = .nrm ∨ e = .ret) ∧ Ev t (resD cx.P st rs) fun out _ => ∃ id len sz es d fs, out = .own id 0 len :: d :: fs ∧ st.H id = .row sz true es ∧ len = es.length ∧ zAB (d :: fs) = true ∧ zBh es = true ∧ Res.rowd sz es (d :: fs) = r) : zAg cx fn [0] false ds = some r := by
 obtain ⟨⟨e, s⟩, he, hen, out, ho, id, len, sz, es, d, fs, rfl, hH, rfl, hfl, hm, rfl⟩ := h
 simp only at hH
 obtain ⟨f1, f2, f3⟩ := zD9 hfl
 have hr : zAY s.H 60 [id] [] = [id] := by
   have : refsB (s.H id) = [] := by rw [hH]; rfl
   show zAY s.H (59 + 1) [id] [] = [id]
   simp only [zAY, tBM, tAf, if_false, this, tAJ]
 have h1 : zAp (D.own id 0 es.length :: d :: fs) = [id] := by simp only [zAp, refs] at f1 ⊢; simpa using f1
 refine zD0 hb hbs [0] false ⟨(e, s), he, hen, _, hrs ▸ ho, ?_, [.row sz true es], ?_, .tup (.own 0 0 es.length :: d :: fs), ?_, rfl⟩
 · have h2 : closed s.H [id] = true := by simp [closed, hH, refsB]
   have h3 : zBh (D.own id 0 es.length :: d :: fs) = true := by simp only [zBh, zBU, tAR] at f2 ⊢; exact f2
   simp [zC5, distinct, dry, h1, hr, h2, h3, zFL, hH, hm]
 · simp only [h1]
   simp [zC5, hr, finB, zBv, hH]
 · have hmm : ∀ (own : List Nat) (H : Hp) (l : List D), (∀ d ∈ l, zDN d = true) → l.mapM (finV own H) = some l := by
     intro own H l
     induction l with
     | nil => intro _; rfl
     | cons x r ih => intro h; rw [tA8, zJZ (h x (by simp)), ih (fun d hd => h d (by simp [hd]))]; rfl
   have ho' : zC5 (D.own id 0 es.length :: d :: fs) [0] = [id] := by simp [zC5]
   rw [ho']
   simp only [finT]
   rw [tA8, hmm _ _ _ f3]
   simp [finV, ixOf]
section
variable {k : IntKind} {n id off len sz ix : Nat} {i : Int} {b : Bool} {l : List UInt8} {cs es p q : List D} {f : Fn}
theorem yKk : cellsOf (.it k i) = some [.it k i] := rfl
theorem yKm : cellsOf (.bo b) = some [.bo b] := rfl
theorem yKj : cellsOf (.st l) = some [.st l] := rfl
theorem yIZ : cellsOf (.vec sz b es) = some [.vec sz b es] := rfl
theorem yFh : cellsOf .nils = some [.nils] := rfl
theorem yI1 : cellsOf (.own id off len) = some [.own id off len] := rfl
theorem yI3 : cellsOf (.agg cs) = some cs := rfl
theorem yI0 : cellsOf (.ptr id off) = some [.ptr id off] := rfl
theorem yFg : cellsOf (.rowp id ix off) = some [.rowp id ix off] := rfl
theorem yKl : cellsOf (.fn f p q) = some [.fn f p q] := rfl
theorem yFj : cellsOf .nilf = some [.nilf] := rfl
theorem yI2 : cellsOf (.elt cs) = some [.elt cs] := rfl
theorem yFi : cellsOf .nilp = some [.nilp] := rfl
theorem yKg : D.cells (.it k i) = [.it k i] := rfl
theorem yKi : D.cells (.bo b) = [.bo b] := rfl
theorem yKf : D.cells (.st l) = [.st l] := rfl
theorem yIQ : D.cells (.vec sz b es) = [.vec sz b es] := rfl
theorem yEZ : D.cells .nils = [.nils] := rfl
theorem yIS : D.cells (.own id off len) = [.own id off len] := rfl
theorem yIU : D.cells (.agg cs) = cs := rfl
theorem yIR : D.cells (.ptr id off) = [.ptr id off] := rfl
theorem yEY : D.cells (.rowp id ix off) = [.rowp id ix off] := rfl
theorem yKh : D.cells (.fn f p q) = [.fn f p q] := rfl
theorem yE1 : D.cells .nilf = [.nilf] := rfl
theorem yIT : D.cells (.elt cs) = [.elt cs] := rfl
theorem yE0 : D.cells .nilp = [.nilp] := rfl
end
def cO := tAa @yKk (tAa @yKm (tAa @yKj (tAa @yIZ (tAa @yFh (tAa @yI1 (tAa @yI3 (tAa @yI0 (tAa @yFg (tAa @yKl (tAa @yFj (tAa @yI2 @yFi)))))))))))
theorem zTU (r : Rec) : List.drop 1 (recL r) = [.it .i64 r.typ, .it .i64 r.ttl, .bo r.dat.adr.v6, .it .u64 r.dat.adr.hi, .it .u64 r.dat.adr.lo, .st r.dat.host, .st r.dat.mail, .st r.dat.text, .it .i64 r.dat.a, .it .i64 r.dat.b, .it .i64 r.dat.c, .it .i64 r.dat.d, .it .i64 r.dat.e, .it .i64 r.dat.f, .it .u64 r.dat.bits] := rfl
theorem zTT (r : Rec) : List.drop 2 (recL r) = [.it .i64 r.ttl, .bo r.dat.adr.v6, .it .u64 r.dat.adr.hi, .it .u64 r.dat.adr.lo, .st r.dat.host, .st r.dat.mail, .st r.dat.text, .it .i64 r.dat.a, .it .i64 r.dat.b, .it .i64 r.dat.c, .it .i64 r.dat.d, .it .i64 r.dat.e, .it .i64 r.dat.f, .it .u64 r.dat.bits] := rfl
theorem zTS (r : Rec) : List.drop 3 (recL r) = datL r.dat := rfl
theorem zTR (r : Rec) : List.drop 4 (recL r) = [.it .u64 r.dat.adr.hi, .it .u64 r.dat.adr.lo, .st r.dat.host, .st r.dat.mail, .st r.dat.text, .it .i64 r.dat.a, .it .i64 r.dat.b, .it .i64 r.dat.c, .it .i64 r.dat.d, .it .i64 r.dat.e, .it .i64 r.dat.f, .it .u64 r.dat.bits] := rfl
theorem zTQ (r : Rec) : List.drop 5 (recL r) = [.it .u64 r.dat.adr.lo, .st r.dat.host, .st r.dat.mail, .st r.dat.text, .it .i64 r.dat.a, .it .i64 r.dat.b, .it .i64 r.dat.c, .it .i64 r.dat.d, .it .i64 r.dat.e, .it .i64 r.dat.f, .it .u64 r.dat.bits] := rfl
theorem zTP (r : Rec) : List.drop 6 (recL r) = [.st r.dat.host, .st r.dat.mail, .st r.dat.text, .it .i64 r.dat.a, .it .i64 r.dat.b, .it .i64 r.dat.c, .it .i64 r.dat.d, .it .i64 r.dat.e, .it .i64 r.dat.f, .it .u64 r.dat.bits] := rfl
theorem zTO (r : Rec) : List.drop 7 (recL r) = [.st r.dat.mail, .st r.dat.text, .it .i64 r.dat.a, .it .i64 r.dat.b, .it .i64 r.dat.c, .it .i64 r.dat.d, .it .i64 r.dat.e, .it .i64 r.dat.f, .it .u64 r.dat.bits] := rfl
theorem zTN (r : Rec) : List.drop 8 (recL r) = [.st r.dat.text, .it .i64 r.dat.a, .it .i64 r.dat.b, .it .i64 r.dat.c, .it .i64 r.dat.d, .it .i64 r.dat.e, .it .i64 r.dat.f, .it .u64 r.dat.bits] := rfl
theorem zTM (r : Rec) : List.drop 9 (recL r) = [.it .i64 r.dat.a, .it .i64 r.dat.b, .it .i64 r.dat.c, .it .i64 r.dat.d, .it .i64 r.dat.e, .it .i64 r.dat.f, .it .u64 r.dat.bits] := rfl
theorem zQ9 (r : Rec) : List.drop 10 (recL r) = [.it .i64 r.dat.b, .it .i64 r.dat.c, .it .i64 r.dat.d, .it .i64 r.dat.e, .it .i64 r.dat.f, .it .u64 r.dat.bits] := rfl
theorem zQ8 (r : Rec) : List.drop 11 (recL r) = [.it .i64 r.dat.c, .it .i64 r.dat.d, .it .i64 r.dat.e, .it .i64 r.dat.f, .it .u64 r.dat.bits] := rfl
theorem zQ7 (r : Rec) : List.drop 12 (recL r) = [.it .i64 r.dat.d, .it .i64 r.dat.e, .it .i64 r.dat.f, .it .u64 r.dat.bits] := rfl
theorem zQ6 (r : Rec) : List.drop 13 (recL r) = [.it .i64 r.dat.e, .it .i64 r.dat.f, .it .u64 r.dat.bits] := rfl
theorem zQ5 (r : Rec) : List.drop 14 (recL r) = [.it .i64 r.dat.f, .it .u64 r.dat.bits] := rfl
theorem zQ4 (r : Rec) : List.drop 15 (recL r) = [.it .u64 r.dat.bits] := rfl
theorem yHi (r : Rec) : (recL r).head? = some (D.st r.name) := rfl
theorem zVF (x : Dat) : List.drop 1 (datL x) = [.it .u64 x.adr.hi, .it .u64 x.adr.lo, .st x.host, .st x.mail, .st x.text, .it .i64 x.a, .it .i64 x.b, .it .i64 x.c, .it .i64 x.d, .it .i64 x.e, .it .i64 x.f, .it .u64 x.bits] := rfl
theorem zVE (x : Dat) : List.drop 2 (datL x) = [.it .u64 x.adr.lo, .st x.host, .st x.mail, .st x.text, .it .i64 x.a, .it .i64 x.b, .it .i64 x.c, .it .i64 x.d, .it .i64 x.e, .it .i64 x.f, .it .u64 x.bits] := rfl
theorem zVD (x : Dat) : List.drop 3 (datL x) = [.st x.host, .st x.mail, .st x.text, .it .i64 x.a, .it .i64 x.b, .it .i64 x.c, .it .i64 x.d, .it .i64 x.e, .it .i64 x.f, .it .u64 x.bits] := rfl
theorem zVC (x : Dat) : List.drop 4 (datL x) = [.st x.mail, .st x.text, .it .i64 x.a, .it .i64 x.b, .it .i64 x.c, .it .i64 x.d, .it .i64 x.e, .it .i64 x.f, .it .u64 x.bits] := rfl
theorem zVB (x : Dat) : List.drop 5 (datL x) = [.st x.text, .it .i64 x.a, .it .i64 x.b, .it .i64 x.c, .it .i64 x.d, .it .i64 x.e, .it .i64 x.f, .it .u64 x.bits] := rfl
theorem zVA (x : Dat) : List.drop 6 (datL x) = [.it .i64 x.a, .it .i64 x.b, .it .i64 x.c, .it .i64 x.d, .it .i64 x.e, .it .i64 x.f, .it .u64 x.bits] := rfl
theorem zVz (x : Dat) : List.drop 7 (datL x) = [.it .i64 x.b, .it .i64 x.c, .it .i64 x.d, .it .i64 x.e, .it .i64 x.f, .it .u64 x.bits] := rfl
theorem zVy (x : Dat) : List.drop 8 (datL x) = [.it .i64 x.c, .it .i64 x.d, .it .i64 x.e, .it .i64 x.f, .it .u64 x.bits] := rfl
theorem zVx (x : Dat) : List.drop 9 (datL x) = [.it .i64 x.d, .it .i64 x.e, .it .i64 x.f, .it .u64 x.bits] := rfl
theorem zRL (x : Dat) : List.drop 10 (datL x) = [.it .i64 x.e, .it .i64 x.f, .it .u64 x.bits] := rfl
theorem zRK (x : Dat) : List.drop 11 (datL x) = [.it .i64 x.f, .it .u64 x.bits] := rfl
theorem zRJ (x : Dat) : List.drop 12 (datL x) = [.it .u64 x.bits] := rfl
theorem yIW (x : Dat) : (datL x).head? = some (.bo x.adr.v6) := rfl
theorem zWw (x : Adr) : List.drop 1 (adrL x) = [.it .u64 x.hi, .it .u64 x.lo] := rfl
theorem zWv (x : Adr) : List.drop 2 (adrL x) = [.it .u64 x.lo] := rfl
theorem yJm (x : Adr) : (adrL x).head? = some (.bo x.v6) := rfl
theorem zQE (z : Zone) : List.drop 1 (zBQ z) = [zAn z.recs] := rfl
theorem yBW (z : Zone) : (zBQ z).head? = some (.st z.origin) := rfl
theorem zNm (d : Delta) : List.drop 1 (zB3 d) = [.it .i64 d.fro, .it .i64 d.til, zAn d.rem, zAn d.add] := rfl
theorem zNl (d : Delta) : List.drop 2 (zB3 d) = [.it .i64 d.til, zAn d.rem, zAn d.add] := rfl
theorem zNk (d : Delta) : List.drop 3 (zB3 d) = [zAn d.rem, zAn d.add] := rfl
theorem zNj (d : Delta) : List.drop 4 (zB3 d) = [zAn d.add] := rfl
theorem zZq (d : Delta) : (zB3 d).head? = some (.st d.origin) := rfl
theorem zRp (h : Hist) : List.drop 1 (zFc h) = [zAn h.zone.recs, zGB h.deltas] := rfl
theorem zRo (h : Hist) : List.drop 2 (zFc h) = [zGB h.deltas] := rfl
theorem yEw (h : Hist) : (zFc h).head? = some (.st h.zone.origin) := rfl
theorem zVv (x : Dat) : List.take 3 (datL x) = adrL x.adr := rfl
theorem zRl (h : Hist) : List.take 2 (zFc h) = zBQ h.zone := rfl
def faD (H : Hp) (x : D) (o : Nat) : Option D := match x with
 | .ptr id off => match H id with | .box cs => if off + o ≤ cs.length then some (.ptr id (off + o)) else none | _ => none
 | .rowp id ix off => match H id with | .row sz _ _ => if off + o ≤ sz then some (.rowp id ix (off + o)) else none | _ => none
 | .elt cs => if o ≤ cs.length then some (.elt (cs.drop o)) else none
 | _ => none
theorem yEI {H : Hp} {id off o : Nat} : faD H (.ptr id off) o = match H id with | .box cs => if off + o ≤ cs.length then some (.ptr id (off + o)) else none | _ => none := rfl
theorem yEH {H : Hp} {id ix off o : Nat} : faD H (.rowp id ix off) o = match H id with | .row sz _ _ => if off + o ≤ sz then some (.rowp id ix (off + o)) else none | _ => none := rfl
theorem yEJ {H : Hp} {cs : List D} {o : Nat} : faD H (.elt cs) o = if o ≤ cs.length then some (.elt (cs.drop o)) else none := rfl
theorem zCf {P : Program} {t : TypeId} {f o n : Nat} {fl : Field} (h : zAQ P t f = some fl) (hn : szT P fl.type = some n) (h0 : n ≠ 0) (ho : fl.offset = o) (H : Hp) (x : D) : zAM P H t x f = faD H x o := by
 subst ho
 simp only [zAM, h, hn, tAg, if_neg h0]
 rfl
theorem zNG {P : Program} {t : TypeId} {fs : Array Field} {zc : List D} {L : List (Nat × Nat)} (hz : zDC P t = some (.agg zc)) (hu : P.underlying t = some (.struct fs)) (hL : (fs.toList.map fun (f : Field) => (szT P f.type).map fun n => (f.offset, n)) = L.map some) (parts : List (Nat × D)) :
   zDm P t parts = (zEG (fun i => L[i]?) zc parts).map .agg := by
 have hall : fs.toList.all (fun f => (szT P f.type).isSome) = true := by
   rw [tAw]
   intro f hf
   have : (szT P f.type).map (fun n => (f.offset, n)) ∈ L.map some := hL ▸ List.mem_map_of_mem hf
   obtain ⟨y, _, hy⟩ := tBk.1 this
   cases hs : szT P f.type with
   | none => rw [hs] at hy; cases hy
   | some n => rfl
 have hp : (fun (i : Nat) => (fs[i]?).bind fun (f : Field) => (szT P f.type).map fun n => (f.offset, n)) = fun i => L[i]? := by
   funext i
   have h1 := congrArg (fun l => l[i]?) hL
   simp only [tAE] at h1
   rw [← tBQ]
   cases hf : fs.toList[i]? with
   | none => rw [hf] at h1; cases hl : L[i]? with
     | none => rfl
     | some y => rw [hl] at h1; cases h1
   | some f => rw [hf] at h1; cases hl : L[i]? with
     | none => rw [hl] at h1; cases h1
     | some y => rw [hl] at h1; simp only [tAF, tAb] at h1; exact h1
 simp only [zDm, hz, cellsOf, tAg, hu]
 rw [if_pos hall, hp]
theorem zZc {place : Nat → Option (Nat × Nat)} {cs : List D} : zEG place cs [] = some cs := rfl
theorem zVc {place : Nat → Option (Nat × Nat)} {cs : List D} {i : Nat} {v : D} {rest : List (Nat × D)} : zEG place cs ((i, v) :: rest) = (place i).bind fun (off, n) => (cellsOf v).bind fun xs => if xs.length = n then (setAt cs off xs).bind fun cs' => zEG place cs' rest else none := rfl
theorem yFH (x : Adr) (l : List D) : adrL x ++ l = .bo x.v6 :: .it .u64 x.hi :: .it .u64 x.lo :: l := rfl
theorem yE9 (x : Dat) (l : List D) : datL x ++ l = .bo x.adr.v6 :: .it .u64 x.adr.hi :: .it .u64 x.adr.lo :: .st x.host :: .st x.mail :: .st x.text :: .it .i64 x.a :: .it .i64 x.b :: .it .i64 x.c :: .it .i64 x.d :: .it .i64 x.e :: .it .i64 x.f :: .it .u64 x.bits :: l := rfl
theorem yGW {cs xs : List D} {off : Nat} : setAt cs off xs = if off + xs.length ≤ cs.length then some (cs.take off ++ (xs ++ cs.drop (off + xs.length))) else none := rfl
theorem zXy {H : Hp} {id off : Nat} {xs : List D} : zKL H (.ptr id off) xs = match H id with | .box cs => (setAt cs off xs).map fun cs' => upd H id (.box cs') | _ => none := rfl
theorem zXx {H : Hp} {id ix off : Nat} {xs : List D} : zKL H (.rowp id ix off) xs = match H id with
   | .row sz pl es => (es[ix]?).bind fun e => (setAt e.cells off xs).map fun cs' => upd H id (.row sz (pl && immL xs) (es.set ix (again e cs')))
   | _ => none := rfl
theorem zQ3 (r : Rec) : List.drop 16 (recL r) = [] := rfl
theorem zRI (x : Dat) : List.drop 13 (datL x) = [] := rfl
theorem zWu (x : Adr) : List.drop 3 (adrL x) = [] := rfl
theorem zQD (x : Zone) : List.drop 2 (zBQ x) = [] := rfl
theorem zNi (x : Delta) : List.drop 5 (zB3 x) = [] := rfl
theorem zRn (x : Hist) : List.drop 3 (zFc x) = [] := rfl
theorem zTJ (x : Rec) : zAp (recL x) = [] := rfl
theorem zX2 (x : Rec) : immL (recL x) = true := rfl
theorem zVw (x : Dat) : zAp (datL x) = [] := rfl
theorem zZt (x : Dat) : immL (datL x) = true := rfl
theorem zWt (x : Adr) : zAp (adrL x) = [] := rfl
theorem zZQ (x : Adr) : immL (adrL x) = true := rfl
theorem zQC (x : Zone) : zAp (zBQ x) = [] := rfl
theorem zR3 (x : Zone) : immL (zBQ x) = true := rfl
theorem zNh (x : Delta) : zAp (zB3 x) = [] := rfl
theorem zRH (x : Delta) : immL (zB3 x) = true := rfl
theorem zRm (x : Hist) : zAp (zFc x) = [] := rfl
theorem zU5 (x : Hist) : immL (zFc x) = true := rfl
def cW := tAa @zTU (tAa @zTT (tAa @zTS (tAa @zTR (tAa @zTQ (tAa @zTP (tAa @zTO (tAa @zTN (tAa @zTM (tAa @zQ9 (tAa @zQ8 (tAa @zQ7 (tAa @zQ6 (tAa @zQ5 (tAa @zQ4 (tAa @yHi (tAa @zVF (tAa @zVE (tAa @zVD (tAa @zVC (tAa @zVB (tAa @zVA (tAa @zVz (tAa @zVy (tAa @zVx (tAa @zRL (tAa @zRK (tAa @zRJ (tAa @yIW (tAa @zWw (tAa @zWv (tAa @yJm (tAa @zQE (tAa @yBW (tAa @zNm (tAa @zNl (tAa @zNk (tAa @zNj (tAa @zZq (tAa @zRp (tAa @zRo (tAa @yEw (tAa @zVv (tAa @zRl (tAa @yEI (tAa @yEH (tAa @yEJ (tAa @zZc (tAa @zVc (tAa @yFH (tAa @yE9 (tAa @zXy (tAa @zXx (tAa @zQ3 (tAa @zRI (tAa @zWu (tAa @zQD (tAa @zNi (tAa @zRn (tAa @zTF (tAa @zTJ (tAa @zX2 (tAa @zVw (tAa @zZt (tAa @zWt (tAa @zZQ (tAa @zQC (tAa @zR3 (tAa @zNh (tAa @zRH (tAa @zRm (tAa @zU5 (@yGW))))))))))))))))))))))))))))))))))))))))))))))))))))))))))))))))))))))))
section
variable {k : IntKind} {i : Int} {b : Bool} {l : List UInt8}
theorem yJ9 : zDN (.it k i) = true := rfl
theorem yKa : zDN (.bo b) = true := rfl
theorem yJ8 : zDN (.st l) = true := rfl
theorem yEA : zDN .nils = true := rfl
theorem yEB : zDN .nilp = true := rfl
theorem yED : zDN .nilf = true := rfl
theorem yEC : zDN .nilm = true := rfl
theorem yHQ (x : Adr) : zDN (adrE x) = true := rfl
theorem yHP (x : Dat) : zDN (datE x) = true := rfl
theorem yHO (x : Rec) : zDN (recE x) = true := rfl
end
def cG := tAa @yJ9 (tAa @yKa (tAa @yJ8 (tAa @yEA (tAa @yEB (tAa @yED (tAa @yEC (tAa @yHQ (tAa @yHP @yHO))))))))
section
variable {P : Program} {op : BinOp} {t : TypeId} {k k' : IntKind} {x y : Int} {a b : List UInt8} {p q : Bool}
theorem yI9 : binD P op t (.it k x) (.it k' y) = match op with | .shl => zAh op k x y | .shr => zAh op k x y | _ => if k = k' then zAD op k x y else none := rfl
theorem yI8 : binD P op t (.st a) (.st b) = zAC op a b := rfl
theorem yJa : binD P op t (.bo p) (.bo q) = zEq op (eqD P 12 t (.bo p) (.bo q)) := rfl
end
def cB := tAa @yI9 (tAa @yI8 @yJa)
def cC := tAa @yKg (tAa @yKi (tAa @yKf (tAa @yIQ (tAa @yEZ (tAa @yIS (tAa @yIU (tAa @yIR (tAa @yEY (tAa @yKh (tAa @yE1 (tAa @yIT (@yE0))))))))))))
theorem yFE (a b : Adr) : (adrE a = adrE b) = (a = b) := propext ⟨yFC a b, fun h => h ▸ rfl⟩
theorem yE6 (a b : Dat) : (datE a = datE b) = (a = b) := propext ⟨yE4 a b, fun h => h ▸ rfl⟩
theorem zTL (a b : Rec) : (recE a = recE b) = (a = b) := propext ⟨zTK a b, fun h => h ▸ rfl⟩
theorem zGQ (a b : Zone) : (zAE a = zAE b) = (a = b) := propext ⟨zXa a b, fun h => h ▸ rfl⟩
theorem zVt (a b : Delta) : (zAR a = zAR b) = (a = b) := propext ⟨zIe a b, fun h => h ▸ rfl⟩
theorem zY5 (a b : Hist) : (zGq a = zGq b) = (a = b) := propext ⟨zY3 a b, fun h => h ▸ rfl⟩
theorem zJz (a b : List Rec) : (zAn a = zAn b) = (a = b) := propext ⟨zFv, fun h => h ▸ rfl⟩
theorem zRE (a b : List Delta) : (zGB a = zGB b) = (a = b) := propext ⟨zFo zIe, fun h => h ▸ rfl⟩
theorem zXv (a b : List (List UInt8)) : (zGN a = zGN b) = (a = b) := propext ⟨zFo yGB, fun h => h ▸ rfl⟩
theorem zPp (a b : List Int) : (zCP a = zCP b) = (a = b) := propext ⟨zFo yHJ, fun h => h ▸ rfl⟩
def zDf (x : Int) : UInt8 := UInt8.ofNat x.toNat
theorem zCF : ∀ l : List Int, (l.map (D.it .u8)).mapM byteOfD = some (l.map zDf)
 | [] => rfl
 | x :: r => by rw [tAO, tA8, zCF r]; rfl
theorem zDO (k : Nat) (l : List Int) : (List.take k (l.map (D.it .u8))).mapM byteOfD = some ((l.take k).map zDf) := by rw [← tB1, zCF]
theorem zCS {P : Program} {t t' e : TypeId} {H : Hp} {nid id len : Nat} {l : List Int} (hu : P.underlying t = some (.slice e)) (he : P.underlying e = some (.int .u8)) (hs : szT P e = some 1) (hd : P.underlying t' = some .string) (hH : H id = .row 1 true (l.map (D.it .u8))) (hl : len = l.length) :
   zAA P t t' (.own id 0 len) H nid = some (.st (l.map zDf), H, nid) := by
 subst hl
 have h1 : zBP P t (.own id 0 l.length) = true := zDs hu
 simp only [zAA, hu, hd, he, hs, h1, if_true, elems, hH, tAg, tBv]
 rw [tAM (by simp), zCF]
 rfl
theorem zKQ {P : Program} {t e : TypeId} {H : Hp} {id len k sz : Nat} {pl : Bool} {es : List D} {kd : IntKind} (hu : P.underlying t = some (.slice e)) (hs : szT P e = some sz) (hH : H id = .row sz pl es) (hk : k ≤ len) :
   zAW P H t (.own id 0 len) none (some (.it kd (k : Int))) none = some (.own id 0 k) := by
 have hb : bnds len none (some (.it kd (k : Int))) none = some (0, k, none) := by
   simp only [bnds, idx, tAg]
   rw [if_pos ⟨tBV _, by omega, by omega⟩]; rfl
 simp [zAW, zBL, hu, hs, hH, hb]
theorem zHJ {P : Program} {t e : TypeId} {H : Hp} {id len k : Nat} {kd : IntKind} (hu : P.underlying t = some (.slice e)) :
   zAW P H t (.own id 0 len) none (some (.it kd (k : Int))) none = match H id with | .row sz _ _ => if szT P e = some sz ∧ k ≤ len then some (.own id 0 k) else none | _ => none := by
 have hb : bnds len none (some (.it kd (k : Int))) none = if k ≤ len then some (0, k, none) else none := by
   simp only [bnds, idx, tAg]
   by_cases h : k ≤ len
   · rw [if_pos ⟨tBV _, by omega, by omega⟩, if_pos h]; rfl
   · rw [if_neg (by omega), if_neg h]
 simp only [zAW, zBL, hu, tAg, hb]
 cases H id with
 | row sz pl es => by_cases hk : k ≤ len <;> by_cases hs : szT P e = some sz <;> simp [hs, hk]
 | _ => rfl
theorem zDW {P : Program} {t e : TypeId} {H : Hp} {id off len k : Nat} {kd : IntKind} (hu : P.underlying t = some (.slice e)) :
   zAW P H t (.own id off len) (some (.it kd (k : Int))) none none = match H id with | .row sz _ _ => if szT P e = some sz ∧ k ≤ len then some (.own id (off + k) (len - k)) else none | _ => none := by
 have hb : bnds len (some (.it kd (k : Int))) none none = if k ≤ len then some (k, len, none) else none := by
   simp only [bnds, idx, tAg]
   by_cases h : k ≤ len
   · rw [if_pos ⟨by omega, by omega, tBV _⟩, if_pos h]; rfl
   · rw [if_neg (by omega), if_neg h]
 simp only [zAW, zBL, hu, tAg, hb]
 cases H id with
 | row sz pl es => by_cases hk : k ≤ len <;> by_cases hs : szT P e = some sz <;> simp [hs, hk]
 | _ => rfl
theorem zAt {H : Hp} {nid id : Nat} {hs : List Blk} : zE9 H nid hs id = if nid ≤ id ∧ id < nid + 64 then ofHp hs (id - nid) else H id := rfl
theorem zLd (a b : Rec) : again (recE a) (recL b) = recE b := rfl
theorem zUm {α : Type} {E : α → D} {l : List α} {k : Nat} {x : α} : (l.map E).set k (E x) = (l.set k x).map E := by rw [tBY]
def cR := tAa @zA0 (tAa @zAZ (tAa @zOV (tAa @tAJ (tAa @tAo (tAa @tBi (tAa @tAO (tAa @tBn (tAa @zSk (tAa @zNZ (tAa @not_false_eq_true (tAa @if_true.{1} (tAa @tBp (@tAR)))))))))))))
def cN := tAa @Bool.not_eq_true (tAa @tCi @Classical.not_not)
def Res.via (d : D) : Res := ⟨true, d, []⟩
def borT (H : Hp) : List D → Option (List D)
 | [] => some []
 | d :: r => (bor H 6 d).bind fun d' => (borT H r).map (d' :: ·)
def borM (H : Hp) (n : Nat) : List D → Option (List D)
 | [] => some []
 | d :: r => (bor H n d).bind fun d' => (borM H n r).map (d' :: ·)
theorem zIm (H : Hp) (n : Nat) : ∀ l : List D, l.mapM (bor H n) = borM H n l
 | [] => rfl
 | d :: r => by rw [tA8, zIm H n r, borM]; cases bor H n d <;> cases borM H n r <;> rfl
theorem zAl {H : Hp} {n : Nat} {cs : List D} : bor H (n + 1) (.agg cs) = (borM H n cs).map .agg := by rw [bor, zIm]
theorem zYE (H : Hp) : killAll [] H = H := rfl
theorem zHc {H : Hp} : ∀ d : D, finV [] H d = bor H 6 d := by
 intro d
 cases d <;> simp only [finV, zYE, ixOf]
theorem zJ0 {H : Hp} {out ds : List D} (h : borT H out = some ds) : finT [] H out = some (one ds) := by
 have hm : ∀ (l ds : List D), borT H l = some ds → l.mapM (finV [] H) = some ds := by
   intro l
   induction l with
   | nil => intro ds h; simp only [borT, tAb] at h; subst h; rfl
   | cons x r ih =>
     intro ds h
     simp only [borT, tAc, tAe] at h
     obtain ⟨x', hx, ds', hr, rfl⟩ := h
     rw [tA8, zHc, hx, ih ds' hr]; rfl
 cases out with
 | nil => simp only [borT, tAb] at h; subst h; rfl
 | cons x r =>
   cases r with
   | nil =>
     simp only [borT, tAc, tAe, tAb] at h
     obtain ⟨x', hx, _, rfl, rfl⟩ := h
     rw [show finT [] H [x] = finV [] H x from rfl, zHc, hx]; rfl
   | cons y r =>
     have h2 := hm _ _ h
     simp only [borT, tAc, tAe] at h
     obtain ⟨x', hx, ds', ⟨y', hy, ds2, hr, rfl⟩, rfl⟩ := h
     show ((x :: y :: r).mapM (finV [] H)).map D.tup = _
     rw [h2]; rfl
theorem zC2 {cx : Cx} {fn : Func} {c : Code} {ds : List D} {r : Res} {rs : List ResultVar} (hb : fn.body = some c) (hbs : cx.bs = 0) (hrs : fn.results.toList = rs)
   (h : EvX .go cx c ⟨zAq ds, ofHp [], 0⟩ fun e st t => (e = .nrm ∨ e = .ret) ∧ Ev t (resD cx.P st rs) fun out _ => ∃ ds', borT st.H out = some ds' ∧ Res.via (one ds') = r) : zAg cx fn [] true ds = some r := by
 obtain ⟨⟨e, s⟩, he, hen, out, ho, ds', hf, rfl⟩ := h
 exact zD0 hb hbs [] true ⟨(e, s), he, hen, out, hrs ▸ ho, rfl, [], rfl, one ds', zJ0 hf, rfl⟩
theorem zFw {cx : Cx} {fn : Func} {c : Code} {ds : List D} {r : Res} {rs : List ResultVar} (hb : fn.body = some c) (hbs : cx.bs = 0) (hrs : fn.results.toList = rs)
   (h : EvX .go cx c ⟨zAq ds, ofHp [], 0⟩ fun e st t => (e = .nrm ∨ e = .ret) ∧ Ev t (resD cx.P st rs) fun out _ => ∃ id len sz es, out = [.own id 0 len] ∧ st.H id = .row sz true es ∧ len = es.length ∧ zBh es = true ∧ Res.flat (.vec sz false es) = r) : zAg cx fn [] false ds = some r := by
 obtain ⟨⟨e, s⟩, he, hen, out, ho, id, len, sz, es, rfl, hH, rfl, hm, rfl⟩ := h
 simp only at hH
 have hr : zAY s.H 60 [id] [] = [id] := by
   have : refsB (s.H id) = [] := by rw [hH]; rfl
   show zAY s.H (59 + 1) [id] [] = [id]
   simp only [zAY, tBM, tAf, if_false, this, tAJ]
 have h1 : zAp [D.own id 0 es.length] = [id] := rfl
 refine zD0 hb hbs [] false ⟨(e, s), he, hen, _, hrs ▸ ho, ?_, [], rfl, .vec sz false es, ?_, rfl⟩
 · have h2 : closed s.H [id] = true := by simp [closed, hH, refsB]
   simp [zC5, distinct, dry, h1, hr, h2, zBh, zBU, zFL, hH, hm]
 · show finV [] (zBv (zAY s.H 60 (zAp [D.own id 0 es.length]) []) s.H) (.own id 0 es.length) = _
   rw [zHc, h1, hr, zAj]
   simp [zBv, hH]
theorem zDX {α : Type} {sz : Nat} {E : α → D} {P : Program} {H : Hp} {t e : TypeId} {xs : List α} {k : IntKind} (hu : P.underlying t = some (.slice e)) (hs : szT P e = some sz) {i : Nat} (h : i ≤ xs.length) :
   zAW P H t (vecE sz E xs) (some (.it k (i : Int))) none none = some (vecE sz E (xs.drop i)) := by
 rw [zQQ hu hs (zL5 h), tCa]
theorem zM5 {P : Program} {t e : TypeId} {H : Hp} {nid n b : Nat} {z : D} {c : Int} (he : zBL P t = some e) (hz : zDn P e n = some z) (hi : (P.info? e).map (fun i => (i.size, i.bytes)) = some (n, b)) (hb : 0 < b) :
   zDe P t H nid (.it .i64 0) (.it .i64 c) = if 0 ≤ c ∧ (b : Int) * c ≤ 281474976710656 then some (.own nid 0 0, upd H nid (.row n true []), nid + 1) else none := by
 unfold zDe
 rw [he]
 cases hi' : P.info? e with
 | none => rw [hi'] at hi; cases hi
 | some inf =>
   rw [hi'] at hi
   simp only [tAF, tAb, tAj] at hi
   obtain ⟨h1, h2⟩ := hi
   subst h1; subst h2
   simp only [tAg, hi', hz]
   by_cases hc : 0 ≤ c ∧ (inf.bytes : Int) * c ≤ 281474976710656
   · rw [if_pos ⟨by omega, hc.1, hc.2, hb⟩, if_pos hc]; rfl
   · rw [if_neg (fun h => hc ⟨h.2.1, h.2.2.1⟩), if_neg hc]
section
variable {cx : Cx} {nx bef i : Nat} {env : Nat → D} {H : Hp} {dst : Option Tmp} {ty t : TypeId} {pos : String} {after : Array Edge} {g : Option (Nat × Bool)} {x y : Operand}
def zEw (H : Hp) (a : D) (xs : List D) : Option (List (Nat × Blk)) := match a with
 | .ptr id off => match H id with | .box cs => (setAt cs off xs).map fun cs' => [(id, .box cs')] | _ => none
 | .rowp id ix off => match H id with
   | .row sz pl es => (es[ix]?).bind fun e => (setAt e.cells off xs).map fun cs' => [(id, .row sz (pl && immL xs) (es.set ix (again e cs')))]
   | _ => none
 | _ => none
theorem zHC {id off : Nat} {xs : List D} : zEw H (.ptr id off) xs = match H id with | .box cs => (setAt cs off xs).map fun cs' => [(id, .box cs')] | _ => none := rfl
theorem zXz (a : D) (xs : List D) : zKL H a xs = (zEw H a xs).map (updL H) := by
 cases a <;> simp only [zKL, zEw, tBX]
 case ptr id off =>
   cases hh : H id <;> simp only [tBX]
   rename_i cs
   cases setAt cs off xs <;> rfl
 case rowp id ix off =>
   cases hh : H id <;> simp only [tBX]
   rename_i sz pl es
   cases es[ix]? with
   | none => rfl
   | some e => simp only [tAg]; cases setAt e.cells off xs <;> rfl
theorem zSz {a : D} {xs : List D} {K : List (Nat × Blk)} (h : zEw H a xs = some K) : ∀ p ∈ K, p.1 ∈ refs a := by
 cases a <;> simp only [zEw, reduceCtorEq] at h
 case ptr id off =>
   cases hh : H id <;> simp only [hh, reduceCtorEq] at h
   rename_i cs
   simp only [tAe] at h
   obtain ⟨_, _, rfl⟩ := h
   intro p hp; simp only [tAy] at hp; subst hp; simp [refs]
 case rowp id ix off =>
   cases hh : H id <;> simp only [hh, reduceCtorEq] at h
   rename_i sz pl es
   simp only [tAc, tAe] at h
   obtain ⟨_, _, _, _, rfl⟩ := h
   intro p hp; simp only [tAy] at hp; subst hp; simp [refs]
theorem zQL {H' : Hp} {a : D} {xs : List D} (h : ∀ id ∈ refs a, H' id = H id) : zEw H' a xs = zEw H a xs := by
 cases a <;> try rfl
 case ptr id off => simp only [zEw, h id (by simp [refs])]
 case rowp id ix off => simp only [zEw, h id (by simp [refs])]
theorem zCn (hr : zAy nx bef i H (refs (ev env x) ++ refs (ev env y)) = true) : stepD cx nx bef i ⟨dst, .store t x y, ty, pos, after, g⟩ env H =
   ((cellsOf (ev env y)).bind fun xs => if szT cx.P t = some xs.length then zEw H (ev env x) xs else none).map fun K => (.un, updL (clr H (nx + i * 64)) K) := by
 have hro : roots env ⟨dst, .store t x y, ty, pos, after, g⟩ = refs (ev env x) ++ refs (ev env y) := by simp [roots, Op.operands]
 have := zGS (cx := cx) (bef := bef) (i := i) (o := ⟨dst, .store t x y, ty, pos, after, g⟩) (X := ((cellsOf (ev env y)).bind fun xs => if szT cx.P t = some xs.length then zEw H (ev env x) xs else none).map fun K => (.un, K, 0)) rfl (by rw [hro]; exact hr) (fun H' hH => ?_) (fun r hr' => ?_)
 · rw [this]
   cases (cellsOf (ev env y)).bind fun xs => if szT cx.P t = some xs.length then zEw H (ev env x) xs else none <;> rfl
 · rw [hro] at hH
   rw [zO1]
   cases cellsOf (ev env y) with
   | none => rfl
   | some xs =>
     simp only [tAg]
     split
     · rw [zXz, zQL (fun id hid => hH id (by simp [hid]))]
       cases zEw H (ev env x) xs <;> rfl
     · rfl
 · simp only [tAe, tAc] at hr'
   obtain ⟨K, ⟨xs, _, hK⟩, rfl⟩ := hr'
   split at hK
   · refine ⟨tAL _, fun p hp => ?_⟩
     rw [hro]
     exact .inl (by simp [zSz hK p hp])
   · cases hK
end
theorem PureOK.slices {P : Program} {g : FuncId} {F G : List D → Option Res} (h : PureOK P g G) (hF : ∀ ds r, F ds = some r → ∃ sz es, ds = [.vec sz false es] ∧ (es ≠ [] → G ds = some r) ∧ (es = [] → ∀ b, G [.emp b] = some r)) : PureOK P g F := by
 refine ⟨h.1, fun ds r hr => ?_⟩
 obtain ⟨sz, es, rfl, h1, h2⟩ := hF ds r hr
 by_cases he : es = []
 · subst he
   have h3 := h2 rfl
   refine ⟨(h.2 _ _ (h3 true)).1, fun M w vs hmem hl hv => ?_⟩
   obtain ⟨v, hv1, hv2⟩ := hv 0 _ rfl
   have : ∃ b, VRi M (.emp b) v := by
     cases hv2 with
     | vec _ _ _ a c _ _ _ _ _ _ _ _ => exact ⟨a.isSome, .emp _ a c rfl⟩
   obtain ⟨b, hb⟩ := this
   exact (h.2 _ _ (h3 b)).2 M w vs hmem (by simpa using hl) (fun k d hd => by
     cases k with
     | zero => simp only [tAt, tAb] at hd; subst hd; exact ⟨v, hv1, hb⟩
     | succ k => simp at hd)
 · exact h.2 _ _ (h1 he)
section
variable {H : Hp} {n : Nat}
theorem zCi (n : Nat) : ∀ l : List D, immL l = true → borM H n l = some l
 | [], _ => rfl
 | d :: r, h => by
   simp only [immL, tAd] at h
   rw [borM, zFg n d h.1, zCi n r h.2]; rfl
theorem zE0 {g : Fn} {p q : List D} : bor H (n + 1) (.fn g p q) = (borM H n p).bind fun p' => (borM H n q).map fun q' => .fn g p' q' := by rw [bor, zIm, zIm]
theorem zDy {id off : Nat} : bor H (n + 1) (.ptr id off) = match H id with | .box cs => (borM H n (cs.drop off)).map .elt | _ => none := by
 rw [bor]
 cases H id <;> simp only [zIm]
theorem zEl {k : IntKind} {x : Int} : bor H (n + 1) (.it k x) = some (.it k x) := rfl
theorem zE1 {b : Bool} : bor H (n + 1) (.bo b) = some (.bo b) := rfl
theorem zEk {l : List UInt8} : bor H (n + 1) (.st l) = some (.st l) := rfl
theorem zCA {α : Type} {sz : Nat} {E : α → D} {xs : List α} : bor H (n + 1) (vecE sz E xs) = some (vecE sz E xs) := rfl
theorem zC8 {sz : Nat} {cl : Bool} {es : List D} : bor H (n + 1) (.vec sz cl es) = some (.vec sz cl es) := rfl
theorem zDz {cs : List D} : bor H (n + 1) (.elt cs) = some (.elt cs) := rfl
theorem zND {P : Program} {t e : TypeId} {α : Type} {sz : Nat} {E : α → D} {xs : List α} (hu : P.underlying t = some (.slice e)) : binD P .eql t (vecE sz E xs) .nils = if xs = [] then none else some (.bo false) := by
 cases xs with
 | nil => simp [binD, vecE, zEq, eqD, hu]
 | cons x r => simp [binD, vecE, zEq, eqD, hu]
theorem zNF {P : Program} {t e : TypeId} {b : Bool} (hu : P.underlying t = some (.slice e)) : binD P .eql t (.emp b) .nils = some (.bo (!b)) := by simp [binD, zEq, eqD, hu]
theorem zVm {k : Nat} {b : Bool} : elems H k (.emp b) = some (true, []) := rfl
theorem yCD {P : Program} {t e : TypeId} {b : Bool} (hu : P.underlying t = some (.slice e)) : zBP P t (.emp b) = true := by simp only [zBP, hu]
theorem zCJ : ofV (.slice none 0 0) = .nils := rfl
end
theorem PureOK.either {P : Program} {g : FuncId} {F1 F2 : List D → Option Res} (h1 : PureOK P g F1) (h2 : PureOK P g F2) : PureOK P g (fun ds => (F1 ds).or (F2 ds)) := by
 refine ⟨h1.1, fun ds r hr => ?_⟩
 simp only [] at hr
 cases h : F1 ds with
 | none => rw [h, Option.none_or] at hr; exact h2.2 ds r hr
 | some r' => rw [h, Option.some_or] at hr; cases hr; exact h1.2 ds _ h
theorem zFM {σ : Type} {enc : σ → List D} {pre : σ → Prop} {out : σ → Res} {ds : List D} (h : ∀ s, enc s ≠ ds) : mkF enc pre out ds = none := by
 unfold mkF
 rw [dif_neg (fun ⟨s, hs, _⟩ => h s hs)]
def zBX {α : Type} (p : α → Bool) (l : List α) : Int := if l.any p = true then (l.findIdx p : Int) else -1
theorem zET {α : Type} {p : α → Bool} {l : List α} (h : l.any p = false) : zBX p l = -1 := by rw [zBX, if_neg (by simp only [h]; decide)]
theorem zFS {α : Type} [Inhabited α] {p : α → Bool} {l : List α} {i : Nat} (h0 : (l.take i).any p = false) (hi : (i : Int) < l.length) (hp : p l[i]! = true) : zBX p l = (i : Int) := by
 have hi' : i < l.length := by omega
 rw [zBX, if_pos (tA6.2 ⟨_, zBu hi, hp⟩)]
 congr 1
 rw [List.findIdx_eq hi']
 refine ⟨by rw [getElem!_pos l i hi'] at hp; exact hp, fun j hj => ?_⟩
 have h1 := tCj.1 h0 l[j] (by rw [List.mem_take_iff_getElem]; exact ⟨j, by omega, rfl⟩)
 simpa using h1
theorem zZa {α : Type} {p : α → Bool} {l : List α} : zBX p l < l.length := by
 unfold zBX
 split
 · rename_i h
   have := List.findIdx_lt_length.2 (by obtain ⟨x, h1, h2⟩ := tA6.1 h; exact ⟨x, h1, h2⟩)
   omega
 · omega
section
variable {P : Program} {n : Nat} {t e : TypeId} {ds : List D}
theorem zDq {k : IntKind} (hu : P.underlying t = some (.int k)) (h : TD P (n + 1) t ds) : ∃ x, ds = [.it k x] := by
 simp only [TD, hu] at h; obtain ⟨x, h, _⟩ := h; exact ⟨x, h⟩
theorem zXs (hu : P.underlying t = some .bool) (h : TD P (n + 1) t ds) : ∃ x, ds = [.bo x] := by
 simp only [TD, hu] at h; exact h
theorem zGe (hu : P.underlying t = some .string) (h : TD P (n + 1) t ds) : ∃ l, ds = [.st l] ∧ Sm l := by
 simp only [TD, hu] at h; obtain ⟨l, h, hl⟩ := h
 refine ⟨l, h, ?_⟩
 simp only [reachBytes] at hl
 simp only [Sm]; omega
theorem td1_agg (ha : aggT P t = some true) {d : D} (h : TD1 P n t d) : ∃ cs, d = .agg cs ∧ TD P n t cs := by
 rcases h with ⟨_, cs, rfl, h⟩ | ⟨h, _⟩
 · exact ⟨cs, rfl, h⟩
 · rw [ha] at h; cases h
end
theorem zSt {ks ids : List Nat} {st : St} (hr : ∀ id ∈ ids, refsB (st.H id) = [] ∧ renBlk (ixOf ids) (st.H id) = st.H id) (h0 : refsB (st.H 0) = []) (h : zAY st.H 60 (zAp (ks.map st.env)) [0] = ids) (hl : (zAp (ks.map st.env)).all (fun j => ids.contains j) = true) :
   tidy 1 ks st = some ⟨zDJ (ks.map fun t => (t, ren (ixOf ids) (st.env t))), ofHp (ids.map st.H), ids.length⟩ := by
 unfold tidy zCH
 have e1 : (List.range 1).flatMap (fun i => refsB (st.H i)) = [] := by simp [List.range_succ, h0]
 have e2 : List.range 1 = [0] := rfl
 rw [e1, e2, tAo]
 simp only [h]
 have hc : closed st.H ids = true := by
   simp only [closed, tAw]
   intro id hid
   rw [(hr id hid).1]; simp
 rw [hc, hl]
 simp only [tBp, if_true, tAb, St.mk.injEq, true_and, and_true]
 have : ids.map (fun i => renBlk (ixOf ids) (st.H i)) = ids.map st.H := tBo (fun id hid => (hr id hid).2)
 rw [this]
section
variable {cx : Cx} {c : Code} {st : St} {k : Ex → St → Tok → Prop}
theorem zA1 {σ : Type} (I : σ → List D) (R : σ → List Blk) (J : σ → Prop) (m : σ → Nat) (ks : List Nat) (hbs : cx.bs = 1) (hk : cx.kp (zBt c) = some ks)
   (hR : ∀ s, J s → ∀ b ∈ R s, zBn b)
   (h : ∀ s, J s → EvX .go cx c ⟨zDJ (ks.zip (I s)), ofHp (R s), (R s).length⟩ fun e st' t => match e with
     | .nrm => ∃ (ids : List Nat) (s' : σ), zAY st'.H 60 (zAp (ks.map st'.env)) [0] = ids ∧ (zAp (ks.map st'.env)).all (fun j => ids.contains j) = true ∧ ids.head? = some 0 ∧ ks.map (fun t => ren (ixOf ids) (st'.env t)) = I s' ∧ ids.map st'.H = R s' ∧ J s' ∧ m s' < m s
     | e => k e st' t)
   {s : σ} (ids : List Nat) (h1 : zAY st.H 60 (zAp (ks.map st.env)) [0] = ids) (h2 : (zAp (ks.map st.env)).all (fun j => ids.contains j) = true) (h2' : ids.head? = some 0) (h3 : ks.map (fun t => ren (ixOf ids) (st.env t)) = I s) (h4 : ids.map st.H = R s) (hJ : J s) : EvX .go cx (.loop c) st k := by
 have key : ∀ (st : St) (ids : List Nat) (s : σ), J s → zAY st.H 60 (zAp (ks.map st.env)) [0] = ids → (zAp (ks.map st.env)).all (fun j => ids.contains j) = true → ids.head? = some 0 → ks.map (fun t => ren (ixOf ids) (st.env t)) = I s → ids.map st.H = R s →
     tidy 1 ks st = some ⟨zDJ (ks.zip (I s)), ofHp (R s), (R s).length⟩ := by
   intro st ids s hJ h1 h2 h2' h3 h4
   have hf : ∀ id ∈ ids, zBn (st.H id) := fun id hid => hR s hJ _ (by rw [← h4]; exact tBk.2 ⟨id, hid, rfl⟩)
   have h0 : (0 : Nat) ∈ ids := by cases ids with | nil => cases h2' | cons a r => simp only [List.head?_cons, tAb] at h2'; subst h2'; simp
   rw [zSt (ids := ids) (fun id hid => zCa (hf id hid) _) (zCa (hf 0 h0) some).1 h1 h2]
   rw [zR4 ks _ _ h3, h4, ← h4, tAI]
 refine zJ7 (fun s => ⟨zDJ (ks.zip (I s)), ofHp (R s), (R s).length⟩) J m ks hk (fun e s => e ≠ .nrm ∧ k e s .go) (fun s hs => ?_) (fun e s h _ => h.2) (s := s) ?_ hJ
 · obtain ⟨r, hr, hq⟩ := h s hs
   refine ⟨r, hr, ?_⟩
   obtain ⟨e, st'⟩ := r
   cases e with
   | nrm =>
     obtain ⟨ids, s', q1, q2, q2', q3, q4, q5, q6⟩ := hq
     exact ⟨s', by rw [hbs]; exact key st' ids s' q5 q1 q2 q2' q3 q4, q5, q6⟩
   | _ => exact ⟨by simp, hq⟩
 · rw [hbs]; exact key st ids s hJ h1 h2 h2' h3 h4
end
def yJZ := @zCc
theorem zD5 {F : List D → List Blk → Option (D × List Blk)} {id off len nid : Nat} {rest : List D} {H : Hp} (hr : zAp rest = []) : zCc F (.own id off len :: rest) H nid = match H id with
   | .row sz true es => (F (.own 0 off len :: rest) [.row sz true es]).bind fun p => if 1 ≤ p.2.length then some (ren (zEY [id] nid) p.1, zFh [id] nid p.2 H, nid + (p.2.length - 1)) else none
   | _ => yJZ F (.own id off len :: rest) H nid := by
 have hrefs : zAp (.own id off len :: rest) = [id] := by simp [zAp, refs, hr]
 have hren : renL (ixOf [id]) (.own id off len :: rest) = .own 0 off len :: rest := by
   have h2 : renL (ixOf [id]) rest = rest := by
     have hall : ∀ x ∈ rest, refs x = [] := fun x hx => by
       have : ∀ l : List D, zAp l = [] → ∀ x ∈ l, refs x = [] := by
         intro l
         induction l with
         | nil => intro _ x hx; simp at hx
         | cons a r ih =>
           intro h x hx
           rw [zAp, List.append_eq_nil_iff] at h
           rcases tAr.1 hx with rfl | hx
           · exact h.1
           · exact ih h.2 x hx
       exact this rest hr x hx
     exact zEN hall
   rw [renL, h2]; simp [ren, ixOf]
 cases hH : H id with
 | row sz pl es =>
   cases pl with
   | false => rfl
   | true =>
     have hrc : zAY H 60 [id] [] = [id] := by
       show zAY H (59 + 1) [id] [] = [id]
       simp only [zAY, tBM, tAf, if_false, hH, refsB, tAJ]
     unfold zCc
     simp only [hrefs, hrc]
     have hc : closed H [id] = true := by simp [closed, hH, refsB]
     rw [hc, hren]
     simp only [tAq, tAs, List.contains_cons, beq_self_eq_true, Bool.true_or, tBp, if_true, tAO, tBn, hH, renBlk, tAp, tAu, tAZ]
 | _ => rfl
theorem zEe {id nid sz : Nat} {es : List D} {H : Hp} : zFh [id] nid [.row sz true es] H = upd H id (.row sz true es) := by
 funext i
 unfold zFh upd
 by_cases h : i = id
 · subst h; simp [ixOf, ofHp, renBlk]
 · rw [if_neg h]
   have : ixOf [id] i = none := by simp [ixOf, Ne.symm h]
   rw [this]
   simp
   intro h1 h2; omega
theorem zHn {id nid off len : Nat} : ren (zEY [id] nid) (.own 0 off len) = .own id off len := by simp [ren, zEY]
theorem zEd {f : Nat → Option Nat} : ren f (.tup []) = .tup [] := by simp [ren, renL]
theorem zBo {cx : Cx} {H : Hp} {nid : Nat} {g : FuncId} {F : List D → List Blk → Option (D × List Blk)} {asx : List D} (hn : cx.orc g = none) (he : cx.ext g = none) (hf : cx.eff g = some F) : zBI cx g asx H nid = zCc F asx H nid := by
 unfold zBI
 simp only [hn, he, hf, tAg]
open Classical in
noncomputable def mkE {σ : Type} (enc : σ → List D) (blk : σ → Blk) (pre : σ → Prop) (out : σ → D × List Blk) : List D → List Blk → Option (D × List Blk) :=
 fun ds hs => if h : ∃ s, enc s = ds ∧ [blk s] = hs ∧ pre s then some (out h.choose) else none
theorem yBu {σ : Type} {enc : σ → List D} {blk : σ → Blk} {pre : σ → Prop} {out : σ → D × List Blk} {s : σ} (hinj : ∀ s s', enc s = enc s' → blk s = blk s' → out s = out s') (hp : pre s) : mkE enc blk pre out (enc s) [blk s] = some (out s) := by
 have h : ∃ s', enc s' = enc s ∧ [blk s'] = [blk s] ∧ pre s' := ⟨s, rfl, rfl, hp⟩
 unfold mkE
 rw [dif_pos h, hinj _ _ h.choose_spec.1 (by have := h.choose_spec.2.1; simpa using this)]
theorem zHV {σ : Type} {enc : σ → List D} {blk : σ → Blk} {pre : σ → Prop} {out : σ → D × List Blk} {ds : List D} {hs : List Blk} {r : D × List Blk} (h : mkE enc blk pre out ds hs = some r) : ∃ s, ds = enc s ∧ hs = [blk s] ∧ pre s ∧ r = out s := by
 unfold mkE at h
 split at h
 · rename_i hs'
   simp only [tAb] at h
   exact ⟨_, hs'.choose_spec.1.symm, hs'.choose_spec.2.1.symm, hs'.choose_spec.2.2, h.symm⟩
 · cases h
def Known.cx1 (K : Known) (kp : Nat → Option (List Nat)) : Cx := { K.cx kp with bs := 1 }
theorem Known.addEff {K : Known} (h : K.OK) (hP : K.P.follows .mixedOrders = true) {g : FuncId} {fn : Func} {c : Code} (kp : Nat → Option (List Nat)) (hb : Body K.P (K.cx kp).rd g fn c) {σ : Type} {enc : σ → List D} {blk : σ → Blk} {pre : σ → Prop} {out : σ → D × List Blk} {n : Nat} (hn : n ≤ fn.ntmps) (hl : ∀ s, (enc s).length = n)
   (hF : ∀ s, pre s → zCm (K.cx1 kp) fn (enc s) [blk s] = some (out s)) : (K.eff g (mkE enc blk pre out)).OK :=
 Known.fnEff h hP kp hb (fun ds hs r hr => by
   obtain ⟨s, rfl, rfl, hp, rfl⟩ := zHV hr
   exact ⟨by rw [hl]; exact hn, hF s hp⟩)
theorem zLg {cx : Cx} {fn : Func} {c : Code} {ds : List D} {r : Res} {rs : List ResultVar} (hb : fn.body = some c) (hbs : cx.bs = 0) (hrs : fn.results.toList = rs)
   (h : EvX .go cx c ⟨zAq ds, ofHp [], 0⟩ fun e st t => (e = .nrm ∨ e = .ret) ∧ Ev t (resD cx.P st rs) fun out _ => ∃ id len sz es, out = [.own id 0 len] ∧ st.H id = .row sz true es ∧ zBh es = true ∧ Res.flat (.vec sz false (es.take len)) = r) : zAg cx fn [] false ds = some r := by
 obtain ⟨⟨e, s⟩, he, hen, out, ho, id, len, sz, es, rfl, hH, hm, rfl⟩ := h
 simp only at hH
 have hr : zAY s.H 60 [id] [] = [id] := by
   have : refsB (s.H id) = [] := by rw [hH]; rfl
   show zAY s.H (59 + 1) [id] [] = [id]
   simp only [zAY, tBM, tAf, if_false, this, tAJ]
 have h1 : zAp [D.own id 0 len] = [id] := rfl
 refine zD0 hb hbs [] false ⟨(e, s), he, hen, _, hrs ▸ ho, ?_, [], rfl, .vec sz false (es.take len), ?_, rfl⟩
 · have h2 : closed s.H [id] = true := by simp [closed, hH, refsB]
   simp [zC5, distinct, dry, h1, hr, h2, zBh, zBU, zFL, hH, hm]
 · show finV [] (zBv (zAY s.H 60 (zAp [D.own id 0 len]) []) s.H) (.own id 0 len) = _
   rw [zHc, h1, hr, zAj]
   simp [zBv, hH]
theorem zVd {P : Program} {g : FuncId} {fn : Func} {e : Array Value → Sem Value} {F : List D → Option D} (hf : P.funcs[g]? = some fn) (hn : (fn.name == "runtime.NumGoroutine") = false) (hb : fn.body.isNone = true) (h2 : Extern.findNext fn = none) (h3 : Extern.find fn = some e)
   (hF : ∀ ds d, F ds = some d → ∀ (M : Mem) (w : World) (vs : List Value), vs.length = ds.length → (∀ (k : Nat) (d : D), ds[k]? = some d → ∃ v, vs[k]? = some v ∧ VRi M d v) → ∃ v, (e vs.toArray).run P w = .ok v w ∧ ∀ M', VRi M' d v) : ExtOK P g F := by
 intro ds d hd M w vs hm hl hv
 obtain ⟨v, hr, hvd⟩ := hF ds d hd M w vs hl hv
 refine ⟨v, ?_, hvd⟩
 rw [run_callFunc_extern hf hn hb h2 h3, hr]; rfl
theorem zNX {M : Mem} {l : List UInt8} {v : Value} (h : VRi M (.st l) v) : v = .string ⟨l.toArray⟩ := by cases h; rfl
theorem yAA {M : Mem} {k : IntKind} {n : Int} {v : Value} (h : VRi M (.it k n) v) : v = .int k n := by cases h; rfl
theorem zJj {M : Mem} {a b : D} {vs : List Value} (hl : vs.length = [a, b].length) (hv : ∀ (k : Nat) (d : D), [a, b][k]? = some d → ∃ v, vs[k]? = some v ∧ VRi M d v) : ∃ x y, vs = [x, y] ∧ VRi M a x ∧ VRi M b y := by
 match vs, hl with
 | [x, y], _ =>
   obtain ⟨_, h1, h2⟩ := hv 0 a rfl
   obtain ⟨_, h3, h4⟩ := hv 1 b rfl
   simp at h1 h3; subst h1; subst h3
   exact ⟨x, y, rfl, h2, h4⟩
def zJf : List D → Option D := fun ds => match ds with | [.st l, .it .u8 c] => some (.it .i64 ((Lib.countByte l c.toNat.toUInt8 : Nat) : Int)) | _ => none
def FIxB : List D → Option D := fun ds => match ds with | [.st l, .it .u8 c] => some (.it .i64 (Lib.indexByte l c.toNat.toUInt8)) | _ => none
def zRW : List D → Option D := fun ds => match ds with | [.st a, .st b] => some (.it .i64 (Lib.compareBytes a b)) | _ => none
section
variable {P : Program} {g : FuncId} {fn : Func} (hf : P.funcs[g]? = some fn) (hn : (fn.name == "runtime.NumGoroutine") = false) (hb : fn.body.isNone = true) (h2 : Extern.findNext fn = none)
include hf hn hb h2
theorem zLY (h3 : Extern.find fn = some Extern.BytealgCount.count) : ExtOK P g zJf := zVd hf hn hb h2 h3 fun ds d h M w vs hl hv => by
 unfold zJf at h
 split at h
 · simp only [tAb] at h; subst h
   obtain ⟨x, y, rfl, hx, hy⟩ := zJj hl hv
   rw [zNX hx, yAA hy]
   refine ⟨_, Lib.run_countString _ _ w, fun _ => ?_⟩
   simpa using VRi.it _ _
 · cases h
theorem zUU (h3 : Extern.find fn = some Extern.BytealgIndexByte.indexByte) : ExtOK P g FIxB := zVd hf hn hb h2 h3 fun ds d h M w vs hl hv => by
 unfold FIxB at h
 split at h
 · simp only [tAb] at h; subst h
   obtain ⟨x, y, rfl, hx, hy⟩ := zJj hl hv
   rw [zNX hx, yAA hy]
   refine ⟨_, Lib.run_indexByteString _ _ w, fun _ => ?_⟩
   simpa using VRi.it _ _
 · cases h
theorem zPQ (h3 : Extern.find fn = some Extern.BytealgCompare.compare) : ExtOK P g zRW := zVd hf hn hb h2 h3 fun ds d h M w vs hl hv => by
 unfold zRW at h
 split at h
 · simp only [tAb] at h; subst h
   obtain ⟨x, y, rfl, hx, hy⟩ := zJj hl hv
   rw [zNX hx, zNX hy]
   refine ⟨_, Lib.run_compareString _ _ w, fun _ => ?_⟩
   simpa using VRi.it _ _
 · cases h
end
theorem yIg {l : List UInt8} {c : Int} : zJf [.st l, .it .u8 c] = some (.it .i64 ((Lib.countByte l c.toNat.toUInt8 : Nat) : Int)) := rfl
theorem fixb {l : List UInt8} {c : Int} : FIxB [.st l, .it .u8 c] = some (.it .i64 (Lib.indexByte l c.toNat.toUInt8)) := rfl
theorem yKb {a b : List UInt8} : zRW [.st a, .st b] = some (.it .i64 (Lib.compareBytes a b)) := rfl
theorem yBs {P : Program} {t e : TypeId} {H : Hp} {nid n b : Nat} {z : D} {k : Nat} (he : zBL P t = some e) (hz : zDn P e n = some z) (hi : (P.info? e).map (fun i => (i.size, i.bytes)) = some (n, b)) (hb : 0 < b) :
   zDe P t H nid (.it .i64 (k : Int)) (.it .i64 (k : Int)) = if (b : Int) * (k : Int) ≤ 281474976710656 then some (.own nid 0 k, upd H nid (.row n true (List.replicate k z)), nid + 1) else none := by
 unfold zDe
 rw [he]
 cases hi' : P.info? e with
 | none => rw [hi'] at hi; cases hi
 | some inf =>
   rw [hi'] at hi
   simp only [tAF, tAb, tAj] at hi
   obtain ⟨h1, h2⟩ := hi
   subst h1; subst h2
   simp only [tAg, hi', hz]
   by_cases hc : (inf.bytes : Int) * (k : Int) ≤ 281474976710656
   · rw [if_pos ⟨by omega, by omega, hc, hb⟩, if_pos hc]; rfl
   · rw [if_neg (fun h => hc h.2.2.1), if_neg hc]
def out0 (x : D) : Prop := (∀ j ∈ refs x, j = 0) ∧ ren (ixOf [0]) x = x
theorem zT1 {x : D} (h : zDN x = true) : out0 x := by
 obtain ⟨f1, _⟩ := zFd h
 exact ⟨fun j hj => by rw [f1] at hj; simp at hj, zCp _ x f1⟩
theorem zX5 {k : Nat} : out0 (.ptr 0 k) := ⟨fun j hj => by simpa [refs] using hj, rfl⟩
theorem zJC {k n : Nat} : out0 (.own 0 k n) := ⟨fun j hj => by simpa [refs] using hj, rfl⟩
theorem zEH {cx : Cx} {fn : Func} {c : Code} {ds : List D} {b0 : Blk} {r : D × List Blk} {rs : List ResultVar} (hb : fn.body = some c) (hbs : cx.bs = 1) (hrs : fn.results.toList = rs)
   (h : EvX .go cx c ⟨zAq ds, ofHp [b0], 1⟩ fun e st t => (e = .nrm ∨ e = .ret) ∧ Ev t (resD cx.P st rs) fun out _ => ∃ b, st.H 0 = b ∧ zBn b ∧ (∀ x ∈ out, out0 x) ∧ (one out, [b]) = r) : zCm cx fn ds [b0] = some r := by
 obtain ⟨⟨e, s⟩, he, hen, out, ho, b, hH, hfl, hf, rfl⟩ := h
 replace hH : s.H 0 = b := hH
 replace ho : resD cx.P s rs = some out := ho
 replace hen : e = .nrm ∨ e = .ret := hen
 have hcx : { cx with bs := [b0].length } = cx := by show { cx with bs := 1 } = cx; rw [← hbs]
 have hrefs : ∀ l : List D, (∀ x ∈ l, out0 x) → (∀ j ∈ zAp l, j = 0) ∧ renL (ixOf [0]) l = l := by
   intro l
   induction l with
   | nil => intro _; exact ⟨fun j hj => by simp [zAp] at hj, rfl⟩
   | cons x r ih =>
     intro hl
     obtain ⟨i1, i2⟩ := ih fun y hy => hl y (by simp [hy])
     obtain ⟨x1, x2⟩ := hl x (by simp)
     refine ⟨fun j hj => ?_, by rw [renL, i2, x2]⟩
     rw [zAp] at hj
     rcases tAz.1 hj with hj | hj
     · exact x1 j hj
     · exact i1 j hj
 obtain ⟨h1, h2⟩ := hrefs out hf
 have hreach : ∀ (n : Nat) (todo : List Nat), (∀ j ∈ todo, j = 0) → zAY s.H n todo [0] = [0] := by
   intro n
   induction n with
   | zero => intro _ _; rfl
   | succ n ih =>
     intro todo ht
     cases todo with
     | nil => rfl
     | cons a r =>
       obtain rfl := ht a (by simp)
       simp only [zAY]
       rw [if_pos (by simp)]
       exact ih r fun j hj => ht j (by simp [hj])
 have hrb := (zCa hfl (ixOf [0]))
 have hids : zCH 1 out s.H = [0] := by
   unfold zCH
   rw [show List.range 1 = [0] from rfl]
   refine hreach 60 _ fun j hj => ?_
   rcases tAz.1 hj with hj | hj
   · exact h1 j hj
   · simp [hH, hrb.1] at hj
 unfold zCm runD
 rw [hb, hcx]
 simp only [tAg, tAp, tAu, tAZ, he]
 have hfin : (let ids := zCH 1 out s.H; if closed s.H ids && (zAp out).all (fun j => ids.contains j) then some (one (renL (ixOf ids) out), ids.map fun i => renBlk (ixOf ids) (s.H i)) else none) = some (one out, [b]) := by
   simp only [hids]
   have hc : closed s.H [0] = true := by simp [closed, hH, hrb.1]
   have ha : (zAp out).all (fun j => [0].contains j) = true := by
     simp only [tAw]; intro j hj; rw [h1 j hj]; rfl
   rw [hc, ha, h2]
   simp only [tBp, if_true, tAO, tBn, hH, hrb.2]
 rcases hen with rfl | rfl <;> (rw [hrs]; simp only [ho, tAF, tAg]; exact hfin)
theorem zYx {F : List D → List Blk → Option (D × List Blk)} {id off nid : Nat} {rest : List D} {H : Hp} (hr : zAp rest = []) {b : Blk} (hH : H id = b) (hb : zBn b) : zCc F (.ptr id off :: rest) H nid =
   (F (.ptr 0 off :: rest) [b]).bind fun p => if 1 ≤ p.2.length then some (ren (zEY [id] nid) p.1, zFh [id] nid p.2 H, nid + (p.2.length - 1)) else none := by
 have hrefs : zAp (.ptr id off :: rest) = [id] := by simp [zAp, refs, hr]
 have hrb := zCa hb (ixOf [id])
 have hren : renL (ixOf [id]) (.ptr id off :: rest) = .ptr 0 off :: rest := by
   have h2 : renL (ixOf [id]) rest = rest := by
     have hall : ∀ x ∈ rest, refs x = [] := fun x hx => by
       have : ∀ l : List D, zAp l = [] → ∀ x ∈ l, refs x = [] := by
         intro l
         induction l with
         | nil => intro _ x hx; simp at hx
         | cons a r ih =>
           intro h x hx
           rw [zAp, List.append_eq_nil_iff] at h
           rcases tAr.1 hx with rfl | hx
           · exact h.1
           · exact ih h.2 x hx
       exact this rest hr x hx
     exact zEN hall
   rw [renL, h2]; simp [ren, ixOf]
 have hrc : zAY H 60 [id] [] = [id] := by
   show zAY H (59 + 1) [id] [] = [id]
   simp only [zAY, tBM, tAf, if_false, hH, hrb.1, tAJ]
 unfold zCc
 simp only [hrefs, hrc]
 have hc : closed H [id] = true := by simp [closed, hH, hrb.1]
 rw [hc, hren]
 simp only [tAq, tAs, List.contains_cons, beq_self_eq_true, Bool.true_or, tBp, if_true, tAO, tBn, hH, hrb.2, tAp, tAu, tAZ]
theorem zZJ {id nid : Nat} {b : Blk} {H : Hp} (hb : zBn b) : zFh [id] nid [b] H = upd H id b := by
 funext i
 unfold zFh upd
 by_cases h : i = id
 · subst h; simp [ixOf, ofHp, (zCa hb _).2]
 · rw [if_neg h]
   have : ixOf [id] i = none := by simp [ixOf, Ne.symm h]
   rw [this]
   simp
   intro h1 h2; omega
section
variable {cx : Cx} {nx bef i : Nat} {env : Nat → D} {H : Hp} {dst : Option Tmp} {ty : TypeId} {pos : String} {after : Array Edge} {gd : Option (Nat × Bool)}
theorem zGT {k : Tmp} {args : Array Operand} {ts : Array TypeId} {g0 : FuncId} {F : List D → Option Res} (hk : env k = .fn (.func g0) [] []) (ho : cx.orc g0 = some F)
   (hr : zAy nx bef i H (refs (env k) ++ zAp (args.toList.map (ev env))) = true) (hi : immL (args.toList.map (ev env)) = true) :
   stepD cx nx bef i ⟨dst, .call ⟨.value (.tmp k), args, ts⟩, ty, pos, after, gd⟩ env H = (F (args.toList.map (ev env))).bind fun r => if r.hs.isEmpty = true ∧ r.al = false ∧ refs r.r = [] then some (r.r, clr H (nx + i * 64))
     else yCv cx nx bef i ⟨dst, .call ⟨.value (.tmp k), args, ts⟩, ty, pos, after, gd⟩ env H := by
 have hro : roots env ⟨dst, .call ⟨.value (.tmp k), args, ts⟩, ty, pos, after, gd⟩ = refs (env k) ++ zAp (args.toList.map (ev env)) := by
   have : ∀ l : List Operand, l.flatMap (fun x => refs (ev env x)) = zAp (l.map (ev env)) := by
     intro l; induction l with
     | nil => rfl
     | cons a r ih => simp only [tBe, tAO, zAp, ih]
   have e1 : (Op.call ⟨.value (.tmp k), args, ts⟩).operands.toList = .tmp k :: args.toList := by simp [Op.operands, Call.operands]
   unfold roots
   rw [e1, tBe, this]; rfl
 have hop : ∀ H', opD cx env ⟨dst, .call ⟨.value (.tmp k), args, ts⟩, ty, pos, after, gd⟩ H' (nx + i * 64) = zBI cx g0 (args.toList.map (ev env)) H' (nx + i * 64) := by
   intro H'
   rw [zM2]
   simp only [ev, hk, tAJ, tAo]
 cases h : F (args.toList.map (ev env)) with
 | none =>
   rw [zGS (X := none) rfl (by rw [hro]; exact hr) (fun H' _ => by rw [hop, zL3 ho hi, h]; rfl) (fun r hr => by cases hr)]; rfl
 | some r =>
   simp only [tAg]
   split
   · rename_i hc
     rw [zGS (X := some (r.r, [], 0)) rfl (by rw [hro]; exact hr) (fun H' _ => ?_) (fun r' hr' => by simp at hr'; subst hr'; exact ⟨by simp, by simp⟩)]
     · rfl
     · rw [hop, zL3 ho hi, h]
       have h1 : r.hs = [] := by simpa using hc.1
       simp only [tAF, h1, tAu, Nat.add_zero, zGm, updL, zCp _ _ hc.2.2]
   · rfl
end
theorem zD3 {σ : Type} {enc : σ → List D} {blk : σ → Blk} {pre : σ → Prop} {out : σ → D × List Blk} {s : σ} (hinj : ∀ s s', pre s → pre s' → enc s = enc s' → blk s = blk s' → out s = out s') (hp : pre s) : mkE enc blk pre out (enc s) [blk s] = some (out s) := by
 have h : ∃ s', enc s' = enc s ∧ [blk s'] = [blk s] ∧ pre s' := ⟨s, rfl, rfl, hp⟩
 unfold mkE
 rw [dif_pos h, hinj _ _ h.choose_spec.2.2 hp h.choose_spec.1 (by have := h.choose_spec.2.1; simpa using this)]
theorem upd0 {b b' : Blk} : upd (ofHp [b]) 0 b' = ofHp [b'] := by
 funext i
 unfold upd ofHp
 by_cases h : i = 0
 · subst h; rfl
 · rw [if_neg h]
   cases i with
   | zero => exact absurd rfl h
   | succ i => rfl
theorem zUt {F : List D → List Blk → Option (D × List Blk)} {rest : List D} {es es' : List D} {sz tot nid : Nat} (hr : zAp rest = []) (hF : F (.own 0 0 tot :: rest) [.row sz true es] = some (.tup [], [.row sz true es'])) :
   zCc F (.own 0 0 tot :: rest) (ofHp [.row sz true es]) nid = some (.tup [], ofHp [.row sz true es'], nid) := by
 rw [zD5 hr]
 show ((F (.own 0 0 tot :: rest) [.row sz true es]).bind _) = _
 rw [hF]
 simp only [tAg, tAp, tAu, zEe, zEd]
 rw [upd0]; rfl
theorem zMR {α : Type} {sz : Nat} {E : α → D} {P : Program} {H : Hp} {t e : TypeId} {xs : List α} {k1 k2 k3 : IntKind} (hu : P.underlying t = some (.slice e)) (hs : szT P e = some sz) {i j : Nat} (h : i ≤ j) (h' : j ≤ xs.length) :
   zAW P H t (vecE sz E xs) (some (.it k1 (i : Int))) (some (.it k2 (j : Int))) (some (.it k3 (j : Int))) = some (.vec sz true (((xs.take j).drop i).map E)) := by
 have hb : bnds (xs.map E).length (some (.it k1 (i : Int))) (some (.it k2 (j : Int))) (some (.it k3 (j : Int))) = some (i, j, some j) := by
   simp only [bnds, idx, tAg, tAI]
   rw [if_pos (by omega)]; rfl
 unfold vecE
 simp only [zAW, zBL, hu, tAg, hs, if_true, hb, tAF, capB, decide_true, tB1, List.map_drop]
theorem zZl {cx : Cx} {fn : Func} {c : Code} {ds : List D} {r : D × List Blk} {rs : List ResultVar} (hb : fn.body = some c) (hbs : cx.bs = 0) (hrs : fn.results.toList = rs)
   (h : EvX .go cx c ⟨zAq ds, ofHp [], 0⟩ fun e st t => (e = .nrm ∨ e = .ret) ∧ Ev t (resD cx.P st rs) fun out _ => ∃ id b, out = [.map id] ∧ st.H id = b ∧ zBn b ∧ (.map 0, [b]) = r) : zCm cx fn ds [] = some r := by
 obtain ⟨⟨e, s⟩, he, hen, out, ho, id, b, rfl, hH, hfl, rfl⟩ := h
 replace hH : s.H id = b := hH
 replace ho : resD cx.P s rs = some [.map id] := ho
 replace hen : e = .nrm ∨ e = .ret := hen
 have hcx : { cx with bs := ([] : List Blk).length } = cx := by show { cx with bs := 0 } = cx; rw [← hbs]
 have hrb := zCa hfl (ixOf [id])
 have hids : zCH 0 [.map id] s.H = [id] := by
   show zAY s.H (59 + 1) [id] [] = [id]
   simp only [zAY, tBM, tAf, if_false, hH, hrb.1, tAJ]
 unfold zCm runD
 rw [hb, hcx]
 simp only [tAg, tAu]
 rw [show (ofHp [] : Hp) = ofHp [] from rfl, he]
 have hfin : (let ids := zCH 0 [D.map id] s.H; if closed s.H ids && (zAp [D.map id]).all (fun j => ids.contains j) then some (one (renL (ixOf ids) [D.map id]), ids.map fun i => renBlk (ixOf ids) (s.H i)) else none) = some (.map 0, [b]) := by
   simp only [hids]
   have hc : closed s.H [id] = true := by simp [closed, hH, hrb.1]
   have ha : (zAp [D.map id]).all (fun j => [id].contains j) = true := by simp [zAp, refs]
   rw [hc, ha]
   simp only [tBp, if_true, tAO, tBn, hH, hrb.2]
   simp [renL, ren, ixOf, one]
 rcases hen with rfl | rfl <;> (rw [hrs]; simp only [ho, tAF, tAg]; exact hfin)
theorem zK9 : ∀ {l : List D}, zAp l = [] → ∀ x ∈ l, refs x = []
 | [], _, x, hx => by simp at hx
 | a :: r, h, x, hx => by
   rw [zAp, List.append_eq_nil_iff] at h
   rcases tAr.1 hx with rfl | hx
   · exact h.1
   · exact zK9 h.2 x hx
theorem zYy {F : List D → List Blk → Option (D × List Blk)} {asx : List D} {H : Hp} {nid : Nat} {b : Blk} (hr : zAp asx = []) (hF : F asx [] = some (.map 0, [b])) (hb : zBn b) :
   zCc F asx H nid = some (.map nid, upd H nid b, nid + 1) := by
 unfold zCc
 have h2 : renL (ixOf []) asx = asx := zEN (zK9 hr)
 have h0 : zAY H 60 [] [] = [] := rfl
 simp only [hr, h0, tAs, Bool.and_true, tBn, h2, hF, tAg]
 have h3 : closed H [] = true := by simp [closed]
 rw [h3]
 simp only [if_true, tAu, tAL, tAp, tAZ, Nat.sub_zero, tAb, tAj, and_true]
 refine ⟨by simp [ren, zEY], ?_⟩
 funext i
 unfold zFh upd
 by_cases h : i = nid
 · subst h; simp [ixOf, ofHp, (zCa hb _).2]
 · rw [if_neg h]
   simp only [ixOf]
   rw [if_neg]
   simp only [tAp, tAu]
   omega
open Classical in
noncomputable def mkN {σ : Type} (enc : σ → List D) (pre : σ → Prop) (out : σ → D × List Blk) : List D → List Blk → Option (D × List Blk) :=
 fun ds hs => if h : ∃ s, enc s = ds ∧ [] = hs ∧ pre s then some (out h.choose) else none
theorem yHs {σ : Type} {enc : σ → List D} {pre : σ → Prop} {out : σ → D × List Blk} {s : σ} (hinj : ∀ s s', enc s = enc s' → out s = out s') (hp : pre s) : mkN enc pre out (enc s) [] = some (out s) := by
 have h : ∃ s', enc s' = enc s ∧ ([] : List Blk) = [] ∧ pre s' := ⟨s, rfl, rfl, hp⟩
 unfold mkN
 rw [dif_pos h, hinj _ _ h.choose_spec.1]
theorem yD7 {σ : Type} {enc : σ → List D} {pre : σ → Prop} {out : σ → D × List Blk} {ds : List D} {hs : List Blk} {r : D × List Blk} (h : mkN enc pre out ds hs = some r) : ∃ s, ds = enc s ∧ hs = [] ∧ pre s ∧ r = out s := by
 unfold mkN at h
 split at h
 · rename_i hs'
   simp only [tAb] at h
   exact ⟨_, hs'.choose_spec.1.symm, hs'.choose_spec.2.1.symm, hs'.choose_spec.2.2, h.symm⟩
 · cases h
theorem Known.addEffN {K : Known} (h : K.OK) (hP : K.P.follows .mixedOrders = true) {g : FuncId} {fn : Func} {c : Code} (kp : Nat → Option (List Nat)) (hb : Body K.P (K.cx kp).rd g fn c) {σ : Type} {enc : σ → List D} {pre : σ → Prop} {out : σ → D × List Blk} {n : Nat} (hn : n ≤ fn.ntmps) (hl : ∀ s, (enc s).length = n)
   (hF : ∀ s, pre s → zCm (K.cx kp) fn (enc s) [] = some (out s)) : (K.eff g (mkN enc pre out)).OK :=
 Known.fnEff h hP kp hb (fun ds hs r hr => by
   obtain ⟨s, rfl, rfl, hp, rfl⟩ := yD7 hr
   exact ⟨by rw [hl]; exact hn, hF s hp⟩)
theorem PureOK.of {P : Program} {g : FuncId} {F G : List D → Option Res} (h : PureOK P g G) (hF : ∀ ds r, F ds = some r → G ds = some r) : PureOK P g F := ⟨h.1, fun ds r hr => h.2 ds r (hF ds r hr)⟩
def cellS : D → Bool
 | .bo _ | .it _ _ | .st _ => true
 | _ => false
def valC : D → Value
 | .bo b => .bool b
 | .it k n => .int k n
 | .st l => .string ⟨l.toArray⟩
 | _ => undef
theorem zMF {M : Mem} {d : D} (h : cellS d = true) : VRi M d (valC d) := by
 cases d <;> simp only [cellS, tAf] at h
 · exact .bo _
 · exact .it _ _
 · exact .st _
theorem zXh {M : Mem} {d : D} {u : Value} (h : cellS d = true) (hv : VRi M d u) : u = valC d := by
 cases d <;> simp only [cellS, tAf] at h <;> cases hv <;> rfl
theorem zMH {d : D} (h : cellS d = true) : (valC d).oneCell' = true := by
 cases d <;> simp only [cellS, tAf] at h <;> rfl
theorem zSd {M : Mem} {cs : List D} (h : ∀ d ∈ cs, cellS d = true) : VRi M (.agg cs) (.agg (cs.map valC).toArray) := by
 refine .agg cs _ (by simp) (fun k => valC ((cs[k]?).getD .un)) (fun k hk => ?_) (fun k hk => ?_) (fun k d hd => ?_)
 · simp only [tCh, tAI] at hk
   simp [tAn hk]
 · simp only [tCh, tAI] at hk
   rw [tAn hk]; exact zMH (h _ (tBH hk))
 · rw [hd]; exact zMF (h d (tAB hd))
theorem Rel.grown {B : Nat → Prop} {M : Mem} {A : Nat → Prop} {H : Hp} {μ : Mu} {w w' : World} (hR : Rel B M A H μ w) (h : Below w.heap.size w w') : Rel B M A H μ w' :=
 ⟨fun a v hm => by rw [h.cell (World.block_lt_of_cell? w a (hR.mem a v hm))]; exact hR.mem a v hm, hR.given, hR.place, hR.apart, hR.alone, fun id => by
   by_cases hg : H id = .gone
   · rw [hg]; trivial
   · exact (hR.blk id).mono (MLe.refl M) (fun _ _ h => h) h.size (fun β bs top hm => h.block β (hR.lt hg hm))⟩
theorem zJW {α : Type} [Inhabited α] {k : Nat} {cs : α → List D} (hk : ∀ x, (cs x).length = k) (h0 : 0 < k) : ∀ (l : List α) (j : Nat), j < l.length * k → (flat (l.map fun x => .agg (cs x)))[j]? = (cs l[j / k]!)[j % k]?
 | [], j, h => by simp at h
 | x :: l, j, h => by
   have ih := zJW hk h0 l (j - k)
   unfold flat at ih ⊢
   rw [tAO, tBe]
   show (cs x ++ _)[j]? = _
   by_cases hj : j < k
   · rw [tAP (by rw [hk]; exact hj), Nat.div_eq_of_lt hj, Nat.mod_eq_of_lt hj]; rfl
   · rw [tAN (by rw [hk]; omega), hk, ih (by rw [tAp, tAY] at h; omega)]
     have e1 : j / k = (j - k) / k + 1 := by rw [← Nat.add_div_right _ h0, Nat.sub_add_cancel (by omega)]
     have e2 : j % k = (j - k) % k := by rw [Nat.mod_eq_sub_mod (by omega)]
     rw [e1, e2]; rfl
theorem zPB {α : Type} {k : Nat} {cs : α → List D} (hk : ∀ x, (cs x).length = k) : ∀ (l : List α), (flat (l.map fun x => .agg (cs x))).length = l.length * k
 | [] => by simp [flat]
 | x :: l => by
   have ih := zPB hk l
   unfold flat at ih ⊢
   rw [tAO, tBe, tAh, ih]
   show (cs x).length + _ = _
   rw [hk, tAp, tAY]; omega
theorem zNa {w w' : World} (h : Blw w.heap.size w w') : ∃ q os, w' = Sort.grow (w.drewN q) os := by
 obtain ⟨p, e⟩ := regrown_of_below h.toBelow
 have hd := h.drawn
 refine ⟨p.d - w.drawn, p.os, ?_⟩
 have h2 : w'.drawn = p.d := by rw [e]; rfl
 rw [e]
 congr 1
 have h3 : w.drawn + (p.d - w.drawn) = p.d := by omega
 unfold World.drewN redrawn
 rw [h3]
noncomputable def pdqL {α : Type} [Inhabited α] (cf : α → α → Int) (l : List α) : List α := (Sort.pdq (Go.Proofs.ltOf cf) l.toArray 0 l.toArray.size (Lib.bitLen l.toArray.size) true true).toList
theorem zHf {P : Program} {ρ : Shelf.Ren} (L : Go.Proofs.SlLaysF0.n6 P ρ) (he : Enters P (ρ.f 6)) {k : Nat} (aE : ∀ w, (isAgg (ρ.t 24)).run P w = .ok true w) (zE : ∀ w, (Go.sizeOf (ρ.t 24)).run P w = .ok k w) {α : Type} [Inhabited α] (cs : α → List D) (hk : ∀ x, (cs x).length = k) (h0 : 0 < k)
   (hS : ∀ x, ∀ d ∈ cs x, cellS d = true) (cf : α → α → Int) (hO : Sort.SWO (Go.Proofs.ltOf cf)) {g : Nat} {Fc : List D → Option Res} (hc : PureOK P g Fc) (hF : ∀ x y, Fc [.agg (cs x), .agg (cs y)] = some (Res.flat (.it .i64 (cf x y)))) :
   EffOK P (ρ.f 6) (mkE (fun l : List α => [.own 0 0 l.length, .fn (.func g) [] []]) (fun l => .row k true (l.map fun x => .agg (cs x))) (fun l => l.length < 4611686018427387904) (fun l => (.tup [], [.row k true ((pdqL cf l).map fun x => .agg (cs x))]))) := by
 refine ⟨he, fun ds hs r hs' h => ?_⟩
 obtain ⟨l, rfl, rfl, hp, hr⟩ := zHV h
 simp only [tAj] at hr
 obtain ⟨rfl, rfl⟩ := hr
 have hps := Sort.pdq_sorts (Go.Proofs.ltOf cf) hO l.toArray 0 l.toArray.size (Lib.bitLen l.toArray.size) true true (tAL _) (tAl _) (Or.inl rfl)
 have hsz : (Sort.pdq (Go.Proofs.ltOf cf) l.toArray 0 l.toArray.size (Lib.bitLen l.toArray.size) true true).size = l.toArray.size := hps.1.1
 have hlen : (pdqL cf l).length = l.length := by unfold pdqL; rw [tBA, hsz, tCh]
 refine ⟨by simp, fun B M μ w vs hR hB hl hv => ?_⟩
 obtain ⟨v0, hv0, q0⟩ := hv 0 _ rfl
 obtain ⟨v1, hv1, q1⟩ := hv 1 _ rfl
 obtain rfl : vs = [v0, v1] := by
   match vs, hl with
   | [a, b], _ => simp at hv0 hv1; rw [hv0, hv1]
 obtain rfl : v1 = .func (.func g) #[] #[] := by
   cases q1 with
   | imm h =>
     cases h with
     | fn _ _ _ vf vc hf hc _ _ _ _ _ _ =>
       obtain rfl := tBD (xs := vf) (by simpa using hf)
       obtain rfl := tBD (xs := vc) (by simpa using hc)
       rfl
   | leaf h => exact h.elim
   | fn _ _ _ vf vc hf hc _ _ _ _ _ _ =>
     obtain rfl := tBD (xs := vf) (by simpa using hf)
     obtain rfl := tBD (xs := vc) (by simpa using hc)
     rfl
 have hH0 : ofHp [Blk.row k true (l.map fun x => D.agg (cs x))] 0 = .row k true (l.map fun x => D.agg (cs x)) := rfl
 cases q0 with
 | imm h => cases h
 | leaf hleaf =>
 obtain ⟨⟨_, _⟩, hm⟩ := hleaf
 rw [hH0] at hm
 obtain ⟨_, a, c, rfl, hnc, hloc⟩ := hm
 have hup : ∀ b : Blk, upd (ofHp [Blk.row k true (l.map fun x => D.agg (cs x))]) 0 b = ofHp [b] := fun b => by
   funext i; unfold upd; cases i with
   | zero => rfl
   | succ i => simp [ofHp]
 by_cases hl0 : l = []
 · subst hl0
   have hpe : pdqL cf ([] : List α) = [] := tB4.1 hlen
   rw [hpe]
   refine (Go.Proofs.AnyF.slices_SortFunc_none L a c (.func (.func g) #[] #[]) w).mono fun e w' ⟨e1, e2⟩ => ?_
   subst e1; subst e2
   exact ⟨_, M, μ, rfl, MLe.refl M, hR, .imm (.tup [] #[] rfl (fun _ => undef) (fun k hk => by simp at hk) (fun k d hd => by simp at hd)), fun _ _ h => h, Keep.refl _ _, fun _ _ h => .inl h⟩
 · have hl1 : 0 < l.length := tA4.2 hl0
   rcases hloc with hc0 | ⟨β, bs, top, hμ, ha, htop⟩
   · omega
   simp only [Nat.zero_mul, Nat.add_zero] at ha
   subst ha
   have hb := hR.blk 0
   rw [hH0, hμ] at hb
   obtain ⟨_, hz, hr⟩ := hb
   rcases hr with ⟨_, hx⟩ | ⟨β', bs', top', e, hlt, hle, hcells, hvals⟩
   · cases hx
   simp only [tAb, tAj] at e
   obtain ⟨rfl, rfl, rfl⟩ := e
   rw [tAI] at hle
   have hk1 : ∀ x, ((cs x).map valC).length = k := fun x => by rw [tAI, hk]
   have h1 : ∀ x, ∀ v ∈ (cs x).map valC, v.oneCell' = true := fun x v hv => by
     obtain ⟨d, hd, rfl⟩ := tBk.1 hv
     exact zMH (hS x d hd)
   have hbig : ∀ j, j < l.length * k → j < top * k := fun j hj => Nat.lt_of_lt_of_le hj (tAX k hle)
   have hHo : Sort.HoldsK (fun x => (cs x).map valC) k w β bs l.toArray := fun j hj => by
     have hj' : j < l.length * k := by simpa using hj
     refine ⟨?_, (hcells j (hbig j hj')).2⟩
     have hlt2 : j % k < k := Nat.mod_lt _ h0
     have hf := zJW hk h0 l j hj'
     have hf2 : (cs l[j / k]!)[j % k]? = some ((cs l[j / k]!)[j % k]'(by rw [hk]; exact hlt2)) := tAn _
     rw [hf2] at hf
     obtain ⟨u, u1, u2, u3, u4⟩ := hvals j _ hf
     have e := zXh (hS _ _ (tBH _)) (u4 rfl)
     rw [u1, e]
     have g1 := Sort.get_flatK (fun x => (cs x).map valC) k l.toArray j (by simpa using hj')
     show _ = some ((Sort.flatK (fun x => (cs x).map valC) k l.toArray)[j]!)
     rw [g1]
     have g2 : l.toArray[j / k]! = l[j / k]! := by simp
     rw [g2, getElem!_pos ((cs l[j / k]!).map valC) (j % k) (by rw [tAI, hk]; exact hlt2), List.getElem_map]
   have hcmp : Go.Proofs.CmpLays P g #[] (fun x => (cs x).map valC) k cf β bs l.toArray.size w := fun m os dk hdk x y => by
     have hx := (hc.2 _ _ (hF x y)).2 (fun _ => none) (Go.Proofs.sortWorldK (fun x => (cs x).map valC) k w β bs m dk os) [.agg ((cs x).map valC).toArray, .agg ((cs y).map valC).toArray] (fun a v h => by cases h) rfl (fun i d hd => by
       match i, hd with
       | 0, hd => simp only [tAt, tAb] at hd; subst hd; exact ⟨_, rfl, zSd (hS x)⟩
       | 1, hd => simp only [tAV, tAt, tAb] at hd; subst hd; exact ⟨_, rfl, zSd (hS y)⟩
       | _ + 2, hd => simp at hd)
     refine hx.mono fun e w' ⟨v, Mr, μr, e1, e2, _, _, _, e6⟩ => ?_
     subst e1
     simp only [Res.flat] at e6
     refine ⟨?_, zNa e2⟩
     cases e6 with
     | imm h => cases h; rfl
     | leaf h => exact h.elim
   have hs2 : l.toArray.size < 4611686018427387904 := by simpa using hp
   refine (Go.Proofs.AnyQ.slices_SortFunc_eq L k aE zE (fun x => (cs x).map valC) hk1 h1 cf hO g #[] β bs c l.toArray w (fun args w => zHO hc.1) hcmp hHo hlt hs2).mono fun e w' ⟨e1, n, os, e2⟩ => ?_
   subst e1
   generalize hd' : Sort.pdq (Go.Proofs.ltOf cf) l.toArray 0 l.toArray.size (Lib.bitLen l.toArray.size) true true = d' at e2 hsz
   have hpd : pdqL cf l = d'.toList := by unfold pdqL; rw [hd']
   rw [hpd] at hlen ⊢
   let w1 := Sort.putRowK (fun x => (cs x).map valC) k (Sort.ahead w n) β bs d'
   have hw1 : w1.heap.size = w.heap.size := by show (Sort.putRow id _ _ _ _).heap.size = _; rw [Sort.size_putRow]; rfl
   have hHo2 : Sort.HoldsK (fun x => (cs x).map valC) k w1 β bs d' := Sort.holdsK_putRowK _ _ _ _ _ l.toArray d' hHo hsz
   have hsd : d'.size = l.length := by rw [hsz, tCh]
   have hoth : ∀ j, j ≠ β → w1.heap[j]? = w.heap[j]? := fun j hj => by
     show (Sort.putRow id _ _ _ _).heap[j]? = _
     unfold Sort.putRow Sort.mapBlock
     simp only [tCf]
     rw [if_neg (fun e => hj e.symm)]; rfl
   obtain ⟨r1, r2, r3⟩ := hR.write (id := 0) (A' := fun i => i < 1) (blk := .row k true (d'.toList.map fun x => D.agg (cs x))) (w' := w1) (by rw [hH0]; simp) hμ (fun _ h => h) (by rw [hH0]; exact ⟨rfl, by simp [hsd]⟩) rfl rfl rfl hw1 hoth
     (fun _ => by
       rw [hμ]
       refine ⟨h0, fun e he => by obtain ⟨x, _, rfl⟩ := tBk.1 he; exact hk x, .inr ⟨β, bs, top, rfl, by rw [hw1]; exact hlt, by rw [tAI, hlen]; exact hle, fun o ho => ?_, fun i d hd => ?_⟩⟩
       · by_cases ho2 : o < l.length * k
         · have h2 := hHo2 o (by rw [Sort.size_flatK, hsd]; exact ho2)
           exact ⟨by rw [h2.1]; rfl, h2.2⟩
         · have h2 := hcells o ho
           refine ⟨?_, ?_⟩
           · show ((Sort.putRow id (Sort.ahead w n) β bs _).cell? _).isSome = true
             rw [Sort.cell?_putRow_other id (Sort.ahead w n) β bs _ _ (.inr (.inr (by rw [Sort.size_flatK, hsd]; show bs + l.length * k ≤ bs + o; omega)))]
             exact h2.1
           · show (Sort.putRow id (Sort.ahead w n) β bs _).frozen? _ = false
             rw [Sort.frozen?_putRow]; exact h2.2
       · have hi : i < d'.toList.length * k := by
           have := (tAi.1 hd).1
           rwa [zPB hk] at this
         have hf := zJW hk h0 d'.toList i hi
         rw [hd] at hf
         have hmem := tAB hf.symm
         have hi2 : i < d'.size * k := by simpa using hi
         have h2 := hHo2 i (by rw [Sort.size_flatK]; exact hi2)
         have g1 := Sort.get_flatK (fun x => (cs x).map valC) k d' i hi2
         have g2 : d'[i / k]! = d'.toList[i / k]! := by cases d'; simp
         have hx := (tAi.1 hf.symm)
         have g3 : ((cs d'.toList[i / k]!).map valC)[i % k]! = valC d := by
           rw [getElem!_pos ((cs d'.toList[i / k]!).map valC) (i % k) (by rw [tAI]; exact hx.1), List.getElem_map, hx.2]
         have hu : w1.cell? ⟨β, bs + i, none⟩ = some (valC d) := by
           rw [h2.1, g1, g2, g3]; rfl
         have hcs := hS _ _ hmem
         exact ⟨valC d, hu, zMH hcs, .imm (zMF hcs), fun _ => zMF hcs⟩)
     (by show w.drawn ≤ (Sort.putRow id (Sort.ahead w n) β bs _).drawn; rw [Sort.drawn_putRow, Sort.drawn_ahead]; omega)
   rw [hup] at r1 r2
   have hw' : w' = Sort.grow w1 os := e2
   have hbl : Below w1.heap.size w1 w' := by
     rw [hw']; exact ⟨rfl, rfl, rfl, by rw [Sort.size_grow]; omega, fun k hk => Sort.heap_grow_old w1 os hk⟩
   have hkp : Keep B w1 w' := ⟨hbl.os, hbl.tape, hbl.output, hbl.size, fun j hj => hbl.block j (by rw [hw1]; exact hB j hj), by rw [hw']; exact tAl _⟩
   exact ⟨_, M, μ, rfl, MLe.refl M, r1.grown hbl, .imm (.tup [] #[] rfl (fun _ => undef) (fun k hk => by simp at hk) (fun k d hd => by simp at hd)), r2, r3.trans hkp, fun _ _ h => .inl h⟩
def Res.front (len sz : Nat) (es : List D) : Res := ⟨false, .own 0 0 len, [.row sz true es]⟩
theorem zLf {H : Hp} {id sz : Nat} {es : List D} (hH : H id = .row sz true es) : zAY H 60 [id] [] = [id] := by
 have : refsB (H id) = [] := by rw [hH]; rfl
 show zAY H (59 + 1) [id] [] = [id]
 simp only [zAY, tBM, tAf, if_false, this, tAJ]
theorem zIT {cx : Cx} {fn : Func} {c : Code} {ds : List D} {r : Res} {rs : List ResultVar} (hb : fn.body = some c) (hbs : cx.bs = 0) (hrs : fn.results.toList = rs)
   (h : EvX .go cx c ⟨zAq ds, ofHp [], 0⟩ fun e st t => (e = .nrm ∨ e = .ret) ∧ Ev t (resD cx.P st rs) fun out _ => ∃ id len sz es, out = [.own id 0 len] ∧ st.H id = .row sz true es ∧ zBh es = true ∧ Res.front len sz es = r) : zAg cx fn [0] false ds = some r := by
 obtain ⟨⟨e, s⟩, he, hen, out, ho, id, len, sz, es, rfl, hH, hm, rfl⟩ := h
 simp only at hH
 have hr := zLf hH
 refine zD0 hb hbs [0] false ⟨(e, s), he, hen, _, hrs ▸ ho, ?_, [.row sz true es], ?_, .own 0 0 len, ?_, rfl⟩
 · have h1 : zAp [D.own id 0 len] = [id] := rfl
   have h2 : closed s.H [id] = true := by simp [closed, hH, refsB]
   simp [zC5, distinct, dry, h1, hr, h2, zBh, zBU, zFL, hH, hm]
 · simp [zC5, zAp, refs, hr, finB, zBv, hH]
 · simp [zC5, finT, finV, ixOf]
theorem zTY {cx : Cx} {fn : Func} {c : Code} {ds : List D} {r : Res} {rs : List ResultVar} (hb : fn.body = some c) (hbs : cx.bs = 0) (hrs : fn.results.toList = rs)
   (h : EvX .go cx c ⟨zAq ds, ofHp [], 0⟩ fun e st t => (e = .nrm ∨ e = .ret) ∧ Ev t (resD cx.P st rs) fun out _ => ∃ x k n, out = [x, .it k n] ∧
     ((∃ o id len sz es, x = .agg [.st o, .own id 0 len] ∧ st.H id = .row sz true es ∧ zBh es = true ∧ Res.flat (.tup [.agg [.st o, .vec sz false (es.take len)], .it k n]) = r) ∨ (∃ o sz, x = .agg [.st o, .vec sz false []] ∧ Res.flat (.tup [x, .it k n]) = r))) : zAg cx fn [] false ds = some r := by
 obtain ⟨⟨e, s⟩, he, hen, out, ho, x, k, n, rfl, h⟩ := h
 rcases h with ⟨o, id, len, sz, es, rfl, hH, hm, rfl⟩ | ⟨o, sz, rfl, rfl⟩
 · simp only at hH
   have hr := zLf hH
   have h1 : zAp [D.agg [.st o, .own id 0 len], .it k n] = [id] := by simp [zAp, refs]
   refine zD0 hb hbs [] false ⟨(e, s), he, hen, _, hrs ▸ ho, ?_, [], rfl, .tup [.agg [.st o, .vec sz false (es.take len)], .it k n], ?_, rfl⟩
   · have h2 : closed s.H [id] = true := by simp [closed, hH, refsB]
     simp [zC5, distinct, dry, h1, hr, h2, zBh, zBU, zFL, hH, hm]
   · show finT [] (zBv (zAY s.H 60 (zAp [D.agg [.st o, .own id 0 len], .it k n]) []) s.H) _ = _
     rw [h1, hr]
     refine (zJ0 (ds := [.agg [.st o, .vec sz false (es.take len)], .it k n]) ?_)
     simp only [borT, zAl, borM, zEl, zEk, zAj]
     simp [zBv, hH]
 · refine zD0 hb hbs [] false ⟨(e, s), he, hen, _, hrs ▸ ho, ?_, [], rfl, .tup [.agg [.st o, .vec sz false []], .it k n], ?_, rfl⟩
   · have h1 : zAp [D.agg [.st o, .vec sz false []], .it k n] = [] := by simp [zAp, refs]
     have h2 : zAY s.H 60 [] [] = [] := rfl
     have h3 : closed s.H [] = true := by simp [closed]
     simp [zC5, distinct, dry, h1, h2, h3, zBh, zBU]
   · show finT [] _ _ = _
     refine (zJ0 (ds := [.agg [.st o, .vec sz false []], .it k n]) ?_)
     simp only [borT, zAl, borM, zEl, zEk, zC8, tAg, tAF]
end Go.Mir
