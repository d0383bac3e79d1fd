/- What the program's functions answer, read off their code; no conditions. -/
import Derived.Test.YtnmohcaeepcloaaGreatDoorWalk2
import Derived.KernelRfl
import Derived.Shelf.SlSortCmp.WholeK
import Derived.Ground.SlsfProg
set_option linter.unusedSimpArgs false
set_option linter.unusedVariables false
set_option linter.defProp false
set_option maxRecDepth 100000
set_option maxHeartbeats 4000000
open Go Go.RowKit Go.Proofs
namespace Go.Mir
attribute [local congr] Ev.congr EvC.congr EvW.congr Br.congr Ms.congr
structure Key where
 name : List UInt8
 typ : Int
 deriving Inhabited, DecidableEq
def keyL (a : Key) : List D := [.st a.name, .it .i64 a.typ]
def keyE (a : Key) : D := .agg (keyL a)
theorem zLy (a : Key) : D.cells (keyE a) = keyL a := rfl
theorem zH2 (a : Key) : cellsOf (keyE a) = some (keyL a) := rfl
theorem zUM (a : Key) : (keyL a).length = 2 := rfl
theorem zPc (a : Key) : List.take 2 (keyL a) = keyL a := rfl
theorem zUP (a : Key) : D.agg (keyL a) = keyE a := rfl
theorem zPd (a : Key) : refs (keyE a) = [] := rfl
theorem zUN (a : Key) : immD (keyE a) = true := rfl
theorem zUL {f : Nat → Option Nat} (a : Key) : ren f (keyE a) = keyE a := rfl
theorem zUO (a : Key) : zBU (keyE a) = true := rfl
theorem yBC {name : List UInt8} {typ : Int} : D.agg [.st name, .it .i64 typ] = keyE ⟨name, typ⟩ := rfl
theorem zLx (a : Key) : List.drop 1 (keyL a) = [.it .i64 a.typ] := rfl
theorem zLw (a : Key) : List.drop 2 (keyL a) = [] := rfl
theorem yBD (a : Key) : (keyL a).head? = some (.st a.name) := rfl
theorem zLv (a : Key) : zAp (keyL a) = [] := rfl
theorem zPe (a : Key) : immL (keyL a) = true := rfl
theorem yBE (a : Key) : zDN (keyE a) = true := rfl
theorem key_inj : ∀ a b : Key, keyE a = keyE b → a = b := by
 intro a b h
 cases a; cases b
 simp only [keyE, keyL, D.agg.injEq, tAv, D.st.injEq, D.it.injEq, D.bo.injEq, true_and, and_true] at h
 simp only [Key.mk.injEq]; exact h
theorem zJN (a b : Key) : (keyE a = keyE b) = (a = b) := propext ⟨key_inj a b, fun h => h ▸ rfl⟩
theorem zLz (a b : Key) : again (keyE a) (keyL b) = keyE b := rfl
theorem sz83 : szT Tryz.prog 83 = some 2 := by kernel_rfl
theorem zZM : aggT Tryz.prog 83 = some true := by kernel_rfl
theorem zR5 : zDC Tryz.prog 83 = some (.agg [.st [], .it .i64 0]) := by kernel_rfl
theorem zHB : szT Tryz.prog 3 = some 1 := by kernel_rfl
theorem zF1 : aggT Tryz.prog 3 = some false := by kernel_rfl
theorem zHA : szT Tryz.prog 9 = some 1 := by kernel_rfl
theorem zF0 : aggT Tryz.prog 9 = some false := by kernel_rfl
theorem yBK : ∀ a : Key, zAN Tryz.prog 83 0 (keyE a) = some (.st a.name) := fun a => by
 show zAN _ _ _ (.agg (keyL a)) = _
 simp only [zAN, zAQ, Tryz.underlying82, Tryz.underlying83, sz83, zZM, zHB, zF1, zHA, zF0, zAx, tAg, tBG, tAV, tAt, if_true, if_false, tAf]
 rfl
theorem yBM : ∀ (H : Hp) (x : D), zAM Tryz.prog H 83 x 0 = faD H x 0 := zCf (n := (szT Tryz.prog ((zAQ Tryz.prog 83 0).map (·.type)|>.getD 0)).getD 0) (fl := (zAQ Tryz.prog 83 0).getD default) (by kernel_rfl) (by kernel_rfl) (by decide +kernel) (by kernel_rfl)
theorem yBJ : ∀ a : Key, zAN Tryz.prog 83 1 (keyE a) = some (.it .i64 a.typ) := fun a => by
 show zAN _ _ _ (.agg (keyL a)) = _
 simp only [zAN, zAQ, Tryz.underlying82, Tryz.underlying83, sz83, zZM, zHB, zF1, zHA, zF0, zAx, tAg, tBG, tAV, tAt, if_true, if_false, tAf]
 rfl
theorem yBL : ∀ (H : Hp) (x : D), zAM Tryz.prog H 83 x 1 = faD H x 1 := zCf (n := (szT Tryz.prog ((zAQ Tryz.prog 83 1).map (·.type)|>.getD 0)).getD 0) (fl := (zAQ Tryz.prog 83 1).getD default) (by kernel_rfl) (by kernel_rfl) (by decide +kernel) (by kernel_rfl)
theorem bd83 : ∀ (parts : List (Nat × D)), zDm Tryz.prog 83 parts = (zEG (fun i => ([(0, 1), (1, 1)] : List (Nat × Nat))[i]?) [.st [], .it .i64 0] parts).map .agg := zNG zR5 Tryz.underlying83 (by kernel_rfl)
theorem el81 : zBL Tryz.prog 81 = some 83 := by kernel_rfl
theorem ap81 : appT Tryz.prog 81 2 24 = true := by kernel_rfl
theorem ze81 : zDn Tryz.prog 83 2 = some (.agg [.st [], .it .i64 0]) := by kernel_rfl
theorem yJe : ∀ (H : Hp) (nid : Nat) (s x : D), zBY Tryz.prog 81 H nid s x = appK 2 24 H nid s x := fun _ _ _ _ => zIn ap81
theorem yJh : ∀ (H : Hp) (nid : Nat) (s x : D), zBR Tryz.prog 81 H nid s x = zKr 2 24 H nid s x := fun _ _ _ _ => zFi ap81
theorem yBw : ∀ {α : Type} (H : Hp) (sz : Nat) (E : α → D) (xs : List α), lenD Tryz.prog H 81 (vecE sz E xs) = some (xs.length : Int) := fun _ _ _ _ => zD6 Tryz.underlying81
theorem yBx : ∀ (H : Hp) (id off len : Nat), lenD Tryz.prog H 81 (.own id off len) = match H id with | .row _ _ _ => some (len : Int) | _ => none := fun _ _ _ _ => zFb Tryz.underlying81
theorem yAE : ∀ {α : Type} (sz : Nat) (E : α → D) (xs : List α), zBP Tryz.prog 81 (vecE sz E xs) = true := fun _ _ _ => zDV Tryz.underlying81
theorem yHF : ∀ (H : Hp) (id off len : Nat) (k : IntKind) (n : Int), zAP Tryz.prog H 81 (.own id off len) (.it k n) = match H id with | .row sz _ _ => if szT Tryz.prog 83 = some sz ∧ 0 ≤ n ∧ n < len then some (.rowp id (off + n.toNat) 0) else none | _ => none := fun _ _ _ _ _ _ => zGJ Tryz.underlying81
theorem yGO : ∀ (H : Hp) (id len k : Nat) (kd : IntKind), zAW Tryz.prog H 81 (.own id 0 len) none (some (.it kd (k : Int))) none = match H id with | .row sz _ _ => if szT Tryz.prog 83 = some sz ∧ k ≤ len then some (.own id 0 k) else none | _ => none := fun _ _ _ _ _ => zHJ Tryz.underlying81
theorem yGR : ∀ (H : Hp) (id off len k : Nat) (kd : IntKind), zAW Tryz.prog H 81 (.own id off len) (some (.it kd (k : Int))) none none = match H id with | .row sz _ _ => if szT Tryz.prog 83 = some sz ∧ k ≤ len then some (.own id (off + k) (len - k)) else none | _ => none := fun _ _ _ _ _ _ => zDW Tryz.underlying81
theorem yGT : ∀ {α : Type} (H : Hp) (E : α → D) (xs : List α) (k : IntKind) (i : Nat) (_ : i ≤ xs.length), zAW Tryz.prog H 81 (vecE 2 E xs) (some (.it k (i : Int))) none none = some (vecE 2 E (xs.drop i)) := fun _ _ _ _ _ h => zDX Tryz.underlying81 sz83 h
theorem yHp : ∀ (H : Hp) (nid : Nat) (c : Int), zDe Tryz.prog 81 H nid (.it .i64 0) (.it .i64 c) = if 0 ≤ c ∧ ((24 : Nat) : Int) * c ≤ 281474976710656 then some (.own nid 0 0, upd H nid (.row 2 true []), nid + 1) else none := fun _ _ _ => zM5 el81 ze81 (by kernel_rfl) (by decide)
theorem yAF : ∀ (id off len : Nat), zBP Tryz.prog 81 (.own id off len) = true := fun _ _ _ => zDs Tryz.underlying81
theorem yHC : ∀ {α : Type} [Inhabited α] (H : Hp) (E : α → D) (xs : List α) (k : IntKind) (i : Nat) (_ : (i : Int) < xs.length), zAP Tryz.prog H 81 (vecE 2 E xs) (.it k (i : Int)) = some (.elt (E xs[i]!).cells) := fun _ _ _ _ _ h => zEC Tryz.underlying81 sz83 h

theorem Cmp.swo {α : Type} {c : α → α → Int} (h : Cmp c) : Sort.SWO (Go.Proofs.ltOf c) := by
 have e : ∀ x y, Go.Proofs.ltOf c x y = decide (c x y < 0) := fun x y => rfl
 have hw := h.wk
 exact ⟨fun x => hw.irr x, fun x y z h1 h2 => hw.tr h1 h2, fun x y z h1 h2 => hw.ntr h1 h2⟩
def keyOf (r : Rec) : Key := ⟨r.name, r.typ⟩
def keyC (a b : Key) : Int := if Op.bytesLess a.name b.name = true then -1 else if a.name = b.name ∧ a.typ < b.typ then -1 else if a = b then 0 else 1
theorem yEj (a b : Key) : keyC a b = if ¬ zA9 a.name b.name = 0 then zA9 a.name b.name else numC a.typ b.typ := by
 obtain ⟨n, t⟩ := a
 obtain ⟨m, u⟩ := b
 unfold keyC zA9 numC
 rcases zHm n m with rfl | h | h
 · simp only [zBg, tAf, if_false, true_and, Key.mk.injEq, if_true, not_true_eq_false]
   by_cases h1 : t < u
   · simp [h1]
   · by_cases h2 : t = u
     · subst h2; simp
     · have h3 : u < t := by omega
       simp [h1, h2, h3]
 · have hne : ¬ n = m := fun e => by subst e; rw [zBg] at h; cases h
   simp [h, hne]
 · have hne : ¬ n = m := fun e => by subst e; rw [zBg] at h; cases h
   have h2 : Op.bytesLess n m = false := by
     cases h3 : Op.bytesLess n m with
     | false => rfl
     | true => have := zWc h3 h; rw [zBg] at this; cases this
   simp [h2, hne]
theorem cmp_key : Cmp keyC := by
 have h : Cmp (fun a b : Key => if ¬ zA9 a.name b.name = 0 then zA9 a.name b.name else numC a.typ b.typ) := Cmp.lex (cmp_text.on Key.name) (fun a b _ => (cmp_num.on Key.typ).sym a b) (fun _ _ h1 h2 => (cmp_num.on Key.typ).tr h1 h2)
 have e : keyC = fun a b : Key => if ¬ zA9 a.name b.name = 0 then zA9 a.name b.name else numC a.typ b.typ := by funext a b; exact yEj a b
 rw [e]; exact h
theorem zYH {a b : Key} (h : keyC a b = 0) : a = b := by
 unfold keyC at h
 split at h
 · omega
 · split at h
   · omega
   · split at h
     · assumption
     · omega
noncomputable def zCd (l : List Rec) : List Key := pdqL keyC (l.map keyOf)
theorem zHS {α : Type} [Inhabited α] {c : α → α → Int} (h : Cmp c) (l : List α) : (pdqL c l).Perm l ∧ ∀ i j, i < j → j < (pdqL c l).length → ¬ c (pdqL c l)[j]! (pdqL c l)[i]! < 0 := by
 have hp := Sort.pdq_sorts (Go.Proofs.ltOf c) h.swo l.toArray 0 l.toArray.size (Lib.bitLen l.toArray.size) true true (tAL _) (tAl _) (Or.inl rfl)
 obtain ⟨⟨h1, h2, h3⟩, h4⟩ := hp
 generalize hd : Sort.pdq (Go.Proofs.ltOf c) l.toArray 0 l.toArray.size (Lib.bitLen l.toArray.size) true true = d at h1 h2 h3 h4
 have hpd : pdqL c l = d.toList := by unfold pdqL; rw [hd]
 rw [hpd]
 constructor
 · have e1 : d.extract 0 l.toArray.size = d := by rw [← h1]; simp
   rw [e1] at h3
   simpa using h3
 · intro i j hij hj
   have h5 := h4 i j (tAL _) hij (by rw [← h1]; simpa using hj)
   have e : ∀ k, d[k]! = d.toList[k]! := fun k => by first | (exact (Array.getElem!_toList ..).symm) | (rw [Array.getElem!_toList]) | (rw [← Array.getElem!_toList]) | (cases d; simp [getElem!_def])
   rw [e, e] at h5
   exact of_decide_eq_false h5
theorem zJM (l : List Rec) : (zCd l).length = l.length := by
 rw [zCd, (zHS cmp_key _).1.length_eq, tAI]
def runK (K : List Key) : Nat → Int
 | 0 => 0
 | i + 1 => if 0 < i ∧ K[i - 1]! = K[i]! then runK K i + 1 else 1
def crwK (K : List Key) : Bool := (List.range K.length).any fun i => decide (64 < runK K (i + 1))
theorem zTf (K : List Key) : ∀ i, 0 ≤ runK K i ∧ runK K i ≤ i
 | 0 => by simp [runK]
 | i + 1 => by
   have := zTf K i
   unfold runK
   split <;> omega
theorem zKf {K : List Key} {i : Nat} (h : i < K.length) (x : Key) : (K.take (i + 1)).count x = (K.take i).count x + if K[i]! = x then 1 else 0 := by
 rw [takeN (l := K) (by omega), List.count_append, List.count_singleton]
 simp
theorem zGl {K : List Key} (hs : ∀ i j, i < j → j < K.length → ¬ keyC K[j]! K[i]! < 0) : ∀ i, i < K.length → runK K (i + 1) = ((K.take (i + 1)).count K[i]! : Int)
 | 0, h => by
   rw [zKf h]; simp [runK]
 | i + 1, h => by
   have ih := zGl hs i (by omega)
   rw [zKf h, runK]
   by_cases he : K[i]! = K[i + 1]!
   · rw [if_pos ⟨by omega, by simpa using he⟩, ih, he]; simp
   · rw [if_neg (fun e => he (by simpa using e.2))]
     have h0 : (K.take (i + 1)).count K[i + 1]! = 0 := by
       rw [List.count_eq_zero]
       intro hm
       obtain ⟨j, hj, e⟩ := tBZ.1 hm
       rw [tAk] at hj
       rw [List.getElem_take] at e
       have ej : K[j]! = K[i + 1]! := by rw [getElem!_pos K j (by omega)]; exact e
       by_cases hji : j = i
       · subst hji; exact he ej
       · have h1 := hs j i (by omega) (by omega)
         have h2 := hs i (i + 1) (by omega) h
         rw [ej] at h1
         have h3 := cmp_key.sym K[i + 1]! K[i]!; have h4 := cmp_key.sym K[i]! K[i + 1]!
         exact he (zYH (by omega))
     rw [h0]; simp
theorem zRN {K : List Key} {x : Key} (h : x ∈ K) : ∃ i, i < K.length ∧ K[i]! = x ∧ (K.take (i + 1)).count x = K.count x := by
 have : ∀ n, n ≤ K.length → 0 < (K.take n).count x → ∃ i, i < n ∧ K[i]! = x ∧ (K.take (i + 1)).count x = (K.take n).count x := by
   intro n
   induction n with
   | zero => intro _ h0; simp at h0
   | succ n ih =>
     intro hn h0
     by_cases he : K[n]! = x
     · exact ⟨n, by omega, he, rfl⟩
     · have e := zKf (K := K) (i := n) (by omega) x
       rw [if_neg he] at e
       obtain ⟨i, h1, h2, h3⟩ := ih (by omega) (by omega)
       exact ⟨i, by omega, h2, by omega⟩
 obtain ⟨i, h1, h2, h3⟩ := this K.length (tAl _) (by rw [tCa]; exact List.count_pos_iff.2 h)
 rw [tCa] at h3
 exact ⟨i, h1, h2, h3⟩
theorem zI2 (l : List Rec) (n : List UInt8) (t : Int) : (zBA l n t).length = (l.map keyOf).count ⟨n, t⟩ := by
 unfold zBA
 induction l with
 | nil => rfl
 | cons x r ih =>
   rw [tBx, tAO, List.count_cons]
   have : (keyOf x == (⟨n, t⟩ : Key)) = (x.name == n && decide (x.typ = t)) := by
     rw [tBm]; simp [keyOf]
   rw [this]
   split <;> simp_all
theorem zVI (l : List Rec) : crwK (zCd l) = crwB l := by
 obtain ⟨h1, h2⟩ : (zCd l).Perm (l.map keyOf) ∧ ∀ i j, i < j → j < (zCd l).length → ¬ keyC (zCd l)[j]! (zCd l)[i]! < 0 := zHS cmp_key (l.map keyOf)
 rw [tBm]
 unfold crwK crwB
 rw [tA6, tA6]
 constructor
 · rintro ⟨i, hi, h⟩
   have hi := tBT.1 hi
   have h := of_decide_eq_true h
   rw [zGl h2 i hi] at h
   have hm : (zCd l)[i]! ∈ l.map keyOf := h1.mem_iff.1 (zBu (by omega))
   obtain ⟨x, hx, e⟩ := tBk.1 hm
   refine ⟨x, hx, decide_eq_true ?_⟩
   rw [zI2, show (⟨x.name, x.typ⟩ : Key) = keyOf x from rfl, e, ← h1.count_eq]
   have h3 : ((zCd l).take (i + 1)).count (zCd l)[i]! ≤ (zCd l).count (zCd l)[i]! := (tCk _ _).count_le _
   omega
 · rintro ⟨x, hx, h⟩
   have h := of_decide_eq_true h
   rw [zI2, show (⟨x.name, x.typ⟩ : Key) = keyOf x from rfl, ← h1.count_eq] at h
   have hm : keyOf x ∈ zCd l := h1.mem_iff.2 (tBk.2 ⟨x, hx, rfl⟩)
   obtain ⟨i, hi, e1, e2⟩ := zRN hm
   refine ⟨i, tBT.2 hi, decide_eq_true ?_⟩
   rw [zGl h2 i hi, e1, e2]
   exact h

theorem yHL : Tryz.prog.stoodInHeld 83 = false := by kernel_rfl
theorem yKc : Tryz.prog.eqGuardType Tryz.prog.depth 83 = false := by kernel_rfl
theorem yKd (n : Nat) (a b : Key) : eqD Tryz.prog (n + 8) 83 (.agg (keyL a)) (.agg (keyL b)) = some (decide (a = b)) := by
 obtain ⟨p, q⟩ := a
 obtain ⟨p', q'⟩ := b
 simp only [zCs Tryz.underlying83 yHL, zKa, zJ9, zHe, zJ8, zHd, ne_eq, Tryz.underlying82, Tryz.underlying83, zHB, zF1, zHA, zF0, Tryz.underlying9, Tryz.underlying3, Tryz.underlying83, zAx, keyL, tAg, tAF, if_true, if_false, tAf, tBv, tBN, tBs, tCb, tAV, tAt, tAp, tAu, Nat.reduceAdd, Nat.reduceLeDiff, String.reduceEq, not_false_eq_true, Nat.reduceEqDiff]
 rw [tAb, tBm]
 simp only [tAd, beq_iff_eq, decide_eq_true_eq, Key.mk.injEq, and_true, and_assoc]
theorem yIG (a b : Key) : binD Tryz.prog .eql 83 (keyE a) (keyE b) = some (.bo (decide (a = b))) := zKq rfl rfl yKc (yKd 4 a b)
noncomputable def yAa := mkF (fun s : Key × Key => [keyE s.1, keyE s.2]) (fun s => True) (fun s => Res.flat (.it .i64 (keyC s.1 s.2)))
theorem zKA {a1 : Key} {b1 : Key} : yAa [keyE a1, keyE b1] = some (Res.flat (.it .i64 (keyC a1 b1))) := zBV (s := (a1, b1)) (fun s s' h => by simp only [cI, zJN] at h; simp only [h]) trivial
theorem zTd (cx : Cx) (hP : cx.P = Tryz.prog) (hbs : cx.bs = 0) (a1 b1 : Key)  : zAg cx Tryz.f86 [] false [keyE a1, keyE b1] = some (Res.flat (.it .i64 (keyC a1 b1))) := by
 refine zAf (rs := [.tmp 4]) rfl hbs rfl ?_
 repeat' first
   | (refine bN (fun h => ?_) fun h => ?_)
   | (refine zAI ?_ ?_)
   | simp only [↓cD, cU, cQ, cP, cB, zAD, unD, zAe, zAd, idx, reduceCtorEq, ↓reduceIte, ofV, ofC, zAq, Nat.reduceEqDiff, zAB, cG, implies_true, forall_const, immL, immD, Res.flat, ren, renL, Int.reduceEq, Int.reduceLT, Int.reduceLE, Int.reduceNe, deref, ldD, zAA, zAh, zAC, zAs, cC, ↓zAH, ↓zAL, ↓zAG, ↓zAK, ↓zAF, ↓zAJ, cV, cT, cF, cW, borT, borM, zAl, Res.via, zAt, zAb, refsB, Nat.reduceLT, Nat.reduceSub, Nat.reduceLeDiff, Nat.reduceMul, Nat.reduceAdd, Int.reduceToNat, appK, zAr, zAc, borL, zAj, zAm, zAz, cO, List.replicate, zAx, ofHp, ixOf, zLy, zH2, zUM, zPc, zUP, zPd, zUN, zUL, zUO, yBC, zLx, zLw, yBD, zLv, zPe, yBE, zJN, zLz, sz83, zZM, Tryz.underlying82, Tryz.underlying83, zR5, zHB, zF1, zHA, zF0, yBK, yBM, yBJ, yBL, bd83, el81, ap81, ze81, yJe, yJh, yBw, yBx, yAE, yHF, yGO, yGR, yGT, yHp, yAF, yHC, ↓yIG, hP, *]
 all_goals first
   | (simp [keyC, *]; done)
   | (simp_all [keyC]; done)
   | rfl
noncomputable def FSK := mkE (fun l : List Key => [.own 0 0 l.length, .fn (.func 86) [] []]) (fun l => .row 2 true (l.map fun x => .agg (keyL x))) (fun l => l.length < 4611686018427387904) (fun l => (.tup [], [.row 2 true ((pdqL keyC l).map fun x => .agg (keyL x))]))
theorem zYG {l r : List Key} (h : l.map keyE = r.map keyE) : l = r := (List.map_inj_right (fun a b => by simp only [zJN, imp_self])).1 h
theorem yJq {l : List Key} (hp : l.length < 4611686018427387904) : FSK [.own 0 0 l.length, .fn (.func 86) [] []] [.row 2 true (l.map keyE)] = some (.tup [], [.row 2 true ((pdqL keyC l).map keyE)]) :=
 zD3 (s := l) (fun s s' _ _ _ h2 => by rw [zYG (Blk.row.inj h2).2.2]) hp
theorem yJr {l : List Rec} {n : Nat} (hp : l.length ≤ 2048) (hn : n = l.length) : FSK [.own 0 0 n, .fn (.func 86) [] []] [.row 2 true ((l.map keyOf).map keyE)] = some (.tup [], [.row 2 true ((zCd l).map keyE)]) := by
 subst hn
 have h := yJq (l := l.map keyOf) (by rw [tAI]; omega)
 rw [tAI] at h; exact h
theorem keyn {l : List Rec} {k : Nat} (h : (k : Int) < l.length) : ((zCd l).map keyE)[k]? = some (keyE (zCd l)[k]!) := getm (by rw [zJM]; omega)
theorem zVH {K : List Key} {i : Nat} (h : (List.range i).any (fun i => decide (64 < runK K (i + 1))) = false) (h2 : ¬ 64 < runK K (i + 1)) : (List.range (i + 1)).any (fun i => decide (64 < runK K (i + 1))) = false := by
 rw [List.range_succ, List.any_append, h, tBg]; simp [h2]
theorem yFb {K : List Key} {i : Nat} (hi : i < K.length) (h2 : 64 < runK K (i + 1)) : crwK K = true := by
 unfold crwK; rw [tA6]; exact ⟨i, tBT.2 hi, decide_eq_true h2⟩
theorem zOB {K : List Key} {i : Nat} (h0 : 0 < i) (h : K[i - 1]! = K[i]!) : runK K (i + 1) = runK K i + 1 := by rw [runK, if_pos ⟨h0, h⟩]
theorem zTe {K : List Key} {i : Nat} (h : ¬ (0 < i ∧ K[i - 1]! = K[i]!)) : runK K (i + 1) = 1 := by rw [runK, if_neg h]

theorem yBd (cx : Cx) (hP : cx.P = Tryz.prog) (hbs : cx.bs = 0) (h86 : cx.orc 86 = some yAa) (xn85 : cx.orc 85 = none) (xe85 : cx.ext 85 = none) (xf85 : cx.eff 85 = some FSK) (r86 : cx.rd.contains 86 = true) (hk3 : cx.kp 3 = some [3, 12, 13, 14]) (hk10 : cx.kp 10 = some [3, 6, 29, 30, 31]) (a : List Rec) (hl : a.length ≤ 2048) : zAg cx Tryz.f43 [] false [zAn a] = some (Res.flat (.bo (crwB a))) := by
 have c86 := zAa h86
 have d86 := zAo r86 h86
 have cf85 := fun H nid l => (show zBI cx 85 l H nid = _ from zBo xn85 xe85 xf85)
 have hw : ∀ k : Nat, (k : Int) < a.length → IntKind.i64.wrap ((k : Int) + 1) = ((k + 1 : Nat) : Int) := zBF (by omega)
 have hm1 : (0 ≤ (a.length : Int)) = True := by simp only [eq_iff_iff, iff_true]; omega
 have hm2 : (((24 : Nat) : Int) * (a.length : Int) ≤ 281474976710656) = True := by simp only [eq_iff_iff, iff_true]; omega
 have hm3 : ((24 : Int) * (a.length : Int) ≤ 281474976710656) = True := by simp only [eq_iff_iff, iff_true]; omega
 have hsk : FSK [.own 0 0 a.length, .fn (.func 86) [] []] [.row 2 true ((a.map keyOf).map keyE)] = some (.tup [], [.row 2 true ((zCd a).map keyE)]) := yJr hl rfl
 have hsk2 : ∀ s : Nat, ¬ (s : Int) < a.length → FSK [.own 0 0 (a.take s).length, .fn (.func 86) [] []] [.row 2 true (((a.take s).map keyOf).map keyE)] = some (.tup [], [.row 2 true ((zCd a).map keyE)]) := fun s h => by rw [zAS (by omega)]; exact hsk
 have hr0 : ∀ k : Nat, (k : Int) < a.length → (0 : Int) < k → ((zCd a).map keyE)[k - 1]? = some (keyE (zCd a)[k - 1]!) := fun k h h2 => keyn (by omega)
 have hp1 : ∀ k : Nat, (k : Int) < a.length → (0 : Int) < k → IntKind.i64.wrap ((k : Int) - 1) = ((k - 1 : Nat) : Int) := fun k h h2 => by rw [wrap64 (by omega) (by omega)]; omega
 have hb1 : ∀ k : Nat, (k : Int) < a.length → (((k - 1 : Nat) : Int) < (a.length : Int)) = True := fun k h => by simp only [eq_iff_iff, iff_true]; omega
 have hwr : ∀ k : Nat, (k : Int) < a.length → IntKind.i64.wrap (runK (zCd a) k + 1) = runK (zCd a) k + 1 := fun k h => by have := zTf (zCd a) k; rw [wrap64 (by omega) (by omega)]
 have hz1 : ∀ k : Nat, ((k : Int) < 0) = False := fun k => by simp
 have hz2 : ∀ k : Nat, (0 ≤ (k : Int)) = True := fun k => by simp
 refine zAf (rs := [.tmp 2]) rfl hbs rfl ?_
 repeat' first
   | (refine zAv (σ := Nat) (fun s => [.own 0 0 (a.take s).length, zAn a, .it .i64 a.length, .it .i64 s]) (fun s => [.row 2 true (((a.take s).map keyOf).map keyE)]) (fun s => s ≤ a.length) (fun s => a.length - s) [3, 12, 13, 14] hbs (by exact hk3) (fr1 fun _ => zA2 (fun _ => rfl)) (fun s js => ?_) (s := 0) [0] ?_ ?_ ?_ ?_ ?_)
   | (refine zAv (σ := Nat) (fun s => [.own 0 0 a.length, .it .i64 (runK (zCd a) s), .own 0 0 a.length, .it .i64 a.length, .it .i64 s]) (fun s => [.row 2 true ((zCd a).map keyE)]) (fun s => s ≤ a.length ∧ (List.range s).any (fun i => decide (64 < runK (zCd a) (i + 1))) = false) (fun s => a.length - s) [3, 6, 29, 30, 31] hbs (by exact hk10) (fr1 fun _ => zA2 (fun _ => rfl)) (fun t jt => ?_) (s := 0) [0] ?_ ?_ ?_ ?_ ?_)
   | (refine bN (fun h => ?_) fun h => ?_)
   | (refine zAI ?_ ?_)
   | simp (config := { decide := true }) only [↓cD, cU, cQ, cP, cB, zAD, unD, zAe, zAd, idx, reduceCtorEq, ↓reduceIte, ofV, ofC, zAq, Nat.reduceEqDiff, zAB, cG, implies_true, forall_const, immL, immD, Res.flat, ren, renL, Int.reduceEq, Int.reduceLT, Int.reduceLE, Int.reduceNe, deref, ldD, zAA, zAh, zAC, zAs, cC, cS, refs, zAy, okId, tAs, tAq, Nat.reduceMul, Nat.reduceAdd, Nat.reduceLeDiff, zAp, c86, d86, zAi, zAk, zKA, ↓zAH, ↓zAL, ↓zAG, ↓zAK, ↓zAF, ↓zAJ, cV, cT, cF, cW, borT, borM, zAl, Res.via, zAt, zAb, refsB, Nat.reduceLT, Nat.reduceSub, Nat.reduceLeDiff, Nat.reduceMul, Nat.reduceAdd, Int.reduceToNat, appK, zAr, zAc, borL, zAj, zAm, zAz, cO, List.replicate, zAx, ofHp, ixOf, cS, refs, zAy, okId, tAs, tAq, Nat.reduceMul, Nat.reduceAdd, Nat.reduceLeDiff, zAp, zLy, zH2, zUM, zPc, zUP, zPd, zUN, zUL, zUO, yBC, zLx, zLw, yBD, zLv, zPe, yBE, zJN, zLz, sz83, zZM, Tryz.underlying82, Tryz.underlying83, zR5, zHB, zF1, zHA, zF0, yBK, yBM, yBJ, yBL, bd83, el81, ap81, ze81, yJe, yJh, yBw, yBx, yAE, yHF, yGO, yGR, yGT, yHp, yAF, yHC, ↓yIG, hw, hm1, hm2, hm3, hsk2, zD5, zEe, zEd, keyn, hr0, hwr, hz1, hz2, hb1, hp1, hP, *]
 all_goals first
   | rfl
   | omega
   | (rw [tAk]; omega)
   | exact ⟨tAL _, rfl⟩
   | (refine ⟨[3], s + 1, ?_, ?_, ?_, ?_, by omega, by omega⟩ <;> (try rw [takeN (l := a) (by omega)]) <;> (try simp only [tBE, tAh, tAp, tAu, tAZ]) <;> (first | rfl | (simp only [zAp, refs, ren, cR, Nat.reduceEqDiff, ofHp, ixOf]; first | rfl | (simp; done))))
   | (have e := zOB (K := zCd a) (i := t) (by omega) (by assumption); have e2 : crwB a = true := (by rw [← zVI]; exact yFb (i := t) (by rw [zJM]; omega) (by omega)); rw [e2])
   | (have e := zOB (K := zCd a) (i := t) (by omega) (by assumption); refine ⟨[0], t + 1, ?_, ?_, ?_, ?_, ⟨by omega, zVH jt.2 (by omega)⟩, by omega⟩ <;> (try rw [e]) <;> (first | rfl | (simp only [zAp, refs, ren, cR, Nat.reduceEqDiff, ofHp, ixOf]; first | rfl | (simp; done))))
   | (have e := zTe (K := zCd a) (i := t) (fun e => absurd e.2 (by assumption)); refine ⟨[0], t + 1, ?_, ?_, ?_, ?_, ⟨by omega, zVH jt.2 (by omega)⟩, by omega⟩ <;> (try rw [e]) <;> (first | rfl | (simp only [zAp, refs, ren, cR, Nat.reduceEqDiff, ofHp, ixOf]; first | rfl | (simp; done))))
   | (have e := zTe (K := zCd a) (i := t) (fun e => absurd e.1 (by omega)); refine ⟨[0], t + 1, ?_, ?_, ?_, ?_, ⟨by omega, zVH jt.2 (by omega)⟩, by omega⟩ <;> (try rw [e]) <;> (first | rfl | (simp only [zAp, refs, ren, cR, Nat.reduceEqDiff, ofHp, ixOf]; first | rfl | (simp; done))))
   | (have e := jt.2; rw [show t = a.length by omega] at e; have e2 : crwB a = false := (by rw [← zVI, crwK, zJM]; exact e); rw [e2])
   | (rw [zAS (by omega)]; (first | rfl | (simp only [zAp, refs, ren, cR, Nat.reduceEqDiff, ofHp, ixOf]; first | rfl | (simp; done))))
   | (first | rfl | (simp only [zAp, refs, ren, cR, Nat.reduceEqDiff, ofHp, ixOf]; first | rfl | (simp; done)))
def entR (x : Rec) : D × D := (recE x, .bo true)
def addR (s : List Rec) (r : Rec) : List Rec := if hasL s r = true then s else s ++ [r]
def setR (l : List Rec) : List Rec := l.foldl addR []
theorem hasL_iff {l : List Rec} {r : Rec} : hasL l r = true ↔ r ∈ l := by
 unfold hasL
 rw [tA6]
 constructor
 · rintro ⟨x, h1, h2⟩; rw [of_decide_eq_true h2] at h1; exact h1
 · intro h; exact ⟨r, h, decide_eq_true rfl⟩
theorem yFJ {s : List Rec} {r x : Rec} : x ∈ addR s r ↔ x ∈ s ∨ x = r := by
 unfold addR
 split
 · rename_i h
   exact ⟨.inl, fun h2 => h2.elim id fun e => e ▸ hasL_iff.1 h⟩
 · simp
theorem zLM : ∀ (l s : List Rec) (x : Rec), x ∈ l.foldl addR s ↔ x ∈ s ∨ x ∈ l
 | [], s, x => by simp
 | r :: l, s, x => by
   show x ∈ l.foldl addR (addR s r) ↔ _
   rw [zLM l, yFJ]; simp only [tAr, or_assoc]
theorem zPx (l : List Rec) (r : Rec) : hasL (setR l) r = hasL l r := by
 rw [tBm, hasL_iff, hasL_iff, setR, zLM]; simp
theorem zSM {l : List Rec} {i : Nat} (h : (i : Int) < l.length) : setR (l.take (i + 1)) = addR (setR (l.take i)) l[i]! := by
 unfold setR; rw [takeN h, List.foldl_append]; rfl
theorem zJX (r : Rec) : ∀ l : List Rec, zEa Tryz.prog 53 (recE r) (l.map entR) = some (l.findIdx? fun x => decide (r = x))
 | [] => rfl
 | x :: l => by
   have ih := zJX r l
   have h1 : eqD Tryz.prog 12 53 (recE r) (recE x) = some (decide (r = x)) := zZj 4 r x
   rw [tAO]
   unfold entR
   rw [zEa, h1]
   show (if decide (r = x) = true then some (some 0) else (zEa Tryz.prog 53 (recE r) (l.map entR)).map _) = _
   rw [ih, List.findIdx?_cons]
   by_cases h : r = x
   · simp [h]
   · simp [h]
noncomputable def updM (H : Hp) (id : Nat) (es : List (D × D)) (k v : D) : Option Hp := (zEa Tryz.prog 53 k es).bind fun (o : Option Nat) => match o with
 | some j => if ((es[j]?).map fun p => zEj p.1 k) = some true then some (upd H id (.mp (es.set j (k, v)))) else none
 | none => some (upd H id (.mp (es ++ [(k, v)])))
noncomputable def zYv (es : List (D × D)) (k : D) : Option D := (zEa Tryz.prog 53 k es).map fun (o : Option Nat) => match o.bind (es[·]?) with | some p => p.2 | none => .bo false
theorem zOf (r : Rec) : scal (recE r) = true := by simp [recE, recL, datL, adrL, scal, zSO]
theorem zQS (r : Rec) : zEj (recE r) (recE r) = true := by
 simp [recE, recL, datL, adrL, zEj, zE5]
theorem zIc (r : Rec) : (eqD Tryz.prog 12 53 (recE r) (recE r)).isSome = true := by
 have h1 : eqD Tryz.prog 12 53 (recE r) (recE r) = some (decide (r = r)) := zZj 4 r r
 rw [h1]; rfl
theorem zXm (H : Hp) (id : Nat) (r : Rec) (b : Bool) : zEu Tryz.prog H 70 (.map id) (recE r) (.bo b) = match H id with | .mp es => updM H id es (recE r) (.bo b) | _ => none := by
 unfold zEu mapT
 rw [Tryz.underlying70]
 simp only [tAg, zOf, immD, zIc, tBp, tBI, tAf, if_false]
 rfl
theorem zLq (H : Hp) (id : Nat) (r : Rec) : zDt Tryz.prog H 70 (.map id) (recE r) false = match H id with | .mp es => zYv es (recE r) | _ => none := by
 unfold zDt mapT
 rw [Tryz.underlying70]
 simp only [tAg, zOf, zIc, tBp, tBI, tAf, if_false, show zDC Tryz.prog 4 = some (.bo false) from by kernel_rfl]
 cases H id with
 | mp es =>
   simp only [tAg]
   unfold zYv
   cases zEa Tryz.prog 53 (recE r) es with
   | none => rfl
   | some o => simp only [tAF, tAb]; cases o.bind (es[·]?) <;> rfl
 | _ => rfl
theorem yCf (H : Hp) (id : Nat) (s : List Rec) (r : Rec) : updM H id (s.map entR) (recE r) (.bo true) = some (upd H id (.mp ((addR s r).map entR))) := by
 unfold updM
 rw [zJX]
 simp only [tAg]
 cases h : s.findIdx? fun x => decide (r = x) with
 | none =>
   have h2 : hasL s r = false := by
     cases h3 : hasL s r with
     | false => rfl
     | true =>
       have h4 := hasL_iff.1 h3
       have := List.findIdx?_eq_none_iff.1 h r h4
       simp at this
   simp only []
   rw [addR, h2]
   simp [entR]
 | some j =>
   obtain ⟨hj, h2, _⟩ := List.findIdx?_eq_some_iff_getElem.1 h
   have h2 := of_decide_eq_true h2
   have h3 : hasL s r = true := hasL_iff.2 (h2 ▸ tBH hj)
   simp only [tAE, tAn hj, tAF, entR, ← h2, zQS, if_true]
   rw [addR, h3, if_pos rfl]
   congr 3
   refine List.ext_getElem (by simp) fun k h4 h5 => ?_
   rw [List.getElem_set]
   split
   · rename_i e; subst e; simp [entR, ← h2]
   · rfl
theorem zO8 (s : List Rec) (r : Rec) : zYv (s.map entR) (recE r) = some (.bo (hasL s r)) := by
 unfold zYv
 rw [zJX]
 simp only [tAF, tAb]
 cases h : s.findIdx? fun x => decide (r = x) with
 | none =>
   have h2 : hasL s r = false := by
     cases h3 : hasL s r with
     | false => rfl
     | true =>
       have h4 := hasL_iff.1 h3
       have := List.findIdx?_eq_none_iff.1 h r h4
       simp at this
   rw [h2]; rfl
 | some j =>
   obtain ⟨hj, h2, _⟩ := List.findIdx?_eq_some_iff_getElem.1 h
   have h2 := of_decide_eq_true h2
   have h3 : hasL s r = true := hasL_iff.2 (h2 ▸ tBH hj)
   simp only [tAg, tAE, tAn hj, tAF, entR, h3]
theorem zYn : nilC (.const (.map none)) = false := rfl
theorem yD2 : ofV (.map none) = .nilm := rfl
theorem zRe {cx : Cx} {env : Nat → D} {H : Hp} {nid : Nat} {dst : Option Tmp} {ty t : TypeId} {pos : String} {after : Array Edge} {g : Option (Nat × Bool)} : opD cx env ⟨dst, .makeMap t none, ty, pos, after, g⟩ H nid = (mapT cx.P t).bind fun _ => some (.map nid, upd H nid (.mp []), nid + 1) := rfl
theorem yD9 : mapT Tryz.prog 70 = some (53, 4) := by unfold mapT; rw [Tryz.underlying70]
theorem zFV (s : List Rec) : zBn (.mp (s.map entR)) := by
 intro p hp
 obtain ⟨x, _, rfl⟩ := tBk.1 hp
 exact ⟨rfl, rfl⟩

noncomputable def FSet := mkN (fun l : List Rec => [zAn l]) (fun l => l.length ≤ 1000000) (fun l => (.map 0, [.mp ((setR l).map entR)]))
theorem yFT {l : List Rec} (hp : l.length ≤ 1000000) : FSet [zAn l] [] = some (.map 0, [.mp ((setR l).map entR)]) := yHs (s := l) (fun s s' h => by simp only [tAv, zJz, and_true] at h; rw [h]) hp
theorem zPW {l : List Rec} {H : Hp} {nid : Nat} (hp : l.length ≤ 1000000) : zCc FSet [zAn l] H nid = some (.map nid, upd H nid (.mp ((setR l).map entR)), nid + 1) := zYy rfl (yFT hp) (zFV _)

theorem yAX (cx : Cx) (hP : cx.P = Tryz.prog) (hbs : cx.bs = 0) (hk3 : cx.kp 3 = some [3, 7, 8, 9]) (l : List Rec) (hl : l.length ≤ 1000000) : zCm cx Tryz.f65 [zAn l] [] = some ((.map 0, [.mp ((setR l).map entR)])) := by
 have hw : ∀ k : Nat, (k : Int) < l.length → IntKind.i64.wrap ((k : Int) + 1) = ((k + 1 : Nat) : Int) := zBF (by omega)
 refine zZl (rs := [.tmp 2]) rfl hbs rfl ?_
 repeat' first
   | (refine zAv (σ := Nat) (fun s => [.map 0, zAn l, .it .i64 l.length, .it .i64 s]) (fun s => [.mp ((setR (l.take s)).map entR)]) (fun s => s ≤ l.length) (fun s => l.length - s) [3, 7, 8, 9] hbs (by exact hk3) (fr1 fun _ => zFV _) (fun s js => ?_) (s := 0) [0] ?_ ?_ ?_ ?_ ?_)
   | (refine bN (fun h => ?_) fun h => ?_)
   | (refine zAI ?_ ?_)
   | simp only [↓cD, cU, cQ, cP, cB, zAD, unD, zAe, zAd, idx, reduceCtorEq, ↓reduceIte, ofV, ofC, zAq, Nat.reduceEqDiff, zAB, cG, implies_true, forall_const, immL, immD, Res.flat, ren, renL, Int.reduceEq, Int.reduceLT, Int.reduceLE, Int.reduceNe, deref, ldD, zAA, zAh, zAC, zAs, cC, ↓zAH, ↓zAL, ↓zAG, ↓zAK, ↓zAF, ↓zAJ, cV, cT, cF, cW, borT, borM, zAl, Res.via, zAt, zAb, refsB, Nat.reduceLT, Nat.reduceSub, Nat.reduceLeDiff, Nat.reduceMul, Nat.reduceAdd, Int.reduceToNat, appK, zAr, zAc, borL, zAj, zAm, zAz, cO, List.replicate, zAx, ofHp, ixOf, hw, zXm, yCf, zYn, yD2, zRe, yD9, hP, *]
 all_goals first
   | rfl
   | omega
   | (rw [zAS (by omega)]; exact ⟨_, _, rfl, rfl, zFV _, rfl⟩)
   | (refine ⟨[0], s + 1, ?_, ?_, ?_, ?_, by omega, by omega⟩ <;> (try rw [zSM (by omega)]) <;> (first | rfl | (simp only [zAp, refs, ren, cR, Nat.reduceEqDiff, ofHp, ixOf]; first | rfl | (simp; done))))
   | (first | rfl | (simp only [zAp, refs, ren, cR, Nat.reduceEqDiff, ofHp, ixOf]; first | rfl | (simp; done)))
theorem zTc (cx : Cx) (hP : cx.P = Tryz.prog) (hbs : cx.bs = 0) (xn65 : cx.orc 65 = none) (xe65 : cx.ext 65 = none) (xf65 : cx.eff 65 = some FSet) (hk4 : cx.kp 4 = some [5, 6, 11, 12, 13]) (a b : List Rec) (hl : a.length ≤ 1000000 ∧ b.length ≤ 1000000) : zAg cx Tryz.f32 [] false [zAn a, zAn b] = some (Res.flat (zAn (zAu a b))) := by
 have cf65 := fun H nid l => (show zBI cx 65 l H nid = _ from zBo xn65 xe65 xf65)
 have hl2 := hl.2
 have hw : ∀ k : Nat, (k : Int) < a.length → IntKind.i64.wrap ((k : Int) + 1) = ((k + 1 : Nat) : Int) := zBF (by omega)
 refine zFw (rs := [.tmp 4]) rfl hbs rfl ?_
 repeat' first
   | (refine zAv (σ := Nat) (fun s => [.map 0, .own 1 0 (zAu (a.take s) b).length, zAn a, .it .i64 a.length, .it .i64 s]) (fun s => [.mp ((setR b).map entR), .row 16 true ((zAu (a.take s) b).map recE)]) (fun s => s ≤ a.length) (fun s => a.length - s) [5, 6, 11, 12, 13] hbs (by exact hk4) (fr2 (fun _ => zFV _) fun _ => zA2 (fun _ => rfl)) (fun s js => ?_) (s := 0) [1, 2] ?_ ?_ ?_ ?_ ?_)
   | (refine bN (fun h => ?_) fun h => ?_)
   | (refine zAI ?_ ?_)
   | simp only [↓cD, cU, cQ, cP, cB, zAD, unD, zAe, zAd, idx, reduceCtorEq, ↓reduceIte, ofV, ofC, zAq, Nat.reduceEqDiff, zAB, cG, implies_true, forall_const, immL, immD, Res.flat, ren, renL, Int.reduceEq, Int.reduceLT, Int.reduceLE, Int.reduceNe, deref, ldD, zAA, zAh, zAC, zAs, cC, ↓zAH, ↓zAL, ↓zAG, ↓zAK, ↓zAF, ↓zAJ, cV, cT, cF, cW, borT, borM, zAl, Res.via, zAt, zAb, refsB, Nat.reduceLT, Nat.reduceSub, Nat.reduceLeDiff, Nat.reduceMul, Nat.reduceAdd, Int.reduceToNat, appK, zAr, zAc, borL, zAj, zAm, zAz, cO, List.replicate, zAx, ofHp, ixOf, hw, hl2, zPW, zLq, zO8, zPx, hP, *]
 all_goals first
   | rfl
   | omega
   | (have hq := zBj (a.take s) b; rw [tAk] at hq; omega)
   | (refine ⟨[0, 1], s + 1, ?_, ?_, ?_, ?_, by omega, by omega⟩ <;> (try rw [show zAu (a.take (s + 1)) b = zAu (a.take s) b from zNc (by omega) (by simp only [*, tBI])]) <;> (first | rfl | (simp only [zAp, refs, ren, cR, Nat.reduceEqDiff, ofHp, ixOf]; first | rfl | (simp; done))))
   | (refine ⟨[0, 4], s + 1, ?_, ?_, ?_, ?_, by omega, by omega⟩ <;> (try rw [show zAu (a.take (s + 1)) b = zAu (a.take s) b ++ [a[s]!] from zH5 (by omega) (by simp only [*, tBK])]) <;> (try simp only [tAh, tAp, tAu, tAZ]) <;> (first | rfl | (simp only [zAp, refs, ren, cR, Nat.reduceEqDiff, ofHp, ixOf]; first | rfl | (simp; done))))
   | (first | rfl | (simp only [zAp, refs, ren, cR, Nat.reduceEqDiff, ofHp, ixOf]; first | rfl | (simp; done)))
   | (rw [zAS (by omega)]; exact ⟨_, _, _, _, rfl, rfl, by simp, zBJ (fun _ => rfl), rfl⟩)
noncomputable def zWQ := mkF (fun s : (List Rec) × (List Rec) => [zAn s.1, zAn s.2]) (fun s => s.1.length ≤ 1000000 ∧ s.2.length ≤ 1000000) (fun s => Res.flat (.bo (decide (((zAu s.1 s.2).length : Int) < s.1.length))))
theorem zQi {a : List Rec} {b : List Rec} (hp : a.length ≤ 1000000 ∧ b.length ≤ 1000000) : zWQ [zAn a, zAn b] = some (Res.flat (.bo (decide (((zAu a b).length : Int) < a.length)))) := mkFe (s := (a, b)) hp
theorem zTa (cx : Cx) (hP : cx.P = Tryz.prog) (hbs : cx.bs = 0) (h32 : cx.orc 32 = some FWo) (a b : List Rec) (hl : a.length ≤ 1000000 ∧ b.length ≤ 1000000) : zAg cx Tryz.f39 [] false [zAn a, zAn b] = some (Res.flat (.bo (decide (((zAu a b).length : Int) < a.length)))) := by
 have c32 := zAa h32
 have hl1 := hl.1; have hl2 := hl.2
 refine zAf (rs := [.tmp 4]) rfl hbs rfl ?_
 repeat' first
   | (refine bN (fun h => ?_) fun h => ?_)
   | (refine zAI ?_ ?_)
   | simp only [↓cD, cU, cQ, cP, cB, zAD, unD, zAe, zAd, idx, reduceCtorEq, ↓reduceIte, ofV, ofC, zAq, Nat.reduceEqDiff, zAB, cG, implies_true, forall_const, immL, immD, Res.flat, ren, renL, Int.reduceEq, Int.reduceLT, Int.reduceLE, Int.reduceNe, deref, ldD, zAA, zAh, zAC, zAs, cC, c32, zAi, zAk, zI7, ↓zAH, ↓zAL, ↓zAG, ↓zAK, ↓zAF, ↓zAJ, cV, cT, cF, cW, borT, borM, zAl, Res.via, zAt, zAb, refsB, Nat.reduceLT, Nat.reduceSub, Nat.reduceLeDiff, Nat.reduceMul, Nat.reduceAdd, Int.reduceToNat, appK, zAr, zAc, borL, zAj, zAm, zAz, cO, List.replicate, zAx, ofHp, ixOf, hl1, hl2, hP, *]
 all_goals first
   | rfl
def insQ (A : List Rec) (k : Nat) : List Rec := stS ltR (A.take k)
theorem zCQ {A : List Rec} {k : Nat} (h : k ≤ A.length) : (insQ A k).length = k := by unfold insQ; rw [zB4, tAk]; omega
theorem zYU (A : List Rec) (k : Nat) : Srt ltR (insQ A k) := zEx wkR _
theorem zYV {A : List Rec} {k : Nat} {x : Rec} (h : x ∈ insQ A k) : x ∈ A := tAS ((zUl wkR).1 h)
theorem zUZ {A : List Rec} {k : Nat} (h : (k : Int) < A.length) : insQ A (k + 1) = insS ltR (insQ A k) A[k]! := by
 unfold insQ stS; rw [takeN h, List.foldl_append]; rfl
def insV (P A S : List Rec) (k : Nat) : List Rec := P ++ insQ A k ++ A.drop k ++ S
def insW (P A S : List Rec) (k t : Nat) : List Rec := P ++ (insQ A k).take t ++ A[k]! :: ((insQ A k).drop t ++ (A.drop (k + 1) ++ S))
structure InsP (P A S : List Rec) : Prop where
 n : P.length + A.length + S.length ≤ 1000000
 r : ∀ r ∈ A, RSm r
structure InsJ (A : List Rec) (k t : Nat) : Prop where
 le : t ≤ k
 gt : ∀ y ∈ (insQ A k).drop t, ltR A[k]! y = true
theorem zYR (P A S : List Rec) : insV P A S 1 = P ++ A ++ S := by
 unfold insV insQ
 cases A with
 | nil =>
   have : stS ltR (([] : List Rec).take 1) = [] := rfl
   rw [this]; simp
 | cons a r =>
   have : stS ltR ((a :: r).take 1) = [a] := rfl
   rw [this]; simp
theorem zRi {P A S : List Rec} {k : Nat} (h : (k : Int) < A.length) : insV P A S k = insW P A S k k := by
 have hl := zCQ (A := A) (k := k) (by omega)
 unfold insV insW
 rw [zB2 h, show (insQ A k).take k = insQ A k from tAM (by omega), show (insQ A k).drop k = [] from tBz (by omega)]; simp
theorem zU0 {A : List Rec} {k t : Nat} (h : (k : Int) < A.length) (ht : 0 < t) (hk : t ≤ k) : (insQ A k).take t = (insQ A k).take (t - 1) ++ [(insQ A k)[t - 1]!] := by
 have hl := zCQ (A := A) (k := k) (by omega)
 have := takeN (l := insQ A k) (i := t - 1) (by omega)
 rwa [show t - 1 + 1 = t by omega] at this
theorem zLD {A : List Rec} {k t : Nat} (h : (k : Int) < A.length) (ht : 0 < t) (hk : t ≤ k) : (insQ A k).drop (t - 1) = (insQ A k)[t - 1]! :: (insQ A k).drop t := by
 have hl := zCQ (A := A) (k := k) (by omega)
 have := zB2 (l := insQ A k) (k := t - 1) (by omega)
 rwa [show t - 1 + 1 = t by omega] at this
theorem zYQ {P A S : List Rec} {k t : Nat} (h : (k : Int) < A.length) (j : InsJ A k t) : ((insW P A S k t).map recE)[P.length + t]? = some (recE A[k]!) := by
 have hl := zCQ (A := A) (k := k) (by omega); have := j.le
 rw [tAE, zGI (show insW P A S k t = (P ++ (insQ A k).take t) ++ A[k]! :: ((insQ A k).drop t ++ (A.drop (k + 1) ++ S)) from rfl) (by simp; omega)]; rfl
theorem yHK {P A S : List Rec} {k t : Nat} (h : (k : Int) < A.length) (ht : 0 < t) (hk : t ≤ k) : insW P A S k t = (P ++ (insQ A k).take (t - 1)) ++ (insQ A k)[t - 1]! :: (A[k]! :: ((insQ A k).drop t ++ (A.drop (k + 1) ++ S))) := by
 unfold insW; rw [zU0 h ht hk]; simp
theorem zPq {P A S : List Rec} {k t : Nat} (h : (k : Int) < A.length) (j : InsJ A k t) (ht : 0 < t) : ((insW P A S k t).map recE)[P.length + t - 1]? = some (recE (insQ A k)[t - 1]!) := by
 have hl := zCQ (A := A) (k := k) (by omega); have hk := j.le
 rw [tAE, zGI (yHK h ht hk) (by simp; omega)]; rfl
theorem zYP {P A S : List Rec} {k t : Nat} {x : D} (h : (k : Int) < A.length) (j : InsJ A k t) (ht : 0 < t) : (((insW P A S k t).map recE).set (P.length + t) x)[P.length + t - 1]? = some (recE (insQ A k)[t - 1]!) := by
 rw [List.getElem?_set_ne (by omega), zPq h j ht]
theorem zYO {P A S : List Rec} {k t : Nat} (h : (k : Int) < A.length) (j : InsJ A k t) (ht : 0 < t) : (((insW P A S k t).map recE).set (P.length + t) (recE (insQ A k)[t - 1]!)).set (P.length + t - 1) (recE A[k]!) = (insW P A S k (t - 1)).map recE := by
 have hl := zCQ (A := A) (k := k) (by omega); have hk := j.le
 rw [← tBY, ← tBY]
 congr 1
 rw [zD4 (show insW P A S k t = (P ++ (insQ A k).take t) ++ A[k]! :: ((insQ A k).drop t ++ (A.drop (k + 1) ++ S)) from rfl) (by simp; omega)]
 have e : (P ++ (insQ A k).take t) ++ (insQ A k)[t - 1]! :: ((insQ A k).drop t ++ (A.drop (k + 1) ++ S)) = (P ++ (insQ A k).take (t - 1)) ++ (insQ A k)[t - 1]! :: ((insQ A k)[t - 1]! :: ((insQ A k).drop t ++ (A.drop (k + 1) ++ S))) := by
   rw [zU0 h ht hk]; simp
 rw [zD4 e (by simp; omega)]
 unfold insW
 rw [zLD h ht hk]; simp
theorem zRj {A : List Rec} {k : Nat} (h : (k : Int) < A.length) : InsJ A k k := ⟨tAl _, fun y hy => by rw [tBz (by rw [zCQ (by omega)]; omega)] at hy; cases hy⟩
theorem zU1 {A : List Rec} {k t : Nat} (h : (k : Int) < A.length) (j : InsJ A k t) (ht : 0 < t) (hc : cmpR A[k]! (insQ A k)[t - 1]! < 0) : InsJ A k (t - 1) :=
 ⟨by have := j.le; omega, fun y hy => by
   rw [zLD h ht j.le] at hy
   rcases tAr.1 hy with rfl | hy
   · exact decide_eq_true hc
   · exact j.gt y hy⟩
theorem zPF {α : Type} {p : α → Bool} {l : List α} (h : ∀ x ∈ l, p x = true) : l.filter p = l := tB7.2 h
theorem zLN {α : Type} {p : α → Bool} {l : List α} (h : ∀ x ∈ l, p x = false) : l.filter p = [] := tA9.2 fun x hx => by rw [h x hx]; decide
theorem yEr {A : List Rec} {k t : Nat} (j : InsJ A k t) (h0 : ∀ y ∈ (insQ A k).take t, ltR A[k]! y = false) : insS ltR (insQ A k) A[k]! = (insQ A k).take t ++ A[k]! :: (insQ A k).drop t := by
 unfold insS
 conv => lhs; rw [← tAH t (insQ A k)]
 rw [tCd, tCd, zPF (fun y hy => by rw [h0 y hy]; rfl), zLN (l := (insQ A k).drop t) (fun y hy => by rw [j.gt y hy]; rfl), zLN (fun y hy => h0 y hy), zPF (fun y hy => j.gt y hy)]
 simp
theorem yEq {P A S : List Rec} {k t : Nat} (h : (k : Int) < A.length) (j : InsJ A k t) (hc : 0 < t → ¬ cmpR A[k]! (insQ A k)[t - 1]! < 0) : insW P A S k t = insV P A S (k + 1) := by
 have hl := zCQ (A := A) (k := k) (by omega); have hk := j.le
 have h0 : ∀ y ∈ (insQ A k).take t, ltR A[k]! y = false := by
   intro y hy
   by_cases ht : 0 < t
   · obtain ⟨i, hi, rfl⟩ := tBZ.1 hy
     rw [tAk] at hi
     rw [List.getElem_take]
     have h1 : ltR A[k]! (insQ A k)[t - 1]! = false := decide_eq_false (hc ht)
     have h2 := zDU wkR (zYU A k) (i := i) (j := t - 1) (by omega) (by omega)
     rw [getElem!_pos (insQ A k) (t - 1) (by omega)] at h1
     exact wkR.ntr h1 h2
   · rw [show t = 0 by omega] at hy; simp at hy
 unfold insV insW
 rw [zUZ h, yEr j h0]; simp

noncomputable def zNP  := mkE (fun s : List Rec × List Rec × List Rec => .own 0 0 (s.1 ++ s.2.1 ++ s.2.2).length :: [.it .i64 s.1.length, .it .i64 ((s.1.length + s.2.1.length : Nat) : Int), .fn (.func 80) [] []]) (fun s => .row 16 true ((s.1 ++ s.2.1 ++ s.2.2).map recE)) (fun s => InsP s.1 s.2.1 s.2.2) (fun s => (.tup [], [.row 16 true ((s.1 ++ stS ltR s.2.1 ++ s.2.2).map recE)]))
theorem yAd  {P A S : List Rec} (hp : InsP P A S) : zNP (.own 0 0 (P ++ A ++ S).length :: [.it .i64 P.length, .it .i64 ((P.length + A.length : Nat) : Int), .fn (.func 80) [] []]) [.row 16 true ((P ++ A ++ S).map recE)] = some (.tup [], [.row 16 true ((P ++ stS ltR A ++ S).map recE)]) := by
 refine zD3 (s := (P, A, S)) ?_ hp
 rintro ⟨P, A, S⟩ ⟨P', A', S'⟩ p1 p2 h1 h2
 simp only [tAv, D.own.injEq, D.it.injEq, true_and, and_true, tBh] at h1
 have h3 := zCO (Blk.row.inj h2).2.2
 simp only [tAh] at h1
 simp only [] at h3
 simp only [tAm] at h3
 obtain ⟨e1, h3⟩ := zCL h3 (by omega)
 obtain ⟨e2, e3⟩ := zCL h3 (by omega)
 subst e1; subst e2; subst e3; rfl
theorem zQo  {P A S l l' : List Rec} {tot nid : Nat} {rest : List D} (hp : InsP P A S) (hl : l = P ++ A ++ S) (hl' : l' = P ++ stS ltR A ++ S) (ht : tot = l.length) (hr : rest = [.it .i64 P.length, .it .i64 ((P.length + A.length : Nat) : Int), .fn (.func 80) [] []]) : zCc (zNP) (.own 0 0 tot :: rest) (ofHp [.row 16 true (l.map recE)]) nid = some (.tup [], ofHp [.row 16 true (l'.map recE)], nid) := by
 subst hr; subst ht; subst hl; subst hl'
 exact zUt rfl (yAd hp)
def insT (P A S : List Rec) : Nat := (P ++ A ++ S).length
theorem zUX (P A S : List Rec) : insT P A S = P.length + A.length + S.length := by simp [insT]; omega
theorem zTi (cx : Cx) (hP : cx.P = Tryz.prog) (hbs : cx.bs = 1) (h80 : cx.orc 80 = some zGP) (r80 : cx.rd.contains 80 = true) (hk1 : cx.kp 1 = some [0, 1, 2, 3, 8]) (hk4 : cx.kp 4 = some [0, 1, 2, 3, 8, 9]) (P A S : List Rec) (hl : InsP P A S) : zCm cx Tryz.f138 [.own 0 0 (insT P A S), .it .i64 P.length, .it .i64 ((P.length + A.length : Nat) : Int), .fn (.func 80) [] []] [.row 16 true ((P ++ A ++ S).map recE)] = some ((.tup [], [.row 16 true ((P ++ stS ltR A ++ S).map recE)])) := by
 have c80 := zAa h80
 have d80 := zAo r80 h80
 have hN := hl.n
 have hw1 : IntKind.i64.wrap ((P.length : Int) + 1) = ((P.length + 1 : Nat) : Int) := by rw [wrap64 (by omega) (by omega)]; omega
 have hw2 : ∀ k : Nat, (k : Int) < A.length → IntKind.i64.wrap (((P.length + k : Nat) : Int) + 1) = ((P.length + (k + 1) : Nat) : Int) := fun k h => by rw [wrap64 (by omega) (by omega)]; omega
 have hlt : ∀ k : Nat, (((P.length + k : Nat) : Int) < ((P.length + A.length : Nat) : Int)) = ((k : Int) < A.length) := fun k => by simp only [eq_iff_iff]; omega
 have hgt : ∀ t : Nat, ((P.length : Int) < ((P.length + t : Nat) : Int)) = (0 < t) := fun t => by simp only [eq_iff_iff]; omega
 have hw3 : ∀ t : Nat, t < A.length → 0 < t → IntKind.i64.wrap (((P.length + t : Nat) : Int) - 1) = ((P.length + t - 1 : Nat) : Int) := fun t h ht => by rw [wrap64 (by omega) (by omega)]; omega
 have hw4 : ∀ t : Nat, ((P.length + t - 1 : Nat) : Int) = ((P.length + t - 1 : Nat) : Int) := fun t => rfl
 have hb1 : ∀ t : Nat, t < A.length → (((P.length + t : Nat) : Int) < (insT P A S : Int)) = True := fun t h => by have := zUX P A S; simp only [eq_iff_iff, iff_true]; omega
 have hb2 : ∀ t : Nat, t < A.length → 0 < t → (((P.length + t - 1 : Nat) : Int) < (insT P A S : Int)) = True := fun t h ht => by have := zUX P A S; simp only [eq_iff_iff, iff_true]; omega
 have hb3 : ∀ k : Nat, ((k : Int) < 0) = False := fun k => by simp
 have hb4 : ∀ k : Nat, (0 ≤ (k : Int)) = True := fun k => by simp
 have hcmp : ∀ k t : Nat, (k : Int) < A.length → InsJ A k t → 0 < t → zGP [recE A[k]!, recE (insQ A k)[t - 1]!] = some (Res.flat (.it .i64 (cmpR A[k]! (insQ A k)[t - 1]!))) := fun k t h j ht => zCB ⟨hl.r _ (zBu h), hl.r _ (zYV (k := k) (zBu (by rw [zCQ (by omega)]; have := j.le; omega)))⟩
 have hdy := fun {nx bef i : Nat} {env : Nat → D} {H : Hp} {dst : Option Tmp} {ty : TypeId} {pos : String} {after : Array Edge} {gd : Option (Nat × Bool)} {k : Tmp} {args : Array Operand} {ts : Array TypeId} (hk : env k = .fn (.func 80) [] []) (hr : zAy nx bef i H (refs (env k) ++ zAp (args.toList.map (ev env))) = true) (hi : immL (args.toList.map (ev env)) = true) => zGT (cx := cx) (nx := nx) (bef := bef) (i := i) (env := env) (H := H) (dst := dst) (ty := ty) (pos := pos) (after := after) (gd := gd) (k := k) (args := args) (ts := ts) hk h80 hr hi
 refine zEH (rs := []) rfl hbs rfl ?_
 repeat' first
   | (refine zA1 (σ := Nat) (fun k => [.own 0 0 (insT P A S), .it .i64 P.length, .it .i64 ((P.length + A.length : Nat) : Int), .fn (.func 80) [] [], .it .i64 ((P.length + k : Nat) : Int)]) (fun k => [.row 16 true ((insV P A S k).map recE)]) (fun k => 1 ≤ k ∧ (k ≤ A.length ∨ k = 1)) (fun k => A.length - k) [0, 1, 2, 3, 8] hbs (by exact hk1) (fr1 fun _ => zBk _) (fun k jk => ?_) (s := 1) [0] ?_ ?_ ?_ ?_ ?_ ?_)
   | (refine zA1 (σ := Nat) (fun t => [.own 0 0 (insT P A S), .it .i64 P.length, .it .i64 ((P.length + A.length : Nat) : Int), .fn (.func 80) [] [], .it .i64 ((P.length + k : Nat) : Int), .it .i64 ((P.length + t : Nat) : Int)]) (fun t => [.row 16 true ((insW P A S k t).map recE)]) (fun t => InsJ A k t ∧ t < A.length) (fun t => t) [0, 1, 2, 3, 8, 9] hbs (by exact hk4) (fr1 fun _ => zBk _) (fun t jt => ?_) (s := k) [0] ?_ ?_ ?_ ?_ ?_ ?_)
   | (refine bN (fun h => ?_) fun h => ?_)
   | (refine zAI ?_ ?_)
   | simp (config := { decide := true }) only [↓cD, cU, cQ, cP, cB, zAD, unD, zAe, zAd, idx, reduceCtorEq, ↓reduceIte, ofV, ofC, zAq, Nat.reduceEqDiff, zAB, cG, implies_true, forall_const, immL, immD, Res.flat, ren, renL, Int.reduceEq, Int.reduceLT, Int.reduceLE, Int.reduceNe, deref, ldD, zAA, zAh, zAC, zAs, cC, cS, refs, zAy, okId, tAs, tAq, Nat.reduceMul, Nat.reduceAdd, Nat.reduceLeDiff, zAp, c80, d80, zAi, zAk, zCB, ↓zAH, ↓zAL, ↓zAG, ↓zAK, ↓zAF, ↓zAJ, cV, cT, cF, cW, borT, borM, zAl, Res.via, zAt, zAb, refsB, Nat.reduceLT, Nat.reduceSub, Nat.reduceLeDiff, Nat.reduceMul, Nat.reduceAdd, Int.reduceToNat, appK, zAr, zAc, borL, zAj, zAm, zAz, cO, List.replicate, zAx, ofHp, ixOf, cS, refs, zAy, okId, tAs, tAq, Nat.reduceMul, Nat.reduceAdd, Nat.reduceLeDiff, zAp, zCn, zEw, updL, hw1, hw2, hw3, hw4, hlt, hgt, hb1, hb2, hb3, hb4, hcmp, hdy, zYQ, zPq, zYP, zYO, zEO, hP, *]
 all_goals first
   | rfl
   | omega
   | (rw [zRi ‹_›]; done)
   | exact ⟨zRj ‹_›, by omega⟩
   | (refine ⟨[0], t - 1, ?_, ?_, ?_, ?_, ?_, ⟨zU1 ‹_› jt.1 ‹_› ‹_›, by have := jt.2; omega⟩, by omega⟩ <;> first | rfl | (rw [Nat.add_sub_assoc (by omega)]; rfl))
   | (refine ⟨[0], k + 1, ?_, ?_, ?_, ?_, ?_, ⟨by omega, by omega⟩, by omega⟩ <;> first | rfl | (rw [yEq ‹_› jt.1 (fun h => by first | assumption | (exfalso; omega))]; rfl))
   | (have e : insV P A S k = P ++ stS ltR A ++ S := (by unfold insV insQ; rw [tAM (by omega), tBz (by omega)]; simp); rw [e]; exact ⟨_, rfl, zBk _, by simp, rfl⟩)
   | (rw [zYR]; done)
theorem at_P {P L R S : List Rec} {i : Nat} (h : (i : Int) < L.length) : ((P ++ L ++ R ++ S).map recE)[P.length + i]? = some (recE L[i]!) := by
 rw [tAE, zGI (show P ++ L ++ R ++ S = (P ++ L.take i) ++ L[i]! :: (L.drop (i + 1) ++ R ++ S) by rw [← tBi, ← tBi, ← zB2 h]; simp only [tAm]; rw [← tAm (L.take i), tAH]) (by simp; omega)]; rfl
theorem at_R {P L R S : List Rec} {i : Nat} (h : (i : Int) < R.length) : ((P ++ L ++ R ++ S).map recE)[P.length + L.length + i]? = some (recE R[i]!) := by
 have := at_P (P := P ++ L) (L := R) (R := []) (S := S) h
 rw [tAh] at this
 simpa using this
def shW (P Q T : List Rec) (x : Rec) (t : Nat) : List Rec := P ++ Q.take t ++ x :: (Q.drop t ++ T)
theorem yAJ {P Q T : List Rec} {x : Rec} {t : Nat} (h : t ≤ Q.length) : ((shW P Q T x t).map recE)[P.length + t]? = some (recE x) := by
 rw [tAE, zGI (show shW P Q T x t = (P ++ Q.take t) ++ x :: (Q.drop t ++ T) from rfl) (by simp; omega)]; rfl
theorem yCH {P Q T : List Rec} {x : Rec} {t : Nat} (h : t < Q.length) : ((shW P Q T x t).map recE)[P.length + t]? = some (recE x) := yAJ (Nat.le_of_lt h)
theorem yJO {P Q T : List Rec} {x : Rec} {t : Nat} (h : (t : Int) < Q.length) : shW P Q T x t = (P ++ Q.take t ++ [x]) ++ Q[t]! :: (Q.drop (t + 1) ++ T) := by unfold shW; rw [zB2 h]; simp
theorem yJN {P Q T : List Rec} {x : Rec} {t : Nat} (h : t < Q.length) : shW P Q T x (t + 1) = (P ++ Q.take t) ++ Q[t]! :: (x :: (Q.drop (t + 1) ++ T)) := by unfold shW; rw [takeN (l := Q) (by omega)]; simp
theorem zOe {P Q T : List Rec} {x : Rec} {t : Nat} (h' : t < Q.length) : ((shW P Q T x t).map recE)[P.length + (t + 1)]? = some (recE Q[t]!) := by
 have h : (t : Int) < Q.length := by omega
 rw [tAE, zGI (yJO h) (by simp; omega)]; rfl
theorem zSL {P Q T : List Rec} {x : Rec} {t : Nat} {y : D} (h : t < Q.length) : (((shW P Q T x t).map recE).set (P.length + t) y)[P.length + (t + 1)]? = some (recE Q[t]!) := by
 rw [List.getElem?_set_ne (by omega), zOe h]
theorem zXL {P Q T : List Rec} {x : Rec} {t : Nat} (h' : t < Q.length) : (((shW P Q T x t).map recE).set (P.length + t) (recE Q[t]!)).set (P.length + (t + 1)) (recE x) = (shW P Q T x (t + 1)).map recE := by
 have h : (t : Int) < Q.length := by omega
 rw [← tBY, ← tBY]
 congr 1
 rw [zD4 (show shW P Q T x t = (P ++ Q.take t) ++ x :: (Q.drop t ++ T) from rfl) (by simp; omega)]
 have e : (P ++ Q.take t) ++ Q[t]! :: (Q.drop t ++ T) = (P ++ Q.take t ++ [Q[t]!]) ++ Q[t]! :: (Q.drop (t + 1) ++ T) := by rw [zB2 h]; simp
 rw [zD4 e (by simp; omega)]
 unfold shW; rw [takeN h]; simp
theorem zOd {P Q T : List Rec} {x : Rec} {t : Nat} (h0 : 0 < t) (h : t ≤ Q.length) : ((shW P Q T x t).map recE)[P.length + t - 1]? = some (recE Q[t - 1]!) := by
 obtain ⟨s, rfl⟩ : ∃ s, t = s + 1 := ⟨t - 1, by omega⟩
 rw [tAE, zGI (yJN (by omega)) (by simp; omega)]; rfl
theorem zSK {P Q T : List Rec} {x : Rec} {t : Nat} {y : D} (h0 : 0 < t) (h : t ≤ Q.length) : (((shW P Q T x t).map recE).set (P.length + t) y)[P.length + t - 1]? = some (recE Q[t - 1]!) := by
 rw [List.getElem?_set_ne (by omega), zOd h0 h]
theorem zXK {P Q T : List Rec} {x : Rec} {t : Nat} (h0 : 0 < t) (h : t ≤ Q.length) : (((shW P Q T x t).map recE).set (P.length + t) (recE Q[t - 1]!)).set (P.length + t - 1) (recE x) = (shW P Q T x (t - 1)).map recE := by
 obtain ⟨s, rfl⟩ : ∃ s, t = s + 1 := ⟨t - 1, by omega⟩
 rw [← tBY, ← tBY]
 congr 1
 simp only [Nat.add_sub_cancel]
 rw [zD4 (show shW P Q T x (s + 1) = (P ++ Q.take (s + 1)) ++ x :: (Q.drop (s + 1) ++ T) from rfl) (by simp; omega)]
 have e : (P ++ Q.take (s + 1)) ++ Q[s]! :: (Q.drop (s + 1) ++ T) = (P ++ Q.take s) ++ Q[s]! :: (Q[s]! :: (Q.drop (s + 1) ++ T)) := by rw [takeN (l := Q) (by omega)]; simp
 rw [zD4 e (by simp; omega)]
 unfold shW; rw [zB2 (l := Q) (k := s) (by omega)]; rfl
theorem get1 {L : List Rec} (h : (L.length : Int) = 1) : L = [L[0]!] := by
 match L, h with
 | [x], _ => rfl
structure SrA (R : List Rec) (x : Rec) (q : Nat × Nat) : Prop where
 le : q.1 ≤ q.2
 n : q.2 ≤ R.length
 lo : ∀ y ∈ R.take q.1, ltR y x = true
 hi : ∀ y ∈ R.drop q.2, ltR y x = false
structure SrB (L : List Rec) (x : Rec) (q : Nat × Nat) : Prop where
 le : q.1 ≤ q.2
 n : q.2 ≤ L.length
 lo : ∀ y ∈ L.take q.1, ltR x y = false
 hi : ∀ y ∈ L.drop q.2, ltR x y = true
theorem zN1 {L : List Rec} {y : Rec} {k : Nat} (h : y ∈ L.take k) : ∃ i, ∃ hi : i < L.length, i < k ∧ L[i] = y := by
 obtain ⟨i, hi, rfl⟩ := tBZ.1 h
 rw [tAk] at hi
 exact ⟨i, by omega, by omega, by rw [List.getElem_take]⟩
theorem zPL {L : List Rec} {y : Rec} {k : Nat} (h : y ∈ L.drop k) : ∃ i, ∃ hi : i < L.length, k ≤ i ∧ L[i] = y := by
 obtain ⟨i, hi, rfl⟩ := tBZ.1 h
 rw [tAx] at hi
 exact ⟨k + i, by omega, by omega, by rw [List.getElem_drop]⟩
theorem yGM {R : List Rec} {x : Rec} {q : Nat × Nat} (hs : Srt ltR R) (j : SrA R x q) (h : (q.1 : Int) < q.2) (hc : cmpR R[(q.1 + q.2) / 2]! x < 0) : SrA R x ((q.1 + q.2) / 2 + 1, q.2) := by
 have h1 := j.le; have h2 := j.n
 refine ⟨by simp only; omega, j.n, fun y hy => ?_, j.hi⟩
 obtain ⟨i, hi, hk, rfl⟩ := zN1 hy
 have h3 : ltR R[(q.1 + q.2) / 2]! x = true := decide_eq_true hc
 rw [getElem!_pos R _ (by omega)] at h3
 exact wkR.le_lt (zDU wkR hs (i := i) (j := (q.1 + q.2) / 2) (by simp only at hk; omega) (by omega)) h3
theorem yGN {R : List Rec} {x : Rec} {q : Nat × Nat} (hs : Srt ltR R) (j : SrA R x q) (h : (q.1 : Int) < q.2) (hc : ¬ cmpR R[(q.1 + q.2) / 2]! x < 0) : SrA R x (q.1, (q.1 + q.2) / 2) := by
 have h1 := j.le; have h2 := j.n
 refine ⟨by simp only; omega, by simp only; omega, j.lo, fun y hy => ?_⟩
 obtain ⟨i, hi, hk, rfl⟩ := zPL hy
 have h3 : ltR R[(q.1 + q.2) / 2]! x = false := decide_eq_false hc
 rw [getElem!_pos R _ (by omega)] at h3
 exact wkR.ntr (zDU wkR hs (i := (q.1 + q.2) / 2) (j := i) (by simp only at hk; omega) hi) h3
theorem yGK {R : List Rec} {x : Rec} {q : Nat × Nat} (hs : Srt ltR R) (j : SrB R x q) (h : (q.1 : Int) < q.2) (hc : ¬ cmpR x R[(q.1 + q.2) / 2]! < 0) : SrB R x ((q.1 + q.2) / 2 + 1, q.2) := by
 have h1 := j.le; have h2 := j.n
 refine ⟨by simp only; omega, j.n, fun y hy => ?_, j.hi⟩
 obtain ⟨i, hi, hk, rfl⟩ := zN1 hy
 have h3 : ltR x R[(q.1 + q.2) / 2]! = false := decide_eq_false hc
 rw [getElem!_pos R _ (by omega)] at h3
 exact wkR.ntr h3 (zDU wkR hs (i := i) (j := (q.1 + q.2) / 2) (by simp only at hk; omega) (by omega))
theorem yGL {R : List Rec} {x : Rec} {q : Nat × Nat} (hs : Srt ltR R) (j : SrB R x q) (h : (q.1 : Int) < q.2) (hc : cmpR x R[(q.1 + q.2) / 2]! < 0) : SrB R x (q.1, (q.1 + q.2) / 2) := by
 have h1 := j.le; have h2 := j.n
 refine ⟨by simp only; omega, by simp only; omega, j.lo, fun y hy => ?_⟩
 obtain ⟨i, hi, hk, rfl⟩ := zPL hy
 have h3 : ltR x R[(q.1 + q.2) / 2]! = true := decide_eq_true hc
 rw [getElem!_pos R _ (by omega)] at h3
 exact wkR.lt_le h3 (zDU wkR hs (i := (q.1 + q.2) / 2) (j := i) (by simp only at hk; omega) hi)
theorem yCF {L R P S : List Rec} {q : Nat × Nat} (h1 : (L.length : Int) = 1) (hs : Srt ltR R) (j : SrA R L[0]! q) (h : ¬ (q.1 : Int) < q.2) : shW P R S L[0]! q.1 = P ++ stS ltR (L ++ R) ++ S := by
 have e : q.2 = q.1 := by have := j.le; omega
 have hi := j.hi; rw [e] at hi
 have h2 := zFa wkR (L1 := []) (L2 := [L[0]!]) (R1 := R.take q.1) (R2 := R.drop q.1) (tBL _ _) (by rw [tAH]; exact hs) (fun x hx y hy => by rw [tAy.1 hx]; exact j.lo y hy) (fun x hx => by simp at hx)
 rw [tAH, tAJ, tAJ, ← get1 h1] at h2
 rw [h2]
 have h3 : stS ltR (R.take q.1) = R.take q.1 := zDg wkR (hs.sublist (tCk _ _))
 have h4 : stS ltR (L ++ R.drop q.1) = L[0]! :: R.drop q.1 := by
   have : L ++ R.drop q.1 = L[0]! :: R.drop q.1 := by conv => lhs; rw [get1 h1]
                                                      rfl
   rw [this]
   exact zDg wkR (tAC.2 ⟨fun y hy => hi y hy, hs.sublist (List.drop_sublist _ _)⟩)
 rw [h3, h4]; simp [shW]
theorem yCE {L R P S : List Rec} {q : Nat × Nat} (h1 : (R.length : Int) = 1) (hs : Srt ltR L) (j : SrB L R[0]! q) (h : ¬ (q.1 : Int) < q.2) : shW P L S R[0]! q.1 = P ++ stS ltR (L ++ R) ++ S := by
 have e : q.2 = q.1 := by have := j.le; omega
 have hi := j.hi; rw [e] at hi
 have h2 := zFa wkR (L1 := L.take q.1) (L2 := L.drop q.1) (R1 := [R[0]!]) (R2 := []) (by rw [tAH]; exact hs) (by simp [Srt]) (fun x hx y hy => by rw [tAy.1 hy]; exact hi x hx) (fun x hx y hy => by simp at hy)
 rw [tAH, tAo, tAo, ← get1 h1] at h2
 rw [h2]
 have h3 : stS ltR (L.drop q.1) = L.drop q.1 := zDg wkR (hs.sublist (List.drop_sublist _ _))
 have h4 : stS ltR (L.take q.1 ++ R) = L.take q.1 ++ [R[0]!] := by
   have : L.take q.1 ++ R = L.take q.1 ++ [R[0]!] := by conv => lhs; rw [get1 h1]
   rw [this]
   exact zDg wkR (tBc.2 ⟨hs.sublist (tCk _ _), tBL _ _, fun x hx y hy => by rw [tAy.1 hy]; exact j.lo x hx⟩)
 rw [h3, h4]; simp [shW]
def symH (L R : List Rec) : Nat := (L.length + R.length) / 2
structure SymP (N : Nat) (P L R S : List Rec) : Prop where
 l : L ≠ []
 r : R ≠ []
 n : L.length + R.length ≤ N
 t : P.length + L.length + R.length + S.length ≤ 1000000
 sl : Srt ltR L
 sr : Srt ltR R
 ml : ∀ x ∈ L, RSm x
 mr : ∀ x ∈ R, RSm x
def symS0 (L R : List Rec) : Nat := symH L R - R.length
def symR0 (L R : List Rec) : Nat := min (symH L R) L.length
structure SymJ (L R : List Rec) (q : Nat × Nat) : Prop where
 le : q.1 ≤ q.2
 a : symS0 L R ≤ q.1
 b : q.2 ≤ symR0 L R
 lo : q.1 = symS0 L R ∨ ltR R[symH L R - q.1]! L[q.1 - 1]! = false
 hi : q.2 = symR0 L R ∨ ltR R[symH L R - 1 - q.2]! L[q.2]! = true
 pl : L ≠ []
 pr : R ≠ []
theorem yCl {L R : List Rec} : symS0 L R ≤ symR0 L R := by unfold symS0 symR0 symH; omega
theorem zQK {L R : List Rec} (hl : L ≠ []) (hr : R ≠ []) : SymJ L R (symS0 L R, symR0 L R) := ⟨yCl, tAl _, tAl _, .inl rfl, .inl rfl, hl, hr⟩
theorem yCm {L R : List Rec} {q : Nat × Nat} (j : SymJ L R q) (h : (q.1 : Int) < q.2) (hc : ¬ cmpR R[symH L R - 1 - (q.1 + q.2) / 2]! L[(q.1 + q.2) / 2]! < 0) : SymJ L R ((q.1 + q.2) / 2 + 1, q.2) := by
 have h1 := j.le; have h2 := j.a
 refine ⟨by simp only; omega, by simp only; omega, j.b, .inr ?_, j.hi, j.pl, j.pr⟩
 have h3 : ltR R[symH L R - 1 - (q.1 + q.2) / 2]! L[(q.1 + q.2) / 2]! = false := decide_eq_false hc
 simp only [Nat.add_sub_cancel]
 rw [show symH L R - ((q.1 + q.2) / 2 + 1) = symH L R - 1 - (q.1 + q.2) / 2 by omega]; exact h3
theorem yCn {L R : List Rec} {q : Nat × Nat} (j : SymJ L R q) (h : (q.1 : Int) < q.2) (hc : cmpR R[symH L R - 1 - (q.1 + q.2) / 2]! L[(q.1 + q.2) / 2]! < 0) : SymJ L R (q.1, (q.1 + q.2) / 2) := by
 have h1 := j.le; have h2 := j.a; have h3 := j.b
 exact ⟨by simp only; omega, j.a, by simp only; omega, j.lo, .inr (decide_eq_true hc), j.pl, j.pr⟩
section
variable {P L R S : List Rec} {q : Nat × Nat}
def symA (P L R S : List Rec) (q : Nat × Nat) : List Rec := P ++ L ++ R ++ S
def sL1 (L : List Rec) (q : Nat × Nat) : List Rec := L.take q.1
def sL2 (L : List Rec) (q : Nat × Nat) : List Rec := L.drop q.1
def sR1 (L R : List Rec) (q : Nat × Nat) : List Rec := R.take (symH L R - q.1)
def sR2 (L R : List Rec) (q : Nat × Nat) : List Rec := R.drop (symH L R - q.1)
def symB (P L R S : List Rec) (q : Nat × Nat) : List Rec := P ++ sL1 L q ++ sR1 L R q ++ sL2 L q ++ sR2 L R q ++ S
def symC (P L R S : List Rec) (q : Nat × Nat) : List Rec := P ++ stS ltR (sL1 L q ++ sR1 L R q) ++ sL2 L q ++ sR2 L R q ++ S
def symD (P L R S : List Rec) (q : Nat × Nat) : List Rec := P ++ stS ltR (sL1 L q ++ sR1 L R q) ++ stS ltR (sL2 L q ++ sR2 L R q) ++ S
theorem zGg : symA P L R S q = P ++ sL1 L q ++ sL2 L q ++ sR1 L R q ++ sR2 L R q ++ S := by
 have h1 : sL1 L q ++ sL2 L q = L := tAH _ _
 have h2 : sR1 L R q ++ sR2 L R q = R := tAH _ _
 rw [show P ++ sL1 L q ++ sL2 L q ++ sR1 L R q ++ sR2 L R q ++ S = P ++ (sL1 L q ++ sL2 L q) ++ (sR1 L R q ++ sR2 L R q) ++ S by simp only [tAm], h1, h2]; rfl
theorem sl1 (j : SymJ L R q) : (sL1 L q).length = q.1 := by
 have := j.le; have := j.b; unfold symR0 at this; unfold sL1; rw [tAk]; omega
theorem sl2 : (sL2 L q).length = L.length - q.1 := by unfold sL2; rw [tAx]
theorem sr1 (j : SymJ L R q) : (sR1 L R q).length = symH L R - q.1 := by
 have := j.a; unfold symS0 at this; unfold sR1; rw [tAk]; omega
theorem sr2 : (sR2 L R q).length = R.length - (symH L R - q.1) := by unfold sR2; rw [tAx]
theorem zBf (j : SymJ L R q) : q.1 ≤ symH L R ∧ q.1 ≤ L.length ∧ symH L R - q.1 ≤ R.length ∧ q.2 ≤ symH L R ∧ q.2 ≤ L.length := by
 have h1 := j.le; have h2 := j.a; have h3 := j.b; unfold symS0 at h2; unfold symR0 at h3; omega
theorem yGy (j : SymJ L R q) (h : ¬ (q.1 : Int) < L.length) : symA P L R S q = symB P L R S q := by
 have e : sL2 L q = [] := tAU (by rw [sl2]; omega)
 rw [zGg, symB, e]; simp only [tAo]
theorem yGx (j : SymJ L R q) (h : ¬ 0 < symH L R - q.1) : symA P L R S q = symB P L R S q := by
 have e : sR1 L R q = [] := tAU (by rw [sr1 j]; omega)
 rw [zGg, symB, e]; simp only [tAo]
variable {N : Nat}
theorem srt1 (p : SymP N P L R S) : Srt ltR (sL1 L q) := p.sl.sublist (tCk _ _)
theorem srt2 (p : SymP N P L R S) : Srt ltR (sL2 L q) := p.sl.sublist (List.drop_sublist _ _)
theorem srt3 (p : SymP N P L R S) : Srt ltR (sR1 L R q) := p.sr.sublist (tCk _ _)
theorem srt4 (p : SymP N P L R S) : Srt ltR (sR2 L R q) := p.sr.sublist (List.drop_sublist _ _)
theorem yGu (p : SymP N P L R S) (j : SymJ L R q) (h : ¬ 0 < q.1) : symB P L R S q = symC P L R S q := by
 have e : sL1 L q = [] := tAU (by rw [sl1 j]; omega)
 rw [symB, symC, e, tAJ, zDg wkR (srt3 p)]; simp only [tAo]
theorem yGt (p : SymP N P L R S) (j : SymJ L R q) (h : ¬ (q.1 : Int) < symH L R) : symB P L R S q = symC P L R S q := by
 have e : sR1 L R q = [] := tAU (by rw [sr1 j]; omega)
 simp only [symB, symC, e, tAo, zDg wkR (srt1 p)]
theorem yGs (p : SymP N P L R S) (j : SymJ L R q) (h : ¬ (q.1 : Int) < L.length) : symC P L R S q = symD P L R S q := by
 have e : sL2 L q = [] := tAU (by rw [sl2]; omega)
 rw [symC, symD, e, tAJ, zDg wkR (srt4 p)]; simp only [tAo]
theorem yGr (p : SymP N P L R S) (j : SymJ L R q) (h : ¬ symH L R - q.1 < R.length) : symC P L R S q = symD P L R S q := by
 have e : sR2 L R q = [] := tAU (by rw [sr2]; omega)
 simp only [symC, symD, e, tAo, zDg wkR (srt2 p)]
theorem yCk (p : SymP N P L R S) (j : SymJ L R q) (h : ¬ (q.1 : Int) < q.2) : symD P L R S q = P ++ stS ltR (L ++ R) ++ S := by
 obtain ⟨f1, f2, f3, f4, f5⟩ := zBf j
 have hq : q.2 = q.1 := by have := j.le; omega
 have hL : sL1 L q ++ sL2 L q = L := tAH _ _
 have hR : sR1 L R q ++ sR2 L R q = R := tAH _ _
 have hm := zFa wkR (L1 := sL1 L q) (L2 := sL2 L q) (R1 := sR1 L R q) (R2 := sR2 L R q) (by rw [hL]; exact p.sl) (by rw [hR]; exact p.sr)
   (fun x hx y hy => by
     obtain ⟨i, hi, hk, rfl⟩ := zPL hx
     obtain ⟨k, hk1, hk2, rfl⟩ := zN1 hy
     rcases j.hi with h1 | h1
     · rw [hq] at h1; unfold symR0 at h1; omega
     · rw [hq, getElem!_pos R _ (by omega), getElem!_pos L _ (by omega)] at h1
       exact wkR.le_lt (zDU wkR p.sr (i := k) (j := symH L R - 1 - q.1) (by omega) (by omega)) (wkR.lt_le h1 (zDU wkR p.sl (i := q.1) (j := i) hk hi)))
   (fun x hx y hy => by
     obtain ⟨i, hi, hk, rfl⟩ := zN1 hx
     obtain ⟨k, hk1, hk2, rfl⟩ := zPL hy
     rcases j.lo with h1 | h1
     · unfold symS0 at h1; omega
     · rw [getElem!_pos R _ (by omega), getElem!_pos L _ (by omega)] at h1
       exact wkR.ntr (zDU wkR p.sr (i := symH L R - q.1) (j := k) hk2 hk1) (wkR.ntr h1 (zDU wkR p.sl (i := i) (j := q.1 - 1) (by omega) (by omega))))
 rw [hL, hR] at hm
 rw [hm, symD]; simp only [tAm]
end
noncomputable def FRot  := mkE (fun s : List Rec × List Rec × List Rec × List Rec => .own 0 0 (s.1 ++ s.2.1 ++ s.2.2.1 ++ s.2.2.2).length :: [.it .i64 s.1.length, .it .i64 ((s.1.length + s.2.1.length : Nat) : Int), .it .i64 ((s.1.length + s.2.1.length + s.2.2.1.length : Nat) : Int), .fn (.func 80) [] []]) (fun s => .row 16 true ((s.1 ++ s.2.1 ++ s.2.2.1 ++ s.2.2.2).map recE)) (fun s => RotP s.1 s.2.1 s.2.2.1 s.2.2.2) (fun s => (.tup [], [.row 16 true ((s.1 ++ s.2.2.1 ++ s.2.1 ++ s.2.2.2).map recE)]))
theorem yFU  {P A B S : List Rec} (hp : RotP P A B S) : FRot (.own 0 0 (P ++ A ++ B ++ S).length :: [.it .i64 P.length, .it .i64 ((P.length + A.length : Nat) : Int), .it .i64 ((P.length + A.length + B.length : Nat) : Int), .fn (.func 80) [] []]) [.row 16 true ((P ++ A ++ B ++ S).map recE)] = some (.tup [], [.row 16 true ((P ++ B ++ A ++ S).map recE)]) := by
 refine zD3 (s := (P, A, B, S)) ?_ hp
 rintro ⟨P, A, B, S⟩ ⟨P', A', B', S'⟩ p1 p2 h1 h2
 simp only [tAv, D.own.injEq, D.it.injEq, true_and, and_true, tBh] at h1
 have h3 := zCO (Blk.row.inj h2).2.2
 simp only [tAh] at h1
 simp only [] at h3
 simp only [tAm] at h3
 obtain ⟨e1, h3⟩ := zCL h3 (by omega)
 obtain ⟨e2, h3⟩ := zCL h3 (by omega)
 obtain ⟨e3, e4⟩ := zCL h3 (by omega)
 subst e1; subst e2; subst e3; subst e4; rfl
theorem yFV  {P A B S l l' : List Rec} {tot nid : Nat} {rest : List D} (hp : RotP P A B S) (hl : l = P ++ A ++ B ++ S) (hl' : l' = P ++ B ++ A ++ S) (ht : tot = l.length) (hr : rest = [.it .i64 P.length, .it .i64 ((P.length + A.length : Nat) : Int), .it .i64 ((P.length + A.length + B.length : Nat) : Int), .fn (.func 80) [] []]) : zCc (FRot) (.own 0 0 tot :: rest) (ofHp [.row 16 true (l.map recE)]) nid = some (.tup [], ofHp [.row 16 true (l'.map recE)], nid) := by
 subst hr; subst ht; subst hl; subst hl'
 exact zUt rfl (yFU hp)
noncomputable def FSym (N : Nat) := mkE (fun s : List Rec × List Rec × List Rec × List Rec => .own 0 0 (s.1 ++ s.2.1 ++ s.2.2.1 ++ s.2.2.2).length :: [.it .i64 s.1.length, .it .i64 ((s.1.length + s.2.1.length : Nat) : Int), .it .i64 ((s.1.length + s.2.1.length + s.2.2.1.length : Nat) : Int), .fn (.func 80) [] []]) (fun s => .row 16 true ((s.1 ++ s.2.1 ++ s.2.2.1 ++ s.2.2.2).map recE)) (fun s => SymP N s.1 s.2.1 s.2.2.1 s.2.2.2) (fun s => (.tup [], [.row 16 true ((s.1 ++ stS ltR (s.2.1 ++ s.2.2.1) ++ s.2.2.2).map recE)]))
theorem yFP {N : Nat} {P L R S : List Rec} (hp : SymP N P L R S) : FSym N (.own 0 0 (P ++ L ++ R ++ S).length :: [.it .i64 P.length, .it .i64 ((P.length + L.length : Nat) : Int), .it .i64 ((P.length + L.length + R.length : Nat) : Int), .fn (.func 80) [] []]) [.row 16 true ((P ++ L ++ R ++ S).map recE)] = some (.tup [], [.row 16 true ((P ++ stS ltR (L ++ R) ++ S).map recE)]) := by
 refine zD3 (s := (P, L, R, S)) ?_ hp
 rintro ⟨P, L, R, S⟩ ⟨P', L', R', S'⟩ p1 p2 h1 h2
 simp only [tAv, D.own.injEq, D.it.injEq, true_and, and_true, tBh] at h1
 have h3 := zCO (Blk.row.inj h2).2.2
 simp only [tAh] at h1
 simp only [] at h3
 simp only [tAm] at h3
 obtain ⟨e1, h3⟩ := zCL h3 (by omega)
 obtain ⟨e2, h3⟩ := zCL h3 (by omega)
 obtain ⟨e3, e4⟩ := zCL h3 (by omega)
 subst e1; subst e2; subst e3; subst e4; rfl
theorem zKw {N : Nat} {P L R S l l' : List Rec} {tot nid : Nat} {rest : List D} (hp : SymP N P L R S) (hl : l = P ++ L ++ R ++ S) (hl' : l' = P ++ stS ltR (L ++ R) ++ S) (ht : tot = l.length) (hr : rest = [.it .i64 P.length, .it .i64 ((P.length + L.length : Nat) : Int), .it .i64 ((P.length + L.length + R.length : Nat) : Int), .fn (.func 80) [] []]) : zCc (FSym N) (.own 0 0 tot :: rest) (ofHp [.row 16 true (l.map recE)]) nid = some (.tup [], ofHp [.row 16 true (l'.map recE)], nid) := by
 subst hr; subst ht; subst hl; subst hl'
 exact zUt rfl (yFP hp)
def symT (P L R S : List Rec) : Nat := (P ++ L ++ R ++ S).length
theorem zDr (P L R S : List Rec) : symT P L R S = P.length + L.length + R.length + S.length := by simp [symT]; omega
section
variable {N : Nat} {P L R S : List Rec} {q : Nat × Nat} {nid : Nat}
theorem zZA (p : SymP (N + 1) P L R S) (j : SymJ L R q) (h1 : (q.1 : Int) < L.length) (h2 : 0 < symH L R - q.1) : zCc FRot [.own 0 0 (symT P L R S), .it .i64 ((P.length + q.1 : Nat) : Int), .it .i64 ((P.length + L.length : Nat) : Int), .it .i64 ((P.length + L.length + (symH L R - q.1) : Nat) : Int), .fn (.func 80) [] []] (ofHp [.row 16 true ((symA P L R S q).map recE)]) nid = some (.tup [], ofHp [.row 16 true ((symB P L R S q).map recE)], nid) := by
 have a1 := sl1 j; have a2 := sl2 (L := L) (q := q); have a3 := sr1 j; have a4 := sr2 (L := L) (R := R) (q := q); have f := zBf j; have ht := p.t
 refine yFV (P := P ++ sL1 L q) (A := sL2 L q) (B := sR1 L R q) (S := sR2 L R q ++ S) ⟨tAQ (by omega), tAQ (by omega), ?_⟩ ?_ ?_ ?_ ?_
 · simp only [tAh]; omega
 · rw [zGg]; simp only [tAm]
 · simp only [symB, tAm]
 · rfl
 · simp only [tAh, tAv, D.it.injEq, true_and, and_true, tBh]; omega
theorem zVZ (p : SymP (N + 1) P L R S) (j : SymJ L R q) (h1 : 0 < q.1) (h2 : (q.1 : Int) < symH L R) : zCc (FSym N) [.own 0 0 (symT P L R S), .it .i64 P.length, .it .i64 ((P.length + q.1 : Nat) : Int), .it .i64 ((P.length + symH L R : Nat) : Int), .fn (.func 80) [] []] (ofHp [.row 16 true ((symB P L R S q).map recE)]) nid = some (.tup [], ofHp [.row 16 true ((symC P L R S q).map recE)], nid) := by
 have a1 := sl1 j; have a2 := sl2 (L := L) (q := q); have a3 := sr1 j; have a4 := sr2 (L := L) (R := R) (q := q); have f := zBf j; have ht := p.t; have hn := p.n
 have hL := zBd p.l; have hR := zBd p.r
 have hh : symH L R = (L.length + R.length) / 2 := rfl
 refine zKw (P := P) (L := sL1 L q) (R := sR1 L R q) (S := sL2 L q ++ sR2 L R q ++ S) ⟨tAQ (by omega), tAQ (by omega), by omega, ?_, srt1 p, srt3 p, fun x hx => p.ml x (tAS hx), fun x hx => p.mr x (tAS hx)⟩ ?_ ?_ ?_ ?_
 · simp only [tAh]; omega
 · simp only [symB, tAm]
 · simp only [symC, tAm]
 · simp only [symT, symB, tAh]; omega
 · simp only [tAh, tAv, D.it.injEq, true_and, and_true, tBh]; omega
theorem zVY (p : SymP (N + 1) P L R S) (j : SymJ L R q) (h1 : (q.1 : Int) < L.length) (h2 : symH L R - q.1 < R.length) : zCc (FSym N) [.own 0 0 (symT P L R S), .it .i64 ((P.length + symH L R : Nat) : Int), .it .i64 ((P.length + L.length + (symH L R - q.1) : Nat) : Int), .it .i64 ((P.length + L.length + R.length : Nat) : Int), .fn (.func 80) [] []] (ofHp [.row 16 true ((symC P L R S q).map recE)]) nid = some (.tup [], ofHp [.row 16 true ((symD P L R S q).map recE)], nid) := by
 have a1 := sl1 j; have a2 := sl2 (L := L) (q := q); have a3 := sr1 j; have a4 := sr2 (L := L) (R := R) (q := q); have f := zBf j; have ht := p.t; have hn := p.n
 have hL := zBd p.l; have hR := zBd p.r
 have hh : symH L R = (L.length + R.length) / 2 := rfl
 have b1 : (stS ltR (sL1 L q ++ sR1 L R q)).length = q.1 + (symH L R - q.1) := by rw [zB4, tAh]; omega
 refine zKw (P := P ++ stS ltR (sL1 L q ++ sR1 L R q)) (L := sL2 L q) (R := sR2 L R q) (S := S) ⟨tAQ (by omega), tAQ (by omega), by omega, ?_, srt2 p, srt4 p, fun x hx => p.ml x (tA2 hx), fun x hx => p.mr x (tA2 hx)⟩ ?_ ?_ ?_ ?_
 · simp only [tAh]; omega
 · simp only [symC, tAm]
 · simp only [symD, tAm]
 · simp only [symT, symC, tAh]; omega
 · simp only [tAh, tAv, D.it.injEq, true_and, and_true, tBh]; omega
theorem yGw (h : (L.length : Int) = 1) : symA P L R S q = shW P R S L[0]! 0 := by
 unfold symA shW; conv => lhs; rw [get1 h]
 simp
theorem yGv (h : (R.length : Int) = 1) : symA P L R S q = shW P L S R[0]! L.length := by
 unfold symA shW; conv => lhs; rw [get1 h]
 simp
theorem half {i j : Nat} (h : i + j ≤ 10000000) : IntKind.i64.wrap ((IntKind.u64.wrap (IntKind.i64.wrap ((i : Int) + (j : Int)))).fdiv (2 ^ min 1 IntKind.u64.bits)) = (((i + j) / 2 : Nat) : Int) := by
 have e : IntKind.u64.bits = 64 := rfl
 rw [e, wrap64 (n := (i : Int) + (j : Int)) (by omega) (by omega), zDR, tBq _ (by decide)]
 rw [show min 1 64 = 1 from rfl, wrap64 (by omega) (by omega)]; omega
end

section
variable (N : Nat)
theorem yAS (cx : Cx) (hP : cx.P = Tryz.prog) (hbs : cx.bs = 1) (h80 : cx.orc 80 = some zGP) (xn182 : cx.orc 182 = none) (xe182 : cx.ext 182 = none) (xf182 : cx.eff 182 = some FRot) (xn162 : cx.orc 162 = none) (xe162 : cx.ext 162 = none) (xf162 : cx.eff 162 = some (FSym N)) (r80 : cx.rd.contains 80 = true) (hk3 : cx.kp 3 = some [0, 1, 4, 10, 11]) (hk9 : cx.kp 9 = some [0, 10, 13]) (hk15 : cx.kp 15 = some [0, 2, 4, 14, 15]) (hk21 : cx.kp 21 = some [0, 14, 17]) (hk33 : cx.kp 33 = some [0, 1, 2, 3, 4, 18, 19, 20, 21, 22]) (P L R S : List Rec) (hl : SymP (N + 1) P L R S) : zCm cx Tryz.f162 [.own 0 0 (symT P L R S), .it .i64 P.length, .it .i64 ((P.length + L.length : Nat) : Int), .it .i64 ((P.length + L.length + R.length : Nat) : Int), .fn (.func 80) [] []] [.row 16 true ((P ++ L ++ R ++ S).map recE)] = some ((.tup [], [.row 16 true ((P ++ stS ltR (L ++ R) ++ S).map recE)])) := by
 have c80 := zAa h80
 have d80 := zAo r80 h80
 have cf182 := fun H nid l => (show zBI cx 182 l H nid = _ from zBo xn182 xe182 xf182)
 have cf162 := fun H nid l => (show zBI cx 162 l H nid = _ from zBo xn162 xe162 xf162)
 have hml :  IntKind.i64.wrap (((P.length + L.length : Nat) : Int) - (P.length : Int)) = (L.length : Int) := by have hN := hl.t; have hh : symH L R = (L.length + R.length) / 2 := rfl;  rw [wrap64 (by omega) (by omega)]; omega
 have hmr :  IntKind.i64.wrap (((P.length + L.length + R.length : Nat) : Int) - ((P.length + L.length : Nat) : Int)) = (R.length : Int) := by have hN := hl.t; have hh : symH L R = (L.length + R.length) / 2 := rfl;  rw [wrap64 (by omega) (by omega)]; omega
 have hmA : ∀ q, SrA R L[0]! q → IntKind.i64.wrap ((IntKind.u64.wrap (IntKind.i64.wrap (((P.length + L.length + q.1 : Nat) : Int) + ((P.length + L.length + q.2 : Nat) : Int)))).fdiv (2 ^ min 1 IntKind.u64.bits)) = ((P.length + L.length + ((q.1 + q.2) / 2) : Nat) : Int) := fun q c0 => by have hN := hl.t; have hh : symH L R = (L.length + R.length) / 2 := rfl; have := c0.le; have := c0.n; rw [half (by omega)]; congr 1; omega
 have hmB : ∀ q, SrB L R[0]! q → IntKind.i64.wrap ((IntKind.u64.wrap (IntKind.i64.wrap (((P.length + q.1 : Nat) : Int) + ((P.length + q.2 : Nat) : Int)))).fdiv (2 ^ min 1 IntKind.u64.bits)) = ((P.length + ((q.1 + q.2) / 2) : Nat) : Int) := fun q c0 => by have hN := hl.t; have hh : symH L R = (L.length + R.length) / 2 := rfl; have := c0.le; have := c0.n; rw [half (by omega)]; congr 1; omega
 have hmJ : ∀ q, SymJ L R q → IntKind.i64.wrap ((IntKind.u64.wrap (IntKind.i64.wrap (((P.length + q.1 : Nat) : Int) + ((P.length + q.2 : Nat) : Int)))).fdiv (2 ^ min 1 IntKind.u64.bits)) = ((P.length + ((q.1 + q.2) / 2) : Nat) : Int) := fun q c0 => by have hN := hl.t; have hh : symH L R = (L.length + R.length) / 2 := rfl; have := zBf c0; rw [half (by omega)]; congr 1; omega
 have hmid : IntKind.i64.wrap ((IntKind.u64.wrap (IntKind.i64.wrap ((P.length : Int) + ((P.length + L.length + R.length : Nat) : Int)))).fdiv (2 ^ min 1 IntKind.u64.bits)) = ((P.length + symH L R : Nat) : Int) := by have hN := hl.t; have hh : symH L R = (L.length + R.length) / 2 := rfl; rw [half (by omega)]; congr 1; omega
 have hnn :  IntKind.i64.wrap (((P.length + symH L R : Nat) : Int) + ((P.length + L.length : Nat) : Int)) = ((P.length + symH L R + (P.length + L.length) : Nat) : Int) := by have hN := hl.t; have hh : symH L R = (L.length + R.length) / 2 := rfl;  rw [wrap64 (by omega) (by omega)]; omega
 have hpp :  IntKind.i64.wrap (((P.length + symH L R + (P.length + L.length) : Nat) : Int) - 1) = ((P.length + symH L R + (P.length + L.length) - 1 : Nat) : Int) := by have hN := hl.t; have hh : symH L R = (L.length + R.length) / 2 := rfl; have := zBd hl.l; rw [wrap64 (by omega) (by omega)]; omega
 have hst : (symH L R : Int) < L.length →  IntKind.i64.wrap (((P.length + symH L R + (P.length + L.length) : Nat) : Int) - ((P.length + L.length + R.length : Nat) : Int)) = ((P.length + symS0 L R : Nat) : Int) := fun c0 => by have hN := hl.t; have hh : symH L R = (L.length + R.length) / 2 := rfl; unfold symS0; rw [wrap64 (by omega) (by omega)]; omega
 have hpc : ∀ q, SymJ L R q → (q.1 : Int) < q.2 →  IntKind.i64.wrap (((P.length + symH L R + (P.length + L.length) - 1 : Nat) : Int) - ((P.length + ((q.1 + q.2) / 2) : Nat) : Int)) = ((P.length + L.length + (symH L R - 1 - ((q.1 + q.2) / 2)) : Nat) : Int) := fun q c0 c1 => by have hN := hl.t; have hh : symH L R = (L.length + R.length) / 2 := rfl; have := zBf c0; rw [wrap64 (by omega) (by omega)]; omega
 have hen : ∀ q, SymJ L R q →  IntKind.i64.wrap (((P.length + symH L R + (P.length + L.length) : Nat) : Int) - ((P.length + q.1 : Nat) : Int)) = ((P.length + L.length + (symH L R - q.1) : Nat) : Int) := fun q c0 => by have hN := hl.t; have hh : symH L R = (L.length + R.length) / 2 := rfl; have := zBf c0; rw [wrap64 (by omega) (by omega)]; omega
 have haA : ∀ q, SrA R L[0]! q →  IntKind.i64.wrap (((P.length + L.length + ((q.1 + q.2) / 2) : Nat) : Int) + 1) = ((P.length + L.length + ((q.1 + q.2) / 2 + 1) : Nat) : Int) := fun q c0 => by have hN := hl.t; have hh : symH L R = (L.length + R.length) / 2 := rfl; have := c0.le; have := c0.n; rw [wrap64 (by omega) (by omega)]; omega
 have haB : ∀ q, SrB L R[0]! q →  IntKind.i64.wrap (((P.length + ((q.1 + q.2) / 2) : Nat) : Int) + 1) = ((P.length + ((q.1 + q.2) / 2 + 1) : Nat) : Int) := fun q c0 => by have hN := hl.t; have hh : symH L R = (L.length + R.length) / 2 := rfl; have := c0.le; have := c0.n; rw [wrap64 (by omega) (by omega)]; omega
 have haJ : ∀ q, SymJ L R q →  IntKind.i64.wrap (((P.length + ((q.1 + q.2) / 2) : Nat) : Int) + 1) = ((P.length + ((q.1 + q.2) / 2 + 1) : Nat) : Int) := fun q c0 => by have hN := hl.t; have hh : symH L R = (L.length + R.length) / 2 := rfl; have := zBf c0; rw [wrap64 (by omega) (by omega)]; omega
 have hi1 : ∀ q, (L.length : Int) = 1 → SrA R L[0]! q →  IntKind.i64.wrap (((P.length + L.length + q.1 : Nat) : Int) - 1) = ((P.length + q.1 : Nat) : Int) := fun q c0 c1 => by have hN := hl.t; have hh : symH L R = (L.length + R.length) / 2 := rfl; have := c1.le; have := c1.n; rw [wrap64 (by omega) (by omega)]; omega
 have hk1 : ∀ t, t < R.length →  IntKind.i64.wrap (((P.length + t : Nat) : Int) + 1) = ((P.length + (t + 1) : Nat) : Int) := fun t c0 => by have hN := hl.t; have hh : symH L R = (L.length + R.length) / 2 := rfl;  rw [wrap64 (by omega) (by omega)]; omega
 have hk2 : ∀ t, 0 < t → t ≤ L.length →  IntKind.i64.wrap (((P.length + t : Nat) : Int) - 1) = ((P.length + t - 1 : Nat) : Int) := fun t c0 c1 => by have hN := hl.t; have hh : symH L R = (L.length + R.length) / 2 := rfl;  rw [wrap64 (by omega) (by omega)]; omega
 have hltA : ∀ q : Nat × Nat, (((P.length + L.length + q.1 : Nat) : Int) < ((P.length + L.length + q.2 : Nat) : Int)) = ((q.1 : Int) < q.2) := fun q => by simp only [eq_iff_iff]; omega
 have hltB : ∀ q : Nat × Nat, (((P.length + q.1 : Nat) : Int) < ((P.length + q.2 : Nat) : Int)) = ((q.1 : Int) < q.2) := fun q => by simp only [eq_iff_iff]; omega
 have hltH : (((P.length + symH L R : Nat) : Int) < ((P.length + L.length : Nat) : Int)) = ((symH L R : Int) < L.length) := by simp only [eq_iff_iff]; omega
 have hl9 : ∀ (q : Nat × Nat) (t : Nat), SrA R L[0]! q → (((P.length + t : Nat) : Int) < ((P.length + q.1 : Nat) : Int)) = ((t : Int) < q.1 ∧ t < R.length) := fun q t j => by have := j.le; have := j.n; simp only [eq_iff_iff]; omega
 have hl21 : ∀ (q : Nat × Nat) (t : Nat), SrB L R[0]! q → (((P.length + q.1 : Nat) : Int) < ((P.length + t : Nat) : Int)) = ((q.1 : Int) < t ∧ 0 < t) := fun q t j => by simp only [eq_iff_iff]; omega
 have hc1 : ∀ q, SymJ L R q → (((P.length + q.1 : Nat) : Int) < ((P.length + L.length : Nat) : Int)) = ((q.1 : Int) < L.length) := fun q j => by simp only [eq_iff_iff]; omega
 have hc2 : ∀ q, SymJ L R q → (((P.length + L.length : Nat) : Int) < ((P.length + L.length + (symH L R - q.1) : Nat) : Int)) = (0 < symH L R - q.1) := fun q j => by simp only [eq_iff_iff]; omega
 have hc3 : ∀ q, SymJ L R q → ((P.length : Int) < ((P.length + q.1 : Nat) : Int)) = (0 < q.1) := fun q j => by simp only [eq_iff_iff]; omega
 have hc4 : ∀ q, SymJ L R q → (((P.length + q.1 : Nat) : Int) < ((P.length + symH L R : Nat) : Int)) = ((q.1 : Int) < symH L R) := fun q j => by simp only [eq_iff_iff]; omega
 have hc5 : ∀ q, SymJ L R q → (((P.length + symH L R : Nat) : Int) < ((P.length + L.length + (symH L R - q.1) : Nat) : Int)) = ((q.1 : Int) < L.length) := fun q j => by have := zBf j; simp only [eq_iff_iff]; omega
 have hc6 : ∀ q, SymJ L R q → (((P.length + L.length + (symH L R - q.1) : Nat) : Int) < ((P.length + L.length + R.length : Nat) : Int)) = (symH L R - q.1 < R.length) := fun q j => by simp only [eq_iff_iff]; omega
 have hbA : ∀ q, SrA R L[0]! q → (q.1 : Int) < q.2 →  (((P.length + L.length + ((q.1 + q.2) / 2) : Nat) : Int) < (symT P L R S : Int)) = True := fun q c0 c1 => by have hN := hl.t; have hh : symH L R = (L.length + R.length) / 2 := rfl; have hT := zDr P L R S; have := zBd hl.l; have := zBd hl.r; have := c0.n; simp only [eq_iff_iff, iff_true]; omega
 have hbB : ∀ q, SrB L R[0]! q → (q.1 : Int) < q.2 →  (((P.length + ((q.1 + q.2) / 2) : Nat) : Int) < (symT P L R S : Int)) = True := fun q c0 c1 => by have hN := hl.t; have hh : symH L R = (L.length + R.length) / 2 := rfl; have hT := zDr P L R S; have := zBd hl.l; have := zBd hl.r; have := c0.n; simp only [eq_iff_iff, iff_true]; omega
 have hbJ : ∀ q, SymJ L R q → (q.1 : Int) < q.2 →  (((P.length + ((q.1 + q.2) / 2) : Nat) : Int) < (symT P L R S : Int)) = True := fun q c0 c1 => by have hN := hl.t; have hh : symH L R = (L.length + R.length) / 2 := rfl; have hT := zDr P L R S; have := zBd hl.l; have := zBd hl.r; have := zBf c0; simp only [eq_iff_iff, iff_true]; omega
 have hbK : ∀ q, SymJ L R q → (q.1 : Int) < q.2 →  (((P.length + L.length + (symH L R - 1 - ((q.1 + q.2) / 2)) : Nat) : Int) < (symT P L R S : Int)) = True := fun q c0 c1 => by have hN := hl.t; have hh : symH L R = (L.length + R.length) / 2 := rfl; have hT := zDr P L R S; have := zBd hl.l; have := zBd hl.r; have := zBf c0; have := c0.a; unfold symS0 at this; simp only [eq_iff_iff, iff_true]; omega
 have hb0 : ((P.length : Int) < (symT P L R S : Int)) = True := by have hT := zDr P L R S; have := zBd hl.l; simp only [eq_iff_iff, iff_true]; omega
 have hbm : (((P.length + L.length : Nat) : Int) < (symT P L R S : Int)) = True := by have hN := hl.t; have hh : symH L R = (L.length + R.length) / 2 := rfl; have hT := zDr P L R S; have := zBd hl.l; have := zBd hl.r;  simp only [eq_iff_iff, iff_true]; omega
 have hb9 : ∀ t, t < R.length →  (((P.length + t : Nat) : Int) < (symT P L R S : Int)) = True := fun t c0 => by have hN := hl.t; have hh : symH L R = (L.length + R.length) / 2 := rfl; have hT := zDr P L R S; have := zBd hl.l; have := zBd hl.r;  simp only [eq_iff_iff, iff_true]; omega
 have hb10 : ∀ t, t < R.length →  (((P.length + (t + 1) : Nat) : Int) < (symT P L R S : Int)) = True := fun t c0 => by have hN := hl.t; have hh : symH L R = (L.length + R.length) / 2 := rfl; have hT := zDr P L R S; have := zBd hl.l; have := zBd hl.r;  simp only [eq_iff_iff, iff_true]; omega
 have hb21 : ∀ t, t ≤ L.length →  (((P.length + t : Nat) : Int) < (symT P L R S : Int)) = True := fun t c0 => by have hN := hl.t; have hh : symH L R = (L.length + R.length) / 2 := rfl; have hT := zDr P L R S; have := zBd hl.l; have := zBd hl.r;  simp only [eq_iff_iff, iff_true]; omega
 have hb22 : ∀ t, 0 < t → t ≤ L.length →  (((P.length + t - 1 : Nat) : Int) < (symT P L R S : Int)) = True := fun t c0 c1 => by have hN := hl.t; have hh : symH L R = (L.length + R.length) / 2 := rfl; have hT := zDr P L R S; have := zBd hl.l; have := zBd hl.r;  simp only [eq_iff_iff, iff_true]; omega
 have hz1 : ∀ k : Nat, ((k : Int) < 0) = False := fun k => by simp
 have hz2 : ∀ k : Nat, (0 ≤ (k : Int)) = True := fun k => by simp
 have hr0 : ∀ q,  ((symA P L R S q).map recE)[P.length]? = some (recE L[0]!) := fun q  => at_P (i := 0) (by have := zBd hl.l; omega)
 have hrm : ∀ q,  ((symA P L R S q).map recE)[P.length + L.length]? = some (recE R[0]!) := fun q  => at_R (i := 0) (by have := zBd hl.r; omega)
 have hrA : ∀ q, SrA R L[0]! q → (q.1 : Int) < q.2 →  ((symA P L R S q).map recE)[P.length + L.length + ((q.1 + q.2) / 2)]? = some (recE R[(q.1 + q.2) / 2]!) := fun q c0 c1 => at_R (by have := c0.n; omega)
 have hrB : ∀ q, SrB L R[0]! q → (q.1 : Int) < q.2 →  ((symA P L R S q).map recE)[P.length + ((q.1 + q.2) / 2)]? = some (recE L[(q.1 + q.2) / 2]!) := fun q c0 c1 => at_P (by have := c0.n; omega)
 have hrJ : ∀ q, SymJ L R q → (q.1 : Int) < q.2 →  ((symA P L R S q).map recE)[P.length + ((q.1 + q.2) / 2)]? = some (recE L[(q.1 + q.2) / 2]!) := fun q c0 c1 => at_P (by have := zBf c0; omega)
 have hrK : ∀ q, SymJ L R q → (q.1 : Int) < q.2 →  ((symA P L R S q).map recE)[P.length + L.length + (symH L R - 1 - ((q.1 + q.2) / 2))]? = some (recE R[symH L R - 1 - ((q.1 + q.2) / 2)]!) := fun q c0 c1 => at_R (by have := zBf c0; have := c0.a; unfold symS0 at this; have hh : symH L R = (L.length + R.length) / 2 := rfl; have := zBd hl.l; have := zBd hl.r; omega)
 have hcA : ∀ q : Nat × Nat, SrA R L[0]! q → (q.1 : Int) < q.2 →  zGP [recE R[(q.1 + q.2) / 2]!, recE L[0]!] = some (Res.flat (.it .i64 (cmpR R[(q.1 + q.2) / 2]! L[0]!))) := fun q c0 c1 => zCB ⟨hl.mr _ (zBu (by have := c0.n; omega)), hl.ml _ (zBu (by have := zBd hl.l; omega))⟩
 have hcB : ∀ q : Nat × Nat, SrB L R[0]! q → (q.1 : Int) < q.2 →  zGP [recE R[0]!, recE L[(q.1 + q.2) / 2]!] = some (Res.flat (.it .i64 (cmpR R[0]! L[(q.1 + q.2) / 2]!))) := fun q c0 c1 => zCB ⟨hl.mr _ (zBu (by have := zBd hl.r; omega)), hl.ml _ (zBu (by have := c0.n; omega))⟩
 have hcJ : ∀ q : Nat × Nat, SymJ L R q → (q.1 : Int) < q.2 →  zGP [recE R[symH L R - 1 - ((q.1 + q.2) / 2)]!, recE L[(q.1 + q.2) / 2]!] = some (Res.flat (.it .i64 (cmpR R[symH L R - 1 - ((q.1 + q.2) / 2)]! L[(q.1 + q.2) / 2]!))) := fun q c0 c1 => zCB ⟨hl.mr _ (zBu (by have := zBf c0; have := c0.a; unfold symS0 at this; have hh : symH L R = (L.length + R.length) / 2 := rfl; have := zBd hl.l; have := zBd hl.r; omega)), hl.ml _ (zBu (by have := zBf c0; omega))⟩
 have hAB1 : ∀ q, SymJ L R q → ¬ (q.1 : Int) < L.length → symA P L R S q = symB P L R S q := fun q j h => yGy j h
 have hAB2 : ∀ q, SymJ L R q → ¬ 0 < symH L R - q.1 → symA P L R S q = symB P L R S q := fun q j h => yGx j h
 have hBC1 : ∀ q, SymJ L R q → ¬ 0 < q.1 → symB P L R S q = symC P L R S q := fun q j h => yGu hl j h
 have hBC2 : ∀ q, SymJ L R q → ¬ (q.1 : Int) < symH L R → symB P L R S q = symC P L R S q := fun q j h => yGt hl j h
 have hCD1 : ∀ q, SymJ L R q → ¬ (q.1 : Int) < L.length → symC P L R S q = symD P L R S q := fun q j h => yGs hl j h
 have hCD2 : ∀ q, SymJ L R q → ¬ symH L R - q.1 < R.length → symC P L R S q = symD P L R S q := fun q j h => yGr hl j h
 have hdy := fun {nx bef i : Nat} {env : Nat → D} {H : Hp} {dst : Option Tmp} {ty : TypeId} {pos : String} {after : Array Edge} {gd : Option (Nat × Bool)} {k : Tmp} {args : Array Operand} {ts : Array TypeId} (hk : env k = .fn (.func 80) [] []) (hr : zAy nx bef i H (refs (env k) ++ zAp (args.toList.map (ev env))) = true) (hi : immL (args.toList.map (ev env)) = true) => zGT (cx := cx) (nx := nx) (bef := bef) (i := i) (env := env) (H := H) (dst := dst) (ty := ty) (pos := pos) (after := after) (gd := gd) (k := k) (args := args) (ts := ts) hk h80 hr hi
 refine zEH (rs := []) rfl hbs rfl ?_
 repeat' first
   | (refine zA1 (σ := Nat × Nat) (fun q => [.own 0 0 (symT P L R S), .it .i64 P.length, .fn (.func 80) [] [], .it .i64 ((P.length + L.length + q.1 : Nat) : Int), .it .i64 ((P.length + L.length + q.2 : Nat) : Int)]) (fun q => [.row 16 true ((symA P L R S q).map recE)]) (fun q => SrA R L[0]! q) (fun q => q.2 - q.1) [0, 1, 4, 10, 11] hbs (by exact hk3) (fr1 fun _ => zBk _) (fun q jq => ?_) (s := (0, R.length)) [0] ?_ ?_ ?_ ?_ ?_ ?_)
   | (refine zA1 (σ := Nat) (fun t => [.own 0 0 (symT P L R S), .it .i64 ((P.length + L.length + q.1 : Nat) : Int), .it .i64 ((P.length + t : Nat) : Int)]) (fun t => [.row 16 true ((shW P R S L[0]! t).map recE)]) (fun t => t ≤ q.1) (fun t => q.1 - t) [0, 10, 13] hbs (by exact hk9) (fr1 fun _ => zBk _) (fun t jt => ?_) (s := 0) [0] ?_ ?_ ?_ ?_ ?_ ?_)
   | (refine zA1 (σ := Nat × Nat) (fun q => [.own 0 0 (symT P L R S), .it .i64 ((P.length + L.length : Nat) : Int), .fn (.func 80) [] [], .it .i64 ((P.length + q.1 : Nat) : Int), .it .i64 ((P.length + q.2 : Nat) : Int)]) (fun q => [.row 16 true ((symA P L R S q).map recE)]) (fun q => SrB L R[0]! q) (fun q => q.2 - q.1) [0, 2, 4, 14, 15] hbs (by exact hk15) (fr1 fun _ => zBk _) (fun q jq => ?_) (s := (0, L.length)) [0] ?_ ?_ ?_ ?_ ?_ ?_)
   | (refine zA1 (σ := Nat) (fun t => [.own 0 0 (symT P L R S), .it .i64 ((P.length + q.1 : Nat) : Int), .it .i64 ((P.length + t : Nat) : Int)]) (fun t => [.row 16 true ((shW P L S R[0]! t).map recE)]) (fun t => q.1 ≤ t ∧ t ≤ L.length) (fun t => t) [0, 14, 17] hbs (by exact hk21) (fr1 fun _ => zBk _) (fun t jt => ?_) (s := L.length) [0] ?_ ?_ ?_ ?_ ?_ ?_)
   | (refine zA1 (σ := Nat × Nat) (fun q => [.own 0 0 (symT P L R S), .it .i64 P.length, .it .i64 ((P.length + L.length : Nat) : Int), .it .i64 ((P.length + L.length + R.length : Nat) : Int), .fn (.func 80) [] [], .it .i64 ((P.length + symH L R : Nat) : Int), .it .i64 ((P.length + symH L R + (P.length + L.length) : Nat) : Int), .it .i64 ((P.length + q.1 : Nat) : Int), .it .i64 ((P.length + q.2 : Nat) : Int), .it .i64 ((P.length + symH L R + (P.length + L.length) - 1 : Nat) : Int)]) (fun q => [.row 16 true ((symA P L R S q).map recE)]) (fun q => SymJ L R q) (fun q => q.2 - q.1) [0, 1, 2, 3, 4, 18, 19, 20, 21, 22] hbs (by exact hk33) (fr1 fun _ => zBk _) (fun q jq => ?_) (s := (symS0 L R, symR0 L R)) [0] ?_ ?_ ?_ ?_ ?_ ?_)
   | (refine bN (fun h => ?_) fun h => ?_)
   | (refine zAI ?_ ?_)
   | simp (config := { decide := true }) only [↓cD, cU, cQ, cP, cB, zAD, unD, zAe, zAd, idx, reduceCtorEq, ↓reduceIte, ofV, ofC, zAq, Nat.reduceEqDiff, zAB, cG, implies_true, forall_const, immL, immD, Res.flat, ren, renL, Int.reduceEq, Int.reduceLT, Int.reduceLE, Int.reduceNe, deref, ldD, zAA, zAh, zAC, zAs, cC, cS, refs, zAy, okId, tAs, tAq, Nat.reduceMul, Nat.reduceAdd, Nat.reduceLeDiff, zAp, c80, d80, zAi, zAk, zCB, ↓zAH, ↓zAL, ↓zAG, ↓zAK, ↓zAF, ↓zAJ, cV, cT, cF, cW, borT, borM, zAl, Res.via, zAt, zAb, refsB, Nat.reduceLT, Nat.reduceSub, Nat.reduceLeDiff, Nat.reduceMul, Nat.reduceAdd, Int.reduceToNat, appK, zAr, zAc, borL, zAj, zAm, zAz, cO, List.replicate, zAx, ofHp, ixOf, cS, refs, zAy, okId, tAs, tAq, Nat.reduceMul, Nat.reduceAdd, Nat.reduceLeDiff, zAp, zCn, zEw, updL, zEO, zZA hl, zVZ hl, zVY hl, yAJ, yCH, zOe, zSL, zXL, zOd, zSK, zXK, hml, hmr, hmA, hmB, hmJ, hmid, hnn, hpp, hst, hpc, hen, haA, haB, haJ, hi1, hk1, hk2, hltA, hltB, hltH, hl9, hl21, hc1, hc2, hc3, hc4, hc5, hc6, hbA, hbB, hbJ, hbK, hb0, hbm, hb9, hb10, hb21, hb22, hz1, hz2, hr0, hrm, hrA, hrB, hrJ, hrK, hcA, hcB, hcJ, hAB1, hAB2, hBC1, hBC2, hCD1, hCD2, hdy, hP, *]
 all_goals first
   | rfl
   | omega
   | (refine ⟨[0], ((q.1 + q.2) / 2 + 1, q.2), ?_, ?_, ?_, ?_, ?_, yGM hl.sr jq ‹_› ‹_›, by simp only; omega⟩ <;> rfl)
   | (refine ⟨[0], (q.1, (q.1 + q.2) / 2), ?_, ?_, ?_, ?_, ?_, yGN hl.sr jq ‹_› ‹_›, by simp only; omega⟩ <;> rfl)
   | (refine ⟨[0], ((q.1 + q.2) / 2 + 1, q.2), ?_, ?_, ?_, ?_, ?_, yGK hl.sl jq ‹_› ‹_›, by simp only; omega⟩ <;> rfl)
   | (refine ⟨[0], (q.1, (q.1 + q.2) / 2), ?_, ?_, ?_, ?_, ?_, yGL hl.sl jq ‹_› ‹_›, by simp only; omega⟩ <;> rfl)
   | (refine ⟨[0], ((q.1 + q.2) / 2 + 1, q.2), ?_, ?_, ?_, ?_, ?_, yCm jq ‹_› ‹_›, by simp only; omega⟩ <;> rfl)
   | (refine ⟨[0], (q.1, (q.1 + q.2) / 2), ?_, ?_, ?_, ?_, ?_, yCn jq ‹_› ‹_›, by simp only; omega⟩ <;> rfl)
   | (refine ⟨[0], t + 1, ?_, ?_, ?_, ?_, ?_, by omega, by omega⟩ <;> rfl)
   | (refine ⟨[0], t - 1, ?_, ?_, ?_, ?_, ?_, ⟨by omega, by omega⟩, by omega⟩ <;> first | rfl | (rw [Nat.add_sub_assoc (by omega)]; rfl))
   | (have := jq.le; have := jq.n; rw [show t = q.1 by omega, yCF ‹(L.length : Int) = 1› hl.sr jq ‹_›]; exact ⟨_, rfl, zBk _, by simp, rfl⟩)
   | (rw [show t = q.1 by omega, yCE ‹(R.length : Int) = 1› hl.sl jq ‹_›]; exact ⟨_, rfl, zBk _, by simp, rfl⟩)
   | (rw [yGw ‹_›]; done)
   | (rw [yGv ‹_›]; done)
   | exact ⟨tAL _, tAl _, by simp, by simp⟩
   | exact ⟨by have := jq.le; have := jq.n; omega, tAl _⟩
   | exact zQK hl.l hl.r
   | (rw [yCk hl jq ‹_›]; exact ⟨_, rfl, zBk _, by simp, rfl⟩)
   | (have e1 : symR0 L R = symH L R := (by unfold symR0; omega); rw [e1]; done)
   | (have e1 : symR0 L R = L.length := (by unfold symR0; omega); have e2 : symS0 L R = 0 := (by unfold symS0; have hh : symH L R = (L.length + R.length) / 2 := rfl; omega); rw [e1, e2]; rfl)
end
def BlkS (b : Nat) (l : List Rec) : Prop := ∀ k, Srt ltR ((l.drop (k * b)).take b)
theorem zWa {b : Nat} {l : List Rec} (h : Srt ltR l) : BlkS b l := fun k => (h.sublist (List.drop_sublist _ _)).sublist (tCk _ _)
theorem zL6 {b : Nat} {l : List Rec} (h : BlkS b l) (hb : l.length ≤ b) : Srt ltR l := by
 have := h 0
 rwa [Nat.zero_mul, tBv, tAM hb] at this
theorem zZG {b : Nat} {l : List Rec} (h : BlkS b l) (m : Nat) : BlkS b (l.drop (m * b)) := fun k => by
 have := h (m + k)
 rwa [List.drop_drop, ← tAY]
theorem zL7 {b : Nat} {l : List Rec} (h : BlkS b l) : Srt ltR (l.take b) := by have := h 0; rwa [Nat.zero_mul, tBv] at this
theorem zI6 {b : Nat} {l : List Rec} (h : BlkS b l) : Srt ltR ((l.drop b).take b) := by have := h 1; rwa [Nat.one_mul] at this
theorem zWb {b m : Nat} {A X : List Rec} (hA : BlkS b A) (hm : A.length = m * b) (hX : BlkS b X) : BlkS b (A ++ X) := fun k => by
 by_cases h : k < m
 · have h2 : (k + 1) * b ≤ m * b := tAX _ h
   rw [tAY, Nat.one_mul] at h2
   rw [List.drop_append_of_le_length (by omega), tB2 (by rw [tAx]; omega)]
   exact hA k
 · obtain ⟨j, rfl⟩ : ∃ j, k = m + j := ⟨k - m, by omega⟩
   have e : (A ++ X).drop ((m + j) * b) = X.drop (j * b) := by
     rw [tAY, ← hm, List.drop_append, tBz (by omega)]
     simp
   rw [e]; exact hX j
abbrev Bq := List Rec × List Rec
def stN (b : Nat) (q : Bq) : Bq := (q.1 ++ stS ltR (q.2.take b), q.2.drop b)
structure StP (l : List Rec) : Prop where
 n : l.length ≤ 1000000
 r : ∀ x ∈ l, RSm x
structure StM (l : List Rec) (c b : Nat) (q : Bq) : Prop where
 p : StP l
 len : q.1.length + q.2.length = l.length
 cls : ∀ z, cls ltR z (q.1 ++ q.2) = cls ltR z l
 ba : BlkS c q.1
 m : ∃ m, q.1.length = m * c
 bb : BlkS b q.2
theorem zIV {l r : List Rec} (h : ∀ z, cls ltR z l = cls ltR z r) {x : Rec} (hx : x ∈ l) : x ∈ r := by
 have : x ∈ cls ltR x l := mem_cls.2 ⟨hx, wkR.irr x, wkR.irr x⟩
 rw [h x] at this; exact (mem_cls.1 this).1
theorem zGh {l : List Rec} {c b : Nat} {q : Bq} (j : StM l c b q) {x : Rec} (hx : x ∈ q.2) : RSm x := j.p.r x (zIV j.cls (List.mem_append_right _ hx))
theorem yFo {A X Y : List Rec} {l : List Rec} (h : ∀ z, cls ltR z (A ++ (X ++ Y)) = cls ltR z l) : ∀ z, cls ltR z ((A ++ stS ltR X) ++ Y) = cls ltR z l := fun z => by
 rw [← h z]; simp only [zEb, zE4 wkR, tAm]
theorem zHH {l : List Rec} {c b : Nat} {q : Bq} (j : StM l c b q) {d : Nat} (h : q.1.length + d ≤ l.length) : (stN d q).1.length = q.1.length + d := by
 have := j.len
 simp only [stN, tAh, zB4, tAk]; omega
theorem yGC {l : List Rec} {c b k : Nat} {q : Bq} (j : StM l c b q) (h : q.1.length + c ≤ l.length) (hc : c = k * b) : StM l c b (stN c q) := by
 have h1 := j.len
 obtain ⟨m, hm⟩ := j.m
 refine ⟨j.p, ?_, ?_, ?_, ⟨m + 1, ?_⟩, ?_⟩
 · simp only [stN, tAh, zB4, tAk, tAx]; omega
 · exact yFo (A := q.1) (X := q.2.take c) (Y := q.2.drop c) (by rw [tAH]; exact j.cls)
 · exact zWb j.ba hm (zWa (zEx wkR _))
 · rw [zHH j h, hm, tAY, Nat.one_mul]
 · simp only [stN, hc]; exact zZG j.bb k
theorem yCw {q : Bq} {d : Nat} : (stN d q).1 ++ (stN d q).2 = q.1 ++ stS ltR (q.2.take d) ++ q.2.drop d := rfl
structure StC (l : List Rec) (w : Nat × List Rec) : Prop where
 p : StP l
 b0 : 1 ≤ w.1
 b1 : w.1 ≤ 2000000
 len : w.2.length = l.length
 cls : ∀ z, cls ltR z w.2 = cls ltR z l
 bb : BlkS w.1 w.2
theorem zSF {l : List Rec} {w : Nat × List Rec} (j : StC l w) : StM l (2 * w.1) w.1 ([], w.2) := ⟨j.p, by simp [j.len], by simpa using j.cls, fun k => by simp [Srt], ⟨0, by simp⟩, j.bb⟩
theorem zSE {l : List Rec} (p : StP l) : StM l 20 1 ([], l) := ⟨p, by simp, by simp, fun k => by simp [Srt], ⟨0, by simp⟩, fun k => by
 have : ((l.drop (k * 1)).take 1).length ≤ 1 := by rw [tAk]; omega
 match (l.drop (k * 1)).take 1, this with
 | [], _ => exact tBt
 | [x], _ => exact tBL _ _
 | _ :: _ :: _, h => simp at h⟩
theorem zSG {l : List Rec} {q : Bq} {c b : Nat} (j : StM l c b q) (hc : 1 ≤ c) (hb : c ≤ 2000000) {X : List Rec} (hX : Srt ltR X) (hl : X.length = q.2.length) (hcl : ∀ z, cls ltR z X = cls ltR z q.2) : StC l (c, q.1 ++ X) := by
 obtain ⟨m, hm⟩ := j.m
 refine ⟨j.p, hc, hb, ?_, fun z => ?_, zWb j.ba hm (zWa hX)⟩
 · have := j.len; simp only [tAh]; omega
 · rw [zEb, hcl z, ← zEb]; exact j.cls z
theorem yCx {l : List Rec} {w : Nat × List Rec} (j : StC l w) (h : ¬ (w.1 : Int) < l.length) : w.2 = stS ltR l := (zJu wkR (zL6 j.bb (by have := j.len; omega)) j.cls).symm

section
variable {l : List Rec} {nid : Nat}
theorem zV4 {q : Bq} (j : StM l 20 1 q) (h : ((q.1.length + 20 : Nat) : Int) ≤ l.length) : zCc zNP [.own 0 0 l.length, .it .i64 q.1.length, .it .i64 ((q.1.length + 20 : Nat) : Int), .fn (.func 80) [] []] (ofHp [.row 16 true ((q.1 ++ q.2).map recE)]) nid = some (.tup [], ofHp [.row 16 true (((stN 20 q).1 ++ (stN 20 q).2).map recE)], nid) := by
 have h1 := j.len; have h2 := j.p.n
 refine zQo (P := q.1) (A := q.2.take 20) (S := q.2.drop 20) ⟨?_, fun x hx => zGh j (tAS hx)⟩ ?_ rfl ?_ ?_
 · simp only [tAk, tAx]; omega
 · rw [tAm, tAH]
 · simp only [tAh]; omega
 · simp only [tAk, tAv, D.it.injEq, true_and, and_true, tBh]; omega
theorem zV3 {q : Bq} (j : StM l 20 1 q) : zCc zNP [.own 0 0 l.length, .it .i64 q.1.length, .it .i64 l.length, .fn (.func 80) [] []] (ofHp [.row 16 true ((q.1 ++ q.2).map recE)]) nid = some (.tup [], ofHp [.row 16 true ((q.1 ++ stS ltR q.2).map recE)], nid) := by
 have h1 := j.len; have h2 := j.p.n
 refine zQo (P := q.1) (A := q.2) (S := []) ⟨?_, fun x hx => zGh j hx⟩ (by simp) (by simp) ?_ ?_
 · simp only [tAu]; omega
 · simp only [tAh]; omega
 · simp only [tAv, D.it.injEq, true_and, and_true, tBh]; omega
theorem zV2 {w : Nat × List Rec} {q : Bq} (jw : StC l w) (j : StM l (2 * w.1) w.1 q) (h : ((q.1.length + 2 * w.1 : Nat) : Int) ≤ l.length) : zCc (FSym 1000000) [.own 0 0 l.length, .it .i64 q.1.length, .it .i64 ((q.1.length + w.1 : Nat) : Int), .it .i64 ((q.1.length + 2 * w.1 : Nat) : Int), .fn (.func 80) [] []] (ofHp [.row 16 true ((q.1 ++ q.2).map recE)]) nid =
   some (.tup [], ofHp [.row 16 true (((stN (2 * w.1) q).1 ++ (stN (2 * w.1) q).2).map recE)], nid) := by
 have h1 := j.len; have h2 := j.p.n; have h3 := jw.b0
 have e : q.2.take (2 * w.1) = q.2.take w.1 ++ (q.2.drop w.1).take w.1 := by rw [Nat.two_mul, List.take_add]
 refine zKw (P := q.1) (L := q.2.take w.1) (R := (q.2.drop w.1).take w.1) (S := q.2.drop (2 * w.1)) ⟨?_, ?_, ?_, ?_, zL7 j.bb, zI6 j.bb, fun x hx => zGh j (tAS hx), fun x hx => zGh j (tA2 (tAS hx))⟩ ?_ ?_ ?_ ?_
 · exact tAQ (by rw [tAk]; omega)
 · exact tAQ (by rw [tAk, tAx]; omega)
 · simp only [tAk, tAx]; omega
 · simp only [tAk, tAx]; omega
 · rw [tAm q.1, ← e, tAm, tAH]
 · rw [yCw, e]
 · simp only [tAh]; omega
 · simp only [tAk, tAx, tAv, D.it.injEq, true_and, and_true, tBh]; omega
theorem zV1 {w : Nat × List Rec} {q : Bq} (jw : StC l w) (j : StM l (2 * w.1) w.1 q) (hn : ¬ ((q.1.length + 2 * w.1 : Nat) : Int) ≤ l.length) (h : ((q.1.length + w.1 : Nat) : Int) < l.length) : zCc (FSym 1000000) [.own 0 0 l.length, .it .i64 q.1.length, .it .i64 ((q.1.length + w.1 : Nat) : Int), .it .i64 l.length, .fn (.func 80) [] []] (ofHp [.row 16 true ((q.1 ++ q.2).map recE)]) nid =
   some (.tup [], ofHp [.row 16 true ((q.1 ++ stS ltR q.2).map recE)], nid) := by
 have h1 := j.len; have h2 := j.p.n; have h3 := jw.b0
 have hs : Srt ltR (q.2.drop w.1) := by have := zI6 j.bb; rwa [tAM (by rw [tAx]; omega)] at this
 refine zKw (P := q.1) (L := q.2.take w.1) (R := q.2.drop w.1) (S := []) ⟨?_, ?_, ?_, ?_, zL7 j.bb, hs, fun x hx => zGh j (tAS hx), fun x hx => zGh j (tA2 hx)⟩ ?_ ?_ ?_ ?_
 · exact tAQ (by rw [tAk]; omega)
 · exact tAQ (by rw [tAx]; omega)
 · simp only [tAk, tAx]; omega
 · simp only [tAk, tAx, tAu]; omega
 · rw [tAo, tAm q.1, tAH]
 · rw [tAH, tAo]
 · simp only [tAh]; omega
 · simp only [tAk, tAx, tAv, D.it.injEq, true_and, and_true, tBh]; omega
end

theorem zST (cx : Cx) (hP : cx.P = Tryz.prog) (hbs : cx.bs = 1) (xn138 : cx.orc 138 = none) (xe138 : cx.ext 138 = none) (xf138 : cx.eff 138 = some zNP) (xn162 : cx.orc 162 = none) (xe162 : cx.ext 162 = none) (xf162 : cx.eff 162 = some (FSym 1000000)) (hk2 : cx.kp 2 = some [0, 1, 2, 6, 7, 8]) (hk7 : cx.kp 7 = some [0, 1, 2, 6]) (hk9 : cx.kp 9 = some [0, 1, 2, 6, 7, 8]) (l : List Rec) (hl : StP l) : zCm cx Tryz.f121 [.own 0 0 l.length, .it .i64 l.length, .fn (.func 80) [] []] [.row 16 true (l.map recE)] = some ((.tup [], [.row 16 true ((stS ltR l).map recE)])) := by
 have cf138 := fun H nid l => (show zBI cx 138 l H nid = _ from zBo xn138 xe138 xf138)
 have cf162 := fun H nid l => (show zBI cx 162 l H nid = _ from zBo xn162 xe162 xf162)
 have hw1 : ∀ q, StM l 20 1 q → ((q.1.length + 20 : Nat) : Int) ≤ l.length → IntKind.i64.wrap (((q.1.length + 20 : Nat) : Int) + 20) = (((stN 20 q).1.length + 20 : Nat) : Int) := fun q j h => by have := hl.n; rw [zHH j (by omega), wrap64 (by omega) (by omega)]; omega
 have hw2 : ∀ w, StC l w → IntKind.i64.wrap (2 * (w.1 : Int)) = ((2 * w.1 : Nat) : Int) := fun w j => by have := j.b1; rw [wrap64 (by omega) (by omega)]; omega
 have hw3 : ∀ (w : Nat × List Rec) (u : Bq), StC l w → StM l (2 * w.1) w.1 u → IntKind.i64.wrap ((u.1.length : Int) + (w.1 : Int)) = ((u.1.length + w.1 : Nat) : Int) := fun w u j k => by have := j.b1; have := hl.n; have := k.len; rw [wrap64 (by omega) (by omega)]; omega
 have hw4 : ∀ (w : Nat × List Rec) (u : Bq), StC l w → StM l (2 * w.1) w.1 u → ((u.1.length + 2 * w.1 : Nat) : Int) ≤ l.length → IntKind.i64.wrap (((u.1.length + 2 * w.1 : Nat) : Int) + ((2 * w.1 : Nat) : Int)) = (((stN (2 * w.1) u).1.length + 2 * w.1 : Nat) : Int) := fun w u j k h => by have := j.b1; have := hl.n; rw [zHH k (by omega), wrap64 (by omega) (by omega)]; omega
 have hw5 : ∀ w, StC l w → IntKind.i64.wrap ((w.1 : Int) * 2) = ((2 * w.1 : Nat) : Int) := fun w j => by have := j.b1; rw [wrap64 (by omega) (by omega)]; omega
 refine zEH (rs := []) rfl hbs rfl ?_
 repeat' first
   | (refine zA1 (σ := Bq) (fun q => [.own 0 0 l.length, .it .i64 l.length, .fn (.func 80) [] [], .it .i64 20, .it .i64 q.1.length, .it .i64 ((q.1.length + 20 : Nat) : Int)]) (fun q => [.row 16 true ((q.1 ++ q.2).map recE)]) (fun q => StM l 20 1 q) (fun q => q.2.length) [0, 1, 2, 6, 7, 8] hbs (by exact hk2) (fr1 fun _ => zBk _) (fun q jq => ?_) (s := ([], l)) [0] ?_ ?_ ?_ ?_ ?_ ?_)
   | (refine zA1 (σ := Nat × List Rec) (fun w => [.own 0 0 l.length, .it .i64 l.length, .fn (.func 80) [] [], .it .i64 w.1]) (fun w => [.row 16 true ((w.2).map recE)]) (fun w => StC l w) (fun w => l.length - w.1) [0, 1, 2, 6] hbs (by exact hk7) (fr1 fun _ => zBk _) (fun w jw => ?_) (s := (20, q.1 ++ stS ltR q.2)) [0] ?_ ?_ ?_ ?_ ?_ ?_)
   | (refine zA1 (σ := Bq) (fun u => [.own 0 0 l.length, .it .i64 l.length, .fn (.func 80) [] [], .it .i64 w.1, .it .i64 u.1.length, .it .i64 ((u.1.length + 2 * w.1 : Nat) : Int)]) (fun u => [.row 16 true ((u.1 ++ u.2).map recE)]) (fun u => StM l (2 * w.1) w.1 u) (fun u => u.2.length) [0, 1, 2, 6, 7, 8] hbs (by exact hk9) (fr1 fun _ => zBk _) (fun u ju => ?_) (s := ([], w.2)) [0] ?_ ?_ ?_ ?_ ?_ ?_)
   | (refine bN (fun h => ?_) fun h => ?_)
   | (refine zAI ?_ ?_)
   | simp only [↓cD, cU, cQ, cP, cB, zAD, unD, zAe, zAd, idx, reduceCtorEq, ↓reduceIte, ofV, ofC, zAq, Nat.reduceEqDiff, zAB, cG, implies_true, forall_const, immL, immD, Res.flat, ren, renL, Int.reduceEq, Int.reduceLT, Int.reduceLE, Int.reduceNe, deref, ldD, zAA, zAh, zAC, zAs, cC, ↓zAH, ↓zAL, ↓zAG, ↓zAK, ↓zAF, ↓zAJ, cV, cT, cF, cW, borT, borM, zAl, Res.via, zAt, zAb, refsB, Nat.reduceLT, Nat.reduceSub, Nat.reduceLeDiff, Nat.reduceMul, Nat.reduceAdd, Int.reduceToNat, appK, zAr, zAc, borL, zAj, zAm, zAz, cO, List.replicate, zAx, ofHp, ixOf, hw1, hw2, hw3, hw4, hw5, zV4, zV3, zV2, zV1, hP, *]
 all_goals first
   | rfl
   | omega
   | (refine ⟨[0], stN 20 q, ?_, ?_, ?_, ?_, ?_, yGC (k := 20) jq (by omega) rfl, by have := jq.len; simp only [stN, tAx]; omega⟩ <;> first | rfl | (rw [zHH jq (by omega)]; rfl))
   | (refine ⟨[0], stN (2 * w.1) u, ?_, ?_, ?_, ?_, ?_, yGC (k := 2) ju (by omega) rfl, by have := ju.len; have := jw.b0; simp only [stN, tAx]; omega⟩ <;> first | rfl | (rw [zHH ju (by omega)]; rfl))
   | (refine ⟨[0], (2 * w.1, u.1 ++ stS ltR u.2), ?_, ?_, ?_, ?_, ?_, zSG ju (by have := jw.b0; omega) (by have := hl.n; omega) (zEx wkR _) (zB4 _) (fun z => zE4 wkR _ z), by have := jw.b0; simp only; omega⟩ <;> rfl)
   | (refine ⟨[0], (2 * w.1, u.1 ++ u.2), ?_, ?_, ?_, ?_, ?_, zSG ju (by have := jw.b0; omega) (by have := hl.n; omega) (zL6 ju.bb (by have := ju.len; omega)) rfl (fun z => rfl), by have := jw.b0; simp only; omega⟩ <;> rfl)
   | (rw [tAZ]; rfl)
   | exact zSE hl
   | exact zSF jw
   | exact zSG jq (by decide) (by decide) (zEx wkR _) (zB4 _) (fun z => zE4 wkR _ z)
   | (rw [yCx jw ‹_›]; exact ⟨_, rfl, zBk _, by simp, rfl⟩)
theorem yJ6 {α : Type} [Inhabited α] {l : List α} {i : Nat} (h : i < l.length) : l[i]? = some l[i]! := by rw [tAn h, getElem!_pos l i h]

theorem zPO (x : Rec) : ∀ (r : List Rec) (p : Rec), cptR p (r ++ [x]) = cptR p r ++ (if zAw x ((p :: r).getLast (by simp)) = 0 then [] else [x])
 | [], p => by simp only [tAJ, cptR]; rfl
 | y :: r, p => by
   have ih := zPO x r y
   simp only [tBi, cptR]
   have e : (p :: y :: r).getLast (by simp) = (y :: r).getLast (by simp) := List.getLast_cons (by simp)
   rw [e, ih]
   split <;> rfl
theorem zDk {l : List Rec} {i : Nat} (h0 : 0 < i) (h : i < l.length) : zBc (l.take (i + 1)) = zBc (l.take i) ++ (if zAw l[i]! l[i - 1]! = 0 then [] else [l[i]!]) := by
 rw [takeN (l := l) (by omega)]
 cases l with
 | nil => simp at h
 | cons p r =>
   obtain ⟨j, rfl⟩ : ∃ j, i = j + 1 := ⟨i - 1, by omega⟩
   have e1 : (p :: r).take (j + 1) = p :: r.take j := rfl
   rw [e1, tBi]
   simp only [zBc, tBi]
   rw [zPO]
   have e2 : (p :: r.take j).getLast (by simp) = (p :: r)[j + 1 - 1]! := by
     rw [List.getLast_eq_getElem, Nat.add_sub_cancel, getElem!_pos (p :: r) j (by simp at h; simp; omega)]
     have : (p :: r.take j) = (p :: r).take (j + 1) := rfl
     simp only [this, List.getElem_take]
     congr 1
     simp only [tAk, tAp] at *
     omega
   rw [e2]
theorem zVJ (p : Rec) : ∀ l : List Rec, (cptR p l).length ≤ l.length
 | [] => by simp [cptR]
 | x :: r => by
   have := zVJ x r
   unfold cptR
   split <;> simp only [tAp] <;> omega
theorem zNu (l : List Rec) : (zBc l).length ≤ l.length := by
 cases l with
 | nil => simp [zBc]
 | cons x r => have := zVJ x r; simp only [zBc, tAp]; omega
def cmpC (l : List Rec) (i : Nat) : List Rec := zBc (l.take i)
def cmpW (l : List Rec) (i : Nat) : List Rec := cmpC l i ++ l.drop (cmpC l i).length
def rec0 : Rec := ⟨[], 0, 0, dat0⟩
def cmpZ (l : List Rec) : List Rec := zBc l ++ List.replicate (l.length - (zBc l).length) rec0
structure CpP (l : List Rec) : Prop where
 n : l.length ≤ 1000000
 r : ∀ x ∈ l, RSm x
structure CpA (l : List Rec) (k : Nat) : Prop where
 k0 : 1 ≤ k
 kn : k ≤ l.length
 e : cmpC l k = l.take k
def CpT (t : Nat) : Prop := 1 ≤ t ∧ t ≤ 1000000
structure CpB (l : List Rec) (k t : Nat) : Prop where
 t0 : 1 ≤ t
 tn : k + t ≤ l.length
 lt : (cmpC l (k + t)).length ≤ k + t - 1
theorem zKh (l : List Rec) (i : Nat) : (cmpC l i).length ≤ i := by have := zNu (l.take i); rw [tAk] at this; unfold cmpC; omega
theorem zPS {l : List Rec} {i : Nat} (h : i ≤ l.length) : (cmpW l i).length = l.length := by have := zKh l i; simp only [cmpW, tAh, tAx]; omega
theorem zZw {l : List Rec} {k : Nat} (j : CpA l k) (h : (k : Int) < l.length) (hc : zAw l[k]! l[k - 1]! = 0 → False) : CpA l (k + 1) := by
 refine ⟨by omega, by omega, ?_⟩
 show zBc _ = _
 rw [zDk j.k0 (by omega), if_neg hc, takeN (l := l) h]
 show cmpC l k ++ _ = _
 rw [j.e]
theorem yFf {l : List Rec} {k : Nat} (j : CpA l k) (h : (k : Int) < l.length) (hc : zAw l[k]! l[k - 1]! = 0) : cmpC l (k + 1) = l.take k := by
 show zBc _ = _
 rw [zDk j.k0 (by omega), if_pos hc, tAo]; exact j.e
theorem zIf {l : List Rec} {k : Nat} (j : CpA l k) (h : (k : Int) < l.length) (hc : zAw l[k]! l[k - 1]! = 0) : CpB l k 1 ∧ cmpW l (k + 1) = l ∧ (cmpC l (k + 1)).length = k := by
 have e := yFf j h hc
 have hl : (cmpC l (k + 1)).length = k := by rw [e, tAk]; omega
 refine ⟨⟨tAl _, by omega, by omega⟩, ?_, hl⟩
 unfold cmpW; rw [hl, e, tAH]
theorem zVP {l : List Rec} {k t : Nat} (j : CpB l k t) (h : k + t < l.length) (hc : zAw l[k + t]! l[k + t - 1]! = 0) : cmpC l (k + (t + 1)) = cmpC l (k + t) := by
 show zBc _ = _
 have := j.t0
 rw [← tBJ, zDk (by omega) h, if_pos hc, tAo]; rfl
theorem zVO {l : List Rec} {k t : Nat} (j : CpB l k t) (h : k + t < l.length) (hc : ¬ zAw l[k + t]! l[k + t - 1]! = 0) : cmpC l (k + (t + 1)) = cmpC l (k + t) ++ [l[k + t]!] := by
 show zBc _ = _
 have := j.t0
 rw [← tBJ, zDk (by omega) h, if_neg hc]; rfl
theorem zVS {l : List Rec} {k t i : Nat} (j : CpB l k t) (h : i < l.length) (hi : (cmpC l (k + t)).length ≤ i) : ((cmpW l (k + t)).map recE)[i]? = some (recE l[i]!) := by
 unfold cmpW
 rw [tBE, tAN (by simp; omega), tAE, tA7, tAI]
 rw [show (cmpC l (k + t)).length + (i - (cmpC l (k + t)).length) = i by omega, yJ6 h]; rfl
theorem yFc {l : List Rec} {k t : Nat} (j : CpB l k t) (h : k + t < l.length) (hc : ¬ zAw l[k + t]! l[k + t - 1]! = 0) : ((cmpW l (k + t)).map recE).set (cmpC l (k + t)).length (recE l[k + t]!) = (cmpW l (k + (t + 1))).map recE := by
 have hlt := j.lt; have h0 := j.t0
 rw [← tBY]
 congr 1
 have e : cmpW l (k + t) = cmpC l (k + t) ++ l[(cmpC l (k + t)).length]! :: l.drop ((cmpC l (k + t)).length + 1) := by
   unfold cmpW; rw [zB2 (l := l) (by omega)]
 rw [zD4 e rfl]
 unfold cmpW
 rw [zVO j h hc]; simp
theorem yFd {l : List Rec} {k t : Nat} (j : CpB l k t) (h : k + t < l.length) (hc : zAw l[k + t]! l[k + t - 1]! = 0) : cmpW l (k + (t + 1)) = cmpW l (k + t) := by unfold cmpW; rw [zVP j h hc]
theorem zVN {l : List Rec} {k t : Nat} (j : CpB l k t) (h : k + t < l.length) (hc : zAw l[k + t]! l[k + t - 1]! = 0) : CpB l k (t + 1) :=
 ⟨by omega, by omega, by rw [zVP j h hc]; have := j.lt; omega⟩
theorem zVM {l : List Rec} {k t : Nat} (j : CpB l k t) (h : k + t < l.length) (hc : ¬ zAw l[k + t]! l[k + t - 1]! = 0) : CpB l k (t + 1) :=
 ⟨by omega, by omega, by rw [zVO j h hc, tAh]; have := j.lt; have := j.t0; simp only [tAp, tAu]; omega⟩
theorem zVQ {l : List Rec} {k t : Nat} (j : CpB l k t) (h : ¬ k + t < l.length) : cmpC l (k + t) = zBc l := by
 unfold cmpC; rw [tAM (by omega)]
theorem yFe {l : List Rec} {k : Nat} (j : CpA l k) (h : ¬ (k : Int) < l.length) : zBc l = l := by
 have := j.e; unfold cmpC at this; rwa [tAM (by omega)] at this
theorem zFW {l : List Rec} (h : (l.length : Int) < 2) : zBc l = l := by
 match l, h with
 | [], _ => rfl
 | [x], _ => rfl
 | _ :: _ :: _, h => simp at h; omega
theorem zL1 {l : List Rec} (h : zBc l = l) : cmpZ l = l := by unfold cmpZ; rw [h]; simp
theorem zVR {l : List Rec} {k t : Nat} (j : CpB l k t) (h : ¬ k + t < l.length) : ((cmpW l (k + t)).map recE).take (cmpC l (k + t)).length ++ (List.replicate (l.length - (cmpC l (k + t)).length) (recE rec0) ++ ((cmpW l (k + t)).map recE).drop ((cmpC l (k + t)).length + (l.length - (cmpC l (k + t)).length))) = (cmpZ l).map recE := by
 have hl := zKh l (k + t); have := j.tn
 have e := zVQ j h
 rw [tBz (by rw [tAI, zPS j.tn]; omega), ← tB1]
 unfold cmpW cmpZ
 rw [tB2 (tAl _), tAM (tAl _), e]
 simp

noncomputable def zJa := mkF (fun s : Rec × Rec => [recE s.1, recE s.2]) (fun s => RSm s.1 ∧ RSm s.2) (fun s => Res.flat (.bo (decide (zAw s.1 s.2 = 0))))
theorem zIy {r1 : Rec} {r2 : Rec} (hp : RSm r1 ∧ RSm r2) : zJa [recE r1, recE r2] = some (Res.flat (.bo (decide (zAw r1 r2 = 0)))) := mkFe (s := (r1, r2)) hp
theorem zOr (cx : Cx) (hP : cx.P = Tryz.prog) (hbs : cx.bs = 0) (h93 : cx.orc 93 = some zEn) (r1 r2 : Rec) (hl : RSm r1 ∧ RSm r2) : zAg cx Tryz.f92 [] false [recE r1, recE r2] = some (Res.flat (.bo (decide (zAw r1 r2 = 0)))) := by
 have c93 := zAa h93
 have hl1 := hl.1; have hl2 := hl.2
 refine zAf (rs := [.tmp 4]) rfl hbs rfl ?_
 repeat' first
   | (refine bN (fun h => ?_) fun h => ?_)
   | (refine zAI ?_ ?_)
   | simp only [↓cD, cU, cQ, cP, cB, zAD, unD, zAe, zAd, idx, reduceCtorEq, ↓reduceIte, ofV, ofC, zAq, Nat.reduceEqDiff, zAB, cG, implies_true, forall_const, immL, immD, Res.flat, ren, renL, Int.reduceEq, Int.reduceLT, Int.reduceLE, Int.reduceNe, deref, ldD, zAA, zAh, zAC, zAs, cC, c93, zAi, zAk, zDd, ↓zAH, ↓zAL, ↓zAG, ↓zAK, ↓zAF, ↓zAJ, cV, cT, cF, cW, borT, borM, zAl, Res.via, zAt, zAb, refsB, Nat.reduceLT, Nat.reduceSub, Nat.reduceLeDiff, Nat.reduceMul, Nat.reduceAdd, Int.reduceToNat, appK, zAr, zAc, borL, zAj, zAm, zAz, cO, List.replicate, zAx, ofHp, ixOf, hl1, hl2, hP, *]
 all_goals first
   | rfl
   | (simp [*]; done)
noncomputable def zWB := mkE (fun l : List Rec => [.own 0 0 l.length, .it .i64 l.length, .fn (.func 80) [] []]) (fun l => .row 16 true (l.map recE)) (fun l => StP l) (fun l => (.tup [], [.row 16 true ((stS ltR l).map recE)]))
theorem zZW {l : List Rec} (hp : StP l) : zWB [.own 0 0 l.length, .it .i64 l.length, .fn (.func 80) [] []] [.row 16 true (l.map recE)] = some (.tup [], [.row 16 true ((stS ltR l).map recE)]) :=
 zD3 (s := l) (fun s s' _ _ _ h2 => by rw [zCO (Blk.row.inj h2).2.2]) hp
theorem zV0 {l : List Rec} {nid : Nat} (hp : StP l) : zCc zWB [.own 0 0 l.length, .it .i64 l.length, .fn (.func 80) [] []] (ofHp [.row 16 true (l.map recE)]) nid = some (.tup [], ofHp [.row 16 true ((stS ltR l).map recE)], nid) := zUt rfl (zZW hp)
noncomputable def FSSF := mkE (fun l : List Rec => [.own 0 0 l.length, .fn (.func 80) [] []]) (fun l => .row 16 true (l.map recE)) (fun l => StP l) (fun l => (.tup [], [.row 16 true ((stS ltR l).map recE)]))
theorem zKy {l : List Rec} (hp : StP l) : FSSF [.own 0 0 l.length, .fn (.func 80) [] []] [.row 16 true (l.map recE)] = some (.tup [], [.row 16 true ((stS ltR l).map recE)]) :=
 zD3 (s := l) (fun s s' _ _ _ h2 => by rw [zCO (Blk.row.inj h2).2.2]) hp

theorem yAY (cx : Cx) (hP : cx.P = Tryz.prog) (hbs : cx.bs = 1) (xn121 : cx.orc 121 = none) (xe121 : cx.ext 121 = none) (xf121 : cx.eff 121 = some zWB) (l : List Rec) (hl : StP l) : zCm cx Tryz.f90 [.own 0 0 l.length, .fn (.func 80) [] []] [.row 16 true (l.map recE)] = some ((.tup [], [.row 16 true ((stS ltR l).map recE)])) := by
 have cf121 := fun H nid l => (show zBI cx 121 l H nid = _ from zBo xn121 xe121 xf121)
 refine zEH (rs := []) rfl hbs rfl ?_
 repeat' first
   | (refine bN (fun h => ?_) fun h => ?_)
   | (refine zAI ?_ ?_)
   | simp only [↓cD, cU, cQ, cP, cB, zAD, unD, zAe, zAd, idx, reduceCtorEq, ↓reduceIte, ofV, ofC, zAq, Nat.reduceEqDiff, zAB, cG, implies_true, forall_const, immL, immD, Res.flat, ren, renL, Int.reduceEq, Int.reduceLT, Int.reduceLE, Int.reduceNe, deref, ldD, zAA, zAh, zAC, zAs, cC, ↓zAH, ↓zAL, ↓zAG, ↓zAK, ↓zAF, ↓zAJ, cV, cT, cF, cW, borT, borM, zAl, Res.via, zAt, zAb, refsB, Nat.reduceLT, Nat.reduceSub, Nat.reduceLeDiff, Nat.reduceMul, Nat.reduceAdd, Int.reduceToNat, appK, zAr, zAc, borL, zAj, zAm, zAz, cO, List.replicate, zAx, ofHp, ixOf, zV0 hl, hP, *]
 all_goals first
   | exact ⟨_, rfl, zBk _, by simp, rfl⟩
noncomputable def FCpt := mkE (fun l : List Rec => [.own 0 0 l.length, .fn (.func 92) [] []]) (fun l => .row 16 true (l.map recE)) (fun l => CpP l) (fun l => (.own 0 0 (zBc l).length, [.row 16 true ((cmpZ l).map recE)]))
theorem yF4 {l : List Rec} (hp : CpP l) : FCpt [.own 0 0 l.length, .fn (.func 92) [] []] [.row 16 true (l.map recE)] = some (.own 0 0 (zBc l).length, [.row 16 true ((cmpZ l).map recE)]) :=
 zD3 (s := l) (fun s s' _ _ _ h2 => by rw [zCO (Blk.row.inj h2).2.2]) hp

theorem yBe (cx : Cx) (hP : cx.P = Tryz.prog) (hbs : cx.bs = 1) (h92 : cx.orc 92 = some zJa) (r92 : cx.rd.contains 92 = true) (hk4 : cx.kp 4 = some [0, 1, 5]) (hk9 : cx.kp 9 = some [0, 1, 5, 6, 7]) (l : List Rec) (hl : CpP l) : zCm cx Tryz.f91 [.own 0 0 l.length, .fn (.func 92) [] []] [.row 16 true (l.map recE)] = some ((.own 0 0 (zBc l).length, [.row 16 true ((cmpZ l).map recE)])) := by
 have c92 := zAa h92
 have d92 := zAo r92 h92
 have hw1 : ∀ k : Nat, CpA l k → (k : Int) < l.length → IntKind.i64.wrap ((k : Int) + 1) = ((k + 1 : Nat) : Int) := fun k j h => by have := j.kn; have := hl.n; rw [wrap64 (by omega) (by omega)]; omega
 have hw2 : ∀ k : Nat, CpA l k → IntKind.i64.wrap ((k : Int) - 1) = ((k - 1 : Nat) : Int) := fun k j => by have := j.kn; have := j.k0; have := hl.n; rw [wrap64 (by omega) (by omega)]; omega
 have hw3 : ∀ k t : Nat, CpB l k t → IntKind.i64.wrap (((cmpC l (k + t)).length : Int) + 1) = (((cmpC l (k + t)).length + 1 : Nat) : Int) := fun k t j => by have := zKh l (k + t); have := j.tn; have := hl.n; rw [wrap64 (by omega) (by omega)]; omega
 have hw4 : ∀ t : Nat, CpT t → IntKind.i64.wrap ((t : Int) + 1) = ((t + 1 : Nat) : Int) := fun t j => by have := j.1; have := j.2; rw [wrap64 (by omega) (by omega)]; omega
 have hw5 : ∀ t : Nat, CpT t → IntKind.i64.wrap ((t : Int) - 1) = ((t - 1 : Nat) : Int) := fun t j => by have := j.1; have := j.2; rw [wrap64 (by omega) (by omega)]; omega
 have hz1 : ∀ k : Nat, ((k : Int) < 0) = False := fun k => by simp
 have hz2 : ∀ k : Nat, (0 ≤ (k : Int)) = True := fun k => by simp
 have hkm : ∀ k : Nat, CpA l k → (k : Int) < l.length → (((k - 1 : Nat) : Int) < (l.length : Int)) = True := fun k j h => by simp only [eq_iff_iff, iff_true]; omega
 have hkl : ∀ k : Nat, CpA l k → (k ≤ l.length) = True := fun k j => by have := j.kn; simp only [eq_iff_iff, iff_true]; omega
 have hr1 : ∀ k : Nat, CpA l k → (k : Int) < l.length → (l.map recE)[k]? = some (recE l[k]!) := fun k j h => getm (by omega)
 have hr2 : ∀ k : Nat, CpA l k → (k : Int) < l.length → (l.map recE)[k - 1]? = some (recE l[k - 1]!) := fun k j h => getm (by omega)
 have hs1 : ∀ k : Nat, CpA l k → (k : Int) < l.length → zJa [recE l[k]!, recE l[k - 1]!] = some (Res.flat (.bo (decide (zAw l[k]! l[k - 1]! = 0)))) := fun k j h => zIy ⟨hl.r _ (zBu (by omega)), hl.r _ (zBu (by omega))⟩
 have hlB : ∀ k t : Nat, ((t : Int) < ((l.length - k : Nat) : Int)) = (k + t < l.length) := fun k t => by simp only [eq_iff_iff]; omega
 have hlC : ∀ k t : Nat, CpB l k t → k + t < l.length → (k + (t - 1) < l.length) = True := fun k t j h => by simp only [eq_iff_iff, iff_true]; omega
 have hr3 : ∀ k t : Nat, CpB l k t → k + t < l.length → ((cmpW l (k + t)).map recE)[k + t]? = some (recE l[k + t]!) := fun k t j h => zVS j h (by have := j.lt; omega)
 have hr4 : ∀ k t : Nat, CpB l k t → k + t < l.length → ((cmpW l (k + t)).map recE)[k + (t - 1)]? = some (recE l[k + t - 1]!) := fun k t j h => by have := j.t0; rw [show k + (t - 1) = k + t - 1 by omega]; exact zVS j (by omega) j.lt
 have hs2 : ∀ k t : Nat, CpB l k t → k + t < l.length → zJa [recE l[k + t]!, recE l[k + t - 1]!] = some (Res.flat (.bo (decide (zAw l[k + t]! l[k + t - 1]! = 0)))) := fun k t j h => zIy ⟨hl.r _ (zBu (by omega)), hl.r _ (zBu (by omega))⟩
 have hbB : ∀ k t : Nat, CpB l k t → k + t < l.length → (((cmpC l (k + t)).length : Int) < (l.length : Int)) = True := fun k t j h => by have := j.lt; simp only [eq_iff_iff, iff_true]; omega
 have hbC : ∀ k t : Nat, CpB l k t → ((cmpC l (k + t)).length ≤ l.length) = True := fun k t j => by have := j.lt; have := j.tn; simp only [eq_iff_iff, iff_true]; omega
 have hbD : ∀ k t : Nat, CpB l k t → ((cmpC l (k + t)).length + (l.length - (cmpC l (k + t)).length) ≤ (cmpW l (k + t)).length) = True := fun k t j => by have := j.lt; have := j.tn; rw [zPS j.tn]; simp only [eq_iff_iff, iff_true]; omega
 have hr5 : ∀ k t : Nat, CpB l k t → k + t < l.length → ((cmpW l (k + t)).map recE)[(cmpC l (k + t)).length]? = some (recE l[(cmpC l (k + t)).length]!) := fun k t j h => zVS j (by have := j.lt; omega) (tAl _)
 have hz0 : (.agg [.st [], .it .i64 0, .it .i64 0, .bo false, .it .u64 0, .it .u64 0, .st [], .st [], .st [], .it .i64 0, .it .i64 0, .it .i64 0, .it .i64 0, .it .i64 0, .it .i64 0, .it .u64 0] : D) = recE rec0 := rfl
 have hcl : ∀ k t : Nat, CpB l k t → ¬ k + t < l.length → ((cmpW l (k + t)).map recE).take (cmpC l (k + t)).length ++ (List.replicate (l.length - (cmpC l (k + t)).length) (recE rec0) ++ ((cmpW l (k + t)).map recE).drop ((cmpC l (k + t)).length + (l.length - (cmpC l (k + t)).length))) = (cmpZ l).map recE := fun k t j h => zVR j h
 have hdy := fun {nx bef i : Nat} {env : Nat → D} {H : Hp} {dst : Option Tmp} {ty : TypeId} {pos : String} {after : Array Edge} {gd : Option (Nat × Bool)} {k : Tmp} {args : Array Operand} {ts : Array TypeId} (hk : env k = .fn (.func 92) [] []) (hr : zAy nx bef i H (refs (env k) ++ zAp (args.toList.map (ev env))) = true) (hi : immL (args.toList.map (ev env)) = true) => zGT (cx := cx) (nx := nx) (bef := bef) (i := i) (env := env) (H := H) (dst := dst) (ty := ty) (pos := pos) (after := after) (gd := gd) (k := k) (args := args) (ts := ts) hk h92 hr hi
 refine zEH (rs := [.tmp 4]) rfl hbs rfl ?_
 repeat' first
   | (refine zA1 (σ := Nat) (fun k => [.own 0 0 l.length, .fn (.func 92) [] [], .it .i64 (k : Int)]) (fun k => [.row 16 true ((l).map recE)]) (fun k => CpA l k) (fun k => l.length - k) [0, 1, 5] hbs (by exact hk4) (fr1 fun _ => zBk _) (fun k jk => ?_) (s := 1) [0] ?_ ?_ ?_ ?_ ?_ ?_)
   | (refine zA1 (σ := Nat) (fun t => [.own 0 0 l.length, .fn (.func 92) [] [], .it .i64 ((cmpC l (k + t)).length : Int), .own 0 k (l.length - k), .it .i64 (t : Int)]) (fun t => [.row 16 true ((cmpW l (k + t)).map recE)]) (fun t => CpB l k t ∧ CpT t) (fun t => l.length - t) [0, 1, 5, 6, 7] hbs (by exact hk9) (fr1 fun _ => zBk _) (fun t jt => ?_) (s := 1) [0] ?_ ?_ ?_ ?_ ?_ ?_)
   | (refine bN (fun h => ?_) fun h => ?_)
   | (refine zAI ?_ ?_)
   | simp (config := { decide := true }) only [↓cD, cU, cQ, cP, cB, zAD, unD, zAe, zAd, idx, reduceCtorEq, ↓reduceIte, ofV, ofC, zAq, Nat.reduceEqDiff, zAB, cG, implies_true, forall_const, immL, immD, Res.flat, ren, renL, Int.reduceEq, Int.reduceLT, Int.reduceLE, Int.reduceNe, deref, ldD, zAA, zAh, zAC, zAs, cC, cS, refs, zAy, okId, tAs, tAq, Nat.reduceMul, Nat.reduceAdd, Nat.reduceLeDiff, zAp, c92, d92, zAi, zAk, zIy, ↓zAH, ↓zAL, ↓zAG, ↓zAK, ↓zAF, ↓zAJ, cV, cT, cF, cW, borT, borM, zAl, Res.via, zAt, zAb, refsB, Nat.reduceLT, Nat.reduceSub, Nat.reduceLeDiff, Nat.reduceMul, Nat.reduceAdd, Int.reduceToNat, appK, zAr, zAc, borL, zAj, zAm, zAz, cO, List.replicate, zAx, ofHp, ixOf, cS, refs, zAy, okId, tAs, tAq, Nat.reduceMul, Nat.reduceAdd, Nat.reduceLeDiff, zAp, zCn, zEw, updL, zPT, zEO, yFc, el22, ze22, hw1, hw2, hw3, hw4, hw5, hz1, hz2, hkm, hkl, hr1, hr2, hs1, hlB, hlC, hr3, hr4, hs2, hbB, hbC, hbD, hr5, hz0, hcl, hdy, hP, *]
 all_goals first
   | rfl
   | omega
   | (have e := zFW (l := l) (by omega); rw [e, zL1 e]; exact ⟨_, rfl, zBk _, by simp [zJC], rfl⟩)
   | (have e := yFe jk ‹_›; rw [e, zL1 e]; exact ⟨_, rfl, zBk _, by simp [zJC], rfl⟩)
   | (rw [zVQ jt.1 ‹_›]; exact ⟨_, rfl, zBk _, by simp [zJC], rfl⟩)
   | exact ⟨tAl _, by omega, zFW (by rw [tAk]; omega)⟩
   | (have e := zIf jk ‹_› ‹_›; rw [e.2.2]; rfl)
   | (have e := zIf jk ‹_› ‹_›; rw [e.2.1]; done)
   | exact ⟨(zIf jk ‹_› ‹_›).1, tAl _, by omega⟩
   | (refine ⟨[0], t + 1, ?_, ?_, ?_, ?_, ?_, ⟨zVN jt.1 ‹_› ‹_›, by have := hl.n; have := jt.1.tn; have := jt.2; exact ⟨by omega, by omega⟩⟩, by omega⟩ <;> first | rfl | (rw [zVP jt.1 ‹_› ‹_›]; rfl) | (rw [yFd jt.1 ‹_› ‹_›]; rfl))
   | (refine ⟨[0], t + 1, ?_, ?_, ?_, ?_, ?_, ⟨zVM jt.1 ‹_› ‹_›, by have := hl.n; have := jt.1.tn; have := jt.2; exact ⟨by omega, by omega⟩⟩, by omega⟩ <;> first | rfl | (rw [zVO jt.1 ‹_› ‹_›, tAh]; rfl))
   | (refine ⟨[0], k + 1, ?_, ?_, ?_, ?_, ?_, zZw jk (by omega) ‹_›, by omega⟩ <;> rfl)
theorem yKn {E : Rec → D} {xs : List Rec} : binD Tryz.prog .eql 22 (vecE 16 E xs) .nils = if xs = [] then none else some (.bo false) := zND Tryz.underlying22
theorem yKr {b : Bool} : binD Tryz.prog .eql 22 (.emp b) .nils = some (.bo (!b)) := zNF Tryz.underlying22
theorem yJD {b : Bool} : zBP Tryz.prog 22 (.emp b) = true := yCD Tryz.underlying22

noncomputable def zNT := mkF (fun s : (List Rec) => [zAn s]) (fun s => s ≠ [] ∧ s.length ≤ 1000000) (fun s => Res.row 16 (s.map recE))
theorem yAo {a : List Rec} (hp : a ≠ [] ∧ a.length ≤ 1000000) : zNT [zAn a] = some (Res.row 16 (a.map recE)) := mkFe (s := (a)) hp
theorem zTt (cx : Cx) (hP : cx.P = Tryz.prog) (hbs : cx.bs = 0) (a : List Rec) (hl : a ≠ [] ∧ a.length ≤ 1000000) : zAg cx Tryz.f64 [0] false [zAn a] = some (Res.row 16 (a.map recE)) := by
 have hl1 := hl.1; have hl2 := hl.2
 refine zCv (rs := [.tmp 2]) rfl hbs rfl ?_
 repeat' first
   | (refine bN (fun h => ?_) fun h => ?_)
   | (refine zAI ?_ ?_)
   | simp only [↓cD, cU, cQ, cP, cB, zAD, unD, zAe, zAd, idx, reduceCtorEq, ↓reduceIte, ofV, ofC, zAq, Nat.reduceEqDiff, zAB, cG, implies_true, forall_const, immL, immD, Res.flat, ren, renL, Int.reduceEq, Int.reduceLT, Int.reduceLE, Int.reduceNe, deref, ldD, zAA, zAh, zAC, zAs, cC, ↓zAH, ↓zAL, ↓zAG, ↓zAK, ↓zAF, ↓zAJ, cV, cT, cF, cW, borT, borM, zAl, Res.via, zAt, zAb, refsB, Nat.reduceLT, Nat.reduceSub, Nat.reduceLeDiff, Nat.reduceMul, Nat.reduceAdd, Int.reduceToNat, appK, zAr, zAc, borL, zAj, zAm, zAz, cO, List.replicate, zAx, ofHp, ixOf, yKn, zCJ, tBB, zAz, Nat.zero_mul, hP, *]
 all_goals first
   | rfl
   | omega
   | (have h2 := hl.2; omega)
   | exact ⟨_, _, _, _, rfl, rfl, by simp, zBJ (fun _ => rfl), rfl⟩
noncomputable def yAn := mkF (fun s : Bool => [.emp s]) (fun s => True) (fun s => Res.row 16 [])
theorem yAm {b : Bool} : yAn [.emp b] = some (Res.row 16 []) := zBV (s := (b)) (fun s s' h => rfl) trivial
theorem zTs (cx : Cx) (hP : cx.P = Tryz.prog) (hbs : cx.bs = 0) (b : Bool)  : zAg cx Tryz.f64 [0] false [.emp b] = some (Res.row 16 []) := by
 refine zCv (rs := [.tmp 2]) rfl hbs rfl ?_
 repeat' first
   | (refine bN (fun h => ?_) fun h => ?_)
   | (refine zAI ?_ ?_)
   | simp only [↓cD, cU, cQ, cP, cB, zAD, unD, zAe, zAd, idx, reduceCtorEq, ↓reduceIte, ofV, ofC, zAq, Nat.reduceEqDiff, zAB, cG, implies_true, forall_const, immL, immD, Res.flat, ren, renL, Int.reduceEq, Int.reduceLT, Int.reduceLE, Int.reduceNe, deref, ldD, zAA, zAh, zAC, zAs, cC, ↓zAH, ↓zAL, ↓zAG, ↓zAK, ↓zAF, ↓zAJ, cV, cT, cF, cW, borT, borM, zAl, Res.via, zAt, zAb, refsB, Nat.reduceLT, Nat.reduceSub, Nat.reduceLeDiff, Nat.reduceMul, Nat.reduceAdd, Int.reduceToNat, appK, zAr, zAc, borL, zAj, zAm, zAz, cO, List.replicate, zAx, ofHp, ixOf, yKr, yJD, zVm, zCJ, tBB, zAz, Nat.zero_mul, hP, *]
 all_goals first
   | rfl
   | omega
   | exact ⟨_, _, _, _, rfl, rfl, rfl, rfl, rfl⟩
noncomputable def FClR : List D → Option Res := fun ds => (zNT ds).or (yAn ds)
theorem zEL {a : List Rec} (hp : a ≠ [] ∧ a.length ≤ 1000000) : FClR [zAn a] = some (Res.row 16 (a.map recE)) := by
 show ((zNT [zAn a]).or _) = _
 rw [yAo hp]; rfl
theorem zHu {b : Bool} : FClR [D.emp b] = some (Res.row 16 []) := by
 have e1 : zNT [D.emp b] = none := zFM (fun s h => by simp [zAn, vecE] at h)
 show ((zNT [D.emp b]).or _) = _
 rw [e1, yAm (b := b)]; rfl
theorem zKC {l : List Rec} (hp : CpP (stS ltR l)) : FCpt [.own 0 0 l.length, .fn (.func 92) [] []] [.row 16 true ((stS ltR l).map recE)] = some (.own 0 0 (zAV l).length, [.row 16 true ((cmpZ (stS ltR l)).map recE)]) := by
 have h := yF4 hp
 rw [zB4, zN7] at h; exact h
theorem zL0 {l : List Rec} : ((cmpZ (stS ltR l)).map recE).take (zAV l).length = (zAV l).map recE := by
 rw [← tB1]
 unfold cmpZ
 rw [zN7, tB2 (tAl _), tCa]
theorem zHh {l : List Rec} (h : LSm l) : CpP (stS ltR l) := ⟨by rw [zB4]; exact h.1, fun x hx => h.2 x (zIV (fun z => zE4 wkR l z) hx)⟩
theorem zN4 {l : List Rec} (h : LSm l) : StP l := ⟨h.1, h.2⟩
theorem zKg (l : List Rec) : zBh ((cmpZ l).map recE) = true := zBJ (fun _ => rfl)

noncomputable def zF5 := mkF (fun s : (List Rec) => [zAn s]) (fun s => s ≠ [] ∧ LSm s) (fun s => Res.flat (zAn (zAV s)))
theorem zMk {a : List Rec} (hp : a ≠ [] ∧ LSm a) : zF5 [zAn a] = some (Res.flat (zAn (zAV a))) := mkFe (s := (a)) hp
theorem zOq (cx : Cx) (hP : cx.P = Tryz.prog) (hbs : cx.bs = 0) (h64 : cx.orc 64 = some FClR) (xn90 : cx.orc 90 = none) (xe90 : cx.ext 90 = none) (xf90 : cx.eff 90 = some FSSF) (xn91 : cx.orc 91 = none) (xe91 : cx.ext 91 = none) (xf91 : cx.eff 91 = some FCpt) (a : List Rec) (hl : a ≠ [] ∧ LSm a) : zAg cx Tryz.f48 [] false [zAn a] = some (Res.flat (zAn (zAV a))) := by
 have c64 := zAa h64
 have cf90 := fun H nid l => (show zBI cx 90 l H nid = _ from zBo xn90 xe90 xf90)
 have cf91 := fun H nid l => (show zBI cx 91 l H nid = _ from zBo xn91 xe91 xf91)
 have hl6 : a ≠ [] ∧ a.length ≤ 1000000 := ⟨hl.1, hl.2.1⟩
 have hl3 : StP a := zN4 hl.2; have hl4 : CpP (stS ltR a) := zHh hl.2
 have hs0 := zEL hl6
 have hs1 := zKy hl3
 have hs2 := zKC hl4
 refine zLg (rs := [.tmp 2]) rfl hbs rfl ?_
 repeat' first
   | (refine bN (fun h => ?_) fun h => ?_)
   | (refine zAI ?_ ?_)
   | simp only [↓cD, cU, cQ, cP, cB, zAD, unD, zAe, zAd, idx, reduceCtorEq, ↓reduceIte, ofV, ofC, zAq, Nat.reduceEqDiff, zAB, cG, implies_true, forall_const, immL, immD, Res.flat, ren, renL, Int.reduceEq, Int.reduceLT, Int.reduceLE, Int.reduceNe, deref, ldD, zAA, zAh, zAC, zAs, cC, c64, zAi, zAk, zEL, ↓zAH, ↓zAL, ↓zAG, ↓zAK, ↓zAF, ↓zAJ, cV, cT, cF, cW, borT, borM, zAl, Res.via, zAt, zAb, refsB, Nat.reduceLT, Nat.reduceSub, Nat.reduceLeDiff, Nat.reduceMul, Nat.reduceAdd, Int.reduceToNat, appK, zAr, zAc, borL, zAj, zAm, zAz, cO, List.replicate, zAx, ofHp, ixOf, hs0, zAp, refs, zD5, zEe, zHn, zEd, hs1, hs2, Res.row, Res.rowd, hP, *]
 all_goals first
   | rfl
   | exact ⟨_, _, _, _, rfl, rfl, zKg _, by rw [zL0]; rfl⟩
noncomputable def zIx := mkF (fun s : Bool => [.emp s]) (fun s => True) (fun s => Res.flat (zAn []))
theorem zMj {b : Bool} : zIx [.emp b] = some (Res.flat (zAn [])) := zBV (s := (b)) (fun s s' h => rfl) trivial
theorem zOp (cx : Cx) (hP : cx.P = Tryz.prog) (hbs : cx.bs = 0) (h64 : cx.orc 64 = some FClR) (xn90 : cx.orc 90 = none) (xe90 : cx.ext 90 = none) (xf90 : cx.eff 90 = some FSSF) (xn91 : cx.orc 91 = none) (xe91 : cx.ext 91 = none) (xf91 : cx.eff 91 = some FCpt) (b : Bool)  : zAg cx Tryz.f48 [] false [.emp b] = some (Res.flat (zAn [])) := by
 have c64 := zAa h64
 have cf90 := fun H nid l => (show zBI cx 90 l H nid = _ from zBo xn90 xe90 xf90)
 have cf91 := fun H nid l => (show zBI cx 91 l H nid = _ from zBo xn91 xe91 xf91)
 have hl : LSm ([] : List Rec) := ⟨by simp, by simp⟩
 have hl3 : StP ([] : List Rec) := zN4 hl; have hl4 : CpP (stS ltR ([] : List Rec)) := zHh hl
 have hs1 : FSSF [.own 0 0 0, .fn (.func 80) [] []] [.row 16 true []] = some (.tup [], [.row 16 true []]) := zKy hl3
 have hs2 : FCpt [.own 0 0 0, .fn (.func 92) [] []] [.row 16 true []] = some (.own 0 0 0, [.row 16 true []]) := zKC hl4
 refine zLg (rs := [.tmp 2]) rfl hbs rfl ?_
 repeat' first
   | (refine bN (fun h => ?_) fun h => ?_)
   | (refine zAI ?_ ?_)
   | simp only [↓cD, cU, cQ, cP, cB, zAD, unD, zAe, zAd, idx, reduceCtorEq, ↓reduceIte, ofV, ofC, zAq, Nat.reduceEqDiff, zAB, cG, implies_true, forall_const, immL, immD, Res.flat, ren, renL, Int.reduceEq, Int.reduceLT, Int.reduceLE, Int.reduceNe, deref, ldD, zAA, zAh, zAC, zAs, cC, c64, zAi, zAk, zEL, ↓zAH, ↓zAL, ↓zAG, ↓zAK, ↓zAF, ↓zAJ, cV, cT, cF, cW, borT, borM, zAl, Res.via, zAt, zAb, refsB, Nat.reduceLT, Nat.reduceSub, Nat.reduceLeDiff, Nat.reduceMul, Nat.reduceAdd, Int.reduceToNat, appK, zAr, zAc, borL, zAj, zAm, zAz, cO, List.replicate, zAx, ofHp, ixOf, zHu, zAp, refs, zD5, zEe, zHn, zEd, hs1, hs2, Res.row, Res.rowd, hP, *]
 all_goals first
   | rfl
   | exact ⟨_, _, _, _, rfl, rfl, rfl, rfl⟩
noncomputable def zEf := mkF (fun s : (List Rec) => [zAn s]) (fun s => s ≠ [] ∧ LSm s) (fun s => Res.front (zAV s).length 16 ((cmpZ (stS ltR s)).map recE))
theorem zI9 {a : List Rec} (hp : a ≠ [] ∧ LSm a) : zEf [zAn a] = some (Res.front (zAV a).length 16 ((cmpZ (stS ltR a)).map recE)) := mkFe (s := (a)) hp
theorem zKY (cx : Cx) (hP : cx.P = Tryz.prog) (hbs : cx.bs = 0) (h64 : cx.orc 64 = some FClR) (xn90 : cx.orc 90 = none) (xe90 : cx.ext 90 = none) (xf90 : cx.eff 90 = some FSSF) (xn91 : cx.orc 91 = none) (xe91 : cx.ext 91 = none) (xf91 : cx.eff 91 = some FCpt) (a : List Rec) (hl : a ≠ [] ∧ LSm a) : zAg cx Tryz.f48 [0] false [zAn a] = some (Res.front (zAV a).length 16 ((cmpZ (stS ltR a)).map recE)) := by
 have c64 := zAa h64
 have cf90 := fun H nid l => (show zBI cx 90 l H nid = _ from zBo xn90 xe90 xf90)
 have cf91 := fun H nid l => (show zBI cx 91 l H nid = _ from zBo xn91 xe91 xf91)
 have hl6 : a ≠ [] ∧ a.length ≤ 1000000 := ⟨hl.1, hl.2.1⟩
 have hl3 : StP a := zN4 hl.2; have hl4 : CpP (stS ltR a) := zHh hl.2
 have hs0 := zEL hl6
 have hs1 := zKy hl3
 have hs2 := zKC hl4
 refine zIT (rs := [.tmp 2]) rfl hbs rfl ?_
 repeat' first
   | (refine bN (fun h => ?_) fun h => ?_)
   | (refine zAI ?_ ?_)
   | simp only [↓cD, cU, cQ, cP, cB, zAD, unD, zAe, zAd, idx, reduceCtorEq, ↓reduceIte, ofV, ofC, zAq, Nat.reduceEqDiff, zAB, cG, implies_true, forall_const, immL, immD, Res.flat, ren, renL, Int.reduceEq, Int.reduceLT, Int.reduceLE, Int.reduceNe, deref, ldD, zAA, zAh, zAC, zAs, cC, c64, zAi, zAk, zEL, ↓zAH, ↓zAL, ↓zAG, ↓zAK, ↓zAF, ↓zAJ, cV, cT, cF, cW, borT, borM, zAl, Res.via, zAt, zAb, refsB, Nat.reduceLT, Nat.reduceSub, Nat.reduceLeDiff, Nat.reduceMul, Nat.reduceAdd, Int.reduceToNat, appK, zAr, zAc, borL, zAj, zAm, zAz, cO, List.replicate, zAx, ofHp, ixOf, hs0, zAp, refs, zD5, zEe, zHn, zEd, hs1, hs2, Res.row, Res.rowd, hP, *]
 all_goals first
   | rfl
   | exact ⟨_, _, _, _, rfl, rfl, zKg _, rfl⟩
noncomputable def zFk := mkF (fun s : Bool => [.emp s]) (fun s => True) (fun s => Res.front 0 16 [])
theorem zI8 {b : Bool} : zFk [.emp b] = some (Res.front 0 16 []) := zBV (s := (b)) (fun s s' h => rfl) trivial
theorem zKX (cx : Cx) (hP : cx.P = Tryz.prog) (hbs : cx.bs = 0) (h64 : cx.orc 64 = some FClR) (xn90 : cx.orc 90 = none) (xe90 : cx.ext 90 = none) (xf90 : cx.eff 90 = some FSSF) (xn91 : cx.orc 91 = none) (xe91 : cx.ext 91 = none) (xf91 : cx.eff 91 = some FCpt) (b : Bool)  : zAg cx Tryz.f48 [0] false [.emp b] = some (Res.front 0 16 []) := by
 have c64 := zAa h64
 have cf90 := fun H nid l => (show zBI cx 90 l H nid = _ from zBo xn90 xe90 xf90)
 have cf91 := fun H nid l => (show zBI cx 91 l H nid = _ from zBo xn91 xe91 xf91)
 have hl : LSm ([] : List Rec) := ⟨by simp, by simp⟩
 have hl3 : StP ([] : List Rec) := zN4 hl; have hl4 : CpP (stS ltR ([] : List Rec)) := zHh hl
 have hs1 : FSSF [.own 0 0 0, .fn (.func 80) [] []] [.row 16 true []] = some (.tup [], [.row 16 true []]) := zKy hl3
 have hs2 : FCpt [.own 0 0 0, .fn (.func 92) [] []] [.row 16 true []] = some (.own 0 0 0, [.row 16 true []]) := zKC hl4
 refine zIT (rs := [.tmp 2]) rfl hbs rfl ?_
 repeat' first
   | (refine bN (fun h => ?_) fun h => ?_)
   | (refine zAI ?_ ?_)
   | simp only [↓cD, cU, cQ, cP, cB, zAD, unD, zAe, zAd, idx, reduceCtorEq, ↓reduceIte, ofV, ofC, zAq, Nat.reduceEqDiff, zAB, cG, implies_true, forall_const, immL, immD, Res.flat, ren, renL, Int.reduceEq, Int.reduceLT, Int.reduceLE, Int.reduceNe, deref, ldD, zAA, zAh, zAC, zAs, cC, c64, zAi, zAk, zEL, ↓zAH, ↓zAL, ↓zAG, ↓zAK, ↓zAF, ↓zAJ, cV, cT, cF, cW, borT, borM, zAl, Res.via, zAt, zAb, refsB, Nat.reduceLT, Nat.reduceSub, Nat.reduceLeDiff, Nat.reduceMul, Nat.reduceAdd, Int.reduceToNat, appK, zAr, zAc, borL, zAj, zAm, zAz, cO, List.replicate, zAx, ofHp, ixOf, zHu, zAp, refs, zD5, zEe, zHn, zEd, hs1, hs2, Res.row, Res.rowd, hP, *]
 all_goals first
   | rfl
   | exact ⟨_, _, _, _, rfl, rfl, rfl, rfl⟩
def fndR (l : List Rec) (x : Rec) : Bool := if (posR l x : Int) < l.length then decide (zAw l[posR l x]! x = 0) else false
theorem yC3 (l : List Rec) (x : Rec) : posR l x ≤ l.length := by
 induction l with
 | nil => simp [posR]
 | cons y r ih => unfold posR; split <;> simp only [tAp] <;> omega
theorem zJB {l : List Rec} {x : Rec} (hs : Srt lt1 l) : ∀ i, i < l.length → (zAw l[i]! x < 0 ↔ i < posR l x) := by
 induction l with
 | nil => intro i h; simp at h
 | cons y r ih =>
   have hr := List.Pairwise.of_cons hs
   intro i h
   unfold posR
   by_cases hy : zAw y x < 0
   · rw [if_pos hy]
     cases i with
     | zero => exact ⟨fun _ => by omega, fun _ => hy⟩
     | succ i =>
       have := ih hr i (by simpa using h)
       show zAw r[i]! x < 0 ↔ _
       rw [this]; omega
   · rw [if_neg hy]
     refine ⟨fun h2 => ?_, fun h2 => by omega⟩
     cases i with
     | zero => exact absurd h2 hy
     | succ i =>
       exfalso
       have h3 : zAw r[i]! x < 0 := h2
       have hm : r[i]! ∈ r := zBu (by simp only [tAp] at h; omega)
       have h4 := (tAC.1 hs).1 _ hm
       have h5 := of_decide_eq_false h4
       have := wk1.le_lt (a := y) (b := r[i]!) (c := x) (decide_eq_false h5) (decide_eq_true h3)
       exact hy (of_decide_eq_true this)
structure BsJ (l : List Rec) (x : Rec) (q : Nat × Nat) : Prop where
 a : q.1 ≤ posR l x
 b : posR l x ≤ q.2
 c : q.2 ≤ l.length
theorem yKo {l : List Rec} {x : Rec} {q : Nat × Nat} (hs : Srt lt1 l) (j : BsJ l x q) (h : (q.1 : Int) < q.2) (hc : zAw l[(q.1 + q.2) / 2]! x < 0) : BsJ l x ((q.1 + q.2) / 2 + 1, q.2) := by
 have h1 := j.c
 have := (zJB (x := x) hs ((q.1 + q.2) / 2) (by omega)).1 hc
 exact ⟨by show (q.1 + q.2) / 2 + 1 ≤ _; omega, j.b, j.c⟩
theorem yKp {l : List Rec} {x : Rec} {q : Nat × Nat} (hs : Srt lt1 l) (j : BsJ l x q) (h : (q.1 : Int) < q.2) (hc : ¬ zAw l[(q.1 + q.2) / 2]! x < 0) : BsJ l x (q.1, (q.1 + q.2) / 2) := by
 have h1 := j.c
 have h2 : ¬ (q.1 + q.2) / 2 < posR l x := fun e => hc ((zJB (x := x) hs ((q.1 + q.2) / 2) (by omega)).2 e)
 exact ⟨j.a, by show posR l x ≤ (q.1 + q.2) / 2; omega, by show (q.1 + q.2) / 2 ≤ _; omega⟩
theorem yI6 {l : List Rec} {x : Rec} {q : Nat × Nat} (j : BsJ l x q) (h : ¬ (q.1 : Int) < q.2) : q.1 = posR l x := by have := j.a; have := j.b; omega
theorem yJ5 {i j : Nat} (h : i + j ≤ 10000000) : IntKind.i64.wrap ((IntKind.u64.wrap (IntKind.i64.wrap ((i : Int) + (j : Int)))).fdiv (2 ^ min 1 IntKind.u64.bits)) = (((i + j) / 2 : Nat) : Int) := half h

structure BsP (l : List Rec) (x : Rec) : Prop where
 hl : LSm l
 hx : RSm x
 hs : Srt lt1 l

noncomputable def FBs := mkF (fun s : (List Rec) × Rec => [zAn s.1, recE s.2, .fn (.func 93) [] []]) (fun s => BsP s.1 s.2) (fun s => Res.flat (.tup [.it .i64 (posR s.1 s.2), .bo (fndR s.1 s.2)]))
theorem yJu {a : List Rec} {r1 : Rec} (hp : BsP a r1) : FBs [zAn a, recE r1, .fn (.func 93) [] []] = some (Res.flat (.tup [.it .i64 (posR a r1), .bo (fndR a r1)])) := mkFe (s := (a, r1)) hp
theorem yHc (cx : Cx) (hP : cx.P = Tryz.prog) (hbs : cx.bs = 0) (h93 : cx.orc 93 = some zEn) (r93 : cx.rd.contains 93 = true) (hk3 : cx.kp 3 = some [0, 2, 4, 8, 9, 10]) (a : List Rec) (r1 : Rec) (hl : BsP a r1) : zAg cx Tryz.f108 [] false [zAn a, recE r1, .fn (.func 93) [] []] = some (Res.flat (.tup [.it .i64 (posR a r1), .bo (fndR a r1)])) := by
 have c93 := zAa h93
 have d93 := zAo r93 h93
 have hN := hl.hl.1
 have hmid : ∀ q, BsJ a r1 q → IntKind.i64.wrap ((IntKind.u64.wrap (IntKind.i64.wrap ((q.1 : Int) + (q.2 : Int)))).fdiv (2 ^ min 1 IntKind.u64.bits)) = (((q.1 + q.2) / 2 : Nat) : Int) := fun q j => yJ5 (by have := j.a; have := j.b; have := j.c; have := hl.hl.1; omega)
 have hw1 : ∀ q, BsJ a r1 q → IntKind.i64.wrap ((((q.1 + q.2) / 2 : Nat) : Int) + 1) = (((q.1 + q.2) / 2 + 1 : Nat) : Int) := fun q j => by have := j.a; have := j.b; have := j.c; have := hl.hl.1; rw [wrap64 (by omega) (by omega)]; omega
 have hix : ∀ (q : Nat × Nat), BsJ a r1 q → (q.1 : Int) < q.2 → ((((q.1 + q.2) / 2 : Nat) : Int) < (a.length : Int)) = True := fun q j h => by have := j.c; simp only [eq_iff_iff, iff_true]; omega
 have hfs : ∀ (q : Nat × Nat), BsJ a r1 q → (q.1 : Int) < q.2 → zEn [recE a[(q.1 + q.2) / 2]!, recE r1] = some (Res.flat (.it .i64 (zAw a[(q.1 + q.2) / 2]! r1))) := fun q j h => zDd ⟨hl.hl.at (by have := j.c; omega), hl.hx⟩
 have hfe : ∀ k : Nat, (k : Int) < a.length → zEn [recE a[k]!, recE r1] = some (Res.flat (.it .i64 (zAw a[k]! r1))) := fun k h => zDd ⟨hl.hl.at h, hl.hx⟩
 have hie : True := trivial
 have hz1 : ∀ k : Nat, ((k : Int) < 0) = False := fun k => by simp
 have hdy := fun {nx bef i : Nat} {env : Nat → D} {H : Hp} {dst : Option Tmp} {ty : TypeId} {pos : String} {after : Array Edge} {gd : Option (Nat × Bool)} {k : Tmp} {args : Array Operand} {ts : Array TypeId} (hk : env k = .fn (.func 93) [] []) (hr : zAy nx bef i H (refs (env k) ++ zAp (args.toList.map (ev env))) = true) (hi : immL (args.toList.map (ev env)) = true) => zGT (cx := cx) (nx := nx) (bef := bef) (i := i) (env := env) (H := H) (dst := dst) (ty := ty) (pos := pos) (after := after) (gd := gd) (k := k) (args := args) (ts := ts) hk h93 hr hi
 refine zAf (rs := [.tmp 6, .tmp 7]) rfl hbs rfl ?_
 repeat' first
   | (refine zAv (σ := Nat × Nat) (fun q => [zAn a, .fn (.func 93) [] [], .ptr 0 0, .it .i64 a.length, .it .i64 q.1, .it .i64 q.2]) (fun q => [.box (recL r1)]) (fun q => BsJ a r1 q) (fun q => q.2 - q.1) [0, 2, 4, 8, 9, 10] hbs (by exact hk3) (fr1 fun _ => zGW r1) (fun q jq => ?_) (s := (0, a.length)) [0] ?_ ?_ ?_ ?_ ?_)
   | (refine bN (fun h => ?_) fun h => ?_)
   | (refine zAI ?_ ?_)
   | simp (config := { decide := true }) only [↓cD, cU, cQ, cP, cB, zAD, unD, zAe, zAd, idx, reduceCtorEq, ↓reduceIte, ofV, ofC, zAq, Nat.reduceEqDiff, zAB, cG, implies_true, forall_const, immL, immD, Res.flat, ren, renL, Int.reduceEq, Int.reduceLT, Int.reduceLE, Int.reduceNe, deref, ldD, zAA, zAh, zAC, zAs, cC, cS, refs, zAy, okId, tAs, tAq, Nat.reduceMul, Nat.reduceAdd, Nat.reduceLeDiff, zAp, c93, d93, zAi, zAk, zDd, ↓zAH, ↓zAL, ↓zAG, ↓zAK, ↓zAF, ↓zAJ, cV, cT, cF, cW, borT, borM, zAl, Res.via, zAt, zAb, refsB, Nat.reduceLT, Nat.reduceSub, Nat.reduceLeDiff, Nat.reduceMul, Nat.reduceAdd, Int.reduceToNat, appK, zAr, zAc, borL, zAj, zAm, zAz, cO, List.replicate, zAx, ofHp, ixOf, cS, refs, zAy, okId, tAs, tAq, Nat.reduceMul, Nat.reduceAdd, Nat.reduceLeDiff, zAp, hmid, hw1, hix, hfs, hfe, hie, hz1, hdy, hP, *]
 all_goals first
   | rfl
   | exact ⟨tAL _, yC3 _ _, tAl _⟩
   | (refine ⟨[0], ((q.1 + q.2) / 2 + 1, q.2), rfl, rfl, rfl, rfl, yKo hl.hs jq ‹_› ‹_›, by dsimp only; omega⟩)
   | (refine ⟨[0], (q.1, (q.1 + q.2) / 2), rfl, rfl, rfl, rfl, yKp hl.hs jq ‹_› ‹_›, by dsimp only; omega⟩)
   | (have e := yI6 jq (by omega); have e2 : fndR a r1 = if (q.1 : Int) < a.length then decide (zAw a[q.1]! r1 = 0) else false := (by rw [e]; rfl); rw [e2, ← e]; first | (rw [if_pos (by omega)]; done) | (rw [if_neg (by omega)]; done))
def zDK (a b : List Rec) : List Rec := a.filter fun x => !fndR (zAV b) x
theorem zUj (a b : List Rec) : (zDK a b).length ≤ a.length := tBU _ _
noncomputable def zP9 := mkF (fun s : (List Rec) => [zAn s]) (fun s => LSm s) (fun s => Res.flat (zAn (zAV s)))
theorem zWF {a : List Rec} (hp : LSm a) : zP9 [zAn a] = some (Res.flat (zAn (zAV a))) := mkFe (s := (a)) hp
noncomputable def FMin := mkF (fun s : (List Rec) × (List Rec) => [zAn s.1, zAn s.2]) (fun s => LSm s.1 ∧ LSm s.2) (fun s => Res.flat (zAn (zDK s.1 s.2)))
theorem yFZ {a : List Rec} {b : List Rec} (hp : LSm a ∧ LSm b) : FMin [zAn a, zAn b] = some (Res.flat (zAn (zDK a b))) := mkFe (s := (a, b)) hp
theorem zXF (l : List Rec) : Srt lt1 (zAV l) := (zCW l).srt
theorem yA5 (cx : Cx) (hP : cx.P = Tryz.prog) (hbs : cx.bs = 0) (h48 : cx.orc 48 = some zP9) (h108 : cx.orc 108 = some FBs) (hk4 : cx.kp 4 = some [5, 6, 13, 14, 15]) (a b : List Rec) (hl : LSm a ∧ LSm b) : zAg cx Tryz.f76 [] false [zAn a, zAn b] = some (Res.flat (zAn (zDK a b))) := by
 have c48 := zAa h48
 have c108 := zAa h108
 have hl1 := hl.1; have hl2 := hl.2; have hl3 := hl.1.1
 have hw : ∀ k : Nat, (k : Int) < a.length → IntKind.i64.wrap ((k : Int) + 1) = ((k + 1 : Nat) : Int) := zBF hl.1.sm
 have hbs2 : ∀ k : Nat, (k : Int) < a.length → BsP (zAV b) a[k]! := fun k h => ⟨hl.2.sort, hl.1.at h, zXF b⟩
 refine zFw (rs := [.tmp 4]) rfl hbs rfl ?_
 repeat' first
   | (refine zAv (σ := Nat) (fun s => [zAn (zAV b), .own 0 0 (zDK (a.take s) b).length, zAn a, .it .i64 a.length, .it .i64 s]) (fun s => [.row 16 true ((zDK (a.take s) b).map recE)]) (fun s => s ≤ a.length) (fun s => a.length - s) [5, 6, 13, 14, 15] hbs (by exact hk4) (fr1 fun _ => zA2 (fun _ => rfl)) (fun s js => ?_) (s := 0) [1] ?_ ?_ ?_ ?_ ?_)
   | (refine bN (fun h => ?_) fun h => ?_)
   | (refine zAI ?_ ?_)
   | simp only [↓cD, cU, cQ, cP, cB, zAD, unD, zAe, zAd, idx, reduceCtorEq, ↓reduceIte, ofV, ofC, zAq, Nat.reduceEqDiff, zAB, cG, implies_true, forall_const, immL, immD, Res.flat, ren, renL, Int.reduceEq, Int.reduceLT, Int.reduceLE, Int.reduceNe, deref, ldD, zAA, zAh, zAC, zAs, cC, c48, c108, zAi, zAk, zWF, yJu, ↓zAH, ↓zAL, ↓zAG, ↓zAK, ↓zAF, ↓zAJ, cV, cT, cF, cW, borT, borM, zAl, Res.via, zAt, zAb, refsB, Nat.reduceLT, Nat.reduceSub, Nat.reduceLeDiff, Nat.reduceMul, Nat.reduceAdd, Int.reduceToNat, appK, zAr, zAc, borL, zAj, zAm, zAz, cO, List.replicate, zAx, ofHp, ixOf, hl1, hl2, hw, hbs2, hP, *]
 all_goals first
   | rfl
   | omega
   | (have hq := zUj (a.take s) b; rw [tAk] at hq; omega)
   | (refine ⟨[0], s + 1, ?_, ?_, ?_, ?_, by omega, by omega⟩ <;> (try rw [show zDK (a.take (s + 1)) b = zDK (a.take s) b from zNc (by omega) (by simp only [*, tBI])]) <;> (first | rfl | (simp only [zAp, refs, ren, cR, Nat.reduceEqDiff, ofHp, ixOf]; first | rfl | (simp; done))))
   | (refine ⟨[3], s + 1, ?_, ?_, ?_, ?_, by omega, by omega⟩ <;> (try rw [show zDK (a.take (s + 1)) b = zDK (a.take s) b ++ [a[s]!] from zH5 (by omega) (by simp only [*, tBK])]) <;> (try simp only [tAh, tAp, tAu, tAZ]) <;> (first | rfl | (simp only [zAp, refs, ren, cR, Nat.reduceEqDiff, ofHp, ixOf]; first | rfl | (simp; done))))
   | (first | rfl | (simp only [zAp, refs, ren, cR, Nat.reduceEqDiff, ofHp, ixOf]; first | rfl | (simp; done)))
   | (rw [zAS (by omega)]; exact ⟨_, _, _, _, rfl, rfl, by simp, zBJ (fun _ => rfl), rfl⟩)
theorem zTo (cx : Cx) (hP : cx.P = Tryz.prog) (hbs : cx.bs = 0) (h46 : cx.orc 46 = some FVR) (h50 : cx.orc 50 = some zEm) (hk2 : cx.kp 2 = some [1, 7, 8, 9]) (a : List Rec) (s1 : List UInt8) (hl : LSm a ∧ Sm s1) : zAg cx Tryz.f56 [] false [zAn a, .st s1] = some (Res.flat (.bo (zBl a s1))) := by
 have c46 := zAa h46
 have c50 := zAa h50
 have hw : ∀ k : Nat, (k : Int) < a.length → IntKind.i64.wrap ((k : Int) + 1) = ((k + 1 : Nat) : Int) := zBF hl.1.sm
 have hs1 : ∀ k : Nat, (k : Int) < a.length → RSm a[k]! := fun k h => hl.1.at h
 have hs2 : ∀ k : Nat, (k : Int) < a.length → Sm (a[k]!).name := fun k h => (hl.1.at h).1
 have hs3 := hl.2
 refine zAf (rs := [.tmp 4]) rfl hbs rfl ?_
 repeat' first
   | (refine zAU (σ := Nat) (fun s2 => [.st s1, zAn a, .it .i64 a.length, .it .i64 s2]) (fun s2 => s2 ≤ a.length ∧ (a.take s2).all (insX s1) = true) (fun s2 => a.length - s2) [1, 7, 8, 9] hbs (by exact hk2) (fun s2 => by simp only [zAp, refs, zAZ, zA0, zA5, tAo]) (fun s2 j2 => ?_) (s := 0) ?_ ?_)
   | (refine bN (fun h => ?_) fun h => ?_)
   | (refine zAI ?_ ?_)
   | simp only [↓cD, cU, cQ, cP, cB, zAD, unD, zAe, zAd, idx, reduceCtorEq, ↓reduceIte, ofV, ofC, zAq, Nat.reduceEqDiff, zAB, cG, implies_true, forall_const, immL, immD, Res.flat, ren, renL, Int.reduceEq, Int.reduceLT, Int.reduceLE, Int.reduceNe, deref, ldD, zAA, zAh, zAC, zAs, cC, c46, c50, zAi, zAk, zMe, zDb, ↓zAH, ↓zAL, ↓zAG, ↓zAK, ↓zAF, ↓zAJ, cV, cT, cF, cW, borT, borM, zAl, Res.via, zAt, zAb, refsB, Nat.reduceLT, Nat.reduceSub, Nat.reduceLeDiff, Nat.reduceMul, Nat.reduceAdd, Int.reduceToNat, appK, zAr, zAc, borL, zAj, zAm, zAz, cO, List.replicate, zAx, ofHp, ixOf, hw, hs1, hs2, hs3, hP, *]
 all_goals first
   | rfl
   | omega
   | exact ⟨tAL _, rfl⟩
   | (refine ⟨s2 + 1, rfl, ⟨by omega, by rw [zCj (by omega), j2.2, tAR]; simp only [insX, *, if_false, tAA]⟩, by omega⟩)
   | (rw [zBl, zFZ (p := insX s1) (i := s2) (by omega) (by simp only [insX, *, if_true, if_false, tAA])])
   | (rw [zAS (by omega)] at j2; rw [zBl, j2.2])
noncomputable def zZY := mkF (fun s : (List Rec) => [zAn s]) (fun s => LSm s) (fun s => Res.flat (.bo (eqL s (zAV s))))
theorem zZX {a : List Rec} (hp : LSm a) : zZY [zAn a] = some (Res.flat (.bo (eqL a (zAV a)))) := mkFe (s := (a)) hp
theorem zSV (cx : Cx) (hP : cx.P = Tryz.prog) (hbs : cx.bs = 0) (h48 : cx.orc 48 = some zMi) (h47 : cx.orc 47 = some FEq) (a : List Rec) (hl : LSm a) : zAg cx Tryz.f57 [] false [zAn a] = some (Res.flat (.bo (eqL a (zAV a)))) := by
 have c48 := zAa h48
 have c47 := zAa h47
 have hl1 := hl.1; have hl2 := hl.sort.1
 refine zAf (rs := [.tmp 2]) rfl hbs rfl ?_
 repeat' first
   | (refine bN (fun h => ?_) fun h => ?_)
   | (refine zAI ?_ ?_)
   | simp only [↓cD, cU, cQ, cP, cB, zAD, unD, zAe, zAd, idx, reduceCtorEq, ↓reduceIte, ofV, ofC, zAq, Nat.reduceEqDiff, zAB, cG, implies_true, forall_const, immL, immD, Res.flat, ren, renL, Int.reduceEq, Int.reduceLT, Int.reduceLE, Int.reduceNe, deref, ldD, zAA, zAh, zAC, zAs, cC, c48, c47, zAi, zAk, zMh, zQr, ↓zAH, ↓zAL, ↓zAG, ↓zAK, ↓zAF, ↓zAJ, cV, cT, cF, cW, borT, borM, zAl, Res.via, zAt, zAb, refsB, Nat.reduceLT, Nat.reduceSub, Nat.reduceLeDiff, Nat.reduceMul, Nat.reduceAdd, Int.reduceToNat, appK, zAr, zAc, borL, zAj, zAm, zAz, cO, List.replicate, zAx, ofHp, ixOf, hl1, hl2, hP, *]
 all_goals first
   | rfl
theorem zSU (cx : Cx) (hP : cx.P = Tryz.prog) (hbs : cx.bs = 0) (hk3 : cx.kp 3 = some [1, 2, 7, 10, 11, 12]) (a : List Rec) (s1 : List UInt8) (n1 : Int) (hl : a.length ≤ 1000000) : zAg cx Tryz.f58 [] false [zAn a, .st s1, .it .i64 n1] = some (Res.flat (.bo (zCM a s1 n1))) := by
 have hw : ∀ k : Nat, (k : Int) < a.length → IntKind.i64.wrap ((k : Int) + 1) = ((k + 1 : Nat) : Int) := zBF (by omega)
 have hc : ∀ k : Nat, IntKind.i64.wrap ((((a.take k).filter soaD).length : Int) + 1) = (((a.take k).filter soaD).length : Int) + 1 := fun k => by have h1 := tBU soaD (a.take k); rw [tAk] at h1; rw [wrap64 (by omega) (by omega)]
 refine zAf (rs := [.tmp 6]) rfl hbs rfl ?_
 repeat' first
   | (refine zAU (σ := Nat) (fun s3 => [.st s1, .it .i64 n1, .it .i64 (((a.take s3).filter soaD).length : Int), zAn a, .it .i64 a.length, .it .i64 s3]) (fun s3 => s3 ≤ a.length ∧ (a.take s3).all (staX s1 n1) = true) (fun s3 => a.length - s3) [1, 2, 7, 10, 11, 12] hbs (by exact hk3) (fun s3 => by simp only [zAp, refs, zAZ, zA0, zA5, tAo]) (fun s3 j3 => ?_) (s := 0) ?_ ?_)
   | (refine bN (fun h => ?_) fun h => ?_)
   | (refine zAI ?_ ?_)
   | simp only [↓cD, cU, cQ, cP, cB, zAD, unD, zAe, zAd, idx, reduceCtorEq, ↓reduceIte, ofV, ofC, zAq, Nat.reduceEqDiff, zAB, cG, implies_true, forall_const, immL, immD, Res.flat, ren, renL, Int.reduceEq, Int.reduceLT, Int.reduceLE, Int.reduceNe, deref, ldD, zAA, zAh, zAC, zAs, cC, ↓zAH, ↓zAL, ↓zAG, ↓zAK, ↓zAF, ↓zAJ, cV, cT, cF, cW, borT, borM, zAl, Res.via, zAt, zAb, refsB, Nat.reduceLT, Nat.reduceSub, Nat.reduceLeDiff, Nat.reduceMul, Nat.reduceAdd, Int.reduceToNat, appK, zAr, zAc, borL, zAj, zAm, zAz, cO, List.replicate, zAx, ofHp, ixOf, hw, hc, hP, *]
 all_goals first
   | rfl
   | omega
   | exact ⟨tAL _, rfl⟩
   | (refine ⟨s3 + 1, ?_, ⟨by omega, by rw [zCj (by omega), j3.2, tAR]; simp only [staX, *, if_true, if_false, decide_true, tAR]⟩, by omega⟩; first | (rw [zH5 (p := soaD) (by omega) (decide_eq_true ‹_›), tAh]; rfl) | (rw [zNc (p := soaD) (by omega) (decide_eq_false ‹_›)]))
   | (have e : zCM a s1 n1 = false := (by rw [zCM, if_pos (zFZ (i := s3) (by omega) (by simp only [staX, *, if_true, if_false, decide_false, tAR, tCc]))]); rw [e])
   | (have e1 : a.take s3 = a := zAS (by omega); rw [e1] at j3 ⊢; have e : zCM a s1 n1 = decide (((a.filter soaD).length : Int) = 1) := (by rw [zCM, if_neg (by rw [j3.2]; decide)]); rw [e])
def zBq (d : Delta) : Int := if vName d.origin = false then 2 else if 2048 < (d.rem.length : Int) ∨ 2048 < (d.add.length : Int) then 9 else
 if inR d.fro = false ∨ inR d.til = false ∨ zDh d.til d.fro = false then 14 else if zBl d.rem d.origin = false ∨ zBl d.add d.origin = false then 5 else
 if eqL d.rem (zAV d.rem) = false ∨ eqL d.add (zAV d.add) = false ∨ ((zAu d.rem d.add).length : Int) < d.rem.length then 7 else if zCM d.rem d.origin d.fro = false ∨ zCM d.add d.origin d.til = false then 7 else 0
theorem zA6 {d : Delta} (h : zBq d = 0) : ¬ 2048 < (d.rem.length : Int) ∧ ¬ 2048 < (d.add.length : Int) := by
 unfold zBq at h
 split at h
 · omega
 · split at h
   · omega
   · rename_i h2; exact ⟨fun e => h2 (.inl e), fun e => h2 (.inr e)⟩
theorem zEc {z : Zone} (h : chkP z = 0) : ¬ 2048 < (z.recs.length : Int) := by
 unfold chkP at h
 intro hl
 rw [if_pos hl] at h
 split at h <;> omega

noncomputable def zGM := mkF (fun s : Delta => [zAR s]) (fun s => DltRw s) (fun s => Res.flat (.it .i64 (zBq s)))
theorem zEM {d : Delta} (hp : DltRw d) : zGM [zAR d] = some (Res.flat (.it .i64 (zBq d))) := mkFe (s := (d)) hp
theorem zOP (cx : Cx) (hP : cx.P = Tryz.prog) (hbs : cx.bs = 0) (h42 : cx.orc 42 = some zEJ) (h55 : cx.orc 55 = some zDc) (h24 : cx.orc 24 = some zEh) (h56 : cx.orc 56 = some FIns) (h57 : cx.orc 57 = some zZY) (h39 : cx.orc 39 = some zWQ) (h58 : cx.orc 58 = some FSta) (d : Delta) (hl : DltRw d) : zAg cx Tryz.f26 [] false [zAR d] = some (Res.flat (.it .i64 (zBq d))) := by
 have c42 := zAa h42
 have c55 := zAa h55
 have c24 := zAa h24
 have c56 := zAa h56
 have c57 := zAa h57
 have c39 := zAa h39
 have c58 := zAa h58
 have hl1 := hl.1; have hl2 : ¬ 2048 < (d.rem.length : Int) → LSm d.rem := fun h => hl.r h; have hl3 : ¬ 2048 < (d.add.length : Int) → LSm d.add := fun h => hl.a h
 have hl4 : ¬ 2048 < (d.rem.length : Int) → d.rem.length ≤ 1000000 := fun h => by omega
 have hl5 : ¬ 2048 < (d.add.length : Int) → d.add.length ≤ 1000000 := fun h => by omega
 refine zAf (rs := [.tmp 2]) rfl hbs rfl ?_
 repeat' first
   | (refine bN (fun h => ?_) fun h => ?_)
   | (refine zAI ?_ ?_)
   | simp only [↓cD, cU, cQ, cP, cB, zAD, unD, zAe, zAd, idx, reduceCtorEq, ↓reduceIte, ofV, ofC, zAq, Nat.reduceEqDiff, zAB, cG, implies_true, forall_const, immL, immD, Res.flat, ren, renL, Int.reduceEq, Int.reduceLT, Int.reduceLE, Int.reduceNe, deref, ldD, zAA, zAh, zAC, zAs, cC, c42, c55, c24, c56, c57, c39, c58, zAi, zAk, zCG, zCU, zEV, zWW, zZX, zQi, zWC, ↓zAH, ↓zAL, ↓zAG, ↓zAK, ↓zAF, ↓zAJ, cV, cT, cF, cW, borT, borM, zAl, Res.via, zAt, zAb, refsB, Nat.reduceLT, Nat.reduceSub, Nat.reduceLeDiff, Nat.reduceMul, Nat.reduceAdd, Int.reduceToNat, appK, zAr, zAc, borL, zAj, zAm, zAz, cO, List.replicate, zAx, ofHp, ixOf, hl1, hl2, hl3, hl4, hl5, hP, *]
 all_goals first
   | rfl
   | (simp only [zBq, *, tAA, tAf, not_true_eq_false, not_false_eq_true, or_true, true_or, or_self, or_false, false_or, if_true, if_false]; done)
def zEX (a b : Zone) : Delta × Int := if ¬ chkP a = 0 then (dlt0, 13) else if ¬ chkP b = 0 then (dlt0, 13) else if (a.origin == b.origin) = false then (dlt0, 13) else if zDh (zCg b) (zCg a) = false then (dlt0, 14) else
 (⟨a.origin, zCg a, zCg b, zAu a.recs b.recs, zAu b.recs a.recs⟩, 0)

noncomputable def zGL := mkF (fun s : Zone × Zone => [zAE s.1, zAE s.2]) (fun s => ZRw s.1 ∧ ZRw s.2) (fun s => Res.via (.tup [zAR (zEX s.1 s.2).1, .it .i64 (zEX s.1 s.2).2]))
theorem zEK {z : Zone} {z2 : Zone} (hp : ZRw z ∧ ZRw z2) : zGL [zAE z, zAE z2] = some (Res.via (.tup [zAR (zEX z z2).1, .it .i64 (zEX z z2).2])) := mkFe (s := (z, z2)) hp
theorem zOI (cx : Cx) (hP : cx.P = Tryz.prog) (hbs : cx.bs = 0) (h23 : cx.orc 23 = some zRX) (h25 : cx.orc 25 = some zWI) (h24 : cx.orc 24 = some zEh) (h32 : cx.orc 32 = some FWo) (r23 : cx.rd.contains 23 = true) (r25 : cx.rd.contains 25 = true) (r24 : cx.rd.contains 24 = true) (r32 : cx.rd.contains 32 = true) (z z2 : Zone) (hl : ZRw z ∧ ZRw z2) : zAg cx Tryz.f13 [] true [zAE z, zAE z2] = some (Res.via (.tup [zAR (zEX z z2).1, .it .i64 (zEX z z2).2])) := by
 have c23 := zAa h23
 have d23 := zAo r23 h23
 have c25 := zAa h25
 have d25 := zAo r25 h25
 have c24 := zAa h24
 have d24 := zAo r24 h24
 have c32 := zAa h32
 have d32 := zAo r32 h32
 have hl1 := hl.1; have hl2 := hl.2; have hl5 : chkP z = 0 → z.recs.length ≤ 1000000 := fun h => (by have := zEc h; omega); have hl6 : chkP z2 = 0 → z2.recs.length ≤ 1000000 := fun h => (by have := zEc h; omega)
 refine zC2 (rs := [.cell 4 28, .tmp 5]) rfl hbs rfl ?_
 repeat' first
   | (refine bN (fun h => ?_) fun h => ?_)
   | (refine zAI ?_ ?_)
   | simp (config := { decide := true }) only [↓cD, cU, cQ, cP, cB, zAD, unD, zAe, zAd, idx, reduceCtorEq, ↓reduceIte, ofV, ofC, zAq, Nat.reduceEqDiff, zAB, cG, implies_true, forall_const, immL, immD, Res.flat, ren, renL, Int.reduceEq, Int.reduceLT, Int.reduceLE, Int.reduceNe, deref, ldD, zAA, zAh, zAC, zAs, cC, cS, refs, zAy, okId, tAs, tAq, Nat.reduceMul, Nat.reduceAdd, Nat.reduceLeDiff, zAp, c23, c25, c24, c32, d23, d25, d24, d32, zAi, zAk, zKD, zQb, zEV, zI7, ↓zAH, ↓zAL, ↓zAG, ↓zAK, ↓zAF, ↓zAJ, cV, cT, cF, cW, borT, borM, zAl, Res.via, zAt, zAb, refsB, Nat.reduceLT, Nat.reduceSub, Nat.reduceLeDiff, Nat.reduceMul, Nat.reduceAdd, Int.reduceToNat, appK, zAr, zAc, borL, zAj, zAm, zAz, cO, List.replicate, zAx, ofHp, ixOf, cS, refs, zAy, okId, tAs, tAq, Nat.reduceMul, Nat.reduceAdd, Nat.reduceLeDiff, zAp, hl1, hl2, hl5, hl6, zCn, zHC, updL, hP, *]
 all_goals first
   | rfl
   | (have e : zEX z z2 = (dlt0, 13) := (by simp only [zEX, *, not_true_eq_false, not_false_eq_true, tAA, tAf, if_true, if_false]); rw [e]; exact ⟨_, rfl, rfl⟩)
   | (have e : zEX z z2 = (dlt0, 14) := (by simp only [zEX, *, not_true_eq_false, not_false_eq_true, tAA, tAf, if_true, if_false]); rw [e]; exact ⟨_, rfl, rfl⟩)
   | (have e : zEX z z2 = (⟨z.origin, zCg z, zCg z2, zAu z.recs z2.recs, zAu z2.recs z.recs⟩, 0) := (by simp only [zEX, *, not_true_eq_false, not_false_eq_true, tAA, tAf, if_true, if_false]); rw [e]; exact ⟨_, rfl, rfl⟩)
def newP (o : List UInt8) (l : List Rec) : Zone × Int := if ¬ chkP ⟨o, zAV l⟩ = 0 then (zone0, chkP ⟨o, zAV l⟩) else (⟨o, zAV l⟩, 0)
noncomputable def zP8 := mkF (fun s : List Rec => [zAn s]) (fun s => LSm s) (fun s => Res.front (zAV s).length 16 ((cmpZ (stS ltR s)).map recE))
theorem zWE {a : List Rec} (hp : LSm a) : zP8 [zAn a] = some (Res.front (zAV a).length 16 ((cmpZ (stS ltR a)).map recE)) := zBV (s := a) (fun s s' h => by simp only [tAv, zJz, and_true] at h; simp only [h]) hp

noncomputable def zZ7 := mkF (fun s : (List UInt8) × (List Rec) => [.st s.1, zAn s.2]) (fun s => Sm s.1 ∧ LSm s.2) (fun s => Res.flat (.tup [zAE (newP s.1 s.2).1, .it .i64 (newP s.1 s.2).2]))
theorem zZ6 {s1 : List UInt8} {a : List Rec} (hp : Sm s1 ∧ LSm a) : zZ7 [.st s1, zAn a] = some (Res.flat (.tup [zAE (newP s1 a).1, .it .i64 (newP s1 a).2])) := mkFe (s := (s1, a)) hp
theorem zS8 (cx : Cx) (hP : cx.P = Tryz.prog) (hbs : cx.bs = 0) (h48 : cx.orc 48 = some zP8) (h23 : cx.orc 23 = some zRX) (s1 : List UInt8) (a : List Rec) (hl : Sm s1 ∧ LSm a) : zAg cx Tryz.f77 [] false [.st s1, zAn a] = some (Res.flat (.tup [zAE (newP s1 a).1, .it .i64 (newP s1 a).2])) := by
 have c48 := zAa h48
 have c23 := zAa h23
 have hl1 := hl.1; have hl2 := hl.2; have hz : ZRw ⟨s1, zAV a⟩ := ⟨hl.1, hl.2.sort.sm, hl.2.sort.2⟩
 have ht : ((cmpZ (stS ltR a)).map recE).take (zAV a).length = (zAV a).map recE := zL0
 have hzm : D.agg [.st s1, .vec 16 false ((zAV a).map recE)] = zAE ⟨s1, zAV a⟩ := rfl
 refine zTY (rs := [.cell 4 24, .tmp 5]) rfl hbs rfl ?_
 repeat' first
   | (refine bN (fun h => ?_) fun h => ?_)
   | (refine zAI ?_ ?_)
   | simp only [↓cD, cU, cQ, cP, cB, zAD, unD, zAe, zAd, idx, reduceCtorEq, ↓reduceIte, ofV, ofC, zAq, Nat.reduceEqDiff, zAB, cG, implies_true, forall_const, immL, immD, Res.flat, ren, renL, Int.reduceEq, Int.reduceLT, Int.reduceLE, Int.reduceNe, deref, ldD, zAA, zAh, zAC, zAs, cC, c48, c23, zAi, zAk, zWE, zKD, ↓zAH, ↓zAL, ↓zAG, ↓zAK, ↓zAF, ↓zAJ, cV, cT, cF, cW, borT, borM, zAl, Res.via, zAt, zAb, refsB, Nat.reduceLT, Nat.reduceSub, Nat.reduceLeDiff, Nat.reduceMul, Nat.reduceAdd, Int.reduceToNat, appK, zAr, zAc, borL, zAj, zAm, zAz, cO, List.replicate, zAx, ofHp, ixOf, Res.front, hl1, hl2, hz, ht, hzm, zE0, zDy, zEl, zE1, zEk, zCA, zC8, zDz, zCi, zCJ, Res.row, Res.rowd, hP, *]
 all_goals first
   | rfl
   | (have e : newP s1 a = (⟨s1, zAV a⟩, 0) := (by rw [newP, if_neg (by simp only [*, not_true_eq_false, not_false_eq_true])]); rw [e]; exact ⟨_, _, _, rfl, .inl ⟨_, _, _, _, _, rfl, rfl, zKg _, by rw [ht]; rfl⟩⟩)
   | (have e : newP s1 a = (zone0, chkP ⟨s1, zAV a⟩) := (by rw [newP, if_pos ‹_›]); rw [e]; exact ⟨_, _, _, rfl, .inr ⟨_, _, rfl, rfl⟩⟩)
noncomputable def FWoR := mkF (fun s : (List Rec) × (List Rec) => [zAn s.1, zAn s.2]) (fun s => s.1.length ≤ 1000000 ∧ s.2.length ≤ 1000000) (fun s => Res.row 16 ((zAu s.1 s.2).map recE))
theorem yFK {a : List Rec} {b : List Rec} (hp : a.length ≤ 1000000 ∧ b.length ≤ 1000000) : FWoR [zAn a, zAn b] = some (Res.row 16 ((zAu a b).map recE)) := mkFe (s := (a, b)) hp
theorem zOw (cx : Cx) (hP : cx.P = Tryz.prog) (hbs : cx.bs = 0) (xn65 : cx.orc 65 = none) (xe65 : cx.ext 65 = none) (xf65 : cx.eff 65 = some FSet) (hk4 : cx.kp 4 = some [5, 6, 11, 12, 13]) (a b : List Rec) (hl : a.length ≤ 1000000 ∧ b.length ≤ 1000000) : zAg cx Tryz.f32 [0] false [zAn a, zAn b] = some (Res.row 16 ((zAu a b).map recE)) := by
 have cf65 := fun H nid l => (show zBI cx 65 l H nid = _ from zBo xn65 xe65 xf65)
 have hl2 := hl.2
 have hw : ∀ k : Nat, (k : Int) < a.length → IntKind.i64.wrap ((k : Int) + 1) = ((k + 1 : Nat) : Int) := zBF (by omega)
 refine zCv (rs := [.tmp 4]) rfl hbs rfl ?_
 repeat' first
   | (refine zAv (σ := Nat) (fun s => [.map 0, .own 1 0 (zAu (a.take s) b).length, zAn a, .it .i64 a.length, .it .i64 s]) (fun s => [.mp ((setR b).map entR), .row 16 true ((zAu (a.take s) b).map recE)]) (fun s => s ≤ a.length) (fun s => a.length - s) [5, 6, 11, 12, 13] hbs (by exact hk4) (fr2 (fun _ => zFV _) fun _ => zA2 (fun _ => rfl)) (fun s js => ?_) (s := 0) [1, 2] ?_ ?_ ?_ ?_ ?_)
   | (refine bN (fun h => ?_) fun h => ?_)
   | (refine zAI ?_ ?_)
   | simp only [↓cD, cU, cQ, cP, cB, zAD, unD, zAe, zAd, idx, reduceCtorEq, ↓reduceIte, ofV, ofC, zAq, Nat.reduceEqDiff, zAB, cG, implies_true, forall_const, immL, immD, Res.flat, ren, renL, Int.reduceEq, Int.reduceLT, Int.reduceLE, Int.reduceNe, deref, ldD, zAA, zAh, zAC, zAs, cC, ↓zAH, ↓zAL, ↓zAG, ↓zAK, ↓zAF, ↓zAJ, cV, cT, cF, cW, borT, borM, zAl, Res.via, zAt, zAb, refsB, Nat.reduceLT, Nat.reduceSub, Nat.reduceLeDiff, Nat.reduceMul, Nat.reduceAdd, Int.reduceToNat, appK, zAr, zAc, borL, zAj, zAm, zAz, cO, List.replicate, zAx, ofHp, ixOf, hw, hl2, zPW, zLq, zO8, zPx, hP, *]
 all_goals first
   | rfl
   | omega
   | (have hq := zBj (a.take s) b; rw [tAk] at hq; omega)
   | (refine ⟨[0, 1], s + 1, ?_, ?_, ?_, ?_, by omega, by omega⟩ <;> (try rw [show zAu (a.take (s + 1)) b = zAu (a.take s) b from zNc (by omega) (by simp only [*, tBI])]) <;> (first | rfl | (simp only [zAp, refs, ren, cR, Nat.reduceEqDiff, ofHp, ixOf]; first | rfl | (simp; done))))
   | (refine ⟨[0, 4], s + 1, ?_, ?_, ?_, ?_, by omega, by omega⟩ <;> (try rw [show zAu (a.take (s + 1)) b = zAu (a.take s) b ++ [a[s]!] from zH5 (by omega) (by simp only [*, tBK])]) <;> (try simp only [tAh, tAp, tAu, tAZ]) <;> (first | rfl | (simp only [zAp, refs, ren, cR, Nat.reduceEqDiff, ofHp, ixOf]; first | rfl | (simp; done))))
   | (first | rfl | (simp only [zAp, refs, ren, cR, Nat.reduceEqDiff, ofHp, ixOf]; first | rfl | (simp; done)))
   | (rw [zAS (by omega)]; exact ⟨_, _, _, _, rfl, rfl, by simp, zBJ (fun _ => rfl), rfl⟩)
def zEp (z : Zone) (o : List UInt8) (n : Int) (rem add : List Rec) : Zone × Int :=
 if ¬ chkP z = 0 then (zone0, 15) else if (z.origin == o) = false then (zone0, 15) else if ¬ zCg z = n then (zone0, 15) else if 0 < ((zAu rem z.recs).length : Int) then (zone0, 15) else
 if ((zDK (zAu z.recs rem) add).length : Int) < (zAu z.recs rem).length then (zone0, 15) else if ¬ (newP o (zAu z.recs rem ++ add)).2 = 0 then (zone0, 13) else ((newP o (zAu z.recs rem ++ add)).1, 0)
def appP (z : Zone) (d : Delta) : Zone × Int := if ¬ zBq d = 0 then (zone0, zBq d) else zEp z d.origin d.fro d.rem d.add
def zGb (z : Zone) (d : Delta) : Zone × Int := if ¬ zBq d = 0 then (zone0, zBq d) else zEp z d.origin d.til d.add d.rem

noncomputable def zWA := mkF (fun s : Zone × (List UInt8) × Int × (List Rec) × (List Rec) => [zAE s.1, .st s.2.1, .it .i64 s.2.2.1, zAn s.2.2.2.1, zAn s.2.2.2.2]) (fun s => ZRw s.1 ∧ Sm s.2.1 ∧ LSm s.2.2.2.1 ∧ LSm s.2.2.2.2 ∧ s.2.2.2.1.length ≤ 2048 ∧ s.2.2.2.2.length ≤ 2048) (fun s => Res.via (.tup [zAE (zEp s.1 s.2.1 s.2.2.1 s.2.2.2.1 s.2.2.2.2).1, .it .i64 (zEp s.1 s.2.1 s.2.2.1 s.2.2.2.1 s.2.2.2.2).2]))
theorem zP6 {z : Zone} {s1 : List UInt8} {n1 : Int} {a : List Rec} {b : List Rec} (hp : ZRw z ∧ Sm s1 ∧ LSm a ∧ LSm b ∧ a.length ≤ 2048 ∧ b.length ≤ 2048) : zWA [zAE z, .st s1, .it .i64 n1, zAn a, zAn b] = some (Res.via (.tup [zAE (zEp z s1 n1 a b).1, .it .i64 (zEp z s1 n1 a b).2])) := mkFe (s := (z, s1, n1, a, b)) hp
theorem zSS (cx : Cx) (hP : cx.P = Tryz.prog) (hbs : cx.bs = 0) (h23 : cx.orc 23 = some zRX) (h25 : cx.orc 25 = some zWI) (h32 : cx.orc 32 = some FWoR) (h76 : cx.orc 76 = some FMin) (h77 : cx.orc 77 = some zZ7) (z : Zone) (s1 : List UInt8) (n1 : Int) (a b : List Rec) (hl : ZRw z ∧ Sm s1 ∧ LSm a ∧ LSm b ∧ a.length ≤ 2048 ∧ b.length ≤ 2048) : zAg cx Tryz.f37 [] true [zAE z, .st s1, .it .i64 n1, zAn a, zAn b] = some (Res.via (.tup [zAE (zEp z s1 n1 a b).1, .it .i64 (zEp z s1 n1 a b).2])) := by
 have c23 := zAa h23
 have c25 := zAa h25
 have c32 := zAa h32
 have c76 := zAa h76
 have c77 := zAa h77
 have hl1 := hl.1; have hl2 := hl.2.1; have hl3 := hl.2.2.1.1; have hl5 := hl.2.2.2.1
 have hl6 : chkP z = 0 → z.recs.length ≤ 1000000 := fun h => (by have := zEc h; omega)
 have hl7 : chkP z = 0 → LSm (zAu z.recs a) := fun h => (hl.1.l (zEc h)).wo a
 have hl8 : chkP z = 0 → LSm ((zAu z.recs a) ++ b) := fun h => (hl7 h).app hl.2.2.2.1 (by have := zEc h; have := zBj z.recs a; have := hl.2.2.2.2.2; omega)
 have hap : chkP z = 0 → (((zAu z.recs a).length + b.length) * 160 ≤ 140737488355328) = True := fun h => by have := zEc h; have := zBj z.recs a; have := hl.2.2.2.2.2; simp only [eq_iff_iff, iff_true]; omega
 have hta : List.take ((zAu z.recs a).length + b.length) (List.map recE ((zAu z.recs a) ++ b)) = List.map recE ((zAu z.recs a) ++ b) := tAM (by simp)
 refine zC2 (rs := [.cell 10 24, .tmp 11]) rfl hbs rfl ?_
 repeat' first
   | (refine bN (fun h => ?_) fun h => ?_)
   | (refine zAI ?_ ?_)
   | simp (config := { decide := true }) only [↓cD, cU, cQ, cP, cB, zAD, unD, zAe, zAd, idx, reduceCtorEq, ↓reduceIte, ofV, ofC, zAq, Nat.reduceEqDiff, zAB, cG, implies_true, forall_const, immL, immD, Res.flat, ren, renL, Int.reduceEq, Int.reduceLT, Int.reduceLE, Int.reduceNe, deref, ldD, zAA, zAh, zAC, zAs, cC, c23, c25, c32, c76, c77, zAi, zAk, zKD, zQb, yFK, yFZ, zZ6, ↓zAH, ↓zAL, ↓zAG, ↓zAK, ↓zAF, ↓zAJ, cV, cT, cF, cW, borT, borM, zAl, Res.via, zAt, zAb, refsB, Nat.reduceLT, Nat.reduceSub, Nat.reduceLeDiff, Nat.reduceMul, Nat.reduceAdd, Int.reduceToNat, appK, zAr, zAc, borL, zAj, zAm, zAz, cO, List.replicate, zAx, ofHp, ixOf, hl1, hl2, hl3, hl5, hl6, hl7, hl8, hta, hap, zE0, zDy, zEl, zE1, zEk, zCA, zC8, zDz, zCi, zCJ, Res.row, Res.rowd, hP, *]
 all_goals first
   | rfl
   | omega
   | (have q : zEp z s1 n1 a b = (zone0, 15) := (by simp only [zEp, *, not_true_eq_false, not_false_eq_true, tAA, tAf, if_true, if_false]); rw [q]; exact ⟨_, rfl, rfl⟩)
   | (have q : zEp z s1 n1 a b = (zone0, 13) := (by simp only [zEp, *, not_true_eq_false, not_false_eq_true, tAA, tAf, if_true, if_false]); rw [q]; exact ⟨_, rfl, rfl⟩)
   | (have q : zEp z s1 n1 a b = ((newP s1 ((zAu z.recs a) ++ b)).1, 0) := (by simp only [zEp, *, not_true_eq_false, not_false_eq_true, tAA, tAf, if_true, if_false]); rw [q]; exact ⟨_, rfl, rfl⟩)
noncomputable def zIt := mkF (fun s : Zone × Delta => [zAE s.1, zAR s.2]) (fun s => ZRw s.1 ∧ DltRw s.2) (fun s => Res.via (.tup [zAE (zGb s.1 s.2).1, .it .i64 (zGb s.1 s.2).2]))
theorem zF3 {z : Zone} {d : Delta} (hp : ZRw z ∧ DltRw d) : zIt [zAE z, zAR d] = some (Res.via (.tup [zAE (zGb z d).1, .it .i64 (zGb z d).2])) := mkFe (s := (z, d)) hp
theorem zOl (cx : Cx) (hP : cx.P = Tryz.prog) (hbs : cx.bs = 0) (h26 : cx.orc 26 = some zGM) (h37 : cx.orc 37 = some zWA) (z : Zone) (d : Delta) (hl : ZRw z ∧ DltRw d) : zAg cx Tryz.f18 [] true [zAE z, zAR d] = some (Res.via (.tup [zAE (zGb z d).1, .it .i64 (zGb z d).2])) := by
 have c26 := zAa h26
 have c37 := zAa h37
 have hl1 := hl.1; have hl2 := hl.2; have hl3 := hl.2.1; have hl4 : zBq d = 0 → LSm d.rem := fun h => hl.2.r (zA6 h).1; have hl5 : zBq d = 0 → LSm d.add := fun h => hl.2.a (zA6 h).2; have hl6 : zBq d = 0 → d.rem.length ≤ 2048 := fun h => (by have := (zA6 h).1; omega); have hl7 : zBq d = 0 → d.add.length ≤ 2048 := fun h => (by have := (zA6 h).2; omega)
 refine zC2 (rs := [.cell 4 24, .tmp 5]) rfl hbs rfl ?_
 repeat' first
   | (refine bN (fun h => ?_) fun h => ?_)
   | (refine zAI ?_ ?_)
   | simp only [↓cD, cU, cQ, cP, cB, zAD, unD, zAe, zAd, idx, reduceCtorEq, ↓reduceIte, ofV, ofC, zAq, Nat.reduceEqDiff, zAB, cG, implies_true, forall_const, immL, immD, Res.flat, ren, renL, Int.reduceEq, Int.reduceLT, Int.reduceLE, Int.reduceNe, deref, ldD, zAA, zAh, zAC, zAs, cC, c26, c37, zAi, zAk, zEM, zP6, ↓zAH, ↓zAL, ↓zAG, ↓zAK, ↓zAF, ↓zAJ, cV, cT, cF, cW, borT, borM, zAl, Res.via, zAt, zAb, refsB, Nat.reduceLT, Nat.reduceSub, Nat.reduceLeDiff, Nat.reduceMul, Nat.reduceAdd, Int.reduceToNat, appK, zAr, zAc, borL, zAj, zAm, zAz, cO, List.replicate, zAx, ofHp, ixOf, hl1, hl2, hl3, hl4, hl5, hl6, hl7, hP, *]
 all_goals first
   | rfl
   | (have e : zGb z d = (zone0, zBq d) := (by rw [zGb, if_pos ‹_›]); rw [e]; exact ⟨_, rfl, rfl⟩)
   | (have e : zGb z d = zEp z d.origin d.til d.add d.rem := (by rw [zGb, if_neg (by simp only [*, not_true_eq_false, not_false_eq_true])]); rw [e]; exact ⟨_, rfl, rfl⟩)
noncomputable def zMA := mkF (fun s : Zone × Delta => [zAE s.1, zAR s.2]) (fun s => ZRw s.1 ∧ DltRw s.2) (fun s => Res.via (.tup [zAE (appP s.1 s.2).1, .it .i64 (appP s.1 s.2).2]))
theorem zF8 {z : Zone} {d : Delta} (hp : ZRw z ∧ DltRw d) : zMA [zAE z, zAR d] = some (Res.via (.tup [zAE (appP z d).1, .it .i64 (appP z d).2])) := mkFe (s := (z, d)) hp
theorem zTx (cx : Cx) (hP : cx.P = Tryz.prog) (hbs : cx.bs = 0) (h26 : cx.orc 26 = some zGM) (h37 : cx.orc 37 = some zWA) (z : Zone) (d : Delta) (hl : ZRw z ∧ DltRw d) : zAg cx Tryz.f16 [] true [zAE z, zAR d] = some (Res.via (.tup [zAE (appP z d).1, .it .i64 (appP z d).2])) := by
 have c26 := zAa h26
 have c37 := zAa h37
 have hl1 := hl.1; have hl2 := hl.2; have hl3 := hl.2.1; have hl4 : zBq d = 0 → LSm d.rem := fun h => hl.2.r (zA6 h).1; have hl5 : zBq d = 0 → LSm d.add := fun h => hl.2.a (zA6 h).2; have hl6 : zBq d = 0 → d.rem.length ≤ 2048 := fun h => (by have := (zA6 h).1; omega); have hl7 : zBq d = 0 → d.add.length ≤ 2048 := fun h => (by have := (zA6 h).2; omega)
 refine zC2 (rs := [.cell 4 24, .tmp 5]) rfl hbs rfl ?_
 repeat' first
   | (refine bN (fun h => ?_) fun h => ?_)
   | (refine zAI ?_ ?_)
   | simp only [↓cD, cU, cQ, cP, cB, zAD, unD, zAe, zAd, idx, reduceCtorEq, ↓reduceIte, ofV, ofC, zAq, Nat.reduceEqDiff, zAB, cG, implies_true, forall_const, immL, immD, Res.flat, ren, renL, Int.reduceEq, Int.reduceLT, Int.reduceLE, Int.reduceNe, deref, ldD, zAA, zAh, zAC, zAs, cC, c26, c37, zAi, zAk, zEM, zP6, ↓zAH, ↓zAL, ↓zAG, ↓zAK, ↓zAF, ↓zAJ, cV, cT, cF, cW, borT, borM, zAl, Res.via, zAt, zAb, refsB, Nat.reduceLT, Nat.reduceSub, Nat.reduceLeDiff, Nat.reduceMul, Nat.reduceAdd, Int.reduceToNat, appK, zAr, zAc, borL, zAj, zAm, zAz, cO, List.replicate, zAx, ofHp, ixOf, hl1, hl2, hl3, hl4, hl5, hl6, hl7, hP, *]
 all_goals first
   | rfl
   | (have e : appP z d = (zone0, zBq d) := (by rw [appP, if_pos ‹_›]); rw [e]; exact ⟨_, rfl, rfl⟩)
   | (have e : appP z d = zEp z d.origin d.fro d.rem d.add := (by rw [appP, if_neg (by simp only [*, not_true_eq_false, not_false_eq_true])]); rw [e]; exact ⟨_, rfl, rfl⟩)
abbrev RecS := { r : Rec // RSm r }
theorem rsm0 : RSm rec0 := by refine ⟨by simp [rec0, Sm], by simp [rec0, dat0, Sm], by simp [rec0, dat0, Sm], by simp [rec0, dat0, Sm], ?_, ?_⟩ <;> (constructor <;> decide)
instance : Inhabited RecS := ⟨⟨rec0, rsm0⟩⟩
def cmpS (a b : RecS) : Int := cmpR a.1 b.1
theorem cmp_sub : Cmp cmpS := cmp_rec.on Subtype.val
def zE7 (l : List Rec) (h : ∀ r ∈ l, RSm r) : List RecS := List.pmap Subtype.mk l h
theorem zLb {l : List Rec} {h : ∀ r ∈ l, RSm r} : (zE7 l h).map (·.1) = l := by
 unfold zE7; rw [List.map_pmap]; simp
theorem zLc {l : List Rec} {h : ∀ r ∈ l, RSm r} : (zE7 l h).length = l.length := by unfold zE7; rw [List.length_pmap]
open Classical in
noncomputable def zCk (l : List Rec) : List Rec := if h : ∀ r ∈ l, RSm r then (pdqL cmpS (zE7 l h)).map (·.1) else l
theorem zH3 {l : List Rec} (h : ∀ r ∈ l, RSm r) : (zCk l).Perm l ∧ ∀ i j, i < j → j < (zCk l).length → ¬ cmpR (zCk l)[j]! (zCk l)[i]! < 0 := by
 obtain ⟨h1, h2⟩ := zHS cmp_sub (zE7 l h)
 unfold zCk
 rw [dif_pos h]
 constructor
 · have := h1.map (·.1); rwa [zLb] at this
 · intro i j hij hj
   rw [tAI] at hj
   have h3 : ¬ cmpR (pdqL cmpS (zE7 l h))[j]!.1 (pdqL cmpS (zE7 l h))[i]!.1 < 0 := h2 i j hij hj
   rw [getElem!_pos ((pdqL cmpS (zE7 l h)).map (·.1)) j (by rw [tAI]; exact hj), getElem!_pos ((pdqL cmpS (zE7 l h)).map (·.1)) i (by rw [tAI]; omega), List.getElem_map, List.getElem_map]
   rw [getElem!_pos (pdqL cmpS (zE7 l h)) j hj, getElem!_pos (pdqL cmpS (zE7 l h)) i (by omega)] at h3
   exact h3
theorem zPm {l : List Rec} (h : ∀ r ∈ l, RSm r) : (zCk l).length = l.length := (zH3 h).1.length_eq
structure JnP (l : List Rec) : Prop where
 n : l.length ≤ 1000000
 r : ∀ x ∈ l, RSm x
noncomputable def FSR := mkE (fun l : List Rec => [.own 0 0 l.length, .fn (.func 80) [] []]) (fun l => .row 16 true (l.map recE)) (fun l => JnP l) (fun l => (.tup [], [.row 16 true ((zCk l).map recE)]))
theorem yJp {l : List Rec} (hp : JnP l) : FSR [.own 0 0 l.length, .fn (.func 80) [] []] [.row 16 true (l.map recE)] = some (.tup [], [.row 16 true ((zCk l).map recE)]) :=
 zD3 (s := l) (fun s s' _ _ _ h2 => by rw [zCO (Blk.row.inj h2).2.2]) hp
theorem EffOK.of {P : Program} {g : FuncId} {F G : List D → List Blk → Option (D × List Blk)} (h : EffOK P g G) (hF : ∀ ds hs r, F ds hs = some r → G ds hs = some r) : EffOK P g F := ⟨h.1, fun ds hs r hs' hr => h.2 ds hs r hs' (hF ds hs _ hr)⟩
theorem zPK {P : Program} {g : FuncId} (h : EffOK P g (mkE (fun l : List RecS => [.own 0 0 l.length, .fn (.func 80) [] []]) (fun l => .row 16 true (l.map fun x => .agg (recL x.1))) (fun l => l.length < 4611686018427387904) (fun l => (.tup [], [.row 16 true ((pdqL cmpS l).map fun x => .agg (recL x.1))])))) : EffOK P g FSR :=
 h.of fun ds hs r hr => by
   obtain ⟨l, rfl, rfl, hp, rfl⟩ := zHV hr
   have e1 : ∀ m : List RecS, (m.map fun x => D.agg (recL x.1)) = (m.map (·.1)).map recE := fun m => by rw [List.map_map]; rfl
   have h2 := yBu (enc := fun l : List RecS => [.own 0 0 l.length, .fn (.func 80) [] []]) (blk := fun l => .row 16 true (l.map fun x => .agg (recL x.1))) (pre := fun l => l.length < 4611686018427387904) (out := fun l => (.tup [], [.row 16 true ((pdqL cmpS l).map fun x => .agg (recL x.1))])) (s := zE7 l hp.r) (fun s s' _ hb => by
     have hb := (Blk.row.inj hb).2.2
     rw [e1, e1] at hb
     have := zCO hb
     have hs : s = s' := (List.map_inj_right (fun a b hab => Subtype.ext hab)).1 this
     rw [hs]) (by have := hp.n; simp only [zLc]; omega)
   have q2 : ((zE7 l hp.r).map fun x => D.agg (recL x.1)) = l.map recE := by rw [e1, zLb]
   have q3 : ((pdqL cmpS (zE7 l hp.r)).map fun x => D.agg (recL x.1)) = (zCk l).map recE := by rw [e1]; unfold zCk; rw [dif_pos hp.r]
   simp only [zLc, q2, q3] at h2
   exact h2

noncomputable def zQw := mkF (fun s : (List Rec) => [zAn s]) (fun s => s.length ≤ 1000000) (fun s => Res.row 16 (s.map recE))
theorem zW4 {a : List Rec} (hp : a.length ≤ 1000000) : zQw [zAn a] = some (Res.row 16 (a.map recE)) := mkFe (s := (a)) hp
noncomputable def zRV := mkF (fun s : (List Rec) × (List Rec) => [zAn s.1, zAn s.2]) (fun s => LSm s.1 ∧ LSm s.2 ∧ s.1.length + s.2.length ≤ 1000000) (fun s => Res.flat (zAn (zCk (s.1 ++ s.2))))
theorem zKB {a : List Rec} {b : List Rec} (hp : LSm a ∧ LSm b ∧ a.length + b.length ≤ 1000000) : zRV [zAn a, zAn b] = some (Res.flat (zAn (zCk (a ++ b)))) := mkFe (s := (a, b)) hp
theorem zTg (cx : Cx) (hP : cx.P = Tryz.prog) (hbs : cx.bs = 0) (h64 : cx.orc 64 = some zQw) (xn79 : cx.orc 79 = none) (xe79 : cx.ext 79 = none) (xf79 : cx.eff 79 = some FSR) (a b : List Rec) (hl : LSm a ∧ LSm b ∧ a.length + b.length ≤ 1000000) : zAg cx Tryz.f40 [] false [zAn a, zAn b] = some (Res.flat (zAn (zCk (a ++ b)))) := by
 have c64 := zAa h64
 have cf79 := fun H nid l => (show zBI cx 79 l H nid = _ from zBo xn79 xe79 xf79)
 have hl1 := hl.1.1
 have hap : ((a.length + b.length) * 160 ≤ 140737488355328) = True := by have := hl.2.2; simp only [eq_iff_iff, iff_true]; omega
 have hj : JnP (a ++ b) := ⟨by rw [tAh]; exact hl.2.2, fun x hx => by rcases tAz.1 hx with h | h; exact hl.1.2 x h; exact hl.2.1.2 x h⟩
 have hsr : FSR [.own 0 0 (a.length + b.length), .fn (.func 80) [] []] [.row 16 true ((a ++ b).map recE)] = some (.tup [], [.row 16 true ((zCk (a ++ b)).map recE)]) := by have := yJp hj; rwa [tAh] at this
 have hta : (zCk (a ++ b)).length = a.length + b.length := by rw [zPm hj.r, tAh]
 refine zFw (rs := [.tmp 4]) rfl hbs rfl ?_
 repeat' first
   | (refine bN (fun h => ?_) fun h => ?_)
   | (refine zAI ?_ ?_)
   | simp (config := { decide := true }) only [↓cD, cU, cQ, cP, cB, zAD, unD, zAe, zAd, idx, reduceCtorEq, ↓reduceIte, ofV, ofC, zAq, Nat.reduceEqDiff, zAB, cG, implies_true, forall_const, immL, immD, Res.flat, ren, renL, Int.reduceEq, Int.reduceLT, Int.reduceLE, Int.reduceNe, deref, ldD, zAA, zAh, zAC, zAs, cC, c64, zAi, zAk, zW4, ↓zAH, ↓zAL, ↓zAG, ↓zAK, ↓zAF, ↓zAJ, cV, cT, cF, cW, borT, borM, zAl, Res.via, zAt, zAb, refsB, Nat.reduceLT, Nat.reduceSub, Nat.reduceLeDiff, Nat.reduceMul, Nat.reduceAdd, Int.reduceToNat, appK, zAr, zAc, borL, zAj, zAm, zAz, cO, List.replicate, zAx, ofHp, ixOf, hl1, hap, hsr, zD5, zEe, zEd, hta, zE0, zDy, zEl, zE1, zEk, zCA, zC8, zDz, zCi, zCJ, Res.row, Res.rowd, hP, *]
 all_goals first
   | rfl
   | omega
   | exact ⟨_, _, _, _, rfl, rfl, by rw [tAI, hta], zBJ (fun _ => rfl), rfl⟩
noncomputable def mrgP (d e : Delta) : Delta := ⟨d.origin, d.fro, e.til, zCk (zAu d.rem e.add ++ zAu e.rem d.add), zCk (zAu d.add e.rem ++ zAu e.add d.rem)⟩
noncomputable def zB9 (d e : Delta) : Delta × Int := if ¬ zBq d = 0 then (dlt0, zBq d) else if ¬ zBq e = 0 then (dlt0, zBq e) else if (d.origin == e.origin) = false then (dlt0, 15) else if ¬ d.til = e.fro then (dlt0, 15) else
 if ((zAu d.rem e.rem).length : Int) < d.rem.length then (dlt0, 7) else if ((zAu d.add e.add).length : Int) < d.add.length then (dlt0, 7) else if ¬ zBq (mrgP d e) = 0 then (dlt0, zBq (mrgP d e)) else (mrgP d e, 0)
theorem zPl {a b : List Rec} (h : LSm a ∧ LSm b ∧ a.length + b.length ≤ 1000000) : LSm (zCk (a ++ b)) := by
 have hr : ∀ x ∈ a ++ b, RSm x := fun x hx => by rcases tAz.1 hx with q | q; exact h.1.2 x q; exact h.2.1.2 x q
 exact ⟨by rw [zPm hr, tAh]; exact h.2.2, fun x hx => hr x ((zH3 hr).1.mem_iff.1 hx)⟩
theorem yD6 {d e : Delta} (hd : DltRw d) (he : DltRw e) (h1 : zBq d = 0) (h2 : zBq e = 0) : DltRw (mrgP d e) := by
 obtain ⟨a1, a2⟩ := zA6 h1
 obtain ⟨b1, b2⟩ := zA6 h2
 exact ⟨hd.1, (zPl (zHl (hd.r a1) (he.r b1) a1 b1)).dr, (zPl (zHl (hd.a a2) (he.a b2) a2 b2)).dr⟩

noncomputable def zIz := mkF (fun s : Delta × Delta => [zAR s.1, zAR s.2]) (fun s => DltRw s.1 ∧ DltRw s.2) (fun s => Res.via (.tup [zAR (zB9 s.1 s.2).1, .it .i64 (zB9 s.1 s.2).2]))
theorem zJc {d : Delta} {e : Delta} (hp : DltRw d ∧ DltRw e) : zIz [zAR d, zAR e] = some (Res.via (.tup [zAR (zB9 d e).1, .it .i64 (zB9 d e).2])) := mkFe (s := (d, e)) hp
theorem zK3 (cx : Cx) (hP : cx.P = Tryz.prog) (hbs : cx.bs = 0) (h26 : cx.orc 26 = some zGM) (h39 : cx.orc 39 = some zWQ) (h32 : cx.orc 32 = some FWo) (h40 : cx.orc 40 = some zRV) (r26 : cx.rd.contains 26 = true) (r39 : cx.rd.contains 39 = true) (r32 : cx.rd.contains 32 = true) (r40 : cx.rd.contains 40 = true) (d e : Delta) (hl : DltRw d ∧ DltRw e) : zAg cx Tryz.f21 [] true [zAR d, zAR e] = some (Res.via (.tup [zAR (zB9 d e).1, .it .i64 (zB9 d e).2])) := by
 have c26 := zAa h26
 have d26 := zAo r26 h26
 have c39 := zAa h39
 have d39 := zAo r39 h39
 have c32 := zAa h32
 have d32 := zAo r32 h32
 have c40 := zAa h40
 have d40 := zAo r40 h40
 have hl1 := hl.1; have hl2 := hl.2; have hl3 : zBq d = 0 → d.rem.length ≤ 1000000 := fun h => (by have := (zA6 h).1; omega); have hl4 : zBq d = 0 → d.add.length ≤ 1000000 := fun h => (by have := (zA6 h).2; omega); have hl5 : zBq e = 0 → e.rem.length ≤ 1000000 := fun h => (by have := (zA6 h).1; omega); have hl6 : zBq e = 0 → e.add.length ≤ 1000000 := fun h => (by have := (zA6 h).2; omega)
 have hm1 : zBq d = 0 → zBq e = 0 → zRV [zAn (zAu d.rem e.add), zAn (zAu e.rem d.add)] = some (Res.flat (zAn (zCk (zAu d.rem e.add ++ zAu e.rem d.add)))) := fun h1 h2 => zKB (zHl (hl.1.r (zA6 h1).1) (hl.2.r (zA6 h2).1) (zA6 h1).1 (zA6 h2).1)
 have hm2 : zBq d = 0 → zBq e = 0 → zRV [zAn (zAu d.add e.rem), zAn (zAu e.add d.rem)] = some (Res.flat (zAn (zCk (zAu d.add e.rem ++ zAu e.add d.rem)))) := fun h1 h2 => zKB (zHl (hl.1.a (zA6 h1).2) (hl.2.a (zA6 h2).2) (zA6 h1).2 (zA6 h2).2)
 have hm3 : zBq d = 0 → zBq e = 0 → DltRw (mrgP d e) := fun h1 h2 => yD6 hl.1 hl.2 h1 h2
 have hmr : (⟨d.origin, d.fro, e.til, zCk (zAu d.rem e.add ++ zAu e.rem d.add), zCk (zAu d.add e.rem ++ zAu e.add d.rem)⟩ : Delta) = mrgP d e := rfl
 refine zC2 (rs := [.cell 4 28, .tmp 5]) rfl hbs rfl ?_
 repeat' first
   | (refine bN (fun h => ?_) fun h => ?_)
   | (refine zAI ?_ ?_)
   | simp (config := { decide := true }) only [↓cD, cU, cQ, cP, cB, zAD, unD, zAe, zAd, idx, reduceCtorEq, ↓reduceIte, ofV, ofC, zAq, Nat.reduceEqDiff, zAB, cG, implies_true, forall_const, immL, immD, Res.flat, ren, renL, Int.reduceEq, Int.reduceLT, Int.reduceLE, Int.reduceNe, deref, ldD, zAA, zAh, zAC, zAs, cC, cS, refs, zAy, okId, tAs, tAq, Nat.reduceMul, Nat.reduceAdd, Nat.reduceLeDiff, zAp, c26, c39, c32, c40, d26, d39, d32, d40, zAi, zAk, zEM, zQi, zI7, zKB, ↓zAH, ↓zAL, ↓zAG, ↓zAK, ↓zAF, ↓zAJ, cV, cT, cF, cW, borT, borM, zAl, Res.via, zAt, zAb, refsB, Nat.reduceLT, Nat.reduceSub, Nat.reduceLeDiff, Nat.reduceMul, Nat.reduceAdd, Int.reduceToNat, appK, zAr, zAc, borL, zAj, zAm, zAz, cO, List.replicate, zAx, ofHp, ixOf, cS, refs, zAy, okId, tAs, tAq, Nat.reduceMul, Nat.reduceAdd, Nat.reduceLeDiff, zAp, hl1, hl2, hl3, hl4, hl5, hl6, hm1, hm2, hm3, hmr, zCn, zHC, updL, hP, *]
 all_goals first
   | rfl
   | (have q : zB9 d e = (dlt0, zBq d) := (by simp only [zB9, *, not_true_eq_false, not_false_eq_true, tAA, tAf, if_true, if_false]); rw [q]; exact ⟨_, rfl, rfl⟩)
   | (have q : zB9 d e = (dlt0, zBq e) := (by simp only [zB9, *, not_true_eq_false, not_false_eq_true, tAA, tAf, if_true, if_false]); rw [q]; exact ⟨_, rfl, rfl⟩)
   | (have q : zB9 d e = (dlt0, 15) := (by simp only [zB9, *, not_true_eq_false, not_false_eq_true, tAA, tAf, if_true, if_false]); rw [q]; exact ⟨_, rfl, rfl⟩)
   | (have q : zB9 d e = (dlt0, 7) := (by simp only [zB9, *, not_true_eq_false, not_false_eq_true, tAA, tAf, if_true, if_false]); rw [q]; exact ⟨_, rfl, rfl⟩)
   | (have q : zB9 d e = (dlt0, zBq (mrgP d e)) := (by simp only [zB9, *, not_true_eq_false, not_false_eq_true, tAA, tAf, if_true, if_false]); rw [q]; exact ⟨_, rfl, rfl⟩)
   | (have q : zB9 d e = (mrgP d e, 0) := (by simp only [zB9, *, not_true_eq_false, not_false_eq_true, tAA, tAf, if_true, if_false]); rw [q]; exact ⟨_, rfl, rfl⟩)
def zJA : Rec := ⟨[101, 120, 97, 109, 112, 108, 101, 46], 2, 60, { dat0 with host := [110, 115, 46, 97, 46] }⟩
def zB7 (s : Int) : Rec := ⟨[101, 120, 97, 109, 112, 108, 101, 46], 6, 60, { dat0 with host := [110, 115, 46, 97, 46], mail := [109, 46, 97, 46], a := s }⟩
def recA (t : Int) : Rec := ⟨[97, 46, 101, 120, 97, 109, 112, 108, 101, 46], 1, t, { dat0 with adr := ⟨false, 0, 167772161⟩ }⟩
def zA : Zone := ⟨[101, 120, 97, 109, 112, 108, 101, 46], [zJA, zB7 1]⟩
def zB : Zone := ⟨[101, 120, 97, 109, 112, 108, 101, 46], [zJA, zB7 2, recA 60]⟩
def zC : Zone := ⟨[101, 120, 97, 109, 112, 108, 101, 46], [zJA, zB7 3, recA 30]⟩
def dAB : Delta := ⟨[101, 120, 97, 109, 112, 108, 101, 46], 1, 2, [zB7 1], [zB7 2, recA 60]⟩
def dBC : Delta := ⟨[101, 120, 97, 109, 112, 108, 101, 46], 2, 3, [zB7 2, recA 60], [zB7 3, recA 30]⟩
def mAC : Delta := ⟨[101, 120, 97, 109, 112, 108, 101, 46], 1, 3, [zB7 1], [zB7 3, recA 30]⟩
def verI (k : Nat) : List D := if k = 0 then [.it .i64 1, .it .i64 (-1)] else if k = 1 then [.it .i64 2, .it .i64 60] else [.it .i64 3, .it .i64 30]
def verZ (k : Nat) : Zone := if k = 0 then zA else if k = 1 then zB else zC

theorem yCK (cx : Cx) (hP : cx.P = Tryz.prog) (hbs : cx.bs = 0)   : zAg cx Tryz.f31 [] false (verI 0) = some (Res.flat (zAE (verZ 0))) := by
 obtain ⟨P, a, b, c⟩ := cx
 simp only at hP hbs
 subst hP
 subst hbs
 kernel_rfl
theorem yCJ (cx : Cx) (hP : cx.P = Tryz.prog) (hbs : cx.bs = 0)   : zAg cx Tryz.f31 [] false (verI 1) = some (Res.flat (zAE (verZ 1))) := by
 obtain ⟨P, a, b, c⟩ := cx
 simp only at hP hbs
 subst hP
 subst hbs
 kernel_rfl
theorem yCI (cx : Cx) (hP : cx.P = Tryz.prog) (hbs : cx.bs = 0)   : zAg cx Tryz.f31 [] false (verI 2) = some (Res.flat (zAE (verZ 2))) := by
 obtain ⟨P, a, b, c⟩ := cx
 simp only at hP hbs
 subst hP
 subst hbs
 kernel_rfl
noncomputable def FVer := mkF verI (fun k => k < 3) (fun k => Res.flat (zAE (verZ k)))
theorem zKu {k : Nat} (h : k < 3) : FVer (verI k) = some (Res.flat (zAE (verZ k))) := zBV (s := k) (fun s s' h => by
 unfold verI at h
 unfold verZ
 repeat' split at h
 all_goals first | (simp_all; done) | skip) h
theorem yAM (cx : Cx) (hP : cx.P = Tryz.prog) (hbs : cx.bs = 0) (k : Nat) (h : k < 3) : zAg cx Tryz.f31 [] false (verI k) = some (Res.flat (zAE (verZ k))) := by
 rcases (by omega : k = 0 ∨ k = 1 ∨ k = 2) with rfl | rfl | rfl
 · exact yCK cx hP hbs
 · exact yCJ cx hP hbs
 · exact yCI cx hP hbs
theorem eAB : zEX zA zB = (dAB, 0) := by kernel_rfl
theorem eBC : zEX zB zC = (dBC, 0) := by kernel_rfl
theorem eAp : appP zA dAB = (zB, 0) := by kernel_rfl
theorem eBp : appP zB dAB = (zone0, 15) := by kernel_rfl
theorem eUn : zGb zB dAB = (zA, 0) := by kernel_rfl
theorem eCk : zBq ⟨[101, 120, 97, 109, 112, 108, 101, 46], 1, 2, [], []⟩ = 7 := by kernel_rfl
theorem zVV {z : Rec} : ∀ {l : List Rec}, l.Pairwise (fun a b => cmpR a b < 0) → (cls ltR z l).length ≤ 1
 | [], _ => by simp [cls]
 | x :: r, h => by
   have ih := zVV (z := z) (List.Pairwise.of_cons h)
   have hx := (tAC.1 h).1
   unfold cls at ih ⊢
   rw [tBx]
   split
   · rename_i hp
     have : r.filter (fun y => !ltR y z && !ltR z y) = [] := tA9.2 fun y hy => by
       intro hq
       simp only [ltR, tAd, tAG, decide_eq_false_iff_not] at hp hq
       have h1 := hx y hy
       have s1 := cmp_rec.sym x y; have s2 := cmp_rec.sym y x; have s3 := cmp_rec.sym x z; have s4 := cmp_rec.sym z x; have s5 := cmp_rec.sym y z; have s6 := cmp_rec.sym z y
       have h2 := cmp_rec.tr (x := y) (y := z) (z := x) (by omega) (by omega)
       omega
     simp_all
   · exact ih
theorem zUR {l r : List Rec} (h : ∀ x ∈ l, RSm x) (hp : l.Perm r) (hs : r.Pairwise fun a b => cmpR a b < 0) : zCk l = r := by
 obtain ⟨h1, h2⟩ := zH3 h
 have hpr : (zCk l).Perm r := h1.trans hp
 refine zGU wkR _ _ (tCl.2 fun i j hi hj hij => ?_) (hs.imp fun {a b} hab => decide_eq_false (by have := cmp_rec.sym a b; omega)) fun z => ?_
 · have := h2 i j hij hj
   rw [getElem!_pos (zCk l) j hj, getElem!_pos (zCk l) i hi] at this
   exact decide_eq_false this
 · have p1 : (cls ltR z (zCk l)).Perm (cls ltR z r) := hpr.filter _
   have h3 := zVV (z := z) hs
   have h4 := p1.length_eq
   match hl : cls ltR z (zCk l), hr : cls ltR z r with
   | [], [] => rfl
   | [x], [y] => rw [hl, hr] at p1; exact p1.eq_singleton ▸ rfl
   | [], _ :: _ => rw [hl, hr] at h4; simp at h4
   | _ :: _, [] => rw [hl, hr] at h4; simp at h4
   | _ :: _ :: _, _ => rw [hl] at h4; simp at h4; omega
   | _, _ :: _ :: _ => rw [hr] at h3; simp at h3
theorem yJz : U64 0 := ⟨by decide, by decide⟩
theorem zMV {r : Rec} (h1 : r.name.length ≤ 1000) (h2 : r.dat.host.length ≤ 1000 ∧ r.dat.mail.length ≤ 1000 ∧ r.dat.text.length ≤ 1000) (h3 : r.dat.adr.hi = 0 ∧ 0 ≤ r.dat.adr.lo ∧ r.dat.adr.lo ≤ 1000000000) : RSm r := by
 refine ⟨?_, ?_, ?_, ?_, ?_, ?_⟩
 · simp only [Sm]; omega
 · simp only [Sm]; omega
 · simp only [Sm]; omega
 · simp only [Sm]; omega
 · rw [h3.1]; exact yJz
 · exact ⟨h3.2.1, by omega⟩
theorem zDY (s : Int) : RSm (zB7 s) := zMV (by simp [zB7]) ⟨by simp [zB7], by simp [zB7], by simp [zB7, dat0]⟩ ⟨rfl, tBV _, by simp [zB7, dat0]⟩
theorem zTz : RSm zJA := zMV (by simp [zJA]) ⟨by simp [zJA], by simp [zJA, dat0], by simp [zJA, dat0]⟩ ⟨rfl, tBV _, by simp [zJA, dat0]⟩
theorem zQ0 (s : Int) : RSm (recA s) := zMV (by simp [recA]) ⟨by simp [recA, dat0], by simp [recA, dat0], by simp [recA, dat0]⟩ ⟨rfl, by simp [recA], by simp [recA]⟩
theorem eMrg : mrgP dAB dBC = mAC := by
 have e1 : zAu dAB.rem dBC.add ++ zAu dBC.rem dAB.add = [zB7 1] := by kernel_rfl
 have e2 : zAu dAB.add dBC.rem ++ zAu dBC.add dAB.rem = [zB7 3, recA 30] := by kernel_rfl
 unfold mrgP
 rw [e1, e2, zUR (r := [zB7 1]) (fun x hx => by simp at hx; subst hx; exact zDY 1) (List.Perm.refl _) (tBL _ _),
   zUR (r := [zB7 3, recA 30]) (fun x hx => by simp at hx; rcases hx with rfl | rfl; exact zDY 3; exact zQ0 30) (List.Perm.refl _) (by
     have : cmpR (zB7 3) (recA 30) = -1 := by kernel_rfl
     simp [this])]
 rfl
theorem eMg : zB9 dAB dBC = (mAC, 0) := by
 have h1 : zBq dAB = 0 := by kernel_rfl
 have h2 : zBq dBC = 0 := by kernel_rfl
 have h3 : (dAB.origin == dBC.origin) = true := by kernel_rfl
 have h5 : ((zAu dAB.rem dBC.rem).length : Int) = 1 := by kernel_rfl
 have h6 : ((zAu dAB.add dBC.add).length : Int) = 2 := by kernel_rfl
 have h7 : zBq mAC = 0 := by kernel_rfl
 unfold zB9
 rw [if_neg (fun q => q h1), if_neg (fun q => q h2), if_neg (by rw [h3]; decide), if_neg (fun q => q rfl), h5, h6, if_neg (by decide), if_neg (by decide), eMrg, if_neg (fun q => q h7)]
theorem zRY {z : Zone} (h1 : z.origin.length ≤ 1000) (h2 : z.recs.length ≤ 1000) (h3 : ∀ r ∈ z.recs, RSm r) : ZRw z := ⟨by simp only [Sm]; omega, by simp only [Sm]; omega, h3⟩
theorem zVp {d : Delta} (h1 : d.origin.length ≤ 1000) (h2 : d.rem.length ≤ 1000) (h3 : d.add.length ≤ 1000) (h4 : ∀ r ∈ d.rem, RSm r) (h5 : ∀ r ∈ d.add, RSm r) : DltRw d := ⟨by simp only [Sm]; omega, ⟨by simp only [Sm]; omega, h4⟩, by simp only [Sm]; omega, h5⟩
theorem rwA : ZRw zA := zRY (by decide) (by decide) (fun r h => by simp [zA] at h; rcases h with rfl | rfl; exact zTz; exact zDY 1)
theorem rwB : ZRw zB := zRY (by decide) (by decide) (fun r h => by simp [zB] at h; rcases h with rfl | rfl | rfl; exact zTz; exact zDY 2; exact zQ0 60)
theorem rwC : ZRw zC := zRY (by decide) (by decide) (fun r h => by simp [zC] at h; rcases h with rfl | rfl | rfl; exact zTz; exact zDY 3; exact zQ0 30)
theorem rwAB : DltRw dAB := zVp (by decide) (by decide) (by decide) (fun r h => by simp [dAB] at h; subst h; exact zDY 1) (fun r h => by simp [dAB] at h; rcases h with rfl | rfl; exact zDY 2; exact zQ0 60)
theorem rwBC : DltRw dBC := zVp (by decide) (by decide) (by decide) (fun r h => by simp [dBC] at h; rcases h with rfl | rfl; exact zDY 2; exact zQ0 60) (fun r h => by simp [dBC] at h; rcases h with rfl | rfl; exact zDY 3; exact zQ0 30)
theorem rwE : DltRw ⟨[101, 120, 97, 109, 112, 108, 101, 46], 1, 2, [], []⟩ := zVp (by decide) (by decide) (by decide) (fun r h => by simp at h) (fun r h => by simp at h)

noncomputable def zMz := mkF (fun s : Unit => []) (fun s => True) (fun s => Res.flat (.bo true))
theorem zMy : zMz [] = some (Res.flat (.bo true)) := zBV (s := ()) (fun s s' h => rfl) trivial
theorem yFM : FVer [.it .i64 1, .it .i64 (-1)] = some (Res.flat (zAE zA)) := zKu (k := 0) (by decide)
theorem zOR (cx : Cx) (hP : cx.P = Tryz.prog) (hbs : cx.bs = 0) (h31 : cx.orc 31 = some FVer) (h13 : cx.orc 13 = some zGL) (h16 : cx.orc 16 = some zMA) (h18 : cx.orc 18 = some zIt) (h21 : cx.orc 21 = some zIz) (h26 : cx.orc 26 = some zGM) (h20 : cx.orc 20 = some zEg)   : zAg cx Tryz.f12 [] false [] = some (Res.flat (.bo true)) := by
 have c31 := zAa h31
 have c13 := zAa h13
 have c16 := zAa h16
 have c18 := zAa h18
 have c21 := zAa h21
 have c26 := zAa h26
 have c20 := zAa h20
 have v0 : FVer [.it .i64 1, .it .i64 (-1)] = some (Res.flat (zAE zA)) := zKu (k := 0) (by decide)
 have v1 : FVer [.it .i64 2, .it .i64 60] = some (Res.flat (zAE zB)) := zKu (k := 1) (by decide)
 have v2 : FVer [.it .i64 3, .it .i64 30] = some (Res.flat (zAE zC)) := zKu (k := 2) (by decide)
 have d1 : zGL [zAE zA, zAE zB] = some (Res.via (.tup [zAR dAB, .it .i64 0])) := by have := zEK (z := zA) (z2 := zB) ⟨rwA, rwB⟩; rwa [eAB] at this
 have d2 : zGL [zAE zB, zAE zC] = some (Res.via (.tup [zAR dBC, .it .i64 0])) := by have := zEK (z := zB) (z2 := zC) ⟨rwB, rwC⟩; rwa [eBC] at this
 have a1 : zMA [zAE zA, zAR dAB] = some (Res.via (.tup [zAE zB, .it .i64 0])) := by have := zF8 (z := zA) (d := dAB) ⟨rwA, rwAB⟩; rwa [eAp] at this
 have a2 : zMA [zAE zB, zAR dAB] = some (Res.via (.tup [zAE zone0, .it .i64 15])) := by have := zF8 (z := zB) (d := dAB) ⟨rwB, rwAB⟩; rwa [eBp] at this
 have u1 : zIt [zAE zB, zAR dAB] = some (Res.via (.tup [zAE zA, .it .i64 0])) := by have := zF3 (z := zB) (d := dAB) ⟨rwB, rwAB⟩; rwa [eUn] at this
 have m1 : zIz [zAR dAB, zAR dBC] = some (Res.via (.tup [zAR mAC, .it .i64 0])) := by have := zJc (d := dAB) (e := dBC) ⟨rwAB, rwBC⟩; rwa [eMg] at this
 have k1 : zGM [.agg [.st [101, 120, 97, 109, 112, 108, 101, 46], .it .i64 1, .it .i64 2, .vec 16 false [], .vec 16 false []]] = some (Res.flat (.it .i64 7)) := by have := zEM (d := ⟨[101, 120, 97, 109, 112, 108, 101, 46], 1, 2, [], []⟩) rwE; rwa [eCk] at this
 have s1 : zEg [zAE zB, zAE zB] = some (Res.flat (.bo true)) := zCT (z := zB) (z2 := zB) rwB.2.1
 have s2 : zEg [zAE zA, zAE zA] = some (Res.flat (.bo true)) := zCT (z := zA) (z2 := zA) rwA.2.1
 have l1 : (dAB.rem.length : Int) = 1 := rfl; have l2 : (dAB.add.length : Int) = 2 := rfl; have l3 : (dBC.rem.length : Int) = 2 := rfl; have l4 : (dBC.add.length : Int) = 2 := rfl; have l5 : (mAC.add.length : Int) = 2 := rfl; have l6 : mAC.fro = 1 := rfl; have l7 : mAC.til = 3 := rfl
 have x1 : ∀ (H : Hp), zAP Tryz.prog H 22 (zAn mAC.add) (.it .i64 1) = some (.elt (recE mAC.add[1]!).cells) := fun H => zG6 (i := 1) Tryz.underlying22 sz53 rfl (by decide)
 have x2 : mAC.add[1]!.ttl = 30 := rfl
 refine zAf (rs := [.tmp 0]) rfl hbs rfl ?_
 repeat' first
   | (refine bN (fun h => ?_) fun h => ?_)
   | (refine zAI ?_ ?_)
   | simp only [↓cD, cU, cQ, cP, cB, zAD, unD, zAe, zAd, idx, reduceCtorEq, ↓reduceIte, ofV, ofC, zAq, Nat.reduceEqDiff, zAB, cG, implies_true, forall_const, immL, immD, Res.flat, ren, renL, Int.reduceEq, Int.reduceLT, Int.reduceLE, Int.reduceNe, deref, ldD, zAA, zAh, zAC, zAs, cC, c31, c13, c16, c18, c21, c26, c20, zAi, zAk, yFM, zEK, zF8, zF3, zJc, zEM, zCT, ↓zAH, ↓zAL, ↓zAG, ↓zAK, ↓zAF, ↓zAJ, cV, cT, cF, cW, borT, borM, zAl, Res.via, zAt, zAb, refsB, Nat.reduceLT, Nat.reduceSub, Nat.reduceLeDiff, Nat.reduceMul, Nat.reduceAdd, Int.reduceToNat, appK, zAr, zAc, borL, zAj, zAm, zAz, cO, List.replicate, zAx, ofHp, ixOf, v0, v1, v2, d1, d2, a1, a2, u1, m1, k1, s1, s2, l1, l2, l3, l4, l5, l6, l7, x1, x2, Int.reduceNeg, hP, *]
 all_goals first
   | rfl
theorem zPI (l : List Rec) : eqL l l = true := decide_eq_true rfl
structure BigD (d : Delta) : Prop where
 r : d.rem.length ≤ 879609302220
 a : d.add.length ≤ 879609302220
end Go.Mir
namespace Go.Mir
attribute [local congr] Ev.congr EvC.congr EvW.congr Br.congr Ms.congr
open Go Go.RowKit Go.Proofs
end Go.Mir
namespace Go.Proofs
open Go.Shelf
def Tryz.sortKey_ren : Go.Shelf.Ren := ⟨fun | 6 => 85 | 15 => 110 | 14 => 114 | 28 => 146 | 29 => 147 | 20 => 152 | 21 => 153 | 22 => 154 | 23 => 155 | 24 => 156 | 25 => 157 | 26 => 158 | 27 => 159 | 46 => 178 | 47 => 170 | 48 => 171 | 49 => 179 | 50 => 180 | 57 => 199 | n => n, fun | 22 => 81 | 24 => 83 | 25 => 85 | 3 => 3 | 39 => 98 | 0 => 0 | 53 => 90 | 55 => 47 | 4 => 4 | 46 => 118 | 45 => 117 | 50 => 65 | 5 => 5 | 9 => 9 | 66 => 136 | 70 => 139 | 76 => 155 | 77 => 156 | n => n, fun | n => n⟩
theorem Tryz.sortKey : Go.Proofs.SlLaysF0.n6 Tryz.prog Tryz.sortKey_ren := {
 mixed := by kernel_rfl
 f6 := ⟨Tryz.f85.name, by decide, Tryz.func85.trans (congrArg some (by kernel_rfl))⟩
 f14 := ⟨Tryz.f114.name, by decide, Tryz.func114.trans (congrArg some (by kernel_rfl))⟩
 f15 := Tryz.func110.trans (congrArg some (by kernel_rfl))
 f20 := ⟨Tryz.f152.name, by decide, Tryz.func152.trans (congrArg some (by kernel_rfl))⟩
 f21 := ⟨Tryz.f153.name, by decide, Tryz.func153.trans (congrArg some (by kernel_rfl))⟩
 f22 := ⟨Tryz.f154.name, by decide, Tryz.func154.trans (congrArg some (by kernel_rfl))⟩
 f23 := ⟨Tryz.f155.name, by decide, Tryz.func155.trans (congrArg some (by kernel_rfl))⟩
 f24 := ⟨Tryz.f156.name, by decide, Tryz.func156.trans (congrArg some (by kernel_rfl))⟩
 f25 := ⟨Tryz.f157.name, by decide, Tryz.func157.trans (congrArg some (by kernel_rfl))⟩
 f26 := ⟨Tryz.f158.name, by decide, Tryz.func158.trans (congrArg some (by kernel_rfl))⟩
 f27 := ⟨Tryz.f159.name, by decide, Tryz.func159.trans (congrArg some (by kernel_rfl))⟩
 f28 := Tryz.func146.trans (congrArg some (by kernel_rfl))
 f29 := Tryz.func147.trans (congrArg some (by kernel_rfl))
 f46 := ⟨Tryz.f178.name, by decide, Tryz.func178.trans (congrArg some (by kernel_rfl))⟩
 f47 := Tryz.func170.trans (congrArg some (by kernel_rfl))
 f48 := Tryz.func171.trans (congrArg some (by kernel_rfl))
 f49 := ⟨Tryz.f179.name, by decide, Tryz.func179.trans (congrArg some (by kernel_rfl))⟩
 f50 := ⟨Tryz.f180.name, by decide, Tryz.func180.trans (congrArg some (by kernel_rfl))⟩
 f57 := ⟨Tryz.f199.name, by decide, Tryz.func199.trans (congrArg some (by kernel_rfl))⟩
 t0 := Tryz.underlying0
 a0 := Tryz.isAgg0
 z0 := Tryz.sizeOf0
 v0 := Tryz.zeroValue0
 t3 := Tryz.underlying3
 a3 := Tryz.isAgg3
 z3 := Tryz.sizeOf3
 v3 := Tryz.zeroValue3
 t4 := Tryz.underlying4
 a4 := Tryz.isAgg4
 z4 := Tryz.sizeOf4
 v4 := Tryz.zeroValue4
 t5 := Tryz.underlying5
 a5 := Tryz.isAgg5
 z5 := Tryz.sizeOf5
 v5 := Tryz.zeroValue5
 t9 := Tryz.underlying9
 a9 := Tryz.isAgg9
 z9 := Tryz.sizeOf9
 v9 := Tryz.zeroValue9
 t22 := Tryz.underlying81
 a22 := Tryz.isAgg81
 z22 := Tryz.sizeOf81
 v22 := Tryz.zeroValue81
 t25 := Tryz.underlying85
 a25 := Tryz.isAgg85
 z25 := Tryz.sizeOf85
 v25 := Tryz.zeroValue85
 t39 := Tryz.underlying98
 a39 := Tryz.isAgg98
 z39 := Tryz.sizeOf98
 v39 := Tryz.zeroValue98
 t45 := Tryz.underlying117
 a45 := Tryz.isAgg117
 z45 := Tryz.sizeOf117
 v45 := Tryz.zeroValue117
 t46 := Tryz.underlying118
 a46 := Tryz.isAgg118
 z46 := Tryz.sizeOf118
 v46 := Tryz.zeroValue118
 t50 := Tryz.underlying65
 a50 := Tryz.isAgg65
 z50 := Tryz.sizeOf65
 v50 := Tryz.zeroValue65
 t53 := Tryz.underlying90
 a53 := Tryz.isAgg90
 z53 := Tryz.sizeOf90
 v53 := Tryz.zeroValue90
 t55 := Tryz.underlying47
 a55 := Tryz.isAgg47
 z55 := Tryz.sizeOf47
 v55 := Tryz.zeroValue47
 t66 := Tryz.underlying136
 a66 := Tryz.isAgg136
 z66 := Tryz.sizeOf136
 v66 := Tryz.zeroValue136
 t70 := Tryz.underlying139
 a70 := Tryz.isAgg139
 z70 := Tryz.sizeOf139
 v70 := Tryz.zeroValue139
 t76 := Tryz.underlying155
 a76 := Tryz.isAgg155
 z76 := Tryz.sizeOf155
 v76 := Tryz.zeroValue155
 t77 := Tryz.underlying156
 a77 := Tryz.isAgg156
 z77 := Tryz.sizeOf156
 v77 := Tryz.zeroValue156 }
def Tryz.sortRec_ren : Go.Shelf.Ren := ⟨fun | 6 => 79 | 15 => 110 | 14 => 109 | 28 => 146 | 29 => 147 | 20 => 138 | 21 => 139 | 22 => 140 | 23 => 141 | 24 => 142 | 25 => 143 | 26 => 144 | 27 => 145 | 46 => 169 | 47 => 170 | 48 => 171 | 49 => 172 | 50 => 173 | 57 => 193 | n => n, fun | 22 => 22 | 24 => 53 | 25 => 78 | 3 => 3 | 39 => 98 | 0 => 0 | 53 => 90 | 55 => 47 | 4 => 4 | 46 => 118 | 45 => 117 | 50 => 65 | 5 => 5 | 9 => 9 | 66 => 136 | 70 => 139 | 76 => 155 | 77 => 156 | n => n, fun | n => n⟩
theorem Tryz.sortRec : Go.Proofs.SlLaysF0.n6 Tryz.prog Tryz.sortRec_ren := {
 mixed := by kernel_rfl
 f6 := ⟨Tryz.f79.name, by decide, Tryz.func79.trans (congrArg some (by kernel_rfl))⟩
 f14 := ⟨Tryz.f109.name, by decide, Tryz.func109.trans (congrArg some (by kernel_rfl))⟩
 f15 := Tryz.func110.trans (congrArg some (by kernel_rfl))
 f20 := ⟨Tryz.f138.name, by decide, Tryz.func138.trans (congrArg some (by kernel_rfl))⟩
 f21 := ⟨Tryz.f139.name, by decide, Tryz.func139.trans (congrArg some (by kernel_rfl))⟩
 f22 := ⟨Tryz.f140.name, by decide, Tryz.func140.trans (congrArg some (by kernel_rfl))⟩
 f23 := ⟨Tryz.f141.name, by decide, Tryz.func141.trans (congrArg some (by kernel_rfl))⟩
 f24 := ⟨Tryz.f142.name, by decide, Tryz.func142.trans (congrArg some (by kernel_rfl))⟩
 f25 := ⟨Tryz.f143.name, by decide, Tryz.func143.trans (congrArg some (by kernel_rfl))⟩
 f26 := ⟨Tryz.f144.name, by decide, Tryz.func144.trans (congrArg some (by kernel_rfl))⟩
 f27 := ⟨Tryz.f145.name, by decide, Tryz.func145.trans (congrArg some (by kernel_rfl))⟩
 f28 := Tryz.func146.trans (congrArg some (by kernel_rfl))
 f29 := Tryz.func147.trans (congrArg some (by kernel_rfl))
 f46 := ⟨Tryz.f169.name, by decide, Tryz.func169.trans (congrArg some (by kernel_rfl))⟩
 f47 := Tryz.func170.trans (congrArg some (by kernel_rfl))
 f48 := Tryz.func171.trans (congrArg some (by kernel_rfl))
 f49 := ⟨Tryz.f172.name, by decide, Tryz.func172.trans (congrArg some (by kernel_rfl))⟩
 f50 := ⟨Tryz.f173.name, by decide, Tryz.func173.trans (congrArg some (by kernel_rfl))⟩
 f57 := ⟨Tryz.f193.name, by decide, Tryz.func193.trans (congrArg some (by kernel_rfl))⟩
 t0 := Tryz.underlying0
 a0 := Tryz.isAgg0
 z0 := Tryz.sizeOf0
 v0 := Tryz.zeroValue0
 t3 := Tryz.underlying3
 a3 := Tryz.isAgg3
 z3 := Tryz.sizeOf3
 v3 := Tryz.zeroValue3
 t4 := Tryz.underlying4
 a4 := Tryz.isAgg4
 z4 := Tryz.sizeOf4
 v4 := Tryz.zeroValue4
 t5 := Tryz.underlying5
 a5 := Tryz.isAgg5
 z5 := Tryz.sizeOf5
 v5 := Tryz.zeroValue5
 t9 := Tryz.underlying9
 a9 := Tryz.isAgg9
 z9 := Tryz.sizeOf9
 v9 := Tryz.zeroValue9
 t22 := Tryz.underlying22
 a22 := Tryz.isAgg22
 z22 := Tryz.sizeOf22
 v22 := Tryz.zeroValue22
 t25 := Tryz.underlying78
 a25 := Tryz.isAgg78
 z25 := Tryz.sizeOf78
 v25 := Tryz.zeroValue78
 t39 := Tryz.underlying98
 a39 := Tryz.isAgg98
 z39 := Tryz.sizeOf98
 v39 := Tryz.zeroValue98
 t45 := Tryz.underlying117
 a45 := Tryz.isAgg117
 z45 := Tryz.sizeOf117
 v45 := Tryz.zeroValue117
 t46 := Tryz.underlying118
 a46 := Tryz.isAgg118
 z46 := Tryz.sizeOf118
 v46 := Tryz.zeroValue118
 t50 := Tryz.underlying65
 a50 := Tryz.isAgg65
 z50 := Tryz.sizeOf65
 v50 := Tryz.zeroValue65
 t53 := Tryz.underlying90
 a53 := Tryz.isAgg90
 z53 := Tryz.sizeOf90
 v53 := Tryz.zeroValue90
 t55 := Tryz.underlying47
 a55 := Tryz.isAgg47
 z55 := Tryz.sizeOf47
 v55 := Tryz.zeroValue47
 t66 := Tryz.underlying136
 a66 := Tryz.isAgg136
 z66 := Tryz.sizeOf136
 v66 := Tryz.zeroValue136
 t70 := Tryz.underlying139
 a70 := Tryz.isAgg139
 z70 := Tryz.sizeOf139
 v70 := Tryz.zeroValue139
 t76 := Tryz.underlying155
 a76 := Tryz.isAgg155
 z76 := Tryz.sizeOf155
 v76 := Tryz.zeroValue155
 t77 := Tryz.underlying156
 a77 := Tryz.isAgg156
 z77 := Tryz.sizeOf156
 v77 := Tryz.zeroValue156 }
end Go.Proofs
namespace Go.Mir
end Go.Mir
namespace Go.Mir
attribute [local congr] Ev.congr EvC.congr EvW.congr Br.congr Ms.congr
theorem zD8 : ∀ (r cur : List UInt8) (b : Bool) (l : List (List UInt8)), zBb r cur b = some l → (r = [] → cur = []) → (r ≠ [] → r.getLastD 0 = 46) → cur ++ r = l.flatMap fun x => x ++ [46]
 | [], cur, b, l, h, hc, _ => by simp only [zBb, tAb] at h; subst h; rw [hc rfl]; rfl
 | c :: r, cur, b, l, h, hc, hl => by
   have hlr : r ≠ [] → r.getLastD 0 = 46 := fun hr => by
     have := hl (by simp)
     rw [List.getLastD_cons] at this
     rw [List.getLastD_eq_getLast?] at this ⊢
     cases hg : r.getLast? with
     | none => exact absurd (List.getLast?_eq_none_iff.1 hg) hr
     | some z => rw [hg] at this; simpa using this
   simp only [zBb] at h
   split at h
   · rename_i h46
     subst h46
     split at h
     · rw [tAe] at h
       obtain ⟨m, hm, rfl⟩ := h
       have ih := zD8 r [] false m hm (fun _ => rfl) hlr
       rw [tBe, ← ih]; simp
     · cases h
   · rename_i h46
     have hr : r ≠ [] := fun e => by
       subst e
       have := hl (by simp)
       simp at this; exact h46 this
     have ih := zD8 r (cur ++ [c]) b l h (fun e => absurd e hr) hlr
     rw [← ih]; simp
theorem zPb {n m : List UInt8} {l : List (List UInt8)} (hn : labs n = some l) (hm : labs m = some l) : n = m := by
 have key : ∀ n : List UInt8, labs n = some l → n = if l = [] then [46] else l.flatMap fun x => x ++ [46] := fun n h => by
   unfold labs at h
   split at h
   · simp only [tAb] at h; subst h; rename_i e; simpa using e
   · split at h
     · cases h
     · rename_i h2
       have h3 := zD8 n [] true l h (fun _ => rfl) (fun _ => tAW fun e => h2 (.inr (.inr e)))
       rw [tAJ] at h3
       by_cases hl : l = []
       · subst hl; subst h3; exact absurd (.inl (by simp)) h2
       · rw [if_neg hl]; exact h3
 rw [key n hn, key m hm]
theorem zGs : ∀ (r cur : List UInt8) (b : Bool) (l : List (List UInt8)), zBb r cur b = some l → ∀ x ∈ l, 1 ≤ x.length
 | [], _, _, l, h => by simp [zBb] at h; subst h; simp
 | c :: r, cur, b, l, h => by
   simp only [zBb] at h
   split at h
   · split at h
     · rename_i hl
       rw [tAe] at h
       obtain ⟨m, hm, rfl⟩ := h
       intro x hx
       rcases tAr.1 hx with rfl | hx
       · rw [tAd] at hl
         have h1 := hl.1
         unfold zED at h1
         rw [tAK] at h1
         rcases h1 with h1 | h1
         · rw [eq_of_beq h1]; simp
         · simp only [tAd, decide_eq_true_eq] at h1; exact h1.1.1
       · exact zGs r [] false m hm x hx
     · cases h
   · exact zGs r _ b l h
theorem zJL {n : List UInt8} {l : List (List UInt8)} (h : labs n = some l) : ∀ x ∈ l, 1 ≤ x.length ∧ x.length ≤ 254 := fun x hx => by
 have h2 := zFO n x (by rw [h]; exact hx)
 refine ⟨?_, h2⟩
 unfold labs at h
 split at h
 · simp only [tAb] at h; subst h; cases hx
 · split at h
   · cases h
   · exact zGs n [] true l h x hx
def BSm (d : Dat) : Prop := U64 d.bits ∧ ASm d.adr

theorem zLs : ∀ {x y : List (List UInt8)}, lexC x y = 0 → x = y
 | [], [], _ => rfl
 | [], _ :: _, h => by simp [lexC] at h
 | _ :: _, [], h => by simp [lexC] at h
 | a :: x, b :: y, h => by
   simp only [lexC] at h
   by_cases hz : zA9 a b = 0
   · rw [if_neg (fun q => q hz)] at h
     rw [zDG hz, zLs h]
   · rw [if_pos hz] at h; exact absurd h hz
theorem zIi {a b : List UInt8} (ha : vName a = true) (hb : vName b = true) (h : cmpB a b = 0) : a = b := by
 obtain ⟨l, el⟩ := tA3.1 ha
 obtain ⟨k, ek⟩ := tA3.1 hb
 rw [zIj, el, ek] at h
 have h2 := zLs h
 have h3 := congrArg List.reverse h2
 simp only [List.reverse_reverse] at h3
 subst h3
 exact zPb el ek
theorem zEt {r : Rec} (h : zBN r = true) : vName r.name = true ∧ validD r.typ r.dat = true := by
 unfold zBN at h; simp only [tAd] at h; exact ⟨h.1, h.2.2.2.2⟩
def keyN (n : List UInt8) : List (List UInt8) := ((labs n).getD []).reverse
theorem zDF {n top : List UInt8} (hn : vName n = true) (ht : vName top = true) : underB n top = true ↔ keyN top <+: keyN n := by
 have h1 : (labs n).isSome = true := hn
 have h2 : (labs top).isSome = true := ht
 unfold underB keyN zCD
 rw [h1, h2, tAR, tAR, decide_eq_true_eq, ← zKe, tBP]
theorem zKi {a b : List UInt8} (ha : vName a = true) (hb : vName b = true) : cmpB a b = lexC (keyN a) (keyN b) := by
 obtain ⟨l, el⟩ := tA3.1 ha
 obtain ⟨k, ek⟩ := tA3.1 hb
 rw [zIj]
 unfold keyN
 rw [el, ek]; rfl
theorem zH0 : ∀ {p y x : List (List UInt8)}, p <+: x → lexC p y ≤ 0 → lexC y x ≤ 0 → p <+: y
 | [], y, x, _, _, _ => List.nil_prefix
 | a :: p, [], x, _, h1, _ => by simp [lexC] at h1
 | a :: p, b :: y, [], h, _, _ => by simp at h
 | a :: p, b :: y, c :: x, h, h1, h2 => by
   obtain ⟨rfl, hp⟩ := List.cons_prefix_cons.1 h
   simp only [lexC] at h1 h2
   have s1 := cmp_text.sym a b; have s2 := cmp_text.sym b a
   have k1 : zA9 a b ≤ 0 := by by_cases hz : zA9 a b = 0 <;> simp only [hz, not_true_eq_false, not_false_eq_true, if_false, if_true] at h1 <;> omega
   have k2 : zA9 b a ≤ 0 := by by_cases hz : zA9 b a = 0 <;> simp only [hz, not_true_eq_false, not_false_eq_true, if_false, if_true] at h2 <;> omega
   have e1 : zA9 a b = 0 := by omega
   have e2 : zA9 b a = 0 := by omega
   have hab := zDG e1
   subst hab
   rw [if_neg (fun q => q e1)] at h1 h2
   exact List.cons_prefix_cons.2 ⟨rfl, zH0 hp h1 h2⟩
theorem zJi {c y x : List UInt8} (hc : vName c = true) (hy : vName y = true) (hx : vName x = true) (h : underB x c = true) (h1 : cmpB c y ≤ 0) (h2 : cmpB y x ≤ 0) : underB y c = true := by
 rw [zKi hc hy] at h1
 rw [zKi hy hx] at h2
 exact (zDF hy hc).2 (zH0 ((zDF hx hc).1 h) h1 h2)
theorem zMI {a b c : List UInt8} (ha : vName a = true) (hb : vName b = true) (hc : vName c = true) (h1 : underB a b = true) (h2 : underB b c = true) : underB a c = true :=
 (zDF ha hc).2 (((zDF hb hc).1 h2).trans ((zDF ha hb).1 h1))
theorem zUr : ∀ {p x : List (List UInt8)}, p <+: x → lexC p x ≤ 0
 | [], [], _ => by simp [lexC]
 | [], _ :: _, _ => by simp [lexC]
 | a :: p, [], h => by simp at h
 | a :: p, c :: x, h => by
   obtain ⟨rfl, hp⟩ := List.cons_prefix_cons.1 h
   simp only [lexC]
   rw [if_neg (fun q => q (zGd a))]
   exact zUr hp
theorem zKI {a c : List UInt8} (ha : vName a = true) (hc : vName c = true) (h : underB a c = true) (hne : ¬ a = c) : cmpB c a < 0 := by
 have h1 := zUr ((zDF ha hc).1 h)
 rw [← zKi hc ha] at h1
 have h2 : ¬ cmpB c a = 0 := fun e => hne (zIi hc ha e).symm
 omega
theorem zRr {a b : Rec} (h : zAw a b < 0) : cmpB a.name b.name ≤ 0 := by
 unfold zAw at h
 by_cases hz : cmpB a.name b.name = 0
 · omega
 · rw [if_pos hz] at h; omega
theorem yD5 {a b c : List UInt8} (h1 : cmpB a b < 0) (h2 : cmpB b c ≤ 0) : cmpB a c < 0 := of_decide_eq_true (cmp_name.wk.lt_le (decide_eq_true h1) (decide_eq_false (by have := cmp_name.sym c b; omega)))
structure GrpJ (l : List Rec) (i : Nat) : Prop where
 le : (grpS l i).1 ≤ i
 fl : (grpS l i).2.flatten = l.take (grpS l i).1
 nm : ∀ j, (grpS l i).1 ≤ j → j ≤ i → j < l.length → l[j]!.name = l[(grpS l i).1]!.name
 hom : ∀ g ∈ (grpS l i).2, g ≠ [] ∧ ∀ x ∈ g, x.name = g0 g
 ord : (grpS l i).2.Pairwise fun g g' => cmpB (g0 g) (g0 g') < 0
 nxt : (grpS l i).1 < l.length → ∀ g ∈ (grpS l i).2, cmpB (g0 g) l[(grpS l i).1]!.name < 0
theorem yGA {l : List Rec} (h : Str l) {i j : Nat} (hij : i < j) (hj : j < l.length) : zAw l[i]! l[j]! < 0 := by
 have := tCl.1 h i j (by omega) hj hij
 rwa [getElem!_pos l i (by omega), getElem!_pos l j hj]
theorem zYq {l : List Rec} (h : Str l) {i j : Nat} (hij : i ≤ j) (hj : j < l.length) : cmpB l[i]!.name l[j]!.name ≤ 0 := by
 by_cases e : i = j
 · subst e; rw [cmp_name.self]; exact tBV _
 · exact zRr (yGA h (by omega) hj)
theorem grpJ {l : List Rec} (hs : Str l) (hv : ∀ x ∈ l, vName x.name = true) : ∀ i, i ≤ l.length → GrpJ l i
 | 0, _ => ⟨tAl _, rfl, fun j h1 h2 h3 => by
     have : j = 0 := by omega
     subst this; rfl, fun g hg => by simp [grpS] at hg, tBt, fun _ g hg => by simp [grpS] at hg⟩
 | i + 1, hi => by
   have J := grpJ hs hv i (by omega)
   have hil : i < l.length := by omega
   have ni : l[i]!.name = l[(grpS l i).1]!.name := J.nm i J.le (tAl _) hil
   by_cases hc : i + 1 = l.length ∨ ¬ l[i + 1]!.name = l[i]!.name
   · have e := zG9 (l := l) (i := i) hc
     have gl : ((l.take (i + 1)).drop (grpS l i).1).length = i + 1 - (grpS l i).1 := by rw [tAx, tAk]; omega
     have ga : ∀ k, k < i + 1 - (grpS l i).1 → ((l.take (i + 1)).drop (grpS l i).1)[k]! = l[(grpS l i).1 + k]! := fun k hk => by
       rw [getElem!_pos _ k (by rw [gl]; exact hk), List.getElem_drop, List.getElem_take, getElem!_pos l _ (by omega)]
     have hle := J.le
     have gn : g0 ((l.take (i + 1)).drop (grpS l i).1) = l[(grpS l i).1]!.name := by unfold g0; rw [ga 0 (by omega)]; rfl
     have gm : ∀ x ∈ (l.take (i + 1)).drop (grpS l i).1, x.name = l[(grpS l i).1]!.name := fun x hx => by
       obtain ⟨k, hk, ek⟩ := tBZ.1 hx
       rw [gl] at hk
       have h2 := ga k hk
       rw [getElem!_pos _ k (by rw [gl]; exact hk), ek] at h2
       rw [h2]; exact J.nm _ (by omega) (by omega) (by omega)
     refine ⟨by rw [e]; exact tAl _, ?_, ?_, ?_, ?_, ?_⟩
     · rw [e]
       simp only [List.flatten_append, List.flatten_cons, List.flatten_nil, tAo, J.fl]
       have h3 : l.take (grpS l i).1 = (l.take (i + 1)).take (grpS l i).1 := by rw [List.take_take, Nat.min_eq_left (by omega)]
       rw [h3, tAH]
     · rw [e]
       intro j h1 h2 h3
       have : j = i + 1 := by simp only at h1; omega
       subst this; rfl
     · rw [e]
       intro g hg
       simp only [tAz, tAy] at hg
       rcases hg with hg | rfl
       · exact J.hom g hg
       · exact ⟨tAQ (by rw [gl]; omega), fun x hx => by rw [gm x hx, gn]⟩
     · rw [e]
       refine tBc.2 ⟨J.ord, tBL _ _, fun g hg g' hg' => ?_⟩
       simp only [tAy] at hg'
       subst hg'
       rw [gn]; exact J.nxt (by omega) g hg
     · rw [e]
       intro hlt g hg
       simp only [tAz, tAy] at hg
       have hne : ¬ l[i + 1]!.name = l[i]!.name := by
         rcases hc with hc | hc
         · simp only at hlt; omega
         · exact hc
       have h4 : cmpB l[(grpS l i).1]!.name l[i + 1]!.name < 0 := by
         have h5 := zYq hs (i := (grpS l i).1) (j := i + 1) (by omega) hlt
         have h6 : ¬ cmpB l[(grpS l i).1]!.name l[i + 1]!.name = 0 := fun e2 => hne (by rw [ni]; exact (zIi (hv _ (zBu (by omega))) (hv _ (zBu (by simp only at hlt; omega))) e2).symm)
         omega
       rcases hg with hg | rfl
       · have := J.nxt (by omega) g hg
         exact yD5 this (Int.le_of_lt h4)
       · rw [gn]; exact h4
   · have h1 : ¬ i + 1 = l.length := fun e => hc (.inl e)
     have h2 : l[i + 1]!.name = l[i]!.name := tAW fun e => hc (.inr e)
     have e := zU7 (l := l) (i := i) h1 h2
     refine ⟨by rw [e]; have := J.le; omega, by rw [e]; exact J.fl, ?_, by rw [e]; exact J.hom, by rw [e]; exact J.ord, by rw [e]; exact J.nxt⟩
     rw [e]
     intro j k1 k2 k3
     by_cases ej : j = i + 1
     · subst ej; rw [h2, ni]
     · exact J.nm j k1 (by omega) k3
structure GrpP (l : List Rec) (gs : List (List Rec)) : Prop where
 fl : gs.flatten = l
 hom : ∀ g ∈ gs, g ≠ [] ∧ ∀ x ∈ g, x.name = g0 g
 ord : gs.Pairwise fun g g' => cmpB (g0 g) (g0 g') < 0
theorem yHN {l : List Rec} (hs : Str l) (hv : ∀ x ∈ l, vName x.name = true) : GrpP l (grpR l) := by
 have J := grpJ hs hv l.length (tAl _)
 refine ⟨?_, J.hom, J.ord⟩
 have h1 := J.fl
 unfold grpR
 rw [h1]
 cases hl : l.length with
 | zero => have := tB4.1 hl; subst this; rfl
 | succ n =>
   have e := zG9 (l := l) (i := n) (.inl hl.symm)
   rw [e]
   exact tAM (by simp only; omega)
theorem zDM : ∀ {gs : List (List Rec)}, (∀ g ∈ gs, g ≠ [] ∧ ∀ x ∈ g, x.name = g0 g) → gs.Pairwise (fun g g' => cmpB (g0 g) (g0 g') < 0) → ∀ g ∈ gs, gs.flatten.filter (fun x => x.name == g0 g) = g
 | [], _, _, g, hg => by simp at hg
 | a :: gs, hh, ho, g, hg => by
   have ha := hh a (by simp)
   have hp := tAC.1 ho
   rw [List.flatten_cons, tCd]
   rcases tAr.1 hg with rfl | hg
   · have e1 : g.filter (fun x => x.name == g0 g) = g := tB7.2 fun x hx => by rw [ha.2 x hx]; simp
     have e2 : gs.flatten.filter (fun x => x.name == g0 g) = [] := tA9.2 fun x hx hq => by
       obtain ⟨g', hg', hx'⟩ := List.mem_flatten.1 hx
       have h1 := hp.1 g' hg'
       rw [← (hh g' (by simp [hg'])).2 x hx', eq_of_beq hq, cmp_name.self] at h1
       omega
     rw [e1, e2, tAo]
   · have e1 : a.filter (fun x => x.name == g0 g) = [] := tA9.2 fun x hx hq => by
       have h1 := hp.1 g hg
       rw [← ha.2 x hx, eq_of_beq hq, cmp_name.self] at h1
       omega
     rw [e1, tAJ]
     exact zDM (fun g hg => hh g (by simp [hg])) hp.2 g hg
theorem zY7 {l : List Rec} {gs : List (List Rec)} (p : GrpP l gs) {g : List Rec} (hg : g ∈ gs) (t : Int) : hasR l (g0 g) t = hasT g t := by
 have h1 := zDM p.hom p.ord g hg
 rw [p.fl] at h1
 have h2 : zBA l (g0 g) t = g.filter fun r => decide (r.typ = t) := by
   conv => rhs; rw [← h1]
   unfold zBA
   rw [List.filter_filter]
   congr 1; funext r; rw [Bool.and_comm]
 unfold hasR hasT
 rw [h2, tBm, decide_eq_true_eq, tA6]
 constructor
 · intro h
   obtain ⟨x, hx⟩ := tBl (l := g.filter fun r => decide (r.typ = t)) (by omega)
   obtain ⟨h3, h4⟩ := tBb.1 hx
   exact ⟨x, h3, h4⟩
 · rintro ⟨x, hx, h4⟩
   have : x ∈ g.filter fun r => decide (r.typ = t) := tBb.2 ⟨hx, h4⟩
   have := List.length_pos_of_mem this
   omega
structure PA (o : List UInt8) (g : List Rec) : Prop where
 un : underB (g0 g) o = true
 soa : hasT g 6 = (g0 g == o)
 uni : uniF g = true
 ns : g0 g = o → hasT g 2 = true
 cn : hasT g 5 = true → onlyT g [5, 46, 47] = true
 del : delB o g = true → onlyT g [2, 43, 47, 46, 1, 28] = true
 ds : delB o g = false → hasT g 43 = false
 wild : ((g0 g)[0]!.toNat : Int) = 42 → hasT g 2 = false ∧ hasT g 39 = false
theorem proper_iff {o : List UInt8} {g : List Rec} {cut red : List UInt8} : zC3 o g cut red = true ↔ PA o g ∧ red = [] ∧ (¬ cut = [] → onlyT g [1, 28] = true) := by
 unfold zC3
 constructor
 · intro h
   by_cases h1 : underB (g0 g) o = false
   · rw [if_pos h1] at h; cases h
   rw [if_neg h1] at h
   by_cases h2 : hasT g 6 = (g0 g == o)
   case neg => rw [if_pos h2] at h; cases h
   rw [if_neg (fun q => q h2)] at h
   by_cases h3 : uniF g = false
   · rw [if_pos h3] at h; cases h
   rw [if_neg h3] at h
   by_cases h4 : g0 g = o ∧ hasT g 2 = false
   · rw [if_pos h4] at h; cases h
   rw [if_neg h4] at h
   by_cases h5 : hasT g 5 = true ∧ onlyT g [5, 46, 47] = false
   · rw [if_pos h5] at h; cases h
   rw [if_neg h5] at h
   by_cases h6 : red = []
   case neg => rw [if_pos h6] at h; cases h
   rw [if_neg (fun q => q h6)] at h
   by_cases h7 : ¬ cut = [] ∧ onlyT g [1, 28] = false
   · rw [if_pos h7] at h; cases h
   rw [if_neg h7] at h
   by_cases h8 : delB o g = true ∧ onlyT g [2, 43, 47, 46, 1, 28] = false
   · rw [if_pos h8] at h; cases h
   rw [if_neg h8] at h
   by_cases h9 : delB o g = false ∧ hasT g 43 = true
   · rw [if_pos h9] at h; cases h
   rw [if_neg h9] at h
   refine ⟨⟨by simpa using h1, h2, by simpa using h3, fun e => ?_, fun e => ?_, fun e => ?_, fun e => ?_, fun e => ?_⟩, h6, fun e => ?_⟩
   · exact (tB0 _).elim id fun q => absurd ⟨e, q⟩ h4
   · exact (tB0 _).elim id fun q => absurd ⟨e, q⟩ h5
   · exact (tB0 _).elim id fun q => absurd ⟨e, q⟩ h8
   · exact (tB0 _).elim (fun q => absurd ⟨e, q⟩ h9) id
   · rw [if_neg (fun q => q e)] at h
     by_cases hx : hasT g 2 = true
     · rw [if_pos hx] at h; cases h
     · rw [if_neg hx] at h; exact ⟨by simpa using hx, by simpa using h⟩
   · exact (tB0 _).elim id fun q => absurd ⟨e, q⟩ h7
 · rintro ⟨p, h6, h7⟩
   rw [if_neg (by rw [p.un]; decide), if_neg (fun q => q p.soa), if_neg (by rw [p.uni]; decide), if_neg (fun q => by rw [p.ns q.1] at q; cases q.2), if_neg (fun q => by rw [p.cn q.1] at q; cases q.2), if_neg (fun q => q h6),
     if_neg (fun q => by rw [h7 q.1] at q; cases q.2), if_neg (fun q => by rw [p.del q.1] at q; cases q.2), if_neg (fun q => by rw [p.ds q.1] at q; cases q.2)]
   by_cases hw : ((g0 g)[0]!.toNat : Int) = 42
   · rw [if_neg (fun q => q hw), (p.wild hw).1, (p.wild hw).2]; rfl
   · rw [if_pos hw]
def zZR (gs : List (List Rec)) (C : List Rec → Bool) (n : List UInt8) : Prop := ∃ g' ∈ gs, C g' = true ∧ underB n (g0 g') = true ∧ ¬ n = g0 g'
def PG (o : List UInt8) (gs : List (List Rec)) (g : List Rec) : Prop := PA o g ∧ ¬ zZR gs (fun g' => hasT g' 39) (g0 g) ∧ (zZR gs (delB o) (g0 g) → onlyT g [1, 28] = true)
structure CovJ (C : List Rec → Bool) (pre : List (List Rec)) (cut : List UInt8) : Prop where
 src : cut = [] ∨ ∃ g' ∈ pre, C g' = true ∧ cut = g0 g'
 cov : ∀ g' ∈ pre, C g' = true → ∀ n, vName n = true → (∀ g ∈ pre, cmpB (g0 g) n < 0) → underB n (g0 g') = true → ¬ cut = [] ∧ underB n cut = true
structure GsP (gs : List (List Rec)) : Prop where
 v : ∀ g ∈ gs, vName (g0 g) = true
 ord : gs.Pairwise fun g g' => cmpB (g0 g) (g0 g') < 0
theorem zLX {C : List Rec → Bool} {gs pre rest : List (List Rec)} {g : List Rec} {cut : List UInt8} (p : GsP gs) (e : gs = pre ++ g :: rest) (j : CovJ C pre cut) : ¬ cutZ cut (g0 g) = [] ↔ zZR gs C (g0 g) := by
 have hp := p.ord
 rw [e] at hp
 obtain ⟨_, h2, h3⟩ := tBc.1 hp
 have hg : vName (g0 g) = true := p.v g (by rw [e]; simp)
 have hpre : ∀ x ∈ pre, cmpB (g0 x) (g0 g) < 0 := fun x hx => h3 x hx g (by simp)
 constructor
 · intro h
   unfold cutZ at h
   by_cases h1 : cut = []
   · rw [if_pos h1] at h; exact absurd h1 h
   · rw [if_neg h1] at h
     by_cases h4 : underB (g0 g) cut = false
     · rw [if_pos h4] at h; exact absurd rfl h
     · rcases j.src with q | ⟨g', hg', hc, rfl⟩
       · exact absurd q h1
       · refine ⟨g', by rw [e]; simp [hg'], hc, by simpa using h4, fun q => ?_⟩
         have := hpre g' hg'
         rw [q, cmp_name.self] at this; omega
 · rintro ⟨g', hg', hc, hu, hne⟩
   have hv' := p.v g' hg'
   have hlt := zKI hg hv' hu hne
   rw [e] at hg'
   rcases tAz.1 hg' with hg' | hg'
   · obtain ⟨h5, h6⟩ := j.cov g' hg' hc (g0 g) hg hpre hu
     unfold cutZ
     rw [if_neg h5, h6]; simpa using h5
   · rcases tAr.1 hg' with rfl | hg'
     · exact absurd rfl hne
     · have h7 := (tAC.1 h2).1 g' hg'
       have h8 := cmp_name.sym (g0 g) (g0 g')
       omega
theorem vne {n : List UInt8} (h : vName n = true) : ¬ n = [] := fun e => by subst e; simp [vName, labs] at h
theorem zHi {C : List Rec → Bool} {gs pre rest : List (List Rec)} {g : List Rec} {cut cut' : List UInt8} (p : GsP gs) (e : gs = pre ++ g :: rest) (j : CovJ C pre cut)
   (h : (cut' = g0 g ∧ C g = true ∧ cutZ cut (g0 g) = []) ∨ (cut' = cutZ cut (g0 g) ∧ (C g = true → ¬ cutZ cut (g0 g) = []))) : CovJ C (pre ++ [g]) cut' := by
 have hg : vName (g0 g) = true := p.v g (by rw [e]; simp)
 have hp := p.ord
 rw [e] at hp
 obtain ⟨_, _, h3⟩ := tBc.1 hp
 have hpre : ∀ x ∈ pre, cmpB (g0 x) (g0 g) < 0 := fun x hx => h3 x hx g (by simp)
 have hz : ¬ cutZ cut (g0 g) = [] → cutZ cut (g0 g) = cut ∧ ¬ cut = [] ∧ underB (g0 g) cut = true := fun q => by
   unfold cutZ at q ⊢
   by_cases h1 : cut = []
   · rw [if_pos h1] at q; exact absurd h1 q
   · rw [if_neg h1] at q ⊢
     by_cases h4 : underB (g0 g) cut = false
     · rw [if_pos h4] at q; exact absurd rfl q
     · rw [if_neg h4]; exact ⟨rfl, h1, by simpa using h4⟩
 have old : ∀ g' ∈ pre, C g' = true → ∀ n, vName n = true → (∀ x ∈ pre ++ [g], cmpB (g0 x) n < 0) → underB n (g0 g') = true → ¬ cut = [] ∧ underB n cut = true ∧ ¬ cutZ cut (g0 g) = [] := fun g' hg' hc n hn hlt hu => by
   have hv' := p.v g' (by rw [e]; simp [hg'])
   have hb := zJi hv' hg hn hu (Int.le_of_lt (hpre g' hg')) (Int.le_of_lt (hlt g (by simp)))
   obtain ⟨h5, h6⟩ := j.cov g' hg' hc (g0 g) hg hpre hb
   obtain ⟨h7, h8⟩ := j.cov g' hg' hc n hn (fun x hx => hlt x (by simp [hx])) hu
   refine ⟨h7, h8, ?_⟩
   unfold cutZ; rw [if_neg h5, h6]; simpa using h5
 rcases h with ⟨rfl, hC, hcz⟩ | ⟨rfl, hC⟩
 · refine ⟨.inr ⟨g, by simp, hC, rfl⟩, fun g' hg' hc n hn hlt hu => ?_⟩
   rcases tAz.1 hg' with hg' | hg'
   · exact absurd hcz (old g' hg' hc n hn hlt hu).2.2
   · simp only [tAy] at hg'; subst hg'; exact ⟨vne hg, hu⟩
 · refine ⟨?_, fun g' hg' hc n hn hlt hu => ?_⟩
   · by_cases hq : cutZ cut (g0 g) = []
     · exact .inl hq
     · obtain ⟨h5, h6, _⟩ := hz hq
       rw [h5]
       rcases j.src with q | ⟨g', hg', hc, q⟩
       · exact absurd q h6
       · exact .inr ⟨g', by simp [hg'], hc, q⟩
   · rcases tAz.1 hg' with hg' | hg'
     · obtain ⟨h5, h6, h7⟩ := old g' hg' hc n hn hlt hu
       rw [(hz h7).1]; exact ⟨h5, h6⟩
     · simp only [tAy] at hg'; subst hg'
       have h7 := hC hc
       obtain ⟨h8, h9, h10⟩ := hz h7
       rw [h8]
       have hcv : vName cut = true := by
         rcases j.src with q | ⟨g', hg', _, q⟩
         · exact absurd q h9
         · rw [q]; exact p.v g' (by rw [e]; simp [hg'])
       exact ⟨h9, zMI hn hg hcv hu h10⟩
theorem yGb {o : List UInt8} {gs : List (List Rec)} (p : GsP gs) : ∀ (rest pre : List (List Rec)) (q : Zs), gs = pre ++ rest → CovJ (delB o) pre q.1 → CovJ (fun g' => hasT g' 39) pre q.2.1 →
   ((∃ q', rest.foldlM (zEW o) q = some q' ∧ q'.2.2 = true) ↔ (∀ g ∈ rest, PG o gs g) ∧ (q.2.2 = true ∨ ∃ g ∈ rest, g0 g = o))
 | [], pre, q, e, jc, jr => by simp
 | g :: rest, pre, q, e, jc, jr => by
   have k1 := zLX p e jc
   have k2 := zLX p e jr
   have hpg : zC3 o g (cutZ q.1 (g0 g)) (cutZ q.2.1 (g0 g)) = true ↔ PG o gs g := by
     rw [proper_iff]
     constructor
     · rintro ⟨a, b, c⟩; exact ⟨a, fun h => (k2.2 h) b, fun h => c (k1.2 h)⟩
     · rintro ⟨a, b, c⟩; exact ⟨a, tAW fun h => b (k2.1 h), fun h => c (k1.1 h)⟩
   rw [tB9]
   by_cases hp : zC3 o g (cutZ q.1 (g0 g)) (cutZ q.2.1 (g0 g)) = true
   · have hz : zEW o q g = some (if cutZ q.1 (g0 g) = [] ∧ ¬ g0 g = o ∧ hasT g 2 = true then g0 g else cutZ q.1 (g0 g), if hasT g 39 = true then g0 g else cutZ q.2.1 (g0 g), if q.2.2 = true then true else g0 g == o) := by
       unfold zEW; rw [if_neg (by rw [hp]; decide)]
     have hred : cutZ q.2.1 (g0 g) = [] := (proper_iff.1 hp).2.1
     have jc2 : CovJ (delB o) (pre ++ [g]) (if cutZ q.1 (g0 g) = [] ∧ ¬ g0 g = o ∧ hasT g 2 = true then g0 g else cutZ q.1 (g0 g)) := by
       by_cases h1 : cutZ q.1 (g0 g) = [] ∧ ¬ g0 g = o ∧ hasT g 2 = true
       · rw [if_pos h1]; exact zHi p e jc (.inl ⟨rfl, by unfold delB; rw [if_neg h1.2.1]; exact h1.2.2, h1.1⟩)
       · rw [if_neg h1]
         refine zHi p e jc (.inr ⟨rfl, fun hd hcz => h1 ⟨hcz, ?_⟩⟩)
         unfold delB at hd
         split at hd
         · cases hd
         · exact ⟨‹_›, hd⟩
     have jr2 : CovJ (fun g' => hasT g' 39) (pre ++ [g]) (if hasT g 39 = true then g0 g else cutZ q.2.1 (g0 g)) := by
       by_cases h1 : hasT g 39 = true
       · rw [if_pos h1]; exact zHi p e jr (.inl ⟨rfl, h1, hred⟩)
       · rw [if_neg h1]; exact zHi p e jr (.inr ⟨rfl, fun h => absurd h h1⟩)
     have ih := yGb (o := o) p rest (pre ++ [g]) (if cutZ q.1 (g0 g) = [] ∧ ¬ g0 g = o ∧ hasT g 2 = true then g0 g else cutZ q.1 (g0 g), if hasT g 39 = true then g0 g else cutZ q.2.1 (g0 g), if q.2.2 = true then true else g0 g == o) (by rw [e]; simp) jc2 jr2
     rw [hz]
     simp only [tBO, tAg]
     rw [ih]
     have hpg' := hpg.1 hp
     constructor
     · rintro ⟨a, b⟩
       refine ⟨fun x hx => ?_, ?_⟩
       · rcases tAr.1 hx with rfl | hx
         · exact hpg'
         · exact a x hx
       · rcases b with b | ⟨x, hx, hxo⟩
         · by_cases h1 : q.2.2 = true
           · exact .inl h1
           · simp only [h1, if_false] at b
             exact .inr ⟨g, by simp, eq_of_beq (by simpa using b)⟩
         · exact .inr ⟨x, by simp [hx], hxo⟩
     · rintro ⟨a, b⟩
       refine ⟨fun x hx => a x (by simp [hx]), ?_⟩
       rcases b with b | ⟨x, hx, hxo⟩
       · left; simp [b]
       · rcases tAr.1 hx with rfl | hx
         · left; simp [hxo]
         · exact .inr ⟨x, hx, hxo⟩
   · have hz : zEW o q g = none := by unfold zEW; rw [if_pos (by simpa using hp)]
     rw [hz]
     constructor
     · rintro ⟨_, h, _⟩; cases h
     · rintro ⟨a, _⟩; exact absurd (hpg.2 (a g (by simp))) hp
theorem zW7 {o : List UInt8} {gs : List (List Rec)} (p : GsP gs) : (∃ q, zrun o gs = some q ∧ q.2.2 = true) ↔ (∀ g ∈ gs, PG o gs g) ∧ ∃ g ∈ gs, g0 g = o := by
 have := yGb (o := o) p gs [] ([], [], false) rfl ⟨.inl rfl, fun g hg => by simp at hg⟩ ⟨.inl rfl, fun g hg => by simp at hg⟩
 unfold zrun
 rw [this]; simp
end Go.Mir
