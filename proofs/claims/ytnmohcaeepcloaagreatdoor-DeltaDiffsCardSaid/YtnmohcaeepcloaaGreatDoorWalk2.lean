/- What the program's functions answer, read off their code; no conditions. -/
import Derived.Test.YtnmohcaeepcloaaGreatDoorWalk1
import Derived.KernelRfl
set_option linter.unusedSimpArgs false
set_option linter.unusedVariables false
set_option linter.defProp false
set_option maxRecDepth 100000
set_option maxHeartbeats 4000000
open Go Go.RowKit Go.Proofs
namespace Go.Mir
attribute [local congr] Ev.congr EvC.congr EvW.congr Br.congr Ms.congr
structure Kd where
 num : Int
 mn : List UInt8
 fl : List UInt8
 deriving Inhabited, DecidableEq
def kdL (a : Kd) : List D := [.it .i64 a.num, .st a.mn, .st a.fl]
def kdE (a : Kd) : D := .agg (kdL a)
theorem zG4 (a : Kd) : D.cells (kdE a) = kdL a := rfl
theorem zEP (a : Kd) : cellsOf (kdE a) = some (kdL a) := rfl
theorem zPg (a : Kd) : (kdL a).length = 3 := rfl
theorem zJO (a : Kd) : List.take 3 (kdL a) = kdL a := rfl
theorem zPk (a : Kd) : D.agg (kdL a) = kdE a := rfl
theorem zJP (a : Kd) : refs (kdE a) = [] := rfl
theorem zPh (a : Kd) : immD (kdE a) = true := rfl
theorem zPf {f : Nat → Option Nat} (a : Kd) : ren f (kdE a) = kdE a := rfl
theorem zPj (a : Kd) : zBU (kdE a) = true := rfl
theorem zYI {num : Int} {mn : List UInt8} {fl : List UInt8} : D.agg [.it .i64 num, .st mn, .st fl] = kdE ⟨num, mn, fl⟩ := rfl
theorem zG3 (a : Kd) : List.drop 1 (kdL a) = [.st a.mn, .st a.fl] := rfl
theorem zG2 (a : Kd) : List.drop 2 (kdL a) = [.st a.fl] := rfl
theorem zG1 (a : Kd) : List.drop 3 (kdL a) = [] := rfl
theorem zYJ (a : Kd) : (kdL a).head? = some (.it .i64 a.num) := rfl
theorem zG0 (a : Kd) : zAp (kdL a) = [] := rfl
theorem zJQ (a : Kd) : immL (kdL a) = true := rfl
theorem zYK (a : Kd) : zDN (kdE a) = true := rfl
theorem yHB : ∀ a b : Kd, kdE a = kdE b → a = b := by
 intro a b h
 cases a; cases b
 simp only [kdE, kdL, D.agg.injEq, tAv, D.st.injEq, D.it.injEq, D.bo.injEq, true_and, and_true] at h
 simp only [Kd.mk.injEq]; exact h
theorem zPi (a b : Kd) : (kdE a = kdE b) = (a = b) := propext ⟨yHB a b, fun h => h ▸ rfl⟩
theorem zG5 (a b : Kd) : again (kdE a) (kdL b) = kdE b := rfl
theorem zJl : szT Tryz.prog 103 = some 3 := by kernel_rfl
theorem zIr : aggT Tryz.prog 103 = some true := by kernel_rfl
theorem zHv : zDC Tryz.prog 103 = some (.agg [.it .i64 0, .st [], .st []]) := by kernel_rfl
theorem zDT : szT Tryz.prog 3 = some 1 := by kernel_rfl
theorem zDa : aggT Tryz.prog 3 = some false := by kernel_rfl
theorem zDS : szT Tryz.prog 9 = some 1 := by kernel_rfl
theorem zC9 : aggT Tryz.prog 9 = some false := by kernel_rfl
theorem zJ3 : ∀ a : Kd, zAN Tryz.prog 103 0 (kdE a) = some (.it .i64 a.num) := fun a => by
 show zAN _ _ _ (.agg (kdL a)) = _
 simp only [zAN, zAQ, Tryz.underlying102, Tryz.underlying103, zJl, zIr, zDT, zDa, zDS, zC9, zAx, tAg, tBG, tAV, tAt, if_true, if_false, tAf]
 rfl
theorem zJ6 : ∀ (H : Hp) (x : D), zAM Tryz.prog H 103 x 0 = faD H x 0 := zCf (n := (szT Tryz.prog ((zAQ Tryz.prog 103 0).map (·.type)|>.getD 0)).getD 0) (fl := (zAQ Tryz.prog 103 0).getD default) (by kernel_rfl) (by kernel_rfl) (by decide +kernel) (by kernel_rfl)
theorem zJ2 : ∀ a : Kd, zAN Tryz.prog 103 1 (kdE a) = some (.st a.mn) := fun a => by
 show zAN _ _ _ (.agg (kdL a)) = _
 simp only [zAN, zAQ, Tryz.underlying102, Tryz.underlying103, zJl, zIr, zDT, zDa, zDS, zC9, zAx, tAg, tBG, tAV, tAt, if_true, if_false, tAf]
 rfl
theorem zJ5 : ∀ (H : Hp) (x : D), zAM Tryz.prog H 103 x 1 = faD H x 1 := zCf (n := (szT Tryz.prog ((zAQ Tryz.prog 103 1).map (·.type)|>.getD 0)).getD 0) (fl := (zAQ Tryz.prog 103 1).getD default) (by kernel_rfl) (by kernel_rfl) (by decide +kernel) (by kernel_rfl)
theorem zJ1 : ∀ a : Kd, zAN Tryz.prog 103 2 (kdE a) = some (.st a.fl) := fun a => by
 show zAN _ _ _ (.agg (kdL a)) = _
 simp only [zAN, zAQ, Tryz.underlying102, Tryz.underlying103, zJl, zIr, zDT, zDa, zDS, zC9, zAx, tAg, tBG, tAV, tAt, if_true, if_false, tAf]
 rfl
theorem zJ4 : ∀ (H : Hp) (x : D), zAM Tryz.prog H 103 x 2 = faD H x 2 := zCf (n := (szT Tryz.prog ((zAQ Tryz.prog 103 2).map (·.type)|>.getD 0)).getD 0) (fl := (zAQ Tryz.prog 103 2).getD default) (by kernel_rfl) (by kernel_rfl) (by decide +kernel) (by kernel_rfl)
theorem zZI : ∀ (parts : List (Nat × D)), zDm Tryz.prog 103 parts = (zEG (fun i => ([(0, 1), (1, 1), (2, 1)] : List (Nat × Nat))[i]?) [.it .i64 0, .st [], .st []] parts).map .agg := zNG zHv Tryz.underlying103 (by kernel_rfl)
theorem zVn : zBL Tryz.prog 131 = some 103 := by kernel_rfl
theorem zRT : appT Tryz.prog 131 3 40 = true := by kernel_rfl
theorem zR6 : zDn Tryz.prog 103 3 = some (.agg [.it .i64 0, .st [], .st []]) := by kernel_rfl
theorem zPY : ∀ (H : Hp) (nid : Nat) (s x : D), zBY Tryz.prog 131 H nid s x = appK 3 40 H nid s x := fun _ _ _ _ => zIn zRT
theorem zPZ : ∀ (H : Hp) (nid : Nat) (s x : D), zBR Tryz.prog 131 H nid s x = zKr 3 40 H nid s x := fun _ _ _ _ => zFi zRT
theorem zJI : ∀ {α : Type} (H : Hp) (sz : Nat) (E : α → D) (xs : List α), lenD Tryz.prog H 131 (vecE sz E xs) = some (xs.length : Int) := fun _ _ _ _ => zD6 Tryz.underlying131
theorem zJJ : ∀ (H : Hp) (id off len : Nat), lenD Tryz.prog H 131 (.own id off len) = match H id with | .row _ _ _ => some (len : Int) | _ => none := fun _ _ _ _ => zFb Tryz.underlying131
theorem zJw : ∀ {α : Type} (sz : Nat) (E : α → D) (xs : List α), zBP Tryz.prog 131 (vecE sz E xs) = true := fun _ _ _ => zDV Tryz.underlying131
theorem zPo : ∀ (H : Hp) (id off len : Nat) (k : IntKind) (n : Int), zAP Tryz.prog H 131 (.own id off len) (.it k n) = match H id with | .row sz _ _ => if szT Tryz.prog 103 = some sz ∧ 0 ≤ n ∧ n < len then some (.rowp id (off + n.toNat) 0) else none | _ => none := fun _ _ _ _ _ _ => zGJ Tryz.underlying131
theorem zN6 : ∀ (H : Hp) (id len k : Nat) (kd : IntKind), zAW Tryz.prog H 131 (.own id 0 len) none (some (.it kd (k : Int))) none = match H id with | .row sz _ _ => if szT Tryz.prog 103 = some sz ∧ k ≤ len then some (.own id 0 k) else none | _ => none := fun _ _ _ _ _ => zHJ Tryz.underlying131
theorem zN8 : ∀ (H : Hp) (id off len k : Nat) (kd : IntKind), zAW Tryz.prog H 131 (.own id off len) (some (.it kd (k : Int))) none none = match H id with | .row sz _ _ => if szT Tryz.prog 103 = some sz ∧ k ≤ len then some (.own id (off + k) (len - k)) else none | _ => none := fun _ _ _ _ _ _ => zDW Tryz.underlying131
theorem zN9 : ∀ {α : Type} (H : Hp) (E : α → D) (xs : List α) (k : IntKind) (i : Nat) (_ : i ≤ xs.length), zAW Tryz.prog H 131 (vecE 3 E xs) (some (.it k (i : Int))) none none = some (vecE 3 E (xs.drop i)) := fun _ _ _ _ _ h => zDX Tryz.underlying131 zJl h
theorem zO7 : ∀ (H : Hp) (nid : Nat) (c : Int), zDe Tryz.prog 131 H nid (.it .i64 0) (.it .i64 c) = if 0 ≤ c ∧ ((40 : Nat) : Int) * c ≤ 281474976710656 then some (.own nid 0 0, upd H nid (.row 3 true []), nid + 1) else none := fun _ _ _ => zM5 zVn zR6 (by kernel_rfl) (by decide)
theorem zJx : ∀ (id off len : Nat), zBP Tryz.prog 131 (.own id off len) = true := fun _ _ _ => zDs Tryz.underlying131
theorem zPn : ∀ {α : Type} [Inhabited α] (H : Hp) (E : α → D) (xs : List α) (k : IntKind) (i : Nat) (_ : (i : Int) < xs.length), zAP Tryz.prog H 131 (vecE 3 E xs) (.it k (i : Int)) = some (.elt (E xs[i]!).cells) := fun _ _ _ _ _ h => zEC Tryz.underlying131 zJl h
def kindsL : List Kd := [⟨1, [65], [52]⟩, ⟨2, [78, 83], [104]⟩, ⟨5, [67, 78, 65, 77, 69], [104]⟩, ⟨6, [83, 79, 65], [104, 109, 118, 119, 120, 121, 122]⟩, ⟨12, [80, 84, 82], [104]⟩, ⟨15, [77, 88], [65, 104]⟩, ⟨16, [84, 88, 84], [116]⟩, ⟨28, [65, 65, 65, 65], [54]⟩, ⟨33, [83, 82, 86], [65, 66, 67, 104]⟩, ⟨39, [68, 78, 65, 77, 69], [104]⟩, ⟨43, [68, 83], [65, 98, 99, 114]⟩, ⟨46, [82, 82, 83, 73, 71], [65, 115, 98, 120, 121, 122, 70, 104, 114]⟩, ⟨47, [78, 83, 69, 67], [104, 110]⟩, ⟨48, [68, 78, 83, 75, 69, 89], [65, 98, 99, 114]⟩]
def kd0 : Kd := ⟨0, [], []⟩
noncomputable def zMp := mkF (fun s : Unit => []) (fun s => True) (fun s => Res.flat (vecE 3 kdE kindsL))
theorem zMo : zMp [] = some (Res.flat (vecE 3 kdE kindsL)) := zBV (s := ()) (fun s s' h => rfl) trivial
theorem zOz (cx : Cx) (hP : cx.P = Tryz.prog) (hbs : cx.bs = 0)   : zAg cx Tryz.f160 [] false [] = some (Res.flat (vecE 3 kdE kindsL)) := by
 obtain ⟨P, a, b, c⟩ := cx
 simp only at hP hbs
 subst hP
 subst hbs
 kernel_rfl
def zA3 (t : Int) : Kd × Bool := match kindsL.find? (fun k => decide (k.num = t)) with | some k => (k, true) | none => (kd0, false)
theorem zUK {t : Int} {i : Nat} (h0 : (kindsL.take i).any (fun k => decide (k.num = t)) = false) (h : (i : Int) < kindsL.length) (hp : kindsL[i]!.num = t) : zA3 t = (kindsL[i]!, true) := by
 have hi : i < kindsL.length := by omega
 have : kindsL.find? (fun k => decide (k.num = t)) = some kindsL[i]! := by
   rw [List.find?_eq_some_iff_getElem]
   refine ⟨decide_eq_true hp, i, hi, (getElem!_pos kindsL i hi).symm, fun j hj => ?_⟩
   have h1 := tCj.1 h0 kindsL[j] (by rw [List.mem_take_iff_getElem]; exact ⟨j, by omega, rfl⟩)
   simpa using h1
 rw [zA3, this]
theorem zYF {t : Int} (h : kindsL.any (fun k => decide (k.num = t)) = false) : zA3 t = (kd0, false) := by
 have : kindsL.find? (fun k => decide (k.num = t)) = none := by rw [List.find?_eq_none]; exact tCj.1 h
 rw [zA3, this]
theorem zUQ (k : Kd) : zBn (.box (kdL k)) := by intro x hx; simp [kdL] at hx; rcases hx with rfl | rfl | rfl <;> rfl
theorem zRh : kindsL.length = 14 := rfl
theorem zEv (t : Int) : t = 1 ∨ t = 2 ∨ t = 5 ∨ t = 6 ∨ t = 12 ∨ t = 15 ∨ t = 16 ∨ t = 28 ∨ t = 33 ∨ t = 39 ∨ t = 43 ∨ t = 46 ∨ t = 47 ∨ t = 48 ∨ (¬ 1 = t ∧ ¬ 2 = t ∧ ¬ 5 = t ∧ ¬ 6 = t ∧ ¬ 12 = t ∧ ¬ 15 = t ∧ ¬ 16 = t ∧ ¬ 28 = t ∧ ¬ 33 = t ∧ ¬ 39 = t ∧ ¬ 43 = t ∧ ¬ 46 = t ∧ ¬ 47 = t ∧ ¬ 48 = t) := by omega
theorem zH1 (t : Int) : (zA3 t).2 = known t := by
 rcases zEv t with rfl | rfl | rfl | rfl | rfl | rfl | rfl | rfl | rfl | rfl | rfl | rfl | rfl | rfl | ⟨h1, h2, h3, h4, h5, h6, h7, h8, h9, h10, h11, h12, h13, h14⟩
 iterate 14 exact rfl
 unfold zA3 kindsL known mnem
 rw [if_neg (fun e => h1 e.symm), if_neg (fun e => h2 e.symm), if_neg (fun e => h3 e.symm), if_neg (fun e => h4 e.symm), if_neg (fun e => h5 e.symm), if_neg (fun e => h6 e.symm), if_neg (fun e => h7 e.symm), if_neg (fun e => h8 e.symm), if_neg (fun e => h9 e.symm), if_neg (fun e => h10 e.symm), if_neg (fun e => h11 e.symm), if_neg (fun e => h12 e.symm), if_neg (fun e => h13 e.symm), if_neg (fun e => h14 e.symm)]
 simp only [List.find?, decide_eq_false h1, decide_eq_false h2, decide_eq_false h3, decide_eq_false h4, decide_eq_false h5, decide_eq_false h6, decide_eq_false h7, decide_eq_false h8, decide_eq_false h9, decide_eq_false h10, decide_eq_false h11, decide_eq_false h12, decide_eq_false h13, decide_eq_false h14]
 rfl

noncomputable def zMr := mkF (fun s : Int => [.it .i64 s]) (fun s => True) (fun s => Res.flat (.tup [kdE (zA3 s).1, .bo (zA3 s).2]))
theorem zMq {t1 : Int} : zMr [.it .i64 t1] = some (Res.flat (.tup [kdE (zA3 t1).1, .bo (zA3 t1).2])) := mkFe (s := (t1)) trivial
theorem zOA (cx : Cx) (hP : cx.P = Tryz.prog) (hbs : cx.bs = 0) (h160 : cx.orc 160 = some zMp) (hk2 : cx.kp 2 = some [0, 2, 6, 7, 8]) (t1 : Int)  : zAg cx Tryz.f115 [] false [.it .i64 t1] = some (Res.flat (.tup [kdE (zA3 t1).1, .bo (zA3 t1).2])) := by
 have c160 := zAa h160
 have hw : ∀ k : Nat, (k : Int) < kindsL.length → IntKind.i64.wrap ((k : Int) + 1) = ((k + 1 : Nat) : Int) := zBF (by decide)
 refine zAf (rs := [.cell 2 103, .tmp 3]) rfl hbs rfl ?_
 repeat' first
   | (refine zAv (σ := Nat) (fun s => [.it .i64 t1, .ptr 0 0, vecE 3 kdE kindsL, .it .i64 kindsL.length, .it .i64 s]) (fun s => [.box (kdL kd0)]) (fun s => s ≤ kindsL.length ∧ (kindsL.take s).any (fun k => decide (k.num = t1)) = false) (fun s => kindsL.length - s) [0, 2, 6, 7, 8] hbs (by exact hk2) (fr1 fun _ => zUQ _) (fun s js => ?_) (s := 0) [0] ?_ ?_ ?_ ?_ ?_)
   | (refine bN (fun h => ?_) fun h => ?_)
   | (refine zAI ?_ ?_)
   | simp only [↓cD, cU, cQ, cP, cB, zAD, unD, zAe, zAd, idx, reduceCtorEq, ↓reduceIte, ofV, ofC, zAq, Nat.reduceEqDiff, zAB, cG, implies_true, forall_const, immL, immD, Res.flat, ren, renL, Int.reduceEq, Int.reduceLT, Int.reduceLE, Int.reduceNe, deref, ldD, zAA, zAh, zAC, zAs, cC, c160, zAi, zAk, zMo, ↓zAH, ↓zAL, ↓zAG, ↓zAK, ↓zAF, ↓zAJ, cV, cT, cF, cW, borT, borM, zAl, Res.via, zAt, zAb, refsB, Nat.reduceLT, Nat.reduceSub, Nat.reduceLeDiff, Nat.reduceMul, Nat.reduceAdd, Int.reduceToNat, appK, zAr, zAc, borL, zAj, zAm, zAz, cO, List.replicate, zAx, ofHp, ixOf, zG4, zEP, zPg, zJO, zPk, zJP, zPh, zPf, zPj, zYI, zG3, zG2, zG1, zYJ, zG0, zJQ, zYK, zPi, zG5, zJl, zIr, Tryz.underlying102, Tryz.underlying103, zHv, zDT, zDa, zDS, zC9, zJ3, zJ6, zJ2, zJ5, zJ1, zJ4, zZI, zVn, zRT, zR6, zPY, zPZ, zJI, zJJ, zJw, zPo, zN6, zN8, zN9, zO7, zJx, zPn, hw, hP, *]
 all_goals first
   | rfl
   | omega
   | exact ⟨tAL _, rfl⟩
   | (rw [zUK js.2 (by omega) ‹_›]; done)
   | (have h := js.2; rw [zAS (by omega)] at h; rw [zYF h]; rfl)
   | (refine ⟨[0], s + 1, ?_, ?_, ?_, ?_, ⟨by omega, by rw [zCR (by omega), js.2, tBg]; exact decide_eq_false ‹_›⟩, by omega⟩ <;> (first | rfl | (simp only [zAp, refs, ren, cR, Nat.reduceEqDiff, ofHp, ixOf]; first | rfl | (simp; done))))
   | (first | rfl | (simp only [zAp, refs, ren, cR, Nat.reduceEqDiff, ofHp, ixOf]; first | rfl | (simp; done)))
noncomputable def zIB := mkF (fun s : Int => [.it .i64 s]) (fun s => True) (fun s => Res.flat (.bo (known s)))
theorem zJe {t1 : Int} : zIB [.it .i64 t1] = some (Res.flat (.bo (known t1))) := mkFe (s := (t1)) trivial
theorem zK5 (cx : Cx) (hP : cx.P = Tryz.prog) (hbs : cx.bs = 0) (h115 : cx.orc 115 = some zMr) (t1 : Int)  : zAg cx Tryz.f88 [] false [.it .i64 t1] = some (Res.flat (.bo (known t1))) := by
 have c115 := zAa h115
 refine zAf (rs := [.tmp 2]) rfl hbs rfl ?_
 repeat' first
   | (refine bN (fun h => ?_) fun h => ?_)
   | (refine zAI ?_ ?_)
   | simp only [↓cD, cU, cQ, cP, cB, zAD, unD, zAe, zAd, idx, reduceCtorEq, ↓reduceIte, ofV, ofC, zAq, Nat.reduceEqDiff, zAB, cG, implies_true, forall_const, immL, immD, Res.flat, ren, renL, Int.reduceEq, Int.reduceLT, Int.reduceLE, Int.reduceNe, deref, ldD, zAA, zAh, zAC, zAs, cC, c115, zAi, zAk, zMq, ↓zAH, ↓zAL, ↓zAG, ↓zAK, ↓zAF, ↓zAJ, cV, cT, cF, cW, borT, borM, zAl, Res.via, zAt, zAb, refsB, Nat.reduceLT, Nat.reduceSub, Nat.reduceLeDiff, Nat.reduceMul, Nat.reduceAdd, Int.reduceToNat, appK, zAr, zAc, borL, zAj, zAm, zAz, cO, List.replicate, zAx, ofHp, ixOf, zG4, zEP, zPg, zJO, zPk, zJP, zPh, zPf, zPj, zYI, zG3, zG2, zG1, zYJ, zG0, zJQ, zYK, zPi, zG5, zJl, zIr, Tryz.underlying102, Tryz.underlying103, zHv, zDT, zDa, zDS, zC9, zJ3, zJ6, zJ2, zJ5, zJ1, zJ4, zZI, zVn, zRT, zR6, zPY, zPZ, zJI, zJJ, zJw, zPo, zN6, zN8, zN9, zO7, zJx, zPn, zH1, hP, *]
 all_goals first
   | rfl
theorem zIP (cx : Cx) (hP : cx.P = Tryz.prog) (hbs : cx.bs = 0) (t1 : Int)  : zAg cx Tryz.f124 [] false [.it .i64 t1] = some (Res.flat (.bo (single t1))) := by
 refine zAf (rs := [.tmp 2]) rfl hbs rfl ?_
 repeat' first
   | (refine bN (fun h => ?_) fun h => ?_)
   | (refine zAI ?_ ?_)
   | simp only [↓cD, cU, cQ, cP, cB, zAD, unD, zAe, zAd, idx, reduceCtorEq, ↓reduceIte, ofV, ofC, zAq, Nat.reduceEqDiff, zAB, cG, implies_true, forall_const, immL, immD, Res.flat, ren, renL, Int.reduceEq, Int.reduceLT, Int.reduceLE, Int.reduceNe, deref, ldD, zAA, zAh, zAC, zAs, cC, ↓zAH, ↓zAL, ↓zAG, ↓zAK, ↓zAF, ↓zAJ, cV, cT, cF, cW, borT, borM, zAl, Res.via, zAt, zAb, refsB, Nat.reduceLT, Nat.reduceSub, Nat.reduceLeDiff, Nat.reduceMul, Nat.reduceAdd, Int.reduceToNat, appK, zAr, zAc, borL, zAj, zAm, zAz, cO, List.replicate, zAx, ofHp, ixOf, hP, *]
 all_goals first
   | rfl
   | (simp [single, *]; done)
   | (simp [single, *]; omega)
noncomputable def zHq := mkF (fun s : Int => [.it .i64 s]) (fun s => True) (fun s => Res.flat (.bo (single s)))
theorem zNM {t1 : Int} : zHq [.it .i64 t1] = some (Res.flat (.bo (single t1))) := mkFe (s := (t1)) trivial
noncomputable def FInB := mkF (fun s : Int × Int => [.it .i64 s.1, .it .i64 s.2]) (fun s => True) (fun s => Res.flat (.bo (inB s.1 s.2)))
theorem yF1 {a1 : Int} {b1 : Int} : FInB [.it .i64 a1, .it .i64 b1] = some (Res.flat (.bo (inB a1 b1))) := mkFe (s := (a1, b1)) trivial
theorem yA7 (cx : Cx) (hP : cx.P = Tryz.prog) (hbs : cx.bs = 0) (a1 b1 : Int)  : zAg cx Tryz.f118 [] false [.it .i64 a1, .it .i64 b1] = some (Res.flat (.bo (inB a1 b1))) := by
 refine zAf (rs := [.tmp 4]) rfl hbs rfl ?_
 repeat' first
   | (refine bN (fun h => ?_) fun h => ?_)
   | (refine zAI ?_ ?_)
   | simp only [↓cD, cU, cQ, cP, cB, zAD, unD, zAe, zAd, idx, reduceCtorEq, ↓reduceIte, ofV, ofC, zAq, Nat.reduceEqDiff, zAB, cG, implies_true, forall_const, immL, immD, Res.flat, ren, renL, Int.reduceEq, Int.reduceLT, Int.reduceLE, Int.reduceNe, deref, ldD, zAA, zAh, zAC, zAs, cC, ↓zAH, ↓zAL, ↓zAG, ↓zAK, ↓zAF, ↓zAJ, cV, cT, cF, cW, borT, borM, zAl, Res.via, zAt, zAb, refsB, Nat.reduceLT, Nat.reduceSub, Nat.reduceLeDiff, Nat.reduceMul, Nat.reduceAdd, Int.reduceToNat, appK, zAr, zAc, borL, zAj, zAm, zAz, cO, List.replicate, zAx, ofHp, ixOf, hP, *]
 all_goals first
   | rfl
   | (simp [inB, *]; done)
   | (simp [inB, *]; omega)
theorem zKV (cx : Cx) (hP : cx.P = Tryz.prog) (hbs : cx.bs = 0) (s1 : List UInt8)  : zAg cx Tryz.f119 [] false [.st s1] = some (Res.flat (.bo (zDp s1))) := by
 refine zAf (rs := [.tmp 2]) rfl hbs rfl ?_
 repeat' first
   | (refine bN (fun h => ?_) fun h => ?_)
   | (refine zAI ?_ ?_)
   | simp only [↓cD, cU, cQ, cP, cB, zAD, unD, zAe, zAd, idx, reduceCtorEq, ↓reduceIte, ofV, ofC, zAq, Nat.reduceEqDiff, zAB, cG, implies_true, forall_const, immL, immD, Res.flat, ren, renL, Int.reduceEq, Int.reduceLT, Int.reduceLE, Int.reduceNe, deref, ldD, zAA, zAh, zAC, zAs, cC, ↓zAH, ↓zAL, ↓zAG, ↓zAK, ↓zAF, ↓zAJ, cV, cT, cF, cW, borT, borM, zAl, Res.via, zAt, zAb, refsB, Nat.reduceLT, Nat.reduceSub, Nat.reduceLeDiff, Nat.reduceMul, Nat.reduceAdd, Int.reduceToNat, appK, zAr, zAc, borL, zAj, zAm, zAz, cO, List.replicate, zAx, ofHp, ixOf, lens Tryz.underlying9, hP, *]
 all_goals first
   | rfl
   | (simp [zDp, *]; done)
   | (simp [zDp, *]; omega)
theorem zOk (cx : Cx) (hP : cx.P = Tryz.prog) (hbs : cx.bs = 0) (x : Adr)  : zAg cx Tryz.f116 [] false [adrE x] = some (Res.flat (.bo (vAdr x))) := by
 refine zAf (rs := [.tmp 2]) rfl hbs rfl ?_
 repeat' first
   | (refine bN (fun h => ?_) fun h => ?_)
   | (refine zAI ?_ ?_)
   | simp only [↓cD, cU, cQ, cP, cB, zAD, unD, zAe, zAd, idx, reduceCtorEq, ↓reduceIte, ofV, ofC, zAq, Nat.reduceEqDiff, zAB, cG, implies_true, forall_const, immL, immD, Res.flat, ren, renL, Int.reduceEq, Int.reduceLT, Int.reduceLE, Int.reduceNe, deref, ldD, zAA, zAh, zAC, zAs, cC, ↓zAH, ↓zAL, ↓zAG, ↓zAK, ↓zAF, ↓zAJ, cV, cT, cF, cW, borT, borM, zAl, Res.via, zAt, zAb, refsB, Nat.reduceLT, Nat.reduceSub, Nat.reduceLeDiff, Nat.reduceMul, Nat.reduceAdd, Int.reduceToNat, appK, zAr, zAc, borL, zAj, zAm, zAz, cO, List.replicate, zAx, ofHp, ixOf, hP, *]
 all_goals first
   | rfl
   | (simp [vAdr, *]; done)
   | (simp [vAdr, *]; omega)
theorem zY0 {n : List UInt8} (h : vName n = true) : preB n [42] = decide ((n[(0 : Int).toNat]!.toNat : Int) = 42) := by
 cases n with
 | nil => exact absurd h (by decide)
 | cons x r =>
   have h1 : (((x :: r)[(0 : Int).toNat]!).toNat : Int) = (x.toNat : Int) := rfl
   rw [h1]
   simp only [preB, tAp, tAu, tAZ, tBs, tCb]
   have h2 : ((x.toNat : Int) = 42) ↔ x = 42 := by
     constructor
     · intro h; apply tBF.1; have : (42 : UInt8).toNat = 42 := rfl; omega
     · intro h; subst h; rfl
   rw [tBm]
   simp [h2]

noncomputable def zQp := mkF (fun s : (List UInt8) => [.st s]) (fun s => Sm s) (fun s => Res.flat (.bo (zCe s)))
theorem zWY {s1 : List UInt8} (hp : Sm s1) : zQp [.st s1] = some (Res.flat (.bo (zCe s1))) := mkFe (s := (s1)) hp
theorem zK6 (cx : Cx) (hP : cx.P = Tryz.prog) (hbs : cx.bs = 0) (h42 : cx.orc 42 = some zEJ) (h161 : cx.orc 161 = some FPre) (s1 : List UInt8) (hl : Sm s1) : zAg cx Tryz.f117 [] false [.st s1] = some (Res.flat (.bo (zCe s1))) := by
 have c42 := zAa h42
 have c161 := zAa h161
 refine zAf (rs := [.tmp 2]) rfl hbs rfl ?_
 repeat' first
   | (refine bN (fun h => ?_) fun h => ?_)
   | (refine zAI ?_ ?_)
   | simp only [↓cD, cU, cQ, cP, cB, zAD, unD, zAe, zAd, idx, reduceCtorEq, ↓reduceIte, ofV, ofC, zAq, Nat.reduceEqDiff, zAB, cG, implies_true, forall_const, immL, immD, Res.flat, ren, renL, Int.reduceEq, Int.reduceLT, Int.reduceLE, Int.reduceNe, deref, ldD, zAA, zAh, zAC, zAs, cC, c42, c161, zAi, zAk, zCG, zWL, ↓zAH, ↓zAL, ↓zAG, ↓zAK, ↓zAF, ↓zAJ, cV, cT, cF, cW, borT, borM, zAl, Res.via, zAt, zAb, refsB, Nat.reduceLT, Nat.reduceSub, Nat.reduceLeDiff, Nat.reduceMul, Nat.reduceAdd, Int.reduceToNat, appK, zAr, zAc, borL, zAj, zAm, zAz, cO, List.replicate, zAx, ofHp, ixOf, hl, zHU, hP, *]
 all_goals first
   | rfl
   | (unfold zCe; simp only [*, tCc]; done)
   | (unfold zCe; rw [← zY0 ‹_›]; simp only [*, tAR]; done)
def allU : Nat → Int
 | 0 => 0
 | s + 1 => IntKind.u64.wrap (BitVec.ofInt IntKind.u64.bits (allU s) ||| BitVec.ofInt IntKind.u64.bits (IntKind.u64.wrap (1 * 2 ^ min kindsL[s]!.num.toNat IntKind.u64.bits))).toNat
@[irreducible] def ALLU : Int := 501935916552294
theorem zZL : allU kindsL.length = ALLU := by decide +kernel
theorem zUJ : ∀ s : Nat, (s : Int) < kindsL.length → (kindsL[s]!.num < 0) = False := by
 intro s h
 have h1 : ∀ s : Fin 14, ¬ kindsL[s.1]!.num < 0 := by decide +kernel
 have := h1 ⟨s, by rw [zRh] at h; omega⟩
 simp only [eq_iff_iff, iff_false]; exact this

theorem zTy (cx : Cx) (hP : cx.P = Tryz.prog) (hbs : cx.bs = 0) (h160 : cx.orc 160 = some zMp) (hk3 : cx.kp 3 = some [1, 4, 5, 6])   : zAg cx Tryz.f120 [] false [] = some (Res.flat (.it .u64 ALLU)) := by
 have c160 := zAa h160
 have hw : ∀ k : Nat, (k : Int) < kindsL.length → IntKind.i64.wrap ((k : Int) + 1) = ((k + 1 : Nat) : Int) := zBF (by decide)
 refine zAf (rs := [.tmp 0]) rfl hbs rfl ?_
 repeat' first
   | (refine zAv (σ := Nat) (fun s => [.it .u64 (allU s), vecE 3 kdE kindsL, .it .i64 kindsL.length, .it .i64 s]) (fun s => []) (fun s => s ≤ kindsL.length) (fun s => kindsL.length - s) [1, 4, 5, 6] hbs (by exact hk3) (fun q jq b hb => by simp at hb) (fun s js => ?_) (s := 0) [] ?_ ?_ ?_ ?_ ?_)
   | (refine bN (fun h => ?_) fun h => ?_)
   | (refine zAI ?_ ?_)
   | simp only [↓cD, cU, cQ, cP, cB, zAD, unD, zAe, zAd, idx, reduceCtorEq, ↓reduceIte, ofV, ofC, zAq, Nat.reduceEqDiff, zAB, cG, implies_true, forall_const, immL, immD, Res.flat, ren, renL, Int.reduceEq, Int.reduceLT, Int.reduceLE, Int.reduceNe, deref, ldD, zAA, zAh, zAC, zAs, cC, c160, zAi, zAk, zMo, ↓zAH, ↓zAL, ↓zAG, ↓zAK, ↓zAF, ↓zAJ, cV, cT, cF, cW, borT, borM, zAl, Res.via, zAt, zAb, refsB, Nat.reduceLT, Nat.reduceSub, Nat.reduceLeDiff, Nat.reduceMul, Nat.reduceAdd, Int.reduceToNat, appK, zAr, zAc, borL, zAj, zAm, zAz, cO, List.replicate, zAx, ofHp, ixOf, zG4, zEP, zPg, zJO, zPk, zJP, zPh, zPf, zPj, zYI, zG3, zG2, zG1, zYJ, zG0, zJQ, zYK, zPi, zG5, zJl, zIr, Tryz.underlying102, Tryz.underlying103, zHv, zDT, zDa, zDS, zC9, zJ3, zJ6, zJ2, zJ5, zJ1, zJ4, zZI, zVn, zRT, zR6, zPY, zPZ, zJI, zJJ, zJw, zPo, zN6, zN8, zN9, zO7, zJx, zPn, hw, zUJ, hP, *]
 all_goals first
   | rfl
   | omega
   | (rw [show s = kindsL.length by omega, zZL])
   | (refine ⟨[], s + 1, ?_, ?_, ?_, ?_, by omega, by omega⟩ <;> rfl)
noncomputable def yAu := mkF (fun s : Unit => []) (fun s => True) (fun s => Res.flat (.it .u64 ALLU))
theorem yAt : yAu [] = some (Res.flat (.it .u64 ALLU)) := zBV (s := ()) (fun s s' h => rfl) trivial
theorem zIo (n : Int) : ∀ (k t : Nat), zDA n t k = true ↔ ∀ i, t ≤ i → i < t + k → bitS n i = 1 → known i = true
 | 0, t => by simp only [zDA, true_iff]; intro i h1 h2; omega
 | k + 1, t => by
   have ih := zIo n k (t + 1)
   simp only [zDA]
   constructor
   · intro h i h1 h2 hb
     by_cases e : i = t
     · subst e; rw [if_pos hb] at h; split at h; assumption; cases h
     · split at h
       · split at h
         · exact ih.1 h i (by omega) (by omega) hb
         · cases h
       · exact ih.1 h i (by omega) (by omega) hb
   · intro h
     have h2 := ih.2 fun i h1 h2 => h i (by omega) (by omega)
     split
     · rename_i hb; rw [if_pos (h t (by omega) (by omega) hb)]; exact h2
     · exact h2
theorem zKp (n : Int) {t : Nat} (ht : t < 64) : bitS n t = 1 ↔ (BitVec.ofInt 64 n).getLsbD t = true := by
 have e : IntKind.u64.bits = 64 := rfl
 unfold bitS
 rw [e, show min t 64 = t by omega]
 rw [← BitVec.testBit_toNat, BitVec.toNat_ofInt, Nat.testBit_eq_decide_div_mod_eq, BitVec.toNat_and, BitVec.toNat_ofInt, BitVec.toNat_ofInt, decide_eq_true_iff]
 rw [show ((1 : Int) % ((2 ^ 64 : Nat) : Int)).toNat = 1 by decide +kernel, Nat.and_one_is_mod]
 have h1 : IntKind.u64.wrap (((n.fdiv (2 ^ t) % ((2 ^ 64 : Nat) : Int)).toNat % 2 : Nat) : Int) = (((n.fdiv (2 ^ t) % ((2 ^ 64 : Nat) : Int)).toNat % 2 : Nat) : Int) := by rw [zDR]; omega
 rw [h1]
 have h2 : n.fdiv (2 ^ t) = n / 2 ^ t := tBq _ (tBy (by decide))
 rw [h2]
 have hp : (0 : Int) < 2 ^ t := Int.pow_pos (by decide)
 have hc : (((2 : Nat) ^ 64 : Nat) : Int) = 2 ^ t * (2 * 2 ^ (63 - t)) := by
   have h3 : (2 : Nat) ^ 64 = 2 ^ t * (2 * 2 ^ (63 - t)) := by rw [← Nat.pow_succ', ← Nat.pow_add]; congr 1; omega
   rw [h3]; push_cast; rfl
 generalize hm : n % (((2 : Nat) ^ 64 : Nat) : Int) = m
 have hm0 : 0 ≤ m := by rw [← hm]; exact Int.emod_nonneg _ (by decide)
 have hn : n = 2 ^ t * ((2 * 2 ^ (63 - t)) * (n / (((2 : Nat) ^ 64 : Nat) : Int))) + m := by
   rw [← Int.mul_assoc, ← hc, ← hm]; exact (Int.mul_ediv_add_emod _ _).symm
 have hd : n / 2 ^ t = 2 * (2 ^ (63 - t) * (n / (((2 : Nat) ^ 64 : Nat) : Int))) + m / 2 ^ t := by
   rw [← Int.mul_assoc]
   conv => lhs; rw [hn]
   rw [Int.mul_add_ediv_left _ _ (by omega)]
 rw [hd]
 generalize 2 ^ (63 - t) * (n / (((2 : Nat) ^ 64 : Nat) : Int)) = q
 obtain ⟨k, rfl⟩ := tBj hm0
 have h4 : ((k : Int) / 2 ^ t) = ((k / 2 ^ t : Nat) : Int) := by push_cast; rfl
 rw [h4]
 simp only [Int.toNat_natCast]
 omega
theorem zMb : ∀ t : Fin 64, (BitVec.ofInt 64 ALLU).getLsbD t.1 = known t.1 := by decide +kernel
theorem yFz (n : Int) : (IntKind.u64.wrap ((BitVec.ofInt IntKind.u64.bits n &&& ~~~ BitVec.ofInt IntKind.u64.bits ALLU).toNat : Int) = 0) = (allB n = true) := by
 have e : IntKind.u64.bits = 64 := rfl
 rw [e]
 have h1 : IntKind.u64.wrap ((BitVec.ofInt 64 n &&& ~~~ BitVec.ofInt 64 ALLU).toNat : Int) = ((BitVec.ofInt 64 n &&& ~~~ BitVec.ofInt 64 ALLU).toNat : Int) := by
   rw [zDR]; have := (BitVec.ofInt 64 n &&& ~~~ BitVec.ofInt 64 ALLU).isLt; omega
 rw [h1]
 have h2 : (((BitVec.ofInt 64 n &&& ~~~ BitVec.ofInt 64 ALLU).toNat : Int) = 0) ↔ (BitVec.ofInt 64 n &&& ~~~ BitVec.ofInt 64 ALLU) = 0#64 := by
   rw [← BitVec.toNat_inj]; simp
 apply propext
 rw [h2]; unfold allB; rw [zIo]
 constructor
 · intro h i _ hi hb
   have hi : i < 64 := by omega
   rw [zKp n hi] at hb
   have := congrArg (fun x => x.getLsbD i) h
   simp only [BitVec.getLsbD_and, BitVec.getLsbD_not, hb, hi, decide_true, tAR, BitVec.getLsbD_zero, Bool.not_eq_false'] at this
   rw [zMb ⟨i, hi⟩] at this; exact this
 · intro h
   apply BitVec.eq_of_getLsbD_eq
   intro i hi
   simp only [BitVec.getLsbD_and, BitVec.getLsbD_not, hi, decide_true, tAR, BitVec.getLsbD_zero]
   cases hb : (BitVec.ofInt 64 n).getLsbD i with
   | false => rfl
   | true =>
     have := h i (by omega) (by omega) ((zKp n hi).2 hb)
     rw [zMb ⟨i, hi⟩, this]; rfl

theorem yGl (d : Dat) : (d = ⟨⟨d.adr.v6, d.adr.hi, d.adr.lo⟩, [], [], [], 0, 0, 0, 0, 0, 0, 0⟩) = (zA8 1 d = d) := propext ⟨fun h => h.symm, fun h => h.symm⟩
theorem yGk (d : Dat) : (d = ⟨⟨false, 0, 0⟩, d.host, [], [], 0, 0, 0, 0, 0, 0, 0⟩) = (zA8 2 d = d) := propext ⟨fun h => h.symm, fun h => h.symm⟩
theorem yGj (d : Dat) : (d = ⟨⟨false, 0, 0⟩, d.host, d.mail, [], d.a, d.b, d.c, d.d, d.e, 0, 0⟩) = (zA8 6 d = d) := propext ⟨fun h => h.symm, fun h => h.symm⟩
theorem yCe (d : Dat) : (d = ⟨⟨false, 0, 0⟩, d.host, [], [], d.a, 0, 0, 0, 0, 0, 0⟩) = (zA8 15 d = d) := propext ⟨fun h => h.symm, fun h => h.symm⟩
theorem yCd (d : Dat) : (d = ⟨⟨false, 0, 0⟩, [], [], d.text, 0, 0, 0, 0, 0, 0, 0⟩) = (zA8 16 d = d) := propext ⟨fun h => h.symm, fun h => h.symm⟩
theorem yCc (d : Dat) : (d = ⟨⟨false, 0, 0⟩, d.host, [], [], d.a, d.b, d.c, 0, 0, 0, 0⟩) = (zA8 33 d = d) := propext ⟨fun h => h.symm, fun h => h.symm⟩
theorem yCb (d : Dat) : (d = ⟨⟨false, 0, 0⟩, [], [], d.text, d.a, d.b, d.c, 0, 0, 0, 0⟩) = (zA8 43 d = d) := propext ⟨fun h => h.symm, fun h => h.symm⟩
theorem yCa (d : Dat) : (d = ⟨⟨false, 0, 0⟩, d.host, [], d.text, d.a, d.b, d.c, d.d, d.e, d.f, 0⟩) = (zA8 46 d = d) := propext ⟨fun h => h.symm, fun h => h.symm⟩
theorem yB9 (d : Dat) : (d = ⟨⟨false, 0, 0⟩, d.host, [], [], 0, 0, 0, 0, 0, 0, d.bits⟩) = (zA8 47 d = d) := propext ⟨fun h => h.symm, fun h => h.symm⟩
theorem zSi (d : Dat) : zA8 28 d = zA8 1 d := rfl
theorem yAB (d : Dat) : zA8 5 d = zA8 2 d := rfl
theorem zSj (d : Dat) : zA8 12 d = zA8 2 d := rfl
theorem zSh (d : Dat) : zA8 39 d = zA8 2 d := rfl
theorem zSg (d : Dat) : zA8 48 d = zA8 43 d := rfl
theorem known1 : known 1 = true := rfl
theorem yBA : known 2 = true := rfl
theorem yBz : known 5 = true := rfl
theorem yBy : known 6 = true := rfl
theorem zUI : known 12 = true := rfl
theorem zUH : known 15 = true := rfl
theorem zUG : known 16 = true := rfl
theorem zUF : known 28 = true := rfl
theorem zUE : known 33 = true := rfl
theorem zUD : known 39 = true := rfl
theorem zUC : known 43 = true := rfl
theorem zUB : known 46 = true := rfl
theorem zUA : known 47 = true := rfl
theorem zUz : known 48 = true := rfl
theorem zFP {t : Int} (h : ¬ 1 = t ∧ ¬ 2 = t ∧ ¬ 5 = t ∧ ¬ 6 = t ∧ ¬ 12 = t ∧ ¬ 15 = t ∧ ¬ 16 = t ∧ ¬ 28 = t ∧ ¬ 33 = t ∧ ¬ 39 = t ∧ ¬ 43 = t ∧ ¬ 46 = t ∧ ¬ 47 = t ∧ ¬ 48 = t) : known t = false := by
 unfold known mnem
 rw [if_neg (fun e => h.1 e.symm), if_neg (fun e => h.2.1 e.symm), if_neg (fun e => h.2.2.1 e.symm), if_neg (fun e => h.2.2.2.1 e.symm), if_neg (fun e => h.2.2.2.2.1 e.symm), if_neg (fun e => h.2.2.2.2.2.1 e.symm), if_neg (fun e => h.2.2.2.2.2.2.1 e.symm), if_neg (fun e => h.2.2.2.2.2.2.2.1 e.symm), if_neg (fun e => h.2.2.2.2.2.2.2.2.1 e.symm), if_neg (fun e => h.2.2.2.2.2.2.2.2.2.1 e.symm), if_neg (fun e => h.2.2.2.2.2.2.2.2.2.2.1 e.symm), if_neg (fun e => h.2.2.2.2.2.2.2.2.2.2.2.1 e.symm), if_neg (fun e => h.2.2.2.2.2.2.2.2.2.2.2.2.1 e.symm), if_neg (fun e => h.2.2.2.2.2.2.2.2.2.2.2.2.2 e.symm)]
 rfl
theorem eqb4 {n : Nat} (p q : Bool) : eqD Tryz.prog (n + 1) 4 (.bo p) (.bo q) = some (p == q) := by
 simp only [eqD, Tryz.underlying4]
theorem yB8 {a : Adr} (h : vAdr a = false) : a.v6 = false := by
 cases hv : a.v6 with
 | false => rfl
 | true => simp [vAdr, hv] at h
theorem yAO (cx : Cx) (hP : cx.P = Tryz.prog) (hbs : cx.bs = 0) (h116 : cx.orc 116 = some zKv) (h117 : cx.orc 117 = some zQp) (h55 : cx.orc 55 = some zDc) (h118 : cx.orc 118 = some FInB) (h119 : cx.orc 119 = some zIv) (h88 : cx.orc 88 = some zIB) (h42 : cx.orc 42 = some zEJ) (h120 : cx.orc 120 = some yAu) (r116 : cx.rd.contains 116 = true) (r117 : cx.rd.contains 117 = true) (r55 : cx.rd.contains 55 = true) (r118 : cx.rd.contains 118 = true) (r119 : cx.rd.contains 119 = true) (r88 : cx.rd.contains 88 = true) (r42 : cx.rd.contains 42 = true) (r120 : cx.rd.contains 120 = true) (t1 : Int) (d1 : Dat) (hl : DSm d1) : zAg cx Tryz.f89 [] false [.it .i64 t1, datE d1] = some (Res.flat (.bo (validD t1 d1))) := by
 have c116 := zAa h116
 have d116 := zAo r116 h116
 have c117 := zAa h117
 have d117 := zAo r117 h117
 have c55 := zAa h55
 have d55 := zAo r55 h55
 have c118 := zAa h118
 have d118 := zAo r118 h118
 have c119 := zAa h119
 have d119 := zAo r119 h119
 have c88 := zAa h88
 have d88 := zAo r88 h88
 have c42 := zAa h42
 have d42 := zAo r42 h42
 have c120 := zAa h120
 have d120 := zAo r120 h120
 have hl1 := hl.1; have hl2 := hl.2.1; have hl3 := hl.2.2.1
 rcases zEv t1 with rfl | rfl | rfl | rfl | rfl | rfl | rfl | rfl | rfl | rfl | rfl | rfl | rfl | rfl | hno
 rotate_left 14
 have hn := zFP hno
 obtain ⟨h1, h2, h3, h4, h5, h6, h7, h8, h9, h10, h11, h12, h13, h14⟩ := hno
 have g1 := Ne.symm h1; have g2 := Ne.symm h2; have g3 := Ne.symm h3; have g4 := Ne.symm h4; have g5 := Ne.symm h5; have g6 := Ne.symm h6; have g7 := Ne.symm h7; have g8 := Ne.symm h8; have g9 := Ne.symm h9; have g10 := Ne.symm h10; have g11 := Ne.symm h11; have g12 := Ne.symm h12; have g13 := Ne.symm h13; have g14 := Ne.symm h14
 all_goals
   refine zAf (rs := [.tmp 4]) rfl hbs rfl ?_
   repeat' first
     | (refine bN (fun h => ?_) fun h => ?_)
     | (refine zAI ?_ ?_)
     | simp only [↓cD, cU, cQ, cP, cB, zAD, unD, zAe, zAd, idx, reduceCtorEq, ↓reduceIte, ofV, ofC, zAq, Nat.reduceEqDiff, zAB, cG, implies_true, forall_const, immL, immD, Res.flat, ren, renL, Int.reduceEq, Int.reduceLT, Int.reduceLE, Int.reduceNe, deref, ldD, zAA, zAh, zAC, zAs, cC, cS, refs, zAy, okId, tAs, tAq, Nat.reduceMul, Nat.reduceAdd, Nat.reduceLeDiff, zAp, c116, c117, c55, c118, c119, c88, c42, c120, d116, d117, d55, d118, d119, d88, d42, d120, zAi, zAk, zHp, zWY, zCU, yF1, zMg, zJe, zCG, yAt, ↓zAH, ↓zAL, ↓zAG, ↓zAK, ↓zAF, ↓zAJ, cV, cT, cF, cW, borT, borM, zAl, Res.via, zAt, zAb, refsB, Nat.reduceLT, Nat.reduceSub, Nat.reduceLeDiff, Nat.reduceMul, Nat.reduceAdd, Int.reduceToNat, appK, zAr, zAc, borL, zAj, zAm, zAz, cO, List.replicate, zAx, ofHp, ixOf, cS, refs, zAy, okId, tAs, tAq, Nat.reduceMul, Nat.reduceAdd, Nat.reduceLeDiff, zAp, hl1, hl2, hl3, lens Tryz.underlying9, yFz, List.append_eq, eqb4, zEq, yGl, yGk, yGj, yCe, yCd, yCc, yCb, yCa, yB9, hP, *]
   all_goals first
     | rfl
     | (simp [validD, zSi, yAB, zSj, zSh, zSg, known1, yBA, yBz, yBy, zUI, zUH, zUG, zUF, zUE, zUD, zUC, zUB, zUA, zUz, *]; done)
     | (have hv := yB8 ‹_›; simp [validD, zSi, yAB, zSj, zSh, zSg, known1, yBA, yBz, yBy, zUI, zUH, zUG, zUF, zUE, zUD, zUC, zUB, zUA, zUz, *]; done)
theorem yBt : ∀ (H : Hp) (nid : Nat) (n : Nat), zDe Tryz.prog 149 H nid (.it .i64 (n : Int)) (.it .i64 (n : Int)) = if ((1 : Nat) : Int) * (n : Int) ≤ 281474976710656 then some (.own nid 0 n, upd H nid (.row 1 true (List.replicate n (.it .u8 0))), nid + 1) else none := fun _ _ _ => yBs yEW yBX (by kernel_rfl) (by decide)
theorem zYs {n q : Nat} {l : List Int} : List.replicate q (D.it .u8 0) ++ l.map (D.it .u8) = (List.replicate q 0 ++ l).map (D.it .u8) := by simp
theorem zP1 {k : IntKind} {x : Int} {cs : List D} : again (.it k x) cs = cs.headD .un := rfl
theorem zZb {q : Nat} {l : List Int} {x : Int} (h : 0 < q) : ((List.replicate q 0 ++ l).map (D.it .u8)).set (q - 1) (.it .u8 x) = (List.replicate (q - 1) 0 ++ x :: l).map (D.it .u8) := by
 obtain ⟨k, rfl⟩ : ∃ k, q = k + 1 := ⟨q - 1, by omega⟩
 rw [Nat.add_sub_cancel, List.replicate_succ', tAm, tBE, List.set_append_right _ _ (by simp)]
 simp
theorem yEF {q : Nat} {l : List Int} (h : 0 ≤ (q : Int) - 1) : ((List.replicate q 0 ++ l).map (D.it .u8))[q - 1]? = some (.it .u8 0) := by
 rw [tBE, tAP (by simp; omega), tAE, tB3, if_pos (by omega)]; rfl
theorem zVa {q : Nat} {l : List Int} {x : Int} (h : 0 ≤ (q : Int) - 1) : ((List.replicate q 0 ++ l).map (D.it .u8)).set (q - 1) (.it .u8 x) = (List.replicate (q - 1) 0 ++ x :: l).map (D.it .u8) := zZb (by omega)
theorem zMJ {v : Int} (h : 0 ≤ v) : IntKind.u8.wrap v = IntKind.u8.wrap (v.tmod 256) := by
 rw [tCg h]
 have : ∀ n : Int, IntKind.u8.wrap n = n % 256 := fun n => by simp [IntKind.wrap, IntKind.bits, IntKind.signed]
 rw [this, this]; omega
theorem zNg {k : IntKind} (hk : ∀ x : Int, 0 ≤ x → x ≤ k.max → k.wrap x = x) {v : Int} (h : 0 ≤ v) (hv : v ≤ k.max) : ∀ j : Nat, 0 ≤ divN k v j ∧ divN k v j ≤ v := by
 intro j
 induction j with
 | zero => exact ⟨h, tBV _⟩
 | succ j ih =>
   simp only [divN]
   have h1 : (divN k v j).tdiv 256 = divN k v j / 256 := Int.tdiv_eq_ediv_of_nonneg ih.1
   rw [h1, hk _ (by omega) (by omega)]; omega
theorem zHx (x : Int) (h0 : 0 ≤ x) (h : x ≤ IntKind.i64.max) : IntKind.i64.wrap x = x := by
 have : IntKind.i64.max = 9223372036854775807 := by decide
 exact wrap64 (by omega) (by omega)
theorem zHw (x : Int) (h0 : 0 ≤ x) (h : x ≤ IntKind.u64.max) : IntKind.u64.wrap x = x := by
 have : IntKind.u64.max = 18446744073709551615 := by decide
 rw [zDR]; omega
theorem zYi {k : IntKind} (hk : ∀ x : Int, 0 ≤ x → x ≤ k.max → k.wrap x = x) {v : Int} (h : 0 ≤ v) (hv : v ≤ k.max) (m : Nat) : IntKind.u8.wrap (divN k v m) :: numI k v m = numI k v (m + 1) := by
 simp only [numI]; rw [← zMJ (zNg hk h hv m).1]
theorem zPM {k : IntKind} (hk : ∀ x : Int, 0 ≤ x → x ≤ k.max → k.wrap x = x) {v : Int} (h : 0 ≤ v) (hv : v ≤ k.max) (m : Nat) : (divN k v m).fdiv 256 = divN k v (m + 1) := by
 simp only [divN]
 have h1 := zNg hk h hv m
 rw [Int.tdiv_eq_ediv_of_nonneg h1.1, tBq _ (by decide), hk _ (by omega) (by omega)]

noncomputable def zWO := mkF (fun s : Int × Int => [.it .i64 s.1, .it .i64 s.2]) (fun s => (0 ≤ s.1 ∧ s.1 ≤ 9223372036854775807) ∧ 0 ≤ s.2 ∧ s.2 ≤ 8) (fun s => Res.flat (.st (numB .i64 s.1 s.2.toNat)))
theorem zQg {v1 : Int} {n1 : Int} (hp : (0 ≤ v1 ∧ v1 ≤ 9223372036854775807) ∧ 0 ≤ n1 ∧ n1 ≤ 8) : zWO [.it .i64 v1, .it .i64 n1] = some (Res.flat (.st (numB .i64 v1 n1.toNat))) := mkFe (s := (v1, n1)) hp
theorem zS6 (cx : Cx) (hP : cx.P = Tryz.prog) (hbs : cx.bs = 0) (hk3 : cx.kp 3 = some [0, 5, 6]) (v1 n1 : Int) (hl : (0 ≤ v1 ∧ v1 ≤ 9223372036854775807) ∧ 0 ≤ n1 ∧ n1 ≤ 8) : zAg cx Tryz.f188 [] false [.it .i64 v1, .it .i64 n1] = some (Res.flat (.st (numB .i64 v1 n1.toNat))) := by
 obtain ⟨n, rfl⟩ := tBj hl.2.1
 have hv := hl.1; have hn : n ≤ 8 := (by omega)
 have hw1 : IntKind.i64.wrap ((n : Int) - 1) = (n : Int) - 1 := wrap64 (by omega) (by omega)
 have hd : ∀ k : Nat, k ≤ n → 0 ≤ (k : Int) - 1 → IntKind.i64.wrap ((k : Int) - 1 - 1) = ((k - 1 : Nat) : Int) - 1 := fun k h h' => by rw [wrap64 (by omega) (by omega)]; omega
 have hsh : ∀ m : Nat, (divN .i64 v1 m).fdiv (2 ^ min 8 IntKind.i64.bits) = divN .i64 v1 (m + 1) := fun m => zPM zHx hv.1 hv.2 m
 have hix1 : ∀ k : Nat, 0 ≤ (k : Int) - 1 → ((k : Int) - 1 < 0) = False := fun k h => by simp only [eq_iff_iff, iff_false]; omega
 have hix2 : ∀ k : Nat, k ≤ n → ((k : Int) - 1 < (n : Int)) = True := fun k h => by simp only [eq_iff_iff, iff_true]; omega
 have hix3 : ∀ k : Nat, ((k : Int) - 1).toNat = k - 1 := fun k => by omega
 refine zAf (rs := [.tmp 4]) rfl hbs rfl ?_
 repeat' first
   | (refine zAv (σ := Nat) (fun q => [.it .i64 (divN .i64 v1 (n - q)), .own 0 0 n, .it .i64 ((q : Int) - 1)]) (fun q => [.row 1 true ((List.replicate q 0 ++ numI .i64 v1 (n - q)).map (D.it .u8))]) (fun q => q ≤ n) (fun q => q) [0, 5, 6] hbs (by exact hk3) (fr1 fun _ => zA2 (fun _ => rfl)) (fun q jq => ?_) (s := n) [0] ?_ ?_ ?_ ?_ ?_)
   | (refine bN (fun h => ?_) fun h => ?_)
   | (refine zAI ?_ ?_)
   | simp only [↓cD, cU, cQ, cP, cB, zAD, unD, zAe, zAd, idx, reduceCtorEq, ↓reduceIte, ofV, ofC, zAq, Nat.reduceEqDiff, zAB, cG, implies_true, forall_const, immL, immD, Res.flat, ren, renL, Int.reduceEq, Int.reduceLT, Int.reduceLE, Int.reduceNe, deref, ldD, zAA, zAh, zAC, zAs, cC, ↓zAH, ↓zAL, ↓zAG, ↓zAK, ↓zAF, ↓zAJ, cV, cT, cF, cW, borT, borM, zAl, Res.via, zAt, zAb, refsB, Nat.reduceLT, Nat.reduceSub, Nat.reduceLeDiff, Nat.reduceMul, Nat.reduceAdd, Int.reduceToNat, appK, zAr, zAc, borL, zAj, zAm, zAz, cO, List.replicate, zAx, ofHp, ixOf, zDO, hw1, hd, zP1, List.headD_cons, yEF, zVa, zYs, hix1, hix2, hix3, yBt, zCS Tryz.underlying149 Tryz.underlying5 sz5 Tryz.underlying9, hP, *]
 all_goals first
   | rfl
   | omega
   | (refine ⟨[0], q - 1, ?_, ?_, ?_, ?_, by omega, by omega⟩; rotate_left 2; (rw [show n - (q - 1) = (n - q) + 1 by omega, ← hsh]; rfl); (rw [show n - (q - 1) = (n - q) + 1 by omega, ← zYi zHx hv.1 hv.2]; rfl); all_goals rfl)
   | (rw [show q = 0 by omega, Nat.sub_zero, tBB, tAJ, tAM (by rw [zDi]; omega)]; rfl)
   | (simp only [Nat.sub_self, numI, tAo, List.map_replicate, divN]; done)
theorem zZn {k : IntKind} (hk : ∀ x : Int, 0 ≤ x → x ≤ k.max → k.wrap x = x) {v : Int} (h : 0 ≤ v) (hv : v ≤ k.max) : ∀ j : Nat, divN k v j = v.fdiv (2 ^ (8 * j)) := by
 intro j
 induction j with
 | zero => simp [divN]
 | succ j ih =>
   rw [← zPM hk h hv, ih, tBq _ (by decide), tBq _ (tBy (by decide)), tBq _ (tBy (by decide)), Int.ediv_ediv_of_nonneg (tBy (by decide))]
   congr 1
   rw [show 8 * (j + 1) = 8 * j + 8 by omega, Int.pow_add]; rfl
theorem zUe (k : IntKind) (v : Int) : ∀ (n s : Nat), s < n → (numI k v n)[s]? = some (IntKind.u8.wrap ((divN k v (n - 1 - s)).tmod 256))
 | 0, s, h => by omega
 | n + 1, 0, h => by simp [numI]
 | n + 1, s + 1, h => by
   have := zUe k v n s (by omega)
   simp only [numI, tAV, this]
   congr 4; omega
theorem zYh {v : Int} (h : U64 v) {s : Nat} (hs : (s : Int) < 8) : (((numI .u64 v 8).take s ++ List.replicate (8 - s) 0).map (D.it .u8)).set s (.it .u8 (IntKind.u8.wrap (divN .u64 v (7 - s)))) = ((numI .u64 v 8).take (s + 1) ++ List.replicate (8 - (s + 1)) 0).map (D.it .u8) := by
 have h1 := zUe .u64 v 8 s (by omega)
 have hl := zDi .u64 v 8
 have h3 : 0 ≤ divN .u64 v (7 - s) := (zNg zHw h.1 (by have : IntKind.u64.max = 18446744073709551615 := (by decide); have hh := h.2; omega) _).1
 have h2 : (numI .u64 v 8).take (s + 1) = (numI .u64 v 8).take s ++ [IntKind.u8.wrap (divN .u64 v (7 - s))] := by
   rw [List.take_add_one, h1, zMJ h3]; rfl
 rw [h2, show 8 - s = (8 - (s + 1)) + 1 by omega, List.replicate_succ, tBE, List.set_append_right _ _ (by simp; omega)]
 have : s - (List.map (D.it IntKind.u8) (List.take s (numI IntKind.u64 v 8))).length = 0 := by simp; omega
 rw [this]; simp
theorem yD3 {v : Int} {s : Nat} (hs : (s : Int) < 8) : (((numI .u64 v 8).take s ++ List.replicate (8 - s) 0).map (D.it .u8))[s]? = some (.it .u8 0) := by
 have hl := zDi .u64 v 8
 rw [tBE, tAN (by simp; omega)]
 have : s - (List.map (D.it IntKind.u8) (List.take s (numI IntKind.u64 v 8))).length = 0 := by simp; omega
 rw [this, show 8 - s = (8 - (s + 1)) + 1 by omega, List.replicate_succ]; rfl

noncomputable def FByA := mkF (fun s : Int => [.it .u64 s]) (fun s => U64 s) (fun s => Res.row 1 ((numI .u64 s 8).map (D.it .u8)))
theorem yF7 {v1 : Int} (hp : U64 v1) : FByA [.it .u64 v1] = some (Res.row 1 ((numI .u64 v1 8).map (D.it .u8))) := mkFe (s := (v1)) hp
theorem yBi (cx : Cx) (hP : cx.P = Tryz.prog) (hbs : cx.bs = 0) (hk3 : cx.kp 3 = some [0, 3, 7, 8]) (v1 : Int) (hl : U64 v1) : zAg cx Tryz.f202 [0] false [.it .u64 v1] = some (Res.row 1 ((numI .u64 v1 8).map (D.it .u8))) := by
 have hm : ∀ (H : Hp) (nid : Nat), zDe Tryz.prog 149 H nid (.it .i64 8) (.it .i64 8) = some (.own nid 0 8, upd H nid (.row 1 true (List.replicate 8 (.it .u8 0))), nid + 1) := fun H nid => by have := yBt H nid 8; simpa using this
 have hw : ∀ j : Nat, (j : Int) < 8 → IntKind.i64.wrap ((j : Int) + 1) = ((j + 1 : Nat) : Int) := fun j h => by rw [wrap64 (by omega) (by omega)]; simp
 have hw2 : ∀ j : Nat, (j : Int) < 8 → IntKind.i64.wrap (8 * (j : Int)) = ((8 * j : Nat) : Int) := fun j h => by rw [wrap64 (by omega) (by omega)]; simp
 have hw3 : ∀ j : Nat, (j : Int) < 8 → IntKind.i64.wrap (56 - ((8 * j : Nat) : Int)) = ((56 - 8 * j : Nat) : Int) := fun j h => by rw [wrap64 (by omega) (by omega)]; omega
 have hz : ∀ k : Nat, ((k : Int) < 0) = False := fun k => by simp
 have hsh : ∀ j : Nat, (j : Int) < 8 → v1.fdiv (2 ^ min (56 - 8 * j) IntKind.u64.bits) = divN .u64 v1 (7 - j) := fun j h => by have : IntKind.u64.max = 18446744073709551615 := (by decide); have hh := hl.2; rw [zZn zHw hl.1 (by omega)]; congr 2; show min (56 - 8 * j) 64 = _; omega
 refine zCv (rs := [.tmp 2]) rfl hbs rfl ?_
 repeat' first
   | (refine zAv (σ := Nat) (fun s => [.it .u64 v1, .own 0 0 8, .it .i64 8, .it .i64 s]) (fun s => [.row 1 true (((numI .u64 v1 8).take s ++ List.replicate (8 - s) 0).map (D.it .u8))]) (fun s => s ≤ 8) (fun s => 8 - s) [0, 3, 7, 8] hbs (by exact hk3) (fr1 fun _ => zA2 (fun _ => rfl)) (fun s js => ?_) (s := 0) [1] ?_ ?_ ?_ ?_ ?_)
   | (refine bN (fun h => ?_) fun h => ?_)
   | (refine zAI ?_ ?_)
   | simp only [↓cD, cU, cQ, cP, cB, zAD, unD, zAe, zAd, idx, reduceCtorEq, ↓reduceIte, ofV, ofC, zAq, Nat.reduceEqDiff, zAB, cG, implies_true, forall_const, immL, immD, Res.flat, ren, renL, Int.reduceEq, Int.reduceLT, Int.reduceLE, Int.reduceNe, deref, ldD, zAA, zAh, zAC, zAs, cC, ↓zAH, ↓zAL, ↓zAG, ↓zAK, ↓zAF, ↓zAJ, cV, cT, cF, cW, borT, borM, zAl, Res.via, zAt, zAb, refsB, Nat.reduceLT, Nat.reduceSub, Nat.reduceLeDiff, Nat.reduceMul, Nat.reduceAdd, Int.reduceToNat, appK, zAr, zAc, borL, zAj, zAm, zAz, cO, List.replicate, zAx, ofHp, ixOf, zP1, List.headD_cons, hm, hw, hw2, hw3, hz, hsh, zYh hl, yD3, hP, *]
 all_goals first
   | rfl
   | omega
   | (refine ⟨[0], s + 1, ?_, ?_, ?_, ?_, by omega, by omega⟩ <;> rfl)
   | (rw [show s = 8 by omega, Nat.sub_self, tBB, tAo, tAM (by rw [zDi]; omega)]; exact ⟨_, _, _, _, rfl, rfl, by simp [zDi], zBJ (fun _ => rfl), rfl⟩)
theorem zNw (x : Int) : [D.it .u8 x].mapM byteOfD = some [zDf x] := rfl
theorem zUd {n : Nat} : [zDf (IntKind.u8.wrap (n : Int))] = numB .i64 n 1 := by
 simp only [numB, numI, divN, tAO, tBn]
 rw [zMJ (by omega)]

noncomputable def zQh := mkF (fun s : (List UInt8) => [.st s]) (fun s => Sm s) (fun s => Res.flat (.st (zBS s)))
theorem zWP {s1 : List UInt8} (hp : Sm s1) : zQh [.st s1] = some (Res.flat (.st (zBS s1))) := mkFe (s := (s1)) hp
theorem zOv (cx : Cx) (hP : cx.P = Tryz.prog) (hbs : cx.bs = 0) (h164 : cx.orc 164 = some zMn) (hk3 : cx.kp 3 = some [3, 7, 8, 9]) (s1 : List UInt8) (hl : Sm s1) : zAg cx Tryz.f184 [] false [.st s1] = some (Res.flat (.st (zBS s1))) := by
 have c164 := zAa h164
 have hw : ∀ k : Nat, (k : Int) < ((labs s1).getD []).length → IntKind.i64.wrap ((k : Int) + 1) = ((k + 1 : Nat) : Int) := fun k h => by have := zC7 s1; rw [wrap64 (by omega) (by omega)]; simp
 have hnn : ∀ k : Nat, (0 ≤ (k : Int)) = True := fun k => by simp
 have hlt := zC7 s1
 have hel : ∀ k : Nat, (k : Int) < ((labs s1).getD []).length → (((labs s1).getD []).map D.st)[k]? = some (.st ((labs s1).getD [])[k]!) := fun k h => getm (by omega)
 refine zAf (rs := [.tmp 2]) rfl hbs rfl ?_
 repeat' first
   | (refine zAv (σ := Nat) (fun s => [.st (wnL (((labs s1).getD []).take s)), .own 0 0 ((labs s1).getD []).length, .it .i64 ((labs s1).getD []).length, .it .i64 s]) (fun s => [.row 1 true (((labs s1).getD []).map D.st)]) (fun s => s ≤ ((labs s1).getD []).length) (fun s => ((labs s1).getD []).length - s) [3, 7, 8, 9] hbs (by exact hk3) (fr1 fun _ => zA2 (fun _ => rfl)) (fun s js => ?_) (s := 0) [0] ?_ ?_ ?_ ?_ ?_)
   | (refine bN (fun h => ?_) fun h => ?_)
   | (refine zAI ?_ ?_)
   | simp only [↓cD, cU, cQ, cP, cB, zAD, unD, zAe, zAd, idx, reduceCtorEq, ↓reduceIte, ofV, ofC, zAq, Nat.reduceEqDiff, zAB, cG, implies_true, forall_const, immL, immD, Res.flat, ren, renL, Int.reduceEq, Int.reduceLT, Int.reduceLE, Int.reduceNe, deref, ldD, zAA, zAh, zAC, zAs, cC, c164, zAi, zAk, zMm, ↓zAH, ↓zAL, ↓zAG, ↓zAK, ↓zAF, ↓zAJ, cV, cT, cF, cW, borT, borM, zAl, Res.via, zAt, zAb, refsB, Nat.reduceLT, Nat.reduceSub, Nat.reduceLeDiff, Nat.reduceMul, Nat.reduceAdd, Int.reduceToNat, appK, zAr, zAc, borL, zAj, zAm, zAz, cO, List.replicate, zAx, ofHp, ixOf, lens Tryz.underlying9, hl, hw, hnn, hlt, hel, zNw, zUd, zDO, zCS Tryz.underlying149 Tryz.underlying5 sz5 Tryz.underlying9, Res.row, Res.rowd, hP, *]
 all_goals first
   | rfl
   | omega
   | (have := zUx (n := s1) (i := s) (by omega); have := zGR (n := s1) (i := s); simp only [tAh, zBx]; omega)
   | (refine ⟨[0], s + 1, ?_, ?_, ?_, ?_, by omega, by omega⟩; rotate_left 2; (rw [takeN (by omega), zJh]; rfl); all_goals (first | rfl | (simp only [zAp, refs, ren, cR, Nat.reduceEqDiff, ofHp, ixOf]; first | rfl | (simp; done))))
   | (have := zGR (n := s1) (i := s); (try simp only [zBx]); omega)
   | (rw [zAS (by omega)]; rfl)
   | (first | rfl | (simp only [zAp, refs, ren, cR, Nat.reduceEqDiff, ofHp, ixOf]; first | rfl | (simp; done)))
def zEo (c : UInt8) (s : List UInt8) : List UInt8 := (s.reverse.dropWhile (· == c)).reverse
theorem zGc (c : UInt8) (s : List UInt8) (x : UInt8) : zEo c (s ++ [x]) = if x = c then zEo c s else s ++ [x] := by
 simp only [zEo, List.reverse_append, List.reverse_cons, List.reverse_nil, tAJ, tBi, List.dropWhile_cons, beq_iff_eq]
 split <;> simp
theorem zGo {s : List UInt8} (h : 0 < (s.length : Int)) : s = s.take (s.length - 1) ++ [s[s.length - 1]!] := by
 have hn : s ≠ [] := by intro e; subst e; simp at h
 conv => lhs; rw [← List.dropLast_concat_getLast hn]
 rw [List.dropLast_eq_take, List.getLast_eq_getElem, getElem!_pos s (s.length - 1) (by omega)]
theorem zSp {c : UInt8} {s : List UInt8} (h : 0 < (s.length : Int)) (hc' : (s[s.length - 1]!.toNat : Int) = (c.toNat : Int)) : zEo c (s.take (s.length - 1)) = zEo c s := by
 have hc : s[s.length - 1]! = c := tBF.1 (by omega)
 conv => rhs; rw [zGo h, zGc, if_pos hc]
theorem zSq {c : UInt8} {s : List UInt8} (h : 0 < (s.length : Int)) (hc' : ¬ (s[s.length - 1]!.toNat : Int) = (c.toNat : Int)) : zEo c s = s := by
 have hc : ¬ s[s.length - 1]! = c := fun e => hc' (by rw [e])
 conv => lhs; rw [zGo h, zGc, if_neg hc, ← zGo h]

noncomputable def FTrB := mkF (fun s : (List UInt8) × UInt8 => [.st s.1, .it .u8 s.2.toNat]) (fun s => s.1.length ≤ 1000000) (fun s => Res.flat (.st (zEo s.2 s.1)))
theorem yFO {a1 : List UInt8} {c1 : UInt8} (hp : a1.length ≤ 1000000) : FTrB [.st a1, .it .u8 c1.toNat] = some (Res.flat (.st (zEo c1 a1))) := zBV (s := (a1, c1)) (fun s s' h => by simp only [tAv, D.it.injEq, D.st.injEq, true_and, and_true, tBh, tBF] at h; simp only [h]) hp
theorem yAR (cx : Cx) (hP : cx.P = Tryz.prog) (hbs : cx.bs = 0) (hk1 : cx.kp 1 = some [0, 1]) (a1 : List UInt8) (c1 : UInt8) (hl : a1.length ≤ 1000000) : zAg cx Tryz.f207 [] false [.st a1, .it .u8 c1.toNat] = some (Res.flat (.st (zEo c1 a1))) := by
 have hw : ∀ l : List UInt8, l.length ≤ a1.length → 0 < (l.length : Int) → IntKind.i64.wrap ((l.length : Int) - 1) = ((l.length - 1 : Nat) : Int) := fun l h h' => by rw [wrap64 (by omega) (by omega)]; omega
 have hb : ∀ l : List UInt8, 0 < (l.length : Int) → (((l.length - 1 : Nat) : Int) < (l.length : Int)) = True := fun l h => by simp only [eq_iff_iff, iff_true]; omega
 have hsl : ∀ (l : List UInt8) (H : Hp) (k : IntKind), zAW Tryz.prog H 9 (.st l) none (some (.it k ((l.length - 1 : Nat) : Int))) none = some (.st (l.take (l.length - 1))) := fun l H k => zKP Tryz.underlying9 (by omega)
 refine zAf (rs := [.tmp 4]) rfl hbs rfl ?_
 repeat' first
   | (refine zAU (σ := List UInt8) (fun s1 => [.st s1, .it .u8 c1.toNat]) (fun s1 => s1.length ≤ a1.length ∧ zEo c1 s1 = zEo c1 a1) (fun s1 => s1.length) [0, 1] hbs (by exact hk1) (fun s1 => by simp only [zAp, refs, zAZ, zA0, zA5, tAo]) (fun s1 j1 => ?_) (s := a1) ?_ ?_)
   | (refine bN (fun h => ?_) fun h => ?_)
   | (refine zAI ?_ ?_)
   | simp only [↓cD, cU, cQ, cP, cB, zAD, unD, zAe, zAd, idx, reduceCtorEq, ↓reduceIte, ofV, ofC, zAq, Nat.reduceEqDiff, zAB, cG, implies_true, forall_const, immL, immD, Res.flat, ren, renL, Int.reduceEq, Int.reduceLT, Int.reduceLE, Int.reduceNe, deref, ldD, zAA, zAh, zAC, zAs, cC, ↓zAH, ↓zAL, ↓zAG, ↓zAK, ↓zAF, ↓zAJ, cV, cT, cF, cW, borT, borM, zAl, Res.via, zAt, zAb, refsB, Nat.reduceLT, Nat.reduceSub, Nat.reduceLeDiff, Nat.reduceMul, Nat.reduceAdd, Int.reduceToNat, appK, zAr, zAc, borL, zAj, zAm, zAz, cO, List.replicate, zAx, ofHp, ixOf, lens Tryz.underlying9, ixs Tryz.underlying9, hw, hb, hsl, hP, *]
 all_goals first
   | rfl
   | exact ⟨tAl _, rfl⟩
   | omega
   | (refine ⟨_, rfl, ⟨by simp only [tAk]; omega, ?_⟩, by simp only [tAk]; omega⟩; rw [zSp ‹_› ‹_›]; exact j1.2)
   | (rw [← j1.2, zSq ‹_› ‹_›]; done)
   | (rw [← j1.2]; have e : s1 = [] := (by cases s1 with | nil => rfl | cons a b => simp at *); rw [e]; rfl)
noncomputable def FTrR := mkF (fun s : (List UInt8) × UInt8 => [.st s.1, .st [s.2]]) (fun s => s.1.length ≤ 1000000 ∧ (s.2.toNat : Int) < 128) (fun s => Res.flat (.st (zEo s.2 s.1)))
theorem zWz {a1 : List UInt8} {c1 : UInt8} (hp : a1.length ≤ 1000000 ∧ (c1.toNat : Int) < 128) : FTrR [.st a1, .st [c1]] = some (Res.flat (.st (zEo c1 a1))) := mkFe (s := (a1, c1)) hp
theorem yAQ (cx : Cx) (hP : cx.P = Tryz.prog) (hbs : cx.bs = 0) (h207 : cx.orc 207 = some FTrB) (a1 : List UInt8) (c1 : UInt8) (hl : a1.length ≤ 1000000 ∧ (c1.toNat : Int) < 128) : zAg cx Tryz.f203 [] false [.st a1, .st [c1]] = some (Res.flat (.st (zEo c1 a1))) := by
 have c207 := zAa h207
 have hl1 := hl.1; have hl2 := hl.2
 have hc2 : ([c1] == ([] : List UInt8)) = false := rfl
 have hix : ∀ k : IntKind, zDL Tryz.prog 9 (.st [c1]) (.it k 0) = some (.it .u8 c1.toNat) := fun k => by rw [ixsN Tryz.underlying9 (by decide) (by simp)]; rfl
 refine zAf (rs := [.tmp 4]) rfl hbs rfl ?_
 repeat' first
   | (refine bN (fun h => ?_) fun h => ?_)
   | (refine zAI ?_ ?_)
   | simp only [↓cD, cU, cQ, cP, cB, zAD, unD, zAe, zAd, idx, reduceCtorEq, ↓reduceIte, ofV, ofC, zAq, Nat.reduceEqDiff, zAB, cG, implies_true, forall_const, immL, immD, Res.flat, ren, renL, Int.reduceEq, Int.reduceLT, Int.reduceLE, Int.reduceNe, deref, ldD, zAA, zAh, zAC, zAs, cC, c207, zAi, zAk, yFO, ↓zAH, ↓zAL, ↓zAG, ↓zAK, ↓zAF, ↓zAJ, cV, cT, cF, cW, borT, borM, zAl, Res.via, zAt, zAb, refsB, Nat.reduceLT, Nat.reduceSub, Nat.reduceLeDiff, Nat.reduceMul, Nat.reduceAdd, Int.reduceToNat, appK, zAr, zAc, borL, zAj, zAm, zAz, cO, List.replicate, zAx, ofHp, ixOf, lens Tryz.underlying9, ixs Tryz.underlying9, hl1, hl2, hc2, hix, hP, *]
 all_goals first
   | rfl
   | (subst_vars; rfl)
   | (simp_all [zEo]; done)
def orV (n : Int) (i : Nat) : Nat → Int
 | 0 => 0
 | j + 1 => if bitS n (8 * i + j) = 1 then IntKind.u8.wrap (BitVec.ofInt IntKind.u8.bits (orV n i j) ||| BitVec.ofInt IntKind.u8.bits ((128 : Int).fdiv (2 ^ min j IntKind.u8.bits))).toNat else orV n i j
def obB (n : Int) : Nat → List UInt8
 | 0 => []
 | i + 1 => obB n i ++ [zDf (orV n i 8)]
theorem zWd (n : Int) {t : Nat} (ht : t < 64) : bitS n t = if (BitVec.ofInt 64 n).getLsbD t then 1 else 0 := by
 have h := zKp n ht
 have h0 : bitS n t = 0 ∨ bitS n t = 1 := by
   have e : IntKind.u64.bits = 64 := rfl
   unfold bitS
   rw [e, BitVec.toNat_and, show (BitVec.ofInt 64 1).toNat = 1 by decide, Nat.and_one_is_mod]
   rw [zDR]; omega
 split
 · exact h.2 ‹_›
 · rcases h0 with h0 | h0
   · exact h0
   · exact absurd (h.1 h0) ‹_›
def orB (b : Nat → Bool) : Nat → Int
 | 0 => 0
 | j + 1 => if b j then IntKind.u8.wrap (BitVec.ofInt IntKind.u8.bits (orB b j) ||| BitVec.ofInt IntKind.u8.bits ((128 : Int).fdiv (2 ^ min j IntKind.u8.bits))).toNat else orB b j
def addB (b : Nat → Bool) : Nat → Int
 | 0 => 0
 | j + 1 => IntKind.i64.wrap (IntKind.i64.wrap (addB b j * 2) + IntKind.i64.wrap (if b j then 1 else 0))
theorem yHk (n : Int) {i : Nat} (hi : i < 8) : ∀ j, j ≤ 8 → orV n i j = orB (fun k => (BitVec.ofInt 64 n).getLsbD (8 * i + k)) j
 | 0, _ => rfl
 | j + 1, h => by
   simp only [orV, orB, yHk n hi j (by omega)]
   rw [zWd n (by omega)]
   by_cases hx : (BitVec.ofInt 64 n).getLsbD (8 * i + j) = true
   · simp only [hx, if_true]
   · simp only [hx]; rfl
theorem yBR (n : Int) {i : Nat} (hi : i < 8) : ∀ j, j ≤ 8 → bitV n i j = addB (fun k => (BitVec.ofInt 64 n).getLsbD (8 * i + k)) j
 | 0, _ => rfl
 | j + 1, h => by
   simp only [bitV, addB, yBR n hi j (by omega)]
   rw [show i * 8 + j = 8 * i + j by omega, zWd n (by omega)]
def b8 (a b c d e f g h : Bool) : Nat → Bool
 | 0 => a | 1 => b | 2 => c | 3 => d | 4 => e | 5 => f | 6 => g | _ => h
theorem zT3 {b c : Nat → Bool} : ∀ j, (∀ k, k < j → b k = c k) → orB b j = orB c j
 | 0, _ => rfl
 | j + 1, h => by simp only [orB, zT3 j (fun k hk => h k (by omega)), h j (by omega)]
theorem zP2 {b c : Nat → Bool} : ∀ j, (∀ k, k < j → b k = c k) → addB b j = addB c j
 | 0, _ => rfl
 | j + 1, h => by simp only [addB, zP2 j (fun k hk => h k (by omega)), h j (by omega)]
theorem yJc : ∀ a b c d e f g h : Bool, zDf (orB (b8 a b c d e f g h) 8) = zDf (IntKind.u8.wrap (addB (b8 a b c d e f g h) 8)) ∧ (addB (b8 a b c d e f g h) 8 = 0 ↔ zDf (orB (b8 a b c d e f g h) 8) = 0) := by decide +kernel
theorem yJb (b : Nat → Bool) : ∀ k, k < 8 → b k = b8 (b 0) (b 1) (b 2) (b 3) (b 4) (b 5) (b 6) (b 7) k := by
 intro k hk
 match k, hk with
 | 0, _ => rfl
 | 1, _ => rfl
 | 2, _ => rfl
 | 3, _ => rfl
 | 4, _ => rfl
 | 5, _ => rfl
 | 6, _ => rfl
 | 7, _ => rfl
theorem zV5 (n : Int) {i : Nat} (hi : i < 8) : zDf (orV n i 8) = zDf (IntKind.u8.wrap (bitV n i 8)) ∧ (bitV n i 8 = 0 ↔ zDf (orV n i 8) = 0) := by
 rw [yHk n hi 8 (by omega), yBR n hi 8 (by omega), zT3 8 (yJb _), zP2 8 (yJb _)]
 exact yJc _ _ _ _ _ _ _ _
theorem yBr (n : Int) : ∀ i, i ≤ 8 → obB n i = (bmI n i).map zDf
 | 0, _ => rfl
 | i + 1, h => by simp only [obB, bmI, yBr n i (by omega), tBE, tAO, tBn, (zV5 n (i := i) (by omega)).1]
theorem zSr (n : Int) : ∀ i, i ≤ 8 → zEo 0 (obB n i) = ((bmI n i).take (zCb n i)).map zDf
 | 0, _ => rfl
 | i + 1, h => by
   have hb := zV5 n (i := i) (by omega)
   have hl := zEI n i
   rw [obB, zGc]
   simp only [bmI, zCb]
   by_cases h0 : bitV n i 8 = 0
   · rw [if_pos (hb.2.1 h0), if_pos h0, zSr n i (by omega), tB2 (by rw [hl]; exact zDP n i)]
   · rw [if_neg (fun e => h0 (hb.2.2 e)), if_neg h0, tAM (by simp [hl]), tBE, ← yBr n i (by omega), hb.1]; rfl
theorem zXp (n : Int) : zEo 0 (obB n 8) = bmB n := zSr n 8 (by omega)
theorem zJE (n : Int) : ∀ i, (obB n i).length = i
 | 0 => rfl
 | i + 1 => by simp [obB, zJE n i]

noncomputable def FBmP := mkF (fun s : Int => [.it .u64 s]) (fun s => True) (fun s => Res.flat (.st (bmB s)))
theorem yF9 {n1 : Int} : FBmP [.it .u64 n1] = some (Res.flat (.st (bmB n1))) := mkFe (s := (n1)) trivial
theorem yBj (cx : Cx) (hP : cx.P = Tryz.prog) (hbs : cx.bs = 0) (h203 : cx.orc 203 = some FTrR) (hk3 : cx.kp 3 = some [0, 3, 7]) (hk7 : cx.kp 7 = some [0, 3, 4, 5, 7, 10]) (n1 : Int)  : zAg cx Tryz.f186 [] false [.it .u64 n1] = some (Res.flat (.st (bmB n1))) := by
 have c203 := zAa h203
 have hw : ∀ j : Nat, (j : Int) < 8 → IntKind.i64.wrap ((j : Int) + 1) = ((j + 1 : Nat) : Int) := fun j h => by rw [wrap64 (by omega) (by omega)]; simp
 have hw8 : ∀ i : Nat, (i : Int) < 8 → IntKind.i64.wrap (8 * (i : Int)) = ((8 * i : Nat) : Int) := fun j h => by rw [wrap64 (by omega) (by omega)]; simp
 have hz : ∀ k : Nat, ((k : Int) < 0) = False := fun k => by simp
 have hu : ∀ i j : Nat, (i : Int) < 8 → (j : Int) < 8 → IntKind.i64.wrap (((8 * i : Nat) : Int) + (j : Int)) = ((8 * i + j : Nat) : Int) := fun i j h h' => by rw [wrap64 (by omega) (by omega)]; omega
 have hl8 := zJE n1
 have htr : ∀ s : Nat, s ≤ 8 → FTrR [.st (obB n1 s), .st [0]] = some (Res.flat (.st (zEo 0 (obB n1 s)))) := fun s h => zWz (a1 := obB n1 s) (c1 := 0) ⟨by rw [zJE]; omega, by decide⟩
 have hbs8 : (∀ t : Nat, IntKind.u64.wrap (BitVec.ofInt IntKind.u64.bits (n1.fdiv (2 ^ (min t IntKind.u64.bits))) &&& BitVec.ofInt IntKind.u64.bits 1).toNat = bitS n1 t) := fun t => rfl
 refine zAf (rs := [.tmp 2]) rfl hbs rfl ?_
 repeat' first
   | (refine zAU (σ := Nat) (fun s3 => [.it .u64 n1, .st (obB n1 s3), .it .i64 s3]) (fun s3 => s3 ≤ 8) (fun s3 => 8 - s3) [0, 3, 7] hbs (by exact hk3) (fun s3 => by simp only [zAp, refs, zAZ, zA0, zA5, tAo]) (fun s3 j3 => ?_) (s := 0) ?_ ?_)
   | (refine zAU (σ := Nat) (fun s7 => [.it .u64 n1, .st (obB n1 s3), .it .i64 s3, .it .u8 (orV n1 s3 s7), .it .i64 s3, .it .i64 s7]) (fun s7 => s7 ≤ 8) (fun s7 => 8 - s7) [0, 3, 4, 5, 7, 10] hbs (by exact hk7) (fun s7 => by simp only [zAp, refs, zAZ, zA0, zA5, tAo]) (fun s7 j7 => ?_) (s := 0) ?_ ?_)
   | (refine bN (fun h => ?_) fun h => ?_)
   | (refine zAI ?_ ?_)
   | simp only [↓cD, cU, cQ, cP, cB, zAD, unD, zAe, zAd, idx, reduceCtorEq, ↓reduceIte, ofV, ofC, zAq, Nat.reduceEqDiff, zAB, cG, implies_true, forall_const, immL, immD, Res.flat, ren, renL, Int.reduceEq, Int.reduceLT, Int.reduceLE, Int.reduceNe, deref, ldD, zAA, zAh, zAC, zAs, cC, c203, zAi, zAk, zWz, ↓zAH, ↓zAL, ↓zAG, ↓zAK, ↓zAF, ↓zAJ, cV, cT, cF, cW, borT, borM, zAl, Res.via, zAt, zAb, refsB, Nat.reduceLT, Nat.reduceSub, Nat.reduceLeDiff, Nat.reduceMul, Nat.reduceAdd, Int.reduceToNat, appK, zAr, zAc, borL, zAj, zAm, zAz, cO, List.replicate, zAx, ofHp, ixOf, zNw, zDO, zCS Tryz.underlying149 Tryz.underlying5 sz5 Tryz.underlying9, hw, hw8, hu, hz, hbs8, hl8, htr, hP, *]
 all_goals first
   | rfl
   | omega
   | (rw [zJE]; omega)
   | (refine ⟨s7 + 1, ?_, by omega, by omega⟩; simp only [orV]; rw [if_pos ‹_›]; done)
   | (refine ⟨s7 + 1, ?_, by omega, by omega⟩; simp only [orV]; rw [if_neg ‹_›]; done)
   | (refine ⟨s3 + 1, ?_, by omega, by omega⟩; rw [show s7 = 8 by omega]; rfl)
   | (rw [show s3 = 8 by omega, zXp]; done)
theorem yHo {v : Int} : (numI .u64 v 8).drop 4 = numI .u64 v 4 := rfl
theorem zZx {P : Program} {t t' e : TypeId} {H : Hp} {nid id off k : Nat} {l : List Int} (hu : P.underlying t = some (.slice e)) (he : P.underlying e = some (.int .u8)) (hs : szT P e = some 1) (hd : P.underlying t' = some .string) (hH : H id = .row 1 true (l.map (D.it .u8))) :
   zAA P t t' (.own id off k) H nid = some (.st (((l.drop off).take k).map zDf), H, nid) := by
 have h1 : zBP P t (.own id off k) = true := zDs hu
 simp only [zAA, hu, hd, he, hs, h1, if_true, elems, hH, tAg]
 rw [← List.map_drop, ← tB1, zCF]
 rfl
theorem zZk {H H' : Hp} {n : Nat} {d : D} (h : ∀ id ∈ refs d, H' id = H id) : elems H' n d = elems H n d := by
 unfold elems
 cases d <;> (try simp only [refs, tAy, forall_eq] at h) <;> first | rfl | (simp only [h]; done)
theorem zQO {cx : Cx} {nx bef i : Nat} {env : Nat → D} {H : Hp} {dst : Option Tmp} {t t' e ty : TypeId} {x : Operand} {pos : String} {after : Array Edge} {g : Option (Nat × Bool)} (hu : cx.P.underlying t = some (.slice e)) (he : cx.P.underlying e = some (.int .u8)) (hs : szT cx.P e = some 1) (hd : cx.P.underlying t' = some .string)
   (hr : zAy nx bef i H (refs (ev env x)) = true) : stepD cx nx bef i ⟨dst, .convert t t' x, ty, pos, after, g⟩ env H = (if zBP cx.P t (ev env x) then (elems H 1 (ev env x)).bind fun p => (p.2.mapM byteOfD).map D.st else none).map fun d => (d, H) := by
 have hro : roots env ⟨dst, .convert t t' x, ty, pos, after, g⟩ = refs (ev env x) := by simp [roots, Op.operands]
 exact zBZ rfl (by rw [hro]; exact hr) (fun H' hH' => by
   rw [hro] at hH'
   rw [zIU]
   simp only [zAA, hu, he, hs, hd, zZk hH']
   split
   · cases elems H 1 (ev env x) with
     | none => rfl
     | some p => simp [tBf, Function.comp_def]
   · rfl)
theorem zZC {l : List Int} {n m : Nat} : (((l.map (D.it .u8)).drop n).take m).mapM byteOfD = some (((l.drop n).take m).map zDf) := by rw [← List.map_drop, ← tB1, zCF]
noncomputable def FWAP := mkF (fun s : Adr => [adrE s]) (fun s => ASm s) (fun s => Res.flat (.tup [.st (zBT s).1, .it .i64 (zBT s).2]))
theorem yFL {a1 : Adr} (hp : ASm a1) : FWAP [adrE a1] = some (Res.flat (.tup [.st (zBT a1).1, .it .i64 (zBT a1).2])) := mkFe (s := (a1)) hp
theorem yAL (cx : Cx) (hP : cx.P = Tryz.prog) (hbs : cx.bs = 0) (h116 : cx.orc 116 = some zKv) (h202 : cx.orc 202 = some FByA) (r116 : cx.rd.contains 116 = true) (r202 : cx.rd.contains 202 = true) (a1 : Adr) (hl : ASm a1) : zAg cx Tryz.f185 [] false [adrE a1] = some (Res.flat (.tup [.st (zBT a1).1, .it .i64 (zBT a1).2])) := by
 have c116 := zAa h116
 have d116 := zAo r116 h116
 have c202 := zAa h202
 have d202 := zAo r202 h202
 have hl1 := hl.1; have hl2 := hl.2
 have hcb := fun {nx bef i : Nat} {env : Nat → D} {H : Hp} {dst : Option Tmp} {ty : TypeId} {x : Operand} {pos : String} {after : Array Edge} {g : Option (Nat × Bool)} (hr : zAy nx bef i H (refs (ev env x)) = true) => zQO (cx := cx) (nx := nx) (bef := bef) (i := i) (env := env) (H := H) (dst := dst) (t := 149) (t' := 9) (e := 5) (ty := ty) (x := x) (pos := pos) (after := after) (g := g) (hP ▸ Tryz.underlying149) (hP ▸ Tryz.underlying5) (hP ▸ sz5) (hP ▸ Tryz.underlying9) hr
 have hco := fun {H : Hp} {nid id off k : Nat} {l : List Int} (hH : H id = .row 1 true (l.map (D.it .u8))) => zZx (P := Tryz.prog) (t := 149) (t' := 9) (e := 5) (H := H) (nid := nid) (id := id) (off := off) (k := k) (l := l) Tryz.underlying149 Tryz.underlying5 sz5 Tryz.underlying9 hH
 have hs4 : ∀ (H : Hp) (id : Nat), zAW Tryz.prog H 149 (.own id 0 8) (some (.it .i64 4)) none none = match H id with | .row sz _ _ => if szT Tryz.prog 5 = some sz ∧ 4 ≤ 8 then some (.own id (0 + 4) (8 - 4)) else none | _ => none := fun H id => yAG H id 0 8 4 .i64
 have ht8 : ∀ v : Int, (numI .u64 v 8).take 8 = numI .u64 v 8 := fun v => rfl
 have ht4 : ∀ v : Int, (numI .u64 v 4).take 4 = numI .u64 v 4 := fun v => rfl
 refine zAf (rs := [.tmp 2, .tmp 3]) rfl hbs rfl ?_
 repeat' first
   | (refine bN (fun h => ?_) fun h => ?_)
   | (refine zAI ?_ ?_)
   | simp (config := { decide := true }) only [↓cD, cU, cQ, cP, cB, zAD, unD, zAe, zAd, idx, reduceCtorEq, ↓reduceIte, ofV, ofC, zAq, Nat.reduceEqDiff, zAB, cG, implies_true, forall_const, immL, immD, Res.flat, ren, renL, Int.reduceEq, Int.reduceLT, Int.reduceLE, Int.reduceNe, deref, ldD, zAA, zAh, zAC, zAs, cC, cS, refs, zAy, okId, tAs, tAq, Nat.reduceMul, Nat.reduceAdd, Nat.reduceLeDiff, zAp, c116, c202, d116, d202, zAi, zAk, zHp, yF7, ↓zAH, ↓zAL, ↓zAG, ↓zAK, ↓zAF, ↓zAJ, cV, cT, cF, cW, borT, borM, zAl, Res.via, zAt, zAb, refsB, Nat.reduceLT, Nat.reduceSub, Nat.reduceLeDiff, Nat.reduceMul, Nat.reduceAdd, Int.reduceToNat, appK, zAr, zAc, borL, zAj, zAm, zAz, cO, List.replicate, zAx, ofHp, ixOf, cS, refs, zAy, okId, tAs, tAq, Nat.reduceMul, Nat.reduceAdd, Nat.reduceLeDiff, zAp, hl1, hl2, zDi, zZC, zDO, hcb, hco, hs4, yHo, ht8, ht4, ← numB.eq_1, Res.row, Res.rowd, hP, *]
 all_goals first
   | rfl
   | (simp [zBT, *]; done)
   | (simp only [zBx]; omega)
def offC (c : Int) : Nat := if c = 65 then 6 else if c = 66 then 7 else if c = 67 then 8 else if c = 70 then 11 else if c = 98 then 7 else if c = 99 then 8 else if c = 118 then 6 else if c = 119 then 7 else if c = 120 then 8 else if c = 121 then 9 else if c = 122 then 10 else 0
def sizC (c : Int) : Int := if c = 65 then 2 else if c = 66 then 2 else if c = 67 then 2 else if c = 70 then 2 else if c = 98 then 1 else if c = 99 then 1 else if c = 118 then 4 else if c = 119 then 4 else if c = 120 then 4 else if c = 121 then 4 else if c = 122 then 4 else 0
def fldC (c : Int) (d : Dat) : Int := if c = 65 then d.a else if c = 66 then d.b else if c = 67 then d.c else if c = 70 then d.f else if c = 98 then d.b else if c = 99 then d.c else if c = 118 then d.a else if c = 119 then d.b else if c = 120 then d.c else if c = 121 then d.d else if c = 122 then d.e else 0
def letC (c : Int) : Prop := c = 65 ∨ c = 66 ∨ c = 67 ∨ c = 70 ∨ c = 98 ∨ c = 99 ∨ c = 118 ∨ c = 119 ∨ c = 120 ∨ c = 121 ∨ c = 122
noncomputable def zJb := mkE (fun s : Dat × Int => [.ptr 0 0, .it .u8 s.2]) (fun s => .box (datL s.1)) (fun s => letC s.2) (fun s => (.tup [.ptr 0 (offC s.2), .it .i64 (sizC s.2)], [.box (datL s.1)]))
theorem zHg (d : Dat) : zBn (.box (datL d)) := by intro x hx; simp [datL, adrL] at hx; rcases hx with h | h | h | h | h | h | h | h | h | h | h | h | h <;> subst h <;> rfl
theorem zWM {d : Dat} {c : Int} (hp : letC c) : zJb [.ptr 0 0, .it .u8 c] [.box (datL d)] = some (.tup [.ptr 0 (offC c), .it .i64 (sizC c)], [.box (datL d)]) :=
 yBu (s := (d, c)) (fun s s' h1 h2 => by simp only [tAv, D.it.injEq, true_and, and_true] at h1; simp only [Blk.box.injEq] at h2; rw [h1, h2]) hp

theorem zTE {env : Nat → D} {dst : Option Tmp} {t ty : TypeId} {n : Nat} {pos : String} {after : Array Edge} {gd : Option (Nat × Bool)} {a b c d e f : Operand} : roots env ⟨dst, .buildSlice t n #[(0, a), (1, b), (2, c), (3, d), (4, e), (5, f)], ty, pos, after, gd⟩ = refs (ev env a) ++ (refs (ev env b) ++ (refs (ev env c) ++ (refs (ev env d) ++ (refs (ev env e) ++ (refs (ev env f) ++ []))))) := by
 simp [roots, Op.operands]

theorem yKe : zBL Tryz.prog 162 = some 139 := by kernel_rfl
theorem yJB : szT Tryz.prog 139 = some 1 := by kernel_rfl
theorem yJk : aggT Tryz.prog 139 = some false := by kernel_rfl
theorem yJx : zDn Tryz.prog 139 1 = some .nilp := by kernel_rfl
theorem yHG : ∀ (H : Hp) (id off len : Nat) (k : IntKind) (n : Int), zAP Tryz.prog H 162 (.own id off len) (.it k n) = match H id with | .row sz _ _ => if szT Tryz.prog 139 = some sz ∧ 0 ≤ n ∧ n < len then some (.rowp id (off + n.toNat) 0) else none | _ => none := fun _ _ _ _ _ _ => zGJ Tryz.underlying162
theorem zOt (cx : Cx) (hP : cx.P = Tryz.prog) (hbs : cx.bs = 1) (d : Dat) (c : Int) (hc : letC c) : zCm cx Tryz.f187 [.ptr 0 0, .it .u8 c] [.box (datL d)] = some ((.tup [.ptr 0 (offC c), .it .i64 (sizC c)], [.box (datL d)])) := by
 have hw65 : (IntKind.u8.wrap (65 - 65)).toNat = 0 := by decide
 have hw66 : (IntKind.u8.wrap (66 - 65)).toNat = 1 := by decide
 have hw67 : (IntKind.u8.wrap (67 - 65)).toNat = 2 := by decide
 have hw70 : (IntKind.u8.wrap (70 - 65)).toNat = 5 := by decide
 have hw98 : (IntKind.u8.wrap (98 - 97)).toNat = 1 := by decide
 have hw99 : (IntKind.u8.wrap (99 - 97)).toNat = 2 := by decide
 have hw118 : (IntKind.u8.wrap (118 - 118)).toNat = 0 := by decide
 have hw119 : (IntKind.u8.wrap (119 - 118)).toNat = 1 := by decide
 have hw120 : (IntKind.u8.wrap (120 - 118)).toNat = 2 := by decide
 have hw121 : (IntKind.u8.wrap (121 - 118)).toNat = 3 := by decide
 have hw122 : (IntKind.u8.wrap (122 - 118)).toNat = 4 := by decide
 have hv65 : IntKind.u8.wrap (65 - 65) = 0 := by decide
 have hv66 : IntKind.u8.wrap (66 - 65) = 1 := by decide
 have hv67 : IntKind.u8.wrap (67 - 65) = 2 := by decide
 have hv70 : IntKind.u8.wrap (70 - 65) = 5 := by decide
 have hv98 : IntKind.u8.wrap (98 - 97) = 1 := by decide
 have hv99 : IntKind.u8.wrap (99 - 97) = 2 := by decide
 have hv118 : IntKind.u8.wrap (118 - 118) = 0 := by decide
 have hv119 : IntKind.u8.wrap (119 - 118) = 1 := by decide
 have hv120 : IntKind.u8.wrap (120 - 118) = 2 := by decide
 have hv121 : IntKind.u8.wrap (121 - 118) = 3 := by decide
 have hv122 : IntKind.u8.wrap (122 - 118) = 4 := by decide
 rcases hc with rfl | rfl | rfl | rfl | rfl | rfl | rfl | rfl | rfl | rfl | rfl
 all_goals
   refine zEH (rs := [.tmp 4, .tmp 5]) rfl hbs rfl ?_
   repeat' first
     | (refine bN (fun h => ?_) fun h => ?_)
     | (refine zAI ?_ ?_)
     | simp (config := { decide := true }) only [↓cD, cU, cQ, cP, cB, zAD, unD, zAe, zAd, idx, reduceCtorEq, ↓reduceIte, ofV, ofC, zAq, Nat.reduceEqDiff, zAB, cG, implies_true, forall_const, immL, immD, Res.flat, ren, renL, Int.reduceEq, Int.reduceLT, Int.reduceLE, Int.reduceNe, deref, ldD, zAA, zAh, zAC, zAs, cC, cS, refs, zAy, okId, tAs, tAq, Nat.reduceMul, Nat.reduceAdd, Nat.reduceLeDiff, zAp, ↓zAH, ↓zAL, ↓zAG, ↓zAK, ↓zAF, ↓zAJ, cV, cT, cF, cW, borT, borM, zAl, Res.via, zAt, zAb, refsB, Nat.reduceLT, Nat.reduceSub, Nat.reduceLeDiff, Nat.reduceMul, Nat.reduceAdd, Int.reduceToNat, appK, zAr, zAc, borL, zAj, zAm, zAz, cO, List.replicate, zAx, ofHp, ixOf, cS, refs, zAy, okId, tAs, tAq, Nat.reduceMul, Nat.reduceAdd, Nat.reduceLeDiff, zAp, zB1, zTE, yKe, yJB, yJk, yJx, yHG, hw65, hw66, hw67, hw70, hw98, hw99, hw118, hw119, hw120, hw121, hw122, hv65, hv66, hv67, hv70, hv98, hv99, hv118, hv119, hv120, hv121, hv122, hP, *]
   all_goals first
     | exact ⟨_, rfl, zHg d, fun x hx => by simp only [tAr, tA0, or_false] at hx; rcases hx with rfl | rfl; exact zX5; exact zT1 rfl, rfl⟩
def zBO (d : Dat) (c : Int) : List UInt8 := if c = 104 then zBS d.host else if c = 109 then zBS d.mail else if c = 52 then (zBT d.adr).1 else if c = 54 then (zBT d.adr).1 else
 if c = 116 then numB .i64 d.text.length 1 ++ d.text else if c = 114 then d.text else if c = 115 then [253] else if c = 110 then [0] ++ numB .i64 (bmB d.bits).length 1 ++ bmB d.bits else numB .i64 (fldC c d) (sizC c).toNat
def zBB (d : Dat) : List UInt8 → List UInt8
 | [] => []
 | c :: r => zBO d c.toNat ++ zBB d r
theorem zII (d : Dat) : ∀ (a : List UInt8) (x : UInt8), zBB d (a ++ [x]) = zBB d a ++ zBO d x.toNat
 | [], x => by simp [zBB]
 | y :: r, x => by simp [zBB, zII d r x]
def N64 (x : Int) : Prop := 0 ≤ x ∧ x ≤ 9223372036854775807
theorem N64.of {x : Int} {b : Int} (h : inB x b = true) (hb : b ≤ 9223372036854775807) : N64 x := by
 simp only [inB, tAd, decide_eq_true_eq] at h
 exact ⟨h.1, Int.le_trans h.2 hb⟩
def okF (d : Dat) (c : Int) : Prop := (c = 104 ∨ c = 109 ∨ c = 52 ∨ c = 54 ∨ (c = 116 ∧ d.text.length ≤ 255) ∨ (c = 114 ∧ d.text.length ≤ 255) ∨ c = 115 ∨ c = 110) ∨ (letC c ∧ N64 (fldC c d))
theorem zRd {d : Dat} {c : Int} (h : okF d c) : (zBO d c).length ≤ 100000 := by
 have h1 := zDD d.host; have h2 := zDD d.mail; have h3 := zNz d.bits
 have h4 : (zBT d.adr).1.length ≤ 16 := by unfold zBT; split <;> (try split) <;> simp [zBx]
 have h5 : (sizC c).toNat ≤ 4 := by unfold sizC; repeat' split
                                    all_goals decide
 have h6 : letC c → ¬ c = 116 ∧ ¬ c = 114 := by unfold letC; omega
 unfold okF at h
 have h7 : c = 116 ∨ c = 114 → d.text.length ≤ 255 := by
   intro hc
   rcases h with h | h
   · omega
   · have := h6 h.1; omega
 clear h
 unfold zBO
 repeat' split
 all_goals (try simp only [tAh, tAp, tAu, zBx])
 all_goals omega
theorem zKF {d : Dat} : ∀ {l : List UInt8}, (∀ c ∈ l, okF d c.toNat) → (zBB d l).length ≤ 100000 * l.length
 | [], _ => by simp [zBB]
 | c :: r, h => by
   have h1 := zRd (h c (by simp)); have h2 := zKF (l := r) fun x hx => h x (by simp [hx])
   simp only [zBB, tAh, tAp]; omega
theorem zLu (t : Int) : (zA3 t).1.fl.length ≤ 9 := by
 rcases zEv t with rfl | rfl | rfl | rfl | rfl | rfl | rfl | rfl | rfl | rfl | rfl | rfl | rfl | rfl | ⟨h1, h2, h3, h4, h5, h6, h7, h8, h9, h10, h11, h12, h13, h14⟩
 iterate 14 decide
 unfold zA3 kindsL
 simp only [List.find?, decide_eq_false h1, decide_eq_false h2, decide_eq_false h3, decide_eq_false h4, decide_eq_false h5, decide_eq_false h6, decide_eq_false h7, decide_eq_false h8, decide_eq_false h9, decide_eq_false h10, decide_eq_false h11, decide_eq_false h12, decide_eq_false h13, decide_eq_false h14]
 decide
theorem yIX (d : Dat) {c : Int} (h : letC c) : (datL d).drop (offC c) = .it .i64 (fldC c d) :: (datL d).drop (offC c + 1) := by
 rcases h with rfl | rfl | rfl | rfl | rfl | rfl | rfl | rfl | rfl | rfl | rfl <;> rfl
theorem vD6 {d : Dat} (h : validD 6 d = true) : (zCe d.host && (zCe d.mail && (inR d.a && (inB d.b 2147483647 && (inB d.c 2147483647 && (inB d.d 2147483647 && inB d.e 2147483647)))))) = true := by
 have e : validD 6 d = if ¬ zA8 6 d = d then false else (zCe d.host && (zCe d.mail && (inR d.a && (inB d.b 2147483647 && (inB d.c 2147483647 && (inB d.d 2147483647 && inB d.e 2147483647)))))) := rfl
 by_cases hu : zA8 6 d = d
 · rw [e, if_neg (not_not_intro hu)] at h; exact h
 · rw [e, if_pos hu] at h; cases h
theorem vD15 {d : Dat} (h : validD 15 d = true) : (zCe d.host && inB d.a 65535) = true := by
 have e : validD 15 d = if ¬ zA8 15 d = d then false else (zCe d.host && inB d.a 65535) := rfl
 by_cases hu : zA8 15 d = d
 · rw [e, if_neg (not_not_intro hu)] at h; exact h
 · rw [e, if_pos hu] at h; cases h
theorem vD16 {d : Dat} (h : validD 16 d = true) : (decide ((d.text.length : Int) ≤ 255)) = true := by
 have e : validD 16 d = if ¬ zA8 16 d = d then false else (decide ((d.text.length : Int) ≤ 255)) := rfl
 by_cases hu : zA8 16 d = d
 · rw [e, if_neg (not_not_intro hu)] at h; exact h
 · rw [e, if_pos hu] at h; cases h
theorem vD33 {d : Dat} (h : validD 33 d = true) : (zCe d.host && (inB d.a 65535 && (inB d.b 65535 && inB d.c 65535))) = true := by
 have e : validD 33 d = if ¬ zA8 33 d = d then false else (zCe d.host && (inB d.a 65535 && (inB d.b 65535 && inB d.c 65535))) := rfl
 by_cases hu : zA8 33 d = d
 · rw [e, if_neg (not_not_intro hu)] at h; exact h
 · rw [e, if_pos hu] at h; cases h
theorem vD43 {d : Dat} (h : validD 43 d = true) : (inB d.a 65535 && (inB d.b 255 && (inB d.c 255 && zDp d.text))) = true := by
 have e : validD 43 d = if ¬ zA8 43 d = d then false else (inB d.a 65535 && (inB d.b 255 && (inB d.c 255 && zDp d.text))) := rfl
 by_cases hu : zA8 43 d = d
 · rw [e, if_neg (not_not_intro hu)] at h; exact h
 · rw [e, if_pos hu] at h; cases h
theorem vD46 {d : Dat} (h : validD 46 d = true) : (known d.a && (!decide (d.a = 46) && (inB d.b 127 && (inB d.c 2147483647 && (inB d.d 4294967295 && (inB d.e 4294967295 && (inB d.f 65535 && (zCe d.host && zDp d.text)))))))) = true := by
 have e : validD 46 d = if ¬ zA8 46 d = d then false else (known d.a && (!decide (d.a = 46) && (inB d.b 127 && (inB d.c 2147483647 && (inB d.d 4294967295 && (inB d.e 4294967295 && (inB d.f 65535 && (zCe d.host && zDp d.text)))))))) := rfl
 by_cases hu : zA8 46 d = d
 · rw [e, if_neg (not_not_intro hu)] at h; exact h
 · rw [e, if_pos hu] at h; cases h
theorem vD48 {d : Dat} (h : validD 48 d = true) : ((decide (d.a = 256) || decide (d.a = 257)) && (decide (d.b = 3) && (inB d.c 255 && zDp d.text))) = true := by
 have e : validD 48 d = if ¬ zA8 48 d = d then false else ((decide (d.a = 256) || decide (d.a = 257)) && (decide (d.b = 3) && (inB d.c 255 && zDp d.text))) := rfl
 by_cases hu : zA8 48 d = d
 · rw [e, if_neg (not_not_intro hu)] at h; exact h
 · rw [e, if_pos hu] at h; cases h
theorem zUy {t : Int} (h : known t = true) : N64 t := by
 rcases zEv t with rfl | rfl | rfl | rfl | rfl | rfl | rfl | rfl | rfl | rfl | rfl | rfl | rfl | rfl | hno
 iterate 14 exact ⟨by decide, by decide⟩
 rw [zFP hno] at h; cases h
theorem yEt {x : Int} (h : inR x = true) : N64 x := by
 simp only [inR, tAd, decide_eq_true_eq] at h
 exact ⟨by omega, by omega⟩
theorem zJk {s : List UInt8} (h : zDp s = true) : s.length ≤ 255 := by
 simp only [zDp, tAd, decide_eq_true_eq] at h; omega
theorem zHz {t : Int} {d : Dat} (h : validD t d = true) : known t = true := by
 cases hk : known t with
 | true => rfl
 | false => unfold validD at h; rw [if_pos hk] at h; cases h
theorem zFU {t : Int} {d : Dat} (h : validD t d = true) : ∀ c ∈ (zA3 t).1.fl, okF d c.toNat := by
 have hk := zHz h
 rcases zEv t with rfl | rfl | rfl | rfl | rfl | rfl | rfl | rfl | rfl | rfl | rfl | rfl | rfl | rfl | hno
 · intro c hm
   have hm' : c ∈ ([52] : List UInt8) := hm
   simp only [tAr, tA0, or_false] at hm'
   rcases hm' with rfl
   · exact .inl (.inr (.inr (.inl rfl)))
 · intro c hm
   have hm' : c ∈ ([104] : List UInt8) := hm
   simp only [tAr, tA0, or_false] at hm'
   rcases hm' with rfl
   · exact .inl (.inl rfl)
 · intro c hm
   have hm' : c ∈ ([104] : List UInt8) := hm
   simp only [tAr, tA0, or_false] at hm'
   rcases hm' with rfl
   · exact .inl (.inl rfl)
 · intro c hm
   have hm' : c ∈ ([104, 109, 118, 119, 120, 121, 122] : List UInt8) := hm
   have h' := vD6 h
   simp only [tAd] at h'
   obtain ⟨_, _, ha, hb, hc, hd, he⟩ := h'
   simp only [tAr, tA0, or_false] at hm'
   rcases hm' with rfl | rfl | rfl | rfl | rfl | rfl | rfl
   · exact .inl (.inl rfl)
   · exact .inl (.inr (.inl rfl))
   · exact .inr ⟨by unfold letC; decide, yEt ha⟩
   · exact .inr ⟨by unfold letC; decide, N64.of hb (by decide)⟩
   · exact .inr ⟨by unfold letC; decide, N64.of hc (by decide)⟩
   · exact .inr ⟨by unfold letC; decide, N64.of hd (by decide)⟩
   · exact .inr ⟨by unfold letC; decide, N64.of he (by decide)⟩
 · intro c hm
   have hm' : c ∈ ([104] : List UInt8) := hm
   simp only [tAr, tA0, or_false] at hm'
   rcases hm' with rfl
   · exact .inl (.inl rfl)
 · intro c hm
   have hm' : c ∈ ([65, 104] : List UInt8) := hm
   have h' := vD15 h
   simp only [tAd] at h'
   obtain ⟨_, ha⟩ := h'
   simp only [tAr, tA0, or_false] at hm'
   rcases hm' with rfl | rfl
   · exact .inr ⟨by unfold letC; decide, N64.of ha (by decide)⟩
   · exact .inl (.inl rfl)
 · intro c hm
   have hm' : c ∈ ([116] : List UInt8) := hm
   have h' := vD16 h
   have ht : d.text.length ≤ 255 := (by have := of_decide_eq_true h'; omega)
   simp only [tAr, tA0, or_false] at hm'
   rcases hm' with rfl
   · exact .inl (.inr (.inr (.inr (.inr (.inl ⟨rfl, ht⟩)))))
 · intro c hm
   have hm' : c ∈ ([54] : List UInt8) := hm
   simp only [tAr, tA0, or_false] at hm'
   rcases hm' with rfl
   · exact .inl (.inr (.inr (.inr (.inl rfl))))
 · intro c hm
   have hm' : c ∈ ([65, 66, 67, 104] : List UInt8) := hm
   have h' := vD33 h
   simp only [tAd] at h'
   obtain ⟨_, ha, hb, hc⟩ := h'
   simp only [tAr, tA0, or_false] at hm'
   rcases hm' with rfl | rfl | rfl | rfl
   · exact .inr ⟨by unfold letC; decide, N64.of ha (by decide)⟩
   · exact .inr ⟨by unfold letC; decide, N64.of hb (by decide)⟩
   · exact .inr ⟨by unfold letC; decide, N64.of hc (by decide)⟩
   · exact .inl (.inl rfl)
 · intro c hm
   have hm' : c ∈ ([104] : List UInt8) := hm
   simp only [tAr, tA0, or_false] at hm'
   rcases hm' with rfl
   · exact .inl (.inl rfl)
 · intro c hm
   have hm' : c ∈ ([65, 98, 99, 114] : List UInt8) := hm
   have h' := vD43 h
   simp only [tAd] at h'
   obtain ⟨ha, hb, hc, ht⟩ := h'
   have ht := zJk ht
   simp only [tAr, tA0, or_false] at hm'
   rcases hm' with rfl | rfl | rfl | rfl
   · exact .inr ⟨by unfold letC; decide, N64.of ha (by decide)⟩
   · exact .inr ⟨by unfold letC; decide, N64.of hb (by decide)⟩
   · exact .inr ⟨by unfold letC; decide, N64.of hc (by decide)⟩
   · exact .inl (.inr (.inr (.inr (.inr (.inr (.inl ⟨rfl, ht⟩))))))
 · intro c hm
   have hm' : c ∈ ([65, 115, 98, 120, 121, 122, 70, 104, 114] : List UInt8) := hm
   have h' := vD46 h
   simp only [tAd] at h'
   obtain ⟨ha, _, hb, hc, hd, he, hf, _, ht⟩ := h'
   have ht := zJk ht
   simp only [tAr, tA0, or_false] at hm'
   rcases hm' with rfl | rfl | rfl | rfl | rfl | rfl | rfl | rfl | rfl
   · exact .inr ⟨by unfold letC; decide, zUy ha⟩
   · exact .inl (.inr (.inr (.inr (.inr (.inr (.inr (.inl rfl)))))))
   · exact .inr ⟨by unfold letC; decide, N64.of hb (by decide)⟩
   · exact .inr ⟨by unfold letC; decide, N64.of hc (by decide)⟩
   · exact .inr ⟨by unfold letC; decide, N64.of hd (by decide)⟩
   · exact .inr ⟨by unfold letC; decide, N64.of he (by decide)⟩
   · exact .inr ⟨by unfold letC; decide, N64.of hf (by decide)⟩
   · exact .inl (.inl rfl)
   · exact .inl (.inr (.inr (.inr (.inr (.inr (.inl ⟨rfl, ht⟩))))))
 · intro c hm
   have hm' : c ∈ ([104, 110] : List UInt8) := hm
   simp only [tAr, tA0, or_false] at hm'
   rcases hm' with rfl | rfl
   · exact .inl (.inl rfl)
   · exact .inl (.inr (.inr (.inr (.inr (.inr (.inr (.inr (rfl))))))))
 · intro c hm
   have hm' : c ∈ ([65, 98, 99, 114] : List UInt8) := hm
   have h' := vD48 h
   simp only [tAd] at h'
   obtain ⟨ha, hb, hc, ht⟩ := h'
   have ht := zJk ht
   simp only [tAr, tA0, or_false] at hm'
   rcases hm' with rfl | rfl | rfl | rfl
   · exact .inr ⟨by unfold letC; decide, (show N64 d.a from by simp only [tAK, decide_eq_true_eq] at ha; exact ⟨by omega, by omega⟩)⟩
   · exact .inr ⟨by unfold letC; decide, (show N64 d.b from by have := of_decide_eq_true hb; exact ⟨by omega, by omega⟩)⟩
   · exact .inr ⟨by unfold letC; decide, N64.of hc (by decide)⟩
   · exact .inl (.inr (.inr (.inr (.inr (.inr (.inl ⟨rfl, ht⟩))))))
 · rw [zFP hno] at hk; cases hk
theorem yEE {t : Int} {s : Nat} (h : (s : Int) < (zA3 t).1.fl.length) : (zA3 t).1.fl[s]! ∈ (zA3 t).1.fl := zBu h
theorem yBv {d : Dat} {c : Int} (h : okF d c) (h1 : ¬ c = 104) (h2 : ¬ c = 109) (h3 : ¬ c = 52) (h4 : ¬ c = 54) (h5 : ¬ c = 116) (h6 : ¬ c = 114) (h7 : ¬ c = 115) (h8 : ¬ c = 110) : letC c ∧ N64 (fldC c d) := by
 rcases h with h | h
 · omega
 · exact h
theorem yAI (c : Int) : 0 ≤ sizC c ∧ sizC c ≤ 8 := by
 unfold sizC; repeat' split
 all_goals decide
theorem zR8 {t : Int} {d : Dat} (h : validD t d = true) (s : Nat) : (zBB d ((zA3 t).1.fl.take s)).length ≤ 900000 := by
 have h1 := zKF (d := d) (l := (zA3 t).1.fl.take s) fun c hc => zFU h c (tAS hc)
 have h2 := zLu t
 have h3 : ((zA3 t).1.fl.take s).length ≤ (zA3 t).1.fl.length := by rw [tAk]; omega
 omega
theorem zSb (a : Adr) : (zBT a).1.length ≤ 16 := by unfold zBT; split <;> (try split) <;> simp [zBx]
theorem yCj {d : Dat} {c : Int} (h : okF d c) (hc : c = 116 ∨ c = 114) : d.text.length ≤ 255 := by
 rcases h with h | h
 · omega
 · have : letC c → ¬ c = 116 ∧ ¬ c = 114 := by unfold letC; omega
   have := this h.1; omega
theorem zNW {a : Adr} (h : vAdr a = true) : zBT a = ((zBT a).1, 0) := by unfold zBT; rw [if_pos h]; split <;> rfl

theorem zFH (d : Dat) : zBO d (((104 : UInt8).toNat : Nat) : Int) = zBS d.host := rfl
theorem zFG (d : Dat) : zBO d (((109 : UInt8).toNat : Nat) : Int) = zBS d.mail := rfl
theorem pc52 (d : Dat) : zBO d (((52 : UInt8).toNat : Nat) : Int) = (zBT d.adr).1 := rfl
theorem pc54 (d : Dat) : zBO d (((54 : UInt8).toNat : Nat) : Int) = (zBT d.adr).1 := rfl
theorem zFC (d : Dat) : zBO d (((116 : UInt8).toNat : Nat) : Int) = numB .i64 d.text.length 1 ++ d.text := rfl
theorem zFE (d : Dat) : zBO d (((114 : UInt8).toNat : Nat) : Int) = d.text := rfl
theorem zFD (d : Dat) : zBO d (((115 : UInt8).toNat : Nat) : Int) = numB .i64 253 1 := rfl
theorem zFF (d : Dat) : zBO d (((110 : UInt8).toNat : Nat) : Int) = numB .i64 0 1 ++ numB .i64 (bmB d.bits).length 1 ++ bmB d.bits := rfl
theorem pc65 (d : Dat) : zBO d (((65 : UInt8).toNat : Nat) : Int) = numB .i64 d.a 2 := rfl
theorem pc66 (d : Dat) : zBO d (((66 : UInt8).toNat : Nat) : Int) = numB .i64 d.b 2 := rfl
theorem pc67 (d : Dat) : zBO d (((67 : UInt8).toNat : Nat) : Int) = numB .i64 d.c 2 := rfl
theorem pc70 (d : Dat) : zBO d (((70 : UInt8).toNat : Nat) : Int) = numB .i64 d.f 2 := rfl
theorem pc98 (d : Dat) : zBO d (((98 : UInt8).toNat : Nat) : Int) = numB .i64 d.b 1 := rfl
theorem pc99 (d : Dat) : zBO d (((99 : UInt8).toNat : Nat) : Int) = numB .i64 d.c 1 := rfl
theorem zFB (d : Dat) : zBO d (((118 : UInt8).toNat : Nat) : Int) = numB .i64 d.a 4 := rfl
theorem zFA (d : Dat) : zBO d (((119 : UInt8).toNat : Nat) : Int) = numB .i64 d.b 4 := rfl
theorem zFz (d : Dat) : zBO d (((120 : UInt8).toNat : Nat) : Int) = numB .i64 d.c 4 := rfl
theorem zFy (d : Dat) : zBO d (((121 : UInt8).toNat : Nat) : Int) = numB .i64 d.d 4 := rfl
theorem zFx (d : Dat) : zBO d (((122 : UInt8).toNat : Nat) : Int) = numB .i64 d.e 4 := rfl
theorem zXe {t : Int} {d : Dat} (h : validD t d = true) : zAT t d = (zBB d (zA3 t).1.fl, 0) := by
 have hk := zHz h
 rcases zEv t with rfl | rfl | rfl | rfl | rfl | rfl | rfl | rfl | rfl | rfl | rfl | rfl | rfl | rfl | hno
 · have e : zAT 1 d = zBT d.adr := by unfold zAT; rw [if_pos hk, if_pos h]; rfl
   rw [e]
   show _ = (zBB d [52], 0)
   have hv : vAdr d.adr = true := by
     have e2 : validD 1 d = if ¬ zA8 1 d = d then false else (vAdr d.adr && !d.adr.v6) := rfl
     by_cases hu : zA8 1 d = d
     · rw [e2, if_neg (not_not_intro hu)] at h; exact (tAd _ _ ▸ h).1
     · rw [e2, if_pos hu] at h; cases h
   rw [zNW hv]
   simp only [zBB, zFH, zFG, pc52, pc54, zFC, zFE, zFD, zFF, pc65, pc66, pc67, pc70, pc98, pc99, zFB, zFA, zFz, zFy, zFx, tAo, tAm]
 · have e : zAT 2 d = (zBS d.host, 0) := by unfold zAT; rw [if_pos hk, if_pos h]; rfl
   rw [e]
   show _ = (zBB d [104], 0)
   simp only [zBB, zFH, zFG, pc52, pc54, zFC, zFE, zFD, zFF, pc65, pc66, pc67, pc70, pc98, pc99, zFB, zFA, zFz, zFy, zFx, tAo, tAm]
 · have e : zAT 5 d = (zBS d.host, 0) := by unfold zAT; rw [if_pos hk, if_pos h]; rfl
   rw [e]
   show _ = (zBB d [104], 0)
   simp only [zBB, zFH, zFG, pc52, pc54, zFC, zFE, zFD, zFF, pc65, pc66, pc67, pc70, pc98, pc99, zFB, zFA, zFz, zFy, zFx, tAo, tAm]
 · have e : zAT 6 d = (zBS d.host ++ zBS d.mail ++ numB .i64 d.a 4 ++ numB .i64 d.b 4 ++ numB .i64 d.c 4 ++ numB .i64 d.d 4 ++ numB .i64 d.e 4, 0) := by unfold zAT; rw [if_pos hk, if_pos h]; rfl
   rw [e]
   show _ = (zBB d [104, 109, 118, 119, 120, 121, 122], 0)
   simp only [zBB, zFH, zFG, pc52, pc54, zFC, zFE, zFD, zFF, pc65, pc66, pc67, pc70, pc98, pc99, zFB, zFA, zFz, zFy, zFx, tAo, tAm]
 · have e : zAT 12 d = (zBS d.host, 0) := by unfold zAT; rw [if_pos hk, if_pos h]; rfl
   rw [e]
   show _ = (zBB d [104], 0)
   simp only [zBB, zFH, zFG, pc52, pc54, zFC, zFE, zFD, zFF, pc65, pc66, pc67, pc70, pc98, pc99, zFB, zFA, zFz, zFy, zFx, tAo, tAm]
 · have e : zAT 15 d = (numB .i64 d.a 2 ++ zBS d.host, 0) := by unfold zAT; rw [if_pos hk, if_pos h]; rfl
   rw [e]
   show _ = (zBB d [65, 104], 0)
   simp only [zBB, zFH, zFG, pc52, pc54, zFC, zFE, zFD, zFF, pc65, pc66, pc67, pc70, pc98, pc99, zFB, zFA, zFz, zFy, zFx, tAo, tAm]
 · have e : zAT 16 d = (numB .i64 d.text.length 1 ++ d.text, 0) := by unfold zAT; rw [if_pos hk, if_pos h]; rfl
   rw [e]
   show _ = (zBB d [116], 0)
   simp only [zBB, zFH, zFG, pc52, pc54, zFC, zFE, zFD, zFF, pc65, pc66, pc67, pc70, pc98, pc99, zFB, zFA, zFz, zFy, zFx, tAo, tAm]
 · have e : zAT 28 d = zBT d.adr := by unfold zAT; rw [if_pos hk, if_pos h]; rfl
   rw [e]
   show _ = (zBB d [54], 0)
   have hv : vAdr d.adr = true := by
     have e2 : validD 28 d = if ¬ zA8 28 d = d then false else d.adr.v6 := rfl
     by_cases hu : zA8 28 d = d
     · rw [e2, if_neg (not_not_intro hu)] at h; simp [vAdr, h]
     · rw [e2, if_pos hu] at h; cases h
   rw [zNW hv]
   simp only [zBB, zFH, zFG, pc52, pc54, zFC, zFE, zFD, zFF, pc65, pc66, pc67, pc70, pc98, pc99, zFB, zFA, zFz, zFy, zFx, tAo, tAm]
 · have e : zAT 33 d = (numB .i64 d.a 2 ++ numB .i64 d.b 2 ++ numB .i64 d.c 2 ++ zBS d.host, 0) := by unfold zAT; rw [if_pos hk, if_pos h]; rfl
   rw [e]
   show _ = (zBB d [65, 66, 67, 104], 0)
   simp only [zBB, zFH, zFG, pc52, pc54, zFC, zFE, zFD, zFF, pc65, pc66, pc67, pc70, pc98, pc99, zFB, zFA, zFz, zFy, zFx, tAo, tAm]
 · have e : zAT 39 d = (zBS d.host, 0) := by unfold zAT; rw [if_pos hk, if_pos h]; rfl
   rw [e]
   show _ = (zBB d [104], 0)
   simp only [zBB, zFH, zFG, pc52, pc54, zFC, zFE, zFD, zFF, pc65, pc66, pc67, pc70, pc98, pc99, zFB, zFA, zFz, zFy, zFx, tAo, tAm]
 · have e : zAT 43 d = (numB .i64 d.a 2 ++ numB .i64 d.b 1 ++ numB .i64 d.c 1 ++ d.text, 0) := by unfold zAT; rw [if_pos hk, if_pos h]; rfl
   rw [e]
   show _ = (zBB d [65, 98, 99, 114], 0)
   simp only [zBB, zFH, zFG, pc52, pc54, zFC, zFE, zFD, zFF, pc65, pc66, pc67, pc70, pc98, pc99, zFB, zFA, zFz, zFy, zFx, tAo, tAm]
 · have e : zAT 46 d = (numB .i64 d.a 2 ++ numB .i64 253 1 ++ numB .i64 d.b 1 ++ numB .i64 d.c 4 ++ numB .i64 d.d 4 ++ numB .i64 d.e 4 ++ numB .i64 d.f 2 ++ zBS d.host ++ d.text, 0) := by unfold zAT; rw [if_pos hk, if_pos h]; rfl
   rw [e]
   show _ = (zBB d [65, 115, 98, 120, 121, 122, 70, 104, 114], 0)
   simp only [zBB, zFH, zFG, pc52, pc54, zFC, zFE, zFD, zFF, pc65, pc66, pc67, pc70, pc98, pc99, zFB, zFA, zFz, zFy, zFx, tAo, tAm]
 · have e : zAT 47 d = (zBS d.host ++ numB .i64 0 1 ++ numB .i64 (bmB d.bits).length 1 ++ bmB d.bits, 0) := by unfold zAT; rw [if_pos hk, if_pos h]; rfl
   rw [e]
   show _ = (zBB d [104, 110], 0)
   simp only [zBB, zFH, zFG, pc52, pc54, zFC, zFE, zFD, zFF, pc65, pc66, pc67, pc70, pc98, pc99, zFB, zFA, zFz, zFy, zFx, tAo, tAm]
 · have e : zAT 48 d = (numB .i64 d.a 2 ++ numB .i64 d.b 1 ++ numB .i64 d.c 1 ++ d.text, 0) := by unfold zAT; rw [if_pos hk, if_pos h]; rfl
   rw [e]
   show _ = (zBB d [65, 98, 99, 114], 0)
   simp only [zBB, zFH, zFG, pc52, pc54, zFC, zFE, zFD, zFF, pc65, pc66, pc67, pc70, pc98, pc99, zFB, zFA, zFz, zFy, zFx, tAo, tAm]
 · rw [zFP hno] at hk; cases hk

theorem zOh (cx : Cx) (hP : cx.P = Tryz.prog) (hbs : cx.bs = 0) (h115 : cx.orc 115 = some zMr) (h89 : cx.orc 89 = some FVD) (h184 : cx.orc 184 = some zQh) (h185 : cx.orc 185 = some FWAP) (h186 : cx.orc 186 = some FBmP) (h188 : cx.orc 188 = some zWO) (xn187 : cx.orc 187 = none) (xe187 : cx.ext 187 = none) (xf187 : cx.eff 187 = some zJb) (hk8 : cx.kp 8 = some [3, 6, 8, 31, 32]) (t1 : Int) (d1 : Dat) (hl : DSm d1) : zAg cx Tryz.f165 [] false [.it .i64 t1, datE d1] = some (Res.flat (.tup [.st (zAT t1 d1).1, .it .i64 (zAT t1 d1).2])) := by
 have c115 := zAa h115
 have c89 := zAa h89
 have c184 := zAa h184
 have c185 := zAa h185
 have c186 := zAa h186
 have c188 := zAa h188
 have cf187 := fun H nid l => (show zBI cx 187 l H nid = _ from zBo xn187 xe187 xf187)
 have hl1 := hl.1; have hl2 := hl.2.1; have hl3 := hl.2.2.1; have hl4 := hl.2.2.2
 have hk9 := zLu t1
 have hw : ∀ k : Nat, (k : Int) < (zA3 t1).1.fl.length → IntKind.i64.wrap ((k : Int) + 1) = ((k + 1 : Nat) : Int) := fun k h => by rw [wrap64 (by omega) (by omega)]; simp
 have hpl : ∀ (H : Hp) (nid : Nat) (c : Int), H 0 = .box (datL d1) → letC c → zCc zJb [.ptr 0 0, .it .u8 c] H nid = some (.tup [.ptr 0 (offC c), .it .i64 (sizC c)], upd H 0 (.box (datL d1)), nid) := fun H nid c hH hc => by rw [zYx rfl hH (zHg d1), zWM hc]; simp only [tAg, tAp, tAu, zZJ (zHg d1)]; rfl
 have hlet : ∀ s : Nat, validD t1 d1 = true → (s : Int) < (zA3 t1).1.fl.length → ¬ (((zA3 t1).1.fl[s]!).toNat : Int) = 104 → ¬ (((zA3 t1).1.fl[s]!).toNat : Int) = 109 → ¬ (((zA3 t1).1.fl[s]!).toNat : Int) = 52 → ¬ (((zA3 t1).1.fl[s]!).toNat : Int) = 54 → ¬ (((zA3 t1).1.fl[s]!).toNat : Int) = 116 → ¬ (((zA3 t1).1.fl[s]!).toNat : Int) = 114 → ¬ (((zA3 t1).1.fl[s]!).toNat : Int) = 115 → ¬ (((zA3 t1).1.fl[s]!).toNat : Int) = 110 → letC (((zA3 t1).1.fl[s]!).toNat : Int) := fun s hv hs h1 h2 h3 h4 h5 h6 h7 h8 => (yBv (zFU hv _ (yEE hs)) h1 h2 h3 h4 h5 h6 h7 h8).1
 have hnum : ∀ s : Nat, validD t1 d1 = true → (s : Int) < (zA3 t1).1.fl.length → ¬ (((zA3 t1).1.fl[s]!).toNat : Int) = 104 → ¬ (((zA3 t1).1.fl[s]!).toNat : Int) = 109 → ¬ (((zA3 t1).1.fl[s]!).toNat : Int) = 52 → ¬ (((zA3 t1).1.fl[s]!).toNat : Int) = 54 → ¬ (((zA3 t1).1.fl[s]!).toNat : Int) = 116 → ¬ (((zA3 t1).1.fl[s]!).toNat : Int) = 114 → ¬ (((zA3 t1).1.fl[s]!).toNat : Int) = 115 → ¬ (((zA3 t1).1.fl[s]!).toNat : Int) = 110 → zWO [.it .i64 (fldC (((zA3 t1).1.fl[s]!).toNat : Int) d1), .it .i64 (sizC (((zA3 t1).1.fl[s]!).toNat : Int))] = some (Res.flat (.st (numB .i64 (fldC (((zA3 t1).1.fl[s]!).toNat : Int) d1) (sizC (((zA3 t1).1.fl[s]!).toNat : Int)).toNat))) := fun s hv hs h1 h2 h3 h4 h5 h6 h7 h8 => zQg ⟨(yBv (zFU hv _ (yEE hs)) h1 h2 h3 h4 h5 h6 h7 h8).2, yAI _⟩
 have hpl2 : ∀ (s nid : Nat), validD t1 d1 = true → (s : Int) < (zA3 t1).1.fl.length → ¬ (((zA3 t1).1.fl[s]!).toNat : Int) = 104 → ¬ (((zA3 t1).1.fl[s]!).toNat : Int) = 109 → ¬ (((zA3 t1).1.fl[s]!).toNat : Int) = 52 → ¬ (((zA3 t1).1.fl[s]!).toNat : Int) = 54 → ¬ (((zA3 t1).1.fl[s]!).toNat : Int) = 116 → ¬ (((zA3 t1).1.fl[s]!).toNat : Int) = 114 → ¬ (((zA3 t1).1.fl[s]!).toNat : Int) = 115 → ¬ (((zA3 t1).1.fl[s]!).toNat : Int) = 110 → zCc zJb [.ptr 0 0, .it .u8 (((zA3 t1).1.fl[s]!).toNat : Int)] (ofHp [.box (datL d1), .box (kdL (zA3 t1).1)]) nid = some (.tup [.ptr 0 (offC (((zA3 t1).1.fl[s]!).toNat : Int)), .it .i64 (sizC (((zA3 t1).1.fl[s]!).toNat : Int))], ofHp [.box (datL d1), .box (kdL (zA3 t1).1)], nid) := fun s nid hv hs h1 h2 h3 h4 h5 h6 h7 h8 => by rw [hpl _ _ _ rfl (hlet s hv hs h1 h2 h3 h4 h5 h6 h7 h8)]; congr 3; funext i; unfold upd; split <;> simp_all [ofHp]
 have hdr : ∀ s : Nat, letC (((zA3 t1).1.fl[s]!).toNat : Int) → (datL d1).drop (offC (((zA3 t1).1.fl[s]!).toNat : Int)) = .it .i64 (fldC (((zA3 t1).1.fl[s]!).toNat : Int) d1) :: (datL d1).drop (offC (((zA3 t1).1.fl[s]!).toNat : Int) + 1) := fun s h => yIX d1 h
 refine zAf (rs := [.tmp 4, .tmp 5]) rfl hbs rfl ?_
 repeat' first
   | (refine zAv (σ := Nat) (fun s => [.ptr 0 0, .ptr 1 0, .st (zBB d1 ((zA3 t1).1.fl.take s)), .it .i64 (zA3 t1).1.fl.length, .it .i64 s]) (fun s => [.box (datL d1), .box (kdL (zA3 t1).1)]) (fun s => s ≤ (zA3 t1).1.fl.length) (fun s => (zA3 t1).1.fl.length - s) [3, 6, 8, 31, 32] hbs (by exact hk8) (fr2 (fun _ => zHg _) fun _ => zUQ _) (fun s js => ?_) (s := 0) [0, 1] ?_ ?_ ?_ ?_ ?_)
   | (refine bN (fun h => ?_) fun h => ?_)
   | (refine zAI ?_ ?_)
   | simp only [↓cD, cU, cQ, cP, cB, zAD, unD, zAe, zAd, idx, reduceCtorEq, ↓reduceIte, ofV, ofC, zAq, Nat.reduceEqDiff, zAB, cG, implies_true, forall_const, immL, immD, Res.flat, ren, renL, Int.reduceEq, Int.reduceLT, Int.reduceLE, Int.reduceNe, deref, ldD, zAA, zAh, zAC, zAs, cC, c115, c89, c184, c185, c186, c188, zAi, zAk, zMq, zP4, zWP, yFL, yF9, zQg, ↓zAH, ↓zAL, ↓zAG, ↓zAK, ↓zAF, ↓zAJ, cV, cT, cF, cW, borT, borM, zAl, Res.via, zAt, zAb, refsB, Nat.reduceLT, Nat.reduceSub, Nat.reduceLeDiff, Nat.reduceMul, Nat.reduceAdd, Int.reduceToNat, appK, zAr, zAc, borL, zAj, zAm, zAz, cO, List.replicate, zAx, ofHp, ixOf, zG4, zEP, zPg, zJO, zPk, zJP, zPh, zPf, zPj, zYI, zG3, zG2, zG1, zYJ, zG0, zJQ, zYK, zPi, zG5, zJl, zIr, Tryz.underlying102, Tryz.underlying103, zHv, zDT, zDa, zDS, zC9, zJ3, zJ6, zJ2, zJ5, zJ1, zJ4, zZI, zVn, zRT, zR6, zPY, zPZ, zJI, zJJ, zJw, zPo, zN6, zN8, zN9, zO7, zJx, zPn, hl1, hl2, hl3, hl4, lens Tryz.underlying9, ixs Tryz.underlying9, zH1, hw, hpl2, hlet, hnum, hdr, zNw, zUd, zB1, zCS Tryz.underlying149 Tryz.underlying5 sz5 Tryz.underlying9, hP, *]
 all_goals first
   | rfl
   | omega
   | (simp [zAT, *]; done)
   | (rw [zXe ‹validD t1 d1 = true›, zAS (by omega)]; done)
   | (have := zR8 ‹validD t1 d1 = true› s; have := zDD d1.host; have := zDD d1.mail; have := zNz d1.bits; have := zSb d1.adr; have := yCj (zFU ‹validD t1 d1 = true› _ (yEE (s := s) (by omega))); have := (yAI (((zA3 t1).1.fl[s]!).toNat : Int)).2; (try simp only [tAh, zBx, tAp, tAu]); omega)
   | (refine ⟨[0, 1], s + 1, ?_, ?_, ?_, ?_, by omega, by omega⟩; rotate_left 2; (rw [takeN (by omega), zII]; simp only [zBO, *, if_true, if_false, tAm, Int.reduceEq]; rfl); all_goals rfl)
theorem yBh (cx : Cx) (hP : cx.P = Tryz.prog) (hbs : cx.bs = 0) (h165 : cx.orc 165 = some FWD) (h163 : cx.orc 163 = some zGK) (t1 : Int) (d1 e1 : Dat) (hl : DSm d1 ∧ DSm e1) : zAg cx Tryz.f123 [] false [.it .i64 t1, datE d1, datE e1] = some (Res.flat (.it .i64 (cmpD t1 d1 e1))) := by
 have c165 := zAa h165
 have c163 := zAa h163
 have hl1 := hl.1; have hl2 := hl.2
 refine zAf (rs := [.tmp 6]) rfl hbs rfl ?_
 repeat' first
   | (refine bN (fun h => ?_) fun h => ?_)
   | (refine zAI ?_ ?_)
   | simp only [↓cD, cU, cQ, cP, cB, zAD, unD, zAe, zAd, idx, reduceCtorEq, ↓reduceIte, ofV, ofC, zAq, Nat.reduceEqDiff, zAB, cG, implies_true, forall_const, immL, immD, Res.flat, ren, renL, Int.reduceEq, Int.reduceLT, Int.reduceLE, Int.reduceNe, deref, ldD, zAA, zAh, zAC, zAs, cC, c165, c163, zAi, zAk, yBS, zIu, ↓zAH, ↓zAL, ↓zAG, ↓zAK, ↓zAF, ↓zAJ, cV, cT, cF, cW, borT, borM, zAl, Res.via, zAt, zAb, refsB, Nat.reduceLT, Nat.reduceSub, Nat.reduceLeDiff, Nat.reduceMul, Nat.reduceAdd, Int.reduceToNat, appK, zAr, zAc, borL, zAj, zAm, zAz, cO, List.replicate, zAx, ofHp, ixOf, hl1, hl2, hP, *]
 all_goals first
   | rfl
   | (simp [cmpD, *]; done)
   | (simp [cmpD, *]; omega)
theorem yAN (cx : Cx) (hP : cx.P = Tryz.prog) (hbs : cx.bs = 0) (h42 : cx.orc 42 = some zEJ) (h88 : cx.orc 88 = some zIB) (h89 : cx.orc 89 = some FVD) (r1 : Rec) (hl : RSm r1) : zAg cx Tryz.f46 [] false [recE r1] = some (Res.flat (.bo (zBN r1))) := by
 have c42 := zAa h42
 have c88 := zAa h88
 have c89 := zAa h89
 have hl1 := hl.1; have hl2 := hl.2
 refine zAf (rs := [.tmp 2]) rfl hbs rfl ?_
 repeat' first
   | (refine bN (fun h => ?_) fun h => ?_)
   | (refine zAI ?_ ?_)
   | simp only [↓cD, cU, cQ, cP, cB, zAD, unD, zAe, zAd, idx, reduceCtorEq, ↓reduceIte, ofV, ofC, zAq, Nat.reduceEqDiff, zAB, cG, implies_true, forall_const, immL, immD, Res.flat, ren, renL, Int.reduceEq, Int.reduceLT, Int.reduceLE, Int.reduceNe, deref, ldD, zAA, zAh, zAC, zAs, cC, c42, c88, c89, zAi, zAk, zCG, zJe, zP4, ↓zAH, ↓zAL, ↓zAG, ↓zAK, ↓zAF, ↓zAJ, cV, cT, cF, cW, borT, borM, zAl, Res.via, zAt, zAb, refsB, Nat.reduceLT, Nat.reduceSub, Nat.reduceLeDiff, Nat.reduceMul, Nat.reduceAdd, Int.reduceToNat, appK, zAr, zAc, borL, zAj, zAm, zAz, cO, List.replicate, zAx, ofHp, ixOf, hl1, hl2, hP, *]
 all_goals first
   | rfl
   | (simp [zBN, *]; done)
   | (simp [zBN, *]; omega)
noncomputable def FNaN := mkF (fun s : Int => [.it .i64 s]) (fun s => True) (fun s => Res.flat (.bo false))
theorem yFY {a1 : Int} : FNaN [.it .i64 a1] = some (Res.flat (.bo false)) := mkFe (s := (a1)) trivial
theorem yA4 (cx : Cx) (hP : cx.P = Tryz.prog) (hbs : cx.bs = 0) (a1 : Int)  : zAg cx Tryz.f148 [] false [.it .i64 a1] = some (Res.flat (.bo false)) := by
 refine zAf (rs := [.tmp 2]) rfl hbs rfl ?_
 repeat' first
   | (refine bN (fun h => ?_) fun h => ?_)
   | (refine zAI ?_ ?_)
   | simp only [↓cD, cU, cQ, cP, cB, zAD, unD, zAe, zAd, idx, reduceCtorEq, ↓reduceIte, ofV, ofC, zAq, Nat.reduceEqDiff, zAB, cG, implies_true, forall_const, immL, immD, Res.flat, ren, renL, Int.reduceEq, Int.reduceLT, Int.reduceLE, Int.reduceNe, deref, ldD, zAA, zAh, zAC, zAs, cC, ↓zAH, ↓zAL, ↓zAG, ↓zAK, ↓zAF, ↓zAJ, cV, cT, cF, cW, borT, borM, zAl, Res.via, zAt, zAb, refsB, Nat.reduceLT, Nat.reduceSub, Nat.reduceLeDiff, Nat.reduceMul, Nat.reduceAdd, Int.reduceToNat, appK, zAr, zAc, borL, zAj, zAm, zAz, cO, List.replicate, zAx, ofHp, ixOf, hP, *]
 all_goals first
   | rfl
   | (simp [numC, *]; done)
   | (simp [numC, *]; omega)
theorem zOu (cx : Cx) (hP : cx.P = Tryz.prog) (hbs : cx.bs = 0) (h148 : cx.orc 148 = some FNaN) (a1 b1 : Int)  : zAg cx Tryz.f111 [] false [.it .i64 a1, .it .i64 b1] = some (Res.flat (.it .i64 (numC a1 b1))) := by
 have c148 := zAa h148
 refine zAf (rs := [.tmp 4]) rfl hbs rfl ?_
 repeat' first
   | (refine bN (fun h => ?_) fun h => ?_)
   | (refine zAI ?_ ?_)
   | simp only [↓cD, cU, cQ, cP, cB, zAD, unD, zAe, zAd, idx, reduceCtorEq, ↓reduceIte, ofV, ofC, zAq, Nat.reduceEqDiff, zAB, cG, implies_true, forall_const, immL, immD, Res.flat, ren, renL, Int.reduceEq, Int.reduceLT, Int.reduceLE, Int.reduceNe, deref, ldD, zAA, zAh, zAC, zAs, cC, c148, zAi, zAk, yFY, ↓zAH, ↓zAL, ↓zAG, ↓zAK, ↓zAF, ↓zAJ, cV, cT, cF, cW, borT, borM, zAl, Res.via, zAt, zAb, refsB, Nat.reduceLT, Nat.reduceSub, Nat.reduceLeDiff, Nat.reduceMul, Nat.reduceAdd, Int.reduceToNat, appK, zAr, zAc, borL, zAj, zAm, zAz, cO, List.replicate, zAx, ofHp, ixOf, hP, *]
 all_goals first
   | rfl
   | (simp [numC, *]; done)
   | (simp [numC, *]; omega)
theorem zK7 (cx : Cx) (hP : cx.P = Tryz.prog) (hbs : cx.bs = 0) (h122 : cx.orc 122 = some zNS) (h111 : cx.orc 111 = some zKz) (h123 : cx.orc 123 = some FCD) (r1 r2 : Rec) (hl : RSm r1 ∧ RSm r2) : zAg cx Tryz.f93 [] false [recE r1, recE r2] = some (Res.flat (.it .i64 (zAw r1 r2))) := by
 have c122 := zAa h122
 have c111 := zAa h111
 have c123 := zAa h123
 have hl1 := hl.1.1; have hl2 := hl.1.2; have hl3 := hl.2.1; have hl4 := hl.2.2; have hl5 := hl.1; have hl6 := hl.2
 refine zAf (rs := [.tmp 4]) rfl hbs rfl ?_
 repeat' first
   | (refine bN (fun h => ?_) fun h => ?_)
   | (refine zAI ?_ ?_)
   | simp only [↓cD, cU, cQ, cP, cB, zAD, unD, zAe, zAd, idx, reduceCtorEq, ↓reduceIte, ofV, ofC, zAq, Nat.reduceEqDiff, zAB, cG, implies_true, forall_const, immL, immD, Res.flat, ren, renL, Int.reduceEq, Int.reduceLT, Int.reduceLE, Int.reduceNe, deref, ldD, zAA, zAh, zAC, zAs, cC, c122, c111, c123, zAi, zAk, zQv, zHs, yBU, ↓zAH, ↓zAL, ↓zAG, ↓zAK, ↓zAF, ↓zAJ, cV, cT, cF, cW, borT, borM, zAl, Res.via, zAt, zAb, refsB, Nat.reduceLT, Nat.reduceSub, Nat.reduceLeDiff, Nat.reduceMul, Nat.reduceAdd, Int.reduceToNat, appK, zAr, zAc, borL, zAj, zAm, zAz, cO, List.replicate, zAx, ofHp, ixOf, hl1, hl2, hl3, hl4, hP, *]
 all_goals first
   | rfl
   | (simp [zAw, *]; done)
   | (simp [zAw, *]; omega)
theorem zOM (cx : Cx) (hP : cx.P = Tryz.prog) (hbs : cx.bs = 0) (h93 : cx.orc 93 = some zEn) (h111 : cx.orc 111 = some zKz) (r1 r2 : Rec) (hl : RSm r1 ∧ RSm r2) : zAg cx Tryz.f80 [] false [recE r1, recE r2] = some (Res.flat (.it .i64 (cmpR r1 r2))) := by
 have c93 := zAa h93
 have c111 := zAa h111
 have hl1 := hl.1.1; have hl2 := hl.1.2; have hl3 := hl.2.1; have hl4 := hl.2.2; have hl5 := hl.1; have hl6 := hl.2
 refine zAf (rs := [.tmp 4]) rfl hbs rfl ?_
 repeat' first
   | (refine bN (fun h => ?_) fun h => ?_)
   | (refine zAI ?_ ?_)
   | simp only [↓cD, cU, cQ, cP, cB, zAD, unD, zAe, zAd, idx, reduceCtorEq, ↓reduceIte, ofV, ofC, zAq, Nat.reduceEqDiff, zAB, cG, implies_true, forall_const, immL, immD, Res.flat, ren, renL, Int.reduceEq, Int.reduceLT, Int.reduceLE, Int.reduceNe, deref, ldD, zAA, zAh, zAC, zAs, cC, c93, c111, zAi, zAk, zDd, zHs, ↓zAH, ↓zAL, ↓zAG, ↓zAK, ↓zAF, ↓zAJ, cV, cT, cF, cW, borT, borM, zAl, Res.via, zAt, zAb, refsB, Nat.reduceLT, Nat.reduceSub, Nat.reduceLeDiff, Nat.reduceMul, Nat.reduceAdd, Int.reduceToNat, appK, zAr, zAc, borL, zAj, zAm, zAz, cO, List.replicate, zAx, ofHp, ixOf, hl5, hl6, hP, *]
 all_goals first
   | rfl
   | (simp [cmpR, *]; done)
   | (simp [cmpR, *]; omega)
theorem zCy {z z' : Zone} : (D.elt (zBQ z) = D.elt (zBQ z')) = (z = z') := by
 have h := zGQ z z'
 rw [← h]; simp only [zAE, D.agg.injEq, D.elt.injEq]
theorem zDv {k : IntKind} {a b : Int} : (D.elt [.it k a] = D.elt [.it k b]) = (a = b) := by simp only [D.elt.injEq, tAv, D.it.injEq, true_and, and_true]
theorem zCz {a b : List Int} : (D.elt [zCP a] = D.elt [zCP b]) = (a = b) := by simp only [D.elt.injEq, tAv, zPp, and_true]
theorem zFT {α : Type} {p : α → Bool} {l : List α} : decide (0 ≤ zBX p l) = l.any p := by
 unfold zBX
 cases h : l.any p <;> simp
def inI (v : List Int) (x : Int) : Bool := v.any fun y => decide (x = y)
def soaX (z : Zone) (r : Rec) : Bool := if r.typ = 6 then r.name == z.origin else false
def hasX (n : Int) (r : Rec) : Bool := decide (r.typ = n)
def onlX (v : List Int) (r : Rec) : Bool := !inI v r.typ
def badX (r : Rec) : Bool := !zBN r
def hasT (l : List Rec) (n : Int) : Bool := l.any (hasX n)
def onlyT (l : List Rec) (v : List Int) : Bool := !l.any (onlX v)

noncomputable def FIxI := mkF (fun s : (List Int) × Int => [zCP s.1, .it .i64 s.2]) (fun s => s.1.length ≤ 1000000) (fun s => Res.flat (.it .i64 (zBX (fun y => decide (s.2 = y)) s.1)))
theorem yF0 {v : List Int} {n1 : Int} (hp : v.length ≤ 1000000) : FIxI [zCP v, .it .i64 n1] = some (Res.flat (.it .i64 (zBX (fun y => decide (n1 = y)) v))) := mkFe (s := (v, n1)) hp
theorem yA6 (cx : Cx) (hP : cx.P = Tryz.prog) (hbs : cx.bs = 0) (hk2 : cx.kp 2 = some [0, 1, 7, 8]) (v : List Int) (n1 : Int) (hl : v.length ≤ 1000000) : zAg cx Tryz.f166 [] false [zCP v, .it .i64 n1] = some (Res.flat (.it .i64 (zBX (fun y => decide (n1 = y)) v))) := by
 have hw : ∀ k : Nat, (k : Int) < v.length → IntKind.i64.wrap ((k : Int) + 1) = ((k + 1 : Nat) : Int) := zBF (by omega)
 refine zAf (rs := [.tmp 4]) rfl hbs rfl ?_
 repeat' first
   | (refine zAU (σ := Nat) (fun s2 => [zCP v, .it .i64 n1, .it .i64 v.length, .it .i64 s2]) (fun s2 => s2 ≤ v.length ∧ (v.take s2).any (fun y => decide (n1 = y)) = false) (fun s2 => v.length - s2) [0, 1, 7, 8] hbs (by exact hk2) (fun s2 => by simp only [zAp, refs, zAZ, zA0, zA5, tAo]) (fun s2 j2 => ?_) (s := 0) ?_ ?_)
   | (refine bN (fun h => ?_) fun h => ?_)
   | (refine zAI ?_ ?_)
   | simp only [↓cD, cU, cQ, cP, cB, zAD, unD, zAe, zAd, idx, reduceCtorEq, ↓reduceIte, ofV, ofC, zAq, Nat.reduceEqDiff, zAB, cG, implies_true, forall_const, immL, immD, Res.flat, ren, renL, Int.reduceEq, Int.reduceLT, Int.reduceLE, Int.reduceNe, deref, ldD, zAA, zAh, zAC, zAs, cC, ↓zAH, ↓zAL, ↓zAG, ↓zAK, ↓zAF, ↓zAJ, cV, cT, cF, cW, borT, borM, zAl, Res.via, zAt, zAb, refsB, Nat.reduceLT, Nat.reduceSub, Nat.reduceLeDiff, Nat.reduceMul, Nat.reduceAdd, Int.reduceToNat, appK, zAr, zAc, borL, zAj, zAm, zAz, cO, List.replicate, zAx, ofHp, ixOf, hw, hP, *]
 all_goals first
   | rfl
   | omega
   | exact ⟨tAL _, rfl⟩
   | (refine ⟨_, rfl, ⟨by omega, by rw [zCR (by omega), j2.2, tBg]; exact decide_eq_false ‹_›⟩, by omega⟩)
   | (have hq : n1 = v[s2]! := ‹_›; have e := zFS (p := fun y => decide (n1 = y)) j2.2 (by omega) (decide_eq_true hq); simp only [hq] at e; rw [e])
   | (rw [zAS (by omega)] at j2; rw [zET j2.2])
noncomputable def FCoI := mkF (fun s : (List Int) × Int => [zCP s.1, .it .i64 s.2]) (fun s => s.1.length ≤ 1000000) (fun s => Res.flat (.bo (inI s.1 s.2)))
theorem yF5 {v : List Int} {n1 : Int} (hp : v.length ≤ 1000000) : FCoI [zCP v, .it .i64 n1] = some (Res.flat (.bo (inI v n1))) := mkFe (s := (v, n1)) hp
theorem yBf (cx : Cx) (hP : cx.P = Tryz.prog) (hbs : cx.bs = 0) (h166 : cx.orc 166 = some FIxI) (v : List Int) (n1 : Int) (hl : v.length ≤ 1000000) : zAg cx Tryz.f126 [] false [zCP v, .it .i64 n1] = some (Res.flat (.bo (inI v n1))) := by
 have c166 := zAa h166
 refine zAf (rs := [.tmp 4]) rfl hbs rfl ?_
 repeat' first
   | (refine bN (fun h => ?_) fun h => ?_)
   | (refine zAI ?_ ?_)
   | simp only [↓cD, cU, cQ, cP, cB, zAD, unD, zAe, zAd, idx, reduceCtorEq, ↓reduceIte, ofV, ofC, zAq, Nat.reduceEqDiff, zAB, cG, implies_true, forall_const, immL, immD, Res.flat, ren, renL, Int.reduceEq, Int.reduceLT, Int.reduceLE, Int.reduceNe, deref, ldD, zAA, zAh, zAC, zAs, cC, c166, zAi, zAk, yF0, ↓zAH, ↓zAL, ↓zAG, ↓zAK, ↓zAF, ↓zAJ, cV, cT, cF, cW, borT, borM, zAl, Res.via, zAt, zAb, refsB, Nat.reduceLT, Nat.reduceSub, Nat.reduceLeDiff, Nat.reduceMul, Nat.reduceAdd, Int.reduceToNat, appK, zAr, zAc, borL, zAj, zAm, zAz, cO, List.replicate, zAx, ofHp, ixOf, zFT, hP, *]
 all_goals first
   | rfl
noncomputable def yAh := mkF (fun s : Rec × Int => [recE s.1, .elt [.it .i64 s.2]]) (fun s => True) (fun s => Res.flat (.bo (hasX s.2 s.1)))
theorem yAg {r1 : Rec} {n1 : Int} : yAh [recE r1, .elt [.it .i64 n1]] = some (Res.flat (.bo (hasX n1 r1))) := zBV (s := (r1, n1)) (fun s s' h => by simp only [cI, zCy, zDv, zCz, D.fn.injEq] at h; simp only [h]) trivial
theorem zTl (cx : Cx) (hP : cx.P = Tryz.prog) (hbs : cx.bs = 0) (r1 : Rec) (n1 : Int)  : zAg cx Tryz.f97 [] false [recE r1, .elt [.it .i64 n1]] = some (Res.flat (.bo (hasX n1 r1))) := by
 refine zAf (rs := [.tmp 3]) rfl hbs rfl ?_
 repeat' first
   | (refine bN (fun h => ?_) fun h => ?_)
   | (refine zAI ?_ ?_)
   | simp only [↓cD, cU, cQ, cP, cB, zAD, unD, zAe, zAd, idx, reduceCtorEq, ↓reduceIte, ofV, ofC, zAq, Nat.reduceEqDiff, zAB, cG, implies_true, forall_const, immL, immD, Res.flat, ren, renL, Int.reduceEq, Int.reduceLT, Int.reduceLE, Int.reduceNe, deref, ldD, zAA, zAh, zAC, zAs, cC, ↓zAH, ↓zAL, ↓zAG, ↓zAK, ↓zAF, ↓zAJ, cV, cT, cF, cW, borT, borM, zAl, Res.via, zAt, zAb, refsB, Nat.reduceLT, Nat.reduceSub, Nat.reduceLeDiff, Nat.reduceMul, Nat.reduceAdd, Int.reduceToNat, appK, zAr, zAc, borL, zAj, zAm, zAz, cO, List.replicate, zAx, ofHp, ixOf, hP, *]
 all_goals first
   | rfl
noncomputable def zZ5 := mkF (fun s : Rec × (List Int) => [recE s.1, .elt [zCP s.2]]) (fun s => s.2.length ≤ 1000000) (fun s => Res.flat (.bo (onlX s.2 s.1)))
theorem zZ4 {r1 : Rec} {v : List Int} (hp : v.length ≤ 1000000) : zZ5 [recE r1, .elt [zCP v]] = some (Res.flat (.bo (onlX v r1))) := zBV (s := (r1, v)) (fun s s' h => by simp only [cI, zCy, zDv, zCz, D.fn.injEq] at h; simp only [h]) hp
theorem zS4 (cx : Cx) (hP : cx.P = Tryz.prog) (hbs : cx.bs = 0) (h126 : cx.orc 126 = some FCoI) (r1 : Rec) (v : List Int) (hl : v.length ≤ 1000000) : zAg cx Tryz.f125 [] false [recE r1, .elt [zCP v]] = some (Res.flat (.bo (onlX v r1))) := by
 have c126 := zAa h126
 refine zAf (rs := [.tmp 3]) rfl hbs rfl ?_
 repeat' first
   | (refine bN (fun h => ?_) fun h => ?_)
   | (refine zAI ?_ ?_)
   | simp only [↓cD, cU, cQ, cP, cB, zAD, unD, zAe, zAd, idx, reduceCtorEq, ↓reduceIte, ofV, ofC, zAq, Nat.reduceEqDiff, zAB, cG, implies_true, forall_const, immL, immD, Res.flat, ren, renL, Int.reduceEq, Int.reduceLT, Int.reduceLE, Int.reduceNe, deref, ldD, zAA, zAh, zAC, zAs, cC, c126, zAi, zAk, yF5, ↓zAH, ↓zAL, ↓zAG, ↓zAK, ↓zAF, ↓zAJ, cV, cT, cF, cW, borT, borM, zAl, Res.via, zAt, zAb, refsB, Nat.reduceLT, Nat.reduceSub, Nat.reduceLeDiff, Nat.reduceMul, Nat.reduceAdd, Int.reduceToNat, appK, zAr, zAc, borL, zAj, zAm, zAz, cO, List.replicate, zAx, ofHp, ixOf, hP, *]
 all_goals first
   | rfl
noncomputable def yAr := mkF (fun s : Rec => [recE s]) (fun s => RSm s) (fun s => Res.flat (.bo (badX s)))
theorem yAq {r1 : Rec} (hp : RSm r1) : yAr [recE r1] = some (Res.flat (.bo (badX r1))) := mkFe (s := (r1)) hp
theorem zTw (cx : Cx) (hP : cx.P = Tryz.prog) (hbs : cx.bs = 0) (h46 : cx.orc 46 = some FVR) (r1 : Rec) (hl : RSm r1) : zAg cx Tryz.f45 [] false [recE r1] = some (Res.flat (.bo (badX r1))) := by
 have c46 := zAa h46
 refine zAf (rs := [.tmp 2]) rfl hbs rfl ?_
 repeat' first
   | (refine bN (fun h => ?_) fun h => ?_)
   | (refine zAI ?_ ?_)
   | simp only [↓cD, cU, cQ, cP, cB, zAD, unD, zAe, zAd, idx, reduceCtorEq, ↓reduceIte, ofV, ofC, zAq, Nat.reduceEqDiff, zAB, cG, implies_true, forall_const, immL, immD, Res.flat, ren, renL, Int.reduceEq, Int.reduceLT, Int.reduceLE, Int.reduceNe, deref, ldD, zAA, zAh, zAC, zAs, cC, c46, zAi, zAk, zMe, ↓zAH, ↓zAL, ↓zAG, ↓zAK, ↓zAF, ↓zAJ, cV, cT, cF, cW, borT, borM, zAl, Res.via, zAt, zAb, refsB, Nat.reduceLT, Nat.reduceSub, Nat.reduceLeDiff, Nat.reduceMul, Nat.reduceAdd, Int.reduceToNat, appK, zAr, zAc, borL, zAj, zAm, zAz, cO, List.replicate, zAx, ofHp, ixOf, hP, *]
 all_goals first
   | rfl
noncomputable def zZ0 := mkF (fun s : Rec × Zone => [recE s.1, .elt (zBQ s.2)]) (fun s => True) (fun s => Res.flat (.bo (soaX s.2 s.1)))
theorem zZZ {r1 : Rec} {z : Zone} : zZ0 [recE r1, .elt (zBQ z)] = some (Res.flat (.bo (soaX z r1))) := zBV (s := (r1, z)) (fun s s' h => by simp only [cI, zCy, zDv, zCz, D.fn.injEq] at h; simp only [h]) trivial
theorem zSX (cx : Cx) (hP : cx.P = Tryz.prog) (hbs : cx.bs = 0) (r1 : Rec) (z : Zone)  : zAg cx Tryz.f98 [] false [recE r1, .elt (zBQ z)] = some (Res.flat (.bo (soaX z r1))) := by
 refine zAf (rs := [.tmp 3]) rfl hbs rfl ?_
 repeat' first
   | (refine bN (fun h => ?_) fun h => ?_)
   | (refine zAI ?_ ?_)
   | simp only [↓cD, cU, cQ, cP, cB, zAD, unD, zAe, zAd, idx, reduceCtorEq, ↓reduceIte, ofV, ofC, zAq, Nat.reduceEqDiff, zAB, cG, implies_true, forall_const, immL, immD, Res.flat, ren, renL, Int.reduceEq, Int.reduceLT, Int.reduceLE, Int.reduceNe, deref, ldD, zAA, zAh, zAC, zAs, cC, ↓zAH, ↓zAL, ↓zAG, ↓zAK, ↓zAF, ↓zAJ, cV, cT, cF, cW, borT, borM, zAl, Res.via, zAt, zAb, refsB, Nat.reduceLT, Nat.reduceSub, Nat.reduceLeDiff, Nat.reduceMul, Nat.reduceAdd, Int.reduceToNat, appK, zAr, zAc, borL, zAj, zAm, zAz, cO, List.replicate, zAx, ofHp, ixOf, hP, *]
 all_goals first
   | rfl
   | (simp only [soaX, *, if_true, if_false]; done)
noncomputable def zQm := mkF (fun s : (List Rec) × Int => [zAn s.1, .fn (.func 97) [] [.elt [.it .i64 s.2]]]) (fun s => s.1.length ≤ 1000000) (fun s => Res.flat (.it .i64 (zBX (hasX s.2) s.1)))
theorem zWU {a : List Rec} {n1 : Int} (hp : a.length ≤ 1000000) : zQm [zAn a, .fn (.func 97) [] [.elt [.it .i64 n1]]] = some (Res.flat (.it .i64 (zBX (hasX n1) a))) := zBV (s := (a, n1)) (fun s s' h => by simp only [cI, zCy, zDv, zCz, D.fn.injEq] at h; simp only [h]) hp
theorem zOE (cx : Cx) (hP : cx.P = Tryz.prog) (hbs : cx.bs = 0) (h97 : cx.orc 97 = some yAh) (hk2 : cx.kp 2 = some [0, 1, 7, 8]) (a : List Rec) (n1 : Int) (hl : a.length ≤ 1000000) : zAg cx Tryz.f87 [] false [zAn a, .fn (.func 97) [] [.elt [.it .i64 n1]]] = some (Res.flat (.it .i64 (zBX (hasX n1) a))) := by
 have c97 := zAa h97
 have hl0 : a.length ≤ 1000000 := hl
 have hl2 := hl
 have hw : ∀ k : Nat, (k : Int) < a.length → IntKind.i64.wrap ((k : Int) + 1) = ((k + 1 : Nat) : Int) := zBF (by omega)
 have hs : True := trivial
 refine zAf (rs := [.tmp 4]) rfl hbs rfl ?_
 repeat' first
   | (refine zAU (σ := Nat) (fun s2 => [zAn a, .fn (.func 97) [] [.elt [.it .i64 n1]], .it .i64 a.length, .it .i64 s2]) (fun s2 => s2 ≤ a.length ∧ (a.take s2).any (hasX n1) = false) (fun s2 => a.length - s2) [0, 1, 7, 8] hbs (by exact hk2) (fun s2 => by simp only [zAp, refs, zAZ, zA0, zA5, tAo]) (fun s2 j2 => ?_) (s := 0) ?_ ?_)
   | (refine bN (fun h => ?_) fun h => ?_)
   | (refine zAI ?_ ?_)
   | simp only [↓cD, cU, cQ, cP, cB, zAD, unD, zAe, zAd, idx, reduceCtorEq, ↓reduceIte, ofV, ofC, zAq, Nat.reduceEqDiff, zAB, cG, implies_true, forall_const, immL, immD, Res.flat, ren, renL, Int.reduceEq, Int.reduceLT, Int.reduceLE, Int.reduceNe, deref, ldD, zAA, zAh, zAC, zAs, cC, c97, zAi, zAk, yAg, ↓zAH, ↓zAL, ↓zAG, ↓zAK, ↓zAF, ↓zAJ, cV, cT, cF, cW, borT, borM, zAl, Res.via, zAt, zAb, refsB, Nat.reduceLT, Nat.reduceSub, Nat.reduceLeDiff, Nat.reduceMul, Nat.reduceAdd, Int.reduceToNat, appK, zAr, zAc, borL, zAj, zAm, zAz, cO, List.replicate, zAx, ofHp, ixOf, hw, hl2, hs, hP, *]
 all_goals first
   | rfl
   | omega
   | exact ⟨tAL _, rfl⟩
   | (refine ⟨_, rfl, ⟨by omega, by rw [zCR (by omega), j2.2, tBg]; exact ‹_›⟩, by omega⟩)
   | (rw [zFS j2.2 (by omega) ‹_›])
   | (rw [zAS (by omega)] at j2; rw [zET j2.2])
noncomputable def zQu := mkF (fun s : (List Rec) × Int => [zAn s.1, .fn (.func 97) [] [.elt [.it .i64 s.2]]]) (fun s => s.1.length ≤ 1000000) (fun s => Res.flat (.bo (s.1.any (hasX s.2))))
theorem zW3 {a : List Rec} {n1 : Int} (hp : a.length ≤ 1000000) : zQu [zAn a, .fn (.func 97) [] [.elt [.it .i64 n1]]] = some (Res.flat (.bo (a.any (hasX n1)))) := zBV (s := (a, n1)) (fun s s' h => by simp only [cI, zCy, zDv, zCz, D.fn.injEq] at h; simp only [h]) hp
theorem zOK (cx : Cx) (hP : cx.P = Tryz.prog) (hbs : cx.bs = 0) (h87 : cx.orc 87 = some zQm) (a : List Rec) (n1 : Int) (hl : a.length ≤ 1000000) : zAg cx Tryz.f44 [] false [zAn a, .fn (.func 97) [] [.elt [.it .i64 n1]]] = some (Res.flat (.bo (a.any (hasX n1)))) := by
 have c87 := zAa h87
 refine zAf (rs := [.tmp 4]) rfl hbs rfl ?_
 repeat' first
   | (refine bN (fun h => ?_) fun h => ?_)
   | (refine zAI ?_ ?_)
   | simp only [↓cD, cU, cQ, cP, cB, zAD, unD, zAe, zAd, idx, reduceCtorEq, ↓reduceIte, ofV, ofC, zAq, Nat.reduceEqDiff, zAB, cG, implies_true, forall_const, immL, immD, Res.flat, ren, renL, Int.reduceEq, Int.reduceLT, Int.reduceLE, Int.reduceNe, deref, ldD, zAA, zAh, zAC, zAs, cC, c87, zAi, zAk, zWU, ↓zAH, ↓zAL, ↓zAG, ↓zAK, ↓zAF, ↓zAJ, cV, cT, cF, cW, borT, borM, zAl, Res.via, zAt, zAb, refsB, Nat.reduceLT, Nat.reduceSub, Nat.reduceLeDiff, Nat.reduceMul, Nat.reduceAdd, Int.reduceToNat, appK, zAr, zAc, borL, zAj, zAm, zAz, cO, List.replicate, zAx, ofHp, ixOf, zE0, zDy, zEl, zE1, zEk, zCA, zC8, zDz, zCi, zCJ, zFT, hP, *]
 all_goals first
   | rfl
noncomputable def zWZ := mkF (fun s : (List Rec) × Int => [zAn s.1, .it .i64 s.2]) (fun s => s.1.length ≤ 1000000) (fun s => Res.flat (.bo (hasT s.1 s.2)))
theorem zQq {a : List Rec} {n1 : Int} (hp : a.length ≤ 1000000) : zWZ [zAn a, .it .i64 n1] = some (Res.flat (.bo (hasT a n1))) := mkFe (s := (a, n1)) hp
theorem zTm (cx : Cx) (hP : cx.P = Tryz.prog) (hbs : cx.bs = 0) (h44 : cx.orc 44 = some zQu) (a : List Rec) (n1 : Int) (hl : a.length ≤ 1000000) : zAg cx Tryz.f52 [] false [zAn a, .it .i64 n1] = some (Res.flat (.bo (hasT a n1))) := by
 have c44 := zAa h44
 refine zAf (rs := [.tmp 4]) rfl hbs rfl ?_
 repeat' first
   | (refine bN (fun h => ?_) fun h => ?_)
   | (refine zAI ?_ ?_)
   | simp only [↓cD, cU, cQ, cP, cB, zAD, unD, zAe, zAd, idx, reduceCtorEq, ↓reduceIte, ofV, ofC, zAq, Nat.reduceEqDiff, zAB, cG, implies_true, forall_const, immL, immD, Res.flat, ren, renL, Int.reduceEq, Int.reduceLT, Int.reduceLE, Int.reduceNe, deref, ldD, zAA, zAh, zAC, zAs, cC, c44, zAi, zAk, zW3, ↓zAH, ↓zAL, ↓zAG, ↓zAK, ↓zAF, ↓zAJ, cV, cT, cF, cW, borT, borM, zAl, Res.via, zAt, zAb, refsB, Nat.reduceLT, Nat.reduceSub, Nat.reduceLeDiff, Nat.reduceMul, Nat.reduceAdd, Int.reduceToNat, appK, zAr, zAc, borL, zAj, zAm, zAz, cO, List.replicate, zAx, ofHp, ixOf, zE0, zDy, zEl, zE1, zEk, zCA, zC8, zDz, zCi, zCJ, hP, *]
 all_goals first
   | rfl
noncomputable def zQl := mkF (fun s : (List Rec) × (List Int) => [zAn s.1, .fn (.func 125) [] [.elt [zCP s.2]]]) (fun s => s.1.length ≤ 1000000 ∧ s.2.length ≤ 1000000) (fun s => Res.flat (.it .i64 (zBX (onlX s.2) s.1)))
theorem zWT {a : List Rec} {v : List Int} (hp : a.length ≤ 1000000 ∧ v.length ≤ 1000000) : zQl [zAn a, .fn (.func 125) [] [.elt [zCP v]]] = some (Res.flat (.it .i64 (zBX (onlX v) a))) := zBV (s := (a, v)) (fun s s' h => by simp only [cI, zCy, zDv, zCz, D.fn.injEq] at h; simp only [h]) hp
theorem zOD (cx : Cx) (hP : cx.P = Tryz.prog) (hbs : cx.bs = 0) (h125 : cx.orc 125 = some zZ5) (hk2 : cx.kp 2 = some [0, 1, 7, 8]) (a : List Rec) (v : List Int) (hl : a.length ≤ 1000000 ∧ v.length ≤ 1000000) : zAg cx Tryz.f87 [] false [zAn a, .fn (.func 125) [] [.elt [zCP v]]] = some (Res.flat (.it .i64 (zBX (onlX v) a))) := by
 have c125 := zAa h125
 have hl0 : a.length ≤ 1000000 := hl.1
 have hl2 := hl.2
 have hw : ∀ k : Nat, (k : Int) < a.length → IntKind.i64.wrap ((k : Int) + 1) = ((k + 1 : Nat) : Int) := zBF (by omega)
 have hs : True := trivial
 refine zAf (rs := [.tmp 4]) rfl hbs rfl ?_
 repeat' first
   | (refine zAU (σ := Nat) (fun s2 => [zAn a, .fn (.func 125) [] [.elt [zCP v]], .it .i64 a.length, .it .i64 s2]) (fun s2 => s2 ≤ a.length ∧ (a.take s2).any (onlX v) = false) (fun s2 => a.length - s2) [0, 1, 7, 8] hbs (by exact hk2) (fun s2 => by simp only [zAp, refs, zAZ, zA0, zA5, tAo]) (fun s2 j2 => ?_) (s := 0) ?_ ?_)
   | (refine bN (fun h => ?_) fun h => ?_)
   | (refine zAI ?_ ?_)
   | simp only [↓cD, cU, cQ, cP, cB, zAD, unD, zAe, zAd, idx, reduceCtorEq, ↓reduceIte, ofV, ofC, zAq, Nat.reduceEqDiff, zAB, cG, implies_true, forall_const, immL, immD, Res.flat, ren, renL, Int.reduceEq, Int.reduceLT, Int.reduceLE, Int.reduceNe, deref, ldD, zAA, zAh, zAC, zAs, cC, c125, zAi, zAk, zZ4, ↓zAH, ↓zAL, ↓zAG, ↓zAK, ↓zAF, ↓zAJ, cV, cT, cF, cW, borT, borM, zAl, Res.via, zAt, zAb, refsB, Nat.reduceLT, Nat.reduceSub, Nat.reduceLeDiff, Nat.reduceMul, Nat.reduceAdd, Int.reduceToNat, appK, zAr, zAc, borL, zAj, zAm, zAz, cO, List.replicate, zAx, ofHp, ixOf, hw, hl2, hs, hP, *]
 all_goals first
   | rfl
   | omega
   | exact ⟨tAL _, rfl⟩
   | (refine ⟨_, rfl, ⟨by omega, by rw [zCR (by omega), j2.2, tBg]; exact ‹_›⟩, by omega⟩)
   | (rw [zFS j2.2 (by omega) ‹_›])
   | (rw [zAS (by omega)] at j2; rw [zET j2.2])
noncomputable def zQt := mkF (fun s : (List Rec) × (List Int) => [zAn s.1, .fn (.func 125) [] [.elt [zCP s.2]]]) (fun s => s.1.length ≤ 1000000 ∧ s.2.length ≤ 1000000) (fun s => Res.flat (.bo (s.1.any (onlX s.2))))
theorem zW2 {a : List Rec} {v : List Int} (hp : a.length ≤ 1000000 ∧ v.length ≤ 1000000) : zQt [zAn a, .fn (.func 125) [] [.elt [zCP v]]] = some (Res.flat (.bo (a.any (onlX v)))) := zBV (s := (a, v)) (fun s s' h => by simp only [cI, zCy, zDv, zCz, D.fn.injEq] at h; simp only [h]) hp
theorem zOJ (cx : Cx) (hP : cx.P = Tryz.prog) (hbs : cx.bs = 0) (h87 : cx.orc 87 = some zQl) (a : List Rec) (v : List Int) (hl : a.length ≤ 1000000 ∧ v.length ≤ 1000000) : zAg cx Tryz.f44 [] false [zAn a, .fn (.func 125) [] [.elt [zCP v]]] = some (Res.flat (.bo (a.any (onlX v)))) := by
 have c87 := zAa h87
 refine zAf (rs := [.tmp 4]) rfl hbs rfl ?_
 repeat' first
   | (refine bN (fun h => ?_) fun h => ?_)
   | (refine zAI ?_ ?_)
   | simp only [↓cD, cU, cQ, cP, cB, zAD, unD, zAe, zAd, idx, reduceCtorEq, ↓reduceIte, ofV, ofC, zAq, Nat.reduceEqDiff, zAB, cG, implies_true, forall_const, immL, immD, Res.flat, ren, renL, Int.reduceEq, Int.reduceLT, Int.reduceLE, Int.reduceNe, deref, ldD, zAA, zAh, zAC, zAs, cC, c87, zAi, zAk, zWT, ↓zAH, ↓zAL, ↓zAG, ↓zAK, ↓zAF, ↓zAJ, cV, cT, cF, cW, borT, borM, zAl, Res.via, zAt, zAb, refsB, Nat.reduceLT, Nat.reduceSub, Nat.reduceLeDiff, Nat.reduceMul, Nat.reduceAdd, Int.reduceToNat, appK, zAr, zAc, borL, zAj, zAm, zAz, cO, List.replicate, zAx, ofHp, ixOf, zE0, zDy, zEl, zE1, zEk, zCA, zC8, zDz, zCi, zCJ, zFT, hP, *]
 all_goals first
   | rfl
noncomputable def zNO := mkF (fun s : (List Rec) × (List Int) => [zAn s.1, zCP s.2]) (fun s => s.1.length ≤ 1000000 ∧ s.2.length ≤ 1000000) (fun s => Res.flat (.bo (onlyT s.1 s.2)))
theorem zHr {a : List Rec} {v : List Int} (hp : a.length ≤ 1000000 ∧ v.length ≤ 1000000) : zNO [zAn a, zCP v] = some (Res.flat (.bo (onlyT a v))) := mkFe (s := (a, v)) hp
theorem zS5 (cx : Cx) (hP : cx.P = Tryz.prog) (hbs : cx.bs = 0) (h44 : cx.orc 44 = some zQt) (a : List Rec) (v : List Int) (hl : a.length ≤ 1000000 ∧ v.length ≤ 1000000) : zAg cx Tryz.f96 [] false [zAn a, zCP v] = some (Res.flat (.bo (onlyT a v))) := by
 have c44 := zAa h44
 have hl1 := hl.1; have hl2 := hl.2
 refine zAf (rs := [.tmp 4]) rfl hbs rfl ?_
 repeat' first
   | (refine bN (fun h => ?_) fun h => ?_)
   | (refine zAI ?_ ?_)
   | simp only [↓cD, cU, cQ, cP, cB, zAD, unD, zAe, zAd, idx, reduceCtorEq, ↓reduceIte, ofV, ofC, zAq, Nat.reduceEqDiff, zAB, cG, implies_true, forall_const, immL, immD, Res.flat, ren, renL, Int.reduceEq, Int.reduceLT, Int.reduceLE, Int.reduceNe, deref, ldD, zAA, zAh, zAC, zAs, cC, c44, zAi, zAk, zW2, ↓zAH, ↓zAL, ↓zAG, ↓zAK, ↓zAF, ↓zAJ, cV, cT, cF, cW, borT, borM, zAl, Res.via, zAt, zAb, refsB, Nat.reduceLT, Nat.reduceSub, Nat.reduceLeDiff, Nat.reduceMul, Nat.reduceAdd, Int.reduceToNat, appK, zAr, zAc, borL, zAj, zAm, zAz, cO, List.replicate, zAx, ofHp, ixOf, zE0, zDy, zEl, zE1, zEk, zCA, zC8, zDz, zCi, zCJ, hl1, hl2, hP, *]
 all_goals first
   | rfl
noncomputable def zQn := mkF (fun s : (List Rec) => [zAn s, .fn (.func 45) [] []]) (fun s => LSm s) (fun s => Res.flat (.it .i64 (zBX (badX) s)))
theorem zWV {a : List Rec} (hp : LSm a) : zQn [zAn a, .fn (.func 45) [] []] = some (Res.flat (.it .i64 (zBX (badX) a))) := zBV (s := (a)) (fun s s' h => by simp only [cI, zCy, zDv, zCz, D.fn.injEq] at h; simp only [h]) hp
theorem zOF (cx : Cx) (hP : cx.P = Tryz.prog) (hbs : cx.bs = 0) (h45 : cx.orc 45 = some yAr) (hk2 : cx.kp 2 = some [0, 1, 7, 8]) (a : List Rec) (hl : LSm a) : zAg cx Tryz.f87 [] false [zAn a, .fn (.func 45) [] []] = some (Res.flat (.it .i64 (zBX (badX) a))) := by
 have c45 := zAa h45
 have hl0 : a.length ≤ 1000000 := hl.1
 have hl2 := hl
 have hw : ∀ k : Nat, (k : Int) < a.length → IntKind.i64.wrap ((k : Int) + 1) = ((k + 1 : Nat) : Int) := zBF (by omega)
 have hs : ∀ k : Nat, (k : Int) < a.length → RSm a[k]! := fun k h => hl.at h
 refine zAf (rs := [.tmp 4]) rfl hbs rfl ?_
 repeat' first
   | (refine zAU (σ := Nat) (fun s2 => [zAn a, .fn (.func 45) [] [], .it .i64 a.length, .it .i64 s2]) (fun s2 => s2 ≤ a.length ∧ (a.take s2).any (badX) = false) (fun s2 => a.length - s2) [0, 1, 7, 8] hbs (by exact hk2) (fun s2 => by simp only [zAp, refs, zAZ, zA0, zA5, tAo]) (fun s2 j2 => ?_) (s := 0) ?_ ?_)
   | (refine bN (fun h => ?_) fun h => ?_)
   | (refine zAI ?_ ?_)
   | simp only [↓cD, cU, cQ, cP, cB, zAD, unD, zAe, zAd, idx, reduceCtorEq, ↓reduceIte, ofV, ofC, zAq, Nat.reduceEqDiff, zAB, cG, implies_true, forall_const, immL, immD, Res.flat, ren, renL, Int.reduceEq, Int.reduceLT, Int.reduceLE, Int.reduceNe, deref, ldD, zAA, zAh, zAC, zAs, cC, c45, zAi, zAk, yAq, ↓zAH, ↓zAL, ↓zAG, ↓zAK, ↓zAF, ↓zAJ, cV, cT, cF, cW, borT, borM, zAl, Res.via, zAt, zAb, refsB, Nat.reduceLT, Nat.reduceSub, Nat.reduceLeDiff, Nat.reduceMul, Nat.reduceAdd, Int.reduceToNat, appK, zAr, zAc, borL, zAj, zAm, zAz, cO, List.replicate, zAx, ofHp, ixOf, hw, hl2, hs, hP, *]
 all_goals first
   | rfl
   | omega
   | exact ⟨tAL _, rfl⟩
   | (refine ⟨_, rfl, ⟨by omega, by rw [zCR (by omega), j2.2, tBg]; exact ‹_›⟩, by omega⟩)
   | (rw [zFS j2.2 (by omega) ‹_›])
   | (rw [zAS (by omega)] at j2; rw [zET j2.2])
noncomputable def zID := mkF (fun s : (List Rec) => [zAn s, .fn (.func 45) [] []]) (fun s => LSm s) (fun s => Res.flat (.bo (s.any (badX))))
theorem zMt {a : List Rec} (hp : LSm a) : zID [zAn a, .fn (.func 45) [] []] = some (Res.flat (.bo (a.any (badX)))) := zBV (s := (a)) (fun s s' h => by simp only [cI, zCy, zDv, zCz, D.fn.injEq] at h; simp only [h]) hp
theorem zOL (cx : Cx) (hP : cx.P = Tryz.prog) (hbs : cx.bs = 0) (h87 : cx.orc 87 = some zQn) (a : List Rec) (hl : LSm a) : zAg cx Tryz.f44 [] false [zAn a, .fn (.func 45) [] []] = some (Res.flat (.bo (a.any (badX)))) := by
 have c87 := zAa h87
 refine zAf (rs := [.tmp 4]) rfl hbs rfl ?_
 repeat' first
   | (refine bN (fun h => ?_) fun h => ?_)
   | (refine zAI ?_ ?_)
   | simp only [↓cD, cU, cQ, cP, cB, zAD, unD, zAe, zAd, idx, reduceCtorEq, ↓reduceIte, ofV, ofC, zAq, Nat.reduceEqDiff, zAB, cG, implies_true, forall_const, immL, immD, Res.flat, ren, renL, Int.reduceEq, Int.reduceLT, Int.reduceLE, Int.reduceNe, deref, ldD, zAA, zAh, zAC, zAs, cC, c87, zAi, zAk, zWV, ↓zAH, ↓zAL, ↓zAG, ↓zAK, ↓zAF, ↓zAJ, cV, cT, cF, cW, borT, borM, zAl, Res.via, zAt, zAb, refsB, Nat.reduceLT, Nat.reduceSub, Nat.reduceLeDiff, Nat.reduceMul, Nat.reduceAdd, Int.reduceToNat, appK, zAr, zAc, borL, zAj, zAm, zAz, cO, List.replicate, zAx, ofHp, ixOf, zE0, zDy, zEl, zE1, zEk, zCA, zC8, zDz, zCi, zCJ, zFT, hP, *]
 all_goals first
   | rfl
noncomputable def zQk := mkF (fun s : (List Rec) × Zone => [zAn s.1, .fn (.func 98) [] [.elt (zBQ s.2)]]) (fun s => s.1.length ≤ 1000000) (fun s => Res.flat (.it .i64 (zBX (soaX s.2) s.1)))
theorem zWS {a : List Rec} {z : Zone} (hp : a.length ≤ 1000000) : zQk [zAn a, .fn (.func 98) [] [.elt (zBQ z)]] = some (Res.flat (.it .i64 (zBX (soaX z) a))) := zBV (s := (a, z)) (fun s s' h => by simp only [cI, zCy, zDv, zCz, D.fn.injEq] at h; simp only [h]) hp
theorem zOC (cx : Cx) (hP : cx.P = Tryz.prog) (hbs : cx.bs = 0) (h98 : cx.orc 98 = some zZ0) (hk2 : cx.kp 2 = some [0, 1, 7, 8]) (a : List Rec) (z : Zone) (hl : a.length ≤ 1000000) : zAg cx Tryz.f87 [] false [zAn a, .fn (.func 98) [] [.elt (zBQ z)]] = some (Res.flat (.it .i64 (zBX (soaX z) a))) := by
 have c98 := zAa h98
 have hl0 : a.length ≤ 1000000 := hl
 have hl2 := hl
 have hw : ∀ k : Nat, (k : Int) < a.length → IntKind.i64.wrap ((k : Int) + 1) = ((k + 1 : Nat) : Int) := zBF (by omega)
 have hs : True := trivial
 refine zAf (rs := [.tmp 4]) rfl hbs rfl ?_
 repeat' first
   | (refine zAU (σ := Nat) (fun s2 => [zAn a, .fn (.func 98) [] [.elt (zBQ z)], .it .i64 a.length, .it .i64 s2]) (fun s2 => s2 ≤ a.length ∧ (a.take s2).any (soaX z) = false) (fun s2 => a.length - s2) [0, 1, 7, 8] hbs (by exact hk2) (fun s2 => by simp only [zAp, refs, zAZ, zA0, zA5, tAo]) (fun s2 j2 => ?_) (s := 0) ?_ ?_)
   | (refine bN (fun h => ?_) fun h => ?_)
   | (refine zAI ?_ ?_)
   | simp only [↓cD, cU, cQ, cP, cB, zAD, unD, zAe, zAd, idx, reduceCtorEq, ↓reduceIte, ofV, ofC, zAq, Nat.reduceEqDiff, zAB, cG, implies_true, forall_const, immL, immD, Res.flat, ren, renL, Int.reduceEq, Int.reduceLT, Int.reduceLE, Int.reduceNe, deref, ldD, zAA, zAh, zAC, zAs, cC, c98, zAi, zAk, zZZ, ↓zAH, ↓zAL, ↓zAG, ↓zAK, ↓zAF, ↓zAJ, cV, cT, cF, cW, borT, borM, zAl, Res.via, zAt, zAb, refsB, Nat.reduceLT, Nat.reduceSub, Nat.reduceLeDiff, Nat.reduceMul, Nat.reduceAdd, Int.reduceToNat, appK, zAr, zAc, borL, zAj, zAm, zAz, cO, List.replicate, zAx, ofHp, ixOf, hw, hl2, hs, hP, *]
 all_goals first
   | rfl
   | omega
   | exact ⟨tAL _, rfl⟩
   | (refine ⟨_, rfl, ⟨by omega, by rw [zCR (by omega), j2.2, tBg]; exact ‹_›⟩, by omega⟩)
   | (rw [zFS j2.2 (by omega) ‹_›])
   | (rw [zAS (by omega)] at j2; rw [zET j2.2])
noncomputable def FSix := mkF (fun s : Zone => [zAE s]) (fun s => s.recs.length ≤ 1000000) (fun s => Res.flat (.it .i64 (zBX (soaX s) s.recs)))
theorem yFS {z : Zone} (hp : z.recs.length ≤ 1000000) : FSix [zAE z] = some (Res.flat (.it .i64 (zBX (soaX z) z.recs))) := mkFe (s := (z)) hp
theorem yAW (cx : Cx) (hP : cx.P = Tryz.prog) (hbs : cx.bs = 0) (h87 : cx.orc 87 = some zQk) (z : Zone) (hl : z.recs.length ≤ 1000000) : zAg cx Tryz.f54 [] false [zAE z] = some (Res.flat (.it .i64 (zBX (soaX z) z.recs))) := by
 have c87 := zAa h87
 refine zAf (rs := [.tmp 2]) rfl hbs rfl ?_
 repeat' first
   | (refine bN (fun h => ?_) fun h => ?_)
   | (refine zAI ?_ ?_)
   | simp only [↓cD, cU, cQ, cP, cB, zAD, unD, zAe, zAd, idx, reduceCtorEq, ↓reduceIte, ofV, ofC, zAq, Nat.reduceEqDiff, zAB, cG, implies_true, forall_const, immL, immD, Res.flat, ren, renL, Int.reduceEq, Int.reduceLT, Int.reduceLE, Int.reduceNe, deref, ldD, zAA, zAh, zAC, zAs, cC, c87, zAi, zAk, zWS, ↓zAH, ↓zAL, ↓zAG, ↓zAK, ↓zAF, ↓zAJ, cV, cT, cF, cW, borT, borM, zAl, Res.via, zAt, zAb, refsB, Nat.reduceLT, Nat.reduceSub, Nat.reduceLeDiff, Nat.reduceMul, Nat.reduceAdd, Int.reduceToNat, appK, zAr, zAc, borL, zAj, zAm, zAz, cO, List.replicate, zAx, ofHp, ixOf, zE0, zDy, zEl, zE1, zEk, zCA, zC8, zDz, zCi, zCJ, hP, *]
 all_goals first
   | rfl
def zCg (z : Zone) : Int := if 0 ≤ zBX (soaX z) z.recs then (z.recs[(zBX (soaX z) z.recs).toNat]!).dat.a else 0
noncomputable def zWI := mkF (fun s : Zone => [zAE s]) (fun s => s.recs.length ≤ 1000000) (fun s => Res.flat (.it .i64 (zCg s)))
theorem zQb {z : Zone} (hp : z.recs.length ≤ 1000000) : zWI [zAE z] = some (Res.flat (.it .i64 (zCg z))) := mkFe (s := (z)) hp
theorem zSZ (cx : Cx) (hP : cx.P = Tryz.prog) (hbs : cx.bs = 0) (h54 : cx.orc 54 = some FSix) (z : Zone) (hl : z.recs.length ≤ 1000000) : zAg cx Tryz.f25 [] false [zAE z] = some (Res.flat (.it .i64 (zCg z))) := by
 have c54 := zAa h54
 have hix : 0 ≤ zBX (soaX z) z.recs → ∀ (H : Hp) (k : IntKind), zAP Tryz.prog H 22 (zAn z.recs) (.it k (zBX (soaX z) z.recs)) = some (.elt (recE z.recs[(zBX (soaX z) z.recs).toNat]!).cells) := fun h H k => by have h2 := zZa (p := soaX z) (l := z.recs); obtain ⟨j, hj⟩ := tBj h; rw [hj] at h2 ⊢; exact zG6 Tryz.underlying22 sz53 rfl (by omega)
 refine zAf (rs := [.tmp 2]) rfl hbs rfl ?_
 repeat' first
   | (refine bN (fun h => ?_) fun h => ?_)
   | (refine zAI ?_ ?_)
   | simp only [↓cD, cU, cQ, cP, cB, zAD, unD, zAe, zAd, idx, reduceCtorEq, ↓reduceIte, ofV, ofC, zAq, Nat.reduceEqDiff, zAB, cG, implies_true, forall_const, immL, immD, Res.flat, ren, renL, Int.reduceEq, Int.reduceLT, Int.reduceLE, Int.reduceNe, deref, ldD, zAA, zAh, zAC, zAs, cC, c54, zAi, zAk, yFS, ↓zAH, ↓zAL, ↓zAG, ↓zAK, ↓zAF, ↓zAJ, cV, cT, cF, cW, borT, borM, zAl, Res.via, zAt, zAb, refsB, Nat.reduceLT, Nat.reduceSub, Nat.reduceLeDiff, Nat.reduceMul, Nat.reduceAdd, Int.reduceToNat, appK, zAr, zAc, borL, zAj, zAm, zAz, cO, List.replicate, zAx, ofHp, ixOf, hix, hP, *]
 all_goals first
   | rfl
   | (rw [zCg, if_pos ‹_›])
   | (rw [zCg, if_neg ‹_›])
theorem zXJ : single 46 = false := by decide
def uniF : List Rec → Bool
 | a :: b :: r => if ¬ b.typ = a.typ then uniF (b :: r) else if single b.typ = true then false else if ¬ b.typ = 46 ∧ ¬ b.ttl = a.ttl then false else uniF (b :: r)
 | _ => true
theorem yAC {l : List Rec} {s : Nat} (h : ((s + 1 : Nat) : Int) < l.length) : uniF (l.drop s) = if ¬ l[s + 1]!.typ = l[s]!.typ then uniF (l.drop (s + 1)) else if single l[s + 1]!.typ = true then false else if ¬ l[s + 1]!.typ = 46 ∧ ¬ l[s + 1]!.ttl = l[s]!.ttl then false else uniF (l.drop (s + 1)) := by
 rw [drop_at (zs := l) (by omega), drop_at (zs := l) (i := s + 1) (by omega)]; rfl
theorem yCh {l : List Rec} {s : Nat} (h : ¬ ((s + 1 : Nat) : Int) < l.length) : uniF (l.drop s) = true := by
 by_cases h2 : s < l.length
 · rw [drop_at (zs := l) (by omega), zBE (zs := l) (i := s + 1) (by omega)]; rfl
 · rw [zBE (zs := l) (by omega)]; rfl

noncomputable def FUni := mkF (fun s : (List Rec) => [zAn s]) (fun s => s.length ≤ 1000000) (fun s => Res.flat (.bo (uniF s)))
theorem yFN {a : List Rec} (hp : a.length ≤ 1000000) : FUni [zAn a] = some (Res.flat (.bo (uniF a))) := mkFe (s := (a)) hp
theorem yAP (cx : Cx) (hP : cx.P = Tryz.prog) (hbs : cx.bs = 0) (h124 : cx.orc 124 = some zHq) (r124 : cx.rd.contains 124 = true) (hk2 : cx.kp 2 = some [0, 3]) (a : List Rec) (hl : a.length ≤ 1000000) : zAg cx Tryz.f95 [] false [zAn a] = some (Res.flat (.bo (uniF a))) := by
 have c124 := zAa h124
 have d124 := zAo r124 h124
 have hw : ∀ k : Nat, ((k + 1 : Nat) : Int) < a.length → IntKind.i64.wrap (((k + 1 : Nat) : Int) + 1) = ((k + 1 + 1 : Nat) : Int) := fun k h => by rw [wrap64 (by omega) (by omega)]; omega
 have hw1 : ∀ k : Nat, ((k + 1 : Nat) : Int) < a.length → IntKind.i64.wrap (((k + 1 : Nat) : Int) - 1) = (k : Int) := fun k h => by rw [wrap64 (by omega) (by omega)]; omega
 have hi1 : ∀ k : Nat, ((k + 1 : Nat) : Int) < a.length → (k : Int) < a.length := fun k h => by omega
 refine zAf (rs := [.tmp 2]) rfl hbs rfl ?_
 repeat' first
   | (refine zAU (σ := Nat) (fun s2 => [zAn a, .it .i64 ((s2 + 1 : Nat) : Int)]) (fun s2 => s2 ≤ a.length ∧ uniF (a.drop s2) = uniF a) (fun s2 => a.length - s2) [0, 3] hbs (by exact hk2) (fun s2 => by simp only [zAp, refs, zAZ, zA0, zA5, tAo]) (fun s2 j2 => ?_) (s := 0) ?_ ?_)
   | (refine bN (fun h => ?_) fun h => ?_)
   | (refine zAI ?_ ?_)
   | simp (config := { decide := true }) only [↓cD, cU, cQ, cP, cB, zAD, unD, zAe, zAd, idx, reduceCtorEq, ↓reduceIte, ofV, ofC, zAq, Nat.reduceEqDiff, zAB, cG, implies_true, forall_const, immL, immD, Res.flat, ren, renL, Int.reduceEq, Int.reduceLT, Int.reduceLE, Int.reduceNe, deref, ldD, zAA, zAh, zAC, zAs, cC, cS, refs, zAy, okId, tAs, tAq, Nat.reduceMul, Nat.reduceAdd, Nat.reduceLeDiff, zAp, c124, d124, zAi, zAk, zNM, ↓zAH, ↓zAL, ↓zAG, ↓zAK, ↓zAF, ↓zAJ, cV, cT, cF, cW, borT, borM, zAl, Res.via, zAt, zAb, refsB, Nat.reduceLT, Nat.reduceSub, Nat.reduceLeDiff, Nat.reduceMul, Nat.reduceAdd, Int.reduceToNat, appK, zAr, zAc, borL, zAj, zAm, zAz, cO, List.replicate, zAx, ofHp, ixOf, cS, refs, zAy, okId, tAs, tAq, Nat.reduceMul, Nat.reduceAdd, Nat.reduceLeDiff, zAp, hw, hw1, hi1, hP, *]
 all_goals first
   | rfl
   | omega
   | exact ⟨tAL _, rfl⟩
   | (have e := j2.2; rw [yAC (by omega)] at e; refine ⟨_, rfl, ⟨by omega, by rw [← e]; simp only [*, zXJ, if_false, if_true, tAf, not_true_eq_false, not_false_eq_true, false_and, and_false, and_true, true_and]⟩, by omega⟩)
   | (have e := j2.2; rw [yAC (by omega)] at e; rw [← e]; simp only [*, if_true, if_false, not_true_eq_false, not_false_eq_true, and_self, tAf]; done)
   | (have e := j2.2; rw [yCh (by omega)] at e; rw [← e])
abbrev zHQ (g : List Rec) : D := .vec 16 true (g.map recE)
def grpS (l : List Rec) : Nat → Nat × List (List Rec)
 | 0 => (0, [])
 | i + 1 => if i + 1 = l.length ∨ ¬ l[i + 1]!.name = l[i]!.name then (i + 1, (grpS l i).2 ++ [(l.take (i + 1)).drop (grpS l i).1]) else grpS l i
def grpR (l : List Rec) : List (List Rec) := (grpS l l.length).2
theorem zM9 (l : List Rec) : ∀ i, (grpS l i).1 ≤ i
 | 0 => tAl _
 | i + 1 => by
   have := zM9 l i
   unfold grpS; split
   · exact tAl _
   · omega
theorem zJS (l : List Rec) : ∀ i, (grpS l i).2.length ≤ i
 | 0 => tAl _
 | i + 1 => by
   have := zJS l i
   unfold grpS; split
   · simp only [tAh, tAp, tAu]; omega
   · omega
theorem zG9 {l : List Rec} {i : Nat} (h : i + 1 = l.length ∨ ¬ l[i + 1]!.name = l[i]!.name) : grpS l (i + 1) = (i + 1, (grpS l i).2 ++ [(l.take (i + 1)).drop (grpS l i).1]) := by rw [grpS, if_pos h]
theorem zU7 {l : List Rec} {i : Nat} (h : ¬ i + 1 = l.length) (h2 : l[i + 1]!.name = l[i]!.name) : grpS l (i + 1) = grpS l i := by rw [grpS, if_neg (by rintro (e | e); exact h e; exact e h2)]
theorem zJV {α : Type} (E : α → D) (hE : ∀ g, (E g).cells = [E g]) : ∀ gs : List α, flat (gs.map E) = gs.map E
 | [] => rfl
 | g :: r => by
   have ih := zJV E hE r
   unfold flat at ih ⊢
   rw [tAO, tBe, hE, ih]; rfl
theorem zLj {M : Mem} {A : Nat → Prop} {H : Hp} {μ : Mu} {gs : List (List Rec)} {v : Value} (h : VR M (Leaf A H μ) (vecE 1 zHQ gs) v) : VR M (Leaf A H μ) (vecE 1 zAn gs) v := by
 cases h with
 | leaf h => exact absurd h (by simp [Leaf, vecE])
 | imm h =>
   refine .imm ?_
   have f1 := zJV zHQ (fun g => rfl) gs
   have f2 := zJV zAn (fun g => rfl) gs
   unfold vecE at h ⊢
   generalize hx : gs.map zHQ = X at h
   cases h with
   | vec _ _ _ a c hc hcl hz hs us hm h1 hv =>
     subst hx
     have el : (gs.map zHQ).length = (gs.map zAn).length := by simp
     rw [el] at hc ⊢
     refine .vec 1 false _ a c hc (fun h => by cases h) (fun e he => ?_) hs us (fun hne => ?_) (fun k hk => ?_) (fun k d hd => ?_)
     · obtain ⟨g, _, rfl⟩ := tBk.1 he; rfl
     · obtain ⟨ad, e1, e2⟩ := hm (fun e => hne (by simpa using e))
       exact ⟨ad, e1, fun k hk => e2 k (by rw [f2] at hk; rw [f1]; simpa using hk)⟩
     · exact h1 k (by rw [f2] at hk; rw [f1]; simpa using hk)
     · rw [f2, tAE, tAe] at hd
       obtain ⟨g, hg, rfl⟩ := hd
       have h3 := hv k (zHQ g) (by rw [f1, tAE, hg]; rfl)
       generalize us k = u at h3 ⊢
       cases h3 with
       | vec _ _ _ a c hc hcl hz hs us hm h1 hv => exact .vec 16 false _ a c hc (fun h => by cases h) hz hs us hm h1 hv
theorem PureOK.weakr {P : Program} {g : FuncId} {F G : List D → Option Res} (h : PureOK P g G) (hF : ∀ ds r', F ds = some r' → ∃ r, G ds = some r ∧ r.al = r'.al ∧ r.hs = r'.hs ∧ ∀ M A H μ v, VR M (Leaf A H μ) r.r v → VR M (Leaf A H μ) r'.r v) : PureOK P g F := by
 refine ⟨h.1, fun ds r' hr => ?_⟩
 obtain ⟨r, h1, h2, h3, h4⟩ := hF ds r' hr
 obtain ⟨k1, k2⟩ := h.2 ds r h1
 refine ⟨by rw [← h3]; exact k1, fun M w vs hmem hl hv => ?_⟩
 have k3 := k2 M w vs hmem hl hv
 rw [h2, h3] at k3
 refine k3.mono fun e w' ⟨v, Mr, μ, e1, e2, e3, e4, e5, e6⟩ => ⟨v, Mr, μ, e1, e2, e3, e4, e5, h4 _ _ _ _ _ e6⟩

noncomputable def FGrC := mkF (fun s : (List Rec) => [zAn s]) (fun s => s.length ≤ 1000000) (fun s => Res.via (vecE 1 zHQ (grpR s)))
theorem zW0 {a : List Rec} (hp : a.length ≤ 1000000) : FGrC [zAn a] = some (Res.via (vecE 1 zHQ (grpR a))) := mkFe (s := (a)) hp
noncomputable def FGr := mkF (fun s : (List Rec) => [zAn s]) (fun s => s.length ≤ 1000000) (fun s => Res.via (vecE 1 zAn (grpR s)))
theorem yJt {a : List Rec} (hp : a.length ≤ 1000000) : FGr [zAn a] = some (Res.via (vecE 1 zAn (grpR a))) := mkFe (s := (a)) hp
theorem yG9 (cx : Cx) (hP : cx.P = Tryz.prog) (hbs : cx.bs = 0) (hk4 : cx.kp 4 = some [0, 3, 4, 7, 8]) (a : List Rec) (hl : a.length ≤ 1000000) : zAg cx Tryz.f49 [] true [zAn a] = some (Res.via (vecE 1 zHQ (grpR a))) := by
 have hw : ∀ k : Nat, (k : Int) < a.length → IntKind.i64.wrap ((k : Int) + 1) = ((k + 1 : Nat) : Int) := zBF (by omega)
 have hieq : ∀ k : Nat, (((k + 1 : Nat) : Int) = (a.length : Int)) = (k + 1 = a.length) := fun k => by simp only [eq_iff_iff]; omega
 have hi1 : ∀ k : Nat, (k : Int) < a.length → ¬ k + 1 = a.length → ((k + 1 : Nat) : Int) < a.length := fun k h h2 => by omega
 have hsl : ∀ (H : Hp) (k : Nat), (k : Int) < a.length → zAW Tryz.prog H 22 (zAn a) (some (.it .i64 ((grpS a k).1 : Int))) (some (.it .i64 ((k + 1 : Nat) : Int))) (some (.it .i64 ((k + 1 : Nat) : Int))) = some (zHQ ((a.take (k + 1)).drop (grpS a k).1)) := fun H k h => zMR Tryz.underlying22 sz53 (by have := zM9 a k; omega) (by omega)
 have hsl2 : ∀ (H : Hp) (k : Nat), (k : Int) < a.length → k + 1 = a.length → zAW Tryz.prog H 22 (zAn a) (some (.it .i64 ((grpS a k).1 : Int))) (some (.it .i64 (a.length : Int))) (some (.it .i64 (a.length : Int))) = some (zHQ (a.drop (grpS a k).1)) := fun H k h h2 => by have := hsl H k h; rw [h2, tCa] at this; exact this
 refine zC2 (rs := [.tmp 2]) rfl hbs rfl ?_
 repeat' first
   | (refine zAv (σ := Nat) (fun s => [zAn a, .own 0 0 (grpS a s).2.length, .it .i64 ((grpS a s).1 : Int), .it .i64 a.length, .it .i64 s]) (fun s => [.row 1 true ((grpS a s).2.map zHQ)]) (fun s => s ≤ a.length) (fun s => a.length - s) [0, 3, 4, 7, 8] hbs (by exact hk4) (fr1 fun _ => zA2 (fun _ => rfl)) (fun s js => ?_) (s := 0) [1] ?_ ?_ ?_ ?_ ?_)
   | (refine bN (fun h => ?_) fun h => ?_)
   | (refine zAI ?_ ?_)
   | simp (config := { decide := true }) only [↓cD, cU, cQ, cP, cB, zAD, unD, zAe, zAd, idx, reduceCtorEq, ↓reduceIte, ofV, ofC, zAq, Nat.reduceEqDiff, zAB, cG, implies_true, forall_const, immL, immD, Res.flat, ren, renL, Int.reduceEq, Int.reduceLT, Int.reduceLE, Int.reduceNe, deref, ldD, zAA, zAh, zAC, zAs, cC, cS, refs, zAy, okId, tAs, tAq, Nat.reduceMul, Nat.reduceAdd, Nat.reduceLeDiff, zAp, ↓zAH, ↓zAL, ↓zAG, ↓zAK, ↓zAF, ↓zAJ, cV, cT, cF, cW, borT, borM, zAl, Res.via, zAt, zAb, refsB, Nat.reduceLT, Nat.reduceSub, Nat.reduceLeDiff, Nat.reduceMul, Nat.reduceAdd, Int.reduceToNat, appK, zAr, zAc, borL, zAj, zAm, zAz, cO, List.replicate, zAx, ofHp, ixOf, cS, refs, zAy, okId, tAs, tAq, Nat.reduceMul, Nat.reduceAdd, Nat.reduceLeDiff, zAp, hw, hi1, hsl, hsl2, hieq, hP, *]
 all_goals first
   | rfl
   | omega
   | (have h1 := zJS a s; first | omega | (constructor <;> omega))
   | (have e : (grpS a s).2 = grpR a := (by rw [show s = a.length by omega]; rfl); rw [e]; exact ⟨_, rfl, rfl⟩)
   | (have e := zG9 (l := a) (i := s) (.inr (beq_eq_false_iff_ne.1 ‹_›)); refine ⟨[1218], s + 1, ?_, ?_, ?_, ?_, by omega, by omega⟩ <;> (try rw [e]) <;> (try simp only [tAh, tAp, tAu, tAZ]) <;> (first | rfl | (simp only [zAp, refs, ren, cR, Nat.reduceEqDiff, ofHp, ixOf]; first | rfl | (simp; done))))
   | (have e := zU7 (l := a) (i := s) ‹_› (eq_of_beq ‹_›); refine ⟨[0], s + 1, ?_, ?_, ?_, ?_, by omega, by omega⟩ <;> (try rw [e]) <;> (first | rfl | (simp only [zAp, refs, ren, cR, Nat.reduceEqDiff, ofHp, ixOf]; first | rfl | (simp; done))))
   | (have hq : s + 1 = a.length := ‹_›; have e := zG9 (l := a) (i := s) (.inl hq); rw [hq, tCa] at e; refine ⟨[1218], a.length, ?_, ?_, ?_, ?_, by omega, by omega⟩ <;> (try rw [e]) <;> (try simp only [tAh, tAp, tAu, tAZ]) <;> (first | rfl | (simp only [zAp, refs, ren, cR, Nat.reduceEqDiff, ofHp, ixOf]; first | rfl | (simp; done))))
   | (first | rfl | (simp only [zAp, refs, ren, cR, Nat.reduceEqDiff, ofHp, ixOf]; first | rfl | (simp; done)))
def g0 (g : List Rec) : List UInt8 := g[0]!.name
def delB (o : List UInt8) (g : List Rec) : Bool := if g0 g = o then false else hasT g 2
def zC3 (o : List UInt8) (g : List Rec) (cut red : List UInt8) : Bool :=
 if underB (g0 g) o = false then false else if ¬ hasT g 6 = (g0 g == o) then false else if uniF g = false then false else
 if g0 g = o ∧ hasT g 2 = false then false else if hasT g 5 = true ∧ onlyT g [5, 46, 47] = false then false else if ¬ red = [] then false else
 if ¬ cut = [] ∧ onlyT g [1, 28] = false then false else if delB o g = true ∧ onlyT g [2, 43, 47, 46, 1, 28] = false then false else
 if delB o g = false ∧ hasT g 43 = true then false else if ¬ ((g0 g)[0]!.toNat : Int) = 42 then true else if hasT g 2 = true then false else !hasT g 39
structure PrP (o : List UInt8) (g : List Rec) (cut red : List UInt8) : Prop where
 ho : Sm o
 hg : g.length ≤ 1000000
 hg0 : 0 < g.length
 hn : Sm (g0 g)
 hn0 : 0 < (g0 g).length

noncomputable def FPrp := mkF (fun s : (List UInt8) × (List Rec) × (List UInt8) × (List UInt8) => [.st s.1, zAn s.2.1, .st s.2.2.1, .st s.2.2.2]) (fun s => PrP s.1 s.2.1 s.2.2.1 s.2.2.2) (fun s => Res.flat (.bo (zC3 s.1 s.2.1 s.2.2.1 s.2.2.2)))
theorem zWK {o : List UInt8} {g : List Rec} {cut : List UInt8} {red : List UInt8} (hp : PrP o g cut red) : FPrp [.st o, zAn g, .st cut, .st red] = some (Res.flat (.bo (zC3 o g cut red))) := mkFe (s := (o, g, cut, red)) hp
theorem yA0 (cx : Cx) (hP : cx.P = Tryz.prog) (hbs : cx.bs = 0) (h50 : cx.orc 50 = some zEm) (h52 : cx.orc 52 = some zWZ) (h95 : cx.orc 95 = some FUni) (h96 : cx.orc 96 = some zNO) (o : List UInt8) (g : List Rec) (cut red : List UInt8) (hl : PrP o g cut red) : zAg cx Tryz.f51 [] false [.st o, zAn g, .st cut, .st red] = some (Res.flat (.bo (zC3 o g cut red))) := by
 have c50 := zAa h50
 have c52 := zAa h52
 have c95 := zAa h95
 have c96 := zAa h96
 have hl1 := hl.ho; have hl2 := hl.hg; have hl3 := hl.hn; have hl4 : ((0 : Int) < (g.length : Int)) = True := by have := hl.hg0; simp only [eq_iff_iff, iff_true]; omega
 have hg0 : (g.map recE)[0]? = some (recE g[0]!) := getm (by have := hl.hg0; omega)
 have hix : ∀ (H : Hp), zAP Tryz.prog H 22 (zAn g) (.it .i64 0) = some (.elt (recE g[0]!).cells) := fun H => zG6 (i := 0) Tryz.underlying22 sz53 rfl (by have := hl.hg0; omega)
 have hn0 : g[0]!.name = g0 g := rfl
 have hx0 : zDL Tryz.prog 9 (.st (g0 g)) (.it .i64 0) = some (.it .u8 ((g0 g)[0]!.toNat : Int)) := ixs (i := 0) Tryz.underlying9 (by have := hl.hn0; omega)
 have hp0 : ((0 : Int) < ((g0 g).length : Int)) = True := by have := hl.hn0; simp only [eq_iff_iff, iff_true]; omega
 have ho0 : zNO [zAn g, .vec 1 false [.it .i64 5, .it .i64 46, .it .i64 47]] = some (Res.flat (.bo (onlyT g [5, 46, 47]))) := zHr (v := [5, 46, 47]) ⟨hl.hg, by decide⟩
 have ho1 : zNO [zAn g, .vec 1 false [.it .i64 1, .it .i64 28]] = some (Res.flat (.bo (onlyT g [1, 28]))) := zHr (v := [1, 28]) ⟨hl.hg, by decide⟩
 have ho2 : zNO [zAn g, .vec 1 false [.it .i64 2, .it .i64 43, .it .i64 47, .it .i64 46, .it .i64 1, .it .i64 28]] = some (Res.flat (.bo (onlyT g [2, 43, 47, 46, 1, 28]))) := zHr (v := [2, 43, 47, 46, 1, 28]) ⟨hl.hg, by decide⟩
 refine zAf (rs := [.tmp 8]) rfl hbs rfl ?_
 repeat' first
   | (refine bN (fun h => ?_) fun h => ?_)
   | (refine zAI ?_ ?_)
   | simp only [↓cD, cU, cQ, cP, cB, zAD, unD, zAe, zAd, idx, reduceCtorEq, ↓reduceIte, ofV, ofC, zAq, Nat.reduceEqDiff, zAB, cG, implies_true, forall_const, immL, immD, Res.flat, ren, renL, Int.reduceEq, Int.reduceLT, Int.reduceLE, Int.reduceNe, deref, ldD, zAA, zAh, zAC, zAs, cC, c50, c52, c95, c96, zAi, zAk, zDb, zQq, yFN, zHr, ↓zAH, ↓zAL, ↓zAG, ↓zAK, ↓zAF, ↓zAJ, cV, cT, cF, cW, borT, borM, zAl, Res.via, zAt, zAb, refsB, Nat.reduceLT, Nat.reduceSub, Nat.reduceLeDiff, Nat.reduceMul, Nat.reduceAdd, Int.reduceToNat, appK, zAr, zAc, borL, zAj, zAm, zAz, cO, List.replicate, zAx, ofHp, ixOf, ixs Tryz.underlying9, eqb4, zEq, hl1, hl2, hl3, hl4, hg0, hix, hn0, hp0, hx0, ho0, ho1, ho2, hP, *]
 all_goals first
   | rfl
   | (simp [zC3, delB, *]; done)
   | (simp_all [zC3, delB]; done)
def ZRw (z : Zone) : Prop := Sm z.origin ∧ Sm z.recs ∧ ∀ r ∈ z.recs, RSm r
theorem ZRw.l {z : Zone} (h : ZRw z) (hn : ¬ 2048 < (z.recs.length : Int)) : LSm z.recs := ⟨by omega, h.2.2⟩
theorem ZRw.z {z : Zone} (h : ZRw z) (hn : ¬ 2048 < (z.recs.length : Int)) : ZSm z := ⟨h.1, h.l hn⟩
theorem ZSm.rw {z : Zone} (h : ZSm z) : ZRw z := ⟨h.1, h.2.sm, h.2.2⟩
def DltRw (d : Delta) : Prop := Sm d.origin ∧ (Sm d.rem ∧ ∀ r ∈ d.rem, RSm r) ∧ Sm d.add ∧ ∀ r ∈ d.add, RSm r
theorem DltRw.r {d : Delta} (h : DltRw d) (hn : ¬ 2048 < (d.rem.length : Int)) : LSm d.rem := ⟨by omega, h.2.1.2⟩
theorem DltRw.a {d : Delta} (h : DltRw d) (hn : ¬ 2048 < (d.add.length : Int)) : LSm d.add := ⟨by omega, h.2.2.2⟩
def dlt0 : Delta := ⟨[], 0, 0, [], []⟩
def zQU (a b : Zone) : Bool := if (a.origin == b.origin) = false then false else eqL a.recs b.recs

noncomputable def zF7 := mkF (fun s : Zone => [zAE s]) (fun s => ZRw s ∧ 2048 < (s.recs.length : Int)) (fun s => Res.flat (.it .i64 (chkZ s)))
theorem zMw {z : Zone} (hp : ZRw z ∧ 2048 < (z.recs.length : Int)) : zF7 [zAE z] = some (Res.flat (.it .i64 (chkZ z))) := mkFe (s := (z)) hp
theorem zOO (cx : Cx) (hP : cx.P = Tryz.prog) (hbs : cx.bs = 0) (h59 : cx.orc 59 = some zF2) (h66 : cx.orc 66 = some zNR) (h67 : cx.orc 67 = some FVR) (h69 : cx.orc 69 = some zWG) (h68 : cx.orc 68 = some FEq) (h70 : cx.orc 70 = some FHas) (h71 : cx.orc 71 = some zEm) (h72 : cx.orc 72 = some FBes) (h73 : cx.orc 73 = some FPl) (r59 : cx.rd.contains 59 = true) (r66 : cx.rd.contains 66 = true) (r67 : cx.rd.contains 67 = true) (r69 : cx.rd.contains 69 = true) (r68 : cx.rd.contains 68 = true) (r70 : cx.rd.contains 70 = true) (r71 : cx.rd.contains 71 = true) (r72 : cx.rd.contains 72 = true) (r73 : cx.rd.contains 73 = true) (hk6 : cx.kp 6 = some [1, 3]) (hk11 : cx.kp 11 = some [1, 4]) (hk20 : cx.kp 20 = some [1, 5]) (z : Zone) (hl : ZRw z ∧ 2048 < (z.recs.length : Int)) : zAg cx Tryz.f33 [] false [zAE z] = some (Res.flat (.it .i64 (chkZ z))) := by
 have c59 := zAa h59
 have d59 := zAo r59 h59
 have c66 := zAa h66
 have d66 := zAo r66 h66
 have c67 := zAa h67
 have d67 := zAo r67 h67
 have c69 := zAa h69
 have d69 := zAo r69 h69
 have c68 := zAa h68
 have d68 := zAo r68 h68
 have c70 := zAa h70
 have d70 := zAo r70 h70
 have c71 := zAa h71
 have d71 := zAo r71 h71
 have c72 := zAa h72
 have d72 := zAo r72 h72
 have c73 := zAa h73
 have d73 := zAo r73 h73
 have hl1 := hl.1.1; have hl2 := hl.2
 refine zAf (rs := [.tmp 2]) rfl hbs rfl ?_
 repeat' first
   | (refine bN (fun h => ?_) fun h => ?_)
   | (refine zAI ?_ ?_)
   | simp (config := { decide := true }) only [↓cD, cU, cQ, cP, cB, zAD, unD, zAe, zAd, idx, reduceCtorEq, ↓reduceIte, ofV, ofC, zAq, Nat.reduceEqDiff, zAB, cG, implies_true, forall_const, immL, immD, Res.flat, ren, renL, Int.reduceEq, Int.reduceLT, Int.reduceLE, Int.reduceNe, deref, ldD, zAA, zAh, zAC, zAs, cC, cS, refs, zAy, okId, tAs, tAq, Nat.reduceMul, Nat.reduceAdd, Nat.reduceLeDiff, zAp, c59, c66, c67, c69, c68, c70, c71, c72, c73, d59, d66, d67, d69, d68, d70, d71, d72, d73, zAi, zAk, zDQ, zHt, zMe, zP7, zQr, zNQ, zDb, zW5, yBT, ↓zAH, ↓zAL, ↓zAG, ↓zAK, ↓zAF, ↓zAJ, cV, cT, cF, cW, borT, borM, zAl, Res.via, zAt, zAb, refsB, Nat.reduceLT, Nat.reduceSub, Nat.reduceLeDiff, Nat.reduceMul, Nat.reduceAdd, Int.reduceToNat, appK, zAr, zAc, borL, zAj, zAm, zAz, cO, List.replicate, zAx, ofHp, ixOf, cS, refs, zAy, okId, tAs, tAq, Nat.reduceMul, Nat.reduceAdd, Nat.reduceLeDiff, zAp, hl1, hl2, Res.row, Res.rowd, hP, *]
 all_goals first
   | rfl
   | (simp [chkZ, *]; done)
noncomputable def zMv := mkF (fun s : Zone => [zAE s]) (fun s => ZRw s) (fun s => Res.flat (.it .i64 (chkZ s)))
theorem zMu {z : Zone} (hp : ZRw z) : zMv [zAE z] = some (Res.flat (.it .i64 (chkZ z))) := mkFe (s := (z)) hp
noncomputable def FEqw := mkF (fun s : (List Rec) × (List Rec) => [zAn s.1, zAn s.2]) (fun s => Sm s.1) (fun s => Res.flat (.bo (eqL s.1 s.2)))
theorem zW1 {a : List Rec} {b : List Rec} (hp : Sm a) : FEqw [zAn a, zAn b] = some (Res.flat (.bo (eqL a b))) := mkFe (s := (a, b)) hp
theorem yBb (cx : Cx) (hP : cx.P = Tryz.prog) (hbs : cx.bs = 0) (hk4 : cx.kp 4 = some [0, 1, 5]) (a b : List Rec) (hl : Sm a) : zAg cx Tryz.f30 [] false [zAn a, zAn b] = some (Res.flat (.bo (eqL a b))) := by
 have hw : ∀ k : Nat, (k : Int) < a.length → IntKind.i64.wrap ((k : Int) + 1) = ((k + 1 : Nat) : Int) := zBF hl
 refine zAf (rs := [.tmp 4]) rfl hbs rfl ?_
 repeat' first
   | (refine zAU (σ := Nat) (fun s4 => [zAn a, zAn b, .it .i64 s4]) (fun s4 => s4 ≤ a.length ∧ (a.drop s4 = b.drop s4 ↔ a = b)) (fun s4 => a.length - s4) [0, 1, 5] hbs (by exact hk4) (fun s4 => by simp only [zAp, refs, zAZ, zA0, zA5, tAo]) (fun s4 j4 => ?_) (s := 0) ?_ ?_)
   | (refine bN (fun h => ?_) fun h => ?_)
   | (refine zAI ?_ ?_)
   | simp only [↓cD, cU, cQ, cP, cB, zAD, unD, zAe, zAd, idx, reduceCtorEq, ↓reduceIte, ofV, ofC, zAq, Nat.reduceEqDiff, zAB, cG, implies_true, forall_const, immL, immD, Res.flat, ren, renL, Int.reduceEq, Int.reduceLT, Int.reduceLE, Int.reduceNe, deref, ldD, zAA, zAh, zAC, zAs, cC, cS, refs, zAy, okId, tAs, tAq, Nat.reduceMul, Nat.reduceAdd, Nat.reduceLeDiff, zAp, ↓zAH, ↓zAL, ↓zAG, ↓zAK, ↓zAF, ↓zAJ, cV, cT, cF, cW, borT, borM, zAl, Res.via, zAt, zAb, refsB, Nat.reduceLT, Nat.reduceSub, Nat.reduceLeDiff, Nat.reduceMul, Nat.reduceAdd, Int.reduceToNat, appK, zAr, zAc, borL, zAj, zAm, zAz, cO, List.replicate, zAx, ofHp, ixOf, cS, refs, zAy, okId, tAs, tAq, Nat.reduceMul, Nat.reduceAdd, Nat.reduceLeDiff, zAp, hw, hP, *]
 all_goals (try simp only [eqL])
 all_goals first
   | rfl
   | exact ⟨tAL _, Iff.rfl⟩
   | (refine ⟨_, rfl, ⟨by omega, ?_⟩, by omega⟩; rw [zGz (by omega) (by omega)] at j4; simp only [*, true_and] at j4; exact j4.2)
   | omega
   | (have hne : a ≠ b := fun e => (by have hq := j4.2.2 e; rw [zGz (by omega) (by omega)] at hq; exact (‹¬ _› : ¬ a[s4]! = b[s4]!) hq.1); rw [decide_eq_false hne])
   | (rw [zBE (zs := a) (by omega), zBE (zs := b) (by omega)] at j4; simp [j4.2.1 rfl]; done)
   | (have hne : a ≠ b := fun e => (by subst e; omega); rw [decide_eq_false hne])
noncomputable def zEg := mkF (fun s : Zone × Zone => [zAE s.1, zAE s.2]) (fun s => Sm s.1.recs) (fun s => Res.flat (.bo (zQU s.1 s.2)))
theorem zCT {z : Zone} {z2 : Zone} (hp : Sm z.recs) : zEg [zAE z, zAE z2] = some (Res.flat (.bo (zQU z z2))) := mkFe (s := (z, z2)) hp
theorem zK0 (cx : Cx) (hP : cx.P = Tryz.prog) (hbs : cx.bs = 0) (h30 : cx.orc 30 = some FEqw) (z z2 : Zone) (hl : Sm z.recs) : zAg cx Tryz.f20 [] false [zAE z, zAE z2] = some (Res.flat (.bo (zQU z z2))) := by
 have c30 := zAa h30
 refine zAf (rs := [.tmp 4]) rfl hbs rfl ?_
 repeat' first
   | (refine bN (fun h => ?_) fun h => ?_)
   | (refine zAI ?_ ?_)
   | simp only [↓cD, cU, cQ, cP, cB, zAD, unD, zAe, zAd, idx, reduceCtorEq, ↓reduceIte, ofV, ofC, zAq, Nat.reduceEqDiff, zAB, cG, implies_true, forall_const, immL, immD, Res.flat, ren, renL, Int.reduceEq, Int.reduceLT, Int.reduceLE, Int.reduceNe, deref, ldD, zAA, zAh, zAC, zAs, cC, c30, zAi, zAk, zW1, ↓zAH, ↓zAL, ↓zAG, ↓zAK, ↓zAF, ↓zAJ, cV, cT, cF, cW, borT, borM, zAl, Res.via, zAt, zAb, refsB, Nat.reduceLT, Nat.reduceSub, Nat.reduceLeDiff, Nat.reduceMul, Nat.reduceAdd, Int.reduceToNat, appK, zAr, zAc, borL, zAj, zAm, zAz, cO, List.replicate, zAx, ofHp, ixOf, hl, hP, *]
 all_goals first
   | rfl
   | (simp [zQU, *]; done)
theorem LSm.dr {l : List Rec} (h : LSm l) : Sm l ∧ ∀ r ∈ l, RSm r := ⟨h.sm, h.2⟩
theorem zHl {a b c d : List Rec} (ha : LSm a) (hb : LSm b) (h1 : ¬ 2048 < (a.length : Int)) (h2 : ¬ 2048 < (b.length : Int)) : LSm (zAu a c) ∧ LSm (zAu b d) ∧ (zAu a c).length + (zAu b d).length ≤ 1000000 := by
 have c1 := zBj a c; have c2 := zBj b d
 exact ⟨ha.wo _, hb.wo _, by omega⟩
theorem yBc (cx : Cx) (hP : cx.P = Tryz.prog) (hbs : cx.bs = 0) (hk4 : cx.kp 4 = some [0, 1, 12, 13]) (a b : List Rec) (hl : a.length ≤ 1000000 ∧ b.length ≤ 1000000) : zAg cx Tryz.f47 [] false [zAn a, zAn b] = some (Res.flat (.bo (eqL a b))) := by
 have hw : ∀ k : Nat, (k : Int) < b.length → IntKind.i64.wrap ((k : Int) + 1) = ((k + 1 : Nat) : Int) := zBF (by omega)
 refine zAf (rs := [.tmp 4]) rfl hbs rfl ?_
 repeat' first
   | (refine zAU (σ := Nat) (fun s4 => [zAn a, zAn b, .it .i64 b.length, .it .i64 s4]) (fun s4 => s4 ≤ b.length ∧ (a.drop s4 = b.drop s4 ↔ a = b)) (fun s4 => b.length - s4) [0, 1, 12, 13] hbs (by exact hk4) (fun s4 => by simp only [zAp, refs, zAZ, zA0, zA5, tAo]) (fun s4 j4 => ?_) (s := 0) ?_ ?_)
   | (refine bN (fun h => ?_) fun h => ?_)
   | (refine zAI ?_ ?_)
   | simp only [↓cD, cU, cQ, cP, cB, zAD, unD, zAe, zAd, idx, reduceCtorEq, ↓reduceIte, ofV, ofC, zAq, Nat.reduceEqDiff, zAB, cG, implies_true, forall_const, immL, immD, Res.flat, ren, renL, Int.reduceEq, Int.reduceLT, Int.reduceLE, Int.reduceNe, deref, ldD, zAA, zAh, zAC, zAs, cC, cS, refs, zAy, okId, tAs, tAq, Nat.reduceMul, Nat.reduceAdd, Nat.reduceLeDiff, zAp, ↓zAH, ↓zAL, ↓zAG, ↓zAK, ↓zAF, ↓zAJ, cV, cT, cF, cW, borT, borM, zAl, Res.via, zAt, zAb, refsB, Nat.reduceLT, Nat.reduceSub, Nat.reduceLeDiff, Nat.reduceMul, Nat.reduceAdd, Int.reduceToNat, appK, zAr, zAc, borL, zAj, zAm, zAz, cO, List.replicate, zAx, ofHp, ixOf, cS, refs, zAy, okId, tAs, tAq, Nat.reduceMul, Nat.reduceAdd, Nat.reduceLeDiff, zAp, hw, hP, *]
 all_goals (try simp only [eqL])
 all_goals first
   | rfl
   | exact ⟨tAL _, Iff.rfl⟩
   | (refine ⟨_, rfl, ⟨by omega, ?_⟩, by omega⟩; rw [zGz (by omega) (by omega)] at j4; simp only [*, true_and] at j4; exact j4.2)
   | omega
   | (have hne : a ≠ b := fun e => (by have hq := j4.2.2 e; rw [zGz (by omega) (by omega)] at hq; exact (‹¬ _› : ¬ a[s4]! = b[s4]!) hq.1); rw [decide_eq_false hne])
   | (rw [zBE (zs := a) (by omega), zBE (zs := b) (by omega)] at j4; simp [j4.2.1 rfl]; done)
   | (have hne : a ≠ b := fun e => (by subst e; omega); rw [decide_eq_false hne])
def crwB (l : List Rec) : Bool := l.any fun x => decide (64 < ((zBA l x.name x.typ).length : Int))
abbrev Zs := List UInt8 × List UInt8 × Bool
def cutZ (c n : List UInt8) : List UInt8 := if c = [] then c else if underB n c = false then [] else c
def zEW (o : List UInt8) (q : Zs) (g : List Rec) : Option Zs :=
 if zC3 o g (cutZ q.1 (g0 g)) (cutZ q.2.1 (g0 g)) = false then none else
 some (if cutZ q.1 (g0 g) = [] ∧ ¬ g0 g = o ∧ hasT g 2 = true then g0 g else cutZ q.1 (g0 g), if hasT g 39 = true then g0 g else cutZ q.2.1 (g0 g), if q.2.2 = true then true else g0 g == o)
def zrun (o : List UInt8) : List (List Rec) → Option Zs := fun gs => gs.foldlM (zEW o) ([], [], false)
theorem zRZ {o : List UInt8} {gs : List (List Rec)} {i : Nat} (h : (i : Int) < gs.length) : zrun o (gs.take (i + 1)) = (zrun o (gs.take i)).bind fun q => zEW o q gs[i]! := by
 unfold zrun
 rw [takeN h, List.foldlM_append]
 cases (gs.take i).foldlM (zEW o) ([], [], false) with
 | none => rfl
 | some q => simp only [tBO, tAg, tB9, List.foldlM_nil]; cases zEW o q gs[i]! <;> rfl
theorem zH7 {o : List UInt8} : ∀ (l : List (List Rec)) (k : Nat) (q0 q : Zs), (l.take k).foldlM (zEW o) q0 = some q → ∀ (h : k < l.length), zEW o q l[k]! = none → l.foldlM (zEW o) q0 = none
 | [], k, q0, q, _, h, _ => by simp at h
 | g :: r, 0, q0, q, e, _, h2 => by
   simp only [tCb, List.foldlM_nil, Option.pure_def, tAb] at e
   subst e
   rw [tB9]
   have : (g :: r)[0]! = g := rfl
   rw [this] at h2; rw [h2]; rfl
 | g :: r, k + 1, q0, q, e, h, h2 => by
   rw [tBs, tB9] at e
   rw [tB9]
   cases hz : zEW o q0 g with
   | none => rfl
   | some q1 =>
     rw [hz] at e
     exact zH7 r k q1 q e (by simpa using h) (by simpa using h2)
theorem zR0 {o : List UInt8} {gs : List (List Rec)} {i : Nat} {q : Zs} (h : (i : Int) < gs.length) (e : zrun o (gs.take i) = some q) (h2 : zEW o q gs[i]! = none) : zrun o gs = none := zH7 gs i _ q e (by omega) h2
def chkP (z : Zone) : Int := if vName z.origin = false then 2 else if 2048 < (z.recs.length : Int) then 9 else if crwB z.recs = true then 9 else if z.recs.any badX = true then 5 else
 if eqL z.recs (zAV z.recs) = false then 7 else match zrun z.origin (grpR z.recs) with | none => 13 | some q => if q.2.2 = true then 0 else 13
theorem zIZ {l : List Rec} : ∀ i, ∀ g ∈ (grpS l i).2, i ≤ l.length → g ≠ [] ∧ ∀ x ∈ g, x ∈ l
 | 0, g, hg, _ => by simp [grpS] at hg
 | i + 1, g, hg, hi => by
   rw [grpS] at hg
   split at hg
   · simp only [tAz, tAy] at hg
     rcases hg with hg | rfl
     · exact zIZ i g hg (by omega)
     · have := zM9 l i
       refine ⟨tAQ (by rw [tAx, tAk]; omega), fun x hx => tAS (tA2 hx)⟩
   · exact zIZ i g hg (by omega)
theorem zFQ {l : List Rec} : ∀ i, ∀ g ∈ (grpS l i).2, g.length ≤ l.length
 | 0, g, hg => by simp [grpS] at hg
 | i + 1, g, hg => by
   rw [grpS] at hg
   split at hg
   · simp only [tAz, tAy] at hg
     rcases hg with hg | rfl
     · exact zFQ i g hg
     · rw [tAx, tAk]; omega
   · exact zFQ i g hg
theorem zLH {l : List Rec} {i : Nat} (h : (i : Int) < (grpR l).length) : (grpR l)[i]! ∈ grpR l := zBu h
theorem zXi {n : List UInt8} (h : vName n = true) : 0 < n.length := by
 cases n with
 | nil => simp [vName, labs] at h
 | cons a r => simp
theorem yEx {z : Zone} {i : Nat} {cut red : List UInt8} (hz : ZRw z) (hn : ¬ 2048 < (z.recs.length : Int)) (hv : z.recs.any badX = false) (h : (i : Int) < (grpR z.recs).length) : PrP z.origin (grpR z.recs)[i]! cut red := by
 have hg := zLH h
 obtain ⟨h1, h2⟩ := zIZ _ _ hg (tAl _)
 have h3 := zFQ _ _ hg
 have h4 : 0 < ((grpR z.recs)[i]!).length := tA4.2 h1
 have hm : ((grpR z.recs)[i]!)[0]! ∈ z.recs := h2 _ (zHa h4)
 refine ⟨hz.1, by omega, h4, (hz.2.2 _ hm).1, ?_⟩
 have h5 := tCj.1 hv _ hm
 simp only [badX, tAG, tCi] at h5
 unfold zBN at h5
 rw [tAd] at h5
 exact zXi h5.1

noncomputable def zMi := mkF (fun s : (List Rec) => [zAn s]) (fun s => LSm s) (fun s => Res.flat (zAn (zAV s)))
theorem zMh {a : List Rec} (hp : LSm a) : zMi [zAn a] = some (Res.flat (zAn (zAV a))) := mkFe (s := (a)) hp
noncomputable def FCrw := mkF (fun s : (List Rec) => [zAn s]) (fun s => s.length ≤ 2048) (fun s => Res.flat (.bo (crwB s)))
theorem yF3 {a : List Rec} (hp : a.length ≤ 2048) : FCrw [zAn a] = some (Res.flat (.bo (crwB a))) := mkFe (s := (a)) hp
noncomputable def zRX := mkF (fun s : Zone => [zAE s]) (fun s => ZRw s) (fun s => Res.flat (.it .i64 (chkP s)))
theorem zKD {z : Zone} (hp : ZRw z) : zRX [zAE z] = some (Res.flat (.it .i64 (chkP z))) := mkFe (s := (z)) hp
theorem zTv (cx : Cx) (hP : cx.P = Tryz.prog) (hbs : cx.bs = 0) (h42 : cx.orc 42 = some zEJ) (h43 : cx.orc 43 = some FCrw) (h44 : cx.orc 44 = some zID) (h48 : cx.orc 48 = some zMi) (h47 : cx.orc 47 = some FEq) (h49 : cx.orc 49 = some FGr) (h50 : cx.orc 50 = some zEm) (h51 : cx.orc 51 = some FPrp) (h52 : cx.orc 52 = some zWZ) (r42 : cx.rd.contains 42 = true) (r43 : cx.rd.contains 43 = true) (r44 : cx.rd.contains 44 = true) (r48 : cx.rd.contains 48 = true) (r47 : cx.rd.contains 47 = true) (r49 : cx.rd.contains 49 = true) (r50 : cx.rd.contains 50 = true) (r51 : cx.rd.contains 51 = true) (r52 : cx.rd.contains 52 = true) (hk12 : cx.kp 12 = some [1, 3, 4, 5, 34, 35, 36]) (z : Zone) (hl : ZRw z) : zAg cx Tryz.f23 [] false [zAE z] = some (Res.flat (.it .i64 (chkP z))) := by
 have c42 := zAa h42
 have d42 := zAo r42 h42
 have c43 := zAa h43
 have d43 := zAo r43 h43
 have c44 := zAa h44
 have d44 := zAo r44 h44
 have c48 := zAa h48
 have d48 := zAo r48 h48
 have c47 := zAa h47
 have d47 := zAo r47 h47
 have c49 := zAa h49
 have d49 := zAo r49 h49
 have c50 := zAa h50
 have d50 := zAo r50 h50
 have c51 := zAa h51
 have d51 := zAo r51 h51
 have c52 := zAa h52
 have d52 := zAo r52 h52
 have hl1 := hl.1
 have hl2 : ¬ 2048 < (z.recs.length : Int) → z.recs.length ≤ 2048 := fun h => by omega
 have hl3 : ¬ 2048 < (z.recs.length : Int) → z.recs.length ≤ 1000000 := fun h => by omega
 have hl4 : ¬ 2048 < (z.recs.length : Int) → (zAV z.recs).length ≤ 1000000 := fun h => by have := zHK z.recs; omega
 have hl5 : ¬ 2048 < (z.recs.length : Int) → LSm z.recs := fun h => hl.l h
 have hcb : ¬ 2048 < (z.recs.length : Int) → zID [zAn z.recs, .fn (.func 45) [] []] = some (Res.flat (.bo (z.recs.any badX))) := fun h => zMt (hl.l h)
 have hix : ∀ (H : Hp) (k : Nat), (k : Int) < (grpR z.recs).length → zAP Tryz.prog H 22 (zAn (grpR z.recs)[k]!) (.it .i64 0) = some (.elt (recE (grpR z.recs)[k]![0]!).cells) := fun H k h => zG6 (i := 0) Tryz.underlying22 sz53 rfl (by have := (zIZ _ _ (zLH h) (tAl _)).1; exact tA4.2 this)
 have hgn : ∀ k : Nat, (grpR z.recs)[k]![0]!.name = g0 (grpR z.recs)[k]! := fun k => rfl
 have hg0 : ¬ 2048 < (z.recs.length : Int) → ∀ k : Nat, (k : Int) < (grpR z.recs).length → Sm (g0 (grpR z.recs)[k]!) := fun h k hk => (hl.2.2 _ ((zIZ _ _ (zLH hk) (tAl _)).2 _ (zHa (tA4.2 (zIZ _ _ (zLH hk) (tAl _)).1)))).1
 have hpr : ¬ 2048 < (z.recs.length : Int) → z.recs.any badX = false → ∀ (k : Nat) (cut red : List UInt8), (k : Int) < (grpR z.recs).length → FPrp [.st z.origin, zAn (grpR z.recs)[k]!, .st cut, .st red] = some (Res.flat (.bo (zC3 z.origin (grpR z.recs)[k]! cut red))) := fun h h2 k cut red hk => zWK (yEx hl h h2 hk)
 have hhs : ¬ 2048 < (z.recs.length : Int) → ∀ k : Nat, (k : Int) < (grpR z.recs).length → (grpR z.recs)[k]!.length ≤ 1000000 := fun h k hk => by have := zFQ _ _ (zLH hk); omega
 have hu1 : True := trivial
 have hu2 : True := trivial
 have hw : ¬ 2048 < (z.recs.length : Int) → ∀ k : Nat, (k : Int) < (grpR z.recs).length → IntKind.i64.wrap ((k : Int) + 1) = ((k + 1 : Nat) : Int) := fun h k hk => by have := zJS z.recs z.recs.length; have e : (grpS z.recs z.recs.length).2 = (grpR z.recs) := rfl; rw [e] at this; rw [wrap64 (by omega) (by omega)]; omega
 refine zAf (rs := [.tmp 2]) rfl hbs rfl ?_
 repeat' first
   | (refine zAv (σ := Nat × Zs) (fun q => [.ptr 0 0, .st q.2.1, .st q.2.2.1, .bo q.2.2.2, vecE 1 zAn (grpR z.recs), .it .i64 (grpR z.recs).length, .it .i64 q.1]) (fun q => [.box (zBQ z)]) (fun q => q.1 ≤ (grpR z.recs).length ∧ Sm q.2.1 ∧ Sm q.2.2.1 ∧ zrun z.origin ((grpR z.recs).take q.1) = some q.2) (fun q => (grpR z.recs).length - q.1) [1, 3, 4, 5, 34, 35, 36] hbs (by exact hk12) (fr1 fun _ => zCC z) (fun q jq => ?_) (s := (0, [], [], false)) [0] ?_ ?_ ?_ ?_ ?_)
   | (refine bN (fun h => ?_) fun h => ?_)
   | (refine zAI ?_ ?_)
   | simp (config := { decide := true }) only [↓cD, cU, cQ, cP, cB, zAD, unD, zAe, zAd, idx, reduceCtorEq, ↓reduceIte, ofV, ofC, zAq, Nat.reduceEqDiff, zAB, cG, implies_true, forall_const, immL, immD, Res.flat, ren, renL, Int.reduceEq, Int.reduceLT, Int.reduceLE, Int.reduceNe, deref, ldD, zAA, zAh, zAC, zAs, cC, cS, refs, zAy, okId, tAs, tAq, Nat.reduceMul, Nat.reduceAdd, Nat.reduceLeDiff, zAp, c42, c43, c44, c48, c47, c49, c50, c51, c52, d42, d43, d44, d48, d47, d49, d50, d51, d52, zAi, zAk, zCG, yF3, zMt, zMh, zQr, yJt, zDb, zWK, zQq, ↓zAH, ↓zAL, ↓zAG, ↓zAK, ↓zAF, ↓zAJ, cV, cT, cF, cW, borT, borM, zAl, Res.via, zAt, zAb, refsB, Nat.reduceLT, Nat.reduceSub, Nat.reduceLeDiff, Nat.reduceMul, Nat.reduceAdd, Int.reduceToNat, appK, zAr, zAc, borL, zAj, zAm, zAz, cO, List.replicate, zAx, ofHp, ixOf, cS, refs, zAy, okId, tAs, tAq, Nat.reduceMul, Nat.reduceAdd, Nat.reduceLeDiff, zAp, hl1, hl2, hl3, hl4, hl5, hcb, hix, hgn, hg0, hpr, hhs, hu1, hu2, hw, cutZ, zE0, zDy, zEl, zE1, zEk, zCA, zC8, zDz, zCi, zCJ, hP, *]
 all_goals (first | rfl | (clear c42 c43 c44 c48 c47 c49 c50 c51 c52 d42 d43 d44 d48 d47 d49 d50 d51 d52) | skip)
 all_goals first
   | rfl
   | (simp [chkP, *]; done)
   | exact ⟨tAL _, rfl⟩
   | (have e := jq.2.2.2; rw [zAS (by omega)] at e; simp [chkP, *]; done)
   | (have e := zR0 (by omega) jq.2.2.2 (by clear hix hgn hg0 hpr hhs hw hcb hl2 hl3 hl4 hl5 hl1 hu1 hu2; simp_all [zEW, cutZ]); simp [chkP, *]; done)
   | (have s1 := jq.2.1; have s2 := jq.2.2.1; have s3 := hg0 (by omega) q.1 (by omega); have s4 := zRZ (o := z.origin) (gs := grpR z.recs) (i := q.1) (by omega); rw [jq.2.2.2, tAg] at s4; clear hix hgn hg0 hpr hhs hw hcb hl2 hl3 hl4 hl5 hl1 hu1 hu2; simp only [zEW, cutZ] at s4; obtain ⟨qi, qc, qr, qs⟩ := q; dsimp only at *; generalize hnm : g0 (grpR z.recs)[qi]! = nm at *; refine ⟨[0], (qi + 1, _, _, _), rfl, rfl, rfl, rfl, ⟨by omega, ?_, ?_, ?_⟩, by omega⟩ <;> dsimp only <;> first | omega | (simp; done) | (rw [s4]; simp_all; done))
theorem zGI {α : Type} {l p r : List α} {x : α} {i : Nat} (h : l = p ++ x :: r) (hi : p.length = i) : l[i]? = some x := by subst hi; subst h; simp
theorem zD4 {α : Type} {l p r : List α} {x y : α} {i : Nat} (h : l = p ++ x :: r) (hi : p.length = i) : l.set i y = p ++ y :: r := by subst hi; subst h; simp
theorem zB2 {l : List Rec} {k : Nat} (h : (k : Int) < l.length) : l.drop k = l[k]! :: l.drop (k + 1) := drop_at (zs := l) h
def swW (P A M B S : List Rec) (k : Nat) : List Rec := P ++ (B.take k ++ A.drop k) ++ M ++ (A.take k ++ B.drop k) ++ S
theorem yGz {P A M B S : List Rec} {k : Nat} (h : A.length = B.length) (hk : (k : Int) < A.length) : swW P A M B S k = (P ++ B.take k) ++ A[k]! :: (A.drop (k + 1) ++ M ++ (A.take k ++ B.drop k) ++ S) := by
 unfold swW; rw [zB2 hk]; simp
theorem yJC {P A M B S : List Rec} {k : Nat} (h : A.length = B.length) (hk : (k : Int) < A.length) : swW P A M B S k = (P ++ (B.take k ++ A.drop k) ++ M ++ A.take k) ++ B[k]! :: (B.drop (k + 1) ++ S) := by
 unfold swW; rw [zB2 (l := B) (by omega)]; simp
theorem yCq {P A M B S : List Rec} {k : Nat} (h : A.length = B.length) (hk : (k : Int) < A.length) : ((swW P A M B S k).map recE)[P.length + k]? = some (recE A[k]!) := by
 rw [tAE, zGI (yGz h hk) (by simp; omega)]; rfl
theorem zSx {P A M B S : List Rec} {k : Nat} (h : A.length = B.length) (hk : (k : Int) < A.length) : ((swW P A M B S k).map recE)[P.length + A.length + M.length + k]? = some (recE B[k]!) := by
 rw [tAE, zGI (yJC h hk) (by simp; omega)]; rfl
theorem yCo {P A M B S : List Rec} {k : Nat} (h : A.length = B.length) (hk : (k : Int) < A.length) : (((swW P A M B S k).map recE).set (P.length + k) (recE B[k]!)).set (P.length + A.length + M.length + k) (recE A[k]!) = (swW P A M B S (k + 1)).map recE := by
 rw [← tBY, ← tBY]
 congr 1
 rw [zD4 (yGz h hk) (by simp; omega)]
 have e : (P ++ B.take k) ++ B[k]! :: (A.drop (k + 1) ++ M ++ (A.take k ++ B.drop k) ++ S) = (P ++ (B.take (k + 1) ++ A.drop (k + 1)) ++ M ++ A.take k) ++ B[k]! :: (B.drop (k + 1) ++ S) := by
   rw [takeN (l := B) (by omega), zB2 (l := B) (k := k) (by omega)]; simp
 rw [zD4 e (by simp; omega)]
 unfold swW
 rw [takeN (l := A) hk]; simp
theorem zEO (a b : Rec) : again (recE a) (recL b) = recE b := rfl
theorem yCp {P A M B S : List Rec} {k : Nat} {x : D} (h : A.length = B.length) (hk : (k : Int) < A.length) : (((swW P A M B S k).map recE).set (P.length + k) x)[P.length + A.length + M.length + k]? = some (recE B[k]!) := by
 rw [List.getElem?_set_ne (by omega), zSx h hk]
def SwP (P A M B S : List Rec) : Prop := A.length = B.length ∧ P.length + A.length + M.length + A.length + S.length ≤ 1000000
theorem zBk (l : List Rec) : zBn (.row 16 true (l.map recE)) := zA2 (fun _ => rfl)

theorem yAT (cx : Cx) (hP : cx.P = Tryz.prog) (hbs : cx.bs = 1) (hk1 : cx.kp 1 = some [0, 1, 2, 3, 10]) (P A M B S : List Rec) (hl : SwP P A M B S) : zCm cx Tryz.f200 [.own 0 0 (P.length + A.length + M.length + A.length + S.length), .it .i64 P.length, .it .i64 ((P.length + A.length + M.length : Nat) : Int), .it .i64 A.length, .fn (.func 80) [] []] [.row 16 true ((P ++ A ++ M ++ B ++ S).map recE)] = some ((.tup [], [.row 16 true ((P ++ B ++ M ++ A ++ S).map recE)])) := by
 have hw : ∀ k : Nat, (k : Int) < A.length → IntKind.i64.wrap ((k : Int) + 1) = ((k + 1 : Nat) : Int) := fun k h => by have hl1 := hl.1; have hl2 := hl.2; rw [wrap64 (by omega) (by omega)]; simp
 have hw1 : ∀ k : Nat, (k : Int) < A.length → IntKind.i64.wrap ((P.length : Int) + (k : Int)) = ((P.length + k : Nat) : Int) := fun k h => by have hl1 := hl.1; have hl2 := hl.2; rw [wrap64 (by omega) (by omega)]; simp
 have hw2 : ∀ k : Nat, (k : Int) < A.length → IntKind.i64.wrap (((P.length + A.length + M.length : Nat) : Int) + (k : Int)) = ((P.length + A.length + M.length + k : Nat) : Int) := fun k h => by have hl1 := hl.1; have hl2 := hl.2; rw [wrap64 (by omega) (by omega)]; omega
 have hb1 : ∀ k : Nat, (k : Int) < A.length → (((P.length + k : Nat) : Int) < ((P.length + A.length + M.length + A.length + S.length : Nat) : Int)) = True := fun k h => by simp only [eq_iff_iff, iff_true]; omega
 have hb2 : ∀ k : Nat, (k : Int) < A.length → (((P.length + A.length + M.length + k : Nat) : Int) < ((P.length + A.length + M.length + A.length + S.length : Nat) : Int)) = True := fun k h => by simp only [eq_iff_iff, iff_true]; omega
 have hb3 : ∀ k : Nat, ((k : Int) < 0) = False := fun k => by simp
 refine zEH (rs := []) rfl hbs rfl ?_
 repeat' first
   | (refine zA1 (σ := Nat) (fun k => [.own 0 0 (P.length + A.length + M.length + A.length + S.length), .it .i64 P.length, .it .i64 ((P.length + A.length + M.length : Nat) : Int), .it .i64 A.length, .it .i64 k]) (fun k => [.row 16 true ((swW P A M B S k).map recE)]) (fun k => k ≤ A.length) (fun k => A.length - k) [0, 1, 2, 3, 10] hbs (by exact hk1) (fr1 fun _ => zBk _) (fun k jk => ?_) (s := 0) [0] ?_ ?_ ?_ ?_ ?_ ?_)
   | (refine bN (fun h => ?_) fun h => ?_)
   | (refine zAI ?_ ?_)
   | simp (config := { decide := true }) only [↓cD, cU, cQ, cP, cB, zAD, unD, zAe, zAd, idx, reduceCtorEq, ↓reduceIte, ofV, ofC, zAq, Nat.reduceEqDiff, zAB, cG, implies_true, forall_const, immL, immD, Res.flat, ren, renL, Int.reduceEq, Int.reduceLT, Int.reduceLE, Int.reduceNe, deref, ldD, zAA, zAh, zAC, zAs, cC, cS, refs, zAy, okId, tAs, tAq, Nat.reduceMul, Nat.reduceAdd, Nat.reduceLeDiff, zAp, ↓zAH, ↓zAL, ↓zAG, ↓zAK, ↓zAF, ↓zAJ, cV, cT, cF, cW, borT, borM, zAl, Res.via, zAt, zAb, refsB, Nat.reduceLT, Nat.reduceSub, Nat.reduceLeDiff, Nat.reduceMul, Nat.reduceAdd, Int.reduceToNat, appK, zAr, zAc, borL, zAj, zAm, zAz, cO, List.replicate, zAx, ofHp, ixOf, cS, refs, zAy, okId, tAs, tAq, Nat.reduceMul, Nat.reduceAdd, Nat.reduceLeDiff, zAp, zCn, zEw, updL, hw, hw1, hw2, hb1, hb2, hb3, yCq hl.1, zSx hl.1, yCp hl.1, zEO, yCo hl.1, hP, *]
 all_goals first
   | rfl
   | omega
   | (refine ⟨[0], k + 1, ?_, ?_, ?_, ?_, ?_, by omega, by omega⟩ <;> rfl)
   | (rw [show k = A.length by omega]; have hl1 := hl.1; have e : swW P A M B S A.length = P ++ B ++ M ++ A ++ S := (by unfold swW; rw [tAM (by omega), tBz (tAl _), tAM (tAl _), tBz (by omega)]; simp); rw [e]; exact ⟨_, rfl, zBk _, by simp, rfl⟩)
   | (rw [show swW P A M B S 0 = P ++ A ++ M ++ B ++ S by simp [swW]]; rfl)
   | (simp [swW]; done)
theorem zCO {l r : List Rec} (h : l.map recE = r.map recE) : l = r := (List.map_inj_right (fun a b => by simp only [zTL, imp_self])).1 h
theorem zCL {α : Type} {a b c d : List α} (h : a ++ b = c ++ d) (hl : a.length = c.length) : a = c ∧ b = d := List.append_inj h hl

noncomputable def FSwR  := mkE (fun s : List Rec × List Rec × List Rec × List Rec × List Rec => .own 0 0 (s.1 ++ s.2.1 ++ s.2.2.1 ++ s.2.2.2.1 ++ s.2.2.2.2).length :: [.it .i64 s.1.length, .it .i64 ((s.1.length + s.2.1.length + s.2.2.1.length : Nat) : Int), .it .i64 s.2.1.length, .fn (.func 80) [] []]) (fun s => .row 16 true ((s.1 ++ s.2.1 ++ s.2.2.1 ++ s.2.2.2.1 ++ s.2.2.2.2).map recE)) (fun s => SwP s.1 s.2.1 s.2.2.1 s.2.2.2.1 s.2.2.2.2) (fun s => (.tup [], [.row 16 true ((s.1 ++ s.2.2.2.1 ++ s.2.2.1 ++ s.2.1 ++ s.2.2.2.2).map recE)]))
theorem yFQ  {P A M B S : List Rec} (hp : SwP P A M B S) : FSwR (.own 0 0 (P ++ A ++ M ++ B ++ S).length :: [.it .i64 P.length, .it .i64 ((P.length + A.length + M.length : Nat) : Int), .it .i64 A.length, .fn (.func 80) [] []]) [.row 16 true ((P ++ A ++ M ++ B ++ S).map recE)] = some (.tup [], [.row 16 true ((P ++ B ++ M ++ A ++ S).map recE)]) := by
 refine zD3 (s := (P, A, M, B, S)) ?_ hp
 rintro ⟨P, A, M, B, S⟩ ⟨P', A', M', B', S'⟩ p1 p2 h1 h2
 simp only [tAv, D.own.injEq, D.it.injEq, true_and, and_true, tBh] at h1
 have h3 := zCO (Blk.row.inj h2).2.2
 simp only [tAh] at h1
 simp only [] at h3
 have q1 := p1.1; have q2 := p2.1
 simp only at q1 q2
 simp only [tAm] at h3
 obtain ⟨e1, h3⟩ := zCL h3 (by omega)
 obtain ⟨e2, h3⟩ := zCL h3 (by omega)
 obtain ⟨e3, h3⟩ := zCL h3 (by omega)
 obtain ⟨e4, e5⟩ := zCL h3 (by omega)
 subst e1; subst e2; subst e3; subst e4; subst e5; rfl
theorem zNK  {P A M B S l l' : List Rec} {tot nid : Nat} {rest : List D} (hp : SwP P A M B S) (hl : l = P ++ A ++ M ++ B ++ S) (hl' : l' = P ++ B ++ M ++ A ++ S) (ht : tot = l.length) (hr : rest = [.it .i64 P.length, .it .i64 ((P.length + A.length + M.length : Nat) : Int), .it .i64 A.length, .fn (.func 80) [] []]) : zCc (FSwR) (.own 0 0 tot :: rest) (ofHp [.row 16 true (l.map recE)]) nid = some (.tup [], ofHp [.row 16 true (l'.map recE)], nid) := by
 subst hr; subst ht; subst hl; subst hl'
 exact zUt rfl (yFQ hp)
def RotP (P A B S : List Rec) : Prop := A ≠ [] ∧ B ≠ [] ∧ P.length + A.length + B.length + S.length ≤ 1000000
abbrev Rq := List Rec × List Rec × List Rec × List Rec
def rotL (P S : List Rec) (q : Rq) : List Rec := P ++ q.1 ++ q.2.1 ++ q.2.2.1 ++ q.2.2.2 ++ S
structure RotJ (P A B S : List Rec) (q : Rq) : Prop where
 p : RotP P A B S
 ha : q.2.1 ≠ []
 hb : q.2.2.1 ≠ []
 m : q.1.length + q.2.1.length = A.length
 t : q.1.length + q.2.1.length + q.2.2.1.length + q.2.2.2.length = A.length + B.length
 e : q.1 ++ q.2.2.1 ++ q.2.1 ++ q.2.2.2 = B ++ A
def rotM (P A B S : List Rec) : Nat := P.length + A.length
def rotI (q : Rq) : Nat := q.2.1.length
def rotK (q : Rq) : Nat := q.2.2.1.length
def rotT (P A B S : List Rec) : Nat := (P ++ A ++ B ++ S).length
theorem zBd {l : List Rec} (h : l ≠ []) : 0 < l.length := tA4.2 h
theorem zEz {P A B S : List Rec} {q : Rq} (j : RotJ P A B S q) : 0 < rotI q ∧ 0 < rotK q ∧ rotI q ≤ rotM P A B S ∧ rotI q ≤ 1000000 ∧ rotK q ≤ 1000000 ∧ rotM P A B S + rotK q ≤ 1000000 := by
 have h1 := zBd j.ha; have h2 := zBd j.hb; have h3 := j.m; have h4 := j.t; have h5 := j.p.2.2
 unfold rotI rotK rotM; omega
def zFt (q : Rq) : Rq := (q.1 ++ q.2.2.1, q.2.1.drop (rotK q), q.2.1.take (rotK q), q.2.2.2)
def zFs (q : Rq) : Rq := (q.1, q.2.2.1.drop (rotK q - rotI q), q.2.2.1.take (rotK q - rotI q), q.2.1 ++ q.2.2.2)
theorem zTD {q : Rq} : rotI (zFt q) = rotI q - rotK q := by simp [rotI, zFt]
theorem zTC {q : Rq} (h : rotK q < rotI q) : rotK (zFt q) = rotK q := by
 have h' : q.2.2.1.length < q.2.1.length := h
 simp only [rotK, zFt, tAk]; omega
theorem zTB {q : Rq} (h : rotI q < rotK q) : rotI (zFs q) = rotI q := by
 have h' : q.2.1.length < q.2.2.1.length := h
 simp only [rotI, rotK, zFs, tAx]; omega
theorem zTA {q : Rq} (h : rotI q < rotK q) : rotK (zFs q) = rotK q - rotI q := by
 have h' : q.2.1.length < q.2.2.1.length := h
 simp only [rotI, rotK, zFs, tAk]; omega
theorem yCQ {P A B S : List Rec} {q : Rq} (j : RotJ P A B S q) (h : rotK q < rotI q) : RotJ P A B S (zFt q) := by
 have h' : q.2.2.1.length < q.2.1.length := h
 have h1 := zBd j.ha; have h2 := zBd j.hb; have h3 := j.m; have h4 := j.t
 refine ⟨j.p, ?_, ?_, ?_, ?_, ?_⟩
 · exact tAQ (by simp only [zFt, rotK, tAx]; omega)
 · exact tAQ (by simp only [zFt, rotK, tAk]; omega)
 · simp only [zFt, rotK, tAh, tAx]; omega
 · simp only [zFt, rotK, tAh, tAx, tAk]; omega
 · rw [← j.e]; simp only [zFt, rotK, tAm]; rw [← tAm (q.2.1.take _), tAH]
theorem yCP {P A B S : List Rec} {q : Rq} (j : RotJ P A B S q) (h : rotI q < rotK q) : RotJ P A B S (zFs q) := by
 have h' : q.2.1.length < q.2.2.1.length := h
 have h1 := zBd j.ha; have h2 := zBd j.hb; have h3 := j.m; have h4 := j.t
 refine ⟨j.p, ?_, ?_, ?_, ?_, ?_⟩
 · exact tAQ (by simp only [zFs, rotK, rotI, tAx]; omega)
 · exact tAQ (by simp only [zFs, rotK, rotI, tAk]; omega)
 · simp only [zFs, rotK, rotI, tAx]; omega
 · simp only [zFs, rotK, rotI, tAh, tAx, tAk]; omega
 · rw [← j.e]; simp only [zFs, rotK, rotI, tAm]; rw [← tAm (q.2.2.1.take _), tAH]
theorem yHf {P A B S : List Rec} {q : Rq} (j : RotJ P A B S q) (hi : (rotK q : Int) < rotI q) {nid : Nat} : zCc FSwR [.own 0 0 (rotT P A B S), .it .i64 ((rotM P A B S - rotI q : Nat) : Int), .it .i64 (rotM P A B S : Int), .it .i64 (rotK q : Int), .fn (.func 80) [] []] (ofHp [.row 16 true ((rotL P S q).map recE)]) nid =
   some (.tup [], ofHp [.row 16 true ((rotL P S (zFt q)).map recE)], nid) := by
 have h : rotK q < rotI q := by omega
 have h' : q.2.2.1.length < q.2.1.length := h
 have h3 := j.m; have h4 := j.t; have h5 := j.p.2.2
 have e1 : q.2.1 = q.2.1.take (rotK q) ++ q.2.1.drop (rotK q) := (tAH _ _).symm
 refine zNK (P := P ++ q.1) (A := q.2.1.take (rotK q)) (M := q.2.1.drop (rotK q)) (B := q.2.2.1) (S := q.2.2.2 ++ S) ⟨?_, ?_⟩ ?_ ?_ ?_ ?_
 · rw [tAk]; show min q.2.2.1.length _ = _; omega
 · simp only [tAh, tAk, tAx, rotK]; omega
 · unfold rotL; conv => lhs; rw [e1]
   simp only [tAm]
 · simp only [rotL, zFt, tAm]
 · simp only [rotT, rotL, tAh]; omega
 · simp only [tAh, tAk, tAx, rotM, rotI, rotK, tAv, D.it.injEq, true_and, and_true, tBh]
   omega
theorem yHe {P A B S : List Rec} {q : Rq} (j : RotJ P A B S q) (hn : ¬ (rotI q : Int) = rotK q) (hi : ¬ (rotK q : Int) < rotI q) {nid : Nat} : zCc FSwR [.own 0 0 (rotT P A B S), .it .i64 ((rotM P A B S - rotI q : Nat) : Int), .it .i64 ((rotM P A B S + rotK q - rotI q : Nat) : Int), .it .i64 (rotI q : Int), .fn (.func 80) [] []] (ofHp [.row 16 true ((rotL P S q).map recE)]) nid =
   some (.tup [], ofHp [.row 16 true ((rotL P S (zFs q)).map recE)], nid) := by
 have h : rotI q < rotK q := by omega
 have h' : q.2.1.length < q.2.2.1.length := h
 have h3 := j.m; have h4 := j.t; have h5 := j.p.2.2
 have e1 : q.2.2.1 = q.2.2.1.take (rotK q - rotI q) ++ q.2.2.1.drop (rotK q - rotI q) := (tAH _ _).symm
 refine zNK (P := P ++ q.1) (A := q.2.1) (M := q.2.2.1.take (rotK q - rotI q)) (B := q.2.2.1.drop (rotK q - rotI q)) (S := q.2.2.2 ++ S) ⟨?_, ?_⟩ ?_ ?_ ?_ ?_
 · rw [tAx]; simp only [rotK, rotI]; omega
 · simp only [tAh, tAk, tAx, rotK, rotI]; omega
 · unfold rotL; conv => lhs; rw [e1]
   simp only [tAm]
 · simp only [rotL, zFs, tAm]
 · simp only [rotT, rotL, tAh]; omega
 · simp only [tAh, tAk, tAx, rotM, rotI, rotK, tAv, D.it.injEq, true_and, and_true, tBh]
   omega
theorem yHg {P A B S : List Rec} {q : Rq} (j : RotJ P A B S q) (h : (rotI q : Int) = rotK q) {nid : Nat} : zCc FSwR [.own 0 0 (rotT P A B S), .it .i64 ((rotM P A B S - rotK q : Nat) : Int), .it .i64 (rotM P A B S : Int), .it .i64 (rotK q : Int), .fn (.func 80) [] []] (ofHp [.row 16 true ((rotL P S q).map recE)]) nid =
   some (.tup [], ofHp [.row 16 true ((P ++ B ++ A ++ S).map recE)], nid) := by
 have h' : q.2.1.length = q.2.2.1.length := by have : (q.2.1.length : Int) = q.2.2.1.length := h; omega
 have h3 := j.m; have h4 := j.t; have h5 := j.p.2.2
 refine zNK (P := P ++ q.1) (A := q.2.1) (M := []) (B := q.2.2.1) (S := q.2.2.2 ++ S) ⟨h', ?_⟩ ?_ ?_ ?_ ?_
 · simp only [tAh, tAu]; omega
 · simp only [rotL, tAm, tAJ]
 · rw [tAm P B A, ← j.e]; simp only [tAm, tAJ]
 · simp only [rotT, rotL, tAh]; omega
 · simp only [tAh, tAu, rotM, rotI, rotK, tAv, D.it.injEq, true_and, and_true, tBh]
   omega

theorem yAZ (cx : Cx) (hP : cx.P = Tryz.prog) (hbs : cx.bs = 1) (xn200 : cx.orc 200 = none) (xe200 : cx.ext 200 = none) (xf200 : cx.eff 200 = some FSwR) (hk2 : cx.kp 2 = some [0, 2, 4, 10, 11]) (P A B S : List Rec) (hl : RotP P A B S) : zCm cx Tryz.f182 [.own 0 0 (rotT P A B S), .it .i64 P.length, .it .i64 (rotM P A B S : Int), .it .i64 ((P.length + A.length + B.length : Nat) : Int), .fn (.func 80) [] []] [.row 16 true ((P ++ A ++ B ++ S).map recE)] = some ((.tup [], [.row 16 true ((P ++ B ++ A ++ S).map recE)])) := by
 have cf200 := fun H nid l => (show zBI cx 200 l H nid = _ from zBo xn200 xe200 xf200)
 have hw1 : IntKind.i64.wrap ((rotM P A B S : Int) - (P.length : Int)) = (A.length : Int) := by have := hl.2.2; unfold rotM; rw [wrap64 (by omega) (by omega)]; omega
 have hw2 : IntKind.i64.wrap (((P.length + A.length + B.length : Nat) : Int) - (rotM P A B S : Int)) = (B.length : Int) := by have := hl.2.2; unfold rotM; rw [wrap64 (by omega) (by omega)]; omega
 have hw3 : ∀ q, RotJ P A B S q → IntKind.i64.wrap ((rotM P A B S : Int) - (rotI q : Int)) = ((rotM P A B S - rotI q : Nat) : Int) := fun q j => by have := zEz j; rw [wrap64 (by omega) (by omega)]; omega
 have hw4 : ∀ q, RotJ P A B S q → IntKind.i64.wrap ((rotM P A B S : Int) + (rotK q : Int)) = ((rotM P A B S + rotK q : Nat) : Int) := fun q j => by have := zEz j; rw [wrap64 (by omega) (by omega)]; omega
 have hw5 : ∀ q, RotJ P A B S q → IntKind.i64.wrap (((rotM P A B S + rotK q : Nat) : Int) - (rotI q : Int)) = ((rotM P A B S + rotK q - rotI q : Nat) : Int) := fun q j => by have := zEz j; rw [wrap64 (by omega) (by omega)]; omega
 have hw6 : ∀ q, RotJ P A B S q → (rotK q : Int) < rotI q → IntKind.i64.wrap ((rotI q : Int) - (rotK q : Int)) = (rotI (zFt q) : Int) := fun q j h' => by have h : rotK q < rotI q := (by omega); have := zEz j; rw [zTD, wrap64 (by omega) (by omega)]; omega
 have hw7 : ∀ q, RotJ P A B S q → ¬ (rotI q : Int) = rotK q → ¬ (rotK q : Int) < rotI q → IntKind.i64.wrap ((rotK q : Int) - (rotI q : Int)) = (rotK (zFs q) : Int) := fun q j h1 h2 => by have h : rotI q < rotK q := (by omega); have := zEz j; rw [zTA h, wrap64 (by omega) (by omega)]; omega
 have hw8 : ∀ q, RotJ P A B S q → (rotI q : Int) = rotK q → IntKind.i64.wrap ((rotM P A B S : Int) - (rotK q : Int)) = ((rotM P A B S - rotK q : Nat) : Int) := fun q j h => by have := zEz j; rw [wrap64 (by omega) (by omega)]; omega
 refine zEH (rs := []) rfl hbs rfl ?_
 repeat' first
   | (refine zA1 (σ := Rq) (fun q => [.own 0 0 (rotT P A B S), .it .i64 (rotM P A B S : Int), .fn (.func 80) [] [], .it .i64 (rotI q : Int), .it .i64 (rotK q : Int)]) (fun q => [.row 16 true ((rotL P S q).map recE)]) (fun q => RotJ P A B S q) (fun q => rotI q + rotK q) [0, 2, 4, 10, 11] hbs (by exact hk2) (fr1 fun _ => zBk _) (fun q jq => ?_) (s := ([], A, B, [])) [0] ?_ ?_ ?_ ?_ ?_ ?_)
   | (refine bN (fun h => ?_) fun h => ?_)
   | (refine zAI ?_ ?_)
   | simp only [↓cD, cU, cQ, cP, cB, zAD, unD, zAe, zAd, idx, reduceCtorEq, ↓reduceIte, ofV, ofC, zAq, Nat.reduceEqDiff, zAB, cG, implies_true, forall_const, immL, immD, Res.flat, ren, renL, Int.reduceEq, Int.reduceLT, Int.reduceLE, Int.reduceNe, deref, ldD, zAA, zAh, zAC, zAs, cC, ↓zAH, ↓zAL, ↓zAG, ↓zAK, ↓zAF, ↓zAJ, cV, cT, cF, cW, borT, borM, zAl, Res.via, zAt, zAb, refsB, Nat.reduceLT, Nat.reduceSub, Nat.reduceLeDiff, Nat.reduceMul, Nat.reduceAdd, Int.reduceToNat, appK, zAr, zAc, borL, zAj, zAm, zAz, cO, List.replicate, zAx, ofHp, ixOf, hw1, hw2, hw3, hw4, hw5, hw6, hw7, hw8, yHf, yHe, yHg, hP, *]
 all_goals first
   | rfl
   | omega
   | exact ⟨_, rfl, zBk _, by simp, rfl⟩
   | (simp [rotL]; done)
   | exact ⟨hl, hl.1, hl.2.1, by simp, by simp, by simp⟩
   | (refine ⟨[0], zFt q, ?_, ?_, ?_, ?_, ?_, yCQ jq (by omega), by rw [zTD, zTC (by omega)]; have := zEz jq; omega⟩ <;> first | rfl | (rw [zTC (by omega)]; rfl))
   | (refine ⟨[0], zFs q, ?_, ?_, ?_, ?_, ?_, yCP jq (by omega), by rw [zTA (by omega), zTB (by omega)]; have := zEz jq; omega⟩ <;> first | rfl | (rw [zTB (by omega)]; rfl))
structure Wk {α : Type} (lt : α → α → Bool) : Prop where
 irr : ∀ a, lt a a = false
 tr : ∀ {a b c}, lt a b = true → lt b c = true → lt a c = true
 ntr : ∀ {a b c}, lt a b = false → lt b c = false → lt a c = false
section stable
variable {α : Type} {lt : α → α → Bool}
theorem Wk.asym (h : Wk lt) {a b : α} (k : lt a b = true) : lt b a = false := by
 cases h2 : lt b a with
 | false => rfl
 | true => have := h.tr k h2; rw [h.irr] at this; cases this
theorem Wk.lt_le (h : Wk lt) {a b c : α} (k : lt a b = true) (k2 : lt c b = false) : lt a c = true := by
 cases h2 : lt a c with
 | true => rfl
 | false => have := h.ntr h2 k2; rw [k] at this; cases this
theorem Wk.le_lt (h : Wk lt) {a b c : α} (k : lt b a = false) (k2 : lt b c = true) : lt a c = true := by
 cases h2 : lt a c with
 | true => rfl
 | false => have := h.ntr k h2; rw [k2] at this; cases this
def Srt (lt : α → α → Bool) (l : List α) : Prop := l.Pairwise fun a b => lt b a = false
def cls (lt : α → α → Bool) (z : α) (l : List α) : List α := l.filter fun x => !lt x z && !lt z x
theorem zEb (z : α) (l r : List α) : cls lt z (l ++ r) = cls lt z l ++ cls lt z r := by simp [cls]
theorem zKj (z x : α) (l : List α) : cls lt z (x :: l) = cls lt z [x] ++ cls lt z l := by rw [← zEb]; rfl
theorem mem_cls {z x : α} {l : List α} : x ∈ cls lt z l ↔ x ∈ l ∧ lt x z = false ∧ lt z x = false := by simp [cls]
theorem zGU (h : Wk lt) : ∀ (l r : List α), Srt lt l → Srt lt r → (∀ z, cls lt z l = cls lt z r) → l = r
 | [], [], _, _, _ => rfl
 | [], y :: r, _, _, hc => by
   have := hc y
   have hm : y ∈ cls lt y (y :: r) := mem_cls.2 ⟨by simp, h.irr y, h.irr y⟩
   rw [← this] at hm; simp [cls] at hm
 | x :: l, [], _, _, hc => by
   have := hc x
   have hm : x ∈ cls lt x (x :: l) := mem_cls.2 ⟨by simp, h.irr x, h.irr x⟩
   rw [this] at hm; simp [cls] at hm
 | x :: l, y :: r, hl, hr, hc => by
   have hx : x ∈ y :: r := (mem_cls.1 (show x ∈ cls lt x (y :: r) by rw [← hc x]; exact mem_cls.2 ⟨by simp, h.irr x, h.irr x⟩)).1
   have hy : y ∈ x :: l := (mem_cls.1 (show y ∈ cls lt y (x :: l) by rw [hc y]; exact mem_cls.2 ⟨by simp, h.irr y, h.irr y⟩)).1
   have h1 : lt x y = false := by
     rcases tAr.1 hx with e | hx
     · rw [e]; exact h.irr y
     · exact (tAC.1 hr).1 x hx
   have h2 : lt y x = false := by
     rcases tAr.1 hy with e | hy
     · rw [e]; exact h.irr x
     · exact (tAC.1 hl).1 y hy
   have e : x = y := by
     have := hc x
     simp only [cls, tBx, h.irr, h1, h2, tBK, tBp, if_true] at this
     exact (List.cons.inj this).1
   subst e
   rw [zGU h l r (tAC.1 hl).2 (tAC.1 hr).2 (fun z => by
     have := hc z
     rw [zKj z x l, zKj z x r] at this
     exact List.append_cancel_left this)]
def insS (lt : α → α → Bool) (out : List α) (x : α) : List α := out.filter (fun y => !lt x y) ++ x :: out.filter (fun y => lt x y)
def stS (lt : α → α → Bool) (l : List α) : List α := l.foldl (insS lt) []
theorem zPr (h : Wk lt) {out : List α} (x : α) (ho : Srt lt out) : Srt lt (insS lt out x) := by
 unfold insS Srt
 rw [tBc]
 refine ⟨ho.sublist List.filter_sublist, tAC.2 ⟨fun y hy => ?_, ho.sublist List.filter_sublist⟩, fun a ha b hb => ?_⟩
 · exact h.asym (by simpa using (tBb.1 hy).2)
 · have h1 : lt x a = false := by simpa using (tBb.1 ha).2
   rcases tAr.1 hb with rfl | hb
   · exact h1
   · have h2 : lt x b = true := by simpa using (tBb.1 hb).2
     exact h.asym (h.le_lt h1 h2)
theorem zYS (h : Wk lt) (out : List α) (x z : α) : cls lt z (insS lt out x) = cls lt z (out ++ [x]) := by
 unfold insS
 rw [zEb, zKj, zEb]
 have hf : ∀ (p : α → Bool), cls lt z (out.filter p) = (cls lt z out).filter p := fun p => by simp only [cls, List.filter_filter]; congr 1; funext y; exact Bool.and_comm _ _
 rw [hf, hf]
 by_cases hx : lt x z = false ∧ lt z x = false
 · have h1 : ∀ y ∈ cls lt z out, lt x y = false := fun y hy => h.ntr hx.1 (mem_cls.1 hy).2.2
   rw [tB7.2 (fun y hy => by rw [h1 y hy]; rfl), tA9.2 (fun y hy => by rw [h1 y hy]; decide), tAo]
 · have hxn : cls lt z [x] = [] := by
     simp only [cls, tBx, List.filter_nil]
     rw [if_neg]
     simpa using hx
   rw [hxn, tAJ, tAo]
   cases hz : lt x z with
   | true =>
     have h1 : ∀ y ∈ cls lt z out, lt x y = true := fun y hy => h.lt_le hz (mem_cls.1 hy).2.1
     rw [tA9.2 (fun y hy => by rw [h1 y hy]; decide), tB7.2 (fun y hy => h1 y hy), tAJ]
   | false =>
     have hz2 : lt z x = true := by
       cases h2 : lt z x with
       | true => rfl
       | false => exact absurd ⟨hz, h2⟩ hx
     have h1 : ∀ y ∈ cls lt z out, lt x y = false := fun y hy => h.asym (h.le_lt (mem_cls.1 hy).2.2 hz2)
     rw [tB7.2 (fun y hy => by rw [h1 y hy]; rfl), tA9.2 (fun y hy => by rw [h1 y hy]; decide), tAo]
theorem zGw (h : Wk lt) : ∀ (l out : List α), Srt lt out → Srt lt (l.foldl (insS lt) out) ∧ ∀ z, cls lt z (l.foldl (insS lt) out) = cls lt z (out ++ l)
 | [], out, ho => ⟨ho, fun z => by simp⟩
 | x :: r, out, ho => by
   obtain ⟨h1, h2⟩ := zGw h r _ (zPr h x ho)
   refine ⟨h1, fun z => ?_⟩
   rw [tCe, h2 z, zEb, zYS h, ← zEb, tAm]; rfl
theorem zEx (h : Wk lt) (l : List α) : Srt lt (stS lt l) := (zGw h l [] tBt).1
theorem zE4 (h : Wk lt) (l : List α) (z : α) : cls lt z (stS lt l) = cls lt z l := (zGw h l [] tBt).2 z
theorem zJu (h : Wk lt) {l r : List α} (hr : Srt lt r) (hc : ∀ z, cls lt z r = cls lt z l) : stS lt l = r := zGU h _ _ (zEx h l) hr fun z => (zE4 h l z).trans (hc z).symm
theorem zDg (h : Wk lt) {l : List α} (hl : Srt lt l) : stS lt l = l := zJu h hl fun _ => rfl
theorem zUl (h : Wk lt) {l : List α} {x : α} : x ∈ stS lt l ↔ x ∈ l := by
 have h1 : ∀ r : List α, x ∈ r ↔ x ∈ cls lt x r := fun r => ⟨fun hx => mem_cls.2 ⟨hx, h.irr x, h.irr x⟩, fun hx => (mem_cls.1 hx).1⟩
 rw [h1 (stS lt l), h1 l, zE4 h]
theorem zPE (p : α → Bool) : ∀ l : List α, (l.filter fun y => !p y).length + (l.filter p).length = l.length
 | [] => rfl
 | x :: r => by
   have := zPE p r
   cases hx : p x <;> simp only [tBx, hx, tBI, tBK, if_true, if_false, tAf, tAp] <;> omega
theorem zSD : ∀ (l out : List α), (l.foldl (insS lt) out).length = out.length + l.length
 | [], out => rfl
 | x :: r, out => by
   have h1 : (insS lt out x).length = out.length + 1 := by
     have := zPE (fun y => lt x y) out
     simp only [insS, tAh, tAp]; omega
   rw [tCe, zSD r, h1, tAp]; omega
theorem zB4 (l : List α) : (stS lt l).length = l.length := by rw [stS, zSD]; simp
theorem zFa (h : Wk lt) {L1 L2 R1 R2 : List α} (hL : Srt lt (L1 ++ L2)) (hR : Srt lt (R1 ++ R2)) (h1 : ∀ x ∈ L2, ∀ y ∈ R1, lt y x = true) (h2 : ∀ x ∈ L1, ∀ y ∈ R2, lt y x = false) :
   stS lt (L1 ++ L2 ++ (R1 ++ R2)) = stS lt (L1 ++ R1) ++ stS lt (L2 ++ R2) := by
 obtain ⟨l1, l2, l3⟩ := tBc.1 hL
 obtain ⟨r1, r2, r3⟩ := tBc.1 hR
 refine zJu h ?_ fun z => ?_
 · refine tBc.2 ⟨zEx h _, zEx h _, fun x hx y hy => ?_⟩
   rw [zUl h, tAz] at hx hy
   rcases hx with hx | hx <;> rcases hy with hy | hy
   · exact l3 x hx y hy
   · exact h2 x hx y hy
   · exact h.asym (h1 y hy x hx)
   · exact r3 x hx y hy
 · simp only [zEb, zE4 h, tAm]
   congr 1
   rw [← tAm, ← tAm]
   congr 1
   by_cases ha : cls lt z R1 = []
   · rw [ha]; simp
   · by_cases hb : cls lt z L2 = []
     · rw [hb]; simp
     · exfalso
       obtain ⟨y, hy⟩ := List.exists_mem_of_ne_nil _ ha
       obtain ⟨x, hx⟩ := List.exists_mem_of_ne_nil _ hb
       rw [mem_cls] at hx hy
       have h3 := h1 x hx.1 y hy.1
       have h4 := h.ntr hy.2.1 hx.2.2
       rw [h3] at h4; cases h4
theorem yGD {l : List α} (h : Srt lt l) {i j : Nat} (hij : i < j) (hj : j < l.length) : lt l[j] (l[i]'(by omega)) = false := tCl.1 h i j (by omega) hj hij
theorem zDU (hw : Wk lt) {l : List α} (h : Srt lt l) {i j : Nat} (hij : i ≤ j) (hj : j < l.length) : lt l[j] (l[i]'(by omega)) = false := by
 rcases Nat.lt_or_eq_of_le hij with h1 | h1
 · exact yGD h h1 hj
 · subst h1; exact hw.irr _
end stable

def ltR (a b : Rec) : Bool := decide (cmpR a b < 0)

structure Cmp {α : Type} (c : α → α → Int) : Prop where
 sym : ∀ a b, c a b < 0 ↔ 0 < c b a
 tr : ∀ {x y z}, c x y ≤ 0 → c y z ≤ 0 → c x z ≤ 0
theorem Cmp.zero {α : Type} {c : α → α → Int} (h : Cmp c) {a b : α} : c a b = 0 ↔ c b a = 0 := by
 have h1 := h.sym a b; have h2 := h.sym b a; omega
theorem Cmp.self {α : Type} {c : α → α → Int} (h : Cmp c) (a : α) : c a a = 0 := by
 have h1 := h.sym a a; omega
theorem Cmp.wk {α : Type} {c : α → α → Int} (h : Cmp c) : Wk (fun a b => decide (c a b < 0)) := by
 refine ⟨fun a => decide_eq_false (by have := h.self a; omega), fun {x y z} h1 h2 => ?_, fun {x y z} h1 h2 => ?_⟩
 · have h1 := of_decide_eq_true h1; have h2 := of_decide_eq_true h2
   apply decide_eq_true
   have s1 := h.sym x z; have s2 := h.sym z x; have s3 := h.sym x y; have s4 := h.sym y z
   apply tAW
   intro hn
   have h3 : c y x ≤ 0 := h.tr (x := y) (y := z) (z := x) (by omega) (by omega)
   omega
 · have h1 := of_decide_eq_false h1; have h2 := of_decide_eq_false h2
   apply decide_eq_false
   have s1 := h.sym x z; have s2 := h.sym z x; have s3 := h.sym y x; have s4 := h.sym z y
   have s5 := h.sym x y; have s6 := h.sym y z
   have h3 : c z x ≤ 0 := h.tr (x := z) (y := y) (z := x) (by omega) (by omega)
   omega
theorem Cmp.lex {α : Type} {c d : α → α → Int} (h : Cmp c) (s : ∀ a b, c a b = 0 → (d a b < 0 ↔ 0 < d b a)) (t : ∀ {x y z}, c x y = 0 → c y z = 0 → d x y ≤ 0 → d y z ≤ 0 → d x z ≤ 0) : Cmp (fun a b => if ¬ c a b = 0 then c a b else d a b) := by
 refine ⟨fun a b => ?_, fun {x y z} h1 h2 => ?_⟩
 · have h1 := h.sym a b; have h2 := h.sym b a
   by_cases hz : c a b = 0
   · have hz' : c b a = 0 := h.zero.1 hz
     simp only [hz, hz', not_true_eq_false, if_false]; exact s a b hz
   · have hz' : ¬ c b a = 0 := fun e => hz (h.zero.2 e)
     simp only [hz, hz', not_false_eq_true, if_true]; exact h1
 · have k1 : c x y ≤ 0 := by by_cases hz : c x y = 0 <;> simp only [hz, not_true_eq_false, not_false_eq_true, if_false, if_true] at h1 <;> omega
   have k2 : c y z ≤ 0 := by by_cases hz : c y z = 0 <;> simp only [hz, not_true_eq_false, not_false_eq_true, if_false, if_true] at h2 <;> omega
   have k3 := h.tr k1 k2
   by_cases hz : c x z = 0
   · have z1 : c z x = 0 := h.zero.1 hz
     have a1 : c y x ≤ 0 := h.tr k2 (by omega)
     have a2 : c z y ≤ 0 := h.tr (by omega) k1
     have s1 := h.sym x y; have s2 := h.sym y x; have s3 := h.sym y z; have s4 := h.sym z y
     have e1 : c x y = 0 := by omega
     have e2 : c y z = 0 := by omega
     simp only [e1, not_true_eq_false, if_false] at h1
     simp only [e2, not_true_eq_false, if_false] at h2
     simp only [hz, not_true_eq_false, if_false]
     exact t e1 e2 h1 h2
   · simp only [hz, not_false_eq_true, if_true]; exact k3
theorem Cmp.on {α β : Type} {c : β → β → Int} (h : Cmp c) (f : α → β) : Cmp (fun a b => c (f a) (f b)) := ⟨fun a b => h.sym _ _, fun h1 h2 => h.tr h1 h2⟩
theorem cmp_num : Cmp numC := by
 refine ⟨fun a b => ?_, fun {x y z} h1 h2 => ?_⟩
 · unfold numC; split <;> split <;> (try split) <;> omega
 · unfold numC at *; split at h1 <;> split at h2 <;> split <;> (try split at h1) <;> (try split at h2) <;> (try split) <;> omega
theorem zFK {a b : Int} (h : numC a b = 0) : a = b := by
 unfold numC at h; split at h
 · omega
 · split at h <;> omega
theorem zNA (a b : UInt8) (x y : List UInt8) : Op.bytesLess (a :: x) (b :: y) = true ↔ a < b ∨ (a = b ∧ Op.bytesLess x y = true) := by
 rw [Op.bytesLess]
 by_cases h1 : a < b <;> by_cases h2 : a = b <;> simp [h1, h2]
theorem zWc : ∀ {a b c : List UInt8}, Op.bytesLess a b = true → Op.bytesLess b c = true → Op.bytesLess a c = true
 | [], [], _, h, _ => by simp [Op.bytesLess] at h
 | [], _ :: _, [], _, h => by simp [Op.bytesLess] at h
 | [], _ :: _, _ :: _, _, _ => by simp [Op.bytesLess]
 | _ :: _, [], _, h, _ => by simp [Op.bytesLess] at h
 | _ :: _, _ :: _, [], _, h => by simp [Op.bytesLess] at h
 | a :: x, b :: y, c :: z, h1, h2 => by
   rw [zNA] at *
   rcases h1 with h1 | ⟨rfl, h1⟩
   · rcases h2 with h2 | ⟨rfl, h2⟩
     · exact .inl (UInt8.lt_trans h1 h2)
     · exact .inl h1
   · rcases h2 with h2 | ⟨rfl, h2⟩
     · exact .inl h2
     · exact .inr ⟨rfl, zWc h1 h2⟩
theorem zXo (a b : UInt8) : a = b ∨ a < b ∨ b < a := by
 rcases Nat.lt_trichotomy a.toNat b.toNat with h | h | h
 · exact .inr (.inl (UInt8.lt_iff_toNat_lt.2 h))
 · exact .inl (tBF.1 h)
 · exact .inr (.inr (UInt8.lt_iff_toNat_lt.2 h))
theorem zHm : ∀ a b : List UInt8, a = b ∨ Op.bytesLess a b = true ∨ Op.bytesLess b a = true
 | [], [] => .inl rfl
 | [], _ :: _ => .inr (.inl (by simp [Op.bytesLess]))
 | _ :: _, [] => .inr (.inr (by simp [Op.bytesLess]))
 | a :: x, b :: y => by
   rw [zNA, zNA]
   rcases zXo a b with rfl | h | h
   · rcases zHm x y with rfl | h | h
     · exact .inl rfl
     · exact .inr (.inl (.inr ⟨rfl, h⟩))
     · exact .inr (.inr (.inr ⟨rfl, h⟩))
   · exact .inr (.inl (.inl h))
   · exact .inr (.inr (.inl h))
theorem zXr {a b : List UInt8} : zA9 a b < 0 ↔ Op.bytesLess a b = true := by
 unfold zA9
 split
 · simp_all
 · split <;> simp_all
theorem textC_gt {a b : List UInt8} : 0 < zA9 a b ↔ Op.bytesLess b a = true := by
 unfold zA9
 rcases zHm a b with rfl | h | h
 · simp [zBg]
 · have : Op.bytesLess b a = false := by
     cases h2 : Op.bytesLess b a with
     | false => rfl
     | true => have := zWc h h2; rw [zBg] at this; cases this
   simp [h, this]
 · have h2 : Op.bytesLess a b = false := by
     cases h2 : Op.bytesLess a b with
     | false => rfl
     | true => have := zWc h h2; rw [zBg] at this; cases this
   have h3 : ¬ a = b := fun e => by subst e; rw [zBg] at h; cases h
   simp [h, h2, h3]
theorem cmp_text : Cmp zA9 := by
 refine ⟨fun a b => by rw [zXr, textC_gt], fun {x y z} h1 h2 => ?_⟩
 apply tAW
 intro h3
 have h3 := textC_gt.1 (show 0 < zA9 x z by omega)
 have h4 : ¬ Op.bytesLess y x = true := fun e => by have := textC_gt.2 e; omega
 have h5 : ¬ Op.bytesLess z y = true := fun e => by have := textC_gt.2 e; omega
 rcases zHm x y with rfl | h6 | h6
 · exact h5 h3
 · exact h5 (zWc h3 h6)
 · exact h4 h6
def lexC : List (List UInt8) → List (List UInt8) → Int
 | [], [] => 0
 | [], _ :: _ => -1
 | _ :: _, [] => 1
 | a :: x, b :: y => if ¬ zA9 a b = 0 then zA9 a b else lexC x y
theorem zO9 : ∀ x y : List (List UInt8), lexC x y < 0 ↔ 0 < lexC y x
 | [], [] => by simp [lexC]
 | [], _ :: _ => by simp [lexC]
 | _ :: _, [] => by simp [lexC]
 | a :: x, b :: y => by
   simp only [lexC]
   have h := zO9 x y
   by_cases hz : zA9 a b = 0
   · have hz' : zA9 b a = 0 := cmp_text.zero.1 hz
     simp only [hz, hz', not_true_eq_false, if_false]; exact h
   · have hz' : ¬ zA9 b a = 0 := fun e => hz (cmp_text.zero.2 e)
     simp only [hz, hz', not_false_eq_true, if_true]; exact cmp_text.sym a b
theorem zUs : ∀ {x y z : List (List UInt8)}, lexC x y ≤ 0 → lexC y z ≤ 0 → lexC x z ≤ 0
 | [], [], _, _, h => h
 | [], _ :: _, [], _, h => by simp [lexC] at h
 | [], _ :: _, _ :: _, _, _ => by simp [lexC]
 | _ :: _, [], _, h, _ => by simp [lexC] at h
 | _ :: _, _ :: _, [], _, h => by simp [lexC] at h
 | a :: x, b :: y, c :: z, h1, h2 => by
   have h := (Cmp.lex (α := List UInt8 × List (List UInt8)) (c := fun p q => zA9 p.1 q.1) (d := fun p q => lexC p.2 q.2) (cmp_text.on _))
   simp only [lexC] at *
   have k1 : zA9 a b ≤ 0 := by by_cases hz : zA9 a b = 0 <;> simp only [hz, not_true_eq_false, not_false_eq_true, if_false, if_true] at h1 <;> omega
   have k2 : zA9 b c ≤ 0 := by by_cases hz : zA9 b c = 0 <;> simp only [hz, not_true_eq_false, not_false_eq_true, if_false, if_true] at h2 <;> omega
   have k3 := cmp_text.tr k1 k2
   by_cases hz : zA9 a c = 0
   · have z1 : zA9 c a = 0 := cmp_text.zero.1 hz
     have a1 : zA9 b a ≤ 0 := cmp_text.tr k2 (by omega)
     have a2 : zA9 c b ≤ 0 := cmp_text.tr (by omega) k1
     have s1 := cmp_text.sym a b; have s2 := cmp_text.sym b a; have s3 := cmp_text.sym b c; have s4 := cmp_text.sym c b
     have e1 : zA9 a b = 0 := by omega
     have e2 : zA9 b c = 0 := by omega
     simp only [e1, not_true_eq_false, if_false] at h1
     simp only [e2, not_true_eq_false, if_false] at h2
     simp only [hz, not_true_eq_false, if_false]
     exact zUs h1 h2
   · simp only [hz, not_false_eq_true, if_true]; exact k3
theorem cmp_lex : Cmp lexC := ⟨zO9, zUs⟩

theorem zLW : ∀ x y : List (List UInt8), (if cpre x y < x.length ∧ cpre x y < y.length then zA9 x[cpre x y]! y[cpre x y]! else if x.length < y.length then -1 else if y.length < x.length then 1 else 0) = lexC x y
 | [], [] => rfl
 | [], _ :: _ => by simp [lexC]
 | _ :: _, [] => by simp [lexC]
 | a :: x, b :: y => by
   have ih := zLW x y
   simp only [lexC]
   by_cases h : a = b
   · subst h
     have hc : cpre (a :: x) (a :: y) = cpre x y + 1 := by simp [cpre]
     rw [hc, zGd]
     simp only [not_true_eq_false, if_false, ← ih, tAp]
     by_cases h1 : cpre x y < x.length ∧ cpre x y < y.length
     · rw [if_pos h1, if_pos ⟨by omega, by omega⟩]; simp
     · rw [if_neg h1, if_neg (fun e => h1 ⟨by omega, by omega⟩)]
       by_cases h2 : x.length < y.length
       · rw [if_pos h2, if_pos (by omega)]
       · rw [if_neg h2, if_neg (by omega)]
         by_cases h3 : y.length < x.length
         · rw [if_pos h3, if_pos (by omega)]
         · rw [if_neg h3, if_neg (by omega)]
   · have hc : cpre (a :: x) (b :: y) = 0 := by simp [cpre, h]
     rw [hc, if_pos ⟨by simp, by simp⟩, if_pos (fun e => h (zDG e))]; rfl
theorem zIj (a b : List UInt8) : cmpB a b = match labs a, labs b with | some l, some m => lexC l.reverse m.reverse | some _, none => -1 | none, some _ => 1 | none, none => zA9 a b := by
 unfold cmpB
 cases ha : labs a with
 | none => cases hb : labs b <;> rfl
 | some l =>
   cases hb : labs b with
   | none => rfl
   | some m =>
     simp only [Option.isSome_some, if_true, tBa]
     rw [← zLW l.reverse m.reverse]
     simp only [zCD, tBP]
     first | rfl | congr | (split <;> simp_all)
theorem cmp_name : Cmp cmpB := by
 refine ⟨fun a b => ?_, fun {x y z} h1 h2 => ?_⟩
 · rw [zIj, zIj]
   cases labs a <;> cases labs b
   · exact cmp_text.sym a b
   · show ((1 : Int) < 0 ↔ (0 : Int) < -1); decide
   · show ((-1 : Int) < 0 ↔ (0 : Int) < 1); decide
   · exact cmp_lex.sym _ _
 · rw [zIj] at *
   cases hx : labs x <;> cases hy : labs y <;> cases hz : labs z <;> simp only [hx, hy, hz] at h1 h2 ⊢ <;> first | omega | exact cmp_text.tr h1 h2 | exact cmp_lex.tr h1 h2
theorem zPR (t : Int) : Cmp (cmpD t) := by
 refine ⟨fun a b => ?_, fun {x y z} h1 h2 => ?_⟩
 · unfold cmpD
   by_cases ha : (zAT t a).2 = 0 <;> by_cases hb : (zAT t b).2 = 0 <;> simp only [ha, hb, if_true, if_false] <;> first | exact cmp_text.sym _ _ | decide | skip
 · unfold cmpD at *
   by_cases hx : (zAT t x).2 = 0 <;> by_cases hy : (zAT t y).2 = 0 <;> by_cases hz : (zAT t z).2 = 0 <;> simp only [hx, hy, hz, if_true, if_false] at h1 h2 ⊢ <;> first | omega | exact cmp_text.tr h1 h2
theorem cmp_first : Cmp zAw := by
 have hd : Cmp (fun a b : Rec => if ¬ numC a.typ b.typ = 0 then numC a.typ b.typ else cmpD a.typ a.dat b.dat) := by
   refine Cmp.lex (cmp_num.on Rec.typ) (fun a b h => ?_) (fun {x y z} h1 h2 k1 k2 => ?_)
   · have e := zFK h; rw [e]; exact (zPR b.typ).sym _ _
   · have e := zFK h1; have e2 := zFK h2
     rw [e] at k1 ⊢
     exact (zPR y.typ).tr k1 k2
 exact Cmp.lex (cmp_name.on Rec.name) (fun a b _ => hd.sym a b) (fun _ _ h1 h2 => hd.tr h1 h2)
theorem cmp_rec : Cmp cmpR := Cmp.lex cmp_first (fun a b _ => (cmp_num.on Rec.ttl).sym a b) (fun _ _ h1 h2 => (cmp_num.on Rec.ttl).tr h1 h2)
theorem wkR : Wk ltR := cmp_rec.wk

def cptR (p : Rec) : List Rec → List Rec
 | [] => []
 | x :: r => if zAw x p = 0 then cptR x r else x :: cptR x r
def zBc : List Rec → List Rec
 | [] => []
 | x :: r => x :: cptR x r
def lt1 (a b : Rec) : Bool := decide (zAw a b < 0)
theorem wk1 : Wk lt1 := cmp_first.wk
def eqz (z x : Rec) : Bool := decide (zAw x z = 0)
def cz (z : Rec) (l : List Rec) : List Rec := l.filter (eqz z)
theorem yBP (z : Rec) (l : List Rec) : cls lt1 z l = cz z l := by
 unfold cls cz
 congr 1; funext x
 have h1 := cmp_first.sym x z; have h2 := cmp_first.sym z x
 unfold lt1 eqz
 rw [tBm]
 simp only [tAd, tAG, decide_eq_false_iff_not, decide_eq_true_eq]
 omega
theorem zBD {x y z : Rec} (h1 : zAw x y = 0) (h2 : zAw y z = 0) : zAw x z = 0 := by
 have s1 := cmp_first.sym x z; have s2 := cmp_first.sym z x
 have a1 := cmp_first.zero.1 h1; have a2 := cmp_first.zero.1 h2
 have t1 := cmp_first.tr (x := x) (y := y) (z := z) (by omega) (by omega)
 have t2 := cmp_first.tr (x := z) (y := y) (z := x) (by omega) (by omega)
 omega
theorem zCr {x y z : Rec} (h1 : zAw x y < 0) (h2 : zAw y z = 0) : zAw x z < 0 := by
 have := wk1.lt_le (a := x) (b := y) (c := z) (decide_eq_true h1) (decide_eq_false (by have := cmp_first.zero.1 h2; omega))
 exact of_decide_eq_true this
theorem zFe {x y z : Rec} (h1 : zAw x y = 0) (h2 : zAw y z < 0) : zAw x z < 0 := by
 have := wk1.le_lt (a := x) (b := y) (c := z) (decide_eq_false (by have := cmp_first.zero.1 h1; omega)) (decide_eq_true h2)
 exact of_decide_eq_true this
theorem zHb {x y z : Rec} (h1 : zAw x y < 0) (h2 : zAw y z < 0) : zAw x z < 0 := of_decide_eq_true (wk1.tr (a := x) (b := y) (c := z) (decide_eq_true h1) (decide_eq_true h2))
def Str (l : List Rec) : Prop := l.Pairwise fun a b => zAw a b < 0
theorem Str.srt {l : List Rec} (h : Str l) : Srt lt1 l := h.imp fun {a b} h => decide_eq_false (by have := cmp_first.sym a b; omega)
theorem zJp {l r : List Rec} (hl : Str l) (hr : Str r) (h : ∀ z, cz z l = cz z r) : l = r := zGU wk1 l r hl.srt hr.srt fun z => by rw [yBP, yBP]; exact h z
theorem zNq {z : Rec} {l : List Rec} (h : ∀ y ∈ l, ¬ zAw y z = 0) : cz z l = [] := tA9.2 fun y hy => by simp [eqz, h y hy]
theorem zBM (z x : Rec) (l : List Rec) : cz z (x :: l) = if zAw x z = 0 then x :: cz z l else cz z l := by
 unfold cz; rw [tBx]; simp only [eqz, decide_eq_true_eq]
def bst (acc : List Rec) (x : Rec) : List Rec := match acc with
 | [] => [x]
 | y :: _ => if x.ttl < y.ttl then [x] else [y]
theorem zPt (x : Rec) : insR [] x = [x] := by simp [insR, posR]
theorem zLC (y : Rec) (r : List Rec) (x : Rec) : insR (y :: r) x = if zAw y x < 0 then y :: insR r x else if zAw y x = 0 then (if x.ttl < y.ttl then x :: r else y :: r) else x :: y :: r := by
 unfold insR
 by_cases h : zAw y x < 0
 · have hp : posR (y :: r) x = posR r x + 1 := by simp [posR, h]
   rw [hp, if_pos h]
   have e : ((y :: r)[posR r x + 1]!) = r[posR r x]! := by simp
   simp only [e, tAp, List.set_cons_succ, tBs, tBN]
   by_cases hc : (posR r x : Int) < r.length ∧ zAw r[posR r x]! x = 0
   · rw [if_pos hc, if_pos ⟨by have := hc.1; omega, hc.2⟩]
     split <;> rfl
   · rw [if_neg hc, if_neg (fun e => hc ⟨by have := e.1; omega, e.2⟩)]; rfl
 · have hp : posR (y :: r) x = 0 := by simp [posR, h]
   rw [hp, if_neg h]
   have e : ((y :: r)[0]!) = y := rfl
   rw [e]
   by_cases h0 : zAw y x = 0
   · rw [if_pos h0, if_pos ⟨by simp only [tAp]; omega, h0⟩]; rfl
   · rw [if_neg h0, if_neg (fun e => h0 e.2)]; rfl
theorem str_cons {y : Rec} {r : List Rec} : Str (y :: r) ↔ (∀ a ∈ r, zAw y a < 0) ∧ Str r := tAC
theorem zPs {x : Rec} : ∀ {out : List Rec}, Str out → Str (insR out x)
 | [], _ => by rw [zPt]; exact tBL _ _
 | y :: r, h => by
   obtain ⟨h1, h2⟩ := str_cons.1 h
   rw [zLC]
   by_cases hl : zAw y x < 0
   · rw [if_pos hl]
     refine str_cons.2 ⟨fun a ha => ?_, zPs h2⟩
     rcases zPu ha with rfl | ha
     · exact hl
     · exact h1 a ha
   · rw [if_neg hl]
     by_cases h0 : zAw y x = 0
     · rw [if_pos h0]
       split
       · exact str_cons.2 ⟨fun a ha => zFe (cmp_first.zero.1 h0) (h1 a ha), h2⟩
       · exact h
     · rw [if_neg h0]
       have hx : zAw x y < 0 := by have := cmp_first.sym x y; omega
       refine str_cons.2 ⟨fun a ha => ?_, h⟩
       rcases tAr.1 ha with rfl | ha
       · exact hx
       · exact zHb hx (h1 a ha)
theorem zUY {x z : Rec} : ∀ {out : List Rec}, Str out → cz z (insR out x) = if zAw x z = 0 then bst (cz z out) x else cz z out
 | [], _ => by rw [zPt, zBM]; rfl
 | y :: r, h => by
   obtain ⟨h1, h2⟩ := str_cons.1 h
   rw [zLC]
   by_cases hl : zAw y x < 0
   · rw [if_pos hl, zBM, zBM, zUY h2]
     by_cases hx : zAw x z = 0
     · have hy : ¬ zAw y z = 0 := by have := zCr hl hx; omega
       simp only [hx, hy, if_true, if_false]
     · simp only [hx, if_false]
   · rw [if_neg hl]
     by_cases h0 : zAw y x = 0
     · rw [if_pos h0]
       by_cases hx : zAw x z = 0
       · have hy : zAw y z = 0 := zBD h0 hx
         have hr : cz z r = [] := zNq fun a ha e => by have := zCr (h1 a ha) e; omega
         rw [zBM z y, hr, if_pos hy, if_pos hx]
         simp only [bst]
         split
         · rw [zBM, if_pos hx, hr]
         · rw [zBM, if_pos hy, hr]
       · have hy : ¬ zAw y z = 0 := fun e => hx (zBD (cmp_first.zero.1 h0) e)
         rw [if_neg hx]
         split
         · rw [zBM, zBM, if_neg hx, if_neg hy]
         · rfl
     · rw [if_neg h0]
       have hxy : zAw x y < 0 := by have := cmp_first.sym x y; omega
       rw [zBM]
       by_cases hx : zAw x z = 0
       · have hn : cz z (y :: r) = [] := zNq fun a ha e => by
           have ha' : zAw x a < 0 := by
             rcases tAr.1 ha with rfl | ha
             · exact hxy
             · exact zHb hxy (h1 a ha)
           have := zCr ha' e; omega
         rw [if_pos hx, if_pos hx, hn]; rfl
       · rw [if_neg hx, if_neg hx]
theorem zH8 : ∀ (l out : List Rec), Str out → Str (l.foldl insR out) ∧ ∀ z, cz z (l.foldl insR out) = (cz z l).foldl bst (cz z out)
 | [], out, h => ⟨h, fun z => rfl⟩
 | x :: r, out, h => by
   obtain ⟨h1, h2⟩ := zH8 r _ (zPs (x := x) h)
   refine ⟨h1, fun z => ?_⟩
   rw [tCe, h2 z, zUY h, zBM]
   split <;> rfl
theorem zCW (l : List Rec) : Str (zAV l) := (zH8 l [] tBt).1
theorem zJy (l : List Rec) (z : Rec) : cz z (zAV l) = (cz z l).foldl bst [] := (zH8 l [] tBt).2 z
theorem zHZ {a b : Rec} (h : ltR b a = false) : zAw a b ≤ 0 := by
 have h1 := of_decide_eq_false h
 have s1 := cmp_first.sym b a; have s2 := cmp_first.sym a b
 unfold cmpR at h1
 by_cases hz : zAw b a = 0
 · omega
 · rw [if_pos hz] at h1; omega
theorem zPP {p : Rec} : ∀ {l : List Rec}, Srt ltR (p :: l) → ∀ y ∈ cptR p l, zAw p y < 0
 | [], _, y, h => by cases h
 | x :: r, hs, y, h => by
   obtain ⟨h1, h2⟩ := tAC.1 hs
   have hx := zHZ (h1 x (by simp))
   unfold cptR at h
   split at h
   · rename_i h0
     exact zFe (cmp_first.zero.1 h0) (zPP h2 y h)
   · rename_i h0
     have hp : zAw p x < 0 := by have := cmp_first.zero (a := x) (b := p); omega
     rcases tAr.1 h with rfl | h
     · exact hp
     · exact zHb hp (zPP h2 y h)
theorem zNr {p : Rec} : ∀ {l : List Rec}, Srt ltR (p :: l) → Str (cptR p l)
 | [], _ => tBt
 | x :: r, hs => by
   obtain ⟨h1, h2⟩ := tAC.1 hs
   unfold cptR
   split
   · exact zNr h2
   · exact str_cons.2 ⟨zPP h2, zNr h2⟩
theorem zVK {z p : Rec} : ∀ {l : List Rec}, Srt ltR (p :: l) → cz z (cptR p l) = if zAw p z = 0 then [] else (cz z l).head?.toList
 | [], _ => by simp [cptR, cz]
 | x :: r, hs => by
   obtain ⟨h1, h2⟩ := tAC.1 hs
   have hx := zHZ (h1 x (by simp))
   unfold cptR
   split
   · rename_i h0
     rw [zVK h2]
     by_cases hz : zAw x z = 0
     · rw [if_pos hz, if_pos (zBD (cmp_first.zero.1 h0) hz)]
     · rw [if_neg hz, if_neg (fun e => hz (zBD h0 e)), zBM, if_neg hz]
   · rename_i h0
     have hp : zAw p x < 0 := by have := cmp_first.zero (a := x) (b := p); omega
     rw [zBM, zVK h2]
     by_cases hz : zAw x z = 0
     · have hpz : ¬ zAw p z = 0 := by have := zCr hp hz; omega
       rw [if_pos hz, if_pos hz, if_neg hpz, zBM, if_pos hz]; rfl
     · rw [if_neg hz, if_neg hz]
       by_cases hpz : zAw p z = 0
       · rw [if_pos hpz, zNq (l := r)]
         · rfl
         · intro y hy e
           have hy2 := zHZ ((tAC.1 h2).1 y hy)
           have h3 : zAw z x < 0 := zFe (cmp_first.zero.1 hpz) hp
           have h4 := cmp_first.tr (x := x) (y := y) (z := z) hy2 (by omega)
           have s1 := cmp_first.sym z x; omega
       · rw [if_neg hpz, zBM, if_neg hz]
theorem zNt {l : List Rec} (h : Srt ltR l) : Str (zBc l) := by
 cases l with
 | nil => exact tBt
 | cons x r => exact str_cons.2 ⟨zPP h, zNr h⟩
theorem zRO {l : List Rec} (h : Srt ltR l) (z : Rec) : cz z (zBc l) = (cz z l).head?.toList := by
 cases l with
 | nil => rfl
 | cons x r =>
   show cz z (x :: cptR x r) = _
   rw [zBM, zBM, zVK h]
   by_cases hz : zAw x z = 0
   · rw [if_pos hz, if_pos hz, if_pos hz]; rfl
   · rw [if_neg hz, if_neg hz, if_neg hz]
theorem zUo {x y z : Rec} (hx : ¬ zAw x z = 0) (hy : zAw y z = 0) {y' : Rec} (hy' : zAw y' z = 0) : ltR x y = ltR x y' := by
 have hz := cmp_first.zero (a := y) (b := z); have hz' := cmp_first.zero (a := y') (b := z)
 have e1 : zAw y y' = 0 := zBD hy (hz'.1 hy')
 have n1 : ¬ zAw x y = 0 := fun e => hx (zBD e hy)
 have n2 : ¬ zAw x y' = 0 := fun e => hx (zBD e hy')
 unfold ltR cmpR
 rw [if_pos n1, if_pos n2]
 by_cases h : zAw x y < 0
 · rw [decide_eq_true h, decide_eq_true (zCr h e1)]
 · rw [decide_eq_false h, decide_eq_false (fun e => h (zCr e (cmp_first.zero.1 e1)))]
theorem zYu {x y z : Rec} (hx : zAw x z = 0) (hy : zAw y z = 0) : ltR x y = decide (x.ttl < y.ttl) := by
 have e1 : zAw x y = 0 := zBD hx (cmp_first.zero.1 hy)
 unfold ltR cmpR
 rw [if_neg (fun h => h e1)]
 unfold numC
 by_cases h : x.ttl < y.ttl
 · rw [if_pos h]; simp [h]
 · rw [if_neg h]; split <;> simp [h]
theorem mem_cz {z y : Rec} {l : List Rec} : y ∈ cz z l ↔ y ∈ l ∧ zAw y z = 0 := by simp [cz, eqz]
theorem yEs {out : List Rec} (h : Srt ltR out) (x z : Rec) : (cz z (insS ltR out x)).head?.toList = if zAw x z = 0 then bst ((cz z out).head?.toList) x else (cz z out).head?.toList := by
 have hf : ∀ p : Rec → Bool, cz z (out.filter p) = (cz z out).filter p := fun p => by simp only [cz, List.filter_filter]; congr 1; funext y; exact Bool.and_comm _ _
 have hc : cz z (insS ltR out x) = (cz z out).filter (fun y => !ltR x y) ++ (if zAw x z = 0 then [x] else []) ++ (cz z out).filter (fun y => ltR x y) := by
   have : cz z (insS ltR out x) = cz z (out.filter (fun y => !ltR x y)) ++ cz z (x :: out.filter (fun y => ltR x y)) := by unfold insS cz; rw [tCd]
   rw [this, zBM, hf, hf]
   split <;> simp
 have hso : Srt ltR (cz z out) := h.sublist List.filter_sublist
 have hm : ∀ y ∈ cz z out, zAw y z = 0 := fun y hy => (mem_cz.1 hy).2
 rw [hc]
 generalize cz z out = o at hso hm
 by_cases hx : zAw x z = 0
 · rw [if_pos hx, if_pos hx]
   cases o with
   | nil => rfl
   | cons y o' =>
     obtain ⟨h1, h2⟩ := tAC.1 hso
     have hy := zYu hx (hm y (by simp))
     by_cases ht : x.ttl < y.ttl
     · have hxy : ltR x y = true := by rw [hy]; exact decide_eq_true ht
       have hall : ∀ w ∈ y :: o', ltR x w = true := by
         intro w hw
         rcases tAr.1 hw with rfl | hw
         · exact hxy
         · exact wkR.lt_le hxy (h1 w hw)
       rw [tA9.2 (fun w hw => by rw [hall w hw]; decide)]
       simp [bst, ht]
     · have hxy : ltR x y = false := by rw [hy]; exact decide_eq_false ht
       rw [tBx]
       simp [hxy, bst, ht]
 · rw [if_neg hx, if_neg hx]
   cases o with
   | nil => rfl
   | cons y o' =>
     have hall : ∀ w ∈ y :: o', ltR x w = ltR x y := fun w hw => zUo hx (hm w hw) (hm y (by simp))
     cases hxy : ltR x y with
     | true => rw [tA9.2 (fun w hw => by rw [hall w hw, hxy]; decide), tB7.2 (fun w hw => by rw [hall w hw, hxy])]; rfl
     | false => rw [tBx]; simp [hxy]
theorem zPA : ∀ (l out : List Rec), Srt ltR out → ∀ z, (cz z (l.foldl (insS ltR) out)).head?.toList = (cz z l).foldl bst ((cz z out).head?.toList)
 | [], out, _, z => rfl
 | x :: r, out, h, z => by
   rw [tCe, zPA r _ (zPr wkR x h) z, yEs h, zBM]
   split <;> rfl
theorem zN7 (l : List Rec) : zBc (stS ltR l) = zAV l := by
 have hs := zEx wkR l
 refine zJp (zNt hs) (zCW l) fun z => ?_
 rw [zRO hs, zJy]
 exact zPA l [] tBt z
end Go.Mir
