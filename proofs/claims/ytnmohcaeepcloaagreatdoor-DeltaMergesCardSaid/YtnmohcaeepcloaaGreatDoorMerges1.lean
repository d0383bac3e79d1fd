/- What the program's functions answer, read off their code; no conditions. -/
import Derived.Test.YtnmohcaeepcloaaGreatDoorWalk3
import Derived.Below
import Derived.Orders
import Derived.Laws.Sem
import Derived.Laws.World
import Derived.Laws.Rows
import Derived.Laws.AppendOwn
import Derived.Laws.IdiomCopy
import Derived.Laws.Entries
import Derived.Laws.Cells
import Derived.Laws.Slices
import Derived.Laws.StructEq
import Derived.Laws.Strings
import Derived.Deep.AppendSrc
import Derived.Laws.Tables
import Derived.Laws.MakeOwn
import Derived.Laws.BytesString
import Derived.Great.BuildSlice
import Derived.Lib.UnsafeStr
import Derived.Tactics
import Derived.LoopN
import Derived.SizedLaws
import Derived.ChangeSlices
import Derived.Carry
import Derived.WideShapes
import Derived.Lib.Bytealg
import Derived.Laws.Externs
import Derived.Shelf.SlSortCmp.WholeK
import Derived.Shelf.SlSortCmp.NoneTotal
import Derived.Lib.QuietBelow
import Derived.Test.YtnmohcaeepcloaaGreatDoorRows
import Derived.KernelRfl
import Derived.Ground.SlsfProg
import Derived.WalkKit
import Derived.ProofKit
import Derived.OpenShut
import Derived.ShutString
import Derived.ChangeOld
import Derived.LaidMore
import Derived.Lay
import Derived.SevenTiedAt
import Derived.Stop.Joined
import Derived.Test.YtnmohcaeepcloaaGreatDoorTie
import Derived.Test.YtnmohcaeepcloaaGreatDoorCards
set_option linter.unusedSimpArgs false
set_option linter.unusedVariables false
set_option linter.defProp false
set_option maxRecDepth 100000
set_option maxHeartbeats 4000000
open Go Go.RowKit Go.Proofs
namespace Go.Mir
theorem zJc {n : Int} : IntKind.u8.wrap n = n % 256 := by
 simp [IntKind.wrap, IntKind.signed, IntKind.bits]
theorem zIL {n i j : Nat} {k k' : IntKind} (h : i ≤ j) (h' : j ≤ n) : bnds n (some (.it k (i : Int))) (some (.it k' (j : Int))) none = some (i, j, none) := by
 simp only [bnds, idx, Option.bind_some]
 rw [if_pos (by omega)]; rfl
theorem zGP {cx : Cx} {fn : Func} {c : Code} {ds : List D} {r : Res} {rs : List ResultVar} (hb : fn.body = some c) (hbs : cx.bs = 0) (hrs : fn.results.toList = rs)
   (h : EvX .go cx c ⟨zAq ds, ofHp [], 0⟩ fun e st t => (e = .nrm ∨ e = .ret) ∧ Ev t (resD cx.P st rs) fun out _ => ∃ id len sz es d fs, out = .own id 0 len :: d :: fs ∧ st.H id = .row sz true es ∧ len = es.length ∧ zAG (d :: fs) = true ∧ zBN es = true ∧ Res.rowd sz es (d :: fs) = r) : zAj cx fn [0] false ds = some r := by
 obtain ⟨⟨e, s⟩, he, hen, out, ho, id, len, sz, es, d, fs, rfl, hH, rfl, hfl, hm, rfl⟩ := h
 simp only at hH
 obtain ⟨f1, f2, f3⟩ := zEx hfl
 have hr : zBr s.H 60 [id] [] = [id] := by
   have : refsB (s.H id) = [] := by rw [hH]; rfl
   show zBr s.H (59 + 1) [id] [] = [id]
   simp only [zBr, List.contains_nil, Bool.false_eq_true, if_false, this, List.nil_append]
 have h1 : zAv (D.own id 0 es.length :: d :: fs) = [id] := by simp only [zAv, refs] at f1 ⊢; simpa using f1
 refine zF9 hb hbs [0] false ⟨(e, s), he, hen, _, hrs ▸ ho, ?_, [.row sz true es], ?_, .tup (.own 0 0 es.length :: d :: fs), ?_, rfl⟩
 · have h2 : closed s.H [id] = true := by simp [closed, hH, refsB]
   have h3 : zBN (D.own id 0 es.length :: d :: fs) = true := by simp only [zBN, zDL, Bool.true_and] at f2 ⊢; exact f2
   simp [zD4, distinct, dry, h1, hr, h2, h3, zI0, hH, hm]
 · simp only [h1]
   simp [zD4, hr, finB, zCR, hH]
 · have hmm : ∀ (own : List Nat) (H : Hp) (l : List D), (∀ d ∈ l, zGW d = true) → l.mapM (finV own H) = some l := by
     intro own H l
     induction l with
     | nil => intro _; rfl
     | cons x r ih => intro h; rw [List.mapM_cons, zKn (h x (by simp)), ih (fun d hd => h d (by simp [hd]))]; rfl
   have ho' : zD4 (D.own id 0 es.length :: d :: fs) [0] = [id] := by simp [zD4]
   rw [ho']
   simp only [finT]
   rw [List.mapM_cons, hmm _ _ _ f3]
   simp [finV, ixOf]
theorem zD3 {P : Program} {t e : TypeId} {H : Hp} {id len k sz : Nat} {pl : Bool} {es : List D} {kd : IntKind} (hu : P.underlying t = some (.slice e)) (hs : szT P e = some sz) (hH : H id = .row sz pl es) (hk : k ≤ len) :
   zBm P H t (.own id 0 len) none (some (.it kd (k : Int))) none = some (.own id 0 k) := by
 have hb : bnds len none (some (.it kd (k : Int))) none = some (0, k, none) := by
   simp only [bnds, idx, Option.bind_some]
   rw [if_pos ⟨Int.le_refl _, by omega, by omega⟩]; rfl
 simp [zBm, zDp, hu, hs, hH, hb]
theorem zH1 (a b : Rec) : again (recE a) (recL b) = recE b := rfl
end Go.Mir
namespace Go.Mir
attribute [local congr] Ev.congr EvC.congr EvW.congr Br.congr Ms.congr
theorem zIC {s : List UInt8} {i : Nat} (h : (i : Int) < s.length) (hn : ¬ okc s[i]! = true) (h42 : (s == [42]) = false) : zBQ s = false := by
 have : s.all okc = false := by
   cases ha : s.all okc with
   | false => rfl
   | true => exact absurd (List.all_eq_true.1 ha _ (zBO h)) hn
 simp [zBQ, h42, this]
noncomputable def zG2 := mkF (fun s : (List UInt8) => [.st s]) (fun s => Sm s) (fun s => Res.flat (.bo (zBQ s)))
theorem zG1 {s1 : List UInt8} (hp : Sm s1) : zG2 [.st s1] = some (Res.flat (.bo (zBQ s1))) := zAB (s := (s1)) (fun s s' h => by simp only [cI] at h; simp only [h]) hp
theorem zIn (cx : Cx) (hP : cx.P = Tryz.prog) (hbs : cx.bs = 0) (hk6 : cx.kp 6 = some [0, 3]) (s1 : List UInt8) (hl : Sm s1) : zAj cx Tryz.f127 [] false [.st s1] = some (Res.flat (.bo (zBQ s1))) := by
 have hw := zBL hl
 refine zAg (rs := [.tmp 2]) rfl hbs rfl ?_
 repeat' first
   | (refine zAY (σ := Nat) (fun s6 => [.st s1, .it .i64 s6]) (fun s6 => s6 ≤ s1.length ∧ (s1.take s6).all okc = true) (fun s6 => s1.length - s6) [0, 3] hbs (by exact hk6) (fun s6 => by simp only [zAv, refs, zBb, zBc, zBe, List.append_nil]) (fun s6 j6 => ?_) (s := 0) ?_ ?_)
   | (refine zAR (fun h => ?_) (fun h => ?_) <;> (try simp only [cN] at h))
   | (refine zAN ?_ ?_)
   | simp only [↓cD, cU, cQ, cP, cB, zAJ, unD, zAf, zAd, idx, reduceCtorEq, ↓reduceIte, ofV, ofC, zAq, Nat.reduceEqDiff, zAG, cG, implies_true, forall_const, immL, immD, Res.flat, ren, renL, Int.reduceEq, Int.reduceLT, Int.reduceLE, Int.reduceNe, deref, ldD, zAF, zAk, zAI, zAs, cC, ↓zAM, ↓zAQ, ↓zAL, ↓zAP, ↓zAK, ↓zAO, cV, cT, cF, cW, borT, borM, zAm, Res.via, zAu, zAb, refsB, Nat.reduceLT, Nat.reduceSub, Nat.reduceLeDiff, Nat.reduceMul, Nat.reduceAdd, Int.reduceToNat, appK, zAr, zAc, borL, zAl, zAn, zAE, cO, List.replicate, zAC, ofHp, ixOf, lens Tryz.underlying9, ixs Tryz.underlying9, hw, hP, *]
 all_goals first
   | rfl
   | exact ⟨Nat.zero_le _, rfl⟩
   | (refine ⟨_, rfl, ⟨by omega, ?_⟩, by omega⟩; rw [zB6 (by omega), j6.2, Bool.true_and]; exact (zHO _).2 (by omega))
   | (rw [zIC (i := s6) (by omega) (by rw [zHO]; omega) ‹_›]; done)
   | (rw [zAW (by omega)] at j6; simp [zBQ, j6.2]; omega)
   | (simp [zBQ]; omega)
   | (simp_all [zBQ]; done)
   | (simp only [zBQ, ‹(s1 == [42]) = false›, Bool.false_or]; simp; omega)
   | (simp only [zBQ, ‹(s1 == [42]) = true›, Bool.true_or]; done)
noncomputable def zDj := mkF (fun s : (List UInt8) => [.st s]) (fun s => Sm s) (fun s => Res.rowd 1 (((labs s).getD []).map D.st) [.bo (labs s).isSome])
theorem zB7 {s1 : List UInt8} (hp : Sm s1) : zDj [.st s1] = some (Res.rowd 1 (((labs s1).getD []).map D.st) [.bo (labs s1).isSome]) := zAB (s := (s1)) (fun s s' h => by simp only [cI] at h; simp only [h]) hp
theorem zCg {c : UInt8} {r cur : List UInt8} {b : Bool} (h : (c.toNat : Int) = 46) : zAZ (c :: r) cur b = if zBQ cur && (!(cur == [42]) || b) then (zAZ r [] false).map (cur :: ·) else none := by
 have : c = 46 := by rw [← UInt8.toNat_inj]; have : (46 : UInt8).toNat = 46 := rfl; omega
 simp only [zAZ, this, if_true]
theorem zGV {c : UInt8} {r cur : List UInt8} {b : Bool} (h : ¬ (c.toNat : Int) = 46) : zAZ (c :: r) cur b = zAZ r (cur ++ [c]) b := by
 have : ¬ c = 46 := fun e => h (by rw [e]; rfl)
 simp only [zAZ, this, if_false]
theorem zIB {s : List UInt8} (h : ¬ s = [46]) (h2 : (s.length : Int) < 2 ∨ 254 < (s.length : Int) ∨ ¬ ((s.getLastD 0).toNat : Int) = 46) : labs s = none := by
 unfold labs
 rw [if_neg h, if_pos]
 rcases h2 with h2 | h2 | h2
 · exact .inl (by omega)
 · exact .inr (.inl (by omega))
 · refine .inr (.inr fun e => h2 ?_)
   rw [e]; rfl
theorem zGU {s : List UInt8} (h : ¬ s = [46]) (h1 : ¬ (s.length : Int) < 2) (h2 : ¬ 254 < (s.length : Int)) (h3 : ((s.getLastD 0).toNat : Int) = 46) : labs s = zAZ s [] true := by
 unfold labs
 rw [if_neg h, if_neg]
 rintro (h4 | h4 | h4)
 · omega
 · omega
 · refine h4 ?_
   rw [← UInt8.toNat_inj]
   have : (46 : UInt8).toNat = 46 := rfl
   omega
theorem zIA : labs [46] = some [] := rfl
def zCu (s : List UInt8) (a i : Nat) : List UInt8 := (s.take i).drop a
theorem zFy {s : List UInt8} {a i : Nat} (h : (i : Int) < s.length) (ha : a ≤ i) : zCu s a (i + 1) = zCu s a i ++ [s[i]!] := by
 unfold zCu
 rw [takeN h, List.drop_append_of_le_length (by rw [List.length_take]; omega)]
theorem zCi {s : List UInt8} {i : Nat} : zCu s i i = [] := by unfold zCu; apply List.drop_eq_nil_of_le; rw [List.length_take]; omega
theorem zIG {s : List UInt8} {a i : Nat} (h : Sm s) : Sm (zCu s a i) := by
 have : (zCu s a i).length ≤ s.length := by unfold zCu; simp only [List.length_drop, List.length_take]; omega
 simp only [Sm] at *; omega
theorem zK6 {s : List UInt8} (h : 2 ≤ s.length) : s[((s.length : Int) - 1).toNat]! = s.getLastD 0 := by
 have : ((s.length : Int) - 1).toNat = s.length - 1 := by omega
 rw [this, getElem!_pos s (s.length - 1) (by omega), ← List.getLast_eq_getElem (by intro e; rw [e] at h; simp at h)]
 cases s with
 | nil => simp at h
 | cons a r => rw [List.getLastD_cons, List.getLast_eq_getLastD]

theorem zIl (cx : Cx) (hP : cx.P = Tryz.prog) (hbs : cx.bs = 0) (h127 : cx.orc 127 = some zG2) (hk8 : cx.kp 8 = some [0, 4, 5, 6]) (s1 : List UInt8) (hl : Sm s1) : zAj cx Tryz.f99 [0] false [.st s1] = some (Res.rowd 1 (((labs s1).getD []).map D.st) [.bo (labs s1).isSome]) := by
 have c127 := zAa h127
 have hw := zBL hl
 have hsl : ∀ (H : Hp) (a i : Nat), a ≤ i → i ≤ s1.length → zBm Tryz.prog H 9 (.st s1) (some (.it .i64 (a : Int))) (some (.it .i64 (i : Int))) none = some (.st (zCu s1 a i)) := fun H a i h h' => zHZ Tryz.underlying9 (zIL h h')
 have hix : ¬ (s1.length : Int) < 2 → zGd Tryz.prog 9 (.st s1) (.it .i64 (IntKind.i64.wrap ((s1.length : Int) - 1))) = some (.it .u8 ((s1.getLastD 0).toNat : Int)) := fun h => by rw [wrap64 (by omega) (by omega), ixsN Tryz.underlying9 (by omega) (by omega), zK6 (by omega)]
 refine zGP (rs := [.tmp 2, .tmp 3]) rfl hbs rfl ?_
 repeat' first
   | (refine zAw (σ := Nat × Nat × List (List UInt8)) (fun q => [.st s1, .own 0 0 q.2.2.length, .it .i64 q.2.1, .it .i64 q.1]) (fun q => [.row 1 true (q.2.2.map D.st)]) (fun q => q.1 ≤ s1.length ∧ q.2.1 ≤ q.1 ∧ q.2.2.length ≤ q.1 ∧ (zAZ (s1.drop q.1) (zCu s1 q.2.1 q.1) (decide (q.2.1 = 0))).map (q.2.2 ++ ·) = zAZ s1 [] true) (fun q => s1.length - q.1) [0, 4, 5, 6] hbs (by exact hk8) (fun q jq b hb => by simp only [List.mem_singleton] at hb; subst hb; exact zA2 (fun _ => rfl)) (fun q jq => ?_) (s := (0, 0, [])) [1] ?_ ?_ ?_ ?_ ?_)
   | (refine zAR (fun h => ?_) (fun h => ?_) <;> (try simp only [cN] at h))
   | (refine zAN ?_ ?_)
   | simp only [↓cD, cU, cQ, cP, cB, zAJ, unD, zAf, zAd, idx, reduceCtorEq, ↓reduceIte, ofV, ofC, zAq, Nat.reduceEqDiff, zAG, cG, implies_true, forall_const, immL, immD, Res.flat, ren, renL, Int.reduceEq, Int.reduceLT, Int.reduceLE, Int.reduceNe, deref, ldD, zAF, zAk, zAI, zAs, cC, c127, zAo, zAp, zG1, ↓zAM, ↓zAQ, ↓zAL, ↓zAP, ↓zAK, ↓zAO, cV, cT, cF, cW, borT, borM, zAm, Res.via, zAu, zAb, refsB, Nat.reduceLT, Nat.reduceSub, Nat.reduceLeDiff, Nat.reduceMul, Nat.reduceAdd, Int.reduceToNat, appK, zAr, zAc, borL, zAl, zAn, zAE, cO, List.replicate, zAC, ofHp, ixOf, lens Tryz.underlying9, ixs Tryz.underlying9, hw, hsl, hix, zIG hl, beq_iff_eq, Int.natCast_pos, hP, *]
 all_goals first
   | exact ⟨by omega, by omega⟩
   | omega
   | (refine ⟨_, _, _, _, _, _, rfl, rfl, rfl, rfl, rfl, ?_⟩; simp only [zIA]; rfl)
   | (refine ⟨_, _, _, _, _, _, rfl, rfl, rfl, rfl, rfl, ?_⟩; rw [zIB ‹_› (by omega)]; rfl)
   | (refine ⟨_, _, _, _, _, _, rfl, rfl, rfl, rfl, rfl, ?_⟩; rw [zGU ‹_› ‹_› ‹_› ‹_›, ← jq.2.2.2, drop_at (zs := s1) (i := q.1) (by omega), zCg ‹_›, if_neg (by simp only [Bool.and_eq_true, Bool.or_eq_true, not_and, not_or, *]; simp; try omega)]; rfl)
   | (refine ⟨_, _, _, _, _, _, rfl, rfl, by simp, rfl, zBP (fun _ => rfl), ?_⟩; rw [zGU ‹_› ‹_› ‹_› ‹_›, ← jq.2.2.2, zBw (zs := s1) (i := q.1) (by omega)]; simp only [zAZ, Option.map_some, List.append_nil]; rfl)
   | (refine ⟨[0], (q.1 + 1, q.2.1, q.2.2), ?_, ?_, ?_, ?_, ⟨by simp only; omega, by simp only; omega, by simp only; omega, ?_⟩, by simp only; omega⟩; rotate_left 4; (rw [← jq.2.2.2, drop_at (zs := s1) (i := q.1) (by omega), zGV ‹_›, zFy (by omega) jq.2.1]); all_goals (first | rfl | (simp only [zAv, refs, cR, ren, List.nil_append, List.append_nil, List.cons_append, List.map_cons, List.map_nil, Nat.reduceEqDiff, not_false_eq_true, ofHp, ixOf, if_true, Bool.and_self, Bool.true_and]; first | rfl | (simp; done))))
   | (refine ⟨[2], (q.1 + 1, q.1 + 1, q.2.2 ++ [zCu s1 q.2.1 q.1]), rfl, rfl, ?_, ?_, ⟨by simp only; omega, by simp only; omega, by simp only [List.length_append, List.length_cons, List.length_nil]; omega, ?_⟩, by simp only; omega⟩; rotate_left 2; (rw [← jq.2.2.2, drop_at (zs := s1) (i := q.1) (by omega), zCg ‹_›, if_pos (by simp only [Bool.and_eq_true, Bool.or_eq_true, *]; simp; exact .inl ‹_›)]; simp only [zCi, Nat.add_eq_zero_iff, Nat.one_ne_zero, and_false, decide_false]; cases zAZ (List.drop (q.1 + 1) s1) [] false <;> simp); all_goals (first | rfl | (simp only [zAv, refs, cR, ren, List.nil_append, List.append_nil, List.cons_append, List.map_cons, List.map_nil, Nat.reduceEqDiff, not_false_eq_true, ofHp, ixOf, if_true, Bool.and_self, Bool.true_and]; first | rfl | (simp; done))))
   | (refine ⟨[2], (q.1 + 1, q.1 + 1, q.2.2 ++ [[42]]), rfl, rfl, ?_, ?_, ⟨by simp only; omega, by simp only; omega, by simp only [List.length_append, List.length_cons, List.length_nil]; omega, ?_⟩, by simp only; omega⟩; rotate_left 2; (rw [← jq.2.2.2, drop_at (zs := s1) (i := q.1) (by omega), zCg ‹_›, ‹zCu s1 q.2.1 q.1 = [42]›, if_pos (by have e : q.2.1 = 0 := (by omega); rw [e]; rfl)]; simp only [zCi, Nat.add_eq_zero_iff, Nat.one_ne_zero, and_false, decide_false]; cases zAZ (List.drop (q.1 + 1) s1) [] false <;> simp); all_goals (first | rfl | (simp only [zAv, refs, cR, ren, List.nil_append, List.append_nil, List.cons_append, List.map_cons, List.map_nil, Nat.reduceEqDiff, not_false_eq_true, ofHp, ixOf, if_true, Bool.and_self, Bool.true_and]; first | rfl | (simp; done))))
   | exact ⟨Nat.zero_le _, by rw [zCi]; simp⟩
   | (first | rfl | (simp only [zAv, refs, cR, ren, List.nil_append, List.append_nil, List.cons_append, List.map_cons, List.map_nil, Nat.reduceEqDiff, not_false_eq_true, ofHp, ixOf, if_true, Bool.and_self, Bool.true_and]; first | rfl | (simp; done)))
noncomputable def zIS := mkF (fun s : (List (List UInt8)) × (List (List UInt8)) => [zDa s.1, zDa s.2]) (fun s => Sm s.1 ∧ Sm s.2) (fun s => Res.flat (.it .i64 (zBS s.1 s.2 : Int)))
theorem zFg {a : List (List UInt8)} {b : List (List UInt8)} (hp : Sm a ∧ Sm b) : zIS [zDa a, zDa b] = some (Res.flat (.it .i64 (zBS a b : Int))) := zAB (s := (a, b)) (fun s s' h => by simp only [cI] at h; simp only [h]) hp
theorem zD7 {a b : List (List UInt8)} {k : Nat} (ha : (k : Int) < a.length) (hb : (k : Int) < b.length) : cpre (a.reverse.drop k) (b.reverse.drop k) = if a.reverse[k]! = b.reverse[k]! then cpre (a.reverse.drop (k + 1)) (b.reverse.drop (k + 1)) + 1 else 0 := by
 rw [drop_at (zs := a.reverse) (i := k) (by simpa using ha), drop_at (zs := b.reverse) (i := k) (by simpa using hb)]
 simp only [cpre]
theorem zIH {a b : List (List UInt8)} {k : Nat} (h : ¬ ((k : Int) < a.length) ∨ ¬ ((k : Int) < b.length)) : cpre (a.reverse.drop k) (b.reverse.drop k) = 0 := by
 rcases h with h | h
 · rw [zBw (zs := a.reverse) (by simpa using h)]; simp [cpre]
 · rw [zBw (zs := b.reverse) (by simpa using h)]; cases List.drop k a.reverse <;> simp [cpre]

theorem zKQ (cx : Cx) (hP : cx.P = Tryz.prog) (hbs : cx.bs = 0) (hk2 : cx.kp 2 = some [0, 1, 5]) (a b : List (List UInt8)) (hl : Sm a ∧ Sm b) : zAj cx Tryz.f104 [] false [zDa a, zDa b] = some (Res.flat (.it .i64 (zBS a b : Int))) := by
 have ha := hl.1; have hb := hl.2; simp only [Sm] at ha hb; clear hl
 have hxa : ∀ (H : Hp) (k : Nat), (k : Int) < a.length → zA6 Tryz.prog H 79 (zDa a) (.it .i64 (IntKind.i64.wrap (IntKind.i64.wrap ((a.length : Int) - 1) - (k : Int)))) = some (.elt [.st a.reverse[k]!]) := fun H k h => by
   have e : IntKind.i64.wrap (IntKind.i64.wrap ((a.length : Int) - 1) - (k : Int)) = ((a.length - 1 - k : Nat) : Int) := by rw [wrap64 (n := (a.length : Int) - 1) (by omega) (by omega), wrap64 (by omega) (by omega)]; omega
   rw [e, zQw _ _ _ _ _ (by omega), rev_at (by omega)]; rfl
 have hxb : ∀ (H : Hp) (k : Nat), (k : Int) < b.length → zA6 Tryz.prog H 79 (zDa b) (.it .i64 (IntKind.i64.wrap (IntKind.i64.wrap ((b.length : Int) - 1) - (k : Int)))) = some (.elt [.st b.reverse[k]!]) := fun H k h => by
   have e : IntKind.i64.wrap (IntKind.i64.wrap ((b.length : Int) - 1) - (k : Int)) = ((b.length - 1 - k : Nat) : Int) := by rw [wrap64 (n := (b.length : Int) - 1) (by omega) (by omega), wrap64 (by omega) (by omega)]; omega
   rw [e, zQw _ _ _ _ _ (by omega), rev_at (by omega)]; rfl
 have hw : ∀ k : Nat, (k : Int) < a.length → IntKind.i64.wrap ((k : Int) + 1) = ((k + 1 : Nat) : Int) := zBL ha
 refine zAg (rs := [.tmp 4]) rfl hbs rfl ?_
 repeat' first
   | (refine zAY (σ := Nat) (fun s2 => [zDa a, zDa b, .it .i64 s2]) (fun s2 => s2 ≤ a.length ∧ s2 + cpre (a.reverse.drop s2) (b.reverse.drop s2) = zBS a b) (fun s2 => a.length - s2) [0, 1, 5] hbs (by exact hk2) (fun s2 => by simp only [zAv, refs, zBb, zBc, zBe, List.append_nil]) (fun s2 j2 => ?_) (s := 0) ?_ ?_)
   | (refine zAR (fun h => ?_) (fun h => ?_) <;> (try simp only [cN] at h))
   | (refine zAN ?_ ?_)
   | simp only [↓cD, cU, cQ, cP, cB, zAJ, unD, zAf, zAd, idx, reduceCtorEq, ↓reduceIte, ofV, ofC, zAq, Nat.reduceEqDiff, zAG, cG, implies_true, forall_const, immL, immD, Res.flat, ren, renL, Int.reduceEq, Int.reduceLT, Int.reduceLE, Int.reduceNe, deref, ldD, zAF, zAk, zAI, zAs, cC, cS, refs, zAD, okId, List.all_nil, List.all_cons, Nat.reduceMul, Nat.reduceAdd, Nat.reduceLeDiff, zAv, ↓zAM, ↓zAQ, ↓zAL, ↓zAP, ↓zAK, ↓zAO, cV, cT, cF, cW, borT, borM, zAm, Res.via, zAu, zAb, refsB, Nat.reduceLT, Nat.reduceSub, Nat.reduceLeDiff, Nat.reduceMul, Nat.reduceAdd, Int.reduceToNat, appK, zAr, zAc, borL, zAl, zAn, zAE, cO, List.replicate, zAC, ofHp, ixOf, cS, refs, zAD, okId, List.all_nil, List.all_cons, Nat.reduceMul, Nat.reduceAdd, Nat.reduceLeDiff, zAv, hxa, hxb, hw, hP, *]
 all_goals first
   | rfl
   | exact ⟨Nat.zero_le _, by simp [zBS]⟩
   | (refine ⟨_, rfl, ⟨by omega, ?_⟩, by omega⟩; rw [zD7 (by omega) (by omega), if_pos (beq_iff_eq.1 ‹_›)] at j2; omega)
   | (rw [zIH (by omega)] at j2; rw [← j2.2]; rfl)
   | (rw [zD7 (by omega) (by omega), if_neg (beq_eq_false_iff_ne.1 ‹_›)] at j2; rw [← j2.2]; rfl)

noncomputable def zLg := mkF (fun s : (List UInt8) × (List UInt8) => [.st s.1, .st s.2]) (fun s => True) (fun s => Res.flat (.it .i64 (zBj s.1 s.2)))
theorem zIP {s1 : List UInt8} {s2 : List UInt8} : zLg [.st s1, .st s2] = some (Res.flat (.it .i64 (zBj s1 s2))) := zAB (s := (s1, s2)) (fun s s' h => by simp only [cI] at h; simp only [h]) trivial
theorem runText (cx : Cx) (hP : cx.P = Tryz.prog) (hbs : cx.bs = 0) (s1 s2 : List UInt8)  : zAj cx Tryz.f167 [] false [.st s1, .st s2] = some (Res.flat (.it .i64 (zBj s1 s2))) := by
 refine zAg (rs := [.tmp 4]) rfl hbs rfl ?_
 repeat' first
   | (refine zAR (fun h => ?_) (fun h => ?_) <;> (try simp only [cN] at h))
   | (refine zAN ?_ ?_)
   | simp only [↓cD, cU, cQ, cP, cB, zAJ, unD, zAf, zAd, idx, reduceCtorEq, ↓reduceIte, ofV, ofC, zAq, Nat.reduceEqDiff, zAG, cG, implies_true, forall_const, immL, immD, Res.flat, ren, renL, Int.reduceEq, Int.reduceLT, Int.reduceLE, Int.reduceNe, deref, ldD, zAF, zAk, zAI, zAs, cC, ↓zAM, ↓zAQ, ↓zAL, ↓zAP, ↓zAK, ↓zAO, cV, cT, cF, cW, borT, borM, zAm, Res.via, zAu, zAb, refsB, Nat.reduceLT, Nat.reduceSub, Nat.reduceLeDiff, Nat.reduceMul, Nat.reduceAdd, Int.reduceToNat, appK, zAr, zAc, borL, zAl, zAn, zAE, cO, List.replicate, zAC, ofHp, ixOf, hP, *]
 all_goals first | rfl | (simp [zBj, *]; done)
noncomputable def zCP := mkF (fun s : (List UInt8) => [.st s]) (fun s => Sm s) (fun s => Res.flat (.bo (vName s)))
theorem zBK {s1 : List UInt8} (hp : Sm s1) : zCP [.st s1] = some (Res.flat (.bo (vName s1))) := zAB (s := (s1)) (fun s s' h => by simp only [cI] at h; simp only [h]) hp
theorem zIi (cx : Cx) (hP : cx.P = Tryz.prog) (hbs : cx.bs = 0) (h99 : cx.orc 99 = some zDj) (s1 : List UInt8) (hl : Sm s1) : zAj cx Tryz.f59 [] false [.st s1] = some (Res.flat (.bo (vName s1))) := by
 have c99 := zAa h99
 refine zAg (rs := [.tmp 2]) rfl hbs rfl ?_
 repeat' first
   | (refine zAR (fun h => ?_) (fun h => ?_) <;> (try simp only [cN] at h))
   | (refine zAN ?_ ?_)
   | simp only [↓cD, cU, cQ, cP, cB, zAJ, unD, zAf, zAd, idx, reduceCtorEq, ↓reduceIte, ofV, ofC, zAq, Nat.reduceEqDiff, zAG, cG, implies_true, forall_const, immL, immD, Res.flat, ren, renL, Int.reduceEq, Int.reduceLT, Int.reduceLE, Int.reduceNe, deref, ldD, zAF, zAk, zAI, zAs, cC, c99, zAo, zAp, zB7, ↓zAM, ↓zAQ, ↓zAL, ↓zAP, ↓zAK, ↓zAO, cV, cT, cF, cW, borT, borM, zAm, Res.via, zAu, zAb, refsB, Nat.reduceLT, Nat.reduceSub, Nat.reduceLeDiff, Nat.reduceMul, Nat.reduceAdd, Int.reduceToNat, appK, zAr, zAc, borL, zAl, zAn, zAE, cO, List.replicate, zAC, ofHp, ixOf, Res.row, Res.rowd, hP, *]
 all_goals first | rfl | (simp [vName]; done)
noncomputable def zEa := mkF (fun s : (List UInt8) => [.st s]) (fun s => Sm s) (fun s => Res.row 1 (((labs s).getD []).map D.st))
theorem zEi {s1 : List UInt8} (hp : Sm s1) : zEa [.st s1] = some (Res.row 1 (((labs s1).getD []).map D.st)) := zAB (s := (s1)) (fun s s' h => by simp only [cI] at h; simp only [h]) hp
theorem zGL (cx : Cx) (hP : cx.P = Tryz.prog) (hbs : cx.bs = 0) (h99 : cx.orc 99 = some zDj) (s1 : List UInt8) (hl : Sm s1) : zAj cx Tryz.f106 [0] false [.st s1] = some (Res.row 1 (((labs s1).getD []).map D.st)) := by
 have c99 := zAa h99
 refine zDv (rs := [.tmp 2]) rfl hbs rfl ?_
 repeat' first
   | (refine zAR (fun h => ?_) (fun h => ?_) <;> (try simp only [cN] at h))
   | (refine zAN ?_ ?_)
   | simp only [↓cD, cU, cQ, cP, cB, zAJ, unD, zAf, zAd, idx, reduceCtorEq, ↓reduceIte, ofV, ofC, zAq, Nat.reduceEqDiff, zAG, cG, implies_true, forall_const, immL, immD, Res.flat, ren, renL, Int.reduceEq, Int.reduceLT, Int.reduceLE, Int.reduceNe, deref, ldD, zAF, zAk, zAI, zAs, cC, c99, zAo, zAp, zB7, ↓zAM, ↓zAQ, ↓zAL, ↓zAP, ↓zAK, ↓zAO, cV, cT, cF, cW, borT, borM, zAm, Res.via, zAu, zAb, refsB, Nat.reduceLT, Nat.reduceSub, Nat.reduceLeDiff, Nat.reduceMul, Nat.reduceAdd, Int.reduceToNat, appK, zAr, zAc, borL, zAl, zAn, zAE, cO, List.replicate, zAC, ofHp, ixOf, Res.row, Res.rowd, hP, *]
 all_goals first | (refine ⟨_, _, _, _, rfl, rfl, ?_, ?_, ?_⟩ <;> first | rfl | simp; done | exact zBP (fun _ => rfl))
theorem zIz (n : List UInt8) : Sm ((labs n).getD []) := by have := zCl n; simp only [Sm] at *; omega
theorem zIj (cx : Cx) (hP : cx.P = Tryz.prog) (hbs : cx.bs = 0) (h99 : cx.orc 99 = some zDj) (h104 : cx.orc 104 = some zIS) (s1 s2 : List UInt8) (hl : Sm s1 ∧ Sm s2) : zAj cx Tryz.f71 [] false [.st s1, .st s2] = some (Res.flat (.bo (underB s1 s2))) := by
 have c99 := zAa h99
 have c104 := zAa h104
 have hs1 := hl.1; have hs2 := hl.2; have hs3 := zIz s1; have hs4 := zIz s2
 refine zAg (rs := [.tmp 4]) rfl hbs rfl ?_
 repeat' first
   | (refine zAR (fun h => ?_) (fun h => ?_) <;> (try simp only [cN] at h))
   | (refine zAN ?_ ?_)
   | simp only [↓cD, cU, cQ, cP, cB, zAJ, unD, zAf, zAd, idx, reduceCtorEq, ↓reduceIte, ofV, ofC, zAq, Nat.reduceEqDiff, zAG, cG, implies_true, forall_const, immL, immD, Res.flat, ren, renL, Int.reduceEq, Int.reduceLT, Int.reduceLE, Int.reduceNe, deref, ldD, zAF, zAk, zAI, zAs, cC, c99, c104, zAo, zAp, zB7, zFg, ↓zAM, ↓zAQ, ↓zAL, ↓zAP, ↓zAK, ↓zAO, cV, cT, cF, cW, borT, borM, zAm, Res.via, zAu, zAb, refsB, Nat.reduceLT, Nat.reduceSub, Nat.reduceLeDiff, Nat.reduceMul, Nat.reduceAdd, Int.reduceToNat, appK, zAr, zAc, borL, zAl, zAn, zAE, cO, List.replicate, zAC, ofHp, ixOf, hs1, hs2, hs3, hs4, Res.row, Res.rowd, hP, *]
 all_goals first | rfl | (simp [underB, *]; done) | (simp [underB, *]; omega)
theorem zEU {l : List (List UInt8)} {k : Nat} (hs : l.length ≤ 254) (h : (k : Int) < l.length) : IntKind.i64.wrap (IntKind.i64.wrap ((l.length : Int) - 1) - (k : Int)) = ((l.length - 1 - k : Nat) : Int) := by rw [wrap64 (n := (l.length : Int) - 1) (by omega) (by omega), wrap64 (by omega) (by omega)]; omega
theorem zJT {l : List (List UInt8)} {k : Nat} (h : (k : Int) < l.length) : 0 ≤ ((l.length - 1 - k : Nat) : Int) ∧ ((l.length - 1 - k : Nat) : Int) < l.length := by omega
theorem zKW (cx : Cx) (hP : cx.P = Tryz.prog) (hbs : cx.bs = 0) (h99 : cx.orc 99 = some zDj) (h167 : cx.orc 167 = some zLg) (h104 : cx.orc 104 = some zIS) (r99 : cx.rd.contains 99 = true) (r167 : cx.rd.contains 167 = true) (r104 : cx.rd.contains 104 = true) (s1 s2 : List UInt8) (hl : Sm s1 ∧ Sm s2) : zAj cx Tryz.f136 [] false [.st s1, .st s2] = some (Res.flat (.it .i64 (cmpB s1 s2))) := by
 have c99 := zAa h99
 have d99 := zAh r99 h99
 have c167 := zAa h167
 have d167 := zAh r167 h167
 have c104 := zAa h104
 have d104 := zAh r104 h104
 have hs1 := hl.1; have hs2 := hl.2; have hs3 := zIz s1; have hs4 := zIz s2
 have e1a : ((zBS ((labs s1).getD []) ((labs s2).getD []) : Nat) : Int) < ((labs s1).getD []).length → _ := fun h => zEU (zCl s1) h
 have e2a : ((zBS ((labs s1).getD []) ((labs s2).getD []) : Nat) : Int) < ((labs s1).getD []).length → _ := fun h => zJT h
 have e3a : ((zBS ((labs s1).getD []) ((labs s2).getD []) : Nat) : Int) < ((labs s1).getD []).length → _ := fun h => zKt h
 have e1b : ((zBS ((labs s1).getD []) ((labs s2).getD []) : Nat) : Int) < ((labs s2).getD []).length → _ := fun h => zEU (zCl s2) h
 have e2b : ((zBS ((labs s1).getD []) ((labs s2).getD []) : Nat) : Int) < ((labs s2).getD []).length → _ := fun h => zJT h
 have e3b : ((zBS ((labs s1).getD []) ((labs s2).getD []) : Nat) : Int) < ((labs s2).getD []).length → _ := fun h => zKt h
 refine zAg (rs := [.tmp 4]) rfl hbs rfl ?_
 repeat' first
   | (refine zAR (fun h => ?_) (fun h => ?_) <;> (try simp only [cN] at h))
   | (refine zAN ?_ ?_)
   | simp only [↓cD, cU, cQ, cP, cB, zAJ, unD, zAf, zAd, idx, reduceCtorEq, ↓reduceIte, ofV, ofC, zAq, Nat.reduceEqDiff, zAG, cG, implies_true, forall_const, immL, immD, Res.flat, ren, renL, Int.reduceEq, Int.reduceLT, Int.reduceLE, Int.reduceNe, deref, ldD, zAF, zAk, zAI, zAs, cC, cS, refs, zAD, okId, List.all_nil, List.all_cons, Nat.reduceMul, Nat.reduceAdd, Nat.reduceLeDiff, zAv, c99, c167, c104, d99, d167, d104, zAo, zAp, zB7, zIP, zFg, ↓zAM, ↓zAQ, ↓zAL, ↓zAP, ↓zAK, ↓zAO, cV, cT, cF, cW, borT, borM, zAm, Res.via, zAu, zAb, refsB, Nat.reduceLT, Nat.reduceSub, Nat.reduceLeDiff, Nat.reduceMul, Nat.reduceAdd, Int.reduceToNat, appK, zAr, zAc, borL, zAl, zAn, zAE, cO, List.replicate, zAC, ofHp, ixOf, cS, refs, zAD, okId, List.all_nil, List.all_cons, Nat.reduceMul, Nat.reduceAdd, Nat.reduceLeDiff, zAv, hs1, hs2, hs3, hs4, Res.row, Res.rowd, hP, *]
 all_goals first | rfl | (simp [cmpB, *]; done) | (simp [cmpB, *]; omega)
theorem zKO (cx : Cx) (hP : cx.P = Tryz.prog) (hbs : cx.bs = 0) (a1:Adr)  : zAj cx Tryz.f131 [] false [adrE a1] = some (Res.flat (.bo (vAdr a1))) := by
 refine zAg (rs := [.tmp 2]) rfl hbs rfl ?_
 repeat' first
   | (refine zAR (fun h => ?_) (fun h => ?_) <;> (try simp only [cN] at h))
   | (refine zAN ?_ ?_)
   | simp only [↓cD, cU, cQ, cP, cB, zAJ, unD, zAf, zAd, idx, reduceCtorEq, ↓reduceIte, ofV, ofC, zAq, Nat.reduceEqDiff, zAG, cG, implies_true, forall_const, immL, immD, Res.flat, ren, renL, Int.reduceEq, Int.reduceLT, Int.reduceLE, Int.reduceNe, deref, ldD, zAF, zAk, zAI, zAs, cC, ↓zAM, ↓zAQ, ↓zAL, ↓zAP, ↓zAK, ↓zAO, cV, cT, cF, cW, borT, borM, zAm, Res.via, zAu, zAb, refsB, Nat.reduceLT, Nat.reduceSub, Nat.reduceLeDiff, Nat.reduceMul, Nat.reduceAdd, Int.reduceToNat, appK, zAr, zAc, borL, zAl, zAn, zAE, cO, List.replicate, zAC, ofHp, ixOf, hP, *]
 all_goals first | rfl | (simp [vAdr, *]; done) | (simp [vAdr, *]; omega) | (simp [vAdr, *]; rfl) | (simp [vAdr, dat0, *]; done)
noncomputable def zLj := mkF (fun s : Int => [.it .i64 s]) (fun s => True) (fun s => Res.flat (.st (mnem s)))
theorem zIT {t1 : Int} : zLj [.it .i64 t1] = some (Res.flat (.st (mnem t1))) := zAB (s := (t1)) (fun s s' h => by simp only [cI] at h; simp only [h]) trivial
theorem zKT (cx : Cx) (hP : cx.P = Tryz.prog) (hbs : cx.bs = 0) (t1:Int)  : zAj cx Tryz.f129 [] false [.it .i64 t1] = some (Res.flat (.st (mnem t1))) := by
 refine zAg (rs := [.tmp 2]) rfl hbs rfl ?_
 repeat' first
   | (refine zAR (fun h => ?_) (fun h => ?_) <;> (try simp only [cN] at h))
   | (refine zAN ?_ ?_)
   | simp only [↓cD, cU, cQ, cP, cB, zAJ, unD, zAf, zAd, idx, reduceCtorEq, ↓reduceIte, ofV, ofC, zAq, Nat.reduceEqDiff, zAG, cG, implies_true, forall_const, immL, immD, Res.flat, ren, renL, Int.reduceEq, Int.reduceLT, Int.reduceLE, Int.reduceNe, deref, ldD, zAF, zAk, zAI, zAs, cC, ↓zAM, ↓zAQ, ↓zAL, ↓zAP, ↓zAK, ↓zAO, cV, cT, cF, cW, borT, borM, zAm, Res.via, zAu, zAb, refsB, Nat.reduceLT, Nat.reduceSub, Nat.reduceLeDiff, Nat.reduceMul, Nat.reduceAdd, Int.reduceToNat, appK, zAr, zAc, borL, zAl, zAn, zAE, cO, List.replicate, zAC, ofHp, ixOf, hP, *]
 all_goals first | rfl | (simp [mnem, *]; done) | (simp [mnem, *]; omega) | (simp [mnem, *]; rfl) | (simp [mnem, dat0, *]; done)
noncomputable def zDn := mkF (fun s : Int => [.it .i64 s]) (fun s => True) (fun s => Res.flat (.bo (known s)))
theorem zB8 {t1 : Int} : zDn [.it .i64 t1] = some (Res.flat (.bo (known t1))) := zAB (s := (t1)) (fun s s' h => by simp only [cI] at h; simp only [h]) trivial
theorem zIm (cx : Cx) (hP : cx.P = Tryz.prog) (hbs : cx.bs = 0) (h129 : cx.orc 129 = some zLj) (t1:Int)  : zAj cx Tryz.f101 [] false [.it .i64 t1] = some (Res.flat (.bo (known t1))) := by
 have c129 := zAa h129
 refine zAg (rs := [.tmp 2]) rfl hbs rfl ?_
 repeat' first
   | (refine zAR (fun h => ?_) (fun h => ?_) <;> (try simp only [cN] at h))
   | (refine zAN ?_ ?_)
   | simp only [↓cD, cU, cQ, cP, cB, zAJ, unD, zAf, zAd, idx, reduceCtorEq, ↓reduceIte, ofV, ofC, zAq, Nat.reduceEqDiff, zAG, cG, implies_true, forall_const, immL, immD, Res.flat, ren, renL, Int.reduceEq, Int.reduceLT, Int.reduceLE, Int.reduceNe, deref, ldD, zAF, zAk, zAI, zAs, cC, c129, zAo, zAp, zIT, ↓zAM, ↓zAQ, ↓zAL, ↓zAP, ↓zAK, ↓zAO, cV, cT, cF, cW, borT, borM, zAm, Res.via, zAu, zAb, refsB, Nat.reduceLT, Nat.reduceSub, Nat.reduceLeDiff, Nat.reduceMul, Nat.reduceAdd, Int.reduceToNat, appK, zAr, zAc, borL, zAl, zAn, zAE, cO, List.replicate, zAC, ofHp, ixOf, hP, *]
 all_goals first | rfl | (simp [known, *]; done) | (simp [known, *]; omega) | (simp [known, *]; rfl) | (simp [known, dat0, *]; done)
noncomputable def zLf := mkF (fun s : Int × Dat => [.it .i64 s.1, datE s.2]) (fun s => True) (fun s => Res.flat (datE (zA1 s.1 s.2)))
theorem zIO {t1 : Int} {d1 : Dat} : zLf [.it .i64 t1, datE d1] = some (Res.flat (datE (zA1 t1 d1))) := zAB (s := (t1, d1)) (fun s s' h => by simp only [cI] at h; simp only [h]) trivial
theorem zKP (cx : Cx) (hP : cx.P = Tryz.prog) (hbs : cx.bs = 0) (t1:Int) (d1:Dat)  : zAj cx Tryz.f130 [] false [.it .i64 t1, datE d1] = some (Res.flat (datE (zA1 t1 d1))) := by
 refine zAg (rs := [.cell 4 51]) rfl hbs rfl ?_
 repeat' first
   | (refine zAR (fun h => ?_) (fun h => ?_) <;> (try simp only [cN] at h))
   | (refine zAN ?_ ?_)
   | simp only [↓cD, cU, cQ, cP, cB, zAJ, unD, zAf, zAd, idx, reduceCtorEq, ↓reduceIte, ofV, ofC, zAq, Nat.reduceEqDiff, zAG, cG, implies_true, forall_const, immL, immD, Res.flat, ren, renL, Int.reduceEq, Int.reduceLT, Int.reduceLE, Int.reduceNe, deref, ldD, zAF, zAk, zAI, zAs, cC, ↓zAM, ↓zAQ, ↓zAL, ↓zAP, ↓zAK, ↓zAO, cV, cT, cF, cW, borT, borM, zAm, Res.via, zAu, zAb, refsB, Nat.reduceLT, Nat.reduceSub, Nat.reduceLeDiff, Nat.reduceMul, Nat.reduceAdd, Int.reduceToNat, appK, zAr, zAc, borL, zAl, zAn, zAE, cO, List.replicate, zAC, ofHp, ixOf, hP, *]
 all_goals first | rfl | (simp [zA1, *]; done) | (simp [zA1, *]; omega) | (simp [zA1, *]; rfl) | (simp [zA1, dat0, *]; done)
noncomputable def FIn := mkF (fun s : Int × Int => [.it .i64 s.1, .it .i64 s.2]) (fun s => True) (fun s => Res.flat (.bo (inB s.1 s.2)))
theorem zO1 {n1 : Int} {m1 : Int} : FIn [.it .i64 n1, .it .i64 m1] = some (Res.flat (.bo (inB n1 m1))) := zAB (s := (n1, m1)) (fun s s' h => by simp only [cI] at h; simp only [h]) trivial
theorem zTf (cx : Cx) (hP : cx.P = Tryz.prog) (hbs : cx.bs = 0) (n1:Int) (m1:Int)  : zAj cx Tryz.f133 [] false [.it .i64 n1, .it .i64 m1] = some (Res.flat (.bo (inB n1 m1))) := by
 refine zAg (rs := [.tmp 4]) rfl hbs rfl ?_
 repeat' first
   | (refine zAR (fun h => ?_) (fun h => ?_) <;> (try simp only [cN] at h))
   | (refine zAN ?_ ?_)
   | simp only [↓cD, cU, cQ, cP, cB, zAJ, unD, zAf, zAd, idx, reduceCtorEq, ↓reduceIte, ofV, ofC, zAq, Nat.reduceEqDiff, zAG, cG, implies_true, forall_const, immL, immD, Res.flat, ren, renL, Int.reduceEq, Int.reduceLT, Int.reduceLE, Int.reduceNe, deref, ldD, zAF, zAk, zAI, zAs, cC, ↓zAM, ↓zAQ, ↓zAL, ↓zAP, ↓zAK, ↓zAO, cV, cT, cF, cW, borT, borM, zAm, Res.via, zAu, zAb, refsB, Nat.reduceLT, Nat.reduceSub, Nat.reduceLeDiff, Nat.reduceMul, Nat.reduceAdd, Int.reduceToNat, appK, zAr, zAc, borL, zAl, zAn, zAE, cO, List.replicate, zAC, ofHp, ixOf, hP, *]
 all_goals first | rfl | (simp [inB, *]; done) | (simp [inB, *]; omega) | (simp [inB, *]; rfl) | (simp [inB, dat0, *]; done)
theorem zGF {s : List UInt8} (h : vName s = true) : 0 < (s.length : Int) := by
 cases s with
 | nil => revert h; decide
 | cons a r => rw [List.length_cons]; omega
noncomputable def zLk := mkF (fun s : (List UInt8) => [.st s]) (fun s => Sm s) (fun s => Res.flat (.bo (zBX s)))
theorem zIU {s1 : List UInt8} (hp : Sm s1) : zLk [.st s1] = some (Res.flat (.bo (zBX s1))) := zAB (s := (s1)) (fun s s' h => by simp only [cI] at h; simp only [h]) hp
theorem zKU (cx : Cx) (hP : cx.P = Tryz.prog) (hbs : cx.bs = 0) (h59 : cx.orc 59 = some zCP) (s1:List UInt8) (hl : Sm s1) : zAj cx Tryz.f132 [] false [.st s1] = some (Res.flat (.bo (zBX s1))) := by
 have c59 := zAa h59
 have hix := fun h : vName s1 = true => ixsN Tryz.underlying9 (k := .i64) (n := 0) (by omega) (zGF h)
 refine zAg (rs := [.tmp 2]) rfl hbs rfl ?_
 repeat' first
   | (refine zAR (fun h => ?_) (fun h => ?_) <;> (try simp only [cN] at h))
   | (refine zAN ?_ ?_)
   | simp only [↓cD, cU, cQ, cP, cB, zAJ, unD, zAf, zAd, idx, reduceCtorEq, ↓reduceIte, ofV, ofC, zAq, Nat.reduceEqDiff, zAG, cG, implies_true, forall_const, immL, immD, Res.flat, ren, renL, Int.reduceEq, Int.reduceLT, Int.reduceLE, Int.reduceNe, deref, ldD, zAF, zAk, zAI, zAs, cC, c59, zAo, zAp, zBK, ↓zAM, ↓zAQ, ↓zAL, ↓zAP, ↓zAK, ↓zAO, cV, cT, cF, cW, borT, borM, zAm, Res.via, zAu, zAb, refsB, Nat.reduceLT, Nat.reduceSub, Nat.reduceLeDiff, Nat.reduceMul, Nat.reduceAdd, Int.reduceToNat, appK, zAr, zAc, borL, zAl, zAn, zAE, cO, List.replicate, zAC, ofHp, ixOf, hix, hP, *]
 all_goals first | rfl | (simp [zBX, *]; done) | (simp [zBX, *]; omega) | (simp [zBX, *]; rfl) | (simp [zBX, dat0, *]; done)
theorem zIk (cx : Cx) (hP : cx.P = Tryz.prog) (hbs : cx.bs = 0) (s1:List UInt8)  : zAj cx Tryz.f134 [] false [.st s1] = some (Res.flat (.bo (zDW s1))) := by
 refine zAg (rs := [.tmp 2]) rfl hbs rfl ?_
 repeat' first
   | (refine zAR (fun h => ?_) (fun h => ?_) <;> (try simp only [cN] at h))
   | (refine zAN ?_ ?_)
   | simp only [↓cD, cU, cQ, cP, cB, zAJ, unD, zAf, zAd, idx, reduceCtorEq, ↓reduceIte, ofV, ofC, zAq, Nat.reduceEqDiff, zAG, cG, implies_true, forall_const, immL, immD, Res.flat, ren, renL, Int.reduceEq, Int.reduceLT, Int.reduceLE, Int.reduceNe, deref, ldD, zAF, zAk, zAI, zAs, cC, ↓zAM, ↓zAQ, ↓zAL, ↓zAP, ↓zAK, ↓zAO, cV, cT, cF, cW, borT, borM, zAm, Res.via, zAu, zAb, refsB, Nat.reduceLT, Nat.reduceSub, Nat.reduceLeDiff, Nat.reduceMul, Nat.reduceAdd, Int.reduceToNat, appK, zAr, zAc, borL, zAl, zAn, zAE, cO, List.replicate, zAC, ofHp, ixOf, lens Tryz.underlying9, hP, *]
 all_goals first | rfl | (simp [zDW, *]; done) | (simp [zDW, *]; omega) | (simp [zDW, *]; rfl) | (simp [zDW, dat0, *]; done)
theorem zGJ (cx : Cx) (hP : cx.P = Tryz.prog) (hbs : cx.bs = 0) (x : Int)  : zAj cx Tryz.f60 [] false [.it .i64 x] = some (Res.flat (.bo (inR x))) := by
 refine zAg (rs := [.tmp 2]) rfl hbs rfl ?_
 repeat' first
   | (refine zAR (fun h => ?_) (fun h => ?_) <;> (try simp only [cN] at h))
   | (refine zAN ?_ ?_)
   | simp only [↓cD, cU, cQ, cP, cB, zAJ, unD, zAf, zAd, idx, reduceCtorEq, ↓reduceIte, ofV, ofC, zAq, Nat.reduceEqDiff, zAG, cG, implies_true, forall_const, immL, immD, Res.flat, ren, renL, Int.reduceEq, Int.reduceLT, Int.reduceLE, Int.reduceNe, deref, ldD, zAF, zAk, zAI, zAs, cC, ↓zAM, ↓zAQ, ↓zAL, ↓zAP, ↓zAK, ↓zAO, cV, cT, cF, cW, borT, borM, zAm, Res.via, zAu, zAb, refsB, Nat.reduceLT, Nat.reduceSub, Nat.reduceLeDiff, Nat.reduceMul, Nat.reduceAdd, Int.reduceToNat, appK, zAr, zAc, borL, zAl, zAn, zAE, cO, List.replicate, zAC, ofHp, ixOf, inR, hP, *]
theorem zKR (cx : Cx) (hP : cx.P = Tryz.prog) (hbs : cx.bs = 0) (h60 : cx.orc 60 = some zCj) (x y : Int)  : zAj cx Tryz.f74 [] false [.it .i64 x, .it .i64 y] = some (Res.flat (.tup [.it .i64 (sCmp x y).1, .bo (sCmp x y).2])) := by
 have c60 := zAa h60
 refine zAg (rs := [.tmp 4, .tmp 5]) rfl hbs rfl ?_
 repeat' first
   | (refine zAR (fun h => ?_) (fun h => ?_) <;> (try simp only [cN] at h))
   | (refine zAN ?_ ?_)
   | simp only [↓cD, cU, cQ, cP, cB, zAJ, unD, zAf, zAd, idx, reduceCtorEq, ↓reduceIte, ofV, ofC, zAq, Nat.reduceEqDiff, zAG, cG, implies_true, forall_const, immL, immD, Res.flat, ren, renL, Int.reduceEq, Int.reduceLT, Int.reduceLE, Int.reduceNe, deref, ldD, zAF, zAk, zAI, zAs, cC, c60, zAo, zAp, zCr, ↓zAM, ↓zAQ, ↓zAL, ↓zAP, ↓zAK, ↓zAO, cV, cT, cF, cW, borT, borM, zAm, Res.via, zAu, zAb, refsB, Nat.reduceLT, Nat.reduceSub, Nat.reduceLeDiff, Nat.reduceMul, Nat.reduceAdd, Int.reduceToNat, appK, zAr, zAc, borL, zAl, zAn, zAE, cO, List.replicate, zAC, ofHp, ixOf, sCmp, hP, *]
 all_goals
   simp only [zL0, zJ2] at *
   have e : (IntKind.i64.wrap (IntKind.i64.wrap (y - x) + 4294967296)).tmod 4294967296 = (y - x) % 4294967296 := by
     rw [wrap64 (n := y - x) (by omega) (by omega), wrap64 (by omega) (by omega), Int.tmod_eq_emod_of_nonneg (by omega)]
     omega
   simp only [e] at *
   repeat' split
   all_goals first | rfl | omega
theorem zGK (cx : Cx) (hP : cx.P = Tryz.prog) (hbs : cx.bs = 0) (h74 : cx.orc 74 = some zI9) (x y : Int)  : zAj cx Tryz.f34 [] false [.it .i64 x, .it .i64 y] = some (Res.flat (.bo (zBn x y))) := by
 have c74 := zAa h74
 refine zAg (rs := [.tmp 4]) rfl hbs rfl ?_
 repeat' first
   | (refine zAR (fun h => ?_) (fun h => ?_) <;> (try simp only [cN] at h))
   | (refine zAN ?_ ?_)
   | simp only [↓cD, cU, cQ, cP, cB, zAJ, unD, zAf, zAd, idx, reduceCtorEq, ↓reduceIte, ofV, ofC, zAq, Nat.reduceEqDiff, zAG, cG, implies_true, forall_const, immL, immD, Res.flat, ren, renL, Int.reduceEq, Int.reduceLT, Int.reduceLE, Int.reduceNe, deref, ldD, zAF, zAk, zAI, zAs, cC, c74, zAo, zAp, zMi, ↓zAM, ↓zAQ, ↓zAL, ↓zAP, ↓zAK, ↓zAO, cV, cT, cF, cW, borT, borM, zAm, Res.via, zAu, zAb, refsB, Nat.reduceLT, Nat.reduceSub, Nat.reduceLeDiff, Nat.reduceMul, Nat.reduceAdd, Int.reduceToNat, appK, zAr, zAc, borL, zAl, zAn, zAE, cO, List.replicate, zAC, ofHp, ixOf, zBn, hP, *]
 all_goals first | done | rfl | (simp [zBn, *]; done)
noncomputable def FAll := mkF (fun s : Int => [.it .u64 s]) (fun s => True) (fun s => Res.flat (.bo (allB s)))
theorem zLn {n1 : Int} : FAll [.it .u64 n1] = some (Res.flat (.bo (allB n1))) := zAB (s := (n1)) (fun s s' h => by simp only [cI] at h; simp only [h]) trivial
theorem zOg (cx : Cx) (hP : cx.P = Tryz.prog) (hbs : cx.bs = 0) (h101 : cx.orc 101 = some zDn) (hk2 : cx.kp 2 = some [0, 3]) (n1 : Int)  : zAj cx Tryz.f135 [] false [.it .u64 n1] = some (Res.flat (.bo (allB n1))) := by
 have c101 := zAa h101
 have hw : ∀ k : Nat, (k : Int) < 64 → IntKind.i64.wrap ((k : Int) + 1) = ((k + 1 : Nat) : Int) := fun k h => by rw [wrap64 (by omega) (by omega)]; simp
 have hu : ∀ k : Nat, (k : Int) < 64 → IntKind.u64.wrap (k : Int) = (k : Int) := fun k h => by rw [zCs]; omega
 have hz : ∀ k : Nat, ((k : Int) < 0) = False := fun k => by simp
 refine zAg (rs := [.tmp 2]) rfl hbs rfl ?_
 repeat' first
   | (refine zAY (σ := Nat) (fun s2 => [.it .u64 n1, .it .i64 s2]) (fun s2 => s2 ≤ 64 ∧ zCS n1 s2 (64 - s2) = allB n1) (fun s2 => 64 - s2) [0, 3] hbs (by exact hk2) (fun s2 => by simp only [zAv, refs, zBb, zBc, zBe, List.append_nil]) (fun s2 j2 => ?_) (s := 0) ?_ ?_)
   | (refine zAR (fun h => ?_) (fun h => ?_) <;> (try simp only [cN] at h))
   | (refine zAN ?_ ?_)
   | simp only [↓cD, cU, cQ, cP, cB, zAJ, unD, zAf, zAd, idx, reduceCtorEq, ↓reduceIte, ofV, ofC, zAq, Nat.reduceEqDiff, zAG, cG, implies_true, forall_const, immL, immD, Res.flat, ren, renL, Int.reduceEq, Int.reduceLT, Int.reduceLE, Int.reduceNe, deref, ldD, zAF, zAk, zAI, zAs, cC, c101, zAo, zAp, zB8, ↓zAM, ↓zAQ, ↓zAL, ↓zAP, ↓zAK, ↓zAO, cV, cT, cF, cW, borT, borM, zAm, Res.via, zAu, zAb, refsB, Nat.reduceLT, Nat.reduceSub, Nat.reduceLeDiff, Nat.reduceMul, Nat.reduceAdd, Int.reduceToNat, appK, zAr, zAc, borL, zAl, zAn, zAE, cO, List.replicate, zAC, ofHp, ixOf, hw, hu, hz, hP, *]
 all_goals first
   | rfl
   | exact ⟨by omega, rfl⟩
   | (rw [show 64 - s2 = 0 by omega] at j2; simp only [zCS] at j2; rw [← j2.2])
   | (refine ⟨_, rfl, ⟨by omega, ?_⟩, by omega⟩; rw [show 64 - s2 = (64 - (s2 + 1)) + 1 by omega] at j2; simp_all [zCS, bitS]; done)
   | (rw [show 64 - s2 = (64 - (s2 + 1)) + 1 by omega] at j2; simp_all [zCS, bitS]; done)
theorem zTb (cx : Cx) (hP : cx.P = Tryz.prog) (hbs : cx.bs = 0) (h101 : cx.orc 101 = some zDn) (h130 : cx.orc 130 = some zLf) (h131 : cx.orc 131 = some zG3) (h132 : cx.orc 132 = some zLk) (h60 : cx.orc 60 = some zCj) (h133 : cx.orc 133 = some FIn) (h134 : cx.orc 134 = some zFn) (h59 : cx.orc 59 = some zCP) (h135 : cx.orc 135 = some FAll) (r101 : cx.rd.contains 101 = true) (r130 : cx.rd.contains 130 = true) (r131 : cx.rd.contains 131 = true) (r132 : cx.rd.contains 132 = true) (r60 : cx.rd.contains 60 = true) (r133 : cx.rd.contains 133 = true) (r134 : cx.rd.contains 134 = true) (r59 : cx.rd.contains 59 = true) (r135 : cx.rd.contains 135 = true) (t1 : Int) (d1 : Dat) (hl : DSm d1) : zAj cx Tryz.f102 [] false [.it .i64 t1, datE d1] = some (Res.flat (.bo (validD t1 d1))) := by
 have c101 := zAa h101
 have d101 := zAh r101 h101
 have c130 := zAa h130
 have d130 := zAh r130 h130
 have c131 := zAa h131
 have d131 := zAh r131 h131
 have c132 := zAa h132
 have d132 := zAh r132 h132
 have c60 := zAa h60
 have d60 := zAh r60 h60
 have c133 := zAa h133
 have d133 := zAh r133 h133
 have c134 := zAa h134
 have d134 := zAh r134 h134
 have c59 := zAa h59
 have d59 := zAh r59 h59
 have c135 := zAa h135
 have d135 := zAh r135 h135
 have hl1 := hl.1; have hl2 := hl.2.1; have hl3 := hl.2.2.1
 refine zAg (rs := [.tmp 4]) rfl hbs rfl ?_
 repeat' first
   | (refine zAR (fun h => ?_) (fun h => ?_) <;> (try simp only [cN] at h))
   | (refine zAN ?_ ?_)
   | simp only [↓cD, cU, cQ, cP, cB, zAJ, unD, zAf, zAd, idx, reduceCtorEq, ↓reduceIte, ofV, ofC, zAq, Nat.reduceEqDiff, zAG, cG, implies_true, forall_const, immL, immD, Res.flat, ren, renL, Int.reduceEq, Int.reduceLT, Int.reduceLE, Int.reduceNe, deref, ldD, zAF, zAk, zAI, zAs, cC, cS, refs, zAD, okId, List.all_nil, List.all_cons, Nat.reduceMul, Nat.reduceAdd, Nat.reduceLeDiff, zAv, c101, c130, c131, c132, c60, c133, c134, c59, c135, d101, d130, d131, d132, d60, d133, d134, d59, d135, zAo, zAp, zB8, zIO, zFJ, zIU, zCr, zO1, zJ8, zBK, zLn, ↓zAM, ↓zAQ, ↓zAL, ↓zAP, ↓zAK, ↓zAO, cV, cT, cF, cW, borT, borM, zAm, Res.via, zAu, zAb, refsB, Nat.reduceLT, Nat.reduceSub, Nat.reduceLeDiff, Nat.reduceMul, Nat.reduceAdd, Int.reduceToNat, appK, zAr, zAc, borL, zAl, zAn, zAE, cO, List.replicate, zAC, ofHp, ixOf, cS, refs, zAD, okId, List.all_nil, List.all_cons, Nat.reduceMul, Nat.reduceAdd, Nat.reduceLeDiff, zAv, hl1, hl2, hl3, lens Tryz.underlying9, hP, *]
 all_goals first | rfl | (simp [validD, *]; done) | (subst_vars; simp [validD, *]; done) | (simp [validD, *]; omega)
noncomputable def FNum := mkF (fun s : Int × Int => [.it .i64 s.1, .it .i64 s.2]) (fun s => 0 ≤ s.2 ∧ s.2 ≤ 8) (fun s => Res.flat (.st (numB .i64 s.1 s.2.toNat)))
theorem zG4 {v1 : Int} {n1 : Int} (hp : 0 ≤ n1 ∧ n1 ≤ 8) : FNum [.it .i64 v1, .it .i64 n1] = some (Res.flat (.st (numB .i64 v1 n1.toNat))) := zAB (s := (v1, n1)) (fun s s' h => by simp only [cI] at h; simp only [h]) hp
theorem zOe (cx : Cx) (hP : cx.P = Tryz.prog) (hbs : cx.bs = 0) (hk3 : cx.kp 3 = some [0, 5, 6]) (hk7 : cx.kp 7 = some [0, 5, 6, 7, 8]) (v1 n1 : Int) (hl : 0 ≤ n1 ∧ n1 ≤ 8) : zAj cx Tryz.f191 [] false [.it .i64 v1, .it .i64 n1] = some (Res.flat (.st (numB .i64 v1 n1.toNat))) := by
 obtain ⟨n, rfl⟩ := Int.eq_ofNat_of_zero_le hl.1
 have hn : n ≤ 8 := (by omega)
 have hw1 : IntKind.i64.wrap ((n : Int) - 1) = (n : Int) - 1 := wrap64 (by omega) (by omega)
 have hd : ∀ k : Nat, k ≤ n → 0 ≤ (k : Int) - 1 → IntKind.i64.wrap ((k : Int) - 1 - 1) = ((k - 1 : Nat) : Int) - 1 := fun k h h' => by rw [wrap64 (by omega) (by omega)]; omega
 have hw : ∀ j : Nat, j ≤ 8 → IntKind.i64.wrap ((j : Int) + 1) = ((j + 1 : Nat) : Int) := fun j h => by rw [wrap64 (by omega) (by omega)]; simp
 refine zAg (rs := [.tmp 4]) rfl hbs rfl ?_
 repeat' first
   | (refine zAw (σ := Nat × List Int) (fun q => [.it .i64 v1, .own 0 0 q.2.length, .it .i64 ((q.1 : Int) - 1)]) (fun q => [.row 1 true (q.2.map (D.it .u8))]) (fun q => q.1 ≤ n ∧ q.2.length + q.1 = n ∧ q.2 ++ numI .i64 v1 q.1 = numI .i64 v1 n) (fun q => q.1) [0, 5, 6] hbs (by exact hk3) (fun q jq b hb => by simp only [List.mem_singleton] at hb; subst hb; exact zA2 (fun _ => rfl)) (fun q jq => ?_) (s := (n, [])) [0] ?_ ?_ ?_ ?_ ?_)
   | (refine zAw (σ := Nat) (fun s => [.it .i64 v1, .own 0 0 q.2.length, .it .i64 ((q.1 : Int) - 1), .it .i64 (divN .i64 v1 s), .it .i64 s]) (fun s => [.row 1 true (q.2.map (D.it .u8))]) (fun s => s ≤ 8 ∧ (s : Int) ≤ (q.1 : Int) - 1) (fun s => q.1 - s) [0, 5, 6, 7, 8] hbs (by exact hk7) (fun q jq b hb => by simp only [List.mem_singleton] at hb; subst hb; exact zA2 (fun _ => rfl)) (fun s js => ?_) (s := 0) [0] ?_ ?_ ?_ ?_ ?_)
   | (refine zAR (fun h => ?_) (fun h => ?_) <;> (try simp only [cN] at h))
   | (refine zAN ?_ ?_)
   | simp only [↓cD, cU, cQ, cP, cB, zAJ, unD, zAf, zAd, idx, reduceCtorEq, ↓reduceIte, ofV, ofC, zAq, Nat.reduceEqDiff, zAG, cG, implies_true, forall_const, immL, immD, Res.flat, ren, renL, Int.reduceEq, Int.reduceLT, Int.reduceLE, Int.reduceNe, deref, ldD, zAF, zAk, zAI, zAs, cC, ↓zAM, ↓zAQ, ↓zAL, ↓zAP, ↓zAK, ↓zAO, cV, cT, cF, cW, borT, borM, zAm, Res.via, zAu, zAb, refsB, Nat.reduceLT, Nat.reduceSub, Nat.reduceLeDiff, Nat.reduceMul, Nat.reduceAdd, Int.reduceToNat, appK, zAr, zAc, borL, zAl, zAn, zAE, cO, List.replicate, zAC, ofHp, ixOf, zCo, hw1, hd, hw, zCU Tryz.underlying149 Tryz.underlying5 sz5 Tryz.underlying9, hP, *]
 all_goals first
   | rfl
   | exact ⟨by omega, by omega⟩
   | omega
   | exact ⟨by omega, rfl⟩
   | (refine ⟨[0], s + 1, ?_, ?_, ?_, ?_, ⟨by omega, by omega⟩, by omega⟩ <;> (first | rfl | (simp only [zAv, refs, cR, ren, List.nil_append, List.append_nil, List.cons_append, List.map_cons, List.map_nil, Nat.reduceEqDiff, not_false_eq_true, ofHp, ixOf, if_true, Bool.and_self, Bool.true_and]; first | rfl | (simp; done))))
   | omega
   | (refine ⟨[2], (q.1 - 1, q.2 ++ [IntKind.u8.wrap ((divN .i64 v1 s).tmod 256)]), ?_, ?_, ?_, ?_, ⟨by simp only; omega, by simp only [List.length_append, List.length_cons, List.length_nil]; omega, ?_⟩, by simp only; omega⟩; rotate_left 4; (rw [← jq.2.2, show q.1 = (q.1 - 1) + 1 by omega, show s = q.1 - 1 by omega]; simp [numI]); all_goals (first | rfl | (simp only [zAv, refs, cR, ren, List.nil_append, List.append_nil, List.cons_append, List.map_cons, List.map_nil, Nat.reduceEqDiff, not_false_eq_true, ofHp, ixOf, if_true, Bool.and_self, Bool.true_and]; first | rfl | (simp; done))))
   | (have e := jq.2.2; rw [show q.1 = 0 by omega] at e; simp only [numI, List.append_nil] at e; rw [e]; rfl)
noncomputable def FOct := mkF (fun s : Int × Int => [.it .u64 s.1, .it .i64 s.2]) (fun s => 0 ≤ s.2 ∧ s.2 ≤ 8) (fun s => Res.flat (.st (numB .u64 s.1 s.2.toNat)))
theorem zLi {v1 : Int} {n1 : Int} (hp : 0 ≤ n1 ∧ n1 ≤ 8) : FOct [.it .u64 v1, .it .i64 n1] = some (Res.flat (.st (numB .u64 v1 n1.toNat))) := zAB (s := (v1, n1)) (fun s s' h => by simp only [cI] at h; simp only [h]) hp
theorem zOd (cx : Cx) (hP : cx.P = Tryz.prog) (hbs : cx.bs = 0) (hk3 : cx.kp 3 = some [0, 5, 6]) (hk7 : cx.kp 7 = some [0, 5, 6, 7, 8]) (v1 n1 : Int) (hl : 0 ≤ n1 ∧ n1 ≤ 8) : zAj cx Tryz.f204 [] false [.it .u64 v1, .it .i64 n1] = some (Res.flat (.st (numB .u64 v1 n1.toNat))) := by
 obtain ⟨n, rfl⟩ := Int.eq_ofNat_of_zero_le hl.1
 have hn : n ≤ 8 := (by omega)
 have hw1 : IntKind.i64.wrap ((n : Int) - 1) = (n : Int) - 1 := wrap64 (by omega) (by omega)
 have hd : ∀ k : Nat, k ≤ n → 0 ≤ (k : Int) - 1 → IntKind.i64.wrap ((k : Int) - 1 - 1) = ((k - 1 : Nat) : Int) - 1 := fun k h h' => by rw [wrap64 (by omega) (by omega)]; omega
 have hw : ∀ j : Nat, j ≤ 8 → IntKind.i64.wrap ((j : Int) + 1) = ((j + 1 : Nat) : Int) := fun j h => by rw [wrap64 (by omega) (by omega)]; simp
 refine zAg (rs := [.tmp 4]) rfl hbs rfl ?_
 repeat' first
   | (refine zAw (σ := Nat × List Int) (fun q => [.it .u64 v1, .own 0 0 q.2.length, .it .i64 ((q.1 : Int) - 1)]) (fun q => [.row 1 true (q.2.map (D.it .u8))]) (fun q => q.1 ≤ n ∧ q.2.length + q.1 = n ∧ q.2 ++ numI .u64 v1 q.1 = numI .u64 v1 n) (fun q => q.1) [0, 5, 6] hbs (by exact hk3) (fun q jq b hb => by simp only [List.mem_singleton] at hb; subst hb; exact zA2 (fun _ => rfl)) (fun q jq => ?_) (s := (n, [])) [0] ?_ ?_ ?_ ?_ ?_)
   | (refine zAw (σ := Nat) (fun s => [.it .u64 v1, .own 0 0 q.2.length, .it .i64 ((q.1 : Int) - 1), .it .u64 (divN .u64 v1 s), .it .i64 s]) (fun s => [.row 1 true (q.2.map (D.it .u8))]) (fun s => s ≤ 8 ∧ (s : Int) ≤ (q.1 : Int) - 1) (fun s => q.1 - s) [0, 5, 6, 7, 8] hbs (by exact hk7) (fun q jq b hb => by simp only [List.mem_singleton] at hb; subst hb; exact zA2 (fun _ => rfl)) (fun s js => ?_) (s := 0) [0] ?_ ?_ ?_ ?_ ?_)
   | (refine zAR (fun h => ?_) (fun h => ?_) <;> (try simp only [cN] at h))
   | (refine zAN ?_ ?_)
   | simp only [↓cD, cU, cQ, cP, cB, zAJ, unD, zAf, zAd, idx, reduceCtorEq, ↓reduceIte, ofV, ofC, zAq, Nat.reduceEqDiff, zAG, cG, implies_true, forall_const, immL, immD, Res.flat, ren, renL, Int.reduceEq, Int.reduceLT, Int.reduceLE, Int.reduceNe, deref, ldD, zAF, zAk, zAI, zAs, cC, ↓zAM, ↓zAQ, ↓zAL, ↓zAP, ↓zAK, ↓zAO, cV, cT, cF, cW, borT, borM, zAm, Res.via, zAu, zAb, refsB, Nat.reduceLT, Nat.reduceSub, Nat.reduceLeDiff, Nat.reduceMul, Nat.reduceAdd, Int.reduceToNat, appK, zAr, zAc, borL, zAl, zAn, zAE, cO, List.replicate, zAC, ofHp, ixOf, zCo, hw1, hd, hw, zCU Tryz.underlying149 Tryz.underlying5 sz5 Tryz.underlying9, hP, *]
 all_goals first
   | rfl
   | exact ⟨by omega, by omega⟩
   | omega
   | exact ⟨by omega, rfl⟩
   | (refine ⟨[0], s + 1, ?_, ?_, ?_, ?_, ⟨by omega, by omega⟩, by omega⟩ <;> (first | rfl | (simp only [zAv, refs, cR, ren, List.nil_append, List.append_nil, List.cons_append, List.map_cons, List.map_nil, Nat.reduceEqDiff, not_false_eq_true, ofHp, ixOf, if_true, Bool.and_self, Bool.true_and]; first | rfl | (simp; done))))
   | omega
   | (refine ⟨[2], (q.1 - 1, q.2 ++ [IntKind.u8.wrap ((divN .u64 v1 s).tmod 256)]), ?_, ?_, ?_, ?_, ⟨by simp only; omega, by simp only [List.length_append, List.length_cons, List.length_nil]; omega, ?_⟩, by simp only; omega⟩; rotate_left 4; (rw [← jq.2.2, show q.1 = (q.1 - 1) + 1 by omega, show s = q.1 - 1 by omega]; simp [numI]); all_goals (first | rfl | (simp only [zAv, refs, cR, ren, List.nil_append, List.append_nil, List.cons_append, List.map_cons, List.map_nil, Nat.reduceEqDiff, not_false_eq_true, ofHp, ixOf, if_true, Bool.and_self, Bool.true_and]; first | rfl | (simp; done))))
   | (have e := jq.2.2; rw [show q.1 = 0 by omega] at e; simp only [numI, List.append_nil] at e; rw [e]; rfl)
noncomputable def FWN := mkF (fun s : (List UInt8) => [.st s]) (fun s => Sm s) (fun s => Res.flat (.st (zBH s)))
theorem zOS {s1 : List UInt8} (hp : Sm s1) : FWN [.st s1] = some (Res.flat (.st (zBH s1))) := zAB (s := (s1)) (fun s s' h => by simp only [cI] at h; simp only [h]) hp
theorem zS7 (cx : Cx) (hP : cx.P = Tryz.prog) (hbs : cx.bs = 0) (h106 : cx.orc 106 = some zEa) (h191 : cx.orc 191 = some FNum) (r106 : cx.rd.contains 106 = true) (r191 : cx.rd.contains 191 = true) (hk4 : cx.kp 4 = some [3, 4, 5]) (s1 : List UInt8) (hl : Sm s1) : zAj cx Tryz.f190 [] false [.st s1] = some (Res.flat (.st (zBH s1))) := by
 have c106 := zAa h106
 have d106 := zAh r106 h106
 have c191 := zAa h191
 have d191 := zAh r191 h191
 have hw : ∀ k : Nat, (k : Int) < ((labs s1).getD []).length → IntKind.i64.wrap ((k : Int) + 1) = ((k + 1 : Nat) : Int) := fun k h => by have := zCl s1; rw [wrap64 (by omega) (by omega)]; simp
 have hnn : ∀ k : Nat, (0 ≤ (k : Int)) = True := fun k => by simp
 have hlt := zCl s1
 have hel : ∀ k : Nat, (k : Int) < ((labs s1).getD []).length → (((labs s1).getD []).map D.st)[k]? = some (.st ((labs s1).getD [])[k]!) := fun k h => getm (by omega)
 refine zAg (rs := [.tmp 2]) rfl hbs rfl ?_
 repeat' first
   | (refine zAw (σ := Nat) (fun s => [.st (wnL (((labs s1).getD []).take s)), .own 0 0 ((labs s1).getD []).length, .it .i64 s]) (fun s => [.row 1 true (((labs s1).getD []).map D.st)]) (fun s => s ≤ ((labs s1).getD []).length) (fun s => ((labs s1).getD []).length - s) [3, 4, 5] hbs (by exact hk4) (fun q jq b hb => by simp only [List.mem_singleton] at hb; subst hb; exact zA2 (fun _ => rfl)) (fun s js => ?_) (s := 0) [0] ?_ ?_ ?_ ?_ ?_)
   | (refine zAR (fun h => ?_) (fun h => ?_) <;> (try simp only [cN] at h))
   | (refine zAN ?_ ?_)
   | simp only [↓cD, cU, cQ, cP, cB, zAJ, unD, zAf, zAd, idx, reduceCtorEq, ↓reduceIte, ofV, ofC, zAq, Nat.reduceEqDiff, zAG, cG, implies_true, forall_const, immL, immD, Res.flat, ren, renL, Int.reduceEq, Int.reduceLT, Int.reduceLE, Int.reduceNe, deref, ldD, zAF, zAk, zAI, zAs, cC, cS, refs, zAD, okId, List.all_nil, List.all_cons, Nat.reduceMul, Nat.reduceAdd, Nat.reduceLeDiff, zAv, c106, c191, d106, d191, zAo, zAp, zEi, zG4, ↓zAM, ↓zAQ, ↓zAL, ↓zAP, ↓zAK, ↓zAO, cV, cT, cF, cW, borT, borM, zAm, Res.via, zAu, zAb, refsB, Nat.reduceLT, Nat.reduceSub, Nat.reduceLeDiff, Nat.reduceMul, Nat.reduceAdd, Int.reduceToNat, appK, zAr, zAc, borL, zAl, zAn, zAE, cO, List.replicate, zAC, ofHp, ixOf, cS, refs, zAD, okId, List.all_nil, List.all_cons, Nat.reduceMul, Nat.reduceAdd, Nat.reduceLeDiff, zAv, lens Tryz.underlying9, hw, hnn, hlt, hel, Res.row, Res.rowd, hP, *]
 all_goals first
   | rfl
   | omega
   | (have := zOt (n := s1) (i := s) (by omega); have := zFB (n := s1) (i := s); simp only [List.length_append, zBk]; omega)
   | (refine ⟨[0], s + 1, ?_, ?_, ?_, ?_, by omega, by omega⟩; rotate_left 2; (rw [takeN (by omega), zKf]; rfl); all_goals (first | rfl | (simp only [zAv, refs, cR, ren, List.nil_append, List.append_nil, List.cons_append, List.map_cons, List.map_nil, Nat.reduceEqDiff, not_false_eq_true, ofHp, ixOf, if_true, Bool.and_self, Bool.true_and]; first | rfl | (simp; done))))
   | (have := zFB (n := s1) (i := s); simp only [zBk]; omega)
   | (rw [zAW (by omega)]; rfl)
   | (first | rfl | (simp only [zAv, refs, cR, ren, List.nil_append, List.append_nil, List.cons_append, List.map_cons, List.map_nil, Nat.reduceEqDiff, not_false_eq_true, ofHp, ixOf, if_true, Bool.and_self, Bool.true_and]; first | rfl | (simp; done)))
theorem zLc {P : Program} {t t' e : TypeId} {H : Hp} {nid id k : Nat} {l : List Int} (hu : P.underlying t = some (.slice e)) (he : P.underlying e = some (.int .u8)) (hs : szT P e = some 1) (hd : P.underlying t' = some .string) (hH : H id = .row 1 true (l.map (D.it .u8))) :
   zAF P t t' (.own id 0 k) H nid = some (.st ((l.take k).map zDq), H, nid) := by
 have h1 : zDu P t (.own id 0 k) = true := zFp hu
 simp only [zAF, hu, hd, he, hs, h1, if_true, elems, hH, Option.bind_some, List.drop_zero]
 rw [← List.map_take, zCo]
 rfl

noncomputable def FBm := mkF (fun s : Int => [.it .u64 s]) (fun s => True) (fun s => Res.flat (.st (bmB s)))
theorem zO7 {n1 : Int} : FBm [.it .u64 n1] = some (Res.flat (.st (bmB n1))) := zAB (s := (n1)) (fun s s' h => by simp only [cI] at h; simp only [h]) trivial
theorem zTm (cx : Cx) (hP : cx.P = Tryz.prog) (hbs : cx.bs = 0) (hk4 : cx.kp 4 = some [0, 3, 4, 5]) (hk8 : cx.kp 8 = some [0, 3, 4, 5, 6, 7]) (n1 : Int)  : zAj cx Tryz.f192 [] false [.it .u64 n1] = some (Res.flat (.st (bmB n1))) := by
 have hw : ∀ j : Nat, (j : Int) < 8 → IntKind.i64.wrap ((j : Int) + 1) = ((j + 1 : Nat) : Int) := fun j h => by rw [wrap64 (by omega) (by omega)]; simp
 have hw8 : ∀ i : Nat, (i : Int) < 8 → IntKind.i64.wrap ((i : Int) * 8) = ((i * 8 : Nat) : Int) := fun j h => by rw [wrap64 (by omega) (by omega)]; simp
 have hsl : ∀ (l : List D) (s : Nat), ¬ (s : Int) < 8 → s ≤ 8 → zBm Tryz.prog (ofHp [.row 1 true l]) 149 (.own 0 0 s) none (some (.it .i64 (zBg n1 s : Int))) none = some (.own 0 0 (zBg n1 s)) := fun l s _ _ => zD3 Tryz.underlying149 sz5 rfl (zB5 n1 s)
 have hz : ∀ k : Nat, ((k : Int) < 0) = False := fun k => by simp
 have hu : ∀ i j : Nat, (i : Int) < 8 → (j : Int) < 8 → IntKind.u64.wrap (IntKind.i64.wrap (((i * 8 : Nat) : Int) + (j : Int))) = ((i * 8 + j : Nat) : Int) := fun i j h h' => by rw [wrap64 (by omega) (by omega), zCs]; omega
 refine zAg (rs := [.tmp 2]) rfl hbs rfl ?_
 repeat' first
   | (refine zAw (σ := Nat) (fun s => [.it .u64 n1, .own 0 0 s, .it .i64 (zBg n1 s), .it .i64 s]) (fun s => [.row 1 true ((bmI n1 s).map (D.it .u8))]) (fun s => s ≤ 8) (fun s => 8 - s) [0, 3, 4, 5] hbs (by exact hk4) (fun q jq b hb => by simp only [List.mem_singleton] at hb; subst hb; exact zA2 (fun _ => rfl)) (fun s js => ?_) (s := 0) [0] ?_ ?_ ?_ ?_ ?_)
   | (refine zAw (σ := Nat) (fun j => [.it .u64 n1, .own 0 0 s, .it .i64 (zBg n1 s), .it .i64 s, .it .i64 (bitV n1 s j), .it .i64 j]) (fun j => [.row 1 true ((bmI n1 s).map (D.it .u8))]) (fun j => j ≤ 8) (fun j => 8 - j) [0, 3, 4, 5, 6, 7] hbs (by exact hk8) (fun q jq b hb => by simp only [List.mem_singleton] at hb; subst hb; exact zA2 (fun _ => rfl)) (fun j jj => ?_) (s := 0) [0] ?_ ?_ ?_ ?_ ?_)
   | (refine zAR (fun h => ?_) (fun h => ?_) <;> (try simp only [cN] at h))
   | (refine zAN ?_ ?_)
   | simp only [↓cD, cU, cQ, cP, cB, zAJ, unD, zAf, zAd, idx, reduceCtorEq, ↓reduceIte, ofV, ofC, zAq, Nat.reduceEqDiff, zAG, cG, implies_true, forall_const, immL, immD, Res.flat, ren, renL, Int.reduceEq, Int.reduceLT, Int.reduceLE, Int.reduceNe, deref, ldD, zAF, zAk, zAI, zAs, cC, ↓zAM, ↓zAQ, ↓zAL, ↓zAP, ↓zAK, ↓zAO, cV, cT, cF, cW, borT, borM, zAm, Res.via, zAu, zAb, refsB, Nat.reduceLT, Nat.reduceSub, Nat.reduceLeDiff, Nat.reduceMul, Nat.reduceAdd, Int.reduceToNat, appK, zAr, zAc, borL, zAl, zAn, zAE, cO, List.replicate, zAC, ofHp, ixOf, zEI, zLc Tryz.underlying149 Tryz.underlying5 sz5 Tryz.underlying9, hsl, hw, hu, hz, hw8, hP, *]
 all_goals first
   | rfl
   | omega
   | (refine ⟨[0], j + 1, ?_, ?_, ?_, ?_, by omega, by omega⟩ <;> (first | rfl | (simp only [zAv, refs, cR, ren, List.nil_append, List.append_nil, List.cons_append, List.map_cons, List.map_nil, Nat.reduceEqDiff, not_false_eq_true, ofHp, ixOf, if_true, Bool.and_self, Bool.true_and]; first | rfl | (simp; done))))
   | (rw [zBU]; omega)
   | (have hj : j = 8 := (by omega); subst hj; have e1 : zBg n1 (s + 1) = s + 1 := (by simp [zBg, *]); have e2 : bmI n1 (s + 1) = bmI n1 s ++ [IntKind.u8.wrap (bitV n1 s 8)] := rfl; refine ⟨[2], s + 1, ?_, ?_, ?_, ?_, by omega, by omega⟩ <;> (try simp only [e1, e2]) <;> (first | rfl | (simp only [zAv, refs, cR, ren, List.nil_append, List.append_nil, List.cons_append, List.map_cons, List.map_nil, Nat.reduceEqDiff, not_false_eq_true, ofHp, ixOf, if_true, Bool.and_self, Bool.true_and]; first | rfl | (simp; done))))
   | (have hj : j = 8 := (by omega); subst hj; have e1 : zBg n1 (s + 1) = zBg n1 s := (by simp [zBg, *]); have e2 : bmI n1 (s + 1) = bmI n1 s ++ [IntKind.u8.wrap 0] := (by simp [bmI, *]); refine ⟨[2], s + 1, ?_, ?_, ?_, ?_, by omega, by omega⟩ <;> (try simp only [e1, e2]) <;> (first | rfl | (simp only [zAv, refs, cR, ren, List.nil_append, List.append_nil, List.cons_append, List.map_cons, List.map_nil, Nat.reduceEqDiff, not_false_eq_true, ofHp, ixOf, if_true, Bool.and_self, Bool.true_and]; first | rfl | (simp; done))))
   | (have hs : s = 8 := (by omega); subst hs; rfl)
   | (first | rfl | (simp only [zAv, refs, cR, ren, List.nil_append, List.append_nil, List.cons_append, List.map_cons, List.map_nil, Nat.reduceEqDiff, not_false_eq_true, ofHp, ixOf, if_true, Bool.and_self, Bool.true_and]; first | rfl | (simp; done)))
noncomputable def FWA := mkF (fun s : Adr => [adrE s]) (fun s => True) (fun s => Res.flat (.tup [.st (zBx s).1, .it .i64 (zBx s).2]))
theorem zOT {a1 : Adr} : FWA [adrE a1] = some (Res.flat (.tup [.st (zBx a1).1, .it .i64 (zBx a1).2])) := zAB (s := (a1)) (fun s s' h => by simp only [cI] at h; simp only [h]) trivial
theorem zS9 (cx : Cx) (hP : cx.P = Tryz.prog) (hbs : cx.bs = 0) (h131 : cx.orc 131 = some zG3) (h204 : cx.orc 204 = some FOct) (r131 : cx.rd.contains 131 = true) (r204 : cx.rd.contains 204 = true) (a1 : Adr)  : zAj cx Tryz.f189 [] false [adrE a1] = some (Res.flat (.tup [.st (zBx a1).1, .it .i64 (zBx a1).2])) := by
 have c131 := zAa h131
 have d131 := zAh r131 h131
 have c204 := zAa h204
 have d204 := zAh r204 h204
 refine zAg (rs := [.tmp 2, .tmp 3]) rfl hbs rfl ?_
 repeat' first
   | (refine zAR (fun h => ?_) (fun h => ?_) <;> (try simp only [cN] at h))
   | (refine zAN ?_ ?_)
   | simp only [↓cD, cU, cQ, cP, cB, zAJ, unD, zAf, zAd, idx, reduceCtorEq, ↓reduceIte, ofV, ofC, zAq, Nat.reduceEqDiff, zAG, cG, implies_true, forall_const, immL, immD, Res.flat, ren, renL, Int.reduceEq, Int.reduceLT, Int.reduceLE, Int.reduceNe, deref, ldD, zAF, zAk, zAI, zAs, cC, cS, refs, zAD, okId, List.all_nil, List.all_cons, Nat.reduceMul, Nat.reduceAdd, Nat.reduceLeDiff, zAv, c131, c204, d131, d204, zAo, zAp, zFJ, zLi, ↓zAM, ↓zAQ, ↓zAL, ↓zAP, ↓zAK, ↓zAO, cV, cT, cF, cW, borT, borM, zAm, Res.via, zAu, zAb, refsB, Nat.reduceLT, Nat.reduceSub, Nat.reduceLeDiff, Nat.reduceMul, Nat.reduceAdd, Int.reduceToNat, appK, zAr, zAc, borL, zAl, zAn, zAE, cO, List.replicate, zAC, ofHp, ixOf, cS, refs, zAD, okId, List.all_nil, List.all_cons, Nat.reduceMul, Nat.reduceAdd, Nat.reduceLeDiff, zAv, hP, *]
 all_goals first
   | rfl
   | (simp only [List.length_append, zBk]; omega)
   | (simp [zBx, *]; done)
   | (subst_vars; simp [zBx, *]; done)
theorem zS8 (cx : Cx) (hP : cx.P = Tryz.prog) (hbs : cx.bs = 0) (h101 : cx.orc 101 = some zDn) (h102 : cx.orc 102 = some FVD) (h189 : cx.orc 189 = some FWA) (h190 : cx.orc 190 = some FWN) (h191 : cx.orc 191 = some FNum) (h192 : cx.orc 192 = some FBm) (r101 : cx.rd.contains 101 = true) (r102 : cx.rd.contains 102 = true) (r189 : cx.rd.contains 189 = true) (r190 : cx.rd.contains 190 = true) (r191 : cx.rd.contains 191 = true) (r192 : cx.rd.contains 192 = true) (t1 : Int) (d1 : Dat) (hl : DSm d1) : zAj cx Tryz.f168 [] false [.it .i64 t1, datE d1] = some (Res.flat (.tup [.st (zAx t1 d1).1, .it .i64 (zAx t1 d1).2])) := by
 have c101 := zAa h101
 have d101 := zAh r101 h101
 have c102 := zAa h102
 have d102 := zAh r102 h102
 have c189 := zAa h189
 have d189 := zAh r189 h189
 have c190 := zAa h190
 have d190 := zAh r190 h190
 have c191 := zAa h191
 have d191 := zAh r191 h191
 have c192 := zAa h192
 have d192 := zAh r192 h192
 have hl1 := hl.1; have hl2 := hl.2.1; have hl3 := hl.2.2.1
 refine zAg (rs := [.tmp 4, .tmp 5]) rfl hbs rfl ?_
 repeat' first
   | (refine zAR (fun h => ?_) (fun h => ?_) <;> (try simp only [cN] at h))
   | (refine zAN ?_ ?_)
   | simp only [↓cD, cU, cQ, cP, cB, zAJ, unD, zAf, zAd, idx, reduceCtorEq, ↓reduceIte, ofV, ofC, zAq, Nat.reduceEqDiff, zAG, cG, implies_true, forall_const, immL, immD, Res.flat, ren, renL, Int.reduceEq, Int.reduceLT, Int.reduceLE, Int.reduceNe, deref, ldD, zAF, zAk, zAI, zAs, cC, cS, refs, zAD, okId, List.all_nil, List.all_cons, Nat.reduceMul, Nat.reduceAdd, Nat.reduceLeDiff, zAv, c101, c102, c189, c190, c191, c192, d101, d102, d189, d190, d191, d192, zAo, zAp, zB8, zKx, zOT, zOS, zG4, zO7, ↓zAM, ↓zAQ, ↓zAL, ↓zAP, ↓zAK, ↓zAO, cV, cT, cF, cW, borT, borM, zAm, Res.via, zAu, zAb, refsB, Nat.reduceLT, Nat.reduceSub, Nat.reduceLeDiff, Nat.reduceMul, Nat.reduceAdd, Int.reduceToNat, appK, zAr, zAc, borL, zAl, zAn, zAE, cO, List.replicate, zAC, ofHp, ixOf, cS, refs, zAD, okId, List.all_nil, List.all_cons, Nat.reduceMul, Nat.reduceAdd, Nat.reduceLeDiff, zAv, hl1, hl2, hl3, lens Tryz.underlying9, hP, *]
 all_goals first
   | rfl
   | (simp only [List.length_append, zBk]; omega)
   | (have := zDA d1.host; have := zDA d1.mail; have := zMI d1.bits; (try simp only [List.length_append, zBk]); omega)
   | (simp [zAx, *]; done)
   | (subst_vars; simp [zAx, *]; done)
theorem zTk (cx : Cx) (hP : cx.P = Tryz.prog) (hbs : cx.bs = 0) (h168 : cx.orc 168 = some FWD) (t1 : Int) (d1 e1 : Dat) (hl : DSm d1 ∧ DSm e1) : zAj cx Tryz.f137 [] false [.it .i64 t1, datE d1, datE e1] = some (Res.flat (.it .i64 (cmpD t1 d1 e1))) := by
 have c168 := zAa h168
 have hl1 := hl.1; have hl2 := hl.2
 refine zAg (rs := [.tmp 6]) rfl hbs rfl ?_
 repeat' first
   | (refine zAR (fun h => ?_) (fun h => ?_) <;> (try simp only [cN] at h))
   | (refine zAN ?_ ?_)
   | simp only [↓cD, cU, cQ, cP, cB, zAJ, unD, zAf, zAd, idx, reduceCtorEq, ↓reduceIte, ofV, ofC, zAq, Nat.reduceEqDiff, zAG, cG, implies_true, forall_const, immL, immD, Res.flat, ren, renL, Int.reduceEq, Int.reduceLT, Int.reduceLE, Int.reduceNe, deref, ldD, zAF, zAk, zAI, zAs, cC, c168, zAo, zAp, zSE, ↓zAM, ↓zAQ, ↓zAL, ↓zAP, ↓zAK, ↓zAO, cV, cT, cF, cW, borT, borM, zAm, Res.via, zAu, zAb, refsB, Nat.reduceLT, Nat.reduceSub, Nat.reduceLeDiff, Nat.reduceMul, Nat.reduceAdd, Int.reduceToNat, appK, zAr, zAc, borL, zAl, zAn, zAE, cO, List.replicate, zAC, ofHp, ixOf, hl1, hl2, hP, *]
 all_goals first
   | rfl
   | (simp [cmpD, zBj, *]; done)
theorem zTa (cx : Cx) (hP : cx.P = Tryz.prog) (hbs : cx.bs = 0) (h59 : cx.orc 59 = some zCP) (h101 : cx.orc 101 = some zDn) (h102 : cx.orc 102 = some FVD) (r1 : Rec) (hl : RSm r1) : zAj cx Tryz.f67 [] false [recE r1] = some (Res.flat (.bo (zBd r1))) := by
 have c59 := zAa h59
 have c101 := zAa h101
 have c102 := zAa h102
 have hl1 := hl.1; have hl2 := hl.2
 refine zAg (rs := [.tmp 2]) rfl hbs rfl ?_
 repeat' first
   | (refine zAR (fun h => ?_) (fun h => ?_) <;> (try simp only [cN] at h))
   | (refine zAN ?_ ?_)
   | simp only [↓cD, cU, cQ, cP, cB, zAJ, unD, zAf, zAd, idx, reduceCtorEq, ↓reduceIte, ofV, ofC, zAq, Nat.reduceEqDiff, zAG, cG, implies_true, forall_const, immL, immD, Res.flat, ren, renL, Int.reduceEq, Int.reduceLT, Int.reduceLE, Int.reduceNe, deref, ldD, zAF, zAk, zAI, zAs, cC, c59, c101, c102, zAo, zAp, zBK, zB8, zKx, ↓zAM, ↓zAQ, ↓zAL, ↓zAP, ↓zAK, ↓zAO, cV, cT, cF, cW, borT, borM, zAm, Res.via, zAu, zAb, refsB, Nat.reduceLT, Nat.reduceSub, Nat.reduceLeDiff, Nat.reduceMul, Nat.reduceAdd, Int.reduceToNat, appK, zAr, zAc, borL, zAl, zAn, zAE, cO, List.replicate, zAC, ofHp, ixOf, hl1, hl2, hP, *]
 all_goals first
   | rfl
   | (simp [zBd, *]; done)
   | (simp [zBd, *]; omega)
theorem zKS (cx : Cx) (hP : cx.P = Tryz.prog) (hbs : cx.bs = 0) (a1 b1 : Int)  : zAj cx Tryz.f128 [] false [.it .i64 a1, .it .i64 b1] = some (Res.flat (.it .i64 (numC a1 b1))) := by
 refine zAg (rs := [.tmp 4]) rfl hbs rfl ?_
 repeat' first
   | (refine zAR (fun h => ?_) (fun h => ?_) <;> (try simp only [cN] at h))
   | (refine zAN ?_ ?_)
   | simp only [↓cD, cU, cQ, cP, cB, zAJ, unD, zAf, zAd, idx, reduceCtorEq, ↓reduceIte, ofV, ofC, zAq, Nat.reduceEqDiff, zAG, cG, implies_true, forall_const, immL, immD, Res.flat, ren, renL, Int.reduceEq, Int.reduceLT, Int.reduceLE, Int.reduceNe, deref, ldD, zAF, zAk, zAI, zAs, cC, ↓zAM, ↓zAQ, ↓zAL, ↓zAP, ↓zAK, ↓zAO, cV, cT, cF, cW, borT, borM, zAm, Res.via, zAu, zAb, refsB, Nat.reduceLT, Nat.reduceSub, Nat.reduceLeDiff, Nat.reduceMul, Nat.reduceAdd, Int.reduceToNat, appK, zAr, zAc, borL, zAl, zAn, zAE, cO, List.replicate, zAC, ofHp, ixOf, hP, *]
 all_goals first
   | rfl
   | (simp [numC, *]; done)
   | (simp [numC, *]; omega)
theorem zIo (cx : Cx) (hP : cx.P = Tryz.prog) (hbs : cx.bs = 0) (h136 : cx.orc 136 = some zJa) (h128 : cx.orc 128 = some zHa) (h137 : cx.orc 137 = some FCD) (r1 r2 : Rec) (hl : RSm r1 ∧ RSm r2) : zAj cx Tryz.f103 [] false [recE r1, recE r2] = some (Res.flat (.it .i64 (zAy r1 r2))) := by
 have c136 := zAa h136
 have c128 := zAa h128
 have c137 := zAa h137
 have hl1 := hl.1.1; have hl2 := hl.1.2; have hl3 := hl.2.1; have hl4 := hl.2.2; have hl5 := hl.1; have hl6 := hl.2
 refine zAg (rs := [.tmp 4]) rfl hbs rfl ?_
 repeat' first
   | (refine zAR (fun h => ?_) (fun h => ?_) <;> (try simp only [cN] at h))
   | (refine zAN ?_ ?_)
   | simp only [↓cD, cU, cQ, cP, cB, zAJ, unD, zAf, zAd, idx, reduceCtorEq, ↓reduceIte, ofV, ofC, zAq, Nat.reduceEqDiff, zAG, cG, implies_true, forall_const, immL, immD, Res.flat, ren, renL, Int.reduceEq, Int.reduceLT, Int.reduceLE, Int.reduceNe, deref, ldD, zAF, zAk, zAI, zAs, cC, c136, c128, c137, zAo, zAp, zMj, zGp, zSN, ↓zAM, ↓zAQ, ↓zAL, ↓zAP, ↓zAK, ↓zAO, cV, cT, cF, cW, borT, borM, zAm, Res.via, zAu, zAb, refsB, Nat.reduceLT, Nat.reduceSub, Nat.reduceLeDiff, Nat.reduceMul, Nat.reduceAdd, Int.reduceToNat, appK, zAr, zAc, borL, zAl, zAn, zAE, cO, List.replicate, zAC, ofHp, ixOf, hl1, hl2, hl3, hl4, hP, *]
 all_goals first
   | rfl
   | (simp [zAy, *]; done)
   | (simp [zAy, *]; omega)
theorem zOf (cx : Cx) (hP : cx.P = Tryz.prog) (hbs : cx.bs = 0) (h103 : cx.orc 103 = some zEb) (h128 : cx.orc 128 = some zHa) (r1 r2 : Rec) (hl : RSm r1 ∧ RSm r2) : zAj cx Tryz.f100 [] false [recE r1, recE r2] = some (Res.flat (.it .i64 (cmpR r1 r2))) := by
 have c103 := zAa h103
 have c128 := zAa h128
 have hl1 := hl.1.1; have hl2 := hl.1.2; have hl3 := hl.2.1; have hl4 := hl.2.2; have hl5 := hl.1; have hl6 := hl.2
 refine zAg (rs := [.tmp 4]) rfl hbs rfl ?_
 repeat' first
   | (refine zAR (fun h => ?_) (fun h => ?_) <;> (try simp only [cN] at h))
   | (refine zAN ?_ ?_)
   | simp only [↓cD, cU, cQ, cP, cB, zAJ, unD, zAf, zAd, idx, reduceCtorEq, ↓reduceIte, ofV, ofC, zAq, Nat.reduceEqDiff, zAG, cG, implies_true, forall_const, immL, immD, Res.flat, ren, renL, Int.reduceEq, Int.reduceLT, Int.reduceLE, Int.reduceNe, deref, ldD, zAF, zAk, zAI, zAs, cC, c103, c128, zAo, zAp, zEt, zGp, ↓zAM, ↓zAQ, ↓zAL, ↓zAP, ↓zAK, ↓zAO, cV, cT, cF, cW, borT, borM, zAm, Res.via, zAu, zAb, refsB, Nat.reduceLT, Nat.reduceSub, Nat.reduceLeDiff, Nat.reduceMul, Nat.reduceAdd, Int.reduceToNat, appK, zAr, zAc, borL, zAl, zAn, zAE, cO, List.replicate, zAC, ofHp, ixOf, hl5, hl6, hP, *]
 all_goals first
   | rfl
   | (simp [cmpR, *]; done)
   | (simp [cmpR, *]; omega)
def ZSm (z : Zone) : Prop := Sm z.origin ∧ LSm z.recs
def sink : Nat → List Rec → List Rec
 | 0, l => l
 | k + 1, l => if 0 < cmpR l[k]! l[k + 1]! then sink k ((l.set (k + 1) l[k]!).set k l[k + 1]!) else l
def ordR (l : List Rec) : List Rec := l.foldl (fun out x => sink out.length (out ++ [x])) []
def both (a b : List Rec) : List Rec := ordR (a ++ b)
theorem zMc {α : Type} [Inhabited α] {l : List α} {p : α → Bool} {i : Nat} (h : (i : Int) < l.length) (hp : p l[i]! = true) : l.any p = true := List.any_eq_true.2 ⟨_, zBO h, hp⟩
theorem zC0 : ∀ (k : Nat) (l : List Rec), (sink k l).length = l.length
 | 0, l => rfl
 | k + 1, l => by unfold sink; split; rw [zC0 k, List.length_set, List.length_set]; rfl
theorem zCZ : ∀ (k : Nat) (l : List Rec) (y : Rec), k < l.length → y ∈ sink k l → y ∈ l
 | 0, l, y, _, h => h
 | k + 1, l, y, hk, h => by
   unfold sink at h
   split at h
   · have h := zCZ k _ y (by rw [List.length_set, List.length_set]; omega) h
     rcases List.mem_or_eq_of_mem_set h with h | h
     · rcases List.mem_or_eq_of_mem_set h with h | h
       · exact h
       · rw [h]; exact zDS (by omega)
     · rw [h]; exact zDS (by omega)
   · exact h
theorem zOl {l : List Rec} {i : Nat} (h : (i : Int) < l.length) : ordR (l.take (i + 1)) = sink (ordR (l.take i)).length (ordR (l.take i) ++ [l[i]!]) := by
 unfold ordR
 rw [takeN h, List.foldl_append]; rfl
theorem zCn : ∀ (l out : List Rec), (l.foldl (fun out x => sink out.length (out ++ [x])) out).length = out.length + l.length
 | [], out => rfl
 | x :: r, out => by
   show (r.foldl _ (sink out.length (out ++ [x]))).length = _
   rw [zCn r, zC0]; simp only [List.length_append, List.length_cons, List.length_nil]; omega
theorem zCm : ∀ (l out : List Rec) (y : Rec), y ∈ l.foldl (fun out x => sink out.length (out ++ [x])) out → y ∈ l ∨ y ∈ out
 | [], out, y, h => .inr h
 | x :: r, out, y, h => by
   rcases zCm r _ y h with h | h
   · exact .inl (by simp [h])
   · rcases List.mem_append.1 (zCZ _ _ _ (by simp) h) with h | h
     · exact .inr h
     · exact .inl (by simp at h; simp [h])
theorem zC2 (l : List Rec) : (ordR l).length = l.length := by rw [ordR, zCn]; simp
theorem zEV {l : List Rec} {y : Rec} (h : y ∈ ordR l) : y ∈ l := by
 rcases zCm l [] y h with h | h
 · exact h
 · cases h
theorem LSm.ord {l : List Rec} (h : LSm l) : LSm (ordR l) := ⟨by rw [zC2]; exact h.1, fun r hr => h.2 r (zEV hr)⟩
theorem zMP {l : List Rec} {s : Nat} (h : ((s : Int) + 1) < l.length) : srt (l.drop s) = if 0 ≤ cmpR l[s]! l[s + 1]! then false else if alike l[s]! l[s + 1]! = true then false else srt (l.drop (s + 1)) := by
 rw [drop_at (zs := l) (by omega), drop_at (zs := l) (i := s + 1) (by omega)]; rfl
theorem zN5 {l : List Rec} {s : Nat} (h : ¬ ((s : Int) + 1) < l.length) : srt (l.drop s) = true := by
 by_cases h2 : s < l.length
 · rw [drop_at (zs := l) (by omega), zBw (zs := l) (i := s + 1) (by omega)]; rfl
 · rw [zBw (zs := l) (by omega)]; rfl
noncomputable def zLm := mkF (fun s : (List Rec) × Rec => [zAt s.1, recE s.2]) (fun s => s.1.length ≤ 1000000) (fun s => Res.flat (.bo (hasL s.1 s.2)))
theorem zIV {a : List Rec} {r1 : Rec} (hp : a.length ≤ 1000000) : zLm [zAt a, recE r1] = some (Res.flat (.bo (hasL a r1))) := zAB (s := (a, r1)) (fun s s' h => by simp only [cI] at h; simp only [h]) hp
theorem zKV (cx : Cx) (hP : cx.P = Tryz.prog) (hbs : cx.bs = 0) (hk2 : cx.kp 2 = some [0, 3, 5]) (a : List Rec) (r1 : Rec) (hl : a.length ≤ 1000000) : zAj cx Tryz.f75 [] false [zAt a, recE r1] = some (Res.flat (.bo (hasL a r1))) := by
 have hw : ∀ k : Nat, (k : Int) < a.length → IntKind.i64.wrap ((k : Int) + 1) = ((k + 1 : Nat) : Int) := zBL (by omega)
 refine zAg (rs := [.tmp 4]) rfl hbs rfl ?_
 repeat' first
   | (refine zAw (σ := Nat) (fun s => [zAt a, .ptr 0 0, .it .i64 s]) (fun s => [.box (recL r1)]) (fun s => s ≤ a.length ∧ (a.take s).any (fun x => decide (x = r1)) = false) (fun s => a.length - s) [0, 3, 5] hbs (by exact hk2) (fun q jq b hb => by simp only [List.mem_singleton] at hb; subst hb; exact zGi r1) (fun s js => ?_) (s := 0) [0] ?_ ?_ ?_ ?_ ?_)
   | (refine zAR (fun h => ?_) (fun h => ?_) <;> (try simp only [cN] at h))
   | (refine zAN ?_ ?_)
   | simp only [↓cD, cU, cQ, cP, cB, zAJ, unD, zAf, zAd, idx, reduceCtorEq, ↓reduceIte, ofV, ofC, zAq, Nat.reduceEqDiff, zAG, cG, implies_true, forall_const, immL, immD, Res.flat, ren, renL, Int.reduceEq, Int.reduceLT, Int.reduceLE, Int.reduceNe, deref, ldD, zAF, zAk, zAI, zAs, cC, cS, refs, zAD, okId, List.all_nil, List.all_cons, Nat.reduceMul, Nat.reduceAdd, Nat.reduceLeDiff, zAv, ↓zAM, ↓zAQ, ↓zAL, ↓zAP, ↓zAK, ↓zAO, cV, cT, cF, cW, borT, borM, zAm, Res.via, zAu, zAb, refsB, Nat.reduceLT, Nat.reduceSub, Nat.reduceLeDiff, Nat.reduceMul, Nat.reduceAdd, Int.reduceToNat, appK, zAr, zAc, borL, zAl, zAn, zAE, cO, List.replicate, zAC, ofHp, ixOf, cS, refs, zAD, okId, List.all_nil, List.all_cons, Nat.reduceMul, Nat.reduceAdd, Nat.reduceLeDiff, zAv, hw, hP, *]
 all_goals (try simp only [hasL])
 all_goals first
   | rfl
   | exact ⟨Nat.zero_le _, rfl⟩
   | (refine ⟨[0], s + 1, rfl, rfl, rfl, rfl, ⟨by omega, by rw [zEv (by omega), js.2, Bool.false_or]; exact decide_eq_false ‹_›⟩, by omega⟩)
   | (rw [zMc (p := fun x => decide (x = r1)) (i := s) (by omega) (decide_eq_true ‹_›)])
   | (rw [zAW (by omega)] at js; rw [js.2])
   | omega
   | (first | rfl | (simp only [zAv, refs, cR, ren, List.nil_append, List.append_nil, List.cons_append, List.map_cons, List.map_nil, Nat.reduceEqDiff, not_false_eq_true, ofHp, ixOf, if_true, Bool.and_self, Bool.true_and]; first | rfl | (simp; done)))
noncomputable def zI6 := mkF (fun s : Rec × Rec => [recE s.1, recE s.2]) (fun s => True) (fun s => Res.flat (.bo (alike s.1 s.2)))
theorem zH8 {r1 : Rec} {r2 : Rec} : zI6 [recE r1, recE r2] = some (Res.flat (.bo (alike r1 r2))) := zAB (s := (r1, r2)) (fun s s' h => by simp only [cI] at h; simp only [h]) trivial
theorem zLD (cx : Cx) (hP : cx.P = Tryz.prog) (hbs : cx.bs = 0) (r1 r2 : Rec)  : zAj cx Tryz.f78 [] false [recE r1, recE r2] = some (Res.flat (.bo (alike r1 r2))) := by
 refine zAg (rs := [.tmp 4]) rfl hbs rfl ?_
 repeat' first
   | (refine zAR (fun h => ?_) (fun h => ?_) <;> (try simp only [cN] at h))
   | (refine zAN ?_ ?_)
   | simp only [↓cD, cU, cQ, cP, cB, zAJ, unD, zAf, zAd, idx, reduceCtorEq, ↓reduceIte, ofV, ofC, zAq, Nat.reduceEqDiff, zAG, cG, implies_true, forall_const, immL, immD, Res.flat, ren, renL, Int.reduceEq, Int.reduceLT, Int.reduceLE, Int.reduceNe, deref, ldD, zAF, zAk, zAI, zAs, cC, ↓zAM, ↓zAQ, ↓zAL, ↓zAP, ↓zAK, ↓zAO, cV, cT, cF, cW, borT, borM, zAm, Res.via, zAu, zAb, refsB, Nat.reduceLT, Nat.reduceSub, Nat.reduceLeDiff, Nat.reduceMul, Nat.reduceAdd, Int.reduceToNat, appK, zAr, zAc, borL, zAl, zAn, zAE, cO, List.replicate, zAC, ofHp, ixOf, hP, *]
 all_goals first
   | rfl
   | (simp [alike, *]; done)
   | (simp [alike, *]; omega)
theorem zS6 (cx : Cx) (hP : cx.P = Tryz.prog) (hbs : cx.bs = 0) (h75 : cx.orc 75 = some zLm) (hk3 : cx.kp 3 = some [0, 1, 5, 6]) (a b : List Rec) (hl : a.length ≤ 1000000 ∧ b.length ≤ 1000000) : zAj cx Tryz.f36 [] false [zAt a, zAt b] = some (Res.flat (zAt (zAi a b))) := by
 have c75 := zAa h75
 have hl2 := hl.2
 have hw : ∀ k : Nat, (k : Int) < a.length → IntKind.i64.wrap ((k : Int) + 1) = ((k + 1 : Nat) : Int) := zBL (by omega)
 refine zEf (rs := [.tmp 4]) rfl hbs rfl ?_
 repeat' first
   | (refine zAw (σ := Nat) (fun s => [zAt a, zAt b, .own 0 0 (zAi (a.take s) b).length, .it .i64 s]) (fun s => [.row 16 true ((zAi (a.take s) b).map recE)]) (fun s => s ≤ a.length) (fun s => a.length - s) [0, 1, 5, 6] hbs (by exact hk3) (fun q jq b hb => by simp only [List.mem_singleton] at hb; subst hb; exact zA2 (fun _ => rfl)) (fun s js => ?_) (s := 0) [1] ?_ ?_ ?_ ?_ ?_)
   | (refine zAR (fun h => ?_) (fun h => ?_) <;> (try simp only [cN] at h))
   | (refine zAN ?_ ?_)
   | simp only [↓cD, cU, cQ, cP, cB, zAJ, unD, zAf, zAd, idx, reduceCtorEq, ↓reduceIte, ofV, ofC, zAq, Nat.reduceEqDiff, zAG, cG, implies_true, forall_const, immL, immD, Res.flat, ren, renL, Int.reduceEq, Int.reduceLT, Int.reduceLE, Int.reduceNe, deref, ldD, zAF, zAk, zAI, zAs, cC, c75, zAo, zAp, zIV, ↓zAM, ↓zAQ, ↓zAL, ↓zAP, ↓zAK, ↓zAO, cV, cT, cF, cW, borT, borM, zAm, Res.via, zAu, zAb, refsB, Nat.reduceLT, Nat.reduceSub, Nat.reduceLeDiff, Nat.reduceMul, Nat.reduceAdd, Int.reduceToNat, appK, zAr, zAc, borL, zAl, zAn, zAE, cO, List.replicate, zAC, ofHp, ixOf, hw, hl2, hP, *]
 all_goals first
   | rfl
   | omega
   | (have hq := zA3 (a.take s) b; rw [List.length_take] at hq; omega)
   | (refine ⟨[0], s + 1, ?_, ?_, ?_, ?_, by omega, by omega⟩ <;> (try rw [show zAi (a.take (s + 1)) b = zAi (a.take s) b from zMA (by omega) (by simp only [*, Bool.not_true])]) <;> (first | rfl | (simp only [zAv, refs, cR, ren, List.nil_append, List.append_nil, List.cons_append, List.map_cons, List.map_nil, Nat.reduceEqDiff, not_false_eq_true, ofHp, ixOf, if_true, Bool.and_self, Bool.true_and]; first | rfl | (simp; done))))
   | (refine ⟨[2], s + 1, ?_, ?_, ?_, ?_, by omega, by omega⟩ <;> (try rw [show zAi (a.take (s + 1)) b = zAi (a.take s) b ++ [a[s]!] from zH4 (by omega) (by simp only [*, Bool.not_false])]) <;> (first | rfl | (simp only [zAv, refs, cR, ren, List.nil_append, List.append_nil, List.cons_append, List.map_cons, List.map_nil, Nat.reduceEqDiff, not_false_eq_true, ofHp, ixOf, if_true, Bool.and_self, Bool.true_and]; first | rfl | (simp; done))))
   | (first | rfl | (simp only [zAv, refs, cR, ren, List.nil_append, List.append_nil, List.cons_append, List.map_cons, List.map_nil, Nat.reduceEqDiff, not_false_eq_true, ofHp, ixOf, if_true, Bool.and_self, Bool.true_and]; first | rfl | (simp; done)))
   | (rw [zAW (by omega)]; exact ⟨_, _, _, _, rfl, rfl, by simp, zBP (fun _ => rfl), rfl⟩)
noncomputable def FSrt := mkF (fun s : (List Rec) => [zAt s]) (fun s => LSm s) (fun s => Res.flat (.bo (srt s)))
theorem zOX {a : List Rec} (hp : LSm a) : FSrt [zAt a] = some (Res.flat (.bo (srt a))) := zAB (s := (a)) (fun s s' h => by simp only [cI] at h; simp only [h]) hp
theorem zRF (cx : Cx) (hP : cx.P = Tryz.prog) (hbs : cx.bs = 0) (h100 : cx.orc 100 = some zG6) (h78 : cx.orc 78 = some zI6) (r100 : cx.rd.contains 100 = true) (r78 : cx.rd.contains 78 = true) (hk2 : cx.kp 2 = some [0, 3]) (a : List Rec) (hl : LSm a) : zAj cx Tryz.f62 [] false [zAt a] = some (Res.flat (.bo (srt a))) := by
 have c100 := zAa h100
 have d100 := zAh r100 h100
 have c78 := zAa h78
 have d78 := zAh r78 h78
 have hw : ∀ k : Nat, ((k + 1 : Nat) : Int) < a.length → IntKind.i64.wrap (((k + 1 : Nat) : Int) + 1) = ((k + 1 + 1 : Nat) : Int) := fun k h => by have := hl.1; rw [wrap64 (by omega) (by omega)]; omega
 have hw1 : ∀ k : Nat, ((k + 1 : Nat) : Int) < a.length → IntKind.i64.wrap (((k + 1 : Nat) : Int) - 1) = (k : Int) := fun k h => by have := hl.1; rw [wrap64 (by omega) (by omega)]; omega
 have hs1 : ∀ k : Nat, ((k + 1 : Nat) : Int) < a.length → RSm a[k]! ∧ RSm a[k + 1]! := fun k h => ⟨hl.at (by omega), hl.at (by omega)⟩
 have hi1 : ∀ k : Nat, ((k + 1 : Nat) : Int) < a.length → (k : Int) < a.length := fun k h => by omega
 refine zAg (rs := [.tmp 2]) rfl hbs rfl ?_
 repeat' first
   | (refine zAY (σ := Nat) (fun s2 => [zAt a, .it .i64 ((s2 + 1 : Nat) : Int)]) (fun s2 => s2 ≤ a.length ∧ srt (a.drop s2) = srt a) (fun s2 => a.length - s2) [0, 3] hbs (by exact hk2) (fun s2 => by simp only [zAv, refs, zBb, zBc, zBe, List.append_nil]) (fun s2 j2 => ?_) (s := 0) ?_ ?_)
   | (refine zAR (fun h => ?_) (fun h => ?_) <;> (try simp only [cN] at h))
   | (refine zAN ?_ ?_)
   | simp only [↓cD, cU, cQ, cP, cB, zAJ, unD, zAf, zAd, idx, reduceCtorEq, ↓reduceIte, ofV, ofC, zAq, Nat.reduceEqDiff, zAG, cG, implies_true, forall_const, immL, immD, Res.flat, ren, renL, Int.reduceEq, Int.reduceLT, Int.reduceLE, Int.reduceNe, deref, ldD, zAF, zAk, zAI, zAs, cC, cS, refs, zAD, okId, List.all_nil, List.all_cons, Nat.reduceMul, Nat.reduceAdd, Nat.reduceLeDiff, zAv, c100, c78, d100, d78, zAo, zAp, zCE, zH8, ↓zAM, ↓zAQ, ↓zAL, ↓zAP, ↓zAK, ↓zAO, cV, cT, cF, cW, borT, borM, zAm, Res.via, zAu, zAb, refsB, Nat.reduceLT, Nat.reduceSub, Nat.reduceLeDiff, Nat.reduceMul, Nat.reduceAdd, Int.reduceToNat, appK, zAr, zAc, borL, zAl, zAn, zAE, cO, List.replicate, zAC, ofHp, ixOf, cS, refs, zAD, okId, List.all_nil, List.all_cons, Nat.reduceMul, Nat.reduceAdd, Nat.reduceLeDiff, zAv, hw, hw1, hs1, hi1, hP, *]
 all_goals first
   | rfl
   | omega
   | exact ⟨Nat.zero_le _, rfl⟩
   | (have e := j2.2; rw [zMP (by omega)] at e; refine ⟨_, rfl, ⟨by omega, by rw [← e]; simp only [*, if_false, Bool.false_eq_true]⟩, by omega⟩)
   | (have e := j2.2; rw [zMP (by omega)] at e; rw [← e]; simp only [*, if_true, if_false]; done)
   | (have e := j2.2; rw [zN5 (by omega)] at e; rw [← e])
def zIb (l : List Rec) (k : Nat) : List Rec := (l.set k l[k - 1]!).set (k - 1) l[k]!
theorem zS2 {l : List Rec} {k : Nat} (hk : 0 < k) (h : 0 < cmpR l[k - 1]! l[k]!) : sink k l = sink (k - 1) (zIb l k) := by
 obtain ⟨j, rfl⟩ : ∃ j, k = j + 1 := ⟨k - 1, by omega⟩
 rw [sink]; exact if_pos h
theorem zQc {l : List Rec} {k : Nat} (hk : 0 < k) (h : ¬ 0 < cmpR l[k - 1]! l[k]!) : sink k l = l := by
 obtain ⟨j, rfl⟩ : ∃ j, k = j + 1 := ⟨k - 1, by omega⟩
 rw [sink]; exact if_neg h
theorem zP1 (l : List Rec) (k : Nat) : (zIb l k).length = l.length := by rw [zIb, List.length_set, List.length_set]
theorem zKK {l : List Rec} {k : Nat} (h : AllSm l) (hk : k < l.length) : AllSm (zIb l k) := fun r hr => by
 rcases List.mem_or_eq_of_mem_set hr with hr | hr
 · rcases List.mem_or_eq_of_mem_set hr with hr | hr
   · exact h r hr
   · rw [hr]; exact h.at (by omega)
 · rw [hr]; exact h.at (by omega)

noncomputable def FOrd := mkF (fun s : (List Rec) => [zAt s]) (fun s => LSm s) (fun s => Res.flat (zAt (ordR s)))
theorem zUt {a : List Rec} (hp : LSm a) : FOrd [zAt a] = some (Res.flat (zAt (ordR a))) := zAB (s := (a)) (fun s s' h => by simp only [cI] at h; simp only [h]) hp
theorem zXV (cx : Cx) (hP : cx.P = Tryz.prog) (hbs : cx.bs = 0) (h100 : cx.orc 100 = some zG6) (r100 : cx.rd.contains 100 = true) (hk3 : cx.kp 3 = some [0, 3, 4]) (hk7 : cx.kp 7 = some [0, 3, 4, 5]) (a : List Rec) (hl : LSm a) : zAj cx Tryz.f81 [] false [zAt a] = some (Res.flat (zAt (ordR a))) := by
 have c100 := zAa h100
 have d100 := zAh r100 h100
 have hw : ∀ k : Nat, (k : Int) < a.length → IntKind.i64.wrap ((k : Int) + 1) = ((k + 1 : Nat) : Int) := zBL hl.sm
 have hel : ∀ (l : List Rec) (k : Nat), (k : Int) < l.length → (l.map recE)[k]? = some (recE l[k]!) := fun l k h => getm (by omega)
 have hw0 : ∀ i : Nat, IntKind.i64.wrap ((((ordR (a.take i)).length + 1 : Nat) : Int) - 1) = ((ordR (a.take i)).length : Int) := fun i => by have h1 := zC2 (a.take i); rw [List.length_take] at h1; have h2 := hl.1; rw [wrap64 (by omega) (by omega)]; omega
 have hw1 : ∀ k : Nat, k ≤ 1000000 → 0 < (k : Int) → IntKind.i64.wrap ((k : Int) - 1) = ((k - 1 : Nat) : Int) := fun k h1 h2 => by rw [wrap64 (by omega) (by omega)]; omega
 have hb1 : ∀ k n : Nat, k < n → (((k - 1 : Nat) : Int) < (n : Int)) = True := fun k n h => by simp only [eq_iff_iff, iff_true]; omega
 have hb2 : ∀ k n : Nat, k < n → ((k : Int) < (n : Int)) = True := fun k n h => by simp only [eq_iff_iff, iff_true]; omega
 have hs1 : ∀ (l : List Rec) (k : Nat), AllSm l → (k : Int) < l.length → RSm l[k]! := fun l k h hk => h.at hk
 refine zEf (rs := [.tmp 2]) rfl hbs rfl ?_
 repeat' first
   | (refine zAw (σ := Nat) (fun i => [zAt a, .own 0 0 (ordR (a.take i)).length, .it .i64 i]) (fun i => [.row 16 true ((ordR (a.take i)).map recE)]) (fun i => i ≤ a.length) (fun i => a.length - i) [0, 3, 4] hbs (by exact hk3) (fun q jq b hb => by simp only [List.mem_singleton] at hb; subst hb; exact zA2 (fun _ => rfl)) (fun i ji => ?_) (s := 0) [1] ?_ ?_ ?_ ?_ ?_)
   | (refine zAw (σ := Nat × List Rec) (fun s => [zAt a, .own 0 0 s.2.length, .it .i64 i, .it .i64 s.1]) (fun s => [.row 16 true (s.2.map recE)]) (fun s => s.1 < i + 1 ∧ s.1 ≤ 1000000 ∧ s.2.length = i + 1 ∧ AllSm s.2 ∧ RSm s.2[s.1]! ∧ RSm s.2[s.1 - 1]! ∧ sink s.1 s.2 = ordR (a.take (i + 1))) (fun s => s.1) [0, 3, 4, 5] hbs (by exact hk7) (fun q jq b hb => by simp only [List.mem_singleton] at hb; subst hb; exact zA2 (fun _ => rfl)) (fun s js => ?_) (s := ((ordR (a.take i)).length, ordR (a.take i) ++ [a[i]!])) [2] ?_ ?_ ?_ ?_ ?_)
   | (refine zAR (fun h => ?_) (fun h => ?_) <;> (try simp only [cN] at h))
   | (refine zAN ?_ ?_)
   | simp only [↓cD, cU, cQ, cP, cB, zAJ, unD, zAf, zAd, idx, reduceCtorEq, ↓reduceIte, ofV, ofC, zAq, Nat.reduceEqDiff, zAG, cG, implies_true, forall_const, immL, immD, Res.flat, ren, renL, Int.reduceEq, Int.reduceLT, Int.reduceLE, Int.reduceNe, deref, ldD, zAF, zAk, zAI, zAs, cC, cS, refs, zAD, okId, List.all_nil, List.all_cons, Nat.reduceMul, Nat.reduceAdd, Nat.reduceLeDiff, zAv, c100, d100, zAo, zAp, zCE, ↓zAM, ↓zAQ, ↓zAL, ↓zAP, ↓zAK, ↓zAO, cV, cT, cF, cW, borT, borM, zAm, Res.via, zAu, zAb, refsB, Nat.reduceLT, Nat.reduceSub, Nat.reduceLeDiff, Nat.reduceMul, Nat.reduceAdd, Int.reduceToNat, appK, zAr, zAc, borL, zAl, zAn, zAE, cO, List.replicate, zAC, ofHp, ixOf, cS, refs, zAD, okId, List.all_nil, List.all_cons, Nat.reduceMul, Nat.reduceAdd, Nat.reduceLeDiff, zAv, hw, hel, hw0, hw1, hb1, hb2, hs1, List.length_set, zH1, zQm, hP, *]
 all_goals first
   | rfl
   | omega
   | (have h1 := zC2 (a.take i); rw [List.length_take] at h1; have h2 := hl.1; omega)
   | (have h1 := zC2 (a.take i); rw [List.length_take] at h1; have h2 := hl.1; have hA : AllSm (ordR (a.take i) ++ [a[i]!]) := (fun r hr => by rcases List.mem_append.1 hr with hr | hr; exact (hl.take i).ord.2 r hr; (simp only [List.mem_singleton] at hr; rw [hr]; exact hl.at (by omega))); refine ⟨by omega, by omega, by (try simp only [List.length_append, List.length_cons, List.length_nil]); omega, hA, hA.at (by simp only [List.length_append, List.length_cons, List.length_nil]; omega), hA.at (by simp only [List.length_append, List.length_cons, List.length_nil]; omega), (zOl (by omega)).symm⟩)
   | (have h6 := js.2.2.1; have h7 := zP1 s.2 s.1; refine ⟨[0], (s.1 - 1, zIb s.2 s.1), ?_, ?_, ?_, ?_, ⟨by show s.1 - 1 < i + 1; omega, by show s.1 - 1 ≤ 1000000; omega, by show (zIb s.2 s.1).length = i + 1; omega, zKK js.2.2.2.1 (by omega), (zKK js.2.2.2.1 (by omega)).at (by show ((s.1 - 1 : Nat) : Int) < (zIb s.2 s.1).length; omega), (zKK js.2.2.2.1 (by omega)).at (by show ((s.1 - 1 - 1 : Nat) : Int) < (zIb s.2 s.1).length; omega), by show sink (s.1 - 1) (zIb s.2 s.1) = _; rw [← zS2 (by omega) ‹_›]; exact js.2.2.2.2.2.2⟩, by show s.1 - 1 < s.1; omega⟩ <;> (try rw [h7]) <;> (try rw [h6]) <;> (first | rfl | (simp only [zAv, refs, cR, ren, List.nil_append, List.append_nil, List.cons_append, List.map_cons, List.map_nil, Nat.reduceEqDiff, not_false_eq_true, ofHp, ixOf, if_true, Bool.and_self, Bool.true_and]; first | rfl | (simp; done))))
   | (have e : s.2 = ordR (a.take (i + 1)) := (by have h5 := js.2.2.2.2.2.2; first | (have h6 : s.1 = 0 := (by omega); rw [h6] at h5; exact h5) | (rw [zQc (by omega) ‹_›] at h5; exact h5)); have h7 := js.2.2.1; refine ⟨[0], i + 1, ?_, ?_, ?_, ?_, by omega, by omega⟩ <;> (try rw [← e]) <;> (try rw [h7]) <;> (first | rfl | (simp only [zAv, refs, cR, ren, List.nil_append, List.append_nil, List.cons_append, List.map_cons, List.map_nil, Nat.reduceEqDiff, not_false_eq_true, ofHp, ixOf, if_true, Bool.and_self, Bool.true_and]; first | rfl | (simp; done))))
   | (rw [zAW (by omega)]; exact ⟨_, _, _, _, rfl, rfl, by simp, zBP (fun _ => rfl), rfl⟩)
   | (first | rfl | (simp only [zAv, refs, cR, ren, List.nil_append, List.append_nil, List.cons_append, List.map_cons, List.map_nil, Nat.reduceEqDiff, not_false_eq_true, ofHp, ixOf, if_true, Bool.and_self, Bool.true_and]; first | rfl | (simp; done)))
noncomputable def zRo := mkF (fun s : (List Rec) × (List Rec) => [zAt s.1, zAt s.2]) (fun s => LSm s.1 ∧ LSm s.2 ∧ s.1.length + s.2.length ≤ 1000000) (fun s => Res.via (zAt (both s.1 s.2)))
theorem zMk {a : List Rec} {b : List Rec} (hp : LSm a ∧ LSm b ∧ a.length + b.length ≤ 1000000) : zRo [zAt a, zAt b] = some (Res.via (zAt (both a b))) := zAB (s := (a, b)) (fun s s' h => by simp only [cI] at h; simp only [h]) hp
theorem zTl (cx : Cx) (hP : cx.P = Tryz.prog) (hbs : cx.bs = 0) (h81 : cx.orc 81 = some FOrd) (hk3 : cx.kp 3 = some [0, 1, 5, 6]) (hk7 : cx.kp 7 = some [1, 5, 7]) (a b : List Rec) (hl : LSm a ∧ LSm b ∧ a.length + b.length ≤ 1000000) : zAj cx Tryz.f41 [] true [zAt a, zAt b] = some (Res.via (zAt (both a b))) := by
 have c81 := zAa h81
 have hw : ∀ k : Nat, (k : Int) < a.length → IntKind.i64.wrap ((k : Int) + 1) = ((k + 1 : Nat) : Int) := zBL hl.1.sm
 have hw2 : ∀ k : Nat, (k : Int) < b.length → IntKind.i64.wrap ((k : Int) + 1) = ((k + 1 : Nat) : Int) := zBL hl.2.1.sm
 have hab : ∀ s : Nat, LSm (a ++ b.take s) := fun s => hl.1.app (hl.2.1.take s) (by have := hl.2.2; rw [List.length_take]; omega)
 have hta : ∀ s : Nat, List.take (a.length + (b.take s).length) (List.map recE (a ++ b.take s)) = List.map recE (a ++ b.take s) := fun s => List.take_of_length_le (by simp)
 refine zEj (rs := [.tmp 4]) rfl hbs rfl ?_
 repeat' first
   | (refine zAw (σ := Nat) (fun s => [zAt a, zAt b, .own 0 0 (a.take s).length, .it .i64 s]) (fun s => [.row 16 true ((a.take s).map recE)]) (fun s => s ≤ a.length) (fun s => a.length - s) [0, 1, 5, 6] hbs (by exact hk3) (fun q jq b hb => by simp only [List.mem_singleton] at hb; subst hb; exact zA2 (fun _ => rfl)) (fun s js => ?_) (s := 0) [1] ?_ ?_ ?_ ?_ ?_)
   | (refine zAw (σ := Nat) (fun s => [zAt b, .own 0 0 (a ++ b.take s).length, .it .i64 s]) (fun s => [.row 16 true ((a ++ b.take s).map recE)]) (fun s => s ≤ b.length) (fun s => b.length - s) [1, 5, 7] hbs (by exact hk7) (fun q jq b hb => by simp only [List.mem_singleton] at hb; subst hb; exact zA2 (fun _ => rfl)) (fun s js => ?_) (s := 0) [0] ?_ ?_ ?_ ?_ ?_)
   | (refine zAR (fun h => ?_) (fun h => ?_) <;> (try simp only [cN] at h))
   | (refine zAN ?_ ?_)
   | simp only [↓cD, cU, cQ, cP, cB, zAJ, unD, zAf, zAd, idx, reduceCtorEq, ↓reduceIte, ofV, ofC, zAq, Nat.reduceEqDiff, zAG, cG, implies_true, forall_const, immL, immD, Res.flat, ren, renL, Int.reduceEq, Int.reduceLT, Int.reduceLE, Int.reduceNe, deref, ldD, zAF, zAk, zAI, zAs, cC, c81, zAo, zAp, zUt, ↓zAM, ↓zAQ, ↓zAL, ↓zAP, ↓zAK, ↓zAO, cV, cT, cF, cW, borT, borM, zAm, Res.via, zAu, zAb, refsB, Nat.reduceLT, Nat.reduceSub, Nat.reduceLeDiff, Nat.reduceMul, Nat.reduceAdd, Int.reduceToNat, appK, zAr, zAc, borL, zAl, zAn, zAE, cO, List.replicate, zAC, ofHp, ixOf, hw, hw2, hab, hta, hP, *]
 all_goals (have hla := hl.1.1; have hlb := hl.2.1.1; have hlc := hl.2.2)
 all_goals first
   | rfl
   | omega
   | (constructor <;> (simp only [List.length_take]; omega))
   | (simp only [List.length_take]; omega)
   | (have e := takeN (l := a) (i := s) (by omega); refine ⟨[2], s + 1, ?_, ?_, ?_, ?_, by omega, by omega⟩ <;> (try rw [e]) <;> (try simp only [List.length_append, List.length_cons, List.length_nil, Nat.zero_add]) <;> (first | rfl | (simp only [zAv, refs, cR, ren, List.nil_append, List.append_nil, List.cons_append, List.map_cons, List.map_nil, Nat.reduceEqDiff, not_false_eq_true, ofHp, ixOf, if_true, Bool.and_self, Bool.true_and]; first | rfl | (simp; done))))
   | (have e : a ++ b.take (s + 1) = a ++ b.take s ++ [b[s]!] := (by rw [takeN (l := b) (by omega), List.append_assoc]); have e2 : a.length + (b.take (s + 1)).length = a.length + (b.take s).length + 1 := (by rw [takeN (l := b) (by omega)]; simp only [List.length_append, List.length_cons, List.length_nil]; omega); refine ⟨[2], s + 1, ?_, ?_, ?_, ?_, by omega, by omega⟩ <;> (try rw [e]) <;> (try rw [e2]) <;> (first | rfl | (simp only [zAv, refs, cR, ren, List.nil_append, List.append_nil, List.cons_append, List.map_cons, List.map_nil, Nat.reduceEqDiff, not_false_eq_true, ofHp, ixOf, if_true, Bool.and_self, Bool.true_and]; first | rfl | (simp; done))))
   | (rw [zAW (by omega)]; done)
   | (rw [zAW (by omega)]; exact ⟨_, rfl, rfl⟩)
   | (rw [zAW (by omega)]; simp only [List.take_zero, List.append_nil]; (first | rfl | (simp only [zAv, refs, cR, ren, List.nil_append, List.append_nil, List.cons_append, List.map_cons, List.map_nil, Nat.reduceEqDiff, not_false_eq_true, ofHp, ixOf, if_true, Bool.and_self, Bool.true_and]; first | rfl | (simp; done))))
   | (rw [zAW (by omega)]; rfl)
   | (first | rfl | (simp only [zAv, refs, cR, ren, List.nil_append, List.append_nil, List.cons_append, List.map_cons, List.map_nil, Nat.reduceEqDiff, not_false_eq_true, ofHp, ixOf, if_true, Bool.and_self, Bool.true_and]; first | rfl | (simp; done)))
theorem zRE (cx : Cx) (hP : cx.P = Tryz.prog) (hbs : cx.bs = 0) (hk3 : cx.kp 3 = some [0, 1, 2, 7, 8]) (a : List Rec) (s1 : List UInt8) (n1 : Int) (hl : a.length ≤ 1000000) : zAj cx Tryz.f63 [] false [zAt a, .st s1, .it .i64 n1] = some (Res.flat (.bo (zBy a s1 n1))) := by
 have hw : ∀ k : Nat, (k : Int) < a.length → IntKind.i64.wrap ((k : Int) + 1) = ((k + 1 : Nat) : Int) := zBL (by omega)
 have hc : ∀ k : Nat, IntKind.i64.wrap ((((a.take k).filter soaD).length : Int) + 1) = (((a.take k).filter soaD).length : Int) + 1 := fun k => by have h1 := List.length_filter_le soaD (a.take k); rw [List.length_take] at h1; rw [wrap64 (by omega) (by omega)]
 refine zAg (rs := [.tmp 6]) rfl hbs rfl ?_
 repeat' first
   | (refine zAY (σ := Nat) (fun s3 => [zAt a, .st s1, .it .i64 n1, .it .i64 (((a.take s3).filter soaD).length : Int), .it .i64 s3]) (fun s3 => s3 ≤ a.length ∧ (a.take s3).all (staX s1 n1) = true) (fun s3 => a.length - s3) [0, 1, 2, 7, 8] hbs (by exact hk3) (fun s3 => by simp only [zAv, refs, zBb, zBc, zBe, List.append_nil]) (fun s3 j3 => ?_) (s := 0) ?_ ?_)
   | (refine zAR (fun h => ?_) (fun h => ?_) <;> (try simp only [cN] at h))
   | (refine zAN ?_ ?_)
   | simp only [↓cD, cU, cQ, cP, cB, zAJ, unD, zAf, zAd, idx, reduceCtorEq, ↓reduceIte, ofV, ofC, zAq, Nat.reduceEqDiff, zAG, cG, implies_true, forall_const, immL, immD, Res.flat, ren, renL, Int.reduceEq, Int.reduceLT, Int.reduceLE, Int.reduceNe, deref, ldD, zAF, zAk, zAI, zAs, cC, ↓zAM, ↓zAQ, ↓zAL, ↓zAP, ↓zAK, ↓zAO, cV, cT, cF, cW, borT, borM, zAm, Res.via, zAu, zAb, refsB, Nat.reduceLT, Nat.reduceSub, Nat.reduceLeDiff, Nat.reduceMul, Nat.reduceAdd, Int.reduceToNat, appK, zAr, zAc, borL, zAl, zAn, zAE, cO, List.replicate, zAC, ofHp, ixOf, hw, hc, hP, *]
 all_goals first
   | rfl
   | omega
   | exact ⟨Nat.zero_le _, rfl⟩
   | (refine ⟨s3 + 1, ?_, ⟨by omega, by rw [zB6 (by omega), j3.2, Bool.true_and]; simp only [staX, *, if_true, if_false, decide_true, Bool.true_and]⟩, by omega⟩; first | (rw [zH4 (p := soaD) (by omega) (decide_eq_true ‹_›), List.length_append]; rfl) | (rw [zMA (p := soaD) (by omega) (decide_eq_false ‹_›)]))
   | (have e : zBy a s1 n1 = false := (by rw [zBy, if_pos (zFm (i := s3) (by omega) (by simp only [staX, *, if_true, if_false, decide_false, Bool.true_and, Bool.false_and]))]); rw [e])
   | (have e1 : a.take s3 = a := zAW (by omega); rw [e1] at j3 ⊢; have e : zBy a s1 n1 = decide (((a.filter soaD).length : Int) = 1) := (by rw [zBy, if_neg (by rw [j3.2]; decide)]); rw [e])
theorem zRG (cx : Cx) (hP : cx.P = Tryz.prog) (hbs : cx.bs = 0) (h67 : cx.orc 67 = some FVR) (h71 : cx.orc 71 = some zDF) (hk2 : cx.kp 2 = some [0, 1, 5]) (a : List Rec) (s1 : List UInt8) (hl : LSm a ∧ Sm s1) : zAj cx Tryz.f61 [] false [zAt a, .st s1] = some (Res.flat (.bo (zAV a s1))) := by
 have c67 := zAa h67
 have c71 := zAa h71
 have hw : ∀ k : Nat, (k : Int) < a.length → IntKind.i64.wrap ((k : Int) + 1) = ((k + 1 : Nat) : Int) := zBL hl.1.sm
 have hs1 : ∀ k : Nat, (k : Int) < a.length → RSm a[k]! := fun k h => hl.1.at h
 have hs2 : ∀ k : Nat, (k : Int) < a.length → Sm (a[k]!).name := fun k h => (hl.1.at h).1
 have hs3 := hl.2
 refine zAg (rs := [.tmp 4]) rfl hbs rfl ?_
 repeat' first
   | (refine zAY (σ := Nat) (fun s2 => [zAt a, .st s1, .it .i64 s2]) (fun s2 => s2 ≤ a.length ∧ (a.take s2).all (insX s1) = true) (fun s2 => a.length - s2) [0, 1, 5] hbs (by exact hk2) (fun s2 => by simp only [zAv, refs, zBb, zBc, zBe, List.append_nil]) (fun s2 j2 => ?_) (s := 0) ?_ ?_)
   | (refine zAR (fun h => ?_) (fun h => ?_) <;> (try simp only [cN] at h))
   | (refine zAN ?_ ?_)
   | simp only [↓cD, cU, cQ, cP, cB, zAJ, unD, zAf, zAd, idx, reduceCtorEq, ↓reduceIte, ofV, ofC, zAq, Nat.reduceEqDiff, zAG, cG, implies_true, forall_const, immL, immD, Res.flat, ren, renL, Int.reduceEq, Int.reduceLT, Int.reduceLE, Int.reduceNe, deref, ldD, zAF, zAk, zAI, zAs, cC, c67, c71, zAo, zAp, zMg, zDE, ↓zAM, ↓zAQ, ↓zAL, ↓zAP, ↓zAK, ↓zAO, cV, cT, cF, cW, borT, borM, zAm, Res.via, zAu, zAb, refsB, Nat.reduceLT, Nat.reduceSub, Nat.reduceLeDiff, Nat.reduceMul, Nat.reduceAdd, Int.reduceToNat, appK, zAr, zAc, borL, zAl, zAn, zAE, cO, List.replicate, zAC, ofHp, ixOf, hw, hs1, hs2, hs3, hP, *]
 all_goals first
   | rfl
   | omega
   | exact ⟨Nat.zero_le _, rfl⟩
   | (refine ⟨s2 + 1, rfl, ⟨by omega, by rw [zB6 (by omega), j2.2, Bool.true_and]; simp only [insX, *, if_false, Bool.true_eq_false]⟩, by omega⟩)
   | (rw [zAV, zFm (p := insX s1) (i := s2) (by omega) (by simp only [insX, *, if_true, if_false, Bool.true_eq_false])])
   | (rw [zAW (by omega)] at j2; rw [zAV, j2.2])
def chkD (d : Delta) : Int := if vName d.origin = false then 2 else if 2048 < (d.rem.length : Int) ∨ 2048 < (d.add.length : Int) then 9 else
 if inR d.fro = false ∨ inR d.til = false ∨ zBn d.til d.fro = false then 14 else if zAV d.rem d.origin = false ∨ zAV d.add d.origin = false then 5 else
 if srt d.rem = false ∨ srt d.add = false ∨ ¬ ((zAi d.rem d.add).length : Int) = d.rem.length then 7 else if zBy d.rem d.origin d.fro = false ∨ zBy d.add d.origin d.til = false then 7 else 0
theorem zB4 {d : Delta} (h : chkD d = 0) : ¬ 2048 < (d.rem.length : Int) ∧ ¬ 2048 < (d.add.length : Int) := by
 unfold chkD at h
 split at h
 · omega
 · split at h
   · omega
   · rename_i h2; exact ⟨fun e => h2 (.inl e), fun e => h2 (.inr e)⟩
theorem LSm.both {a b : List Rec} (ha : LSm a) (hb : LSm b) (hn : a.length + b.length ≤ 1000000) : LSm (both a b) := (ha.app hb hn).ord
theorem ZSm.rw {z : Zone} (h : ZSm z) : ZRw z := ⟨h.1, h.2.sm, h.2.2⟩
def mrgD (d e : Delta) : Delta := ⟨d.origin, d.fro, e.til, both (zAi d.rem e.add) (zAi e.rem d.add), both (zAi d.add e.rem) (zAi e.add d.rem)⟩
def mergeD (d e : Delta) : Delta × Int := if ¬ chkD d = 0 then (dlt0, chkD d) else if ¬ chkD e = 0 then (dlt0, chkD e) else if (d.origin == e.origin) = false then (dlt0, 15) else if ¬ d.til = e.fro then (dlt0, 15) else
 if ¬ ((zAi d.rem e.rem).length : Int) = d.rem.length then (dlt0, 7) else if ¬ ((zAi d.add e.add).length : Int) = d.add.length then (dlt0, 7) else if ¬ chkD (mrgD d e) = 0 then (dlt0, chkD (mrgD d e)) else (mrgD d e, 0)
def zEe (a b : Delta) : Bool := if (a.origin == b.origin) = false then false else if ¬ a.fro = b.fro then false else if ¬ a.til = b.til then false else if eqL a.rem b.rem = false then false else eqL a.add b.add
noncomputable def zH7 := mkF (fun s : Delta => [zAS s]) (fun s => DltRw s) (fun s => Res.flat (.it .i64 (chkD s)))
theorem zG7 {d : Delta} (hp : DltRw d) : zH7 [zAS d] = some (Res.flat (.it .i64 (chkD d))) := zAB (s := (d)) (fun s s' h => by simp only [cI] at h; simp only [h]) hp
theorem zLC (cx : Cx) (hP : cx.P = Tryz.prog) (hbs : cx.bs = 0) (h59 : cx.orc 59 = some zCP) (h60 : cx.orc 60 = some zCj) (h34 : cx.orc 34 = some zDm) (h61 : cx.orc 61 = some FIns) (h62 : cx.orc 62 = some FSrt) (h36 : cx.orc 36 = some FWo) (h63 : cx.orc 63 = some FSta) (r59 : cx.rd.contains 59 = true) (r60 : cx.rd.contains 60 = true) (r34 : cx.rd.contains 34 = true) (r61 : cx.rd.contains 61 = true) (r62 : cx.rd.contains 62 = true) (r36 : cx.rd.contains 36 = true) (r63 : cx.rd.contains 63 = true) (d : Delta) (hl : DltRw d) : zAj cx Tryz.f27 [] false [zAS d] = some (Res.flat (.it .i64 (chkD d))) := by
 have c59 := zAa h59
 have d59 := zAh r59 h59
 have c60 := zAa h60
 have d60 := zAh r60 h60
 have c34 := zAa h34
 have d34 := zAh r34 h34
 have c61 := zAa h61
 have d61 := zAh r61 h61
 have c62 := zAa h62
 have d62 := zAh r62 h62
 have c36 := zAa h36
 have d36 := zAh r36 h36
 have c63 := zAa h63
 have d63 := zAh r63 h63
 have hl1 := hl.1; have hl2 : ¬ 2048 < (d.rem.length : Int) → LSm d.rem := fun h => hl.r h; have hl3 : ¬ 2048 < (d.add.length : Int) → LSm d.add := fun h => hl.a h
 have hl4 : ¬ 2048 < (d.rem.length : Int) → d.rem.length ≤ 1000000 := fun h => by omega
 have hl5 : ¬ 2048 < (d.add.length : Int) → d.add.length ≤ 1000000 := fun h => by omega
 refine zAg (rs := [.tmp 2]) rfl hbs rfl ?_
 repeat' first
   | (refine zAR (fun h => ?_) (fun h => ?_) <;> (try simp only [cN] at h))
   | (refine zAN ?_ ?_)
   | simp only [↓cD, cU, cQ, cP, cB, zAJ, unD, zAf, zAd, idx, reduceCtorEq, ↓reduceIte, ofV, ofC, zAq, Nat.reduceEqDiff, zAG, cG, implies_true, forall_const, immL, immD, Res.flat, ren, renL, Int.reduceEq, Int.reduceLT, Int.reduceLE, Int.reduceNe, deref, ldD, zAF, zAk, zAI, zAs, cC, cS, refs, zAD, okId, List.all_nil, List.all_cons, Nat.reduceMul, Nat.reduceAdd, Nat.reduceLeDiff, zAv, c59, c60, c34, c61, c62, c36, c63, d59, d60, d34, d61, d62, d36, d63, zAo, zAp, zBK, zCr, zFz, zRh, zOX, zMf, zRb, ↓zAM, ↓zAQ, ↓zAL, ↓zAP, ↓zAK, ↓zAO, cV, cT, cF, cW, borT, borM, zAm, Res.via, zAu, zAb, refsB, Nat.reduceLT, Nat.reduceSub, Nat.reduceLeDiff, Nat.reduceMul, Nat.reduceAdd, Int.reduceToNat, appK, zAr, zAc, borL, zAl, zAn, zAE, cO, List.replicate, zAC, ofHp, ixOf, cS, refs, zAD, okId, List.all_nil, List.all_cons, Nat.reduceMul, Nat.reduceAdd, Nat.reduceLeDiff, zAv, hl1, hl2, hl3, hl4, hl5, hP, *]
 all_goals first
   | rfl
   | (simp only [chkD, *, Bool.true_eq_false, Bool.false_eq_true, not_true_eq_false, not_false_eq_true, or_true, true_or, or_self, or_false, false_or, if_true, if_false]; done)
noncomputable def zDT := mkF (fun s : Delta × Delta => [zAS s.1, zAS s.2]) (fun s => Sm s.1.rem ∧ Sm s.1.add) (fun s => Res.flat (.bo (zEe s.1 s.2)))
theorem zC7 {d : Delta} {e : Delta} (hp : Sm d.rem ∧ Sm d.add) : zDT [zAS d, zAS e] = some (Res.flat (.bo (zEe d e))) := zAB (s := (d, e)) (fun s s' h => by simp only [cI] at h; simp only [h]) hp
theorem zGg (cx : Cx) (hP : cx.P = Tryz.prog) (hbs : cx.bs = 0) (h30 : cx.orc 30 = some FEqw) (d e : Delta) (hl : Sm d.rem ∧ Sm d.add) : zAj cx Tryz.f15 [] false [zAS d, zAS e] = some (Res.flat (.bo (zEe d e))) := by
 have c30 := zAa h30
 have hl1 := hl.1; have hl2 := hl.2
 refine zAg (rs := [.tmp 4]) rfl hbs rfl ?_
 repeat' first
   | (refine zAR (fun h => ?_) (fun h => ?_) <;> (try simp only [cN] at h))
   | (refine zAN ?_ ?_)
   | simp only [↓cD, cU, cQ, cP, cB, zAJ, unD, zAf, zAd, idx, reduceCtorEq, ↓reduceIte, ofV, ofC, zAq, Nat.reduceEqDiff, zAG, cG, implies_true, forall_const, immL, immD, Res.flat, ren, renL, Int.reduceEq, Int.reduceLT, Int.reduceLE, Int.reduceNe, deref, ldD, zAF, zAk, zAI, zAs, cC, c30, zAo, zAp, zIW, ↓zAM, ↓zAQ, ↓zAL, ↓zAP, ↓zAK, ↓zAO, cV, cT, cF, cW, borT, borM, zAm, Res.via, zAu, zAb, refsB, Nat.reduceLT, Nat.reduceSub, Nat.reduceLeDiff, Nat.reduceMul, Nat.reduceAdd, Int.reduceToNat, appK, zAr, zAc, borL, zAl, zAn, zAE, cO, List.replicate, zAC, ofHp, ixOf, hl1, hl2, hP, *]
 all_goals first
   | rfl
   | (simp [zEe, *]; done)
noncomputable def zRf := mkF (fun s : Delta × Delta => [zAS s.1, zAS s.2]) (fun s => DltRw s.1 ∧ DltRw s.2) (fun s => Res.via (.tup [zAS (mergeD s.1 s.2).1, .it .i64 (mergeD s.1 s.2).2]))
theorem zPR {d : Delta} {e : Delta} (hp : DltRw d ∧ DltRw e) : zRf [zAS d, zAS e] = some (Res.via (.tup [zAS (mergeD d e).1, .it .i64 (mergeD d e).2])) := zAB (s := (d, e)) (fun s s' h => by simp only [cI] at h; simp only [h]) hp
theorem yH2 {d e : Delta} (hd : DltRw d) (he : DltRw e) (h1 : chkD d = 0) (h2 : chkD e = 0) : DltRw (mrgD d e) := by
 obtain ⟨a1, a2⟩ := zB4 h1
 obtain ⟨b1, b2⟩ := zB4 h2
 have c1 := zA3 d.rem e.add; have c2 := zA3 e.rem d.add; have c3 := zA3 d.add e.rem; have c4 := zA3 e.add d.rem
 exact ⟨hd.1, (((hd.r a1).wo _).both ((he.r b1).wo _) (by omega)).dr, (((hd.a a2).wo _).both ((he.a b2).wo _) (by omega)).dr⟩
theorem zXW (cx : Cx) (hP : cx.P = Tryz.prog) (hbs : cx.bs = 0) (h27 : cx.orc 27 = some zH7) (h36 : cx.orc 36 = some FWo) (h41 : cx.orc 41 = some zRo) (r27 : cx.rd.contains 27 = true) (r36 : cx.rd.contains 36 = true) (r41 : cx.rd.contains 41 = true) (d e : Delta) (hl : DltRw d ∧ DltRw e) : zAj cx Tryz.f22 [] true [zAS d, zAS e] = some (Res.via (.tup [zAS (mergeD d e).1, .it .i64 (mergeD d e).2])) := by
 have c27 := zAa h27
 have d27 := zAh r27 h27
 have c36 := zAa h36
 have d36 := zAh r36 h36
 have c41 := zAa h41
 have d41 := zAh r41 h41
 have hl1 := hl.1; have hl2 := hl.2; have hl3 : chkD d = 0 → d.rem.length ≤ 1000000 := fun h => (by have := (zB4 h).1; omega); have hl4 : chkD d = 0 → d.add.length ≤ 1000000 := fun h => (by have := (zB4 h).2; omega); have hl5 : chkD e = 0 → e.rem.length ≤ 1000000 := fun h => (by have := (zB4 h).1; omega); have hl6 : chkD e = 0 → e.add.length ≤ 1000000 := fun h => (by have := (zB4 h).2; omega)
 have hm1 : chkD d = 0 → chkD e = 0 → zRo [zAt (zAi d.rem e.add), zAt (zAi e.rem d.add)] = some (Res.via (zAt (both (zAi d.rem e.add) (zAi e.rem d.add)))) := fun h1 h2 => zMk (zKp (hl.1.r (zB4 h1).1) (hl.2.r (zB4 h2).1) (zB4 h1).1 (zB4 h2).1)
 have hm2 : chkD d = 0 → chkD e = 0 → zRo [zAt (zAi d.add e.rem), zAt (zAi e.add d.rem)] = some (Res.via (zAt (both (zAi d.add e.rem) (zAi e.add d.rem)))) := fun h1 h2 => zMk (zKp (hl.1.a (zB4 h1).2) (hl.2.a (zB4 h2).2) (zB4 h1).2 (zB4 h2).2)
 have hm3 : chkD d = 0 → chkD e = 0 → DltRw (mrgD d e) := fun h1 h2 => yH2 hl.1 hl.2 h1 h2
 have hmr : (⟨d.origin, d.fro, e.til, both (zAi d.rem e.add) (zAi e.rem d.add), both (zAi d.add e.rem) (zAi e.add d.rem)⟩ : Delta) = mrgD d e := rfl
 refine zEj (rs := [.cell 4 28, .tmp 5]) rfl hbs rfl ?_
 repeat' first
   | (refine zAR (fun h => ?_) (fun h => ?_) <;> (try simp only [cN] at h))
   | (refine zAN ?_ ?_)
   | simp (config := { decide := true }) only [↓cD, cU, cQ, cP, cB, zAJ, unD, zAf, zAd, idx, reduceCtorEq, ↓reduceIte, ofV, ofC, zAq, Nat.reduceEqDiff, zAG, cG, implies_true, forall_const, immL, immD, Res.flat, ren, renL, Int.reduceEq, Int.reduceLT, Int.reduceLE, Int.reduceNe, deref, ldD, zAF, zAk, zAI, zAs, cC, cS, refs, zAD, okId, List.all_nil, List.all_cons, Nat.reduceMul, Nat.reduceAdd, Nat.reduceLeDiff, zAv, c27, c36, c41, d27, d36, d41, zAo, zAp, zG7, zMf, zMk, ↓zAM, ↓zAQ, ↓zAL, ↓zAP, ↓zAK, ↓zAO, cV, cT, cF, cW, borT, borM, zAm, Res.via, zAu, zAb, refsB, Nat.reduceLT, Nat.reduceSub, Nat.reduceLeDiff, Nat.reduceMul, Nat.reduceAdd, Int.reduceToNat, appK, zAr, zAc, borL, zAl, zAn, zAE, cO, List.replicate, zAC, ofHp, ixOf, cS, refs, zAD, okId, List.all_nil, List.all_cons, Nat.reduceMul, Nat.reduceAdd, Nat.reduceLeDiff, zAv, hl1, hl2, hl3, hl4, hl5, hl6, hm1, hm2, hm3, hmr, zDH, zHY, updL, hP, *]
 all_goals first
   | rfl
   | (have q : mergeD d e = (dlt0, chkD d) := (by simp only [mergeD, *, not_true_eq_false, not_false_eq_true, Bool.true_eq_false, Bool.false_eq_true, if_true, if_false]); rw [q]; exact ⟨_, rfl, rfl⟩)
   | (have q : mergeD d e = (dlt0, chkD e) := (by simp only [mergeD, *, not_true_eq_false, not_false_eq_true, Bool.true_eq_false, Bool.false_eq_true, if_true, if_false]); rw [q]; exact ⟨_, rfl, rfl⟩)
   | (have q : mergeD d e = (dlt0, 15) := (by simp only [mergeD, *, not_true_eq_false, not_false_eq_true, Bool.true_eq_false, Bool.false_eq_true, if_true, if_false]); rw [q]; exact ⟨_, rfl, rfl⟩)
   | (have q : mergeD d e = (dlt0, 7) := (by simp only [mergeD, *, not_true_eq_false, not_false_eq_true, Bool.true_eq_false, Bool.false_eq_true, if_true, if_false]); rw [q]; exact ⟨_, rfl, rfl⟩)
   | (have q : mergeD d e = (dlt0, chkD (mrgD d e)) := (by simp only [mergeD, *, not_true_eq_false, not_false_eq_true, Bool.true_eq_false, Bool.false_eq_true, if_true, if_false]); rw [q]; exact ⟨_, rfl, rfl⟩)
   | (have q : mergeD d e = (mrgD d e, 0) := (by simp only [mergeD, *, not_true_eq_false, not_false_eq_true, Bool.true_eq_false, Bool.false_eq_true, if_true, if_false]); rw [q]; exact ⟨_, rfl, rfl⟩)
theorem zDI (d : Delta) : zEe d d = true := by
 unfold zEe
 simp [zEY]
theorem zBD {k : IntKind} {v : Int} (h0 : 0 ≤ v) (hw : ∀ x : Int, 0 ≤ x → x ≤ v → k.wrap x = x) : ∀ j : Nat, divN k v j = v / 256 ^ j
 | 0 => by simp [divN]
 | j + 1 => by
   have ih := zBD h0 hw j
   have h1 : 0 ≤ v / 256 ^ j := Int.ediv_nonneg h0 (Int.pow_nonneg (by decide))
   have h2 : v / 256 ^ j / 256 = v / 256 ^ (j + 1) := by rw [Int.ediv_ediv_of_nonneg (Int.pow_nonneg (by decide)), Int.pow_succ]
   have h3 : 0 ≤ v / 256 ^ (j + 1) := Int.ediv_nonneg h0 (Int.pow_nonneg (by decide))
   have h4 : v / 256 ^ (j + 1) ≤ v := Int.ediv_le_self _ h0
   rw [divN, ih, Int.tdiv_eq_ediv_of_nonneg h1, h2, hw _ h3 h4]
theorem zCp {x y : Int} (hx : 0 ≤ x) (hx2 : x < 256) (hy : 0 ≤ y) (hy2 : y < 256) (h : zDq x = zDq y) : x = y := by
 have h2 := congrArg UInt8.toNat h
 unfold zDq at h2
 rw [UInt8.toNat_ofNat', UInt8.toNat_ofNat'] at h2
 omega
theorem zCV {x : Int} (h : 0 ≤ x) (h2 : x < 256) : IntKind.u8.wrap x = x := by
 rw [zJc]; omega
theorem zBZ {k : IntKind} {v w : Int} (hv : 0 ≤ v) (hw : 0 ≤ w) (kv : ∀ x : Int, 0 ≤ x → x ≤ v → k.wrap x = x) (kw : ∀ x : Int, 0 ≤ x → x ≤ w → k.wrap x = x) : ∀ n : Nat, numB k v n = numB k w n → v % 256 ^ n = w % 256 ^ n
 | 0, _ => by simp
 | n + 1, h => by
   unfold numB at h
   simp only [numI, List.map_cons, List.cons.injEq] at h
   have ih := zBZ hv hw kv kw n h.2
   have a1 : 0 ≤ v / 256 ^ n := Int.ediv_nonneg hv (Int.pow_nonneg (by decide))
   have a2 : 0 ≤ w / 256 ^ n := Int.ediv_nonneg hw (Int.pow_nonneg (by decide))
   have h1 := h.1
   rw [zBD hv kv, zBD hw kw, Int.tmod_eq_emod_of_nonneg a1, Int.tmod_eq_emod_of_nonneg a2] at h1
   have b1 : 0 ≤ (v / 256 ^ n) % 256 ∧ (v / 256 ^ n) % 256 < 256 := by omega
   have b2 : 0 ≤ (w / 256 ^ n) % 256 ∧ (w / 256 ^ n) % 256 < 256 := by omega
   rw [zCV b1.1 b1.2, zCV b2.1 b2.2] at h1
   have h2 := zCp b1.1 b1.2 b2.1 b2.2 h1
   have e : ∀ x : Int, x % 256 ^ (n + 1) = 256 ^ n * ((x / 256 ^ n) % 256) + x % 256 ^ n := fun x => by
     rw [Int.pow_succ, Int.emod_def x (256 ^ n * 256), ← Int.ediv_ediv_of_nonneg (Int.pow_nonneg (by decide)), Int.emod_def (x / 256 ^ n) 256, Int.emod_def x (256 ^ n), Int.mul_sub, Int.mul_assoc]; omega
   rw [e, e, h2, ih]
theorem zAz {v w : Int} {n : Nat} (hv : 0 ≤ v) (hw : 0 ≤ w) (kv : v < 256 ^ n) (kw : w < 256 ^ n) (bv : v ≤ 9223372036854775807) (bw : w ≤ 9223372036854775807) (h : numB .i64 v n = numB .i64 w n) : v = w := by
 have := zBZ hv hw (fun x h1 h2 => wrap64 (by omega) (by omega)) (fun x h1 h2 => wrap64 (by omega) (by omega)) n h
 rwa [Int.emod_eq_of_lt hv kv, Int.emod_eq_of_lt hw kw] at this
theorem zBY {v w : Int} {n : Nat} (hv : U64 v) (hw : U64 w) (kv : v < 256 ^ n) (kw : w < 256 ^ n) (h : numB .u64 v n = numB .u64 w n) : v = w := by
 unfold U64 at hv hw
 have hu : ∀ x : Int, 0 ≤ x → x ≤ 18446744073709551615 → IntKind.u64.wrap x = x := fun x h1 h2 => by rw [zCs]; omega
 have := zBZ hv.1 hw.1 (fun x h1 h2 => hu x h1 (by omega)) (fun x h1 h2 => hu x h1 (by omega)) n h
 rwa [Int.emod_eq_of_lt hv.1 kv, Int.emod_eq_of_lt hw.1 kw] at this
theorem zAA {k : IntKind} {v w : Int} {n : Nat} {X Y : List UInt8} (h : numB k v n ++ X = numB k w n ++ Y) : numB k v n = numB k w n ∧ X = Y := List.append_inj h (by rw [zBk, zBk])
theorem zA8 : ∀ (r cur : List UInt8) (b : Bool) (l : List (List UInt8)), zAZ r cur b = some l → (r = [] → cur = []) → (r ≠ [] → r.getLastD 0 = 46) → cur ++ r = l.flatMap fun x => x ++ [46]
 | [], cur, b, l, h, hc, _ => by simp only [zAZ, Option.some.injEq] at h; subst h; rw [hc rfl]; rfl
 | c :: r, cur, b, l, h, hc, hl => by
   have hlr : r ≠ [] → r.getLastD 0 = 46 := fun hr => by
     have := hl (by simp)
     rw [List.getLastD_cons] at this
     rw [List.getLastD_eq_getLast?] at this ⊢
     cases hg : r.getLast? with
     | none => exact absurd (List.getLast?_eq_none_iff.1 hg) hr
     | some z => rw [hg] at this; simpa using this
   simp only [zAZ] at h
   split at h
   · rename_i h46
     subst h46
     split at h
     · rw [Option.map_eq_some_iff] at h
       obtain ⟨m, hm, rfl⟩ := h
       have ih := zA8 r [] false m hm (fun _ => rfl) hlr
       rw [List.flatMap_cons, ← ih]; simp
     · cases h
   · rename_i h46
     have hr : r ≠ [] := fun e => by
       subst e
       have := hl (by simp)
       simp at this; exact h46 this
     have ih := zA8 r (cur ++ [c]) b l h (fun e => absurd e hr) hlr
     rw [← ih]; simp
theorem zCA {n m : List UInt8} {l : List (List UInt8)} (hn : labs n = some l) (hm : labs m = some l) : n = m := by
 have key : ∀ n : List UInt8, labs n = some l → n = if l = [] then [46] else l.flatMap fun x => x ++ [46] := fun n h => by
   unfold labs at h
   split at h
   · simp only [Option.some.injEq] at h; subst h; rename_i e; simpa using e
   · split at h
     · cases h
     · rename_i h2
       have h3 := zA8 n [] true l h (fun _ => rfl) (fun _ => Classical.byContradiction fun e => h2 (.inr (.inr e)))
       rw [List.nil_append] at h3
       by_cases hl : l = []
       · subst hl; subst h3; exact absurd (.inl (by simp)) h2
       · rw [if_neg hl]; exact h3
 rw [key n hn, key m hm]
theorem zBo : ∀ (r cur : List UInt8) (b : Bool) (l : List (List UInt8)), zAZ r cur b = some l → ∀ x ∈ l, 1 ≤ x.length
 | [], _, _, l, h => by simp [zAZ] at h; subst h; simp
 | c :: r, cur, b, l, h => by
   simp only [zAZ] at h
   split at h
   · split at h
     · rename_i hl
       rw [Option.map_eq_some_iff] at h
       obtain ⟨m, hm, rfl⟩ := h
       intro x hx
       rcases List.mem_cons.1 hx with rfl | hx
       · rw [Bool.and_eq_true] at hl
         have h1 := hl.1
         unfold zBQ at h1
         rw [Bool.or_eq_true] at h1
         rcases h1 with h1 | h1
         · rw [eq_of_beq h1]; simp
         · simp only [Bool.and_eq_true, decide_eq_true_eq] at h1; exact h1.1.1
       · exact zBo r [] false m hm x hx
     · cases h
   · exact zBo r _ b l h
theorem zB1 {n : List UInt8} {l : List (List UInt8)} (h : labs n = some l) : ∀ x ∈ l, 1 ≤ x.length ∧ x.length ≤ 254 := fun x hx => by
 have h2 := zEq n x (by rw [h]; exact hx)
 refine ⟨?_, h2⟩
 unfold labs at h
 split at h
 · simp only [Option.some.injEq] at h; subst h; cases hx
 · split at h
   · cases h
   · exact zBo n [] true l h x hx
theorem zDZ : ∀ (l m : List (List UInt8)) (X Y : List UInt8), (∀ x ∈ l, 1 ≤ x.length ∧ x.length ≤ 254) → (∀ x ∈ m, 1 ≤ x.length ∧ x.length ≤ 254) → wnL l ++ (numB .i64 0 1 ++ X) = wnL m ++ (numB .i64 0 1 ++ Y) → l = m ∧ X = Y
 | [], [], X, Y, _, _, h => by simp only [wnL, List.nil_append] at h; exact ⟨rfl, (zAA h).2⟩
 | [], y :: s, X, Y, _, hm, h => by
   have hy := hm y (by simp)
   simp only [wnL, List.nil_append, List.append_assoc] at h
   have := zAz (by omega) (by omega) (by omega) (by omega) (by omega) (by omega) (zAA h).1
   omega
 | x :: r, [], X, Y, hl, _, h => by
   have hx := hl x (by simp)
   simp only [wnL, List.nil_append, List.append_assoc] at h
   have := zAz (by omega) (by omega) (by omega) (by omega) (by omega) (by omega) (zAA h).1
   omega
 | x :: r, y :: s, X, Y, hl, hm, h => by
   have hx := hl x (by simp); have hy := hm y (by simp)
   simp only [wnL, List.append_assoc] at h
   obtain ⟨h1, h2⟩ := zAA h
   have h3 := zAz (by omega) (by omega) (by omega) (by omega) (by omega) (by omega) h1
   obtain ⟨h4, h5⟩ := List.append_inj h2 (by omega)
   obtain ⟨h6, h7⟩ := zDZ r s X Y (fun z hz => hl z (by simp [hz])) (fun z hz => hm z (by simp [hz])) h5
   exact ⟨by rw [h4, h6], h7⟩
theorem zBh {n m : List UInt8} {X Y : List UInt8} (hn : vName n = true) (hm : vName m = true) (h : zBH n ++ X = zBH m ++ Y) : n = m ∧ X = Y := by
 obtain ⟨l, el⟩ := Option.isSome_iff_exists.1 hn
 obtain ⟨k, ek⟩ := Option.isSome_iff_exists.1 hm
 unfold zBH at h
 rw [el, ek] at h
 simp only [Option.getD_some, List.append_assoc] at h
 obtain ⟨h1, h2⟩ := zDZ l k X Y (zB1 el) (zB1 ek) h
 subst h1
 exact ⟨zCA el ek, h2⟩
theorem zBa {n m : List UInt8} (hn : vName n = true) (hm : vName m = true) (h : zBH n = zBH m) : n = m := (zBh (X := []) (Y := []) hn hm (by rw [List.append_nil, List.append_nil]; exact h)).1
theorem zCL {n : Int} (h : U64 n) {t : Nat} (ht : t < 64) : bitS n t = ((n.toNat.testBit t).toNat : Int) := by
 unfold bitS
 have hb : IntKind.u64.bits = 64 := rfl
 rw [hb, Nat.min_eq_left (by omega)]
 have h1 : n.fdiv (2 ^ t) = ((n.toNat / 2 ^ t : Nat) : Int) := by
   obtain ⟨m, rfl⟩ := Int.eq_ofNat_of_zero_le h.1
   rw [Int.fdiv_eq_ediv_of_nonneg _ (Int.pow_nonneg (by decide)), Int.toNat_natCast]
   push_cast; rfl
 rw [h1]
 have h2 : (BitVec.ofInt 64 ((n.toNat / 2 ^ t : Nat) : Int) &&& BitVec.ofInt 64 1).toNat = (n.toNat.testBit t).toNat := by
   rw [BitVec.toNat_and, BitVec.ofInt_natCast, BitVec.toNat_ofNat]
   have e1 : (BitVec.ofInt 64 1).toNat = 1 := by decide
   rw [e1, Nat.and_one_is_mod, Nat.testBit_eq_decide_div_mod_eq]
   have hlt : n.toNat / 2 ^ t < 2 ^ 64 := Nat.lt_of_le_of_lt (Nat.div_le_self _ _) (by have := h.2; have := h.1; omega)
   rw [Nat.mod_eq_of_lt hlt]
   by_cases hm : n.toNat / 2 ^ t % 2 = 1
   · rw [hm]; rfl
   · have : n.toNat / 2 ^ t % 2 = 0 := by omega
     rw [this]; rfl
 rw [h2, zCs]
 cases n.toNat.testBit t <;> rfl
theorem zCK {n : Int} (h : U64 n) {t : Nat} (ht : t < 64) : 0 ≤ bitS n t ∧ bitS n t ≤ 1 := by
 rw [zCL h ht]; cases n.toNat.testBit t <;> decide
theorem zBq {n : Int} (h : U64 n) {i : Nat} (hi : i < 8) : ∀ j : Nat, j ≤ 8 → 0 ≤ bitV n i j ∧ bitV n i j < 2 ^ j ∧ (∀ m : Nat, j = m + 1 → bitV n i j = bitV n i m * 2 + bitS n (i * 8 + m))
 | 0, _ => ⟨Int.le_refl _, by simp [bitV], fun m h => by omega⟩
 | j + 1, hj => by
   obtain ⟨a, b, _⟩ := zBq h hi j (by omega)
   have hp : (2 : Int) ^ j ≤ 128 := by
     rcases (by omega : j = 0 ∨ j = 1 ∨ j = 2 ∨ j = 3 ∨ j = 4 ∨ j = 5 ∨ j = 6 ∨ j = 7) with rfl | rfl | rfl | rfl | rfl | rfl | rfl | rfl <;> decide
   obtain ⟨c, d⟩ := zCK h (t := i * 8 + j) (by omega)
   have e : bitV n i (j + 1) = bitV n i j * 2 + bitS n (i * 8 + j) := by
     rw [bitV, wrap64 (n := bitV n i j * 2) (by omega) (by omega), wrap64 (n := bitS n (i * 8 + j)) (by omega) (by omega), wrap64 (by omega) (by omega)]
   have hs : (2 : Int) ^ (j + 1) = 2 ^ j * 2 := Int.pow_succ _ _
   refine ⟨by omega, by omega, fun m hm => ?_⟩
   obtain rfl : m = j := by omega
   exact e
theorem zCq {n m : Int} (hn : U64 n) (hm : U64 m) {i : Nat} (hi : i < 8) : ∀ j : Nat, j ≤ 8 → bitV n i j = bitV m i j → ∀ k, k < j → bitS n (i * 8 + k) = bitS m (i * 8 + k)
 | 0, _, _, k, hk => by omega
 | j + 1, hj, h, k, hk => by
   have e1 := (zBq hn hi (j + 1) hj).2.2 j rfl
   have e2 := (zBq hm hi (j + 1) hj).2.2 j rfl
   have b1 := zCK hn (t := i * 8 + j) (by omega)
   have b2 := zCK hm (t := i * 8 + j) (by omega)
   have h1 : bitV n i j = bitV m i j := by omega
   have h2 : bitS n (i * 8 + j) = bitS m (i * 8 + j) := by omega
   by_cases e : k = j
   · subst e; exact h2
   · exact zCq hn hm hi j (by omega) h1 k (by omega)
theorem zE2 {n m : Int} (hn : U64 n) (hm : U64 m) (h : ∀ t, t < 64 → bitS n t = bitS m t) : n = m := by
 have : n.toNat = m.toNat := by
   apply Nat.eq_of_testBit_eq
   intro t
   by_cases ht : t < 64
   · have := h t ht
     rw [zCL hn ht, zCL hm ht] at this
     cases h1 : n.toNat.testBit t <;> cases h2 : m.toNat.testBit t <;> simp_all
   · have hp : 2 ^ 64 ≤ 2 ^ t := Nat.pow_le_pow_right (by decide) (by omega)
     rw [Nat.testBit_lt_two_pow (by have := hn.2; have := hn.1; omega), Nat.testBit_lt_two_pow (by have := hm.2; have := hm.1; omega)]
 have := hn.1; have := hm.1; omega
theorem zCI {n : Int} : ∀ i k, zBg n i ≤ k → k < i → bitV n k 8 = 0
 | 0, k, _, h => by omega
 | i + 1, k, h1, h2 => by
   rw [zBg] at h1
   split at h1
   · rename_i hz
     by_cases e : k = i
     · rw [e]; exact hz
     · exact zCI i k h1 (by omega)
   · omega
theorem zCJ {n : Int} : ∀ i k, k < i → (bmI n i)[k]? = some (IntKind.u8.wrap (bitV n k 8))
 | 0, k, h => by omega
 | i + 1, k, h => by
   rw [bmI]
   by_cases e : k = i
   · subst e; rw [List.getElem?_append_right (by rw [zBU]; omega), zBU]; simp
   · rw [List.getElem?_append_left (by rw [zBU]; omega)]; exact zCJ i k (by omega)
theorem zGY {n m : Int} (hn : U64 n) (hm : U64 m) (h : bmB n = bmB m) : n = m := by
 have l1 := zB5 n 8; have l2 := zB5 m 8
 have hl : zBg n 8 = zBg m 8 := by
   have := congrArg List.length h
   simp only [bmB, List.length_map, List.length_take, zBU] at this
   omega
 have hV : ∀ i, i < 8 → bitV n i 8 = bitV m i 8 := fun i hi => by
   by_cases hlt : i < zBg n 8
   · have h2 := congrArg (fun l => l[i]?) h
     simp only [bmB, List.getElem?_map, List.getElem?_take] at h2
     rw [if_pos hlt, if_pos (by omega), zCJ 8 i hi, zCJ 8 i hi] at h2
     simp only [Option.map_some, Option.some.injEq] at h2
     have r1 := zBq hn hi 8 (by omega); have r2 := zBq hm hi 8 (by omega)
     have p8 : (2 : Int) ^ 8 = 256 := by decide
     rw [zCV r1.1 (by omega), zCV r2.1 (by omega)] at h2
     exact zCp r1.1 (by omega) r2.1 (by omega) h2
   · rw [zCI 8 i (by omega) hi, zCI 8 i (by omega) hi]
 refine zE2 hn hm fun t ht => ?_
 have h3 := zCq hn hm (i := t / 8) (by omega) 8 (by omega) (hV (t / 8) (by omega)) (t % 8) (by omega)
 rwa [show t / 8 * 8 + t % 8 = t by omega] at h3
theorem zAe {t : Int} {d : Dat} (h : validD t d = true) : known t = true ∧ zA1 t d = d := by
 unfold validD at h
 by_cases h1 : known t = false
 · rw [if_pos h1] at h; cases h
 · rw [if_neg h1] at h
   by_cases h2 : zA1 t d = d
   · exact ⟨by simpa using h1, h2⟩
   · rw [if_pos h2] at h; cases h
theorem zA0 {n : List UInt8} (h : zBX n = true) : vName n = true := by unfold zBX at h; rw [Bool.and_eq_true] at h; exact h.1
theorem zAH {n m : Int} (h : inB n m = true) : 0 ≤ n ∧ n ≤ m := by unfold inB at h; simpa using h
theorem zD5 {n : Int} (h : inR n = true) : 0 ≤ n ∧ n < 4294967296 := by unfold inR at h; simpa using h
theorem zJg {d e : Dat} (hd : validD 1 d = true) (he : validD 1 e = true) (bd : BSm d) (be : BSm e) (h : (zAx 1 d).1 = (zAx 1 e).1) : d = e := by
 obtain ⟨kd, ud⟩ := zAe hd
 obtain ⟨_, ue⟩ := zAe he
 have wd : ∀ x, validD 1 x = true → (zAx 1 x).1 = _ := fun x hx => by simp only [zAx, kd, hx, if_true, Int.reduceEq, if_false, or_false, false_or, or_self, or_true, true_or]; rfl
 rw [wd d hd, wd e he] at h
 unfold validD at hd he
 rw [if_neg (by rw [kd]; decide), if_neg (fun q => q ud)] at hd
 rw [if_neg (by rw [kd]; decide), if_neg (fun q => q ue)] at he
 simp only [if_true, Int.reduceEq, if_false, Bool.and_eq_true, decide_eq_true_eq, Bool.not_eq_true', decide_eq_false_iff_not, Bool.or_eq_true] at hd he
 rw [← ud, ← ue]
 simp only [zA1, if_true, Int.reduceEq, if_false, or_false, false_or, or_self, or_true, true_or]
 have v1 : d.adr.v6 = false := hd.2
 have v2 : e.adr.v6 = false := he.2
 have a1 := hd.1; have a2 := he.1
 unfold zBx at h
 rw [a1, a2, v1, v2] at h
 unfold vAdr at a1 a2
 rw [v1] at a1; rw [v2] at a2
 simp only [if_true, Bool.false_eq_true, if_false, Bool.false_or, Bool.and_eq_true, decide_eq_true_eq] at h a1 a2
 have q := zBY bd.2.2 be.2.2 (by omega) (by omega) h
 have e1 : d.adr = e.adr := by
   obtain ⟨x1, x2, x3⟩ : d.adr.v6 = e.adr.v6 ∧ d.adr.hi = e.adr.hi ∧ d.adr.lo = e.adr.lo := ⟨by rw [v1, v2], by rw [a1.1, a2.1], q⟩
   cases hx : d.adr; cases hy : e.adr; simp_all
 rw [e1]
theorem zGB {d e : Dat} (hd : validD 28 d = true) (he : validD 28 e = true) (bd : BSm d) (be : BSm e) (h : (zAx 28 d).1 = (zAx 28 e).1) : d = e := by
 obtain ⟨kd, ud⟩ := zAe hd
 obtain ⟨_, ue⟩ := zAe he
 have wd : ∀ x, validD 28 x = true → (zAx 28 x).1 = _ := fun x hx => by simp only [zAx, kd, hx, if_true, Int.reduceEq, if_false, or_false, false_or, or_self, or_true, true_or]; rfl
 rw [wd d hd, wd e he] at h
 unfold validD at hd he
 rw [if_neg (by rw [kd]; decide), if_neg (fun q => q ud)] at hd
 rw [if_neg (by rw [kd]; decide), if_neg (fun q => q ue)] at he
 simp only [if_true, Int.reduceEq, if_false, Bool.and_eq_true, decide_eq_true_eq, Bool.not_eq_true', decide_eq_false_iff_not, Bool.or_eq_true] at hd he
 rw [← ud, ← ue]
 simp only [zA1, if_true, Int.reduceEq, if_false, or_false, false_or, or_self, or_true, true_or]
 unfold zBx vAdr at h
 rw [hd, he] at h
 simp only [if_true, Bool.true_or] at h
 obtain ⟨h1, h2⟩ := zAA h
 have q1 := zBY bd.2.1 be.2.1 (by have := bd.2.1.2; omega) (by have := be.2.1.2; omega) h1
 have q2 := zBY bd.2.2 be.2.2 (by have := bd.2.2.2; omega) (by have := be.2.2.2; omega) h2
 have e1 : d.adr = e.adr := by
   obtain ⟨x1, x2, x3⟩ : d.adr.v6 = e.adr.v6 ∧ d.adr.hi = e.adr.hi ∧ d.adr.lo = e.adr.lo := ⟨by rw [hd, he], q1, q2⟩
   cases hx : d.adr; cases hy : e.adr; simp_all
 rw [e1]
theorem zJf {d e : Dat} (hd : validD 2 d = true) (he : validD 2 e = true) (bd : BSm d) (be : BSm e) (h : (zAx 2 d).1 = (zAx 2 e).1) : d = e := by
 obtain ⟨kd, ud⟩ := zAe hd
 obtain ⟨_, ue⟩ := zAe he
 have wd : ∀ x, validD 2 x = true → (zAx 2 x).1 = _ := fun x hx => by simp only [zAx, kd, hx, if_true, Int.reduceEq, if_false, or_false, false_or, or_self, or_true, true_or]; rfl
 rw [wd d hd, wd e he] at h
 unfold validD at hd he
 rw [if_neg (by rw [kd]; decide), if_neg (fun q => q ud)] at hd
 rw [if_neg (by rw [kd]; decide), if_neg (fun q => q ue)] at he
 simp only [if_true, Int.reduceEq, if_false, Bool.and_eq_true, decide_eq_true_eq, Bool.not_eq_true', decide_eq_false_iff_not, Bool.or_eq_true] at hd he
 rw [← ud, ← ue]
 simp only [zA1, if_true, Int.reduceEq, if_false, or_false, false_or, or_self, or_true, true_or]
 have q := zBa (zA0 hd) (zA0 he) h
 rw [q]
theorem zJe {d e : Dat} (hd : validD 5 d = true) (he : validD 5 e = true) (bd : BSm d) (be : BSm e) (h : (zAx 5 d).1 = (zAx 5 e).1) : d = e := by
 obtain ⟨kd, ud⟩ := zAe hd
 obtain ⟨_, ue⟩ := zAe he
 have wd : ∀ x, validD 5 x = true → (zAx 5 x).1 = _ := fun x hx => by simp only [zAx, kd, hx, if_true, Int.reduceEq, if_false, or_false, false_or, or_self, or_true, true_or]; rfl
 rw [wd d hd, wd e he] at h
 unfold validD at hd he
 rw [if_neg (by rw [kd]; decide), if_neg (fun q => q ud)] at hd
 rw [if_neg (by rw [kd]; decide), if_neg (fun q => q ue)] at he
 simp only [if_true, Int.reduceEq, if_false, Bool.and_eq_true, decide_eq_true_eq, Bool.not_eq_true', decide_eq_false_iff_not, Bool.or_eq_true] at hd he
 rw [← ud, ← ue]
 simp only [zA1, if_true, Int.reduceEq, if_false, or_false, false_or, or_self, or_true, true_or]
 have q := zBa (zA0 hd) (zA0 he) h
 rw [q]
theorem zGE {d e : Dat} (hd : validD 12 d = true) (he : validD 12 e = true) (bd : BSm d) (be : BSm e) (h : (zAx 12 d).1 = (zAx 12 e).1) : d = e := by
 obtain ⟨kd, ud⟩ := zAe hd
 obtain ⟨_, ue⟩ := zAe he
 have wd : ∀ x, validD 12 x = true → (zAx 12 x).1 = _ := fun x hx => by simp only [zAx, kd, hx, if_true, Int.reduceEq, if_false, or_false, false_or, or_self, or_true, true_or]; rfl
 rw [wd d hd, wd e he] at h
 unfold validD at hd he
 rw [if_neg (by rw [kd]; decide), if_neg (fun q => q ud)] at hd
 rw [if_neg (by rw [kd]; decide), if_neg (fun q => q ue)] at he
 simp only [if_true, Int.reduceEq, if_false, Bool.and_eq_true, decide_eq_true_eq, Bool.not_eq_true', decide_eq_false_iff_not, Bool.or_eq_true] at hd he
 rw [← ud, ← ue]
 simp only [zA1, if_true, Int.reduceEq, if_false, or_false, false_or, or_self, or_true, true_or]
 have q := zBa (zA0 hd) (zA0 he) h
 rw [q]
theorem zGz {d e : Dat} (hd : validD 39 d = true) (he : validD 39 e = true) (bd : BSm d) (be : BSm e) (h : (zAx 39 d).1 = (zAx 39 e).1) : d = e := by
 obtain ⟨kd, ud⟩ := zAe hd
 obtain ⟨_, ue⟩ := zAe he
 have wd : ∀ x, validD 39 x = true → (zAx 39 x).1 = _ := fun x hx => by simp only [zAx, kd, hx, if_true, Int.reduceEq, if_false, or_false, false_or, or_self, or_true, true_or]; rfl
 rw [wd d hd, wd e he] at h
 unfold validD at hd he
 rw [if_neg (by rw [kd]; decide), if_neg (fun q => q ud)] at hd
 rw [if_neg (by rw [kd]; decide), if_neg (fun q => q ue)] at he
 simp only [if_true, Int.reduceEq, if_false, Bool.and_eq_true, decide_eq_true_eq, Bool.not_eq_true', decide_eq_false_iff_not, Bool.or_eq_true] at hd he
 rw [← ud, ← ue]
 simp only [zA1, if_true, Int.reduceEq, if_false, or_false, false_or, or_self, or_true, true_or]
 have q := zBa (zA0 hd) (zA0 he) h
 rw [q]
theorem zJd {d e : Dat} (hd : validD 6 d = true) (he : validD 6 e = true) (bd : BSm d) (be : BSm e) (h : (zAx 6 d).1 = (zAx 6 e).1) : d = e := by
 obtain ⟨kd, ud⟩ := zAe hd
 obtain ⟨_, ue⟩ := zAe he
 have wd : ∀ x, validD 6 x = true → (zAx 6 x).1 = _ := fun x hx => by simp only [zAx, kd, hx, if_true, Int.reduceEq, if_false, or_false, false_or, or_self, or_true, true_or]; rfl
 rw [wd d hd, wd e he] at h
 unfold validD at hd he
 rw [if_neg (by rw [kd]; decide), if_neg (fun q => q ud)] at hd
 rw [if_neg (by rw [kd]; decide), if_neg (fun q => q ue)] at he
 simp only [if_true, Int.reduceEq, if_false, Bool.and_eq_true, decide_eq_true_eq, Bool.not_eq_true', decide_eq_false_iff_not, Bool.or_eq_true] at hd he
 rw [← ud, ← ue]
 simp only [zA1, if_true, Int.reduceEq, if_false, or_false, false_or, or_self, or_true, true_or]
 simp only [List.append_assoc] at h
 obtain ⟨q1, h⟩ := zBh (zA0 hd.1) (zA0 he.1) h
 obtain ⟨q2, h⟩ := zBh (zA0 hd.2.1) (zA0 he.2.1) h
 obtain ⟨h1, h⟩ := zAA h
 obtain ⟨h2, h⟩ := zAA h
 obtain ⟨h3, h⟩ := zAA h
 obtain ⟨h4, h5⟩ := zAA h
 have ra := zD5 hd.2.2.1; have rb := zAH hd.2.2.2.1; have rc := zAH hd.2.2.2.2.1; have rd := zAH hd.2.2.2.2.2.1; have re := zAH hd.2.2.2.2.2.2
 have sa := zD5 he.2.2.1; have sb := zAH he.2.2.2.1; have sc := zAH he.2.2.2.2.1; have sd := zAH he.2.2.2.2.2.1; have se := zAH he.2.2.2.2.2.2
 have qa := zAz ra.1 sa.1 (by omega) (by omega) (by omega) (by omega) h1
 have qb := zAz rb.1 sb.1 (by omega) (by omega) (by omega) (by omega) h2
 have qc := zAz rc.1 sc.1 (by omega) (by omega) (by omega) (by omega) h3
 have qd := zAz rd.1 sd.1 (by omega) (by omega) (by omega) (by omega) h4
 have qe := zAz re.1 se.1 (by omega) (by omega) (by omega) (by omega) h5
 rw [q1, q2, qa, qb, qc, qd, qe]
theorem zGD {d e : Dat} (hd : validD 15 d = true) (he : validD 15 e = true) (bd : BSm d) (be : BSm e) (h : (zAx 15 d).1 = (zAx 15 e).1) : d = e := by
 obtain ⟨kd, ud⟩ := zAe hd
 obtain ⟨_, ue⟩ := zAe he
 have wd : ∀ x, validD 15 x = true → (zAx 15 x).1 = _ := fun x hx => by simp only [zAx, kd, hx, if_true, Int.reduceEq, if_false, or_false, false_or, or_self, or_true, true_or]; rfl
 rw [wd d hd, wd e he] at h
 unfold validD at hd he
 rw [if_neg (by rw [kd]; decide), if_neg (fun q => q ud)] at hd
 rw [if_neg (by rw [kd]; decide), if_neg (fun q => q ue)] at he
 simp only [if_true, Int.reduceEq, if_false, Bool.and_eq_true, decide_eq_true_eq, Bool.not_eq_true', decide_eq_false_iff_not, Bool.or_eq_true] at hd he
 rw [← ud, ← ue]
 simp only [zA1, if_true, Int.reduceEq, if_false, or_false, false_or, or_self, or_true, true_or]
 obtain ⟨h1, h⟩ := zAA h
 have ra := zAH hd.2; have sa := zAH he.2
 have qa := zAz ra.1 sa.1 (by omega) (by omega) (by omega) (by omega) h1
 have q1 := zBa (zA0 hd.1) (zA0 he.1) h
 rw [q1, qa]
theorem zGC {d e : Dat} (hd : validD 16 d = true) (he : validD 16 e = true) (bd : BSm d) (be : BSm e) (h : (zAx 16 d).1 = (zAx 16 e).1) : d = e := by
 obtain ⟨kd, ud⟩ := zAe hd
 obtain ⟨_, ue⟩ := zAe he
 have wd : ∀ x, validD 16 x = true → (zAx 16 x).1 = _ := fun x hx => by simp only [zAx, kd, hx, if_true, Int.reduceEq, if_false, or_false, false_or, or_self, or_true, true_or]; rfl
 rw [wd d hd, wd e he] at h
 unfold validD at hd he
 rw [if_neg (by rw [kd]; decide), if_neg (fun q => q ud)] at hd
 rw [if_neg (by rw [kd]; decide), if_neg (fun q => q ue)] at he
 simp only [if_true, Int.reduceEq, if_false, Bool.and_eq_true, decide_eq_true_eq, Bool.not_eq_true', decide_eq_false_iff_not, Bool.or_eq_true] at hd he
 rw [← ud, ← ue]
 simp only [zA1, if_true, Int.reduceEq, if_false, or_false, false_or, or_self, or_true, true_or]
 obtain ⟨h1, h⟩ := zAA h
 rw [h]
theorem zGA {d e : Dat} (hd : validD 33 d = true) (he : validD 33 e = true) (bd : BSm d) (be : BSm e) (h : (zAx 33 d).1 = (zAx 33 e).1) : d = e := by
 obtain ⟨kd, ud⟩ := zAe hd
 obtain ⟨_, ue⟩ := zAe he
 have wd : ∀ x, validD 33 x = true → (zAx 33 x).1 = _ := fun x hx => by simp only [zAx, kd, hx, if_true, Int.reduceEq, if_false, or_false, false_or, or_self, or_true, true_or]; rfl
 rw [wd d hd, wd e he] at h
 unfold validD at hd he
 rw [if_neg (by rw [kd]; decide), if_neg (fun q => q ud)] at hd
 rw [if_neg (by rw [kd]; decide), if_neg (fun q => q ue)] at he
 simp only [if_true, Int.reduceEq, if_false, Bool.and_eq_true, decide_eq_true_eq, Bool.not_eq_true', decide_eq_false_iff_not, Bool.or_eq_true] at hd he
 rw [← ud, ← ue]
 simp only [zA1, if_true, Int.reduceEq, if_false, or_false, false_or, or_self, or_true, true_or]
 simp only [List.append_assoc] at h
 obtain ⟨h1, h⟩ := zAA h
 obtain ⟨h2, h⟩ := zAA h
 obtain ⟨h3, h⟩ := zAA h
 have ra := zAH hd.2.1; have sa := zAH he.2.1; have rb := zAH hd.2.2.1; have sb := zAH he.2.2.1; have rc := zAH hd.2.2.2; have sc := zAH he.2.2.2
 have qa := zAz ra.1 sa.1 (by omega) (by omega) (by omega) (by omega) h1
 have qb := zAz rb.1 sb.1 (by omega) (by omega) (by omega) (by omega) h2
 have qc := zAz rc.1 sc.1 (by omega) (by omega) (by omega) (by omega) h3
 have q1 := zBa (zA0 hd.1) (zA0 he.1) h
 rw [q1, qa, qb, qc]
theorem zGy {d e : Dat} (hd : validD 43 d = true) (he : validD 43 e = true) (bd : BSm d) (be : BSm e) (h : (zAx 43 d).1 = (zAx 43 e).1) : d = e := by
 obtain ⟨kd, ud⟩ := zAe hd
 obtain ⟨_, ue⟩ := zAe he
 have wd : ∀ x, validD 43 x = true → (zAx 43 x).1 = _ := fun x hx => by simp only [zAx, kd, hx, if_true, Int.reduceEq, if_false, or_false, false_or, or_self, or_true, true_or]; rfl
 rw [wd d hd, wd e he] at h
 unfold validD at hd he
 rw [if_neg (by rw [kd]; decide), if_neg (fun q => q ud)] at hd
 rw [if_neg (by rw [kd]; decide), if_neg (fun q => q ue)] at he
 simp only [if_true, Int.reduceEq, if_false, Bool.and_eq_true, decide_eq_true_eq, Bool.not_eq_true', decide_eq_false_iff_not, Bool.or_eq_true] at hd he
 rw [← ud, ← ue]
 simp only [zA1, if_true, Int.reduceEq, if_false, or_false, false_or, or_self, or_true, true_or]
 simp only [List.append_assoc] at h
 obtain ⟨h1, h⟩ := zAA h
 obtain ⟨h2, h⟩ := zAA h
 obtain ⟨h3, h⟩ := zAA h
 have ra := zAH hd.1; have sa := zAH he.1; have rb := zAH hd.2.1; have sb := zAH he.2.1; have rc := zAH hd.2.2.1; have sc := zAH he.2.2.1
 have qa := zAz ra.1 sa.1 (by omega) (by omega) (by omega) (by omega) h1
 have qb := zAz rb.1 sb.1 (by omega) (by omega) (by omega) (by omega) h2
 have qc := zAz rc.1 sc.1 (by omega) (by omega) (by omega) (by omega) h3
 rw [h, qa, qb, qc]
theorem zGv {d e : Dat} (hd : validD 48 d = true) (he : validD 48 e = true) (bd : BSm d) (be : BSm e) (h : (zAx 48 d).1 = (zAx 48 e).1) : d = e := by
 obtain ⟨kd, ud⟩ := zAe hd
 obtain ⟨_, ue⟩ := zAe he
 have wd : ∀ x, validD 48 x = true → (zAx 48 x).1 = _ := fun x hx => by simp only [zAx, kd, hx, if_true, Int.reduceEq, if_false, or_false, false_or, or_self, or_true, true_or]; rfl
 rw [wd d hd, wd e he] at h
 unfold validD at hd he
 rw [if_neg (by rw [kd]; decide), if_neg (fun q => q ud)] at hd
 rw [if_neg (by rw [kd]; decide), if_neg (fun q => q ue)] at he
 simp only [if_true, Int.reduceEq, if_false, Bool.and_eq_true, decide_eq_true_eq, Bool.not_eq_true', decide_eq_false_iff_not, Bool.or_eq_true] at hd he
 rw [← ud, ← ue]
 simp only [zA1, if_true, Int.reduceEq, if_false, or_false, false_or, or_self, or_true, true_or]
 simp only [List.append_assoc] at h
 obtain ⟨h1, h⟩ := zAA h
 obtain ⟨h2, h⟩ := zAA h
 obtain ⟨h3, h⟩ := zAA h
 have ra : 0 ≤ d.a ∧ d.a ≤ 257 := by rcases hd.1 with q | q <;> omega
 have sa : 0 ≤ e.a ∧ e.a ≤ 257 := by rcases he.1 with q | q <;> omega
 have rb : 0 ≤ d.b ∧ d.b ≤ 3 := by have := hd.2.1; omega
 have sb : 0 ≤ e.b ∧ e.b ≤ 3 := by have := he.2.1; omega
 have rc := zAH hd.2.2.1; have sc := zAH he.2.2.1
 have qa := zAz ra.1 sa.1 (by omega) (by omega) (by omega) (by omega) h1
 have qb := zAz rb.1 sb.1 (by omega) (by omega) (by omega) (by omega) h2
 have qc := zAz rc.1 sc.1 (by omega) (by omega) (by omega) (by omega) h3
 rw [h, qa, qb, qc]
theorem zGx {d e : Dat} (hd : validD 46 d = true) (he : validD 46 e = true) (bd : BSm d) (be : BSm e) (h : (zAx 46 d).1 = (zAx 46 e).1) : d = e := by
 obtain ⟨kd, ud⟩ := zAe hd
 obtain ⟨_, ue⟩ := zAe he
 have wd : ∀ x, validD 46 x = true → (zAx 46 x).1 = _ := fun x hx => by simp only [zAx, kd, hx, if_true, Int.reduceEq, if_false, or_false, false_or, or_self, or_true, true_or]; rfl
 rw [wd d hd, wd e he] at h
 unfold validD at hd he
 rw [if_neg (by rw [kd]; decide), if_neg (fun q => q ud)] at hd
 rw [if_neg (by rw [kd]; decide), if_neg (fun q => q ue)] at he
 simp only [if_true, Int.reduceEq, if_false, Bool.and_eq_true, decide_eq_true_eq, Bool.not_eq_true', decide_eq_false_iff_not, Bool.or_eq_true] at hd he
 rw [← ud, ← ue]
 simp only [zA1, if_true, Int.reduceEq, if_false, or_false, false_or, or_self, or_true, true_or]
 simp only [List.append_assoc] at h
 obtain ⟨h1, h⟩ := zAA h
 obtain ⟨_, h⟩ := zAA h
 obtain ⟨h2, h⟩ := zAA h
 obtain ⟨h3, h⟩ := zAA h
 obtain ⟨h4, h⟩ := zAA h
 obtain ⟨h5, h⟩ := zAA h
 obtain ⟨h6, h⟩ := zAA h
 obtain ⟨v1, _, vb, vc, vd, ve, vf, vh, _⟩ := hd
 obtain ⟨w1, _, wb, wc, wd, we, wf, wh, _⟩ := he
 have kr : ∀ x : Int, known x = true → 0 ≤ x ∧ x ≤ 255 := fun x hx => by
   rcases zDJ x with rfl | rfl | rfl | rfl | rfl | rfl | rfl | rfl | rfl | rfl | rfl | rfl | rfl | rfl | ⟨a1, a2, a3, a4, a5, a6, a7, a8, a9, a10, a11, a12, a13, a14⟩ <;> first | (constructor <;> omega) | skip
   exfalso
   unfold known mnem at hx
   rw [if_neg (fun e => a1 e.symm), if_neg (fun e => a2 e.symm), if_neg (fun e => a3 e.symm), if_neg (fun e => a4 e.symm), if_neg (fun e => a5 e.symm), if_neg (fun e => a6 e.symm), if_neg (fun e => a7 e.symm), if_neg (fun e => a8 e.symm), if_neg (fun e => a9 e.symm), if_neg (fun e => a10 e.symm), if_neg (fun e => a11 e.symm), if_neg (fun e => a12 e.symm), if_neg (fun e => a13 e.symm), if_neg (fun e => a14 e.symm)] at hx
   cases hx
 have ra := kr _ v1; have sa := kr _ w1; have rb := zAH vb; have sb := zAH wb; have rc := zAH vc; have sc := zAH wc; have rd := zAH vd; have sd := zAH wd; have re := zAH ve; have se := zAH we; have rf := zAH vf; have sf := zAH wf
 have qa := zAz ra.1 sa.1 (by omega) (by omega) (by omega) (by omega) h1
 have qb := zAz rb.1 sb.1 (by omega) (by omega) (by omega) (by omega) h2
 have qc := zAz rc.1 sc.1 (by omega) (by omega) (by omega) (by omega) h3
 have qd := zAz rd.1 sd.1 (by omega) (by omega) (by omega) (by omega) h4
 have qe := zAz re.1 se.1 (by omega) (by omega) (by omega) (by omega) h5
 have qf := zAz rf.1 sf.1 (by omega) (by omega) (by omega) (by omega) h6
 obtain ⟨q1, q2⟩ := zBh (zA0 vh) (zA0 wh) h
 rw [q1, q2, qa, qb, qc, qd, qe, qf]
theorem zGw {d e : Dat} (hd : validD 47 d = true) (he : validD 47 e = true) (bd : BSm d) (be : BSm e) (h : (zAx 47 d).1 = (zAx 47 e).1) : d = e := by
 obtain ⟨kd, ud⟩ := zAe hd
 obtain ⟨_, ue⟩ := zAe he
 have wd : ∀ x, validD 47 x = true → (zAx 47 x).1 = _ := fun x hx => by simp only [zAx, kd, hx, if_true, Int.reduceEq, if_false, or_false, false_or, or_self, or_true, true_or]; rfl
 rw [wd d hd, wd e he] at h
 unfold validD at hd he
 rw [if_neg (by rw [kd]; decide), if_neg (fun q => q ud)] at hd
 rw [if_neg (by rw [kd]; decide), if_neg (fun q => q ue)] at he
 simp only [if_true, Int.reduceEq, if_false, Bool.and_eq_true, decide_eq_true_eq, Bool.not_eq_true', decide_eq_false_iff_not, Bool.or_eq_true] at hd he
 rw [← ud, ← ue]
 simp only [zA1, if_true, Int.reduceEq, if_false, or_false, false_or, or_self, or_true, true_or]
 simp only [List.append_assoc] at h
 obtain ⟨q1, h⟩ := zBh hd.1 he.1 h
 obtain ⟨_, h⟩ := zAA h
 obtain ⟨_, h⟩ := zAA h
 have q2 := zGY bd.1 be.1 h
 rw [q1, q2]
theorem zD1 {t : Int} {d e : Dat} (hd : validD t d = true) (he : validD t e = true) (bd : BSm d) (be : BSm e) (h : (zAx t d).1 = (zAx t e).1) : d = e := by
 have hk := (zAe hd).1
 rcases zDJ t with rfl | rfl | rfl | rfl | rfl | rfl | rfl | rfl | rfl | rfl | rfl | rfl | rfl | rfl | ⟨a1, a2, a3, a4, a5, a6, a7, a8, a9, a10, a11, a12, a13, a14⟩
 · exact zJg hd he bd be h
 · exact zJf hd he bd be h
 · exact zJe hd he bd be h
 · exact zJd hd he bd be h
 · exact zGE hd he bd be h
 · exact zGD hd he bd be h
 · exact zGC hd he bd be h
 · exact zGB hd he bd be h
 · exact zGA hd he bd be h
 · exact zGz hd he bd be h
 · exact zGy hd he bd be h
 · exact zGx hd he bd be h
 · exact zGw hd he bd be h
 · exact zGv hd he bd be h
 · exfalso
   unfold known mnem at hk
   rw [if_neg (fun e => a1 e.symm), if_neg (fun e => a2 e.symm), if_neg (fun e => a3 e.symm), if_neg (fun e => a4 e.symm), if_neg (fun e => a5 e.symm), if_neg (fun e => a6 e.symm), if_neg (fun e => a7 e.symm), if_neg (fun e => a8 e.symm), if_neg (fun e => a9 e.symm), if_neg (fun e => a10 e.symm), if_neg (fun e => a11 e.symm), if_neg (fun e => a12 e.symm), if_neg (fun e => a13 e.symm), if_neg (fun e => a14 e.symm)] at hk
   cases hk
theorem zD0 {t : Int} {d : Dat} (hd : validD t d = true) : (zAx t d).2 = 0 := by
 have hk := (zAe hd).1
 have ha : t = 1 → vAdr d.adr = true := fun e => by
   subst e
   have h := hd
   obtain ⟨kd, ud⟩ := zAe hd
   unfold validD at h
   rw [if_neg (by rw [kd]; decide), if_neg (fun q => q ud)] at h
   simp only [if_true, Bool.and_eq_true] at h
   exact h.1
 have hb : t = 28 → vAdr d.adr = true := fun e => by
   subst e
   have h := hd
   obtain ⟨kd, ud⟩ := zAe hd
   unfold validD at h
   rw [if_neg (by rw [kd]; decide), if_neg (fun q => q ud)] at h
   simp only [Int.reduceEq, if_true, if_false] at h
   unfold vAdr; rw [h]; rfl
 have hw : vAdr d.adr = true → (zBx d.adr).2 = 0 := fun h => by unfold zBx; rw [h]; simp only [if_true]; split <;> rfl
 unfold zAx
 rw [hk, hd]
 simp only [if_true]
 repeat' split
 all_goals first | rfl | exact hw (ha ‹_›) | exact hw (hb ‹_›)
theorem zD8 {t : Int} {d e : Dat} (hd : validD t d = true) (he : validD t e = true) (bd : BSm d) (be : BSm e) (h : cmpD t d e = 0) : d = e := by
 unfold cmpD at h
 rw [if_pos (zD0 hd), if_pos (zD0 he)] at h
 exact zD1 hd he bd be (zBA h)
theorem zBV : ∀ {x y : List (List UInt8)}, lexC x y = 0 → x = y
 | [], [], _ => rfl
 | [], _ :: _, h => by simp [lexC] at h
 | _ :: _, [], h => by simp [lexC] at h
 | a :: x, b :: y, h => by
   simp only [lexC] at h
   by_cases hz : zBj a b = 0
   · rw [if_neg (fun q => q hz)] at h
     rw [zBA hz, zBV h]
   · rw [if_pos hz] at h; exact absurd h hz
theorem zBI {a b : List UInt8} (ha : vName a = true) (hb : vName b = true) (h : cmpB a b = 0) : a = b := by
 obtain ⟨l, el⟩ := Option.isSome_iff_exists.1 ha
 obtain ⟨k, ek⟩ := Option.isSome_iff_exists.1 hb
 rw [zEy, el, ek] at h
 have h2 := zBV h
 have h3 := congrArg List.reverse h2
 simp only [List.reverse_reverse] at h3
 subst h3
 exact zCA el ek
def VR1 (r : Rec) : Prop := zBd r = true ∧ BSm r.dat
theorem zA9 {r : Rec} (h : zBd r = true) : vName r.name = true ∧ validD r.typ r.dat = true := by
 unfold zBd at h; simp only [Bool.and_eq_true] at h; exact ⟨h.1, h.2.2.2.2⟩
theorem zCh {a b : Rec} (ha : VR1 a) (hb : VR1 b) : zAy a b = 0 ↔ a.name = b.name ∧ a.typ = b.typ ∧ a.dat = b.dat := by
 obtain ⟨na, da⟩ := zA9 ha.1
 obtain ⟨nb, db⟩ := zA9 hb.1
 constructor
 · intro h
   unfold zAy at h
   by_cases h1 : cmpB a.name b.name = 0
   · rw [if_neg (fun q => q h1)] at h
     by_cases h2 : numC a.typ b.typ = 0
     · rw [if_neg (fun q => q h2)] at h
       have e1 := zBI na nb h1
       have e2 := zDc h2
       rw [← e2] at db
       exact ⟨e1, e2, zD8 da db ha.2 hb.2 h⟩
     · rw [if_pos h2] at h; exact absurd h h2
   · rw [if_pos h1] at h; exact absurd h h1
 · rintro ⟨e1, e2, e3⟩
   have h0 := cmp_first.self a
   have : zAy a b = zAy a a := by unfold zAy; rw [e1, e2, e3]
   rw [this]; exact h0
def ZIn (z : Zone) : Prop := Sm z.origin ∧ LIn z.recs
theorem ZIn.rw {z : Zone} (h : ZIn z) : ZRw z := ⟨h.1, h.2.sm.1, h.2.sm.2⟩
theorem DIn.rw {d : Delta} (h : DIn d) : DltRw d := ⟨h.1, h.2.1.sm, h.2.2.sm.1, h.2.2.sm.2⟩
theorem td_delta {n : Nat} {ds : List D} (h : TD Tryz.prog (n + 6) 28 ds) : ∃ x : Delta, D.agg ds = zAS x ∧ DIn x := by
 unfold TD at h
 simp only [Tryz.underlying28, List.toList_toArray, List.foldr_cons, List.foldr_nil] at h
 obtain ⟨a0, r0, rfl, _, t0, a1, r1, rfl, _, t1, a2, r2, rfl, _, t2, a3, r3, rfl, _, t3, a4, r4, rfl, _, t4, h9⟩ := h
 subst h9
 obtain ⟨v0, rfl, w0⟩ := zER Tryz.underlying9 (show TD Tryz.prog (n + 4 + 1) 9 a0 from t0)
 obtain ⟨v1, rfl⟩ := zDK Tryz.underlying3 (show TD Tryz.prog (n + 4 + 1) 3 a1 from t1)
 obtain ⟨v2, rfl⟩ := zDK Tryz.underlying3 (show TD Tryz.prog (n + 4 + 1) 3 a2 from t2)
 obtain ⟨v3, rfl, w3, u3⟩ := zCd (sz := 16) (E := recE) (W := RIn) Tryz.underlying22 (by kernel_rfl) (by kernel_rfl) (fun cs h => zGG h) (show TD Tryz.prog (n + 4 + 1) 22 a3 from t3)
 obtain ⟨v4, rfl, w4, u4⟩ := zCd (sz := 16) (E := recE) (W := RIn) Tryz.underlying22 (by kernel_rfl) (by kernel_rfl) (fun cs h => zGG h) (show TD Tryz.prog (n + 4 + 1) 22 a4 from t4)
 exact ⟨⟨v0, v1, v2, v3, v4⟩, rfl, ⟨w0, zGT (by kernel_rfl) w3 u3, zGT (by kernel_rfl) w4 u4⟩⟩
theorem alike_iff {a b : Rec} : alike a b = true ↔ a.name = b.name ∧ a.typ = b.typ ∧ a.dat = b.dat := by
 unfold alike; simp
theorem zBs {a b : Rec} (ha : VR1 a) (hb : VR1 b) : alike a b = true ↔ zAy a b = 0 := alike_iff.trans (zCh ha hb).symm
theorem zCG {a b : Rec} (h : ¬ zAy a b = 0) : cmpR a b = zAy a b := by unfold cmpR; rw [if_pos h]
theorem zOK {a b : Rec} (ha : VR1 a) (hb : VR1 b) (h : cmpR a b = 0) : a = b := by
 by_cases hf : zAy a b = 0
 · have h1 := (zCh ha hb).1 hf
   unfold cmpR at h
   rw [if_neg (fun q => q hf)] at h
   have h2 := zDc h
   obtain ⟨n1, t1, l1, d1⟩ := a
   obtain ⟨n2, t2, l2, d2⟩ := b
   simp only at h1 h2
   obtain ⟨rfl, rfl, rfl⟩ := h1
   subst h2; rfl
 · rw [zCG hf] at h; exact absurd h hf
theorem zBR : ∀ {l : List Rec}, (∀ r ∈ l, VR1 r) → (srt l = true ↔ Str l)
 | [], _ => by simp [srt, Str]
 | [a], _ => by simp [srt, Str]
 | a :: b :: r, hv => by
   have ih := zBR (l := b :: r) fun x hx => hv x (by simp [hx])
   have hal := zBs (hv a (by simp)) (hv b (by simp))
   rw [srt]
   constructor
   · intro h
     by_cases h1 : 0 ≤ cmpR a b
     · rw [if_pos h1] at h; cases h
     rw [if_neg h1] at h
     by_cases h2 : alike a b = true
     · rw [if_pos h2] at h; cases h
     rw [if_neg h2] at h
     have h3 : ¬ zAy a b = 0 := fun q => h2 (hal.2 q)
     rw [zCG h3] at h1
     have hs := ih.1 h
     refine str_cons.2 ⟨fun c hc => ?_, hs⟩
     rcases List.mem_cons.1 hc with rfl | hc
     · omega
     · exact zGn (by omega) ((str_cons.1 hs).1 c hc)
   · intro h
     obtain ⟨h1, h2⟩ := str_cons.1 h
     have h3 := h1 b (by simp)
     rw [if_neg (by rw [zCG (by omega)]; omega), if_neg (fun q => by have := hal.1 q; omega)]
     exact ih.2 h2
theorem zH6 {l : List Rec} {z : Rec} (h : l.Pairwise fun a b => ¬ zAy a b = 0) : (cz z l).length ≤ 1 := by
 have hp : (cz z l).Pairwise fun a b => ¬ zAy a b = 0 := List.Pairwise.filter _ h
 match hc : cz z l with
 | [] => simp
 | [_] => simp
 | a :: b :: r =>
   rw [hc] at hp
   have ha : a ∈ cz z l := by rw [hc]; simp
   have hb : b ∈ cz z l := by rw [hc]; simp
   have ea : zAy a z = 0 := of_decide_eq_true (List.mem_filter.1 ha).2
   have eb : zAy b z = 0 := of_decide_eq_true (List.mem_filter.1 hb).2
   exact absurd (zB2 ea (cmp_first.zero.1 eb)) ((List.pairwise_cons.1 hp).1 b (by simp))
theorem zE0 {l : List Rec} (h : l.length ≤ 1) : l.foldl bst [] = l := by
 match l with
 | [] => rfl
 | [_] => rfl
 | _ :: _ :: _ => simp at h
theorem zCX {l : List Rec} (h : Str l) : l.Pairwise fun a b => ¬ zAy a b = 0 := h.imp fun k e => by omega
theorem zCY {l : List Rec} (h : Str l) : zA4 l = l := zEd (zBt l) h fun z => by rw [zFC, zE0 (zH6 (zCX h))]
theorem zD2 {l : List Rec} (hv : ∀ r ∈ l, VR1 r) : srt l = eqL l (zA4 l) := by
 rw [Bool.eq_iff_iff, zBR hv]
 unfold eqL
 rw [decide_eq_true_eq]
 exact ⟨fun h => (zCY h).symm, fun h => by rw [h]; exact zBt _⟩
theorem zBF {l : List Rec} {o : List UInt8} (h : zAV l o = true) (hb : ∀ r ∈ l, BSm r.dat) : ∀ r ∈ l, VR1 r := fun r hr => by
 refine ⟨?_, hb r hr⟩
 have := List.all_eq_true.1 h r hr
 unfold insX at this
 split at this
 · cases this
 · simp_all
def BD (d : Delta) : Prop := (∀ r ∈ d.rem, BSm r.dat) ∧ ∀ r ∈ d.add, BSm r.dat
theorem zCC {d : Delta} (hb : BD d) : zCc d = chkD d := by
 unfold zCc chkD
 by_cases h1 : vName d.origin = false
 · rw [if_pos h1, if_pos h1]
 rw [if_neg h1, if_neg h1]
 by_cases h2 : 2048 < (d.rem.length : Int) ∨ 2048 < (d.add.length : Int)
 · rw [if_pos h2, if_pos h2]
 rw [if_neg h2, if_neg h2]
 by_cases h3 : inR d.fro = false ∨ inR d.til = false ∨ zBn d.til d.fro = false
 · rw [if_pos h3, if_pos h3]
 rw [if_neg h3, if_neg h3]
 by_cases h4 : zAV d.rem d.origin = false ∨ zAV d.add d.origin = false
 · rw [if_pos h4, if_pos h4]
 rw [if_neg h4, if_neg h4]
 have v1 : zAV d.rem d.origin = true := by cases q : zAV d.rem d.origin with | true => rfl | false => exact absurd (.inl q) h4
 have v2 : zAV d.add d.origin = true := by cases q : zAV d.add d.origin with | true => rfl | false => exact absurd (.inr q) h4
 have e : ((zAi d.rem d.add).length : Int) < d.rem.length ↔ ¬ ((zAi d.rem d.add).length : Int) = d.rem.length := by
   have := zA3 d.rem d.add; omega
 rw [zD2 (zBF v1 hb.1), zD2 (zBF v2 hb.2)]
 simp only [e]
structure DV (d : Delta) : Prop where
 vr : ∀ r ∈ d.rem, VR1 r
 va : ∀ r ∈ d.add, VR1 r
 sr : Str d.rem
 sa : Str d.add
theorem zLa {d : Delta} (hb : BD d) (h : chkD d = 0) : DV d := by
 unfold chkD at h
 by_cases h1 : vName d.origin = false
 · rw [if_pos h1] at h; cases h
 rw [if_neg h1] at h
 by_cases h2 : 2048 < (d.rem.length : Int) ∨ 2048 < (d.add.length : Int)
 · rw [if_pos h2] at h; cases h
 rw [if_neg h2] at h
 by_cases h3 : inR d.fro = false ∨ inR d.til = false ∨ zBn d.til d.fro = false
 · rw [if_pos h3] at h; cases h
 rw [if_neg h3] at h
 by_cases h4 : zAV d.rem d.origin = false ∨ zAV d.add d.origin = false
 · rw [if_pos h4] at h; cases h
 rw [if_neg h4] at h
 have v1 : zAV d.rem d.origin = true := by cases q : zAV d.rem d.origin with | true => rfl | false => exact absurd (.inl q) h4
 have v2 : zAV d.add d.origin = true := by cases q : zAV d.add d.origin with | true => rfl | false => exact absurd (.inr q) h4
 have w1 := zBF v1 hb.1
 have w2 := zBF v2 hb.2
 by_cases h5 : srt d.rem = false ∨ srt d.add = false ∨ ¬ ((zAi d.rem d.add).length : Int) = d.rem.length
 · rw [if_pos h5] at h; cases h
 refine ⟨w1, w2, (zBR w1).1 ?_, (zBR w2).1 ?_⟩
 · cases q : srt d.rem with | true => rfl | false => exact absurd (.inl q) h5
 · cases q : srt d.add with | true => rfl | false => exact absurd (.inr (.inl q)) h5
theorem zDO : ∀ (n : Nat) (A : List Rec) (x : Rec) (B : List Rec), A.length = n → Srt ltR (A ++ B) → (∀ b ∈ B, cmpR x b < 0) → (sink n (A ++ x :: B)).Perm (A ++ x :: B) ∧ Srt ltR (sink n (A ++ x :: B))
 | 0, A, x, B, hA, hs, hb => by
   have : A = [] := List.length_eq_zero_iff.1 hA
   subst this
   refine ⟨List.Perm.refl _, List.pairwise_cons.2 ⟨fun b h => decide_eq_false ?_, hs⟩⟩
   have := hb b h; have := cmp_rec.sym x b; omega
 | n + 1, A, x, B, hA, hs, hb => by
   rcases List.eq_nil_or_concat A with rfl | ⟨A', a, rfl⟩
   · simp at hA
   · rw [List.concat_eq_append] at *
     have hn : A'.length = n := by simpa using hA
     have e1 : (A' ++ [a] ++ x :: B)[n]! = a := by rw [getElem!_pos _ n (by simp; omega), List.getElem_append_left (by simp; omega), List.getElem_append_right (by omega)]; simp [hn]
     have e2 : (A' ++ [a] ++ x :: B)[n + 1]! = x := by rw [getElem!_pos _ (n + 1) (by simp; omega), List.getElem_append_right (by simp; omega)]; simp [hn]
     rw [sink, e1, e2]
     by_cases hc : 0 < cmpR a x
     · rw [if_pos hc]
       have e3 : ((A' ++ [a] ++ x :: B).set (n + 1) a).set n x = A' ++ x :: a :: B := by
         subst hn
         simp [List.set_append]
       rw [e3]
       have hxa : cmpR x a < 0 := (cmp_rec.sym x a).2 hc
       obtain ⟨h1, h2⟩ := zDO n A' x (a :: B) hn (by simpa using hs) fun b h => by
         rcases List.mem_cons.1 h with rfl | h
         · exact hxa
         · exact hb b h
       refine ⟨h1.trans ?_, h2⟩
       rw [List.append_assoc]
       exact List.Perm.append_left A' (List.Perm.swap a x B)
     · rw [if_neg hc]
       refine ⟨List.Perm.refl _, ?_⟩
       obtain ⟨p1, p2, p3⟩ := List.pairwise_append.1 hs
       refine List.pairwise_append.2 ⟨p1, List.pairwise_cons.2 ⟨fun b h => decide_eq_false ?_, p2⟩, fun y hy z hz => ?_⟩
       · have := hb b h; have := cmp_rec.sym x b; omega
       · rcases List.mem_cons.1 hz with rfl | hz
         · refine decide_eq_false ?_
           have h4 : cmpR y a ≤ 0 := by
             rcases List.mem_append.1 hy with hy | hy
             · have := of_decide_eq_false ((List.pairwise_append.1 p1).2.2 y hy a (by simp))
               have := cmp_rec.sym a y; have := cmp_rec.sym y a; omega
             · simp only [List.mem_singleton] at hy; subst hy; rw [cmp_rec.self]; exact Int.le_refl _
           have h5 := cmp_rec.tr h4 (show cmpR a z ≤ 0 by omega)
           have := cmp_rec.sym z y; have := cmp_rec.sym y z; omega
         · exact p3 y hy z hz
theorem zDQ : ∀ (l out : List Rec), Srt ltR out → (l.foldl (fun out x => sink out.length (out ++ [x])) out).Perm (out ++ l) ∧ Srt ltR (l.foldl (fun out x => sink out.length (out ++ [x])) out)
 | [], out, h => ⟨by simp, h⟩
 | x :: r, out, h => by
   obtain ⟨h1, h2⟩ := zDO out.length out x [] rfl (by simpa using h) (fun b hb => by cases hb)
   obtain ⟨h3, h4⟩ := zDQ r _ h2
   refine ⟨?_, h4⟩
   rw [List.foldl_cons]
   exact h3.trans (by simpa using List.Perm.append_right r h1)
theorem zCO (l : List Rec) : (ordR l).Perm l ∧ Srt ltR (ordR l) := by
 have := zDQ l [] List.Pairwise.nil
 simpa [ordR] using this
theorem zP9 {a b : List Rec} (ha : Srt ltR a) (hb : Srt ltR b) (hp : a.Perm b) (hv : ∀ x ∈ a, VR1 x) : a = b := by
 refine zKg wkR a b ha hb fun z => ?_
 have hq : (cls ltR z a).Perm (cls ltR z b) := hp.filter _
 match hl : cls ltR z a with
 | [] => rw [hl] at hq; exact (hq.nil_eq)
 | c :: r =>
   have hall : ∀ x ∈ cls ltR z a, x = c := fun x hx => by
     have hc : c ∈ cls ltR z a := by rw [hl]; simp
     obtain ⟨x1, x2, x3⟩ := mem_cls.1 hx
     obtain ⟨c1, c2, c3⟩ := mem_cls.1 hc
     have k1 := of_decide_eq_false x2; have k2 := of_decide_eq_false x3; have k3 := of_decide_eq_false c2; have k4 := of_decide_eq_false c3
     have s1 := cmp_rec.sym x z; have s2 := cmp_rec.sym z x; have s3 := cmp_rec.sym c z; have s4 := cmp_rec.sym z c; have s5 := cmp_rec.sym x c; have s6 := cmp_rec.sym c x
     have t1 := cmp_rec.tr (x := x) (y := z) (z := c) (by omega) (by omega)
     have t2 := cmp_rec.tr (x := c) (y := z) (z := x) (by omega) (by omega)
     exact zOK (hv x x1) (hv c c1) (by omega)
   have e1 : cls ltR z a = List.replicate (cls ltR z a).length c := List.eq_replicate_iff.2 ⟨rfl, hall⟩
   have e2 : cls ltR z b = List.replicate (cls ltR z a).length c := List.eq_replicate_iff.2 ⟨hq.length_eq.symm, fun x hx => hall x (hq.mem_iff.2 hx)⟩
   rw [← hl, e1, e2]
theorem zQv {l : List Rec} (hr : ∀ x ∈ l, RSm x) (hv : ∀ x ∈ l, VR1 x) : zDX l = ordR l := by
 obtain ⟨h1, h2⟩ := zJY hr
 obtain ⟨h3, h4⟩ := zCO l
 refine zP9 (List.pairwise_iff_getElem.2 fun i j hi hj hij => ?_) h4 (h1.trans h3.symm) fun x hx => hv x (h1.mem_iff.1 hx)
 have := h2 i j hij hj
 rw [getElem!_pos (zDX l) j hj, getElem!_pos (zDX l) i hi] at this
 exact decide_eq_false this
def RD (d : Delta) : Prop := (∀ r ∈ d.rem, RSm r) ∧ ∀ r ∈ d.add, RSm r
theorem zTO {d e : Delta} (hd : BD d) (he : BD e) (rd : RD d) (re : RD e) (vd : DV d) (ve : DV e) : mrgP d e = mrgD d e := by
 have j : ∀ {a b c f : List Rec}, (∀ r ∈ a, RSm r) → (∀ r ∈ c, RSm r) → (∀ r ∈ a, VR1 r) → (∀ r ∈ c, VR1 r) → zDX (zAi a b ++ zAi c f) = both (zAi a b) (zAi c f) := fun {a b c f} r1 r2 v1 v2 => by
   unfold both
   refine zQv (fun x hx => ?_) (fun x hx => ?_) <;> rcases List.mem_append.1 hx with h | h
   · exact r1 x (List.mem_filter.1 h).1
   · exact r2 x (List.mem_filter.1 h).1
   · exact v1 x (List.mem_filter.1 h).1
   · exact v2 x (List.mem_filter.1 h).1
 unfold mrgP mrgD
 rw [j rd.1 re.1 vd.vr ve.vr, j rd.2 re.2 vd.va ve.va]
theorem yFm {d e : Delta} (hd : BD d) (he : BD e) : BD (mrgD d e) := by
 constructor <;> intro r hr <;> rcases List.mem_append.1 ((zCO _).1.mem_iff.1 hr) with h | h
 · exact hd.1 r (List.mem_filter.1 h).1
 · exact he.1 r (List.mem_filter.1 h).1
 · exact hd.2 r (List.mem_filter.1 h).1
 · exact he.2 r (List.mem_filter.1 h).1
theorem zOo {d e : Delta} (hd : BD d) (he : BD e) (rd : RD d) (re : RD e) : zDR d e = mergeD d e := by
 unfold zDR mergeD
 rw [zCC hd, zCC he]
 by_cases h1 : ¬ chkD d = 0
 · rw [if_pos h1, if_pos h1]
 rw [if_neg h1, if_neg h1]
 by_cases h2 : ¬ chkD e = 0
 · rw [if_pos h2, if_pos h2]
 rw [if_neg h2, if_neg h2]
 have vd := zLa hd (Classical.not_not.1 h1)
 have ve := zLa he (Classical.not_not.1 h2)
 rw [zTO hd he rd re vd ve, zCC (yFm hd he)]
 have e1 : ((zAi d.rem e.rem).length : Int) < d.rem.length ↔ ¬ ((zAi d.rem e.rem).length : Int) = d.rem.length := by
   have := zA3 d.rem e.rem; omega
 have e2 : ((zAi d.add e.add).length : Int) < d.add.length ↔ ¬ ((zAi d.add e.add).length : Int) = d.add.length := by
   have := zA3 d.add e.add; omega
 simp only [e1, e2]
def zDh (l : List Rec) : Bool := if 200 < (l.length : Int) then decide ((l.length : Int) ≤ 2048) else false
structure DOk (d : Delta) : Prop where
 rw : DltRw d
 b : BD d
 g : BigD d
theorem DOk.r {d : Delta} (h : DOk d) : RD d := ⟨h.rw.2.1.2, h.rw.2.2.2⟩
theorem yBZ {d e : Delta} (hd : DltRw d) (he : DltRw e) : Sm (mergeD d e).1.rem ∧ Sm (mergeD d e).1.add := by
 have z : Sm dlt0.rem ∧ Sm dlt0.add := ⟨by simp only [Sm]; decide, by simp only [Sm]; decide⟩
 have key : (mergeD d e).1 = dlt0 ∨ ((mergeD d e).1 = mrgD d e ∧ chkD (mrgD d e) = 0) := by
   unfold mergeD
   repeat' split
   all_goals first | exact .inl rfl | exact .inr ⟨rfl, Classical.not_not.1 ‹_›⟩
 rcases key with key | ⟨key, h2⟩
 · rw [key]; exact z
 rw [key]
 unfold chkD at h2
 by_cases h3 : vName (mrgD d e).origin = false
 · rw [if_pos h3] at h2; cases h2
 rw [if_neg h3] at h2
 by_cases h4 : 2048 < ((mrgD d e).rem.length : Int) ∨ 2048 < ((mrgD d e).add.length : Int)
 · rw [if_pos h4] at h2; cases h2
 constructor <;> simp only [Sm] <;> omega

noncomputable def zFA := mkF (fun s : (List Rec) => [zAt s]) (fun s => True) (fun s => Res.flat (.bo (zDh s)))
theorem zEh {l : List Rec} : zFA [zAt l] = some (Res.flat (.bo (zDh l))) := zAB (s := (l)) (fun s s' h => by simp only [cI] at h; simp only [h]) trivial
theorem zFt (cx : Cx) (hP : cx.P = Tryz.prog) (hbs : cx.bs = 0) (l : List Rec)  : zAj cx Tryz.f11 [] false [zAt l] = some (Res.flat (.bo (zDh l))) := by
 refine zAg (rs := [.tmp 2]) rfl hbs rfl ?_
 repeat' first
   | (refine zAR (fun h => ?_) (fun h => ?_) <;> (try simp only [cN] at h))
   | (refine zAN ?_ ?_)
   | simp only [↓cD, cU, cQ, cP, cB, zAJ, unD, zAf, zAd, idx, reduceCtorEq, ↓reduceIte, ofV, ofC, zAq, Nat.reduceEqDiff, zAG, cG, implies_true, forall_const, immL, immD, Res.flat, ren, renL, Int.reduceEq, Int.reduceLT, Int.reduceLE, Int.reduceNe, deref, ldD, zAF, zAk, zAI, zAs, cC, ↓zAM, ↓zAQ, ↓zAL, ↓zAP, ↓zAK, ↓zAO, cV, cT, cF, cW, borT, borM, zAm, Res.via, zAu, zAb, refsB, Nat.reduceLT, Nat.reduceSub, Nat.reduceLeDiff, Nat.reduceMul, Nat.reduceAdd, Int.reduceToNat, appK, zAr, zAc, borL, zAl, zAn, zAE, cO, List.replicate, zAC, ofHp, ixOf, hP, *]
 all_goals first
   | rfl
   | (simp [zDh, *]; done)
   | (simp only [zDh]; split <;> simp_all <;> omega)
noncomputable def FMerges := mkF (fun s : Delta × Delta => [zAS s.1, zAS s.2]) (fun s => DOk s.1 ∧ DOk s.2) (fun s => Res.flat (.bo true))
theorem FMerges_eq {d : Delta} {e : Delta} (hp : DOk d ∧ DOk e) : FMerges [zAS d, zAS e] = some (Res.flat (.bo true)) := zAB (s := (d, e)) (fun s s' h => by simp only [cI] at h; simp only [h]) hp
theorem zXX (cx : Cx) (hP : cx.P = Tryz.prog) (hbs : cx.bs = 0) (h11 : cx.orc 11 = some zFA) (h21 : cx.orc 21 = some zEm) (h22 : cx.orc 22 = some zRf) (h15 : cx.orc 15 = some zDT) (h12 : cx.orc 12 = some zF6) (d e : Delta) (hl : DOk d ∧ DOk e) : zAj cx Tryz.f5 [] false [zAS d, zAS e] = some (Res.flat (.bo true)) := by
 have c11 := zAa h11
 have c21 := zAa h21
 have c22 := zAa h22
 have c15 := zAa h15
 have c12 := zAa h12
 have f1 : zEm [zAS d, zAS e] = some (Res.via (.tup [zAS (mergeD d e).1, .it .i64 (mergeD d e).2])) := by have := zGu (d := d) (e := e) ⟨hl.1.rw, hl.2.rw⟩; rwa [zOo hl.1.b hl.2.b hl.1.r hl.2.r] at this
 have f2 : zRf [zAS d, zAS e] = some (Res.via (.tup [zAS (mergeD d e).1, .it .i64 (mergeD d e).2])) := zPR (d := d) (e := e) ⟨hl.1.rw, hl.2.rw⟩
 have s1 : zDT [zAS (mergeD d e).1, zAS (mergeD d e).1] = some (Res.flat (.bo true)) := by have := zC7 (d := (mergeD d e).1) (e := (mergeD d e).1) (yBZ hl.1.rw hl.2.rw); rwa [zDI] at this
 generalize mergeD d e = q at *
 refine zAg (rs := [.tmp 4]) rfl hbs rfl ?_
 repeat' first
   | (refine zAR (fun h => ?_) (fun h => ?_) <;> (try simp only [cN] at h))
   | (refine zAN ?_ ?_)
   | simp (config := { decide := true }) only [↓cD, cU, cQ, cP, cB, zAJ, unD, zAf, zAd, idx, reduceCtorEq, ↓reduceIte, ofV, ofC, zAq, Nat.reduceEqDiff, zAG, cG, implies_true, forall_const, immL, immD, Res.flat, ren, renL, Int.reduceEq, Int.reduceLT, Int.reduceLE, Int.reduceNe, deref, ldD, zAF, zAk, zAI, zAs, cC, c11, c21, c22, c15, c12, zAo, zAp, zEh, zGu, zPR, zC7, zF5, ↓zAM, ↓zAQ, ↓zAL, ↓zAP, ↓zAK, ↓zAO, cV, cT, cF, cW, borT, borM, zAm, Res.via, zAu, zAb, refsB, Nat.reduceLT, Nat.reduceSub, Nat.reduceLeDiff, Nat.reduceMul, Nat.reduceAdd, Int.reduceToNat, appK, zAr, zAc, borL, zAl, zAn, zAE, cO, List.replicate, zAC, ofHp, ixOf, f1, f2, s1, hP, *]
 all_goals first
   | rfl
noncomputable def K0 : Known := ⟨Tryz.prog, [], [], []⟩
theorem ok0 : K0.OK := Known.OK.none _
theorem follows : Tryz.prog.follows .mixedOrders = true := by kernel_rfl
abbrev kN : Nat → Option (List Nat) := fun _ => none
theorem addK (n : Nat) {K : Known} (h : K.OK) {g : FuncId} {fn : Func} {c : Code} (kp : Nat → Option (List Nat)) (hb : Body K.P (K.cx kp).rd g fn c) {σ : Type} {enc : σ → List D} {pre : σ → Prop} {out : σ → Res} (hF : ∀ s, pre s → zAj (K.cx kp) fn [] false (enc s) = some (out s)) (hl : ∀ s, (enc s).length = n := by intro _; rfl) (hn : n ≤ fn.ntmps := by decide) (hP : K.P.follows .mixedOrders = true := by exact follows) : (K.pure g (mkF enc pre out)).OK := Known.add h hP kp hb hn hl [] false hF
theorem zBp (n : Nat) {K : Known} (h : K.OK) {g : FuncId} {fn : Func} {c : Code} (kp : Nat → Option (List Nat)) (hb : Body K.P (K.cx kp).rd g fn c) {σ : Type} {enc : σ → List D} {pre : σ → Prop} {out : σ → Res} (hF : ∀ s, pre s → zAj (K.cx kp) fn [0] false (enc s) = some (out s)) (hl : ∀ s, (enc s).length = n := by intro _; rfl) (hn : n ≤ fn.ntmps := by decide) (hP : K.P.follows .mixedOrders = true := by exact follows) : (K.pure g (mkF enc pre out)).OK := Known.add h hP kp hb hn hl [0] false hF
noncomputable def K1 : Known := K0.pure 11 zFA
theorem ok1 : K1.OK := addK 1 ok0 kN ⟨Tryz.func11, rfl, by kernel_rfl, by kernel_rfl⟩ (fun s hp => zFt (K0.cx _) rfl rfl (s))
noncomputable def K2 : Known := K1.pure 112 FSuf
theorem ok2 : K2.OK := addK 2 ok1 kN ⟨Tryz.func112, rfl, by kernel_rfl, by kernel_rfl⟩ (fun s hp => zJo (K1.cx _) rfl rfl (s.1) (s.2) hp)
noncomputable def K3 : Known := K2.pure 82 FSuf
theorem ok3 : K3.OK := addK 2 ok2 kN ⟨Tryz.func82, rfl, by kernel_rfl, by kernel_rfl⟩ (fun s hp => zMZ (K2.cx _) rfl rfl rfl (s.1) (s.2) hp)
noncomputable def K4 : Known := K3.ext 176 zI5
theorem ok4 : K4.OK := ok3.ext (zFZ Tryz.func176 (by kernel_rfl) (by kernel_rfl) (by kernel_rfl) (by kernel_rfl))
noncomputable def K5 : Known := K4.pure 150 FCnt
theorem ok5 : K5.OK := addK 2 ok4 (fun i => if i = 6 then some [0, 1, 5] else  none) ⟨Tryz.func150, rfl, by kernel_rfl, by kernel_rfl⟩ (fun s hp => zNi (K4.cx _) rfl rfl rfl rfl rfl (s.1) (s.2))
noncomputable def K6 : Known := K5.ext 205 FIxB
theorem ok6 : K6.OK := ok5.ext (zJZ Tryz.func205 (by kernel_rfl) (by kernel_rfl) (by kernel_rfl) (by kernel_rfl))
noncomputable def K7 : Known := K6.pure 195 zPn
theorem ok7 : K7.OK := addK 2 ok6 kN ⟨Tryz.func195, rfl, by kernel_rfl, by kernel_rfl⟩ (fun s hp => zJF (K6.cx _) rfl rfl rfl rfl (s.1) (s.2))
noncomputable def K8 : Known := K7.pure 177 FIdx
theorem ok8 : K8.OK := addK 2 ok7 (fun i => if i = 15 then some [0, 1, 5, 6, 7, 8, 9, 10] else  none) ⟨Tryz.func177, rfl, by kernel_rfl, by kernel_rfl⟩ (fun s hp => zJH (K7.cx _) rfl rfl rfl rfl (s.1) (s.2))
noncomputable def K9 : Known := K8.pure 151 FIdx
theorem ok9 : K9.OK := addK 2 ok8 kN ⟨Tryz.func151, rfl, by kernel_rfl, by kernel_rfl⟩ (fun s hp => zNb (K8.cx _) rfl rfl rfl (s.1) (s.2))
noncomputable def K10 : Known := K9.pure 113 FGen
theorem ok10 : K10.OK := zBp 4 ok9 (fun i => if i = 11 then some [0, 1, 2, 3, 9, 10] else  none) ⟨Tryz.func113, rfl, by kernel_rfl, by kernel_rfl⟩ (fun s hp => zNc (K9.cx _) rfl rfl rfl rfl rfl (s.1) (s.2) hp)
noncomputable def K11 : Known := K10.pure 83 FSpl
theorem ok11 : K11.OK := zBp 2 ok10 kN ⟨Tryz.func83, rfl, by kernel_rfl, by kernel_rfl⟩ (fun s hp => zM0 (K10.cx _) rfl rfl rfl (s.1) (s.2) hp)
noncomputable def K12 : Known := K11.pure 84 zPj
theorem ok12 : K12.OK := addK 1 ok11 (fun i => if i = 4 then some [0, 13, 14] else  none) ⟨Tryz.func84, rfl, by kernel_rfl, by kernel_rfl⟩ (fun s hp => zJw (K11.cx _) rfl rfl rfl (s) hp)
noncomputable def K13 : Known := K12.pure 42 zF1
theorem ok13 : K13.OK := addK 1 ok12 (fun i => if i = 6 then some [20, 21, 22] else  none) ⟨Tryz.func42, rfl, by kernel_rfl, by kernel_rfl⟩ (fun s hp => zHe (K12.cx _) rfl rfl rfl rfl rfl rfl (s) hp)
noncomputable def K14 : Known := K13.pure 55 zCj
theorem ok14 : K14.OK := addK 1 ok13 kN ⟨Tryz.func55, rfl, by kernel_rfl, by kernel_rfl⟩ (fun s hp => zEC (K13.cx _) rfl rfl (s))
noncomputable def K15 : Known := K14.pure 53 zI9
theorem ok15 : K15.OK := addK 2 ok14 kN ⟨Tryz.func53, rfl, by kernel_rfl, by kernel_rfl⟩ (fun s hp => zHk (K14.cx _) rfl rfl rfl (s.1) (s.2))
noncomputable def K16 : Known := K15.pure 24 zDm
theorem ok16 : K16.OK := addK 2 ok15 kN ⟨Tryz.func24, rfl, by kernel_rfl, by kernel_rfl⟩ (fun s hp => zED (K15.cx _) rfl rfl rfl (s.1) (s.2))
noncomputable def K17 : Known := K16.pure 160 zKb
theorem ok17 : K17.OK := addK 0 ok16 kN ⟨Tryz.func160, rfl, by kernel_rfl, by kernel_rfl⟩ (fun s hp => zHq (K16.cx _) rfl rfl)
noncomputable def K18 : Known := K17.pure 115 zKc
theorem ok18 : K18.OK := addK 1 ok17 (fun i => if i = 2 then some [0, 2, 6, 7, 8] else  none) ⟨Tryz.func115, rfl, by kernel_rfl, by kernel_rfl⟩ (fun s hp => zHr (K17.cx _) rfl rfl rfl rfl (s))
noncomputable def K19 : Known := K18.pure 88 zG5
theorem ok19 : K19.OK := addK 1 ok18 kN ⟨Tryz.func88, rfl, by kernel_rfl, by kernel_rfl⟩ (fun s hp => zFT (K18.cx _) rfl rfl rfl (s))
noncomputable def K20 : Known := K19.pure 116 zG3
theorem ok20 : K20.OK := addK 1 ok19 kN ⟨Tryz.func116, rfl, by kernel_rfl, by kernel_rfl⟩ (fun s hp => zHf (K19.cx _) rfl rfl (s))
noncomputable def K21 : Known := K20.pure 181 FPre
theorem ok21 : K21.OK := addK 2 ok20 kN ⟨Tryz.func181, rfl, by kernel_rfl, by kernel_rfl⟩ (fun s hp => zJv (K20.cx _) rfl rfl (s.1) (s.2) hp)
noncomputable def K22 : Known := K21.pure 161 FPre
theorem ok22 : K22.OK := addK 2 ok21 kN ⟨Tryz.func161, rfl, by kernel_rfl, by kernel_rfl⟩ (fun s hp => zM6 (K21.cx _) rfl rfl rfl (s.1) (s.2) hp)
noncomputable def K23 : Known := K22.pure 117 zKF
theorem ok23 : K23.OK := addK 1 ok22 kN ⟨Tryz.func117, rfl, by kernel_rfl, by kernel_rfl⟩ (fun s hp => zFU (K22.cx _) rfl rfl rfl rfl (s) hp)
noncomputable def K24 : Known := K23.pure 118 FInB
theorem ok24 : K24.OK := addK 2 ok23 kN ⟨Tryz.func118, rfl, by kernel_rfl, by kernel_rfl⟩ (fun s hp => zNa (K23.cx _) rfl rfl (s.1) (s.2))
noncomputable def K25 : Known := K24.pure 119 zFn
theorem ok25 : K25.OK := addK 1 ok24 kN ⟨Tryz.func119, rfl, by kernel_rfl, by kernel_rfl⟩ (fun s hp => zFN (K24.cx _) rfl rfl (s))
noncomputable def K26 : Known := K25.pure 120 zPt
theorem ok26 : K26.OK := addK 0 ok25 (fun i => if i = 3 then some [1, 4, 5, 6] else  none) ⟨Tryz.func120, rfl, by kernel_rfl, by kernel_rfl⟩ (fun s hp => zJR (K25.cx _) rfl rfl rfl rfl)
noncomputable def K27 : Known := K26.pure 89 FVD
theorem ok27 : K27.OK := addK 2 ok26 kN ⟨Tryz.func89, rfl, by kernel_rfl, by kernel_rfl⟩ (fun s hp => zMT (K26.cx _) rfl rfl rfl rfl rfl rfl rfl rfl rfl rfl rfl rfl rfl rfl rfl rfl rfl rfl (s.1) (s.2) hp)
noncomputable def K28 : Known := K27.pure 46 FVR
theorem ok28 : K28.OK := addK 1 ok27 kN ⟨Tryz.func46, rfl, by kernel_rfl, by kernel_rfl⟩ (fun s hp => zMS (K27.cx _) rfl rfl rfl rfl rfl (s) hp)
noncomputable def K29 : Known := K28.pure 94 zPq
theorem ok29 : K29.OK := addK 2 ok28 kN ⟨Tryz.func94, rfl, by kernel_rfl, by kernel_rfl⟩ (fun s hp => zJL (K28.cx _) rfl rfl rfl (s.1) (s.2) hp)
noncomputable def K30 : Known := K29.pure 50 zDF
theorem ok30 : K30.OK := addK 2 ok29 kN ⟨Tryz.func50, rfl, by kernel_rfl, by kernel_rfl⟩ (fun s hp => zFM (K29.cx _) rfl rfl rfl rfl (s.1) (s.2) hp)
noncomputable def K31 : Known := K30.pure 56 FIns
theorem ok31 : K31.OK := addK 2 ok30 (fun i => if i = 2 then some [1, 7, 8, 9] else  none) ⟨Tryz.func56, rfl, by kernel_rfl, by kernel_rfl⟩ (fun s hp => zJK (K30.cx _) rfl rfl rfl rfl rfl (s.1) (s.2) hp)
noncomputable def K32 : Known := K31.pure 64 zMO
theorem ok32 : K32.OK := zBp 1 ok31 kN ⟨Tryz.func64, rfl, by kernel_rfl, by kernel_rfl⟩ (fun s hp => zJN (K31.cx _) rfl rfl (s) hp)
noncomputable def K33 : Known := K32.pure 64 zPr
theorem ok33 : K33.OK := zBp 1 ok32 kN ⟨Tryz.func64, rfl, by kernel_rfl, by kernel_rfl⟩ (fun s hp => zJM (K32.cx _) rfl rfl (s))
noncomputable def K34 : Known := K33.pure 64 FClR
theorem ok34 : K34.OK := ok33.pure (PureOK.either (Known.OK.get ok32 64 rfl) (Known.OK.get ok33 64 rfl))
noncomputable def K35 : Known := K34.ext 201 zNs
theorem ok35 : K35.OK := ok34.ext (zHI Tryz.func201 (by kernel_rfl) (by kernel_rfl) (by kernel_rfl) (by kernel_rfl))
noncomputable def K36 : Known := K35.pure 183 zEJ
theorem ok36 : K36.OK := addK 2 ok35 kN ⟨Tryz.func183, rfl, by kernel_rfl, by kernel_rfl⟩ (fun s hp => zFW (K35.cx _) rfl rfl rfl rfl (s.1) (s.2))
noncomputable def K37 : Known := K36.pure 163 zEJ
theorem ok37 : K37.OK := addK 2 ok36 kN ⟨Tryz.func163, rfl, by kernel_rfl, by kernel_rfl⟩ (fun s hp => zFO (K36.cx _) rfl rfl rfl (s.1) (s.2))
noncomputable def K38 : Known := K37.pure 164 zKa
theorem ok38 : K38.OK := zBp 1 ok37 kN ⟨Tryz.func164, rfl, by kernel_rfl, by kernel_rfl⟩ (fun s hp => zHp (K37.cx _) rfl rfl rfl rfl (s) hp)
noncomputable def K39 : Known := K38.pure 122 zJa
theorem ok39 : K39.OK := addK 2 ok38 (fun i => if i = 10 then some [7, 8, 9] else  none) ⟨Tryz.func122, rfl, by kernel_rfl, by kernel_rfl⟩ (fun s hp => zHB (K38.cx _) rfl rfl rfl rfl rfl rfl rfl rfl rfl (s.1) (s.2) hp)
noncomputable def K40 : Known := K39.pure 148 FNaN
theorem ok40 : K40.OK := addK 1 ok39 kN ⟨Tryz.func148, rfl, by kernel_rfl, by kernel_rfl⟩ (fun s hp => zM7 (K39.cx _) rfl rfl (s))
noncomputable def K41 : Known := K40.pure 111 zHa
theorem ok41 : K41.OK := addK 2 ok40 kN ⟨Tryz.func111, rfl, by kernel_rfl, by kernel_rfl⟩ (fun s hp => zHm (K40.cx _) rfl rfl rfl (s.1) (s.2))
noncomputable def K42 : Known := K41.pure 184 zKA
theorem ok42 : K42.OK := addK 1 ok41 (fun i => if i = 3 then some [3, 7, 8, 9] else  none) ⟨Tryz.func184, rfl, by kernel_rfl, by kernel_rfl⟩ (fun s hp => zHn (K41.cx _) rfl rfl rfl rfl (s) hp)
noncomputable def K43 : Known := K42.pure 202 FByA
theorem ok43 : K43.OK := zBp 1 ok42 (fun i => if i = 3 then some [0, 3, 7, 8] else  none) ⟨Tryz.func202, rfl, by kernel_rfl, by kernel_rfl⟩ (fun s hp => zNk (K42.cx _) rfl rfl rfl (s) hp)
noncomputable def K44 : Known := K43.pure 185 FWAP
theorem ok44 : K44.OK := addK 1 ok43 kN ⟨Tryz.func185, rfl, by kernel_rfl, by kernel_rfl⟩ (fun s hp => zMQ (K43.cx _) rfl rfl rfl rfl rfl rfl (s) hp)
noncomputable def K45 : Known := K44.pure 207 FTrB
theorem ok45 : K45.OK := addK 2 ok44 (fun i => if i = 1 then some [0, 1] else  none) ⟨Tryz.func207, rfl, by kernel_rfl, by kernel_rfl⟩ (fun s hp => zMW (K44.cx _) rfl rfl rfl (s.1) (s.2) hp)
noncomputable def K46 : Known := K45.pure 203 FTrR
theorem ok46 : K46.OK := addK 2 ok45 kN ⟨Tryz.func203, rfl, by kernel_rfl, by kernel_rfl⟩ (fun s hp => zMV (K45.cx _) rfl rfl rfl (s.1) (s.2) hp)
noncomputable def K47 : Known := K46.pure 186 FBmP
theorem ok47 : K47.OK := addK 1 ok46 (fun i => if i = 3 then some [0, 3, 7] else if i = 7 then some [0, 3, 4, 5, 7, 10] else  none) ⟨Tryz.func186, rfl, by kernel_rfl, by kernel_rfl⟩ (fun s hp => zNl (K46.cx _) rfl rfl rfl rfl rfl (s))
noncomputable def K48 : Known := K47.pure 188 zOZ
theorem ok48 : K48.OK := addK 2 ok47 (fun i => if i = 3 then some [0, 5, 6] else  none) ⟨Tryz.func188, rfl, by kernel_rfl, by kernel_rfl⟩ (fun s hp => zJz (K47.cx _) rfl rfl rfl (s.1) (s.2) hp)
noncomputable def K49 : Known := K48.eff 187 zI4
theorem ok49 : K49.OK := Known.addEff ok48 follows (fun _ => none) ⟨Tryz.func187, rfl, by kernel_rfl, by kernel_rfl⟩ (n := 2) (by decide) (fun _ => rfl) (fun s hp => zHl (K48.cx1 (fun _ => none)) rfl rfl (s.1) (s.2) hp)
noncomputable def K50 : Known := K49.pure 165 FWD
theorem ok50 : K50.OK := addK 2 ok49 (fun i => if i = 8 then some [3, 6, 8, 31, 32] else  none) ⟨Tryz.func165, rfl, by kernel_rfl, by kernel_rfl⟩ (fun s hp => zHd (K49.cx _) rfl rfl rfl rfl rfl rfl rfl rfl rfl rfl rfl rfl (s.1) (s.2) hp)
noncomputable def K51 : Known := K50.pure 123 FCD
theorem ok51 : K51.OK := addK 3 ok50 kN ⟨Tryz.func123, rfl, by kernel_rfl, by kernel_rfl⟩ (fun s hp => zNj (K50.cx _) rfl rfl rfl rfl (s.1) (s.2.1) (s.2.2) hp)
noncomputable def K52 : Known := K51.pure 93 zEb
theorem ok52 : K52.OK := addK 2 ok51 kN ⟨Tryz.func93, rfl, by kernel_rfl, by kernel_rfl⟩ (fun s hp => zFV (K51.cx _) rfl rfl rfl rfl rfl (s.1) (s.2) hp)
noncomputable def K53 : Known := K52.pure 80 zG6
theorem ok53 : K53.OK := addK 2 ok52 kN ⟨Tryz.func80, rfl, by kernel_rfl, by kernel_rfl⟩ (fun s hp => zHA (K52.cx _) rfl rfl rfl rfl (s.1) (s.2) hp)
noncomputable def K54 : Known := K53.eff 138 zMM
theorem ok54 : K54.OK := Known.addEff ok53 follows (fun i => if i = 1 then some [0, 1, 2, 3, 8] else if i = 4 then some [0, 1, 2, 3, 8, 9] else  none) ⟨Tryz.func138, rfl, by kernel_rfl, by kernel_rfl⟩ (n := 4) (by decide) (fun _ => rfl) (fun s hp => zJG (K53.cx1 (fun i => if i = 1 then some [0, 1, 2, 3, 8] else if i = 4 then some [0, 1, 2, 3, 8, 9] else  none)) rfl rfl rfl rfl rfl rfl (s.1) (s.2.1) (s.2.2) hp)
noncomputable def K55 : Known := K54.eff 200 FSwR
theorem ok55 : K55.OK := Known.addEff ok54 follows (fun i => if i = 1 then some [0, 1, 2, 3, 10] else  none) ⟨Tryz.func200, rfl, by kernel_rfl, by kernel_rfl⟩ (n := 5) (by decide) (fun _ => rfl) (fun s hp => by have h := zMY (K54.cx1 (fun i => if i = 1 then some [0, 1, 2, 3, 10] else  none)) rfl rfl rfl (s.1) (s.2.1) (s.2.2.1) (s.2.2.2.1) (s.2.2.2.2) hp; have e : (s.1 ++ s.2.1 ++ s.2.2.1 ++ s.2.2.2.1 ++ s.2.2.2.2).length = s.1.length + s.2.1.length + s.2.2.1.length + s.2.1.length + s.2.2.2.2.length := (by have := hp.1; simp only [List.length_append]; omega); simp only [e]; exact h)
noncomputable def K56 : Known := K55.eff 182 FRot
theorem ok56 : K56.OK := Known.addEff ok55 follows (fun i => if i = 2 then some [0, 2, 4, 10, 11] else  none) ⟨Tryz.func182, rfl, by kernel_rfl, by kernel_rfl⟩ (n := 5) (by decide) (fun _ => rfl) (fun s hp => zM4 (K55.cx1 (fun i => if i = 2 then some [0, 2, 4, 10, 11] else  none)) rfl rfl rfl rfl rfl rfl (s.1) (s.2.1) (s.2.2.1) (s.2.2.2) hp)
theorem zD6 : ∀ N : Nat, EffOK Tryz.prog 162 (FSym N)
 | 0 => ⟨⟨_, rfl, rfl, by kernel_rfl⟩, fun ds hs r hs' h => by
     obtain ⟨s, _, _, hp, _⟩ := zGS h
     have h1 := List.length_pos_iff.2 hp.l
     have := hp.n
     omega⟩
 | N + 1 => by
   have ih := zD6 N
   have ok : (K56.eff 162 (FSym N)).OK := ok56.eff ih
   exact (Known.addEff ok follows (fun i => if i = 3 then some [0, 1, 4, 10, 11] else if i = 9 then some [0, 10, 13] else if i = 15 then some [0, 2, 4, 14, 15] else if i = 21 then some [0, 14, 17] else if i = 33 then some [0, 1, 2, 3, 4, 18, 19, 20, 21, 22] else  none) ⟨Tryz.func162, rfl, by kernel_rfl, by kernel_rfl⟩ (n := 5) (by decide) (fun _ => rfl) (fun s hp => zMX N ((K56.eff 162 (FSym N)).cx1 (fun i => if i = 3 then some [0, 1, 4, 10, 11] else if i = 9 then some [0, 10, 13] else if i = 15 then some [0, 2, 4, 14, 15] else if i = 21 then some [0, 14, 17] else if i = 33 then some [0, 1, 2, 3, 4, 18, 19, 20, 21, 22] else  none)) rfl rfl rfl rfl rfl rfl rfl rfl rfl rfl rfl rfl rfl rfl rfl (s.1) (s.2.1) (s.2.2.1) (s.2.2.2) hp) : ((K56.eff 162 (FSym N)).eff 162 (FSym (N + 1))).OK).effs (162, FSym (N + 1)) (List.mem_cons_self ..)
noncomputable def K57 : Known := K56.eff 162 (FSym 1000000)
theorem ok57 : K57.OK := ok56.eff (zD6 1000000)
noncomputable def K58 : Known := K57.eff 121 zOW
theorem ok58 : K58.OK := Known.addEff ok57 follows (fun i => if i = 2 then some [0, 1, 2, 6, 7, 8] else if i = 7 then some [0, 1, 2, 6] else if i = 9 then some [0, 1, 2, 6, 7, 8] else  none) ⟨Tryz.func121, rfl, by kernel_rfl, by kernel_rfl⟩ (n := 3) (by decide) (fun _ => rfl) (fun s hp => zJq (K57.cx1 (fun i => if i = 2 then some [0, 1, 2, 6, 7, 8] else if i = 7 then some [0, 1, 2, 6] else if i = 9 then some [0, 1, 2, 6, 7, 8] else  none)) rfl rfl rfl rfl rfl rfl rfl rfl rfl rfl rfl s hp)
noncomputable def K59 : Known := K58.eff 90 FSSF
theorem ok59 : K59.OK := Known.addEff ok58 follows (fun _ => none) ⟨Tryz.func90, rfl, by kernel_rfl, by kernel_rfl⟩ (n := 2) (by decide) (fun _ => rfl) (fun s hp => zM3 (K58.cx1 (fun _ => none)) rfl rfl rfl rfl rfl s hp)
noncomputable def K60 : Known := K59.pure 92 zI3
theorem ok60 : K60.OK := addK 2 ok59 kN ⟨Tryz.func92, rfl, by kernel_rfl, by kernel_rfl⟩ (fun s hp => zHj (K59.cx _) rfl rfl rfl (s.1) (s.2) hp)
noncomputable def K61 : Known := K60.eff 91 FCpt
theorem ok61 : K61.OK := Known.addEff ok60 follows (fun i => if i = 4 then some [0, 1, 5] else if i = 9 then some [0, 1, 5, 6, 7] else  none) ⟨Tryz.func91, rfl, by kernel_rfl, by kernel_rfl⟩ (n := 2) (by decide) (fun _ => rfl) (fun s hp => zNg (K60.cx1 (fun i => if i = 4 then some [0, 1, 5] else if i = 9 then some [0, 1, 5, 6, 7] else  none)) rfl rfl rfl rfl rfl rfl s hp)
noncomputable def K62 : Known := K61.pure 48 zCx
theorem ok62 : K62.OK := addK 1 ok61 kN ⟨Tryz.func48, rfl, by kernel_rfl, by kernel_rfl⟩ (fun s hp => zHi (K61.cx _) rfl rfl rfl rfl rfl rfl rfl rfl rfl (s) hp)
noncomputable def K63 : Known := K62.pure 48 zDG
theorem ok63 : K63.OK := addK 1 ok62 kN ⟨Tryz.func48, rfl, by kernel_rfl, by kernel_rfl⟩ (fun s hp => zHh (K62.cx _) rfl rfl rfl rfl rfl rfl rfl rfl rfl (s))
noncomputable def K64 : Known := K63.pure 48 zJ9
theorem ok64 : K64.OK := ok63.pure (PureOK.slices (PureOK.either (Known.OK.get ok62 48 rfl) (Known.OK.get ok63 48 rfl)) (fun ds r hr => by
 obtain ⟨a, rfl, hp, rfl⟩ := zBv hr
 refine ⟨16, a.map recE, rfl, fun hne => ?_, fun he b => ?_⟩
 · have ha : a ≠ [] := fun e => hne (by rw [e]; rfl)
   have e := zF4 (a := a) ⟨ha, hp⟩
   show ((zCx [zAt a]).or (zDG [zAt a])) = _
   rw [e]; rfl
 · have ha : a = [] := List.map_eq_nil_iff.1 he
   subst ha
   have e1 : zCx [D.emp b] = none := zCz (fun s h => by simp [zAt, vecE] at h)
   show ((zCx [D.emp b]).or (zDG [D.emp b])) = _
   rw [e1, zF3 (b := b)]; rfl))
noncomputable def K65 : Known := K64.pure 47 FEq
theorem ok65 : K65.OK := addK 2 ok64 (fun i => if i = 4 then some [0, 1, 12, 13] else  none) ⟨Tryz.func47, rfl, by kernel_rfl, by kernel_rfl⟩ (fun s hp => zNe (K64.cx _) rfl rfl rfl (s.1) (s.2) hp)
noncomputable def K66 : Known := K65.pure 57 zPh
theorem ok66 : K66.OK := addK 1 ok65 kN ⟨Tryz.func57, rfl, by kernel_rfl, by kernel_rfl⟩ (fun s hp => zJs (K65.cx _) rfl rfl rfl rfl (s) hp)
noncomputable def K67 : Known := K66.eff 65 FSet
theorem ok67 : K67.OK := Known.addEffN ok66 follows (fun i => if i = 3 then some [3, 7, 8, 9] else  none) ⟨Tryz.func65, rfl, by kernel_rfl, by kernel_rfl⟩ (n := 1) (by decide) (fun _ => rfl) (fun s hp => zM2 (K66.cx (fun i => if i = 3 then some [3, 7, 8, 9] else  none)) rfl rfl rfl s hp)
noncomputable def K68 : Known := K67.pure 32 FWo
theorem ok68 : K68.OK := addK 2 ok67 (fun i => if i = 4 then some [5, 6, 11, 12, 13] else  none) ⟨Tryz.func32, rfl, by kernel_rfl, by kernel_rfl⟩ (fun s hp => zJC (K67.cx _) rfl rfl rfl rfl rfl rfl (s.1) (s.2) hp)
noncomputable def K69 : Known := K68.pure 39 zO0
theorem ok69 : K69.OK := addK 2 ok68 kN ⟨Tryz.func39, rfl, by kernel_rfl, by kernel_rfl⟩ (fun s hp => zJB (K68.cx _) rfl rfl rfl (s.1) (s.2) hp)
noncomputable def K70 : Known := K69.pure 58 FSta
theorem ok70 : K70.OK := addK 3 ok69 (fun i => if i = 3 then some [1, 2, 7, 10, 11, 12] else  none) ⟨Tryz.func58, rfl, by kernel_rfl, by kernel_rfl⟩ (fun s hp => zJr (K69.cx _) rfl rfl rfl (s.1) (s.2.1) (s.2.2) hp)
noncomputable def K71 : Known := K70.pure 26 zFk
theorem ok71 : K71.OK := addK 1 ok70 kN ⟨Tryz.func26, rfl, by kernel_rfl, by kernel_rfl⟩ (fun s hp => zHC (K70.cx _) rfl rfl rfl rfl rfl rfl rfl rfl rfl (s) hp)
noncomputable def K72 : Known := K71.pure 64 zKI
theorem ok72 : K72.OK := ok71.pure (PureOK.slices (Known.OK.get ok34 64 rfl) (fun ds r hr => by
 obtain ⟨a, rfl, hp, rfl⟩ := zBv hr
 refine ⟨16, a.map recE, rfl, fun hne => ?_, fun he b => ?_⟩
 · exact zFi ⟨fun e => hne (by rw [e]; rfl), hp⟩
 · have ha : a = [] := List.map_eq_nil_iff.1 he
   subst ha
   exact zFL))
theorem zDy : ∀ w, (isAgg (Go.Proofs.Tryz.sortRec_ren.t 24)).run Tryz.prog w = .ok true w := fun w => by rw [show Go.Proofs.Tryz.sortRec_ren.t 24 = 53 from rfl]; first | rfl | (unfold isAgg; simp [run_underlying Tryz.underlying53])
theorem zCM : ∀ w, (Go.sizeOf (Go.Proofs.Tryz.sortRec_ren.t 24)).run Tryz.prog w = .ok 16 w := fun w => by rw [show Go.Proofs.Tryz.sortRec_ren.t 24 = 53 from rfl]; first | rfl | (unfold Go.sizeOf; simp)
noncomputable def K73 : Known := K72.eff 79 FSR
theorem ok73 : K73.OK := ok72.eff (zHG (zDe (ρ := Go.Proofs.Tryz.sortRec_ren) Go.Proofs.Tryz.sortRec ⟨_, rfl, rfl, by kernel_rfl⟩ zDy zCM (α := RecS) (fun x => recL x.1) (fun _ => rfl) (by decide) (fun x d hd => by simp [recL, datL, adrL] at hd; rcases hd with rfl | rfl | rfl | rfl | rfl | rfl | rfl | rfl | rfl | rfl | rfl | rfl | rfl | rfl | rfl | rfl <;> rfl) cmpS cmp_sub.swo (Known.OK.get ok53 80 rfl) (fun x y => zCE ⟨x.2, y.2⟩)))
noncomputable def K74 : Known := K73.pure 40 zNr
theorem ok74 : K74.OK := addK 2 ok73 kN ⟨Tryz.func40, rfl, by kernel_rfl, by kernel_rfl⟩ (fun s hp => zJE (K73.cx _) rfl rfl rfl rfl rfl rfl (s.1) (s.2) hp)
noncomputable def K75 : Known := K74.pure 21 zEm
theorem ok75 : K75.OK := Known.add ok74 follows (fun _ => none) ⟨Tryz.func21, rfl, by kernel_rfl, by kernel_rfl⟩ (n := 2) (by decide) (fun _ => rfl) [] true (fun s hp => zFS (K74.cx (fun _ => none)) rfl rfl rfl rfl rfl rfl rfl rfl rfl rfl (s.1) (s.2) hp)
noncomputable def K76 : Known := K75.pure 127 zG2
theorem ok76 : K76.OK := addK 1 ok75 (fun i => if i = 6 then some [0, 3] else  none) ⟨Tryz.func127, rfl, by kernel_rfl, by kernel_rfl⟩ (fun s hp => zIn (K75.cx _) rfl rfl rfl (s) hp)
noncomputable def K77 : Known := K76.pure 99 zDj
theorem ok77 : K77.OK := zBp 1 ok76 (fun i => if i = 8 then some [0, 4, 5, 6] else  none) ⟨Tryz.func99, rfl, by kernel_rfl, by kernel_rfl⟩ (fun s hp => zIl (K76.cx _) rfl rfl rfl rfl (s) hp)
noncomputable def K78 : Known := K77.pure 59 zCP
theorem ok78 : K78.OK := addK 1 ok77 kN ⟨Tryz.func59, rfl, by kernel_rfl, by kernel_rfl⟩ (fun s hp => zIi (K77.cx _) rfl rfl rfl (s) hp)
noncomputable def K79 : Known := K78.pure 60 zCj
theorem ok79 : K79.OK := addK 1 ok78 kN ⟨Tryz.func60, rfl, by kernel_rfl, by kernel_rfl⟩ (fun s hp => zGJ (K78.cx _) rfl rfl (s))
noncomputable def K80 : Known := K79.pure 74 zI9
theorem ok80 : K80.OK := addK 2 ok79 kN ⟨Tryz.func74, rfl, by kernel_rfl, by kernel_rfl⟩ (fun s hp => zKR (K79.cx _) rfl rfl rfl (s.1) (s.2))
noncomputable def K81 : Known := K80.pure 34 zDm
theorem ok81 : K81.OK := addK 2 ok80 kN ⟨Tryz.func34, rfl, by kernel_rfl, by kernel_rfl⟩ (fun s hp => zGK (K80.cx _) rfl rfl rfl (s.1) (s.2))
noncomputable def K82 : Known := K81.pure 129 zLj
theorem ok82 : K82.OK := addK 1 ok81 kN ⟨Tryz.func129, rfl, by kernel_rfl, by kernel_rfl⟩ (fun s hp => zKT (K81.cx _) rfl rfl (s))
noncomputable def K83 : Known := K82.pure 101 zDn
theorem ok83 : K83.OK := addK 1 ok82 kN ⟨Tryz.func101, rfl, by kernel_rfl, by kernel_rfl⟩ (fun s hp => zIm (K82.cx _) rfl rfl rfl (s))
noncomputable def K84 : Known := K83.pure 130 zLf
theorem ok84 : K84.OK := addK 2 ok83 kN ⟨Tryz.func130, rfl, by kernel_rfl, by kernel_rfl⟩ (fun s hp => zKP (K83.cx _) rfl rfl (s.1) (s.2))
noncomputable def K85 : Known := K84.pure 131 zG3
theorem ok85 : K85.OK := addK 1 ok84 kN ⟨Tryz.func131, rfl, by kernel_rfl, by kernel_rfl⟩ (fun s hp => zKO (K84.cx _) rfl rfl (s))
noncomputable def K86 : Known := K85.pure 132 zLk
theorem ok86 : K86.OK := addK 1 ok85 kN ⟨Tryz.func132, rfl, by kernel_rfl, by kernel_rfl⟩ (fun s hp => zKU (K85.cx _) rfl rfl rfl (s) hp)
noncomputable def K87 : Known := K86.pure 133 FIn
theorem ok87 : K87.OK := addK 2 ok86 kN ⟨Tryz.func133, rfl, by kernel_rfl, by kernel_rfl⟩ (fun s hp => zTf (K86.cx _) rfl rfl (s.1) (s.2))
noncomputable def K88 : Known := K87.pure 134 zFn
theorem ok88 : K88.OK := addK 1 ok87 kN ⟨Tryz.func134, rfl, by kernel_rfl, by kernel_rfl⟩ (fun s hp => zIk (K87.cx _) rfl rfl (s))
noncomputable def K89 : Known := K88.pure 135 FAll
theorem ok89 : K89.OK := addK 1 ok88 (fun i => if i = 2 then some [0, 3] else  none) ⟨Tryz.func135, rfl, by kernel_rfl, by kernel_rfl⟩ (fun s hp => zOg (K88.cx _) rfl rfl rfl rfl (s))
noncomputable def K90 : Known := K89.pure 102 FVD
theorem ok90 : K90.OK := addK 2 ok89 kN ⟨Tryz.func102, rfl, by kernel_rfl, by kernel_rfl⟩ (fun s hp => zTb (K89.cx _) rfl rfl rfl rfl rfl rfl rfl rfl rfl rfl rfl rfl rfl rfl rfl rfl rfl rfl rfl rfl (s.1) (s.2) hp)
noncomputable def K91 : Known := K90.pure 67 FVR
theorem ok91 : K91.OK := addK 1 ok90 kN ⟨Tryz.func67, rfl, by kernel_rfl, by kernel_rfl⟩ (fun s hp => zTa (K90.cx _) rfl rfl rfl rfl rfl (s) hp)
noncomputable def K92 : Known := K91.pure 104 zIS
theorem ok92 : K92.OK := addK 2 ok91 (fun i => if i = 2 then some [0, 1, 5] else  none) ⟨Tryz.func104, rfl, by kernel_rfl, by kernel_rfl⟩ (fun s hp => zKQ (K91.cx _) rfl rfl rfl (s.1) (s.2) hp)
noncomputable def K93 : Known := K92.pure 71 zDF
theorem ok93 : K93.OK := addK 2 ok92 kN ⟨Tryz.func71, rfl, by kernel_rfl, by kernel_rfl⟩ (fun s hp => zIj (K92.cx _) rfl rfl rfl rfl (s.1) (s.2) hp)
noncomputable def K94 : Known := K93.pure 61 FIns
theorem ok94 : K94.OK := addK 2 ok93 (fun i => if i = 2 then some [0, 1, 5] else  none) ⟨Tryz.func61, rfl, by kernel_rfl, by kernel_rfl⟩ (fun s hp => zRG (K93.cx _) rfl rfl rfl rfl rfl (s.1) (s.2) hp)
noncomputable def K95 : Known := K94.pure 167 zLg
theorem ok95 : K95.OK := addK 2 ok94 kN ⟨Tryz.func167, rfl, by kernel_rfl, by kernel_rfl⟩ (fun s hp => runText (K94.cx _) rfl rfl (s.1) (s.2))
noncomputable def K96 : Known := K95.pure 136 zJa
theorem ok96 : K96.OK := addK 2 ok95 kN ⟨Tryz.func136, rfl, by kernel_rfl, by kernel_rfl⟩ (fun s hp => zKW (K95.cx _) rfl rfl rfl rfl rfl rfl rfl rfl (s.1) (s.2) hp)
noncomputable def K97 : Known := K96.pure 128 zHa
theorem ok97 : K97.OK := addK 2 ok96 kN ⟨Tryz.func128, rfl, by kernel_rfl, by kernel_rfl⟩ (fun s hp => zKS (K96.cx _) rfl rfl (s.1) (s.2))
noncomputable def K98 : Known := K97.pure 204 FOct
theorem ok98 : K98.OK := addK 2 ok97 (fun i => if i = 3 then some [0, 5, 6] else if i = 7 then some [0, 5, 6, 7, 8] else  none) ⟨Tryz.func204, rfl, by kernel_rfl, by kernel_rfl⟩ (fun s hp => zOd (K97.cx _) rfl rfl rfl rfl (s.1) (s.2) hp)
noncomputable def K99 : Known := K98.pure 189 FWA
theorem ok99 : K99.OK := addK 1 ok98 kN ⟨Tryz.func189, rfl, by kernel_rfl, by kernel_rfl⟩ (fun s hp => zS9 (K98.cx _) rfl rfl rfl rfl rfl rfl (s))
noncomputable def K100 : Known := K99.pure 106 zEa
theorem ok100 : K100.OK := zBp 1 ok99 kN ⟨Tryz.func106, rfl, by kernel_rfl, by kernel_rfl⟩ (fun s hp => zGL (K99.cx _) rfl rfl rfl (s) hp)
noncomputable def K101 : Known := K100.pure 191 FNum
theorem zK3 : K101.OK := addK 2 ok100 (fun i => if i = 3 then some [0, 5, 6] else if i = 7 then some [0, 5, 6, 7, 8] else  none) ⟨Tryz.func191, rfl, by kernel_rfl, by kernel_rfl⟩ (fun s hp => zOe (K100.cx _) rfl rfl rfl rfl (s.1) (s.2) hp)
noncomputable def K102 : Known := K101.pure 190 FWN
theorem zK2 : K102.OK := addK 1 zK3 (fun i => if i = 4 then some [3, 4, 5] else  none) ⟨Tryz.func190, rfl, by kernel_rfl, by kernel_rfl⟩ (fun s hp => zS7 (K101.cx _) rfl rfl rfl rfl rfl rfl rfl (s) hp)
noncomputable def K103 : Known := K102.pure 192 FBm
theorem zJW : K103.OK := addK 1 zK2 (fun i => if i = 4 then some [0, 3, 4, 5] else if i = 8 then some [0, 3, 4, 5, 6, 7] else  none) ⟨Tryz.func192, rfl, by kernel_rfl, by kernel_rfl⟩ (fun s hp => zTm (K102.cx _) rfl rfl rfl rfl (s))
noncomputable def K104 : Known := K103.pure 168 FWD
theorem ok104 : K104.OK := addK 2 zJW kN ⟨Tryz.func168, rfl, by kernel_rfl, by kernel_rfl⟩ (fun s hp => zS8 (K103.cx _) rfl rfl rfl rfl rfl rfl rfl rfl rfl rfl rfl rfl rfl rfl (s.1) (s.2) hp)
noncomputable def K105 : Known := K104.pure 137 FCD
theorem ok105 : K105.OK := addK 3 ok104 kN ⟨Tryz.func137, rfl, by kernel_rfl, by kernel_rfl⟩ (fun s hp => zTk (K104.cx _) rfl rfl rfl (s.1) (s.2.1) (s.2.2) hp)
noncomputable def K106 : Known := K105.pure 103 zEb
theorem ok106 : K106.OK := addK 2 ok105 kN ⟨Tryz.func103, rfl, by kernel_rfl, by kernel_rfl⟩ (fun s hp => zIo (K105.cx _) rfl rfl rfl rfl rfl (s.1) (s.2) hp)
noncomputable def K107 : Known := K106.pure 100 zG6
theorem ok107 : K107.OK := addK 2 ok106 kN ⟨Tryz.func100, rfl, by kernel_rfl, by kernel_rfl⟩ (fun s hp => zOf (K106.cx _) rfl rfl rfl rfl (s.1) (s.2) hp)
noncomputable def K108 : Known := K107.pure 78 zI6
theorem zK1 : K108.OK := addK 2 ok107 kN ⟨Tryz.func78, rfl, by kernel_rfl, by kernel_rfl⟩ (fun s hp => zLD (K107.cx _) rfl rfl (s.1) (s.2))
noncomputable def K109 : Known := K108.pure 62 FSrt
theorem zK0 : K109.OK := addK 1 zK1 (fun i => if i = 2 then some [0, 3] else  none) ⟨Tryz.func62, rfl, by kernel_rfl, by kernel_rfl⟩ (fun s hp => zRF (K108.cx _) rfl rfl rfl rfl rfl rfl rfl (s) hp)
noncomputable def K110 : Known := K109.pure 75 zLm
theorem ok110 : K110.OK := addK 2 zK0 (fun i => if i = 2 then some [0, 3, 5] else  none) ⟨Tryz.func75, rfl, by kernel_rfl, by kernel_rfl⟩ (fun s hp => zKV (K109.cx _) rfl rfl rfl (s.1) (s.2) hp)
noncomputable def K111 : Known := K110.pure 36 FWo
theorem ok111 : K111.OK := addK 2 ok110 (fun i => if i = 3 then some [0, 1, 5, 6] else  none) ⟨Tryz.func36, rfl, by kernel_rfl, by kernel_rfl⟩ (fun s hp => zS6 (K110.cx _) rfl rfl rfl rfl (s.1) (s.2) hp)
noncomputable def K112 : Known := K111.pure 63 FSta
theorem ok112 : K112.OK := addK 3 ok111 (fun i => if i = 3 then some [0, 1, 2, 7, 8] else  none) ⟨Tryz.func63, rfl, by kernel_rfl, by kernel_rfl⟩ (fun s hp => zRE (K111.cx _) rfl rfl rfl (s.1) (s.2.1) (s.2.2) hp)
noncomputable def K113 : Known := K112.pure 27 zH7
theorem ok113 : K113.OK := addK 1 ok112 kN ⟨Tryz.func27, rfl, by kernel_rfl, by kernel_rfl⟩ (fun s hp => zLC (K112.cx _) rfl rfl rfl rfl rfl rfl rfl rfl rfl rfl rfl rfl rfl rfl rfl rfl (s) hp)
noncomputable def K114 : Known := K113.pure 81 FOrd
theorem ok114 : K114.OK := addK 1 ok113 (fun i => if i = 3 then some [0, 3, 4] else if i = 7 then some [0, 3, 4, 5] else  none) ⟨Tryz.func81, rfl, by kernel_rfl, by kernel_rfl⟩ (fun s hp => zXV (K113.cx _) rfl rfl rfl rfl rfl rfl (s) hp)
noncomputable def K115 : Known := K114.pure 41 zRo
theorem ok115 : K115.OK := Known.add ok114 follows (fun i => if i = 3 then some [0, 1, 5, 6] else if i = 7 then some [1, 5, 7] else  none) ⟨Tryz.func41, rfl, by kernel_rfl, by kernel_rfl⟩ (n := 2) (by decide) (fun _ => rfl) [] true (fun s hp => zTl (K114.cx (fun i => if i = 3 then some [0, 1, 5, 6] else if i = 7 then some [1, 5, 7] else  none)) rfl rfl rfl rfl rfl (s.1) (s.2) hp)
noncomputable def K116 : Known := K115.pure 22 zRf
theorem ok116 : K116.OK := Known.add ok115 follows (fun _ => none) ⟨Tryz.func22, rfl, by kernel_rfl, by kernel_rfl⟩ (n := 2) (by decide) (fun _ => rfl) [] true (fun s hp => zXW (K115.cx (fun _ => none)) rfl rfl rfl rfl rfl rfl rfl rfl (s.1) (s.2) hp)
noncomputable def K117 : Known := K116.pure 30 FEqw
theorem ok117 : K117.OK := addK 2 ok116 (fun i => if i = 4 then some [0, 1, 5] else  none) ⟨Tryz.func30, rfl, by kernel_rfl, by kernel_rfl⟩ (fun s hp => zNd (K116.cx _) rfl rfl rfl (s.1) (s.2) hp)
noncomputable def K118 : Known := K117.pure 15 zDT
theorem ok118 : K118.OK := addK 2 ok117 kN ⟨Tryz.func15, rfl, by kernel_rfl, by kernel_rfl⟩ (fun s hp => zGg (K117.cx _) rfl rfl rfl (s.1) (s.2) hp)
noncomputable def K119 : Known := K118.pure 31 FVer
theorem ok119 : K119.OK := Known.add ok118 follows (fun _ => none) ⟨Tryz.func31, rfl, by kernel_rfl, by kernel_rfl⟩ (n := 2) (by decide) (fun s => by unfold verI; (repeat' split) <;> rfl) [] false (fun s hp => zMR (K118.cx (fun _ => none)) rfl rfl s hp)
noncomputable def K120 : Known := K119.pure 86 zPm
theorem ok120 : K120.OK := addK 2 ok119 kN ⟨Tryz.func86, rfl, by kernel_rfl, by kernel_rfl⟩ (fun s hp => zJD (K119.cx _) rfl rfl (s.1) (s.2))
theorem zDz : ∀ w, (isAgg (Go.Proofs.Tryz.sortKey_ren.t 24)).run Tryz.prog w = .ok true w := fun w => by rw [show Go.Proofs.Tryz.sortKey_ren.t 24 = 83 from rfl]; first | rfl | (unfold isAgg; simp [run_underlying Tryz.underlying83])
theorem zCN : ∀ w, (Go.sizeOf (Go.Proofs.Tryz.sortKey_ren.t 24)).run Tryz.prog w = .ok 2 w := fun w => by rw [show Go.Proofs.Tryz.sortKey_ren.t 24 = 83 from rfl]; first | rfl | (unfold Go.sizeOf; simp)
noncomputable def K121 : Known := K120.eff 85 FSK
theorem ok121 : K121.OK := ok120.eff (zDe (ρ := Go.Proofs.Tryz.sortKey_ren) Go.Proofs.Tryz.sortKey ⟨_, rfl, rfl, by kernel_rfl⟩ zDz zCN (α := Key) keyL (fun _ => rfl) (by decide) (fun x d hd => by simp [keyL] at hd; rcases hd with rfl | rfl <;> rfl) keyC cmp_key.swo (Known.OK.get ok120 86 rfl) (fun x y => zGq))
noncomputable def K122 : Known := K121.pure 43 FCrw
theorem zQj : K122.OK := addK 1 ok121 (fun i => if i = 3 then some [3, 12, 13, 14] else if i = 10 then some [3, 6, 29, 30, 31] else  none) ⟨Tryz.func43, rfl, by kernel_rfl, by kernel_rfl⟩ (fun s hp => zNf (K121.cx _) rfl rfl rfl rfl rfl rfl rfl rfl rfl (s) hp)
noncomputable def K123 : Known := K122.pure 45 zPs
theorem zPf : K123.OK := addK 1 zQj kN ⟨Tryz.func45, rfl, by kernel_rfl, by kernel_rfl⟩ (fun s hp => zJP (K122.cx _) rfl rfl rfl (s) hp)
noncomputable def K124 : Known := K123.pure 87 zKE
theorem ok124 : K124.OK := addK 2 zPf (fun i => if i = 2 then some [0, 1, 7, 8] else  none) ⟨Tryz.func87, rfl, by kernel_rfl, by kernel_rfl⟩ (fun s hp => zHv (K123.cx _) rfl rfl rfl rfl (s) hp)
noncomputable def K125 : Known := K124.pure 44 zFh
theorem zR0 : K125.OK := addK 2 ok124 kN ⟨Tryz.func44, rfl, by kernel_rfl, by kernel_rfl⟩ (fun s hp => zHz (K124.cx _) rfl rfl rfl (s) hp)
noncomputable def K126 : Known := K125.pure 49 FGrC
theorem ok126 : K126.OK := Known.add zR0 follows (fun i => if i = 4 then some [0, 3, 4, 7, 8] else  none) ⟨Tryz.func49, rfl, by kernel_rfl, by kernel_rfl⟩ (n := 1) (by decide) (fun _ => rfl) [] true (fun s hp => zRH (K125.cx (fun i => if i = 4 then some [0, 3, 4, 7, 8] else  none)) rfl rfl rfl (s) hp)
noncomputable def K127 : Known := K126.pure 49 FGr
theorem zTL : K127.OK := ok126.pure (PureOK.weakr (Known.OK.get ok126 49 rfl) (fun ds r hr => by
 obtain ⟨a, rfl, hp, rfl⟩ := zBv hr
 exact ⟨_, zKd hp, rfl, rfl, fun M A H μ v h => zFX h⟩))
noncomputable def K128 : Known := K127.pure 97 zPp
theorem zTK : K128.OK := addK 2 zTL kN ⟨Tryz.func97, rfl, by kernel_rfl, by kernel_rfl⟩ (fun s hp => zJI (K127.cx _) rfl rfl (s.1) (s.2))
noncomputable def K129 : Known := K128.pure 87 zKD
theorem zTJ : K129.OK := addK 2 zTK (fun i => if i = 2 then some [0, 1, 7, 8] else  none) ⟨Tryz.func87, rfl, by kernel_rfl, by kernel_rfl⟩ (fun s hp => zHu (K128.cx _) rfl rfl rfl rfl (s.1) (s.2) hp)
noncomputable def K130 : Known := K129.pure 44 zKH
theorem zTI : K130.OK := addK 2 zTJ kN ⟨Tryz.func44, rfl, by kernel_rfl, by kernel_rfl⟩ (fun s hp => zHy (K129.cx _) rfl rfl rfl (s.1) (s.2) hp)
noncomputable def K131 : Known := K130.pure 52 zO2
theorem zRZ : K131.OK := addK 2 zTI kN ⟨Tryz.func52, rfl, by kernel_rfl, by kernel_rfl⟩ (fun s hp => zJJ (K130.cx _) rfl rfl rfl (s.1) (s.2) hp)
noncomputable def K132 : Known := K131.pure 124 zFK
theorem ok132 : K132.OK := addK 1 zRZ kN ⟨Tryz.func124, rfl, by kernel_rfl, by kernel_rfl⟩ (fun s hp => zEB (K131.cx _) rfl rfl (s))
noncomputable def K133 : Known := K132.pure 95 FUni
theorem zTH : K133.OK := addK 1 ok132 (fun i => if i = 2 then some [0, 3] else  none) ⟨Tryz.func95, rfl, by kernel_rfl, by kernel_rfl⟩ (fun s hp => zMU (K132.cx _) rfl rfl rfl rfl rfl (s) hp)
noncomputable def K134 : Known := K133.pure 166 FIxI
theorem zTG : K134.OK := addK 2 zTH (fun i => if i = 2 then some [0, 1, 7, 8] else  none) ⟨Tryz.func166, rfl, by kernel_rfl, by kernel_rfl⟩ (fun s hp => zM9 (K133.cx _) rfl rfl rfl (s.1) (s.2) hp)
noncomputable def K135 : Known := K134.pure 126 FCoI
theorem zTF : K135.OK := addK 2 zTG kN ⟨Tryz.func126, rfl, by kernel_rfl, by kernel_rfl⟩ (fun s hp => zNh (K134.cx _) rfl rfl rfl (s.1) (s.2) hp)
noncomputable def K136 : Known := K135.pure 125 zPk
theorem zTE : K136.OK := addK 2 zTF kN ⟨Tryz.func125, rfl, by kernel_rfl, by kernel_rfl⟩ (fun s hp => zJx (K135.cx _) rfl rfl rfl (s.1) (s.2) hp)
noncomputable def K137 : Known := K136.pure 87 zKC
theorem zTD : K137.OK := addK 2 zTE (fun i => if i = 2 then some [0, 1, 7, 8] else  none) ⟨Tryz.func87, rfl, by kernel_rfl, by kernel_rfl⟩ (fun s hp => zHt (K136.cx _) rfl rfl rfl rfl (s.1) (s.2) hp)
noncomputable def K138 : Known := K137.pure 44 zKG
theorem ok138 : K138.OK := addK 2 zTD kN ⟨Tryz.func44, rfl, by kernel_rfl, by kernel_rfl⟩ (fun s hp => zHx (K137.cx _) rfl rfl rfl (s.1) (s.2) hp)
noncomputable def K139 : Known := K138.pure 96 zML
theorem zTC : K139.OK := addK 2 ok138 kN ⟨Tryz.func96, rfl, by kernel_rfl, by kernel_rfl⟩ (fun s hp => zJy (K138.cx _) rfl rfl rfl (s.1) (s.2) hp)
noncomputable def K140 : Known := K139.pure 51 FPrp
theorem ok140 : K140.OK := addK 4 zTC kN ⟨Tryz.func51, rfl, by kernel_rfl, by kernel_rfl⟩ (fun s hp => zM5 (K139.cx _) rfl rfl rfl rfl rfl rfl (s.1) (s.2.1) (s.2.2.1) (s.2.2.2) hp)
noncomputable def K141 : Known := K140.pure 44 zFh
theorem zTB : K141.OK := ok140.pure (Known.OK.get zR0 44 rfl)
noncomputable def K142 : Known := K141.pure 23 zJb
theorem zTA : K142.OK := addK 1 zTB (fun i => if i = 12 then some [1, 3, 4, 5, 34, 35, 36] else  none) ⟨Tryz.func23, rfl, by kernel_rfl, by kernel_rfl⟩ (fun s hp => zJO (K141.cx _) rfl rfl rfl rfl rfl rfl rfl rfl rfl rfl rfl rfl rfl rfl rfl rfl rfl rfl rfl rfl rfl (s) hp)
noncomputable def K143 : Known := K142.pure 98 zPi
theorem zTz : K143.OK := addK 2 zTA kN ⟨Tryz.func98, rfl, by kernel_rfl, by kernel_rfl⟩ (fun s hp => zJt (K142.cx _) rfl rfl (s.1) (s.2))
noncomputable def K144 : Known := K143.pure 87 zKB
theorem zTy : K144.OK := addK 2 zTz (fun i => if i = 2 then some [0, 1, 7, 8] else  none) ⟨Tryz.func87, rfl, by kernel_rfl, by kernel_rfl⟩ (fun s hp => zHs (K143.cx _) rfl rfl rfl rfl (s.1) (s.2) hp)
noncomputable def K145 : Known := K144.pure 54 FSix
theorem zTx : K145.OK := addK 1 zTy kN ⟨Tryz.func54, rfl, by kernel_rfl, by kernel_rfl⟩ (fun s hp => zM1 (K144.cx _) rfl rfl rfl (s) hp)
noncomputable def K146 : Known := K145.pure 25 zIR
theorem ok146 : K146.OK := addK 1 zTx kN ⟨Tryz.func25, rfl, by kernel_rfl, by kernel_rfl⟩ (fun s hp => zJu (K145.cx _) rfl rfl rfl (s) hp)
noncomputable def K147 : Known := K146.pure 13 zEM
theorem zTw : K147.OK := Known.add ok146 follows (fun _ => none) ⟨Tryz.func13, rfl, by kernel_rfl, by kernel_rfl⟩ (n := 2) (by decide) (fun _ => rfl) [] true (fun s hp => zHw (K146.cx (fun _ => none)) rfl rfl rfl rfl rfl rfl rfl rfl rfl rfl (s.1) (s.2) hp)
noncomputable def K148 : Known := K147.pure 32 FWoR
theorem ok148 : K148.OK := zBp 2 zTw (fun i => if i = 4 then some [5, 6, 11, 12, 13] else  none) ⟨Tryz.func32, rfl, by kernel_rfl, by kernel_rfl⟩ (fun s hp => zHo (K147.cx _) rfl rfl rfl rfl rfl rfl (s.1) (s.2) hp)
noncomputable def K149 : Known := K148.pure 48 zKz
theorem ok149 : K149.OK := ok148.pure (Known.OK.get ok64 48 rfl)
noncomputable def K150 : Known := K149.pure 108 FBs
theorem zRY : K150.OK := addK 3 ok149 (fun i => if i = 3 then some [0, 2, 4, 8, 9, 10] else  none) ⟨Tryz.func108, rfl, by kernel_rfl, by kernel_rfl⟩ (fun s hp => zRI (K149.cx _) rfl rfl rfl rfl rfl (s.1) (s.2) hp)
noncomputable def K151 : Known := K150.pure 76 FMin
theorem ok151 : K151.OK := addK 2 zRY (fun i => if i = 4 then some [5, 6, 13, 14, 15] else  none) ⟨Tryz.func76, rfl, by kernel_rfl, by kernel_rfl⟩ (fun s hp => zM8 (K150.cx _) rfl rfl rfl rfl rfl (s.1) (s.2) hp)
noncomputable def K152 : Known := K151.pure 64 FClR
theorem ok152 : K152.OK := ok151.pure (Known.OK.get ok34 64 rfl)
noncomputable def K153 : Known := K152.pure 48 zBM
theorem ok153 : K153.OK := zBp 1 ok152 kN ⟨Tryz.func48, rfl, by kernel_rfl, by kernel_rfl⟩ (fun s hp => zFQ (K152.cx _) rfl rfl rfl rfl rfl rfl rfl rfl rfl (s) hp)
noncomputable def K154 : Known := K153.pure 48 zCv
theorem ok154 : K154.OK := zBp 1 ok153 kN ⟨Tryz.func48, rfl, by kernel_rfl, by kernel_rfl⟩ (fun s hp => zFP (K153.cx _) rfl rfl rfl rfl rfl rfl rfl rfl rfl (s))
noncomputable def K155 : Known := K154.pure 48 zKy
theorem zRX : K155.OK := ok154.pure (PureOK.slices (PureOK.either (Known.OK.get ok153 48 rfl) (Known.OK.get ok154 48 rfl)) (fun ds r hr => by
 obtain ⟨a, rfl, hp, rfl⟩ := zBv hr
 refine ⟨16, a.map recE, rfl, fun hne => ?_, fun he b => ?_⟩
 · have ha : a ≠ [] := fun e => hne (by rw [e]; rfl)
   have e := zEL (a := a) ⟨ha, hp⟩
   show ((zBM [zAt a]).or (zCv [zAt a])) = _
   rw [e]; rfl
 · have ha : a = [] := List.map_eq_nil_iff.1 he
   subst ha
   have e1 : zBM [D.emp b] = none := zCz (fun s h => by simp [zAt, vecE] at h)
   show ((zBM [D.emp b]).or (zCv [D.emp b])) = _
   rw [e1, zEK (b := b)]; rfl))
noncomputable def K156 : Known := K155.pure 77 zPl
theorem ok156 : K156.OK := addK 2 zRX kN ⟨Tryz.func77, rfl, by kernel_rfl, by kernel_rfl⟩ (fun s hp => zJA (K155.cx _) rfl rfl rfl rfl (s.1) (s.2) hp)
noncomputable def K157 : Known := K156.pure 37 zOV
theorem ok157 : K157.OK := Known.add ok156 follows (fun _ => none) ⟨Tryz.func37, rfl, by kernel_rfl, by kernel_rfl⟩ (n := 5) (by decide) (fun _ => rfl) [] true (fun s hp => zJp (K156.cx (fun _ => none)) rfl rfl rfl rfl rfl rfl rfl (s.1) (s.2.1) (s.2.2.1) (s.2.2.2.1) (s.2.2.2.2) hp)
noncomputable def K158 : Known := K157.pure 16 zIX
theorem ok158 : K158.OK := Known.add ok157 follows (fun _ => none) ⟨Tryz.func16, rfl, by kernel_rfl, by kernel_rfl⟩ (n := 2) (by decide) (fun _ => rfl) [] true (fun s hp => zJQ (K157.cx (fun _ => none)) rfl rfl rfl rfl (s.1) (s.2) hp)
noncomputable def K159 : Known := K158.pure 18 zFf
theorem ok159 : K159.OK := Known.add ok158 follows (fun _ => none) ⟨Tryz.func18, rfl, by kernel_rfl, by kernel_rfl⟩ (n := 2) (by decide) (fun _ => rfl) [] true (fun s hp => zHg (K158.cx (fun _ => none)) rfl rfl rfl rfl (s.1) (s.2) hp)
noncomputable def K160 : Known := K159.pure 20 zDl
theorem ok160 : K160.OK := addK 2 ok159 kN ⟨Tryz.func20, rfl, by kernel_rfl, by kernel_rfl⟩ (fun s hp => zFR (K159.cx _) rfl rfl rfl (s.1) (s.2) hp)
noncomputable def K161 : Known := K160.pure 12 zF6
theorem ok161 : K161.OK := addK 0 ok160 kN ⟨Tryz.func12, rfl, by kernel_rfl, by kernel_rfl⟩ (fun s hp => zHD (K160.cx _) rfl rfl rfl rfl rfl rfl rfl rfl rfl)
noncomputable def K162 : Known := K161.pure 5 FMerges
theorem ok162 : K162.OK := addK 2 ok161 kN ⟨Tryz.func5, rfl, by kernel_rfl, by kernel_rfl⟩ (fun s hp => zXX (K161.cx _) rfl rfl rfl rfl rfl rfl rfl (s.1) (s.2) hp)
end Go.Mir
namespace Go.Mir
attribute [local congr] Ev.congr EvC.congr EvW.congr Br.congr Ms.congr
open Go Go.RowKit Go.Proofs
end Go.Mir
namespace Go.Proofs.YtnmohcaeepcloaaGreatDoor.deltaMerges
open Go.ChangeShapes Go.WideShapes Go.ChangeAt Go.RowKit
set_option maxRecDepth 100000
theorem own : ownKnob Tryz.prog.godebug = none := by kernel_rfl
theorem laidOut : laidOutB Tryz.prog = true := by kernel_rfl
theorem told (ds : List Mir.D) (h : Mir.TDA Tryz.prog 12 [28, 28] ds) : Mir.FMerges ds = some (Mir.Res.flat (.bo true)) := by
 obtain ⟨x0, r0, rfl, k0, j0⟩ := Mir.tda_cons h
 obtain ⟨x1, r1, rfl, k1, j1⟩ := Mir.tda_cons j0
 obtain rfl := Mir.tda_nil j1
 obtain ⟨c0, rfl, h0⟩ := Mir.td1_agg (by kernel_rfl) k0
 obtain ⟨v0, e0, w0⟩ := Mir.td_delta (n := 6) h0
 obtain ⟨c1, rfl, h1⟩ := Mir.td1_agg (by kernel_rfl) k1
 obtain ⟨v1, e1, w1⟩ := Mir.td_delta (n := 6) h1
 rw [e0, e1]
 exact Mir.FMerges_eq ⟨⟨w0.rw, ⟨fun r h => (w0.2.1.2 r h).2, fun r h => (w0.2.2.2 r h).2⟩, ⟨w0.2.1.1, w0.2.2.1⟩⟩, ⟨w1.rw, ⟨fun r h => (w1.2.1.2 r h).2, fun r h => (w1.2.2.2 r h).2⟩, ⟨w1.2.1.1, w1.2.2.1⟩⟩⟩
theorem lifted (os : Os) (started : os.Started) (H : Type) (enc : TypeId × Value → H) :
   ReturnsInHanded {} Tryz.checked os 5 .any (fun w args => (Rows.deltaMergesSpec.pre enc Tryz.prog Tryz.f5 Rows.deltaMergesRow.domain false w args ∧ laidMetH Tryz.prog Rows.deltaMergesRow.laid w) ∧ sizedMet enc Tryz.prog Tryz.f5 (OpenSpec.ofChange Rows.deltaMergesSpec) false w args) (Rows.deltaMergesSpec.post enc Tryz.prog Tryz.f5 false true false false) := by
 refine returnsInHanded_of_change_and (C := Tryz.checked) (X := fun w _ => laidMetH Tryz.prog Rows.deltaMergesRow.laid w) (fun _ _ _ hh h => h.of_heap hh) own started (by kernel_rfl) Tryz.func5
   (ChangeSpec.witness_shaped (enc := enc) (C := Tryz.checked) (os := os) (X := fun w _ => laidMetH Tryz.prog Rows.deltaMergesRow.laid w) false (World.laidAll Tryz.prog os Rows.deltaMergesRow.laid) #[.agg #[.string ⟨#[]⟩, .int .i64 0, .int .i64 0, .slice none 0 0, .slice none 0 0], .agg #[.string ⟨#[]⟩, .int .i64 0, .int .i64 0, .slice none 0 0, .slice none 0 0]] 8 (World.laidAll_os _ _ _)
     (World.shaped_of_ZipB (by kernel_rfl) (by kernel_rfl)) (by kernel_rfl) (by kernel_rfl) (by kernel_rfl)
     (by rw [MakeChecks.laidMetH_plain _ _ _ (by kernel_rfl)]; exact laidMet_laidAll _ (by kernel_rfl) (by kernel_rfl))) ?_
 intro W base args ds gs before hval0 hW hcnd hsz0 hL _
 have hsz : (DataW.weightsEach Tryz.prog (Tryz.f5.params.toList ++ Rows.deltaMergesSpec.plain.varTypes Tryz.prog) (ds ++ gs)).all (· ≤ reachBytes) = true := hsz0
 have hval : ∀ (j : Nat) t v, Tryz.f5.params[j]? = some t → args[j]? = some v → Value.okWide Tryz.prog W .any base t v := hval0
 have hW' := hW
 obtain ⟨p, q, hA0, hV, rfl, hfz, hnd⟩ := hW
 have hA : DataW.TrodAll enc Tryz.prog W 0 (fun _ => true) true Tryz.f5.params.toList args.toList ds p := hA0
 rw [Tryz.params5] at hA hval hsz
 obtain ⟨rfl, rfl⟩ := trodVars_none hV
 have hA1 : DataW.TrodAll enc Tryz.prog W 0 (fun _ => true) true [28, 28] args.toList ds p := hA
 have hsz1 : (DataW.weightsEach Tryz.prog [28, 28] ds).all (· ≤ reachBytes) = true := by
   have h := hsz
   rw [List.append_nil] at h
   exact h
 refine (Mir.law_run (n := 12) (Mir.Known.OK.get Mir.ok162 5 rfl) (by kernel_rfl) hA1 (fun j t v ht hv => hval j t v (by simpa using ht) hv) hsz1 told).mono fun e W' ⟨he, bel⟩ => ?_
 subst he
 have hK := Mir.args_stay (spare := fun _ => true) laidOut bel _ _ _ _ (by kernel_rfl) hA1
 obtain ⟨v0, vs0, d0, ds0, p0, q0, h0, rfl, rfl, _, r0⟩ := trodAll_cons hA1
 obtain ⟨v1, vs1, d1, ds1, p1, q1, h1, rfl, rfl, _, r1⟩ := trodAll_cons r0
 obtain ⟨rfl, rfl, rfl⟩ := trodAll_nil r1
 exact ⟨_, rfl, _, _, _, [], _, [], hW', trodAll_mk1 (shut_bool Tryz.underlying4 _), hK, rfl, bel.frame _, fun h => by cases h⟩
theorem over : Rows.DeltaMergesSaid :=
 OpenClaim.holds_of_wide 5 Tryz.f5 rfl rfl rfl rfl rfl rfl rfl ⟨rfl, rfl, rfl, rfl, rfl⟩ rfl rfl rfl rfl rfl (by kernel_rfl) Tryz.func5 (by kernel_rfl)
   (of_decide_eq_true (by kernel_rfl)) (by unfold Func.isWrapper; first | (rw [if_pos (by decide +kernel)]; kernel_rfl) | (rw [if_neg (by decide +kernel)]; exact ⟨rfl, rfl⟩))
   (fun os started H enc _ => lifted os started H enc)
theorem tied : Rows.DeltaMergesCardSaid :=
 Claim7.holds_tied_plain_at .later [] [.data, .pinned] true (true, "6ea562871079a03565b978c6eabf6986d9e05aa6371aec071ebd4c774fd9d160") false over (fun _ h => by cases h) (by kernel_rfl) (fun _ h => by cases h) deltaMerges_row_tie rfl ⟨rfl, rfl⟩ (by kernel_rfl) rfl
   (fun f fn hf hfn => by
     obtain rfl : f = 5 := Option.some.inj ((show Tryz.prog.funcNamed "ddi/ddilaw12.DeltaMerges" = some 5 by kernel_rfl).symm.trans hf) |>.symm
     obtain rfl : fn = Tryz.f5 := (Option.some.inj (Tryz.func5.symm.trans hfn)).symm
     exact ⟨by kernel_rfl, fun j t ht => by
       rw [Tryz.params5] at ht
       have hm : t ∈ [28, 28] := by simpa using Array.mem_of_getElem? ht
       have hall : ([28, 28].all fun u => !Tryz.prog.wantsStandIn u) = true := by kernel_rfl
       exact (show Tryz.prog.wantsStandIn t = false by simpa using List.all_eq_true.1 hall t hm)⟩)
   (by kernel_rfl)
end Go.Proofs.YtnmohcaeepcloaaGreatDoor.deltaMerges
namespace Go.Proofs.YtnmohcaeepcloaaGreatDoor
theorem deltaMerges_holds : Rows.DeltaMergesCardSaid := deltaMerges.tied
end Go.Proofs.YtnmohcaeepcloaaGreatDoor
namespace Go.Mir
end Go.Mir
