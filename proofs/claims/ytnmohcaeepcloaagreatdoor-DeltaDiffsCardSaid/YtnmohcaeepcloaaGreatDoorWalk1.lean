/- What the program's functions answer, read off their code; no conditions. -/
import Derived.Test.YtnmohcaeepcloaaGreatDoorMir3
import Derived.Test.YtnmohcaeepcloaaGreatDoorRows
import Derived.KernelRfl
set_option linter.unusedSimpArgs false
set_option linter.unusedVariables false
set_option linter.defProp false
set_option maxRecDepth 100000
set_option maxHeartbeats 4000000
open Go Go.RowKit Go.Proofs
namespace Go.Mir
attribute [local congr] Ev.congr EvC.congr EvW.congr Br.congr Ms.congr
set_option linter.defProp false in
def cP := tAa @tAp (tAa @tAF (tAa @tAu (tAa @tAJ (tAa @tAg (tAa @Nat.add_zero (tAa @List.zip_cons_cons.{0,0} (tAa @List.zip_nil_left.{0,0} (tAa @tCb (tAa @List.head?_cons.{0} (tAa @tAt (tAa @tAV (tAa @tBs (tAa @tBX (tAa @Option.bind_none.{0,0} (tAa @tB6 (tAa @tBi (tAa @List.isEmpty_cons.{0} (tAa @List.isEmpty_nil.{0} (tAa @Int.toNat_natCast (tAa @List.set_cons_zero.{0} (tAa @List.set_cons_succ.{0} (@Option.isSome_some.{0}))))))))))))))))))))))
def cQ := tAa @not_false_eq_true (tAa @tBp (tAa @decide_true (tAa @decide_false (tAa @not_true_eq_false (tAa @false_and (tAa @false_implies (tAa @tBG (tAa @decide_eq_true_eq (tAa @decide_eq_false_iff_not (tAa @ge_iff_le.{0} (tAa @gt_iff_lt.{0} (tAa @and_true (tAa @true_and (tAa @true_or (tAa @or_true (tAa @tAR (tAa @Bool.and_true (tAa @tCc (tAa @Bool.and_false (tAa @Bool.true_or (tAa @Bool.or_true (tAa @tBg (tAa @Bool.or_false (tAa @tAO (tAa @tBn (tAa @tAo (tAa @tAG (tAa @tBI (tAa @tBK (tAa @Bool.not_eq_true (tAa @Bool.not_eq_false' (tAa @tCi (tAa @tAA (tAa @tAf (tAa @if_true.{1} (tAa @if_false.{1} (tAa @ite_self.{1} (tAa @or_false (tAa @false_or (tAa @or_self (tAa @eq_self.{1} (tAa @tCh (tAa @zRb (tAa @zKK (tAa @tBv (tAa @zYr (tAa @yD8 (tAa @tBS (tAa @tAh (tAa @tAI (tAa @tBN (tAa @Nat.zero_lt_succ (tAa @tAZ (tAa @tBe (@List.flatMap_nil.{0,0})))))))))))))))))))))))))))))))))))))))))))))))))))))))
def cI := tAa @tAv (tAa @D.it.injEq (tAa @D.st.injEq (tAa @D.bo.injEq (tAa @true_and (tAa @and_true (tAa @yFE (tAa @yE6 (tAa @zTL (tAa @zGQ (tAa @zVt (tAa @zY5 (tAa @zJz (tAa @zRE (tAa @zXv (@zPp)))))))))))))))
theorem fr1 {σ : Type} {J : σ → Prop} {A : σ → Blk} (h : ∀ s, zBn (A s)) (s : σ) (_ : J s) : ∀ b ∈ [A s], zBn b := fun b hb => by simp only [tAy] at hb; subst hb; exact h s
theorem fr2 {σ : Type} {J : σ → Prop} {A B : σ → Blk} (h : ∀ s, zBn (A s)) (h2 : ∀ s, zBn (B s)) (s : σ) (_ : J s) : ∀ b ∈ [A s, B s], zBn b := fun b hb => by simp only [tAr, tA0, or_false] at hb; rcases hb with rfl | rfl; exact h s; exact h2 s
theorem fr3 {σ : Type} {J : σ → Prop} {A B C : σ → Blk} (h : ∀ s, zBn (A s)) (h2 : ∀ s, zBn (B s)) (h3 : ∀ s, zBn (C s)) (s : σ) (_ : J s) : ∀ b ∈ [A s, B s, C s], zBn b := fun b hb => by simp only [tAr, tA0, or_false] at hb; rcases hb with rfl | rfl | rfl; exact h s; exact h2 s; exact h3 s
theorem mkFe {σ : Type} {enc : σ → List D} {pre : σ → Prop} {out : σ → Res} {s : σ} (hp : pre s) (hi : ∀ s s', enc s = enc s' → out s = out s' := by intro s s' h; simp only [cI] at h; simp only [h]) : mkF enc pre out (enc s) = some (out s) := zBV hi hp
inductive Nr : Prop → Prop → Prop
  | mk {p : Prop} : Nr p p
theorem Nr.on {p q : Prop} (h : Nr p q) (hp : p) : q := by cases h; exact hp
theorem bN {c p q : Prop} {A B : Tok → Prop} (h1 : p → A .go) (h2 : q → B .go) (n1 : Nr c p := by first | (simp only [cN]; exact .mk) | exact .mk) (n2 : Nr (¬c) q := by first | (simp only [cN]; exact .mk) | exact .mk) : Br .go c A B := yKq (fun h => h1 (n1.on h)) (fun h => h2 (n2.on h))
theorem sz53 : szT Tryz.prog 53 = some 16 := by kernel_rfl
theorem zWl : aggT Tryz.prog 53 = some true := by kernel_rfl
theorem sz51 : szT Tryz.prog 51 = some 13 := by kernel_rfl
theorem zWm : aggT Tryz.prog 51 = some true := by kernel_rfl
theorem sz49 : szT Tryz.prog 49 = some 3 := by kernel_rfl
theorem zWn : aggT Tryz.prog 49 = some true := by kernel_rfl
theorem sz24 : szT Tryz.prog 24 = some 2 := by kernel_rfl
theorem zWr : aggT Tryz.prog 24 = some true := by kernel_rfl
theorem sz28 : szT Tryz.prog 28 = some 5 := by kernel_rfl
theorem zWq : aggT Tryz.prog 28 = some true := by kernel_rfl
theorem sz3 : szT Tryz.prog 3 = some 1 := by kernel_rfl
theorem agg3 : aggT Tryz.prog 3 = some false := by kernel_rfl
theorem sz4 : szT Tryz.prog 4 = some 1 := by kernel_rfl
theorem agg4 : aggT Tryz.prog 4 = some false := by kernel_rfl
theorem sz9 : szT Tryz.prog 9 = some 1 := by kernel_rfl
theorem agg9 : aggT Tryz.prog 9 = some false := by kernel_rfl
theorem sz5 : szT Tryz.prog 5 = some 1 := by kernel_rfl
theorem agg5 : aggT Tryz.prog 5 = some false := by kernel_rfl
theorem sz47 : szT Tryz.prog 47 = some 1 := by kernel_rfl
theorem zWo : aggT Tryz.prog 47 = some false := by kernel_rfl
theorem sz90 : szT Tryz.prog 90 = some 1 := by kernel_rfl
theorem zWi : aggT Tryz.prog 90 = some false := by kernel_rfl
theorem sz98 : szT Tryz.prog 98 = some 1 := by kernel_rfl
theorem zWh : aggT Tryz.prog 98 = some false := by kernel_rfl
theorem sz29 : szT Tryz.prog 29 = some 1 := by kernel_rfl
theorem zWp : aggT Tryz.prog 29 = some false := by kernel_rfl
theorem sz22 : szT Tryz.prog 22 = some 1 := by kernel_rfl
theorem zWs : aggT Tryz.prog 22 = some false := by kernel_rfl
theorem sz79 : szT Tryz.prog 79 = some 1 := by kernel_rfl
theorem zWj : aggT Tryz.prog 79 = some false := by kernel_rfl
theorem zSw : szT Tryz.prog 111 = some 1 := by kernel_rfl
theorem zMd : aggT Tryz.prog 111 = some false := by kernel_rfl
theorem zSv : szT Tryz.prog 149 = some 1 := by kernel_rfl
theorem zMc : aggT Tryz.prog 149 = some false := by kernel_rfl
theorem sz60 : szT Tryz.prog 60 = some 1 := by kernel_rfl
theorem zWk : aggT Tryz.prog 60 = some false := by kernel_rfl
theorem yAx : zDC Tryz.prog 49 = some (.agg [.bo false, .it .u64 0, .it .u64 0]) := by kernel_rfl
theorem yAw : zDC Tryz.prog 51 = some (.agg [.bo false, .it .u64 0, .it .u64 0, .st [], .st [], .st [], .it .i64 0, .it .i64 0, .it .i64 0, .it .i64 0, .it .i64 0, .it .i64 0, .it .u64 0]) := by kernel_rfl
theorem yAv : zDC Tryz.prog 53 = some (.agg [.st [], .it .i64 0, .it .i64 0, .bo false, .it .u64 0, .it .u64 0, .st [], .st [], .st [], .it .i64 0, .it .i64 0, .it .i64 0, .it .i64 0, .it .i64 0, .it .i64 0, .it .u64 0]) := by kernel_rfl
theorem yAz : zDC Tryz.prog 24 = some (.agg [.st [], .vec 16 false []]) := by kernel_rfl
theorem yAy : zDC Tryz.prog 28 = some (.agg [.st [], .it .i64 0, .it .i64 0, .vec 16 false [], .vec 16 false []]) := by kernel_rfl
theorem el22 : zBL Tryz.prog 22 = some 53 := by kernel_rfl
theorem ap22 : appT Tryz.prog 22 16 160 = true := by kernel_rfl
theorem ze22 : zDn Tryz.prog 53 16 = some (.agg [.st [], .it .i64 0, .it .i64 0, .bo false, .it .u64 0, .it .u64 0, .st [], .st [], .st [], .it .i64 0, .it .i64 0, .it .i64 0, .it .i64 0, .it .i64 0, .it .i64 0, .it .u64 0]) := by kernel_rfl
theorem yKu : ∀ (H : Hp) (nid : Nat) (s x : D), zBY Tryz.prog 22 H nid s x = appK 16 160 H nid s x := fun _ _ _ _ => zIn ap22
theorem yKx : ∀ (H : Hp) (nid : Nat) (s x : D), zBR Tryz.prog 22 H nid s x = zKr 16 160 H nid s x := fun _ _ _ _ => zFi ap22
theorem yHw : ∀ {α : Type} (H : Hp) (sz : Nat) (E : α → D) (xs : List α), lenD Tryz.prog H 22 (vecE sz E xs) = some (xs.length : Int) := fun _ _ _ _ => zD6 Tryz.underlying22
theorem yHz : ∀ (H : Hp) (id off len : Nat), lenD Tryz.prog H 22 (.own id off len) = match H id with | .row _ _ _ => some (len : Int) | _ => none := fun _ _ _ _ => zFb Tryz.underlying22
theorem yGG : ∀ {α : Type} (sz : Nat) (E : α → D) (xs : List α), zBP Tryz.prog 22 (vecE sz E xs) = true := fun _ _ _ => zDV Tryz.underlying22
theorem yJ4 : ∀ (H : Hp) (id off len : Nat) (k : IntKind) (n : Int), zAP Tryz.prog H 22 (.own id off len) (.it k n) = match H id with | .row sz _ _ => if szT Tryz.prog 53 = some sz ∧ 0 ≤ n ∧ n < len then some (.rowp id (off + n.toNat) 0) else none | _ => none := fun _ _ _ _ _ _ => zGJ Tryz.underlying22
theorem yJG : ∀ (H : Hp) (id len k : Nat) (kd : IntKind), zAW Tryz.prog H 22 (.own id 0 len) none (some (.it kd (k : Int))) none = match H id with | .row sz _ _ => if szT Tryz.prog 53 = some sz ∧ k ≤ len then some (.own id 0 k) else none | _ => none := fun _ _ _ _ _ => zHJ Tryz.underlying22
theorem yJJ : ∀ (H : Hp) (id off len k : Nat) (kd : IntKind), zAW Tryz.prog H 22 (.own id off len) (some (.it kd (k : Int))) none none = match H id with | .row sz _ _ => if szT Tryz.prog 53 = some sz ∧ k ≤ len then some (.own id (off + k) (len - k)) else none | _ => none := fun _ _ _ _ _ _ => zDW Tryz.underlying22
theorem yJM : ∀ {α : Type} (H : Hp) (E : α → D) (xs : List α) (k : IntKind) (i : Nat) (_ : i ≤ xs.length), zAW Tryz.prog H 22 (vecE 16 E xs) (some (.it k (i : Int))) none none = some (vecE 16 E (xs.drop i)) := fun _ _ _ _ _ h => zDX Tryz.underlying22 sz53 h
theorem yJX : ∀ (H : Hp) (nid : Nat) (c : Int), zDe Tryz.prog 22 H nid (.it .i64 0) (.it .i64 c) = if 0 ≤ c ∧ ((160 : Nat) : Int) * c ≤ 281474976710656 then some (.own nid 0 0, upd H nid (.row 16 true []), nid + 1) else none := fun _ _ _ => zM5 el22 ze22 (by kernel_rfl) (by decide)
theorem yGJ : ∀ (id off len : Nat), zBP Tryz.prog 22 (.own id off len) = true := fun _ _ _ => zDs Tryz.underlying22
theorem yJ1 : ∀ {α : Type} [Inhabited α] (H : Hp) (E : α → D) (xs : List α) (k : IntKind) (i : Nat) (_ : (i : Int) < xs.length), zAP Tryz.prog H 22 (vecE 16 E xs) (.it k (i : Int)) = some (.elt (E xs[i]!).cells) := fun _ _ _ _ _ h => zEC Tryz.underlying22 sz53 h
theorem el79 : zBL Tryz.prog 79 = some 9 := by kernel_rfl
theorem ap79 : appT Tryz.prog 79 1 16 = true := by kernel_rfl
theorem ze79 : zDn Tryz.prog 9 1 = some (.st []) := by kernel_rfl
theorem yKs : ∀ (H : Hp) (nid : Nat) (s x : D), zBY Tryz.prog 79 H nid s x = appK 1 16 H nid s x := fun _ _ _ _ => zIn ap79
theorem yKv : ∀ (H : Hp) (nid : Nat) (s x : D), zBR Tryz.prog 79 H nid s x = zKr 1 16 H nid s x := fun _ _ _ _ => zFi ap79
theorem yHu : ∀ {α : Type} (H : Hp) (sz : Nat) (E : α → D) (xs : List α), lenD Tryz.prog H 79 (vecE sz E xs) = some (xs.length : Int) := fun _ _ _ _ => zD6 Tryz.underlying79
theorem yHx : ∀ (H : Hp) (id off len : Nat), lenD Tryz.prog H 79 (.own id off len) = match H id with | .row _ _ _ => some (len : Int) | _ => none := fun _ _ _ _ => zFb Tryz.underlying79
theorem yGE : ∀ {α : Type} (sz : Nat) (E : α → D) (xs : List α), zBP Tryz.prog 79 (vecE sz E xs) = true := fun _ _ _ => zDV Tryz.underlying79
theorem yJ2 : ∀ (H : Hp) (id off len : Nat) (k : IntKind) (n : Int), zAP Tryz.prog H 79 (.own id off len) (.it k n) = match H id with | .row sz _ _ => if szT Tryz.prog 9 = some sz ∧ 0 ≤ n ∧ n < len then some (.rowp id (off + n.toNat) 0) else none | _ => none := fun _ _ _ _ _ _ => zGJ Tryz.underlying79
theorem yJE : ∀ (H : Hp) (id len k : Nat) (kd : IntKind), zAW Tryz.prog H 79 (.own id 0 len) none (some (.it kd (k : Int))) none = match H id with | .row sz _ _ => if szT Tryz.prog 9 = some sz ∧ k ≤ len then some (.own id 0 k) else none | _ => none := fun _ _ _ _ _ => zHJ Tryz.underlying79
theorem yJH : ∀ (H : Hp) (id off len k : Nat) (kd : IntKind), zAW Tryz.prog H 79 (.own id off len) (some (.it kd (k : Int))) none none = match H id with | .row sz _ _ => if szT Tryz.prog 9 = some sz ∧ k ≤ len then some (.own id (off + k) (len - k)) else none | _ => none := fun _ _ _ _ _ _ => zDW Tryz.underlying79
theorem yJK : ∀ {α : Type} (H : Hp) (E : α → D) (xs : List α) (k : IntKind) (i : Nat) (_ : i ≤ xs.length), zAW Tryz.prog H 79 (vecE 1 E xs) (some (.it k (i : Int))) none none = some (vecE 1 E (xs.drop i)) := fun _ _ _ _ _ h => zDX Tryz.underlying79 sz9 h
theorem yJV : ∀ (H : Hp) (nid : Nat) (c : Int), zDe Tryz.prog 79 H nid (.it .i64 0) (.it .i64 c) = if 0 ≤ c ∧ ((16 : Nat) : Int) * c ≤ 281474976710656 then some (.own nid 0 0, upd H nid (.row 1 true []), nid + 1) else none := fun _ _ _ => zM5 el79 ze79 (by kernel_rfl) (by decide)
theorem yGH : ∀ (id off len : Nat), zBP Tryz.prog 79 (.own id off len) = true := fun _ _ _ => zDs Tryz.underlying79
theorem yEk : ∀ {α : Type} [Inhabited α] (H : Hp) (E : α → D) (xs : List α) (k : IntKind) (i : Nat) (_ : (i : Int) < xs.length), zAP Tryz.prog H 79 (vecE 1 E xs) (.it k (i : Int)) = some (.elt (E xs[i]!).cells) := fun _ _ _ _ _ h => zEC Tryz.underlying79 sz9 h
theorem yIO : zBL Tryz.prog 111 = some 3 := by kernel_rfl
theorem yFy : appT Tryz.prog 111 1 8 = true := by kernel_rfl
theorem yGc : zDn Tryz.prog 3 1 = some (.it .i64 0) := by kernel_rfl
theorem yJg : ∀ (H : Hp) (nid : Nat) (s x : D), zBY Tryz.prog 111 H nid s x = appK 1 8 H nid s x := fun _ _ _ _ => zIn yFy
theorem yJj : ∀ (H : Hp) (nid : Nat) (s x : D), zBR Tryz.prog 111 H nid s x = zKr 1 8 H nid s x := fun _ _ _ _ => zFi yFy
theorem yEc : ∀ {α : Type} (H : Hp) (sz : Nat) (E : α → D) (xs : List α), lenD Tryz.prog H 111 (vecE sz E xs) = some (xs.length : Int) := fun _ _ _ _ => zD6 Tryz.underlying111
theorem yEe : ∀ (H : Hp) (id off len : Nat), lenD Tryz.prog H 111 (.own id off len) = match H id with | .row _ _ _ => some (len : Int) | _ => none := fun _ _ _ _ => zFb Tryz.underlying111
theorem yCA : ∀ {α : Type} (sz : Nat) (E : α → D) (xs : List α), zBP Tryz.prog 111 (vecE sz E xs) = true := fun _ _ _ => zDV Tryz.underlying111
theorem yHI : ∀ (H : Hp) (id off len : Nat) (k : IntKind) (n : Int), zAP Tryz.prog H 111 (.own id off len) (.it k n) = match H id with | .row sz _ _ => if szT Tryz.prog 3 = some sz ∧ 0 ≤ n ∧ n < len then some (.rowp id (off + n.toNat) 0) else none | _ => none := fun _ _ _ _ _ _ => zGJ Tryz.underlying111
theorem yGQ : ∀ (H : Hp) (id len k : Nat) (kd : IntKind), zAW Tryz.prog H 111 (.own id 0 len) none (some (.it kd (k : Int))) none = match H id with | .row sz _ _ => if szT Tryz.prog 3 = some sz ∧ k ≤ len then some (.own id 0 k) else none | _ => none := fun _ _ _ _ _ => zHJ Tryz.underlying111
theorem yGS : ∀ (H : Hp) (id off len k : Nat) (kd : IntKind), zAW Tryz.prog H 111 (.own id off len) (some (.it kd (k : Int))) none none = match H id with | .row sz _ _ => if szT Tryz.prog 3 = some sz ∧ k ≤ len then some (.own id (off + k) (len - k)) else none | _ => none := fun _ _ _ _ _ _ => zDW Tryz.underlying111
theorem yGV : ∀ {α : Type} (H : Hp) (E : α → D) (xs : List α) (k : IntKind) (i : Nat) (_ : i ≤ xs.length), zAW Tryz.prog H 111 (vecE 1 E xs) (some (.it k (i : Int))) none none = some (vecE 1 E (xs.drop i)) := fun _ _ _ _ _ h => zDX Tryz.underlying111 sz3 h
theorem yHr : ∀ (H : Hp) (nid : Nat) (c : Int), zDe Tryz.prog 111 H nid (.it .i64 0) (.it .i64 c) = if 0 ≤ c ∧ ((8 : Nat) : Int) * c ≤ 281474976710656 then some (.own nid 0 0, upd H nid (.row 1 true []), nid + 1) else none := fun _ _ _ => zM5 yIO yGc (by kernel_rfl) (by decide)
theorem yCC : ∀ (id off len : Nat), zBP Tryz.prog 111 (.own id off len) = true := fun _ _ _ => zDs Tryz.underlying111
theorem yHE : ∀ {α : Type} [Inhabited α] (H : Hp) (E : α → D) (xs : List α) (k : IntKind) (i : Nat) (_ : (i : Int) < xs.length), zAP Tryz.prog H 111 (vecE 1 E xs) (.it k (i : Int)) = some (.elt (E xs[i]!).cells) := fun _ _ _ _ _ h => zEC Tryz.underlying111 sz3 h
theorem yEW : zBL Tryz.prog 149 = some 5 := by kernel_rfl
theorem yFx : appT Tryz.prog 149 1 1 = true := by kernel_rfl
theorem yBX : zDn Tryz.prog 5 1 = some (.it .u8 0) := by kernel_rfl
theorem yJf : ∀ (H : Hp) (nid : Nat) (s x : D), zBY Tryz.prog 149 H nid s x = appK 1 1 H nid s x := fun _ _ _ _ => zIn yFx
theorem yJi : ∀ (H : Hp) (nid : Nat) (s x : D), zBR Tryz.prog 149 H nid s x = zKr 1 1 H nid s x := fun _ _ _ _ => zFi yFx
theorem yEb : ∀ {α : Type} (H : Hp) (sz : Nat) (E : α → D) (xs : List α), lenD Tryz.prog H 149 (vecE sz E xs) = some (xs.length : Int) := fun _ _ _ _ => zD6 Tryz.underlying149
theorem yEd : ∀ (H : Hp) (id off len : Nat), lenD Tryz.prog H 149 (.own id off len) = match H id with | .row _ _ _ => some (len : Int) | _ => none := fun _ _ _ _ => zFb Tryz.underlying149
theorem yCz : ∀ {α : Type} (sz : Nat) (E : α → D) (xs : List α), zBP Tryz.prog 149 (vecE sz E xs) = true := fun _ _ _ => zDV Tryz.underlying149
theorem yHH : ∀ (H : Hp) (id off len : Nat) (k : IntKind) (n : Int), zAP Tryz.prog H 149 (.own id off len) (.it k n) = match H id with | .row sz _ _ => if szT Tryz.prog 5 = some sz ∧ 0 ≤ n ∧ n < len then some (.rowp id (off + n.toNat) 0) else none | _ => none := fun _ _ _ _ _ _ => zGJ Tryz.underlying149
theorem yGP : ∀ (H : Hp) (id len k : Nat) (kd : IntKind), zAW Tryz.prog H 149 (.own id 0 len) none (some (.it kd (k : Int))) none = match H id with | .row sz _ _ => if szT Tryz.prog 5 = some sz ∧ k ≤ len then some (.own id 0 k) else none | _ => none := fun _ _ _ _ _ => zHJ Tryz.underlying149
theorem yAG : ∀ (H : Hp) (id off len k : Nat) (kd : IntKind), zAW Tryz.prog H 149 (.own id off len) (some (.it kd (k : Int))) none none = match H id with | .row sz _ _ => if szT Tryz.prog 5 = some sz ∧ k ≤ len then some (.own id (off + k) (len - k)) else none | _ => none := fun _ _ _ _ _ _ => zDW Tryz.underlying149
theorem yGU : ∀ {α : Type} (H : Hp) (E : α → D) (xs : List α) (k : IntKind) (i : Nat) (_ : i ≤ xs.length), zAW Tryz.prog H 149 (vecE 1 E xs) (some (.it k (i : Int))) none none = some (vecE 1 E (xs.drop i)) := fun _ _ _ _ _ h => zDX Tryz.underlying149 sz5 h
theorem yHq : ∀ (H : Hp) (nid : Nat) (c : Int), zDe Tryz.prog 149 H nid (.it .i64 0) (.it .i64 c) = if 0 ≤ c ∧ ((1 : Nat) : Int) * c ≤ 281474976710656 then some (.own nid 0 0, upd H nid (.row 1 true []), nid + 1) else none := fun _ _ _ => zM5 yEW yBX (by kernel_rfl) (by decide)
theorem yCB : ∀ (id off len : Nat), zBP Tryz.prog 149 (.own id off len) = true := fun _ _ _ => zDs Tryz.underlying149
theorem yHD : ∀ {α : Type} [Inhabited α] (H : Hp) (E : α → D) (xs : List α) (k : IntKind) (i : Nat) (_ : (i : Int) < xs.length), zAP Tryz.prog H 149 (vecE 1 E xs) (.it k (i : Int)) = some (.elt (E xs[i]!).cells) := fun _ _ _ _ _ h => zEC Tryz.underlying149 sz5 h
theorem el60 : zBL Tryz.prog 60 = some 22 := by kernel_rfl
theorem ap60 : appT Tryz.prog 60 1 24 = true := by kernel_rfl
theorem ze60 : zDn Tryz.prog 22 1 = some (.vec 16 false []) := by kernel_rfl
theorem yKt : ∀ (H : Hp) (nid : Nat) (s x : D), zBY Tryz.prog 60 H nid s x = appK 1 24 H nid s x := fun _ _ _ _ => zIn ap60
theorem yKw : ∀ (H : Hp) (nid : Nat) (s x : D), zBR Tryz.prog 60 H nid s x = zKr 1 24 H nid s x := fun _ _ _ _ => zFi ap60
theorem yHv : ∀ {α : Type} (H : Hp) (sz : Nat) (E : α → D) (xs : List α), lenD Tryz.prog H 60 (vecE sz E xs) = some (xs.length : Int) := fun _ _ _ _ => zD6 Tryz.underlying60
theorem yHy : ∀ (H : Hp) (id off len : Nat), lenD Tryz.prog H 60 (.own id off len) = match H id with | .row _ _ _ => some (len : Int) | _ => none := fun _ _ _ _ => zFb Tryz.underlying60
theorem yGF : ∀ {α : Type} (sz : Nat) (E : α → D) (xs : List α), zBP Tryz.prog 60 (vecE sz E xs) = true := fun _ _ _ => zDV Tryz.underlying60
theorem yJ3 : ∀ (H : Hp) (id off len : Nat) (k : IntKind) (n : Int), zAP Tryz.prog H 60 (.own id off len) (.it k n) = match H id with | .row sz _ _ => if szT Tryz.prog 22 = some sz ∧ 0 ≤ n ∧ n < len then some (.rowp id (off + n.toNat) 0) else none | _ => none := fun _ _ _ _ _ _ => zGJ Tryz.underlying60
theorem yJF : ∀ (H : Hp) (id len k : Nat) (kd : IntKind), zAW Tryz.prog H 60 (.own id 0 len) none (some (.it kd (k : Int))) none = match H id with | .row sz _ _ => if szT Tryz.prog 22 = some sz ∧ k ≤ len then some (.own id 0 k) else none | _ => none := fun _ _ _ _ _ => zHJ Tryz.underlying60
theorem yJI : ∀ (H : Hp) (id off len k : Nat) (kd : IntKind), zAW Tryz.prog H 60 (.own id off len) (some (.it kd (k : Int))) none none = match H id with | .row sz _ _ => if szT Tryz.prog 22 = some sz ∧ k ≤ len then some (.own id (off + k) (len - k)) else none | _ => none := fun _ _ _ _ _ _ => zDW Tryz.underlying60
theorem yJL : ∀ {α : Type} (H : Hp) (E : α → D) (xs : List α) (k : IntKind) (i : Nat) (_ : i ≤ xs.length), zAW Tryz.prog H 60 (vecE 1 E xs) (some (.it k (i : Int))) none none = some (vecE 1 E (xs.drop i)) := fun _ _ _ _ _ h => zDX Tryz.underlying60 sz22 h
theorem yJW : ∀ (H : Hp) (nid : Nat) (c : Int), zDe Tryz.prog 60 H nid (.it .i64 0) (.it .i64 c) = if 0 ≤ c ∧ ((24 : Nat) : Int) * c ≤ 281474976710656 then some (.own nid 0 0, upd H nid (.row 1 true []), nid + 1) else none := fun _ _ _ => zM5 el60 ze60 (by kernel_rfl) (by decide)
theorem yGI : ∀ (id off len : Nat), zBP Tryz.prog 60 (.own id off len) = true := fun _ _ _ => zDs Tryz.underlying60
theorem yJ0 : ∀ {α : Type} [Inhabited α] (H : Hp) (E : α → D) (xs : List α) (k : IntKind) (i : Nat) (_ : (i : Int) < xs.length), zAP Tryz.prog H 60 (vecE 1 E xs) (.it k (i : Int)) = some (.elt (E xs[i]!).cells) := fun _ _ _ _ _ h => zEC Tryz.underlying60 sz22 h
theorem fdp {p : Prop} (h : p := by simp only [zAN, zAQ, Tryz.underlying52, Tryz.underlying53, Tryz.underlying50, Tryz.underlying51, Tryz.underlying48, Tryz.underlying49, Tryz.underlying24, Tryz.underlying23, Tryz.underlying27, Tryz.underlying28, Tryz.underlying3, Tryz.underlying4, Tryz.underlying9, Tryz.underlying5, Tryz.underlying47, Tryz.underlying90, Tryz.underlying98, Tryz.underlying29, Tryz.underlying22, Tryz.underlying79, Tryz.underlying111, Tryz.underlying149, Tryz.underlying60, sz53, zWl, sz51, zWm, sz49, zWn, sz24, zWr, sz28, zWq, sz3, agg3, sz4, agg4, sz9, agg9, sz5, agg5, sz47, zWo, sz90, zWi, sz98, zWh, sz29, zWp, sz22, zWs, sz79, zWj, zSw, zMd, zSv, zMc, sz60, zWk, zAx, tAg, tBG, tAV, tAt, if_true, if_false, tAf]; rfl) : p := h
theorem yHV : ∀ r : Rec, zAN Tryz.prog 53 0 (recE r) = some (.st r.name) := fun r => by
 show zAN _ _ _ (.agg (recL r)) = _
 exact fdp
theorem yHU : ∀ r : Rec, zAN Tryz.prog 53 1 (recE r) = some (.it .i64 r.typ) := fun r => by
 show zAN _ _ _ (.agg (recL r)) = _
 exact fdp
theorem yHT : ∀ r : Rec, zAN Tryz.prog 53 2 (recE r) = some (.it .i64 r.ttl) := fun r => by
 show zAN _ _ _ (.agg (recL r)) = _
 exact fdp
theorem yHS : ∀ r : Rec, zAN Tryz.prog 53 3 (recE r) = some (datE r.dat) := fun r => by
 show zAN _ _ _ (.agg (recL r)) = _
 exact fdp
theorem yH5 : ∀ x : Dat, zAN Tryz.prog 51 0 (datE x) = some (adrE x.adr) := fun x => by
 show zAN _ _ _ (.agg (datL x)) = _
 exact fdp
theorem yH4 : ∀ x : Dat, zAN Tryz.prog 51 1 (datE x) = some (.st x.host) := fun x => by
 show zAN _ _ _ (.agg (datL x)) = _
 exact fdp
theorem yH3 : ∀ x : Dat, zAN Tryz.prog 51 2 (datE x) = some (.st x.mail) := fun x => by
 show zAN _ _ _ (.agg (datL x)) = _
 exact fdp
theorem yH2 : ∀ x : Dat, zAN Tryz.prog 51 3 (datE x) = some (.st x.text) := fun x => by
 show zAN _ _ _ (.agg (datL x)) = _
 exact fdp
theorem yH1 : ∀ x : Dat, zAN Tryz.prog 51 4 (datE x) = some (.it .i64 x.a) := fun x => by
 show zAN _ _ _ (.agg (datL x)) = _
 exact fdp
theorem yH0 : ∀ x : Dat, zAN Tryz.prog 51 5 (datE x) = some (.it .i64 x.b) := fun x => by
 show zAN _ _ _ (.agg (datL x)) = _
 exact fdp
theorem yHZ : ∀ x : Dat, zAN Tryz.prog 51 6 (datE x) = some (.it .i64 x.c) := fun x => by
 show zAN _ _ _ (.agg (datL x)) = _
 exact fdp
theorem yHY : ∀ x : Dat, zAN Tryz.prog 51 7 (datE x) = some (.it .i64 x.d) := fun x => by
 show zAN _ _ _ (.agg (datL x)) = _
 exact fdp
theorem yHX : ∀ x : Dat, zAN Tryz.prog 51 8 (datE x) = some (.it .i64 x.e) := fun x => by
 show zAN _ _ _ (.agg (datL x)) = _
 exact fdp
theorem yHW : ∀ x : Dat, zAN Tryz.prog 51 9 (datE x) = some (.it .i64 x.f) := fun x => by
 show zAN _ _ _ (.agg (datL x)) = _
 exact fdp
theorem yEG : ∀ x : Dat, zAN Tryz.prog 51 10 (datE x) = some (.it .u64 x.bits) := fun x => by
 show zAN _ _ _ (.agg (datL x)) = _
 exact fdp
theorem yH8 : ∀ x : Adr, zAN Tryz.prog 49 0 (adrE x) = some (.bo x.v6) := fun x => by
 show zAN _ _ _ (.agg (adrL x)) = _
 exact fdp
theorem yH7 : ∀ x : Adr, zAN Tryz.prog 49 1 (adrE x) = some (.it .u64 x.hi) := fun x => by
 show zAN _ _ _ (.agg (adrL x)) = _
 exact fdp
theorem yH6 : ∀ x : Adr, zAN Tryz.prog 49 2 (adrE x) = some (.it .u64 x.lo) := fun x => by
 show zAN _ _ _ (.agg (adrL x)) = _
 exact fdp
theorem yIf : ∀ z : Zone, zAN Tryz.prog 24 0 (zAE z) = some (.st z.origin) := fun z => by
 show zAN _ _ _ (.agg (zBQ z)) = _
 exact fdp
theorem yIe : ∀ z : Zone, zAN Tryz.prog 24 1 (zAE z) = some (zAn z.recs) := fun z => by
 show zAN _ _ _ (.agg (zBQ z)) = _
 exact fdp
theorem yId : ∀ d : Delta, zAN Tryz.prog 28 0 (zAR d) = some (.st d.origin) := fun d => by
 show zAN _ _ _ (.agg (zB3 d)) = _
 exact fdp
theorem yIc : ∀ d : Delta, zAN Tryz.prog 28 1 (zAR d) = some (.it .i64 d.fro) := fun d => by
 show zAN _ _ _ (.agg (zB3 d)) = _
 exact fdp
theorem yIb : ∀ d : Delta, zAN Tryz.prog 28 2 (zAR d) = some (.it .i64 d.til) := fun d => by
 show zAN _ _ _ (.agg (zB3 d)) = _
 exact fdp
theorem yIa : ∀ d : Delta, zAN Tryz.prog 28 3 (zAR d) = some (zAn d.rem) := fun d => by
 show zAN _ _ _ (.agg (zB3 d)) = _
 exact fdp
theorem yH9 : ∀ d : Delta, zAN Tryz.prog 28 4 (zAR d) = some (zAn d.add) := fun d => by
 show zAN _ _ _ (.agg (zB3 d)) = _
 exact fdp
theorem yIk : ∀ (H : Hp) (x : D), zAM Tryz.prog H 53 x 0 = faD H x 0 := zCf (n := (szT Tryz.prog ((zAQ Tryz.prog 53 0).map (·.type)|>.getD 0)).getD 0) (fl := (zAQ Tryz.prog 53 0).getD default) (by kernel_rfl) (by kernel_rfl) (by decide +kernel) (by kernel_rfl)
theorem yIj : ∀ (H : Hp) (x : D), zAM Tryz.prog H 53 x 1 = faD H x 1 := zCf (n := (szT Tryz.prog ((zAQ Tryz.prog 53 1).map (·.type)|>.getD 0)).getD 0) (fl := (zAQ Tryz.prog 53 1).getD default) (by kernel_rfl) (by kernel_rfl) (by decide +kernel) (by kernel_rfl)
theorem yIi : ∀ (H : Hp) (x : D), zAM Tryz.prog H 53 x 2 = faD H x 2 := zCf (n := (szT Tryz.prog ((zAQ Tryz.prog 53 2).map (·.type)|>.getD 0)).getD 0) (fl := (zAQ Tryz.prog 53 2).getD default) (by kernel_rfl) (by kernel_rfl) (by decide +kernel) (by kernel_rfl)
theorem yIh : ∀ (H : Hp) (x : D), zAM Tryz.prog H 53 x 3 = faD H x 3 := zCf (n := (szT Tryz.prog ((zAQ Tryz.prog 53 3).map (·.type)|>.getD 0)).getD 0) (fl := (zAQ Tryz.prog 53 3).getD default) (by kernel_rfl) (by kernel_rfl) (by decide +kernel) (by kernel_rfl)
theorem yIu : ∀ (H : Hp) (x : D), zAM Tryz.prog H 51 x 0 = faD H x 0 := zCf (n := (szT Tryz.prog ((zAQ Tryz.prog 51 0).map (·.type)|>.getD 0)).getD 0) (fl := (zAQ Tryz.prog 51 0).getD default) (by kernel_rfl) (by kernel_rfl) (by decide +kernel) (by kernel_rfl)
theorem yIt : ∀ (H : Hp) (x : D), zAM Tryz.prog H 51 x 1 = faD H x 3 := zCf (n := (szT Tryz.prog ((zAQ Tryz.prog 51 1).map (·.type)|>.getD 0)).getD 0) (fl := (zAQ Tryz.prog 51 1).getD default) (by kernel_rfl) (by kernel_rfl) (by decide +kernel) (by kernel_rfl)
theorem yIs : ∀ (H : Hp) (x : D), zAM Tryz.prog H 51 x 2 = faD H x 4 := zCf (n := (szT Tryz.prog ((zAQ Tryz.prog 51 2).map (·.type)|>.getD 0)).getD 0) (fl := (zAQ Tryz.prog 51 2).getD default) (by kernel_rfl) (by kernel_rfl) (by decide +kernel) (by kernel_rfl)
theorem yIr : ∀ (H : Hp) (x : D), zAM Tryz.prog H 51 x 3 = faD H x 5 := zCf (n := (szT Tryz.prog ((zAQ Tryz.prog 51 3).map (·.type)|>.getD 0)).getD 0) (fl := (zAQ Tryz.prog 51 3).getD default) (by kernel_rfl) (by kernel_rfl) (by decide +kernel) (by kernel_rfl)
theorem yIq : ∀ (H : Hp) (x : D), zAM Tryz.prog H 51 x 4 = faD H x 6 := zCf (n := (szT Tryz.prog ((zAQ Tryz.prog 51 4).map (·.type)|>.getD 0)).getD 0) (fl := (zAQ Tryz.prog 51 4).getD default) (by kernel_rfl) (by kernel_rfl) (by decide +kernel) (by kernel_rfl)
theorem yIp : ∀ (H : Hp) (x : D), zAM Tryz.prog H 51 x 5 = faD H x 7 := zCf (n := (szT Tryz.prog ((zAQ Tryz.prog 51 5).map (·.type)|>.getD 0)).getD 0) (fl := (zAQ Tryz.prog 51 5).getD default) (by kernel_rfl) (by kernel_rfl) (by decide +kernel) (by kernel_rfl)
theorem yIo : ∀ (H : Hp) (x : D), zAM Tryz.prog H 51 x 6 = faD H x 8 := zCf (n := (szT Tryz.prog ((zAQ Tryz.prog 51 6).map (·.type)|>.getD 0)).getD 0) (fl := (zAQ Tryz.prog 51 6).getD default) (by kernel_rfl) (by kernel_rfl) (by decide +kernel) (by kernel_rfl)
theorem yIn : ∀ (H : Hp) (x : D), zAM Tryz.prog H 51 x 7 = faD H x 9 := zCf (n := (szT Tryz.prog ((zAQ Tryz.prog 51 7).map (·.type)|>.getD 0)).getD 0) (fl := (zAQ Tryz.prog 51 7).getD default) (by kernel_rfl) (by kernel_rfl) (by decide +kernel) (by kernel_rfl)
theorem yIm : ∀ (H : Hp) (x : D), zAM Tryz.prog H 51 x 8 = faD H x 10 := zCf (n := (szT Tryz.prog ((zAQ Tryz.prog 51 8).map (·.type)|>.getD 0)).getD 0) (fl := (zAQ Tryz.prog 51 8).getD default) (by kernel_rfl) (by kernel_rfl) (by decide +kernel) (by kernel_rfl)
theorem yIl : ∀ (H : Hp) (x : D), zAM Tryz.prog H 51 x 9 = faD H x 11 := zCf (n := (szT Tryz.prog ((zAQ Tryz.prog 51 9).map (·.type)|>.getD 0)).getD 0) (fl := (zAQ Tryz.prog 51 9).getD default) (by kernel_rfl) (by kernel_rfl) (by decide +kernel) (by kernel_rfl)
theorem yEK : ∀ (H : Hp) (x : D), zAM Tryz.prog H 51 x 10 = faD H x 12 := zCf (n := (szT Tryz.prog ((zAQ Tryz.prog 51 10).map (·.type)|>.getD 0)).getD 0) (fl := (zAQ Tryz.prog 51 10).getD default) (by kernel_rfl) (by kernel_rfl) (by decide +kernel) (by kernel_rfl)
theorem yIx : ∀ (H : Hp) (x : D), zAM Tryz.prog H 49 x 0 = faD H x 0 := zCf (n := (szT Tryz.prog ((zAQ Tryz.prog 49 0).map (·.type)|>.getD 0)).getD 0) (fl := (zAQ Tryz.prog 49 0).getD default) (by kernel_rfl) (by kernel_rfl) (by decide +kernel) (by kernel_rfl)
theorem yIw : ∀ (H : Hp) (x : D), zAM Tryz.prog H 49 x 1 = faD H x 1 := zCf (n := (szT Tryz.prog ((zAQ Tryz.prog 49 1).map (·.type)|>.getD 0)).getD 0) (fl := (zAQ Tryz.prog 49 1).getD default) (by kernel_rfl) (by kernel_rfl) (by decide +kernel) (by kernel_rfl)
theorem yIv : ∀ (H : Hp) (x : D), zAM Tryz.prog H 49 x 2 = faD H x 2 := zCf (n := (szT Tryz.prog ((zAQ Tryz.prog 49 2).map (·.type)|>.getD 0)).getD 0) (fl := (zAQ Tryz.prog 49 2).getD default) (by kernel_rfl) (by kernel_rfl) (by decide +kernel) (by kernel_rfl)
theorem yIE : ∀ (H : Hp) (x : D), zAM Tryz.prog H 24 x 0 = faD H x 0 := zCf (n := (szT Tryz.prog ((zAQ Tryz.prog 24 0).map (·.type)|>.getD 0)).getD 0) (fl := (zAQ Tryz.prog 24 0).getD default) (by kernel_rfl) (by kernel_rfl) (by decide +kernel) (by kernel_rfl)
theorem yID : ∀ (H : Hp) (x : D), zAM Tryz.prog H 24 x 1 = faD H x 1 := zCf (n := (szT Tryz.prog ((zAQ Tryz.prog 24 1).map (·.type)|>.getD 0)).getD 0) (fl := (zAQ Tryz.prog 24 1).getD default) (by kernel_rfl) (by kernel_rfl) (by decide +kernel) (by kernel_rfl)
theorem yIC : ∀ (H : Hp) (x : D), zAM Tryz.prog H 28 x 0 = faD H x 0 := zCf (n := (szT Tryz.prog ((zAQ Tryz.prog 28 0).map (·.type)|>.getD 0)).getD 0) (fl := (zAQ Tryz.prog 28 0).getD default) (by kernel_rfl) (by kernel_rfl) (by decide +kernel) (by kernel_rfl)
theorem yIB : ∀ (H : Hp) (x : D), zAM Tryz.prog H 28 x 1 = faD H x 1 := zCf (n := (szT Tryz.prog ((zAQ Tryz.prog 28 1).map (·.type)|>.getD 0)).getD 0) (fl := (zAQ Tryz.prog 28 1).getD default) (by kernel_rfl) (by kernel_rfl) (by decide +kernel) (by kernel_rfl)
theorem yIA : ∀ (H : Hp) (x : D), zAM Tryz.prog H 28 x 2 = faD H x 2 := zCf (n := (szT Tryz.prog ((zAQ Tryz.prog 28 2).map (·.type)|>.getD 0)).getD 0) (fl := (zAQ Tryz.prog 28 2).getD default) (by kernel_rfl) (by kernel_rfl) (by decide +kernel) (by kernel_rfl)
theorem yIz : ∀ (H : Hp) (x : D), zAM Tryz.prog H 28 x 3 = faD H x 3 := zCf (n := (szT Tryz.prog ((zAQ Tryz.prog 28 3).map (·.type)|>.getD 0)).getD 0) (fl := (zAQ Tryz.prog 28 3).getD default) (by kernel_rfl) (by kernel_rfl) (by decide +kernel) (by kernel_rfl)
theorem yIy : ∀ (H : Hp) (x : D), zAM Tryz.prog H 28 x 4 = faD H x 4 := zCf (n := (szT Tryz.prog ((zAQ Tryz.prog 28 4).map (·.type)|>.getD 0)).getD 0) (fl := (zAQ Tryz.prog 28 4).getD default) (by kernel_rfl) (by kernel_rfl) (by decide +kernel) (by kernel_rfl)
theorem bd53 : ∀ (parts : List (Nat × D)), zDm Tryz.prog 53 parts = (zEG (fun i => ([(0, 1), (1, 1), (2, 1), (3, 13)] : List (Nat × Nat))[i]?) [.st [], .it .i64 0, .it .i64 0, .bo false, .it .u64 0, .it .u64 0, .st [], .st [], .st [], .it .i64 0, .it .i64 0, .it .i64 0, .it .i64 0, .it .i64 0, .it .i64 0, .it .u64 0] parts).map .agg := zNG yAv Tryz.underlying53 (by kernel_rfl)
theorem bd51 : ∀ (parts : List (Nat × D)), zDm Tryz.prog 51 parts = (zEG (fun i => ([(0, 3), (3, 1), (4, 1), (5, 1), (6, 1), (7, 1), (8, 1), (9, 1), (10, 1), (11, 1), (12, 1)] : List (Nat × Nat))[i]?) [.bo false, .it .u64 0, .it .u64 0, .st [], .st [], .st [], .it .i64 0, .it .i64 0, .it .i64 0, .it .i64 0, .it .i64 0, .it .i64 0, .it .u64 0] parts).map .agg := zNG yAw Tryz.underlying51 (by kernel_rfl)
theorem bd49 : ∀ (parts : List (Nat × D)), zDm Tryz.prog 49 parts = (zEG (fun i => ([(0, 1), (1, 1), (2, 1)] : List (Nat × Nat))[i]?) [.bo false, .it .u64 0, .it .u64 0] parts).map .agg := zNG yAx Tryz.underlying49 (by kernel_rfl)
theorem bd24 : ∀ (parts : List (Nat × D)), zDm Tryz.prog 24 parts = (zEG (fun i => ([(0, 1), (1, 1)] : List (Nat × Nat))[i]?) [.st [], .vec 16 false []] parts).map .agg := zNG yAz Tryz.underlying24 (by kernel_rfl)
theorem bd28 : ∀ (parts : List (Nat × D)), zDm Tryz.prog 28 parts = (zEG (fun i => ([(0, 1), (1, 1), (2, 1), (3, 1), (4, 1)] : List (Nat × Nat))[i]?) [.st [], .it .i64 0, .it .i64 0, .vec 16 false [], .vec 16 false []] parts).map .agg := zNG yAy Tryz.underlying28 (by kernel_rfl)
set_option linter.defProp false in
def cF := tAa @sz53 (tAa @zWl (tAa @Tryz.underlying52 (tAa @Tryz.underlying53 (tAa @sz51 (tAa @zWm (tAa @Tryz.underlying50 (tAa @Tryz.underlying51 (tAa @sz49 (tAa @zWn (tAa @Tryz.underlying48 (tAa @Tryz.underlying49 (tAa @sz24 (tAa @zWr (tAa @Tryz.underlying24 (tAa @Tryz.underlying23 (tAa @sz28 (tAa @zWq (tAa @Tryz.underlying27 (tAa @Tryz.underlying28 (tAa @sz3 (tAa @agg3 (tAa @Tryz.underlying3 (tAa @sz4 (tAa @agg4 (tAa @Tryz.underlying4 (tAa @sz9 (tAa @agg9 (tAa @Tryz.underlying9 (tAa @sz5 (tAa @agg5 (tAa @Tryz.underlying5 (tAa @sz47 (tAa @zWo (tAa @Tryz.underlying47 (tAa @sz90 (tAa @zWi (tAa @Tryz.underlying90 (tAa @sz98 (tAa @zWh (tAa @Tryz.underlying98 (tAa @sz29 (tAa @zWp (tAa @Tryz.underlying29 (tAa @sz22 (tAa @zWs (tAa @Tryz.underlying22 (tAa @sz79 (tAa @zWj (tAa @Tryz.underlying79 (tAa @zSw (tAa @zMd (tAa @Tryz.underlying111 (tAa @zSv (tAa @zMc (tAa @Tryz.underlying149 (tAa @sz60 (tAa @zWk (tAa @Tryz.underlying60 (tAa @yAx (tAa @yAw (tAa @yAv (tAa @yAz (tAa @yAy (tAa @el22 (tAa @ap22 (tAa @ze22 (tAa @yKu (tAa @yKx (tAa @yHw (tAa @yHz (tAa @yGG (tAa @yJ4 (tAa @yJG (tAa @yJJ (tAa @yJM (tAa @yJX (tAa @yGJ (tAa @yJ1 (tAa @el79 (tAa @ap79 (tAa @ze79 (tAa @yKs (tAa @yKv (tAa @yHu (tAa @yHx (tAa @yGE (tAa @yJ2 (tAa @yJE (tAa @yJH (tAa @yJK (tAa @yJV (tAa @yGH (tAa @yEk (tAa @yIO (tAa @yFy (tAa @yGc (tAa @yJg (tAa @yJj (tAa @yEc (tAa @yEe (tAa @yCA (tAa @yHI (tAa @yGQ (tAa @yGS (tAa @yGV (tAa @yHr (tAa @yCC (tAa @yHE (tAa @yEW (tAa @yFx (tAa @yBX (tAa @yJf (tAa @yJi (tAa @yEb (tAa @yEd (tAa @yCz (tAa @yHH (tAa @yGP (tAa @yAG (tAa @yGU (tAa @yHq (tAa @yCB (tAa @yHD (tAa @el60 (tAa @ap60 (tAa @ze60 (tAa @yKt (tAa @yKw (tAa @yHv (tAa @yHy (tAa @yGF (tAa @yJ3 (tAa @yJF (tAa @yJI (tAa @yJL (tAa @yJW (tAa @yGI (tAa @yJ0 (tAa @yHV (tAa @yHU (tAa @yHT (tAa @yHS (tAa @yH5 (tAa @yH4 (tAa @yH3 (tAa @yH2 (tAa @yH1 (tAa @yH0 (tAa @yHZ (tAa @yHY (tAa @yHX (tAa @yHW (tAa @yEG (tAa @yH8 (tAa @yH7 (tAa @yH6 (tAa @yIf (tAa @yIe (tAa @yId (tAa @yIc (tAa @yIb (tAa @yIa (tAa @yH9 (tAa @yIk (tAa @yIj (tAa @yIi (tAa @yIh (tAa @yIu (tAa @yIt (tAa @yIs (tAa @yIr (tAa @yIq (tAa @yIp (tAa @yIo (tAa @yIn (tAa @yIm (tAa @yIl (tAa @yEK (tAa @yIx (tAa @yIw (tAa @yIv (tAa @yIE (tAa @yID (tAa @yIC (tAa @yIB (tAa @yIA (tAa @yIz (tAa @yIy (tAa @bd53 (tAa @bd51 (tAa @bd49 (tAa @bd24 (@bd28)))))))))))))))))))))))))))))))))))))))))))))))))))))))))))))))))))))))))))))))))))))))))))))))))))))))))))))))))))))))))))))))))))))))))))))))))))))))))))))))))))))))))))))))))))))))))))))))))
theorem zU6 : Tryz.prog.stoodInHeld 49 = false := by kernel_rfl
theorem yIJ : Tryz.prog.eqGuardType Tryz.prog.depth 49 = false := by kernel_rfl
theorem yIL (n : Nat) (a b : Adr) : eqD Tryz.prog (n + 8) 49 (.agg (adrL a)) (.agg (adrL b)) = some (decide (a = b)) := by
 obtain ⟨v, i, o⟩ := a
 obtain ⟨v', i', o'⟩ := b
 simp only [zCs Tryz.underlying49 zU6, zKa, zJ9, zHe, zJ8, zHd, ne_eq, Tryz.underlying52, Tryz.underlying53, Tryz.underlying50, Tryz.underlying51, Tryz.underlying48, Tryz.underlying49, Tryz.underlying24, Tryz.underlying23, Tryz.underlying27, Tryz.underlying28, Tryz.underlying3, Tryz.underlying4, Tryz.underlying9, Tryz.underlying5, Tryz.underlying47, Tryz.underlying90, Tryz.underlying98, Tryz.underlying29, Tryz.underlying22, Tryz.underlying79, Tryz.underlying111, Tryz.underlying149, Tryz.underlying60, sz53, zWl, sz51, zWm, sz49, zWn, sz24, zWr, sz28, zWq, sz3, agg3, sz4, agg4, sz9, agg9, sz5, agg5, sz47, zWo, sz90, zWi, sz98, zWh, sz29, zWp, sz22, zWs, sz79, zWj, zSw, zMd, zSv, zMc, sz60, zWk, zAx, adrL, tAg, tAF, if_true, if_false, tAf, tBv, tBN, tBs, tCb, tAV, tAt, tAp, tAu, Nat.reduceAdd, Nat.reduceLeDiff, String.reduceEq, not_false_eq_true, Nat.reduceEqDiff]
 rw [tAb, tBm]
 simp only [tAd, beq_iff_eq, decide_eq_true_eq, Rec.mk.injEq, Dat.mk.injEq, Adr.mk.injEq, and_true, and_assoc]
theorem zAL (a b : Adr) : binD Tryz.prog .eql 49 (adrE a) (adrE b) = some (.bo (decide (a = b))) := zKq rfl rfl yIJ (yIL 4 a b)
theorem zAH (a b : Adr) : binD Tryz.prog .neq 49 (adrE a) (adrE b) = some (.bo (!decide (a = b))) := zNE rfl rfl yIJ (yIL 4 a b)
theorem yBH : Tryz.prog.stoodInHeld 51 = false := by kernel_rfl
theorem yII : Tryz.prog.eqGuardType Tryz.prog.depth 51 = false := by kernel_rfl
theorem yIK (n : Nat) (a b : Dat) : eqD Tryz.prog (n + 8) 51 (.agg (datL a)) (.agg (datL b)) = some (decide (a = b)) := by
 obtain ⟨⟨v, i, o⟩, h, m, x, a1, a2, a3, a4, a5, a6, g⟩ := a
 obtain ⟨⟨v', i', o'⟩, h', m', x', b1, b2, b3, b4, b5, b6, g'⟩ := b
 simp only [zCs Tryz.underlying51 yBH, zCs Tryz.underlying49 zU6, zKa, zJ9, zHe, zJ8, zHd, ne_eq, Tryz.underlying52, Tryz.underlying53, Tryz.underlying50, Tryz.underlying51, Tryz.underlying48, Tryz.underlying49, Tryz.underlying24, Tryz.underlying23, Tryz.underlying27, Tryz.underlying28, Tryz.underlying3, Tryz.underlying4, Tryz.underlying9, Tryz.underlying5, Tryz.underlying47, Tryz.underlying90, Tryz.underlying98, Tryz.underlying29, Tryz.underlying22, Tryz.underlying79, Tryz.underlying111, Tryz.underlying149, Tryz.underlying60, sz53, zWl, sz51, zWm, sz49, zWn, sz24, zWr, sz28, zWq, sz3, agg3, sz4, agg4, sz9, agg9, sz5, agg5, sz47, zWo, sz90, zWi, sz98, zWh, sz29, zWp, sz22, zWs, sz79, zWj, zSw, zMd, zSv, zMc, sz60, zWk, zAx, datL, tAg, tAF, if_true, if_false, tAf, tBv, tBN, tBs, tCb, tAV, tAt, tAp, tAu, Nat.reduceAdd, Nat.reduceLeDiff, String.reduceEq, not_false_eq_true, Nat.reduceEqDiff]
 rw [tAb, tBm]
 simp only [tAd, beq_iff_eq, decide_eq_true_eq, Rec.mk.injEq, Dat.mk.injEq, Adr.mk.injEq, and_true, and_assoc]
theorem zAK (a b : Dat) : binD Tryz.prog .eql 51 (datE a) (datE b) = some (.bo (decide (a = b))) := zKq rfl rfl yII (yIK 4 a b)
theorem zAG (a b : Dat) : binD Tryz.prog .neq 51 (datE a) (datE b) = some (.bo (!decide (a = b))) := zNE rfl rfl yII (yIK 4 a b)
theorem yHM : Tryz.prog.stoodInHeld 53 = false := by kernel_rfl
theorem yIH : Tryz.prog.eqGuardType Tryz.prog.depth 53 = false := by kernel_rfl
theorem zZj (n : Nat) (a b : Rec) : eqD Tryz.prog (n + 8) 53 (.agg (recL a)) (.agg (recL b)) = some (decide (a = b)) := by
 obtain ⟨nn, tt, ll, ⟨⟨v, i, o⟩, h, m, x, a1, a2, a3, a4, a5, a6, g⟩⟩ := a
 obtain ⟨nn', tt', ll', ⟨⟨v', i', o'⟩, h', m', x', b1, b2, b3, b4, b5, b6, g'⟩⟩ := b
 simp only [zCs Tryz.underlying53 yHM, zCs Tryz.underlying49 zU6, zCs Tryz.underlying51 yBH, zKa, zJ9, zHe, zJ8, zHd, ne_eq, Tryz.underlying52, Tryz.underlying53, Tryz.underlying50, Tryz.underlying51, Tryz.underlying48, Tryz.underlying49, Tryz.underlying24, Tryz.underlying23, Tryz.underlying27, Tryz.underlying28, Tryz.underlying3, Tryz.underlying4, Tryz.underlying9, Tryz.underlying5, Tryz.underlying47, Tryz.underlying90, Tryz.underlying98, Tryz.underlying29, Tryz.underlying22, Tryz.underlying79, Tryz.underlying111, Tryz.underlying149, Tryz.underlying60, sz53, zWl, sz51, zWm, sz49, zWn, sz24, zWr, sz28, zWq, sz3, agg3, sz4, agg4, sz9, agg9, sz5, agg5, sz47, zWo, sz90, zWi, sz98, zWh, sz29, zWp, sz22, zWs, sz79, zWj, zSw, zMd, zSv, zMc, sz60, zWk, zAx, recL, tAg, tAF, if_true, if_false, tAf, tBv, tBN, tBs, tCb, tAV, tAt, tAp, tAu, Nat.reduceAdd, Nat.reduceLeDiff, String.reduceEq, not_false_eq_true, Nat.reduceEqDiff]
 rw [tAb, tBm]
 simp only [tAd, beq_iff_eq, decide_eq_true_eq, Rec.mk.injEq, Dat.mk.injEq, Adr.mk.injEq, and_true, and_assoc]
theorem zAJ (a b : Rec) : binD Tryz.prog .eql 53 (recE a) (recE b) = some (.bo (decide (a = b))) := zKq rfl rfl yIH (zZj 4 a b)
theorem zAF (a b : Rec) : binD Tryz.prog .neq 53 (recE a) (recE b) = some (.bo (!decide (a = b))) := zNE rfl rfl yIH (zZj 4 a b)
def okc (c : UInt8) : Bool := (97 ≤ c && c ≤ 122) || (48 ≤ c && c ≤ 57) || c == 45 || c == 95
theorem zJD (c : UInt8) : okc c = true ↔ (97 ≤ (c.toNat : Int) ∧ (c.toNat : Int) ≤ 122) ∨ (48 ≤ (c.toNat : Int) ∧ (c.toNat : Int) ≤ 57) ∨ (c.toNat : Int) = 45 ∨ (c.toNat : Int) = 95 := by
 have h1 : c = 45 ↔ c.toNat = 45 := by rw [← tBF]; rfl
 have h2 : c = 95 ↔ c.toNat = 95 := by rw [← tBF]; rfl
 simp only [okc, tAK, tAd, decide_eq_true_eq, beq_iff_eq, UInt8.le_iff_toNat_le, h1, h2]
 have e1 : (97 : UInt8).toNat = 97 := rfl
 have e2 : (122 : UInt8).toNat = 122 := rfl
 have e3 : (48 : UInt8).toNat = 48 := rfl
 have e4 : (57 : UInt8).toNat = 57 := rfl
 rw [e1, e2, e3, e4]
 omega
def zED (s : List UInt8) : Bool := s == [42] || (decide (1 ≤ s.length) && decide (s.length ≤ 63) && s.all okc)
theorem zYL {s : List UInt8} {i : Nat} (h : (i : Int) < s.length) (hn : ¬ okc s[i]! = true) (h42 : (s == [42]) = false) : zED s = false := by
 have : s.all okc = false := by
   cases ha : s.all okc with
   | false => rfl
   | true => exact absurd (tAw.1 ha _ (zBu h)) hn
 simp [zED, h42, this]
def zBb : List UInt8 → List UInt8 → Bool → Option (List (List UInt8))
 | [], _, _ => some []
 | c :: r, cur, b => if c = 46 then (if zED cur && (!(cur == [42]) || b) then (zBb r [] false).map (cur :: ·) else none) else zBb r (cur ++ [c]) b
def labs (n : List UInt8) : Option (List (List UInt8)) :=
 if n = [46] then some [] else if n.length < 2 ∨ 254 < n.length ∨ n.getLastD 0 ≠ 46 then none else zBb n [] true
def vName (n : List UInt8) : Bool := (labs n).isSome

noncomputable def zP3 := mkF (fun s : (List UInt8) => [.st s]) (fun s => Sm s) (fun s => Res.flat (.bo (zED s)))
theorem zWy {s1 : List UInt8} (hp : Sm s1) : zP3 [.st s1] = some (Res.flat (.bo (zED s1))) := mkFe (s := (s1)) hp
theorem zOG (cx : Cx) (hP : cx.P = Tryz.prog) (hbs : cx.bs = 0) (hk6 : cx.kp 6 = some [0, 3]) (s1 : List UInt8) (hl : Sm s1) : zAg cx Tryz.f127 [] false [.st s1] = some (Res.flat (.bo (zED s1))) := by
 have hw := zBF hl
 refine zAf (rs := [.tmp 2]) rfl hbs rfl ?_
 repeat' first
   | (refine zAU (σ := Nat) (fun s6 => [.st s1, .it .i64 s6]) (fun s6 => s6 ≤ s1.length ∧ (s1.take s6).all okc = true) (fun s6 => s1.length - s6) [0, 3] hbs (by exact hk6) (fun s6 => by simp only [zAp, refs, zAZ, zA0, zA5, tAo]) (fun s6 j6 => ?_) (s := 0) ?_ ?_)
   | (refine bN (fun h => ?_) fun h => ?_)
   | (refine zAI ?_ ?_)
   | simp only [↓cD, cU, cQ, cP, cB, zAD, unD, zAe, zAd, idx, reduceCtorEq, ↓reduceIte, ofV, ofC, zAq, Nat.reduceEqDiff, zAB, cG, implies_true, forall_const, immL, immD, Res.flat, ren, renL, Int.reduceEq, Int.reduceLT, Int.reduceLE, Int.reduceNe, deref, ldD, zAA, zAh, zAC, zAs, cC, ↓zAH, ↓zAL, ↓zAG, ↓zAK, ↓zAF, ↓zAJ, cV, cT, cF, cW, borT, borM, zAl, Res.via, zAt, zAb, refsB, Nat.reduceLT, Nat.reduceSub, Nat.reduceLeDiff, Nat.reduceMul, Nat.reduceAdd, Int.reduceToNat, appK, zAr, zAc, borL, zAj, zAm, zAz, cO, List.replicate, zAx, ofHp, ixOf, lens Tryz.underlying9, ixs Tryz.underlying9, hw, hP, *]
 all_goals first
   | rfl
   | exact ⟨tAL _, rfl⟩
   | (refine ⟨_, rfl, ⟨by omega, ?_⟩, by omega⟩; rw [zCj (by omega), j6.2, tAR]; exact (zJD _).2 (by omega))
   | (rw [zYL (i := s6) (by omega) (by rw [zJD]; omega) ‹_›]; done)
   | (rw [zAS (by omega)] at j6; simp [zED, j6.2]; omega)
   | (simp [zED]; omega)
   | (simp_all [zED]; done)
   | (simp only [zED, ‹(s1 == [42]) = false›, tBg]; simp; omega)
   | (simp only [zED, ‹(s1 == [42]) = true›, Bool.true_or]; done)
noncomputable def zIw := mkF (fun s : (List UInt8) => [.st s]) (fun s => Sm s) (fun s => Res.rowd 1 (((labs s).getD []).map D.st) [.bo (labs s).isSome])
theorem zF4 {s1 : List UInt8} (hp : Sm s1) : zIw [.st s1] = some (Res.rowd 1 (((labs s1).getD []).map D.st) [.bo (labs s1).isSome]) := mkFe (s := (s1)) hp
theorem zGv {c : UInt8} {r cur : List UInt8} {b : Bool} (h : (c.toNat : Int) = 46) : zBb (c :: r) cur b = if zED cur && (!(cur == [42]) || b) then (zBb r [] false).map (cur :: ·) else none := by
 have : c = 46 := by rw [← tBF]; have : (46 : UInt8).toNat = 46 := rfl; omega
 simp only [zBb, this, if_true]
theorem zU8 {c : UInt8} {r cur : List UInt8} {b : Bool} (h : ¬ (c.toNat : Int) = 46) : zBb (c :: r) cur b = zBb r (cur ++ [c]) b := by
 have : ¬ c = 46 := fun e => h (by rw [e]; rfl)
 simp only [zBb, this, if_false]
theorem zYD {s : List UInt8} (h : ¬ s = [46]) (h2 : (s.length : Int) < 2 ∨ 254 < (s.length : Int) ∨ ¬ ((s.getLastD 0).toNat : Int) = 46) : labs s = none := by
 unfold labs
 rw [if_neg h, if_pos]
 rcases h2 with h2 | h2 | h2
 · exact .inl (by omega)
 · exact .inr (.inl (by omega))
 · refine .inr (.inr fun e => h2 ?_)
   rw [e]; rfl
theorem zUw {s : List UInt8} (h : ¬ s = [46]) (h1 : ¬ (s.length : Int) < 2) (h2 : ¬ 254 < (s.length : Int)) (h3 : ((s.getLastD 0).toNat : Int) = 46) : labs s = zBb s [] true := by
 unfold labs
 rw [if_neg h, if_neg]
 rintro (h4 | h4 | h4)
 · omega
 · omega
 · refine h4 ?_
   rw [← tBF]
   have : (46 : UInt8).toNat = 46 := rfl
   omega
theorem zYC : labs [46] = some [] := rfl
def zGO (s : List UInt8) (a i : Nat) : List UInt8 := (s.take i).drop a
theorem zRM {s : List UInt8} {a i : Nat} (h : (i : Int) < s.length) (ha : a ≤ i) : zGO s a (i + 1) = zGO s a i ++ [s[i]!] := by
 unfold zGO
 rw [takeN h, List.drop_append_of_le_length (by rw [tAk]; omega)]
theorem zGC {s : List UInt8} {i : Nat} : zGO s i i = [] := by unfold zGO; apply List.drop_eq_nil_of_le; rw [tAk]; omega
theorem zZu {s : List UInt8} {a i : Nat} (h : Sm s) : Sm (zGO s a i) := by
 have : (zGO s a i).length ≤ s.length := by unfold zGO; simp only [tAx, tAk]; omega
 simp only [Sm] at *; omega
theorem yEh {s : List UInt8} (h : 2 ≤ s.length) : s[((s.length : Int) - 1).toNat]! = s.getLastD 0 := by
 have : ((s.length : Int) - 1).toNat = s.length - 1 := by omega
 rw [this, getElem!_pos s (s.length - 1) (by omega), ← List.getLast_eq_getElem (by intro e; rw [e] at h; simp at h)]
 cases s with
 | nil => simp at h
 | cons a r => rw [List.getLastD_cons, List.getLast_eq_getLastD]

theorem zOo (cx : Cx) (hP : cx.P = Tryz.prog) (hbs : cx.bs = 0) (h127 : cx.orc 127 = some zP3) (hk8 : cx.kp 8 = some [0, 4, 5, 6]) (s1 : List UInt8) (hl : Sm s1) : zAg cx Tryz.f99 [0] false [.st s1] = some (Res.rowd 1 (((labs s1).getD []).map D.st) [.bo (labs s1).isSome]) := by
 have c127 := zAa h127
 have hw := zBF hl
 have hsl : ∀ (H : Hp) (a i : Nat), a ≤ i → i ≤ s1.length → zAW Tryz.prog H 9 (.st s1) (some (.it .i64 (a : Int))) (some (.it .i64 (i : Int))) none = some (.st (zGO s1 a i)) := fun H a i h h' => zHL Tryz.underlying9 (zZF h h')
 have hix : ¬ (s1.length : Int) < 2 → zDL Tryz.prog 9 (.st s1) (.it .i64 (IntKind.i64.wrap ((s1.length : Int) - 1))) = some (.it .u8 ((s1.getLastD 0).toNat : Int)) := fun h => by rw [wrap64 (by omega) (by omega), ixsN Tryz.underlying9 (by omega) (by omega), yEh (by omega)]
 refine zTZ (rs := [.tmp 2, .tmp 3]) rfl hbs rfl ?_
 repeat' first
   | (refine zAv (σ := Nat × Nat × List (List UInt8)) (fun q => [.st s1, .own 0 0 q.2.2.length, .it .i64 q.2.1, .it .i64 q.1]) (fun q => [.row 1 true (q.2.2.map D.st)]) (fun q => q.1 ≤ s1.length ∧ q.2.1 ≤ q.1 ∧ q.2.2.length ≤ q.1 ∧ (zBb (s1.drop q.1) (zGO s1 q.2.1 q.1) (decide (q.2.1 = 0))).map (q.2.2 ++ ·) = zBb s1 [] true) (fun q => s1.length - q.1) [0, 4, 5, 6] hbs (by exact hk8) (fr1 fun _ => zA2 (fun _ => rfl)) (fun q jq => ?_) (s := (0, 0, [])) [1] ?_ ?_ ?_ ?_ ?_)
   | (refine bN (fun h => ?_) fun h => ?_)
   | (refine zAI ?_ ?_)
   | simp only [↓cD, cU, cQ, cP, cB, zAD, unD, zAe, zAd, idx, reduceCtorEq, ↓reduceIte, ofV, ofC, zAq, Nat.reduceEqDiff, zAB, cG, implies_true, forall_const, immL, immD, Res.flat, ren, renL, Int.reduceEq, Int.reduceLT, Int.reduceLE, Int.reduceNe, deref, ldD, zAA, zAh, zAC, zAs, cC, c127, zAi, zAk, zWy, ↓zAH, ↓zAL, ↓zAG, ↓zAK, ↓zAF, ↓zAJ, cV, cT, cF, cW, borT, borM, zAl, Res.via, zAt, zAb, refsB, Nat.reduceLT, Nat.reduceSub, Nat.reduceLeDiff, Nat.reduceMul, Nat.reduceAdd, Int.reduceToNat, appK, zAr, zAc, borL, zAj, zAm, zAz, cO, List.replicate, zAx, ofHp, ixOf, lens Tryz.underlying9, ixs Tryz.underlying9, hw, hsl, hix, zZu hl, beq_iff_eq, Int.natCast_pos, hP, *]
 all_goals first
   | exact ⟨by omega, by omega⟩
   | omega
   | (refine ⟨_, _, _, _, _, _, rfl, rfl, rfl, rfl, rfl, ?_⟩; simp only [zYC]; rfl)
   | (refine ⟨_, _, _, _, _, _, rfl, rfl, rfl, rfl, rfl, ?_⟩; rw [zYD ‹_› (by omega)]; rfl)
   | (refine ⟨_, _, _, _, _, _, rfl, rfl, rfl, rfl, rfl, ?_⟩; rw [zUw ‹_› ‹_› ‹_› ‹_›, ← jq.2.2.2, drop_at (zs := s1) (i := q.1) (by omega), zGv ‹_›, if_neg (by simp only [tAd, tAK, not_and, not_or, *]; simp; try omega)]; rfl)
   | (refine ⟨_, _, _, _, _, _, rfl, rfl, by simp, rfl, zBJ (fun _ => rfl), ?_⟩; rw [zUw ‹_› ‹_› ‹_› ‹_›, ← jq.2.2.2, zBE (zs := s1) (i := q.1) (by omega)]; simp only [zBb, tAF, tAo]; rfl)
   | (refine ⟨[0], (q.1 + 1, q.2.1, q.2.2), ?_, ?_, ?_, ?_, ⟨by simp only; omega, by simp only; omega, by simp only; omega, ?_⟩, by simp only; omega⟩; rotate_left 4; (rw [← jq.2.2.2, drop_at (zs := s1) (i := q.1) (by omega), zU8 ‹_›, zRM (by omega) jq.2.1]); all_goals (first | rfl | (simp only [zAp, refs, ren, cR, Nat.reduceEqDiff, ofHp, ixOf]; first | rfl | (simp; done))))
   | (refine ⟨[2], (q.1 + 1, q.1 + 1, q.2.2 ++ [zGO s1 q.2.1 q.1]), rfl, rfl, ?_, ?_, ⟨by simp only; omega, by simp only; omega, by simp only [tAh, tAp, tAu]; omega, ?_⟩, by simp only; omega⟩; rotate_left 2; (rw [← jq.2.2.2, drop_at (zs := s1) (i := q.1) (by omega), zGv ‹_›, if_pos (by simp only [tAd, tAK, *]; simp; exact .inl ‹_›)]; simp only [zGC, Nat.add_eq_zero_iff, Nat.one_ne_zero, and_false, decide_false]; cases zBb (List.drop (q.1 + 1) s1) [] false <;> simp); all_goals (first | rfl | (simp only [zAp, refs, ren, cR, Nat.reduceEqDiff, ofHp, ixOf]; first | rfl | (simp; done))))
   | (refine ⟨[2], (q.1 + 1, q.1 + 1, q.2.2 ++ [[42]]), rfl, rfl, ?_, ?_, ⟨by simp only; omega, by simp only; omega, by simp only [tAh, tAp, tAu]; omega, ?_⟩, by simp only; omega⟩; rotate_left 2; (rw [← jq.2.2.2, drop_at (zs := s1) (i := q.1) (by omega), zGv ‹_›, ‹zGO s1 q.2.1 q.1 = [42]›, if_pos (by have e : q.2.1 = 0 := (by omega); rw [e]; rfl)]; simp only [zGC, Nat.add_eq_zero_iff, Nat.one_ne_zero, and_false, decide_false]; cases zBb (List.drop (q.1 + 1) s1) [] false <;> simp); all_goals (first | rfl | (simp only [zAp, refs, ren, cR, Nat.reduceEqDiff, ofHp, ixOf]; first | rfl | (simp; done))))
   | exact ⟨tAL _, by rw [zGC]; simp⟩
   | (first | rfl | (simp only [zAp, refs, ren, cR, Nat.reduceEqDiff, ofHp, ixOf]; first | rfl | (simp; done)))
def cpre : List (List UInt8) → List (List UInt8) → Nat
 | x :: xs, y :: ys => if x = y then cpre xs ys + 1 else 0
 | _, _ => 0
def zCD (a b : List (List UInt8)) : Nat := cpre a.reverse b.reverse
def zA9 (a b : List UInt8) : Int := if Op.bytesLess a b then -1 else if (Op.bytesLess a b || a == b) then 0 else 1
theorem zNs : ∀ (a b : List (List UInt8)), cpre a b ≤ a.length ∧ cpre a b ≤ b.length
 | [], b => by simp [cpre]
 | x :: xs, [] => by simp [cpre]
 | x :: xs, y :: ys => by
   have := zNs xs ys
   simp only [cpre]
   split
   · simp; omega
   · simp
theorem zGt : ∀ (r cur : List UInt8) (b : Bool) (l : List (List UInt8)), zBb r cur b = some l → l.length ≤ r.length
 | [], _, _, l, h => by simp [zBb] at h; subst h; simp
 | c :: r, cur, b, l, h => by
   simp only [zBb] at h
   split at h
   · split at h
     · rw [tAe] at h
       obtain ⟨m, hm, rfl⟩ := h
       have := zGt r [] false m hm
       simp; omega
     · cases h
   · have := zGt r _ b l h
     simp; omega
theorem zC7 (n : List UInt8) : ((labs n).getD []).length ≤ 254 := by
 unfold labs
 split
 · simp
 · split
   · simp
   · rename_i h
     cases hg : zBb n [] true with
     | none => simp
     | some l => have := zGt n [] true l hg; simp; omega
noncomputable def zWJ := mkF (fun s : (List (List UInt8)) × (List (List UInt8)) => [zGN s.1, zGN s.2]) (fun s => Sm s.1 ∧ Sm s.2) (fun s => Res.flat (.it .i64 (zCD s.1 s.2 : Int)))
theorem zQd {a : List (List UInt8)} {b : List (List UInt8)} (hp : Sm a ∧ Sm b) : zWJ [zGN a, zGN b] = some (Res.flat (.it .i64 (zCD a b : Int))) := mkFe (s := (a, b)) hp
theorem zLV {a b : List (List UInt8)} {k : Nat} (ha : (k : Int) < a.length) (hb : (k : Int) < b.length) : cpre (a.reverse.drop k) (b.reverse.drop k) = if a.reverse[k]! = b.reverse[k]! then cpre (a.reverse.drop (k + 1)) (b.reverse.drop (k + 1)) + 1 else 0 := by
 rw [drop_at (zs := a.reverse) (i := k) (by simpa using ha), drop_at (zs := b.reverse) (i := k) (by simpa using hb)]
 simp only [cpre]
theorem zZv {a b : List (List UInt8)} {k : Nat} (h : ¬ ((k : Int) < a.length) ∨ ¬ ((k : Int) < b.length)) : cpre (a.reverse.drop k) (b.reverse.drop k) = 0 := by
 rcases h with h | h
 · rw [zBE (zs := a.reverse) (by simpa using h)]; simp [cpre]
 · rw [zBE (zs := b.reverse) (by simpa using h)]; cases List.drop k a.reverse <;> simp [cpre]

theorem zS0 (cx : Cx) (hP : cx.P = Tryz.prog) (hbs : cx.bs = 0) (hk2 : cx.kp 2 = some [0, 1, 5]) (a b : List (List UInt8)) (hl : Sm a ∧ Sm b) : zAg cx Tryz.f104 [] false [zGN a, zGN b] = some (Res.flat (.it .i64 (zCD a b : Int))) := by
 have ha := hl.1; have hb := hl.2; simp only [Sm] at ha hb; clear hl
 have hxa : ∀ (H : Hp) (k : Nat), (k : Int) < a.length → zAP Tryz.prog H 79 (zGN a) (.it .i64 (IntKind.i64.wrap (IntKind.i64.wrap ((a.length : Int) - 1) - (k : Int)))) = some (.elt [.st a.reverse[k]!]) := fun H k h => by
   have e : IntKind.i64.wrap (IntKind.i64.wrap ((a.length : Int) - 1) - (k : Int)) = ((a.length - 1 - k : Nat) : Int) := by rw [wrap64 (n := (a.length : Int) - 1) (by omega) (by omega), wrap64 (by omega) (by omega)]; omega
   rw [e, yEk _ _ _ _ _ (by omega), rev_at (by omega)]; rfl
 have hxb : ∀ (H : Hp) (k : Nat), (k : Int) < b.length → zAP Tryz.prog H 79 (zGN b) (.it .i64 (IntKind.i64.wrap (IntKind.i64.wrap ((b.length : Int) - 1) - (k : Int)))) = some (.elt [.st b.reverse[k]!]) := fun H k h => by
   have e : IntKind.i64.wrap (IntKind.i64.wrap ((b.length : Int) - 1) - (k : Int)) = ((b.length - 1 - k : Nat) : Int) := by rw [wrap64 (n := (b.length : Int) - 1) (by omega) (by omega), wrap64 (by omega) (by omega)]; omega
   rw [e, yEk _ _ _ _ _ (by omega), rev_at (by omega)]; rfl
 have hw : ∀ k : Nat, (k : Int) < a.length → IntKind.i64.wrap ((k : Int) + 1) = ((k + 1 : Nat) : Int) := zBF ha
 refine zAf (rs := [.tmp 4]) rfl hbs rfl ?_
 repeat' first
   | (refine zAU (σ := Nat) (fun s2 => [zGN a, zGN b, .it .i64 s2]) (fun s2 => s2 ≤ a.length ∧ s2 + cpre (a.reverse.drop s2) (b.reverse.drop s2) = zCD a b) (fun s2 => a.length - s2) [0, 1, 5] hbs (by exact hk2) (fun s2 => by simp only [zAp, refs, zAZ, zA0, zA5, tAo]) (fun s2 j2 => ?_) (s := 0) ?_ ?_)
   | (refine bN (fun h => ?_) fun h => ?_)
   | (refine zAI ?_ ?_)
   | simp only [↓cD, cU, cQ, cP, cB, zAD, unD, zAe, zAd, idx, reduceCtorEq, ↓reduceIte, ofV, ofC, zAq, Nat.reduceEqDiff, zAB, cG, implies_true, forall_const, immL, immD, Res.flat, ren, renL, Int.reduceEq, Int.reduceLT, Int.reduceLE, Int.reduceNe, deref, ldD, zAA, zAh, zAC, zAs, cC, cS, refs, zAy, okId, tAs, tAq, Nat.reduceMul, Nat.reduceAdd, Nat.reduceLeDiff, zAp, ↓zAH, ↓zAL, ↓zAG, ↓zAK, ↓zAF, ↓zAJ, cV, cT, cF, cW, borT, borM, zAl, Res.via, zAt, zAb, refsB, Nat.reduceLT, Nat.reduceSub, Nat.reduceLeDiff, Nat.reduceMul, Nat.reduceAdd, Int.reduceToNat, appK, zAr, zAc, borL, zAj, zAm, zAz, cO, List.replicate, zAx, ofHp, ixOf, cS, refs, zAy, okId, tAs, tAq, Nat.reduceMul, Nat.reduceAdd, Nat.reduceLeDiff, zAp, hxa, hxb, hw, hP, *]
 all_goals first
   | rfl
   | exact ⟨tAL _, by simp [zCD]⟩
   | (refine ⟨_, rfl, ⟨by omega, ?_⟩, by omega⟩; rw [zLV (by omega) (by omega), if_pos (beq_iff_eq.1 ‹_›)] at j2; omega)
   | (rw [zZv (by omega)] at j2; rw [← j2.2]; rfl)
   | (rw [zLV (by omega) (by omega), if_neg (beq_eq_false_iff_ne.1 ‹_›)] at j2; rw [← j2.2]; rfl)

noncomputable def zZV := mkF (fun s : (List UInt8) × (List UInt8) => [.st s.1, .st s.2]) (fun s => True) (fun s => Res.flat (.it .i64 (zA9 s.1 s.2)))
theorem zZU {s1 : List UInt8} {s2 : List UInt8} : zZV [.st s1, .st s2] = some (Res.flat (.it .i64 (zA9 s1 s2))) := mkFe (s := (s1, s2)) trivial
theorem runText (cx : Cx) (hP : cx.P = Tryz.prog) (hbs : cx.bs = 0) (s1 s2 : List UInt8)  : zAg cx Tryz.f167 [] false [.st s1, .st s2] = some (Res.flat (.it .i64 (zA9 s1 s2))) := by
 refine zAf (rs := [.tmp 4]) rfl hbs rfl ?_
 repeat' first
   | (refine bN (fun h => ?_) fun h => ?_)
   | (refine zAI ?_ ?_)
   | simp only [↓cD, cU, cQ, cP, cB, zAD, unD, zAe, zAd, idx, reduceCtorEq, ↓reduceIte, ofV, ofC, zAq, Nat.reduceEqDiff, zAB, cG, implies_true, forall_const, immL, immD, Res.flat, ren, renL, Int.reduceEq, Int.reduceLT, Int.reduceLE, Int.reduceNe, deref, ldD, zAA, zAh, zAC, zAs, cC, ↓zAH, ↓zAL, ↓zAG, ↓zAK, ↓zAF, ↓zAJ, cV, cT, cF, cW, borT, borM, zAl, Res.via, zAt, zAb, refsB, Nat.reduceLT, Nat.reduceSub, Nat.reduceLeDiff, Nat.reduceMul, Nat.reduceAdd, Int.reduceToNat, appK, zAr, zAc, borL, zAj, zAm, zAz, cO, List.replicate, zAx, ofHp, ixOf, hP, *]
 all_goals first | rfl | (simp [zA9, *]; done)
noncomputable def zF2 := mkF (fun s : (List UInt8) => [.st s]) (fun s => Sm s) (fun s => Res.flat (.bo (vName s)))
theorem zDQ {s1 : List UInt8} (hp : Sm s1) : zF2 [.st s1] = some (Res.flat (.bo (vName s1))) := mkFe (s := (s1)) hp
theorem zOi (cx : Cx) (hP : cx.P = Tryz.prog) (hbs : cx.bs = 0) (h99 : cx.orc 99 = some zIw) (s1 : List UInt8) (hl : Sm s1) : zAg cx Tryz.f59 [] false [.st s1] = some (Res.flat (.bo (vName s1))) := by
 have c99 := zAa h99
 refine zAf (rs := [.tmp 2]) rfl hbs rfl ?_
 repeat' first
   | (refine bN (fun h => ?_) fun h => ?_)
   | (refine zAI ?_ ?_)
   | simp only [↓cD, cU, cQ, cP, cB, zAD, unD, zAe, zAd, idx, reduceCtorEq, ↓reduceIte, ofV, ofC, zAq, Nat.reduceEqDiff, zAB, cG, implies_true, forall_const, immL, immD, Res.flat, ren, renL, Int.reduceEq, Int.reduceLT, Int.reduceLE, Int.reduceNe, deref, ldD, zAA, zAh, zAC, zAs, cC, c99, zAi, zAk, zF4, ↓zAH, ↓zAL, ↓zAG, ↓zAK, ↓zAF, ↓zAJ, cV, cT, cF, cW, borT, borM, zAl, Res.via, zAt, zAb, refsB, Nat.reduceLT, Nat.reduceSub, Nat.reduceLeDiff, Nat.reduceMul, Nat.reduceAdd, Int.reduceToNat, appK, zAr, zAc, borL, zAj, zAm, zAz, cO, List.replicate, zAx, ofHp, ixOf, Res.row, Res.rowd, hP, *]
 all_goals first | rfl | (simp [vName]; done)
noncomputable def zIA := mkF (fun s : (List UInt8) => [.st s]) (fun s => Sm s) (fun s => Res.row 1 (((labs s).getD []).map D.st))
theorem zJd {s1 : List UInt8} (hp : Sm s1) : zIA [.st s1] = some (Res.row 1 (((labs s1).getD []).map D.st)) := mkFe (s := (s1)) hp
theorem zK4 (cx : Cx) (hP : cx.P = Tryz.prog) (hbs : cx.bs = 0) (h99 : cx.orc 99 = some zIw) (s1 : List UInt8) (hl : Sm s1) : zAg cx Tryz.f106 [0] false [.st s1] = some (Res.row 1 (((labs s1).getD []).map D.st)) := by
 have c99 := zAa h99
 refine zCv (rs := [.tmp 2]) rfl hbs rfl ?_
 repeat' first
   | (refine bN (fun h => ?_) fun h => ?_)
   | (refine zAI ?_ ?_)
   | simp only [↓cD, cU, cQ, cP, cB, zAD, unD, zAe, zAd, idx, reduceCtorEq, ↓reduceIte, ofV, ofC, zAq, Nat.reduceEqDiff, zAB, cG, implies_true, forall_const, immL, immD, Res.flat, ren, renL, Int.reduceEq, Int.reduceLT, Int.reduceLE, Int.reduceNe, deref, ldD, zAA, zAh, zAC, zAs, cC, c99, zAi, zAk, zF4, ↓zAH, ↓zAL, ↓zAG, ↓zAK, ↓zAF, ↓zAJ, cV, cT, cF, cW, borT, borM, zAl, Res.via, zAt, zAb, refsB, Nat.reduceLT, Nat.reduceSub, Nat.reduceLeDiff, Nat.reduceMul, Nat.reduceAdd, Int.reduceToNat, appK, zAr, zAc, borL, zAj, zAm, zAz, cO, List.replicate, zAx, ofHp, ixOf, Res.row, Res.rowd, hP, *]
 all_goals first | (refine ⟨_, _, _, _, rfl, rfl, ?_, ?_, ?_⟩ <;> first | rfl | simp; done | exact zBJ (fun _ => rfl))
theorem zYA (n : List UInt8) : Sm ((labs n).getD []) := by have := zC7 n; simp only [Sm] at *; omega
def underB (n top : List UInt8) : Bool := (labs n).isSome && (labs top).isSome && decide (zCD ((labs n).getD []) ((labs top).getD []) = ((labs top).getD []).length)
def cmpB (a b : List UInt8) : Int := if (labs a).isSome then (if (labs b).isSome then (if zCD ((labs a).getD []) ((labs b).getD []) < ((labs a).getD []).length ∧ zCD ((labs a).getD []) ((labs b).getD []) < ((labs b).getD []).length then zA9 ((labs a).getD []).reverse[zCD ((labs a).getD []) ((labs b).getD [])]! ((labs b).getD []).reverse[zCD ((labs a).getD []) ((labs b).getD [])]! else if ((labs a).getD []).length < ((labs b).getD []).length then -1 else if ((labs b).getD []).length < ((labs a).getD []).length then 1 else 0) else -1) else if (labs b).isSome then 1 else zA9 a b

noncomputable def zEm := mkF (fun s : (List UInt8) × (List UInt8) => [.st s.1, .st s.2]) (fun s => Sm s.1 ∧ Sm s.2) (fun s => Res.flat (.bo (underB s.1 s.2)))
theorem zDb {s1 : List UInt8} {s2 : List UInt8} (hp : Sm s1 ∧ Sm s2) : zEm [.st s1, .st s2] = some (Res.flat (.bo (underB s1 s2))) := mkFe (s := (s1, s2)) hp
theorem zOm (cx : Cx) (hP : cx.P = Tryz.prog) (hbs : cx.bs = 0) (h99 : cx.orc 99 = some zIw) (h104 : cx.orc 104 = some zWJ) (s1 s2 : List UInt8) (hl : Sm s1 ∧ Sm s2) : zAg cx Tryz.f71 [] false [.st s1, .st s2] = some (Res.flat (.bo (underB s1 s2))) := by
 have c99 := zAa h99
 have c104 := zAa h104
 have hs1 := hl.1; have hs2 := hl.2; have hs3 := zYA s1; have hs4 := zYA s2
 refine zAf (rs := [.tmp 4]) rfl hbs rfl ?_
 repeat' first
   | (refine bN (fun h => ?_) fun h => ?_)
   | (refine zAI ?_ ?_)
   | simp only [↓cD, cU, cQ, cP, cB, zAD, unD, zAe, zAd, idx, reduceCtorEq, ↓reduceIte, ofV, ofC, zAq, Nat.reduceEqDiff, zAB, cG, implies_true, forall_const, immL, immD, Res.flat, ren, renL, Int.reduceEq, Int.reduceLT, Int.reduceLE, Int.reduceNe, deref, ldD, zAA, zAh, zAC, zAs, cC, c99, c104, zAi, zAk, zF4, zQd, ↓zAH, ↓zAL, ↓zAG, ↓zAK, ↓zAF, ↓zAJ, cV, cT, cF, cW, borT, borM, zAl, Res.via, zAt, zAb, refsB, Nat.reduceLT, Nat.reduceSub, Nat.reduceLeDiff, Nat.reduceMul, Nat.reduceAdd, Int.reduceToNat, appK, zAr, zAc, borL, zAj, zAm, zAz, cO, List.replicate, zAx, ofHp, ixOf, hs1, hs2, hs3, hs4, Res.row, Res.rowd, hP, *]
 all_goals first | rfl | (simp [underB, *]; done) | (simp [underB, *]; omega)
noncomputable def zNS := mkF (fun s : (List UInt8) × (List UInt8) => [.st s.1, .st s.2]) (fun s => Sm s.1 ∧ Sm s.2) (fun s => Res.flat (.it .i64 (cmpB s.1 s.2)))
theorem zQv {s1 : List UInt8} {s2 : List UInt8} (hp : Sm s1 ∧ Sm s2) : zNS [.st s1, .st s2] = some (Res.flat (.it .i64 (cmpB s1 s2))) := mkFe (s := (s1, s2)) hp
theorem zOT {l : List (List UInt8)} {k : Nat} (hs : l.length ≤ 254) (h : (k : Int) < l.length) : IntKind.i64.wrap (IntKind.i64.wrap ((l.length : Int) - 1) - (k : Int)) = ((l.length - 1 - k : Nat) : Int) := by rw [wrap64 (n := (l.length : Int) - 1) (by omega) (by omega), wrap64 (by omega) (by omega)]; omega
theorem yBm {l : List (List UInt8)} {k : Nat} (h : (k : Int) < l.length) : 0 ≤ ((l.length - 1 - k : Nat) : Int) ∧ ((l.length - 1 - k : Nat) : Int) < l.length := by omega
theorem zOU {l : List (List UInt8)} {k : Nat} (h : (k : Int) < l.length) : (l.map D.st)[l.length - 1 - k]? = some (.st l.reverse[k]!) := by
 rw [getm (by omega), rev_at (by omega)]

theorem zTr (cx : Cx) (hP : cx.P = Tryz.prog) (hbs : cx.bs = 0) (h99 : cx.orc 99 = some zIw) (h167 : cx.orc 167 = some zZV) (h104 : cx.orc 104 = some zWJ) (r99 : cx.rd.contains 99 = true) (r167 : cx.rd.contains 167 = true) (r104 : cx.rd.contains 104 = true) (s1 s2 : List UInt8) (hl : Sm s1 ∧ Sm s2) : zAg cx Tryz.f136 [] false [.st s1, .st s2] = some (Res.flat (.it .i64 (cmpB s1 s2))) := by
 have c99 := zAa h99
 have d99 := zAo r99 h99
 have c167 := zAa h167
 have d167 := zAo r167 h167
 have c104 := zAa h104
 have d104 := zAo r104 h104
 have hs1 := hl.1; have hs2 := hl.2; have hs3 := zYA s1; have hs4 := zYA s2
 have e1a : ((zCD ((labs s1).getD []) ((labs s2).getD []) : Nat) : Int) < ((labs s1).getD []).length → _ := fun h => zOT (zC7 s1) h
 have e2a : ((zCD ((labs s1).getD []) ((labs s2).getD []) : Nat) : Int) < ((labs s1).getD []).length → _ := fun h => yBm h
 have e3a : ((zCD ((labs s1).getD []) ((labs s2).getD []) : Nat) : Int) < ((labs s1).getD []).length → _ := fun h => zOU h
 have e1b : ((zCD ((labs s1).getD []) ((labs s2).getD []) : Nat) : Int) < ((labs s2).getD []).length → _ := fun h => zOT (zC7 s2) h
 have e2b : ((zCD ((labs s1).getD []) ((labs s2).getD []) : Nat) : Int) < ((labs s2).getD []).length → _ := fun h => yBm h
 have e3b : ((zCD ((labs s1).getD []) ((labs s2).getD []) : Nat) : Int) < ((labs s2).getD []).length → _ := fun h => zOU h
 refine zAf (rs := [.tmp 4]) rfl hbs rfl ?_
 repeat' first
   | (refine bN (fun h => ?_) fun h => ?_)
   | (refine zAI ?_ ?_)
   | simp only [↓cD, cU, cQ, cP, cB, zAD, unD, zAe, zAd, idx, reduceCtorEq, ↓reduceIte, ofV, ofC, zAq, Nat.reduceEqDiff, zAB, cG, implies_true, forall_const, immL, immD, Res.flat, ren, renL, Int.reduceEq, Int.reduceLT, Int.reduceLE, Int.reduceNe, deref, ldD, zAA, zAh, zAC, zAs, cC, cS, refs, zAy, okId, tAs, tAq, Nat.reduceMul, Nat.reduceAdd, Nat.reduceLeDiff, zAp, c99, c167, c104, d99, d167, d104, zAi, zAk, zF4, zZU, zQd, ↓zAH, ↓zAL, ↓zAG, ↓zAK, ↓zAF, ↓zAJ, cV, cT, cF, cW, borT, borM, zAl, Res.via, zAt, zAb, refsB, Nat.reduceLT, Nat.reduceSub, Nat.reduceLeDiff, Nat.reduceMul, Nat.reduceAdd, Int.reduceToNat, appK, zAr, zAc, borL, zAj, zAm, zAz, cO, List.replicate, zAx, ofHp, ixOf, cS, refs, zAy, okId, tAs, tAq, Nat.reduceMul, Nat.reduceAdd, Nat.reduceLeDiff, zAp, hs1, hs2, hs3, hs4, Res.row, Res.rowd, hP, *]
 all_goals first | rfl | (simp [cmpB, *]; done) | (simp [cmpB, *]; omega)
def vAdr (a : Adr) : Bool := a.v6 || (decide (a.hi = 0) && decide (a.lo < 4294967296))
def mnem (t : Int) : List UInt8 := if t = 1 then [65] else if t = 2 then [78, 83] else if t = 5 then [67, 78, 65, 77, 69] else if t = 6 then [83, 79, 65] else if t = 12 then [80, 84, 82]
 else if t = 15 then [77, 88] else if t = 16 then [84, 88, 84] else if t = 28 then [65, 65, 65, 65] else if t = 33 then [83, 82, 86] else if t = 39 then [68, 78, 65, 77, 69] else if t = 43 then [68, 83]
 else if t = 46 then [82, 82, 83, 73, 71] else if t = 47 then [78, 83, 69, 67] else if t = 48 then [68, 78, 83, 75, 69, 89] else []
def known (t : Int) : Bool := !(mnem t == [])
def single (t : Int) : Bool := decide (t = 6) || decide (t = 5) || decide (t = 39)
def dat0 : Dat := ⟨⟨false, 0, 0⟩, [], [], [], 0, 0, 0, 0, 0, 0, 0⟩
def zA8 (t : Int) (d : Dat) : Dat := if t = 1 ∨ t = 28 then { dat0 with adr := d.adr } else if t = 2 ∨ t = 5 ∨ t = 12 ∨ t = 39 then { dat0 with host := d.host }
 else if t = 6 then { dat0 with host := d.host, mail := d.mail, a := d.a, b := d.b, c := d.c, d := d.d, e := d.e } else if t = 15 then { dat0 with a := d.a, host := d.host } else if t = 16 then { dat0 with text := d.text }
 else if t = 33 then { dat0 with a := d.a, b := d.b, c := d.c, host := d.host } else if t = 43 ∨ t = 48 then { dat0 with a := d.a, b := d.b, c := d.c, text := d.text }
 else if t = 46 then { dat0 with a := d.a, b := d.b, c := d.c, d := d.d, e := d.e, f := d.f, host := d.host, text := d.text } else { dat0 with host := d.host, bits := d.bits }
def inB (n m : Int) : Bool := decide (0 ≤ n) && decide (n ≤ m)
def zCe (n : List UInt8) : Bool := vName n && !(decide ((n[(0 : Int).toNat]!.toNat : Int) = 42))
def zDp (s : List UInt8) : Bool := decide (1 ≤ (s.length : Int)) && decide ((s.length : Int) ≤ 255)

noncomputable def zKv := mkF (fun s : Adr => [adrE s]) (fun s => True) (fun s => Res.flat (.bo (vAdr s)))
theorem zHp {a1 : Adr} : zKv [adrE a1] = some (Res.flat (.bo (vAdr a1))) := mkFe (s := (a1)) trivial
theorem zSP (cx : Cx) (hP : cx.P = Tryz.prog) (hbs : cx.bs = 0) (a1:Adr)  : zAg cx Tryz.f131 [] false [adrE a1] = some (Res.flat (.bo (vAdr a1))) := by
 refine zAf (rs := [.tmp 2]) rfl hbs rfl ?_
 repeat' first
   | (refine bN (fun h => ?_) fun h => ?_)
   | (refine zAI ?_ ?_)
   | simp only [↓cD, cU, cQ, cP, cB, zAD, unD, zAe, zAd, idx, reduceCtorEq, ↓reduceIte, ofV, ofC, zAq, Nat.reduceEqDiff, zAB, cG, implies_true, forall_const, immL, immD, Res.flat, ren, renL, Int.reduceEq, Int.reduceLT, Int.reduceLE, Int.reduceNe, deref, ldD, zAA, zAh, zAC, zAs, cC, ↓zAH, ↓zAL, ↓zAG, ↓zAK, ↓zAF, ↓zAJ, cV, cT, cF, cW, borT, borM, zAl, Res.via, zAt, zAb, refsB, Nat.reduceLT, Nat.reduceSub, Nat.reduceLeDiff, Nat.reduceMul, Nat.reduceAdd, Int.reduceToNat, appK, zAr, zAc, borL, zAj, zAm, zAz, cO, List.replicate, zAx, ofHp, ixOf, hP, *]
 all_goals first | rfl | (simp [vAdr, *]; done) | (simp [vAdr, *]; omega) | (simp [vAdr, *]; rfl) | (simp [vAdr, dat0, *]; done)
noncomputable def zZ9 := mkF (fun s : Int => [.it .i64 s]) (fun s => True) (fun s => Res.flat (.st (mnem s)))
theorem zZ8 {t1 : Int} : zZ9 [.it .i64 t1] = some (Res.flat (.st (mnem t1))) := mkFe (s := (t1)) trivial
theorem zS9 (cx : Cx) (hP : cx.P = Tryz.prog) (hbs : cx.bs = 0) (t1:Int)  : zAg cx Tryz.f129 [] false [.it .i64 t1] = some (Res.flat (.st (mnem t1))) := by
 refine zAf (rs := [.tmp 2]) rfl hbs rfl ?_
 repeat' first
   | (refine bN (fun h => ?_) fun h => ?_)
   | (refine zAI ?_ ?_)
   | simp only [↓cD, cU, cQ, cP, cB, zAD, unD, zAe, zAd, idx, reduceCtorEq, ↓reduceIte, ofV, ofC, zAq, Nat.reduceEqDiff, zAB, cG, implies_true, forall_const, immL, immD, Res.flat, ren, renL, Int.reduceEq, Int.reduceLT, Int.reduceLE, Int.reduceNe, deref, ldD, zAA, zAh, zAC, zAs, cC, ↓zAH, ↓zAL, ↓zAG, ↓zAK, ↓zAF, ↓zAJ, cV, cT, cF, cW, borT, borM, zAl, Res.via, zAt, zAb, refsB, Nat.reduceLT, Nat.reduceSub, Nat.reduceLeDiff, Nat.reduceMul, Nat.reduceAdd, Int.reduceToNat, appK, zAr, zAc, borL, zAj, zAm, zAz, cO, List.replicate, zAx, ofHp, ixOf, hP, *]
 all_goals first | rfl | (simp [mnem, *]; done) | (simp [mnem, *]; omega) | (simp [mnem, *]; rfl) | (simp [mnem, dat0, *]; done)
noncomputable def zIC := mkF (fun s : Int => [.it .i64 s]) (fun s => True) (fun s => Res.flat (.bo (known s)))
theorem zF6 {t1 : Int} : zIC [.it .i64 t1] = some (Res.flat (.bo (known t1))) := mkFe (s := (t1)) trivial
theorem zOy (cx : Cx) (hP : cx.P = Tryz.prog) (hbs : cx.bs = 0) (h129 : cx.orc 129 = some zZ9) (t1:Int)  : zAg cx Tryz.f101 [] false [.it .i64 t1] = some (Res.flat (.bo (known t1))) := by
 have c129 := zAa h129
 refine zAf (rs := [.tmp 2]) rfl hbs rfl ?_
 repeat' first
   | (refine bN (fun h => ?_) fun h => ?_)
   | (refine zAI ?_ ?_)
   | simp only [↓cD, cU, cQ, cP, cB, zAD, unD, zAe, zAd, idx, reduceCtorEq, ↓reduceIte, ofV, ofC, zAq, Nat.reduceEqDiff, zAB, cG, implies_true, forall_const, immL, immD, Res.flat, ren, renL, Int.reduceEq, Int.reduceLT, Int.reduceLE, Int.reduceNe, deref, ldD, zAA, zAh, zAC, zAs, cC, c129, zAi, zAk, zZ8, ↓zAH, ↓zAL, ↓zAG, ↓zAK, ↓zAF, ↓zAJ, cV, cT, cF, cW, borT, borM, zAl, Res.via, zAt, zAb, refsB, Nat.reduceLT, Nat.reduceSub, Nat.reduceLeDiff, Nat.reduceMul, Nat.reduceAdd, Int.reduceToNat, appK, zAr, zAc, borL, zAj, zAm, zAz, cO, List.replicate, zAx, ofHp, ixOf, hP, *]
 all_goals first | rfl | (simp [known, *]; done) | (simp [known, *]; omega) | (simp [known, *]; rfl) | (simp [known, dat0, *]; done)
noncomputable def zKx := mkF (fun s : Int => [.it .i64 s]) (fun s => True) (fun s => Res.flat (.bo (single s)))
theorem zRU {t1 : Int} : zKx [.it .i64 t1] = some (Res.flat (.bo (single t1))) := mkFe (s := (t1)) trivial
theorem zKZ (cx : Cx) (hP : cx.P = Tryz.prog) (hbs : cx.bs = 0) (t1:Int)  : zAg cx Tryz.f105 [] false [.it .i64 t1] = some (Res.flat (.bo (single t1))) := by
 refine zAf (rs := [.tmp 2]) rfl hbs rfl ?_
 repeat' first
   | (refine bN (fun h => ?_) fun h => ?_)
   | (refine zAI ?_ ?_)
   | simp only [↓cD, cU, cQ, cP, cB, zAD, unD, zAe, zAd, idx, reduceCtorEq, ↓reduceIte, ofV, ofC, zAq, Nat.reduceEqDiff, zAB, cG, implies_true, forall_const, immL, immD, Res.flat, ren, renL, Int.reduceEq, Int.reduceLT, Int.reduceLE, Int.reduceNe, deref, ldD, zAA, zAh, zAC, zAs, cC, ↓zAH, ↓zAL, ↓zAG, ↓zAK, ↓zAF, ↓zAJ, cV, cT, cF, cW, borT, borM, zAl, Res.via, zAt, zAb, refsB, Nat.reduceLT, Nat.reduceSub, Nat.reduceLeDiff, Nat.reduceMul, Nat.reduceAdd, Int.reduceToNat, appK, zAr, zAc, borL, zAj, zAm, zAz, cO, List.replicate, zAx, ofHp, ixOf, hP, *]
 all_goals first | rfl | (simp [single, *]; done) | (simp [single, *]; omega) | (simp [single, *]; rfl) | (simp [single, dat0, *]; done)
noncomputable def zZT := mkF (fun s : Int × Dat => [.it .i64 s.1, datE s.2]) (fun s => True) (fun s => Res.flat (datE (zA8 s.1 s.2)))
theorem zZS {t1 : Int} {d1 : Dat} : zZT [.it .i64 t1, datE d1] = some (Res.flat (datE (zA8 t1 d1))) := mkFe (s := (t1, d1)) trivial
theorem zSQ (cx : Cx) (hP : cx.P = Tryz.prog) (hbs : cx.bs = 0) (t1:Int) (d1:Dat)  : zAg cx Tryz.f130 [] false [.it .i64 t1, datE d1] = some (Res.flat (datE (zA8 t1 d1))) := by
 refine zAf (rs := [.cell 4 51]) rfl hbs rfl ?_
 repeat' first
   | (refine bN (fun h => ?_) fun h => ?_)
   | (refine zAI ?_ ?_)
   | simp only [↓cD, cU, cQ, cP, cB, zAD, unD, zAe, zAd, idx, reduceCtorEq, ↓reduceIte, ofV, ofC, zAq, Nat.reduceEqDiff, zAB, cG, implies_true, forall_const, immL, immD, Res.flat, ren, renL, Int.reduceEq, Int.reduceLT, Int.reduceLE, Int.reduceNe, deref, ldD, zAA, zAh, zAC, zAs, cC, ↓zAH, ↓zAL, ↓zAG, ↓zAK, ↓zAF, ↓zAJ, cV, cT, cF, cW, borT, borM, zAl, Res.via, zAt, zAb, refsB, Nat.reduceLT, Nat.reduceSub, Nat.reduceLeDiff, Nat.reduceMul, Nat.reduceAdd, Int.reduceToNat, appK, zAr, zAc, borL, zAj, zAm, zAz, cO, List.replicate, zAx, ofHp, ixOf, hP, *]
 all_goals first | rfl | (simp [zA8, *]; done) | (simp [zA8, *]; omega) | (simp [zA8, *]; rfl) | (simp [zA8, dat0, *]; done)
noncomputable def FIn := mkF (fun s : Int × Int => [.it .i64 s.1, .it .i64 s.2]) (fun s => True) (fun s => Res.flat (.bo (inB s.1 s.2)))
theorem yJs {n1 : Int} {m1 : Int} : FIn [.it .i64 n1, .it .i64 m1] = some (Res.flat (.bo (inB n1 m1))) := mkFe (s := (n1, m1)) trivial
theorem yG8 (cx : Cx) (hP : cx.P = Tryz.prog) (hbs : cx.bs = 0) (n1:Int) (m1:Int)  : zAg cx Tryz.f133 [] false [.it .i64 n1, .it .i64 m1] = some (Res.flat (.bo (inB n1 m1))) := by
 refine zAf (rs := [.tmp 4]) rfl hbs rfl ?_
 repeat' first
   | (refine bN (fun h => ?_) fun h => ?_)
   | (refine zAI ?_ ?_)
   | simp only [↓cD, cU, cQ, cP, cB, zAD, unD, zAe, zAd, idx, reduceCtorEq, ↓reduceIte, ofV, ofC, zAq, Nat.reduceEqDiff, zAB, cG, implies_true, forall_const, immL, immD, Res.flat, ren, renL, Int.reduceEq, Int.reduceLT, Int.reduceLE, Int.reduceNe, deref, ldD, zAA, zAh, zAC, zAs, cC, ↓zAH, ↓zAL, ↓zAG, ↓zAK, ↓zAF, ↓zAJ, cV, cT, cF, cW, borT, borM, zAl, Res.via, zAt, zAb, refsB, Nat.reduceLT, Nat.reduceSub, Nat.reduceLeDiff, Nat.reduceMul, Nat.reduceAdd, Int.reduceToNat, appK, zAr, zAc, borL, zAj, zAm, zAz, cO, List.replicate, zAx, ofHp, ixOf, hP, *]
 all_goals first | rfl | (simp [inB, *]; done) | (simp [inB, *]; omega) | (simp [inB, *]; rfl) | (simp [inB, dat0, *]; done)
theorem zSf {s : List UInt8} (h : vName s = true) : 0 < (s.length : Int) := by
 cases s with
 | nil => revert h; decide
 | cons a r => rw [tAp]; omega
noncomputable def yAf := mkF (fun s : (List UInt8) => [.st s]) (fun s => Sm s) (fun s => Res.flat (.bo (zCe s)))
theorem yAe {s1 : List UInt8} (hp : Sm s1) : yAf [.st s1] = some (Res.flat (.bo (zCe s1))) := mkFe (s := (s1)) hp
theorem zTk (cx : Cx) (hP : cx.P = Tryz.prog) (hbs : cx.bs = 0) (h59 : cx.orc 59 = some zF2) (s1:List UInt8) (hl : Sm s1) : zAg cx Tryz.f132 [] false [.st s1] = some (Res.flat (.bo (zCe s1))) := by
 have c59 := zAa h59
 have hix := fun h : vName s1 = true => ixsN Tryz.underlying9 (k := .i64) (n := 0) (by omega) (zSf h)
 refine zAf (rs := [.tmp 2]) rfl hbs rfl ?_
 repeat' first
   | (refine bN (fun h => ?_) fun h => ?_)
   | (refine zAI ?_ ?_)
   | simp only [↓cD, cU, cQ, cP, cB, zAD, unD, zAe, zAd, idx, reduceCtorEq, ↓reduceIte, ofV, ofC, zAq, Nat.reduceEqDiff, zAB, cG, implies_true, forall_const, immL, immD, Res.flat, ren, renL, Int.reduceEq, Int.reduceLT, Int.reduceLE, Int.reduceNe, deref, ldD, zAA, zAh, zAC, zAs, cC, c59, zAi, zAk, zDQ, ↓zAH, ↓zAL, ↓zAG, ↓zAK, ↓zAF, ↓zAJ, cV, cT, cF, cW, borT, borM, zAl, Res.via, zAt, zAb, refsB, Nat.reduceLT, Nat.reduceSub, Nat.reduceLeDiff, Nat.reduceMul, Nat.reduceAdd, Int.reduceToNat, appK, zAr, zAc, borL, zAj, zAm, zAz, cO, List.replicate, zAx, ofHp, ixOf, hix, hP, *]
 all_goals first | rfl | (simp [zCe, *]; done) | (simp [zCe, *]; omega) | (simp [zCe, *]; rfl) | (simp [zCe, dat0, *]; done)
noncomputable def zIv := mkF (fun s : (List UInt8) => [.st s]) (fun s => True) (fun s => Res.flat (.bo (zDp s)))
theorem zMg {s1 : List UInt8} : zIv [.st s1] = some (Res.flat (.bo (zDp s1))) := mkFe (s := (s1)) trivial
theorem zOn (cx : Cx) (hP : cx.P = Tryz.prog) (hbs : cx.bs = 0) (s1:List UInt8)  : zAg cx Tryz.f134 [] false [.st s1] = some (Res.flat (.bo (zDp s1))) := by
 refine zAf (rs := [.tmp 2]) rfl hbs rfl ?_
 repeat' first
   | (refine bN (fun h => ?_) fun h => ?_)
   | (refine zAI ?_ ?_)
   | simp only [↓cD, cU, cQ, cP, cB, zAD, unD, zAe, zAd, idx, reduceCtorEq, ↓reduceIte, ofV, ofC, zAq, Nat.reduceEqDiff, zAB, cG, implies_true, forall_const, immL, immD, Res.flat, ren, renL, Int.reduceEq, Int.reduceLT, Int.reduceLE, Int.reduceNe, deref, ldD, zAA, zAh, zAC, zAs, cC, ↓zAH, ↓zAL, ↓zAG, ↓zAK, ↓zAF, ↓zAJ, cV, cT, cF, cW, borT, borM, zAl, Res.via, zAt, zAb, refsB, Nat.reduceLT, Nat.reduceSub, Nat.reduceLeDiff, Nat.reduceMul, Nat.reduceAdd, Int.reduceToNat, appK, zAr, zAc, borL, zAj, zAm, zAz, cO, List.replicate, zAx, ofHp, ixOf, lens Tryz.underlying9, hP, *]
 all_goals first | rfl | (simp [zDp, *]; done) | (simp [zDp, *]; omega) | (simp [zDp, *]; rfl) | (simp [zDp, dat0, *]; done)
def inR (x : Int) : Bool := decide (0 ≤ x ∧ x < 4294967296)
theorem zPv {x : Int} : inR x = true ↔ 0 ≤ x ∧ x < 4294967296 := by simp [inR]
theorem zLF {x : Int} : inR x = false ↔ ¬ (0 ≤ x ∧ x < 4294967296) := by simp [inR]
def sCmp (x y : Int) : Int × Bool := if inR x = false ∨ inR y = false then (0, false) else
 if (y - x) % 4294967296 = 0 then (0, true) else if (y - x) % 4294967296 < 2147483648 then (-1, true) else if 2147483648 < (y - x) % 4294967296 then (1, true) else (0, false)
def zDh (x y : Int) : Bool := (sCmp x y).2 && decide ((sCmp x y).1 = 1)

noncomputable def zDc := mkF (fun s : Int => [.it .i64 s]) (fun s => True) (fun s => Res.flat (.bo (inR s)))
theorem zCU {x : Int} : zDc [.it .i64 x] = some (Res.flat (.bo (inR x))) := mkFe (s := (x)) trivial
noncomputable def zNN := mkF (fun s : Int × Int => [.it .i64 s.1, .it .i64 s.2]) (fun s => True) (fun s => Res.flat (.tup [.it .i64 (sCmp s.1 s.2).1, .bo (sCmp s.1 s.2).2]))
theorem zQe {x : Int} {y : Int} : zNN [.it .i64 x, .it .i64 y] = some (Res.flat (.tup [.it .i64 (sCmp x y).1, .bo (sCmp x y).2])) := mkFe (s := (x, y)) trivial
noncomputable def zEh := mkF (fun s : Int × Int => [.it .i64 s.1, .it .i64 s.2]) (fun s => True) (fun s => Res.flat (.bo (zDh s.1 s.2)))
theorem zEV {x : Int} {y : Int} : zEh [.it .i64 x, .it .i64 y] = some (Res.flat (.bo (zDh x y))) := mkFe (s := (x, y)) trivial
theorem zK1 (cx : Cx) (hP : cx.P = Tryz.prog) (hbs : cx.bs = 0) (x : Int)  : zAg cx Tryz.f60 [] false [.it .i64 x] = some (Res.flat (.bo (inR x))) := by
 refine zAf (rs := [.tmp 2]) rfl hbs rfl ?_
 repeat' first
   | (refine bN (fun h => ?_) fun h => ?_)
   | (refine zAI ?_ ?_)
   | simp only [↓cD, cU, cQ, cP, cB, zAD, unD, zAe, zAd, idx, reduceCtorEq, ↓reduceIte, ofV, ofC, zAq, Nat.reduceEqDiff, zAB, cG, implies_true, forall_const, immL, immD, Res.flat, ren, renL, Int.reduceEq, Int.reduceLT, Int.reduceLE, Int.reduceNe, deref, ldD, zAA, zAh, zAC, zAs, cC, ↓zAH, ↓zAL, ↓zAG, ↓zAK, ↓zAF, ↓zAJ, cV, cT, cF, cW, borT, borM, zAl, Res.via, zAt, zAb, refsB, Nat.reduceLT, Nat.reduceSub, Nat.reduceLeDiff, Nat.reduceMul, Nat.reduceAdd, Int.reduceToNat, appK, zAr, zAc, borL, zAj, zAm, zAz, cO, List.replicate, zAx, ofHp, ixOf, inR, hP, *]
theorem zS1 (cx : Cx) (hP : cx.P = Tryz.prog) (hbs : cx.bs = 0) (h60 : cx.orc 60 = some zDc) (x y : Int)  : zAg cx Tryz.f74 [] false [.it .i64 x, .it .i64 y] = some (Res.flat (.tup [.it .i64 (sCmp x y).1, .bo (sCmp x y).2])) := by
 have c60 := zAa h60
 refine zAf (rs := [.tmp 4, .tmp 5]) rfl hbs rfl ?_
 repeat' first
   | (refine bN (fun h => ?_) fun h => ?_)
   | (refine zAI ?_ ?_)
   | simp only [↓cD, cU, cQ, cP, cB, zAD, unD, zAe, zAd, idx, reduceCtorEq, ↓reduceIte, ofV, ofC, zAq, Nat.reduceEqDiff, zAB, cG, implies_true, forall_const, immL, immD, Res.flat, ren, renL, Int.reduceEq, Int.reduceLT, Int.reduceLE, Int.reduceNe, deref, ldD, zAA, zAh, zAC, zAs, cC, c60, zAi, zAk, zCU, ↓zAH, ↓zAL, ↓zAG, ↓zAK, ↓zAF, ↓zAJ, cV, cT, cF, cW, borT, borM, zAl, Res.via, zAt, zAb, refsB, Nat.reduceLT, Nat.reduceSub, Nat.reduceLeDiff, Nat.reduceMul, Nat.reduceAdd, Int.reduceToNat, appK, zAr, zAc, borL, zAj, zAm, zAz, cO, List.replicate, zAx, ofHp, ixOf, sCmp, hP, *]
 all_goals
   simp only [zPv, zLF] at *
   have e : (IntKind.i64.wrap (IntKind.i64.wrap (y - x) + 4294967296)).tmod 4294967296 = (y - x) % 4294967296 := by
     rw [wrap64 (n := y - x) (by omega) (by omega), wrap64 (by omega) (by omega), tCg (by omega)]
     omega
   simp only [e] at *
   repeat' split
   all_goals first | rfl | omega
theorem zK2 (cx : Cx) (hP : cx.P = Tryz.prog) (hbs : cx.bs = 0) (h74 : cx.orc 74 = some zNN) (x y : Int)  : zAg cx Tryz.f34 [] false [.it .i64 x, .it .i64 y] = some (Res.flat (.bo (zDh x y))) := by
 have c74 := zAa h74
 refine zAf (rs := [.tmp 4]) rfl hbs rfl ?_
 repeat' first
   | (refine bN (fun h => ?_) fun h => ?_)
   | (refine zAI ?_ ?_)
   | simp only [↓cD, cU, cQ, cP, cB, zAD, unD, zAe, zAd, idx, reduceCtorEq, ↓reduceIte, ofV, ofC, zAq, Nat.reduceEqDiff, zAB, cG, implies_true, forall_const, immL, immD, Res.flat, ren, renL, Int.reduceEq, Int.reduceLT, Int.reduceLE, Int.reduceNe, deref, ldD, zAA, zAh, zAC, zAs, cC, c74, zAi, zAk, zQe, ↓zAH, ↓zAL, ↓zAG, ↓zAK, ↓zAF, ↓zAJ, cV, cT, cF, cW, borT, borM, zAl, Res.via, zAt, zAb, refsB, Nat.reduceLT, Nat.reduceSub, Nat.reduceLeDiff, Nat.reduceMul, Nat.reduceAdd, Int.reduceToNat, appK, zAr, zAc, borL, zAj, zAm, zAz, cO, List.replicate, zAx, ofHp, ixOf, zDh, hP, *]
 all_goals first | done | rfl | (simp [zDh, *]; done)
theorem zIQ (cx : Cx) (hP : cx.P = Tryz.prog) (hbs : cx.bs = 0) (x : Int)  : zAg cx Tryz.f55 [] false [.it .i64 x] = some (Res.flat (.bo (inR x))) := by
 refine zAf (rs := [.tmp 2]) rfl hbs rfl ?_
 repeat' first
   | (refine bN (fun h => ?_) fun h => ?_)
   | (refine zAI ?_ ?_)
   | simp only [↓cD, cU, cQ, cP, cB, zAD, unD, zAe, zAd, idx, reduceCtorEq, ↓reduceIte, ofV, ofC, zAq, Nat.reduceEqDiff, zAB, cG, implies_true, forall_const, immL, immD, Res.flat, ren, renL, Int.reduceEq, Int.reduceLT, Int.reduceLE, Int.reduceNe, deref, ldD, zAA, zAh, zAC, zAs, cC, ↓zAH, ↓zAL, ↓zAG, ↓zAK, ↓zAF, ↓zAJ, cV, cT, cF, cW, borT, borM, zAl, Res.via, zAt, zAb, refsB, Nat.reduceLT, Nat.reduceSub, Nat.reduceLeDiff, Nat.reduceMul, Nat.reduceAdd, Int.reduceToNat, appK, zAr, zAc, borL, zAj, zAm, zAz, cO, List.replicate, zAx, ofHp, ixOf, inR, hP, *]
theorem zOs (cx : Cx) (hP : cx.P = Tryz.prog) (hbs : cx.bs = 0) (h55 : cx.orc 55 = some zDc) (x y : Int)  : zAg cx Tryz.f53 [] false [.it .i64 x, .it .i64 y] = some (Res.flat (.tup [.it .i64 (sCmp x y).1, .bo (sCmp x y).2])) := by
 have c55 := zAa h55
 refine zAf (rs := [.tmp 4, .tmp 5]) rfl hbs rfl ?_
 repeat' first
   | (refine bN (fun h => ?_) fun h => ?_)
   | (refine zAI ?_ ?_)
   | simp only [↓cD, cU, cQ, cP, cB, zAD, unD, zAe, zAd, idx, reduceCtorEq, ↓reduceIte, ofV, ofC, zAq, Nat.reduceEqDiff, zAB, cG, implies_true, forall_const, immL, immD, Res.flat, ren, renL, Int.reduceEq, Int.reduceLT, Int.reduceLE, Int.reduceNe, deref, ldD, zAA, zAh, zAC, zAs, cC, c55, zAi, zAk, zCU, ↓zAH, ↓zAL, ↓zAG, ↓zAK, ↓zAF, ↓zAJ, cV, cT, cF, cW, borT, borM, zAl, Res.via, zAt, zAb, refsB, Nat.reduceLT, Nat.reduceSub, Nat.reduceLeDiff, Nat.reduceMul, Nat.reduceAdd, Int.reduceToNat, appK, zAr, zAc, borL, zAj, zAm, zAz, cO, List.replicate, zAx, ofHp, ixOf, sCmp, hP, *]
 all_goals
   simp only [zPv, zLF] at *
   have e : IntKind.u32.wrap (IntKind.u32.wrap y - IntKind.u32.wrap x) = (y - x) % 4294967296 := by
     simp only [wrap32]; omega
   simp only [e] at *
   repeat' split
   all_goals first | rfl | omega
theorem zIR (cx : Cx) (hP : cx.P = Tryz.prog) (hbs : cx.bs = 0) (h53 : cx.orc 53 = some zNN) (x y : Int)  : zAg cx Tryz.f24 [] false [.it .i64 x, .it .i64 y] = some (Res.flat (.bo (zDh x y))) := by
 have c53 := zAa h53
 refine zAf (rs := [.tmp 4]) rfl hbs rfl ?_
 repeat' first
   | (refine bN (fun h => ?_) fun h => ?_)
   | (refine zAI ?_ ?_)
   | simp only [↓cD, cU, cQ, cP, cB, zAD, unD, zAe, zAd, idx, reduceCtorEq, ↓reduceIte, ofV, ofC, zAq, Nat.reduceEqDiff, zAB, cG, implies_true, forall_const, immL, immD, Res.flat, ren, renL, Int.reduceEq, Int.reduceLT, Int.reduceLE, Int.reduceNe, deref, ldD, zAA, zAh, zAC, zAs, cC, c53, zAi, zAk, zQe, ↓zAH, ↓zAL, ↓zAG, ↓zAK, ↓zAF, ↓zAJ, cV, cT, cF, cW, borT, borM, zAl, Res.via, zAt, zAb, refsB, Nat.reduceLT, Nat.reduceSub, Nat.reduceLeDiff, Nat.reduceMul, Nat.reduceAdd, Int.reduceToNat, appK, zAr, zAc, borL, zAj, zAm, zAz, cO, List.replicate, zAx, ofHp, ixOf, zDh, hP, *]
 all_goals first | done | rfl | (simp [zDh, *]; done)
def bitS (n : Int) (t : Nat) : Int := IntKind.u64.wrap (BitVec.ofInt IntKind.u64.bits (n.fdiv (2 ^ (min t IntKind.u64.bits))) &&& BitVec.ofInt IntKind.u64.bits 1).toNat
def zDA (n : Int) : Nat → Nat → Bool
 | _, 0 => true
 | t, k + 1 => if bitS n t = 1 then (if known t then zDA n (t + 1) k else false) else zDA n (t + 1) k
def allB (n : Int) : Bool := zDA n 0 64
def validD (t : Int) (d : Dat) : Bool := if known t = false then false else if ¬ zA8 t d = d then false else
 if t = 1 then vAdr d.adr && !d.adr.v6 else if t = 28 then d.adr.v6 else
 if t = 6 then zCe d.host && (zCe d.mail && (inR d.a && (inB d.b 2147483647 && (inB d.c 2147483647 && (inB d.d 2147483647 && inB d.e 2147483647))))) else
 if t = 15 then zCe d.host && inB d.a 65535 else if t = 16 then decide ((d.text.length : Int) ≤ 255) else
 if t = 33 then zCe d.host && (inB d.a 65535 && (inB d.b 65535 && inB d.c 65535)) else
 if t = 43 then inB d.a 65535 && (inB d.b 255 && (inB d.c 255 && zDp d.text)) else
 if t = 46 then known d.a && (!decide (d.a = 46) && (inB d.b 127 && (inB d.c 2147483647 && (inB d.d 4294967295 && (inB d.e 4294967295 && (inB d.f 65535 && (zCe d.host && zDp d.text))))))) else
 if t = 47 then vName d.host && (!decide (d.bits = 0) && allB d.bits) else
 if t = 48 then (decide (d.a = 256) || decide (d.a = 257)) && (decide (d.b = 3) && (inB d.c 255 && zDp d.text)) else zCe d.host
def U64 (x : Int) : Prop := 0 ≤ x ∧ x ≤ 18446744073709551615
def ASm (a : Adr) : Prop := U64 a.hi ∧ U64 a.lo
def DSm (d : Dat) : Prop := Sm d.host ∧ Sm d.mail ∧ Sm d.text ∧ ASm d.adr

noncomputable def FAll := mkF (fun s : Int => [.it .u64 s]) (fun s => True) (fun s => Res.flat (.bo (allB s)))
theorem yGa {n1 : Int} : FAll [.it .u64 n1] = some (Res.flat (.bo (allB n1))) := mkFe (s := (n1)) trivial
theorem yBl (cx : Cx) (hP : cx.P = Tryz.prog) (hbs : cx.bs = 0) (h101 : cx.orc 101 = some zIC) (hk2 : cx.kp 2 = some [0, 3]) (n1 : Int)  : zAg cx Tryz.f135 [] false [.it .u64 n1] = some (Res.flat (.bo (allB n1))) := by
 have c101 := zAa h101
 have hw : ∀ k : Nat, (k : Int) < 64 → IntKind.i64.wrap ((k : Int) + 1) = ((k + 1 : Nat) : Int) := fun k h => by rw [wrap64 (by omega) (by omega)]; simp
 have hu : ∀ k : Nat, (k : Int) < 64 → IntKind.u64.wrap (k : Int) = (k : Int) := fun k h => by rw [zDR]; omega
 have hz : ∀ k : Nat, ((k : Int) < 0) = False := fun k => by simp
 refine zAf (rs := [.tmp 2]) rfl hbs rfl ?_
 repeat' first
   | (refine zAU (σ := Nat) (fun s2 => [.it .u64 n1, .it .i64 s2]) (fun s2 => s2 ≤ 64 ∧ zDA n1 s2 (64 - s2) = allB n1) (fun s2 => 64 - s2) [0, 3] hbs (by exact hk2) (fun s2 => by simp only [zAp, refs, zAZ, zA0, zA5, tAo]) (fun s2 j2 => ?_) (s := 0) ?_ ?_)
   | (refine bN (fun h => ?_) fun h => ?_)
   | (refine zAI ?_ ?_)
   | simp only [↓cD, cU, cQ, cP, cB, zAD, unD, zAe, zAd, idx, reduceCtorEq, ↓reduceIte, ofV, ofC, zAq, Nat.reduceEqDiff, zAB, cG, implies_true, forall_const, immL, immD, Res.flat, ren, renL, Int.reduceEq, Int.reduceLT, Int.reduceLE, Int.reduceNe, deref, ldD, zAA, zAh, zAC, zAs, cC, c101, zAi, zAk, zF6, ↓zAH, ↓zAL, ↓zAG, ↓zAK, ↓zAF, ↓zAJ, cV, cT, cF, cW, borT, borM, zAl, Res.via, zAt, zAb, refsB, Nat.reduceLT, Nat.reduceSub, Nat.reduceLeDiff, Nat.reduceMul, Nat.reduceAdd, Int.reduceToNat, appK, zAr, zAc, borL, zAj, zAm, zAz, cO, List.replicate, zAx, ofHp, ixOf, hw, hu, hz, hP, *]
 all_goals first
   | rfl
   | exact ⟨by omega, rfl⟩
   | (rw [show 64 - s2 = 0 by omega] at j2; simp only [zDA] at j2; rw [← j2.2])
   | (refine ⟨_, rfl, ⟨by omega, ?_⟩, by omega⟩; rw [show 64 - s2 = (64 - (s2 + 1)) + 1 by omega] at j2; simp_all [zDA, bitS]; done)
   | (rw [show 64 - s2 = (64 - (s2 + 1)) + 1 by omega] at j2; simp_all [zDA, bitS]; done)
noncomputable def FVD := mkF (fun s : Int × Dat => [.it .i64 s.1, datE s.2]) (fun s => DSm s.2) (fun s => Res.flat (.bo (validD s.1 s.2)))
theorem zP4 {t1 : Int} {d1 : Dat} (hp : DSm d1) : FVD [.it .i64 t1, datE d1] = some (Res.flat (.bo (validD t1 d1))) := mkFe (s := (t1, d1)) hp
theorem yG2 (cx : Cx) (hP : cx.P = Tryz.prog) (hbs : cx.bs = 0) (h101 : cx.orc 101 = some zIC) (h130 : cx.orc 130 = some zZT) (h131 : cx.orc 131 = some zKv) (h132 : cx.orc 132 = some yAf) (h60 : cx.orc 60 = some zDc) (h133 : cx.orc 133 = some FIn) (h134 : cx.orc 134 = some zIv) (h59 : cx.orc 59 = some zF2) (h135 : cx.orc 135 = some FAll) (r101 : cx.rd.contains 101 = true) (r130 : cx.rd.contains 130 = true) (r131 : cx.rd.contains 131 = true) (r132 : cx.rd.contains 132 = true) (r60 : cx.rd.contains 60 = true) (r133 : cx.rd.contains 133 = true) (r134 : cx.rd.contains 134 = true) (r59 : cx.rd.contains 59 = true) (r135 : cx.rd.contains 135 = true) (t1 : Int) (d1 : Dat) (hl : DSm d1) : zAg cx Tryz.f102 [] false [.it .i64 t1, datE d1] = some (Res.flat (.bo (validD t1 d1))) := by
 have c101 := zAa h101
 have d101 := zAo r101 h101
 have c130 := zAa h130
 have d130 := zAo r130 h130
 have c131 := zAa h131
 have d131 := zAo r131 h131
 have c132 := zAa h132
 have d132 := zAo r132 h132
 have c60 := zAa h60
 have d60 := zAo r60 h60
 have c133 := zAa h133
 have d133 := zAo r133 h133
 have c134 := zAa h134
 have d134 := zAo r134 h134
 have c59 := zAa h59
 have d59 := zAo r59 h59
 have c135 := zAa h135
 have d135 := zAo r135 h135
 have hl1 := hl.1; have hl2 := hl.2.1; have hl3 := hl.2.2.1
 refine zAf (rs := [.tmp 4]) rfl hbs rfl ?_
 repeat' first
   | (refine bN (fun h => ?_) fun h => ?_)
   | (refine zAI ?_ ?_)
   | simp only [↓cD, cU, cQ, cP, cB, zAD, unD, zAe, zAd, idx, reduceCtorEq, ↓reduceIte, ofV, ofC, zAq, Nat.reduceEqDiff, zAB, cG, implies_true, forall_const, immL, immD, Res.flat, ren, renL, Int.reduceEq, Int.reduceLT, Int.reduceLE, Int.reduceNe, deref, ldD, zAA, zAh, zAC, zAs, cC, cS, refs, zAy, okId, tAs, tAq, Nat.reduceMul, Nat.reduceAdd, Nat.reduceLeDiff, zAp, c101, c130, c131, c132, c60, c133, c134, c59, c135, d101, d130, d131, d132, d60, d133, d134, d59, d135, zAi, zAk, zF6, zZS, zHp, yAe, zCU, yJs, zMg, zDQ, yGa, ↓zAH, ↓zAL, ↓zAG, ↓zAK, ↓zAF, ↓zAJ, cV, cT, cF, cW, borT, borM, zAl, Res.via, zAt, zAb, refsB, Nat.reduceLT, Nat.reduceSub, Nat.reduceLeDiff, Nat.reduceMul, Nat.reduceAdd, Int.reduceToNat, appK, zAr, zAc, borL, zAj, zAm, zAz, cO, List.replicate, zAx, ofHp, ixOf, cS, refs, zAy, okId, tAs, tAq, Nat.reduceMul, Nat.reduceAdd, Nat.reduceLeDiff, zAp, hl1, hl2, hl3, lens Tryz.underlying9, hP, *]
 all_goals first | rfl | (simp [validD, *]; done) | (subst_vars; simp [validD, *]; done) | (simp [validD, *]; omega)
def divN (k : IntKind) (v : Int) : Nat → Int
 | 0 => v
 | j + 1 => k.wrap ((divN k v j).tdiv 256)
def numI (k : IntKind) (v : Int) : Nat → List Int
 | 0 => []
 | n + 1 => IntKind.u8.wrap ((divN k v n).tmod 256) :: numI k v n
def numB (k : IntKind) (v : Int) (n : Nat) : List UInt8 := (numI k v n).map zDf
theorem zDi (k : IntKind) (v : Int) : ∀ n, (numI k v n).length = n
 | 0 => rfl
 | n + 1 => by simp [numI, zDi k v n]
theorem zBx (k : IntKind) (v : Int) (n : Nat) : (numB k v n).length = n := by simp [numB, zDi]

noncomputable def FNum := mkF (fun s : Int × Int => [.it .i64 s.1, .it .i64 s.2]) (fun s => 0 ≤ s.2 ∧ s.2 ≤ 8) (fun s => Res.flat (.st (numB .i64 s.1 s.2.toNat)))
theorem zWN {v1 : Int} {n1 : Int} (hp : 0 ≤ n1 ∧ n1 ≤ 8) : FNum [.it .i64 v1, .it .i64 n1] = some (Res.flat (.st (numB .i64 v1 n1.toNat))) := mkFe (s := (v1, n1)) hp
theorem yA3 (cx : Cx) (hP : cx.P = Tryz.prog) (hbs : cx.bs = 0) (hk3 : cx.kp 3 = some [0, 5, 6]) (hk7 : cx.kp 7 = some [0, 5, 6, 7, 8]) (v1 n1 : Int) (hl : 0 ≤ n1 ∧ n1 ≤ 8) : zAg cx Tryz.f191 [] false [.it .i64 v1, .it .i64 n1] = some (Res.flat (.st (numB .i64 v1 n1.toNat))) := by
 obtain ⟨n, rfl⟩ := tBj hl.1
 have hn : n ≤ 8 := (by omega)
 have hw1 : IntKind.i64.wrap ((n : Int) - 1) = (n : Int) - 1 := wrap64 (by omega) (by omega)
 have hd : ∀ k : Nat, k ≤ n → 0 ≤ (k : Int) - 1 → IntKind.i64.wrap ((k : Int) - 1 - 1) = ((k - 1 : Nat) : Int) - 1 := fun k h h' => by rw [wrap64 (by omega) (by omega)]; omega
 have hw : ∀ j : Nat, j ≤ 8 → IntKind.i64.wrap ((j : Int) + 1) = ((j + 1 : Nat) : Int) := fun j h => by rw [wrap64 (by omega) (by omega)]; simp
 refine zAf (rs := [.tmp 4]) rfl hbs rfl ?_
 repeat' first
   | (refine zAv (σ := Nat × List Int) (fun q => [.it .i64 v1, .own 0 0 q.2.length, .it .i64 ((q.1 : Int) - 1)]) (fun q => [.row 1 true (q.2.map (D.it .u8))]) (fun q => q.1 ≤ n ∧ q.2.length + q.1 = n ∧ q.2 ++ numI .i64 v1 q.1 = numI .i64 v1 n) (fun q => q.1) [0, 5, 6] hbs (by exact hk3) (fr1 fun _ => zA2 (fun _ => rfl)) (fun q jq => ?_) (s := (n, [])) [0] ?_ ?_ ?_ ?_ ?_)
   | (refine zAv (σ := Nat) (fun s => [.it .i64 v1, .own 0 0 q.2.length, .it .i64 ((q.1 : Int) - 1), .it .i64 (divN .i64 v1 s), .it .i64 s]) (fun s => [.row 1 true (q.2.map (D.it .u8))]) (fun s => s ≤ 8 ∧ (s : Int) ≤ (q.1 : Int) - 1) (fun s => q.1 - s) [0, 5, 6, 7, 8] hbs (by exact hk7) (fr1 fun _ => zA2 (fun _ => rfl)) (fun s js => ?_) (s := 0) [0] ?_ ?_ ?_ ?_ ?_)
   | (refine bN (fun h => ?_) fun h => ?_)
   | (refine zAI ?_ ?_)
   | simp only [↓cD, cU, cQ, cP, cB, zAD, unD, zAe, zAd, idx, reduceCtorEq, ↓reduceIte, ofV, ofC, zAq, Nat.reduceEqDiff, zAB, cG, implies_true, forall_const, immL, immD, Res.flat, ren, renL, Int.reduceEq, Int.reduceLT, Int.reduceLE, Int.reduceNe, deref, ldD, zAA, zAh, zAC, zAs, cC, ↓zAH, ↓zAL, ↓zAG, ↓zAK, ↓zAF, ↓zAJ, cV, cT, cF, cW, borT, borM, zAl, Res.via, zAt, zAb, refsB, Nat.reduceLT, Nat.reduceSub, Nat.reduceLeDiff, Nat.reduceMul, Nat.reduceAdd, Int.reduceToNat, appK, zAr, zAc, borL, zAj, zAm, zAz, cO, List.replicate, zAx, ofHp, ixOf, zCF, hw1, hd, hw, zCS Tryz.underlying149 Tryz.underlying5 sz5 Tryz.underlying9, hP, *]
 all_goals first
   | rfl
   | exact ⟨by omega, by omega⟩
   | exact ⟨by omega, rfl⟩
   | (refine ⟨[0], s + 1, ?_, ?_, ?_, ?_, ⟨by omega, by omega⟩, by omega⟩ <;> (first | rfl | (simp only [zAp, refs, ren, cR, Nat.reduceEqDiff, ofHp, ixOf]; first | rfl | (simp; done))))
   | omega
   | (refine ⟨[2], (q.1 - 1, q.2 ++ [IntKind.u8.wrap ((divN .i64 v1 s).tmod 256)]), ?_, ?_, ?_, ?_, ⟨by simp only; omega, by simp only [tAh, tAp, tAu]; omega, ?_⟩, by simp only; omega⟩; rotate_left 4; (rw [← jq.2.2, show q.1 = (q.1 - 1) + 1 by omega, show s = q.1 - 1 by omega]; simp [numI]); all_goals (first | rfl | (simp only [zAp, refs, ren, cR, Nat.reduceEqDiff, ofHp, ixOf]; first | rfl | (simp; done))))
   | (have e := jq.2.2; rw [show q.1 = 0 by omega] at e; simp only [numI, tAo] at e; rw [e]; rfl)
noncomputable def FOct := mkF (fun s : Int × Int => [.it .u64 s.1, .it .i64 s.2]) (fun s => 0 ≤ s.2 ∧ s.2 ≤ 8) (fun s => Res.flat (.st (numB .u64 s.1 s.2.toNat)))
theorem yFX {v1 : Int} {n1 : Int} (hp : 0 ≤ n1 ∧ n1 ≤ 8) : FOct [.it .u64 v1, .it .i64 n1] = some (Res.flat (.st (numB .u64 v1 n1.toNat))) := mkFe (s := (v1, n1)) hp
theorem yA2 (cx : Cx) (hP : cx.P = Tryz.prog) (hbs : cx.bs = 0) (hk3 : cx.kp 3 = some [0, 5, 6]) (hk7 : cx.kp 7 = some [0, 5, 6, 7, 8]) (v1 n1 : Int) (hl : 0 ≤ n1 ∧ n1 ≤ 8) : zAg cx Tryz.f204 [] false [.it .u64 v1, .it .i64 n1] = some (Res.flat (.st (numB .u64 v1 n1.toNat))) := by
 obtain ⟨n, rfl⟩ := tBj hl.1
 have hn : n ≤ 8 := (by omega)
 have hw1 : IntKind.i64.wrap ((n : Int) - 1) = (n : Int) - 1 := wrap64 (by omega) (by omega)
 have hd : ∀ k : Nat, k ≤ n → 0 ≤ (k : Int) - 1 → IntKind.i64.wrap ((k : Int) - 1 - 1) = ((k - 1 : Nat) : Int) - 1 := fun k h h' => by rw [wrap64 (by omega) (by omega)]; omega
 have hw : ∀ j : Nat, j ≤ 8 → IntKind.i64.wrap ((j : Int) + 1) = ((j + 1 : Nat) : Int) := fun j h => by rw [wrap64 (by omega) (by omega)]; simp
 refine zAf (rs := [.tmp 4]) rfl hbs rfl ?_
 repeat' first
   | (refine zAv (σ := Nat × List Int) (fun q => [.it .u64 v1, .own 0 0 q.2.length, .it .i64 ((q.1 : Int) - 1)]) (fun q => [.row 1 true (q.2.map (D.it .u8))]) (fun q => q.1 ≤ n ∧ q.2.length + q.1 = n ∧ q.2 ++ numI .u64 v1 q.1 = numI .u64 v1 n) (fun q => q.1) [0, 5, 6] hbs (by exact hk3) (fr1 fun _ => zA2 (fun _ => rfl)) (fun q jq => ?_) (s := (n, [])) [0] ?_ ?_ ?_ ?_ ?_)
   | (refine zAv (σ := Nat) (fun s => [.it .u64 v1, .own 0 0 q.2.length, .it .i64 ((q.1 : Int) - 1), .it .u64 (divN .u64 v1 s), .it .i64 s]) (fun s => [.row 1 true (q.2.map (D.it .u8))]) (fun s => s ≤ 8 ∧ (s : Int) ≤ (q.1 : Int) - 1) (fun s => q.1 - s) [0, 5, 6, 7, 8] hbs (by exact hk7) (fr1 fun _ => zA2 (fun _ => rfl)) (fun s js => ?_) (s := 0) [0] ?_ ?_ ?_ ?_ ?_)
   | (refine bN (fun h => ?_) fun h => ?_)
   | (refine zAI ?_ ?_)
   | simp only [↓cD, cU, cQ, cP, cB, zAD, unD, zAe, zAd, idx, reduceCtorEq, ↓reduceIte, ofV, ofC, zAq, Nat.reduceEqDiff, zAB, cG, implies_true, forall_const, immL, immD, Res.flat, ren, renL, Int.reduceEq, Int.reduceLT, Int.reduceLE, Int.reduceNe, deref, ldD, zAA, zAh, zAC, zAs, cC, ↓zAH, ↓zAL, ↓zAG, ↓zAK, ↓zAF, ↓zAJ, cV, cT, cF, cW, borT, borM, zAl, Res.via, zAt, zAb, refsB, Nat.reduceLT, Nat.reduceSub, Nat.reduceLeDiff, Nat.reduceMul, Nat.reduceAdd, Int.reduceToNat, appK, zAr, zAc, borL, zAj, zAm, zAz, cO, List.replicate, zAx, ofHp, ixOf, zCF, hw1, hd, hw, zCS Tryz.underlying149 Tryz.underlying5 sz5 Tryz.underlying9, hP, *]
 all_goals first
   | rfl
   | exact ⟨by omega, by omega⟩
   | exact ⟨by omega, rfl⟩
   | (refine ⟨[0], s + 1, ?_, ?_, ?_, ?_, ⟨by omega, by omega⟩, by omega⟩ <;> (first | rfl | (simp only [zAp, refs, ren, cR, Nat.reduceEqDiff, ofHp, ixOf]; first | rfl | (simp; done))))
   | omega
   | (refine ⟨[2], (q.1 - 1, q.2 ++ [IntKind.u8.wrap ((divN .u64 v1 s).tmod 256)]), ?_, ?_, ?_, ?_, ⟨by simp only; omega, by simp only [tAh, tAp, tAu]; omega, ?_⟩, by simp only; omega⟩; rotate_left 4; (rw [← jq.2.2, show q.1 = (q.1 - 1) + 1 by omega, show s = q.1 - 1 by omega]; simp [numI]); all_goals (first | rfl | (simp only [zAp, refs, ren, cR, Nat.reduceEqDiff, ofHp, ixOf]; first | rfl | (simp; done))))
   | (have e := jq.2.2; rw [show q.1 = 0 by omega] at e; simp only [numI, tAo] at e; rw [e]; rfl)
theorem zEE : ∀ (r cur : List UInt8) (b : Bool) (l : List (List UInt8)), zBb r cur b = some l → ∀ x ∈ l, x.length ≤ cur.length + r.length
 | [], _, _, l, h => by simp [zBb] at h; subst h; simp
 | c :: r, cur, b, l, h => by
   simp only [zBb] at h
   split at h
   · split at h
     · rw [tAe] at h
       obtain ⟨m, hm, rfl⟩ := h
       have := zEE r [] false m hm
       intro x hx
       rcases tAr.1 hx with rfl | hx
       · omega
       · have := this x hx; simp at this; rw [tAp]; omega
     · cases h
   · intro x hx
     have := zEE r _ b l h x hx
     simp at this; rw [tAp]; omega
theorem zFO (n : List UInt8) : ∀ x ∈ (labs n).getD [], x.length ≤ 254 := by
 unfold labs
 split
 · simp
 · split
   · simp
   · rename_i h
     cases hg : zBb n [] true with
     | none => simp
     | some l => intro x hx; have := zEE n [] true l hg x hx; simp at this; omega
def wnL : List (List UInt8) → List UInt8
 | [] => []
 | x :: r => (numB .i64 x.length 1 ++ x) ++ wnL r
theorem zJh : ∀ (a : List (List UInt8)) (x : List UInt8), wnL (a ++ [x]) = wnL a ++ (numB .i64 x.length 1 ++ x)
 | [], x => by simp [wnL]
 | y :: r, x => by simp [wnL, zJh r x]
theorem zMD : ∀ (l : List (List UInt8)), (∀ x ∈ l, x.length ≤ 254) → (wnL l).length ≤ 255 * l.length
 | [], _ => by simp [wnL]
 | x :: r, h => by
   have := zMD r fun y hy => h y (by simp [hy])
   have := h x (by simp)
   simp only [wnL, tAh, zBx, tAp]; omega
def zBS (n : List UInt8) : List UInt8 := wnL ((labs n).getD []) ++ numB .i64 0 1
theorem zDD (n : List UInt8) : (zBS n).length ≤ 64771 := by
 have := zMD _ (zFO n)
 have := zC7 n
 simp only [zBS, tAh, zBx]; omega
theorem zGR {n : List UInt8} {i : Nat} : (wnL (((labs n).getD []).take i)).length ≤ 64770 := by
 have := zMD (((labs n).getD []).take i) fun x hx => zFO n x (tAS hx)
 have := zC7 n
 have : (((labs n).getD []).take i).length ≤ ((labs n).getD []).length := by rw [tAk]; omega
 omega
theorem zUx {n : List UInt8} {i : Nat} (h : (i : Int) < ((labs n).getD []).length) : (((labs n).getD [])[i]!).length ≤ 254 := zFO n _ (zBu h)

noncomputable def FWN := mkF (fun s : (List UInt8) => [.st s]) (fun s => Sm s) (fun s => Res.flat (.st (zBS s)))
theorem yJn {s1 : List UInt8} (hp : Sm s1) : FWN [.st s1] = some (Res.flat (.st (zBS s1))) := mkFe (s := (s1)) hp
theorem yGY (cx : Cx) (hP : cx.P = Tryz.prog) (hbs : cx.bs = 0) (h106 : cx.orc 106 = some zIA) (h191 : cx.orc 191 = some FNum) (r106 : cx.rd.contains 106 = true) (r191 : cx.rd.contains 191 = true) (hk4 : cx.kp 4 = some [3, 4, 5]) (s1 : List UInt8) (hl : Sm s1) : zAg cx Tryz.f190 [] false [.st s1] = some (Res.flat (.st (zBS s1))) := by
 have c106 := zAa h106
 have d106 := zAo r106 h106
 have c191 := zAa h191
 have d191 := zAo r191 h191
 have hw : ∀ k : Nat, (k : Int) < ((labs s1).getD []).length → IntKind.i64.wrap ((k : Int) + 1) = ((k + 1 : Nat) : Int) := fun k h => by have := zC7 s1; rw [wrap64 (by omega) (by omega)]; simp
 have hnn : ∀ k : Nat, (0 ≤ (k : Int)) = True := fun k => by simp
 have hlt := zC7 s1
 have hel : ∀ k : Nat, (k : Int) < ((labs s1).getD []).length → (((labs s1).getD []).map D.st)[k]? = some (.st ((labs s1).getD [])[k]!) := fun k h => getm (by omega)
 refine zAf (rs := [.tmp 2]) rfl hbs rfl ?_
 repeat' first
   | (refine zAv (σ := Nat) (fun s => [.st (wnL (((labs s1).getD []).take s)), .own 0 0 ((labs s1).getD []).length, .it .i64 s]) (fun s => [.row 1 true (((labs s1).getD []).map D.st)]) (fun s => s ≤ ((labs s1).getD []).length) (fun s => ((labs s1).getD []).length - s) [3, 4, 5] hbs (by exact hk4) (fr1 fun _ => zA2 (fun _ => rfl)) (fun s js => ?_) (s := 0) [0] ?_ ?_ ?_ ?_ ?_)
   | (refine bN (fun h => ?_) fun h => ?_)
   | (refine zAI ?_ ?_)
   | simp only [↓cD, cU, cQ, cP, cB, zAD, unD, zAe, zAd, idx, reduceCtorEq, ↓reduceIte, ofV, ofC, zAq, Nat.reduceEqDiff, zAB, cG, implies_true, forall_const, immL, immD, Res.flat, ren, renL, Int.reduceEq, Int.reduceLT, Int.reduceLE, Int.reduceNe, deref, ldD, zAA, zAh, zAC, zAs, cC, cS, refs, zAy, okId, tAs, tAq, Nat.reduceMul, Nat.reduceAdd, Nat.reduceLeDiff, zAp, c106, c191, d106, d191, zAi, zAk, zJd, zWN, ↓zAH, ↓zAL, ↓zAG, ↓zAK, ↓zAF, ↓zAJ, cV, cT, cF, cW, borT, borM, zAl, Res.via, zAt, zAb, refsB, Nat.reduceLT, Nat.reduceSub, Nat.reduceLeDiff, Nat.reduceMul, Nat.reduceAdd, Int.reduceToNat, appK, zAr, zAc, borL, zAj, zAm, zAz, cO, List.replicate, zAx, ofHp, ixOf, cS, refs, zAy, okId, tAs, tAq, Nat.reduceMul, Nat.reduceAdd, Nat.reduceLeDiff, zAp, lens Tryz.underlying9, hw, hnn, hlt, hel, Res.row, Res.rowd, hP, *]
 all_goals first
   | rfl
   | omega
   | (have := zUx (n := s1) (i := s) (by omega); have := zGR (n := s1) (i := s); simp only [tAh, zBx]; omega)
   | (refine ⟨[0], s + 1, ?_, ?_, ?_, ?_, by omega, by omega⟩; rotate_left 2; (rw [takeN (by omega), zJh]; rfl); all_goals (first | rfl | (simp only [zAp, refs, ren, cR, Nat.reduceEqDiff, ofHp, ixOf]; first | rfl | (simp; done))))
   | (have := zGR (n := s1) (i := s); simp only [zBx]; omega)
   | (rw [zAS (by omega)]; rfl)
   | (first | rfl | (simp only [zAp, refs, ren, cR, Nat.reduceEqDiff, ofHp, ixOf]; first | rfl | (simp; done)))
def bitV (n : Int) (i : Nat) : Nat → Int
 | 0 => 0
 | j + 1 => IntKind.i64.wrap (IntKind.i64.wrap (bitV n i j * 2) + IntKind.i64.wrap (bitS n (i * 8 + j)))
def bmI (n : Int) : Nat → List Int
 | 0 => []
 | i + 1 => bmI n i ++ [IntKind.u8.wrap (bitV n i 8)]
def zCb (n : Int) : Nat → Nat
 | 0 => 0
 | i + 1 => if bitV n i 8 = 0 then zCb n i else i + 1
theorem zEI (n : Int) : ∀ i, (bmI n i).length = i
 | 0 => rfl
 | i + 1 => by simp [bmI, zEI n i]
theorem zDP (n : Int) : ∀ i, zCb n i ≤ i
 | 0 => tAl _
 | i + 1 => by have := zDP n i; simp only [zCb]; split <;> omega
def bmB (n : Int) : List UInt8 := ((bmI n 8).take (zCb n 8)).map zDf
theorem zNz (n : Int) : (bmB n).length ≤ 8 := by have := zDP n 8; simp only [bmB, tAI, tAk, zEI]; omega
theorem yFt {P : Program} {t t' e : TypeId} {H : Hp} {nid id k : Nat} {l : List Int} (hu : P.underlying t = some (.slice e)) (he : P.underlying e = some (.int .u8)) (hs : szT P e = some 1) (hd : P.underlying t' = some .string) (hH : H id = .row 1 true (l.map (D.it .u8))) :
   zAA P t t' (.own id 0 k) H nid = some (.st ((l.take k).map zDf), H, nid) := by
 have h1 : zBP P t (.own id 0 k) = true := zDs hu
 simp only [zAA, hu, hd, he, hs, h1, if_true, elems, hH, tAg, tBv]
 rw [← tB1, zCF]
 rfl

noncomputable def FBm := mkF (fun s : Int => [.it .u64 s]) (fun s => True) (fun s => Res.flat (.st (bmB s)))
theorem yJv {n1 : Int} : FBm [.it .u64 n1] = some (Res.flat (.st (bmB n1))) := mkFe (s := (n1)) trivial
theorem yHd (cx : Cx) (hP : cx.P = Tryz.prog) (hbs : cx.bs = 0) (hk4 : cx.kp 4 = some [0, 3, 4, 5]) (hk8 : cx.kp 8 = some [0, 3, 4, 5, 6, 7]) (n1 : Int)  : zAg cx Tryz.f192 [] false [.it .u64 n1] = some (Res.flat (.st (bmB n1))) := by
 have hw : ∀ j : Nat, (j : Int) < 8 → IntKind.i64.wrap ((j : Int) + 1) = ((j + 1 : Nat) : Int) := fun j h => by rw [wrap64 (by omega) (by omega)]; simp
 have hw8 : ∀ i : Nat, (i : Int) < 8 → IntKind.i64.wrap ((i : Int) * 8) = ((i * 8 : Nat) : Int) := fun j h => by rw [wrap64 (by omega) (by omega)]; simp
 have hsl : ∀ (l : List D) (s : Nat), ¬ (s : Int) < 8 → s ≤ 8 → zAW Tryz.prog (ofHp [.row 1 true l]) 149 (.own 0 0 s) none (some (.it .i64 (zCb n1 s : Int))) none = some (.own 0 0 (zCb n1 s)) := fun l s _ _ => zKQ Tryz.underlying149 sz5 rfl (zDP n1 s)
 have hz : ∀ k : Nat, ((k : Int) < 0) = False := fun k => by simp
 have hu : ∀ i j : Nat, (i : Int) < 8 → (j : Int) < 8 → IntKind.u64.wrap (IntKind.i64.wrap (((i * 8 : Nat) : Int) + (j : Int))) = ((i * 8 + j : Nat) : Int) := fun i j h h' => by rw [wrap64 (by omega) (by omega), zDR]; omega
 refine zAf (rs := [.tmp 2]) rfl hbs rfl ?_
 repeat' first
   | (refine zAv (σ := Nat) (fun s => [.it .u64 n1, .own 0 0 s, .it .i64 (zCb n1 s), .it .i64 s]) (fun s => [.row 1 true ((bmI n1 s).map (D.it .u8))]) (fun s => s ≤ 8) (fun s => 8 - s) [0, 3, 4, 5] hbs (by exact hk4) (fr1 fun _ => zA2 (fun _ => rfl)) (fun s js => ?_) (s := 0) [0] ?_ ?_ ?_ ?_ ?_)
   | (refine zAv (σ := Nat) (fun j => [.it .u64 n1, .own 0 0 s, .it .i64 (zCb n1 s), .it .i64 s, .it .i64 (bitV n1 s j), .it .i64 j]) (fun j => [.row 1 true ((bmI n1 s).map (D.it .u8))]) (fun j => j ≤ 8) (fun j => 8 - j) [0, 3, 4, 5, 6, 7] hbs (by exact hk8) (fr1 fun _ => zA2 (fun _ => rfl)) (fun j jj => ?_) (s := 0) [0] ?_ ?_ ?_ ?_ ?_)
   | (refine bN (fun h => ?_) fun h => ?_)
   | (refine zAI ?_ ?_)
   | simp only [↓cD, cU, cQ, cP, cB, zAD, unD, zAe, zAd, idx, reduceCtorEq, ↓reduceIte, ofV, ofC, zAq, Nat.reduceEqDiff, zAB, cG, implies_true, forall_const, immL, immD, Res.flat, ren, renL, Int.reduceEq, Int.reduceLT, Int.reduceLE, Int.reduceNe, deref, ldD, zAA, zAh, zAC, zAs, cC, ↓zAH, ↓zAL, ↓zAG, ↓zAK, ↓zAF, ↓zAJ, cV, cT, cF, cW, borT, borM, zAl, Res.via, zAt, zAb, refsB, Nat.reduceLT, Nat.reduceSub, Nat.reduceLeDiff, Nat.reduceMul, Nat.reduceAdd, Int.reduceToNat, appK, zAr, zAc, borL, zAj, zAm, zAz, cO, List.replicate, zAx, ofHp, ixOf, zDO, yFt Tryz.underlying149 Tryz.underlying5 sz5 Tryz.underlying9, hsl, hw, hu, hz, hw8, hP, *]
 all_goals first
   | rfl
   | omega
   | (refine ⟨[0], j + 1, ?_, ?_, ?_, ?_, by omega, by omega⟩ <;> (first | rfl | (simp only [zAp, refs, ren, cR, Nat.reduceEqDiff, ofHp, ixOf]; first | rfl | (simp; done))))
   | (rw [zEI]; omega)
   | (have hj : j = 8 := (by omega); subst hj; have e1 : zCb n1 (s + 1) = s + 1 := (by simp [zCb, *]); have e2 : bmI n1 (s + 1) = bmI n1 s ++ [IntKind.u8.wrap (bitV n1 s 8)] := rfl; refine ⟨[2], s + 1, ?_, ?_, ?_, ?_, by omega, by omega⟩ <;> (try simp only [e1, e2]) <;> (first | rfl | (simp only [zAp, refs, ren, cR, Nat.reduceEqDiff, ofHp, ixOf]; first | rfl | (simp; done))))
   | (have hj : j = 8 := (by omega); subst hj; have e1 : zCb n1 (s + 1) = zCb n1 s := (by simp [zCb, *]); have e2 : bmI n1 (s + 1) = bmI n1 s ++ [IntKind.u8.wrap 0] := (by simp [bmI, *]); refine ⟨[2], s + 1, ?_, ?_, ?_, ?_, by omega, by omega⟩ <;> (try simp only [e1, e2]) <;> (first | rfl | (simp only [zAp, refs, ren, cR, Nat.reduceEqDiff, ofHp, ixOf]; first | rfl | (simp; done))))
   | (have hs : s = 8 := (by omega); subst hs; rfl)
   | (first | rfl | (simp only [zAp, refs, ren, cR, Nat.reduceEqDiff, ofHp, ixOf]; first | rfl | (simp; done)))
def zBT (a : Adr) : List UInt8 × Int := if vAdr a then (if a.v6 then (numB .u64 a.hi 8 ++ numB .u64 a.lo 8, 0) else (numB .u64 a.lo 4, 0)) else ([], 3)
def zAT (t : Int) (d : Dat) : List UInt8 × Int := if known t then (if validD t d then
 (if t = 1 then zBT d.adr else if t = 28 then zBT d.adr else
  if t = 6 then (zBS d.host ++ zBS d.mail ++ numB .i64 d.a 4 ++ numB .i64 d.b 4 ++ numB .i64 d.c 4 ++ numB .i64 d.d 4 ++ numB .i64 d.e 4, 0) else
  if t = 15 then (numB .i64 d.a 2 ++ zBS d.host, 0) else
  if t = 16 then (numB .i64 d.text.length 1 ++ d.text, 0) else
  if t = 33 then (numB .i64 d.a 2 ++ numB .i64 d.b 2 ++ numB .i64 d.c 2 ++ zBS d.host, 0) else
  if t = 43 ∨ t = 48 then (numB .i64 d.a 2 ++ numB .i64 d.b 1 ++ numB .i64 d.c 1 ++ d.text, 0) else
  if t = 46 then (numB .i64 d.a 2 ++ numB .i64 253 1 ++ numB .i64 d.b 1 ++ numB .i64 d.c 4 ++ numB .i64 d.d 4 ++ numB .i64 d.e 4 ++ numB .i64 d.f 2 ++ zBS d.host ++ d.text, 0) else
  if t = 47 then (zBS d.host ++ numB .i64 0 1 ++ numB .i64 (bmB d.bits).length 1 ++ bmB d.bits, 0) else (zBS d.host, 0)) else ([], 5)) else ([], 4)
def cmpD (t : Int) (a b : Dat) : Int := if (zAT t a).2 = 0 then (if (zAT t b).2 = 0 then zA9 (zAT t a).1 (zAT t b).1 else -1) else if (zAT t b).2 = 0 then 1 else 0

noncomputable def FWA := mkF (fun s : Adr => [adrE s]) (fun s => True) (fun s => Res.flat (.tup [.st (zBT s).1, .it .i64 (zBT s).2]))
theorem yJo {a1 : Adr} : FWA [adrE a1] = some (Res.flat (.tup [.st (zBT a1).1, .it .i64 (zBT a1).2])) := mkFe (s := (a1)) trivial
theorem yG0 (cx : Cx) (hP : cx.P = Tryz.prog) (hbs : cx.bs = 0) (h131 : cx.orc 131 = some zKv) (h204 : cx.orc 204 = some FOct) (r131 : cx.rd.contains 131 = true) (r204 : cx.rd.contains 204 = true) (a1 : Adr)  : zAg cx Tryz.f189 [] false [adrE a1] = some (Res.flat (.tup [.st (zBT a1).1, .it .i64 (zBT a1).2])) := by
 have c131 := zAa h131
 have d131 := zAo r131 h131
 have c204 := zAa h204
 have d204 := zAo r204 h204
 refine zAf (rs := [.tmp 2, .tmp 3]) rfl hbs rfl ?_
 repeat' first
   | (refine bN (fun h => ?_) fun h => ?_)
   | (refine zAI ?_ ?_)
   | simp only [↓cD, cU, cQ, cP, cB, zAD, unD, zAe, zAd, idx, reduceCtorEq, ↓reduceIte, ofV, ofC, zAq, Nat.reduceEqDiff, zAB, cG, implies_true, forall_const, immL, immD, Res.flat, ren, renL, Int.reduceEq, Int.reduceLT, Int.reduceLE, Int.reduceNe, deref, ldD, zAA, zAh, zAC, zAs, cC, cS, refs, zAy, okId, tAs, tAq, Nat.reduceMul, Nat.reduceAdd, Nat.reduceLeDiff, zAp, c131, c204, d131, d204, zAi, zAk, zHp, yFX, ↓zAH, ↓zAL, ↓zAG, ↓zAK, ↓zAF, ↓zAJ, cV, cT, cF, cW, borT, borM, zAl, Res.via, zAt, zAb, refsB, Nat.reduceLT, Nat.reduceSub, Nat.reduceLeDiff, Nat.reduceMul, Nat.reduceAdd, Int.reduceToNat, appK, zAr, zAc, borL, zAj, zAm, zAz, cO, List.replicate, zAx, ofHp, ixOf, cS, refs, zAy, okId, tAs, tAq, Nat.reduceMul, Nat.reduceAdd, Nat.reduceLeDiff, zAp, hP, *]
 all_goals first
   | rfl
   | (simp only [tAh, zBx]; omega)
   | (simp [zBT, *]; done)
   | (subst_vars; simp [zBT, *]; done)
noncomputable def FWD := mkF (fun s : Int × Dat => [.it .i64 s.1, datE s.2]) (fun s => DSm s.2) (fun s => Res.flat (.tup [.st (zAT s.1 s.2).1, .it .i64 (zAT s.1 s.2).2]))
theorem yBS {t1 : Int} {d1 : Dat} (hp : DSm d1) : FWD [.it .i64 t1, datE d1] = some (Res.flat (.tup [.st (zAT t1 d1).1, .it .i64 (zAT t1 d1).2])) := mkFe (s := (t1, d1)) hp
theorem yGZ (cx : Cx) (hP : cx.P = Tryz.prog) (hbs : cx.bs = 0) (h101 : cx.orc 101 = some zIC) (h102 : cx.orc 102 = some FVD) (h189 : cx.orc 189 = some FWA) (h190 : cx.orc 190 = some FWN) (h191 : cx.orc 191 = some FNum) (h192 : cx.orc 192 = some FBm) (r101 : cx.rd.contains 101 = true) (r102 : cx.rd.contains 102 = true) (r189 : cx.rd.contains 189 = true) (r190 : cx.rd.contains 190 = true) (r191 : cx.rd.contains 191 = true) (r192 : cx.rd.contains 192 = true) (t1 : Int) (d1 : Dat) (hl : DSm d1) : zAg cx Tryz.f168 [] false [.it .i64 t1, datE d1] = some (Res.flat (.tup [.st (zAT t1 d1).1, .it .i64 (zAT t1 d1).2])) := by
 have c101 := zAa h101
 have d101 := zAo r101 h101
 have c102 := zAa h102
 have d102 := zAo r102 h102
 have c189 := zAa h189
 have d189 := zAo r189 h189
 have c190 := zAa h190
 have d190 := zAo r190 h190
 have c191 := zAa h191
 have d191 := zAo r191 h191
 have c192 := zAa h192
 have d192 := zAo r192 h192
 have hl1 := hl.1; have hl2 := hl.2.1; have hl3 := hl.2.2.1
 refine zAf (rs := [.tmp 4, .tmp 5]) rfl hbs rfl ?_
 repeat' first
   | (refine bN (fun h => ?_) fun h => ?_)
   | (refine zAI ?_ ?_)
   | simp only [↓cD, cU, cQ, cP, cB, zAD, unD, zAe, zAd, idx, reduceCtorEq, ↓reduceIte, ofV, ofC, zAq, Nat.reduceEqDiff, zAB, cG, implies_true, forall_const, immL, immD, Res.flat, ren, renL, Int.reduceEq, Int.reduceLT, Int.reduceLE, Int.reduceNe, deref, ldD, zAA, zAh, zAC, zAs, cC, cS, refs, zAy, okId, tAs, tAq, Nat.reduceMul, Nat.reduceAdd, Nat.reduceLeDiff, zAp, c101, c102, c189, c190, c191, c192, d101, d102, d189, d190, d191, d192, zAi, zAk, zF6, zP4, yJo, yJn, zWN, yJv, ↓zAH, ↓zAL, ↓zAG, ↓zAK, ↓zAF, ↓zAJ, cV, cT, cF, cW, borT, borM, zAl, Res.via, zAt, zAb, refsB, Nat.reduceLT, Nat.reduceSub, Nat.reduceLeDiff, Nat.reduceMul, Nat.reduceAdd, Int.reduceToNat, appK, zAr, zAc, borL, zAj, zAm, zAz, cO, List.replicate, zAx, ofHp, ixOf, cS, refs, zAy, okId, tAs, tAq, Nat.reduceMul, Nat.reduceAdd, Nat.reduceLeDiff, zAp, hl1, hl2, hl3, lens Tryz.underlying9, hP, *]
 all_goals first
   | rfl
   | (simp only [tAh, zBx]; omega)
   | (have := zDD d1.host; have := zDD d1.mail; have := zNz d1.bits; (try simp only [tAh, zBx]); omega)
   | (simp [zAT, *]; done)
   | (subst_vars; simp [zAT, *]; done)
noncomputable def FCD := mkF (fun s : Int × Dat × Dat => [.it .i64 s.1, datE s.2.1, datE s.2.2]) (fun s => DSm s.2.1 ∧ DSm s.2.2) (fun s => Res.flat (.it .i64 (cmpD s.1 s.2.1 s.2.2)))
theorem yBU {t1 : Int} {d1 : Dat} {e1 : Dat} (hp : DSm d1 ∧ DSm e1) : FCD [.it .i64 t1, datE d1, datE e1] = some (Res.flat (.it .i64 (cmpD t1 d1 e1))) := mkFe (s := (t1, d1, e1)) hp
theorem yHb (cx : Cx) (hP : cx.P = Tryz.prog) (hbs : cx.bs = 0) (h168 : cx.orc 168 = some FWD) (t1 : Int) (d1 e1 : Dat) (hl : DSm d1 ∧ DSm e1) : zAg cx Tryz.f137 [] false [.it .i64 t1, datE d1, datE e1] = some (Res.flat (.it .i64 (cmpD t1 d1 e1))) := by
 have c168 := zAa h168
 have hl1 := hl.1; have hl2 := hl.2
 refine zAf (rs := [.tmp 6]) rfl hbs rfl ?_
 repeat' first
   | (refine bN (fun h => ?_) fun h => ?_)
   | (refine zAI ?_ ?_)
   | simp only [↓cD, cU, cQ, cP, cB, zAD, unD, zAe, zAd, idx, reduceCtorEq, ↓reduceIte, ofV, ofC, zAq, Nat.reduceEqDiff, zAB, cG, implies_true, forall_const, immL, immD, Res.flat, ren, renL, Int.reduceEq, Int.reduceLT, Int.reduceLE, Int.reduceNe, deref, ldD, zAA, zAh, zAC, zAs, cC, c168, zAi, zAk, yBS, ↓zAH, ↓zAL, ↓zAG, ↓zAK, ↓zAF, ↓zAJ, cV, cT, cF, cW, borT, borM, zAl, Res.via, zAt, zAb, refsB, Nat.reduceLT, Nat.reduceSub, Nat.reduceLeDiff, Nat.reduceMul, Nat.reduceAdd, Int.reduceToNat, appK, zAr, zAc, borL, zAj, zAm, zAz, cO, List.replicate, zAx, ofHp, ixOf, hl1, hl2, hP, *]
 all_goals first
   | rfl
   | (simp [cmpD, zA9, *]; done)
def RSm (r : Rec) : Prop := Sm r.name ∧ DSm r.dat
def LSm (l : List Rec) : Prop := l.length ≤ 1000000 ∧ ∀ r ∈ l, RSm r
theorem LSm.at {l : List Rec} (h : LSm l) {i : Nat} (hi : (i : Int) < l.length) : RSm l[i]! := h.2 _ (zBu hi)
theorem LSm.sm {l : List Rec} (h : LSm l) : Sm l := by have := h.1; simp only [Sm]; omega
def zBN (r : Rec) : Bool := vName r.name && (known r.typ && (decide (0 ≤ r.ttl) && (decide (r.ttl ≤ 2147483647) && validD r.typ r.dat)))
def numC (a b : Int) : Int := if a < b then -1 else if b < a then 1 else 0
def zAw (a b : Rec) : Int := if ¬ cmpB a.name b.name = 0 then cmpB a.name b.name else if ¬ numC a.typ b.typ = 0 then numC a.typ b.typ else cmpD a.typ a.dat b.dat
def cmpR (a b : Rec) : Int := if ¬ zAw a b = 0 then zAw a b else numC a.ttl b.ttl
def zBA (l : List Rec) (n : List UInt8) (t : Int) : List Rec := l.filter fun r => r.name == n && decide (r.typ = t)

noncomputable def FVR := mkF (fun s : Rec => [recE s]) (fun s => RSm s) (fun s => Res.flat (.bo (zBN s)))
theorem zMe {r1 : Rec} (hp : RSm r1) : FVR [recE r1] = some (Res.flat (.bo (zBN r1))) := mkFe (s := (r1)) hp
theorem yG1 (cx : Cx) (hP : cx.P = Tryz.prog) (hbs : cx.bs = 0) (h59 : cx.orc 59 = some zF2) (h101 : cx.orc 101 = some zIC) (h102 : cx.orc 102 = some FVD) (r1 : Rec) (hl : RSm r1) : zAg cx Tryz.f67 [] false [recE r1] = some (Res.flat (.bo (zBN r1))) := by
 have c59 := zAa h59
 have c101 := zAa h101
 have c102 := zAa h102
 have hl1 := hl.1; have hl2 := hl.2
 refine zAf (rs := [.tmp 2]) rfl hbs rfl ?_
 repeat' first
   | (refine bN (fun h => ?_) fun h => ?_)
   | (refine zAI ?_ ?_)
   | simp only [↓cD, cU, cQ, cP, cB, zAD, unD, zAe, zAd, idx, reduceCtorEq, ↓reduceIte, ofV, ofC, zAq, Nat.reduceEqDiff, zAB, cG, implies_true, forall_const, immL, immD, Res.flat, ren, renL, Int.reduceEq, Int.reduceLT, Int.reduceLE, Int.reduceNe, deref, ldD, zAA, zAh, zAC, zAs, cC, c59, c101, c102, zAi, zAk, zDQ, zF6, zP4, ↓zAH, ↓zAL, ↓zAG, ↓zAK, ↓zAF, ↓zAJ, cV, cT, cF, cW, borT, borM, zAl, Res.via, zAt, zAb, refsB, Nat.reduceLT, Nat.reduceSub, Nat.reduceLeDiff, Nat.reduceMul, Nat.reduceAdd, Int.reduceToNat, appK, zAr, zAc, borL, zAj, zAm, zAz, cO, List.replicate, zAx, ofHp, ixOf, hl1, hl2, hP, *]
 all_goals first
   | rfl
   | (simp [zBN, *]; done)
   | (simp [zBN, *]; omega)
noncomputable def zKz := mkF (fun s : Int × Int => [.it .i64 s.1, .it .i64 s.2]) (fun s => True) (fun s => Res.flat (.it .i64 (numC s.1 s.2)))
theorem zHs {a1 : Int} {b1 : Int} : zKz [.it .i64 a1, .it .i64 b1] = some (Res.flat (.it .i64 (numC a1 b1))) := mkFe (s := (a1, b1)) trivial
theorem zS7 (cx : Cx) (hP : cx.P = Tryz.prog) (hbs : cx.bs = 0) (a1 b1 : Int)  : zAg cx Tryz.f128 [] false [.it .i64 a1, .it .i64 b1] = some (Res.flat (.it .i64 (numC a1 b1))) := by
 refine zAf (rs := [.tmp 4]) rfl hbs rfl ?_
 repeat' first
   | (refine bN (fun h => ?_) fun h => ?_)
   | (refine zAI ?_ ?_)
   | simp only [↓cD, cU, cQ, cP, cB, zAD, unD, zAe, zAd, idx, reduceCtorEq, ↓reduceIte, ofV, ofC, zAq, Nat.reduceEqDiff, zAB, cG, implies_true, forall_const, immL, immD, Res.flat, ren, renL, Int.reduceEq, Int.reduceLT, Int.reduceLE, Int.reduceNe, deref, ldD, zAA, zAh, zAC, zAs, cC, ↓zAH, ↓zAL, ↓zAG, ↓zAK, ↓zAF, ↓zAJ, cV, cT, cF, cW, borT, borM, zAl, Res.via, zAt, zAb, refsB, Nat.reduceLT, Nat.reduceSub, Nat.reduceLeDiff, Nat.reduceMul, Nat.reduceAdd, Int.reduceToNat, appK, zAr, zAc, borL, zAj, zAm, zAz, cO, List.replicate, zAx, ofHp, ixOf, hP, *]
 all_goals first
   | rfl
   | (simp [numC, *]; done)
   | (simp [numC, *]; omega)
noncomputable def zEn := mkF (fun s : Rec × Rec => [recE s.1, recE s.2]) (fun s => RSm s.1 ∧ RSm s.2) (fun s => Res.flat (.it .i64 (zAw s.1 s.2)))
theorem zDd {r1 : Rec} {r2 : Rec} (hp : RSm r1 ∧ RSm r2) : zEn [recE r1, recE r2] = some (Res.flat (.it .i64 (zAw r1 r2))) := mkFe (s := (r1, r2)) hp
theorem zOH (cx : Cx) (hP : cx.P = Tryz.prog) (hbs : cx.bs = 0) (h136 : cx.orc 136 = some zNS) (h128 : cx.orc 128 = some zKz) (h137 : cx.orc 137 = some FCD) (r1 r2 : Rec) (hl : RSm r1 ∧ RSm r2) : zAg cx Tryz.f103 [] false [recE r1, recE r2] = some (Res.flat (.it .i64 (zAw r1 r2))) := by
 have c136 := zAa h136
 have c128 := zAa h128
 have c137 := zAa h137
 have hl1 := hl.1.1; have hl2 := hl.1.2; have hl3 := hl.2.1; have hl4 := hl.2.2; have hl5 := hl.1; have hl6 := hl.2
 refine zAf (rs := [.tmp 4]) rfl hbs rfl ?_
 repeat' first
   | (refine bN (fun h => ?_) fun h => ?_)
   | (refine zAI ?_ ?_)
   | simp only [↓cD, cU, cQ, cP, cB, zAD, unD, zAe, zAd, idx, reduceCtorEq, ↓reduceIte, ofV, ofC, zAq, Nat.reduceEqDiff, zAB, cG, implies_true, forall_const, immL, immD, Res.flat, ren, renL, Int.reduceEq, Int.reduceLT, Int.reduceLE, Int.reduceNe, deref, ldD, zAA, zAh, zAC, zAs, cC, c136, c128, c137, zAi, zAk, zQv, zHs, yBU, ↓zAH, ↓zAL, ↓zAG, ↓zAK, ↓zAF, ↓zAJ, cV, cT, cF, cW, borT, borM, zAl, Res.via, zAt, zAb, refsB, Nat.reduceLT, Nat.reduceSub, Nat.reduceLeDiff, Nat.reduceMul, Nat.reduceAdd, Int.reduceToNat, appK, zAr, zAc, borL, zAj, zAm, zAz, cO, List.replicate, zAx, ofHp, ixOf, hl1, hl2, hl3, hl4, hP, *]
 all_goals first
   | rfl
   | (simp [zAw, *]; done)
   | (simp [zAw, *]; omega)
noncomputable def zGP := mkF (fun s : Rec × Rec => [recE s.1, recE s.2]) (fun s => RSm s.1 ∧ RSm s.2) (fun s => Res.flat (.it .i64 (cmpR s.1 s.2)))
theorem zCB {r1 : Rec} {r2 : Rec} (hp : RSm r1 ∧ RSm r2) : zGP [recE r1, recE r2] = some (Res.flat (.it .i64 (cmpR r1 r2))) := mkFe (s := (r1, r2)) hp
def eqL (a b : List Rec) : Bool := decide (a = b)
noncomputable def FEq := mkF (fun s : (List Rec) × (List Rec) => [zAn s.1, zAn s.2]) (fun s => s.1.length ≤ 1000000 ∧ s.2.length ≤ 1000000) (fun s => Res.flat (.bo (eqL s.1 s.2)))
theorem zQr {a : List Rec} {b : List Rec} (hp : a.length ≤ 1000000 ∧ b.length ≤ 1000000) : FEq [zAn a, zAn b] = some (Res.flat (.bo (eqL a b))) := mkFe (s := (a, b)) hp
theorem zGz {a b : List Rec} {i : Nat} (ha : (i : Int) < a.length) (hb : (i : Int) < b.length) : (a.drop i = b.drop i) = (a[i]! = b[i]! ∧ a.drop (i + 1) = b.drop (i + 1)) := by
 rw [drop_at (zs := a) ha, drop_at (zs := b) hb, tAv]

theorem yHa (cx : Cx) (hP : cx.P = Tryz.prog) (hbs : cx.bs = 0) (hk4 : cx.kp 4 = some [0, 1, 5]) (a b : List Rec) (hl : a.length ≤ 1000000 ∧ b.length ≤ 1000000) : zAg cx Tryz.f68 [] false [zAn a, zAn b] = some (Res.flat (.bo (eqL a b))) := by
 have hw : ∀ k : Nat, (k : Int) < a.length → IntKind.i64.wrap ((k : Int) + 1) = ((k + 1 : Nat) : Int) := zBF (by omega)
 refine zAf (rs := [.tmp 4]) rfl hbs rfl ?_
 repeat' first
   | (refine zAU (σ := Nat) (fun s4 => [zAn a, zAn b, .it .i64 s4]) (fun s4 => s4 ≤ a.length ∧ (a.drop s4 = b.drop s4 ↔ a = b)) (fun s4 => a.length - s4) [0, 1, 5] hbs (by exact hk4) (fun s4 => by simp only [zAp, refs, zAZ, zA0, zA5, tAo]) (fun s4 j4 => ?_) (s := 0) ?_ ?_)
   | (refine bN (fun h => ?_) fun h => ?_)
   | (refine zAI ?_ ?_)
   | simp only [↓cD, cU, cQ, cP, cB, zAD, unD, zAe, zAd, idx, reduceCtorEq, ↓reduceIte, ofV, ofC, zAq, Nat.reduceEqDiff, zAB, cG, implies_true, forall_const, immL, immD, Res.flat, ren, renL, Int.reduceEq, Int.reduceLT, Int.reduceLE, Int.reduceNe, deref, ldD, zAA, zAh, zAC, zAs, cC, cS, refs, zAy, okId, tAs, tAq, Nat.reduceMul, Nat.reduceAdd, Nat.reduceLeDiff, zAp, ↓zAH, ↓zAL, ↓zAG, ↓zAK, ↓zAF, ↓zAJ, cV, cT, cF, cW, borT, borM, zAl, Res.via, zAt, zAb, refsB, Nat.reduceLT, Nat.reduceSub, Nat.reduceLeDiff, Nat.reduceMul, Nat.reduceAdd, Int.reduceToNat, appK, zAr, zAc, borL, zAj, zAm, zAz, cO, List.replicate, zAx, ofHp, ixOf, cS, refs, zAy, okId, tAs, tAq, Nat.reduceMul, Nat.reduceAdd, Nat.reduceLeDiff, zAp, hw, hP, *]
 all_goals (try simp only [eqL])
 all_goals first
   | rfl
   | exact ⟨tAL _, Iff.rfl⟩
   | (refine ⟨_, rfl, ⟨by omega, ?_⟩, by omega⟩; rw [zGz (by omega) (by omega)] at j4; simp only [*, true_and] at j4; exact j4.2)
   | omega
   | (have hne : a ≠ b := fun e => (by have hq := j4.2.2 e; rw [zGz (by omega) (by omega)] at hq; exact (‹¬ _› : ¬ a[s4]! = b[s4]!) hq.1); rw [decide_eq_false hne])
   | (rw [zBE (zs := a) (by omega), zBE (zs := b) (by omega)] at j4; simp [j4.2.1 rfl]; done)
   | (have hne : a ≠ b := fun e => (by subst e; omega); rw [decide_eq_false hne])
noncomputable def zNR := mkF (fun s : (List Rec) × (List UInt8) × Int => [zAn s.1, .st s.2.1, .it .i64 s.2.2]) (fun s => s.1.length ≤ 1000000) (fun s => Res.row 16 ((zBA s.1 s.2.1 s.2.2).map recE))
theorem zHt {a : List Rec} {s1 : List UInt8} {t1 : Int} (hp : a.length ≤ 1000000) : zNR [zAn a, .st s1, .it .i64 t1] = some (Res.row 16 ((zBA a s1 t1).map recE)) := mkFe (s := (a, s1, t1)) hp
theorem zTp (cx : Cx) (hP : cx.P = Tryz.prog) (hbs : cx.bs = 0) (hk3 : cx.kp 3 = some [0, 1, 2, 7, 8]) (a : List Rec) (s1 : List UInt8) (t1 : Int) (hl : a.length ≤ 1000000) : zAg cx Tryz.f66 [0] false [zAn a, .st s1, .it .i64 t1] = some (Res.row 16 ((zBA a s1 t1).map recE)) := by
 have hw : ∀ k : Nat, (k : Int) < a.length → IntKind.i64.wrap ((k : Int) + 1) = ((k + 1 : Nat) : Int) := zBF (by omega)
 refine zCv (rs := [.tmp 6]) rfl hbs rfl ?_
 repeat' first
   | (refine zAv (σ := Nat) (fun s => [zAn a, .st s1, .it .i64 t1, .own 0 0 (zBA (a.take s) s1 t1).length, .it .i64 s]) (fun s => [.row 16 true ((zBA (a.take s) s1 t1).map recE)]) (fun s => s ≤ a.length) (fun s => a.length - s) [0, 1, 2, 7, 8] hbs (by exact hk3) (fr1 fun _ => zA2 (fun _ => rfl)) (fun s js => ?_) (s := 0) [1] ?_ ?_ ?_ ?_ ?_)
   | (refine bN (fun h => ?_) fun h => ?_)
   | (refine zAI ?_ ?_)
   | simp only [↓cD, cU, cQ, cP, cB, zAD, unD, zAe, zAd, idx, reduceCtorEq, ↓reduceIte, ofV, ofC, zAq, Nat.reduceEqDiff, zAB, cG, implies_true, forall_const, immL, immD, Res.flat, ren, renL, Int.reduceEq, Int.reduceLT, Int.reduceLE, Int.reduceNe, deref, ldD, zAA, zAh, zAC, zAs, cC, ↓zAH, ↓zAL, ↓zAG, ↓zAK, ↓zAF, ↓zAJ, cV, cT, cF, cW, borT, borM, zAl, Res.via, zAt, zAb, refsB, Nat.reduceLT, Nat.reduceSub, Nat.reduceLeDiff, Nat.reduceMul, Nat.reduceAdd, Int.reduceToNat, appK, zAr, zAc, borL, zAj, zAm, zAz, cO, List.replicate, zAx, ofHp, ixOf, hw, hP, *]
 all_goals first
   | rfl
   | omega
   | (have hq : (zBA (a.take s) s1 t1).length ≤ (a.take s).length := tBU _ _; rw [tAk] at hq; omega)
   | (refine ⟨[0], s + 1, ?_, ?_, ?_, ?_, by omega, by omega⟩ <;> (try rw [show zBA (a.take (s + 1)) s1 t1 = zBA (a.take s) s1 t1 from zNc (by omega) (by rw [Bool.and_eq_false_iff]; first | exact .inl ‹_› | exact .inr (decide_eq_false ‹_›))]) <;> (first | rfl | (simp only [zAp, refs, ren, cR, Nat.reduceEqDiff, ofHp, ixOf]; first | rfl | (simp; done))))
   | (refine ⟨[2], s + 1, ?_, ?_, ?_, ?_, by omega, by omega⟩ <;> (try rw [show zBA (a.take (s + 1)) s1 t1 = zBA (a.take s) s1 t1 ++ [a[s]!] from zH5 (by omega) (by rw [tAd]; exact ⟨‹_›, decide_eq_true ‹_›⟩)]) <;> (first | rfl | (simp only [zAp, refs, ren, cR, Nat.reduceEqDiff, ofHp, ixOf]; first | rfl | (simp; done))))
   | (first | rfl | (simp only [zAp, refs, ren, cR, Nat.reduceEqDiff, ofHp, ixOf]; first | rfl | (simp; done)))
   | (rw [zAS (by omega)]; exact ⟨_, _, _, _, rfl, rfl, by simp, zBJ (fun _ => rfl), rfl⟩)
def posR : List Rec → Rec → Nat
 | [], _ => 0
 | y :: r, x => if zAw y x < 0 then posR r x + 1 else 0
def insR (out : List Rec) (x : Rec) : List Rec := if (posR out x : Int) < out.length ∧ zAw out[posR out x]! x = 0 then (if x.ttl < (out[posR out x]!).ttl then out.set (posR out x) x else out) else out.take (posR out x) ++ x :: out.drop (posR out x)
def zAV (l : List Rec) : List Rec := l.foldl insR []
theorem zGj {l : List Rec} {i : Nat} (h : (i : Int) < l.length) : zAV (l.take (i + 1)) = insR (zAV (l.take i)) l[i]! := by
 unfold zAV
 rw [takeN h, List.foldl_append]; rfl
theorem zPu {out : List Rec} {x y : Rec} (h : y ∈ insR out x) : y = x ∨ y ∈ out := by
 unfold insR at h
 split at h
 · split at h
   · rcases tBr h with h | h
     · exact .inr h
     · exact .inl h
   · exact .inr h
 · rcases tAz.1 h with h | h
   · exact .inr (tAS h)
   · rcases tAr.1 h with h | h
     · exact .inl h
     · exact .inr (tA2 h)
theorem zLK : ∀ (l out : List Rec) (y : Rec), y ∈ l.foldl insR out → y ∈ l ∨ y ∈ out
 | [], out, y, h => .inr h
 | x :: r, out, y, h => by
   rcases zLK r _ y h with h | h
   · exact .inl (by simp [h])
   · rcases zPu h with rfl | h
     · exact .inl (by simp)
     · exact .inr h
theorem zSJ {l : List Rec} {y : Rec} (h : y ∈ zAV l) : y ∈ l := by
 rcases zLK l [] y h with h | h
 · exact h
 · cases h
theorem zYT (out : List Rec) (x : Rec) : (insR out x).length ≤ out.length + 1 := by
 unfold insR
 split
 · split
   · rw [tBC]; omega
   · omega
 · simp only [tAh, tAp, tAk, tAx]; omega
theorem zLL : ∀ (l out : List Rec), (l.foldl insR out).length ≤ out.length + l.length
 | [], out => tAl _
 | x :: r, out => by
   have h1 := zLL r (insR out x)
   have h2 := zYT out x
   show ((r.foldl insR (insR out x))).length ≤ _
   rw [tAp]; omega
theorem zHK (l : List Rec) : (zAV l).length ≤ l.length := by have := zLL l []; simpa [zAV] using this
theorem LSm.sort {l : List Rec} (h : LSm l) : LSm (zAV l) := ⟨Nat.le_trans (zHK l) h.1, fun r hr => h.2 r (zSJ hr)⟩
theorem LSm.take {l : List Rec} (h : LSm l) (i : Nat) : LSm (l.take i) := ⟨by have := h.1; rw [tAk]; omega, fun r hr => h.2 r (tAS hr)⟩
theorem yHj {out : List Rec} {x : Rec} {s : Nat} (h : (s : Int) < out.length) (hf : zAw out[s]! x < 0) : posR (out.drop s) x = posR (out.drop (s + 1)) x + 1 := by
 rw [drop_at (zs := out) h]; simp only [posR, hf, if_true]
theorem zX4 {out : List Rec} {x : Rec} {s : Nat} (h : (s : Int) < out.length) (hf : ¬ zAw out[s]! x < 0) : posR (out.drop s) x = 0 := by
 rw [drop_at (zs := out) h]; simp only [posR, hf, if_false]
theorem yC2 {out : List Rec} {x : Rec} {s : Nat} (h : ¬ (s : Int) < out.length) : posR (out.drop s) x = 0 := by
 rw [zBE (zs := out) h]; rfl
theorem yEo {out : List Rec} {x : Rec} {s : Nat} (hp : s = posR out x) (h : (s : Int) < out.length) (hf : zAw out[s]! x = 0) (ht : x.ttl < (out[s]!).ttl) : insR out x = out.set s x := by
 subst hp; unfold insR; rw [if_pos ⟨h, hf⟩, if_pos ht]
theorem zYN {out : List Rec} {x : Rec} {s : Nat} (hp : s = posR out x) (h : (s : Int) < out.length) (hf : zAw out[s]! x = 0) (ht : ¬ x.ttl < (out[s]!).ttl) : insR out x = out := by
 subst hp; unfold insR; rw [if_pos ⟨h, hf⟩, if_neg ht]
theorem yEp {out : List Rec} {x : Rec} {s : Nat} (hp : s = posR out x) (h : ¬ ((s : Int) < out.length ∧ zAw out[s]! x = 0)) : insR out x = out.take s ++ x :: out.drop s := by
 subst hp; unfold insR; rw [if_neg h]

noncomputable def zWG := mkF (fun s : (List Rec) => [zAn s]) (fun s => LSm s) (fun s => Res.row 16 ((zAV s).map recE))
theorem zP7 {a : List Rec} (hp : LSm a) : zWG [zAn a] = some (Res.row 16 ((zAV a).map recE)) := mkFe (s := (a)) hp
theorem zSW (cx : Cx) (hP : cx.P = Tryz.prog) (hbs : cx.bs = 0) (h103 : cx.orc 103 = some zEn) (r103 : cx.rd.contains 103 = true) (hk3 : cx.kp 3 = some [0, 3, 4]) (hk6 : cx.kp 6 = some [0, 3, 4, 5]) (a : List Rec) (hl : LSm a) : zAg cx Tryz.f69 [0] false [zAn a] = some (Res.row 16 ((zAV a).map recE)) := by
 have c103 := zAa h103
 have d103 := zAo r103 h103
 have hw : ∀ k : Nat, (k : Int) < a.length → IntKind.i64.wrap ((k : Int) + 1) = ((k + 1 : Nat) : Int) := zBF hl.sm
 have hw2 : ∀ i k : Nat, (k : Int) < (zAV (a.take i)).length → IntKind.i64.wrap ((k : Int) + 1) = ((k + 1 : Nat) : Int) := fun i => zBF (hl.take i).sort.sm
 have hel : ∀ (l : List Rec) (k : Nat), (k : Int) < l.length → (l.map recE)[k]? = some (recE l[k]!) := fun l k h => getm (by omega)
 have hs1 : ∀ k : Nat, (k : Int) < a.length → RSm a[k]! := fun k h => hl.at h
 have hs2 : ∀ i k : Nat, (k : Int) < (zAV (a.take i)).length → RSm (zAV (a.take i))[k]! := fun i k h => (hl.take i).sort.at h
 refine zCv (rs := [.tmp 2]) rfl hbs rfl ?_
 repeat' first
   | (refine zAv (σ := Nat) (fun i => [zAn a, .own 0 0 (zAV (a.take i)).length, .it .i64 i]) (fun i => [.row 16 true ((zAV (a.take i)).map recE)]) (fun i => i ≤ a.length) (fun i => a.length - i) [0, 3, 4] hbs (by exact hk3) (fr1 fun _ => zA2 (fun _ => rfl)) (fun i ji => ?_) (s := 0) [1] ?_ ?_ ?_ ?_ ?_)
   | (refine zAv (σ := Nat) (fun s => [zAn a, .own 0 0 (zAV (a.take i)).length, .it .i64 i, .it .i64 s]) (fun s => [.row 16 true ((zAV (a.take i)).map recE)]) (fun s => s ≤ (zAV (a.take i)).length ∧ s + posR ((zAV (a.take i)).drop s) a[i]! = posR (zAV (a.take i)) a[i]!) (fun s => (zAV (a.take i)).length - s) [0, 3, 4, 5] hbs (by exact hk6) (fr1 fun _ => zA2 (fun _ => rfl)) (fun s js => ?_) (s := 0) [0] ?_ ?_ ?_ ?_ ?_)
   | (refine bN (fun h => ?_) fun h => ?_)
   | (refine zAI ?_ ?_)
   | simp only [↓cD, cU, cQ, cP, cB, zAD, unD, zAe, zAd, idx, reduceCtorEq, ↓reduceIte, ofV, ofC, zAq, Nat.reduceEqDiff, zAB, cG, implies_true, forall_const, immL, immD, Res.flat, ren, renL, Int.reduceEq, Int.reduceLT, Int.reduceLE, Int.reduceNe, deref, ldD, zAA, zAh, zAC, zAs, cC, cS, refs, zAy, okId, tAs, tAq, Nat.reduceMul, Nat.reduceAdd, Nat.reduceLeDiff, zAp, c103, d103, zAi, zAk, zDd, ↓zAH, ↓zAL, ↓zAG, ↓zAK, ↓zAF, ↓zAJ, cV, cT, cF, cW, borT, borM, zAl, Res.via, zAt, zAb, refsB, Nat.reduceLT, Nat.reduceSub, Nat.reduceLeDiff, Nat.reduceMul, Nat.reduceAdd, Int.reduceToNat, appK, zAr, zAc, borL, zAj, zAm, zAz, cO, List.replicate, zAx, ofHp, ixOf, cS, refs, zAy, okId, tAs, tAq, Nat.reduceMul, Nat.reduceAdd, Nat.reduceLeDiff, zAp, hw, hw2, hel, hs1, hs2, zLd, zUm, hP, *]
 all_goals first
   | rfl
   | omega
   | exact ⟨tAL _, by rw [tBv]; omega⟩
   | (refine ⟨[0], s + 1, ?_, ?_, ?_, ?_, ⟨by omega, by rw [yHj (by omega) ‹_›] at js; omega⟩, by omega⟩ <;> (try rw [hw2 i s (by omega)]) <;> (first | rfl | (simp only [zAp, refs, ren, cR, Nat.reduceEqDiff, ofHp, ixOf]; first | rfl | (simp; done))))
   | (have e := zHK (a.take i); rw [tAk] at e; have := hl.1; simp only [tAk, tAx, tAI]; omega)
   | (have hp : s = posR (zAV (a.take i)) a[i]! := (by have e := js.2; (first | rw [zX4 (by omega) ‹_›] at e | rw [yC2 (by omega)] at e); omega)
      first
      | (have e2 : zAV (a.take (i + 1)) = (zAV (a.take i)).set s a[i]! := (by rw [zGj (by omega), yEo hp (by omega) ‹_› ‹_›]); refine ⟨[0], i + 1, ?_, ?_, ?_, ?_, by omega, by omega⟩ <;> (try rw [e2]) <;> (try rw [tBC]) <;> (first | rfl | (simp only [zAp, refs, ren, cR, Nat.reduceEqDiff, ofHp, ixOf]; first | rfl | (simp; done))))
      | (have e2 : zAV (a.take (i + 1)) = zAV (a.take i) := (by rw [zGj (by omega), zYN hp (by omega) ‹_› ‹_›]); refine ⟨[0], i + 1, ?_, ?_, ?_, ?_, by omega, by omega⟩ <;> (try rw [e2]) <;> (first | rfl | (simp only [zAp, refs, ren, cR, Nat.reduceEqDiff, ofHp, ixOf]; first | rfl | (simp; done))))
      | (have e2 : zAV (a.take (i + 1)) = (zAV (a.take i)).take s ++ a[i]! :: (zAV (a.take i)).drop s := (by rw [zGj (by omega), yEp hp (by rintro ⟨h1, h2⟩; first | exact absurd h2 ‹_› | omega)])
         have e3 : List.take ((zAV (a.take i)).length - s) (List.drop s (List.map recE (zAV (a.take i)))) = List.map recE ((zAV (a.take i)).drop s) := (by rw [← List.map_drop, tAM (by simp)])
         have e4 : List.take s (List.map recE (zAV (a.take i))) = List.map recE ((zAV (a.take i)).take s) := (by rw [tB1])
         have e5 : ((zAV (a.take i)).take s).length + 1 + ((zAV (a.take i)).drop s).length = ((zAV (a.take i)).take s).length + (((zAV (a.take i)).drop s).length + 1) := (by omega)
         simp only [e3, e4]
         refine ⟨[2053], i + 1, ?_, ?_, ?_, ?_, by omega, by omega⟩ <;> (try simp only [e2, tBE, tAO, tAm, tBi, tAJ, tAh, tAp, tAI]) <;> (try rw [e5]) <;> first | (first | rfl | (simp only [zAp, refs, ren, cR, Nat.reduceEqDiff, ofHp, ixOf]; first | rfl | (simp; done)))))
   | (rw [zAS (by omega)]; exact ⟨_, _, _, _, rfl, rfl, by simp, zBJ (fun _ => rfl), rfl⟩)
   | (first | rfl | (simp only [zAp, refs, ren, cR, Nat.reduceEqDiff, ofHp, ixOf]; first | rfl | (simp; done)))
def ZSm (z : Zone) : Prop := Sm z.origin ∧ LSm z.recs
def belowB (n top : List UInt8) : Bool := !(n == top) && underB n top
def hasR (l : List Rec) (n : List UInt8) (t : Int) : Bool := decide (0 < ((zBA l n t).length : Int))
def zBW (z : Zone) : Int := if ((zBA z.recs z.origin 6).length : Int) = 0 then 0 else ((zBA z.recs z.origin 6)[0]!).dat.a
theorem zCC (z : Zone) : zBn (.box (zBQ z)) := by intro x hx; simp [zBQ] at hx; rcases hx with rfl | rfl <;> rfl
theorem zGW (r : Rec) : zBn (.box (recL r)) := by intro x hx; simp [recL] at hx; rcases hx with rfl | rfl | rfl | rfl | rfl | rfl | rfl | rfl | rfl | rfl | rfl | rfl | rfl | rfl | rfl | rfl <;> rfl
def besX (r x : Rec) : Bool := if ¬ x.name = r.name then true else if x.typ = r.typ ∧ ¬ r.typ = 46 ∧ ¬ x.ttl = r.ttl then false else
 if x.typ = r.typ ∧ single r.typ = true ∧ ¬ x = r then false else if r.typ = 5 ∧ ¬ x.typ = 5 ∧ ¬ x.typ = 46 ∧ ¬ x.typ = 47 then false else true
def besideR (l : List Rec) (r : Rec) : Bool := l.all (besX r)
theorem zFZ {α : Type} [Inhabited α] {l : List α} {p : α → Bool} {i : Nat} (h : (i : Int) < l.length) (hp : p l[i]! = false) : l.all p = false := by
 cases ha : l.all p with
 | false => rfl
 | true => rw [tAw.1 ha _ (zBu h)] at hp; cases hp

noncomputable def zQz := mkF (fun s : (List UInt8) × (List UInt8) => [.st s.1, .st s.2]) (fun s => Sm s.1 ∧ Sm s.2) (fun s => Res.flat (.bo (belowB s.1 s.2)))
theorem zW6 {s1 : List UInt8} {s2 : List UInt8} (hp : Sm s1 ∧ Sm s2) : zQz [.st s1, .st s2] = some (Res.flat (.bo (belowB s1 s2))) := mkFe (s := (s1, s2)) hp
theorem zOQ (cx : Cx) (hP : cx.P = Tryz.prog) (hbs : cx.bs = 0) (h71 : cx.orc 71 = some zEm) (s1 s2 : List UInt8) (hl : Sm s1 ∧ Sm s2) : zAg cx Tryz.f107 [] false [.st s1, .st s2] = some (Res.flat (.bo (belowB s1 s2))) := by
 have c71 := zAa h71
 have hl1 := hl.1; have hl2 := hl.2
 refine zAf (rs := [.tmp 4]) rfl hbs rfl ?_
 repeat' first
   | (refine bN (fun h => ?_) fun h => ?_)
   | (refine zAI ?_ ?_)
   | simp only [↓cD, cU, cQ, cP, cB, zAD, unD, zAe, zAd, idx, reduceCtorEq, ↓reduceIte, ofV, ofC, zAq, Nat.reduceEqDiff, zAB, cG, implies_true, forall_const, immL, immD, Res.flat, ren, renL, Int.reduceEq, Int.reduceLT, Int.reduceLE, Int.reduceNe, deref, ldD, zAA, zAh, zAC, zAs, cC, c71, zAi, zAk, zDb, ↓zAH, ↓zAL, ↓zAG, ↓zAK, ↓zAF, ↓zAJ, cV, cT, cF, cW, borT, borM, zAl, Res.via, zAt, zAb, refsB, Nat.reduceLT, Nat.reduceSub, Nat.reduceLeDiff, Nat.reduceMul, Nat.reduceAdd, Int.reduceToNat, appK, zAr, zAc, borL, zAj, zAm, zAz, cO, List.replicate, zAx, ofHp, ixOf, hl1, hl2, hP, *]
 all_goals first
   | rfl
   | (simp [belowB, *]; done)
   | (simp [belowB, *]; omega)
noncomputable def FHas := mkF (fun s : (List Rec) × (List UInt8) × Int => [zAn s.1, .st s.2.1, .it .i64 s.2.2]) (fun s => s.1.length ≤ 1000000) (fun s => Res.flat (.bo (hasR s.1 s.2.1 s.2.2)))
theorem zNQ {a : List Rec} {s1 : List UInt8} {t1 : Int} (hp : a.length ≤ 1000000) : FHas [zAn a, .st s1, .it .i64 t1] = some (Res.flat (.bo (hasR a s1 t1))) := mkFe (s := (a, s1, t1)) hp
theorem yA9 (cx : Cx) (hP : cx.P = Tryz.prog) (hbs : cx.bs = 0) (h66 : cx.orc 66 = some zNR) (a : List Rec) (s1 : List UInt8) (t1 : Int) (hl : a.length ≤ 1000000) : zAg cx Tryz.f70 [] false [zAn a, .st s1, .it .i64 t1] = some (Res.flat (.bo (hasR a s1 t1))) := by
 have c66 := zAa h66
 refine zAf (rs := [.tmp 6]) rfl hbs rfl ?_
 repeat' first
   | (refine bN (fun h => ?_) fun h => ?_)
   | (refine zAI ?_ ?_)
   | simp only [↓cD, cU, cQ, cP, cB, zAD, unD, zAe, zAd, idx, reduceCtorEq, ↓reduceIte, ofV, ofC, zAq, Nat.reduceEqDiff, zAB, cG, implies_true, forall_const, immL, immD, Res.flat, ren, renL, Int.reduceEq, Int.reduceLT, Int.reduceLE, Int.reduceNe, deref, ldD, zAA, zAh, zAC, zAs, cC, c66, zAi, zAk, zHt, ↓zAH, ↓zAL, ↓zAG, ↓zAK, ↓zAF, ↓zAJ, cV, cT, cF, cW, borT, borM, zAl, Res.via, zAt, zAb, refsB, Nat.reduceLT, Nat.reduceSub, Nat.reduceLeDiff, Nat.reduceMul, Nat.reduceAdd, Int.reduceToNat, appK, zAr, zAc, borL, zAj, zAm, zAz, cO, List.replicate, zAx, ofHp, ixOf, Res.row, Res.rowd, hP, *]
 all_goals first
   | rfl
   | (simp [hasR, *]; done)
   | (simp [hasR, *]; omega)
noncomputable def zWH := mkF (fun s : Zone => [zAE s]) (fun s => ZSm s) (fun s => Res.flat (.it .i64 (zBW s)))
theorem zQa {z : Zone} (hp : ZSm z) : zWH [zAE z] = some (Res.flat (.it .i64 (zBW z))) := mkFe (s := (z)) hp
theorem zSY (cx : Cx) (hP : cx.P = Tryz.prog) (hbs : cx.bs = 0) (h66 : cx.orc 66 = some zNR) (z : Zone) (hl : ZSm z) : zAg cx Tryz.f35 [] false [zAE z] = some (Res.flat (.it .i64 (zBW z))) := by
 have c66 := zAa h66
 have hll := hl.2.1
 have hel : ¬ ((zBA z.recs z.origin 6).length : Int) = 0 → ((zBA z.recs z.origin 6).map recE)[0]? = some (recE (zBA z.recs z.origin 6)[0]!) := fun h => getm (by omega)
 have hpos : ¬ ((zBA z.recs z.origin 6).length : Int) = 0 → ((0 : Int) < ((zBA z.recs z.origin 6).length : Int)) = True := fun h => by simp only [eq_iff_iff, iff_true]; omega
 refine zAf (rs := [.tmp 2]) rfl hbs rfl ?_
 repeat' first
   | (refine bN (fun h => ?_) fun h => ?_)
   | (refine zAI ?_ ?_)
   | simp only [↓cD, cU, cQ, cP, cB, zAD, unD, zAe, zAd, idx, reduceCtorEq, ↓reduceIte, ofV, ofC, zAq, Nat.reduceEqDiff, zAB, cG, implies_true, forall_const, immL, immD, Res.flat, ren, renL, Int.reduceEq, Int.reduceLT, Int.reduceLE, Int.reduceNe, deref, ldD, zAA, zAh, zAC, zAs, cC, c66, zAi, zAk, zHt, ↓zAH, ↓zAL, ↓zAG, ↓zAK, ↓zAF, ↓zAJ, cV, cT, cF, cW, borT, borM, zAl, Res.via, zAt, zAb, refsB, Nat.reduceLT, Nat.reduceSub, Nat.reduceLeDiff, Nat.reduceMul, Nat.reduceAdd, Int.reduceToNat, appK, zAr, zAc, borL, zAj, zAm, zAz, cO, List.replicate, zAx, ofHp, ixOf, hll, hel, hpos, Res.row, Res.rowd, hP, *]
 all_goals first
   | (rw [zBW, if_neg ‹_›])
   | (rw [zBW, if_pos ‹_›])
noncomputable def FBes := mkF (fun s : Zone × Rec => [zAE s.1, recE s.2]) (fun s => ZSm s.1 ∧ RSm s.2) (fun s => Res.flat (.bo (besideR s.1.recs s.2)))
theorem zW5 {z : Zone} {r1 : Rec} (hp : ZSm z ∧ RSm r1) : FBes [zAE z, recE r1] = some (Res.flat (.bo (besideR z.recs r1))) := mkFe (s := (z, r1)) hp
theorem yBk (cx : Cx) (hP : cx.P = Tryz.prog) (hbs : cx.bs = 0) (h105 : cx.orc 105 = some zKx) (hk2 : cx.kp 2 = some [2, 3, 5]) (z : Zone) (r1 : Rec) (hl : ZSm z ∧ RSm r1) : zAg cx Tryz.f72 [] false [zAE z, recE r1] = some (Res.flat (.bo (besideR z.recs r1))) := by
 have c105 := zAa h105
 have hll := hl.1.2.1
 have hw : ∀ k : Nat, (k : Int) < z.recs.length → IntKind.i64.wrap ((k : Int) + 1) = ((k + 1 : Nat) : Int) := zBF hl.1.2.sm
 refine zAf (rs := [.tmp 4]) rfl hbs rfl ?_
 repeat' first
   | (refine zAv (σ := Nat) (fun i => [.ptr 0 0, .ptr 1 0, .it .i64 i]) (fun i => [.box (zBQ z), .box (recL r1)]) (fun i => i ≤ z.recs.length ∧ (z.recs.take i).all (besX r1) = true) (fun i => z.recs.length - i) [2, 3, 5] hbs (by exact hk2) (fr2 (fun _ => zCC z) fun _ => zGW r1) (fun i ji => ?_) (s := 0) [0, 1] ?_ ?_ ?_ ?_ ?_)
   | (refine bN (fun h => ?_) fun h => ?_)
   | (refine zAI ?_ ?_)
   | simp only [↓cD, cU, cQ, cP, cB, zAD, unD, zAe, zAd, idx, reduceCtorEq, ↓reduceIte, ofV, ofC, zAq, Nat.reduceEqDiff, zAB, cG, implies_true, forall_const, immL, immD, Res.flat, ren, renL, Int.reduceEq, Int.reduceLT, Int.reduceLE, Int.reduceNe, deref, ldD, zAA, zAh, zAC, zAs, cC, c105, zAi, zAk, zRU, ↓zAH, ↓zAL, ↓zAG, ↓zAK, ↓zAF, ↓zAJ, cV, cT, cF, cW, borT, borM, zAl, Res.via, zAt, zAb, refsB, Nat.reduceLT, Nat.reduceSub, Nat.reduceLeDiff, Nat.reduceMul, Nat.reduceAdd, Int.reduceToNat, appK, zAr, zAc, borL, zAj, zAm, zAz, cO, List.replicate, zAx, ofHp, ixOf, hw, hP, *]
 all_goals first
   | rfl
   | omega
   | exact ⟨tAL _, rfl⟩
   | (refine ⟨[0, 1], i + 1, rfl, rfl, rfl, rfl, ⟨by omega, by rw [zCj (by omega), ji.2, tAR]; simp only [besX]; repeat' split; all_goals (first | rfl | (simp_all; done))⟩, by omega⟩)
   | (rw [zAS (by omega)] at ji; simp only [besideR, ji.2])
   | (rw [besideR, zFZ (i := i) (by omega) (by simp only [besX]; repeat' split; all_goals (first | rfl | (simp_all; done)))])
   | (first | rfl | (simp only [zAp, refs, ren, cR, Nat.reduceEqDiff, ofHp, ixOf]; first | rfl | (simp; done)))
def plX (o : List UInt8) (r x : Rec) : Bool := if x.typ = 39 ∧ belowB r.name x.name = true then false else
 if x.typ = 2 ∧ belowB x.name o = true ∧ belowB r.name x.name = true ∧ ¬ r.typ = 1 ∧ ¬ r.typ = 28 then false else true
def zD1 (z : Zone) (r : Rec) : Bool := if (0 : Int) < (((labs r.name).getD []).length : Int) ∧ (((labs r.name).getD [])[0]! == [42]) = true ∧ (r.typ = 2 ∨ r.typ = 39) then false else
 if z.recs.all (plX z.origin r) = false then false else
 if belowB r.name z.origin = true ∧ hasR z.recs r.name 2 = true then decide (r.typ = 2 ∨ r.typ = 43 ∨ r.typ = 47 ∨ r.typ = 46 ∨ r.typ = 1 ∨ r.typ = 28) else !decide (r.typ = 43)

noncomputable def FPl := mkF (fun s : Zone × Rec => [zAE s.1, recE s.2]) (fun s => ZSm s.1 ∧ RSm s.2) (fun s => Res.flat (.bo (zD1 s.1 s.2)))
theorem yBT {z : Zone} {r1 : Rec} (hp : ZSm z ∧ RSm r1) : FPl [zAE z, recE r1] = some (Res.flat (.bo (zD1 z r1))) := mkFe (s := (z, r1)) hp
theorem yG5 (cx : Cx) (hP : cx.P = Tryz.prog) (hbs : cx.bs = 0) (h106 : cx.orc 106 = some zIA) (h107 : cx.orc 107 = some zQz) (h70 : cx.orc 70 = some FHas) (hk5 : cx.kp 5 = some [2, 3, 6]) (z : Zone) (r1 : Rec) (hl : ZSm z ∧ RSm r1) : zAg cx Tryz.f73 [] false [zAE z, recE r1] = some (Res.flat (.bo (zD1 z r1))) := by
 have c106 := zAa h106
 have c107 := zAa h107
 have c70 := zAa h70
 have hll := hl.1.2.1; have hs2 := hl.2.1; have hs3 := hl.1.1
 have hw : ∀ k : Nat, (k : Int) < z.recs.length → IntKind.i64.wrap ((k : Int) + 1) = ((k + 1 : Nat) : Int) := zBF hl.1.2.sm
 have hs1 : ∀ k : Nat, (k : Int) < z.recs.length → Sm (z.recs[k]!).name := fun k h => (hl.1.2.at h).1
 have hel : (0 : Int) < (((labs r1.name).getD []).length : Int) → (((labs r1.name).getD []).map D.st)[0]? = some (.st ((labs r1.name).getD [])[0]!) := fun h => getm (by omega)
 have hpos : True := trivial
 refine zAf (rs := [.tmp 4]) rfl hbs rfl ?_
 repeat' first
   | (refine zAv (σ := Nat) (fun i => [.ptr 0 0, .ptr 1 0, .it .i64 i]) (fun i => [.box (zBQ z), .box (recL r1)]) (fun i => i ≤ z.recs.length ∧ (z.recs.take i).all (plX z.origin r1) = true) (fun i => z.recs.length - i) [2, 3, 6] hbs (by exact hk5) (fr2 (fun _ => zCC z) fun _ => zGW r1) (fun i ji => ?_) (s := 0) [0, 1] ?_ ?_ ?_ ?_ ?_)
   | (refine bN (fun h => ?_) fun h => ?_)
   | (refine zAI ?_ ?_)
   | simp only [↓cD, cU, cQ, cP, cB, zAD, unD, zAe, zAd, idx, reduceCtorEq, ↓reduceIte, ofV, ofC, zAq, Nat.reduceEqDiff, zAB, cG, implies_true, forall_const, immL, immD, Res.flat, ren, renL, Int.reduceEq, Int.reduceLT, Int.reduceLE, Int.reduceNe, deref, ldD, zAA, zAh, zAC, zAs, cC, c106, c107, c70, zAi, zAk, zJd, zW6, zNQ, ↓zAH, ↓zAL, ↓zAG, ↓zAK, ↓zAF, ↓zAJ, cV, cT, cF, cW, borT, borM, zAl, Res.via, zAt, zAb, refsB, Nat.reduceLT, Nat.reduceSub, Nat.reduceLeDiff, Nat.reduceMul, Nat.reduceAdd, Int.reduceToNat, appK, zAr, zAc, borL, zAj, zAm, zAz, cO, List.replicate, zAx, ofHp, ixOf, hw, hs1, hs2, hs3, hll, hel, hpos, Res.row, Res.rowd, hP, *]
 all_goals first
   | rfl
   | omega
   | exact ⟨tAL _, rfl⟩
   | (refine ⟨[0, 1], i + 1, rfl, rfl, rfl, rfl, ⟨by omega, by rw [zCj (by omega), ji.2, tAR]; simp only [plX]; repeat' split; all_goals (first | rfl | (simp_all; done))⟩, by omega⟩)
   | (have hf : z.recs.all (plX z.origin r1) = false := zFZ (i := i) (by omega) (by simp only [plX]; repeat' split; all_goals (first | rfl | (simp_all; done))); simp only [zD1]; repeat' split; all_goals (first | rfl | (simp_all; done)))
   | (rw [zAS (by omega)] at ji; have hf := ji.2; simp only [zD1]; repeat' split; all_goals (first | rfl | (simp_all; done)))
   | (simp only [zD1]; repeat' split; all_goals (first | rfl | (simp_all; done)))
   | (first | rfl | (simp only [zAp, refs, ren, cR, Nat.reduceEqDiff, ofHp, ixOf]; first | rfl | (simp; done)))
def chk1 (z : Zone) (x : Rec) : Bool := !decide (64 < ((zBA z.recs x.name x.typ).length : Int))
theorem zZz {z : Zone} {x : Rec} (h : ¬ 64 < ((zBA z.recs x.name x.typ).length : Int)) : chk1 z x = true := by simp only [chk1, decide_eq_false h, tBK]
theorem yFq {z : Zone} {x : Rec} (h : 64 < ((zBA z.recs x.name x.typ).length : Int)) : chk1 z x = false := by simp only [chk1, decide_eq_true h, tBI]
def chk3 (z : Zone) (x : Rec) : Bool := if underB x.name z.origin = false then false else if x.typ = 6 ∧ ¬ x.name = z.origin then false else if besideR z.recs x = false then false else zD1 z x
def chkZ (z : Zone) : Int := if vName z.origin = false then 2 else if 2048 < (z.recs.length : Int) then 9 else if z.recs.all (chk1 z) = false then 9 else if z.recs.all zBN = false then 5 else
 if eqL z.recs (zAV z.recs) = false then 7 else if ¬ ((zBA z.recs z.origin 6).length : Int) = 1 then 13 else if hasR z.recs z.origin 2 = false then 13 else if z.recs.all (chk3 z) = false then 13 else 0

noncomputable def zNU := mkF (fun s : Zone => [zAE s]) (fun s => ZSm s) (fun s => Res.flat (.it .i64 (chkZ s)))
theorem zQx {z : Zone} (hp : ZSm z) : zNU [zAE z] = some (Res.flat (.it .i64 (chkZ z))) := mkFe (s := (z)) hp
theorem zTu (cx : Cx) (hP : cx.P = Tryz.prog) (hbs : cx.bs = 0) (h59 : cx.orc 59 = some zF2) (h66 : cx.orc 66 = some zNR) (h67 : cx.orc 67 = some FVR) (h69 : cx.orc 69 = some zWG) (h68 : cx.orc 68 = some FEq) (h70 : cx.orc 70 = some FHas) (h71 : cx.orc 71 = some zEm) (h72 : cx.orc 72 = some FBes) (h73 : cx.orc 73 = some FPl) (r59 : cx.rd.contains 59 = true) (r66 : cx.rd.contains 66 = true) (r67 : cx.rd.contains 67 = true) (r69 : cx.rd.contains 69 = true) (r68 : cx.rd.contains 68 = true) (r70 : cx.rd.contains 70 = true) (r71 : cx.rd.contains 71 = true) (r72 : cx.rd.contains 72 = true) (r73 : cx.rd.contains 73 = true) (hk6 : cx.kp 6 = some [1, 3]) (hk11 : cx.kp 11 = some [1, 4]) (hk20 : cx.kp 20 = some [1, 5]) (z : Zone) (hl : ZSm z) : zAg cx Tryz.f33 [] false [zAE z] = some (Res.flat (.it .i64 (chkZ z))) := by
 have c59 := zAa h59
 have d59 := zAo r59 h59
 have c66 := zAa h66
 have d66 := zAo r66 h66
 have c67 := zAa h67
 have d67 := zAo r67 h67
 have c69 := zAa h69
 have d69 := zAo r69 h69
 have c68 := zAa h68
 have d68 := zAo r68 h68
 have c70 := zAa h70
 have d70 := zAo r70 h70
 have c71 := zAa h71
 have d71 := zAo r71 h71
 have c72 := zAa h72
 have d72 := zAo r72 h72
 have c73 := zAa h73
 have d73 := zAo r73 h73
 have hs2 := hl.2.1; have hs3 := hl.1; have hs4 := hl.2; have hs6 := hl.2.sort.1
 have hw : ∀ k : Nat, (k : Int) < z.recs.length → IntKind.i64.wrap ((k : Int) + 1) = ((k + 1 : Nat) : Int) := zBF hl.2.sm
 have hs1 : ∀ k : Nat, (k : Int) < z.recs.length → Sm (z.recs[k]!).name := fun k h => (hl.2.at h).1
 have hs5 : ∀ k : Nat, (k : Int) < z.recs.length → RSm z.recs[k]! := fun k h => hl.2.at h
 refine zAf (rs := [.tmp 2]) rfl hbs rfl ?_
 repeat' first
   | (refine zAv (σ := Nat) (fun i => [.ptr 0 0, .it .i64 i]) (fun i => [.box (zBQ z)]) (fun i => i ≤ z.recs.length ∧ (z.recs.take i).all (chk1 z) = true) (fun i => z.recs.length - i) [1, 3] hbs (by exact hk6) (fr1 fun _ => zCC z) (fun s6 j6 => ?_) (s := 0) [0] ?_ ?_ ?_ ?_ ?_)
   | (refine zAv (σ := Nat) (fun i => [.ptr 0 0, .it .i64 i]) (fun i => [.box (zBQ z)]) (fun i => i ≤ z.recs.length ∧ (z.recs.take i).all (zBN) = true) (fun i => z.recs.length - i) [1, 4] hbs (by exact hk11) (fr1 fun _ => zCC z) (fun s11 j11 => ?_) (s := 0) [0] ?_ ?_ ?_ ?_ ?_)
   | (refine zAv (σ := Nat) (fun i => [.ptr 0 0, .it .i64 i]) (fun i => [.box (zBQ z)]) (fun i => i ≤ z.recs.length ∧ (z.recs.take i).all (chk3 z) = true) (fun i => z.recs.length - i) [1, 5] hbs (by exact hk20) (fr1 fun _ => zCC z) (fun s20 j20 => ?_) (s := 0) [0] ?_ ?_ ?_ ?_ ?_)
   | (refine bN (fun h => ?_) fun h => ?_)
   | (refine zAI ?_ ?_)
   | simp (config := { decide := true }) only [↓cD, cU, cQ, cP, cB, zAD, unD, zAe, zAd, idx, reduceCtorEq, ↓reduceIte, ofV, ofC, zAq, Nat.reduceEqDiff, zAB, cG, implies_true, forall_const, immL, immD, Res.flat, ren, renL, Int.reduceEq, Int.reduceLT, Int.reduceLE, Int.reduceNe, deref, ldD, zAA, zAh, zAC, zAs, cC, cS, refs, zAy, okId, tAs, tAq, Nat.reduceMul, Nat.reduceAdd, Nat.reduceLeDiff, zAp, c59, c66, c67, c69, c68, c70, c71, c72, c73, d59, d66, d67, d69, d68, d70, d71, d72, d73, zAi, zAk, zDQ, zHt, zMe, zP7, zQr, zNQ, zDb, zW5, yBT, ↓zAH, ↓zAL, ↓zAG, ↓zAK, ↓zAF, ↓zAJ, cV, cT, cF, cW, borT, borM, zAl, Res.via, zAt, zAb, refsB, Nat.reduceLT, Nat.reduceSub, Nat.reduceLeDiff, Nat.reduceMul, Nat.reduceAdd, Int.reduceToNat, appK, zAr, zAc, borL, zAj, zAm, zAz, cO, List.replicate, zAx, ofHp, ixOf, cS, refs, zAy, okId, tAs, tAq, Nat.reduceMul, Nat.reduceAdd, Nat.reduceLeDiff, zAp, hw, hs1, hs2, hs3, hs4, hs5, hs6, hl, Res.row, Res.rowd, hP, *]
 all_goals first
   | rfl
   | omega
   | exact ⟨tAL _, rfl⟩
   | (refine ⟨[0], s20 + 1, rfl, rfl, rfl, rfl, ⟨by omega, by rw [zCj (by omega), j20.2, tAR]; simp only [chk3]; repeat' split; all_goals (first | rfl | (simp only [*]; done) | (simp_all; done))⟩, by omega⟩)
   | (refine ⟨[0], s11 + 1, rfl, rfl, rfl, rfl, ⟨by omega, by rw [zCj (by omega), j11.2, tAR]; simp only [*]⟩, by omega⟩)
   | (refine ⟨[0], s6 + 1, rfl, rfl, rfl, rfl, ⟨by omega, by rw [zCj (by omega), j6.2, tAR]; exact zZz (by omega)⟩, by omega⟩)
   | (have f6 : z.recs.all (chk1 z) = true := (by have e := j6.2; rw [zAS (by omega)] at e; exact e); have f11 : z.recs.all (zBN) = true := (by have e := j11.2; rw [zAS (by omega)] at e; exact e); have f20 : z.recs.all (chk3 z) = true := (by have e := j20.2; rw [zAS (by omega)] at e; exact e); (simp only [chkZ, *, tAA, tAf, not_true_eq_false, not_false_eq_true, if_true, if_false]; done))
   | (have f6 : z.recs.all (chk1 z) = true := (by have e := j6.2; rw [zAS (by omega)] at e; exact e); have f11 : z.recs.all (zBN) = true := (by have e := j11.2; rw [zAS (by omega)] at e; exact e); have f20 : z.recs.all (chk3 z) = false := zFZ (i := s20) (by omega) (by simp only [chk3]; repeat' split; all_goals (first | rfl | (simp only [*]; done) | (simp_all; done))); (simp only [chkZ, *, tAA, tAf, not_true_eq_false, not_false_eq_true, if_true, if_false]; done))
   | (have f6 : z.recs.all (chk1 z) = true := (by have e := j6.2; rw [zAS (by omega)] at e; exact e); have f11 : z.recs.all (zBN) = true := (by have e := j11.2; rw [zAS (by omega)] at e; exact e); (simp only [chkZ, *, tAA, tAf, not_true_eq_false, not_false_eq_true, if_true, if_false]; done))
   | (have f6 : z.recs.all (chk1 z) = true := (by have e := j6.2; rw [zAS (by omega)] at e; exact e); have f11 : z.recs.all (zBN) = false := zFZ (i := s11) (by omega) (by simp only [*]); (simp only [chkZ, *, tAA, tAf, not_true_eq_false, not_false_eq_true, if_true, if_false]; done))
   | (have f6 : z.recs.all (chk1 z) = false := zFZ (i := s6) (by omega) (by exact yFq (by omega)); (simp only [chkZ, *, tAA, tAf, not_true_eq_false, not_false_eq_true, if_true, if_false]; done))
   | (simp only [chkZ, *, tAA, tAf, not_true_eq_false, not_false_eq_true, if_true, if_false]; done)
   | (first | rfl | (simp only [zAp, refs, ren, cR, Nat.reduceEqDiff, ofHp, ixOf]; first | rfl | (simp; done)))
def hasL (l : List Rec) (r : Rec) : Bool := l.any fun x => decide (x = r)
def alike (a b : Rec) : Bool := (a.name == b.name) && (decide (a.typ = b.typ) && decide (a.dat = b.dat))
def zAu (a b : List Rec) : List Rec := a.filter fun x => !hasL b x
def sink : Nat → List Rec → List Rec
 | 0, l => l
 | k + 1, l => if 0 < cmpR l[k]! l[k + 1]! then sink k ((l.set (k + 1) l[k]!).set k l[k + 1]!) else l
def ordR (l : List Rec) : List Rec := l.foldl (fun out x => sink out.length (out ++ [x])) []
theorem zWg {α : Type} [Inhabited α] {l : List α} {p : α → Bool} {i : Nat} (h : (i : Int) < l.length) (hp : p l[i]! = true) : l.any p = true := tA6.2 ⟨_, zBu h, hp⟩
theorem zHa {l : List Rec} {i : Nat} (h : i < l.length) : l[i]! ∈ l := by rw [getElem!_pos l i h]; exact tBH h
theorem zOb : ∀ (k : Nat) (l : List Rec), (sink k l).length = l.length
 | 0, l => rfl
 | k + 1, l => by unfold sink; split; rw [zOb k, tBC, tBC]; rfl
theorem zOa : ∀ (k : Nat) (l : List Rec) (y : Rec), k < l.length → y ∈ sink k l → y ∈ l
 | 0, l, y, _, h => h
 | k + 1, l, y, hk, h => by
   unfold sink at h
   split at h
   · have h := zOa k _ y (by rw [tBC, tBC]; omega) h
     rcases tBr h with h | h
     · rcases tBr h with h | h
       · exact h
       · rw [h]; exact zHa (by omega)
     · rw [h]; exact zHa (by omega)
   · exact h
theorem zLJ : ∀ (l out : List Rec), (l.foldl (fun out x => sink out.length (out ++ [x])) out).length = out.length + l.length
 | [], out => rfl
 | x :: r, out => by
   show (r.foldl _ (sink out.length (out ++ [x]))).length = _
   rw [zLJ r, zOb]; simp only [tAh, tAp, tAu]; omega
theorem zLI : ∀ (l out : List Rec) (y : Rec), y ∈ l.foldl (fun out x => sink out.length (out ++ [x])) out → y ∈ l ∨ y ∈ out
 | [], out, y, h => .inr h
 | x :: r, out, y, h => by
   rcases zLI r _ y h with h | h
   · exact .inl (by simp [h])
   · rcases tAz.1 (zOa _ _ _ (by simp) h) with h | h
     · exact .inr h
     · exact .inl (by simp at h; simp [h])
theorem zGX (l : List Rec) : (ordR l).length = l.length := by rw [ordR, zLJ]; simp
theorem zX6 {l : List Rec} {y : Rec} (h : y ∈ ordR l) : y ∈ l := by
 rcases zLI l [] y h with h | h
 · exact h
 · cases h
theorem LSm.ord {l : List Rec} (h : LSm l) : LSm (ordR l) := ⟨by rw [zGX]; exact h.1, fun r hr => h.2 r (zX6 hr)⟩
theorem LSm.filter {l : List Rec} (h : LSm l) (p : Rec → Bool) : LSm (l.filter p) := ⟨Nat.le_trans (tBU _ _) h.1, fun r hr => h.2 r (tBb.1 hr).1⟩
theorem LSm.app {a b : List Rec} (ha : LSm a) (hb : LSm b) (hn : a.length + b.length ≤ 1000000) : LSm (a ++ b) := ⟨by rw [tAh]; exact hn, fun r hr => by rcases tAz.1 hr with h | h; exact ha.2 r h; exact hb.2 r h⟩
theorem zBj (a b : List Rec) : (zAu a b).length ≤ a.length := tBU _ _
def srt : List Rec → Bool
 | a :: b :: r => if 0 ≤ cmpR a b then false else if alike a b = true then false else srt (b :: r)
 | _ => true
def soaD (r : Rec) : Bool := decide (r.typ = 6)
def staX (o : List UInt8) (n : Int) (r : Rec) : Bool := if r.typ = 6 then (r.name == o) && decide (r.dat.a = n) else true
def zCM (l : List Rec) (o : List UInt8) (n : Int) : Bool := if l.all (staX o n) = false then false else decide (((l.filter soaD).length : Int) = 1)
def insX (o : List UInt8) (r : Rec) : Bool := if zBN r = false then false else underB r.name o
def zBl (l : List Rec) (o : List UInt8) : Bool := l.all (insX o)

noncomputable def yAj := mkF (fun s : (List Rec) × Rec => [zAn s.1, recE s.2]) (fun s => s.1.length ≤ 1000000) (fun s => Res.flat (.bo (hasL s.1 s.2)))
theorem yAi {a : List Rec} {r1 : Rec} (hp : a.length ≤ 1000000) : yAj [zAn a, recE r1] = some (Res.flat (.bo (hasL a r1))) := mkFe (s := (a, r1)) hp
theorem zTn (cx : Cx) (hP : cx.P = Tryz.prog) (hbs : cx.bs = 0) (hk2 : cx.kp 2 = some [0, 3, 5]) (a : List Rec) (r1 : Rec) (hl : a.length ≤ 1000000) : zAg cx Tryz.f75 [] false [zAn a, recE r1] = some (Res.flat (.bo (hasL a r1))) := by
 have hw : ∀ k : Nat, (k : Int) < a.length → IntKind.i64.wrap ((k : Int) + 1) = ((k + 1 : Nat) : Int) := zBF (by omega)
 refine zAf (rs := [.tmp 4]) rfl hbs rfl ?_
 repeat' first
   | (refine zAv (σ := Nat) (fun s => [zAn a, .ptr 0 0, .it .i64 s]) (fun s => [.box (recL r1)]) (fun s => s ≤ a.length ∧ (a.take s).any (fun x => decide (x = r1)) = false) (fun s => a.length - s) [0, 3, 5] hbs (by exact hk2) (fr1 fun _ => zGW r1) (fun s js => ?_) (s := 0) [0] ?_ ?_ ?_ ?_ ?_)
   | (refine bN (fun h => ?_) fun h => ?_)
   | (refine zAI ?_ ?_)
   | simp only [↓cD, cU, cQ, cP, cB, zAD, unD, zAe, zAd, idx, reduceCtorEq, ↓reduceIte, ofV, ofC, zAq, Nat.reduceEqDiff, zAB, cG, implies_true, forall_const, immL, immD, Res.flat, ren, renL, Int.reduceEq, Int.reduceLT, Int.reduceLE, Int.reduceNe, deref, ldD, zAA, zAh, zAC, zAs, cC, cS, refs, zAy, okId, tAs, tAq, Nat.reduceMul, Nat.reduceAdd, Nat.reduceLeDiff, zAp, ↓zAH, ↓zAL, ↓zAG, ↓zAK, ↓zAF, ↓zAJ, cV, cT, cF, cW, borT, borM, zAl, Res.via, zAt, zAb, refsB, Nat.reduceLT, Nat.reduceSub, Nat.reduceLeDiff, Nat.reduceMul, Nat.reduceAdd, Int.reduceToNat, appK, zAr, zAc, borL, zAj, zAm, zAz, cO, List.replicate, zAx, ofHp, ixOf, cS, refs, zAy, okId, tAs, tAq, Nat.reduceMul, Nat.reduceAdd, Nat.reduceLeDiff, zAp, hw, hP, *]
 all_goals (try simp only [hasL])
 all_goals first
   | rfl
   | exact ⟨tAL _, rfl⟩
   | (refine ⟨[0], s + 1, rfl, rfl, rfl, rfl, ⟨by omega, by rw [zCR (by omega), js.2, tBg]; exact decide_eq_false ‹_›⟩, by omega⟩)
   | (rw [zWg (p := fun x => decide (x = r1)) (i := s) (by omega) (decide_eq_true ‹_›)])
   | (rw [zAS (by omega)] at js; rw [js.2])
   | omega
   | (first | rfl | (simp only [zAp, refs, ren, cR, Nat.reduceEqDiff, ofHp, ixOf]; first | rfl | (simp; done)))
noncomputable def FWo := mkF (fun s : (List Rec) × (List Rec) => [zAn s.1, zAn s.2]) (fun s => s.1.length ≤ 1000000 ∧ s.2.length ≤ 1000000) (fun s => Res.flat (zAn (zAu s.1 s.2)))
theorem zI7 {a : List Rec} {b : List Rec} (hp : a.length ≤ 1000000 ∧ b.length ≤ 1000000) : FWo [zAn a, zAn b] = some (Res.flat (zAn (zAu a b))) := mkFe (s := (a, b)) hp
theorem yGX (cx : Cx) (hP : cx.P = Tryz.prog) (hbs : cx.bs = 0) (h75 : cx.orc 75 = some yAj) (hk3 : cx.kp 3 = some [0, 1, 5, 6]) (a b : List Rec) (hl : a.length ≤ 1000000 ∧ b.length ≤ 1000000) : zAg cx Tryz.f36 [] false [zAn a, zAn b] = some (Res.flat (zAn (zAu a b))) := by
 have c75 := zAa h75
 have hl2 := hl.2
 have hw : ∀ k : Nat, (k : Int) < a.length → IntKind.i64.wrap ((k : Int) + 1) = ((k + 1 : Nat) : Int) := zBF (by omega)
 refine zFw (rs := [.tmp 4]) rfl hbs rfl ?_
 repeat' first
   | (refine zAv (σ := Nat) (fun s => [zAn a, zAn b, .own 0 0 (zAu (a.take s) b).length, .it .i64 s]) (fun s => [.row 16 true ((zAu (a.take s) b).map recE)]) (fun s => s ≤ a.length) (fun s => a.length - s) [0, 1, 5, 6] hbs (by exact hk3) (fr1 fun _ => zA2 (fun _ => rfl)) (fun s js => ?_) (s := 0) [1] ?_ ?_ ?_ ?_ ?_)
   | (refine bN (fun h => ?_) fun h => ?_)
   | (refine zAI ?_ ?_)
   | simp only [↓cD, cU, cQ, cP, cB, zAD, unD, zAe, zAd, idx, reduceCtorEq, ↓reduceIte, ofV, ofC, zAq, Nat.reduceEqDiff, zAB, cG, implies_true, forall_const, immL, immD, Res.flat, ren, renL, Int.reduceEq, Int.reduceLT, Int.reduceLE, Int.reduceNe, deref, ldD, zAA, zAh, zAC, zAs, cC, c75, zAi, zAk, yAi, ↓zAH, ↓zAL, ↓zAG, ↓zAK, ↓zAF, ↓zAJ, cV, cT, cF, cW, borT, borM, zAl, Res.via, zAt, zAb, refsB, Nat.reduceLT, Nat.reduceSub, Nat.reduceLeDiff, Nat.reduceMul, Nat.reduceAdd, Int.reduceToNat, appK, zAr, zAc, borL, zAj, zAm, zAz, cO, List.replicate, zAx, ofHp, ixOf, hw, hl2, hP, *]
 all_goals first
   | rfl
   | omega
   | (have hq := zBj (a.take s) b; rw [tAk] at hq; omega)
   | (refine ⟨[0], s + 1, ?_, ?_, ?_, ?_, by omega, by omega⟩ <;> (try rw [show zAu (a.take (s + 1)) b = zAu (a.take s) b from zNc (by omega) (by simp only [*, tBI])]) <;> (first | rfl | (simp only [zAp, refs, ren, cR, Nat.reduceEqDiff, ofHp, ixOf]; first | rfl | (simp; done))))
   | (refine ⟨[2], s + 1, ?_, ?_, ?_, ?_, by omega, by omega⟩ <;> (try rw [show zAu (a.take (s + 1)) b = zAu (a.take s) b ++ [a[s]!] from zH5 (by omega) (by simp only [*, tBK])]) <;> (first | rfl | (simp only [zAp, refs, ren, cR, Nat.reduceEqDiff, ofHp, ixOf]; first | rfl | (simp; done))))
   | (first | rfl | (simp only [zAp, refs, ren, cR, Nat.reduceEqDiff, ofHp, ixOf]; first | rfl | (simp; done)))
   | (rw [zAS (by omega)]; exact ⟨_, _, _, _, rfl, rfl, by simp, zBJ (fun _ => rfl), rfl⟩)
def AllSm (l : List Rec) : Prop := ∀ r ∈ l, RSm r
theorem AllSm.at {l : List Rec} (h : AllSm l) {k : Nat} (hk : (k : Int) < l.length) : RSm l[k]! := h _ (zBu hk)
noncomputable def FSta := mkF (fun s : (List Rec) × (List UInt8) × Int => [zAn s.1, .st s.2.1, .it .i64 s.2.2]) (fun s => s.1.length ≤ 1000000) (fun s => Res.flat (.bo (zCM s.1 s.2.1 s.2.2)))
theorem zWC {a : List Rec} {s1 : List UInt8} {n1 : Int} (hp : a.length ≤ 1000000) : FSta [zAn a, .st s1, .it .i64 n1] = some (Res.flat (.bo (zCM a s1 n1))) := mkFe (s := (a, s1, n1)) hp
noncomputable def FIns := mkF (fun s : (List Rec) × (List UInt8) => [zAn s.1, .st s.2]) (fun s => LSm s.1 ∧ Sm s.2) (fun s => Res.flat (.bo (zBl s.1 s.2)))
theorem zWW {a : List Rec} {s1 : List UInt8} (hp : LSm a ∧ Sm s1) : FIns [zAn a, .st s1] = some (Res.flat (.bo (zBl a s1))) := mkFe (s := (a, s1)) hp
def zone0 : Zone := ⟨[], []⟩
theorem zHj {z : Zone} (h : chkZ z = 0) : ¬ 2048 < (z.recs.length : Int) := by
 unfold chkZ at h
 intro hl
 rw [if_pos hl] at h
 split at h <;> omega
theorem LSm.wo {a : List Rec} (h : LSm a) (b : List Rec) : LSm (zAu a b) := h.filter _
def sufB (s t : List UInt8) : Bool := decide (t.length ≤ s.length) && (s.drop (s.length - t.length) == t)
def preB (s t : List UInt8) : Bool := decide (t.length ≤ s.length) && (s.take t.length == t)
theorem zXu {s t : List UInt8} (h : (t.length : Int) ≤ s.length) : sufB s t = (s.drop (s.length - t.length) == t) := by rw [sufB, decide_eq_true (by omega), tAR]
theorem yCr {s t : List UInt8} (h : ¬ (t.length : Int) ≤ s.length) : sufB s t = false := by rw [sufB, decide_eq_false (by omega), tCc]
theorem zX3 {s t : List UInt8} (h : (t.length : Int) ≤ s.length) : preB s t = (s.take t.length == t) := by rw [preB, decide_eq_true (by omega), tAR]
theorem yC1 {s t : List UInt8} (h : ¬ (t.length : Int) ≤ s.length) : preB s t = false := by rw [preB, decide_eq_false (by omega), tCc]
theorem yAH {P : Program} {H : Hp} {t : TypeId} {l : List UInt8} {k : IntKind} (hu : P.underlying t = some .string) {i : Nat} (h : i ≤ l.length) : zAW P H t (.st l) (some (.it k (i : Int))) none none = some (.st (l.drop i)) := by
 rw [zHL hu (zL5 h), tCa]
theorem zKP {P : Program} {H : Hp} {t : TypeId} {l : List UInt8} {k : IntKind} (hu : P.underlying t = some .string) {i : Nat} (h : i ≤ l.length) : zAW P H t (.st l) none (some (.it k (i : Int))) none = some (.st (l.take i)) := by
 rw [zHL hu (yFs h), tBv]

noncomputable def FSuf := mkF (fun s : (List UInt8) × (List UInt8) => [.st s.1, .st s.2]) (fun s => Sm s.1 ∧ Sm s.2) (fun s => Res.flat (.bo (sufB s.1 s.2)))
theorem zNL {s1 : List UInt8} {s2 : List UInt8} (hp : Sm s1 ∧ Sm s2) : FSuf [.st s1, .st s2] = some (Res.flat (.bo (sufB s1 s2))) := mkFe (s := (s1, s2)) hp
theorem zSR (cx : Cx) (hP : cx.P = Tryz.prog) (hbs : cx.bs = 0) (s1 s2 : List UInt8) (hl : Sm s1 ∧ Sm s2) : zAg cx Tryz.f112 [] false [.st s1, .st s2] = some (Res.flat (.bo (sufB s1 s2))) := by
 have h1 := hl.1; have h2 := hl.2
 have hw : (s2.length : Int) ≤ s1.length → IntKind.i64.wrap ((s1.length : Int) - s2.length) = ((s1.length - s2.length : Nat) : Int) := fun h => by simp only [Sm] at h1 h2; rw [wrap64 (by omega) (by omega)]; omega
 have hsl : (s2.length : Int) ≤ s1.length → ∀ (H : Hp) (k : IntKind), zAW Tryz.prog H 9 (.st s1) (some (.it k ((s1.length - s2.length : Nat) : Int))) none none = some (.st (s1.drop (s1.length - s2.length))) := fun h H k => yAH Tryz.underlying9 (by omega)
 refine zAf (rs := [.tmp 4]) rfl hbs rfl ?_
 repeat' first
   | (refine bN (fun h => ?_) fun h => ?_)
   | (refine zAI ?_ ?_)
   | simp only [↓cD, cU, cQ, cP, cB, zAD, unD, zAe, zAd, idx, reduceCtorEq, ↓reduceIte, ofV, ofC, zAq, Nat.reduceEqDiff, zAB, cG, implies_true, forall_const, immL, immD, Res.flat, ren, renL, Int.reduceEq, Int.reduceLT, Int.reduceLE, Int.reduceNe, deref, ldD, zAA, zAh, zAC, zAs, cC, ↓zAH, ↓zAL, ↓zAG, ↓zAK, ↓zAF, ↓zAJ, cV, cT, cF, cW, borT, borM, zAl, Res.via, zAt, zAb, refsB, Nat.reduceLT, Nat.reduceSub, Nat.reduceLeDiff, Nat.reduceMul, Nat.reduceAdd, Int.reduceToNat, appK, zAr, zAc, borL, zAj, zAm, zAz, cO, List.replicate, zAx, ofHp, ixOf, lens Tryz.underlying9, hw, hsl, hP, *]
 all_goals first
   | rfl
   | (rw [zXu (by omega)]; done)
   | (rw [yCr (by omega)]; done)
theorem yAU (cx : Cx) (hP : cx.P = Tryz.prog) (hbs : cx.bs = 0) (h112 : cx.orc 112 = some FSuf) (s1 s2 : List UInt8) (hl : Sm s1 ∧ Sm s2) : zAg cx Tryz.f82 [] false [.st s1, .st s2] = some (Res.flat (.bo (sufB s1 s2))) := by
 have c112 := zAa h112
 have hl1 := hl.1; have hl2 := hl.2
 refine zAf (rs := [.tmp 4]) rfl hbs rfl ?_
 repeat' first
   | (refine bN (fun h => ?_) fun h => ?_)
   | (refine zAI ?_ ?_)
   | simp only [↓cD, cU, cQ, cP, cB, zAD, unD, zAe, zAd, idx, reduceCtorEq, ↓reduceIte, ofV, ofC, zAq, Nat.reduceEqDiff, zAB, cG, implies_true, forall_const, immL, immD, Res.flat, ren, renL, Int.reduceEq, Int.reduceLT, Int.reduceLE, Int.reduceNe, deref, ldD, zAA, zAh, zAC, zAs, cC, c112, zAi, zAk, zNL, ↓zAH, ↓zAL, ↓zAG, ↓zAK, ↓zAF, ↓zAJ, cV, cT, cF, cW, borT, borM, zAl, Res.via, zAt, zAb, refsB, Nat.reduceLT, Nat.reduceSub, Nat.reduceLeDiff, Nat.reduceMul, Nat.reduceAdd, Int.reduceToNat, appK, zAr, zAc, borL, zAj, zAm, zAz, cO, List.replicate, zAx, ofHp, ixOf, hl1, hl2, hP, *]
 all_goals first
   | rfl
noncomputable def FPre := mkF (fun s : (List UInt8) × (List UInt8) => [.st s.1, .st s.2]) (fun s => Sm s.1 ∧ Sm s.2) (fun s => Res.flat (.bo (preB s.1 s.2)))
theorem zWL {s1 : List UInt8} {s2 : List UInt8} (hp : Sm s1 ∧ Sm s2) : FPre [.st s1, .st s2] = some (Res.flat (.bo (preB s1 s2))) := mkFe (s := (s1, s2)) hp
theorem zS2 (cx : Cx) (hP : cx.P = Tryz.prog) (hbs : cx.bs = 0) (s1 s2 : List UInt8) (hl : Sm s1 ∧ Sm s2) : zAg cx Tryz.f181 [] false [.st s1, .st s2] = some (Res.flat (.bo (preB s1 s2))) := by
 have hw : True := trivial
 have hsl : (s2.length : Int) ≤ s1.length → ∀ (H : Hp) (k : IntKind), zAW Tryz.prog H 9 (.st s1) none (some (.it k (s2.length : Int))) none = some (.st (s1.take s2.length)) := fun h H k => zKP Tryz.underlying9 (by omega)
 refine zAf (rs := [.tmp 4]) rfl hbs rfl ?_
 repeat' first
   | (refine bN (fun h => ?_) fun h => ?_)
   | (refine zAI ?_ ?_)
   | simp only [↓cD, cU, cQ, cP, cB, zAD, unD, zAe, zAd, idx, reduceCtorEq, ↓reduceIte, ofV, ofC, zAq, Nat.reduceEqDiff, zAB, cG, implies_true, forall_const, immL, immD, Res.flat, ren, renL, Int.reduceEq, Int.reduceLT, Int.reduceLE, Int.reduceNe, deref, ldD, zAA, zAh, zAC, zAs, cC, ↓zAH, ↓zAL, ↓zAG, ↓zAK, ↓zAF, ↓zAJ, cV, cT, cF, cW, borT, borM, zAl, Res.via, zAt, zAb, refsB, Nat.reduceLT, Nat.reduceSub, Nat.reduceLeDiff, Nat.reduceMul, Nat.reduceAdd, Int.reduceToNat, appK, zAr, zAc, borL, zAj, zAm, zAz, cO, List.replicate, zAx, ofHp, ixOf, lens Tryz.underlying9, hw, hsl, hP, *]
 all_goals first
   | rfl
   | (rw [zX3 (by omega)]; done)
   | (rw [yC1 (by omega)]; done)
theorem yA1 (cx : Cx) (hP : cx.P = Tryz.prog) (hbs : cx.bs = 0) (h181 : cx.orc 181 = some FPre) (s1 s2 : List UInt8) (hl : Sm s1 ∧ Sm s2) : zAg cx Tryz.f161 [] false [.st s1, .st s2] = some (Res.flat (.bo (preB s1 s2))) := by
 have c181 := zAa h181
 have hl1 := hl.1; have hl2 := hl.2
 refine zAf (rs := [.tmp 4]) rfl hbs rfl ?_
 repeat' first
   | (refine bN (fun h => ?_) fun h => ?_)
   | (refine zAI ?_ ?_)
   | simp only [↓cD, cU, cQ, cP, cB, zAD, unD, zAe, zAd, idx, reduceCtorEq, ↓reduceIte, ofV, ofC, zAq, Nat.reduceEqDiff, zAB, cG, implies_true, forall_const, immL, immD, Res.flat, ren, renL, Int.reduceEq, Int.reduceLT, Int.reduceLE, Int.reduceNe, deref, ldD, zAA, zAh, zAC, zAs, cC, c181, zAi, zAk, zWL, ↓zAH, ↓zAL, ↓zAG, ↓zAK, ↓zAF, ↓zAJ, cV, cT, cF, cW, borT, borM, zAl, Res.via, zAt, zAb, refsB, Nat.reduceLT, Nat.reduceSub, Nat.reduceLeDiff, Nat.reduceMul, Nat.reduceAdd, Int.reduceToNat, appK, zAr, zAc, borL, zAj, zAm, zAz, cO, List.replicate, zAx, ofHp, ixOf, hl1, hl2, hP, *]
 all_goals first
   | rfl
theorem zLZ : ∀ a b : List UInt8, Lib.compareBytes a b = zA9 a b
 | [], [] => rfl
 | [], _ :: _ => rfl
 | _ :: _, [] => rfl
 | a :: xs, b :: ys => by
   have ih := zLZ xs ys
   unfold Lib.compareBytes
   rw [ih]
   simp only [zA9, Op.bytesLess]
   by_cases h : a < b
   · simp [h]
   · by_cases h2 : b < a
     · have hne : ¬ a = b := fun e => by subst e; exact h h2
       simp [h, h2, hne]
     · have he : a = b := by
         have := UInt8.le_antisymm (UInt8.not_lt.1 h2) (UInt8.not_lt.1 h)
         exact this
       subst he
       simp [h]

noncomputable def zGK := mkF (fun s : (List UInt8) × (List UInt8) => [.st s.1, .st s.2]) (fun s => True) (fun s => Res.flat (.it .i64 (zA9 s.1 s.2)))
theorem zIu {s1 : List UInt8} {s2 : List UInt8} : zGK [.st s1, .st s2] = some (Res.flat (.it .i64 (zA9 s1 s2))) := mkFe (s := (s1, s2)) trivial
theorem zK8 (cx : Cx) (hP : cx.P = Tryz.prog) (hbs : cx.bs = 0) (xn201 : cx.orc 201 = none) (x201 : cx.ext 201 = some zRW) (s1 s2 : List UInt8)  : zAg cx Tryz.f183 [] false [.st s1, .st s2] = some (Res.flat (.it .i64 (zA9 s1 s2))) := by
 have ce201 := fun H nid l (hi : immL l = true) => (show zBI cx 201 l H nid = _ from zKl xn201 x201 hi)
 refine zAf (rs := [.tmp 4]) rfl hbs rfl ?_
 repeat' first
   | (refine bN (fun h => ?_) fun h => ?_)
   | (refine zAI ?_ ?_)
   | simp only [↓cD, cU, cQ, cP, cB, zAD, unD, zAe, zAd, idx, reduceCtorEq, ↓reduceIte, ofV, ofC, zAq, Nat.reduceEqDiff, zAB, cG, implies_true, forall_const, immL, immD, Res.flat, ren, renL, Int.reduceEq, Int.reduceLT, Int.reduceLE, Int.reduceNe, deref, ldD, zAA, zAh, zAC, zAs, cC, ce201, yKb, ↓zAH, ↓zAL, ↓zAG, ↓zAK, ↓zAF, ↓zAJ, cV, cT, cF, cW, borT, borM, zAl, Res.via, zAt, zAb, refsB, Nat.reduceLT, Nat.reduceSub, Nat.reduceLeDiff, Nat.reduceMul, Nat.reduceAdd, Int.reduceToNat, appK, zAr, zAc, borL, zAj, zAm, zAz, cO, List.replicate, zAx, ofHp, ixOf, zLZ, hP, *]
 all_goals first
   | rfl
theorem zKW (cx : Cx) (hP : cx.P = Tryz.prog) (hbs : cx.bs = 0) (h183 : cx.orc 183 = some zGK) (s1 s2 : List UInt8)  : zAg cx Tryz.f163 [] false [.st s1, .st s2] = some (Res.flat (.it .i64 (zA9 s1 s2))) := by
 have c183 := zAa h183
 refine zAf (rs := [.tmp 4]) rfl hbs rfl ?_
 repeat' first
   | (refine bN (fun h => ?_) fun h => ?_)
   | (refine zAI ?_ ?_)
   | simp only [↓cD, cU, cQ, cP, cB, zAD, unD, zAe, zAd, idx, reduceCtorEq, ↓reduceIte, ofV, ofC, zAq, Nat.reduceEqDiff, zAB, cG, implies_true, forall_const, immL, immD, Res.flat, ren, renL, Int.reduceEq, Int.reduceLT, Int.reduceLE, Int.reduceNe, deref, ldD, zAA, zAh, zAC, zAs, cC, c183, zAi, zAk, zIu, ↓zAH, ↓zAL, ↓zAG, ↓zAK, ↓zAF, ↓zAJ, cV, cT, cF, cW, borT, borM, zAl, Res.via, zAt, zAb, refsB, Nat.reduceLT, Nat.reduceSub, Nat.reduceLeDiff, Nat.reduceMul, Nat.reduceAdd, Int.reduceToNat, appK, zAr, zAc, borL, zAj, zAm, zAz, cO, List.replicate, zAx, ofHp, ixOf, hP, *]
 all_goals first
   | rfl
def cntB (l : List UInt8) (c : UInt8) : Int := ((Lib.countByte l c : Nat) : Int)
def ixB (l : List UInt8) (c : UInt8) : Int := Lib.indexByte l c
theorem zSn (c : UInt8) : c.toNat.toUInt8 = c := by simp
theorem zHU : ((1 : Nat) : Int) = 1 := rfl
theorem zJR (x c : UInt8) (r : List UInt8) : ixB (x :: r) c = if x = c then 0 else if ixB r c = -1 then -1 else ixB r c + 1 := by
 by_cases h : x = c <;> by_cases h2 : Lib.indexByte r c = -1 <;> simp [ixB, Lib.indexByte, h, h2]

noncomputable def FCnt := mkF (fun s : (List UInt8) × UInt8 => [.st s.1, .st [s.2]]) (fun s => True) (fun s => Res.flat (.it .i64 (cntB s.1 s.2)))
theorem yF6 {s1 : List UInt8} {c1 : UInt8} : FCnt [.st s1, .st [c1]] = some (Res.flat (.it .i64 (cntB s1 c1))) := mkFe (s := (s1, c1)) trivial
theorem yBg (cx : Cx) (hP : cx.P = Tryz.prog) (hbs : cx.bs = 0) (xn176 : cx.orc 176 = none) (x176 : cx.ext 176 = some zJf) (hk6 : cx.kp 6 = some [0, 1, 5]) (s1 : List UInt8) (c1 : UInt8)  : zAg cx Tryz.f150 [] false [.st s1, .st [c1]] = some (Res.flat (.it .i64 (cntB s1 c1))) := by
 have ce176 := fun H nid l (hi : immL l = true) => (show zBI cx 176 l H nid = _ from zKl xn176 x176 hi)
 have hx : zDL Tryz.prog 9 (.st [c1]) (.it .i64 0) = some (.it .u8 (c1.toNat : Int)) := ixs (i := 0) Tryz.underlying9 (by simp)
 refine zAf (rs := [.tmp 4]) rfl hbs rfl ?_
 repeat' first
   | (refine bN (fun h => ?_) fun h => ?_)
   | (refine zAI ?_ ?_)
   | simp only [↓cD, cU, cQ, cP, cB, zAD, unD, zAe, zAd, idx, reduceCtorEq, ↓reduceIte, ofV, ofC, zAq, Nat.reduceEqDiff, zAB, cG, implies_true, forall_const, immL, immD, Res.flat, ren, renL, Int.reduceEq, Int.reduceLT, Int.reduceLE, Int.reduceNe, deref, ldD, zAA, zAh, zAC, zAs, cC, ce176, yIg, ↓zAH, ↓zAL, ↓zAG, ↓zAK, ↓zAF, ↓zAJ, cV, cT, cF, cW, borT, borM, zAl, Res.via, zAt, zAb, refsB, Nat.reduceLT, Nat.reduceSub, Nat.reduceLeDiff, Nat.reduceMul, Nat.reduceAdd, Int.reduceToNat, appK, zAr, zAc, borL, zAj, zAm, zAz, cO, List.replicate, zAx, ofHp, ixOf, lens Tryz.underlying9, hx, zSn, zHU, hP, *]
 all_goals first
   | rfl
noncomputable def yAc := mkF (fun s : (List UInt8) × UInt8 => [.st s.1, .it .u8 (s.2.toNat : Int)]) (fun s => True) (fun s => Res.flat (.it .i64 (ixB s.1 s.2)))
theorem yAb {s1 : List UInt8} {c1 : UInt8} : yAc [.st s1, .it .u8 (c1.toNat : Int)] = some (Res.flat (.it .i64 (ixB s1 c1))) := zBV (s := (s1, c1)) (fun s s' h => by simp only [cI, yJy] at h; simp only [h]) trivial
theorem zTh (cx : Cx) (hP : cx.P = Tryz.prog) (hbs : cx.bs = 0) (xn205 : cx.orc 205 = none) (x205 : cx.ext 205 = some FIxB) (s1 : List UInt8) (c1 : UInt8)  : zAg cx Tryz.f195 [] false [.st s1, .it .u8 (c1.toNat : Int)] = some (Res.flat (.it .i64 (ixB s1 c1))) := by
 have ce205 := fun H nid l (hi : immL l = true) => (show zBI cx 205 l H nid = _ from zKl xn205 x205 hi)
 refine zAf (rs := [.tmp 4]) rfl hbs rfl ?_
 repeat' first
   | (refine bN (fun h => ?_) fun h => ?_)
   | (refine zAI ?_ ?_)
   | simp only [↓cD, cU, cQ, cP, cB, zAD, unD, zAe, zAd, idx, reduceCtorEq, ↓reduceIte, ofV, ofC, zAq, Nat.reduceEqDiff, zAB, cG, implies_true, forall_const, immL, immD, Res.flat, ren, renL, Int.reduceEq, Int.reduceLT, Int.reduceLE, Int.reduceNe, deref, ldD, zAA, zAh, zAC, zAs, cC, ce205, fixb, ↓zAH, ↓zAL, ↓zAG, ↓zAK, ↓zAF, ↓zAJ, cV, cT, cF, cW, borT, borM, zAl, Res.via, zAt, zAb, refsB, Nat.reduceLT, Nat.reduceSub, Nat.reduceLeDiff, Nat.reduceMul, Nat.reduceAdd, Int.reduceToNat, appK, zAr, zAc, borL, zAj, zAm, zAz, cO, List.replicate, zAx, ofHp, ixOf, zSn, hP, *]
 all_goals first
   | rfl
noncomputable def FIdx := mkF (fun s : (List UInt8) × UInt8 => [.st s.1, .st [s.2]]) (fun s => True) (fun s => Res.flat (.it .i64 (ixB s.1 s.2)))
theorem zWX {s1 : List UInt8} {c1 : UInt8} : FIdx [.st s1, .st [c1]] = some (Res.flat (.it .i64 (ixB s1 c1))) := mkFe (s := (s1, c1)) trivial
theorem zTj (cx : Cx) (hP : cx.P = Tryz.prog) (hbs : cx.bs = 0) (h195 : cx.orc 195 = some yAc) (hk15 : cx.kp 15 = some [0, 1, 5, 6, 7, 8, 9, 10]) (s1 : List UInt8) (c1 : UInt8)  : zAg cx Tryz.f177 [] false [.st s1, .st [c1]] = some (Res.flat (.it .i64 (ixB s1 c1))) := by
 have c195 := zAa h195
 have hx : zDL Tryz.prog 9 (.st [c1]) (.it .i64 0) = some (.it .u8 (c1.toNat : Int)) := ixs (i := 0) Tryz.underlying9 (by simp)
 refine zAf (rs := [.tmp 4]) rfl hbs rfl ?_
 repeat' first
   | (refine bN (fun h => ?_) fun h => ?_)
   | (refine zAI ?_ ?_)
   | simp only [↓cD, cU, cQ, cP, cB, zAD, unD, zAe, zAd, idx, reduceCtorEq, ↓reduceIte, ofV, ofC, zAq, Nat.reduceEqDiff, zAB, cG, implies_true, forall_const, immL, immD, Res.flat, ren, renL, Int.reduceEq, Int.reduceLT, Int.reduceLE, Int.reduceNe, deref, ldD, zAA, zAh, zAC, zAs, cC, c195, zAi, zAk, yAb, ↓zAH, ↓zAL, ↓zAG, ↓zAK, ↓zAF, ↓zAJ, cV, cT, cF, cW, borT, borM, zAl, Res.via, zAt, zAb, refsB, Nat.reduceLT, Nat.reduceSub, Nat.reduceLeDiff, Nat.reduceMul, Nat.reduceAdd, Int.reduceToNat, appK, zAr, zAc, borL, zAj, zAm, zAz, cO, List.replicate, zAx, ofHp, ixOf, lens Tryz.underlying9, hx, zHU, hP, *]
 all_goals first
   | rfl
   | (have e : [c1] = s1 := (by simpa using ‹([c1] == s1) = true›); rw [← e, zJR, if_pos rfl]; done)
theorem yA8 (cx : Cx) (hP : cx.P = Tryz.prog) (hbs : cx.bs = 0) (h177 : cx.orc 177 = some FIdx) (s1 : List UInt8) (c1 : UInt8)  : zAg cx Tryz.f151 [] false [.st s1, .st [c1]] = some (Res.flat (.it .i64 (ixB s1 c1))) := by
 have c177 := zAa h177
 refine zAf (rs := [.tmp 4]) rfl hbs rfl ?_
 repeat' first
   | (refine bN (fun h => ?_) fun h => ?_)
   | (refine zAI ?_ ?_)
   | simp only [↓cD, cU, cQ, cP, cB, zAD, unD, zAe, zAd, idx, reduceCtorEq, ↓reduceIte, ofV, ofC, zAq, Nat.reduceEqDiff, zAB, cG, implies_true, forall_const, immL, immD, Res.flat, ren, renL, Int.reduceEq, Int.reduceLT, Int.reduceLE, Int.reduceNe, deref, ldD, zAA, zAh, zAC, zAs, cC, c177, zAi, zAk, zWX, ↓zAH, ↓zAL, ↓zAG, ↓zAK, ↓zAF, ↓zAJ, cV, cT, cF, cW, borT, borM, zAl, Res.via, zAt, zAb, refsB, Nat.reduceLT, Nat.reduceSub, Nat.reduceLeDiff, Nat.reduceMul, Nat.reduceAdd, Int.reduceToNat, appK, zAr, zAc, borL, zAj, zAm, zAz, cO, List.replicate, zAx, ofHp, ixOf, hP, *]
 all_goals first
   | rfl
def splC (c : UInt8) : List UInt8 → List (List UInt8)
 | [] => [[]]
 | x :: r => if x = c then [] :: splC c r else match splC c r with | [] => [[x]] | h :: t => (x :: h) :: t
theorem zGi (c : UInt8) : ∀ l, splC c l ≠ []
 | [] => by simp [splC]
 | x :: r => by
   unfold splC
   split
   · simp
   · split <;> simp
theorem yBG (l : List UInt8) (c : UInt8) : -1 ≤ ixB l c := Lib.indexByte_ge l c
theorem zIh (x c : UInt8) (r : List UInt8) : cntB (x :: r) c = if x = c then cntB r c + 1 else cntB r c := by
 by_cases h : x = c <;> simp [cntB, Lib.countByte, List.count_cons, h]
theorem zIg (l : List UInt8) (c : UInt8) : 0 ≤ cntB l c := by simp [cntB]
theorem yFk (l : List UInt8) (c : UInt8) : cntB l c ≤ l.length := by
 have : Lib.countByte l c ≤ l.length := List.count_le_length
 simp only [cntB]; omega
theorem zSI {c : UInt8} : ∀ {l : List UInt8}, ixB l c < 0 → splC c l = [l] ∧ cntB l c = 0
 | [], _ => ⟨rfl, rfl⟩
 | x :: r, h => by
   rw [zJR] at h
   have hg := yBG r c
   by_cases hx : x = c
   · rw [if_pos hx] at h; omega
   · rw [if_neg hx] at h
     have h2 : ixB r c < 0 := by split at h <;> omega
     obtain ⟨i1, i2⟩ := zSI h2
     exact ⟨by unfold splC; rw [if_neg hx, i1], by rw [zIh, if_neg hx, i2]⟩
theorem zHI {c : UInt8} : ∀ {l : List UInt8}, 0 ≤ ixB l c → (ixB l c).toNat < l.length ∧ splC c l = l.take (ixB l c).toNat :: splC c (l.drop ((ixB l c).toNat + 1)) ∧ cntB l c = cntB (l.drop ((ixB l c).toNat + 1)) c + 1
 | [], h => by simp [ixB, Lib.indexByte] at h
 | x :: r, h => by
   have hg := yBG r c
   rw [zJR] at h ⊢
   by_cases hx : x = c
   · rw [if_pos hx]
     refine ⟨by simp, ?_, ?_⟩
     · conv => lhs; unfold splC
       rw [if_pos hx]; simp
     · rw [zIh, if_pos hx]; simp
   · rw [if_neg hx] at h ⊢
     have h2 : ¬ ixB r c = -1 := by intro e; rw [if_pos e] at h; omega
     rw [if_neg h2] at h ⊢
     obtain ⟨i1, i2, i3⟩ := zHI (l := r) (c := c) (by omega)
     have e : (ixB r c + 1).toNat = (ixB r c).toNat + 1 := by omega
     rw [e]
     refine ⟨by simp; omega, ?_, ?_⟩
     · conv => lhs; unfold splC
       rw [if_neg hx, i2]; simp
     · rw [zIh, if_neg hx, i3]; simp
theorem zZN {l : List UInt8} {cs : List D} : again (.st l) cs = cs.headD .un := rfl
theorem zXO {α : Type} {E : α → D} {done : List α} {x : α} {n : Nat} {z : D} (h : done.length < n) : (done.map E ++ List.replicate (n - done.length) z).set done.length (E x) = (done ++ [x]).map E ++ List.replicate (n - (done ++ [x]).length) z := by
 obtain ⟨k, hk⟩ : ∃ k, n - done.length = k + 1 := ⟨n - done.length - 1, by omega⟩
 rw [hk, List.replicate_succ, List.set_append_right _ _ (by simp)]
 have : n - (done ++ [x]).length = k := by simp; omega
 rw [this]; simp

theorem yJY : ∀ (H : Hp) (nid : Nat) (n : Nat), zDe Tryz.prog 79 H nid (.it .i64 (n : Int)) (.it .i64 (n : Int)) = if ((16 : Nat) : Int) * (n : Int) ≤ 281474976710656 then some (.own nid 0 n, upd H nid (.row 1 true (List.replicate n (.st []))), nid + 1) else none := fun _ _ _ => yBs el79 ze79 (by kernel_rfl) (by decide)
noncomputable def FGen := mkF (fun s : (List UInt8) × UInt8 => [.st s.1, .st [s.2], .it .i64 0, .it .i64 (-1)]) (fun s => s.1.length ≤ 1000000) (fun s => Res.row 1 ((splC s.2 s.1).map D.st))
theorem yF2 {s1 : List UInt8} {c1 : UInt8} (hp : s1.length ≤ 1000000) : FGen [.st s1, .st [c1], .it .i64 0, .it .i64 (-1)] = some (Res.row 1 ((splC c1 s1).map D.st)) := mkFe (s := (s1, c1)) hp
theorem yBa (cx : Cx) (hP : cx.P = Tryz.prog) (hbs : cx.bs = 0) (h150 : cx.orc 150 = some FCnt) (h151 : cx.orc 151 = some FIdx) (hk11 : cx.kp 11 = some [0, 1, 2, 3, 9, 10]) (s1 : List UInt8) (c1 : UInt8) (hl : s1.length ≤ 1000000) : zAg cx Tryz.f113 [0] false [.st s1, .st [c1], .it .i64 0, .it .i64 (-1)] = some (Res.row 1 ((splC c1 s1).map D.st)) := by
 have c150 := zAa h150
 have c151 := zAa h151
 have hg := zIg s1 c1; have hle := yFk s1 c1
 have hw1 : IntKind.i64.wrap (cntB s1 c1 + 1) = (((cntB s1 c1).toNat + 1 : Nat) : Int) := by rw [wrap64 (by omega) (by omega)]; omega
 have hw2 : IntKind.i64.wrap ((s1.length : Int) + 1) = (s1.length : Int) + 1 := by rw [wrap64 (by omega) (by omega)]
 have hm : ((s1.length : Int) + 1 < (((cntB s1 c1).toNat + 1 : Nat) : Int)) = False := by simp only [eq_iff_iff, iff_false]; omega
 have hc2 : ([c1] == ([] : List UInt8)) = false := rfl
 have hw3 : IntKind.i64.wrap ((((cntB s1 c1).toNat + 1 : Nat) : Int) - 1) = ((cntB s1 c1).toNat : Int) := by rw [wrap64 (by omega) (by omega)]; omega
 have hc1 : ((1 : Nat) : Int) = 1 := rfl
 have hb1 : ∀ k n : Nat, k < n → ((k : Int) < (n : Int)) = True := fun k n h => by simp only [eq_iff_iff, iff_true]; omega
 have hat : ∀ (l : List (List UInt8)) (n : Nat), l.length < n → (l.map D.st ++ List.replicate (n - l.length) (.st []))[l.length]? = some (.st []) := fun l n h => by rw [tAN (by simp), tAI, Nat.sub_self, tB3, if_pos (by omega)]
 have hw6 : ∀ k : Nat, k < (cntB s1 c1).toNat + 1 → IntKind.i64.wrap ((k : Int) + 1) = ((k + 1 : Nat) : Int) := fun k h => by rw [wrap64 (by omega) (by omega)]; omega
 have hw4 : ∀ l : List UInt8, l.length ≤ s1.length → ¬ ixB l c1 < 0 → IntKind.i64.wrap (ixB l c1 + 0) = ixB l c1 := fun l h1 h3 => by have h2 : 0 ≤ ixB l c1 := (by omega); have := (zHI h2).1; rw [wrap64 (by omega) (by omega)]; omega
 have hw5 : ∀ l : List UInt8, l.length ≤ s1.length → ¬ ixB l c1 < 0 → IntKind.i64.wrap (ixB l c1 + 1) = ixB l c1 + 1 := fun l h1 h3 => by have h2 : 0 ≤ ixB l c1 := (by omega); have := (zHI h2).1; rw [wrap64 (by omega) (by omega)]
 have hsl1 : ∀ l : List UInt8, ¬ ixB l c1 < 0 → ∀ (H : Hp) (k : IntKind), zAW Tryz.prog H 9 (.st l) none (some (.it k (ixB l c1))) none = some (.st (l.take (ixB l c1).toNat)) := fun l h3 H k => by have h : 0 ≤ ixB l c1 := (by omega); have h2 := (zHI h).1; obtain ⟨j, hj⟩ := tBj h; rw [hj] at h2 ⊢; exact zKP Tryz.underlying9 (by simp at h2; omega)
 have hsl2 : ∀ l : List UInt8, ¬ ixB l c1 < 0 → ∀ (H : Hp) (k : IntKind), zAW Tryz.prog H 9 (.st l) (some (.it k (ixB l c1 + 1))) none none = some (.st (l.drop ((ixB l c1).toNat + 1))) := fun l h3 H k => by have h : 0 ≤ ixB l c1 := (by omega); have h2 := (zHI h).1; obtain ⟨j, hj⟩ := tBj h; rw [hj] at h2 ⊢; exact yAH (i := j + 1) Tryz.underlying9 (by simp at h2; omega)
 refine zCv (rs := [.tmp 8]) rfl hbs rfl ?_
 repeat' first
   | (refine zAv (σ := List (List UInt8) × List UInt8) (fun s => [.st s.2, .st [c1], .it .i64 0, .it .i64 ((cntB s1 c1).toNat : Int), .own 0 0 ((cntB s1 c1).toNat + 1), .it .i64 (s.1.length : Int)]) (fun s => [.row 1 true (s.1.map D.st ++ List.replicate ((cntB s1 c1).toNat + 1 - s.1.length) (.st []))]) (fun s => s.1.length < (cntB s1 c1).toNat + 1 ∧ (s.1.length : Int) + cntB s.2 c1 = cntB s1 c1 ∧ s.1 ++ splC c1 s.2 = splC c1 s1 ∧ s.2.length ≤ s1.length) (fun s => s.2.length) [0, 1, 2, 3, 9, 10] hbs (by exact hk11) (fun q jq b hb => by simp only [tAy] at hb; subst hb; (intro x hx; simp only [tAz, tBk, List.mem_replicate] at hx; rcases hx with ⟨a, _, rfl⟩ | ⟨_, rfl⟩ <;> rfl)) (fun s js => ?_) (s := ([], s1)) [1] ?_ ?_ ?_ ?_ ?_)
   | (refine bN (fun h => ?_) fun h => ?_)
   | (refine zAI ?_ ?_)
   | simp only [↓cD, cU, cQ, cP, cB, zAD, unD, zAe, zAd, idx, reduceCtorEq, ↓reduceIte, ofV, ofC, zAq, Nat.reduceEqDiff, zAB, cG, implies_true, forall_const, immL, immD, Res.flat, ren, renL, Int.reduceEq, Int.reduceLT, Int.reduceLE, Int.reduceNe, deref, ldD, zAA, zAh, zAC, zAs, cC, c150, c151, zAi, zAk, yF6, zWX, ↓zAH, ↓zAL, ↓zAG, ↓zAK, ↓zAF, ↓zAJ, cV, cT, cF, cW, borT, borM, zAl, Res.via, zAt, zAb, refsB, Nat.reduceLT, Nat.reduceSub, Nat.reduceLeDiff, Nat.reduceMul, Nat.reduceAdd, Int.reduceToNat, appK, zAr, zAc, borL, zAj, zAm, zAz, cO, List.replicate, zAx, ofHp, ixOf, lens Tryz.underlying9, hw1, hw2, hw3, hw4, hw5, hw6, hm, hc1, hsl1, hsl2, hb1, hc2, hat, yJY, zXO, zZN, List.headD_cons, hP, *]
 all_goals first
   | rfl
   | omega
   | (exfalso; have h2 := (zSI ‹ixB _ _ < 0›).2; have h3 := js.2.1; omega)
   | (have h2 := zHI (l := s.2) (c := c1) (by omega); have h3 := js.2.1; refine ⟨[0], (s.1 ++ [s.2.take (ixB s.2 c1).toNat], s.2.drop ((ixB s.2 c1).toNat + 1)), ?_, ?_, ?_, ?_, ⟨by have h4 := zIg (s.2.drop ((ixB s.2 c1).toNat + 1)) c1; simp only [tAh, tAp, tAu]; omega, by simp only [tAh, tAp, tAu]; omega, by rw [← js.2.2.1, h2.2.1, tAm]; rfl, by have h5 := js.2.2.2; simp only [tAx]; omega⟩, by simp only [tAx]; omega⟩ <;> (try simp only [tAh, tAp, tAu, tAZ]) <;> (first | rfl | (simp only [zAp, refs, ren, cR, Nat.reduceEqDiff, ofHp, ixOf]; first | rfl | (simp; done))))
   | (refine ⟨?_, ?_, ?_⟩ <;> first | omega | rfl | (have h4 := zIg s1 c1; omega))
   | (have h3 := js.2.1; have h4 := zIg s.2 c1; have h6 : ixB s.2 c1 < 0 := (by apply tAW; intro hh; have h7 := (zHI (l := s.2) (c := c1) (by omega)).2.2; have h8 := zIg (s.2.drop ((ixB s.2 c1).toNat + 1)) c1; omega)
      have h5 := (zSI h6).1
      have e : splC c1 s1 = s.1 ++ [s.2] := (by rw [← js.2.2.1, h5])
      have e2 : (cntB s1 c1).toNat + 1 - (s.1.length + 1) = 0 := (by omega)
      rw [e, e2, tBB, tAo]
      exact ⟨_, _, _, _, rfl, rfl, by simp, zBJ (fun _ => rfl), rfl⟩)
   | (first | rfl | (simp only [zAp, refs, ren, cR, Nat.reduceEqDiff, ofHp, ixOf]; first | rfl | (simp; done)))
noncomputable def FSpl := mkF (fun s : (List UInt8) × UInt8 => [.st s.1, .st [s.2]]) (fun s => s.1.length ≤ 1000000) (fun s => Res.row 1 ((splC s.2 s.1).map D.st))
theorem zWD {s1 : List UInt8} {c1 : UInt8} (hp : s1.length ≤ 1000000) : FSpl [.st s1, .st [c1]] = some (Res.row 1 ((splC c1 s1).map D.st)) := mkFe (s := (s1, c1)) hp
theorem yAV (cx : Cx) (hP : cx.P = Tryz.prog) (hbs : cx.bs = 0) (h113 : cx.orc 113 = some FGen) (s1 : List UInt8) (c1 : UInt8) (hl : s1.length ≤ 1000000) : zAg cx Tryz.f83 [0] false [.st s1, .st [c1]] = some (Res.row 1 ((splC c1 s1).map D.st)) := by
 have c113 := zAa h113
 refine zCv (rs := [.tmp 4]) rfl hbs rfl ?_
 repeat' first
   | (refine bN (fun h => ?_) fun h => ?_)
   | (refine zAI ?_ ?_)
   | simp only [↓cD, cU, cQ, cP, cB, zAD, unD, zAe, zAd, idx, reduceCtorEq, ↓reduceIte, ofV, ofC, zAq, Nat.reduceEqDiff, zAB, cG, implies_true, forall_const, immL, immD, Res.flat, ren, renL, Int.reduceEq, Int.reduceLT, Int.reduceLE, Int.reduceNe, deref, ldD, zAA, zAh, zAC, zAs, cC, c113, zAi, zAk, yF2, ↓zAH, ↓zAL, ↓zAG, ↓zAK, ↓zAF, ↓zAJ, cV, cT, cF, cW, borT, borM, zAl, Res.via, zAt, zAb, refsB, Nat.reduceLT, Nat.reduceSub, Nat.reduceLeDiff, Nat.reduceMul, Nat.reduceAdd, Int.reduceToNat, appK, zAr, zAc, borL, zAj, zAm, zAz, cO, List.replicate, zAx, ofHp, ixOf, Res.row, Res.rowd, hP, *]
 all_goals first
   | rfl
   | exact ⟨_, _, _, _, rfl, rfl, by simp, zBJ (fun _ => rfl), rfl⟩
   | exact ⟨_, _, _, _, rfl, rfl, by simp, zBJ (fun _ => rfl), by simp [Res.row]⟩
def ordL (s : List UInt8) : Bool := !(s == []) && (decide (s.length ≤ 63) && s.all okc)
theorem yC6 {s : List UInt8} {i : Nat} (h : (i : Int) < s.length) (hn : ¬ okc s[i]! = true) : ordL s = false := by
 have : s.all okc = false := by
   cases ha : s.all okc with
   | false => rfl
   | true => exact absurd (tAw.1 ha _ (zBu h)) hn
 simp [ordL, this]

noncomputable def zZ3 := mkF (fun s : (List UInt8) => [.st s]) (fun s => Sm s) (fun s => Res.flat (.bo (ordL s)))
theorem zZ2 {s1 : List UInt8} (hp : Sm s1) : zZ3 [.st s1] = some (Res.flat (.bo (ordL s1))) := mkFe (s := (s1)) hp
theorem zS3 (cx : Cx) (hP : cx.P = Tryz.prog) (hbs : cx.bs = 0) (hk4 : cx.kp 4 = some [0, 13, 14]) (s1 : List UInt8) (hl : Sm s1) : zAg cx Tryz.f84 [] false [.st s1] = some (Res.flat (.bo (ordL s1))) := by
 have hw := zBF hl
 refine zAf (rs := [.tmp 2]) rfl hbs rfl ?_
 repeat' first
   | (refine zAU (σ := Nat) (fun s4 => [.st s1, .it .i64 s1.length, .it .i64 s4]) (fun s4 => s4 ≤ s1.length ∧ (s1.take s4).all okc = true) (fun s4 => s1.length - s4) [0, 13, 14] hbs (by exact hk4) (fun s4 => by simp only [zAp, refs, zAZ, zA0, zA5, tAo]) (fun s4 j4 => ?_) (s := 0) ?_ ?_)
   | (refine bN (fun h => ?_) fun h => ?_)
   | (refine zAI ?_ ?_)
   | simp only [↓cD, cU, cQ, cP, cB, zAD, unD, zAe, zAd, idx, reduceCtorEq, ↓reduceIte, ofV, ofC, zAq, Nat.reduceEqDiff, zAB, cG, implies_true, forall_const, immL, immD, Res.flat, ren, renL, Int.reduceEq, Int.reduceLT, Int.reduceLE, Int.reduceNe, deref, ldD, zAA, zAh, zAC, zAs, cC, ↓zAH, ↓zAL, ↓zAG, ↓zAK, ↓zAF, ↓zAJ, cV, cT, cF, cW, borT, borM, zAl, Res.via, zAt, zAb, refsB, Nat.reduceLT, Nat.reduceSub, Nat.reduceLeDiff, Nat.reduceMul, Nat.reduceAdd, Int.reduceToNat, appK, zAr, zAc, borL, zAj, zAm, zAz, cO, List.replicate, zAx, ofHp, ixOf, lens Tryz.underlying9, ixs Tryz.underlying9, hw, hP, *]
 all_goals first
   | rfl
   | exact ⟨tAL _, rfl⟩
   | (refine ⟨_, rfl, ⟨by omega, ?_⟩, by omega⟩; rw [zCj (by omega), j4.2, tAR]; exact (zJD _).2 (by omega))
   | (rw [yC6 (i := s4) (by omega) (by rw [zJD]; omega)]; done)
   | (rw [zAS (by omega)] at j4; simp [ordL, j4.2, *]; omega)
   | (simp [ordL, *]; done)
   | (simp [ordL]; omega)
def okP (p : List UInt8) (b : Bool) : Bool := ordL p || (b && p == [42])
def okPs : List (List UInt8) → Bool → Bool
 | [], _ => true
 | p :: r, b => okP p b && okPs r false
theorem yBo (p : List UInt8) (b : Bool) : (zED p && (!(p == [42]) || b)) = okP p b := by
 unfold okP zED
 by_cases h : p = [42]
 · subst h
   have h2 : ordL [42] = false := by decide
   rw [h2]; simp
 · have h1 : (p == [42]) = false := by simpa using h
   rw [h1]
   have h2 : (!(p == [])) = decide (1 ≤ p.length) := by
     cases p with
     | nil => rfl
     | cons x r => simp
   simp only [ordL, h2, tBg, tBK, Bool.true_or, Bool.and_true, Bool.and_false, Bool.or_false, Bool.and_assoc]
def zLB (cur : List UInt8) : List (List UInt8) → List (List UInt8)
 | p :: ps => (cur ++ p) :: ps
 | [] => [cur]
theorem zLA (ps : List (List UInt8)) (h : ps ≠ []) : zLB [] ps = ps := by cases ps with | nil => exact absurd rfl h | cons p r => rfl
theorem zGr : ∀ (m cur : List UInt8) (b : Bool), zBb (m ++ [46]) cur b = if okPs (zLB cur (splC 46 m)) b = true then some (zLB cur (splC 46 m)) else none
 | [], cur, b => by
   show zBb (46 :: []) cur b = _
   rw [zBb, if_pos rfl, yBo]
   simp [zBb, splC, zLB, okPs]
 | x :: r, cur, b => by
   show zBb (x :: (r ++ [46])) cur b = _
   by_cases hx : x = 46
   · subst hx
     rw [zBb, if_pos rfl, yBo, zGr r [] false, zLA _ (zGi 46 r)]
     have e : splC 46 (46 :: r) = [] :: splC 46 r := by rw [splC, if_pos rfl]
     rw [e]
     simp only [zLB, tAo, okPs]
     cases h1 : okP cur b <;> cases h2 : okPs (splC 46 r) false <;> simp
   · rw [zBb, if_neg hx, zGr r (cur ++ [x]) b]
     have e : zLB (cur ++ [x]) (splC 46 r) = zLB cur (splC 46 (x :: r)) := by
       conv => rhs; unfold splC
       rw [if_neg hx]
       cases hs : splC 46 r with
       | nil => exact absurd hs (zGi 46 r)
       | cons h t => simp [zLB]
     rw [e]
theorem zJn {n : List UInt8} (h : sufB n [46] = true) : n = n.take (n.length - 1) ++ [46] ∧ 1 ≤ n.length := by
 simp only [sufB, tAd, decide_eq_true_eq, tAp, tAu, beq_iff_eq] at h
 obtain ⟨h1, h2⟩ := h
 refine ⟨?_, by omega⟩
 conv => lhs; rw [← tAH (n.length - 1) n]
 rw [show n.length - (0 + 1) = n.length - 1 by omega] at h2
 rw [h2]
theorem zYB {n : List UInt8} : n.getLastD 0 = 46 → n ≠ [] → sufB n [46] = true := by
 intro h hn
 have h2 : n = n.dropLast ++ [46] := by
   have h3 := List.dropLast_concat_getLast hn
   have h4 : n.getLast hn = 46 := by rw [← h, List.getLastD_eq_getLast?, List.getLast?_eq_some_getLast hn]; rfl
   rw [h4] at h3
   exact h3.symm
 rw [h2]
 simp [sufB]
theorem zPa {n : List UInt8} (h1 : ¬ n = [46]) (h2 : (n.length : Int) < 255) (h3 : sufB n [46] = true) : labs n = if okPs (splC 46 (n.take (n.length - 1))) true = true then some (splC 46 (n.take (n.length - 1))) else none := by
 obtain ⟨e, hl⟩ := zJn h3
 have hlen : ¬ n.length < 2 := by
   intro hlt
   apply h1
   have : n.length - 1 = 0 := by omega
   rw [this] at e; simpa using e
 have hlast : n.getLastD 0 = 46 := by rw [e]; simp
 unfold labs
 rw [if_neg h1, if_neg (by rintro (h | h | h); exact hlen h; omega; exact h hlast)]
 conv => lhs; rw [e]
 rw [zGr, zLA _ (zGi 46 _)]
theorem zLt {n : List UInt8} (h1 : ¬ n = [46]) (h2 : 255 ≤ (n.length : Int)) : labs n = none := by
 unfold labs
 rw [if_neg h1, if_pos (.inr (.inl (by omega)))]
theorem zIW {n : List UInt8} (h1 : ¬ n = [46]) (h3 : sufB n [46] = false) : labs n = none := by
 unfold labs
 rw [if_neg h1, if_pos]
 by_cases h : n.length < 2
 · exact .inl h
 · refine .inr (.inr fun hl => ?_)
   rw [zYB hl (by intro e; subst e; simp at h)] at h3; cases h3
theorem zKG {n : List UInt8} (h1 : ¬ n = [46]) (h2 : (n.length : Int) < 255) (h3 : sufB n [46] = true) : vName n = okPs (splC 46 (n.take (n.length - 1))) true := by
 unfold vName
 rw [zPa h1 h2 h3]
 cases okPs (splC 46 (n.take (n.length - 1))) true <;> rfl
theorem zE3 {n : List UInt8} (h : vName n = true) (h1 : ¬ n = [46]) : (n.length : Int) < 255 ∧ sufB n [46] = true ∧ (labs n).getD [] = splC 46 (n.take (n.length - 1)) := by
 have h2 : (n.length : Int) < 255 := tAW fun hh => by
   unfold vName at h; rw [zLt h1 (by omega)] at h; cases h
 have h3 : sufB n [46] = true := by
   cases h3 : sufB n [46] with
   | true => rfl
   | false => unfold vName at h; rw [zIW h1 h3] at h; cases h
 refine ⟨h2, h3, ?_⟩
 have h4 := zKG h1 h2 h3
 rw [h] at h4
 rw [zPa h1 h2 h3, if_pos h4.symm]; rfl
def jn (ls : List (List UInt8)) : List UInt8 := ls.flatMap (· ++ [46])
theorem zUT (a b : List (List UInt8)) : jn (a ++ b) = jn a ++ jn b := by simp [jn]
theorem zUS : ∀ m : List UInt8, jn (splC 46 m) = m ++ [46]
 | [] => rfl
 | x :: r => by
   have ih := zUS r
   unfold splC
   by_cases hx : x = 46
   · rw [if_pos hx]; subst hx
     show [] ++ [46] ++ jn (splC 46 r) = _
     rw [ih]; rfl
   · rw [if_neg hx]
     cases hs : splC 46 r with
     | nil => exact absurd hs (zGi 46 r)
     | cons h t =>
       rw [hs] at ih
       show (x :: h) ++ [46] ++ jn t = _
       have : h ++ [46] ++ jn t = r ++ [46] := ih
       rw [tBi, tBi, this]; rfl
theorem zFp : ∀ (m p : List UInt8), p ∈ splC 46 m → (46 : UInt8) ∉ p
 | [], p, h => by simp [splC] at h; subst h; simp
 | x :: r, p, h => by
   unfold splC at h
   by_cases hx : x = 46
   · rw [if_pos hx] at h
     rcases tAr.1 h with rfl | h
     · simp
     · exact zFp r p h
   · rw [if_neg hx] at h
     cases hs : splC 46 r with
     | nil => exact absurd hs (zGi 46 r)
     | cons a t =>
       rw [hs] at h
       rcases tAr.1 h with rfl | h
       · have := zFp r a (by rw [hs]; simp)
         simp only [tAr, not_or]
         exact ⟨fun e => hx e.symm, this⟩
       · exact zFp r p (by rw [hs]; simp [h])
theorem zPy : ∀ {p q X Y : List UInt8}, (46 : UInt8) ∉ p → (46 : UInt8) ∉ q → p ++ 46 :: X = q ++ 46 :: Y → p = q ∧ X = Y
 | [], [], X, Y, _, _, h => by simpa using h
 | [], y :: q, X, Y, _, hq, h => by
   simp at h; exact absurd (by rw [← h.1]; simp) hq
 | x :: p, [], X, Y, hp, _, h => by
   simp at h; exact absurd (by rw [h.1]; simp) hp
 | x :: p, y :: q, X, Y, hp, hq, h => by
   simp only [tBi, tAv] at h
   obtain ⟨h1, h2⟩ := zPy (p := p) (q := q) (fun hm => hp (by simp [hm])) (fun hm => hq (by simp [hm])) h.2
   exact ⟨by rw [h.1, h1], h2⟩
theorem yBF : ∀ {a b : List (List UInt8)}, (∀ p ∈ a, (46 : UInt8) ∉ p) → (∀ p ∈ b, (46 : UInt8) ∉ p) → jn a = jn b → a = b
 | [], [], _, _, _ => rfl
 | [], q :: b, _, _, h => by simp [jn] at h
 | p :: a, [], _, _, h => by simp [jn] at h
 | p :: a, q :: b, ha, hb, h => by
   have h' : p ++ 46 :: jn a = q ++ 46 :: jn b := by
     have : p ++ [46] ++ jn a = q ++ [46] ++ jn b := h
     simpa using this
   obtain ⟨h1, h2⟩ := zPy (ha p (by simp)) (hb q (by simp)) h'
   rw [h1, yBF (fun x hx => ha x (by simp [hx])) (fun x hx => hb x (by simp [hx])) h2]
theorem zUh {n : List UInt8} (h : vName n = true) (h1 : ¬ n = [46]) : n = jn ((labs n).getD []) ∧ (∀ p ∈ (labs n).getD [], (46 : UInt8) ∉ p) ∧ (labs n).getD [] ≠ [] := by
 obtain ⟨_, h3, h4⟩ := zE3 h h1
 rw [h4]
 refine ⟨?_, fun p hp => zFp _ _ hp, zGi _ _⟩
 rw [zUS]; exact (zJn h3).1
theorem zKe : ∀ (a b : List (List UInt8)), cpre a b = b.length ↔ b <+: a
 | _, [] => by
   constructor
   · intro _; exact List.nil_prefix
   · intro _; have := (zNs ‹_› []).2; simpa using this
 | [], y :: b => by
   have := (zNs [] (y :: b)).1
   simp at this ⊢
   rw [this]; simp
 | x :: a, y :: b => by
   have ih := zKe a b
   by_cases hxy : x = y
   · subst hxy
     simp [cpre, ih]
   · have hyx : ¬ y = x := fun e => hxy e.symm
     simp [cpre, hxy, hyx]
def zLQ (n top : List UInt8) : Bool := if (top == [46]) = true then true else if (n == top) = true then true else sufB n (46 :: top)
theorem zJo {s t : List UInt8} : sufB s t = true ↔ ∃ x, s = x ++ t := by
 simp only [sufB, tAd, decide_eq_true_eq, beq_iff_eq]
 constructor
 · rintro ⟨h1, h2⟩
   refine ⟨s.take (s.length - t.length), ?_⟩
   conv => lhs; rw [← tAH (s.length - t.length) s]
   rw [h2]
 · rintro ⟨x, rfl⟩
   refine ⟨by simp, ?_⟩
   rw [tAh, Nat.add_sub_cancel]; simp
theorem zRw {n top : List UInt8} (hn : vName n = true) (ht : vName top = true) : zLQ n top = decide (zCD ((labs n).getD []) ((labs top).getD []) = ((labs top).getD []).length) := by
 have key : zLQ n top = true ↔ ((labs top).getD []).reverse <+: ((labs n).getD []).reverse := by
   rw [List.reverse_prefix]
   unfold zLQ
   by_cases h1 : top = [46]
   · subst h1
     have : labs [46] = some [] := by unfold labs; rw [if_pos rfl]
     rw [this]; simp
   · have hb : (top == [46]) = false := by simpa using h1
     rw [hb]
     obtain ⟨t1, t2, t3⟩ := zUh ht h1
     by_cases h2 : n = [46]
     · subst h2
       have hl : labs [46] = some [] := by unfold labs; rw [if_pos rfl]
       have e2 : (([46] : List UInt8) == top) = false := by simpa using fun e => h1 e.symm
       rw [hl, e2]
       simp only [tAf, if_false, tBa, List.suffix_nil]
       constructor
       · intro h
         rw [zJo] at h
         obtain ⟨x, hx⟩ := h
         have := congrArg List.length hx
         simp at this
         have h3 : top = [] := by
           cases top with
           | nil => rfl
           | cons a r => simp at this; omega
         rw [h3] at ht
         exact absurd ht (by decide)
       · intro h; exact absurd h t3
     · obtain ⟨n1, n2, n3⟩ := zUh hn h2
       constructor
       · intro h
         simp only [tAf, if_false] at h
         by_cases he : n = top
         · subst he; exact List.suffix_refl _
         · have e2 : (n == top) = false := by simpa using he
           rw [e2] at h
           simp only [tAf, if_false] at h
           rw [zJo] at h
           obtain ⟨x, hx⟩ := h
           refine ⟨splC 46 x, ?_⟩
           refine yBF (fun p hp => ?_) n2 ?_
           · rcases tAz.1 hp with hp | hp
             · exact zFp _ _ hp
             · exact t2 p hp
           · rw [zUT, zUS, ← t1, ← n1, hx]; simp
       · rintro ⟨a, ha⟩
         by_cases he : n = top
         · simp [he]
         · have e2 : (n == top) = false := by simpa using he
           rw [e2]
           simp only [tAf, if_false]
           rw [zJo]
           have hna : a ≠ [] := by
             intro e; rw [e, tAJ] at ha
             apply he; rw [n1, t1, ha]
           have h5 : n = jn a ++ top := by
             rw [n1, ← ha, zUT]
             conv => rhs; rw [t1]
           obtain ⟨a', l, rfl⟩ : ∃ a' l, a = a' ++ [l] := ⟨a.dropLast, a.getLast hna, (List.dropLast_concat_getLast hna).symm⟩
           refine ⟨jn a' ++ l, ?_⟩
           rw [h5, zUT]
           simp [jn]
 rw [tBm, key, decide_eq_true_eq]
 unfold zCD
 rw [← zKe, tBP]

theorem zT9 {ps : List (List UInt8)} {i : Nat} (h : (i : Int) < ps.length) : okPs (ps.drop i) (decide (i = 0)) = (okP ps[i]! (decide (i = 0)) && okPs (ps.drop (i + 1)) (decide (i + 1 = 0))) := by
 rw [drop_at (zs := ps) h]
 simp [okPs]
theorem zYb {ps : List (List UInt8)} {i : Nat} {b : Bool} (h : ¬ (i : Int) < ps.length) : okPs (ps.drop i) b = true := by rw [zBE (zs := ps) h]; rfl
theorem zN5 (c : UInt8) : ∀ l : List UInt8, (splC c l).length ≤ l.length + 1
 | [] => by simp [splC]
 | x :: r => by
   have ih := zN5 c r
   unfold splC
   split
   · simp; omega
   · split
     · simp
     · rename_i h t hs; rw [hs] at ih; simp at ih ⊢; omega
theorem zGV (c : UInt8) : ∀ (l p : List UInt8), p ∈ splC c l → p.length ≤ l.length
 | [], p, h => by simp [splC] at h; subst h; simp
 | x :: r, p, h => by
   unfold splC at h
   split at h
   · rcases tAr.1 h with rfl | h
     · simp
     · have := zGV c r p h; simp; omega
   · split at h
     · simp at h; subst h; simp
     · rename_i a t hs
       rcases tAr.1 h with rfl | h
       · have := zGV c r a (by rw [hs]; simp); simp; omega
       · have := zGV c r p (by rw [hs]; simp [h]); simp; omega

noncomputable def zEJ := mkF (fun s : (List UInt8) => [.st s]) (fun s => Sm s) (fun s => Res.flat (.bo (vName s)))
theorem zCG {s1 : List UInt8} (hp : Sm s1) : zEJ [.st s1] = some (Res.flat (.bo (vName s1))) := mkFe (s := (s1)) hp
theorem zOj (cx : Cx) (hP : cx.P = Tryz.prog) (hbs : cx.bs = 0) (h82 : cx.orc 82 = some FSuf) (h83 : cx.orc 83 = some FSpl) (h84 : cx.orc 84 = some zZ3) (hk6 : cx.kp 6 = some [20, 21, 22]) (s1 : List UInt8) (hl : Sm s1) : zAg cx Tryz.f42 [] false [.st s1] = some (Res.flat (.bo (vName s1))) := by
 have c82 := zAa h82
 have c83 := zAa h83
 have c84 := zAa h84
 have hd : Sm ([46] : List UInt8) := by simp [Sm]
 have hlen : sufB s1 [46] = true → 1 ≤ s1.length := fun h => (zJn h).2
 have hw1 : sufB s1 [46] = true → IntKind.i64.wrap ((s1.length : Int) - 1) = ((s1.length - 1 : Nat) : Int) := fun h => by have h1 := hlen h; have h2 := hl; simp only [Sm] at h2; rw [wrap64 (by omega) (by omega)]; omega
 have hsl : ∀ (H : Hp) (k : IntKind), zAW Tryz.prog H 9 (.st s1) none (some (.it k ((s1.length - 1 : Nat) : Int))) none = some (.st (s1.take (s1.length - 1))) := fun H k => zKP Tryz.underlying9 (by omega)
 have hle : ¬ 255 ≤ (s1.length : Int) → (s1.take (s1.length - 1)).length ≤ 1000000 := fun h => by rw [tAk]; omega
 have hsp := zN5 46 (s1.take (s1.length - 1))
 have hw2 : ∀ k : Nat, (k : Int) < (splC 46 (s1.take (s1.length - 1))).length → IntKind.i64.wrap ((k : Int) + 1) = ((k + 1 : Nat) : Int) := zBF (by have h2 := hl; simp only [Sm] at h2; rw [tAk] at hsp; omega)
 have hel : ∀ k : Nat, (k : Int) < (splC 46 (s1.take (s1.length - 1))).length → ((splC 46 (s1.take (s1.length - 1))).map D.st)[k]? = some (.st (splC 46 (s1.take (s1.length - 1)))[k]!) := fun k h => getm (by omega)
 have hs1 : ∀ k : Nat, (k : Int) < (splC 46 (s1.take (s1.length - 1))).length → Sm (splC 46 (s1.take (s1.length - 1)))[k]! := fun k h => by have h1 := zGV 46 _ _ (zBu h); have h2 := hl; simp only [Sm] at h2 ⊢; rw [tAk] at h1; omega
 refine zAf (rs := [.tmp 2]) rfl hbs rfl ?_
 repeat' first
   | (refine zAv (σ := Nat) (fun s => [.own 0 0 (splC 46 (s1.take (s1.length - 1))).length, .it .i64 (splC 46 (s1.take (s1.length - 1))).length, .it .i64 s]) (fun s => [.row 1 true ((splC 46 (s1.take (s1.length - 1))).map D.st)]) (fun s => s ≤ (splC 46 (s1.take (s1.length - 1))).length ∧ okPs ((splC 46 (s1.take (s1.length - 1))).drop s) (decide (s = 0)) = okPs (splC 46 (s1.take (s1.length - 1))) true) (fun s => (splC 46 (s1.take (s1.length - 1))).length - s) [20, 21, 22] hbs (by exact hk6) (fr1 fun _ => zA2 (fun _ => rfl)) (fun s js => ?_) (s := 0) [0] ?_ ?_ ?_ ?_ ?_)
   | (refine bN (fun h => ?_) fun h => ?_)
   | (refine zAI ?_ ?_)
   | simp only [↓cD, cU, cQ, cP, cB, zAD, unD, zAe, zAd, idx, reduceCtorEq, ↓reduceIte, ofV, ofC, zAq, Nat.reduceEqDiff, zAB, cG, implies_true, forall_const, immL, immD, Res.flat, ren, renL, Int.reduceEq, Int.reduceLT, Int.reduceLE, Int.reduceNe, deref, ldD, zAA, zAh, zAC, zAs, cC, c82, c83, c84, zAi, zAk, zNL, zWD, zZ2, ↓zAH, ↓zAL, ↓zAG, ↓zAK, ↓zAF, ↓zAJ, cV, cT, cF, cW, borT, borM, zAl, Res.via, zAt, zAb, refsB, Nat.reduceLT, Nat.reduceSub, Nat.reduceLeDiff, Nat.reduceMul, Nat.reduceAdd, Int.reduceToNat, appK, zAr, zAc, borL, zAj, zAm, zAz, cO, List.replicate, zAx, ofHp, ixOf, lens Tryz.underlying9, hl, zHU, hw1, hw2, hsl, hle, hs1, hel, Res.row, Res.rowd, hP, *]
 all_goals first
   | rfl
   | omega
   | exact ⟨tAL _, rfl⟩
   | (have e : s1 = [46] := (by simpa using ‹(s1 == [46]) = true›); subst e; rfl)
   | (have hne : ¬ s1 = [46] := (by simpa using ‹(s1 == [46]) = false›)
      first
      | (have e : vName s1 = false := (by rw [vName, zIW hne ‹sufB s1 [46] = false›]; rfl); rw [e]; done)
      | (have e : vName s1 = false := (by rw [vName, zLt hne (by omega)]; rfl); rw [e]; done)
      | (have ev := zKG hne (by omega) ‹sufB s1 [46] = true›
         first
         | (have e := js.2; rw [zYb (by omega)] at e; rw [ev, ← e])
         | (have e := js.2; rw [zT9 (by omega)] at e; have e2 : okP (splC 46 (s1.take (s1.length - 1)))[s]! (decide (s = 0)) = false := (by unfold okP; first | (have h0 : ¬ s = 0 := (by omega); simp only [*, decide_false, tCc, Bool.or_false]; done) | (simp only [*, Bool.and_false, Bool.or_false]; done)); rw [e2, tCc] at e; rw [ev, ← e])
         | (have e := js.2; rw [zT9 (by omega)] at e; have e2 : okP (splC 46 (s1.take (s1.length - 1)))[s]! (decide (s = 0)) = true := (by unfold okP; first | (have h0 : s = 0 := (by omega); subst h0; simp only [*, decide_true, tAR, Bool.or_true]; done) | (simp only [*, Bool.true_or]; done)); rw [e2, tAR] at e; refine ⟨[0], s + 1, ?_, ?_, ?_, ?_, ⟨by omega, e⟩, by omega⟩ <;> (first | rfl | (simp only [zAp, refs, ren, cR, Nat.reduceEqDiff, ofHp, ixOf]; first | rfl | (simp; done))))))
   | (first | rfl | (simp only [zAp, refs, ren, cR, Nat.reduceEqDiff, ofHp, ixOf]; first | rfl | (simp; done)))
theorem zUu : (labs [46]).getD [] = [] := by unfold labs; rw [if_pos rfl]; rfl
theorem zUv {n : List UInt8} (h : vName n = false) : (labs n).getD [] = [] := by
 unfold vName at h
 cases hl : labs n with
 | none => rfl
 | some l => rw [hl] at h; cases h

noncomputable def zMn := mkF (fun s : (List UInt8) => [.st s]) (fun s => Sm s) (fun s => Res.row 1 (((labs s).getD []).map D.st))
theorem zMm {s1 : List UInt8} (hp : Sm s1) : zMn [.st s1] = some (Res.row 1 (((labs s1).getD []).map D.st)) := mkFe (s := (s1)) hp
theorem zOx (cx : Cx) (hP : cx.P = Tryz.prog) (hbs : cx.bs = 0) (h42 : cx.orc 42 = some zEJ) (h83 : cx.orc 83 = some FSpl) (s1 : List UInt8) (hl : Sm s1) : zAg cx Tryz.f164 [0] false [.st s1] = some (Res.row 1 (((labs s1).getD []).map D.st)) := by
 have c42 := zAa h42
 have c83 := zAa h83
 have hf : (s1 == [46]) = false → vName s1 = true → (s1.length : Int) < 255 ∧ sufB s1 [46] = true ∧ (labs s1).getD [] = splC 46 (s1.take (s1.length - 1)) := fun h1 h2 => zE3 h2 (by simpa using h1)
 have hw1 : (s1 == [46]) = false → vName s1 = true → IntKind.i64.wrap ((s1.length : Int) - 1) = ((s1.length - 1 : Nat) : Int) := fun h0 h => by have h1 := (zJn (hf h0 h).2.1).2; have h2 := (hf h0 h).1; rw [wrap64 (by omega) (by omega)]; omega
 have hsl : ∀ (H : Hp) (k : IntKind), zAW Tryz.prog H 9 (.st s1) none (some (.it k ((s1.length - 1 : Nat) : Int))) none = some (.st (s1.take (s1.length - 1))) := fun H k => zKP Tryz.underlying9 (by omega)
 have hle : (s1 == [46]) = false → vName s1 = true → (s1.take (s1.length - 1)).length ≤ 1000000 := fun h0 h => by have h2 := (hf h0 h).1; rw [tAk]; omega
 refine zCv (rs := [.tmp 2]) rfl hbs rfl ?_
 repeat' first
   | (refine bN (fun h => ?_) fun h => ?_)
   | (refine zAI ?_ ?_)
   | simp only [↓cD, cU, cQ, cP, cB, zAD, unD, zAe, zAd, idx, reduceCtorEq, ↓reduceIte, ofV, ofC, zAq, Nat.reduceEqDiff, zAB, cG, implies_true, forall_const, immL, immD, Res.flat, ren, renL, Int.reduceEq, Int.reduceLT, Int.reduceLE, Int.reduceNe, deref, ldD, zAA, zAh, zAC, zAs, cC, c42, c83, zAi, zAk, zCG, zWD, ↓zAH, ↓zAL, ↓zAG, ↓zAK, ↓zAF, ↓zAJ, cV, cT, cF, cW, borT, borM, zAl, Res.via, zAt, zAb, refsB, Nat.reduceLT, Nat.reduceSub, Nat.reduceLeDiff, Nat.reduceMul, Nat.reduceAdd, Int.reduceToNat, appK, zAr, zAc, borL, zAj, zAm, zAz, cO, List.replicate, zAx, ofHp, ixOf, lens Tryz.underlying9, hl, hw1, hsl, hle, Res.row, Res.rowd, hP, *]
 all_goals first
   | rfl
   | (have e : s1 = [46] := (by simpa using ‹(s1 == [46]) = true›); subst e; rw [zUu]; exact ⟨_, _, _, _, rfl, rfl, rfl, rfl, rfl⟩)
   | (rw [zUv ‹_›]; exact ⟨_, _, _, _, rfl, rfl, rfl, rfl, rfl⟩)
   | exact ⟨_, _, _, _, rfl, rfl, by simp, zBJ (fun _ => rfl), by simp⟩
   | (rw [(hf ‹_› ‹_›).2.2]; exact ⟨_, _, _, _, rfl, rfl, by simp, zBJ (fun _ => rfl), rfl⟩)
noncomputable def yAl := mkF (fun s : (List UInt8) × (List UInt8) => [.st s.1, .st s.2]) (fun s => Sm s.1 ∧ s.2.length ≤ 1000000) (fun s => Res.flat (.bo (zLQ s.1 s.2)))
theorem yAk {s1 : List UInt8} {s2 : List UInt8} (hp : Sm s1 ∧ s2.length ≤ 1000000) : yAl [.st s1, .st s2] = some (Res.flat (.bo (zLQ s1 s2))) := mkFe (s := (s1, s2)) hp
theorem zTq (cx : Cx) (hP : cx.P = Tryz.prog) (hbs : cx.bs = 0) (h82 : cx.orc 82 = some FSuf) (s1 s2 : List UInt8) (hl : Sm s1 ∧ s2.length ≤ 1000000) : zAg cx Tryz.f94 [] false [.st s1, .st s2] = some (Res.flat (.bo (zLQ s1 s2))) := by
 have c82 := zAa h82
 have hl1 := hl.1
 have hl2 : ((s2.length + 1 : Nat) : Int) < 4611686018427387904 := by have := hl.2; omega
 have hl3 : (1 + s2.length ≤ 9223372036854775807) = True := by have := hl.2; simp only [eq_iff_iff, iff_true]; omega
 refine zAf (rs := [.tmp 4]) rfl hbs rfl ?_
 repeat' first
   | (refine bN (fun h => ?_) fun h => ?_)
   | (refine zAI ?_ ?_)
   | simp only [↓cD, cU, cQ, cP, cB, zAD, unD, zAe, zAd, idx, reduceCtorEq, ↓reduceIte, ofV, ofC, zAq, Nat.reduceEqDiff, zAB, cG, implies_true, forall_const, immL, immD, Res.flat, ren, renL, Int.reduceEq, Int.reduceLT, Int.reduceLE, Int.reduceNe, deref, ldD, zAA, zAh, zAC, zAs, cC, c82, zAi, zAk, zNL, ↓zAH, ↓zAL, ↓zAG, ↓zAK, ↓zAF, ↓zAJ, cV, cT, cF, cW, borT, borM, zAl, Res.via, zAt, zAb, refsB, Nat.reduceLT, Nat.reduceSub, Nat.reduceLeDiff, Nat.reduceMul, Nat.reduceAdd, Int.reduceToNat, appK, zAr, zAc, borL, zAj, zAm, zAz, cO, List.replicate, zAx, ofHp, ixOf, hl1, hl2, hl3, zHU, hP, *]
 all_goals first
   | rfl
   | (simp only [zLQ, *, if_true, if_false, tAf]; done)
theorem zQG (n top : List UInt8) : underB n top = (if vName n = true then (if vName top = true then zLQ n top else false) else false) := by
 by_cases h1 : vName n = true
 · by_cases h2 : vName top = true
   · rw [if_pos h1, if_pos h2, zRw h1 h2]
     unfold underB
     unfold vName at h1 h2
     rw [h1, h2]; rfl
   · rw [if_pos h1, if_neg h2]
     unfold underB
     unfold vName at h2
     simp [h2]
 · rw [if_neg h1]
   unfold underB
   unfold vName at h1
   simp [h1]
theorem zXk {n : List UInt8} (h : vName n = true) : n.length ≤ 1000000 := by
 by_cases h1 : n = [46]
 · subst h1; simp
 · have := (zE3 h h1).1; omega

theorem zKU (cx : Cx) (hP : cx.P = Tryz.prog) (hbs : cx.bs = 0) (h42 : cx.orc 42 = some zEJ) (h94 : cx.orc 94 = some yAl) (s1 s2 : List UInt8) (hl : Sm s1 ∧ Sm s2) : zAg cx Tryz.f50 [] false [.st s1, .st s2] = some (Res.flat (.bo (underB s1 s2))) := by
 have c42 := zAa h42
 have c94 := zAa h94
 have hl1 := hl.1; have hl2 := hl.2
 have hv : vName s2 = true → s2.length ≤ 1000000 := fun h => zXk h
 refine zAf (rs := [.tmp 4]) rfl hbs rfl ?_
 repeat' first
   | (refine bN (fun h => ?_) fun h => ?_)
   | (refine zAI ?_ ?_)
   | simp only [↓cD, cU, cQ, cP, cB, zAD, unD, zAe, zAd, idx, reduceCtorEq, ↓reduceIte, ofV, ofC, zAq, Nat.reduceEqDiff, zAB, cG, implies_true, forall_const, immL, immD, Res.flat, ren, renL, Int.reduceEq, Int.reduceLT, Int.reduceLE, Int.reduceNe, deref, ldD, zAA, zAh, zAC, zAs, cC, c42, c94, zAi, zAk, zCG, yAk, ↓zAH, ↓zAL, ↓zAG, ↓zAK, ↓zAF, ↓zAJ, cV, cT, cF, cW, borT, borM, zAl, Res.via, zAt, zAb, refsB, Nat.reduceLT, Nat.reduceSub, Nat.reduceLeDiff, Nat.reduceMul, Nat.reduceAdd, Int.reduceToNat, appK, zAr, zAc, borL, zAj, zAm, zAz, cO, List.replicate, zAx, ofHp, ixOf, hl1, hl2, hv, hP, *]
 all_goals first
   | rfl
   | (rw [zQG]; simp only [*, if_true, if_false, tAf]; done)
theorem zDG {a b : List UInt8} (h : zA9 a b = 0) : a = b := by
 unfold zA9 at h
 split at h
 · omega
 · rename_i h1
   split at h
   · rename_i h2
     rcases tAK _ _ ▸ h2 with h3 | h3
     · exact absurd h3 h1
     · simpa using h3
   · omega
theorem zBg : ∀ a : List UInt8, Op.bytesLess a a = false
 | [] => rfl
 | x :: r => by simp [Op.bytesLess, zBg r, UInt8.lt_irrefl]
theorem zGd (a : List UInt8) : zA9 a a = 0 := by simp [zA9, zBg]
theorem zVL : ∀ {a b : List (List UInt8)} {k : Nat}, k ≤ cpre a b → k < a.length → k < b.length → a[k]! = b[k]! → k + 1 ≤ cpre a b
 | [], _, k, _, h, _, _ => by simp at h
 | _ :: _, [], k, _, _, h, _ => by simp at h
 | x :: a, y :: b, 0, _, _, _, h => by
   have : x = y := by simpa using h
   subst this; simp [cpre]
 | x :: a, y :: b, k + 1, h0, h1, h2, h => by
   by_cases hxy : x = y
   · subst hxy
     simp only [cpre, if_true] at h0 ⊢
     have := zVL (a := a) (b := b) (k := k) (by omega) (by simpa using h1) (by simpa using h2) (by simpa using h)
     omega
   · have hxy' : cpre (x :: a) (y :: b) = 0 := by simp [cpre, hxy]
     omega
theorem zLU : ∀ {a b : List (List UInt8)} {k : Nat}, k ≤ cpre a b → k < a.length → k < b.length → ¬ a[k]! = b[k]! → cpre a b = k
 | [], _, k, _, h, _, _ => by simp at h
 | _ :: _, [], k, _, _, h, _ => by simp at h
 | x :: a, y :: b, 0, _, _, _, h => by
   have : ¬ x = y := by simpa using h
   simp [cpre, this]
 | x :: a, y :: b, k + 1, h0, h1, h2, h => by
   by_cases hxy : x = y
   · subst hxy
     simp only [cpre, if_true] at h0 ⊢
     have := zLU (a := a) (b := b) (k := k) (by omega) (by simpa using h1) (by simpa using h2) (by simpa using h)
     omega
   · have hxy' : cpre (x :: a) (y :: b) = 0 := by simp [cpre, hxy]
     omega

theorem yFl {a b : List UInt8} (h : vName a = true) (k : vName b = false) : cmpB a b = -1 := by
 unfold vName at h k
 unfold cmpB
 rw [if_pos h, if_neg (by rw [k]; decide)]
theorem yFm {a b : List UInt8} (h : vName a = false) (k : vName b = true) : cmpB a b = 1 := by
 unfold vName at h k
 unfold cmpB
 rw [if_neg (by rw [h]; decide), if_pos k]
theorem yFn {a b : List UInt8} (h : vName a = false) (k : vName b = false) : cmpB a b = zA9 a b := by
 unfold vName at h k
 unfold cmpB
 rw [if_neg (by rw [h]; decide), if_neg (by rw [k]; decide)]
theorem zVU {a b : List UInt8} (h : vName a = true) (k : vName b = true) : cmpB a b = (if zCD ((labs a).getD []) ((labs b).getD []) < ((labs a).getD []).length ∧ zCD ((labs a).getD []) ((labs b).getD []) < ((labs b).getD []).length then zA9 ((labs a).getD []).reverse[zCD ((labs a).getD []) ((labs b).getD [])]! ((labs b).getD []).reverse[zCD ((labs a).getD []) ((labs b).getD [])]! else if ((labs a).getD []).length < ((labs b).getD []).length then -1 else if ((labs b).getD []).length < ((labs a).getD []).length then 1 else 0) := by
 unfold vName at h k
 unfold cmpB
 rw [if_pos h, if_pos k]

theorem zON (cx : Cx) (hP : cx.P = Tryz.prog) (hbs : cx.bs = 0) (h42 : cx.orc 42 = some zEJ) (h163 : cx.orc 163 = some zGK) (h164 : cx.orc 164 = some zMn) (r42 : cx.rd.contains 42 = true) (r163 : cx.rd.contains 163 = true) (r164 : cx.rd.contains 164 = true) (hk10 : cx.kp 10 = some [7, 8, 9]) (s1 s2 : List UInt8) (hl : Sm s1 ∧ Sm s2) : zAg cx Tryz.f122 [] false [.st s1, .st s2] = some (Res.flat (.it .i64 (cmpB s1 s2))) := by
 have c42 := zAa h42
 have d42 := zAo r42 h42
 have c163 := zAa h163
 have d163 := zAo r163 h163
 have c164 := zAa h164
 have d164 := zAo r164 h164
 have hl1 := hl.1; have hl2 := hl.2
 have hn1 := zC7 s1; have hn2 := zC7 s2
 have hw1 : ∀ k : Nat, ((k + 1 : Nat) : Int) ≤ ((labs s1).getD []).length → IntKind.i64.wrap (((k + 1 : Nat) : Int) + 1) = ((k + 1 + 1 : Nat) : Int) := fun k h => by rw [wrap64 (by omega) (by omega)]; omega
 have hw2 : ∀ k : Nat, ((k + 1 : Nat) : Int) ≤ ((labs s1).getD []).length → IntKind.i64.wrap ((((labs s1).getD []).length : Int) - ((k + 1 : Nat) : Int)) = ((((labs s1).getD []).length - 1 - k : Nat) : Int) := fun k h => by rw [wrap64 (by omega) (by omega)]; omega
 have hw3 : ∀ k : Nat, ((k + 1 : Nat) : Int) ≤ ((labs s2).getD []).length → IntKind.i64.wrap ((((labs s2).getD []).length : Int) - ((k + 1 : Nat) : Int)) = ((((labs s2).getD []).length - 1 - k : Nat) : Int) := fun k h => by rw [wrap64 (by omega) (by omega)]; omega
 have hx1 : ∀ k : Nat, ((k + 1 : Nat) : Int) ≤ ((labs s1).getD []).length → (((labs s1).getD []).map D.st)[((labs s1).getD []).length - 1 - k]? = some (.st ((labs s1).getD []).reverse[k]!) := fun k h => zOU (by omega)
 have hx2 : ∀ k : Nat, ((k + 1 : Nat) : Int) ≤ ((labs s2).getD []).length → (((labs s2).getD []).map D.st)[((labs s2).getD []).length - 1 - k]? = some (.st ((labs s2).getD []).reverse[k]!) := fun k h => zOU (by omega)
 have hb1 : ∀ k : Nat, ((k + 1 : Nat) : Int) ≤ ((labs s1).getD []).length → (((((labs s1).getD []).length - 1 - k : Nat) : Int) < (((labs s1).getD []).length : Int)) = True := fun k h => by simp only [eq_iff_iff, iff_true]; omega
 have hb2 : ∀ k : Nat, ((k + 1 : Nat) : Int) ≤ ((labs s2).getD []).length → (((((labs s2).getD []).length - 1 - k : Nat) : Int) < (((labs s2).getD []).length : Int)) = True := fun k h => by simp only [eq_iff_iff, iff_true]; omega
 have hb3 : True := trivial
 have hb4 : True := trivial
 refine zAf (rs := [.tmp 4]) rfl hbs rfl ?_
 repeat' first
   | (refine zAv (σ := Nat) (fun s => [.own 0 0 ((labs s1).getD []).length, .own 1 0 ((labs s2).getD []).length, .it .i64 ((s + 1 : Nat) : Int)]) (fun s => [.row 1 true (((labs s1).getD []).map D.st), .row 1 true (((labs s2).getD []).map D.st)]) (fun s => s ≤ cpre ((labs s1).getD []).reverse ((labs s2).getD []).reverse) (fun s => ((labs s1).getD []).length - s) [7, 8, 9] hbs (by exact hk10) (fun q jq b hb => by simp only [tAr, tA0, or_false] at hb; rcases hb with rfl | rfl <;> exact zA2 (fun _ => rfl)) (fun s js => ?_) (s := 0) [0, 1] ?_ ?_ ?_ ?_ ?_)
   | (refine bN (fun h => ?_) fun h => ?_)
   | (refine zAI ?_ ?_)
   | simp only [↓cD, cU, cQ, cP, cB, zAD, unD, zAe, zAd, idx, reduceCtorEq, ↓reduceIte, ofV, ofC, zAq, Nat.reduceEqDiff, zAB, cG, implies_true, forall_const, immL, immD, Res.flat, ren, renL, Int.reduceEq, Int.reduceLT, Int.reduceLE, Int.reduceNe, deref, ldD, zAA, zAh, zAC, zAs, cC, cS, refs, zAy, okId, tAs, tAq, Nat.reduceMul, Nat.reduceAdd, Nat.reduceLeDiff, zAp, c42, c163, c164, d42, d163, d164, zAi, zAk, zCG, zIu, zMm, ↓zAH, ↓zAL, ↓zAG, ↓zAK, ↓zAF, ↓zAJ, cV, cT, cF, cW, borT, borM, zAl, Res.via, zAt, zAb, refsB, Nat.reduceLT, Nat.reduceSub, Nat.reduceLeDiff, Nat.reduceMul, Nat.reduceAdd, Int.reduceToNat, appK, zAr, zAc, borL, zAj, zAm, zAz, cO, List.replicate, zAx, ofHp, ixOf, cS, refs, zAy, okId, tAs, tAq, Nat.reduceMul, Nat.reduceAdd, Nat.reduceLeDiff, zAp, hl1, hl2, hw1, hw2, hw3, hx1, hx2, hb1, hb2, hb3, hb4, Res.row, Res.rowd, hP, *]
 all_goals first
   | rfl
   | omega
   | exact tAL _
   | (rw [yFl ‹_› ‹_›]; done)
   | (rw [yFm ‹_› ‹_›]; done)
   | (rw [yFn ‹_› ‹_›]; done)
   | (have ec := zVL js (by rw [tBP]; omega) (by rw [tBP]; omega) (zDG ‹_›); refine ⟨[0, 1], s + 1, ?_, ?_, ?_, ?_, ec, by omega⟩ <;> (first | rfl | (simp only [zAp, refs, ren, cR, Nat.reduceEqDiff, ofHp, ixOf]; first | rfl | (simp; done))))
   | (have ec : zCD ((labs s1).getD []) ((labs s2).getD []) = s := zLU js (by rw [tBP]; omega) (by rw [tBP]; omega) (fun e => (‹¬ zA9 _ _ = 0›) (by rw [e]; exact zGd _)); rw [zVU ‹_› ‹_›, ec, if_pos ⟨by omega, by omega⟩]; done)
   | (have hsl : s ≤ zCD ((labs s1).getD []) ((labs s2).getD []) := js; rw [zVU ‹_› ‹_›, if_neg (by rintro ⟨q1, q2⟩; omega)]; (repeat' split) <;> first | rfl | omega)
   | (first | rfl | (simp only [zAp, refs, ren, cR, Nat.reduceEqDiff, ofHp, ixOf]; first | rfl | (simp; done)))
end Go.Mir
