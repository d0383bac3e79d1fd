/- What the program's functions answer, read off their code; no conditions. -/
import Derived.Test.YtnmohcaeepcloaaGreatDoorMir3
import Derived.Test.YtnmohcaeepcloaaGreatDoorRows
import Derived.KernelRfl
set_option linter.unusedSimpArgs false
set_option linter.unusedVariables false
set_option linter.defProp false
set_option maxRecDepth 100000
set_option maxHeartbeats 4000000
open Go Go.RowKit Go.Proofs
namespace Go.Mir
attribute [local congr] Ev.congr EvC.congr EvW.congr Br.congr Ms.congr
set_option linter.defProp false in
def cP := And.intro @List.length_cons.{0} (And.intro @Option.map_some.{0,0} (And.intro @List.length_nil.{0} (And.intro @List.nil_append.{0} (And.intro @Option.bind_some.{0,0} (And.intro @Nat.add_zero (And.intro @List.zip_cons_cons.{0,0} (And.intro @List.zip_nil_left.{0,0} (And.intro @List.take_zero.{0} (And.intro @List.head?_cons.{0} (And.intro @List.getElem?_cons_zero.{0} (And.intro @List.getElem?_cons_succ.{0} (And.intro @List.take_succ_cons.{0} (And.intro @Option.map_none.{0,0} (And.intro @Option.bind_none.{0,0} (And.intro @List.toList_toArray.{0} (And.intro @List.cons_append.{0} (And.intro @List.isEmpty_cons.{0} (And.intro @List.isEmpty_nil.{0} (And.intro @Int.toNat_natCast (And.intro @List.set_cons_zero.{0} (And.intro @List.set_cons_succ.{0} (@Option.isSome_some.{0}))))))))))))))))))))))
def cQ := And.intro @not_false_eq_true (And.intro @Bool.and_self (And.intro @decide_true (And.intro @decide_false (And.intro @not_true_eq_false (And.intro @false_and (And.intro @false_implies (And.intro @List.getElem?_toArray.{0} (And.intro @decide_eq_true_eq (And.intro @decide_eq_false_iff_not (And.intro @ge_iff_le.{0} (And.intro @gt_iff_lt.{0} (And.intro @and_true (And.intro @true_and (And.intro @true_or (And.intro @or_true (And.intro @Bool.true_and (And.intro @Bool.and_true (And.intro @Bool.false_and (And.intro @Bool.and_false (And.intro @Bool.true_or (And.intro @Bool.or_true (And.intro @Bool.false_or (And.intro @Bool.or_false (And.intro @List.map_cons.{0,0} (And.intro @List.map_nil.{0,0} (And.intro @List.append_nil.{0} (And.intro @Bool.not_eq_true' (And.intro @Bool.not_true (And.intro @Bool.not_false (And.intro @Bool.not_eq_true (And.intro @Bool.not_eq_false' (And.intro @Bool.not_eq_false (And.intro @Bool.true_eq_false (And.intro @Bool.false_eq_true (And.intro @if_true.{1} (And.intro @if_false.{1} (And.intro @ite_self.{1} (And.intro @or_false (And.intro @false_or (And.intro @or_self (And.intro @eq_self.{1} (And.intro @List.size_toArray.{0} (And.intro @zWs (And.intro @zRw (And.intro @List.drop_zero.{0} (And.intro @yB0 (And.intro @yFp (And.intro @List.length_replicate.{0} (And.intro @List.length_append.{0} (And.intro @List.length_map.{0,0} (And.intro @List.drop_succ_cons.{0} (And.intro @Nat.zero_lt_succ (And.intro @Nat.zero_add (And.intro @List.flatMap_cons.{0,0} (@List.flatMap_nil.{0,0})))))))))))))))))))))))))))))))))))))))))))))))))))))))
def cI := And.intro @List.cons.injEq.{0} (And.intro @D.it.injEq (And.intro @D.st.injEq (And.intro @D.bo.injEq (And.intro @true_and (And.intro @and_true (And.intro @yGM (And.intro @yGg (And.intro @zYf (And.intro @zNt (And.intro @zZM (And.intro @yCz (And.intro @zQf (And.intro @zWV (And.intro @yBf (@zVe)))))))))))))))
theorem sz53 : szT Tryz.prog 53 = some 16 := by kernel_rfl
theorem zE7 : aggT Tryz.prog 53 = some true := by kernel_rfl
theorem sz51 : szT Tryz.prog 51 = some 13 := by kernel_rfl
theorem zE8 : aggT Tryz.prog 51 = some true := by kernel_rfl
theorem sz49 : szT Tryz.prog 49 = some 3 := by kernel_rfl
theorem zE9 : aggT Tryz.prog 49 = some true := by kernel_rfl
theorem sz24 : szT Tryz.prog 24 = some 2 := by kernel_rfl
theorem zFd : aggT Tryz.prog 24 = some true := by kernel_rfl
theorem sz28 : szT Tryz.prog 28 = some 5 := by kernel_rfl
theorem zFc : aggT Tryz.prog 28 = some true := by kernel_rfl
theorem sz3 : szT Tryz.prog 3 = some 1 := by kernel_rfl
theorem agg3 : aggT Tryz.prog 3 = some false := by kernel_rfl
theorem sz4 : szT Tryz.prog 4 = some 1 := by kernel_rfl
theorem agg4 : aggT Tryz.prog 4 = some false := by kernel_rfl
theorem sz9 : szT Tryz.prog 9 = some 1 := by kernel_rfl
theorem agg9 : aggT Tryz.prog 9 = some false := by kernel_rfl
theorem sz5 : szT Tryz.prog 5 = some 1 := by kernel_rfl
theorem agg5 : aggT Tryz.prog 5 = some false := by kernel_rfl
theorem sz47 : szT Tryz.prog 47 = some 1 := by kernel_rfl
theorem zFa : aggT Tryz.prog 47 = some false := by kernel_rfl
theorem sz90 : szT Tryz.prog 90 = some 1 := by kernel_rfl
theorem zE4 : aggT Tryz.prog 90 = some false := by kernel_rfl
theorem sz98 : szT Tryz.prog 98 = some 1 := by kernel_rfl
theorem zE3 : aggT Tryz.prog 98 = some false := by kernel_rfl
theorem sz29 : szT Tryz.prog 29 = some 1 := by kernel_rfl
theorem zFb : aggT Tryz.prog 29 = some false := by kernel_rfl
theorem sz22 : szT Tryz.prog 22 = some 1 := by kernel_rfl
theorem zFe : aggT Tryz.prog 22 = some false := by kernel_rfl
theorem sz79 : szT Tryz.prog 79 = some 1 := by kernel_rfl
theorem zE5 : aggT Tryz.prog 79 = some false := by kernel_rfl
theorem zET : szT Tryz.prog 111 = some 1 := by kernel_rfl
theorem zC6 : aggT Tryz.prog 111 = some false := by kernel_rfl
theorem zES : szT Tryz.prog 149 = some 1 := by kernel_rfl
theorem zC5 : aggT Tryz.prog 149 = some false := by kernel_rfl
theorem sz60 : szT Tryz.prog 60 = some 1 := by kernel_rfl
theorem zE6 : aggT Tryz.prog 60 = some false := by kernel_rfl
theorem yDy : zHX Tryz.prog 49 = some (.agg [.bo false, .it .u64 0, .it .u64 0]) := by kernel_rfl
theorem yDx : zHX Tryz.prog 51 = some (.agg [.bo false, .it .u64 0, .it .u64 0, .st [], .st [], .st [], .it .i64 0, .it .i64 0, .it .i64 0, .it .i64 0, .it .i64 0, .it .i64 0, .it .u64 0]) := by kernel_rfl
theorem yDw : zHX Tryz.prog 53 = some (.agg [.st [], .it .i64 0, .it .i64 0, .bo false, .it .u64 0, .it .u64 0, .st [], .st [], .st [], .it .i64 0, .it .i64 0, .it .i64 0, .it .i64 0, .it .i64 0, .it .i64 0, .it .u64 0]) := by kernel_rfl
theorem yDA : zHX Tryz.prog 24 = some (.agg [.st [], .vec 16 false []]) := by kernel_rfl
theorem yDz : zHX Tryz.prog 28 = some (.agg [.st [], .it .i64 0, .it .i64 0, .vec 16 false [], .vec 16 false []]) := by kernel_rfl
theorem el22 : zDp Tryz.prog 22 = some 53 := by kernel_rfl
theorem ap22 : appT Tryz.prog 22 16 160 = true := by kernel_rfl
theorem ze22 : zHL Tryz.prog 53 16 = some (.agg [.st [], .it .i64 0, .it .i64 0, .bo false, .it .u64 0, .it .u64 0, .st [], .st [], .st [], .it .i64 0, .it .i64 0, .it .i64 0, .it .i64 0, .it .i64 0, .it .i64 0, .it .u64 0]) := by kernel_rfl
theorem yKW : ∀ (H : Hp) (nid : Nat) (s x : D), zEl Tryz.prog 22 H nid s x = appK 16 160 H nid s x := fun _ _ _ _ => zOO ap22
theorem yKZ : ∀ (H : Hp) (nid : Nat) (s x : D), zD9 Tryz.prog 22 H nid s x = zQ8 16 160 H nid s x := fun _ _ _ _ => zLe ap22
theorem yIb : ∀ {α : Type} (H : Hp) (sz : Nat) (E : α → D) (xs : List α), lenD Tryz.prog H 22 (vecE sz E xs) = some (xs.length : Int) := fun _ _ _ _ => zIx Tryz.underlying22
theorem yIe : ∀ (H : Hp) (id off len : Nat), lenD Tryz.prog H 22 (.own id off len) = match H id with | .row _ _ _ => some (len : Int) | _ => none := fun _ _ _ _ => zK5 Tryz.underlying22
theorem yHB : ∀ {α : Type} (sz : Nat) (E : α → D) (xs : List α), zDu Tryz.prog 22 (vecE sz E xs) = true := fun _ _ _ => zIf Tryz.underlying22
theorem yKz : ∀ (H : Hp) (id off len : Nat) (k : IntKind) (n : Int), zA6 Tryz.prog H 22 (.own id off len) (.it k n) = match H id with | .row sz _ _ => if szT Tryz.prog 53 = some sz ∧ 0 ≤ n ∧ n < len then some (.rowp id (off + n.toNat) 0) else none | _ => none := fun _ _ _ _ _ _ => zNq Tryz.underlying22
theorem yKb : ∀ (H : Hp) (id len k : Nat) (kd : IntKind), zBm Tryz.prog H 22 (.own id 0 len) none (some (.it kd (k : Int))) none = match H id with | .row sz _ _ => if szT Tryz.prog 53 = some sz ∧ k ≤ len then some (.own id 0 k) else none | _ => none := fun _ _ _ _ _ => zN7 Tryz.underlying22
theorem yKe : ∀ (H : Hp) (id off len k : Nat) (kd : IntKind), zBm Tryz.prog H 22 (.own id off len) (some (.it kd (k : Int))) none none = match H id with | .row sz _ _ => if szT Tryz.prog 53 = some sz ∧ k ≤ len then some (.own id (off + k) (len - k)) else none | _ => none := fun _ _ _ _ _ _ => zIg Tryz.underlying22
theorem yKh : ∀ {α : Type} (H : Hp) (E : α → D) (xs : List α) (k : IntKind) (i : Nat) (_ : i ≤ xs.length), zBm Tryz.prog H 22 (vecE 16 E xs) (some (.it k (i : Int))) none none = some (vecE 16 E (xs.drop i)) := fun _ _ _ _ _ h => zIh Tryz.underlying22 sz53 h
theorem yKs : ∀ (H : Hp) (nid : Nat) (c : Int), zG9 Tryz.prog 22 H nid (.it .i64 0) (.it .i64 c) = if 0 ≤ c ∧ ((160 : Nat) : Int) * c ≤ 281474976710656 then some (.own nid 0 0, upd H nid (.row 16 true []), nid + 1) else none := fun _ _ _ => zTP el22 ze22 (by kernel_rfl) (by decide)
theorem yHE : ∀ (id off len : Nat), zDu Tryz.prog 22 (.own id off len) = true := fun _ _ _ => zFp Tryz.underlying22
theorem yKw : ∀ {α : Type} [Inhabited α] (H : Hp) (E : α → D) (xs : List α) (k : IntKind) (i : Nat) (_ : (i : Int) < xs.length), zA6 Tryz.prog H 22 (vecE 16 E xs) (.it k (i : Int)) = some (.elt (E xs[i]!).cells) := fun _ _ _ _ _ h => zJ0 Tryz.underlying22 sz53 h
theorem el79 : zDp Tryz.prog 79 = some 9 := by kernel_rfl
theorem ap79 : appT Tryz.prog 79 1 16 = true := by kernel_rfl
theorem ze79 : zHL Tryz.prog 9 1 = some (.st []) := by kernel_rfl
theorem yKU : ∀ (H : Hp) (nid : Nat) (s x : D), zEl Tryz.prog 79 H nid s x = appK 1 16 H nid s x := fun _ _ _ _ => zOO ap79
theorem yKX : ∀ (H : Hp) (nid : Nat) (s x : D), zD9 Tryz.prog 79 H nid s x = zQ8 1 16 H nid s x := fun _ _ _ _ => zLe ap79
theorem yH9 : ∀ {α : Type} (H : Hp) (sz : Nat) (E : α → D) (xs : List α), lenD Tryz.prog H 79 (vecE sz E xs) = some (xs.length : Int) := fun _ _ _ _ => zIx Tryz.underlying79
theorem yIc : ∀ (H : Hp) (id off len : Nat), lenD Tryz.prog H 79 (.own id off len) = match H id with | .row _ _ _ => some (len : Int) | _ => none := fun _ _ _ _ => zK5 Tryz.underlying79
theorem yHz : ∀ {α : Type} (sz : Nat) (E : α → D) (xs : List α), zDu Tryz.prog 79 (vecE sz E xs) = true := fun _ _ _ => zIf Tryz.underlying79
theorem yKx : ∀ (H : Hp) (id off len : Nat) (k : IntKind) (n : Int), zA6 Tryz.prog H 79 (.own id off len) (.it k n) = match H id with | .row sz _ _ => if szT Tryz.prog 9 = some sz ∧ 0 ≤ n ∧ n < len then some (.rowp id (off + n.toNat) 0) else none | _ => none := fun _ _ _ _ _ _ => zNq Tryz.underlying79
theorem yJ9 : ∀ (H : Hp) (id len k : Nat) (kd : IntKind), zBm Tryz.prog H 79 (.own id 0 len) none (some (.it kd (k : Int))) none = match H id with | .row sz _ _ => if szT Tryz.prog 9 = some sz ∧ k ≤ len then some (.own id 0 k) else none | _ => none := fun _ _ _ _ _ => zN7 Tryz.underlying79
theorem yKc : ∀ (H : Hp) (id off len k : Nat) (kd : IntKind), zBm Tryz.prog H 79 (.own id off len) (some (.it kd (k : Int))) none none = match H id with | .row sz _ _ => if szT Tryz.prog 9 = some sz ∧ k ≤ len then some (.own id (off + k) (len - k)) else none | _ => none := fun _ _ _ _ _ _ => zIg Tryz.underlying79
theorem yKf : ∀ {α : Type} (H : Hp) (E : α → D) (xs : List α) (k : IntKind) (i : Nat) (_ : i ≤ xs.length), zBm Tryz.prog H 79 (vecE 1 E xs) (some (.it k (i : Int))) none none = some (vecE 1 E (xs.drop i)) := fun _ _ _ _ _ h => zIh Tryz.underlying79 sz9 h
theorem yKq : ∀ (H : Hp) (nid : Nat) (c : Int), zG9 Tryz.prog 79 H nid (.it .i64 0) (.it .i64 c) = if 0 ≤ c ∧ ((16 : Nat) : Int) * c ≤ 281474976710656 then some (.own nid 0 0, upd H nid (.row 1 true []), nid + 1) else none := fun _ _ _ => zTP el79 ze79 (by kernel_rfl) (by decide)
theorem yHC : ∀ (id off len : Nat), zDu Tryz.prog 79 (.own id off len) = true := fun _ _ _ => zFp Tryz.underlying79
theorem zQw : ∀ {α : Type} [Inhabited α] (H : Hp) (E : α → D) (xs : List α) (k : IntKind) (i : Nat) (_ : (i : Int) < xs.length), zA6 Tryz.prog H 79 (vecE 1 E xs) (.it k (i : Int)) = some (.elt (E xs[i]!).cells) := fun _ _ _ _ _ h => zJ0 Tryz.underlying79 sz9 h
theorem yJr : zDp Tryz.prog 111 = some 3 := by kernel_rfl
theorem yGG : appT Tryz.prog 111 1 8 = true := by kernel_rfl
theorem yHe : zHL Tryz.prog 3 1 = some (.it .i64 0) := by kernel_rfl
theorem yJR : ∀ (H : Hp) (nid : Nat) (s x : D), zEl Tryz.prog 111 H nid s x = appK 1 8 H nid s x := fun _ _ _ _ => zOO yGG
theorem yJU : ∀ (H : Hp) (nid : Nat) (s x : D), zD9 Tryz.prog 111 H nid s x = zQ8 1 8 H nid s x := fun _ _ _ _ => zLe yGG
theorem yFt : ∀ {α : Type} (H : Hp) (sz : Nat) (E : α → D) (xs : List α), lenD Tryz.prog H 111 (vecE sz E xs) = some (xs.length : Int) := fun _ _ _ _ => zIx Tryz.underlying111
theorem yFv : ∀ (H : Hp) (id off len : Nat), lenD Tryz.prog H 111 (.own id off len) = match H id with | .row _ _ _ => some (len : Int) | _ => none := fun _ _ _ _ => zK5 Tryz.underlying111
theorem yEJ : ∀ {α : Type} (sz : Nat) (E : α → D) (xs : List α), zDu Tryz.prog 111 (vecE sz E xs) = true := fun _ _ _ => zIf Tryz.underlying111
theorem yIn : ∀ (H : Hp) (id off len : Nat) (k : IntKind) (n : Int), zA6 Tryz.prog H 111 (.own id off len) (.it k n) = match H id with | .row sz _ _ => if szT Tryz.prog 3 = some sz ∧ 0 ≤ n ∧ n < len then some (.rowp id (off + n.toNat) 0) else none | _ => none := fun _ _ _ _ _ _ => zNq Tryz.underlying111
theorem yHL : ∀ (H : Hp) (id len k : Nat) (kd : IntKind), zBm Tryz.prog H 111 (.own id 0 len) none (some (.it kd (k : Int))) none = match H id with | .row sz _ _ => if szT Tryz.prog 3 = some sz ∧ k ≤ len then some (.own id 0 k) else none | _ => none := fun _ _ _ _ _ => zN7 Tryz.underlying111
theorem yHN : ∀ (H : Hp) (id off len k : Nat) (kd : IntKind), zBm Tryz.prog H 111 (.own id off len) (some (.it kd (k : Int))) none none = match H id with | .row sz _ _ => if szT Tryz.prog 3 = some sz ∧ k ≤ len then some (.own id (off + k) (len - k)) else none | _ => none := fun _ _ _ _ _ _ => zIg Tryz.underlying111
theorem yHQ : ∀ {α : Type} (H : Hp) (E : α → D) (xs : List α) (k : IntKind) (i : Nat) (_ : i ≤ xs.length), zBm Tryz.prog H 111 (vecE 1 E xs) (some (.it k (i : Int))) none none = some (vecE 1 E (xs.drop i)) := fun _ _ _ _ _ h => zIh Tryz.underlying111 sz3 h
theorem yH5 : ∀ (H : Hp) (nid : Nat) (c : Int), zG9 Tryz.prog 111 H nid (.it .i64 0) (.it .i64 c) = if 0 ≤ c ∧ ((8 : Nat) : Int) * c ≤ 281474976710656 then some (.own nid 0 0, upd H nid (.row 1 true []), nid + 1) else none := fun _ _ _ => zTP yJr yHe (by kernel_rfl) (by decide)
theorem yEL : ∀ (id off len : Nat), zDu Tryz.prog 111 (.own id off len) = true := fun _ _ _ => zFp Tryz.underlying111
theorem yIj : ∀ {α : Type} [Inhabited α] (H : Hp) (E : α → D) (xs : List α) (k : IntKind) (i : Nat) (_ : (i : Int) < xs.length), zA6 Tryz.prog H 111 (vecE 1 E xs) (.it k (i : Int)) = some (.elt (E xs[i]!).cells) := fun _ _ _ _ _ h => zJ0 Tryz.underlying111 sz3 h
theorem yF7 : zDp Tryz.prog 149 = some 5 := by kernel_rfl
theorem yGF : appT Tryz.prog 149 1 1 = true := by kernel_rfl
theorem yEh : zHL Tryz.prog 5 1 = some (.it .u8 0) := by kernel_rfl
theorem yJQ : ∀ (H : Hp) (nid : Nat) (s x : D), zEl Tryz.prog 149 H nid s x = appK 1 1 H nid s x := fun _ _ _ _ => zOO yGF
theorem yJT : ∀ (H : Hp) (nid : Nat) (s x : D), zD9 Tryz.prog 149 H nid s x = zQ8 1 1 H nid s x := fun _ _ _ _ => zLe yGF
theorem yFs : ∀ {α : Type} (H : Hp) (sz : Nat) (E : α → D) (xs : List α), lenD Tryz.prog H 149 (vecE sz E xs) = some (xs.length : Int) := fun _ _ _ _ => zIx Tryz.underlying149
theorem yFu : ∀ (H : Hp) (id off len : Nat), lenD Tryz.prog H 149 (.own id off len) = match H id with | .row _ _ _ => some (len : Int) | _ => none := fun _ _ _ _ => zK5 Tryz.underlying149
theorem yEI : ∀ {α : Type} (sz : Nat) (E : α → D) (xs : List α), zDu Tryz.prog 149 (vecE sz E xs) = true := fun _ _ _ => zIf Tryz.underlying149
theorem yIm : ∀ (H : Hp) (id off len : Nat) (k : IntKind) (n : Int), zA6 Tryz.prog H 149 (.own id off len) (.it k n) = match H id with | .row sz _ _ => if szT Tryz.prog 5 = some sz ∧ 0 ≤ n ∧ n < len then some (.rowp id (off + n.toNat) 0) else none | _ => none := fun _ _ _ _ _ _ => zNq Tryz.underlying149
theorem yHK : ∀ (H : Hp) (id len k : Nat) (kd : IntKind), zBm Tryz.prog H 149 (.own id 0 len) none (some (.it kd (k : Int))) none = match H id with | .row sz _ _ => if szT Tryz.prog 5 = some sz ∧ k ≤ len then some (.own id 0 k) else none | _ => none := fun _ _ _ _ _ => zN7 Tryz.underlying149
theorem yDG : ∀ (H : Hp) (id off len k : Nat) (kd : IntKind), zBm Tryz.prog H 149 (.own id off len) (some (.it kd (k : Int))) none none = match H id with | .row sz _ _ => if szT Tryz.prog 5 = some sz ∧ k ≤ len then some (.own id (off + k) (len - k)) else none | _ => none := fun _ _ _ _ _ _ => zIg Tryz.underlying149
theorem yHP : ∀ {α : Type} (H : Hp) (E : α → D) (xs : List α) (k : IntKind) (i : Nat) (_ : i ≤ xs.length), zBm Tryz.prog H 149 (vecE 1 E xs) (some (.it k (i : Int))) none none = some (vecE 1 E (xs.drop i)) := fun _ _ _ _ _ h => zIh Tryz.underlying149 sz5 h
theorem yH4 : ∀ (H : Hp) (nid : Nat) (c : Int), zG9 Tryz.prog 149 H nid (.it .i64 0) (.it .i64 c) = if 0 ≤ c ∧ ((1 : Nat) : Int) * c ≤ 281474976710656 then some (.own nid 0 0, upd H nid (.row 1 true []), nid + 1) else none := fun _ _ _ => zTP yF7 yEh (by kernel_rfl) (by decide)
theorem yEK : ∀ (id off len : Nat), zDu Tryz.prog 149 (.own id off len) = true := fun _ _ _ => zFp Tryz.underlying149
theorem yIi : ∀ {α : Type} [Inhabited α] (H : Hp) (E : α → D) (xs : List α) (k : IntKind) (i : Nat) (_ : (i : Int) < xs.length), zA6 Tryz.prog H 149 (vecE 1 E xs) (.it k (i : Int)) = some (.elt (E xs[i]!).cells) := fun _ _ _ _ _ h => zJ0 Tryz.underlying149 sz5 h
theorem el60 : zDp Tryz.prog 60 = some 22 := by kernel_rfl
theorem ap60 : appT Tryz.prog 60 1 24 = true := by kernel_rfl
theorem ze60 : zHL Tryz.prog 22 1 = some (.vec 16 false []) := by kernel_rfl
theorem yKV : ∀ (H : Hp) (nid : Nat) (s x : D), zEl Tryz.prog 60 H nid s x = appK 1 24 H nid s x := fun _ _ _ _ => zOO ap60
theorem yKY : ∀ (H : Hp) (nid : Nat) (s x : D), zD9 Tryz.prog 60 H nid s x = zQ8 1 24 H nid s x := fun _ _ _ _ => zLe ap60
theorem yIa : ∀ {α : Type} (H : Hp) (sz : Nat) (E : α → D) (xs : List α), lenD Tryz.prog H 60 (vecE sz E xs) = some (xs.length : Int) := fun _ _ _ _ => zIx Tryz.underlying60
theorem yId : ∀ (H : Hp) (id off len : Nat), lenD Tryz.prog H 60 (.own id off len) = match H id with | .row _ _ _ => some (len : Int) | _ => none := fun _ _ _ _ => zK5 Tryz.underlying60
theorem yHA : ∀ {α : Type} (sz : Nat) (E : α → D) (xs : List α), zDu Tryz.prog 60 (vecE sz E xs) = true := fun _ _ _ => zIf Tryz.underlying60
theorem yKy : ∀ (H : Hp) (id off len : Nat) (k : IntKind) (n : Int), zA6 Tryz.prog H 60 (.own id off len) (.it k n) = match H id with | .row sz _ _ => if szT Tryz.prog 22 = some sz ∧ 0 ≤ n ∧ n < len then some (.rowp id (off + n.toNat) 0) else none | _ => none := fun _ _ _ _ _ _ => zNq Tryz.underlying60
theorem yKa : ∀ (H : Hp) (id len k : Nat) (kd : IntKind), zBm Tryz.prog H 60 (.own id 0 len) none (some (.it kd (k : Int))) none = match H id with | .row sz _ _ => if szT Tryz.prog 22 = some sz ∧ k ≤ len then some (.own id 0 k) else none | _ => none := fun _ _ _ _ _ => zN7 Tryz.underlying60
theorem yKd : ∀ (H : Hp) (id off len k : Nat) (kd : IntKind), zBm Tryz.prog H 60 (.own id off len) (some (.it kd (k : Int))) none none = match H id with | .row sz _ _ => if szT Tryz.prog 22 = some sz ∧ k ≤ len then some (.own id (off + k) (len - k)) else none | _ => none := fun _ _ _ _ _ _ => zIg Tryz.underlying60
theorem yKg : ∀ {α : Type} (H : Hp) (E : α → D) (xs : List α) (k : IntKind) (i : Nat) (_ : i ≤ xs.length), zBm Tryz.prog H 60 (vecE 1 E xs) (some (.it k (i : Int))) none none = some (vecE 1 E (xs.drop i)) := fun _ _ _ _ _ h => zIh Tryz.underlying60 sz22 h
theorem yKr : ∀ (H : Hp) (nid : Nat) (c : Int), zG9 Tryz.prog 60 H nid (.it .i64 0) (.it .i64 c) = if 0 ≤ c ∧ ((24 : Nat) : Int) * c ≤ 281474976710656 then some (.own nid 0 0, upd H nid (.row 1 true []), nid + 1) else none := fun _ _ _ => zTP el60 ze60 (by kernel_rfl) (by decide)
theorem yHD : ∀ (id off len : Nat), zDu Tryz.prog 60 (.own id off len) = true := fun _ _ _ => zFp Tryz.underlying60
theorem yKv : ∀ {α : Type} [Inhabited α] (H : Hp) (E : α → D) (xs : List α) (k : IntKind) (i : Nat) (_ : (i : Int) < xs.length), zA6 Tryz.prog H 60 (vecE 1 E xs) (.it k (i : Int)) = some (.elt (E xs[i]!).cells) := fun _ _ _ _ _ h => zJ0 Tryz.underlying60 sz22 h
theorem yIy : ∀ r : Rec, zAX Tryz.prog 53 0 (recE r) = some (.st r.name) := fun r => by
 show zAX _ _ _ (.agg (recL r)) = _
 simp only [zAX, zA5, Tryz.underlying52, Tryz.underlying53, Tryz.underlying50, Tryz.underlying51, Tryz.underlying48, Tryz.underlying49, Tryz.underlying24, Tryz.underlying23, Tryz.underlying27, Tryz.underlying28, Tryz.underlying3, Tryz.underlying4, Tryz.underlying9, Tryz.underlying5, Tryz.underlying47, Tryz.underlying90, Tryz.underlying98, Tryz.underlying29, Tryz.underlying22, Tryz.underlying79, Tryz.underlying111, Tryz.underlying149, Tryz.underlying60, sz53, zE7, sz51, zE8, sz49, zE9, sz24, zFd, sz28, zFc, sz3, agg3, sz4, agg4, sz9, agg9, sz5, agg5, sz47, zFa, sz90, zE4, sz98, zE3, sz29, zFb, sz22, zFe, sz79, zE5, zET, zC6, zES, zC5, sz60, zE6, zAC, Option.bind_some, List.getElem?_toArray, List.getElem?_cons_succ, List.getElem?_cons_zero, if_true, if_false, Bool.false_eq_true]
 rfl
theorem yIx : ∀ r : Rec, zAX Tryz.prog 53 1 (recE r) = some (.it .i64 r.typ) := fun r => by
 show zAX _ _ _ (.agg (recL r)) = _
 simp only [zAX, zA5, Tryz.underlying52, Tryz.underlying53, Tryz.underlying50, Tryz.underlying51, Tryz.underlying48, Tryz.underlying49, Tryz.underlying24, Tryz.underlying23, Tryz.underlying27, Tryz.underlying28, Tryz.underlying3, Tryz.underlying4, Tryz.underlying9, Tryz.underlying5, Tryz.underlying47, Tryz.underlying90, Tryz.underlying98, Tryz.underlying29, Tryz.underlying22, Tryz.underlying79, Tryz.underlying111, Tryz.underlying149, Tryz.underlying60, sz53, zE7, sz51, zE8, sz49, zE9, sz24, zFd, sz28, zFc, sz3, agg3, sz4, agg4, sz9, agg9, sz5, agg5, sz47, zFa, sz90, zE4, sz98, zE3, sz29, zFb, sz22, zFe, sz79, zE5, zET, zC6, zES, zC5, sz60, zE6, zAC, Option.bind_some, List.getElem?_toArray, List.getElem?_cons_succ, List.getElem?_cons_zero, if_true, if_false, Bool.false_eq_true]
 rfl
theorem yIw : ∀ r : Rec, zAX Tryz.prog 53 2 (recE r) = some (.it .i64 r.ttl) := fun r => by
 show zAX _ _ _ (.agg (recL r)) = _
 simp only [zAX, zA5, Tryz.underlying52, Tryz.underlying53, Tryz.underlying50, Tryz.underlying51, Tryz.underlying48, Tryz.underlying49, Tryz.underlying24, Tryz.underlying23, Tryz.underlying27, Tryz.underlying28, Tryz.underlying3, Tryz.underlying4, Tryz.underlying9, Tryz.underlying5, Tryz.underlying47, Tryz.underlying90, Tryz.underlying98, Tryz.underlying29, Tryz.underlying22, Tryz.underlying79, Tryz.underlying111, Tryz.underlying149, Tryz.underlying60, sz53, zE7, sz51, zE8, sz49, zE9, sz24, zFd, sz28, zFc, sz3, agg3, sz4, agg4, sz9, agg9, sz5, agg5, sz47, zFa, sz90, zE4, sz98, zE3, sz29, zFb, sz22, zFe, sz79, zE5, zET, zC6, zES, zC5, sz60, zE6, zAC, Option.bind_some, List.getElem?_toArray, List.getElem?_cons_succ, List.getElem?_cons_zero, if_true, if_false, Bool.false_eq_true]
 rfl
theorem yIv : ∀ r : Rec, zAX Tryz.prog 53 3 (recE r) = some (datE r.dat) := fun r => by
 show zAX _ _ _ (.agg (recL r)) = _
 simp only [zAX, zA5, Tryz.underlying52, Tryz.underlying53, Tryz.underlying50, Tryz.underlying51, Tryz.underlying48, Tryz.underlying49, Tryz.underlying24, Tryz.underlying23, Tryz.underlying27, Tryz.underlying28, Tryz.underlying3, Tryz.underlying4, Tryz.underlying9, Tryz.underlying5, Tryz.underlying47, Tryz.underlying90, Tryz.underlying98, Tryz.underlying29, Tryz.underlying22, Tryz.underlying79, Tryz.underlying111, Tryz.underlying149, Tryz.underlying60, sz53, zE7, sz51, zE8, sz49, zE9, sz24, zFd, sz28, zFc, sz3, agg3, sz4, agg4, sz9, agg9, sz5, agg5, sz47, zFa, sz90, zE4, sz98, zE3, sz29, zFb, sz22, zFe, sz79, zE5, zET, zC6, zES, zC5, sz60, zE6, zAC, Option.bind_some, List.getElem?_toArray, List.getElem?_cons_succ, List.getElem?_cons_zero, if_true, if_false, Bool.false_eq_true]
 rfl
theorem yII : ∀ x : Dat, zAX Tryz.prog 51 0 (datE x) = some (adrE x.adr) := fun x => by
 show zAX _ _ _ (.agg (datL x)) = _
 simp only [zAX, zA5, Tryz.underlying52, Tryz.underlying53, Tryz.underlying50, Tryz.underlying51, Tryz.underlying48, Tryz.underlying49, Tryz.underlying24, Tryz.underlying23, Tryz.underlying27, Tryz.underlying28, Tryz.underlying3, Tryz.underlying4, Tryz.underlying9, Tryz.underlying5, Tryz.underlying47, Tryz.underlying90, Tryz.underlying98, Tryz.underlying29, Tryz.underlying22, Tryz.underlying79, Tryz.underlying111, Tryz.underlying149, Tryz.underlying60, sz53, zE7, sz51, zE8, sz49, zE9, sz24, zFd, sz28, zFc, sz3, agg3, sz4, agg4, sz9, agg9, sz5, agg5, sz47, zFa, sz90, zE4, sz98, zE3, sz29, zFb, sz22, zFe, sz79, zE5, zET, zC6, zES, zC5, sz60, zE6, zAC, Option.bind_some, List.getElem?_toArray, List.getElem?_cons_succ, List.getElem?_cons_zero, if_true, if_false, Bool.false_eq_true]
 rfl
theorem yIH : ∀ x : Dat, zAX Tryz.prog 51 1 (datE x) = some (.st x.host) := fun x => by
 show zAX _ _ _ (.agg (datL x)) = _
 simp only [zAX, zA5, Tryz.underlying52, Tryz.underlying53, Tryz.underlying50, Tryz.underlying51, Tryz.underlying48, Tryz.underlying49, Tryz.underlying24, Tryz.underlying23, Tryz.underlying27, Tryz.underlying28, Tryz.underlying3, Tryz.underlying4, Tryz.underlying9, Tryz.underlying5, Tryz.underlying47, Tryz.underlying90, Tryz.underlying98, Tryz.underlying29, Tryz.underlying22, Tryz.underlying79, Tryz.underlying111, Tryz.underlying149, Tryz.underlying60, sz53, zE7, sz51, zE8, sz49, zE9, sz24, zFd, sz28, zFc, sz3, agg3, sz4, agg4, sz9, agg9, sz5, agg5, sz47, zFa, sz90, zE4, sz98, zE3, sz29, zFb, sz22, zFe, sz79, zE5, zET, zC6, zES, zC5, sz60, zE6, zAC, Option.bind_some, List.getElem?_toArray, List.getElem?_cons_succ, List.getElem?_cons_zero, if_true, if_false, Bool.false_eq_true]
 rfl
theorem yIG : ∀ x : Dat, zAX Tryz.prog 51 2 (datE x) = some (.st x.mail) := fun x => by
 show zAX _ _ _ (.agg (datL x)) = _
 simp only [zAX, zA5, Tryz.underlying52, Tryz.underlying53, Tryz.underlying50, Tryz.underlying51, Tryz.underlying48, Tryz.underlying49, Tryz.underlying24, Tryz.underlying23, Tryz.underlying27, Tryz.underlying28, Tryz.underlying3, Tryz.underlying4, Tryz.underlying9, Tryz.underlying5, Tryz.underlying47, Tryz.underlying90, Tryz.underlying98, Tryz.underlying29, Tryz.underlying22, Tryz.underlying79, Tryz.underlying111, Tryz.underlying149, Tryz.underlying60, sz53, zE7, sz51, zE8, sz49, zE9, sz24, zFd, sz28, zFc, sz3, agg3, sz4, agg4, sz9, agg9, sz5, agg5, sz47, zFa, sz90, zE4, sz98, zE3, sz29, zFb, sz22, zFe, sz79, zE5, zET, zC6, zES, zC5, sz60, zE6, zAC, Option.bind_some, List.getElem?_toArray, List.getElem?_cons_succ, List.getElem?_cons_zero, if_true, if_false, Bool.false_eq_true]
 rfl
theorem yIF : ∀ x : Dat, zAX Tryz.prog 51 3 (datE x) = some (.st x.text) := fun x => by
 show zAX _ _ _ (.agg (datL x)) = _
 simp only [zAX, zA5, Tryz.underlying52, Tryz.underlying53, Tryz.underlying50, Tryz.underlying51, Tryz.underlying48, Tryz.underlying49, Tryz.underlying24, Tryz.underlying23, Tryz.underlying27, Tryz.underlying28, Tryz.underlying3, Tryz.underlying4, Tryz.underlying9, Tryz.underlying5, Tryz.underlying47, Tryz.underlying90, Tryz.underlying98, Tryz.underlying29, Tryz.underlying22, Tryz.underlying79, Tryz.underlying111, Tryz.underlying149, Tryz.underlying60, sz53, zE7, sz51, zE8, sz49, zE9, sz24, zFd, sz28, zFc, sz3, agg3, sz4, agg4, sz9, agg9, sz5, agg5, sz47, zFa, sz90, zE4, sz98, zE3, sz29, zFb, sz22, zFe, sz79, zE5, zET, zC6, zES, zC5, sz60, zE6, zAC, Option.bind_some, List.getElem?_toArray, List.getElem?_cons_succ, List.getElem?_cons_zero, if_true, if_false, Bool.false_eq_true]
 rfl
theorem yIE : ∀ x : Dat, zAX Tryz.prog 51 4 (datE x) = some (.it .i64 x.a) := fun x => by
 show zAX _ _ _ (.agg (datL x)) = _
 simp only [zAX, zA5, Tryz.underlying52, Tryz.underlying53, Tryz.underlying50, Tryz.underlying51, Tryz.underlying48, Tryz.underlying49, Tryz.underlying24, Tryz.underlying23, Tryz.underlying27, Tryz.underlying28, Tryz.underlying3, Tryz.underlying4, Tryz.underlying9, Tryz.underlying5, Tryz.underlying47, Tryz.underlying90, Tryz.underlying98, Tryz.underlying29, Tryz.underlying22, Tryz.underlying79, Tryz.underlying111, Tryz.underlying149, Tryz.underlying60, sz53, zE7, sz51, zE8, sz49, zE9, sz24, zFd, sz28, zFc, sz3, agg3, sz4, agg4, sz9, agg9, sz5, agg5, sz47, zFa, sz90, zE4, sz98, zE3, sz29, zFb, sz22, zFe, sz79, zE5, zET, zC6, zES, zC5, sz60, zE6, zAC, Option.bind_some, List.getElem?_toArray, List.getElem?_cons_succ, List.getElem?_cons_zero, if_true, if_false, Bool.false_eq_true]
 rfl
theorem yID : ∀ x : Dat, zAX Tryz.prog 51 5 (datE x) = some (.it .i64 x.b) := fun x => by
 show zAX _ _ _ (.agg (datL x)) = _
 simp only [zAX, zA5, Tryz.underlying52, Tryz.underlying53, Tryz.underlying50, Tryz.underlying51, Tryz.underlying48, Tryz.underlying49, Tryz.underlying24, Tryz.underlying23, Tryz.underlying27, Tryz.underlying28, Tryz.underlying3, Tryz.underlying4, Tryz.underlying9, Tryz.underlying5, Tryz.underlying47, Tryz.underlying90, Tryz.underlying98, Tryz.underlying29, Tryz.underlying22, Tryz.underlying79, Tryz.underlying111, Tryz.underlying149, Tryz.underlying60, sz53, zE7, sz51, zE8, sz49, zE9, sz24, zFd, sz28, zFc, sz3, agg3, sz4, agg4, sz9, agg9, sz5, agg5, sz47, zFa, sz90, zE4, sz98, zE3, sz29, zFb, sz22, zFe, sz79, zE5, zET, zC6, zES, zC5, sz60, zE6, zAC, Option.bind_some, List.getElem?_toArray, List.getElem?_cons_succ, List.getElem?_cons_zero, if_true, if_false, Bool.false_eq_true]
 rfl
theorem yIC : ∀ x : Dat, zAX Tryz.prog 51 6 (datE x) = some (.it .i64 x.c) := fun x => by
 show zAX _ _ _ (.agg (datL x)) = _
 simp only [zAX, zA5, Tryz.underlying52, Tryz.underlying53, Tryz.underlying50, Tryz.underlying51, Tryz.underlying48, Tryz.underlying49, Tryz.underlying24, Tryz.underlying23, Tryz.underlying27, Tryz.underlying28, Tryz.underlying3, Tryz.underlying4, Tryz.underlying9, Tryz.underlying5, Tryz.underlying47, Tryz.underlying90, Tryz.underlying98, Tryz.underlying29, Tryz.underlying22, Tryz.underlying79, Tryz.underlying111, Tryz.underlying149, Tryz.underlying60, sz53, zE7, sz51, zE8, sz49, zE9, sz24, zFd, sz28, zFc, sz3, agg3, sz4, agg4, sz9, agg9, sz5, agg5, sz47, zFa, sz90, zE4, sz98, zE3, sz29, zFb, sz22, zFe, sz79, zE5, zET, zC6, zES, zC5, sz60, zE6, zAC, Option.bind_some, List.getElem?_toArray, List.getElem?_cons_succ, List.getElem?_cons_zero, if_true, if_false, Bool.false_eq_true]
 rfl
theorem yIB : ∀ x : Dat, zAX Tryz.prog 51 7 (datE x) = some (.it .i64 x.d) := fun x => by
 show zAX _ _ _ (.agg (datL x)) = _
 simp only [zAX, zA5, Tryz.underlying52, Tryz.underlying53, Tryz.underlying50, Tryz.underlying51, Tryz.underlying48, Tryz.underlying49, Tryz.underlying24, Tryz.underlying23, Tryz.underlying27, Tryz.underlying28, Tryz.underlying3, Tryz.underlying4, Tryz.underlying9, Tryz.underlying5, Tryz.underlying47, Tryz.underlying90, Tryz.underlying98, Tryz.underlying29, Tryz.underlying22, Tryz.underlying79, Tryz.underlying111, Tryz.underlying149, Tryz.underlying60, sz53, zE7, sz51, zE8, sz49, zE9, sz24, zFd, sz28, zFc, sz3, agg3, sz4, agg4, sz9, agg9, sz5, agg5, sz47, zFa, sz90, zE4, sz98, zE3, sz29, zFb, sz22, zFe, sz79, zE5, zET, zC6, zES, zC5, sz60, zE6, zAC, Option.bind_some, List.getElem?_toArray, List.getElem?_cons_succ, List.getElem?_cons_zero, if_true, if_false, Bool.false_eq_true]
 rfl
theorem yIA : ∀ x : Dat, zAX Tryz.prog 51 8 (datE x) = some (.it .i64 x.e) := fun x => by
 show zAX _ _ _ (.agg (datL x)) = _
 simp only [zAX, zA5, Tryz.underlying52, Tryz.underlying53, Tryz.underlying50, Tryz.underlying51, Tryz.underlying48, Tryz.underlying49, Tryz.underlying24, Tryz.underlying23, Tryz.underlying27, Tryz.underlying28, Tryz.underlying3, Tryz.underlying4, Tryz.underlying9, Tryz.underlying5, Tryz.underlying47, Tryz.underlying90, Tryz.underlying98, Tryz.underlying29, Tryz.underlying22, Tryz.underlying79, Tryz.underlying111, Tryz.underlying149, Tryz.underlying60, sz53, zE7, sz51, zE8, sz49, zE9, sz24, zFd, sz28, zFc, sz3, agg3, sz4, agg4, sz9, agg9, sz5, agg5, sz47, zFa, sz90, zE4, sz98, zE3, sz29, zFb, sz22, zFe, sz79, zE5, zET, zC6, zES, zC5, sz60, zE6, zAC, Option.bind_some, List.getElem?_toArray, List.getElem?_cons_succ, List.getElem?_cons_zero, if_true, if_false, Bool.false_eq_true]
 rfl
theorem yIz : ∀ x : Dat, zAX Tryz.prog 51 9 (datE x) = some (.it .i64 x.f) := fun x => by
 show zAX _ _ _ (.agg (datL x)) = _
 simp only [zAX, zA5, Tryz.underlying52, Tryz.underlying53, Tryz.underlying50, Tryz.underlying51, Tryz.underlying48, Tryz.underlying49, Tryz.underlying24, Tryz.underlying23, Tryz.underlying27, Tryz.underlying28, Tryz.underlying3, Tryz.underlying4, Tryz.underlying9, Tryz.underlying5, Tryz.underlying47, Tryz.underlying90, Tryz.underlying98, Tryz.underlying29, Tryz.underlying22, Tryz.underlying79, Tryz.underlying111, Tryz.underlying149, Tryz.underlying60, sz53, zE7, sz51, zE8, sz49, zE9, sz24, zFd, sz28, zFc, sz3, agg3, sz4, agg4, sz9, agg9, sz5, agg5, sz47, zFa, sz90, zE4, sz98, zE3, sz29, zFb, sz22, zFe, sz79, zE5, zET, zC6, zES, zC5, sz60, zE6, zAC, Option.bind_some, List.getElem?_toArray, List.getElem?_cons_succ, List.getElem?_cons_zero, if_true, if_false, Bool.false_eq_true]
 rfl
theorem yFR : ∀ x : Dat, zAX Tryz.prog 51 10 (datE x) = some (.it .u64 x.bits) := fun x => by
 show zAX _ _ _ (.agg (datL x)) = _
 simp only [zAX, zA5, Tryz.underlying52, Tryz.underlying53, Tryz.underlying50, Tryz.underlying51, Tryz.underlying48, Tryz.underlying49, Tryz.underlying24, Tryz.underlying23, Tryz.underlying27, Tryz.underlying28, Tryz.underlying3, Tryz.underlying4, Tryz.underlying9, Tryz.underlying5, Tryz.underlying47, Tryz.underlying90, Tryz.underlying98, Tryz.underlying29, Tryz.underlying22, Tryz.underlying79, Tryz.underlying111, Tryz.underlying149, Tryz.underlying60, sz53, zE7, sz51, zE8, sz49, zE9, sz24, zFd, sz28, zFc, sz3, agg3, sz4, agg4, sz9, agg9, sz5, agg5, sz47, zFa, sz90, zE4, sz98, zE3, sz29, zFb, sz22, zFe, sz79, zE5, zET, zC6, zES, zC5, sz60, zE6, zAC, Option.bind_some, List.getElem?_toArray, List.getElem?_cons_succ, List.getElem?_cons_zero, if_true, if_false, Bool.false_eq_true]
 rfl
theorem yIL : ∀ x : Adr, zAX Tryz.prog 49 0 (adrE x) = some (.bo x.v6) := fun x => by
 show zAX _ _ _ (.agg (adrL x)) = _
 simp only [zAX, zA5, Tryz.underlying52, Tryz.underlying53, Tryz.underlying50, Tryz.underlying51, Tryz.underlying48, Tryz.underlying49, Tryz.underlying24, Tryz.underlying23, Tryz.underlying27, Tryz.underlying28, Tryz.underlying3, Tryz.underlying4, Tryz.underlying9, Tryz.underlying5, Tryz.underlying47, Tryz.underlying90, Tryz.underlying98, Tryz.underlying29, Tryz.underlying22, Tryz.underlying79, Tryz.underlying111, Tryz.underlying149, Tryz.underlying60, sz53, zE7, sz51, zE8, sz49, zE9, sz24, zFd, sz28, zFc, sz3, agg3, sz4, agg4, sz9, agg9, sz5, agg5, sz47, zFa, sz90, zE4, sz98, zE3, sz29, zFb, sz22, zFe, sz79, zE5, zET, zC6, zES, zC5, sz60, zE6, zAC, Option.bind_some, List.getElem?_toArray, List.getElem?_cons_succ, List.getElem?_cons_zero, if_true, if_false, Bool.false_eq_true]
 rfl
theorem yIK : ∀ x : Adr, zAX Tryz.prog 49 1 (adrE x) = some (.it .u64 x.hi) := fun x => by
 show zAX _ _ _ (.agg (adrL x)) = _
 simp only [zAX, zA5, Tryz.underlying52, Tryz.underlying53, Tryz.underlying50, Tryz.underlying51, Tryz.underlying48, Tryz.underlying49, Tryz.underlying24, Tryz.underlying23, Tryz.underlying27, Tryz.underlying28, Tryz.underlying3, Tryz.underlying4, Tryz.underlying9, Tryz.underlying5, Tryz.underlying47, Tryz.underlying90, Tryz.underlying98, Tryz.underlying29, Tryz.underlying22, Tryz.underlying79, Tryz.underlying111, Tryz.underlying149, Tryz.underlying60, sz53, zE7, sz51, zE8, sz49, zE9, sz24, zFd, sz28, zFc, sz3, agg3, sz4, agg4, sz9, agg9, sz5, agg5, sz47, zFa, sz90, zE4, sz98, zE3, sz29, zFb, sz22, zFe, sz79, zE5, zET, zC6, zES, zC5, sz60, zE6, zAC, Option.bind_some, List.getElem?_toArray, List.getElem?_cons_succ, List.getElem?_cons_zero, if_true, if_false, Bool.false_eq_true]
 rfl
theorem yIJ : ∀ x : Adr, zAX Tryz.prog 49 2 (adrE x) = some (.it .u64 x.lo) := fun x => by
 show zAX _ _ _ (.agg (adrL x)) = _
 simp only [zAX, zA5, Tryz.underlying52, Tryz.underlying53, Tryz.underlying50, Tryz.underlying51, Tryz.underlying48, Tryz.underlying49, Tryz.underlying24, Tryz.underlying23, Tryz.underlying27, Tryz.underlying28, Tryz.underlying3, Tryz.underlying4, Tryz.underlying9, Tryz.underlying5, Tryz.underlying47, Tryz.underlying90, Tryz.underlying98, Tryz.underlying29, Tryz.underlying22, Tryz.underlying79, Tryz.underlying111, Tryz.underlying149, Tryz.underlying60, sz53, zE7, sz51, zE8, sz49, zE9, sz24, zFd, sz28, zFc, sz3, agg3, sz4, agg4, sz9, agg9, sz5, agg5, sz47, zFa, sz90, zE4, sz98, zE3, sz29, zFb, sz22, zFe, sz79, zE5, zET, zC6, zES, zC5, sz60, zE6, zAC, Option.bind_some, List.getElem?_toArray, List.getElem?_cons_succ, List.getElem?_cons_zero, if_true, if_false, Bool.false_eq_true]
 rfl
theorem yIS : ∀ z : Zone, zAX Tryz.prog 24 0 (zAU z) = some (.st z.origin) := fun z => by
 show zAX _ _ _ (.agg (zDo z)) = _
 simp only [zAX, zA5, Tryz.underlying52, Tryz.underlying53, Tryz.underlying50, Tryz.underlying51, Tryz.underlying48, Tryz.underlying49, Tryz.underlying24, Tryz.underlying23, Tryz.underlying27, Tryz.underlying28, Tryz.underlying3, Tryz.underlying4, Tryz.underlying9, Tryz.underlying5, Tryz.underlying47, Tryz.underlying90, Tryz.underlying98, Tryz.underlying29, Tryz.underlying22, Tryz.underlying79, Tryz.underlying111, Tryz.underlying149, Tryz.underlying60, sz53, zE7, sz51, zE8, sz49, zE9, sz24, zFd, sz28, zFc, sz3, agg3, sz4, agg4, sz9, agg9, sz5, agg5, sz47, zFa, sz90, zE4, sz98, zE3, sz29, zFb, sz22, zFe, sz79, zE5, zET, zC6, zES, zC5, sz60, zE6, zAC, Option.bind_some, List.getElem?_toArray, List.getElem?_cons_succ, List.getElem?_cons_zero, if_true, if_false, Bool.false_eq_true]
 rfl
theorem yIR : ∀ z : Zone, zAX Tryz.prog 24 1 (zAU z) = some (zAt z.recs) := fun z => by
 show zAX _ _ _ (.agg (zDo z)) = _
 simp only [zAX, zA5, Tryz.underlying52, Tryz.underlying53, Tryz.underlying50, Tryz.underlying51, Tryz.underlying48, Tryz.underlying49, Tryz.underlying24, Tryz.underlying23, Tryz.underlying27, Tryz.underlying28, Tryz.underlying3, Tryz.underlying4, Tryz.underlying9, Tryz.underlying5, Tryz.underlying47, Tryz.underlying90, Tryz.underlying98, Tryz.underlying29, Tryz.underlying22, Tryz.underlying79, Tryz.underlying111, Tryz.underlying149, Tryz.underlying60, sz53, zE7, sz51, zE8, sz49, zE9, sz24, zFd, sz28, zFc, sz3, agg3, sz4, agg4, sz9, agg9, sz5, agg5, sz47, zFa, sz90, zE4, sz98, zE3, sz29, zFb, sz22, zFe, sz79, zE5, zET, zC6, zES, zC5, sz60, zE6, zAC, Option.bind_some, List.getElem?_toArray, List.getElem?_cons_succ, List.getElem?_cons_zero, if_true, if_false, Bool.false_eq_true]
 rfl
theorem yIQ : ∀ d : Delta, zAX Tryz.prog 28 0 (zAS d) = some (.st d.origin) := fun d => by
 show zAX _ _ _ (.agg (zEs d)) = _
 simp only [zAX, zA5, Tryz.underlying52, Tryz.underlying53, Tryz.underlying50, Tryz.underlying51, Tryz.underlying48, Tryz.underlying49, Tryz.underlying24, Tryz.underlying23, Tryz.underlying27, Tryz.underlying28, Tryz.underlying3, Tryz.underlying4, Tryz.underlying9, Tryz.underlying5, Tryz.underlying47, Tryz.underlying90, Tryz.underlying98, Tryz.underlying29, Tryz.underlying22, Tryz.underlying79, Tryz.underlying111, Tryz.underlying149, Tryz.underlying60, sz53, zE7, sz51, zE8, sz49, zE9, sz24, zFd, sz28, zFc, sz3, agg3, sz4, agg4, sz9, agg9, sz5, agg5, sz47, zFa, sz90, zE4, sz98, zE3, sz29, zFb, sz22, zFe, sz79, zE5, zET, zC6, zES, zC5, sz60, zE6, zAC, Option.bind_some, List.getElem?_toArray, List.getElem?_cons_succ, List.getElem?_cons_zero, if_true, if_false, Bool.false_eq_true]
 rfl
theorem yIP : ∀ d : Delta, zAX Tryz.prog 28 1 (zAS d) = some (.it .i64 d.fro) := fun d => by
 show zAX _ _ _ (.agg (zEs d)) = _
 simp only [zAX, zA5, Tryz.underlying52, Tryz.underlying53, Tryz.underlying50, Tryz.underlying51, Tryz.underlying48, Tryz.underlying49, Tryz.underlying24, Tryz.underlying23, Tryz.underlying27, Tryz.underlying28, Tryz.underlying3, Tryz.underlying4, Tryz.underlying9, Tryz.underlying5, Tryz.underlying47, Tryz.underlying90, Tryz.underlying98, Tryz.underlying29, Tryz.underlying22, Tryz.underlying79, Tryz.underlying111, Tryz.underlying149, Tryz.underlying60, sz53, zE7, sz51, zE8, sz49, zE9, sz24, zFd, sz28, zFc, sz3, agg3, sz4, agg4, sz9, agg9, sz5, agg5, sz47, zFa, sz90, zE4, sz98, zE3, sz29, zFb, sz22, zFe, sz79, zE5, zET, zC6, zES, zC5, sz60, zE6, zAC, Option.bind_some, List.getElem?_toArray, List.getElem?_cons_succ, List.getElem?_cons_zero, if_true, if_false, Bool.false_eq_true]
 rfl
theorem yIO : ∀ d : Delta, zAX Tryz.prog 28 2 (zAS d) = some (.it .i64 d.til) := fun d => by
 show zAX _ _ _ (.agg (zEs d)) = _
 simp only [zAX, zA5, Tryz.underlying52, Tryz.underlying53, Tryz.underlying50, Tryz.underlying51, Tryz.underlying48, Tryz.underlying49, Tryz.underlying24, Tryz.underlying23, Tryz.underlying27, Tryz.underlying28, Tryz.underlying3, Tryz.underlying4, Tryz.underlying9, Tryz.underlying5, Tryz.underlying47, Tryz.underlying90, Tryz.underlying98, Tryz.underlying29, Tryz.underlying22, Tryz.underlying79, Tryz.underlying111, Tryz.underlying149, Tryz.underlying60, sz53, zE7, sz51, zE8, sz49, zE9, sz24, zFd, sz28, zFc, sz3, agg3, sz4, agg4, sz9, agg9, sz5, agg5, sz47, zFa, sz90, zE4, sz98, zE3, sz29, zFb, sz22, zFe, sz79, zE5, zET, zC6, zES, zC5, sz60, zE6, zAC, Option.bind_some, List.getElem?_toArray, List.getElem?_cons_succ, List.getElem?_cons_zero, if_true, if_false, Bool.false_eq_true]
 rfl
theorem yIN : ∀ d : Delta, zAX Tryz.prog 28 3 (zAS d) = some (zAt d.rem) := fun d => by
 show zAX _ _ _ (.agg (zEs d)) = _
 simp only [zAX, zA5, Tryz.underlying52, Tryz.underlying53, Tryz.underlying50, Tryz.underlying51, Tryz.underlying48, Tryz.underlying49, Tryz.underlying24, Tryz.underlying23, Tryz.underlying27, Tryz.underlying28, Tryz.underlying3, Tryz.underlying4, Tryz.underlying9, Tryz.underlying5, Tryz.underlying47, Tryz.underlying90, Tryz.underlying98, Tryz.underlying29, Tryz.underlying22, Tryz.underlying79, Tryz.underlying111, Tryz.underlying149, Tryz.underlying60, sz53, zE7, sz51, zE8, sz49, zE9, sz24, zFd, sz28, zFc, sz3, agg3, sz4, agg4, sz9, agg9, sz5, agg5, sz47, zFa, sz90, zE4, sz98, zE3, sz29, zFb, sz22, zFe, sz79, zE5, zET, zC6, zES, zC5, sz60, zE6, zAC, Option.bind_some, List.getElem?_toArray, List.getElem?_cons_succ, List.getElem?_cons_zero, if_true, if_false, Bool.false_eq_true]
 rfl
theorem yIM : ∀ d : Delta, zAX Tryz.prog 28 4 (zAS d) = some (zAt d.add) := fun d => by
 show zAX _ _ _ (.agg (zEs d)) = _
 simp only [zAX, zA5, Tryz.underlying52, Tryz.underlying53, Tryz.underlying50, Tryz.underlying51, Tryz.underlying48, Tryz.underlying49, Tryz.underlying24, Tryz.underlying23, Tryz.underlying27, Tryz.underlying28, Tryz.underlying3, Tryz.underlying4, Tryz.underlying9, Tryz.underlying5, Tryz.underlying47, Tryz.underlying90, Tryz.underlying98, Tryz.underlying29, Tryz.underlying22, Tryz.underlying79, Tryz.underlying111, Tryz.underlying149, Tryz.underlying60, sz53, zE7, sz51, zE8, sz49, zE9, sz24, zFd, sz28, zFc, sz3, agg3, sz4, agg4, sz9, agg9, sz5, agg5, sz47, zFa, sz90, zE4, sz98, zE3, sz29, zFb, sz22, zFe, sz79, zE5, zET, zC6, zES, zC5, sz60, zE6, zAC, Option.bind_some, List.getElem?_toArray, List.getElem?_cons_succ, List.getElem?_cons_zero, if_true, if_false, Bool.false_eq_true]
 rfl
theorem yIX : ∀ (H : Hp) (x : D), zA7 Tryz.prog H 53 x 0 = faD H x 0 := zEP (n := (szT Tryz.prog ((zA5 Tryz.prog 53 0).map (·.type)|>.getD 0)).getD 0) (fl := (zA5 Tryz.prog 53 0).getD default) (by kernel_rfl) (by kernel_rfl) (by decide +kernel) (by kernel_rfl)
theorem yIW : ∀ (H : Hp) (x : D), zA7 Tryz.prog H 53 x 1 = faD H x 1 := zEP (n := (szT Tryz.prog ((zA5 Tryz.prog 53 1).map (·.type)|>.getD 0)).getD 0) (fl := (zA5 Tryz.prog 53 1).getD default) (by kernel_rfl) (by kernel_rfl) (by decide +kernel) (by kernel_rfl)
theorem yIV : ∀ (H : Hp) (x : D), zA7 Tryz.prog H 53 x 2 = faD H x 2 := zEP (n := (szT Tryz.prog ((zA5 Tryz.prog 53 2).map (·.type)|>.getD 0)).getD 0) (fl := (zA5 Tryz.prog 53 2).getD default) (by kernel_rfl) (by kernel_rfl) (by decide +kernel) (by kernel_rfl)
theorem yIU : ∀ (H : Hp) (x : D), zA7 Tryz.prog H 53 x 3 = faD H x 3 := zEP (n := (szT Tryz.prog ((zA5 Tryz.prog 53 3).map (·.type)|>.getD 0)).getD 0) (fl := (zA5 Tryz.prog 53 3).getD default) (by kernel_rfl) (by kernel_rfl) (by decide +kernel) (by kernel_rfl)
theorem yI7 : ∀ (H : Hp) (x : D), zA7 Tryz.prog H 51 x 0 = faD H x 0 := zEP (n := (szT Tryz.prog ((zA5 Tryz.prog 51 0).map (·.type)|>.getD 0)).getD 0) (fl := (zA5 Tryz.prog 51 0).getD default) (by kernel_rfl) (by kernel_rfl) (by decide +kernel) (by kernel_rfl)
theorem yI6 : ∀ (H : Hp) (x : D), zA7 Tryz.prog H 51 x 1 = faD H x 3 := zEP (n := (szT Tryz.prog ((zA5 Tryz.prog 51 1).map (·.type)|>.getD 0)).getD 0) (fl := (zA5 Tryz.prog 51 1).getD default) (by kernel_rfl) (by kernel_rfl) (by decide +kernel) (by kernel_rfl)
theorem yI5 : ∀ (H : Hp) (x : D), zA7 Tryz.prog H 51 x 2 = faD H x 4 := zEP (n := (szT Tryz.prog ((zA5 Tryz.prog 51 2).map (·.type)|>.getD 0)).getD 0) (fl := (zA5 Tryz.prog 51 2).getD default) (by kernel_rfl) (by kernel_rfl) (by decide +kernel) (by kernel_rfl)
theorem yI4 : ∀ (H : Hp) (x : D), zA7 Tryz.prog H 51 x 3 = faD H x 5 := zEP (n := (szT Tryz.prog ((zA5 Tryz.prog 51 3).map (·.type)|>.getD 0)).getD 0) (fl := (zA5 Tryz.prog 51 3).getD default) (by kernel_rfl) (by kernel_rfl) (by decide +kernel) (by kernel_rfl)
theorem yI3 : ∀ (H : Hp) (x : D), zA7 Tryz.prog H 51 x 4 = faD H x 6 := zEP (n := (szT Tryz.prog ((zA5 Tryz.prog 51 4).map (·.type)|>.getD 0)).getD 0) (fl := (zA5 Tryz.prog 51 4).getD default) (by kernel_rfl) (by kernel_rfl) (by decide +kernel) (by kernel_rfl)
theorem yI2 : ∀ (H : Hp) (x : D), zA7 Tryz.prog H 51 x 5 = faD H x 7 := zEP (n := (szT Tryz.prog ((zA5 Tryz.prog 51 5).map (·.type)|>.getD 0)).getD 0) (fl := (zA5 Tryz.prog 51 5).getD default) (by kernel_rfl) (by kernel_rfl) (by decide +kernel) (by kernel_rfl)
theorem yI1 : ∀ (H : Hp) (x : D), zA7 Tryz.prog H 51 x 6 = faD H x 8 := zEP (n := (szT Tryz.prog ((zA5 Tryz.prog 51 6).map (·.type)|>.getD 0)).getD 0) (fl := (zA5 Tryz.prog 51 6).getD default) (by kernel_rfl) (by kernel_rfl) (by decide +kernel) (by kernel_rfl)
theorem yI0 : ∀ (H : Hp) (x : D), zA7 Tryz.prog H 51 x 7 = faD H x 9 := zEP (n := (szT Tryz.prog ((zA5 Tryz.prog 51 7).map (·.type)|>.getD 0)).getD 0) (fl := (zA5 Tryz.prog 51 7).getD default) (by kernel_rfl) (by kernel_rfl) (by decide +kernel) (by kernel_rfl)
theorem yIZ : ∀ (H : Hp) (x : D), zA7 Tryz.prog H 51 x 8 = faD H x 10 := zEP (n := (szT Tryz.prog ((zA5 Tryz.prog 51 8).map (·.type)|>.getD 0)).getD 0) (fl := (zA5 Tryz.prog 51 8).getD default) (by kernel_rfl) (by kernel_rfl) (by decide +kernel) (by kernel_rfl)
theorem yIY : ∀ (H : Hp) (x : D), zA7 Tryz.prog H 51 x 9 = faD H x 11 := zEP (n := (szT Tryz.prog ((zA5 Tryz.prog 51 9).map (·.type)|>.getD 0)).getD 0) (fl := (zA5 Tryz.prog 51 9).getD default) (by kernel_rfl) (by kernel_rfl) (by decide +kernel) (by kernel_rfl)
theorem yFV : ∀ (H : Hp) (x : D), zA7 Tryz.prog H 51 x 10 = faD H x 12 := zEP (n := (szT Tryz.prog ((zA5 Tryz.prog 51 10).map (·.type)|>.getD 0)).getD 0) (fl := (zA5 Tryz.prog 51 10).getD default) (by kernel_rfl) (by kernel_rfl) (by decide +kernel) (by kernel_rfl)
theorem yJa : ∀ (H : Hp) (x : D), zA7 Tryz.prog H 49 x 0 = faD H x 0 := zEP (n := (szT Tryz.prog ((zA5 Tryz.prog 49 0).map (·.type)|>.getD 0)).getD 0) (fl := (zA5 Tryz.prog 49 0).getD default) (by kernel_rfl) (by kernel_rfl) (by decide +kernel) (by kernel_rfl)
theorem yI9 : ∀ (H : Hp) (x : D), zA7 Tryz.prog H 49 x 1 = faD H x 1 := zEP (n := (szT Tryz.prog ((zA5 Tryz.prog 49 1).map (·.type)|>.getD 0)).getD 0) (fl := (zA5 Tryz.prog 49 1).getD default) (by kernel_rfl) (by kernel_rfl) (by decide +kernel) (by kernel_rfl)
theorem yI8 : ∀ (H : Hp) (x : D), zA7 Tryz.prog H 49 x 2 = faD H x 2 := zEP (n := (szT Tryz.prog ((zA5 Tryz.prog 49 2).map (·.type)|>.getD 0)).getD 0) (fl := (zA5 Tryz.prog 49 2).getD default) (by kernel_rfl) (by kernel_rfl) (by decide +kernel) (by kernel_rfl)
theorem yJh : ∀ (H : Hp) (x : D), zA7 Tryz.prog H 24 x 0 = faD H x 0 := zEP (n := (szT Tryz.prog ((zA5 Tryz.prog 24 0).map (·.type)|>.getD 0)).getD 0) (fl := (zA5 Tryz.prog 24 0).getD default) (by kernel_rfl) (by kernel_rfl) (by decide +kernel) (by kernel_rfl)
theorem yJg : ∀ (H : Hp) (x : D), zA7 Tryz.prog H 24 x 1 = faD H x 1 := zEP (n := (szT Tryz.prog ((zA5 Tryz.prog 24 1).map (·.type)|>.getD 0)).getD 0) (fl := (zA5 Tryz.prog 24 1).getD default) (by kernel_rfl) (by kernel_rfl) (by decide +kernel) (by kernel_rfl)
theorem yJf : ∀ (H : Hp) (x : D), zA7 Tryz.prog H 28 x 0 = faD H x 0 := zEP (n := (szT Tryz.prog ((zA5 Tryz.prog 28 0).map (·.type)|>.getD 0)).getD 0) (fl := (zA5 Tryz.prog 28 0).getD default) (by kernel_rfl) (by kernel_rfl) (by decide +kernel) (by kernel_rfl)
theorem yJe : ∀ (H : Hp) (x : D), zA7 Tryz.prog H 28 x 1 = faD H x 1 := zEP (n := (szT Tryz.prog ((zA5 Tryz.prog 28 1).map (·.type)|>.getD 0)).getD 0) (fl := (zA5 Tryz.prog 28 1).getD default) (by kernel_rfl) (by kernel_rfl) (by decide +kernel) (by kernel_rfl)
theorem yJd : ∀ (H : Hp) (x : D), zA7 Tryz.prog H 28 x 2 = faD H x 2 := zEP (n := (szT Tryz.prog ((zA5 Tryz.prog 28 2).map (·.type)|>.getD 0)).getD 0) (fl := (zA5 Tryz.prog 28 2).getD default) (by kernel_rfl) (by kernel_rfl) (by decide +kernel) (by kernel_rfl)
theorem yJc : ∀ (H : Hp) (x : D), zA7 Tryz.prog H 28 x 3 = faD H x 3 := zEP (n := (szT Tryz.prog ((zA5 Tryz.prog 28 3).map (·.type)|>.getD 0)).getD 0) (fl := (zA5 Tryz.prog 28 3).getD default) (by kernel_rfl) (by kernel_rfl) (by decide +kernel) (by kernel_rfl)
theorem yJb : ∀ (H : Hp) (x : D), zA7 Tryz.prog H 28 x 4 = faD H x 4 := zEP (n := (szT Tryz.prog ((zA5 Tryz.prog 28 4).map (·.type)|>.getD 0)).getD 0) (fl := (zA5 Tryz.prog 28 4).getD default) (by kernel_rfl) (by kernel_rfl) (by decide +kernel) (by kernel_rfl)
theorem bd53 : ∀ (parts : List (Nat × D)), zHJ Tryz.prog 53 parts = (zJ5 (fun i => ([(0, 1), (1, 1), (2, 1), (3, 13)] : List (Nat × Nat))[i]?) [.st [], .it .i64 0, .it .i64 0, .bo false, .it .u64 0, .it .u64 0, .st [], .st [], .st [], .it .i64 0, .it .i64 0, .it .i64 0, .it .i64 0, .it .i64 0, .it .i64 0, .it .u64 0] parts).map .agg := zUl yDw Tryz.underlying53 (by kernel_rfl)
theorem bd51 : ∀ (parts : List (Nat × D)), zHJ Tryz.prog 51 parts = (zJ5 (fun i => ([(0, 3), (3, 1), (4, 1), (5, 1), (6, 1), (7, 1), (8, 1), (9, 1), (10, 1), (11, 1), (12, 1)] : List (Nat × Nat))[i]?) [.bo false, .it .u64 0, .it .u64 0, .st [], .st [], .st [], .it .i64 0, .it .i64 0, .it .i64 0, .it .i64 0, .it .i64 0, .it .i64 0, .it .u64 0] parts).map .agg := zUl yDx Tryz.underlying51 (by kernel_rfl)
theorem bd49 : ∀ (parts : List (Nat × D)), zHJ Tryz.prog 49 parts = (zJ5 (fun i => ([(0, 1), (1, 1), (2, 1)] : List (Nat × Nat))[i]?) [.bo false, .it .u64 0, .it .u64 0] parts).map .agg := zUl yDy Tryz.underlying49 (by kernel_rfl)
theorem bd24 : ∀ (parts : List (Nat × D)), zHJ Tryz.prog 24 parts = (zJ5 (fun i => ([(0, 1), (1, 1)] : List (Nat × Nat))[i]?) [.st [], .vec 16 false []] parts).map .agg := zUl yDA Tryz.underlying24 (by kernel_rfl)
theorem bd28 : ∀ (parts : List (Nat × D)), zHJ Tryz.prog 28 parts = (zJ5 (fun i => ([(0, 1), (1, 1), (2, 1), (3, 1), (4, 1)] : List (Nat × Nat))[i]?) [.st [], .it .i64 0, .it .i64 0, .vec 16 false [], .vec 16 false []] parts).map .agg := zUl yDz Tryz.underlying28 (by kernel_rfl)
set_option linter.defProp false in
def cF := And.intro @sz53 (And.intro @zE7 (And.intro @Tryz.underlying52 (And.intro @Tryz.underlying53 (And.intro @sz51 (And.intro @zE8 (And.intro @Tryz.underlying50 (And.intro @Tryz.underlying51 (And.intro @sz49 (And.intro @zE9 (And.intro @Tryz.underlying48 (And.intro @Tryz.underlying49 (And.intro @sz24 (And.intro @zFd (And.intro @Tryz.underlying24 (And.intro @Tryz.underlying23 (And.intro @sz28 (And.intro @zFc (And.intro @Tryz.underlying27 (And.intro @Tryz.underlying28 (And.intro @sz3 (And.intro @agg3 (And.intro @Tryz.underlying3 (And.intro @sz4 (And.intro @agg4 (And.intro @Tryz.underlying4 (And.intro @sz9 (And.intro @agg9 (And.intro @Tryz.underlying9 (And.intro @sz5 (And.intro @agg5 (And.intro @Tryz.underlying5 (And.intro @sz47 (And.intro @zFa (And.intro @Tryz.underlying47 (And.intro @sz90 (And.intro @zE4 (And.intro @Tryz.underlying90 (And.intro @sz98 (And.intro @zE3 (And.intro @Tryz.underlying98 (And.intro @sz29 (And.intro @zFb (And.intro @Tryz.underlying29 (And.intro @sz22 (And.intro @zFe (And.intro @Tryz.underlying22 (And.intro @sz79 (And.intro @zE5 (And.intro @Tryz.underlying79 (And.intro @zET (And.intro @zC6 (And.intro @Tryz.underlying111 (And.intro @zES (And.intro @zC5 (And.intro @Tryz.underlying149 (And.intro @sz60 (And.intro @zE6 (And.intro @Tryz.underlying60 (And.intro @yDy (And.intro @yDx (And.intro @yDw (And.intro @yDA (And.intro @yDz (And.intro @el22 (And.intro @ap22 (And.intro @ze22 (And.intro @yKW (And.intro @yKZ (And.intro @yIb (And.intro @yIe (And.intro @yHB (And.intro @yKz (And.intro @yKb (And.intro @yKe (And.intro @yKh (And.intro @yKs (And.intro @yHE (And.intro @yKw (And.intro @el79 (And.intro @ap79 (And.intro @ze79 (And.intro @yKU (And.intro @yKX (And.intro @yH9 (And.intro @yIc (And.intro @yHz (And.intro @yKx (And.intro @yJ9 (And.intro @yKc (And.intro @yKf (And.intro @yKq (And.intro @yHC (And.intro @zQw (And.intro @yJr (And.intro @yGG (And.intro @yHe (And.intro @yJR (And.intro @yJU (And.intro @yFt (And.intro @yFv (And.intro @yEJ (And.intro @yIn (And.intro @yHL (And.intro @yHN (And.intro @yHQ (And.intro @yH5 (And.intro @yEL (And.intro @yIj (And.intro @yF7 (And.intro @yGF (And.intro @yEh (And.intro @yJQ (And.intro @yJT (And.intro @yFs (And.intro @yFu (And.intro @yEI (And.intro @yIm (And.intro @yHK (And.intro @yDG (And.intro @yHP (And.intro @yH4 (And.intro @yEK (And.intro @yIi (And.intro @el60 (And.intro @ap60 (And.intro @ze60 (And.intro @yKV (And.intro @yKY (And.intro @yIa (And.intro @yId (And.intro @yHA (And.intro @yKy (And.intro @yKa (And.intro @yKd (And.intro @yKg (And.intro @yKr (And.intro @yHD (And.intro @yKv (And.intro @yIy (And.intro @yIx (And.intro @yIw (And.intro @yIv (And.intro @yII (And.intro @yIH (And.intro @yIG (And.intro @yIF (And.intro @yIE (And.intro @yID (And.intro @yIC (And.intro @yIB (And.intro @yIA (And.intro @yIz (And.intro @yFR (And.intro @yIL (And.intro @yIK (And.intro @yIJ (And.intro @yIS (And.intro @yIR (And.intro @yIQ (And.intro @yIP (And.intro @yIO (And.intro @yIN (And.intro @yIM (And.intro @yIX (And.intro @yIW (And.intro @yIV (And.intro @yIU (And.intro @yI7 (And.intro @yI6 (And.intro @yI5 (And.intro @yI4 (And.intro @yI3 (And.intro @yI2 (And.intro @yI1 (And.intro @yI0 (And.intro @yIZ (And.intro @yIY (And.intro @yFV (And.intro @yJa (And.intro @yI9 (And.intro @yI8 (And.intro @yJh (And.intro @yJg (And.intro @yJf (And.intro @yJe (And.intro @yJd (And.intro @yJc (And.intro @yJb (And.intro @bd53 (And.intro @bd51 (And.intro @bd49 (And.intro @bd24 (@bd28)))))))))))))))))))))))))))))))))))))))))))))))))))))))))))))))))))))))))))))))))))))))))))))))))))))))))))))))))))))))))))))))))))))))))))))))))))))))))))))))))))))))))))))))))))))))))))))))))
theorem zZs : Tryz.prog.stoodInHeld 49 = false := by kernel_rfl
theorem yJm : Tryz.prog.eqGuardType Tryz.prog.depth 49 = false := by kernel_rfl
theorem yJo (n : Nat) (a b : Adr) : eqD Tryz.prog (n + 8) 49 (.agg (adrL a)) (.agg (adrL b)) = some (decide (a = b)) := by
 obtain ⟨v, i, o⟩ := a
 obtain ⟨v', i', o'⟩ := b
 simp only [zFw Tryz.underlying49 zZs, zQQ, zQP, zNJ, zQO, zNI, ne_eq, Tryz.underlying52, Tryz.underlying53, Tryz.underlying50, Tryz.underlying51, Tryz.underlying48, Tryz.underlying49, Tryz.underlying24, Tryz.underlying23, Tryz.underlying27, Tryz.underlying28, Tryz.underlying3, Tryz.underlying4, Tryz.underlying9, Tryz.underlying5, Tryz.underlying47, Tryz.underlying90, Tryz.underlying98, Tryz.underlying29, Tryz.underlying22, Tryz.underlying79, Tryz.underlying111, Tryz.underlying149, Tryz.underlying60, sz53, zE7, sz51, zE8, sz49, zE9, sz24, zFd, sz28, zFc, sz3, agg3, sz4, agg4, sz9, agg9, sz5, agg5, sz47, zFa, sz90, zE4, sz98, zE3, sz29, zFb, sz22, zFe, sz79, zE5, zET, zC6, zES, zC5, sz60, zE6, zAC, adrL, Option.bind_some, Option.map_some, if_true, if_false, Bool.false_eq_true, List.drop_zero, List.drop_succ_cons, List.take_succ_cons, List.take_zero, List.getElem?_cons_succ, List.getElem?_cons_zero, List.length_cons, List.length_nil, Nat.reduceAdd, Nat.reduceLeDiff, String.reduceEq, not_false_eq_true, Nat.reduceEqDiff]
 rw [Option.some.injEq, Bool.eq_iff_iff]
 simp only [Bool.and_eq_true, beq_iff_eq, decide_eq_true_eq, Rec.mk.injEq, Dat.mk.injEq, Adr.mk.injEq, and_true, and_assoc]
theorem zAQ (a b : Adr) : binD Tryz.prog .eql 49 (adrE a) (adrE b) = some (.bo (decide (a = b))) := zQ6 rfl rfl yJm (yJo 4 a b)
theorem zAM (a b : Adr) : binD Tryz.prog .neq 49 (adrE a) (adrE b) = some (.bo (!decide (a = b))) := zUj rfl rfl yJm (yJo 4 a b)
theorem yD4 : Tryz.prog.stoodInHeld 51 = false := by kernel_rfl
theorem yJl : Tryz.prog.eqGuardType Tryz.prog.depth 51 = false := by kernel_rfl
theorem yJn (n : Nat) (a b : Dat) : eqD Tryz.prog (n + 8) 51 (.agg (datL a)) (.agg (datL b)) = some (decide (a = b)) := by
 obtain ⟨⟨v, i, o⟩, h, m, x, a1, a2, a3, a4, a5, a6, g⟩ := a
 obtain ⟨⟨v', i', o'⟩, h', m', x', b1, b2, b3, b4, b5, b6, g'⟩ := b
 simp only [zFw Tryz.underlying51 yD4, zFw Tryz.underlying49 zZs, zQQ, zQP, zNJ, zQO, zNI, ne_eq, Tryz.underlying52, Tryz.underlying53, Tryz.underlying50, Tryz.underlying51, Tryz.underlying48, Tryz.underlying49, Tryz.underlying24, Tryz.underlying23, Tryz.underlying27, Tryz.underlying28, Tryz.underlying3, Tryz.underlying4, Tryz.underlying9, Tryz.underlying5, Tryz.underlying47, Tryz.underlying90, Tryz.underlying98, Tryz.underlying29, Tryz.underlying22, Tryz.underlying79, Tryz.underlying111, Tryz.underlying149, Tryz.underlying60, sz53, zE7, sz51, zE8, sz49, zE9, sz24, zFd, sz28, zFc, sz3, agg3, sz4, agg4, sz9, agg9, sz5, agg5, sz47, zFa, sz90, zE4, sz98, zE3, sz29, zFb, sz22, zFe, sz79, zE5, zET, zC6, zES, zC5, sz60, zE6, zAC, datL, Option.bind_some, Option.map_some, if_true, if_false, Bool.false_eq_true, List.drop_zero, List.drop_succ_cons, List.take_succ_cons, List.take_zero, List.getElem?_cons_succ, List.getElem?_cons_zero, List.length_cons, List.length_nil, Nat.reduceAdd, Nat.reduceLeDiff, String.reduceEq, not_false_eq_true, Nat.reduceEqDiff]
 rw [Option.some.injEq, Bool.eq_iff_iff]
 simp only [Bool.and_eq_true, beq_iff_eq, decide_eq_true_eq, Rec.mk.injEq, Dat.mk.injEq, Adr.mk.injEq, and_true, and_assoc]
theorem zAP (a b : Dat) : binD Tryz.prog .eql 51 (datE a) (datE b) = some (.bo (decide (a = b))) := zQ6 rfl rfl yJl (yJn 4 a b)
theorem zAL (a b : Dat) : binD Tryz.prog .neq 51 (datE a) (datE b) = some (.bo (!decide (a = b))) := zUj rfl rfl yJl (yJn 4 a b)
theorem yIr : Tryz.prog.stoodInHeld 53 = false := by kernel_rfl
theorem yJk : Tryz.prog.eqGuardType Tryz.prog.depth 53 = false := by kernel_rfl
theorem yCM (n : Nat) (a b : Rec) : eqD Tryz.prog (n + 8) 53 (.agg (recL a)) (.agg (recL b)) = some (decide (a = b)) := by
 obtain ⟨nn, tt, ll, ⟨⟨v, i, o⟩, h, m, x, a1, a2, a3, a4, a5, a6, g⟩⟩ := a
 obtain ⟨nn', tt', ll', ⟨⟨v', i', o'⟩, h', m', x', b1, b2, b3, b4, b5, b6, g'⟩⟩ := b
 simp only [zFw Tryz.underlying53 yIr, zFw Tryz.underlying49 zZs, zFw Tryz.underlying51 yD4, zQQ, zQP, zNJ, zQO, zNI, ne_eq, Tryz.underlying52, Tryz.underlying53, Tryz.underlying50, Tryz.underlying51, Tryz.underlying48, Tryz.underlying49, Tryz.underlying24, Tryz.underlying23, Tryz.underlying27, Tryz.underlying28, Tryz.underlying3, Tryz.underlying4, Tryz.underlying9, Tryz.underlying5, Tryz.underlying47, Tryz.underlying90, Tryz.underlying98, Tryz.underlying29, Tryz.underlying22, Tryz.underlying79, Tryz.underlying111, Tryz.underlying149, Tryz.underlying60, sz53, zE7, sz51, zE8, sz49, zE9, sz24, zFd, sz28, zFc, sz3, agg3, sz4, agg4, sz9, agg9, sz5, agg5, sz47, zFa, sz90, zE4, sz98, zE3, sz29, zFb, sz22, zFe, sz79, zE5, zET, zC6, zES, zC5, sz60, zE6, zAC, recL, Option.bind_some, Option.map_some, if_true, if_false, Bool.false_eq_true, List.drop_zero, List.drop_succ_cons, List.take_succ_cons, List.take_zero, List.getElem?_cons_succ, List.getElem?_cons_zero, List.length_cons, List.length_nil, Nat.reduceAdd, Nat.reduceLeDiff, String.reduceEq, not_false_eq_true, Nat.reduceEqDiff]
 rw [Option.some.injEq, Bool.eq_iff_iff]
 simp only [Bool.and_eq_true, beq_iff_eq, decide_eq_true_eq, Rec.mk.injEq, Dat.mk.injEq, Adr.mk.injEq, and_true, and_assoc]
theorem zAO (a b : Rec) : binD Tryz.prog .eql 53 (recE a) (recE b) = some (.bo (decide (a = b))) := zQ6 rfl rfl yJk (yCM 4 a b)
theorem zAK (a b : Rec) : binD Tryz.prog .neq 53 (recE a) (recE b) = some (.bo (!decide (a = b))) := zUj rfl rfl yJk (yCM 4 a b)
def okc (c : UInt8) : Bool := (97 ≤ c && c ≤ 122) || (48 ≤ c && c ≤ 57) || c == 45 || c == 95
theorem zHO (c : UInt8) : okc c = true ↔ (97 ≤ (c.toNat : Int) ∧ (c.toNat : Int) ≤ 122) ∨ (48 ≤ (c.toNat : Int) ∧ (c.toNat : Int) ≤ 57) ∨ (c.toNat : Int) = 45 ∨ (c.toNat : Int) = 95 := by
 have h1 : c = 45 ↔ c.toNat = 45 := by rw [← UInt8.toNat_inj]; rfl
 have h2 : c = 95 ↔ c.toNat = 95 := by rw [← UInt8.toNat_inj]; rfl
 simp only [okc, Bool.or_eq_true, Bool.and_eq_true, decide_eq_true_eq, beq_iff_eq, UInt8.le_iff_toNat_le, h1, h2]
 have e1 : (97 : UInt8).toNat = 97 := rfl
 have e2 : (122 : UInt8).toNat = 122 := rfl
 have e3 : (48 : UInt8).toNat = 48 := rfl
 have e4 : (57 : UInt8).toNat = 57 := rfl
 rw [e1, e2, e3, e4]
 omega
def zBQ (s : List UInt8) : Bool := s == [42] || (decide (1 ≤ s.length) && decide (s.length ≤ 63) && s.all okc)
def zAZ : List UInt8 → List UInt8 → Bool → Option (List (List UInt8))
 | [], _, _ => some []
 | c :: r, cur, b => if c = 46 then (if zBQ cur && (!(cur == [42]) || b) then (zAZ r [] false).map (cur :: ·) else none) else zAZ r (cur ++ [c]) b
def labs (n : List UInt8) : Option (List (List UInt8)) :=
 if n = [46] then some [] else if n.length < 2 ∨ 254 < n.length ∨ n.getLastD 0 ≠ 46 then none else zAZ n [] true
def vName (n : List UInt8) : Bool := (labs n).isSome

def cpre : List (List UInt8) → List (List UInt8) → Nat
 | x :: xs, y :: ys => if x = y then cpre xs ys + 1 else 0
 | _, _ => 0
def zBS (a b : List (List UInt8)) : Nat := cpre a.reverse b.reverse
def zBj (a b : List UInt8) : Int := if Op.bytesLess a b then -1 else if (Op.bytesLess a b || a == b) then 0 else 1
theorem zUc : ∀ (a b : List (List UInt8)), cpre a b ≤ a.length ∧ cpre a b ≤ b.length
 | [], b => by simp [cpre]
 | x :: xs, [] => by simp [cpre]
 | x :: xs, y :: ys => by
   have := zUc xs ys
   simp only [cpre]
   split
   · simp; omega
   · simp
theorem zMz : ∀ (r cur : List UInt8) (b : Bool) (l : List (List UInt8)), zAZ r cur b = some l → l.length ≤ r.length
 | [], _, _, l, h => by simp [zAZ] at h; subst h; simp
 | c :: r, cur, b, l, h => by
   simp only [zAZ] at h
   split at h
   · split at h
     · rw [Option.map_eq_some_iff] at h
       obtain ⟨m, hm, rfl⟩ := h
       have := zMz r [] false m hm
       simp; omega
     · cases h
   · have := zMz r _ b l h
     simp; omega
theorem zCl (n : List UInt8) : ((labs n).getD []).length ≤ 254 := by
 unfold labs
 split
 · simp
 · split
   · simp
   · rename_i h
     cases hg : zAZ n [] true with
     | none => simp
     | some l => have := zMz n [] true l hg; simp; omega
def underB (n top : List UInt8) : Bool := (labs n).isSome && (labs top).isSome && decide (zBS ((labs n).getD []) ((labs top).getD []) = ((labs top).getD []).length)
def cmpB (a b : List UInt8) : Int := if (labs a).isSome then (if (labs b).isSome then (if zBS ((labs a).getD []) ((labs b).getD []) < ((labs a).getD []).length ∧ zBS ((labs a).getD []) ((labs b).getD []) < ((labs b).getD []).length then zBj ((labs a).getD []).reverse[zBS ((labs a).getD []) ((labs b).getD [])]! ((labs b).getD []).reverse[zBS ((labs a).getD []) ((labs b).getD [])]! else if ((labs a).getD []).length < ((labs b).getD []).length then -1 else if ((labs b).getD []).length < ((labs a).getD []).length then 1 else 0) else -1) else if (labs b).isSome then 1 else zBj a b

noncomputable def zDF := mkF (fun s : (List UInt8) × (List UInt8) => [.st s.1, .st s.2]) (fun s => Sm s.1 ∧ Sm s.2) (fun s => Res.flat (.bo (underB s.1 s.2)))
theorem zDE {s1 : List UInt8} {s2 : List UInt8} (hp : Sm s1 ∧ Sm s2) : zDF [.st s1, .st s2] = some (Res.flat (.bo (underB s1 s2))) := zAB (s := (s1, s2)) (fun s s' h => by simp only [cI] at h; simp only [h]) hp
noncomputable def zJa := mkF (fun s : (List UInt8) × (List UInt8) => [.st s.1, .st s.2]) (fun s => Sm s.1 ∧ Sm s.2) (fun s => Res.flat (.it .i64 (cmpB s.1 s.2)))
theorem zMj {s1 : List UInt8} {s2 : List UInt8} (hp : Sm s1 ∧ Sm s2) : zJa [.st s1, .st s2] = some (Res.flat (.it .i64 (cmpB s1 s2))) := zAB (s := (s1, s2)) (fun s s' h => by simp only [cI] at h; simp only [h]) hp
theorem zKt {l : List (List UInt8)} {k : Nat} (h : (k : Int) < l.length) : (l.map D.st)[l.length - 1 - k]? = some (.st l.reverse[k]!) := by
 rw [getm (by omega), rev_at (by omega)]
def vAdr (a : Adr) : Bool := a.v6 || (decide (a.hi = 0) && decide (a.lo < 4294967296))
def mnem (t : Int) : List UInt8 := if t = 1 then [65] else if t = 2 then [78, 83] else if t = 5 then [67, 78, 65, 77, 69] else if t = 6 then [83, 79, 65] else if t = 12 then [80, 84, 82]
 else if t = 15 then [77, 88] else if t = 16 then [84, 88, 84] else if t = 28 then [65, 65, 65, 65] else if t = 33 then [83, 82, 86] else if t = 39 then [68, 78, 65, 77, 69] else if t = 43 then [68, 83]
 else if t = 46 then [82, 82, 83, 73, 71] else if t = 47 then [78, 83, 69, 67] else if t = 48 then [68, 78, 83, 75, 69, 89] else []
def known (t : Int) : Bool := !(mnem t == [])
def single (t : Int) : Bool := decide (t = 6) || decide (t = 5) || decide (t = 39)
def dat0 : Dat := ⟨⟨false, 0, 0⟩, [], [], [], 0, 0, 0, 0, 0, 0, 0⟩
def zA1 (t : Int) (d : Dat) : Dat := if t = 1 ∨ t = 28 then { dat0 with adr := d.adr } else if t = 2 ∨ t = 5 ∨ t = 12 ∨ t = 39 then { dat0 with host := d.host }
 else if t = 6 then { dat0 with host := d.host, mail := d.mail, a := d.a, b := d.b, c := d.c, d := d.d, e := d.e } else if t = 15 then { dat0 with a := d.a, host := d.host } else if t = 16 then { dat0 with text := d.text }
 else if t = 33 then { dat0 with a := d.a, b := d.b, c := d.c, host := d.host } else if t = 43 ∨ t = 48 then { dat0 with a := d.a, b := d.b, c := d.c, text := d.text }
 else if t = 46 then { dat0 with a := d.a, b := d.b, c := d.c, d := d.d, e := d.e, f := d.f, host := d.host, text := d.text } else { dat0 with host := d.host, bits := d.bits }
def inB (n m : Int) : Bool := decide (0 ≤ n) && decide (n ≤ m)
def zBX (n : List UInt8) : Bool := vName n && !(decide ((n[(0 : Int).toNat]!.toNat : Int) = 42))
def zDW (s : List UInt8) : Bool := decide (1 ≤ (s.length : Int)) && decide ((s.length : Int) ≤ 255)

noncomputable def zG3 := mkF (fun s : Adr => [adrE s]) (fun s => True) (fun s => Res.flat (.bo (vAdr s)))
theorem zFJ {a1 : Adr} : zG3 [adrE a1] = some (Res.flat (.bo (vAdr a1))) := zAB (s := (a1)) (fun s s' h => by simp only [cI] at h; simp only [h]) trivial
noncomputable def zFn := mkF (fun s : (List UInt8) => [.st s]) (fun s => True) (fun s => Res.flat (.bo (zDW s)))
theorem zJ8 {s1 : List UInt8} : zFn [.st s1] = some (Res.flat (.bo (zDW s1))) := zAB (s := (s1)) (fun s s' h => by simp only [cI] at h; simp only [h]) trivial
def inR (x : Int) : Bool := decide (0 ≤ x ∧ x < 4294967296)
theorem zL0 {x : Int} : inR x = true ↔ 0 ≤ x ∧ x < 4294967296 := by simp [inR]
theorem zJ2 {x : Int} : inR x = false ↔ ¬ (0 ≤ x ∧ x < 4294967296) := by simp [inR]
def sCmp (x y : Int) : Int × Bool := if inR x = false ∨ inR y = false then (0, false) else
 if (y - x) % 4294967296 = 0 then (0, true) else if (y - x) % 4294967296 < 2147483648 then (-1, true) else if 2147483648 < (y - x) % 4294967296 then (1, true) else (0, false)
def zBn (x y : Int) : Bool := (sCmp x y).2 && decide ((sCmp x y).1 = 1)

noncomputable def zCj := mkF (fun s : Int => [.it .i64 s]) (fun s => True) (fun s => Res.flat (.bo (inR s)))
theorem zCr {x : Int} : zCj [.it .i64 x] = some (Res.flat (.bo (inR x))) := zAB (s := (x)) (fun s s' h => by simp only [cI] at h; simp only [h]) trivial
noncomputable def zI9 := mkF (fun s : Int × Int => [.it .i64 s.1, .it .i64 s.2]) (fun s => True) (fun s => Res.flat (.tup [.it .i64 (sCmp s.1 s.2).1, .bo (sCmp s.1 s.2).2]))
theorem zMi {x : Int} {y : Int} : zI9 [.it .i64 x, .it .i64 y] = some (Res.flat (.tup [.it .i64 (sCmp x y).1, .bo (sCmp x y).2])) := zAB (s := (x, y)) (fun s s' h => by simp only [cI] at h; simp only [h]) trivial
noncomputable def zDm := mkF (fun s : Int × Int => [.it .i64 s.1, .it .i64 s.2]) (fun s => True) (fun s => Res.flat (.bo (zBn s.1 s.2)))
theorem zFz {x : Int} {y : Int} : zDm [.it .i64 x, .it .i64 y] = some (Res.flat (.bo (zBn x y))) := zAB (s := (x, y)) (fun s s' h => by simp only [cI] at h; simp only [h]) trivial
theorem zEC (cx : Cx) (hP : cx.P = Tryz.prog) (hbs : cx.bs = 0) (x : Int)  : zAj cx Tryz.f55 [] false [.it .i64 x] = some (Res.flat (.bo (inR x))) := by
 refine zAg (rs := [.tmp 2]) rfl hbs rfl ?_
 repeat' first
   | (refine zAR (fun h => ?_) (fun h => ?_) <;> (try simp only [cN] at h))
   | (refine zAN ?_ ?_)
   | simp only [↓cD, cU, cQ, cP, cB, zAJ, unD, zAf, zAd, idx, reduceCtorEq, ↓reduceIte, ofV, ofC, zAq, Nat.reduceEqDiff, zAG, cG, implies_true, forall_const, immL, immD, Res.flat, ren, renL, Int.reduceEq, Int.reduceLT, Int.reduceLE, Int.reduceNe, deref, ldD, zAF, zAk, zAI, zAs, cC, ↓zAM, ↓zAQ, ↓zAL, ↓zAP, ↓zAK, ↓zAO, cV, cT, cF, cW, borT, borM, zAm, Res.via, zAu, zAb, refsB, Nat.reduceLT, Nat.reduceSub, Nat.reduceLeDiff, Nat.reduceMul, Nat.reduceAdd, Int.reduceToNat, appK, zAr, zAc, borL, zAl, zAn, zAE, cO, List.replicate, zAC, ofHp, ixOf, inR, hP, *]
theorem zHk (cx : Cx) (hP : cx.P = Tryz.prog) (hbs : cx.bs = 0) (h55 : cx.orc 55 = some zCj) (x y : Int)  : zAj cx Tryz.f53 [] false [.it .i64 x, .it .i64 y] = some (Res.flat (.tup [.it .i64 (sCmp x y).1, .bo (sCmp x y).2])) := by
 have c55 := zAa h55
 refine zAg (rs := [.tmp 4, .tmp 5]) rfl hbs rfl ?_
 repeat' first
   | (refine zAR (fun h => ?_) (fun h => ?_) <;> (try simp only [cN] at h))
   | (refine zAN ?_ ?_)
   | simp only [↓cD, cU, cQ, cP, cB, zAJ, unD, zAf, zAd, idx, reduceCtorEq, ↓reduceIte, ofV, ofC, zAq, Nat.reduceEqDiff, zAG, cG, implies_true, forall_const, immL, immD, Res.flat, ren, renL, Int.reduceEq, Int.reduceLT, Int.reduceLE, Int.reduceNe, deref, ldD, zAF, zAk, zAI, zAs, cC, c55, zAo, zAp, zCr, ↓zAM, ↓zAQ, ↓zAL, ↓zAP, ↓zAK, ↓zAO, cV, cT, cF, cW, borT, borM, zAm, Res.via, zAu, zAb, refsB, Nat.reduceLT, Nat.reduceSub, Nat.reduceLeDiff, Nat.reduceMul, Nat.reduceAdd, Int.reduceToNat, appK, zAr, zAc, borL, zAl, zAn, zAE, cO, List.replicate, zAC, ofHp, ixOf, sCmp, hP, *]
 all_goals
   simp only [zL0, zJ2] at *
   have e : IntKind.u32.wrap (IntKind.u32.wrap y - IntKind.u32.wrap x) = (y - x) % 4294967296 := by
     simp only [wrap32]; omega
   simp only [e] at *
   repeat' split
   all_goals first | rfl | omega
theorem zED (cx : Cx) (hP : cx.P = Tryz.prog) (hbs : cx.bs = 0) (h53 : cx.orc 53 = some zI9) (x y : Int)  : zAj cx Tryz.f24 [] false [.it .i64 x, .it .i64 y] = some (Res.flat (.bo (zBn x y))) := by
 have c53 := zAa h53
 refine zAg (rs := [.tmp 4]) rfl hbs rfl ?_
 repeat' first
   | (refine zAR (fun h => ?_) (fun h => ?_) <;> (try simp only [cN] at h))
   | (refine zAN ?_ ?_)
   | simp only [↓cD, cU, cQ, cP, cB, zAJ, unD, zAf, zAd, idx, reduceCtorEq, ↓reduceIte, ofV, ofC, zAq, Nat.reduceEqDiff, zAG, cG, implies_true, forall_const, immL, immD, Res.flat, ren, renL, Int.reduceEq, Int.reduceLT, Int.reduceLE, Int.reduceNe, deref, ldD, zAF, zAk, zAI, zAs, cC, c53, zAo, zAp, zMi, ↓zAM, ↓zAQ, ↓zAL, ↓zAP, ↓zAK, ↓zAO, cV, cT, cF, cW, borT, borM, zAm, Res.via, zAu, zAb, refsB, Nat.reduceLT, Nat.reduceSub, Nat.reduceLeDiff, Nat.reduceMul, Nat.reduceAdd, Int.reduceToNat, appK, zAr, zAc, borL, zAl, zAn, zAE, cO, List.replicate, zAC, ofHp, ixOf, zBn, hP, *]
 all_goals first | done | rfl | (simp [zBn, *]; done)
def bitS (n : Int) (t : Nat) : Int := IntKind.u64.wrap (BitVec.ofInt IntKind.u64.bits (n.fdiv (2 ^ (min t IntKind.u64.bits))) &&& BitVec.ofInt IntKind.u64.bits 1).toNat
def zCS (n : Int) : Nat → Nat → Bool
 | _, 0 => true
 | t, k + 1 => if bitS n t = 1 then (if known t then zCS n (t + 1) k else false) else zCS n (t + 1) k
def allB (n : Int) : Bool := zCS n 0 64
def validD (t : Int) (d : Dat) : Bool := if known t = false then false else if ¬ zA1 t d = d then false else
 if t = 1 then vAdr d.adr && !d.adr.v6 else if t = 28 then d.adr.v6 else
 if t = 6 then zBX d.host && (zBX d.mail && (inR d.a && (inB d.b 2147483647 && (inB d.c 2147483647 && (inB d.d 2147483647 && inB d.e 2147483647))))) else
 if t = 15 then zBX d.host && inB d.a 65535 else if t = 16 then decide ((d.text.length : Int) ≤ 255) else
 if t = 33 then zBX d.host && (inB d.a 65535 && (inB d.b 65535 && inB d.c 65535)) else
 if t = 43 then inB d.a 65535 && (inB d.b 255 && (inB d.c 255 && zDW d.text)) else
 if t = 46 then known d.a && (!decide (d.a = 46) && (inB d.b 127 && (inB d.c 2147483647 && (inB d.d 4294967295 && (inB d.e 4294967295 && (inB d.f 65535 && (zBX d.host && zDW d.text))))))) else
 if t = 47 then vName d.host && (!decide (d.bits = 0) && allB d.bits) else
 if t = 48 then (decide (d.a = 256) || decide (d.a = 257)) && (decide (d.b = 3) && (inB d.c 255 && zDW d.text)) else zBX d.host
def U64 (x : Int) : Prop := 0 ≤ x ∧ x ≤ 18446744073709551615
def ASm (a : Adr) : Prop := U64 a.hi ∧ U64 a.lo
def DSm (d : Dat) : Prop := Sm d.host ∧ Sm d.mail ∧ Sm d.text ∧ ASm d.adr

noncomputable def FVD := mkF (fun s : Int × Dat => [.it .i64 s.1, datE s.2]) (fun s => DSm s.2) (fun s => Res.flat (.bo (validD s.1 s.2)))
theorem zKx {t1 : Int} {d1 : Dat} (hp : DSm d1) : FVD [.it .i64 t1, datE d1] = some (Res.flat (.bo (validD t1 d1))) := zAB (s := (t1, d1)) (fun s s' h => by simp only [cI] at h; simp only [h]) hp
def divN (k : IntKind) (v : Int) : Nat → Int
 | 0 => v
 | j + 1 => k.wrap ((divN k v j).tdiv 256)
def numI (k : IntKind) (v : Int) : Nat → List Int
 | 0 => []
 | n + 1 => IntKind.u8.wrap ((divN k v n).tmod 256) :: numI k v n
def numB (k : IntKind) (v : Int) (n : Nat) : List UInt8 := (numI k v n).map zDq
theorem zHE (k : IntKind) (v : Int) : ∀ n, (numI k v n).length = n
 | 0 => rfl
 | n + 1 => by simp [numI, zHE k v n]
theorem zBk (k : IntKind) (v : Int) (n : Nat) : (numB k v n).length = n := by simp [numB, zHE]

theorem zJ3 : ∀ (r cur : List UInt8) (b : Bool) (l : List (List UInt8)), zAZ r cur b = some l → ∀ x ∈ l, x.length ≤ cur.length + r.length
 | [], _, _, l, h => by simp [zAZ] at h; subst h; simp
 | c :: r, cur, b, l, h => by
   simp only [zAZ] at h
   split at h
   · split at h
     · rw [Option.map_eq_some_iff] at h
       obtain ⟨m, hm, rfl⟩ := h
       have := zJ3 r [] false m hm
       intro x hx
       rcases List.mem_cons.1 hx with rfl | hx
       · omega
       · have := this x hx; simp at this; rw [List.length_cons]; omega
     · cases h
   · intro x hx
     have := zJ3 r _ b l h x hx
     simp at this; rw [List.length_cons]; omega
theorem zEq (n : List UInt8) : ∀ x ∈ (labs n).getD [], x.length ≤ 254 := by
 unfold labs
 split
 · simp
 · split
   · simp
   · rename_i h
     cases hg : zAZ n [] true with
     | none => simp
     | some l => intro x hx; have := zJ3 n [] true l hg x hx; simp at this; omega
def wnL : List (List UInt8) → List UInt8
 | [] => []
 | x :: r => (numB .i64 x.length 1 ++ x) ++ wnL r
theorem zKf : ∀ (a : List (List UInt8)) (x : List UInt8), wnL (a ++ [x]) = wnL a ++ (numB .i64 x.length 1 ++ x)
 | [], x => by simp [wnL]
 | y :: r, x => by simp [wnL, zKf r x]
theorem zSP : ∀ (l : List (List UInt8)), (∀ x ∈ l, x.length ≤ 254) → (wnL l).length ≤ 255 * l.length
 | [], _ => by simp [wnL]
 | x :: r, h => by
   have := zSP r fun y hy => h y (by simp [hy])
   have := h x (by simp)
   simp only [wnL, List.length_append, zBk, List.length_cons]; omega
def zBH (n : List UInt8) : List UInt8 := wnL ((labs n).getD []) ++ numB .i64 0 1
theorem zDA (n : List UInt8) : (zBH n).length ≤ 64771 := by
 have := zSP _ (zEq n)
 have := zCl n
 simp only [zBH, List.length_append, zBk]; omega
theorem zFB {n : List UInt8} {i : Nat} : (wnL (((labs n).getD []).take i)).length ≤ 64770 := by
 have := zSP (((labs n).getD []).take i) fun x hx => zEq n x (List.mem_of_mem_take hx)
 have := zCl n
 have : (((labs n).getD []).take i).length ≤ ((labs n).getD []).length := by rw [List.length_take]; omega
 omega
theorem zOt {n : List UInt8} {i : Nat} (h : (i : Int) < ((labs n).getD []).length) : (((labs n).getD [])[i]!).length ≤ 254 := zEq n _ (zBO h)

def bitV (n : Int) (i : Nat) : Nat → Int
 | 0 => 0
 | j + 1 => IntKind.i64.wrap (IntKind.i64.wrap (bitV n i j * 2) + IntKind.i64.wrap (bitS n (i * 8 + j)))
def bmI (n : Int) : Nat → List Int
 | 0 => []
 | i + 1 => bmI n i ++ [IntKind.u8.wrap (bitV n i 8)]
def zBg (n : Int) : Nat → Nat
 | 0 => 0
 | i + 1 => if bitV n i 8 = 0 then zBg n i else i + 1
theorem zBU (n : Int) : ∀ i, (bmI n i).length = i
 | 0 => rfl
 | i + 1 => by simp [bmI, zBU n i]
theorem zB5 (n : Int) : ∀ i, zBg n i ≤ i
 | 0 => Nat.le_refl _
 | i + 1 => by have := zB5 n i; simp only [zBg]; split <;> omega
def bmB (n : Int) : List UInt8 := ((bmI n 8).take (zBg n 8)).map zDq
theorem zMI (n : Int) : (bmB n).length ≤ 8 := by have := zB5 n 8; simp only [bmB, List.length_map, List.length_take, zBU]; omega
def zBx (a : Adr) : List UInt8 × Int := if vAdr a then (if a.v6 then (numB .u64 a.hi 8 ++ numB .u64 a.lo 8, 0) else (numB .u64 a.lo 4, 0)) else ([], 3)
def zAx (t : Int) (d : Dat) : List UInt8 × Int := if known t then (if validD t d then
 (if t = 1 then zBx d.adr else if t = 28 then zBx d.adr else
  if t = 6 then (zBH d.host ++ zBH d.mail ++ numB .i64 d.a 4 ++ numB .i64 d.b 4 ++ numB .i64 d.c 4 ++ numB .i64 d.d 4 ++ numB .i64 d.e 4, 0) else
  if t = 15 then (numB .i64 d.a 2 ++ zBH d.host, 0) else
  if t = 16 then (numB .i64 d.text.length 1 ++ d.text, 0) else
  if t = 33 then (numB .i64 d.a 2 ++ numB .i64 d.b 2 ++ numB .i64 d.c 2 ++ zBH d.host, 0) else
  if t = 43 ∨ t = 48 then (numB .i64 d.a 2 ++ numB .i64 d.b 1 ++ numB .i64 d.c 1 ++ d.text, 0) else
  if t = 46 then (numB .i64 d.a 2 ++ numB .i64 253 1 ++ numB .i64 d.b 1 ++ numB .i64 d.c 4 ++ numB .i64 d.d 4 ++ numB .i64 d.e 4 ++ numB .i64 d.f 2 ++ zBH d.host ++ d.text, 0) else
  if t = 47 then (zBH d.host ++ numB .i64 0 1 ++ numB .i64 (bmB d.bits).length 1 ++ bmB d.bits, 0) else (zBH d.host, 0)) else ([], 5)) else ([], 4)
def cmpD (t : Int) (a b : Dat) : Int := if (zAx t a).2 = 0 then (if (zAx t b).2 = 0 then zBj (zAx t a).1 (zAx t b).1 else -1) else if (zAx t b).2 = 0 then 1 else 0

noncomputable def FWD := mkF (fun s : Int × Dat => [.it .i64 s.1, datE s.2]) (fun s => DSm s.2) (fun s => Res.flat (.tup [.st (zAx s.1 s.2).1, .it .i64 (zAx s.1 s.2).2]))
theorem zSE {t1 : Int} {d1 : Dat} (hp : DSm d1) : FWD [.it .i64 t1, datE d1] = some (Res.flat (.tup [.st (zAx t1 d1).1, .it .i64 (zAx t1 d1).2])) := zAB (s := (t1, d1)) (fun s s' h => by simp only [cI] at h; simp only [h]) hp
noncomputable def FCD := mkF (fun s : Int × Dat × Dat => [.it .i64 s.1, datE s.2.1, datE s.2.2]) (fun s => DSm s.2.1 ∧ DSm s.2.2) (fun s => Res.flat (.it .i64 (cmpD s.1 s.2.1 s.2.2)))
theorem zSN {t1 : Int} {d1 : Dat} {e1 : Dat} (hp : DSm d1 ∧ DSm e1) : FCD [.it .i64 t1, datE d1, datE e1] = some (Res.flat (.it .i64 (cmpD t1 d1 e1))) := zAB (s := (t1, d1, e1)) (fun s s' h => by simp only [cI] at h; simp only [h]) hp
def RSm (r : Rec) : Prop := Sm r.name ∧ DSm r.dat
def LSm (l : List Rec) : Prop := l.length ≤ 1000000 ∧ ∀ r ∈ l, RSm r
theorem LSm.at {l : List Rec} (h : LSm l) {i : Nat} (hi : (i : Int) < l.length) : RSm l[i]! := h.2 _ (zBO hi)
theorem LSm.sm {l : List Rec} (h : LSm l) : Sm l := by have := h.1; simp only [Sm]; omega
def zBd (r : Rec) : Bool := vName r.name && (known r.typ && (decide (0 ≤ r.ttl) && (decide (r.ttl ≤ 2147483647) && validD r.typ r.dat)))
def numC (a b : Int) : Int := if a < b then -1 else if b < a then 1 else 0
def zAy (a b : Rec) : Int := if ¬ cmpB a.name b.name = 0 then cmpB a.name b.name else if ¬ numC a.typ b.typ = 0 then numC a.typ b.typ else cmpD a.typ a.dat b.dat
def cmpR (a b : Rec) : Int := if ¬ zAy a b = 0 then zAy a b else numC a.ttl b.ttl
def findR (l : List Rec) (n : List UInt8) (t : Int) : List Rec := l.filter fun r => r.name == n && decide (r.typ = t)

noncomputable def FVR := mkF (fun s : Rec => [recE s]) (fun s => RSm s) (fun s => Res.flat (.bo (zBd s)))
theorem zMg {r1 : Rec} (hp : RSm r1) : FVR [recE r1] = some (Res.flat (.bo (zBd r1))) := zAB (s := (r1)) (fun s s' h => by simp only [cI] at h; simp only [h]) hp
noncomputable def zHa := mkF (fun s : Int × Int => [.it .i64 s.1, .it .i64 s.2]) (fun s => True) (fun s => Res.flat (.it .i64 (numC s.1 s.2)))
theorem zGp {a1 : Int} {b1 : Int} : zHa [.it .i64 a1, .it .i64 b1] = some (Res.flat (.it .i64 (numC a1 b1))) := zAB (s := (a1, b1)) (fun s s' h => by simp only [cI] at h; simp only [h]) trivial
noncomputable def zEb := mkF (fun s : Rec × Rec => [recE s.1, recE s.2]) (fun s => RSm s.1 ∧ RSm s.2) (fun s => Res.flat (.it .i64 (zAy s.1 s.2)))
theorem zEt {r1 : Rec} {r2 : Rec} (hp : RSm r1 ∧ RSm r2) : zEb [recE r1, recE r2] = some (Res.flat (.it .i64 (zAy r1 r2))) := zAB (s := (r1, r2)) (fun s s' h => by simp only [cI] at h; simp only [h]) hp
noncomputable def zG6 := mkF (fun s : Rec × Rec => [recE s.1, recE s.2]) (fun s => RSm s.1 ∧ RSm s.2) (fun s => Res.flat (.it .i64 (cmpR s.1 s.2)))
theorem zCE {r1 : Rec} {r2 : Rec} (hp : RSm r1 ∧ RSm r2) : zG6 [recE r1, recE r2] = some (Res.flat (.it .i64 (cmpR r1 r2))) := zAB (s := (r1, r2)) (fun s s' h => by simp only [cI] at h; simp only [h]) hp
def eqL (a b : List Rec) : Bool := decide (a = b)
noncomputable def FEq := mkF (fun s : (List Rec) × (List Rec) => [zAt s.1, zAt s.2]) (fun s => s.1.length ≤ 1000000 ∧ s.2.length ≤ 1000000) (fun s => Res.flat (.bo (eqL s.1 s.2)))
theorem zPT {a : List Rec} {b : List Rec} (hp : a.length ≤ 1000000 ∧ b.length ≤ 1000000) : FEq [zAt a, zAt b] = some (Res.flat (.bo (eqL a b))) := zAB (s := (a, b)) (fun s s' h => by simp only [cI] at h; simp only [h]) hp
theorem zJ6 {a b : List Rec} {i : Nat} (ha : (i : Int) < a.length) (hb : (i : Int) < b.length) : (a.drop i = b.drop i) = (a[i]! = b[i]! ∧ a.drop (i + 1) = b.drop (i + 1)) := by
 rw [drop_at (zs := a) ha, drop_at (zs := b) hb, List.cons.injEq]
def posR : List Rec → Rec → Nat
 | [], _ => 0
 | y :: r, x => if zAy y x < 0 then posR r x + 1 else 0
def insR (out : List Rec) (x : Rec) : List Rec := if (posR out x : Int) < out.length ∧ zAy out[posR out x]! x = 0 then (if x.ttl < (out[posR out x]!).ttl then out.set (posR out x) x else out) else out.take (posR out x) ++ x :: out.drop (posR out x)
def zA4 (l : List Rec) : List Rec := l.foldl insR []
theorem zVj {out : List Rec} {x y : Rec} (h : y ∈ insR out x) : y = x ∨ y ∈ out := by
 unfold insR at h
 split at h
 · split at h
   · rcases List.mem_or_eq_of_mem_set h with h | h
     · exact .inr h
     · exact .inl h
   · exact .inr h
 · rcases List.mem_append.1 h with h | h
   · exact .inr (List.mem_of_mem_take h)
   · rcases List.mem_cons.1 h with h | h
     · exact .inl h
     · exact .inr (List.mem_of_mem_drop h)
theorem zSi : ∀ (l out : List Rec) (y : Rec), y ∈ l.foldl insR out → y ∈ l ∨ y ∈ out
 | [], out, y, h => .inr h
 | x :: r, out, y, h => by
   rcases zSi r _ y h with h | h
   · exact .inl (by simp [h])
   · rcases zVj h with rfl | h
     · exact .inl (by simp)
     · exact .inr h
theorem zXN {l : List Rec} {y : Rec} (h : y ∈ zA4 l) : y ∈ l := by
 rcases zSi l [] y h with h | h
 · exact h
 · cases h
theorem yCn (out : List Rec) (x : Rec) : (insR out x).length ≤ out.length + 1 := by
 unfold insR
 split
 · split
   · rw [List.length_set]; omega
   · omega
 · simp only [List.length_append, List.length_cons, List.length_take, List.length_drop]; omega
theorem zSj : ∀ (l out : List Rec), (l.foldl insR out).length ≤ out.length + l.length
 | [], out => Nat.le_refl _
 | x :: r, out => by
   have h1 := zSj r (insR out x)
   have h2 := yCn out x
   show ((r.foldl insR (insR out x))).length ≤ _
   rw [List.length_cons]; omega
theorem zLz (l : List Rec) : (zA4 l).length ≤ l.length := by have := zSj l []; simpa [zA4] using this
theorem LSm.sort {l : List Rec} (h : LSm l) : LSm (zA4 l) := ⟨Nat.le_trans (zLz l) h.1, fun r hr => h.2 r (zXN hr)⟩
theorem LSm.take {l : List Rec} (h : LSm l) (i : Nat) : LSm (l.take i) := ⟨by have := h.1; rw [List.length_take]; omega, fun r hr => h.2 r (List.mem_of_mem_take hr)⟩
theorem zDf (z : Zone) : zEw (.box (zDo z)) := by intro x hx; simp [zDo] at hx; rcases hx with rfl | rfl <;> rfl
theorem zGi (r : Rec) : zEw (.box (recL r)) := by intro x hx; simp [recL] at hx; rcases hx with rfl | rfl | rfl | rfl | rfl | rfl | rfl | rfl | rfl | rfl | rfl | rfl | rfl | rfl | rfl | rfl <;> rfl
theorem zFm {α : Type} [Inhabited α] {l : List α} {p : α → Bool} {i : Nat} (h : (i : Int) < l.length) (hp : p l[i]! = false) : l.all p = false := by
 cases ha : l.all p with
 | false => rfl
 | true => rw [List.all_eq_true.1 ha _ (zBO h)] at hp; cases hp
def hasL (l : List Rec) (r : Rec) : Bool := l.any fun x => decide (x = r)
def alike (a b : Rec) : Bool := (a.name == b.name) && (decide (a.typ = b.typ) && decide (a.dat = b.dat))
def zAi (a b : List Rec) : List Rec := a.filter fun x => !hasL b x
theorem zDS {l : List Rec} {i : Nat} (h : i < l.length) : l[i]! ∈ l := by rw [getElem!_pos l i h]; exact List.getElem_mem h
theorem LSm.filter {l : List Rec} (h : LSm l) (p : Rec → Bool) : LSm (l.filter p) := ⟨Nat.le_trans (List.length_filter_le _ _) h.1, fun r hr => h.2 r (List.mem_filter.1 hr).1⟩
theorem LSm.app {a b : List Rec} (ha : LSm a) (hb : LSm b) (hn : a.length + b.length ≤ 1000000) : LSm (a ++ b) := ⟨by rw [List.length_append]; exact hn, fun r hr => by rcases List.mem_append.1 hr with h | h; exact ha.2 r h; exact hb.2 r h⟩
theorem zA3 (a b : List Rec) : (zAi a b).length ≤ a.length := List.length_filter_le _ _
def srt : List Rec → Bool
 | a :: b :: r => if 0 ≤ cmpR a b then false else if alike a b = true then false else srt (b :: r)
 | _ => true
def soaD (r : Rec) : Bool := decide (r.typ = 6)
def staX (o : List UInt8) (n : Int) (r : Rec) : Bool := if r.typ = 6 then (r.name == o) && decide (r.dat.a = n) else true
def zBy (l : List Rec) (o : List UInt8) (n : Int) : Bool := if l.all (staX o n) = false then false else decide (((l.filter soaD).length : Int) = 1)
def insX (o : List UInt8) (r : Rec) : Bool := if zBd r = false then false else underB r.name o
def zAV (l : List Rec) (o : List UInt8) : Bool := l.all (insX o)

noncomputable def FWo := mkF (fun s : (List Rec) × (List Rec) => [zAt s.1, zAt s.2]) (fun s => s.1.length ≤ 1000000 ∧ s.2.length ≤ 1000000) (fun s => Res.flat (zAt (zAi s.1 s.2)))
theorem zMf {a : List Rec} {b : List Rec} (hp : a.length ≤ 1000000 ∧ b.length ≤ 1000000) : FWo [zAt a, zAt b] = some (Res.flat (zAt (zAi a b))) := zAB (s := (a, b)) (fun s s' h => by simp only [cI] at h; simp only [h]) hp
def AllSm (l : List Rec) : Prop := ∀ r ∈ l, RSm r
theorem AllSm.at {l : List Rec} (h : AllSm l) {k : Nat} (hk : (k : Int) < l.length) : RSm l[k]! := h _ (zBO hk)
noncomputable def FSta := mkF (fun s : (List Rec) × (List UInt8) × Int => [zAt s.1, .st s.2.1, .it .i64 s.2.2]) (fun s => s.1.length ≤ 1000000) (fun s => Res.flat (.bo (zBy s.1 s.2.1 s.2.2)))
theorem zRb {a : List Rec} {s1 : List UInt8} {n1 : Int} (hp : a.length ≤ 1000000) : FSta [zAt a, .st s1, .it .i64 n1] = some (Res.flat (.bo (zBy a s1 n1))) := zAB (s := (a, s1, n1)) (fun s s' h => by simp only [cI] at h; simp only [h]) hp
noncomputable def FIns := mkF (fun s : (List Rec) × (List UInt8) => [zAt s.1, .st s.2]) (fun s => LSm s.1 ∧ Sm s.2) (fun s => Res.flat (.bo (zAV s.1 s.2)))
theorem zRh {a : List Rec} {s1 : List UInt8} (hp : LSm a ∧ Sm s1) : FIns [zAt a, .st s1] = some (Res.flat (.bo (zAV a s1))) := zAB (s := (a, s1)) (fun s s' h => by simp only [cI] at h; simp only [h]) hp
def zone0 : Zone := ⟨[], []⟩
theorem LSm.wo {a : List Rec} (h : LSm a) (b : List Rec) : LSm (zAi a b) := h.filter _
def sufB (s t : List UInt8) : Bool := decide (t.length ≤ s.length) && (s.drop (s.length - t.length) == t)
def preB (s t : List UInt8) : Bool := decide (t.length ≤ s.length) && (s.take t.length == t)
theorem yBe {s t : List UInt8} (h : (t.length : Int) ≤ s.length) : sufB s t = (s.drop (s.length - t.length) == t) := by rw [sufB, decide_eq_true (by omega), Bool.true_and]
theorem yEB {s t : List UInt8} (h : ¬ (t.length : Int) ≤ s.length) : sufB s t = false := by rw [sufB, decide_eq_false (by omega), Bool.false_and]
theorem yBJ {s t : List UInt8} (h : (t.length : Int) ≤ s.length) : preB s t = (s.take t.length == t) := by rw [preB, decide_eq_true (by omega), Bool.true_and]
theorem yFc {s t : List UInt8} (h : ¬ (t.length : Int) ≤ s.length) : preB s t = false := by rw [preB, decide_eq_false (by omega), Bool.false_and]
theorem yDH {P : Program} {H : Hp} {t : TypeId} {l : List UInt8} {k : IntKind} (hu : P.underlying t = some .string) {i : Nat} (h : i ≤ l.length) : zBm P H t (.st l) (some (.it k (i : Int))) none none = some (.st (l.drop i)) := by
 rw [zHZ hu (zSy h), List.take_length]
theorem zRA {P : Program} {H : Hp} {t : TypeId} {l : List UInt8} {k : IntKind} (hu : P.underlying t = some .string) {i : Nat} (h : i ≤ l.length) : zBm P H t (.st l) none (some (.it k (i : Int))) none = some (.st (l.take i)) := by
 rw [zHZ hu (yGC h), List.drop_zero]

noncomputable def FSuf := mkF (fun s : (List UInt8) × (List UInt8) => [.st s.1, .st s.2]) (fun s => Sm s.1 ∧ Sm s.2) (fun s => Res.flat (.bo (sufB s.1 s.2)))
theorem zUq {s1 : List UInt8} {s2 : List UInt8} (hp : Sm s1 ∧ Sm s2) : FSuf [.st s1, .st s2] = some (Res.flat (.bo (sufB s1 s2))) := zAB (s := (s1, s2)) (fun s s' h => by simp only [cI] at h; simp only [h]) hp
theorem zJo (cx : Cx) (hP : cx.P = Tryz.prog) (hbs : cx.bs = 0) (s1 s2 : List UInt8) (hl : Sm s1 ∧ Sm s2) : zAj cx Tryz.f112 [] false [.st s1, .st s2] = some (Res.flat (.bo (sufB s1 s2))) := by
 have h1 := hl.1; have h2 := hl.2
 have hw : (s2.length : Int) ≤ s1.length → IntKind.i64.wrap ((s1.length : Int) - s2.length) = ((s1.length - s2.length : Nat) : Int) := fun h => by simp only [Sm] at h1 h2; rw [wrap64 (by omega) (by omega)]; omega
 have hsl : (s2.length : Int) ≤ s1.length → ∀ (H : Hp) (k : IntKind), zBm Tryz.prog H 9 (.st s1) (some (.it k ((s1.length - s2.length : Nat) : Int))) none none = some (.st (s1.drop (s1.length - s2.length))) := fun h H k => yDH Tryz.underlying9 (by omega)
 refine zAg (rs := [.tmp 4]) rfl hbs rfl ?_
 repeat' first
   | (refine zAR (fun h => ?_) (fun h => ?_) <;> (try simp only [cN] at h))
   | (refine zAN ?_ ?_)
   | simp only [↓cD, cU, cQ, cP, cB, zAJ, unD, zAf, zAd, idx, reduceCtorEq, ↓reduceIte, ofV, ofC, zAq, Nat.reduceEqDiff, zAG, cG, implies_true, forall_const, immL, immD, Res.flat, ren, renL, Int.reduceEq, Int.reduceLT, Int.reduceLE, Int.reduceNe, deref, ldD, zAF, zAk, zAI, zAs, cC, ↓zAM, ↓zAQ, ↓zAL, ↓zAP, ↓zAK, ↓zAO, cV, cT, cF, cW, borT, borM, zAm, Res.via, zAu, zAb, refsB, Nat.reduceLT, Nat.reduceSub, Nat.reduceLeDiff, Nat.reduceMul, Nat.reduceAdd, Int.reduceToNat, appK, zAr, zAc, borL, zAl, zAn, zAE, cO, List.replicate, zAC, ofHp, ixOf, lens Tryz.underlying9, hw, hsl, hP, *]
 all_goals first
   | rfl
   | (rw [yBe (by omega)]; done)
   | (rw [yEB (by omega)]; done)
theorem zMZ (cx : Cx) (hP : cx.P = Tryz.prog) (hbs : cx.bs = 0) (h112 : cx.orc 112 = some FSuf) (s1 s2 : List UInt8) (hl : Sm s1 ∧ Sm s2) : zAj cx Tryz.f82 [] false [.st s1, .st s2] = some (Res.flat (.bo (sufB s1 s2))) := by
 have c112 := zAa h112
 have hl1 := hl.1; have hl2 := hl.2
 refine zAg (rs := [.tmp 4]) rfl hbs rfl ?_
 repeat' first
   | (refine zAR (fun h => ?_) (fun h => ?_) <;> (try simp only [cN] at h))
   | (refine zAN ?_ ?_)
   | simp only [↓cD, cU, cQ, cP, cB, zAJ, unD, zAf, zAd, idx, reduceCtorEq, ↓reduceIte, ofV, ofC, zAq, Nat.reduceEqDiff, zAG, cG, implies_true, forall_const, immL, immD, Res.flat, ren, renL, Int.reduceEq, Int.reduceLT, Int.reduceLE, Int.reduceNe, deref, ldD, zAF, zAk, zAI, zAs, cC, c112, zAo, zAp, zUq, ↓zAM, ↓zAQ, ↓zAL, ↓zAP, ↓zAK, ↓zAO, cV, cT, cF, cW, borT, borM, zAm, Res.via, zAu, zAb, refsB, Nat.reduceLT, Nat.reduceSub, Nat.reduceLeDiff, Nat.reduceMul, Nat.reduceAdd, Int.reduceToNat, appK, zAr, zAc, borL, zAl, zAn, zAE, cO, List.replicate, zAC, ofHp, ixOf, hl1, hl2, hP, *]
 all_goals first
   | rfl
noncomputable def FPre := mkF (fun s : (List UInt8) × (List UInt8) => [.st s.1, .st s.2]) (fun s => Sm s.1 ∧ Sm s.2) (fun s => Res.flat (.bo (preB s.1 s.2)))
theorem yAI {s1 : List UInt8} {s2 : List UInt8} (hp : Sm s1 ∧ Sm s2) : FPre [.st s1, .st s2] = some (Res.flat (.bo (preB s1 s2))) := zAB (s := (s1, s2)) (fun s s' h => by simp only [cI] at h; simp only [h]) hp
theorem zJv (cx : Cx) (hP : cx.P = Tryz.prog) (hbs : cx.bs = 0) (s1 s2 : List UInt8) (hl : Sm s1 ∧ Sm s2) : zAj cx Tryz.f181 [] false [.st s1, .st s2] = some (Res.flat (.bo (preB s1 s2))) := by
 have hw : True := trivial
 have hsl : (s2.length : Int) ≤ s1.length → ∀ (H : Hp) (k : IntKind), zBm Tryz.prog H 9 (.st s1) none (some (.it k (s2.length : Int))) none = some (.st (s1.take s2.length)) := fun h H k => zRA Tryz.underlying9 (by omega)
 refine zAg (rs := [.tmp 4]) rfl hbs rfl ?_
 repeat' first
   | (refine zAR (fun h => ?_) (fun h => ?_) <;> (try simp only [cN] at h))
   | (refine zAN ?_ ?_)
   | simp only [↓cD, cU, cQ, cP, cB, zAJ, unD, zAf, zAd, idx, reduceCtorEq, ↓reduceIte, ofV, ofC, zAq, Nat.reduceEqDiff, zAG, cG, implies_true, forall_const, immL, immD, Res.flat, ren, renL, Int.reduceEq, Int.reduceLT, Int.reduceLE, Int.reduceNe, deref, ldD, zAF, zAk, zAI, zAs, cC, ↓zAM, ↓zAQ, ↓zAL, ↓zAP, ↓zAK, ↓zAO, cV, cT, cF, cW, borT, borM, zAm, Res.via, zAu, zAb, refsB, Nat.reduceLT, Nat.reduceSub, Nat.reduceLeDiff, Nat.reduceMul, Nat.reduceAdd, Int.reduceToNat, appK, zAr, zAc, borL, zAl, zAn, zAE, cO, List.replicate, zAC, ofHp, ixOf, lens Tryz.underlying9, hw, hsl, hP, *]
 all_goals first
   | rfl
   | (rw [yBJ (by omega)]; done)
   | (rw [yFc (by omega)]; done)
theorem zM6 (cx : Cx) (hP : cx.P = Tryz.prog) (hbs : cx.bs = 0) (h181 : cx.orc 181 = some FPre) (s1 s2 : List UInt8) (hl : Sm s1 ∧ Sm s2) : zAj cx Tryz.f161 [] false [.st s1, .st s2] = some (Res.flat (.bo (preB s1 s2))) := by
 have c181 := zAa h181
 have hl1 := hl.1; have hl2 := hl.2
 refine zAg (rs := [.tmp 4]) rfl hbs rfl ?_
 repeat' first
   | (refine zAR (fun h => ?_) (fun h => ?_) <;> (try simp only [cN] at h))
   | (refine zAN ?_ ?_)
   | simp only [↓cD, cU, cQ, cP, cB, zAJ, unD, zAf, zAd, idx, reduceCtorEq, ↓reduceIte, ofV, ofC, zAq, Nat.reduceEqDiff, zAG, cG, implies_true, forall_const, immL, immD, Res.flat, ren, renL, Int.reduceEq, Int.reduceLT, Int.reduceLE, Int.reduceNe, deref, ldD, zAF, zAk, zAI, zAs, cC, c181, zAo, zAp, yAI, ↓zAM, ↓zAQ, ↓zAL, ↓zAP, ↓zAK, ↓zAO, cV, cT, cF, cW, borT, borM, zAm, Res.via, zAu, zAb, refsB, Nat.reduceLT, Nat.reduceSub, Nat.reduceLeDiff, Nat.reduceMul, Nat.reduceAdd, Int.reduceToNat, appK, zAr, zAc, borL, zAl, zAn, zAE, cO, List.replicate, zAC, ofHp, ixOf, hl1, hl2, hP, *]
 all_goals first
   | rfl
theorem zSt : ∀ a b : List UInt8, Lib.compareBytes a b = zBj a b
 | [], [] => rfl
 | [], _ :: _ => rfl
 | _ :: _, [] => rfl
 | a :: xs, b :: ys => by
   have ih := zSt xs ys
   unfold Lib.compareBytes
   rw [ih]
   simp only [zBj, Op.bytesLess]
   by_cases h : a < b
   · simp [h]
   · by_cases h2 : b < a
     · have hne : ¬ a = b := fun e => by subst e; exact h h2
       simp [h, h2, hne]
     · have he : a = b := by
         have := UInt8.le_antisymm (UInt8.not_lt.1 h2) (UInt8.not_lt.1 h)
         exact this
       subst he
       simp [h]

noncomputable def zEJ := mkF (fun s : (List UInt8) × (List UInt8) => [.st s.1, .st s.2]) (fun s => True) (fun s => Res.flat (.it .i64 (zBj s.1 s.2)))
theorem zOU {s1 : List UInt8} {s2 : List UInt8} : zEJ [.st s1, .st s2] = some (Res.flat (.it .i64 (zBj s1 s2))) := zAB (s := (s1, s2)) (fun s s' h => by simp only [cI] at h; simp only [h]) trivial
theorem zFW (cx : Cx) (hP : cx.P = Tryz.prog) (hbs : cx.bs = 0) (xn201 : cx.orc 201 = none) (x201 : cx.ext 201 = some zNs) (s1 s2 : List UInt8)  : zAj cx Tryz.f183 [] false [.st s1, .st s2] = some (Res.flat (.it .i64 (zBj s1 s2))) := by
 have ce201 := fun H nid l (hi : immL l = true) => (show zDD cx 201 l H nid = _ from zQ1 xn201 x201 hi)
 refine zAg (rs := [.tmp 4]) rfl hbs rfl ?_
 repeat' first
   | (refine zAR (fun h => ?_) (fun h => ?_) <;> (try simp only [cN] at h))
   | (refine zAN ?_ ?_)
   | simp only [↓cD, cU, cQ, cP, cB, zAJ, unD, zAf, zAd, idx, reduceCtorEq, ↓reduceIte, ofV, ofC, zAq, Nat.reduceEqDiff, zAG, cG, implies_true, forall_const, immL, immD, Res.flat, ren, renL, Int.reduceEq, Int.reduceLT, Int.reduceLE, Int.reduceNe, deref, ldD, zAF, zAk, zAI, zAs, cC, ce201, yKG, ↓zAM, ↓zAQ, ↓zAL, ↓zAP, ↓zAK, ↓zAO, cV, cT, cF, cW, borT, borM, zAm, Res.via, zAu, zAb, refsB, Nat.reduceLT, Nat.reduceSub, Nat.reduceLeDiff, Nat.reduceMul, Nat.reduceAdd, Int.reduceToNat, appK, zAr, zAc, borL, zAl, zAn, zAE, cO, List.replicate, zAC, ofHp, ixOf, zSt, hP, *]
 all_goals first
   | rfl
theorem zFO (cx : Cx) (hP : cx.P = Tryz.prog) (hbs : cx.bs = 0) (h183 : cx.orc 183 = some zEJ) (s1 s2 : List UInt8)  : zAj cx Tryz.f163 [] false [.st s1, .st s2] = some (Res.flat (.it .i64 (zBj s1 s2))) := by
 have c183 := zAa h183
 refine zAg (rs := [.tmp 4]) rfl hbs rfl ?_
 repeat' first
   | (refine zAR (fun h => ?_) (fun h => ?_) <;> (try simp only [cN] at h))
   | (refine zAN ?_ ?_)
   | simp only [↓cD, cU, cQ, cP, cB, zAJ, unD, zAf, zAd, idx, reduceCtorEq, ↓reduceIte, ofV, ofC, zAq, Nat.reduceEqDiff, zAG, cG, implies_true, forall_const, immL, immD, Res.flat, ren, renL, Int.reduceEq, Int.reduceLT, Int.reduceLE, Int.reduceNe, deref, ldD, zAF, zAk, zAI, zAs, cC, c183, zAo, zAp, zOU, ↓zAM, ↓zAQ, ↓zAL, ↓zAP, ↓zAK, ↓zAO, cV, cT, cF, cW, borT, borM, zAm, Res.via, zAu, zAb, refsB, Nat.reduceLT, Nat.reduceSub, Nat.reduceLeDiff, Nat.reduceMul, Nat.reduceAdd, Int.reduceToNat, appK, zAr, zAc, borL, zAl, zAn, zAE, cO, List.replicate, zAC, ofHp, ixOf, hP, *]
 all_goals first
   | rfl
def cntB (l : List UInt8) (c : UInt8) : Int := ((Lib.countByte l c : Nat) : Int)
def ixB (l : List UInt8) (c : UInt8) : Int := Lib.indexByte l c
theorem zXu (c : UInt8) : c.toNat.toUInt8 = c := by simp
theorem zOn : ((1 : Nat) : Int) = 1 := rfl
theorem zQx (x c : UInt8) (r : List UInt8) : ixB (x :: r) c = if x = c then 0 else if ixB r c = -1 then -1 else ixB r c + 1 := by
 by_cases h : x = c <;> by_cases h2 : Lib.indexByte r c = -1 <;> simp [ixB, Lib.indexByte, h, h2]

noncomputable def FCnt := mkF (fun s : (List UInt8) × UInt8 => [.st s.1, .st [s.2]]) (fun s => True) (fun s => Res.flat (.it .i64 (cntB s.1 s.2)))
theorem yHb {s1 : List UInt8} {c1 : UInt8} : FCnt [.st s1, .st [c1]] = some (Res.flat (.it .i64 (cntB s1 c1))) := zAB (s := (s1, c1)) (fun s s' h => by simp only [cI] at h; simp only [h]) trivial
theorem zNi (cx : Cx) (hP : cx.P = Tryz.prog) (hbs : cx.bs = 0) (xn176 : cx.orc 176 = none) (x176 : cx.ext 176 = some zI5) (hk6 : cx.kp 6 = some [0, 1, 5]) (s1 : List UInt8) (c1 : UInt8)  : zAj cx Tryz.f150 [] false [.st s1, .st [c1]] = some (Res.flat (.it .i64 (cntB s1 c1))) := by
 have ce176 := fun H nid l (hi : immL l = true) => (show zDD cx 176 l H nid = _ from zQ1 xn176 x176 hi)
 have hx : zGd Tryz.prog 9 (.st [c1]) (.it .i64 0) = some (.it .u8 (c1.toNat : Int)) := ixs (i := 0) Tryz.underlying9 (by simp)
 refine zAg (rs := [.tmp 4]) rfl hbs rfl ?_
 repeat' first
   | (refine zAR (fun h => ?_) (fun h => ?_) <;> (try simp only [cN] at h))
   | (refine zAN ?_ ?_)
   | simp only [↓cD, cU, cQ, cP, cB, zAJ, unD, zAf, zAd, idx, reduceCtorEq, ↓reduceIte, ofV, ofC, zAq, Nat.reduceEqDiff, zAG, cG, implies_true, forall_const, immL, immD, Res.flat, ren, renL, Int.reduceEq, Int.reduceLT, Int.reduceLE, Int.reduceNe, deref, ldD, zAF, zAk, zAI, zAs, cC, ce176, yIT, ↓zAM, ↓zAQ, ↓zAL, ↓zAP, ↓zAK, ↓zAO, cV, cT, cF, cW, borT, borM, zAm, Res.via, zAu, zAb, refsB, Nat.reduceLT, Nat.reduceSub, Nat.reduceLeDiff, Nat.reduceMul, Nat.reduceAdd, Int.reduceToNat, appK, zAr, zAc, borL, zAl, zAn, zAE, cO, List.replicate, zAC, ofHp, ixOf, lens Tryz.underlying9, hx, zXu, zOn, hP, *]
 all_goals first
   | rfl
noncomputable def zPn := mkF (fun s : (List UInt8) × UInt8 => [.st s.1, .it .u8 (s.2.toNat : Int)]) (fun s => True) (fun s => Res.flat (.it .i64 (ixB s.1 s.2)))
theorem yDm {s1 : List UInt8} {c1 : UInt8} : zPn [.st s1, .it .u8 (c1.toNat : Int)] = some (Res.flat (.it .i64 (ixB s1 c1))) := zAB (s := (s1, c1)) (fun s s' h => by simp only [cI, yJ4] at h; simp only [h]) trivial
theorem zJF (cx : Cx) (hP : cx.P = Tryz.prog) (hbs : cx.bs = 0) (xn205 : cx.orc 205 = none) (x205 : cx.ext 205 = some FIxB) (s1 : List UInt8) (c1 : UInt8)  : zAj cx Tryz.f195 [] false [.st s1, .it .u8 (c1.toNat : Int)] = some (Res.flat (.it .i64 (ixB s1 c1))) := by
 have ce205 := fun H nid l (hi : immL l = true) => (show zDD cx 205 l H nid = _ from zQ1 xn205 x205 hi)
 refine zAg (rs := [.tmp 4]) rfl hbs rfl ?_
 repeat' first
   | (refine zAR (fun h => ?_) (fun h => ?_) <;> (try simp only [cN] at h))
   | (refine zAN ?_ ?_)
   | simp only [↓cD, cU, cQ, cP, cB, zAJ, unD, zAf, zAd, idx, reduceCtorEq, ↓reduceIte, ofV, ofC, zAq, Nat.reduceEqDiff, zAG, cG, implies_true, forall_const, immL, immD, Res.flat, ren, renL, Int.reduceEq, Int.reduceLT, Int.reduceLE, Int.reduceNe, deref, ldD, zAF, zAk, zAI, zAs, cC, ce205, fixb, ↓zAM, ↓zAQ, ↓zAL, ↓zAP, ↓zAK, ↓zAO, cV, cT, cF, cW, borT, borM, zAm, Res.via, zAu, zAb, refsB, Nat.reduceLT, Nat.reduceSub, Nat.reduceLeDiff, Nat.reduceMul, Nat.reduceAdd, Int.reduceToNat, appK, zAr, zAc, borL, zAl, zAn, zAE, cO, List.replicate, zAC, ofHp, ixOf, zXu, hP, *]
 all_goals first
   | rfl
noncomputable def FIdx := mkF (fun s : (List UInt8) × UInt8 => [.st s.1, .st [s.2]]) (fun s => True) (fun s => Res.flat (.it .i64 (ixB s.1 s.2)))
theorem yAP {s1 : List UInt8} {c1 : UInt8} : FIdx [.st s1, .st [c1]] = some (Res.flat (.it .i64 (ixB s1 c1))) := zAB (s := (s1, c1)) (fun s s' h => by simp only [cI] at h; simp only [h]) trivial
theorem zJH (cx : Cx) (hP : cx.P = Tryz.prog) (hbs : cx.bs = 0) (h195 : cx.orc 195 = some zPn) (hk15 : cx.kp 15 = some [0, 1, 5, 6, 7, 8, 9, 10]) (s1 : List UInt8) (c1 : UInt8)  : zAj cx Tryz.f177 [] false [.st s1, .st [c1]] = some (Res.flat (.it .i64 (ixB s1 c1))) := by
 have c195 := zAa h195
 have hx : zGd Tryz.prog 9 (.st [c1]) (.it .i64 0) = some (.it .u8 (c1.toNat : Int)) := ixs (i := 0) Tryz.underlying9 (by simp)
 refine zAg (rs := [.tmp 4]) rfl hbs rfl ?_
 repeat' first
   | (refine zAR (fun h => ?_) (fun h => ?_) <;> (try simp only [cN] at h))
   | (refine zAN ?_ ?_)
   | simp only [↓cD, cU, cQ, cP, cB, zAJ, unD, zAf, zAd, idx, reduceCtorEq, ↓reduceIte, ofV, ofC, zAq, Nat.reduceEqDiff, zAG, cG, implies_true, forall_const, immL, immD, Res.flat, ren, renL, Int.reduceEq, Int.reduceLT, Int.reduceLE, Int.reduceNe, deref, ldD, zAF, zAk, zAI, zAs, cC, c195, zAo, zAp, yDm, ↓zAM, ↓zAQ, ↓zAL, ↓zAP, ↓zAK, ↓zAO, cV, cT, cF, cW, borT, borM, zAm, Res.via, zAu, zAb, refsB, Nat.reduceLT, Nat.reduceSub, Nat.reduceLeDiff, Nat.reduceMul, Nat.reduceAdd, Int.reduceToNat, appK, zAr, zAc, borL, zAl, zAn, zAE, cO, List.replicate, zAC, ofHp, ixOf, lens Tryz.underlying9, hx, zOn, hP, *]
 all_goals first
   | rfl
   | (have e : [c1] = s1 := (by simpa using ‹([c1] == s1) = true›); rw [← e, zQx, if_pos rfl]; done)
theorem zNb (cx : Cx) (hP : cx.P = Tryz.prog) (hbs : cx.bs = 0) (h177 : cx.orc 177 = some FIdx) (s1 : List UInt8) (c1 : UInt8)  : zAj cx Tryz.f151 [] false [.st s1, .st [c1]] = some (Res.flat (.it .i64 (ixB s1 c1))) := by
 have c177 := zAa h177
 refine zAg (rs := [.tmp 4]) rfl hbs rfl ?_
 repeat' first
   | (refine zAR (fun h => ?_) (fun h => ?_) <;> (try simp only [cN] at h))
   | (refine zAN ?_ ?_)
   | simp only [↓cD, cU, cQ, cP, cB, zAJ, unD, zAf, zAd, idx, reduceCtorEq, ↓reduceIte, ofV, ofC, zAq, Nat.reduceEqDiff, zAG, cG, implies_true, forall_const, immL, immD, Res.flat, ren, renL, Int.reduceEq, Int.reduceLT, Int.reduceLE, Int.reduceNe, deref, ldD, zAF, zAk, zAI, zAs, cC, c177, zAo, zAp, yAP, ↓zAM, ↓zAQ, ↓zAL, ↓zAP, ↓zAK, ↓zAO, cV, cT, cF, cW, borT, borM, zAm, Res.via, zAu, zAb, refsB, Nat.reduceLT, Nat.reduceSub, Nat.reduceLeDiff, Nat.reduceMul, Nat.reduceAdd, Int.reduceToNat, appK, zAr, zAc, borL, zAl, zAn, zAE, cO, List.replicate, zAC, ofHp, ixOf, hP, *]
 all_goals first
   | rfl
def splC (c : UInt8) : List UInt8 → List (List UInt8)
 | [] => [[]]
 | x :: r => if x = c then [] :: splC c r else match splC c r with | [] => [[x]] | h :: t => (x :: h) :: t
theorem zMq (c : UInt8) : ∀ l, splC c l ≠ []
 | [] => by simp [splC]
 | x :: r => by
   unfold splC
   split
   · simp
   · split <;> simp
theorem yD3 (l : List UInt8) (c : UInt8) : -1 ≤ ixB l c := Lib.indexByte_ge l c
theorem zOJ (x c : UInt8) (r : List UInt8) : cntB (x :: r) c = if x = c then cntB r c + 1 else cntB r c := by
 by_cases h : x = c <;> simp [cntB, Lib.countByte, List.count_cons, h]
theorem zOI (l : List UInt8) (c : UInt8) : 0 ≤ cntB l c := by simp [cntB]
theorem yGu (l : List UInt8) (c : UInt8) : cntB l c ≤ l.length := by
 have : Lib.countByte l c ≤ l.length := List.count_le_length
 simp only [cntB]; omega
theorem zXM {c : UInt8} : ∀ {l : List UInt8}, ixB l c < 0 → splC c l = [l] ∧ cntB l c = 0
 | [], _ => ⟨rfl, rfl⟩
 | x :: r, h => by
   rw [zQx] at h
   have hg := yD3 r c
   by_cases hx : x = c
   · rw [if_pos hx] at h; omega
   · rw [if_neg hx] at h
     have h2 : ixB r c < 0 := by split at h <;> omega
     obtain ⟨i1, i2⟩ := zXM h2
     exact ⟨by unfold splC; rw [if_neg hx, i1], by rw [zOJ, if_neg hx, i2]⟩
theorem zN6 {c : UInt8} : ∀ {l : List UInt8}, 0 ≤ ixB l c → (ixB l c).toNat < l.length ∧ splC c l = l.take (ixB l c).toNat :: splC c (l.drop ((ixB l c).toNat + 1)) ∧ cntB l c = cntB (l.drop ((ixB l c).toNat + 1)) c + 1
 | [], h => by simp [ixB, Lib.indexByte] at h
 | x :: r, h => by
   have hg := yD3 r c
   rw [zQx] at h ⊢
   by_cases hx : x = c
   · rw [if_pos hx]
     refine ⟨by simp, ?_, ?_⟩
     · conv => lhs; unfold splC
       rw [if_pos hx]; simp
     · rw [zOJ, if_pos hx]; simp
   · rw [if_neg hx] at h ⊢
     have h2 : ¬ ixB r c = -1 := by intro e; rw [if_pos e] at h; omega
     rw [if_neg h2] at h ⊢
     obtain ⟨i1, i2, i3⟩ := zN6 (l := r) (c := c) (by omega)
     have e : (ixB r c + 1).toNat = (ixB r c).toNat + 1 := by omega
     rw [e]
     refine ⟨by simp; omega, ?_, ?_⟩
     · conv => lhs; unfold splC
       rw [if_neg hx, i2]; simp
     · rw [zOJ, if_neg hx, i3]; simp
theorem yDa {l : List UInt8} {cs : List D} : again (.st l) cs = cs.headD .un := rfl
theorem yBw {α : Type} {E : α → D} {done : List α} {x : α} {n : Nat} {z : D} (h : done.length < n) : (done.map E ++ List.replicate (n - done.length) z).set done.length (E x) = (done ++ [x]).map E ++ List.replicate (n - (done ++ [x]).length) z := by
 obtain ⟨k, hk⟩ : ∃ k, n - done.length = k + 1 := ⟨n - done.length - 1, by omega⟩
 rw [hk, List.replicate_succ, List.set_append_right _ _ (by simp)]
 have : n - (done ++ [x]).length = k := by simp; omega
 rw [this]; simp

theorem yKt : ∀ (H : Hp) (nid : Nat) (n : Nat), zG9 Tryz.prog 79 H nid (.it .i64 (n : Int)) (.it .i64 (n : Int)) = if ((16 : Nat) : Int) * (n : Int) ≤ 281474976710656 then some (.own nid 0 n, upd H nid (.row 1 true (List.replicate n (.st []))), nid + 1) else none := fun _ _ _ => yDP el79 ze79 (by kernel_rfl) (by decide)
noncomputable def FGen := mkF (fun s : (List UInt8) × UInt8 => [.st s.1, .st [s.2], .it .i64 0, .it .i64 (-1)]) (fun s => s.1.length ≤ 1000000) (fun s => Res.row 1 ((splC s.2 s.1).map D.st))
theorem yG7 {s1 : List UInt8} {c1 : UInt8} (hp : s1.length ≤ 1000000) : FGen [.st s1, .st [c1], .it .i64 0, .it .i64 (-1)] = some (Res.row 1 ((splC c1 s1).map D.st)) := zAB (s := (s1, c1)) (fun s s' h => by simp only [cI] at h; simp only [h]) hp
theorem zNc (cx : Cx) (hP : cx.P = Tryz.prog) (hbs : cx.bs = 0) (h150 : cx.orc 150 = some FCnt) (h151 : cx.orc 151 = some FIdx) (hk11 : cx.kp 11 = some [0, 1, 2, 3, 9, 10]) (s1 : List UInt8) (c1 : UInt8) (hl : s1.length ≤ 1000000) : zAj cx Tryz.f113 [0] false [.st s1, .st [c1], .it .i64 0, .it .i64 (-1)] = some (Res.row 1 ((splC c1 s1).map D.st)) := by
 have c150 := zAa h150
 have c151 := zAa h151
 have hg := zOI s1 c1; have hle := yGu s1 c1
 have hw1 : IntKind.i64.wrap (cntB s1 c1 + 1) = (((cntB s1 c1).toNat + 1 : Nat) : Int) := by rw [wrap64 (by omega) (by omega)]; omega
 have hw2 : IntKind.i64.wrap ((s1.length : Int) + 1) = (s1.length : Int) + 1 := by rw [wrap64 (by omega) (by omega)]
 have hm : ((s1.length : Int) + 1 < (((cntB s1 c1).toNat + 1 : Nat) : Int)) = False := by simp only [eq_iff_iff, iff_false]; omega
 have hc2 : ([c1] == ([] : List UInt8)) = false := rfl
 have hw3 : IntKind.i64.wrap ((((cntB s1 c1).toNat + 1 : Nat) : Int) - 1) = ((cntB s1 c1).toNat : Int) := by rw [wrap64 (by omega) (by omega)]; omega
 have hc1 : ((1 : Nat) : Int) = 1 := rfl
 have hb1 : ∀ k n : Nat, k < n → ((k : Int) < (n : Int)) = True := fun k n h => by simp only [eq_iff_iff, iff_true]; omega
 have hat : ∀ (l : List (List UInt8)) (n : Nat), l.length < n → (l.map D.st ++ List.replicate (n - l.length) (.st []))[l.length]? = some (.st []) := fun l n h => by rw [List.getElem?_append_right (by simp), List.length_map, Nat.sub_self, List.getElem?_replicate, if_pos (by omega)]
 have hw6 : ∀ k : Nat, k < (cntB s1 c1).toNat + 1 → IntKind.i64.wrap ((k : Int) + 1) = ((k + 1 : Nat) : Int) := fun k h => by rw [wrap64 (by omega) (by omega)]; omega
 have hw4 : ∀ l : List UInt8, l.length ≤ s1.length → ¬ ixB l c1 < 0 → IntKind.i64.wrap (ixB l c1 + 0) = ixB l c1 := fun l h1 h3 => by have h2 : 0 ≤ ixB l c1 := (by omega); have := (zN6 h2).1; rw [wrap64 (by omega) (by omega)]; omega
 have hw5 : ∀ l : List UInt8, l.length ≤ s1.length → ¬ ixB l c1 < 0 → IntKind.i64.wrap (ixB l c1 + 1) = ixB l c1 + 1 := fun l h1 h3 => by have h2 : 0 ≤ ixB l c1 := (by omega); have := (zN6 h2).1; rw [wrap64 (by omega) (by omega)]
 have hsl1 : ∀ l : List UInt8, ¬ ixB l c1 < 0 → ∀ (H : Hp) (k : IntKind), zBm Tryz.prog H 9 (.st l) none (some (.it k (ixB l c1))) none = some (.st (l.take (ixB l c1).toNat)) := fun l h3 H k => by have h : 0 ≤ ixB l c1 := (by omega); have h2 := (zN6 h).1; obtain ⟨j, hj⟩ := Int.eq_ofNat_of_zero_le h; rw [hj] at h2 ⊢; exact zRA Tryz.underlying9 (by simp at h2; omega)
 have hsl2 : ∀ l : List UInt8, ¬ ixB l c1 < 0 → ∀ (H : Hp) (k : IntKind), zBm Tryz.prog H 9 (.st l) (some (.it k (ixB l c1 + 1))) none none = some (.st (l.drop ((ixB l c1).toNat + 1))) := fun l h3 H k => by have h : 0 ≤ ixB l c1 := (by omega); have h2 := (zN6 h).1; obtain ⟨j, hj⟩ := Int.eq_ofNat_of_zero_le h; rw [hj] at h2 ⊢; exact yDH (i := j + 1) Tryz.underlying9 (by simp at h2; omega)
 refine zDv (rs := [.tmp 8]) rfl hbs rfl ?_
 repeat' first
   | (refine zAw (σ := List (List UInt8) × List UInt8) (fun s => [.st s.2, .st [c1], .it .i64 0, .it .i64 ((cntB s1 c1).toNat : Int), .own 0 0 ((cntB s1 c1).toNat + 1), .it .i64 (s.1.length : Int)]) (fun s => [.row 1 true (s.1.map D.st ++ List.replicate ((cntB s1 c1).toNat + 1 - s.1.length) (.st []))]) (fun s => s.1.length < (cntB s1 c1).toNat + 1 ∧ (s.1.length : Int) + cntB s.2 c1 = cntB s1 c1 ∧ s.1 ++ splC c1 s.2 = splC c1 s1 ∧ s.2.length ≤ s1.length) (fun s => s.2.length) [0, 1, 2, 3, 9, 10] hbs (by exact hk11) (fun q jq b hb => by simp only [List.mem_singleton] at hb; subst hb; (intro x hx; simp only [List.mem_append, List.mem_map, List.mem_replicate] at hx; rcases hx with ⟨a, _, rfl⟩ | ⟨_, rfl⟩ <;> rfl)) (fun s js => ?_) (s := ([], s1)) [1] ?_ ?_ ?_ ?_ ?_)
   | (refine zAR (fun h => ?_) (fun h => ?_) <;> (try simp only [cN] at h))
   | (refine zAN ?_ ?_)
   | simp only [↓cD, cU, cQ, cP, cB, zAJ, unD, zAf, zAd, idx, reduceCtorEq, ↓reduceIte, ofV, ofC, zAq, Nat.reduceEqDiff, zAG, cG, implies_true, forall_const, immL, immD, Res.flat, ren, renL, Int.reduceEq, Int.reduceLT, Int.reduceLE, Int.reduceNe, deref, ldD, zAF, zAk, zAI, zAs, cC, c150, c151, zAo, zAp, yHb, yAP, ↓zAM, ↓zAQ, ↓zAL, ↓zAP, ↓zAK, ↓zAO, cV, cT, cF, cW, borT, borM, zAm, Res.via, zAu, zAb, refsB, Nat.reduceLT, Nat.reduceSub, Nat.reduceLeDiff, Nat.reduceMul, Nat.reduceAdd, Int.reduceToNat, appK, zAr, zAc, borL, zAl, zAn, zAE, cO, List.replicate, zAC, ofHp, ixOf, lens Tryz.underlying9, hw1, hw2, hw3, hw4, hw5, hw6, hm, hc1, hsl1, hsl2, hb1, hc2, hat, yKt, yBw, yDa, List.headD_cons, hP, *]
 all_goals first
   | rfl
   | omega
   | (exfalso; have h2 := (zXM ‹ixB _ _ < 0›).2; have h3 := js.2.1; omega)
   | (have h2 := zN6 (l := s.2) (c := c1) (by omega); have h3 := js.2.1; refine ⟨[0], (s.1 ++ [s.2.take (ixB s.2 c1).toNat], s.2.drop ((ixB s.2 c1).toNat + 1)), ?_, ?_, ?_, ?_, ⟨by have h4 := zOI (s.2.drop ((ixB s.2 c1).toNat + 1)) c1; simp only [List.length_append, List.length_cons, List.length_nil]; omega, by simp only [List.length_append, List.length_cons, List.length_nil]; omega, by rw [← js.2.2.1, h2.2.1, List.append_assoc]; rfl, by have h5 := js.2.2.2; simp only [List.length_drop]; omega⟩, by simp only [List.length_drop]; omega⟩ <;> (try simp only [List.length_append, List.length_cons, List.length_nil, Nat.zero_add]) <;> (first | rfl | (simp only [zAv, refs, cR, cQ, ren, List.nil_append, List.cons_append, Nat.reduceEqDiff, ofHp, ixOf]; first | rfl | (simp; done))))
   | (refine ⟨?_, ?_, ?_⟩ <;> first | omega | rfl | (have h4 := zOI s1 c1; omega))
   | (have h3 := js.2.1; have h4 := zOI s.2 c1; have h6 : ixB s.2 c1 < 0 := (by apply Classical.byContradiction; intro hh; have h7 := (zN6 (l := s.2) (c := c1) (by omega)).2.2; have h8 := zOI (s.2.drop ((ixB s.2 c1).toNat + 1)) c1; omega)
      have h5 := (zXM h6).1
      have e : splC c1 s1 = s.1 ++ [s.2] := (by rw [← js.2.2.1, h5])
      have e2 : (cntB s1 c1).toNat + 1 - (s.1.length + 1) = 0 := (by omega)
      rw [e, e2, List.replicate_zero, List.append_nil]
      exact ⟨_, _, _, _, rfl, rfl, by simp, zBP (fun _ => rfl), rfl⟩)
   | (first | rfl | (simp only [zAv, refs, cR, cQ, ren, List.nil_append, List.cons_append, Nat.reduceEqDiff, ofHp, ixOf]; first | rfl | (simp; done)))
noncomputable def FSpl := mkF (fun s : (List UInt8) × UInt8 => [.st s.1, .st [s.2]]) (fun s => s.1.length ≤ 1000000) (fun s => Res.row 1 ((splC s.2 s.1).map D.st))
theorem yAE {s1 : List UInt8} {c1 : UInt8} (hp : s1.length ≤ 1000000) : FSpl [.st s1, .st [c1]] = some (Res.row 1 ((splC c1 s1).map D.st)) := zAB (s := (s1, c1)) (fun s s' h => by simp only [cI] at h; simp only [h]) hp
theorem zM0 (cx : Cx) (hP : cx.P = Tryz.prog) (hbs : cx.bs = 0) (h113 : cx.orc 113 = some FGen) (s1 : List UInt8) (c1 : UInt8) (hl : s1.length ≤ 1000000) : zAj cx Tryz.f83 [0] false [.st s1, .st [c1]] = some (Res.row 1 ((splC c1 s1).map D.st)) := by
 have c113 := zAa h113
 refine zDv (rs := [.tmp 4]) rfl hbs rfl ?_
 repeat' first
   | (refine zAR (fun h => ?_) (fun h => ?_) <;> (try simp only [cN] at h))
   | (refine zAN ?_ ?_)
   | simp only [↓cD, cU, cQ, cP, cB, zAJ, unD, zAf, zAd, idx, reduceCtorEq, ↓reduceIte, ofV, ofC, zAq, Nat.reduceEqDiff, zAG, cG, implies_true, forall_const, immL, immD, Res.flat, ren, renL, Int.reduceEq, Int.reduceLT, Int.reduceLE, Int.reduceNe, deref, ldD, zAF, zAk, zAI, zAs, cC, c113, zAo, zAp, yG7, ↓zAM, ↓zAQ, ↓zAL, ↓zAP, ↓zAK, ↓zAO, cV, cT, cF, cW, borT, borM, zAm, Res.via, zAu, zAb, refsB, Nat.reduceLT, Nat.reduceSub, Nat.reduceLeDiff, Nat.reduceMul, Nat.reduceAdd, Int.reduceToNat, appK, zAr, zAc, borL, zAl, zAn, zAE, cO, List.replicate, zAC, ofHp, ixOf, Res.row, Res.rowd, hP, *]
 all_goals first
   | rfl
   | exact ⟨_, _, _, _, rfl, rfl, by simp, zBP (fun _ => rfl), rfl⟩
   | exact ⟨_, _, _, _, rfl, rfl, by simp, zBP (fun _ => rfl), by simp [Res.row]⟩
def ordL (s : List UInt8) : Bool := !(s == []) && (decide (s.length ≤ 63) && s.all okc)
theorem yFf {s : List UInt8} {i : Nat} (h : (i : Int) < s.length) (hn : ¬ okc s[i]! = true) : ordL s = false := by
 have : s.all okc = false := by
   cases ha : s.all okc with
   | false => rfl
   | true => exact absurd (List.all_eq_true.1 ha _ (zBO h)) hn
 simp [ordL, this]

noncomputable def zPj := mkF (fun s : (List UInt8) => [.st s]) (fun s => Sm s) (fun s => Res.flat (.bo (ordL s)))
theorem yDj {s1 : List UInt8} (hp : Sm s1) : zPj [.st s1] = some (Res.flat (.bo (ordL s1))) := zAB (s := (s1)) (fun s s' h => by simp only [cI] at h; simp only [h]) hp
theorem zJw (cx : Cx) (hP : cx.P = Tryz.prog) (hbs : cx.bs = 0) (hk4 : cx.kp 4 = some [0, 13, 14]) (s1 : List UInt8) (hl : Sm s1) : zAj cx Tryz.f84 [] false [.st s1] = some (Res.flat (.bo (ordL s1))) := by
 have hw := zBL hl
 refine zAg (rs := [.tmp 2]) rfl hbs rfl ?_
 repeat' first
   | (refine zAY (σ := Nat) (fun s4 => [.st s1, .it .i64 s1.length, .it .i64 s4]) (fun s4 => s4 ≤ s1.length ∧ (s1.take s4).all okc = true) (fun s4 => s1.length - s4) [0, 13, 14] hbs (by exact hk4) (fun s4 => by simp only [zAv, refs, zBb, zBc, zBe, List.append_nil]) (fun s4 j4 => ?_) (s := 0) ?_ ?_)
   | (refine zAR (fun h => ?_) (fun h => ?_) <;> (try simp only [cN] at h))
   | (refine zAN ?_ ?_)
   | simp only [↓cD, cU, cQ, cP, cB, zAJ, unD, zAf, zAd, idx, reduceCtorEq, ↓reduceIte, ofV, ofC, zAq, Nat.reduceEqDiff, zAG, cG, implies_true, forall_const, immL, immD, Res.flat, ren, renL, Int.reduceEq, Int.reduceLT, Int.reduceLE, Int.reduceNe, deref, ldD, zAF, zAk, zAI, zAs, cC, ↓zAM, ↓zAQ, ↓zAL, ↓zAP, ↓zAK, ↓zAO, cV, cT, cF, cW, borT, borM, zAm, Res.via, zAu, zAb, refsB, Nat.reduceLT, Nat.reduceSub, Nat.reduceLeDiff, Nat.reduceMul, Nat.reduceAdd, Int.reduceToNat, appK, zAr, zAc, borL, zAl, zAn, zAE, cO, List.replicate, zAC, ofHp, ixOf, lens Tryz.underlying9, ixs Tryz.underlying9, hw, hP, *]
 all_goals first
   | rfl
   | exact ⟨Nat.zero_le _, rfl⟩
   | (refine ⟨_, rfl, ⟨by omega, ?_⟩, by omega⟩; rw [zB6 (by omega), j4.2, Bool.true_and]; exact (zHO _).2 (by omega))
   | (rw [yFf (i := s4) (by omega) (by rw [zHO]; omega)]; done)
   | (rw [zAW (by omega)] at j4; simp [ordL, j4.2, *]; omega)
   | (simp [ordL, *]; done)
   | (simp [ordL]; omega)
def okP (p : List UInt8) (b : Bool) : Bool := ordL p || (b && p == [42])
def okPs : List (List UInt8) → Bool → Bool
 | [], _ => true
 | p :: r, b => okP p b && okPs r false
theorem yDL (p : List UInt8) (b : Bool) : (zBQ p && (!(p == [42]) || b)) = okP p b := by
 unfold okP zBQ
 by_cases h : p = [42]
 · subst h
   have h2 : ordL [42] = false := by decide
   rw [h2]; simp
 · have h1 : (p == [42]) = false := by simpa using h
   rw [h1]
   have h2 : (!(p == [])) = decide (1 ≤ p.length) := by
     cases p with
     | nil => rfl
     | cons x r => simp
   simp only [ordL, h2, Bool.false_or, Bool.not_false, Bool.true_or, Bool.and_true, Bool.and_false, Bool.or_false, Bool.and_assoc]
def zSc (cur : List UInt8) : List (List UInt8) → List (List UInt8)
 | p :: ps => (cur ++ p) :: ps
 | [] => [cur]
theorem zSb (ps : List (List UInt8)) (h : ps ≠ []) : zSc [] ps = ps := by cases ps with | nil => exact absurd rfl h | cons p r => rfl
theorem zMy : ∀ (m cur : List UInt8) (b : Bool), zAZ (m ++ [46]) cur b = if okPs (zSc cur (splC 46 m)) b = true then some (zSc cur (splC 46 m)) else none
 | [], cur, b => by
   show zAZ (46 :: []) cur b = _
   rw [zAZ, if_pos rfl, yDL]
   simp [zAZ, splC, zSc, okPs]
 | x :: r, cur, b => by
   show zAZ (x :: (r ++ [46])) cur b = _
   by_cases hx : x = 46
   · subst hx
     rw [zAZ, if_pos rfl, yDL, zMy r [] false, zSb _ (zMq 46 r)]
     have e : splC 46 (46 :: r) = [] :: splC 46 r := by rw [splC, if_pos rfl]
     rw [e]
     simp only [zSc, List.append_nil, okPs]
     cases h1 : okP cur b <;> cases h2 : okPs (splC 46 r) false <;> simp
   · rw [zAZ, if_neg hx, zMy r (cur ++ [x]) b]
     have e : zSc (cur ++ [x]) (splC 46 r) = zSc cur (splC 46 (x :: r)) := by
       conv => rhs; unfold splC
       rw [if_neg hx]
       cases hs : splC 46 r with
       | nil => exact absurd hs (zMq 46 r)
       | cons h t => simp [zSc]
     rw [e]
theorem zP2 {n : List UInt8} (h : sufB n [46] = true) : n = n.take (n.length - 1) ++ [46] ∧ 1 ≤ n.length := by
 simp only [sufB, Bool.and_eq_true, decide_eq_true_eq, List.length_cons, List.length_nil, beq_iff_eq] at h
 obtain ⟨h1, h2⟩ := h
 refine ⟨?_, by omega⟩
 conv => lhs; rw [← List.take_append_drop (n.length - 1) n]
 rw [show n.length - (0 + 1) = n.length - 1 by omega] at h2
 rw [h2]
theorem yB9 {n : List UInt8} : n.getLastD 0 = 46 → n ≠ [] → sufB n [46] = true := by
 intro h hn
 have h2 : n = n.dropLast ++ [46] := by
   have h3 := List.dropLast_concat_getLast hn
   have h4 : n.getLast hn = 46 := by rw [← h, List.getLastD_eq_getLast?, List.getLast?_eq_some_getLast hn]; rfl
   rw [h4] at h3
   exact h3.symm
 rw [h2]
 simp [sufB]
theorem zU0 {n : List UInt8} (h1 : ¬ n = [46]) (h2 : (n.length : Int) < 255) (h3 : sufB n [46] = true) : labs n = if okPs (splC 46 (n.take (n.length - 1))) true = true then some (splC 46 (n.take (n.length - 1))) else none := by
 obtain ⟨e, hl⟩ := zP2 h3
 have hlen : ¬ n.length < 2 := by
   intro hlt
   apply h1
   have : n.length - 1 = 0 := by omega
   rw [this] at e; simpa using e
 have hlast : n.getLastD 0 = 46 := by rw [e]; simp
 unfold labs
 rw [if_neg h1, if_neg (by rintro (h | h | h); exact hlen h; omega; exact h hlast)]
 conv => lhs; rw [e]
 rw [zMy, zSb _ (zMq 46 _)]
theorem zR4 {n : List UInt8} (h1 : ¬ n = [46]) (h2 : 255 ≤ (n.length : Int)) : labs n = none := by
 unfold labs
 rw [if_neg h1, if_pos (.inr (.inl (by omega)))]
theorem zPF {n : List UInt8} (h1 : ¬ n = [46]) (h3 : sufB n [46] = false) : labs n = none := by
 unfold labs
 rw [if_neg h1, if_pos]
 by_cases h : n.length < 2
 · exact .inl h
 · refine .inr (.inr fun hl => ?_)
   rw [yB9 hl (by intro e; subst e; simp at h)] at h3; cases h3
theorem zRt {n : List UInt8} (h1 : ¬ n = [46]) (h2 : (n.length : Int) < 255) (h3 : sufB n [46] = true) : vName n = okPs (splC 46 (n.take (n.length - 1))) true := by
 unfold vName
 rw [zU0 h1 h2 h3]
 cases okPs (splC 46 (n.take (n.length - 1))) true <;> rfl
theorem zKJ {n : List UInt8} (h : vName n = true) (h1 : ¬ n = [46]) : (n.length : Int) < 255 ∧ sufB n [46] = true ∧ (labs n).getD [] = splC 46 (n.take (n.length - 1)) := by
 have h2 : (n.length : Int) < 255 := Classical.byContradiction fun hh => by
   unfold vName at h; rw [zR4 h1 (by omega)] at h; cases h
 have h3 : sufB n [46] = true := by
   cases h3 : sufB n [46] with
   | true => rfl
   | false => unfold vName at h; rw [zPF h1 h3] at h; cases h
 refine ⟨h2, h3, ?_⟩
 have h4 := zRt h1 h2 h3
 rw [h] at h4
 rw [zU0 h1 h2 h3, if_pos h4.symm]; rfl
def jn (ls : List (List UInt8)) : List UInt8 := ls.flatMap (· ++ [46])
theorem zZh (a b : List (List UInt8)) : jn (a ++ b) = jn a ++ jn b := by simp [jn]
theorem zZg : ∀ m : List UInt8, jn (splC 46 m) = m ++ [46]
 | [] => rfl
 | x :: r => by
   have ih := zZg r
   unfold splC
   by_cases hx : x = 46
   · rw [if_pos hx]; subst hx
     show [] ++ [46] ++ jn (splC 46 r) = _
     rw [ih]; rfl
   · rw [if_neg hx]
     cases hs : splC 46 r with
     | nil => exact absurd hs (zMq 46 r)
     | cons h t =>
       rw [hs] at ih
       show (x :: h) ++ [46] ++ jn t = _
       have : h ++ [46] ++ jn t = r ++ [46] := ih
       rw [List.cons_append, List.cons_append, this]; rfl
theorem zLx : ∀ (m p : List UInt8), p ∈ splC 46 m → (46 : UInt8) ∉ p
 | [], p, h => by simp [splC] at h; subst h; simp
 | x :: r, p, h => by
   unfold splC at h
   by_cases hx : x = 46
   · rw [if_pos hx] at h
     rcases List.mem_cons.1 h with rfl | h
     · simp
     · exact zLx r p h
   · rw [if_neg hx] at h
     cases hs : splC 46 r with
     | nil => exact absurd hs (zMq 46 r)
     | cons a t =>
       rw [hs] at h
       rcases List.mem_cons.1 h with rfl | h
       · have := zLx r a (by rw [hs]; simp)
         simp only [List.mem_cons, not_or]
         exact ⟨fun e => hx e.symm, this⟩
       · exact zLx r p (by rw [hs]; simp [h])
theorem zVm : ∀ {p q X Y : List UInt8}, (46 : UInt8) ∉ p → (46 : UInt8) ∉ q → p ++ 46 :: X = q ++ 46 :: Y → p = q ∧ X = Y
 | [], [], X, Y, _, _, h => by simpa using h
 | [], y :: q, X, Y, _, hq, h => by
   simp at h; exact absurd (by rw [← h.1]; simp) hq
 | x :: p, [], X, Y, hp, _, h => by
   simp at h; exact absurd (by rw [h.1]; simp) hp
 | x :: p, y :: q, X, Y, hp, hq, h => by
   simp only [List.cons_append, List.cons.injEq] at h
   obtain ⟨h1, h2⟩ := zVm (p := p) (q := q) (fun hm => hp (by simp [hm])) (fun hm => hq (by simp [hm])) h.2
   exact ⟨by rw [h.1, h1], h2⟩
theorem yD2 : ∀ {a b : List (List UInt8)}, (∀ p ∈ a, (46 : UInt8) ∉ p) → (∀ p ∈ b, (46 : UInt8) ∉ p) → jn a = jn b → a = b
 | [], [], _, _, _ => rfl
 | [], q :: b, _, _, h => by simp [jn] at h
 | p :: a, [], _, _, h => by simp [jn] at h
 | p :: a, q :: b, ha, hb, h => by
   have h' : p ++ 46 :: jn a = q ++ 46 :: jn b := by
     have : p ++ [46] ++ jn a = q ++ [46] ++ jn b := h
     simpa using this
   obtain ⟨h1, h2⟩ := zVm (ha p (by simp)) (hb q (by simp)) h'
   rw [h1, yD2 (fun x hx => ha x (by simp [hx])) (fun x hx => hb x (by simp [hx])) h2]
theorem zYM {n : List UInt8} (h : vName n = true) (h1 : ¬ n = [46]) : n = jn ((labs n).getD []) ∧ (∀ p ∈ (labs n).getD [], (46 : UInt8) ∉ p) ∧ (labs n).getD [] ≠ [] := by
 obtain ⟨_, h3, h4⟩ := zKJ h h1
 rw [h4]
 refine ⟨?_, fun p hp => zLx _ _ hp, zMq _ _⟩
 rw [zZg]; exact (zP2 h3).1
theorem zII : ∀ (a b : List (List UInt8)), cpre a b = b.length ↔ b <+: a
 | _, [] => by
   constructor
   · intro _; exact List.nil_prefix
   · intro _; have := (zUc ‹_› []).2; simpa using this
 | [], y :: b => by
   have := (zUc [] (y :: b)).1
   simp at this ⊢
   rw [this]; simp
 | x :: a, y :: b => by
   have ih := zII a b
   by_cases hxy : x = y
   · subst hxy
     simp [cpre, ih]
   · have hyx : ¬ y = x := fun e => hxy e.symm
     simp [cpre, hxy, hyx]
def zSo (n top : List UInt8) : Bool := if (top == [46]) = true then true else if (n == top) = true then true else sufB n (46 :: top)
theorem zP3 {s t : List UInt8} : sufB s t = true ↔ ∃ x, s = x ++ t := by
 simp only [sufB, Bool.and_eq_true, decide_eq_true_eq, beq_iff_eq]
 constructor
 · rintro ⟨h1, h2⟩
   refine ⟨s.take (s.length - t.length), ?_⟩
   conv => lhs; rw [← List.take_append_drop (s.length - t.length) s]
   rw [h2]
 · rintro ⟨x, rfl⟩
   refine ⟨by simp, ?_⟩
   rw [List.length_append, Nat.add_sub_cancel]; simp
theorem zWM {n top : List UInt8} (hn : vName n = true) (ht : vName top = true) : zSo n top = decide (zBS ((labs n).getD []) ((labs top).getD []) = ((labs top).getD []).length) := by
 have key : zSo n top = true ↔ ((labs top).getD []).reverse <+: ((labs n).getD []).reverse := by
   rw [List.reverse_prefix]
   unfold zSo
   by_cases h1 : top = [46]
   · subst h1
     have : labs [46] = some [] := by unfold labs; rw [if_pos rfl]
     rw [this]; simp
   · have hb : (top == [46]) = false := by simpa using h1
     rw [hb]
     obtain ⟨t1, t2, t3⟩ := zYM ht h1
     by_cases h2 : n = [46]
     · subst h2
       have hl : labs [46] = some [] := by unfold labs; rw [if_pos rfl]
       have e2 : (([46] : List UInt8) == top) = false := by simpa using fun e => h1 e.symm
       rw [hl, e2]
       simp only [Bool.false_eq_true, if_false, Option.getD_some, List.suffix_nil]
       constructor
       · intro h
         rw [zP3] at h
         obtain ⟨x, hx⟩ := h
         have := congrArg List.length hx
         simp at this
         have h3 : top = [] := by
           cases top with
           | nil => rfl
           | cons a r => simp at this; omega
         rw [h3] at ht
         exact absurd ht (by decide)
       · intro h; exact absurd h t3
     · obtain ⟨n1, n2, n3⟩ := zYM hn h2
       constructor
       · intro h
         simp only [Bool.false_eq_true, if_false] at h
         by_cases he : n = top
         · subst he; exact List.suffix_refl _
         · have e2 : (n == top) = false := by simpa using he
           rw [e2] at h
           simp only [Bool.false_eq_true, if_false] at h
           rw [zP3] at h
           obtain ⟨x, hx⟩ := h
           refine ⟨splC 46 x, ?_⟩
           refine yD2 (fun p hp => ?_) n2 ?_
           · rcases List.mem_append.1 hp with hp | hp
             · exact zLx _ _ hp
             · exact t2 p hp
           · rw [zZh, zZg, ← t1, ← n1, hx]; simp
       · rintro ⟨a, ha⟩
         by_cases he : n = top
         · simp [he]
         · have e2 : (n == top) = false := by simpa using he
           rw [e2]
           simp only [Bool.false_eq_true, if_false]
           rw [zP3]
           have hna : a ≠ [] := by
             intro e; rw [e, List.nil_append] at ha
             apply he; rw [n1, t1, ha]
           have h5 : n = jn a ++ top := by
             rw [n1, ← ha, zZh]
             conv => rhs; rw [t1]
           obtain ⟨a', l, rfl⟩ : ∃ a' l, a = a' ++ [l] := ⟨a.dropLast, a.getLast hna, (List.dropLast_concat_getLast hna).symm⟩
           refine ⟨jn a' ++ l, ?_⟩
           rw [h5, zZh]
           simp [jn]
 rw [Bool.eq_iff_iff, key, decide_eq_true_eq]
 unfold zBS
 rw [← zII, List.length_reverse]

theorem zYC {ps : List (List UInt8)} {i : Nat} (h : (i : Int) < ps.length) : okPs (ps.drop i) (decide (i = 0)) = (okP ps[i]! (decide (i = 0)) && okPs (ps.drop (i + 1)) (decide (i + 1 = 0))) := by
 rw [drop_at (zs := ps) h]
 simp [okPs]
theorem yBO {ps : List (List UInt8)} {i : Nat} {b : Bool} (h : ¬ (i : Int) < ps.length) : okPs (ps.drop i) b = true := by rw [zBw (zs := ps) h]; rfl
theorem zUC (c : UInt8) : ∀ l : List UInt8, (splC c l).length ≤ l.length + 1
 | [] => by simp [splC]
 | x :: r => by
   have ih := zUC c r
   unfold splC
   split
   · simp; omega
   · split
     · simp
     · rename_i h t hs; rw [hs] at ih; simp at ih ⊢; omega
theorem zNw (c : UInt8) : ∀ (l p : List UInt8), p ∈ splC c l → p.length ≤ l.length
 | [], p, h => by simp [splC] at h; subst h; simp
 | x :: r, p, h => by
   unfold splC at h
   split at h
   · rcases List.mem_cons.1 h with rfl | h
     · simp
     · have := zNw c r p h; simp; omega
   · split at h
     · simp at h; subst h; simp
     · rename_i a t hs
       rcases List.mem_cons.1 h with rfl | h
       · have := zNw c r a (by rw [hs]; simp); simp; omega
       · have := zNw c r p (by rw [hs]; simp [h]); simp; omega

noncomputable def zF1 := mkF (fun s : (List UInt8) => [.st s]) (fun s => Sm s) (fun s => Res.flat (.bo (vName s)))
theorem zF0 {s1 : List UInt8} (hp : Sm s1) : zF1 [.st s1] = some (Res.flat (.bo (vName s1))) := zAB (s := (s1)) (fun s s' h => by simp only [cI] at h; simp only [h]) hp
theorem zHe (cx : Cx) (hP : cx.P = Tryz.prog) (hbs : cx.bs = 0) (h82 : cx.orc 82 = some FSuf) (h83 : cx.orc 83 = some FSpl) (h84 : cx.orc 84 = some zPj) (hk6 : cx.kp 6 = some [20, 21, 22]) (s1 : List UInt8) (hl : Sm s1) : zAj cx Tryz.f42 [] false [.st s1] = some (Res.flat (.bo (vName s1))) := by
 have c82 := zAa h82
 have c83 := zAa h83
 have c84 := zAa h84
 have hd : Sm ([46] : List UInt8) := by simp [Sm]
 have hlen : sufB s1 [46] = true → 1 ≤ s1.length := fun h => (zP2 h).2
 have hw1 : sufB s1 [46] = true → IntKind.i64.wrap ((s1.length : Int) - 1) = ((s1.length - 1 : Nat) : Int) := fun h => by have h1 := hlen h; have h2 := hl; simp only [Sm] at h2; rw [wrap64 (by omega) (by omega)]; omega
 have hsl : ∀ (H : Hp) (k : IntKind), zBm Tryz.prog H 9 (.st s1) none (some (.it k ((s1.length - 1 : Nat) : Int))) none = some (.st (s1.take (s1.length - 1))) := fun H k => zRA Tryz.underlying9 (by omega)
 have hle : ¬ 255 ≤ (s1.length : Int) → (s1.take (s1.length - 1)).length ≤ 1000000 := fun h => by rw [List.length_take]; omega
 have hsp := zUC 46 (s1.take (s1.length - 1))
 have hw2 : ∀ k : Nat, (k : Int) < (splC 46 (s1.take (s1.length - 1))).length → IntKind.i64.wrap ((k : Int) + 1) = ((k + 1 : Nat) : Int) := zBL (by have h2 := hl; simp only [Sm] at h2; rw [List.length_take] at hsp; omega)
 have hel : ∀ k : Nat, (k : Int) < (splC 46 (s1.take (s1.length - 1))).length → ((splC 46 (s1.take (s1.length - 1))).map D.st)[k]? = some (.st (splC 46 (s1.take (s1.length - 1)))[k]!) := fun k h => getm (by omega)
 have hs1 : ∀ k : Nat, (k : Int) < (splC 46 (s1.take (s1.length - 1))).length → Sm (splC 46 (s1.take (s1.length - 1)))[k]! := fun k h => by have h1 := zNw 46 _ _ (zBO h); have h2 := hl; simp only [Sm] at h2 ⊢; rw [List.length_take] at h1; omega
 refine zAg (rs := [.tmp 2]) rfl hbs rfl ?_
 repeat' first
   | (refine zAw (σ := Nat) (fun s => [.own 0 0 (splC 46 (s1.take (s1.length - 1))).length, .it .i64 (splC 46 (s1.take (s1.length - 1))).length, .it .i64 s]) (fun s => [.row 1 true ((splC 46 (s1.take (s1.length - 1))).map D.st)]) (fun s => s ≤ (splC 46 (s1.take (s1.length - 1))).length ∧ okPs ((splC 46 (s1.take (s1.length - 1))).drop s) (decide (s = 0)) = okPs (splC 46 (s1.take (s1.length - 1))) true) (fun s => (splC 46 (s1.take (s1.length - 1))).length - s) [20, 21, 22] hbs (by exact hk6) (fun q jq b hb => by simp only [List.mem_singleton] at hb; subst hb; exact zA2 (fun _ => rfl)) (fun s js => ?_) (s := 0) [0] ?_ ?_ ?_ ?_ ?_)
   | (refine zAR (fun h => ?_) (fun h => ?_) <;> (try simp only [cN] at h))
   | (refine zAN ?_ ?_)
   | simp only [↓cD, cU, cQ, cP, cB, zAJ, unD, zAf, zAd, idx, reduceCtorEq, ↓reduceIte, ofV, ofC, zAq, Nat.reduceEqDiff, zAG, cG, implies_true, forall_const, immL, immD, Res.flat, ren, renL, Int.reduceEq, Int.reduceLT, Int.reduceLE, Int.reduceNe, deref, ldD, zAF, zAk, zAI, zAs, cC, c82, c83, c84, zAo, zAp, zUq, yAE, yDj, ↓zAM, ↓zAQ, ↓zAL, ↓zAP, ↓zAK, ↓zAO, cV, cT, cF, cW, borT, borM, zAm, Res.via, zAu, zAb, refsB, Nat.reduceLT, Nat.reduceSub, Nat.reduceLeDiff, Nat.reduceMul, Nat.reduceAdd, Int.reduceToNat, appK, zAr, zAc, borL, zAl, zAn, zAE, cO, List.replicate, zAC, ofHp, ixOf, lens Tryz.underlying9, hl, zOn, hw1, hw2, hsl, hle, hs1, hel, Res.row, Res.rowd, hP, *]
 all_goals first
   | rfl
   | omega
   | exact ⟨Nat.zero_le _, rfl⟩
   | (have e : s1 = [46] := (by simpa using ‹(s1 == [46]) = true›); subst e; rfl)
   | (have hne : ¬ s1 = [46] := (by simpa using ‹(s1 == [46]) = false›)
      first
      | (have e : vName s1 = false := (by rw [vName, zPF hne ‹sufB s1 [46] = false›]; rfl); rw [e]; done)
      | (have e : vName s1 = false := (by rw [vName, zR4 hne (by omega)]; rfl); rw [e]; done)
      | (have ev := zRt hne (by omega) ‹sufB s1 [46] = true›
         first
         | (have e := js.2; rw [yBO (by omega)] at e; rw [ev, ← e])
         | (have e := js.2; rw [zYC (by omega)] at e; have e2 : okP (splC 46 (s1.take (s1.length - 1)))[s]! (decide (s = 0)) = false := (by unfold okP; first | (have h0 : ¬ s = 0 := (by omega); simp only [*, decide_false, Bool.false_and, Bool.or_false]; done) | (simp only [*, Bool.and_false, Bool.or_false]; done)); rw [e2, Bool.false_and] at e; rw [ev, ← e])
         | (have e := js.2; rw [zYC (by omega)] at e; have e2 : okP (splC 46 (s1.take (s1.length - 1)))[s]! (decide (s = 0)) = true := (by unfold okP; first | (have h0 : s = 0 := (by omega); subst h0; simp only [*, decide_true, Bool.true_and, Bool.or_true]; done) | (simp only [*, Bool.true_or]; done)); rw [e2, Bool.true_and] at e; refine ⟨[0], s + 1, ?_, ?_, ?_, ?_, ⟨by omega, e⟩, by omega⟩ <;> (first | rfl | (simp only [zAv, refs, cR, cQ, ren, List.nil_append, List.cons_append, Nat.reduceEqDiff, ofHp, ixOf]; first | rfl | (simp; done))))))
   | (first | rfl | (simp only [zAv, refs, cR, cQ, ren, List.nil_append, List.cons_append, Nat.reduceEqDiff, ofHp, ixOf]; first | rfl | (simp; done)))
theorem zYU : (labs [46]).getD [] = [] := by unfold labs; rw [if_pos rfl]; rfl
theorem zYV {n : List UInt8} (h : vName n = false) : (labs n).getD [] = [] := by
 unfold vName at h
 cases hl : labs n with
 | none => rfl
 | some l => rw [hl] at h; cases h

noncomputable def zKa := mkF (fun s : (List UInt8) => [.st s]) (fun s => Sm s) (fun s => Res.row 1 (((labs s).getD []).map D.st))
theorem zSI {s1 : List UInt8} (hp : Sm s1) : zKa [.st s1] = some (Res.row 1 (((labs s1).getD []).map D.st)) := zAB (s := (s1)) (fun s s' h => by simp only [cI] at h; simp only [h]) hp
theorem zHp (cx : Cx) (hP : cx.P = Tryz.prog) (hbs : cx.bs = 0) (h42 : cx.orc 42 = some zF1) (h83 : cx.orc 83 = some FSpl) (s1 : List UInt8) (hl : Sm s1) : zAj cx Tryz.f164 [0] false [.st s1] = some (Res.row 1 (((labs s1).getD []).map D.st)) := by
 have c42 := zAa h42
 have c83 := zAa h83
 have hf : (s1 == [46]) = false → vName s1 = true → (s1.length : Int) < 255 ∧ sufB s1 [46] = true ∧ (labs s1).getD [] = splC 46 (s1.take (s1.length - 1)) := fun h1 h2 => zKJ h2 (by simpa using h1)
 have hw1 : (s1 == [46]) = false → vName s1 = true → IntKind.i64.wrap ((s1.length : Int) - 1) = ((s1.length - 1 : Nat) : Int) := fun h0 h => by have h1 := (zP2 (hf h0 h).2.1).2; have h2 := (hf h0 h).1; rw [wrap64 (by omega) (by omega)]; omega
 have hsl : ∀ (H : Hp) (k : IntKind), zBm Tryz.prog H 9 (.st s1) none (some (.it k ((s1.length - 1 : Nat) : Int))) none = some (.st (s1.take (s1.length - 1))) := fun H k => zRA Tryz.underlying9 (by omega)
 have hle : (s1 == [46]) = false → vName s1 = true → (s1.take (s1.length - 1)).length ≤ 1000000 := fun h0 h => by have h2 := (hf h0 h).1; rw [List.length_take]; omega
 refine zDv (rs := [.tmp 2]) rfl hbs rfl ?_
 repeat' first
   | (refine zAR (fun h => ?_) (fun h => ?_) <;> (try simp only [cN] at h))
   | (refine zAN ?_ ?_)
   | simp only [↓cD, cU, cQ, cP, cB, zAJ, unD, zAf, zAd, idx, reduceCtorEq, ↓reduceIte, ofV, ofC, zAq, Nat.reduceEqDiff, zAG, cG, implies_true, forall_const, immL, immD, Res.flat, ren, renL, Int.reduceEq, Int.reduceLT, Int.reduceLE, Int.reduceNe, deref, ldD, zAF, zAk, zAI, zAs, cC, c42, c83, zAo, zAp, zF0, yAE, ↓zAM, ↓zAQ, ↓zAL, ↓zAP, ↓zAK, ↓zAO, cV, cT, cF, cW, borT, borM, zAm, Res.via, zAu, zAb, refsB, Nat.reduceLT, Nat.reduceSub, Nat.reduceLeDiff, Nat.reduceMul, Nat.reduceAdd, Int.reduceToNat, appK, zAr, zAc, borL, zAl, zAn, zAE, cO, List.replicate, zAC, ofHp, ixOf, lens Tryz.underlying9, hl, hw1, hsl, hle, Res.row, Res.rowd, hP, *]
 all_goals first
   | rfl
   | (have e : s1 = [46] := (by simpa using ‹(s1 == [46]) = true›); subst e; rw [zYU]; exact ⟨_, _, _, _, rfl, rfl, rfl, rfl, rfl⟩)
   | (rw [zYV ‹_›]; exact ⟨_, _, _, _, rfl, rfl, rfl, rfl, rfl⟩)
   | exact ⟨_, _, _, _, rfl, rfl, by simp, zBP (fun _ => rfl), by simp⟩
   | (rw [(hf ‹_› ‹_›).2.2]; exact ⟨_, _, _, _, rfl, rfl, by simp, zBP (fun _ => rfl), rfl⟩)
noncomputable def zPq := mkF (fun s : (List UInt8) × (List UInt8) => [.st s.1, .st s.2]) (fun s => Sm s.1 ∧ s.2.length ≤ 1000000) (fun s => Res.flat (.bo (zSo s.1 s.2)))
theorem yDq {s1 : List UInt8} {s2 : List UInt8} (hp : Sm s1 ∧ s2.length ≤ 1000000) : zPq [.st s1, .st s2] = some (Res.flat (.bo (zSo s1 s2))) := zAB (s := (s1, s2)) (fun s s' h => by simp only [cI] at h; simp only [h]) hp
theorem zJL (cx : Cx) (hP : cx.P = Tryz.prog) (hbs : cx.bs = 0) (h82 : cx.orc 82 = some FSuf) (s1 s2 : List UInt8) (hl : Sm s1 ∧ s2.length ≤ 1000000) : zAj cx Tryz.f94 [] false [.st s1, .st s2] = some (Res.flat (.bo (zSo s1 s2))) := by
 have c82 := zAa h82
 have hl1 := hl.1
 have hl2 : ((s2.length + 1 : Nat) : Int) < 4611686018427387904 := by have := hl.2; omega
 have hl3 : (1 + s2.length ≤ 9223372036854775807) = True := by have := hl.2; simp only [eq_iff_iff, iff_true]; omega
 refine zAg (rs := [.tmp 4]) rfl hbs rfl ?_
 repeat' first
   | (refine zAR (fun h => ?_) (fun h => ?_) <;> (try simp only [cN] at h))
   | (refine zAN ?_ ?_)
   | simp only [↓cD, cU, cQ, cP, cB, zAJ, unD, zAf, zAd, idx, reduceCtorEq, ↓reduceIte, ofV, ofC, zAq, Nat.reduceEqDiff, zAG, cG, implies_true, forall_const, immL, immD, Res.flat, ren, renL, Int.reduceEq, Int.reduceLT, Int.reduceLE, Int.reduceNe, deref, ldD, zAF, zAk, zAI, zAs, cC, c82, zAo, zAp, zUq, ↓zAM, ↓zAQ, ↓zAL, ↓zAP, ↓zAK, ↓zAO, cV, cT, cF, cW, borT, borM, zAm, Res.via, zAu, zAb, refsB, Nat.reduceLT, Nat.reduceSub, Nat.reduceLeDiff, Nat.reduceMul, Nat.reduceAdd, Int.reduceToNat, appK, zAr, zAc, borL, zAl, zAn, zAE, cO, List.replicate, zAC, ofHp, ixOf, hl1, hl2, hl3, zOn, hP, *]
 all_goals first
   | rfl
   | (simp only [zSo, *, if_true, if_false, Bool.false_eq_true]; done)
theorem zV0 (n top : List UInt8) : underB n top = (if vName n = true then (if vName top = true then zSo n top else false) else false) := by
 by_cases h1 : vName n = true
 · by_cases h2 : vName top = true
   · rw [if_pos h1, if_pos h2, zWM h1 h2]
     unfold underB
     unfold vName at h1 h2
     rw [h1, h2]; rfl
   · rw [if_pos h1, if_neg h2]
     unfold underB
     unfold vName at h2
     simp [h2]
 · rw [if_neg h1]
   unfold underB
   unfold vName at h1
   simp [h1]
theorem yA6 {n : List UInt8} (h : vName n = true) : n.length ≤ 1000000 := by
 by_cases h1 : n = [46]
 · subst h1; simp
 · have := (zKJ h h1).1; omega

theorem zFM (cx : Cx) (hP : cx.P = Tryz.prog) (hbs : cx.bs = 0) (h42 : cx.orc 42 = some zF1) (h94 : cx.orc 94 = some zPq) (s1 s2 : List UInt8) (hl : Sm s1 ∧ Sm s2) : zAj cx Tryz.f50 [] false [.st s1, .st s2] = some (Res.flat (.bo (underB s1 s2))) := by
 have c42 := zAa h42
 have c94 := zAa h94
 have hl1 := hl.1; have hl2 := hl.2
 have hv : vName s2 = true → s2.length ≤ 1000000 := fun h => yA6 h
 refine zAg (rs := [.tmp 4]) rfl hbs rfl ?_
 repeat' first
   | (refine zAR (fun h => ?_) (fun h => ?_) <;> (try simp only [cN] at h))
   | (refine zAN ?_ ?_)
   | simp only [↓cD, cU, cQ, cP, cB, zAJ, unD, zAf, zAd, idx, reduceCtorEq, ↓reduceIte, ofV, ofC, zAq, Nat.reduceEqDiff, zAG, cG, implies_true, forall_const, immL, immD, Res.flat, ren, renL, Int.reduceEq, Int.reduceLT, Int.reduceLE, Int.reduceNe, deref, ldD, zAF, zAk, zAI, zAs, cC, c42, c94, zAo, zAp, zF0, yDq, ↓zAM, ↓zAQ, ↓zAL, ↓zAP, ↓zAK, ↓zAO, cV, cT, cF, cW, borT, borM, zAm, Res.via, zAu, zAb, refsB, Nat.reduceLT, Nat.reduceSub, Nat.reduceLeDiff, Nat.reduceMul, Nat.reduceAdd, Int.reduceToNat, appK, zAr, zAc, borL, zAl, zAn, zAE, cO, List.replicate, zAC, ofHp, ixOf, hl1, hl2, hv, hP, *]
 all_goals first
   | rfl
   | (rw [zV0]; simp only [*, if_true, if_false, Bool.false_eq_true]; done)
theorem zBA {a b : List UInt8} (h : zBj a b = 0) : a = b := by
 unfold zBj at h
 split at h
 · omega
 · rename_i h1
   split at h
   · rename_i h2
     rcases Bool.or_eq_true _ _ ▸ h2 with h3 | h3
     · exact absurd h3 h1
     · simpa using h3
   · omega
theorem zCk : ∀ a : List UInt8, Op.bytesLess a a = false
 | [] => rfl
 | x :: r => by simp [Op.bytesLess, zCk r, UInt8.lt_irrefl]
theorem zFo (a : List UInt8) : zBj a a = 0 := by simp [zBj, zCk]
theorem zZ4 : ∀ {a b : List (List UInt8)} {k : Nat}, k ≤ cpre a b → k < a.length → k < b.length → a[k]! = b[k]! → k + 1 ≤ cpre a b
 | [], _, k, _, h, _, _ => by simp at h
 | _ :: _, [], k, _, _, h, _ => by simp at h
 | x :: a, y :: b, 0, _, _, _, h => by
   have : x = y := by simpa using h
   subst this; simp [cpre]
 | x :: a, y :: b, k + 1, h0, h1, h2, h => by
   by_cases hxy : x = y
   · subst hxy
     simp only [cpre, if_true] at h0 ⊢
     have := zZ4 (a := a) (b := b) (k := k) (by omega) (by simpa using h1) (by simpa using h2) (by simpa using h)
     omega
   · have hxy' : cpre (x :: a) (y :: b) = 0 := by simp [cpre, hxy]
     omega
theorem zSr : ∀ {a b : List (List UInt8)} {k : Nat}, k ≤ cpre a b → k < a.length → k < b.length → ¬ a[k]! = b[k]! → cpre a b = k
 | [], _, k, _, h, _, _ => by simp at h
 | _ :: _, [], k, _, _, h, _ => by simp at h
 | x :: a, y :: b, 0, _, _, _, h => by
   have : ¬ x = y := by simpa using h
   simp [cpre, this]
 | x :: a, y :: b, k + 1, h0, h1, h2, h => by
   by_cases hxy : x = y
   · subst hxy
     simp only [cpre, if_true] at h0 ⊢
     have := zSr (a := a) (b := b) (k := k) (by omega) (by simpa using h1) (by simpa using h2) (by simpa using h)
     omega
   · have hxy' : cpre (x :: a) (y :: b) = 0 := by simp [cpre, hxy]
     omega

theorem yGv {a b : List UInt8} (h : vName a = true) (k : vName b = false) : cmpB a b = -1 := by
 unfold vName at h k
 unfold cmpB
 rw [if_pos h, if_neg (by rw [k]; decide)]
theorem yGw {a b : List UInt8} (h : vName a = false) (k : vName b = true) : cmpB a b = 1 := by
 unfold vName at h k
 unfold cmpB
 rw [if_neg (by rw [h]; decide), if_pos k]
theorem yGx {a b : List UInt8} (h : vName a = false) (k : vName b = false) : cmpB a b = zBj a b := by
 unfold vName at h k
 unfold cmpB
 rw [if_neg (by rw [h]; decide), if_neg (by rw [k]; decide)]
theorem yAc {a b : List UInt8} (h : vName a = true) (k : vName b = true) : cmpB a b = (if zBS ((labs a).getD []) ((labs b).getD []) < ((labs a).getD []).length ∧ zBS ((labs a).getD []) ((labs b).getD []) < ((labs b).getD []).length then zBj ((labs a).getD []).reverse[zBS ((labs a).getD []) ((labs b).getD [])]! ((labs b).getD []).reverse[zBS ((labs a).getD []) ((labs b).getD [])]! else if ((labs a).getD []).length < ((labs b).getD []).length then -1 else if ((labs b).getD []).length < ((labs a).getD []).length then 1 else 0) := by
 unfold vName at h k
 unfold cmpB
 rw [if_pos h, if_pos k]

theorem zHB (cx : Cx) (hP : cx.P = Tryz.prog) (hbs : cx.bs = 0) (h42 : cx.orc 42 = some zF1) (h163 : cx.orc 163 = some zEJ) (h164 : cx.orc 164 = some zKa) (r42 : cx.rd.contains 42 = true) (r163 : cx.rd.contains 163 = true) (r164 : cx.rd.contains 164 = true) (hk10 : cx.kp 10 = some [7, 8, 9]) (s1 s2 : List UInt8) (hl : Sm s1 ∧ Sm s2) : zAj cx Tryz.f122 [] false [.st s1, .st s2] = some (Res.flat (.it .i64 (cmpB s1 s2))) := by
 have c42 := zAa h42
 have d42 := zAh r42 h42
 have c163 := zAa h163
 have d163 := zAh r163 h163
 have c164 := zAa h164
 have d164 := zAh r164 h164
 have hl1 := hl.1; have hl2 := hl.2
 have hn1 := zCl s1; have hn2 := zCl s2
 have hw1 : ∀ k : Nat, ((k + 1 : Nat) : Int) ≤ ((labs s1).getD []).length → IntKind.i64.wrap (((k + 1 : Nat) : Int) + 1) = ((k + 1 + 1 : Nat) : Int) := fun k h => by rw [wrap64 (by omega) (by omega)]; omega
 have hw2 : ∀ k : Nat, ((k + 1 : Nat) : Int) ≤ ((labs s1).getD []).length → IntKind.i64.wrap ((((labs s1).getD []).length : Int) - ((k + 1 : Nat) : Int)) = ((((labs s1).getD []).length - 1 - k : Nat) : Int) := fun k h => by rw [wrap64 (by omega) (by omega)]; omega
 have hw3 : ∀ k : Nat, ((k + 1 : Nat) : Int) ≤ ((labs s2).getD []).length → IntKind.i64.wrap ((((labs s2).getD []).length : Int) - ((k + 1 : Nat) : Int)) = ((((labs s2).getD []).length - 1 - k : Nat) : Int) := fun k h => by rw [wrap64 (by omega) (by omega)]; omega
 have hx1 : ∀ k : Nat, ((k + 1 : Nat) : Int) ≤ ((labs s1).getD []).length → (((labs s1).getD []).map D.st)[((labs s1).getD []).length - 1 - k]? = some (.st ((labs s1).getD []).reverse[k]!) := fun k h => zKt (by omega)
 have hx2 : ∀ k : Nat, ((k + 1 : Nat) : Int) ≤ ((labs s2).getD []).length → (((labs s2).getD []).map D.st)[((labs s2).getD []).length - 1 - k]? = some (.st ((labs s2).getD []).reverse[k]!) := fun k h => zKt (by omega)
 have hb1 : ∀ k : Nat, ((k + 1 : Nat) : Int) ≤ ((labs s1).getD []).length → (((((labs s1).getD []).length - 1 - k : Nat) : Int) < (((labs s1).getD []).length : Int)) = True := fun k h => by simp only [eq_iff_iff, iff_true]; omega
 have hb2 : ∀ k : Nat, ((k + 1 : Nat) : Int) ≤ ((labs s2).getD []).length → (((((labs s2).getD []).length - 1 - k : Nat) : Int) < (((labs s2).getD []).length : Int)) = True := fun k h => by simp only [eq_iff_iff, iff_true]; omega
 have hb3 : True := trivial
 have hb4 : True := trivial
 refine zAg (rs := [.tmp 4]) rfl hbs rfl ?_
 repeat' first
   | (refine zAw (σ := Nat) (fun s => [.own 0 0 ((labs s1).getD []).length, .own 1 0 ((labs s2).getD []).length, .it .i64 ((s + 1 : Nat) : Int)]) (fun s => [.row 1 true (((labs s1).getD []).map D.st), .row 1 true (((labs s2).getD []).map D.st)]) (fun s => s ≤ cpre ((labs s1).getD []).reverse ((labs s2).getD []).reverse) (fun s => ((labs s1).getD []).length - s) [7, 8, 9] hbs (by exact hk10) (fun q jq b hb => by simp only [List.mem_cons, List.not_mem_nil, or_false] at hb; rcases hb with rfl | rfl <;> exact zA2 (fun _ => rfl)) (fun s js => ?_) (s := 0) [0, 1] ?_ ?_ ?_ ?_ ?_)
   | (refine zAR (fun h => ?_) (fun h => ?_) <;> (try simp only [cN] at h))
   | (refine zAN ?_ ?_)
   | simp only [↓cD, cU, cQ, cP, cB, zAJ, unD, zAf, zAd, idx, reduceCtorEq, ↓reduceIte, ofV, ofC, zAq, Nat.reduceEqDiff, zAG, cG, implies_true, forall_const, immL, immD, Res.flat, ren, renL, Int.reduceEq, Int.reduceLT, Int.reduceLE, Int.reduceNe, deref, ldD, zAF, zAk, zAI, zAs, cC, cS, refs, zAD, okId, List.all_nil, List.all_cons, Nat.reduceMul, Nat.reduceAdd, Nat.reduceLeDiff, zAv, c42, c163, c164, d42, d163, d164, zAo, zAp, zF0, zOU, zSI, ↓zAM, ↓zAQ, ↓zAL, ↓zAP, ↓zAK, ↓zAO, cV, cT, cF, cW, borT, borM, zAm, Res.via, zAu, zAb, refsB, Nat.reduceLT, Nat.reduceSub, Nat.reduceLeDiff, Nat.reduceMul, Nat.reduceAdd, Int.reduceToNat, appK, zAr, zAc, borL, zAl, zAn, zAE, cO, List.replicate, zAC, ofHp, ixOf, cS, refs, zAD, okId, List.all_nil, List.all_cons, Nat.reduceMul, Nat.reduceAdd, Nat.reduceLeDiff, zAv, hl1, hl2, hw1, hw2, hw3, hx1, hx2, hb1, hb2, hb3, hb4, Res.row, Res.rowd, hP, *]
 all_goals first
   | rfl
   | omega
   | exact Nat.zero_le _
   | (rw [yGv ‹_› ‹_›]; done)
   | (rw [yGw ‹_› ‹_›]; done)
   | (rw [yGx ‹_› ‹_›]; done)
   | (have ec := zZ4 js (by rw [List.length_reverse]; omega) (by rw [List.length_reverse]; omega) (zBA ‹_›); refine ⟨[0, 1], s + 1, ?_, ?_, ?_, ?_, ec, by omega⟩ <;> (first | rfl | (simp only [zAv, refs, cR, cQ, ren, List.nil_append, List.cons_append, Nat.reduceEqDiff, ofHp, ixOf]; first | rfl | (simp; done))))
   | (have ec : zBS ((labs s1).getD []) ((labs s2).getD []) = s := zSr js (by rw [List.length_reverse]; omega) (by rw [List.length_reverse]; omega) (fun e => (‹¬ zBj _ _ = 0›) (by rw [e]; exact zFo _)); rw [yAc ‹_› ‹_›, ec, if_pos ⟨by omega, by omega⟩]; done)
   | (have hsl : s ≤ zBS ((labs s1).getD []) ((labs s2).getD []) := js; rw [yAc ‹_› ‹_›, if_neg (by rintro ⟨q1, q2⟩; omega)]; (repeat' split) <;> first | rfl | omega)
   | (first | rfl | (simp only [zAv, refs, cR, cQ, ren, List.nil_append, List.cons_append, Nat.reduceEqDiff, ofHp, ixOf]; first | rfl | (simp; done)))
structure Kd where
 num : Int
 mn : List UInt8
 fl : List UInt8
 deriving Inhabited, DecidableEq
def kdL (a : Kd) : List D := [.it .i64 a.num, .st a.mn, .st a.fl]
def kdE (a : Kd) : D := .agg (kdL a)
theorem zND (a : Kd) : D.cells (kdE a) = kdL a := rfl
theorem zKj (a : Kd) : cellsOf (kdE a) = some (kdL a) := rfl
theorem zU5 (a : Kd) : (kdL a).length = 3 := rfl
theorem zQs (a : Kd) : List.take 3 (kdL a) = kdL a := rfl
theorem zU9 (a : Kd) : D.agg (kdL a) = kdE a := rfl
theorem zQt (a : Kd) : refs (kdE a) = [] := rfl
theorem zU6 (a : Kd) : immD (kdE a) = true := rfl
theorem zU4 {f : Nat → Option Nat} (a : Kd) : ren f (kdE a) = kdE a := rfl
theorem zU8 (a : Kd) : zDL (kdE a) = true := rfl
theorem yCe {num : Int} {mn : List UInt8} {fl : List UInt8} : D.agg [.it .i64 num, .st mn, .st fl] = kdE ⟨num, mn, fl⟩ := rfl
theorem zNC (a : Kd) : List.drop 1 (kdL a) = [.st a.mn, .st a.fl] := rfl
theorem zNB (a : Kd) : List.drop 2 (kdL a) = [.st a.fl] := rfl
theorem zNA (a : Kd) : List.drop 3 (kdL a) = [] := rfl
theorem yCf (a : Kd) : (kdL a).head? = some (.it .i64 a.num) := rfl
theorem zNz (a : Kd) : zAv (kdL a) = [] := rfl
theorem zQu (a : Kd) : immL (kdL a) = true := rfl
theorem yCg (a : Kd) : zGW (kdE a) = true := rfl
theorem yIg : ∀ a b : Kd, kdE a = kdE b → a = b := by
 intro a b h
 cases a; cases b
 simp only [kdE, kdL, D.agg.injEq, List.cons.injEq, D.st.injEq, D.it.injEq, D.bo.injEq, true_and, and_true] at h
 simp only [Kd.mk.injEq]; exact h
theorem zU7 (a b : Kd) : (kdE a = kdE b) = (a = b) := propext ⟨yIg a b, fun h => h ▸ rfl⟩
theorem zNE (a b : Kd) : again (kdE a) (kdL b) = kdE b := rfl
theorem zP0 : szT Tryz.prog 103 = some 3 := by kernel_rfl
theorem zOQ : aggT Tryz.prog 103 = some true := by kernel_rfl
theorem zNT : zHX Tryz.prog 103 = some (.agg [.it .i64 0, .st [], .st []]) := by kernel_rfl
theorem zIa : szT Tryz.prog 3 = some 1 := by kernel_rfl
theorem zG0 : aggT Tryz.prog 3 = some false := by kernel_rfl
theorem zH9 : szT Tryz.prog 9 = some 1 := by kernel_rfl
theorem zGZ : aggT Tryz.prog 9 = some false := by kernel_rfl
theorem zQJ : ∀ a : Kd, zAX Tryz.prog 103 0 (kdE a) = some (.it .i64 a.num) := fun a => by
 show zAX _ _ _ (.agg (kdL a)) = _
 simp only [zAX, zA5, Tryz.underlying102, Tryz.underlying103, zP0, zOQ, zIa, zG0, zH9, zGZ, zAC, Option.bind_some, List.getElem?_toArray, List.getElem?_cons_succ, List.getElem?_cons_zero, if_true, if_false, Bool.false_eq_true]
 rfl
theorem zQM : ∀ (H : Hp) (x : D), zA7 Tryz.prog H 103 x 0 = faD H x 0 := zEP (n := (szT Tryz.prog ((zA5 Tryz.prog 103 0).map (·.type)|>.getD 0)).getD 0) (fl := (zA5 Tryz.prog 103 0).getD default) (by kernel_rfl) (by kernel_rfl) (by decide +kernel) (by kernel_rfl)
theorem zQI : ∀ a : Kd, zAX Tryz.prog 103 1 (kdE a) = some (.st a.mn) := fun a => by
 show zAX _ _ _ (.agg (kdL a)) = _
 simp only [zAX, zA5, Tryz.underlying102, Tryz.underlying103, zP0, zOQ, zIa, zG0, zH9, zGZ, zAC, Option.bind_some, List.getElem?_toArray, List.getElem?_cons_succ, List.getElem?_cons_zero, if_true, if_false, Bool.false_eq_true]
 rfl
theorem zQL : ∀ (H : Hp) (x : D), zA7 Tryz.prog H 103 x 1 = faD H x 1 := zEP (n := (szT Tryz.prog ((zA5 Tryz.prog 103 1).map (·.type)|>.getD 0)).getD 0) (fl := (zA5 Tryz.prog 103 1).getD default) (by kernel_rfl) (by kernel_rfl) (by decide +kernel) (by kernel_rfl)
theorem zQH : ∀ a : Kd, zAX Tryz.prog 103 2 (kdE a) = some (.st a.fl) := fun a => by
 show zAX _ _ _ (.agg (kdL a)) = _
 simp only [zAX, zA5, Tryz.underlying102, Tryz.underlying103, zP0, zOQ, zIa, zG0, zH9, zGZ, zAC, Option.bind_some, List.getElem?_toArray, List.getElem?_cons_succ, List.getElem?_cons_zero, if_true, if_false, Bool.false_eq_true]
 rfl
theorem zQK : ∀ (H : Hp) (x : D), zA7 Tryz.prog H 103 x 2 = faD H x 2 := zEP (n := (szT Tryz.prog ((zA5 Tryz.prog 103 2).map (·.type)|>.getD 0)).getD 0) (fl := (zA5 Tryz.prog 103 2).getD default) (by kernel_rfl) (by kernel_rfl) (by decide +kernel) (by kernel_rfl)
theorem yC5 : ∀ (parts : List (Nat × D)), zHJ Tryz.prog 103 parts = (zJ5 (fun i => ([(0, 1), (1, 1), (2, 1)] : List (Nat × Nat))[i]?) [.it .i64 0, .st [], .st []] parts).map .agg := zUl zNT Tryz.underlying103 (by kernel_rfl)
theorem zZG : zDp Tryz.prog 131 = some 103 := by kernel_rfl
theorem zW9 : appT Tryz.prog 131 3 40 = true := by kernel_rfl
theorem zXi : zHL Tryz.prog 103 3 = some (.agg [.it .i64 0, .st [], .st []]) := by kernel_rfl
theorem zVH : ∀ (H : Hp) (nid : Nat) (s x : D), zEl Tryz.prog 131 H nid s x = appK 3 40 H nid s x := fun _ _ _ _ => zOO zW9
theorem zVI : ∀ (H : Hp) (nid : Nat) (s x : D), zD9 Tryz.prog 131 H nid s x = zQ8 3 40 H nid s x := fun _ _ _ _ => zLe zW9
theorem zQn : ∀ {α : Type} (H : Hp) (sz : Nat) (E : α → D) (xs : List α), lenD Tryz.prog H 131 (vecE sz E xs) = some (xs.length : Int) := fun _ _ _ _ => zIx Tryz.underlying131
theorem zQo : ∀ (H : Hp) (id off len : Nat), lenD Tryz.prog H 131 (.own id off len) = match H id with | .row _ _ _ => some (len : Int) | _ => none := fun _ _ _ _ => zK5 Tryz.underlying131
theorem zQa : ∀ {α : Type} (sz : Nat) (E : α → D) (xs : List α), zDu Tryz.prog 131 (vecE sz E xs) = true := fun _ _ _ => zIf Tryz.underlying131
theorem zVd : ∀ (H : Hp) (id off len : Nat) (k : IntKind) (n : Int), zA6 Tryz.prog H 131 (.own id off len) (.it k n) = match H id with | .row sz _ _ => if szT Tryz.prog 103 = some sz ∧ 0 ≤ n ∧ n < len then some (.rowp id (off + n.toNat) 0) else none | _ => none := fun _ _ _ _ _ _ => zNq Tryz.underlying131
theorem zUD : ∀ (H : Hp) (id len k : Nat) (kd : IntKind), zBm Tryz.prog H 131 (.own id 0 len) none (some (.it kd (k : Int))) none = match H id with | .row sz _ _ => if szT Tryz.prog 103 = some sz ∧ k ≤ len then some (.own id 0 k) else none | _ => none := fun _ _ _ _ _ => zN7 Tryz.underlying131
theorem zUF : ∀ (H : Hp) (id off len k : Nat) (kd : IntKind), zBm Tryz.prog H 131 (.own id off len) (some (.it kd (k : Int))) none none = match H id with | .row sz _ _ => if szT Tryz.prog 103 = some sz ∧ k ≤ len then some (.own id (off + k) (len - k)) else none | _ => none := fun _ _ _ _ _ _ => zIg Tryz.underlying131
theorem zUG : ∀ {α : Type} (H : Hp) (E : α → D) (xs : List α) (k : IntKind) (i : Nat) (_ : i ≤ xs.length), zBm Tryz.prog H 131 (vecE 3 E xs) (some (.it k (i : Int))) none none = some (vecE 3 E (xs.drop i)) := fun _ _ _ _ _ h => zIh Tryz.underlying131 zP0 h
theorem zUX : ∀ (H : Hp) (nid : Nat) (c : Int), zG9 Tryz.prog 131 H nid (.it .i64 0) (.it .i64 c) = if 0 ≤ c ∧ ((40 : Nat) : Int) * c ≤ 281474976710656 then some (.own nid 0 0, upd H nid (.row 3 true []), nid + 1) else none := fun _ _ _ => zTP zZG zXi (by kernel_rfl) (by decide)
theorem zQb : ∀ (id off len : Nat), zDu Tryz.prog 131 (.own id off len) = true := fun _ _ _ => zFp Tryz.underlying131
theorem zVc : ∀ {α : Type} [Inhabited α] (H : Hp) (E : α → D) (xs : List α) (k : IntKind) (i : Nat) (_ : (i : Int) < xs.length), zA6 Tryz.prog H 131 (vecE 3 E xs) (.it k (i : Int)) = some (.elt (E xs[i]!).cells) := fun _ _ _ _ _ h => zJ0 Tryz.underlying131 zP0 h
def kindsL : List Kd := [⟨1, [65], [52]⟩, ⟨2, [78, 83], [104]⟩, ⟨5, [67, 78, 65, 77, 69], [104]⟩, ⟨6, [83, 79, 65], [104, 109, 118, 119, 120, 121, 122]⟩, ⟨12, [80, 84, 82], [104]⟩, ⟨15, [77, 88], [65, 104]⟩, ⟨16, [84, 88, 84], [116]⟩, ⟨28, [65, 65, 65, 65], [54]⟩, ⟨33, [83, 82, 86], [65, 66, 67, 104]⟩, ⟨39, [68, 78, 65, 77, 69], [104]⟩, ⟨43, [68, 83], [65, 98, 99, 114]⟩, ⟨46, [82, 82, 83, 73, 71], [65, 115, 98, 120, 121, 122, 70, 104, 114]⟩, ⟨47, [78, 83, 69, 67], [104, 110]⟩, ⟨48, [68, 78, 83, 75, 69, 89], [65, 98, 99, 114]⟩]
def kd0 : Kd := ⟨0, [], []⟩
noncomputable def zKb := mkF (fun s : Unit => []) (fun s => True) (fun s => Res.flat (vecE 3 kdE kindsL))
theorem zSJ : zKb [] = some (Res.flat (vecE 3 kdE kindsL)) := zAB (s := ()) (fun s s' h => rfl) trivial
theorem zHq (cx : Cx) (hP : cx.P = Tryz.prog) (hbs : cx.bs = 0)   : zAj cx Tryz.f160 [] false [] = some (Res.flat (vecE 3 kdE kindsL)) := by
 obtain ⟨P, a, b, c⟩ := cx
 simp only at hP hbs
 subst hP
 subst hbs
 kernel_rfl
def zBB (t : Int) : Kd × Bool := match kindsL.find? (fun k => decide (k.num = t)) with | some k => (k, true) | none => (kd0, false)
theorem zY8 {t : Int} {i : Nat} (h0 : (kindsL.take i).any (fun k => decide (k.num = t)) = false) (h : (i : Int) < kindsL.length) (hp : kindsL[i]!.num = t) : zBB t = (kindsL[i]!, true) := by
 have hi : i < kindsL.length := by omega
 have : kindsL.find? (fun k => decide (k.num = t)) = some kindsL[i]! := by
   rw [List.find?_eq_some_iff_getElem]
   refine ⟨decide_eq_true hp, i, hi, (getElem!_pos kindsL i hi).symm, fun j hj => ?_⟩
   have h1 := List.any_eq_false.1 h0 kindsL[j] (by rw [List.mem_take_iff_getElem]; exact ⟨j, by omega, rfl⟩)
   simpa using h1
 rw [zBB, this]
theorem yCb {t : Int} (h : kindsL.any (fun k => decide (k.num = t)) = false) : zBB t = (kd0, false) := by
 have : kindsL.find? (fun k => decide (k.num = t)) = none := by rw [List.find?_eq_none]; exact List.any_eq_false.1 h
 rw [zBB, this]
theorem zZe (k : Kd) : zEw (.box (kdL k)) := by intro x hx; simp [kdL] at hx; rcases hx with rfl | rfl | rfl <;> rfl
theorem zWy : kindsL.length = 14 := rfl
theorem zDJ (t : Int) : t = 1 ∨ t = 2 ∨ t = 5 ∨ t = 6 ∨ t = 12 ∨ t = 15 ∨ t = 16 ∨ t = 28 ∨ t = 33 ∨ t = 39 ∨ t = 43 ∨ t = 46 ∨ t = 47 ∨ t = 48 ∨ (¬ 1 = t ∧ ¬ 2 = t ∧ ¬ 5 = t ∧ ¬ 6 = t ∧ ¬ 12 = t ∧ ¬ 15 = t ∧ ¬ 16 = t ∧ ¬ 28 = t ∧ ¬ 33 = t ∧ ¬ 39 = t ∧ ¬ 43 = t ∧ ¬ 46 = t ∧ ¬ 47 = t ∧ ¬ 48 = t) := by omega
theorem zOu (t : Int) : (zBB t).2 = known t := by
 rcases zDJ t with rfl | rfl | rfl | rfl | rfl | rfl | rfl | rfl | rfl | rfl | rfl | rfl | rfl | rfl | ⟨h1, h2, h3, h4, h5, h6, h7, h8, h9, h10, h11, h12, h13, h14⟩
 iterate 14 exact rfl
 unfold zBB kindsL known mnem
 rw [if_neg (fun e => h1 e.symm), if_neg (fun e => h2 e.symm), if_neg (fun e => h3 e.symm), if_neg (fun e => h4 e.symm), if_neg (fun e => h5 e.symm), if_neg (fun e => h6 e.symm), if_neg (fun e => h7 e.symm), if_neg (fun e => h8 e.symm), if_neg (fun e => h9 e.symm), if_neg (fun e => h10 e.symm), if_neg (fun e => h11 e.symm), if_neg (fun e => h12 e.symm), if_neg (fun e => h13 e.symm), if_neg (fun e => h14 e.symm)]
 simp only [List.find?, decide_eq_false h1, decide_eq_false h2, decide_eq_false h3, decide_eq_false h4, decide_eq_false h5, decide_eq_false h6, decide_eq_false h7, decide_eq_false h8, decide_eq_false h9, decide_eq_false h10, decide_eq_false h11, decide_eq_false h12, decide_eq_false h13, decide_eq_false h14]
 rfl

noncomputable def zKc := mkF (fun s : Int => [.it .i64 s]) (fun s => True) (fun s => Res.flat (.tup [kdE (zBB s).1, .bo (zBB s).2]))
theorem zSK {t1 : Int} : zKc [.it .i64 t1] = some (Res.flat (.tup [kdE (zBB t1).1, .bo (zBB t1).2])) := zAB (s := (t1)) (fun s s' h => by simp only [cI] at h; simp only [h]) trivial
theorem zHr (cx : Cx) (hP : cx.P = Tryz.prog) (hbs : cx.bs = 0) (h160 : cx.orc 160 = some zKb) (hk2 : cx.kp 2 = some [0, 2, 6, 7, 8]) (t1 : Int)  : zAj cx Tryz.f115 [] false [.it .i64 t1] = some (Res.flat (.tup [kdE (zBB t1).1, .bo (zBB t1).2])) := by
 have c160 := zAa h160
 have hw : ∀ k : Nat, (k : Int) < kindsL.length → IntKind.i64.wrap ((k : Int) + 1) = ((k + 1 : Nat) : Int) := zBL (by decide)
 refine zAg (rs := [.cell 2 103, .tmp 3]) rfl hbs rfl ?_
 repeat' first
   | (refine zAw (σ := Nat) (fun s => [.it .i64 t1, .ptr 0 0, vecE 3 kdE kindsL, .it .i64 kindsL.length, .it .i64 s]) (fun s => [.box (kdL kd0)]) (fun s => s ≤ kindsL.length ∧ (kindsL.take s).any (fun k => decide (k.num = t1)) = false) (fun s => kindsL.length - s) [0, 2, 6, 7, 8] hbs (by exact hk2) (fun q jq b hb => by simp only [List.mem_singleton] at hb; subst hb; exact zZe _) (fun s js => ?_) (s := 0) [0] ?_ ?_ ?_ ?_ ?_)
   | (refine zAR (fun h => ?_) (fun h => ?_) <;> (try simp only [cN] at h))
   | (refine zAN ?_ ?_)
   | simp only [↓cD, cU, cQ, cP, cB, zAJ, unD, zAf, zAd, idx, reduceCtorEq, ↓reduceIte, ofV, ofC, zAq, Nat.reduceEqDiff, zAG, cG, implies_true, forall_const, immL, immD, Res.flat, ren, renL, Int.reduceEq, Int.reduceLT, Int.reduceLE, Int.reduceNe, deref, ldD, zAF, zAk, zAI, zAs, cC, c160, zAo, zAp, zSJ, ↓zAM, ↓zAQ, ↓zAL, ↓zAP, ↓zAK, ↓zAO, cV, cT, cF, cW, borT, borM, zAm, Res.via, zAu, zAb, refsB, Nat.reduceLT, Nat.reduceSub, Nat.reduceLeDiff, Nat.reduceMul, Nat.reduceAdd, Int.reduceToNat, appK, zAr, zAc, borL, zAl, zAn, zAE, cO, List.replicate, zAC, ofHp, ixOf, zND, zKj, zU5, zQs, zU9, zQt, zU6, zU4, zU8, yCe, zNC, zNB, zNA, yCf, zNz, zQu, yCg, zU7, zNE, zP0, zOQ, Tryz.underlying102, Tryz.underlying103, zNT, zIa, zG0, zH9, zGZ, zQJ, zQM, zQI, zQL, zQH, zQK, yC5, zZG, zW9, zXi, zVH, zVI, zQn, zQo, zQa, zVd, zUD, zUF, zUG, zUX, zQb, zVc, hw, hP, *]
 all_goals first
   | rfl
   | omega
   | exact ⟨Nat.zero_le _, rfl⟩
   | (rw [zY8 js.2 (by omega) ‹_›]; done)
   | (have h := js.2; rw [zAW (by omega)] at h; rw [yCb h]; rfl)
   | (refine ⟨[0], s + 1, ?_, ?_, ?_, ?_, ⟨by omega, by rw [zEv (by omega), js.2, Bool.false_or]; exact decide_eq_false ‹_›⟩, by omega⟩ <;> (first | rfl | (simp only [zAv, refs, cR, cQ, ren, List.nil_append, List.cons_append, Nat.reduceEqDiff, ofHp, ixOf]; first | rfl | (simp; done))))
   | (first | rfl | (simp only [zAv, refs, cR, cQ, ren, List.nil_append, List.cons_append, Nat.reduceEqDiff, ofHp, ixOf]; first | rfl | (simp; done)))
noncomputable def zG5 := mkF (fun s : Int => [.it .i64 s]) (fun s => True) (fun s => Res.flat (.bo (known s)))
theorem zPS {t1 : Int} : zG5 [.it .i64 t1] = some (Res.flat (.bo (known t1))) := zAB (s := (t1)) (fun s s' h => by simp only [cI] at h; simp only [h]) trivial
theorem zFT (cx : Cx) (hP : cx.P = Tryz.prog) (hbs : cx.bs = 0) (h115 : cx.orc 115 = some zKc) (t1 : Int)  : zAj cx Tryz.f88 [] false [.it .i64 t1] = some (Res.flat (.bo (known t1))) := by
 have c115 := zAa h115
 refine zAg (rs := [.tmp 2]) rfl hbs rfl ?_
 repeat' first
   | (refine zAR (fun h => ?_) (fun h => ?_) <;> (try simp only [cN] at h))
   | (refine zAN ?_ ?_)
   | simp only [↓cD, cU, cQ, cP, cB, zAJ, unD, zAf, zAd, idx, reduceCtorEq, ↓reduceIte, ofV, ofC, zAq, Nat.reduceEqDiff, zAG, cG, implies_true, forall_const, immL, immD, Res.flat, ren, renL, Int.reduceEq, Int.reduceLT, Int.reduceLE, Int.reduceNe, deref, ldD, zAF, zAk, zAI, zAs, cC, c115, zAo, zAp, zSK, ↓zAM, ↓zAQ, ↓zAL, ↓zAP, ↓zAK, ↓zAO, cV, cT, cF, cW, borT, borM, zAm, Res.via, zAu, zAb, refsB, Nat.reduceLT, Nat.reduceSub, Nat.reduceLeDiff, Nat.reduceMul, Nat.reduceAdd, Int.reduceToNat, appK, zAr, zAc, borL, zAl, zAn, zAE, cO, List.replicate, zAC, ofHp, ixOf, zND, zKj, zU5, zQs, zU9, zQt, zU6, zU4, zU8, yCe, zNC, zNB, zNA, yCf, zNz, zQu, yCg, zU7, zNE, zP0, zOQ, Tryz.underlying102, Tryz.underlying103, zNT, zIa, zG0, zH9, zGZ, zQJ, zQM, zQI, zQL, zQH, zQK, yC5, zZG, zW9, zXi, zVH, zVI, zQn, zQo, zQa, zVd, zUD, zUF, zUG, zUX, zQb, zVc, zOu, hP, *]
 all_goals first
   | rfl
theorem zEB (cx : Cx) (hP : cx.P = Tryz.prog) (hbs : cx.bs = 0) (t1 : Int)  : zAj cx Tryz.f124 [] false [.it .i64 t1] = some (Res.flat (.bo (single t1))) := by
 refine zAg (rs := [.tmp 2]) rfl hbs rfl ?_
 repeat' first
   | (refine zAR (fun h => ?_) (fun h => ?_) <;> (try simp only [cN] at h))
   | (refine zAN ?_ ?_)
   | simp only [↓cD, cU, cQ, cP, cB, zAJ, unD, zAf, zAd, idx, reduceCtorEq, ↓reduceIte, ofV, ofC, zAq, Nat.reduceEqDiff, zAG, cG, implies_true, forall_const, immL, immD, Res.flat, ren, renL, Int.reduceEq, Int.reduceLT, Int.reduceLE, Int.reduceNe, deref, ldD, zAF, zAk, zAI, zAs, cC, ↓zAM, ↓zAQ, ↓zAL, ↓zAP, ↓zAK, ↓zAO, cV, cT, cF, cW, borT, borM, zAm, Res.via, zAu, zAb, refsB, Nat.reduceLT, Nat.reduceSub, Nat.reduceLeDiff, Nat.reduceMul, Nat.reduceAdd, Int.reduceToNat, appK, zAr, zAc, borL, zAl, zAn, zAE, cO, List.replicate, zAC, ofHp, ixOf, hP, *]
 all_goals first
   | rfl
   | (simp [single, *]; done)
   | (simp [single, *]; omega)
noncomputable def zFK := mkF (fun s : Int => [.it .i64 s]) (fun s => True) (fun s => Res.flat (.bo (single s)))
theorem zUr {t1 : Int} : zFK [.it .i64 t1] = some (Res.flat (.bo (single t1))) := zAB (s := (t1)) (fun s s' h => by simp only [cI] at h; simp only [h]) trivial
noncomputable def FInB := mkF (fun s : Int × Int => [.it .i64 s.1, .it .i64 s.2]) (fun s => True) (fun s => Res.flat (.bo (inB s.1 s.2)))
theorem yG6 {a1 : Int} {b1 : Int} : FInB [.it .i64 a1, .it .i64 b1] = some (Res.flat (.bo (inB a1 b1))) := zAB (s := (a1, b1)) (fun s s' h => by simp only [cI] at h; simp only [h]) trivial
theorem zNa (cx : Cx) (hP : cx.P = Tryz.prog) (hbs : cx.bs = 0) (a1 b1 : Int)  : zAj cx Tryz.f118 [] false [.it .i64 a1, .it .i64 b1] = some (Res.flat (.bo (inB a1 b1))) := by
 refine zAg (rs := [.tmp 4]) rfl hbs rfl ?_
 repeat' first
   | (refine zAR (fun h => ?_) (fun h => ?_) <;> (try simp only [cN] at h))
   | (refine zAN ?_ ?_)
   | simp only [↓cD, cU, cQ, cP, cB, zAJ, unD, zAf, zAd, idx, reduceCtorEq, ↓reduceIte, ofV, ofC, zAq, Nat.reduceEqDiff, zAG, cG, implies_true, forall_const, immL, immD, Res.flat, ren, renL, Int.reduceEq, Int.reduceLT, Int.reduceLE, Int.reduceNe, deref, ldD, zAF, zAk, zAI, zAs, cC, ↓zAM, ↓zAQ, ↓zAL, ↓zAP, ↓zAK, ↓zAO, cV, cT, cF, cW, borT, borM, zAm, Res.via, zAu, zAb, refsB, Nat.reduceLT, Nat.reduceSub, Nat.reduceLeDiff, Nat.reduceMul, Nat.reduceAdd, Int.reduceToNat, appK, zAr, zAc, borL, zAl, zAn, zAE, cO, List.replicate, zAC, ofHp, ixOf, hP, *]
 all_goals first
   | rfl
   | (simp [inB, *]; done)
   | (simp [inB, *]; omega)
theorem zFN (cx : Cx) (hP : cx.P = Tryz.prog) (hbs : cx.bs = 0) (s1 : List UInt8)  : zAj cx Tryz.f119 [] false [.st s1] = some (Res.flat (.bo (zDW s1))) := by
 refine zAg (rs := [.tmp 2]) rfl hbs rfl ?_
 repeat' first
   | (refine zAR (fun h => ?_) (fun h => ?_) <;> (try simp only [cN] at h))
   | (refine zAN ?_ ?_)
   | simp only [↓cD, cU, cQ, cP, cB, zAJ, unD, zAf, zAd, idx, reduceCtorEq, ↓reduceIte, ofV, ofC, zAq, Nat.reduceEqDiff, zAG, cG, implies_true, forall_const, immL, immD, Res.flat, ren, renL, Int.reduceEq, Int.reduceLT, Int.reduceLE, Int.reduceNe, deref, ldD, zAF, zAk, zAI, zAs, cC, ↓zAM, ↓zAQ, ↓zAL, ↓zAP, ↓zAK, ↓zAO, cV, cT, cF, cW, borT, borM, zAm, Res.via, zAu, zAb, refsB, Nat.reduceLT, Nat.reduceSub, Nat.reduceLeDiff, Nat.reduceMul, Nat.reduceAdd, Int.reduceToNat, appK, zAr, zAc, borL, zAl, zAn, zAE, cO, List.replicate, zAC, ofHp, ixOf, lens Tryz.underlying9, hP, *]
 all_goals first
   | rfl
   | (simp [zDW, *]; done)
   | (simp [zDW, *]; omega)
theorem zHf (cx : Cx) (hP : cx.P = Tryz.prog) (hbs : cx.bs = 0) (x : Adr)  : zAj cx Tryz.f116 [] false [adrE x] = some (Res.flat (.bo (vAdr x))) := by
 refine zAg (rs := [.tmp 2]) rfl hbs rfl ?_
 repeat' first
   | (refine zAR (fun h => ?_) (fun h => ?_) <;> (try simp only [cN] at h))
   | (refine zAN ?_ ?_)
   | simp only [↓cD, cU, cQ, cP, cB, zAJ, unD, zAf, zAd, idx, reduceCtorEq, ↓reduceIte, ofV, ofC, zAq, Nat.reduceEqDiff, zAG, cG, implies_true, forall_const, immL, immD, Res.flat, ren, renL, Int.reduceEq, Int.reduceLT, Int.reduceLE, Int.reduceNe, deref, ldD, zAF, zAk, zAI, zAs, cC, ↓zAM, ↓zAQ, ↓zAL, ↓zAP, ↓zAK, ↓zAO, cV, cT, cF, cW, borT, borM, zAm, Res.via, zAu, zAb, refsB, Nat.reduceLT, Nat.reduceSub, Nat.reduceLeDiff, Nat.reduceMul, Nat.reduceAdd, Int.reduceToNat, appK, zAr, zAc, borL, zAl, zAn, zAE, cO, List.replicate, zAC, ofHp, ixOf, hP, *]
 all_goals first
   | rfl
   | (simp [vAdr, *]; done)
   | (simp [vAdr, *]; omega)
theorem yCu {n : List UInt8} (h : vName n = true) : preB n [42] = decide ((n[(0 : Int).toNat]!.toNat : Int) = 42) := by
 cases n with
 | nil => exact absurd h (by decide)
 | cons x r =>
   have h1 : (((x :: r)[(0 : Int).toNat]!).toNat : Int) = (x.toNat : Int) := rfl
   rw [h1]
   simp only [preB, List.length_cons, List.length_nil, Nat.zero_add, List.take_succ_cons, List.take_zero]
   have h2 : ((x.toNat : Int) = 42) ↔ x = 42 := by
     constructor
     · intro h; apply UInt8.toNat_inj.1; have : (42 : UInt8).toNat = 42 := rfl; omega
     · intro h; subst h; rfl
   rw [Bool.eq_iff_iff]
   simp [h2]

noncomputable def zKF := mkF (fun s : (List UInt8) => [.st s]) (fun s => Sm s) (fun s => Res.flat (.bo (zBX s)))
theorem yAQ {s1 : List UInt8} (hp : Sm s1) : zKF [.st s1] = some (Res.flat (.bo (zBX s1))) := zAB (s := (s1)) (fun s s' h => by simp only [cI] at h; simp only [h]) hp
theorem zFU (cx : Cx) (hP : cx.P = Tryz.prog) (hbs : cx.bs = 0) (h42 : cx.orc 42 = some zF1) (h161 : cx.orc 161 = some FPre) (s1 : List UInt8) (hl : Sm s1) : zAj cx Tryz.f117 [] false [.st s1] = some (Res.flat (.bo (zBX s1))) := by
 have c42 := zAa h42
 have c161 := zAa h161
 refine zAg (rs := [.tmp 2]) rfl hbs rfl ?_
 repeat' first
   | (refine zAR (fun h => ?_) (fun h => ?_) <;> (try simp only [cN] at h))
   | (refine zAN ?_ ?_)
   | simp only [↓cD, cU, cQ, cP, cB, zAJ, unD, zAf, zAd, idx, reduceCtorEq, ↓reduceIte, ofV, ofC, zAq, Nat.reduceEqDiff, zAG, cG, implies_true, forall_const, immL, immD, Res.flat, ren, renL, Int.reduceEq, Int.reduceLT, Int.reduceLE, Int.reduceNe, deref, ldD, zAF, zAk, zAI, zAs, cC, c42, c161, zAo, zAp, zF0, yAI, ↓zAM, ↓zAQ, ↓zAL, ↓zAP, ↓zAK, ↓zAO, cV, cT, cF, cW, borT, borM, zAm, Res.via, zAu, zAb, refsB, Nat.reduceLT, Nat.reduceSub, Nat.reduceLeDiff, Nat.reduceMul, Nat.reduceAdd, Int.reduceToNat, appK, zAr, zAc, borL, zAl, zAn, zAE, cO, List.replicate, zAC, ofHp, ixOf, hl, zOn, hP, *]
 all_goals first
   | rfl
   | (unfold zBX; simp only [*, Bool.false_and]; done)
   | (unfold zBX; rw [← yCu ‹_›]; simp only [*, Bool.true_and]; done)
def allU : Nat → Int
 | 0 => 0
 | s + 1 => IntKind.u64.wrap (BitVec.ofInt IntKind.u64.bits (allU s) ||| BitVec.ofInt IntKind.u64.bits (IntKind.u64.wrap (1 * 2 ^ min kindsL[s]!.num.toNat IntKind.u64.bits))).toNat
@[irreducible] def ALLU : Int := 501935916552294
theorem yC8 : allU kindsL.length = ALLU := by decide +kernel
theorem zY7 : ∀ s : Nat, (s : Int) < kindsL.length → (kindsL[s]!.num < 0) = False := by
 intro s h
 have h1 : ∀ s : Fin 14, ¬ kindsL[s.1]!.num < 0 := by decide +kernel
 have := h1 ⟨s, by rw [zWy] at h; omega⟩
 simp only [eq_iff_iff, iff_false]; exact this

theorem zJR (cx : Cx) (hP : cx.P = Tryz.prog) (hbs : cx.bs = 0) (h160 : cx.orc 160 = some zKb) (hk3 : cx.kp 3 = some [1, 4, 5, 6])   : zAj cx Tryz.f120 [] false [] = some (Res.flat (.it .u64 ALLU)) := by
 have c160 := zAa h160
 have hw : ∀ k : Nat, (k : Int) < kindsL.length → IntKind.i64.wrap ((k : Int) + 1) = ((k + 1 : Nat) : Int) := zBL (by decide)
 refine zAg (rs := [.tmp 0]) rfl hbs rfl ?_
 repeat' first
   | (refine zAw (σ := Nat) (fun s => [.it .u64 (allU s), vecE 3 kdE kindsL, .it .i64 kindsL.length, .it .i64 s]) (fun s => []) (fun s => s ≤ kindsL.length) (fun s => kindsL.length - s) [1, 4, 5, 6] hbs (by exact hk3) (fun q jq b hb => by simp at hb) (fun s js => ?_) (s := 0) [] ?_ ?_ ?_ ?_ ?_)
   | (refine zAR (fun h => ?_) (fun h => ?_) <;> (try simp only [cN] at h))
   | (refine zAN ?_ ?_)
   | simp only [↓cD, cU, cQ, cP, cB, zAJ, unD, zAf, zAd, idx, reduceCtorEq, ↓reduceIte, ofV, ofC, zAq, Nat.reduceEqDiff, zAG, cG, implies_true, forall_const, immL, immD, Res.flat, ren, renL, Int.reduceEq, Int.reduceLT, Int.reduceLE, Int.reduceNe, deref, ldD, zAF, zAk, zAI, zAs, cC, c160, zAo, zAp, zSJ, ↓zAM, ↓zAQ, ↓zAL, ↓zAP, ↓zAK, ↓zAO, cV, cT, cF, cW, borT, borM, zAm, Res.via, zAu, zAb, refsB, Nat.reduceLT, Nat.reduceSub, Nat.reduceLeDiff, Nat.reduceMul, Nat.reduceAdd, Int.reduceToNat, appK, zAr, zAc, borL, zAl, zAn, zAE, cO, List.replicate, zAC, ofHp, ixOf, zND, zKj, zU5, zQs, zU9, zQt, zU6, zU4, zU8, yCe, zNC, zNB, zNA, yCf, zNz, zQu, yCg, zU7, zNE, zP0, zOQ, Tryz.underlying102, Tryz.underlying103, zNT, zIa, zG0, zH9, zGZ, zQJ, zQM, zQI, zQL, zQH, zQK, yC5, zZG, zW9, zXi, zVH, zVI, zQn, zQo, zQa, zVd, zUD, zUF, zUG, zUX, zQb, zVc, hw, zY7, hP, *]
 all_goals first
   | rfl
   | omega
   | (rw [show s = kindsL.length by omega, yC8])
   | (refine ⟨[], s + 1, ?_, ?_, ?_, ?_, by omega, by omega⟩ <;> rfl)
noncomputable def zPt := mkF (fun s : Unit => []) (fun s => True) (fun s => Res.flat (.it .u64 ALLU))
theorem yDv : zPt [] = some (Res.flat (.it .u64 ALLU)) := zAB (s := ()) (fun s s' h => rfl) trivial
theorem zOP (n : Int) : ∀ (k t : Nat), zCS n t k = true ↔ ∀ i, t ≤ i → i < t + k → bitS n i = 1 → known i = true
 | 0, t => by simp only [zCS, true_iff]; intro i h1 h2; omega
 | k + 1, t => by
   have ih := zOP n k (t + 1)
   simp only [zCS]
   constructor
   · intro h i h1 h2 hb
     by_cases e : i = t
     · subst e; rw [if_pos hb] at h; split at h; assumption; cases h
     · split at h
       · split at h
         · exact ih.1 h i (by omega) (by omega) hb
         · cases h
       · exact ih.1 h i (by omega) (by omega) hb
   · intro h
     have h2 := ih.2 fun i h1 h2 => h i (by omega) (by omega)
     split
     · rename_i hb; rw [if_pos (h t (by omega) (by omega) hb)]; exact h2
     · exact h2
theorem zQ5 (n : Int) {t : Nat} (ht : t < 64) : bitS n t = 1 ↔ (BitVec.ofInt 64 n).getLsbD t = true := by
 have e : IntKind.u64.bits = 64 := rfl
 unfold bitS
 rw [e, show min t 64 = t by omega]
 rw [← BitVec.testBit_toNat, BitVec.toNat_ofInt, Nat.testBit_eq_decide_div_mod_eq, BitVec.toNat_and, BitVec.toNat_ofInt, BitVec.toNat_ofInt, decide_eq_true_iff]
 rw [show ((1 : Int) % ((2 ^ 64 : Nat) : Int)).toNat = 1 by decide +kernel, Nat.and_one_is_mod]
 have h1 : IntKind.u64.wrap (((n.fdiv (2 ^ t) % ((2 ^ 64 : Nat) : Int)).toNat % 2 : Nat) : Int) = (((n.fdiv (2 ^ t) % ((2 ^ 64 : Nat) : Int)).toNat % 2 : Nat) : Int) := by rw [zCs]; omega
 rw [h1]
 have h2 : n.fdiv (2 ^ t) = n / 2 ^ t := Int.fdiv_eq_ediv_of_nonneg _ (Int.pow_nonneg (by decide))
 rw [h2]
 have hp : (0 : Int) < 2 ^ t := Int.pow_pos (by decide)
 have hc : (((2 : Nat) ^ 64 : Nat) : Int) = 2 ^ t * (2 * 2 ^ (63 - t)) := by
   have h3 : (2 : Nat) ^ 64 = 2 ^ t * (2 * 2 ^ (63 - t)) := by rw [← Nat.pow_succ', ← Nat.pow_add]; congr 1; omega
   rw [h3]; push_cast; rfl
 generalize hm : n % (((2 : Nat) ^ 64 : Nat) : Int) = m
 have hm0 : 0 ≤ m := by rw [← hm]; exact Int.emod_nonneg _ (by decide)
 have hn : n = 2 ^ t * ((2 * 2 ^ (63 - t)) * (n / (((2 : Nat) ^ 64 : Nat) : Int))) + m := by
   rw [← Int.mul_assoc, ← hc, ← hm]; exact (Int.mul_ediv_add_emod _ _).symm
 have hd : n / 2 ^ t = 2 * (2 ^ (63 - t) * (n / (((2 : Nat) ^ 64 : Nat) : Int))) + m / 2 ^ t := by
   rw [← Int.mul_assoc]
   conv => lhs; rw [hn]
   rw [Int.mul_add_ediv_left _ _ (by omega)]
 rw [hd]
 generalize 2 ^ (63 - t) * (n / (((2 : Nat) ^ 64 : Nat) : Int)) = q
 obtain ⟨k, rfl⟩ := Int.eq_ofNat_of_zero_le hm0
 have h4 : ((k : Int) / 2 ^ t) = ((k / 2 ^ t : Nat) : Int) := by push_cast; rfl
 rw [h4]
 simp only [Int.toNat_natCast]
 omega
theorem zSD : ∀ t : Fin 64, (BitVec.ofInt 64 ALLU).getLsbD t.1 = known t.1 := by decide +kernel
theorem yGH (n : Int) : (IntKind.u64.wrap ((BitVec.ofInt IntKind.u64.bits n &&& ~~~ BitVec.ofInt IntKind.u64.bits ALLU).toNat : Int) = 0) = (allB n = true) := by
 have e : IntKind.u64.bits = 64 := rfl
 rw [e]
 have h1 : IntKind.u64.wrap ((BitVec.ofInt 64 n &&& ~~~ BitVec.ofInt 64 ALLU).toNat : Int) = ((BitVec.ofInt 64 n &&& ~~~ BitVec.ofInt 64 ALLU).toNat : Int) := by
   rw [zCs]; have := (BitVec.ofInt 64 n &&& ~~~ BitVec.ofInt 64 ALLU).isLt; omega
 rw [h1]
 have h2 : (((BitVec.ofInt 64 n &&& ~~~ BitVec.ofInt 64 ALLU).toNat : Int) = 0) ↔ (BitVec.ofInt 64 n &&& ~~~ BitVec.ofInt 64 ALLU) = 0#64 := by
   rw [← BitVec.toNat_inj]; simp
 apply propext
 rw [h2]; unfold allB; rw [zOP]
 constructor
 · intro h i _ hi hb
   have hi : i < 64 := by omega
   rw [zQ5 n hi] at hb
   have := congrArg (fun x => x.getLsbD i) h
   simp only [BitVec.getLsbD_and, BitVec.getLsbD_not, hb, hi, decide_true, Bool.true_and, BitVec.getLsbD_zero, Bool.not_eq_false'] at this
   rw [zSD ⟨i, hi⟩] at this; exact this
 · intro h
   apply BitVec.eq_of_getLsbD_eq
   intro i hi
   simp only [BitVec.getLsbD_and, BitVec.getLsbD_not, hi, decide_true, Bool.true_and, BitVec.getLsbD_zero]
   cases hb : (BitVec.ofInt 64 n).getLsbD i with
   | false => rfl
   | true =>
     have := h i (by omega) (by omega) ((zQ5 n hi).2 hb)
     rw [zSD ⟨i, hi⟩, this]; rfl

theorem yHi (d : Dat) : (d = ⟨⟨d.adr.v6, d.adr.hi, d.adr.lo⟩, [], [], [], 0, 0, 0, 0, 0, 0, 0⟩) = (zA1 1 d = d) := propext ⟨fun h => h.symm, fun h => h.symm⟩
theorem yHh (d : Dat) : (d = ⟨⟨false, 0, 0⟩, d.host, [], [], 0, 0, 0, 0, 0, 0, 0⟩) = (zA1 2 d = d) := propext ⟨fun h => h.symm, fun h => h.symm⟩
theorem yHg (d : Dat) : (d = ⟨⟨false, 0, 0⟩, d.host, d.mail, [], d.a, d.b, d.c, d.d, d.e, 0, 0⟩) = (zA1 6 d = d) := propext ⟨fun h => h.symm, fun h => h.symm⟩
theorem yEo (d : Dat) : (d = ⟨⟨false, 0, 0⟩, d.host, [], [], d.a, 0, 0, 0, 0, 0, 0⟩) = (zA1 15 d = d) := propext ⟨fun h => h.symm, fun h => h.symm⟩
theorem yEn (d : Dat) : (d = ⟨⟨false, 0, 0⟩, [], [], d.text, 0, 0, 0, 0, 0, 0, 0⟩) = (zA1 16 d = d) := propext ⟨fun h => h.symm, fun h => h.symm⟩
theorem yEm (d : Dat) : (d = ⟨⟨false, 0, 0⟩, d.host, [], [], d.a, d.b, d.c, 0, 0, 0, 0⟩) = (zA1 33 d = d) := propext ⟨fun h => h.symm, fun h => h.symm⟩
theorem yEl (d : Dat) : (d = ⟨⟨false, 0, 0⟩, [], [], d.text, d.a, d.b, d.c, 0, 0, 0, 0⟩) = (zA1 43 d = d) := propext ⟨fun h => h.symm, fun h => h.symm⟩
theorem yEk (d : Dat) : (d = ⟨⟨false, 0, 0⟩, d.host, [], d.text, d.a, d.b, d.c, d.d, d.e, d.f, 0⟩) = (zA1 46 d = d) := propext ⟨fun h => h.symm, fun h => h.symm⟩
theorem yEj (d : Dat) : (d = ⟨⟨false, 0, 0⟩, d.host, [], [], 0, 0, 0, 0, 0, 0, d.bits⟩) = (zA1 47 d = d) := propext ⟨fun h => h.symm, fun h => h.symm⟩
theorem zXq (d : Dat) : zA1 28 d = zA1 1 d := rfl
theorem yDC (d : Dat) : zA1 5 d = zA1 2 d := rfl
theorem zXr (d : Dat) : zA1 12 d = zA1 2 d := rfl
theorem zXp (d : Dat) : zA1 39 d = zA1 2 d := rfl
theorem zXo (d : Dat) : zA1 48 d = zA1 43 d := rfl
theorem known1 : known 1 = true := rfl
theorem yDX : known 2 = true := rfl
theorem yDW : known 5 = true := rfl
theorem yDV : known 6 = true := rfl
theorem zY6 : known 12 = true := rfl
theorem zY5 : known 15 = true := rfl
theorem zY4 : known 16 = true := rfl
theorem zY3 : known 28 = true := rfl
theorem zY2 : known 33 = true := rfl
theorem zY1 : known 39 = true := rfl
theorem zY0 : known 43 = true := rfl
theorem zYZ : known 46 = true := rfl
theorem zYY : known 47 = true := rfl
theorem zYX : known 48 = true := rfl
theorem zLZ {t : Int} (h : ¬ 1 = t ∧ ¬ 2 = t ∧ ¬ 5 = t ∧ ¬ 6 = t ∧ ¬ 12 = t ∧ ¬ 15 = t ∧ ¬ 16 = t ∧ ¬ 28 = t ∧ ¬ 33 = t ∧ ¬ 39 = t ∧ ¬ 43 = t ∧ ¬ 46 = t ∧ ¬ 47 = t ∧ ¬ 48 = t) : known t = false := by
 unfold known mnem
 rw [if_neg (fun e => h.1 e.symm), if_neg (fun e => h.2.1 e.symm), if_neg (fun e => h.2.2.1 e.symm), if_neg (fun e => h.2.2.2.1 e.symm), if_neg (fun e => h.2.2.2.2.1 e.symm), if_neg (fun e => h.2.2.2.2.2.1 e.symm), if_neg (fun e => h.2.2.2.2.2.2.1 e.symm), if_neg (fun e => h.2.2.2.2.2.2.2.1 e.symm), if_neg (fun e => h.2.2.2.2.2.2.2.2.1 e.symm), if_neg (fun e => h.2.2.2.2.2.2.2.2.2.1 e.symm), if_neg (fun e => h.2.2.2.2.2.2.2.2.2.2.1 e.symm), if_neg (fun e => h.2.2.2.2.2.2.2.2.2.2.2.1 e.symm), if_neg (fun e => h.2.2.2.2.2.2.2.2.2.2.2.2.1 e.symm), if_neg (fun e => h.2.2.2.2.2.2.2.2.2.2.2.2.2 e.symm)]
 rfl
theorem eqb4 {n : Nat} (p q : Bool) : eqD Tryz.prog (n + 1) 4 (.bo p) (.bo q) = some (p == q) := by
 simp only [eqD, Tryz.underlying4]
theorem yEi {a : Adr} (h : vAdr a = false) : a.v6 = false := by
 cases hv : a.v6 with
 | false => rfl
 | true => simp [vAdr, hv] at h
theorem zMT (cx : Cx) (hP : cx.P = Tryz.prog) (hbs : cx.bs = 0) (h116 : cx.orc 116 = some zG3) (h117 : cx.orc 117 = some zKF) (h55 : cx.orc 55 = some zCj) (h118 : cx.orc 118 = some FInB) (h119 : cx.orc 119 = some zFn) (h88 : cx.orc 88 = some zG5) (h42 : cx.orc 42 = some zF1) (h120 : cx.orc 120 = some zPt) (r116 : cx.rd.contains 116 = true) (r117 : cx.rd.contains 117 = true) (r55 : cx.rd.contains 55 = true) (r118 : cx.rd.contains 118 = true) (r119 : cx.rd.contains 119 = true) (r88 : cx.rd.contains 88 = true) (r42 : cx.rd.contains 42 = true) (r120 : cx.rd.contains 120 = true) (t1 : Int) (d1 : Dat) (hl : DSm d1) : zAj cx Tryz.f89 [] false [.it .i64 t1, datE d1] = some (Res.flat (.bo (validD t1 d1))) := by
 have c116 := zAa h116
 have d116 := zAh r116 h116
 have c117 := zAa h117
 have d117 := zAh r117 h117
 have c55 := zAa h55
 have d55 := zAh r55 h55
 have c118 := zAa h118
 have d118 := zAh r118 h118
 have c119 := zAa h119
 have d119 := zAh r119 h119
 have c88 := zAa h88
 have d88 := zAh r88 h88
 have c42 := zAa h42
 have d42 := zAh r42 h42
 have c120 := zAa h120
 have d120 := zAh r120 h120
 have hl1 := hl.1; have hl2 := hl.2.1; have hl3 := hl.2.2.1
 rcases zDJ t1 with rfl | rfl | rfl | rfl | rfl | rfl | rfl | rfl | rfl | rfl | rfl | rfl | rfl | rfl | hno
 rotate_left 14
 have hn := zLZ hno
 obtain ⟨h1, h2, h3, h4, h5, h6, h7, h8, h9, h10, h11, h12, h13, h14⟩ := hno
 have g1 := Ne.symm h1; have g2 := Ne.symm h2; have g3 := Ne.symm h3; have g4 := Ne.symm h4; have g5 := Ne.symm h5; have g6 := Ne.symm h6; have g7 := Ne.symm h7; have g8 := Ne.symm h8; have g9 := Ne.symm h9; have g10 := Ne.symm h10; have g11 := Ne.symm h11; have g12 := Ne.symm h12; have g13 := Ne.symm h13; have g14 := Ne.symm h14
 all_goals
   refine zAg (rs := [.tmp 4]) rfl hbs rfl ?_
   repeat' first
     | (refine zAR (fun h => ?_) (fun h => ?_) <;> (try simp only [cN] at h))
     | (refine zAN ?_ ?_)
     | simp only [↓cD, cU, cQ, cP, cB, zAJ, unD, zAf, zAd, idx, reduceCtorEq, ↓reduceIte, ofV, ofC, zAq, Nat.reduceEqDiff, zAG, cG, implies_true, forall_const, immL, immD, Res.flat, ren, renL, Int.reduceEq, Int.reduceLT, Int.reduceLE, Int.reduceNe, deref, ldD, zAF, zAk, zAI, zAs, cC, cS, refs, zAD, okId, List.all_nil, List.all_cons, Nat.reduceMul, Nat.reduceAdd, Nat.reduceLeDiff, zAv, c116, c117, c55, c118, c119, c88, c42, c120, d116, d117, d55, d118, d119, d88, d42, d120, zAo, zAp, zFJ, yAQ, zCr, yG6, zJ8, zPS, zF0, yDv, ↓zAM, ↓zAQ, ↓zAL, ↓zAP, ↓zAK, ↓zAO, cV, cT, cF, cW, borT, borM, zAm, Res.via, zAu, zAb, refsB, Nat.reduceLT, Nat.reduceSub, Nat.reduceLeDiff, Nat.reduceMul, Nat.reduceAdd, Int.reduceToNat, appK, zAr, zAc, borL, zAl, zAn, zAE, cO, List.replicate, zAC, ofHp, ixOf, cS, refs, zAD, okId, List.all_nil, List.all_cons, Nat.reduceMul, Nat.reduceAdd, Nat.reduceLeDiff, zAv, hl1, hl2, hl3, lens Tryz.underlying9, yGH, List.append_eq, eqb4, zI8, yHi, yHh, yHg, yEo, yEn, yEm, yEl, yEk, yEj, hP, *]
   all_goals first
     | rfl
     | (simp [validD, zXq, yDC, zXr, zXp, zXo, known1, yDX, yDW, yDV, zY6, zY5, zY4, zY3, zY2, zY1, zY0, zYZ, zYY, zYX, *]; done)
     | (have hv := yEi ‹_›; simp [validD, zXq, yDC, zXr, zXp, zXo, known1, yDX, yDW, yDV, zY6, zY5, zY4, zY3, zY2, zY1, zY0, zYZ, zYY, zYX, *]; done)
theorem yDQ : ∀ (H : Hp) (nid : Nat) (n : Nat), zG9 Tryz.prog 149 H nid (.it .i64 (n : Int)) (.it .i64 (n : Int)) = if ((1 : Nat) : Int) * (n : Int) ≤ 281474976710656 then some (.own nid 0 n, upd H nid (.row 1 true (List.replicate n (.it .u8 0))), nid + 1) else none := fun _ _ _ => yDP yF7 yEh (by kernel_rfl) (by decide)
theorem yB1 {n q : Nat} {l : List Int} : List.replicate q (D.it .u8 0) ++ l.map (D.it .u8) = (List.replicate q 0 ++ l).map (D.it .u8) := by simp
theorem zVK {k : IntKind} {x : Int} {cs : List D} : again (.it k x) cs = cs.headD .un := rfl
theorem yCE {q : Nat} {l : List Int} {x : Int} (h : 0 < q) : ((List.replicate q 0 ++ l).map (D.it .u8)).set (q - 1) (.it .u8 x) = (List.replicate (q - 1) 0 ++ x :: l).map (D.it .u8) := by
 obtain ⟨k, rfl⟩ : ∃ k, q = k + 1 := ⟨q - 1, by omega⟩
 rw [Nat.add_sub_cancel, List.replicate_succ', List.append_assoc, List.map_append, List.set_append_right _ _ (by simp)]
 simp
theorem yFQ {q : Nat} {l : List Int} (h : 0 ≤ (q : Int) - 1) : ((List.replicate q 0 ++ l).map (D.it .u8))[q - 1]? = some (.it .u8 0) := by
 rw [List.map_append, List.getElem?_append_left (by simp; omega), List.getElem?_map, List.getElem?_replicate, if_pos (by omega)]; rfl
theorem zZu {q : Nat} {l : List Int} {x : Int} (h : 0 ≤ (q : Int) - 1) : ((List.replicate q 0 ++ l).map (D.it .u8)).set (q - 1) (.it .u8 x) = (List.replicate (q - 1) 0 ++ x :: l).map (D.it .u8) := yCE (by omega)
theorem zSU {v : Int} (h : 0 ≤ v) : IntKind.u8.wrap v = IntKind.u8.wrap (v.tmod 256) := by
 rw [Int.tmod_eq_emod_of_nonneg h]
 have : ∀ n : Int, IntKind.u8.wrap n = n % 256 := fun n => by simp [IntKind.wrap, IntKind.bits, IntKind.signed]
 rw [this, this]; omega
theorem zTZ {k : IntKind} (hk : ∀ x : Int, 0 ≤ x → x ≤ k.max → k.wrap x = x) {v : Int} (h : 0 ≤ v) (hv : v ≤ k.max) : ∀ j : Nat, 0 ≤ divN k v j ∧ divN k v j ≤ v := by
 intro j
 induction j with
 | zero => exact ⟨h, Int.le_refl _⟩
 | succ j ih =>
   simp only [divN]
   have h1 : (divN k v j).tdiv 256 = divN k v j / 256 := Int.tdiv_eq_ediv_of_nonneg ih.1
   rw [h1, hk _ (by omega) (by omega)]; omega
theorem zNV (x : Int) (h0 : 0 ≤ x) (h : x ≤ IntKind.i64.max) : IntKind.i64.wrap x = x := by
 have : IntKind.i64.max = 9223372036854775807 := by decide
 exact wrap64 (by omega) (by omega)
theorem zNU (x : Int) (h0 : 0 ≤ x) (h : x ≤ IntKind.u64.max) : IntKind.u64.wrap x = x := by
 have : IntKind.u64.max = 18446744073709551615 := by decide
 rw [zCs]; omega
theorem yBR {k : IntKind} (hk : ∀ x : Int, 0 ≤ x → x ≤ k.max → k.wrap x = x) {v : Int} (h : 0 ≤ v) (hv : v ≤ k.max) (m : Nat) : IntKind.u8.wrap (divN k v m) :: numI k v m = numI k v (m + 1) := by
 simp only [numI]; rw [← zSU (zTZ hk h hv m).1]
theorem zVy {k : IntKind} (hk : ∀ x : Int, 0 ≤ x → x ≤ k.max → k.wrap x = x) {v : Int} (h : 0 ≤ v) (hv : v ≤ k.max) (m : Nat) : (divN k v m).fdiv 256 = divN k v (m + 1) := by
 simp only [divN]
 have h1 := zTZ hk h hv m
 rw [Int.tdiv_eq_ediv_of_nonneg h1.1, Int.fdiv_eq_ediv_of_nonneg _ (by decide), hk _ (by omega) (by omega)]

noncomputable def zOZ := mkF (fun s : Int × Int => [.it .i64 s.1, .it .i64 s.2]) (fun s => (0 ≤ s.1 ∧ s.1 ≤ 9223372036854775807) ∧ 0 ≤ s.2 ∧ s.2 ≤ 8) (fun s => Res.flat (.st (numB .i64 s.1 s.2.toNat)))
theorem zVP {v1 : Int} {n1 : Int} (hp : (0 ≤ v1 ∧ v1 ≤ 9223372036854775807) ∧ 0 ≤ n1 ∧ n1 ≤ 8) : zOZ [.it .i64 v1, .it .i64 n1] = some (Res.flat (.st (numB .i64 v1 n1.toNat))) := zAB (s := (v1, n1)) (fun s s' h => by simp only [cI] at h; simp only [h]) hp
theorem zJz (cx : Cx) (hP : cx.P = Tryz.prog) (hbs : cx.bs = 0) (hk3 : cx.kp 3 = some [0, 5, 6]) (v1 n1 : Int) (hl : (0 ≤ v1 ∧ v1 ≤ 9223372036854775807) ∧ 0 ≤ n1 ∧ n1 ≤ 8) : zAj cx Tryz.f188 [] false [.it .i64 v1, .it .i64 n1] = some (Res.flat (.st (numB .i64 v1 n1.toNat))) := by
 obtain ⟨n, rfl⟩ := Int.eq_ofNat_of_zero_le hl.2.1
 have hv := hl.1; have hn : n ≤ 8 := (by omega)
 have hw1 : IntKind.i64.wrap ((n : Int) - 1) = (n : Int) - 1 := wrap64 (by omega) (by omega)
 have hd : ∀ k : Nat, k ≤ n → 0 ≤ (k : Int) - 1 → IntKind.i64.wrap ((k : Int) - 1 - 1) = ((k - 1 : Nat) : Int) - 1 := fun k h h' => by rw [wrap64 (by omega) (by omega)]; omega
 have hsh : ∀ m : Nat, (divN .i64 v1 m).fdiv (2 ^ min 8 IntKind.i64.bits) = divN .i64 v1 (m + 1) := fun m => zVy zNV hv.1 hv.2 m
 have hix1 : ∀ k : Nat, 0 ≤ (k : Int) - 1 → ((k : Int) - 1 < 0) = False := fun k h => by simp only [eq_iff_iff, iff_false]; omega
 have hix2 : ∀ k : Nat, k ≤ n → ((k : Int) - 1 < (n : Int)) = True := fun k h => by simp only [eq_iff_iff, iff_true]; omega
 have hix3 : ∀ k : Nat, ((k : Int) - 1).toNat = k - 1 := fun k => by omega
 refine zAg (rs := [.tmp 4]) rfl hbs rfl ?_
 repeat' first
   | (refine zAw (σ := Nat) (fun q => [.it .i64 (divN .i64 v1 (n - q)), .own 0 0 n, .it .i64 ((q : Int) - 1)]) (fun q => [.row 1 true ((List.replicate q 0 ++ numI .i64 v1 (n - q)).map (D.it .u8))]) (fun q => q ≤ n) (fun q => q) [0, 5, 6] hbs (by exact hk3) (fun q jq b hb => by simp only [List.mem_singleton] at hb; subst hb; exact zA2 (fun _ => rfl)) (fun q jq => ?_) (s := n) [0] ?_ ?_ ?_ ?_ ?_)
   | (refine zAR (fun h => ?_) (fun h => ?_) <;> (try simp only [cN] at h))
   | (refine zAN ?_ ?_)
   | simp only [↓cD, cU, cQ, cP, cB, zAJ, unD, zAf, zAd, idx, reduceCtorEq, ↓reduceIte, ofV, ofC, zAq, Nat.reduceEqDiff, zAG, cG, implies_true, forall_const, immL, immD, Res.flat, ren, renL, Int.reduceEq, Int.reduceLT, Int.reduceLE, Int.reduceNe, deref, ldD, zAF, zAk, zAI, zAs, cC, ↓zAM, ↓zAQ, ↓zAL, ↓zAP, ↓zAK, ↓zAO, cV, cT, cF, cW, borT, borM, zAm, Res.via, zAu, zAb, refsB, Nat.reduceLT, Nat.reduceSub, Nat.reduceLeDiff, Nat.reduceMul, Nat.reduceAdd, Int.reduceToNat, appK, zAr, zAc, borL, zAl, zAn, zAE, cO, List.replicate, zAC, ofHp, ixOf, zEI, hw1, hd, zVK, List.headD_cons, yFQ, zZu, yB1, hix1, hix2, hix3, yDQ, zCU Tryz.underlying149 Tryz.underlying5 sz5 Tryz.underlying9, hP, *]
 all_goals first
   | rfl
   | omega
   | (refine ⟨[0], q - 1, ?_, ?_, ?_, ?_, by omega, by omega⟩; rotate_left 2; (rw [show n - (q - 1) = (n - q) + 1 by omega, ← hsh]; rfl); (rw [show n - (q - 1) = (n - q) + 1 by omega, ← yBR zNV hv.1 hv.2]; rfl); all_goals rfl)
   | (rw [show q = 0 by omega, Nat.sub_zero, List.replicate_zero, List.nil_append, List.take_of_length_le (by rw [zHE]; omega)]; rfl)
   | (simp only [Nat.sub_self, numI, List.append_nil, List.map_replicate, divN]; done)
theorem yCQ {k : IntKind} (hk : ∀ x : Int, 0 ≤ x → x ≤ k.max → k.wrap x = x) {v : Int} (h : 0 ≤ v) (hv : v ≤ k.max) : ∀ j : Nat, divN k v j = v.fdiv (2 ^ (8 * j)) := by
 intro j
 induction j with
 | zero => simp [divN]
 | succ j ih =>
   rw [← zVy hk h hv, ih, Int.fdiv_eq_ediv_of_nonneg _ (by decide), Int.fdiv_eq_ediv_of_nonneg _ (Int.pow_nonneg (by decide)), Int.fdiv_eq_ediv_of_nonneg _ (Int.pow_nonneg (by decide)), Int.ediv_ediv_of_nonneg (Int.pow_nonneg (by decide))]
   congr 1
   rw [show 8 * (j + 1) = 8 * j + 8 by omega, Int.pow_add]; rfl
theorem zYJ (k : IntKind) (v : Int) : ∀ (n s : Nat), s < n → (numI k v n)[s]? = some (IntKind.u8.wrap ((divN k v (n - 1 - s)).tmod 256))
 | 0, s, h => by omega
 | n + 1, 0, h => by simp [numI]
 | n + 1, s + 1, h => by
   have := zYJ k v n s (by omega)
   simp only [numI, List.getElem?_cons_succ, this]
   congr 4; omega
theorem yBQ {v : Int} (h : U64 v) {s : Nat} (hs : (s : Int) < 8) : (((numI .u64 v 8).take s ++ List.replicate (8 - s) 0).map (D.it .u8)).set s (.it .u8 (IntKind.u8.wrap (divN .u64 v (7 - s)))) = ((numI .u64 v 8).take (s + 1) ++ List.replicate (8 - (s + 1)) 0).map (D.it .u8) := by
 have h1 := zYJ .u64 v 8 s (by omega)
 have hl := zHE .u64 v 8
 have h3 : 0 ≤ divN .u64 v (7 - s) := (zTZ zNU h.1 (by have : IntKind.u64.max = 18446744073709551615 := (by decide); have hh := h.2; omega) _).1
 have h2 : (numI .u64 v 8).take (s + 1) = (numI .u64 v 8).take s ++ [IntKind.u8.wrap (divN .u64 v (7 - s))] := by
   rw [List.take_add_one, h1, zSU h3]; rfl
 rw [h2, show 8 - s = (8 - (s + 1)) + 1 by omega, List.replicate_succ, List.map_append, List.set_append_right _ _ (by simp; omega)]
 have : s - (List.map (D.it IntKind.u8) (List.take s (numI IntKind.u64 v 8))).length = 0 := by simp; omega
 rw [this]; simp
theorem yFk {v : Int} {s : Nat} (hs : (s : Int) < 8) : (((numI .u64 v 8).take s ++ List.replicate (8 - s) 0).map (D.it .u8))[s]? = some (.it .u8 0) := by
 have hl := zHE .u64 v 8
 rw [List.map_append, List.getElem?_append_right (by simp; omega)]
 have : s - (List.map (D.it IntKind.u8) (List.take s (numI IntKind.u64 v 8))).length = 0 := by simp; omega
 rw [this, show 8 - s = (8 - (s + 1)) + 1 by omega, List.replicate_succ]; rfl

noncomputable def FByA := mkF (fun s : Int => [.it .u64 s]) (fun s => U64 s) (fun s => Res.row 1 ((numI .u64 s 8).map (D.it .u8)))
theorem yHc {v1 : Int} (hp : U64 v1) : FByA [.it .u64 v1] = some (Res.row 1 ((numI .u64 v1 8).map (D.it .u8))) := zAB (s := (v1)) (fun s s' h => by simp only [cI] at h; simp only [h]) hp
theorem zNk (cx : Cx) (hP : cx.P = Tryz.prog) (hbs : cx.bs = 0) (hk3 : cx.kp 3 = some [0, 3, 7, 8]) (v1 : Int) (hl : U64 v1) : zAj cx Tryz.f202 [0] false [.it .u64 v1] = some (Res.row 1 ((numI .u64 v1 8).map (D.it .u8))) := by
 have hm : ∀ (H : Hp) (nid : Nat), zG9 Tryz.prog 149 H nid (.it .i64 8) (.it .i64 8) = some (.own nid 0 8, upd H nid (.row 1 true (List.replicate 8 (.it .u8 0))), nid + 1) := fun H nid => by have := yDQ H nid 8; simpa using this
 have hw : ∀ j : Nat, (j : Int) < 8 → IntKind.i64.wrap ((j : Int) + 1) = ((j + 1 : Nat) : Int) := fun j h => by rw [wrap64 (by omega) (by omega)]; simp
 have hw2 : ∀ j : Nat, (j : Int) < 8 → IntKind.i64.wrap (8 * (j : Int)) = ((8 * j : Nat) : Int) := fun j h => by rw [wrap64 (by omega) (by omega)]; simp
 have hw3 : ∀ j : Nat, (j : Int) < 8 → IntKind.i64.wrap (56 - ((8 * j : Nat) : Int)) = ((56 - 8 * j : Nat) : Int) := fun j h => by rw [wrap64 (by omega) (by omega)]; omega
 have hz : ∀ k : Nat, ((k : Int) < 0) = False := fun k => by simp
 have hsh : ∀ j : Nat, (j : Int) < 8 → v1.fdiv (2 ^ min (56 - 8 * j) IntKind.u64.bits) = divN .u64 v1 (7 - j) := fun j h => by have : IntKind.u64.max = 18446744073709551615 := (by decide); have hh := hl.2; rw [yCQ zNU hl.1 (by omega)]; congr 2; show min (56 - 8 * j) 64 = _; omega
 refine zDv (rs := [.tmp 2]) rfl hbs rfl ?_
 repeat' first
   | (refine zAw (σ := Nat) (fun s => [.it .u64 v1, .own 0 0 8, .it .i64 8, .it .i64 s]) (fun s => [.row 1 true (((numI .u64 v1 8).take s ++ List.replicate (8 - s) 0).map (D.it .u8))]) (fun s => s ≤ 8) (fun s => 8 - s) [0, 3, 7, 8] hbs (by exact hk3) (fun q jq b hb => by simp only [List.mem_singleton] at hb; subst hb; exact zA2 (fun _ => rfl)) (fun s js => ?_) (s := 0) [1] ?_ ?_ ?_ ?_ ?_)
   | (refine zAR (fun h => ?_) (fun h => ?_) <;> (try simp only [cN] at h))
   | (refine zAN ?_ ?_)
   | simp only [↓cD, cU, cQ, cP, cB, zAJ, unD, zAf, zAd, idx, reduceCtorEq, ↓reduceIte, ofV, ofC, zAq, Nat.reduceEqDiff, zAG, cG, implies_true, forall_const, immL, immD, Res.flat, ren, renL, Int.reduceEq, Int.reduceLT, Int.reduceLE, Int.reduceNe, deref, ldD, zAF, zAk, zAI, zAs, cC, ↓zAM, ↓zAQ, ↓zAL, ↓zAP, ↓zAK, ↓zAO, cV, cT, cF, cW, borT, borM, zAm, Res.via, zAu, zAb, refsB, Nat.reduceLT, Nat.reduceSub, Nat.reduceLeDiff, Nat.reduceMul, Nat.reduceAdd, Int.reduceToNat, appK, zAr, zAc, borL, zAl, zAn, zAE, cO, List.replicate, zAC, ofHp, ixOf, zVK, List.headD_cons, hm, hw, hw2, hw3, hz, hsh, yBQ hl, yFk, hP, *]
 all_goals first
   | rfl
   | omega
   | (refine ⟨[0], s + 1, ?_, ?_, ?_, ?_, by omega, by omega⟩ <;> rfl)
   | (rw [show s = 8 by omega, Nat.sub_self, List.replicate_zero, List.append_nil, List.take_of_length_le (by rw [zHE]; omega)]; exact ⟨_, _, _, _, rfl, rfl, by simp [zHE], zBP (fun _ => rfl), rfl⟩)
theorem zUg (x : Int) : [D.it .u8 x].mapM byteOfD = some [zDq x] := rfl
theorem zYI {n : Nat} : [zDq (IntKind.u8.wrap (n : Int))] = numB .i64 n 1 := by
 simp only [numB, numI, divN, List.map_cons, List.map_nil]
 rw [zSU (by omega)]

noncomputable def zKA := mkF (fun s : (List UInt8) => [.st s]) (fun s => Sm s) (fun s => Res.flat (.st (zBH s)))
theorem yAK {s1 : List UInt8} (hp : Sm s1) : zKA [.st s1] = some (Res.flat (.st (zBH s1))) := zAB (s := (s1)) (fun s s' h => by simp only [cI] at h; simp only [h]) hp
theorem zHn (cx : Cx) (hP : cx.P = Tryz.prog) (hbs : cx.bs = 0) (h164 : cx.orc 164 = some zKa) (hk3 : cx.kp 3 = some [3, 7, 8, 9]) (s1 : List UInt8) (hl : Sm s1) : zAj cx Tryz.f184 [] false [.st s1] = some (Res.flat (.st (zBH s1))) := by
 have c164 := zAa h164
 have hw : ∀ k : Nat, (k : Int) < ((labs s1).getD []).length → IntKind.i64.wrap ((k : Int) + 1) = ((k + 1 : Nat) : Int) := fun k h => by have := zCl s1; rw [wrap64 (by omega) (by omega)]; simp
 have hnn : ∀ k : Nat, (0 ≤ (k : Int)) = True := fun k => by simp
 have hlt := zCl s1
 have hel : ∀ k : Nat, (k : Int) < ((labs s1).getD []).length → (((labs s1).getD []).map D.st)[k]? = some (.st ((labs s1).getD [])[k]!) := fun k h => getm (by omega)
 refine zAg (rs := [.tmp 2]) rfl hbs rfl ?_
 repeat' first
   | (refine zAw (σ := Nat) (fun s => [.st (wnL (((labs s1).getD []).take s)), .own 0 0 ((labs s1).getD []).length, .it .i64 ((labs s1).getD []).length, .it .i64 s]) (fun s => [.row 1 true (((labs s1).getD []).map D.st)]) (fun s => s ≤ ((labs s1).getD []).length) (fun s => ((labs s1).getD []).length - s) [3, 7, 8, 9] hbs (by exact hk3) (fun q jq b hb => by simp only [List.mem_singleton] at hb; subst hb; exact zA2 (fun _ => rfl)) (fun s js => ?_) (s := 0) [0] ?_ ?_ ?_ ?_ ?_)
   | (refine zAR (fun h => ?_) (fun h => ?_) <;> (try simp only [cN] at h))
   | (refine zAN ?_ ?_)
   | simp only [↓cD, cU, cQ, cP, cB, zAJ, unD, zAf, zAd, idx, reduceCtorEq, ↓reduceIte, ofV, ofC, zAq, Nat.reduceEqDiff, zAG, cG, implies_true, forall_const, immL, immD, Res.flat, ren, renL, Int.reduceEq, Int.reduceLT, Int.reduceLE, Int.reduceNe, deref, ldD, zAF, zAk, zAI, zAs, cC, c164, zAo, zAp, zSI, ↓zAM, ↓zAQ, ↓zAL, ↓zAP, ↓zAK, ↓zAO, cV, cT, cF, cW, borT, borM, zAm, Res.via, zAu, zAb, refsB, Nat.reduceLT, Nat.reduceSub, Nat.reduceLeDiff, Nat.reduceMul, Nat.reduceAdd, Int.reduceToNat, appK, zAr, zAc, borL, zAl, zAn, zAE, cO, List.replicate, zAC, ofHp, ixOf, lens Tryz.underlying9, hl, hw, hnn, hlt, hel, zUg, zYI, zEI, zCU Tryz.underlying149 Tryz.underlying5 sz5 Tryz.underlying9, Res.row, Res.rowd, hP, *]
 all_goals first
   | rfl
   | omega
   | (have := zOt (n := s1) (i := s) (by omega); have := zFB (n := s1) (i := s); simp only [List.length_append, zBk]; omega)
   | (refine ⟨[0], s + 1, ?_, ?_, ?_, ?_, by omega, by omega⟩; rotate_left 2; (rw [takeN (by omega), zKf]; rfl); all_goals (first | rfl | (simp only [zAv, refs, cR, cQ, ren, List.nil_append, List.cons_append, Nat.reduceEqDiff, ofHp, ixOf]; first | rfl | (simp; done))))
   | (have := zFB (n := s1) (i := s); (try simp only [zBk]); omega)
   | (rw [zAW (by omega)]; rfl)
   | (first | rfl | (simp only [zAv, refs, cR, cQ, ren, List.nil_append, List.cons_append, Nat.reduceEqDiff, ofHp, ixOf]; first | rfl | (simp; done)))
def zI7 (c : UInt8) (s : List UInt8) : List UInt8 := (s.reverse.dropWhile (· == c)).reverse
theorem zMn (c : UInt8) (s : List UInt8) (x : UInt8) : zI7 c (s ++ [x]) = if x = c then zI7 c s else s ++ [x] := by
 simp only [zI7, List.reverse_append, List.reverse_cons, List.reverse_nil, List.nil_append, List.cons_append, List.dropWhile_cons, beq_iff_eq]
 split <;> simp
theorem zMu {s : List UInt8} (h : 0 < (s.length : Int)) : s = s.take (s.length - 1) ++ [s[s.length - 1]!] := by
 have hn : s ≠ [] := by intro e; subst e; simp at h
 conv => lhs; rw [← List.dropLast_concat_getLast hn]
 rw [List.dropLast_eq_take, List.getLast_eq_getElem, getElem!_pos s (s.length - 1) (by omega)]
theorem zXw {c : UInt8} {s : List UInt8} (h : 0 < (s.length : Int)) (hc' : (s[s.length - 1]!.toNat : Int) = (c.toNat : Int)) : zI7 c (s.take (s.length - 1)) = zI7 c s := by
 have hc : s[s.length - 1]! = c := UInt8.toNat_inj.1 (by omega)
 conv => rhs; rw [zMu h, zMn, if_pos hc]
theorem zXx {c : UInt8} {s : List UInt8} (h : 0 < (s.length : Int)) (hc' : ¬ (s[s.length - 1]!.toNat : Int) = (c.toNat : Int)) : zI7 c s = s := by
 have hc : ¬ s[s.length - 1]! = c := fun e => hc' (by rw [e])
 conv => lhs; rw [zMu h, zMn, if_neg hc, ← zMu h]

noncomputable def FTrB := mkF (fun s : (List UInt8) × UInt8 => [.st s.1, .it .u8 s.2.toNat]) (fun s => s.1.length ≤ 1000000) (fun s => Res.flat (.st (zI7 s.2 s.1)))
theorem yGW {a1 : List UInt8} {c1 : UInt8} (hp : a1.length ≤ 1000000) : FTrB [.st a1, .it .u8 c1.toNat] = some (Res.flat (.st (zI7 c1 a1))) := zAB (s := (a1, c1)) (fun s s' h => by simp only [List.cons.injEq, D.it.injEq, D.st.injEq, true_and, and_true, Int.ofNat_inj, UInt8.toNat_inj] at h; simp only [h]) hp
theorem zMW (cx : Cx) (hP : cx.P = Tryz.prog) (hbs : cx.bs = 0) (hk1 : cx.kp 1 = some [0, 1]) (a1 : List UInt8) (c1 : UInt8) (hl : a1.length ≤ 1000000) : zAj cx Tryz.f207 [] false [.st a1, .it .u8 c1.toNat] = some (Res.flat (.st (zI7 c1 a1))) := by
 have hw : ∀ l : List UInt8, l.length ≤ a1.length → 0 < (l.length : Int) → IntKind.i64.wrap ((l.length : Int) - 1) = ((l.length - 1 : Nat) : Int) := fun l h h' => by rw [wrap64 (by omega) (by omega)]; omega
 have hb : ∀ l : List UInt8, 0 < (l.length : Int) → (((l.length - 1 : Nat) : Int) < (l.length : Int)) = True := fun l h => by simp only [eq_iff_iff, iff_true]; omega
 have hsl : ∀ (l : List UInt8) (H : Hp) (k : IntKind), zBm Tryz.prog H 9 (.st l) none (some (.it k ((l.length - 1 : Nat) : Int))) none = some (.st (l.take (l.length - 1))) := fun l H k => zRA Tryz.underlying9 (by omega)
 refine zAg (rs := [.tmp 4]) rfl hbs rfl ?_
 repeat' first
   | (refine zAY (σ := List UInt8) (fun s1 => [.st s1, .it .u8 c1.toNat]) (fun s1 => s1.length ≤ a1.length ∧ zI7 c1 s1 = zI7 c1 a1) (fun s1 => s1.length) [0, 1] hbs (by exact hk1) (fun s1 => by simp only [zAv, refs, zBb, zBc, zBe, List.append_nil]) (fun s1 j1 => ?_) (s := a1) ?_ ?_)
   | (refine zAR (fun h => ?_) (fun h => ?_) <;> (try simp only [cN] at h))
   | (refine zAN ?_ ?_)
   | simp only [↓cD, cU, cQ, cP, cB, zAJ, unD, zAf, zAd, idx, reduceCtorEq, ↓reduceIte, ofV, ofC, zAq, Nat.reduceEqDiff, zAG, cG, implies_true, forall_const, immL, immD, Res.flat, ren, renL, Int.reduceEq, Int.reduceLT, Int.reduceLE, Int.reduceNe, deref, ldD, zAF, zAk, zAI, zAs, cC, ↓zAM, ↓zAQ, ↓zAL, ↓zAP, ↓zAK, ↓zAO, cV, cT, cF, cW, borT, borM, zAm, Res.via, zAu, zAb, refsB, Nat.reduceLT, Nat.reduceSub, Nat.reduceLeDiff, Nat.reduceMul, Nat.reduceAdd, Int.reduceToNat, appK, zAr, zAc, borL, zAl, zAn, zAE, cO, List.replicate, zAC, ofHp, ixOf, lens Tryz.underlying9, ixs Tryz.underlying9, hw, hb, hsl, hP, *]
 all_goals first
   | rfl
   | exact ⟨Nat.le_refl _, rfl⟩
   | omega
   | (refine ⟨_, rfl, ⟨by simp only [List.length_take]; omega, ?_⟩, by simp only [List.length_take]; omega⟩; rw [zXw ‹_› ‹_›]; exact j1.2)
   | (rw [← j1.2, zXx ‹_› ‹_›]; done)
   | (rw [← j1.2]; have e : s1 = [] := (by cases s1 with | nil => rfl | cons a b => simp at *); rw [e]; rfl)
noncomputable def FTrR := mkF (fun s : (List UInt8) × UInt8 => [.st s.1, .st [s.2]]) (fun s => s.1.length ≤ 1000000 ∧ (s.2.toNat : Int) < 128) (fun s => Res.flat (.st (zI7 s.2 s.1)))
theorem yAD {a1 : List UInt8} {c1 : UInt8} (hp : a1.length ≤ 1000000 ∧ (c1.toNat : Int) < 128) : FTrR [.st a1, .st [c1]] = some (Res.flat (.st (zI7 c1 a1))) := zAB (s := (a1, c1)) (fun s s' h => by simp only [cI] at h; simp only [h]) hp
theorem zMV (cx : Cx) (hP : cx.P = Tryz.prog) (hbs : cx.bs = 0) (h207 : cx.orc 207 = some FTrB) (a1 : List UInt8) (c1 : UInt8) (hl : a1.length ≤ 1000000 ∧ (c1.toNat : Int) < 128) : zAj cx Tryz.f203 [] false [.st a1, .st [c1]] = some (Res.flat (.st (zI7 c1 a1))) := by
 have c207 := zAa h207
 have hl1 := hl.1; have hl2 := hl.2
 have hc2 : ([c1] == ([] : List UInt8)) = false := rfl
 have hix : ∀ k : IntKind, zGd Tryz.prog 9 (.st [c1]) (.it k 0) = some (.it .u8 c1.toNat) := fun k => by rw [ixsN Tryz.underlying9 (by decide) (by simp)]; rfl
 refine zAg (rs := [.tmp 4]) rfl hbs rfl ?_
 repeat' first
   | (refine zAR (fun h => ?_) (fun h => ?_) <;> (try simp only [cN] at h))
   | (refine zAN ?_ ?_)
   | simp only [↓cD, cU, cQ, cP, cB, zAJ, unD, zAf, zAd, idx, reduceCtorEq, ↓reduceIte, ofV, ofC, zAq, Nat.reduceEqDiff, zAG, cG, implies_true, forall_const, immL, immD, Res.flat, ren, renL, Int.reduceEq, Int.reduceLT, Int.reduceLE, Int.reduceNe, deref, ldD, zAF, zAk, zAI, zAs, cC, c207, zAo, zAp, yGW, ↓zAM, ↓zAQ, ↓zAL, ↓zAP, ↓zAK, ↓zAO, cV, cT, cF, cW, borT, borM, zAm, Res.via, zAu, zAb, refsB, Nat.reduceLT, Nat.reduceSub, Nat.reduceLeDiff, Nat.reduceMul, Nat.reduceAdd, Int.reduceToNat, appK, zAr, zAc, borL, zAl, zAn, zAE, cO, List.replicate, zAC, ofHp, ixOf, lens Tryz.underlying9, ixs Tryz.underlying9, hl1, hl2, hc2, hix, hP, *]
 all_goals first
   | rfl
   | (subst_vars; rfl)
   | (simp_all [zI7]; done)
def orV (n : Int) (i : Nat) : Nat → Int
 | 0 => 0
 | j + 1 => if bitS n (8 * i + j) = 1 then IntKind.u8.wrap (BitVec.ofInt IntKind.u8.bits (orV n i j) ||| BitVec.ofInt IntKind.u8.bits ((128 : Int).fdiv (2 ^ min j IntKind.u8.bits))).toNat else orV n i j
def obB (n : Int) : Nat → List UInt8
 | 0 => []
 | i + 1 => obB n i ++ [zDq (orV n i 8)]
theorem yAu (n : Int) {t : Nat} (ht : t < 64) : bitS n t = if (BitVec.ofInt 64 n).getLsbD t then 1 else 0 := by
 have h := zQ5 n ht
 have h0 : bitS n t = 0 ∨ bitS n t = 1 := by
   have e : IntKind.u64.bits = 64 := rfl
   unfold bitS
   rw [e, BitVec.toNat_and, show (BitVec.ofInt 64 1).toNat = 1 by decide, Nat.and_one_is_mod]
   rw [zCs]; omega
 split
 · exact h.2 ‹_›
 · rcases h0 with h0 | h0
   · exact h0
   · exact absurd (h.1 h0) ‹_›
def orB (b : Nat → Bool) : Nat → Int
 | 0 => 0
 | j + 1 => if b j then IntKind.u8.wrap (BitVec.ofInt IntKind.u8.bits (orB b j) ||| BitVec.ofInt IntKind.u8.bits ((128 : Int).fdiv (2 ^ min j IntKind.u8.bits))).toNat else orB b j
def addB (b : Nat → Bool) : Nat → Int
 | 0 => 0
 | j + 1 => IntKind.i64.wrap (IntKind.i64.wrap (addB b j * 2) + IntKind.i64.wrap (if b j then 1 else 0))
theorem yHX (n : Int) {i : Nat} (hi : i < 8) : ∀ j, j ≤ 8 → orV n i j = orB (fun k => (BitVec.ofInt 64 n).getLsbD (8 * i + k)) j
 | 0, _ => rfl
 | j + 1, h => by
   simp only [orV, orB, yHX n hi j (by omega)]
   rw [yAu n (by omega)]
   by_cases hx : (BitVec.ofInt 64 n).getLsbD (8 * i + j) = true
   · simp only [hx, if_true]
   · simp only [hx]; rfl
theorem yEe (n : Int) {i : Nat} (hi : i < 8) : ∀ j, j ≤ 8 → bitV n i j = addB (fun k => (BitVec.ofInt 64 n).getLsbD (8 * i + k)) j
 | 0, _ => rfl
 | j + 1, h => by
   simp only [bitV, addB, yEe n hi j (by omega)]
   rw [show i * 8 + j = 8 * i + j by omega, yAu n (by omega)]
def b8 (a b c d e f g h : Bool) : Nat → Bool
 | 0 => a | 1 => b | 2 => c | 3 => d | 4 => e | 5 => f | 6 => g | _ => h
theorem zYw {b c : Nat → Bool} : ∀ j, (∀ k, k < j → b k = c k) → orB b j = orB c j
 | 0, _ => rfl
 | j + 1, h => by simp only [orB, zYw j (fun k hk => h k (by omega)), h j (by omega)]
theorem zVL {b c : Nat → Bool} : ∀ j, (∀ k, k < j → b k = c k) → addB b j = addB c j
 | 0, _ => rfl
 | j + 1, h => by simp only [addB, zVL j (fun k hk => h k (by omega)), h j (by omega)]
theorem yJN : ∀ a b c d e f g h : Bool, zDq (orB (b8 a b c d e f g h) 8) = zDq (IntKind.u8.wrap (addB (b8 a b c d e f g h) 8)) ∧ (addB (b8 a b c d e f g h) 8 = 0 ↔ zDq (orB (b8 a b c d e f g h) 8) = 0) := by decide +kernel
theorem yJM (b : Nat → Bool) : ∀ k, k < 8 → b k = b8 (b 0) (b 1) (b 2) (b 3) (b 4) (b 5) (b 6) (b 7) k := by
 intro k hk
 match k, hk with
 | 0, _ => rfl
 | 1, _ => rfl
 | 2, _ => rfl
 | 3, _ => rfl
 | 4, _ => rfl
 | 5, _ => rfl
 | 6, _ => rfl
 | 7, _ => rfl
theorem yAn (n : Int) {i : Nat} (hi : i < 8) : zDq (orV n i 8) = zDq (IntKind.u8.wrap (bitV n i 8)) ∧ (bitV n i 8 = 0 ↔ zDq (orV n i 8) = 0) := by
 rw [yHX n hi 8 (by omega), yEe n hi 8 (by omega), zYw 8 (yJM _), zVL 8 (yJM _)]
 exact yJN _ _ _ _ _ _ _ _
theorem yDO (n : Int) : ∀ i, i ≤ 8 → obB n i = (bmI n i).map zDq
 | 0, _ => rfl
 | i + 1, h => by simp only [obB, bmI, yDO n i (by omega), List.map_append, List.map_cons, List.map_nil, (yAn n (i := i) (by omega)).1]
theorem zXy (n : Int) : ∀ i, i ≤ 8 → zI7 0 (obB n i) = ((bmI n i).take (zBg n i)).map zDq
 | 0, _ => rfl
 | i + 1, h => by
   have hb := yAn n (i := i) (by omega)
   have hl := zBU n i
   rw [obB, zMn]
   simp only [bmI, zBg]
   by_cases h0 : bitV n i 8 = 0
   · rw [if_pos (hb.2.1 h0), if_pos h0, zXy n i (by omega), List.take_append_of_le_length (by rw [hl]; exact zB5 n i)]
   · rw [if_neg (fun e => h0 (hb.2.2 e)), if_neg h0, List.take_of_length_le (by simp [hl]), List.map_append, ← yDO n i (by omega), hb.1]; rfl
theorem yBa (n : Int) : zI7 0 (obB n 8) = bmB n := zXy n 8 (by omega)
theorem zQk (n : Int) : ∀ i, (obB n i).length = i
 | 0 => rfl
 | i + 1 => by simp [obB, zQk n i]

noncomputable def FBmP := mkF (fun s : Int => [.it .u64 s]) (fun s => True) (fun s => Res.flat (.st (bmB s)))
theorem yHd {n1 : Int} : FBmP [.it .u64 n1] = some (Res.flat (.st (bmB n1))) := zAB (s := (n1)) (fun s s' h => by simp only [cI] at h; simp only [h]) trivial
theorem zNl (cx : Cx) (hP : cx.P = Tryz.prog) (hbs : cx.bs = 0) (h203 : cx.orc 203 = some FTrR) (hk3 : cx.kp 3 = some [0, 3, 7]) (hk7 : cx.kp 7 = some [0, 3, 4, 5, 7, 10]) (n1 : Int)  : zAj cx Tryz.f186 [] false [.it .u64 n1] = some (Res.flat (.st (bmB n1))) := by
 have c203 := zAa h203
 have hw : ∀ j : Nat, (j : Int) < 8 → IntKind.i64.wrap ((j : Int) + 1) = ((j + 1 : Nat) : Int) := fun j h => by rw [wrap64 (by omega) (by omega)]; simp
 have hw8 : ∀ i : Nat, (i : Int) < 8 → IntKind.i64.wrap (8 * (i : Int)) = ((8 * i : Nat) : Int) := fun j h => by rw [wrap64 (by omega) (by omega)]; simp
 have hz : ∀ k : Nat, ((k : Int) < 0) = False := fun k => by simp
 have hu : ∀ i j : Nat, (i : Int) < 8 → (j : Int) < 8 → IntKind.i64.wrap (((8 * i : Nat) : Int) + (j : Int)) = ((8 * i + j : Nat) : Int) := fun i j h h' => by rw [wrap64 (by omega) (by omega)]; omega
 have hl8 := zQk n1
 have htr : ∀ s : Nat, s ≤ 8 → FTrR [.st (obB n1 s), .st [0]] = some (Res.flat (.st (zI7 0 (obB n1 s)))) := fun s h => yAD (a1 := obB n1 s) (c1 := 0) ⟨by rw [zQk]; omega, by decide⟩
 have hbs8 : (∀ t : Nat, IntKind.u64.wrap (BitVec.ofInt IntKind.u64.bits (n1.fdiv (2 ^ (min t IntKind.u64.bits))) &&& BitVec.ofInt IntKind.u64.bits 1).toNat = bitS n1 t) := fun t => rfl
 refine zAg (rs := [.tmp 2]) rfl hbs rfl ?_
 repeat' first
   | (refine zAY (σ := Nat) (fun s3 => [.it .u64 n1, .st (obB n1 s3), .it .i64 s3]) (fun s3 => s3 ≤ 8) (fun s3 => 8 - s3) [0, 3, 7] hbs (by exact hk3) (fun s3 => by simp only [zAv, refs, zBb, zBc, zBe, List.append_nil]) (fun s3 j3 => ?_) (s := 0) ?_ ?_)
   | (refine zAY (σ := Nat) (fun s7 => [.it .u64 n1, .st (obB n1 s3), .it .i64 s3, .it .u8 (orV n1 s3 s7), .it .i64 s3, .it .i64 s7]) (fun s7 => s7 ≤ 8) (fun s7 => 8 - s7) [0, 3, 4, 5, 7, 10] hbs (by exact hk7) (fun s7 => by simp only [zAv, refs, zBb, zBc, zBe, List.append_nil]) (fun s7 j7 => ?_) (s := 0) ?_ ?_)
   | (refine zAR (fun h => ?_) (fun h => ?_) <;> (try simp only [cN] at h))
   | (refine zAN ?_ ?_)
   | simp only [↓cD, cU, cQ, cP, cB, zAJ, unD, zAf, zAd, idx, reduceCtorEq, ↓reduceIte, ofV, ofC, zAq, Nat.reduceEqDiff, zAG, cG, implies_true, forall_const, immL, immD, Res.flat, ren, renL, Int.reduceEq, Int.reduceLT, Int.reduceLE, Int.reduceNe, deref, ldD, zAF, zAk, zAI, zAs, cC, c203, zAo, zAp, yAD, ↓zAM, ↓zAQ, ↓zAL, ↓zAP, ↓zAK, ↓zAO, cV, cT, cF, cW, borT, borM, zAm, Res.via, zAu, zAb, refsB, Nat.reduceLT, Nat.reduceSub, Nat.reduceLeDiff, Nat.reduceMul, Nat.reduceAdd, Int.reduceToNat, appK, zAr, zAc, borL, zAl, zAn, zAE, cO, List.replicate, zAC, ofHp, ixOf, zUg, zEI, zCU Tryz.underlying149 Tryz.underlying5 sz5 Tryz.underlying9, hw, hw8, hu, hz, hbs8, hl8, htr, hP, *]
 all_goals first
   | rfl
   | omega
   | (rw [zQk]; omega)
   | (refine ⟨s7 + 1, ?_, by omega, by omega⟩; simp only [orV]; rw [if_pos ‹_›]; done)
   | (refine ⟨s7 + 1, ?_, by omega, by omega⟩; simp only [orV]; rw [if_neg ‹_›]; done)
   | (refine ⟨s3 + 1, ?_, by omega, by omega⟩; rw [show s7 = 8 by omega]; rfl)
   | (rw [show s3 = 8 by omega, yBa]; done)
theorem yH1 {v : Int} : (numI .u64 v 8).drop 4 = numI .u64 v 4 := rfl
theorem yCX {P : Program} {t t' e : TypeId} {H : Hp} {nid id off k : Nat} {l : List Int} (hu : P.underlying t = some (.slice e)) (he : P.underlying e = some (.int .u8)) (hs : szT P e = some 1) (hd : P.underlying t' = some .string) (hH : H id = .row 1 true (l.map (D.it .u8))) :
   zAF P t t' (.own id off k) H nid = some (.st (((l.drop off).take k).map zDq), H, nid) := by
 have h1 : zDu P t (.own id off k) = true := zFp hu
 simp only [zAF, hu, hd, he, hs, h1, if_true, elems, hH, Option.bind_some]
 rw [← List.map_drop, ← List.map_take, zCo]
 rfl
theorem yCN {H H' : Hp} {n : Nat} {d : D} (h : ∀ id ∈ refs d, H' id = H id) : elems H' n d = elems H n d := by
 unfold elems
 cases d <;> (try simp only [refs, List.mem_singleton, forall_eq] at h) <;> first | rfl | (simp only [h]; done)
theorem zV8 {cx : Cx} {nx bef i : Nat} {env : Nat → D} {H : Hp} {dst : Option Tmp} {t t' e ty : TypeId} {x : Operand} {pos : String} {after : Array Edge} {g : Option (Nat × Bool)} (hu : cx.P.underlying t = some (.slice e)) (he : cx.P.underlying e = some (.int .u8)) (hs : szT cx.P e = some 1) (hd : cx.P.underlying t' = some .string)
   (hr : zAD nx bef i H (refs (ev env x)) = true) : stepD cx nx bef i ⟨dst, .convert t t' x, ty, pos, after, g⟩ env H = (if zDu cx.P t (ev env x) then (elems H 1 (ev env x)).bind fun p => (p.2.mapM byteOfD).map D.st else none).map fun d => (d, H) := by
 have hro : roots env ⟨dst, .convert t t' x, ty, pos, after, g⟩ = refs (ev env x) := by simp [roots, Op.operands]
 exact zEn rfl (by rw [hro]; exact hr) (fun H' hH' => by
   rw [hro] at hH'
   rw [zPD]
   simp only [zAF, hu, he, hs, hd, yCN hH']
   split
   · cases elems H 1 (ev env x) with
     | none => rfl
     | some p => simp [Option.map_map, Function.comp_def]
   · rfl)
theorem yC1 {l : List Int} {n m : Nat} : (((l.map (D.it .u8)).drop n).take m).mapM byteOfD = some (((l.drop n).take m).map zDq) := by rw [← List.map_drop, ← List.map_take, zCo]
noncomputable def FWAP := mkF (fun s : Adr => [adrE s]) (fun s => ASm s) (fun s => Res.flat (.tup [.st (zBx s).1, .it .i64 (zBx s).2]))
theorem yGT {a1 : Adr} (hp : ASm a1) : FWAP [adrE a1] = some (Res.flat (.tup [.st (zBx a1).1, .it .i64 (zBx a1).2])) := zAB (s := (a1)) (fun s s' h => by simp only [cI] at h; simp only [h]) hp
theorem zMQ (cx : Cx) (hP : cx.P = Tryz.prog) (hbs : cx.bs = 0) (h116 : cx.orc 116 = some zG3) (h202 : cx.orc 202 = some FByA) (r116 : cx.rd.contains 116 = true) (r202 : cx.rd.contains 202 = true) (a1 : Adr) (hl : ASm a1) : zAj cx Tryz.f185 [] false [adrE a1] = some (Res.flat (.tup [.st (zBx a1).1, .it .i64 (zBx a1).2])) := by
 have c116 := zAa h116
 have d116 := zAh r116 h116
 have c202 := zAa h202
 have d202 := zAh r202 h202
 have hl1 := hl.1; have hl2 := hl.2
 have hcb := fun {nx bef i : Nat} {env : Nat → D} {H : Hp} {dst : Option Tmp} {ty : TypeId} {x : Operand} {pos : String} {after : Array Edge} {g : Option (Nat × Bool)} (hr : zAD nx bef i H (refs (ev env x)) = true) => zV8 (cx := cx) (nx := nx) (bef := bef) (i := i) (env := env) (H := H) (dst := dst) (t := 149) (t' := 9) (e := 5) (ty := ty) (x := x) (pos := pos) (after := after) (g := g) (hP ▸ Tryz.underlying149) (hP ▸ Tryz.underlying5) (hP ▸ sz5) (hP ▸ Tryz.underlying9) hr
 have hco := fun {H : Hp} {nid id off k : Nat} {l : List Int} (hH : H id = .row 1 true (l.map (D.it .u8))) => yCX (P := Tryz.prog) (t := 149) (t' := 9) (e := 5) (H := H) (nid := nid) (id := id) (off := off) (k := k) (l := l) Tryz.underlying149 Tryz.underlying5 sz5 Tryz.underlying9 hH
 have hs4 : ∀ (H : Hp) (id : Nat), zBm Tryz.prog H 149 (.own id 0 8) (some (.it .i64 4)) none none = match H id with | .row sz _ _ => if szT Tryz.prog 5 = some sz ∧ 4 ≤ 8 then some (.own id (0 + 4) (8 - 4)) else none | _ => none := fun H id => yDG H id 0 8 4 .i64
 have ht8 : ∀ v : Int, (numI .u64 v 8).take 8 = numI .u64 v 8 := fun v => rfl
 have ht4 : ∀ v : Int, (numI .u64 v 4).take 4 = numI .u64 v 4 := fun v => rfl
 refine zAg (rs := [.tmp 2, .tmp 3]) rfl hbs rfl ?_
 repeat' first
   | (refine zAR (fun h => ?_) (fun h => ?_) <;> (try simp only [cN] at h))
   | (refine zAN ?_ ?_)
   | simp (config := { decide := true }) only [↓cD, cU, cQ, cP, cB, zAJ, unD, zAf, zAd, idx, reduceCtorEq, ↓reduceIte, ofV, ofC, zAq, Nat.reduceEqDiff, zAG, cG, implies_true, forall_const, immL, immD, Res.flat, ren, renL, Int.reduceEq, Int.reduceLT, Int.reduceLE, Int.reduceNe, deref, ldD, zAF, zAk, zAI, zAs, cC, cS, refs, zAD, okId, List.all_nil, List.all_cons, Nat.reduceMul, Nat.reduceAdd, Nat.reduceLeDiff, zAv, c116, c202, d116, d202, zAo, zAp, zFJ, yHc, ↓zAM, ↓zAQ, ↓zAL, ↓zAP, ↓zAK, ↓zAO, cV, cT, cF, cW, borT, borM, zAm, Res.via, zAu, zAb, refsB, Nat.reduceLT, Nat.reduceSub, Nat.reduceLeDiff, Nat.reduceMul, Nat.reduceAdd, Int.reduceToNat, appK, zAr, zAc, borL, zAl, zAn, zAE, cO, List.replicate, zAC, ofHp, ixOf, cS, refs, zAD, okId, List.all_nil, List.all_cons, Nat.reduceMul, Nat.reduceAdd, Nat.reduceLeDiff, zAv, hl1, hl2, zHE, yC1, zEI, hcb, hco, hs4, yH1, ht8, ht4, ← numB.eq_1, Res.row, Res.rowd, hP, *]
 all_goals first
   | rfl
   | (simp [zBx, *]; done)
   | (simp only [zBk]; omega)
def offC (c : Int) : Nat := if c = 65 then 6 else if c = 66 then 7 else if c = 67 then 8 else if c = 70 then 11 else if c = 98 then 7 else if c = 99 then 8 else if c = 118 then 6 else if c = 119 then 7 else if c = 120 then 8 else if c = 121 then 9 else if c = 122 then 10 else 0
def sizC (c : Int) : Int := if c = 65 then 2 else if c = 66 then 2 else if c = 67 then 2 else if c = 70 then 2 else if c = 98 then 1 else if c = 99 then 1 else if c = 118 then 4 else if c = 119 then 4 else if c = 120 then 4 else if c = 121 then 4 else if c = 122 then 4 else 0
def fldC (c : Int) (d : Dat) : Int := if c = 65 then d.a else if c = 66 then d.b else if c = 67 then d.c else if c = 70 then d.f else if c = 98 then d.b else if c = 99 then d.c else if c = 118 then d.a else if c = 119 then d.b else if c = 120 then d.c else if c = 121 then d.d else if c = 122 then d.e else 0
def letC (c : Int) : Prop := c = 65 ∨ c = 66 ∨ c = 67 ∨ c = 70 ∨ c = 98 ∨ c = 99 ∨ c = 118 ∨ c = 119 ∨ c = 120 ∨ c = 121 ∨ c = 122
noncomputable def zI4 := mkE (fun s : Dat × Int => [.ptr 0 0, .it .u8 s.2]) (fun s => .box (datL s.1)) (fun s => letC s.2) (fun s => (.tup [.ptr 0 (offC s.2), .it .i64 (sizC s.2)], [.box (datL s.1)]))
theorem zNK (d : Dat) : zEw (.box (datL d)) := by intro x hx; simp [datL, adrL] at hx; rcases hx with h | h | h | h | h | h | h | h | h | h | h | h | h <;> subst h <;> rfl
theorem yAJ {d : Dat} {c : Int} (hp : letC c) : zI4 [.ptr 0 0, .it .u8 c] [.box (datL d)] = some (.tup [.ptr 0 (offC c), .it .i64 (sizC c)], [.box (datL d)]) :=
 yDR (s := (d, c)) (fun s s' h1 h2 => by simp only [List.cons.injEq, D.it.injEq, true_and, and_true] at h1; simp only [Blk.box.injEq] at h2; rw [h1, h2]) hp

theorem zX8 {env : Nat → D} {dst : Option Tmp} {t ty : TypeId} {n : Nat} {pos : String} {after : Array Edge} {gd : Option (Nat × Bool)} {a b c d e f : Operand} : roots env ⟨dst, .buildSlice t n #[(0, a), (1, b), (2, c), (3, d), (4, e), (5, f)], ty, pos, after, gd⟩ = refs (ev env a) ++ (refs (ev env b) ++ (refs (ev env c) ++ (refs (ev env d) ++ (refs (ev env e) ++ (refs (ev env f) ++ []))))) := by
 simp [roots, Op.operands]

theorem yKJ : zDp Tryz.prog 162 = some 139 := by kernel_rfl
theorem yJ7 : szT Tryz.prog 139 = some 1 := by kernel_rfl
theorem yJV : aggT Tryz.prog 139 = some false := by kernel_rfl
theorem yJ3 : zHL Tryz.prog 139 1 = some .nilp := by kernel_rfl
theorem yIl : ∀ (H : Hp) (id off len : Nat) (k : IntKind) (n : Int), zA6 Tryz.prog H 162 (.own id off len) (.it k n) = match H id with | .row sz _ _ => if szT Tryz.prog 139 = some sz ∧ 0 ≤ n ∧ n < len then some (.rowp id (off + n.toNat) 0) else none | _ => none := fun _ _ _ _ _ _ => zNq Tryz.underlying162
theorem zHl (cx : Cx) (hP : cx.P = Tryz.prog) (hbs : cx.bs = 1) (d : Dat) (c : Int) (hc : letC c) : zFl cx Tryz.f187 [.ptr 0 0, .it .u8 c] [.box (datL d)] = some ((.tup [.ptr 0 (offC c), .it .i64 (sizC c)], [.box (datL d)])) := by
 have hw65 : (IntKind.u8.wrap (65 - 65)).toNat = 0 := by decide
 have hw66 : (IntKind.u8.wrap (66 - 65)).toNat = 1 := by decide
 have hw67 : (IntKind.u8.wrap (67 - 65)).toNat = 2 := by decide
 have hw70 : (IntKind.u8.wrap (70 - 65)).toNat = 5 := by decide
 have hw98 : (IntKind.u8.wrap (98 - 97)).toNat = 1 := by decide
 have hw99 : (IntKind.u8.wrap (99 - 97)).toNat = 2 := by decide
 have hw118 : (IntKind.u8.wrap (118 - 118)).toNat = 0 := by decide
 have hw119 : (IntKind.u8.wrap (119 - 118)).toNat = 1 := by decide
 have hw120 : (IntKind.u8.wrap (120 - 118)).toNat = 2 := by decide
 have hw121 : (IntKind.u8.wrap (121 - 118)).toNat = 3 := by decide
 have hw122 : (IntKind.u8.wrap (122 - 118)).toNat = 4 := by decide
 have hv65 : IntKind.u8.wrap (65 - 65) = 0 := by decide
 have hv66 : IntKind.u8.wrap (66 - 65) = 1 := by decide
 have hv67 : IntKind.u8.wrap (67 - 65) = 2 := by decide
 have hv70 : IntKind.u8.wrap (70 - 65) = 5 := by decide
 have hv98 : IntKind.u8.wrap (98 - 97) = 1 := by decide
 have hv99 : IntKind.u8.wrap (99 - 97) = 2 := by decide
 have hv118 : IntKind.u8.wrap (118 - 118) = 0 := by decide
 have hv119 : IntKind.u8.wrap (119 - 118) = 1 := by decide
 have hv120 : IntKind.u8.wrap (120 - 118) = 2 := by decide
 have hv121 : IntKind.u8.wrap (121 - 118) = 3 := by decide
 have hv122 : IntKind.u8.wrap (122 - 118) = 4 := by decide
 rcases hc with rfl | rfl | rfl | rfl | rfl | rfl | rfl | rfl | rfl | rfl | rfl
 all_goals
   refine zJ7 (rs := [.tmp 4, .tmp 5]) rfl hbs rfl ?_
   repeat' first
     | (refine zAR (fun h => ?_) (fun h => ?_) <;> (try simp only [cN] at h))
     | (refine zAN ?_ ?_)
     | simp (config := { decide := true }) only [↓cD, cU, cQ, cP, cB, zAJ, unD, zAf, zAd, idx, reduceCtorEq, ↓reduceIte, ofV, ofC, zAq, Nat.reduceEqDiff, zAG, cG, implies_true, forall_const, immL, immD, Res.flat, ren, renL, Int.reduceEq, Int.reduceLT, Int.reduceLE, Int.reduceNe, deref, ldD, zAF, zAk, zAI, zAs, cC, cS, refs, zAD, okId, List.all_nil, List.all_cons, Nat.reduceMul, Nat.reduceAdd, Nat.reduceLeDiff, zAv, ↓zAM, ↓zAQ, ↓zAL, ↓zAP, ↓zAK, ↓zAO, cV, cT, cF, cW, borT, borM, zAm, Res.via, zAu, zAb, refsB, Nat.reduceLT, Nat.reduceSub, Nat.reduceLeDiff, Nat.reduceMul, Nat.reduceAdd, Int.reduceToNat, appK, zAr, zAc, borL, zAl, zAn, zAE, cO, List.replicate, zAC, ofHp, ixOf, cS, refs, zAD, okId, List.all_nil, List.all_cons, Nat.reduceMul, Nat.reduceAdd, Nat.reduceLeDiff, zAv, zEp, zX8, yKJ, yJ7, yJV, yJ3, yIl, hw65, hw66, hw67, hw70, hw98, hw99, hw118, hw119, hw120, hw121, hw122, hv65, hv66, hv67, hv70, hv98, hv99, hv118, hv119, hv120, hv121, hv122, hP, *]
   all_goals first
     | exact ⟨_, rfl, zNK d, fun x hx => by simp only [List.mem_cons, List.not_mem_nil, or_false] at hx; rcases hx with rfl | rfl; exact yBK; exact zYv rfl, rfl⟩
def zDP (d : Dat) (c : Int) : List UInt8 := if c = 104 then zBH d.host else if c = 109 then zBH d.mail else if c = 52 then (zBx d.adr).1 else if c = 54 then (zBx d.adr).1 else
 if c = 116 then numB .i64 d.text.length 1 ++ d.text else if c = 114 then d.text else if c = 115 then [253] else if c = 110 then [0] ++ numB .i64 (bmB d.bits).length 1 ++ bmB d.bits else numB .i64 (fldC c d) (sizC c).toNat
def zDs (d : Dat) : List UInt8 → List UInt8
 | [] => []
 | c :: r => zDP d c.toNat ++ zDs d r
theorem zPu (d : Dat) : ∀ (a : List UInt8) (x : UInt8), zDs d (a ++ [x]) = zDs d a ++ zDP d x.toNat
 | [], x => by simp [zDs]
 | y :: r, x => by simp [zDs, zPu d r x]
def N64 (x : Int) : Prop := 0 ≤ x ∧ x ≤ 9223372036854775807
theorem N64.of {x : Int} {b : Int} (h : inB x b = true) (hb : b ≤ 9223372036854775807) : N64 x := by
 simp only [inB, Bool.and_eq_true, decide_eq_true_eq] at h
 exact ⟨h.1, Int.le_trans h.2 hb⟩
def okF (d : Dat) (c : Int) : Prop := (c = 104 ∨ c = 109 ∨ c = 52 ∨ c = 54 ∨ (c = 116 ∧ d.text.length ≤ 255) ∨ (c = 114 ∧ d.text.length ≤ 255) ∨ c = 115 ∨ c = 110) ∨ (letC c ∧ N64 (fldC c d))
theorem zWu {d : Dat} {c : Int} (h : okF d c) : (zDP d c).length ≤ 100000 := by
 have h1 := zDA d.host; have h2 := zDA d.mail; have h3 := zMI d.bits
 have h4 : (zBx d.adr).1.length ≤ 16 := by unfold zBx; split <;> (try split) <;> simp [zBk]
 have h5 : (sizC c).toNat ≤ 4 := by unfold sizC; repeat' split
                                    all_goals decide
 have h6 : letC c → ¬ c = 116 ∧ ¬ c = 114 := by unfold letC; omega
 unfold okF at h
 have h7 : c = 116 ∨ c = 114 → d.text.length ≤ 255 := by
   intro hc
   rcases h with h | h
   · omega
   · have := h6 h.1; omega
 clear h
 unfold zDP
 repeat' split
 all_goals (try simp only [List.length_append, List.length_cons, List.length_nil, zBk])
 all_goals omega
theorem zRs {d : Dat} : ∀ {l : List UInt8}, (∀ c ∈ l, okF d c.toNat) → (zDs d l).length ≤ 100000 * l.length
 | [], _ => by simp [zDs]
 | c :: r, h => by
   have h1 := zWu (h c (by simp)); have h2 := zRs (l := r) fun x hx => h x (by simp [hx])
   simp only [zDs, List.length_append, List.length_cons]; omega
theorem zR5 (t : Int) : (zBB t).1.fl.length ≤ 9 := by
 rcases zDJ t with rfl | rfl | rfl | rfl | rfl | rfl | rfl | rfl | rfl | rfl | rfl | rfl | rfl | rfl | ⟨h1, h2, h3, h4, h5, h6, h7, h8, h9, h10, h11, h12, h13, h14⟩
 iterate 14 decide
 unfold zBB kindsL
 simp only [List.find?, decide_eq_false h1, decide_eq_false h2, decide_eq_false h3, decide_eq_false h4, decide_eq_false h5, decide_eq_false h6, decide_eq_false h7, decide_eq_false h8, decide_eq_false h9, decide_eq_false h10, decide_eq_false h11, decide_eq_false h12, decide_eq_false h13, decide_eq_false h14]
 decide
theorem yJz (d : Dat) {c : Int} (h : letC c) : (datL d).drop (offC c) = .it .i64 (fldC c d) :: (datL d).drop (offC c + 1) := by
 rcases h with rfl | rfl | rfl | rfl | rfl | rfl | rfl | rfl | rfl | rfl | rfl <;> rfl
theorem vD6 {d : Dat} (h : validD 6 d = true) : (zBX d.host && (zBX d.mail && (inR d.a && (inB d.b 2147483647 && (inB d.c 2147483647 && (inB d.d 2147483647 && inB d.e 2147483647)))))) = true := by
 have e : validD 6 d = if ¬ zA1 6 d = d then false else (zBX d.host && (zBX d.mail && (inR d.a && (inB d.b 2147483647 && (inB d.c 2147483647 && (inB d.d 2147483647 && inB d.e 2147483647)))))) := rfl
 by_cases hu : zA1 6 d = d
 · rw [e, if_neg (not_not_intro hu)] at h; exact h
 · rw [e, if_pos hu] at h; cases h
theorem vD15 {d : Dat} (h : validD 15 d = true) : (zBX d.host && inB d.a 65535) = true := by
 have e : validD 15 d = if ¬ zA1 15 d = d then false else (zBX d.host && inB d.a 65535) := rfl
 by_cases hu : zA1 15 d = d
 · rw [e, if_neg (not_not_intro hu)] at h; exact h
 · rw [e, if_pos hu] at h; cases h
theorem vD16 {d : Dat} (h : validD 16 d = true) : (decide ((d.text.length : Int) ≤ 255)) = true := by
 have e : validD 16 d = if ¬ zA1 16 d = d then false else (decide ((d.text.length : Int) ≤ 255)) := rfl
 by_cases hu : zA1 16 d = d
 · rw [e, if_neg (not_not_intro hu)] at h; exact h
 · rw [e, if_pos hu] at h; cases h
theorem vD33 {d : Dat} (h : validD 33 d = true) : (zBX d.host && (inB d.a 65535 && (inB d.b 65535 && inB d.c 65535))) = true := by
 have e : validD 33 d = if ¬ zA1 33 d = d then false else (zBX d.host && (inB d.a 65535 && (inB d.b 65535 && inB d.c 65535))) := rfl
 by_cases hu : zA1 33 d = d
 · rw [e, if_neg (not_not_intro hu)] at h; exact h
 · rw [e, if_pos hu] at h; cases h
theorem vD43 {d : Dat} (h : validD 43 d = true) : (inB d.a 65535 && (inB d.b 255 && (inB d.c 255 && zDW d.text))) = true := by
 have e : validD 43 d = if ¬ zA1 43 d = d then false else (inB d.a 65535 && (inB d.b 255 && (inB d.c 255 && zDW d.text))) := rfl
 by_cases hu : zA1 43 d = d
 · rw [e, if_neg (not_not_intro hu)] at h; exact h
 · rw [e, if_pos hu] at h; cases h
theorem vD46 {d : Dat} (h : validD 46 d = true) : (known d.a && (!decide (d.a = 46) && (inB d.b 127 && (inB d.c 2147483647 && (inB d.d 4294967295 && (inB d.e 4294967295 && (inB d.f 65535 && (zBX d.host && zDW d.text)))))))) = true := by
 have e : validD 46 d = if ¬ zA1 46 d = d then false else (known d.a && (!decide (d.a = 46) && (inB d.b 127 && (inB d.c 2147483647 && (inB d.d 4294967295 && (inB d.e 4294967295 && (inB d.f 65535 && (zBX d.host && zDW d.text)))))))) := rfl
 by_cases hu : zA1 46 d = d
 · rw [e, if_neg (not_not_intro hu)] at h; exact h
 · rw [e, if_pos hu] at h; cases h
theorem vD48 {d : Dat} (h : validD 48 d = true) : ((decide (d.a = 256) || decide (d.a = 257)) && (decide (d.b = 3) && (inB d.c 255 && zDW d.text))) = true := by
 have e : validD 48 d = if ¬ zA1 48 d = d then false else ((decide (d.a = 256) || decide (d.a = 257)) && (decide (d.b = 3) && (inB d.c 255 && zDW d.text))) := rfl
 by_cases hu : zA1 48 d = d
 · rw [e, if_neg (not_not_intro hu)] at h; exact h
 · rw [e, if_pos hu] at h; cases h
theorem zYW {t : Int} (h : known t = true) : N64 t := by
 rcases zDJ t with rfl | rfl | rfl | rfl | rfl | rfl | rfl | rfl | rfl | rfl | rfl | rfl | rfl | rfl | hno
 iterate 14 exact ⟨by decide, by decide⟩
 rw [zLZ hno] at h; cases h
theorem yFG {x : Int} (h : inR x = true) : N64 x := by
 simp only [inR, Bool.and_eq_true, decide_eq_true_eq] at h
 exact ⟨by omega, by omega⟩
theorem zPZ {s : List UInt8} (h : zDW s = true) : s.length ≤ 255 := by
 simp only [zDW, Bool.and_eq_true, decide_eq_true_eq] at h; omega
theorem zNX {t : Int} {d : Dat} (h : validD t d = true) : known t = true := by
 cases hk : known t with
 | true => rfl
 | false => unfold validD at h; rw [if_pos hk] at h; cases h
theorem zL7 {t : Int} {d : Dat} (h : validD t d = true) : ∀ c ∈ (zBB t).1.fl, okF d c.toNat := by
 have hk := zNX h
 rcases zDJ t with rfl | rfl | rfl | rfl | rfl | rfl | rfl | rfl | rfl | rfl | rfl | rfl | rfl | rfl | hno
 · intro c hm
   have hm' : c ∈ ([52] : List UInt8) := hm
   simp only [List.mem_cons, List.not_mem_nil, or_false] at hm'
   rcases hm' with rfl
   · exact .inl (.inr (.inr (.inl rfl)))
 · intro c hm
   have hm' : c ∈ ([104] : List UInt8) := hm
   simp only [List.mem_cons, List.not_mem_nil, or_false] at hm'
   rcases hm' with rfl
   · exact .inl (.inl rfl)
 · intro c hm
   have hm' : c ∈ ([104] : List UInt8) := hm
   simp only [List.mem_cons, List.not_mem_nil, or_false] at hm'
   rcases hm' with rfl
   · exact .inl (.inl rfl)
 · intro c hm
   have hm' : c ∈ ([104, 109, 118, 119, 120, 121, 122] : List UInt8) := hm
   have h' := vD6 h
   simp only [Bool.and_eq_true] at h'
   obtain ⟨_, _, ha, hb, hc, hd, he⟩ := h'
   simp only [List.mem_cons, List.not_mem_nil, or_false] at hm'
   rcases hm' with rfl | rfl | rfl | rfl | rfl | rfl | rfl
   · exact .inl (.inl rfl)
   · exact .inl (.inr (.inl rfl))
   · exact .inr ⟨by unfold letC; decide, yFG ha⟩
   · exact .inr ⟨by unfold letC; decide, N64.of hb (by decide)⟩
   · exact .inr ⟨by unfold letC; decide, N64.of hc (by decide)⟩
   · exact .inr ⟨by unfold letC; decide, N64.of hd (by decide)⟩
   · exact .inr ⟨by unfold letC; decide, N64.of he (by decide)⟩
 · intro c hm
   have hm' : c ∈ ([104] : List UInt8) := hm
   simp only [List.mem_cons, List.not_mem_nil, or_false] at hm'
   rcases hm' with rfl
   · exact .inl (.inl rfl)
 · intro c hm
   have hm' : c ∈ ([65, 104] : List UInt8) := hm
   have h' := vD15 h
   simp only [Bool.and_eq_true] at h'
   obtain ⟨_, ha⟩ := h'
   simp only [List.mem_cons, List.not_mem_nil, or_false] at hm'
   rcases hm' with rfl | rfl
   · exact .inr ⟨by unfold letC; decide, N64.of ha (by decide)⟩
   · exact .inl (.inl rfl)
 · intro c hm
   have hm' : c ∈ ([116] : List UInt8) := hm
   have h' := vD16 h
   have ht : d.text.length ≤ 255 := (by have := of_decide_eq_true h'; omega)
   simp only [List.mem_cons, List.not_mem_nil, or_false] at hm'
   rcases hm' with rfl
   · exact .inl (.inr (.inr (.inr (.inr (.inl ⟨rfl, ht⟩)))))
 · intro c hm
   have hm' : c ∈ ([54] : List UInt8) := hm
   simp only [List.mem_cons, List.not_mem_nil, or_false] at hm'
   rcases hm' with rfl
   · exact .inl (.inr (.inr (.inr (.inl rfl))))
 · intro c hm
   have hm' : c ∈ ([65, 66, 67, 104] : List UInt8) := hm
   have h' := vD33 h
   simp only [Bool.and_eq_true] at h'
   obtain ⟨_, ha, hb, hc⟩ := h'
   simp only [List.mem_cons, List.not_mem_nil, or_false] at hm'
   rcases hm' with rfl | rfl | rfl | rfl
   · exact .inr ⟨by unfold letC; decide, N64.of ha (by decide)⟩
   · exact .inr ⟨by unfold letC; decide, N64.of hb (by decide)⟩
   · exact .inr ⟨by unfold letC; decide, N64.of hc (by decide)⟩
   · exact .inl (.inl rfl)
 · intro c hm
   have hm' : c ∈ ([104] : List UInt8) := hm
   simp only [List.mem_cons, List.not_mem_nil, or_false] at hm'
   rcases hm' with rfl
   · exact .inl (.inl rfl)
 · intro c hm
   have hm' : c ∈ ([65, 98, 99, 114] : List UInt8) := hm
   have h' := vD43 h
   simp only [Bool.and_eq_true] at h'
   obtain ⟨ha, hb, hc, ht⟩ := h'
   have ht := zPZ ht
   simp only [List.mem_cons, List.not_mem_nil, or_false] at hm'
   rcases hm' with rfl | rfl | rfl | rfl
   · exact .inr ⟨by unfold letC; decide, N64.of ha (by decide)⟩
   · exact .inr ⟨by unfold letC; decide, N64.of hb (by decide)⟩
   · exact .inr ⟨by unfold letC; decide, N64.of hc (by decide)⟩
   · exact .inl (.inr (.inr (.inr (.inr (.inr (.inl ⟨rfl, ht⟩))))))
 · intro c hm
   have hm' : c ∈ ([65, 115, 98, 120, 121, 122, 70, 104, 114] : List UInt8) := hm
   have h' := vD46 h
   simp only [Bool.and_eq_true] at h'
   obtain ⟨ha, _, hb, hc, hd, he, hf, _, ht⟩ := h'
   have ht := zPZ ht
   simp only [List.mem_cons, List.not_mem_nil, or_false] at hm'
   rcases hm' with rfl | rfl | rfl | rfl | rfl | rfl | rfl | rfl | rfl
   · exact .inr ⟨by unfold letC; decide, zYW ha⟩
   · exact .inl (.inr (.inr (.inr (.inr (.inr (.inr (.inl rfl)))))))
   · exact .inr ⟨by unfold letC; decide, N64.of hb (by decide)⟩
   · exact .inr ⟨by unfold letC; decide, N64.of hc (by decide)⟩
   · exact .inr ⟨by unfold letC; decide, N64.of hd (by decide)⟩
   · exact .inr ⟨by unfold letC; decide, N64.of he (by decide)⟩
   · exact .inr ⟨by unfold letC; decide, N64.of hf (by decide)⟩
   · exact .inl (.inl rfl)
   · exact .inl (.inr (.inr (.inr (.inr (.inr (.inl ⟨rfl, ht⟩))))))
 · intro c hm
   have hm' : c ∈ ([104, 110] : List UInt8) := hm
   simp only [List.mem_cons, List.not_mem_nil, or_false] at hm'
   rcases hm' with rfl | rfl
   · exact .inl (.inl rfl)
   · exact .inl (.inr (.inr (.inr (.inr (.inr (.inr (.inr (rfl))))))))
 · intro c hm
   have hm' : c ∈ ([65, 98, 99, 114] : List UInt8) := hm
   have h' := vD48 h
   simp only [Bool.and_eq_true] at h'
   obtain ⟨ha, hb, hc, ht⟩ := h'
   have ht := zPZ ht
   simp only [List.mem_cons, List.not_mem_nil, or_false] at hm'
   rcases hm' with rfl | rfl | rfl | rfl
   · exact .inr ⟨by unfold letC; decide, (show N64 d.a from by simp only [Bool.or_eq_true, decide_eq_true_eq] at ha; exact ⟨by omega, by omega⟩)⟩
   · exact .inr ⟨by unfold letC; decide, (show N64 d.b from by have := of_decide_eq_true hb; exact ⟨by omega, by omega⟩)⟩
   · exact .inr ⟨by unfold letC; decide, N64.of hc (by decide)⟩
   · exact .inl (.inr (.inr (.inr (.inr (.inr (.inl ⟨rfl, ht⟩))))))
 · rw [zLZ hno] at hk; cases hk
end Go.Mir
