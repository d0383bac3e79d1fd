/- What functions of the program answer, read off. -/
import Derived.Test.YtfnjjmdgjdpieaaWalk5
import Derived.KernelRfl
import Derived.Test.YtfnjjmdgjdpieaaMir3
set_option linter.unusedSimpArgs false
set_option linter.unusedVariables false
namespace Go.Mir
open Go Go.RowKit Go.Proofs
attribute [local congr] Ev.congr EvC.congr EvW.congr Br.congr Ms.congr
set_option maxRecDepth 100000
def divN (k : IntKind) (v : Int) : Nat → Int
  | 0 => v
  | j + 1 => k.wrap ((divN k v j).tdiv 256)
/-- A number's bytes, the most significant one first. -/
def numI (k : IntKind) (v : Int) : Nat → List Int
  | 0 => []
  | n + 1 => IntKind.u8.wrap ((divN k v n).tmod 256) :: numI k v n
def numB (k : IntKind) (v : Int) (n : Nat) : List UInt8 := (numI k v n).map byteI
theorem numI_len (k : IntKind) (v : Int) : ∀ n, (numI k v n).length = n
  | 0 => rfl
  | n + 1 => by simp [numI, numI_len k v n]
theorem numB_len (k : IntKind) (v : Int) (n : Nat) : (numB k v n).length = n := by simp [numB, numI_len]

noncomputable def FNum := mkF (fun s : Int × Int => [.it .i64 s.1, .it .i64 s.2]) (fun s => 0 ≤ s.2 ∧ s.2 ≤ 8) (fun s => Res.flat (.st (numB .i64 s.1 s.2.toNat)))
theorem FNum_eq {v1 : Int} {n1 : Int} (hp : 0 ≤ n1 ∧ n1 ≤ 8) : FNum [.it .i64 v1, .it .i64 n1] = some (Res.flat (.st (numB .i64 v1 n1.toNat))) := mkF_eq (s := (v1, n1)) (fun s s' h => by simp only [List.cons.injEq, D.it.injEq, D.st.injEq, D.bo.injEq, true_and, and_true, adr_iff, dat_iff, rec_iff, zone_iff, delta_iff, hist_iff, recs_iff, deltas_iff, strs_iff, ints_iff] at h; simp only [h]) hp
set_option maxHeartbeats 4000000 in
theorem runNum (cx : Cx) (hP : cx.P = Try.prog) (hbs : cx.bs = 0) (hk3 : cx.kp 3 = some [0, 5, 6]) (hk7 : cx.kp 7 = some [0, 5, 6, 7, 8]) (v1 n1 : Int) (hl : 0 ≤ n1 ∧ n1 ≤ 8) : pureRun cx Try.f87 [] false [.it .i64 v1, .it .i64 n1] = some (Res.flat (.st (numB .i64 v1 n1.toNat))) := by
  obtain ⟨n, rfl⟩ := Int.eq_ofNat_of_zero_le hl.1
  have hn : n ≤ 8 := (by omega)
  have hw1 : IntKind.i64.wrap ((n : Int) - 1) = (n : Int) - 1 := wrap64 (by omega) (by omega)
  have hd : ∀ k : Nat, k ≤ n → 0 ≤ (k : Int) - 1 → IntKind.i64.wrap ((k : Int) - 1 - 1) = ((k - 1 : Nat) : Int) - 1 := fun k h h' => by rw [wrap64 (by omega) (by omega)]; omega
  have hw : ∀ j : Nat, j ≤ 8 → IntKind.i64.wrap ((j : Int) + 1) = ((j + 1 : Nat) : Int) := fun j h => by rw [wrap64 (by omega) (by omega)]; simp
  refine pure_flat (rs := [.tmp 4]) rfl hbs rfl ?_
  repeat' first
    | (refine evX_loop_rows (σ := Nat × List Int) (fun q => [.it .i64 v1, .own 0 0 q.2.length, .it .i64 ((q.1 : Int) - 1)]) (fun q => [.row 1 true (q.2.map (D.it .u8))]) (fun q => q.1 ≤ n ∧ q.2.length + q.1 = n ∧ q.2 ++ numI .i64 v1 q.1 = numI .i64 v1 n) (fun q => q.1) [0, 5, 6] hbs (by exact hk3) (fun q jq b hb => by simp only [List.mem_singleton] at hb; subst hb; exact map_refs (fun _ => rfl)) (fun q jq => ?_) (s := (n, [])) [0] ?_ ?_ ?_ ?_ ?_)
    | (refine evX_loop_rows (σ := Nat) (fun s => [.it .i64 v1, .own 0 0 q.2.length, .it .i64 ((q.1 : Int) - 1), .it .i64 (divN .i64 v1 s), .it .i64 s]) (fun s => [.row 1 true (q.2.map (D.it .u8))]) (fun s => s ≤ 8 ∧ (s : Int) ≤ (q.1 : Int) - 1) (fun s => q.1 - s) [0, 5, 6, 7, 8] hbs (by exact hk7) (fun q jq b hb => by simp only [List.mem_singleton] at hb; subst hb; exact map_refs (fun _ => rfl)) (fun s js => ?_) (s := 0) [0] ?_ ?_ ?_ ?_ ?_)
    | (refine br_mk (fun h => ?_) (fun h => ?_) <;> (try simp only [Bool.not_eq_true, Bool.not_eq_false, Classical.not_not] at h))
    | (refine ms_mk ?_ ?_)
    | simp only [↓cD, cU, cB, intOp, unD, minD_two, builtinD, idx, reduceCtorEq, ↓reduceIte, ofV, ofC, argEnv, Nat.reduceEqDiff, not_false_eq_true, flatL, cG, Bool.and_self,
      decide_true, decide_false, not_true_eq_false, false_and, false_implies, Option.map_some, Option.bind_some, Option.bind_none, Option.map_none, List.getElem?_toArray, List.toList_toArray, decide_eq_true_eq, decide_eq_false_iff_not, ge_iff_le, gt_iff_lt, and_true, true_and, implies_true, forall_const, true_or, or_true,
      immL, immD, Bool.true_and, Bool.and_true, Bool.false_and, Bool.and_false, Bool.true_or, Bool.or_true, Bool.false_or, Bool.or_false, Res.flat, ren, renL, List.length_nil, Nat.add_zero, List.map_cons, List.map_nil, List.nil_append, List.append_nil, List.cons_append, List.getElem?_cons_zero, List.getElem?_cons_succ, Bool.not_eq_true', Bool.not_true, Bool.not_false, Bool.not_eq_true, Bool.not_eq_false', Bool.not_eq_false, Bool.true_eq_false, Bool.false_eq_true, if_true, if_false, Int.reduceEq, Int.reduceLT, Int.reduceLE, Int.reduceNe, ite_self, or_false, false_or, or_self, eq_self, List.zip_cons_cons, List.zip_nil_left, deref, ldD, List.head?_cons, convD, shiftOp, strOp, bitsOp, cC, ↓neq37, ↓eql37, ↓neq39, ↓eql39, ↓neq41, ↓eql41, cV, cT, cF, cW, borT, borM, bor_agg, Res.via, List.size_toArray, List.isEmpty_cons, put_ap, putAll_one, elems_own, refsB, List.isEmpty_nil, Nat.reduceLT, Nat.reduceSub, Nat.reduceLeDiff, Nat.reduceMul, Nat.reduceAdd, Int.toNat_natCast, Int.reduceToNat, appK, nilRow, callX_bor, borL, bor_row, bor_one, take_map_len, List.drop_zero, map_snoc, map_app, fillE, cO, List.length_cons, List.length_replicate, List.length_append, List.length_map, List.replicate, List.set_cons_zero, List.set_cons_succ, List.take_zero, List.take_succ_cons, List.drop_succ_cons, Nat.zero_lt_succ, Option.isSome_some, partD, ofHp, ixOf, bytes_map, hw1, hd, hw, conv_bytes Try.underlying112 Try.underlying5 sz5 Try.underlying9, hP, *]
  all_goals first
    | rfl
    | exact ⟨by omega, by omega⟩
    | exact ⟨by omega, rfl⟩
    | (refine ⟨[0], s + 1, ?_, ?_, ?_, ?_, ⟨by omega, by omega⟩, by omega⟩ <;> (first | rfl | (simp only [refsL, refs, refs_gvec, refs_ivec, ren, ren_gvec, List.nil_append, List.append_nil, List.cons_append, List.map_cons, List.map_nil, upd_atB, upd_offB, Nat.reduceEqDiff, not_false_eq_true, ofHp, ixOf, if_true, Bool.and_self, Bool.true_and]; first | rfl | done) | (simp only [refsL, refs, refs_gvec, refs_ivec, ren, ren_gvec, List.nil_append, List.append_nil, List.cons_append, List.map_cons, List.map_nil, upd_atB, upd_offB, Nat.reduceEqDiff, not_false_eq_true, ofHp, ixOf, if_true, Bool.and_self, Bool.true_and]; simp; done)))
    | omega
    | (refine ⟨[2], (q.1 - 1, q.2 ++ [IntKind.u8.wrap ((divN .i64 v1 s).tmod 256)]), ?_, ?_, ?_, ?_, ⟨by simp only; omega, by simp only [List.length_append, List.length_cons, List.length_nil]; omega, ?_⟩, by simp only; omega⟩; rotate_left 4; (rw [← jq.2.2, show q.1 = (q.1 - 1) + 1 by omega, show s = q.1 - 1 by omega]; simp [numI]); all_goals (first | rfl | (simp only [refsL, refs, refs_gvec, refs_ivec, ren, ren_gvec, List.nil_append, List.append_nil, List.cons_append, List.map_cons, List.map_nil, upd_atB, upd_offB, Nat.reduceEqDiff, not_false_eq_true, ofHp, ixOf, if_true, Bool.and_self, Bool.true_and]; first | rfl | done) | (simp only [refsL, refs, refs_gvec, refs_ivec, ren, ren_gvec, List.nil_append, List.append_nil, List.cons_append, List.map_cons, List.map_nil, upd_atB, upd_offB, Nat.reduceEqDiff, not_false_eq_true, ofHp, ixOf, if_true, Bool.and_self, Bool.true_and]; simp; done)))
    | (have e := jq.2.2; rw [show q.1 = 0 by omega] at e; simp only [numI, List.append_nil] at e; rw [e]; rfl)
noncomputable def FOct := mkF (fun s : Int × Int => [.it .u64 s.1, .it .i64 s.2]) (fun s => 0 ≤ s.2 ∧ s.2 ≤ 8) (fun s => Res.flat (.st (numB .u64 s.1 s.2.toNat)))
theorem FOct_eq {v1 : Int} {n1 : Int} (hp : 0 ≤ n1 ∧ n1 ≤ 8) : FOct [.it .u64 v1, .it .i64 n1] = some (Res.flat (.st (numB .u64 v1 n1.toNat))) := mkF_eq (s := (v1, n1)) (fun s s' h => by simp only [List.cons.injEq, D.it.injEq, D.st.injEq, D.bo.injEq, true_and, and_true, adr_iff, dat_iff, rec_iff, zone_iff, delta_iff, hist_iff, recs_iff, deltas_iff, strs_iff, ints_iff] at h; simp only [h]) hp
set_option maxHeartbeats 4000000 in
theorem runOct (cx : Cx) (hP : cx.P = Try.prog) (hbs : cx.bs = 0) (hk3 : cx.kp 3 = some [0, 5, 6]) (hk7 : cx.kp 7 = some [0, 5, 6, 7, 8]) (v1 n1 : Int) (hl : 0 ≤ n1 ∧ n1 ≤ 8) : pureRun cx Try.f89 [] false [.it .u64 v1, .it .i64 n1] = some (Res.flat (.st (numB .u64 v1 n1.toNat))) := by
  obtain ⟨n, rfl⟩ := Int.eq_ofNat_of_zero_le hl.1
  have hn : n ≤ 8 := (by omega)
  have hw1 : IntKind.i64.wrap ((n : Int) - 1) = (n : Int) - 1 := wrap64 (by omega) (by omega)
  have hd : ∀ k : Nat, k ≤ n → 0 ≤ (k : Int) - 1 → IntKind.i64.wrap ((k : Int) - 1 - 1) = ((k - 1 : Nat) : Int) - 1 := fun k h h' => by rw [wrap64 (by omega) (by omega)]; omega
  have hw : ∀ j : Nat, j ≤ 8 → IntKind.i64.wrap ((j : Int) + 1) = ((j + 1 : Nat) : Int) := fun j h => by rw [wrap64 (by omega) (by omega)]; simp
  refine pure_flat (rs := [.tmp 4]) rfl hbs rfl ?_
  repeat' first
    | (refine evX_loop_rows (σ := Nat × List Int) (fun q => [.it .u64 v1, .own 0 0 q.2.length, .it .i64 ((q.1 : Int) - 1)]) (fun q => [.row 1 true (q.2.map (D.it .u8))]) (fun q => q.1 ≤ n ∧ q.2.length + q.1 = n ∧ q.2 ++ numI .u64 v1 q.1 = numI .u64 v1 n) (fun q => q.1) [0, 5, 6] hbs (by exact hk3) (fun q jq b hb => by simp only [List.mem_singleton] at hb; subst hb; exact map_refs (fun _ => rfl)) (fun q jq => ?_) (s := (n, [])) [0] ?_ ?_ ?_ ?_ ?_)
    | (refine evX_loop_rows (σ := Nat) (fun s => [.it .u64 v1, .own 0 0 q.2.length, .it .i64 ((q.1 : Int) - 1), .it .u64 (divN .u64 v1 s), .it .i64 s]) (fun s => [.row 1 true (q.2.map (D.it .u8))]) (fun s => s ≤ 8 ∧ (s : Int) ≤ (q.1 : Int) - 1) (fun s => q.1 - s) [0, 5, 6, 7, 8] hbs (by exact hk7) (fun q jq b hb => by simp only [List.mem_singleton] at hb; subst hb; exact map_refs (fun _ => rfl)) (fun s js => ?_) (s := 0) [0] ?_ ?_ ?_ ?_ ?_)
    | (refine br_mk (fun h => ?_) (fun h => ?_) <;> (try simp only [Bool.not_eq_true, Bool.not_eq_false, Classical.not_not] at h))
    | (refine ms_mk ?_ ?_)
    | simp only [↓cD, cU, cB, intOp, unD, minD_two, builtinD, idx, reduceCtorEq, ↓reduceIte, ofV, ofC, argEnv, Nat.reduceEqDiff, not_false_eq_true, flatL, cG, Bool.and_self,
      decide_true, decide_false, not_true_eq_false, false_and, false_implies, Option.map_some, Option.bind_some, Option.bind_none, Option.map_none, List.getElem?_toArray, List.toList_toArray, decide_eq_true_eq, decide_eq_false_iff_not, ge_iff_le, gt_iff_lt, and_true, true_and, implies_true, forall_const, true_or, or_true,
      immL, immD, Bool.true_and, Bool.and_true, Bool.false_and, Bool.and_false, Bool.true_or, Bool.or_true, Bool.false_or, Bool.or_false, Res.flat, ren, renL, List.length_nil, Nat.add_zero, List.map_cons, List.map_nil, List.nil_append, List.append_nil, List.cons_append, List.getElem?_cons_zero, List.getElem?_cons_succ, Bool.not_eq_true', Bool.not_true, Bool.not_false, Bool.not_eq_true, Bool.not_eq_false', Bool.not_eq_false, Bool.true_eq_false, Bool.false_eq_true, if_true, if_false, Int.reduceEq, Int.reduceLT, Int.reduceLE, Int.reduceNe, ite_self, or_false, false_or, or_self, eq_self, List.zip_cons_cons, List.zip_nil_left, deref, ldD, List.head?_cons, convD, shiftOp, strOp, bitsOp, cC, ↓neq37, ↓eql37, ↓neq39, ↓eql39, ↓neq41, ↓eql41, cV, cT, cF, cW, borT, borM, bor_agg, Res.via, List.size_toArray, List.isEmpty_cons, put_ap, putAll_one, elems_own, refsB, List.isEmpty_nil, Nat.reduceLT, Nat.reduceSub, Nat.reduceLeDiff, Nat.reduceMul, Nat.reduceAdd, Int.toNat_natCast, Int.reduceToNat, appK, nilRow, callX_bor, borL, bor_row, bor_one, take_map_len, List.drop_zero, map_snoc, map_app, fillE, cO, List.length_cons, List.length_replicate, List.length_append, List.length_map, List.replicate, List.set_cons_zero, List.set_cons_succ, List.take_zero, List.take_succ_cons, List.drop_succ_cons, Nat.zero_lt_succ, Option.isSome_some, partD, ofHp, ixOf, bytes_map, hw1, hd, hw, conv_bytes Try.underlying112 Try.underlying5 sz5 Try.underlying9, hP, *]
  all_goals first
    | rfl
    | exact ⟨by omega, by omega⟩
    | exact ⟨by omega, rfl⟩
    | (refine ⟨[0], s + 1, ?_, ?_, ?_, ?_, ⟨by omega, by omega⟩, by omega⟩ <;> (first | rfl | (simp only [refsL, refs, refs_gvec, refs_ivec, ren, ren_gvec, List.nil_append, List.append_nil, List.cons_append, List.map_cons, List.map_nil, upd_atB, upd_offB, Nat.reduceEqDiff, not_false_eq_true, ofHp, ixOf, if_true, Bool.and_self, Bool.true_and]; first | rfl | done) | (simp only [refsL, refs, refs_gvec, refs_ivec, ren, ren_gvec, List.nil_append, List.append_nil, List.cons_append, List.map_cons, List.map_nil, upd_atB, upd_offB, Nat.reduceEqDiff, not_false_eq_true, ofHp, ixOf, if_true, Bool.and_self, Bool.true_and]; simp; done)))
    | omega
    | (refine ⟨[2], (q.1 - 1, q.2 ++ [IntKind.u8.wrap ((divN .u64 v1 s).tmod 256)]), ?_, ?_, ?_, ?_, ⟨by simp only; omega, by simp only [List.length_append, List.length_cons, List.length_nil]; omega, ?_⟩, by simp only; omega⟩; rotate_left 4; (rw [← jq.2.2, show q.1 = (q.1 - 1) + 1 by omega, show s = q.1 - 1 by omega]; simp [numI]); all_goals (first | rfl | (simp only [refsL, refs, refs_gvec, refs_ivec, ren, ren_gvec, List.nil_append, List.append_nil, List.cons_append, List.map_cons, List.map_nil, upd_atB, upd_offB, Nat.reduceEqDiff, not_false_eq_true, ofHp, ixOf, if_true, Bool.and_self, Bool.true_and]; first | rfl | done) | (simp only [refsL, refs, refs_gvec, refs_ivec, ren, ren_gvec, List.nil_append, List.append_nil, List.cons_append, List.map_cons, List.map_nil, upd_atB, upd_offB, Nat.reduceEqDiff, not_false_eq_true, ofHp, ixOf, if_true, Bool.and_self, Bool.true_and]; simp; done)))
    | (have e := jq.2.2; rw [show q.1 = 0 by omega] at e; simp only [numI, List.append_nil] at e; rw [e]; rfl)
theorem goLabs_parts : ∀ (r cur : List UInt8) (b : Bool) (l : List (List UInt8)), goLabs r cur b = some l → ∀ x ∈ l, x.length ≤ cur.length + r.length
  | [], _, _, l, h => by simp [goLabs] at h; subst h; simp
  | c :: r, cur, b, l, h => by
    simp only [goLabs] at h
    split at h
    · split at h
      · rw [Option.map_eq_some_iff] at h
        obtain ⟨m, hm, rfl⟩ := h
        have := goLabs_parts r [] false m hm
        intro x hx
        rcases List.mem_cons.1 hx with rfl | hx
        · omega
        · have := this x hx; simp at this; rw [List.length_cons]; omega
      · cases h
    · intro x hx
      have := goLabs_parts r _ b l h x hx
      simp at this; rw [List.length_cons]; omega
theorem labs_part (n : List UInt8) : ∀ x ∈ (labs n).getD [], x.length ≤ 254 := by
  unfold labs
  split
  · simp
  · split
    · simp
    · rename_i h
      cases hg : goLabs n [] true with
      | none => simp
      | some l => intro x hx; have := goLabs_parts n [] true l hg x hx; simp at this; omega
def wnL : List (List UInt8) → List UInt8
  | [] => []
  | x :: r => (numB .i64 x.length 1 ++ x) ++ wnL r
theorem wnL_snoc : ∀ (a : List (List UInt8)) (x : List UInt8), wnL (a ++ [x]) = wnL a ++ (numB .i64 x.length 1 ++ x)
  | [], x => by simp [wnL]
  | y :: r, x => by simp [wnL, wnL_snoc r x]
theorem wnL_len : ∀ (l : List (List UInt8)), (∀ x ∈ l, x.length ≤ 254) → (wnL l).length ≤ 255 * l.length
  | [], _ => by simp [wnL]
  | x :: r, h => by
    have := wnL_len r fun y hy => h y (by simp [hy])
    have := h x (by simp)
    simp only [wnL, List.length_append, numB_len, List.length_cons]; omega
def wireN (n : List UInt8) : List UInt8 := wnL ((labs n).getD []) ++ numB .i64 0 1
theorem wireN_len (n : List UInt8) : (wireN n).length ≤ 64771 := by
  have := wnL_len _ (labs_part n)
  have := labs_sm n
  simp only [wireN, List.length_append, numB_len]; omega
theorem wnL_take {n : List UInt8} {i : Nat} : (wnL (((labs n).getD []).take i)).length ≤ 64770 := by
  have := wnL_len (((labs n).getD []).take i) fun x hx => labs_part n x (List.mem_of_mem_take hx)
  have := labs_sm n
  have : (((labs n).getD []).take i).length ≤ ((labs n).getD []).length := by rw [List.length_take]; omega
  omega
theorem labs_at {n : List UInt8} {i : Nat} (h : (i : Int) < ((labs n).getD []).length) : (((labs n).getD [])[i]!).length ≤ 254 := labs_part n _ (mem_at h)

noncomputable def FWN := mkF (fun s : (List UInt8) => [.st s]) (fun s => Sm s) (fun s => Res.flat (.st (wireN s)))
theorem FWN_eq {s1 : List UInt8} (hp : Sm s1) : FWN [.st s1] = some (Res.flat (.st (wireN s1))) := mkF_eq (s := (s1)) (fun s s' h => by simp only [List.cons.injEq, D.it.injEq, D.st.injEq, D.bo.injEq, true_and, and_true, adr_iff, dat_iff, rec_iff, zone_iff, delta_iff, hist_iff, recs_iff, deltas_iff, strs_iff, ints_iff] at h; simp only [h]) hp
set_option maxHeartbeats 4000000 in
theorem runWN (cx : Cx) (hP : cx.P = Try.prog) (hbs : cx.bs = 0) (h64 : cx.orc 64 = some FLabels) (h87 : cx.orc 87 = some FNum) (r64 : cx.rd.contains 64 = true) (r87 : cx.rd.contains 87 = true) (hk4 : cx.kp 4 = some [3, 4, 5]) (s1 : List UInt8) (hl : Sm s1) : pureRun cx Try.f86 [] false [.st s1] = some (Res.flat (.st (wireN s1))) := by
  have c64 := fun H nid l => (show callD cx 64 l H nid = _ from call_orc h64)
  have d64 := fun nx bef i env H dst ty pos after gd args ts => step_orc (cx := cx) (nx := nx) (bef := bef) (i := i) (env := env) (H := H) (dst := dst) (ty := ty) (pos := pos) (after := after) (gd := gd) (args := args) (ts := ts) r64 h64
  have c87 := fun H nid l => (show callD cx 87 l H nid = _ from call_orc h87)
  have d87 := fun nx bef i env H dst ty pos after gd args ts => step_orc (cx := cx) (nx := nx) (bef := bef) (i := i) (env := env) (H := H) (dst := dst) (ty := ty) (pos := pos) (after := after) (gd := gd) (args := args) (ts := ts) r87 h87
  have hw : ∀ k : Nat, (k : Int) < ((labs s1).getD []).length → IntKind.i64.wrap ((k : Int) + 1) = ((k + 1 : Nat) : Int) := fun k h => by have := labs_sm s1; rw [wrap64 (by omega) (by omega)]; simp
  have hnn : ∀ k : Nat, (0 ≤ (k : Int)) = True := fun k => by simp
  have hlt := labs_sm s1
  have hel : ∀ k : Nat, (k : Int) < ((labs s1).getD []).length → (((labs s1).getD []).map D.st)[k]? = some (.st ((labs s1).getD [])[k]!) := fun k h => getm (by omega)
  refine pure_flat (rs := [.tmp 2]) rfl hbs rfl ?_
  repeat' first
    | (refine evX_loop_rows (σ := Nat) (fun s => [.st (wnL (((labs s1).getD []).take s)), .own 0 0 ((labs s1).getD []).length, .it .i64 s]) (fun s => [.row 1 true (((labs s1).getD []).map D.st)]) (fun s => s ≤ ((labs s1).getD []).length) (fun s => ((labs s1).getD []).length - s) [3, 4, 5] hbs (by exact hk4) (fun q jq b hb => by simp only [List.mem_singleton] at hb; subst hb; exact map_refs (fun _ => rfl)) (fun s js => ?_) (s := 0) [0] ?_ ?_ ?_ ?_ ?_)
    | (refine br_mk (fun h => ?_) (fun h => ?_) <;> (try simp only [Bool.not_eq_true, Bool.not_eq_false, Classical.not_not] at h))
    | (refine ms_mk ?_ ?_)
    | simp only [↓cD, cU, cB, intOp, unD, minD_two, builtinD, idx, reduceCtorEq, ↓reduceIte, ofV, ofC, argEnv, Nat.reduceEqDiff, not_false_eq_true, flatL, cG, Bool.and_self,
      decide_true, decide_false, not_true_eq_false, false_and, false_implies, Option.map_some, Option.bind_some, Option.bind_none, Option.map_none, List.getElem?_toArray, List.toList_toArray, decide_eq_true_eq, decide_eq_false_iff_not, ge_iff_le, gt_iff_lt, and_true, true_and, implies_true, forall_const, true_or, or_true,
      immL, immD, Bool.true_and, Bool.and_true, Bool.false_and, Bool.and_false, Bool.true_or, Bool.or_true, Bool.false_or, Bool.or_false, Res.flat, ren, renL, List.length_nil, Nat.add_zero, List.map_cons, List.map_nil, List.nil_append, List.append_nil, List.cons_append, List.getElem?_cons_zero, List.getElem?_cons_succ, Bool.not_eq_true', Bool.not_true, Bool.not_false, Bool.not_eq_true, Bool.not_eq_false', Bool.not_eq_false, Bool.true_eq_false, Bool.false_eq_true, if_true, if_false, Int.reduceEq, Int.reduceLT, Int.reduceLE, Int.reduceNe, ite_self, or_false, false_or, or_self, eq_self, List.zip_cons_cons, List.zip_nil_left, deref, ldD, List.head?_cons, convD, shiftOp, strOp, bitsOp, cC, cS, refs, okRoots, okId, List.all_nil, List.all_cons, List.length_cons, Nat.zero_add, Nat.reduceMul, Nat.reduceAdd, Nat.reduceLeDiff, refsL, List.flatMap_cons, List.flatMap_nil, c64, c87, d64, d87, callX_imm, callX_nil, FLabels_eq, FNum_eq, ↓neq37, ↓eql37, ↓neq39, ↓eql39, ↓neq41, ↓eql41, cV, cT, cF, cW, borT, borM, bor_agg, Res.via, List.size_toArray, List.isEmpty_cons, put_ap, putAll_one, elems_own, refsB, List.isEmpty_nil, Nat.reduceLT, Nat.reduceSub, Nat.reduceLeDiff, Nat.reduceMul, Nat.reduceAdd, Int.toNat_natCast, Int.reduceToNat, appK, nilRow, callX_bor, borL, bor_row, bor_one, take_map_len, List.drop_zero, map_snoc, map_app, fillE, cO, List.length_cons, List.length_replicate, List.length_append, List.length_map, List.replicate, List.set_cons_zero, List.set_cons_succ, List.take_zero, List.take_succ_cons, List.drop_succ_cons, Nat.zero_lt_succ, Option.isSome_some, partD, ofHp, ixOf, cS, refs, okRoots, okId, List.all_nil, List.all_cons, List.length_cons, Nat.zero_add, Nat.reduceMul, Nat.reduceAdd, Nat.reduceLeDiff, refsL, List.flatMap_cons, List.flatMap_nil, lens Try.underlying9, hw, hnn, hlt, hel, Res.row, Res.rowd, hP, *]
  all_goals first
    | rfl
    | omega
    | (have := labs_at (n := s1) (i := s) (by omega); have := wnL_take (n := s1) (i := s); simp only [List.length_append, numB_len]; omega)
    | (refine ⟨[0], s + 1, ?_, ?_, ?_, ?_, by omega, by omega⟩; rotate_left 2; (rw [takeN (by omega), wnL_snoc]; rfl); all_goals (first | rfl | (simp only [refsL, refs, refs_gvec, refs_ivec, ren, ren_gvec, List.nil_append, List.append_nil, List.cons_append, List.map_cons, List.map_nil, upd_atB, upd_offB, Nat.reduceEqDiff, not_false_eq_true, ofHp, ixOf, if_true, Bool.and_self, Bool.true_and]; first | rfl | done) | (simp only [refsL, refs, refs_gvec, refs_ivec, ren, ren_gvec, List.nil_append, List.append_nil, List.cons_append, List.map_cons, List.map_nil, upd_atB, upd_offB, Nat.reduceEqDiff, not_false_eq_true, ofHp, ixOf, if_true, Bool.and_self, Bool.true_and]; simp; done)))
    | (have := wnL_take (n := s1) (i := s); simp only [numB_len]; omega)
    | (rw [take_end (by omega)]; rfl)
    | (first | rfl | (simp only [refsL, refs, refs_gvec, refs_ivec, ren, ren_gvec, List.nil_append, List.append_nil, List.cons_append, List.map_cons, List.map_nil, upd_atB, upd_offB, Nat.reduceEqDiff, not_false_eq_true, ofHp, ixOf, if_true, Bool.and_self, Bool.true_and]; first | rfl | done) | (simp only [refsL, refs, refs_gvec, refs_ivec, ren, ren_gvec, List.nil_append, List.append_nil, List.cons_append, List.map_cons, List.map_nil, upd_atB, upd_offB, Nat.reduceEqDiff, not_false_eq_true, ofHp, ixOf, if_true, Bool.and_self, Bool.true_and]; simp; done))
def bitV (n : Int) (i : Nat) : Nat → Int
  | 0 => 0
  | j + 1 => IntKind.i64.wrap (IntKind.i64.wrap (bitV n i j * 2) + IntKind.i64.wrap (bitS n (i * 8 + j)))
def bmI (n : Int) : Nat → List Int
  | 0 => []
  | i + 1 => bmI n i ++ [IntKind.u8.wrap (bitV n i 8)]
def bmLast (n : Int) : Nat → Nat
  | 0 => 0
  | i + 1 => if bitV n i 8 = 0 then bmLast n i else i + 1
theorem bmI_len (n : Int) : ∀ i, (bmI n i).length = i
  | 0 => rfl
  | i + 1 => by simp [bmI, bmI_len n i]
theorem bmLast_le (n : Int) : ∀ i, bmLast n i ≤ i
  | 0 => Nat.le_refl _
  | i + 1 => by have := bmLast_le n i; simp only [bmLast]; split <;> omega
def bmB (n : Int) : List UInt8 := ((bmI n 8).take (bmLast n 8)).map byteI
theorem bmB_len (n : Int) : (bmB n).length ≤ 8 := by have := bmLast_le n 8; simp only [bmB, List.length_map, List.length_take, bmI_len]; omega
theorem bm_conv {P : Program} {t t' e : TypeId} {H : Hp} {nid id k : Nat} {l : List Int} (hu : P.underlying t = some (.slice e)) (he : P.underlying e = some (.int .u8)) (hs : szT P e = some 1) (hd : P.underlying t' = some .string) (hH : H id = .row 1 true (l.map (D.it .u8))) :
    convD P t t' (.own id 0 k) H nid = some (.st ((l.take k).map byteI), H, nid) := by
  have h1 : srcOk P t (.own id 0 k) = true := src_own hu
  simp only [convD, hu, hd, he, hs, h1, if_true, elems, hH, Option.bind_some, List.drop_zero]
  rw [← List.map_take, bytes_map]
  rfl

noncomputable def FBm := mkF (fun s : Int => [.it .u64 s]) (fun s => True) (fun s => Res.flat (.st (bmB s)))
theorem FBm_eq {n1 : Int} : FBm [.it .u64 n1] = some (Res.flat (.st (bmB n1))) := mkF_eq (s := (n1)) (fun s s' h => by simp only [List.cons.injEq, D.it.injEq, D.st.injEq, D.bo.injEq, true_and, and_true, adr_iff, dat_iff, rec_iff, zone_iff, delta_iff, hist_iff, recs_iff, deltas_iff, strs_iff, ints_iff] at h; simp only [h]) trivial
set_option maxHeartbeats 4000000 in
theorem runBm (cx : Cx) (hP : cx.P = Try.prog) (hbs : cx.bs = 0) (hk4 : cx.kp 4 = some [0, 3, 4, 5]) (hk8 : cx.kp 8 = some [0, 3, 4, 5, 6, 7]) (n1 : Int)  : pureRun cx Try.f88 [] false [.it .u64 n1] = some (Res.flat (.st (bmB n1))) := by
  have hw : ∀ j : Nat, (j : Int) < 8 → IntKind.i64.wrap ((j : Int) + 1) = ((j + 1 : Nat) : Int) := fun j h => by rw [wrap64 (by omega) (by omega)]; simp
  have hw8 : ∀ i : Nat, (i : Int) < 8 → IntKind.i64.wrap ((i : Int) * 8) = ((i * 8 : Nat) : Int) := fun j h => by rw [wrap64 (by omega) (by omega)]; simp
  have hsl : ∀ (l : List D) (s : Nat), ¬ (s : Int) < 8 → s ≤ 8 → sliceD Try.prog (ofHp [.row 1 true l]) 112 (.own 0 0 s) none (some (.it .i64 (bmLast n1 s : Int))) none = some (.own 0 0 (bmLast n1 s)) := fun l s _ _ => slice_own_to Try.underlying112 sz5 rfl (bmLast_le n1 s)
  have hz : ∀ k : Nat, ((k : Int) < 0) = False := fun k => by simp
  have hu : ∀ i j : Nat, (i : Int) < 8 → (j : Int) < 8 → IntKind.u64.wrap (IntKind.i64.wrap (((i * 8 : Nat) : Int) + (j : Int))) = ((i * 8 + j : Nat) : Int) := fun i j h h' => by rw [wrap64 (by omega) (by omega), wrapu64]; omega
  refine pure_flat (rs := [.tmp 2]) rfl hbs rfl ?_
  repeat' first
    | (refine evX_loop_rows (σ := Nat) (fun s => [.it .u64 n1, .own 0 0 s, .it .i64 (bmLast n1 s), .it .i64 s]) (fun s => [.row 1 true ((bmI n1 s).map (D.it .u8))]) (fun s => s ≤ 8) (fun s => 8 - s) [0, 3, 4, 5] hbs (by exact hk4) (fun q jq b hb => by simp only [List.mem_singleton] at hb; subst hb; exact map_refs (fun _ => rfl)) (fun s js => ?_) (s := 0) [0] ?_ ?_ ?_ ?_ ?_)
    | (refine evX_loop_rows (σ := Nat) (fun j => [.it .u64 n1, .own 0 0 s, .it .i64 (bmLast n1 s), .it .i64 s, .it .i64 (bitV n1 s j), .it .i64 j]) (fun j => [.row 1 true ((bmI n1 s).map (D.it .u8))]) (fun j => j ≤ 8) (fun j => 8 - j) [0, 3, 4, 5, 6, 7] hbs (by exact hk8) (fun q jq b hb => by simp only [List.mem_singleton] at hb; subst hb; exact map_refs (fun _ => rfl)) (fun j jj => ?_) (s := 0) [0] ?_ ?_ ?_ ?_ ?_)
    | (refine br_mk (fun h => ?_) (fun h => ?_) <;> (try simp only [Bool.not_eq_true, Bool.not_eq_false, Classical.not_not] at h))
    | (refine ms_mk ?_ ?_)
    | simp only [↓cD, cU, cB, intOp, unD, minD_two, builtinD, idx, reduceCtorEq, ↓reduceIte, ofV, ofC, argEnv, Nat.reduceEqDiff, not_false_eq_true, flatL, cG, Bool.and_self,
      decide_true, decide_false, not_true_eq_false, false_and, false_implies, Option.map_some, Option.bind_some, Option.bind_none, Option.map_none, List.getElem?_toArray, List.toList_toArray, decide_eq_true_eq, decide_eq_false_iff_not, ge_iff_le, gt_iff_lt, and_true, true_and, implies_true, forall_const, true_or, or_true,
      immL, immD, Bool.true_and, Bool.and_true, Bool.false_and, Bool.and_false, Bool.true_or, Bool.or_true, Bool.false_or, Bool.or_false, Res.flat, ren, renL, List.length_nil, Nat.add_zero, List.map_cons, List.map_nil, List.nil_append, List.append_nil, List.cons_append, List.getElem?_cons_zero, List.getElem?_cons_succ, Bool.not_eq_true', Bool.not_true, Bool.not_false, Bool.not_eq_true, Bool.not_eq_false', Bool.not_eq_false, Bool.true_eq_false, Bool.false_eq_true, if_true, if_false, Int.reduceEq, Int.reduceLT, Int.reduceLE, Int.reduceNe, ite_self, or_false, false_or, or_self, eq_self, List.zip_cons_cons, List.zip_nil_left, deref, ldD, List.head?_cons, convD, shiftOp, strOp, bitsOp, cC, ↓neq37, ↓eql37, ↓neq39, ↓eql39, ↓neq41, ↓eql41, cV, cT, cF, cW, borT, borM, bor_agg, Res.via, List.size_toArray, List.isEmpty_cons, put_ap, putAll_one, elems_own, refsB, List.isEmpty_nil, Nat.reduceLT, Nat.reduceSub, Nat.reduceLeDiff, Nat.reduceMul, Nat.reduceAdd, Int.toNat_natCast, Int.reduceToNat, appK, nilRow, callX_bor, borL, bor_row, bor_one, take_map_len, List.drop_zero, map_snoc, map_app, fillE, cO, List.length_cons, List.length_replicate, List.length_append, List.length_map, List.replicate, List.set_cons_zero, List.set_cons_succ, List.take_zero, List.take_succ_cons, List.drop_succ_cons, Nat.zero_lt_succ, Option.isSome_some, partD, ofHp, ixOf, bytes_take, bm_conv Try.underlying112 Try.underlying5 sz5 Try.underlying9, hsl, hw, hu, hz, hw8, hP, *]
  all_goals first
    | rfl
    | omega
    | (refine ⟨[0], j + 1, ?_, ?_, ?_, ?_, by omega, by omega⟩ <;> (first | rfl | (simp only [refsL, refs, refs_gvec, refs_ivec, ren, ren_gvec, List.nil_append, List.append_nil, List.cons_append, List.map_cons, List.map_nil, upd_atB, upd_offB, Nat.reduceEqDiff, not_false_eq_true, ofHp, ixOf, if_true, Bool.and_self, Bool.true_and]; first | rfl | done) | (simp only [refsL, refs, refs_gvec, refs_ivec, ren, ren_gvec, List.nil_append, List.append_nil, List.cons_append, List.map_cons, List.map_nil, upd_atB, upd_offB, Nat.reduceEqDiff, not_false_eq_true, ofHp, ixOf, if_true, Bool.and_self, Bool.true_and]; simp; done)))
    | (rw [bmI_len]; omega)
    | (have hj : j = 8 := (by omega); subst hj; have e1 : bmLast n1 (s + 1) = s + 1 := (by simp [bmLast, *]); have e2 : bmI n1 (s + 1) = bmI n1 s ++ [IntKind.u8.wrap (bitV n1 s 8)] := rfl; refine ⟨[2], s + 1, ?_, ?_, ?_, ?_, by omega, by omega⟩ <;> (try simp only [e1, e2]) <;> (first | rfl | (simp only [refsL, refs, refs_gvec, refs_ivec, ren, ren_gvec, List.nil_append, List.append_nil, List.cons_append, List.map_cons, List.map_nil, upd_atB, upd_offB, Nat.reduceEqDiff, not_false_eq_true, ofHp, ixOf, if_true, Bool.and_self, Bool.true_and]; first | rfl | done) | (simp only [refsL, refs, refs_gvec, refs_ivec, ren, ren_gvec, List.nil_append, List.append_nil, List.cons_append, List.map_cons, List.map_nil, upd_atB, upd_offB, Nat.reduceEqDiff, not_false_eq_true, ofHp, ixOf, if_true, Bool.and_self, Bool.true_and]; simp; done)))
    | (have hj : j = 8 := (by omega); subst hj; have e1 : bmLast n1 (s + 1) = bmLast n1 s := (by simp [bmLast, *]); have e2 : bmI n1 (s + 1) = bmI n1 s ++ [IntKind.u8.wrap 0] := (by simp [bmI, *]); refine ⟨[2], s + 1, ?_, ?_, ?_, ?_, by omega, by omega⟩ <;> (try simp only [e1, e2]) <;> (first | rfl | (simp only [refsL, refs, refs_gvec, refs_ivec, ren, ren_gvec, List.nil_append, List.append_nil, List.cons_append, List.map_cons, List.map_nil, upd_atB, upd_offB, Nat.reduceEqDiff, not_false_eq_true, ofHp, ixOf, if_true, Bool.and_self, Bool.true_and]; first | rfl | done) | (simp only [refsL, refs, refs_gvec, refs_ivec, ren, ren_gvec, List.nil_append, List.append_nil, List.cons_append, List.map_cons, List.map_nil, upd_atB, upd_offB, Nat.reduceEqDiff, not_false_eq_true, ofHp, ixOf, if_true, Bool.and_self, Bool.true_and]; simp; done)))
    | (have hs : s = 8 := (by omega); subst hs; rfl)
    | (first | rfl | (simp only [refsL, refs, refs_gvec, refs_ivec, ren, ren_gvec, List.nil_append, List.append_nil, List.cons_append, List.map_cons, List.map_nil, upd_atB, upd_offB, Nat.reduceEqDiff, not_false_eq_true, ofHp, ixOf, if_true, Bool.and_self, Bool.true_and]; first | rfl | done) | (simp only [refsL, refs, refs_gvec, refs_ivec, ren, ren_gvec, List.nil_append, List.append_nil, List.cons_append, List.map_cons, List.map_nil, upd_atB, upd_offB, Nat.reduceEqDiff, not_false_eq_true, ofHp, ixOf, if_true, Bool.and_self, Bool.true_and]; simp; done))
end Go.Mir
