/- What functions of the program answer, read off. -/
import Derived.Test.YtbgeepggjhgfnaaWalk3
import Derived.KernelRfl
import Derived.WalkKit
import Derived.ProofKit
import Derived.OpenShut
import Derived.ShutString
import Derived.ChangeOld
set_option linter.unusedSimpArgs false
set_option linter.unusedVariables false
namespace Go.Mir
open Go Go.RowKit Go.Proofs
attribute [local congr] Ev.congr EvC.congr EvW.congr Br.congr Ms.congr
set_option maxRecDepth 100000
noncomputable def FAdds := mkF (fun s : Int × Int => [.it .i64 s.1, .it .i64 s.2]) (fun s => True) (fun s => Res.flat (.bo true))
theorem FAdds_eq {x : Int} {y : Int} : FAdds [.it .i64 x, .it .i64 y] = some (Res.flat (.bo true)) := mkF_eq (s := (x, y)) (fun s s' h => by simp only [List.cons.injEq, D.it.injEq, D.st.injEq, D.bo.injEq, true_and, and_true] at h; simp only [h]) trivial
noncomputable def FCompares := mkF (fun s : Int × Int => [.it .i64 s.1, .it .i64 s.2]) (fun s => True) (fun s => Res.flat (.bo true))
theorem FCompares_eq {x : Int} {y : Int} : FCompares [.it .i64 x, .it .i64 y] = some (Res.flat (.bo true)) := mkF_eq (s := (x, y)) (fun s s' h => by simp only [List.cons.injEq, D.it.injEq, D.st.injEq, D.bo.injEq, true_and, and_true] at h; simp only [h]) trivial
noncomputable def FMaxima := mkF (fun s : (Option Bool) × (List Int) => [iv s.1 s.2]) (fun s => Sm s.2) (fun s => Res.flat (.bo true))
theorem FMaxima_eq {o : Option Bool} {zs : List Int} (hp : Sm zs) : FMaxima [iv o zs] = some (Res.flat (.bo true)) := mkF_eq (s := (o, zs)) (fun s s' h => rfl) hp
noncomputable def FSteps := mkF (fun s : Int × Int × Int => [.it .i64 s.1, .it .i64 s.2.1, .it .i64 s.2.2]) (fun s => (-9223372036854775808 ≤ s.1 ∧ s.1 < 9223372036854775808) ∧ (-9223372036854775808 ≤ s.2.1 ∧ s.2.1 < 9223372036854775808) ∧ (-9223372036854775808 ≤ s.2.2 ∧ s.2.2 < 9223372036854775808)) (fun s => Res.flat (.bo true))
theorem FSteps_eq {x : Int} {y : Int} {z : Int} (hp : (-9223372036854775808 ≤ x ∧ x < 9223372036854775808) ∧ (-9223372036854775808 ≤ y ∧ y < 9223372036854775808) ∧ (-9223372036854775808 ≤ z ∧ z < 9223372036854775808)) : FSteps [.it .i64 x, .it .i64 y, .it .i64 z] = some (Res.flat (.bo true)) := mkF_eq (s := (x, y, z)) (fun s s' h => by simp only [List.cons.injEq, D.it.injEq, D.st.injEq, D.bo.injEq, true_and, and_true] at h; simp only [h]) hp
noncomputable def FTurns := mkF (fun s : Int × Int × Int => [.it .i64 s.1, .it .i64 s.2.1, .it .i64 s.2.2]) (fun s => (-9223372036854775808 ≤ s.1 ∧ s.1 < 9223372036854775808) ∧ (-9223372036854775808 ≤ s.2.1 ∧ s.2.1 < 9223372036854775808) ∧ (-9223372036854775808 ≤ s.2.2 ∧ s.2.2 < 9223372036854775808)) (fun s => Res.flat (.bo true))
theorem FTurns_eq {x : Int} {y : Int} {z : Int} (hp : (-9223372036854775808 ≤ x ∧ x < 9223372036854775808) ∧ (-9223372036854775808 ≤ y ∧ y < 9223372036854775808) ∧ (-9223372036854775808 ≤ z ∧ z < 9223372036854775808)) : FTurns [.it .i64 x, .it .i64 y, .it .i64 z] = some (Res.flat (.bo true)) := mkF_eq (s := (x, y, z)) (fun s s' h => by simp only [List.cons.injEq, D.it.injEq, D.st.injEq, D.bo.injEq, true_and, and_true] at h; simp only [h]) hp
theorem runSteps' (cx : Cx) (hP : cx.P = Try.prog) (hbs : cx.bs = 0) (h9 : cx.orc 9 = some FAdd) (h16 : cx.orc 16 = some FAfter) (h13 : cx.orc 13 = some FTrue) (x y z : Int) (h : (-9223372036854775808 ≤ x ∧ x < 9223372036854775808) ∧ (-9223372036854775808 ≤ y ∧ y < 9223372036854775808) ∧ (-9223372036854775808 ≤ z ∧ z < 9223372036854775808)) : pureRun cx Try.f6 [] false [.it .i64 x, .it .i64 y, .it .i64 z] = some (Res.flat (.bo true)) := runSteps cx hP hbs h9 h16 h13 x y z h.1 h.2.1 h.2.2
theorem runTurns' (cx : Cx) (hP : cx.P = Try.prog) (hbs : cx.bs = 0) (h9 : cx.orc 9 = some FAdd) (h16 : cx.orc 16 = some FAfter) (h11 : cx.orc 11 = some FValid) (h14 : cx.orc 14 = some FCmp) (h13 : cx.orc 13 = some FTrue) (x y z : Int) (h : (-9223372036854775808 ≤ x ∧ x < 9223372036854775808) ∧ (-9223372036854775808 ≤ y ∧ y < 9223372036854775808) ∧ (-9223372036854775808 ≤ z ∧ z < 9223372036854775808)) : pureRun cx Try.f7 [] false [.it .i64 x, .it .i64 y, .it .i64 z] = some (Res.flat (.bo true)) := runTurns cx hP hbs h9 h16 h11 h14 h13 x y z h.1 h.2.1 h.2.2
noncomputable def K0 : Known := ⟨Try.prog, [], [], []⟩
theorem ok0 : K0.OK := Known.OK.none _
theorem follows : Try.prog.follows .mixedOrders = true := by kernel_rfl
noncomputable def K1 : Known := K0.pure 11 FValid
theorem ok1 : K1.OK := Known.add ok0 follows (fun _ => none) ⟨Try.func11, rfl, by kernel_rfl, by kernel_rfl⟩ (n := 1) (by decide) (fun _ => rfl) [] false (fun s hp => runValid (K0.cx (fun _ => none)) rfl rfl (s))
noncomputable def K2 : Known := K1.pure 12 FValid
theorem ok2 : K2.OK := Known.add ok1 follows (fun _ => none) ⟨Try.func12, rfl, by kernel_rfl, by kernel_rfl⟩ (n := 1) (by decide) (fun _ => rfl) [] false (fun s hp => runValidR (K1.cx (fun _ => none)) rfl rfl (s))
noncomputable def K3 : Known := K2.pure 9 FAdd
theorem ok3 : K3.OK := Known.add ok2 follows (fun _ => none) ⟨Try.func9, rfl, by kernel_rfl, by kernel_rfl⟩ (n := 2) (by decide) (fun _ => rfl) [] false (fun s hp => runAdd (K2.cx (fun _ => none)) rfl rfl rfl (s.1) (s.2))
noncomputable def K4 : Known := K3.pure 10 FAdd
theorem ok4 : K4.OK := Known.add ok3 follows (fun _ => none) ⟨Try.func10, rfl, by kernel_rfl, by kernel_rfl⟩ (n := 2) (by decide) (fun _ => rfl) [] false (fun s hp => runAddR (K3.cx (fun _ => none)) rfl rfl rfl (s.1) (s.2))
noncomputable def K5 : Known := K4.pure 14 FCmp
theorem ok5 : K5.OK := Known.add ok4 follows (fun _ => none) ⟨Try.func14, rfl, by kernel_rfl, by kernel_rfl⟩ (n := 2) (by decide) (fun _ => rfl) [] false (fun s hp => runCmp (K4.cx (fun _ => none)) rfl rfl rfl (s.1) (s.2))
noncomputable def K6 : Known := K5.pure 15 FCmp
theorem ok6 : K6.OK := Known.add ok5 follows (fun _ => none) ⟨Try.func15, rfl, by kernel_rfl, by kernel_rfl⟩ (n := 2) (by decide) (fun _ => rfl) [] false (fun s hp => runCmpR (K5.cx (fun _ => none)) rfl rfl rfl (s.1) (s.2))
noncomputable def K7 : Known := K6.pure 16 FAfter
theorem ok7 : K7.OK := Known.add ok6 follows (fun _ => none) ⟨Try.func16, rfl, by kernel_rfl, by kernel_rfl⟩ (n := 2) (by decide) (fun _ => rfl) [] false (fun s hp => runAfter (K6.cx (fun _ => none)) rfl rfl rfl (s.1) (s.2))
noncomputable def K8 : Known := K7.pure 17 FAfter
theorem ok8 : K8.OK := Known.add ok7 follows (fun _ => none) ⟨Try.func17, rfl, by kernel_rfl, by kernel_rfl⟩ (n := 2) (by decide) (fun _ => rfl) [] false (fun s hp => runAfterR (K7.cx (fun _ => none)) rfl rfl rfl (s.1) (s.2))
noncomputable def K9 : Known := K8.pure 18 FMax
theorem ok9 : K9.OK := Known.add ok8 follows (fun i => if i = 2 then some [0, 11, 12, 13] else if i = 6 then some [0, 5, 6, 11, 12, 13, 17, 18, 19] else  none) ⟨Try.func18, rfl, by kernel_rfl, by kernel_rfl⟩ (n := 1) (by decide) (fun _ => rfl) [] false (fun s hp => runMax (K8.cx (fun i => if i = 2 then some [0, 11, 12, 13] else if i = 6 then some [0, 5, 6, 11, 12, 13, 17, 18, 19] else  none)) rfl rfl rfl rfl rfl (s.1) (s.2) hp)
noncomputable def K10 : Known := K9.pure 19 FMax
theorem ok10 : K10.OK := Known.add ok9 follows (fun i => if i = 2 then some [0, 4] else if i = 6 then some [0, 4, 5, 6] else  none) ⟨Try.func19, rfl, by kernel_rfl, by kernel_rfl⟩ (n := 1) (by decide) (fun _ => rfl) [] false (fun s hp => runMaxR (K9.cx (fun i => if i = 2 then some [0, 4] else if i = 6 then some [0, 4, 5, 6] else  none)) rfl rfl rfl rfl rfl rfl (s.1) (s.2) hp)
noncomputable def K11 : Known := K10.pure 13 FTrue
theorem ok11 : K11.OK := Known.add ok10 follows (fun _ => none) ⟨Try.func13, rfl, by kernel_rfl, by kernel_rfl⟩ (n := 0) (by decide) (fun _ => rfl) [] false (fun s hp => runAwake (K10.cx (fun _ => none)) rfl rfl rfl rfl rfl rfl rfl)
noncomputable def K12 : Known := K11.pure 3 FAdds
theorem ok12 : K12.OK := Known.add ok11 follows (fun _ => none) ⟨Try.func3, rfl, by kernel_rfl, by kernel_rfl⟩ (n := 2) (by decide) (fun _ => rfl) [] false (fun s hp => runAdds (K11.cx (fun _ => none)) rfl rfl rfl rfl rfl rfl rfl (s.1) (s.2))
noncomputable def K13 : Known := K12.pure 4 FCompares
theorem ok13 : K13.OK := Known.add ok12 follows (fun _ => none) ⟨Try.func4, rfl, by kernel_rfl, by kernel_rfl⟩ (n := 2) (by decide) (fun _ => rfl) [] false (fun s hp => runCompares (K12.cx (fun _ => none)) rfl rfl rfl rfl rfl rfl rfl (s.1) (s.2))
noncomputable def K14 : Known := K13.pure 5 FMaxima
theorem ok14 : K14.OK := Known.add ok13 follows (fun _ => none) ⟨Try.func5, rfl, by kernel_rfl, by kernel_rfl⟩ (n := 1) (by decide) (fun _ => rfl) [] false (fun s hp => runMaxima (K13.cx (fun _ => none)) rfl rfl rfl rfl rfl (s.1) (s.2) hp)
noncomputable def K15 : Known := K14.pure 6 FSteps
theorem ok15 : K15.OK := Known.add ok14 follows (fun _ => none) ⟨Try.func6, rfl, by kernel_rfl, by kernel_rfl⟩ (n := 3) (by decide) (fun _ => rfl) [] false (fun s hp => runSteps' (K14.cx (fun _ => none)) rfl rfl rfl rfl rfl (s.1) (s.2.1) (s.2.2) hp)
noncomputable def K16 : Known := K15.pure 7 FTurns
theorem ok16 : K16.OK := Known.add ok15 follows (fun _ => none) ⟨Try.func7, rfl, by kernel_rfl, by kernel_rfl⟩ (n := 3) (by decide) (fun _ => rfl) [] false (fun s hp => runTurns' (K15.cx (fun _ => none)) rfl rfl rfl rfl rfl rfl rfl (s.1) (s.2.1) (s.2.2) hp)
end Go.Mir
namespace Go.Proofs.Ytbgeepggjhgfnaa.serialAdds
open Go.ChangeShapes Go.WideShapes Go.ChangeAt Go.RowKit
theorem own : ownKnob Try.prog.godebug = none := by kernel_rfl
theorem laidOut : laidOutB Try.prog = true := by kernel_rfl
theorem told (ds : List Mir.D) (h : Mir.TDA Try.prog 12 [3, 3] ds) : Mir.FAdds ds = some (Mir.Res.flat (.bo true)) := by
  obtain ⟨d0, r0, rfl, h0, h1⟩ := Mir.tda_cons h
  obtain ⟨d1, r1, rfl, h2, h3⟩ := Mir.tda_cons h1
  obtain rfl := Mir.tda_nil h3
  obtain ⟨x, rfl, x1, x2⟩ := Mir.td_int Try.underlying3 h0
  obtain ⟨y, rfl, y1, y2⟩ := Mir.td_int Try.underlying3 h2
  exact Mir.FAdds_eq
theorem lifted (os : Os) (started : os.Started) (H : Type) (enc : TypeId × Value → H) :
    ReturnsInHanded {} Try.checked os 3 .any (Rows.serialAddsSpec.pre6 enc Try.prog Try.f3 Rows.serialAddsRow.domain false) (Rows.serialAddsSpec.post enc Try.prog Try.f3 false true false false) := by
  refine returnsInHanded_of_change_sized (C := Try.checked) own started (by kernel_rfl) Try.func3
    (ChangeSpec.witness6 (enc := enc) (C := Try.checked) false ⟨#[], #[.int .i64 0, .int .i64 0], []⟩ 8 (by kernel_rfl) (by kernel_rfl) (by kernel_rfl) (by kernel_rfl)) ?_
  intro W base args ds gs before hval0 hW hcnd hsz0 _
  have hsz : (DataW.weightsEach Try.prog (Try.f3.params.toList ++ Rows.serialAddsSpec.plain.varTypes Try.prog) (ds ++ gs)).all (· ≤ reachBytes) = true := hsz0
  have hval : ∀ (j : Nat) t v, Try.f3.params[j]? = some t → args[j]? = some v → Value.okWide Try.prog W .any base t v := hval0
  have hW' := hW
  obtain ⟨p, q, hA0, hV, rfl, hfz, hnd⟩ := hW
  have hA : DataW.TrodAll enc Try.prog W 0 (fun _ => true) true Try.f3.params.toList args.toList ds p := hA0
  rw [Try.params3] at hA hval hsz
  obtain ⟨rfl, rfl⟩ := trodVars_none hV
  have hA1 : DataW.TrodAll enc Try.prog W 0 (fun _ => true) true [3, 3] args.toList ds p := hA
  have hsz1 : (DataW.weightsEach Try.prog [3, 3] ds).all (· ≤ reachBytes) = true := by
    have h := hsz
    rw [List.append_nil] at h
    exact h
  refine (Mir.law_run (n := 12) (Mir.Known.OK.get Mir.ok16 3 rfl) (by kernel_rfl) hA1 (fun j t v ht hv => hval j t v (by simpa using ht) hv) hsz1 told).mono fun e W' ⟨he, bel⟩ => ?_
  subst he
  have hK := Mir.args_stay (spare := fun _ => true) laidOut bel _ _ _ _ (by kernel_rfl) hA1
  obtain ⟨v0, vs0, d0, ds0, p0, q0, h0, rfl, rfl, _, r0⟩ := trodAll_cons hA1
  obtain ⟨v1, vs1, d1, ds1, p1, q1, h1, rfl, rfl, _, r1⟩ := trodAll_cons r0
  obtain ⟨rfl, rfl, rfl⟩ := trodAll_nil r1
  exact ⟨_, rfl, _, _, _, [], _, [], hW', trodAll_mk1 (shut_bool Try.underlying4 _), hK, rfl, bel.frame _, fun h => by cases h⟩
theorem over : Rows.serialAddsRow.holds Try.pinned (OpenSpec.ofChange Rows.serialAddsSpec) :=
  OpenClaim.holds_of_wide 3 Try.f3 rfl rfl rfl rfl rfl rfl rfl ⟨rfl, rfl, rfl, rfl, rfl⟩ rfl rfl rfl rfl rfl (by kernel_rfl) Try.func3 (by kernel_rfl)
    (of_decide_eq_true (by kernel_rfl)) (by unfold Func.isWrapper; first | (rw [if_pos (by decide +kernel)]; kernel_rfl) | (rw [if_neg (by decide +kernel)]; exact ⟨rfl, rfl⟩))
    (fun os started H enc _ => lifted os started H enc)
end Go.Proofs.Ytbgeepggjhgfnaa.serialAdds
namespace Go.Proofs.Ytbgeepggjhgfnaa
/-- The statement: for every input the law returns true, and each argument reads as it did. -/
theorem serialAdds_holds : Rows.SerialAddsSaid := serialAdds.over
end Go.Proofs.Ytbgeepggjhgfnaa
namespace Go.Mir
end Go.Mir
namespace Go.Proofs.Ytbgeepggjhgfnaa.serialCompares
open Go.ChangeShapes Go.WideShapes Go.ChangeAt Go.RowKit
theorem own : ownKnob Try.prog.godebug = none := by kernel_rfl
theorem laidOut : laidOutB Try.prog = true := by kernel_rfl
theorem told (ds : List Mir.D) (h : Mir.TDA Try.prog 12 [3, 3] ds) : Mir.FCompares ds = some (Mir.Res.flat (.bo true)) := by
  obtain ⟨d0, r0, rfl, h0, h1⟩ := Mir.tda_cons h
  obtain ⟨d1, r1, rfl, h2, h3⟩ := Mir.tda_cons h1
  obtain rfl := Mir.tda_nil h3
  obtain ⟨x, rfl, x1, x2⟩ := Mir.td_int Try.underlying3 h0
  obtain ⟨y, rfl, y1, y2⟩ := Mir.td_int Try.underlying3 h2
  exact Mir.FCompares_eq
theorem lifted (os : Os) (started : os.Started) (H : Type) (enc : TypeId × Value → H) :
    ReturnsInHanded {} Try.checked os 4 .any (Rows.serialComparesSpec.pre6 enc Try.prog Try.f4 Rows.serialComparesRow.domain false) (Rows.serialComparesSpec.post enc Try.prog Try.f4 false true false false) := by
  refine returnsInHanded_of_change_sized (C := Try.checked) own started (by kernel_rfl) Try.func4
    (ChangeSpec.witness6 (enc := enc) (C := Try.checked) false ⟨#[], #[.int .i64 0, .int .i64 0], []⟩ 8 (by kernel_rfl) (by kernel_rfl) (by kernel_rfl) (by kernel_rfl)) ?_
  intro W base args ds gs before hval0 hW hcnd hsz0 _
  have hsz : (DataW.weightsEach Try.prog (Try.f4.params.toList ++ Rows.serialComparesSpec.plain.varTypes Try.prog) (ds ++ gs)).all (· ≤ reachBytes) = true := hsz0
  have hval : ∀ (j : Nat) t v, Try.f4.params[j]? = some t → args[j]? = some v → Value.okWide Try.prog W .any base t v := hval0
  have hW' := hW
  obtain ⟨p, q, hA0, hV, rfl, hfz, hnd⟩ := hW
  have hA : DataW.TrodAll enc Try.prog W 0 (fun _ => true) true Try.f4.params.toList args.toList ds p := hA0
  rw [Try.params4] at hA hval hsz
  obtain ⟨rfl, rfl⟩ := trodVars_none hV
  have hA1 : DataW.TrodAll enc Try.prog W 0 (fun _ => true) true [3, 3] args.toList ds p := hA
  have hsz1 : (DataW.weightsEach Try.prog [3, 3] ds).all (· ≤ reachBytes) = true := by
    have h := hsz
    rw [List.append_nil] at h
    exact h
  refine (Mir.law_run (n := 12) (Mir.Known.OK.get Mir.ok16 4 rfl) (by kernel_rfl) hA1 (fun j t v ht hv => hval j t v (by simpa using ht) hv) hsz1 told).mono fun e W' ⟨he, bel⟩ => ?_
  subst he
  have hK := Mir.args_stay (spare := fun _ => true) laidOut bel _ _ _ _ (by kernel_rfl) hA1
  obtain ⟨v0, vs0, d0, ds0, p0, q0, h0, rfl, rfl, _, r0⟩ := trodAll_cons hA1
  obtain ⟨v1, vs1, d1, ds1, p1, q1, h1, rfl, rfl, _, r1⟩ := trodAll_cons r0
  obtain ⟨rfl, rfl, rfl⟩ := trodAll_nil r1
  exact ⟨_, rfl, _, _, _, [], _, [], hW', trodAll_mk1 (shut_bool Try.underlying4 _), hK, rfl, bel.frame _, fun h => by cases h⟩
theorem over : Rows.serialComparesRow.holds Try.pinned (OpenSpec.ofChange Rows.serialComparesSpec) :=
  OpenClaim.holds_of_wide 4 Try.f4 rfl rfl rfl rfl rfl rfl rfl ⟨rfl, rfl, rfl, rfl, rfl⟩ rfl rfl rfl rfl rfl (by kernel_rfl) Try.func4 (by kernel_rfl)
    (of_decide_eq_true (by kernel_rfl)) (by unfold Func.isWrapper; first | (rw [if_pos (by decide +kernel)]; kernel_rfl) | (rw [if_neg (by decide +kernel)]; exact ⟨rfl, rfl⟩))
    (fun os started H enc _ => lifted os started H enc)
end Go.Proofs.Ytbgeepggjhgfnaa.serialCompares
namespace Go.Proofs.Ytbgeepggjhgfnaa
/-- The statement: for every input the law returns true, and each argument reads as it did. -/
theorem serialCompares_holds : Rows.SerialComparesSaid := serialCompares.over
end Go.Proofs.Ytbgeepggjhgfnaa
namespace Go.Mir
end Go.Mir
namespace Go.Proofs.Ytbgeepggjhgfnaa.serialMaxima
open Go.ChangeShapes Go.WideShapes Go.ChangeAt Go.RowKit
theorem own : ownKnob Try.prog.godebug = none := by kernel_rfl
theorem laidOut : laidOutB Try.prog = true := by kernel_rfl
theorem told (ds : List Mir.D) (h : Mir.TDA Try.prog 12 [30] ds) : Mir.FMaxima ds = some (Mir.Res.flat (.bo true)) := by
  obtain ⟨d0, r0, rfl, h0, h1⟩ := Mir.tda_cons h
  obtain rfl := Mir.tda_nil h1
  obtain ⟨o, zs, rfl, hl, _⟩ := Mir.td_ints Try.underlying30 Try.underlying3 (by kernel_rfl) (by decide +kernel) h0
  exact Mir.FMaxima_eq hl
theorem lifted (os : Os) (started : os.Started) (H : Type) (enc : TypeId × Value → H) :
    ReturnsInHanded {} Try.checked os 5 .any (Rows.serialMaximaSpec.pre6 enc Try.prog Try.f5 Rows.serialMaximaRow.domain false) (Rows.serialMaximaSpec.post enc Try.prog Try.f5 false true false false) := by
  refine returnsInHanded_of_change_sized (C := Try.checked) own started (by kernel_rfl) Try.func5
    (ChangeSpec.witness6 (enc := enc) (C := Try.checked) false ⟨#[], #[.slice none 0 0], []⟩ 8 (by kernel_rfl) (by kernel_rfl) (by kernel_rfl) (by kernel_rfl)) ?_
  intro W base args ds gs before hval0 hW hcnd hsz0 _
  have hsz : (DataW.weightsEach Try.prog (Try.f5.params.toList ++ Rows.serialMaximaSpec.plain.varTypes Try.prog) (ds ++ gs)).all (· ≤ reachBytes) = true := hsz0
  have hval : ∀ (j : Nat) t v, Try.f5.params[j]? = some t → args[j]? = some v → Value.okWide Try.prog W .any base t v := hval0
  have hW' := hW
  obtain ⟨p, q, hA0, hV, rfl, hfz, hnd⟩ := hW
  have hA : DataW.TrodAll enc Try.prog W 0 (fun _ => true) true Try.f5.params.toList args.toList ds p := hA0
  rw [Try.params5] at hA hval hsz
  obtain ⟨rfl, rfl⟩ := trodVars_none hV
  have hA1 : DataW.TrodAll enc Try.prog W 0 (fun _ => true) true [30] args.toList ds p := hA
  have hsz1 : (DataW.weightsEach Try.prog [30] ds).all (· ≤ reachBytes) = true := by
    have h := hsz
    rw [List.append_nil] at h
    exact h
  refine (Mir.law_run (n := 12) (Mir.Known.OK.get Mir.ok16 5 rfl) (by kernel_rfl) hA1 (fun j t v ht hv => hval j t v (by simpa using ht) hv) hsz1 told).mono fun e W' ⟨he, bel⟩ => ?_
  subst he
  have hK := Mir.args_stay (spare := fun _ => true) laidOut bel _ _ _ _ (by kernel_rfl) hA1
  obtain ⟨v0, vs0, d0, ds0, p0, q0, h0, rfl, rfl, _, r0⟩ := trodAll_cons hA1
  obtain ⟨rfl, rfl, rfl⟩ := trodAll_nil r0
  exact ⟨_, rfl, _, _, _, [], _, [], hW', trodAll_mk1 (shut_bool Try.underlying4 _), hK, rfl, bel.frame _, fun h => by cases h⟩
theorem over : Rows.serialMaximaRow.holds Try.pinned (OpenSpec.ofChange Rows.serialMaximaSpec) :=
  OpenClaim.holds_of_wide 5 Try.f5 rfl rfl rfl rfl rfl rfl rfl ⟨rfl, rfl, rfl, rfl, rfl⟩ rfl rfl rfl rfl rfl (by kernel_rfl) Try.func5 (by kernel_rfl)
    (of_decide_eq_true (by kernel_rfl)) (by unfold Func.isWrapper; first | (rw [if_pos (by decide +kernel)]; kernel_rfl) | (rw [if_neg (by decide +kernel)]; exact ⟨rfl, rfl⟩))
    (fun os started H enc _ => lifted os started H enc)
end Go.Proofs.Ytbgeepggjhgfnaa.serialMaxima
namespace Go.Proofs.Ytbgeepggjhgfnaa
/-- The statement: for every input the law returns true, and each argument reads as it did. -/
theorem serialMaxima_holds : Rows.SerialMaximaSaid := serialMaxima.over
end Go.Proofs.Ytbgeepggjhgfnaa
namespace Go.Mir
end Go.Mir
namespace Go.Proofs.Ytbgeepggjhgfnaa.serialSteps
open Go.ChangeShapes Go.WideShapes Go.ChangeAt Go.RowKit
theorem own : ownKnob Try.prog.godebug = none := by kernel_rfl
theorem laidOut : laidOutB Try.prog = true := by kernel_rfl
theorem told (ds : List Mir.D) (h : Mir.TDA Try.prog 12 [3, 3, 3] ds) : Mir.FSteps ds = some (Mir.Res.flat (.bo true)) := by
  obtain ⟨d0, r0, rfl, h0, h1⟩ := Mir.tda_cons h
  obtain ⟨d1, r1, rfl, h2, h3⟩ := Mir.tda_cons h1
  obtain ⟨d2, r2, rfl, h4, h5⟩ := Mir.tda_cons h3
  obtain rfl := Mir.tda_nil h5
  obtain ⟨x, rfl, x1, x2⟩ := Mir.td_int Try.underlying3 h0
  obtain ⟨y, rfl, y1, y2⟩ := Mir.td_int Try.underlying3 h2
  obtain ⟨z, rfl, z1, z2⟩ := Mir.td_int Try.underlying3 h4
  simp only [IntKind.min, IntKind.max, IntKind.signed, IntKind.bits] at x1 x2 y1 y2 z1 z2
  simp at x1 x2 y1 y2 z1 z2
  exact Mir.FSteps_eq (by omega)
theorem lifted (os : Os) (started : os.Started) (H : Type) (enc : TypeId × Value → H) :
    ReturnsInHanded {} Try.checked os 6 .any (Rows.serialStepsSpec.pre6 enc Try.prog Try.f6 Rows.serialStepsRow.domain false) (Rows.serialStepsSpec.post enc Try.prog Try.f6 false true false false) := by
  refine returnsInHanded_of_change_sized (C := Try.checked) own started (by kernel_rfl) Try.func6
    (ChangeSpec.witness6 (enc := enc) (C := Try.checked) false ⟨#[], #[.int .i64 0, .int .i64 0, .int .i64 0], []⟩ 8 (by kernel_rfl) (by kernel_rfl) (by kernel_rfl) (by kernel_rfl)) ?_
  intro W base args ds gs before hval0 hW hcnd hsz0 _
  have hsz : (DataW.weightsEach Try.prog (Try.f6.params.toList ++ Rows.serialStepsSpec.plain.varTypes Try.prog) (ds ++ gs)).all (· ≤ reachBytes) = true := hsz0
  have hval : ∀ (j : Nat) t v, Try.f6.params[j]? = some t → args[j]? = some v → Value.okWide Try.prog W .any base t v := hval0
  have hW' := hW
  obtain ⟨p, q, hA0, hV, rfl, hfz, hnd⟩ := hW
  have hA : DataW.TrodAll enc Try.prog W 0 (fun _ => true) true Try.f6.params.toList args.toList ds p := hA0
  rw [Try.params6] at hA hval hsz
  obtain ⟨rfl, rfl⟩ := trodVars_none hV
  have hA1 : DataW.TrodAll enc Try.prog W 0 (fun _ => true) true [3, 3, 3] args.toList ds p := hA
  have hsz1 : (DataW.weightsEach Try.prog [3, 3, 3] ds).all (· ≤ reachBytes) = true := by
    have h := hsz
    rw [List.append_nil] at h
    exact h
  refine (Mir.law_run (n := 12) (Mir.Known.OK.get Mir.ok16 6 rfl) (by kernel_rfl) hA1 (fun j t v ht hv => hval j t v (by simpa using ht) hv) hsz1 told).mono fun e W' ⟨he, bel⟩ => ?_
  subst he
  have hK := Mir.args_stay (spare := fun _ => true) laidOut bel _ _ _ _ (by kernel_rfl) hA1
  obtain ⟨v0, vs0, d0, ds0, p0, q0, h0, rfl, rfl, _, r0⟩ := trodAll_cons hA1
  obtain ⟨v1, vs1, d1, ds1, p1, q1, h1, rfl, rfl, _, r1⟩ := trodAll_cons r0
  obtain ⟨v2, vs2, d2, ds2, p2, q2, h2, rfl, rfl, _, r2⟩ := trodAll_cons r1
  obtain ⟨rfl, rfl, rfl⟩ := trodAll_nil r2
  exact ⟨_, rfl, _, _, _, [], _, [], hW', trodAll_mk1 (shut_bool Try.underlying4 _), hK, rfl, bel.frame _, fun h => by cases h⟩
theorem over : Rows.serialStepsRow.holds Try.pinned (OpenSpec.ofChange Rows.serialStepsSpec) :=
  OpenClaim.holds_of_wide 6 Try.f6 rfl rfl rfl rfl rfl rfl rfl ⟨rfl, rfl, rfl, rfl, rfl⟩ rfl rfl rfl rfl rfl (by kernel_rfl) Try.func6 (by kernel_rfl)
    (of_decide_eq_true (by kernel_rfl)) (by unfold Func.isWrapper; first | (rw [if_pos (by decide +kernel)]; kernel_rfl) | (rw [if_neg (by decide +kernel)]; exact ⟨rfl, rfl⟩))
    (fun os started H enc _ => lifted os started H enc)
end Go.Proofs.Ytbgeepggjhgfnaa.serialSteps
namespace Go.Proofs.Ytbgeepggjhgfnaa
/-- The statement: for every input the law returns true, and each argument reads as it did. -/
theorem serialSteps_holds : Rows.SerialStepsSaid := serialSteps.over
end Go.Proofs.Ytbgeepggjhgfnaa
namespace Go.Mir
end Go.Mir
namespace Go.Proofs.Ytbgeepggjhgfnaa.serialTurns
open Go.ChangeShapes Go.WideShapes Go.ChangeAt Go.RowKit
theorem own : ownKnob Try.prog.godebug = none := by kernel_rfl
theorem laidOut : laidOutB Try.prog = true := by kernel_rfl
theorem told (ds : List Mir.D) (h : Mir.TDA Try.prog 12 [3, 3, 3] ds) : Mir.FTurns ds = some (Mir.Res.flat (.bo true)) := by
  obtain ⟨d0, r0, rfl, h0, h1⟩ := Mir.tda_cons h
  obtain ⟨d1, r1, rfl, h2, h3⟩ := Mir.tda_cons h1
  obtain ⟨d2, r2, rfl, h4, h5⟩ := Mir.tda_cons h3
  obtain rfl := Mir.tda_nil h5
  obtain ⟨x, rfl, x1, x2⟩ := Mir.td_int Try.underlying3 h0
  obtain ⟨y, rfl, y1, y2⟩ := Mir.td_int Try.underlying3 h2
  obtain ⟨z, rfl, z1, z2⟩ := Mir.td_int Try.underlying3 h4
  simp only [IntKind.min, IntKind.max, IntKind.signed, IntKind.bits] at x1 x2 y1 y2 z1 z2
  simp at x1 x2 y1 y2 z1 z2
  exact Mir.FTurns_eq (by omega)
theorem lifted (os : Os) (started : os.Started) (H : Type) (enc : TypeId × Value → H) :
    ReturnsInHanded {} Try.checked os 7 .any (Rows.serialTurnsSpec.pre6 enc Try.prog Try.f7 Rows.serialTurnsRow.domain false) (Rows.serialTurnsSpec.post enc Try.prog Try.f7 false true false false) := by
  refine returnsInHanded_of_change_sized (C := Try.checked) own started (by kernel_rfl) Try.func7
    (ChangeSpec.witness6 (enc := enc) (C := Try.checked) false ⟨#[], #[.int .i64 0, .int .i64 0, .int .i64 0], []⟩ 8 (by kernel_rfl) (by kernel_rfl) (by kernel_rfl) (by kernel_rfl)) ?_
  intro W base args ds gs before hval0 hW hcnd hsz0 _
  have hsz : (DataW.weightsEach Try.prog (Try.f7.params.toList ++ Rows.serialTurnsSpec.plain.varTypes Try.prog) (ds ++ gs)).all (· ≤ reachBytes) = true := hsz0
  have hval : ∀ (j : Nat) t v, Try.f7.params[j]? = some t → args[j]? = some v → Value.okWide Try.prog W .any base t v := hval0
  have hW' := hW
  obtain ⟨p, q, hA0, hV, rfl, hfz, hnd⟩ := hW
  have hA : DataW.TrodAll enc Try.prog W 0 (fun _ => true) true Try.f7.params.toList args.toList ds p := hA0
  rw [Try.params7] at hA hval hsz
  obtain ⟨rfl, rfl⟩ := trodVars_none hV
  have hA1 : DataW.TrodAll enc Try.prog W 0 (fun _ => true) true [3, 3, 3] args.toList ds p := hA
  have hsz1 : (DataW.weightsEach Try.prog [3, 3, 3] ds).all (· ≤ reachBytes) = true := by
    have h := hsz
    rw [List.append_nil] at h
    exact h
  refine (Mir.law_run (n := 12) (Mir.Known.OK.get Mir.ok16 7 rfl) (by kernel_rfl) hA1 (fun j t v ht hv => hval j t v (by simpa using ht) hv) hsz1 told).mono fun e W' ⟨he, bel⟩ => ?_
  subst he
  have hK := Mir.args_stay (spare := fun _ => true) laidOut bel _ _ _ _ (by kernel_rfl) hA1
  obtain ⟨v0, vs0, d0, ds0, p0, q0, h0, rfl, rfl, _, r0⟩ := trodAll_cons hA1
  obtain ⟨v1, vs1, d1, ds1, p1, q1, h1, rfl, rfl, _, r1⟩ := trodAll_cons r0
  obtain ⟨v2, vs2, d2, ds2, p2, q2, h2, rfl, rfl, _, r2⟩ := trodAll_cons r1
  obtain ⟨rfl, rfl, rfl⟩ := trodAll_nil r2
  exact ⟨_, rfl, _, _, _, [], _, [], hW', trodAll_mk1 (shut_bool Try.underlying4 _), hK, rfl, bel.frame _, fun h => by cases h⟩
theorem over : Rows.serialTurnsRow.holds Try.pinned (OpenSpec.ofChange Rows.serialTurnsSpec) :=
  OpenClaim.holds_of_wide 7 Try.f7 rfl rfl rfl rfl rfl rfl rfl ⟨rfl, rfl, rfl, rfl, rfl⟩ rfl rfl rfl rfl rfl (by kernel_rfl) Try.func7 (by kernel_rfl)
    (of_decide_eq_true (by kernel_rfl)) (by unfold Func.isWrapper; first | (rw [if_pos (by decide +kernel)]; kernel_rfl) | (rw [if_neg (by decide +kernel)]; exact ⟨rfl, rfl⟩))
    (fun os started H enc _ => lifted os started H enc)
end Go.Proofs.Ytbgeepggjhgfnaa.serialTurns
namespace Go.Proofs.Ytbgeepggjhgfnaa
/-- The statement: for every input the law returns true, and each argument reads as it did. -/
theorem serialTurns_holds : Rows.SerialTurnsSaid := serialTurns.over
end Go.Proofs.Ytbgeepggjhgfnaa
namespace Go.Mir
end Go.Mir
