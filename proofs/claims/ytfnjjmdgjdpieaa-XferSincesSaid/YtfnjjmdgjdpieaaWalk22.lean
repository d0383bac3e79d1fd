/- What functions of the program answer, read off. -/
import Derived.Test.YtfnjjmdgjdpieaaWalk21
import Derived.Test.YtfnjjmdgjdpieaaMir3
import Derived.KernelRfl
set_option linter.unusedSimpArgs false
set_option linter.unusedVariables false
namespace Go.Mir
open Go Go.RowKit Go.Proofs
attribute [local congr] Ev.congr EvC.congr EvW.congr Br.congr Ms.congr
set_option maxRecDepth 100000
def DltRaw (d : Delta) : Prop := Sm d.origin ∧ (Sm d.rem ∧ ∀ r ∈ d.rem, RSm r) ∧ Sm d.add ∧ ∀ r ∈ d.add, RSm r
def ZRaw (z : Zone) : Prop := Sm z.origin ∧ Sm z.recs ∧ ∀ r ∈ z.recs, RSm r
def HRaw0 (g : Hist) : Prop := ZRaw g.zone ∧ Sm g.deltas ∧ ∀ d ∈ g.deltas, DltRaw d
theorem td_adr {n : Nat} {ds : List D} (h : TD Try.prog (n + 2) 37 ds) : ∃ x : Adr, D.agg ds = adrE x ∧ True := by
  unfold TD at h
  simp only [Try.underlying37, List.toList_toArray, List.foldr_cons, List.foldr_nil] at h
  obtain ⟨a0, r0, rfl, _, t0, a1, r1, rfl, _, t1, a2, r2, rfl, _, t2, h9⟩ := h
  subst h9
  obtain ⟨v0, rfl⟩ := tdl_bool Try.underlying4 (show TD Try.prog (n + 0 + 1) 4 a0 from t0)
  obtain ⟨v1, rfl⟩ := tdl_int Try.underlying35 (show TD Try.prog (n + 0 + 1) 35 a1 from t1)
  obtain ⟨v2, rfl⟩ := tdl_int Try.underlying35 (show TD Try.prog (n + 0 + 1) 35 a2 from t2)
  exact ⟨⟨v0, v1, v2⟩, rfl, trivial⟩
theorem td_dat {n : Nat} {ds : List D} (h : TD Try.prog (n + 3) 39 ds) : ∃ x : Dat, D.agg ds = datE x ∧ DSm x := by
  unfold TD at h
  simp only [Try.underlying39, List.toList_toArray, List.foldr_cons, List.foldr_nil] at h
  obtain ⟨a0, r0, rfl, _, t0, a1, r1, rfl, _, t1, a2, r2, rfl, _, t2, a3, r3, rfl, _, t3, a4, r4, rfl, _, t4, a5, r5, rfl, _, t5, a6, r6, rfl, _, t6, a7, r7, rfl, _, t7, a8, r8, rfl, _, t8, a9, r9, rfl, _, t9, a10, r10, rfl, _, t10, h9⟩ := h
  subst h9
  obtain ⟨v0, e0, w0⟩ := td_adr t0
  simp only [adrE, D.agg.injEq] at e0
  subst e0
  obtain ⟨v1, rfl, w1⟩ := tdl_str Try.underlying9 (show TD Try.prog (n + 1 + 1) 9 a1 from t1)
  obtain ⟨v2, rfl, w2⟩ := tdl_str Try.underlying9 (show TD Try.prog (n + 1 + 1) 9 a2 from t2)
  obtain ⟨v3, rfl, w3⟩ := tdl_str Try.underlying9 (show TD Try.prog (n + 1 + 1) 9 a3 from t3)
  obtain ⟨v4, rfl⟩ := tdl_int Try.underlying3 (show TD Try.prog (n + 1 + 1) 3 a4 from t4)
  obtain ⟨v5, rfl⟩ := tdl_int Try.underlying3 (show TD Try.prog (n + 1 + 1) 3 a5 from t5)
  obtain ⟨v6, rfl⟩ := tdl_int Try.underlying3 (show TD Try.prog (n + 1 + 1) 3 a6 from t6)
  obtain ⟨v7, rfl⟩ := tdl_int Try.underlying3 (show TD Try.prog (n + 1 + 1) 3 a7 from t7)
  obtain ⟨v8, rfl⟩ := tdl_int Try.underlying3 (show TD Try.prog (n + 1 + 1) 3 a8 from t8)
  obtain ⟨v9, rfl⟩ := tdl_int Try.underlying3 (show TD Try.prog (n + 1 + 1) 3 a9 from t9)
  obtain ⟨v10, rfl⟩ := tdl_int Try.underlying35 (show TD Try.prog (n + 1 + 1) 35 a10 from t10)
  exact ⟨⟨v0, v1, v2, v3, v4, v5, v6, v7, v8, v9, v10⟩, rfl, ⟨w1, w2, w3⟩⟩
theorem td_rec {n : Nat} {ds : List D} (h : TD Try.prog (n + 4) 41 ds) : ∃ x : Rec, D.agg ds = recE x ∧ RSm x := by
  unfold TD at h
  simp only [Try.underlying41, List.toList_toArray, List.foldr_cons, List.foldr_nil] at h
  obtain ⟨a0, r0, rfl, _, t0, a1, r1, rfl, _, t1, a2, r2, rfl, _, t2, a3, r3, rfl, _, t3, h9⟩ := h
  subst h9
  obtain ⟨v0, rfl, w0⟩ := tdl_str Try.underlying9 (show TD Try.prog (n + 2 + 1) 9 a0 from t0)
  obtain ⟨v1, rfl⟩ := tdl_int Try.underlying3 (show TD Try.prog (n + 2 + 1) 3 a1 from t1)
  obtain ⟨v2, rfl⟩ := tdl_int Try.underlying3 (show TD Try.prog (n + 2 + 1) 3 a2 from t2)
  obtain ⟨v3, e3, w3⟩ := td_dat t3
  simp only [datE, D.agg.injEq] at e3
  subst e3
  exact ⟨⟨v0, v1, v2, v3⟩, rfl, ⟨w0, w3⟩⟩
theorem td_zone {n : Nat} {ds : List D} (h : TD Try.prog (n + 6) 27 ds) : ∃ x : Zone, D.agg ds = zoneE x ∧ ZRaw x := by
  unfold TD at h
  simp only [Try.underlying27, List.toList_toArray, List.foldr_cons, List.foldr_nil] at h
  obtain ⟨a0, r0, rfl, _, t0, a1, r1, rfl, _, t1, h9⟩ := h
  subst h9
  obtain ⟨v0, rfl, w0⟩ := tdl_str Try.underlying9 (show TD Try.prog (n + 4 + 1) 9 a0 from t0)
  obtain ⟨v1, rfl, w1, u1⟩ := tdl_slice (sz := 16) (E := recE) (W := RSm) Try.underlying22 (by kernel_rfl) (by kernel_rfl) (by decide +kernel) (fun cs h => td_rec h) (show TD Try.prog (n + 4 + 1) 22 a1 from t1)
  exact ⟨⟨v0, v1⟩, rfl, ⟨w0, w1, u1⟩⟩
theorem td_delta {n : Nat} {ds : List D} (h : TD Try.prog (n + 6) 58 ds) : ∃ x : Delta, D.agg ds = deltaE x ∧ DltRaw x := by
  unfold TD at h
  simp only [Try.underlying58, List.toList_toArray, List.foldr_cons, List.foldr_nil] at h
  obtain ⟨a0, r0, rfl, _, t0, a1, r1, rfl, _, t1, a2, r2, rfl, _, t2, a3, r3, rfl, _, t3, a4, r4, rfl, _, t4, h9⟩ := h
  subst h9
  obtain ⟨v0, rfl, w0⟩ := tdl_str Try.underlying9 (show TD Try.prog (n + 4 + 1) 9 a0 from t0)
  obtain ⟨v1, rfl⟩ := tdl_int Try.underlying3 (show TD Try.prog (n + 4 + 1) 3 a1 from t1)
  obtain ⟨v2, rfl⟩ := tdl_int Try.underlying3 (show TD Try.prog (n + 4 + 1) 3 a2 from t2)
  obtain ⟨v3, rfl, w3, u3⟩ := tdl_slice (sz := 16) (E := recE) (W := RSm) Try.underlying22 (by kernel_rfl) (by kernel_rfl) (by decide +kernel) (fun cs h => td_rec h) (show TD Try.prog (n + 4 + 1) 22 a3 from t3)
  obtain ⟨v4, rfl, w4, u4⟩ := tdl_slice (sz := 16) (E := recE) (W := RSm) Try.underlying22 (by kernel_rfl) (by kernel_rfl) (by decide +kernel) (fun cs h => td_rec h) (show TD Try.prog (n + 4 + 1) 22 a4 from t4)
  exact ⟨⟨v0, v1, v2, v3, v4⟩, rfl, ⟨w0, ⟨w3, u3⟩, w4, u4⟩⟩
theorem td_hist {n : Nat} {ds : List D} (h : TD Try.prog (n + 8) 33 ds) : ∃ x : Hist, D.agg ds = histE x ∧ HRaw0 x := by
  unfold TD at h
  simp only [Try.underlying33, List.toList_toArray, List.foldr_cons, List.foldr_nil] at h
  obtain ⟨a0, r0, rfl, _, t0, a1, r1, rfl, _, t1, h9⟩ := h
  subst h9
  obtain ⟨v0, e0, w0⟩ := td_zone t0
  simp only [zoneE, D.agg.injEq] at e0
  subst e0
  obtain ⟨v1, rfl, w1, u1⟩ := tdl_slice (sz := 5) (E := deltaE) (W := DltRaw) Try.underlying31 (by kernel_rfl) (by kernel_rfl) (by decide +kernel) (fun cs h => td_delta h) (show TD Try.prog (n + 6 + 1) 31 a1 from t1)
  exact ⟨⟨v0, v1⟩, rfl, ⟨w0, w1, u1⟩⟩
end Go.Mir
