/- What functions of the program answer, read off. -/
import Derived.Test.YtfnjjmdgjdpieaaWalk19
import Derived.KernelRfl
set_option linter.unusedSimpArgs false
set_option linter.unusedVariables false
namespace Go.Mir
open Go Go.RowKit Go.Proofs
attribute [local congr] Ev.congr EvC.congr EvW.congr Br.congr Ms.congr
set_option maxRecDepth 100000
theorem chkH_zone {g : Hist} (h : chkH g = 0) : chkZ g.zone = 0 := by
  unfold chkH at h
  split at h
  · omega
  · rename_i h2; exact Classical.not_not.1 h2
theorem chkZ_facts {z : Zone} (h : chkZ z = 0) : ((findR z.recs z.origin 6).length : Int) = 1 ∧ z.recs.all (chk3 z) = true := by
  unfold chkZ at h
  split at h
  · omega
  · split at h
    · omega
    · split at h
      · omega
      · split at h
        · omega
        · split at h
          · omega
          · split at h
            · omega
            · rename_i h6
              split at h
              · omega
              · split at h
                · omega
                · rename_i h8
                  exact ⟨Classical.not_not.1 h6, by simpa using h8⟩
theorem soas_find {z : Zone} (h : z.recs.all (chk3 z) = true) : soas z.recs = findR z.recs z.origin 6 := by
  unfold soas findR
  refine List.filter_congr fun x hx => ?_
  have h1 := List.all_eq_true.1 h x hx
  unfold soaD
  by_cases ht : x.typ = 6
  · have hn : x.name = z.origin := Classical.byContradiction fun hn => by
      unfold chk3 at h1
      split at h1
      · cases h1
      · rw [if_pos ⟨ht, hn⟩] at h1; cases h1
    simp [ht, hn]
  · simp [ht]
theorem soas_one {z : Zone} (h : chkZ z = 0) : ∃ s, soas z.recs = [s] ∧ findR z.recs z.origin 6 = [s] := by
  obtain ⟨h1, h2⟩ := chkZ_facts h
  have h3 : (findR z.recs z.origin 6).length = 1 := by omega
  obtain ⟨s, hs⟩ := List.length_eq_one_iff.1 h3
  exact ⟨s, by rw [soas_find h2, hs], hs⟩
theorem soaP_eq {l : List Rec} {s : Rec} (h : soas l = [s]) : soaP l = (s, true) := by
  have : l.find? soaD = some s := by rw [← List.head?_filter]; show (soas l).head? = _; rw [h]; rfl
  rw [soaP, this]
theorem serialZ_eq {z : Zone} {s : Rec} (h : findR z.recs z.origin 6 = [s]) : serialZ z = s.dat.a := by
  rw [serialZ, h]; rfl
theorem serialP_eq {z : Zone} {s : Rec} (h : findR z.recs z.origin 6 = [s]) : serialP z = s.dat.a := by
  have hp : ∀ x, soaX z x = (x.name == z.origin && decide (x.typ = 6)) := fun x => by
    unfold soaX
    by_cases ht : x.typ = 6 <;> simp [ht]
  have hf : z.recs.filter (soaX z) = [s] := by rw [← h]; unfold findR; exact List.filter_congr fun x _ => hp x
  have hmem : s ∈ z.recs.filter (soaX z) := by rw [hf]; simp
  have hany : z.recs.any (soaX z) = true := List.any_eq_true.2 ⟨s, (List.mem_filter.1 hmem).1, (List.mem_filter.1 hmem).2⟩
  have hi : findI (soaX z) z.recs = (z.recs.findIdx (soaX z) : Int) := by rw [findI, if_pos hany]
  have hlt : z.recs.findIdx (soaX z) < z.recs.length := List.findIdx_lt_length.2 ⟨s, (List.mem_filter.1 hmem).1, (List.mem_filter.1 hmem).2⟩
  have he : z.recs[z.recs.findIdx (soaX z)] = s := by
    have h1 : z.recs[z.recs.findIdx (soaX z)] ∈ z.recs.filter (soaX z) := List.mem_filter.2 ⟨List.getElem_mem hlt, List.findIdx_getElem⟩
    rw [hf] at h1; simpa using h1
  rw [serialP, hi, if_pos (by omega), Int.toNat_natCast, getElem!_pos z.recs _ hlt, he]
theorem lastI_app (l : List Int) (y x : Int) : ∀ s : Nat, s ≤ l.length → lastI (l ++ [y]) x s = lastI l x s
  | 0, _ => rfl
  | s + 1, h => by
    have h1 : (l ++ [y])[s]! = l[s]! := by rw [getElem!_pos (l ++ [y]) s (by simp; omega), getElem!_pos l s (by omega), List.getElem_append_left (by omega)]
    rw [lastI, lastI, h1, lastI_app l y x s (by omega)]
theorem placeH_eq (g : Hist) (n : Int) : placeH g n = if serialZ g.zone = n then (g.deltas.length : Int) else lastI (g.deltas.map (·.fro)) n g.deltas.length := by
  have h1 : (serls g)[g.deltas.length]! = serialZ g.zone := by
    unfold serls
    rw [getElem!_pos _ _ (by simp), List.getElem_append_right (by simp)]
    simp
  rw [placeH, serls_len, lastI, h1]
  split
  · rfl
  · unfold serls; rw [lastI_app _ _ _ _ (by simp)]
theorem sinceP_eq {g : Hist} {n : Int} (h : serialP g.zone = serialZ g.zone) : (sinceP g n).1 = sinceV g n ∧ ((sinceP g n).2 = 0 ↔ ¬ placeH g n < 0) := by
  have hle := lastI_le (g.deltas.map (·.fro)) n g.deltas.length
  unfold sinceP sinceV stepsP
  rw [placeH_eq, h]
  by_cases h1 : serialZ g.zone = n
  · simp only [h1, if_true, Bool.true_eq_false, if_false]
    rw [if_neg (by omega)]
    refine ⟨?_, by first | (simp; done) | (simp; omega)⟩
    congr 1
  · simp only [h1, if_false]
    by_cases h2 : 0 ≤ lastI (g.deltas.map (·.fro)) n g.deltas.length
    · simp only [h2, if_true, Bool.true_eq_false, if_false]
      rw [if_neg (by omega)]
      refine ⟨?_, by first | (simp; done) | (simp; omega)⟩
      congr 1
      omega
    · simp only [h2, if_false, if_true]
      rw [if_pos (by omega)]
      exact ⟨rfl, by first | (simp; done) | (simp; omega)⟩
theorem findI_any {l : List Delta} {n : Int} : 0 ≤ findI (froX n) l ↔ l.any (fun d => decide (d.fro = n)) = true := by
  show 0 ≤ findI (froX n) l ↔ l.any (froX n) = true
  unfold findI
  split
  · rename_i h; simp [h]
  · rename_i h; simp [h]
theorem movX_eq (d : Delta) : movX d = moveD d := by simp only [movX, moveD, firstX, List.append_assoc]
theorem since_law {g : Hist} {n : Int} (h : chkH g = 0) : sinceX g n = sinceR g n := by
  obtain ⟨s, h1, h2⟩ := soas_one (chkH_zone h)
  have h3 := soaP_eq h1
  have h4 := serialZ_eq h2
  have h5 := serialP_eq h2
  obtain ⟨h6, h7⟩ := sinceP_eq (g := g) (n := n) (h5.trans h4.symm)
  have h8 : fullP g.zone = fullR g.zone.recs := by rw [fullP, h3, if_pos rfl, fullR, firstX, h1]
  have h9 : (movX : Delta → List Rec) = moveD := funext movX_eq
  unfold sinceX sinceR
  rw [h3, h8, h9, h6, h1, h5, h4]
  rw [if_neg (by simp)]
  split
  · rfl
  · by_cases hp : placeH g n < 0
    · rw [if_pos (fun e => (h7.1 e) hp), if_pos hp]
    · rw [if_neg (fun e => e (h7.2 hp)), if_neg hp]
      by_cases ha : (sinceV g n).any (fun d => decide (d.fro = s.dat.a)) = true
      · rw [if_pos (findI_any.2 ha), if_pos ha]
      · rw [if_neg (fun e => ha (findI_any.1 e)), if_neg ha]

end Go.Mir
