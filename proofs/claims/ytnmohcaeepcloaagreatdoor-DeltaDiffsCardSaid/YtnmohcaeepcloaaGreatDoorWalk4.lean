/- What the program's functions answer, read off their code; no conditions. -/
import Derived.Test.YtnmohcaeepcloaaGreatDoorWalk3
import Derived.KernelRfl
set_option linter.unusedSimpArgs false
set_option linter.unusedVariables false
set_option linter.defProp false
set_option maxRecDepth 100000
set_option maxHeartbeats 4000000
open Go Go.RowKit Go.Proofs
namespace Go.Mir
attribute [local congr] Ev.congr EvC.congr EvW.congr Br.congr Ms.congr
theorem zGu : ∀ (r cur : List UInt8) (b : Bool) (l : List (List UInt8)), zBb r cur b = some l → ∀ x ∈ l, zED x = true
 | [], _, _, l, h => by simp [zBb] at h; subst h; simp
 | c :: r, cur, b, l, h => by
   simp only [zBb] at h
   split at h
   · split at h
     · rename_i hl
       rw [tAe] at h
       obtain ⟨m, hm, rfl⟩ := h
       intro x hx
       rcases tAr.1 hx with rfl | hx
       · rw [tAd] at hl; exact hl.1
       · exact zGu r [] false m hm x hx
     · cases h
   · exact zGu r _ b l h
theorem zXf {n : List UInt8} (hv : vName n = true) : ((n[0]!.toNat : Int) = 42) ↔ (0 : Int) < (((labs n).getD []).length : Int) ∧ (((labs n).getD [])[0]! == [42]) = true := by
 obtain ⟨l, el⟩ := tA3.1 hv
 rw [el]
 simp only [tBa]
 have el' := el
 unfold labs at el
 split at el
 · rename_i e; subst e; simp only [tAb] at el; subst el; simp
 · split at el
   · cases el
   · rename_i h1 h2
     have h3 := zD8 n [] true l el (fun _ => rfl) (fun _ => tAW fun e => h2 (.inr (.inr e)))
     rw [tAJ] at h3
     cases l with
     | nil => subst h3; exact absurd (.inl (by simp)) h2
     | cons x l =>
       have hx := zGu n [] true _ el x (by simp)
       have hp := (zJL el' x (by simp)).1
       cases x with
       | nil => simp at hp
       | cons a x =>
         rw [tBe] at h3
         subst h3
         simp only [tBi, List.getElem!_cons_zero, tAp]
         constructor
         · intro ha
           have ha' : a = 42 := by rw [← tBF]; show a.toNat = 42; omega
           subst ha'
           refine ⟨by omega, ?_⟩
           unfold zED at hx
           rw [tAK] at hx
           rcases hx with hx | hx
           · exact hx
           · simp only [tAd, tAq] at hx
             exact absurd hx.2.1 (by decide)
         · rintro ⟨_, h⟩
           have := eq_of_beq h
           simp only [tAv] at this
           rw [this.1]; rfl
theorem zFf (a : Rec) : zAw a a = 0 := cmp_first.self a
theorem yCs {l : List Rec} (h : Str l) (hn : ∀ x ∈ l, ∀ y ∈ l, x.name = y.name) : l.Pairwise fun a b => a.typ ≤ b.typ := by
 refine List.Pairwise.imp_of_mem (fun {a b} ha hb k => ?_) h
 unfold zAw at k
 rw [hn a ha b hb, cmp_name.self, if_neg (fun q => q rfl)] at k
 split at k
 · unfold numC at k
   split at k
   · omega
   · split at k <;> omega
 · rename_i q
   have := zFK (tAW q)
   omega
def UP (a b : Rec) : Prop := a.typ = b.typ → single b.typ = false ∧ (b.typ = 46 ∨ a.ttl = b.ttl)
theorem zSl : ∀ {l : List Rec}, l.Pairwise (fun a b => a.typ ≤ b.typ) → (uniF l = true ↔ l.Pairwise UP)
 | [], _ => by simp [uniF]
 | [a], _ => by simp [uniF]
 | a :: b :: r, hs => by
   have hp := tAC.1 hs
   have hq := tAC.1 hp.2
   have ih := zSl hp.2
   have hab := hp.1 b (by simp)
   rw [uniF]
   by_cases h1 : b.typ = a.typ
   · rw [if_neg (fun q => q h1)]
     by_cases h2 : single b.typ = true
     · rw [if_pos h2]
       constructor
       · intro h; cases h
       · intro h; have := ((tAC.1 h).1 b (by simp) h1.symm).1; rw [h2] at this; cases this
     · rw [if_neg h2]
       have h2' : single b.typ = false := by simpa using h2
       by_cases h3 : ¬ b.typ = 46 ∧ ¬ b.ttl = a.ttl
       · rw [if_pos h3]
         constructor
         · intro h; cases h
         · intro h; rcases ((tAC.1 h).1 b (by simp) h1.symm).2 with q | q
           · exact absurd q h3.1
           · exact absurd q.symm h3.2
       · rw [if_neg h3, ih]
         have h4 : b.typ = 46 ∨ a.ttl = b.ttl := by
           by_cases q : b.typ = 46
           · exact .inl q
           · exact .inr (tAW fun e => h3 ⟨q, fun e2 => e e2.symm⟩)
         constructor
         · intro h
           refine tAC.2 ⟨fun c hc => ?_, h⟩
           rcases tAr.1 hc with rfl | hc
           · exact fun _ => ⟨h2', h4⟩
           · intro hac
             have h5 := (tAC.1 h).1 c hc (by omega)
             refine ⟨h5.1, ?_⟩
             rcases h5.2 with q | q
             · exact .inl q
             · rcases h4 with q2 | q2
               · exact .inl (by omega)
               · exact .inr (q2.trans q)
         · intro h; exact (tAC.1 h).2
   · rw [if_pos h1, ih]
     constructor
     · intro h
       refine tAC.2 ⟨fun c hc hac => ?_, h⟩
       rcases tAr.1 hc with rfl | hc
       · exact absurd hac.symm h1
       · have := hq.1 c hc; omega
     · intro h; exact (tAC.1 h).2
theorem zOY {α : Type} {R : α → α → Prop} (sy : ∀ a b, R a b → R b a) (rf : ∀ a, R a a) : ∀ {l : List α}, l.Pairwise R → ∀ x ∈ l, ∀ y ∈ l, R x y
 | [], _, x, hx, _, _ => by cases hx
 | a :: l, h, x, hx, y, hy => by
   have hp := tAC.1 h
   rcases tAr.1 hx with ex | hx2
   · rcases tAr.1 hy with ey | hy2
     · rw [ex, ey]; exact rf _
     · rw [ex]; exact hp.1 y hy2
   · rcases tAr.1 hy with ey | hy2
     · rw [ey]; exact sy _ _ (hp.1 x hx2)
     · exact zOY sy rf hp.2 x hx2 y hy2
def UA (a b : Rec) : Prop := a.typ = b.typ → (b.typ = 46 ∨ a.ttl = b.ttl) ∧ (single b.typ = true → a = b)
theorem yGo {g : List Rec} (hs : Str g) : g.Pairwise UP ↔ ∀ x ∈ g, ∀ y ∈ g, UA x y := by
 constructor
 · intro h
   refine zOY (R := UA) (fun a b k e => ?_) (fun a _ => ⟨.inr rfl, fun _ => rfl⟩) (h.imp fun {a b} k e => ⟨(k e).2, fun q => by rw [(k e).1] at q; cases q⟩)
   obtain ⟨k1, k2⟩ := k e.symm
   rw [← e]
   refine ⟨?_, fun q => (k2 q).symm⟩
   rcases k1 with q | q
   · exact .inl q
   · exact .inr q.symm
 · intro h
   refine List.Pairwise.imp_of_mem (fun {a b} ha hb k e => ?_) hs
   obtain ⟨k1, k2⟩ := h a ha b hb e
   refine ⟨?_, k1⟩
   cases hsg : single b.typ with
   | false => rfl
   | true => have := k2 hsg; subst this; rw [zFf] at k; omega
theorem beside_iff {l : List Rec} {x : Rec} : besideR l x = true ↔ ∀ y ∈ l, y.name = x.name → (UA y x ∧ (x.typ = 5 → y.typ = 5 ∨ y.typ = 46 ∨ y.typ = 47)) := by
 unfold besideR
 rw [tAw]
 refine forall_congr' fun y => forall_congr' fun hy => ?_
 unfold besX
 by_cases h1 : y.name = x.name
 · rw [if_neg (fun q => q h1)]
   by_cases h2 : y.typ = x.typ ∧ ¬ x.typ = 46 ∧ ¬ y.ttl = x.ttl
   · rw [if_pos h2]
     refine ⟨fun h => (by cases h), fun h => ?_⟩
     rcases ((h h1).1 h2.1).1 with q | q
     · exact absurd q h2.2.1
     · exact absurd q h2.2.2
   rw [if_neg h2]
   by_cases h3 : y.typ = x.typ ∧ single x.typ = true ∧ ¬ y = x
   · rw [if_pos h3]
     exact ⟨fun h => (by cases h), fun h => absurd (((h h1).1 h3.1).2 h3.2.1) h3.2.2⟩
   rw [if_neg h3]
   by_cases h4 : x.typ = 5 ∧ ¬ y.typ = 5 ∧ ¬ y.typ = 46 ∧ ¬ y.typ = 47
   · rw [if_pos h4]
     refine ⟨fun h => (by cases h), fun h => ?_⟩
     rcases (h h1).2 h4.1 with q | q | q
     · exact absurd q h4.2.1
     · exact absurd q h4.2.2.1
     · exact absurd q h4.2.2.2
   rw [if_neg h4]
   refine ⟨fun _ _ => ⟨fun e => ⟨?_, fun q => ?_⟩, fun q => ?_⟩, fun _ => rfl⟩
   · by_cases q : x.typ = 46
     · exact .inl q
     · exact .inr (tAW fun e2 => h2 ⟨e, q, e2⟩)
   · exact tAW fun e2 => h3 ⟨e, q, e2⟩
   · by_cases q1 : y.typ = 5
     · exact .inl q1
     · by_cases q2 : y.typ = 46
       · exact .inr (.inl q2)
       · exact .inr (.inr (tAW fun q3 => h4 ⟨q, q1, q2, q3⟩))
 · rw [if_pos h1]; exact ⟨fun _ e => absurd e h1, fun _ => rfl⟩
theorem hasT_iff {g : List Rec} {t : Int} : hasT g t = true ↔ ∃ x ∈ g, x.typ = t := by unfold hasT hasX; rw [tA6]; simp
theorem onlyT_iff {g : List Rec} {v : List Int} : onlyT g v = true ↔ ∀ x ∈ g, x.typ ∈ v := by
 unfold onlyT onlX inI
 rw [tAG, tCj]
 simp
theorem below_iff {n m : List UInt8} : belowB n m = true ↔ ¬ n = m ∧ underB n m = true := by
 unfold belowB
 rw [tAd, tAG, beq_eq_false_iff_ne]
structure RP (o : List UInt8) (l : List Rec) (x : Rec) : Prop where
 un : underB x.name o = true
 soa : x.typ = 6 → x.name = o
 bes : besideR l x = true
 wild : ((x.name[0]!.toNat : Int) = 42) → ¬ x.typ = 2 ∧ ¬ x.typ = 39
 red : ∀ y ∈ l, y.typ = 39 → ¬ belowB x.name y.name = true
 cut : ∀ y ∈ l, y.typ = 2 → belowB y.name o = true → belowB x.name y.name = true → x.typ = 1 ∨ x.typ = 28
 del : belowB x.name o = true → hasR l x.name 2 = true → x.typ ∈ [2, 43, 47, 46, 1, 28]
 ds : ¬ (belowB x.name o = true ∧ hasR l x.name 2 = true) → ¬ x.typ = 43
theorem zPV {z : Zone} {x : Rec} (hv : vName x.name = true) : chk3 z x = true ↔ RP z.origin z.recs x := by
 have hw := zXf hv
 unfold chk3
 constructor
 · intro h
   by_cases h1 : underB x.name z.origin = false
   · rw [if_pos h1] at h; cases h
   rw [if_neg h1] at h
   by_cases h2 : x.typ = 6 ∧ ¬ x.name = z.origin
   · rw [if_pos h2] at h; cases h
   rw [if_neg h2] at h
   by_cases h3 : besideR z.recs x = false
   · rw [if_pos h3] at h; cases h
   rw [if_neg h3] at h
   unfold zD1 at h
   by_cases h4 : (0 : Int) < (((labs x.name).getD []).length : Int) ∧ (((labs x.name).getD [])[0]! == [42]) = true ∧ (x.typ = 2 ∨ x.typ = 39)
   · rw [if_pos h4] at h; cases h
   rw [if_neg h4] at h
   by_cases h5 : z.recs.all (plX z.origin x) = false
   · rw [if_pos h5] at h; cases h
   rw [if_neg h5] at h
   have h5' : ∀ y ∈ z.recs, plX z.origin x y = true := tAw.1 (by simpa using h5)
   refine ⟨by simpa using h1, fun e => tAW fun q => h2 ⟨e, q⟩, by simpa using h3, fun e => ?_, fun y hy e q => ?_, fun y hy e q1 q2 => ?_, fun q1 q2 => ?_, fun q => ?_⟩
   · obtain ⟨a, b⟩ := hw.1 e
     exact ⟨fun q => h4 ⟨a, b, .inl q⟩, fun q => h4 ⟨a, b, .inr q⟩⟩
   · have h6 := h5' y hy
     unfold plX at h6
     rw [if_pos ⟨e, q⟩] at h6; cases h6
   · have h6 := h5' y hy
     unfold plX at h6
     split at h6
     · cases h6
     · by_cases k1 : x.typ = 1
       · exact .inl k1
       · by_cases k2 : x.typ = 28
         · exact .inr k2
         · rw [if_pos ⟨e, q1, q2, k1, k2⟩] at h6; cases h6
   · rw [if_pos ⟨q1, q2⟩] at h
     simpa using h
   · rw [if_neg q] at h
     simpa using h
 · intro p
   rw [if_neg (by rw [p.un]; decide), if_neg (fun q => q.2 (p.soa q.1)), if_neg (by rw [p.bes]; decide)]
   unfold zD1
   rw [if_neg (fun q => by
     have := p.wild (hw.2 ⟨q.1, q.2.1⟩)
     rcases q.2.2 with e | e
     · exact this.1 e
     · exact this.2 e)]
   have h5 : z.recs.all (plX z.origin x) = true := tAw.2 fun y hy => by
     unfold plX
     rw [if_neg (fun q => p.red y hy q.1 q.2), if_neg (fun q => by
       rcases p.cut y hy q.1 q.2.1 q.2.2.1 with e | e
       · exact q.2.2.2.1 e
       · exact q.2.2.2.2 e)]
   rw [if_neg (by rw [h5]; decide)]
   by_cases h6 : belowB x.name z.origin = true ∧ hasR z.recs x.name 2 = true
   · rw [if_pos h6]; have := p.del h6.1 h6.2; simpa using this
   · rw [if_neg h6]; have := p.ds h6; simpa using this
theorem find_mem {l : List Rec} {n : List UInt8} {t : Int} {x : Rec} : x ∈ zBA l n t ↔ x ∈ l ∧ x.name = n ∧ x.typ = t := by
 unfold zBA; rw [tBb]; simp
theorem hasR_iff {l : List Rec} {n : List UInt8} {t : Int} : hasR l n t = true ↔ ∃ x ∈ l, x.name = n ∧ x.typ = t := by
 unfold hasR
 rw [decide_eq_true_eq]
 constructor
 · intro h
   obtain ⟨x, hx⟩ := tBl (l := zBA l n t) (by omega)
   exact ⟨x, (find_mem.1 hx).1, (find_mem.1 hx).2⟩
 · rintro ⟨x, hx, h⟩
   have := List.length_pos_of_mem (find_mem.2 ⟨hx, h⟩)
   omega
theorem zNb {o : List UInt8} {l : List Rec} {gs : List (List Rec)} (ho : vName o = true) (hs : Str l) (hv : ∀ x ∈ l, vName x.name = true) (p : GrpP l gs) :
   ((∀ g ∈ gs, PG o gs g) ∧ ∃ g ∈ gs, g0 g = o) ↔ (((zBA l o 6).length : Int) = 1 ∧ hasR l o 2 = true ∧ ∀ x ∈ l, RP o l x) := by
 have mem : ∀ {x}, x ∈ l ↔ ∃ g ∈ gs, x ∈ g := fun {x} => by rw [← p.fl]; exact List.mem_flatten
 have nm : ∀ {g}, g ∈ gs → ∀ {x}, x ∈ g → x.name = g0 g := fun {g} hg {x} hx => (p.hom g hg).2 x hx
 have gin : ∀ {g}, g ∈ gs → ∀ {x}, x ∈ g → x ∈ l := fun {g} hg {x} hx => mem.2 ⟨g, hg, hx⟩
 have uniq : ∀ {g g'}, g ∈ gs → g' ∈ gs → g0 g = g0 g' → g = g' := fun {g g'} hg hg' e => by
   rw [← zDM p.hom p.ord g hg, ← zDM p.hom p.ord g' hg', e]
 have own : ∀ {g}, g ∈ gs → ∀ {x}, x ∈ l → x.name = g0 g → x ∈ g := fun {g} hg {x} hx e => by
   obtain ⟨g', hg', hx'⟩ := mem.1 hx
   rw [uniq hg hg' (by rw [← e, nm hg' hx'])]; exact hx'
 have has : ∀ {g}, g ∈ gs → ∀ t, hasR l (g0 g) t = hasT g t := fun {g} hg t => zY7 p hg t
 have gstr : ∀ {g}, g ∈ gs → Str g := fun {g} hg => by
   rw [← zDM p.hom p.ord g hg, p.fl]; exact List.Pairwise.filter _ hs
 have uni : ∀ {g}, g ∈ gs → (uniF g = true ↔ ∀ x ∈ g, ∀ y ∈ g, UA x y) := fun {g} hg =>
   (zSl (yCs (gstr hg) fun x hx y hy => by rw [nm hg hx, nm hg hy])).trans (yGo (gstr hg))
 have gv : ∀ {g}, g ∈ gs → vName (g0 g) = true := fun {g} hg => by
   obtain ⟨x, hx⟩ := tBl (tA4.2 (p.hom g hg).1)
   rw [← nm hg hx]; exact hv x (gin hg hx)
 have abv : ∀ {C : List Rec → Bool} {n}, zZR gs C n ↔ ∃ g' ∈ gs, C g' = true ∧ belowB n (g0 g') = true := fun {C n} =>
   ⟨fun ⟨g', a, b, c, d⟩ => ⟨g', a, b, below_iff.2 ⟨d, c⟩⟩, fun ⟨g', a, b, c⟩ => ⟨g', a, b, (below_iff.1 c).2, (below_iff.1 c).1⟩⟩
 constructor
 · rintro ⟨hg, g, hgo, rfl⟩
   have pg := hg g hgo
   refine ⟨?_, ?_, fun x hx => ?_⟩
   · have h6 : hasT g 6 = true := by rw [pg.1.soa]; simp
     have hex : (zBA l (g0 g) 6) ≠ [] := by
       rw [← has hgo] at h6
       obtain ⟨x, hx, h⟩ := hasR_iff.1 h6
       exact fun e => by have := find_mem.2 ⟨hx, h⟩; rw [e] at this; cases this
     have hpw : (zBA l (g0 g) 6).Pairwise fun a b => zAw a b < 0 := List.Pairwise.filter _ hs
     match hfe : zBA l (g0 g) 6 with
     | [] => exact absurd hfe hex
     | [_] => rfl
     | a :: b :: r =>
       rw [hfe] at hpw
       have hab := (tAC.1 hpw).1 b (by simp)
       have ha := find_mem.1 (show a ∈ zBA l (g0 g) 6 by rw [hfe]; simp)
       have hb := find_mem.1 (show b ∈ zBA l (g0 g) 6 by rw [hfe]; simp)
       have h7 := (uni hgo).1 pg.1.uni a (own hgo ha.1 ha.2.1) b (own hgo hb.1 hb.2.1) (ha.2.2.trans hb.2.2.symm)
       have := h7.2 (by rw [hb.2.2]; rfl)
       subst this
       rw [zFf] at hab; omega
   · rw [has hgo]; exact pg.1.ns rfl
   · obtain ⟨g', hg', hx'⟩ := mem.1 hx
     have q := hg g' hg'
     have en := nm hg' hx'
     have hdel : belowB (g0 g') (g0 g) = true ∧ hasR l (g0 g') 2 = true ↔ delB (g0 g) g' = true := by
       rw [has hg', below_iff]
       unfold delB
       by_cases e : g0 g' = g0 g
       · rw [if_pos e]; simp [e]
       · rw [if_neg e]; simp [e, q.1.un]
     refine ⟨by rw [en]; exact q.1.un, fun e => ?_, beside_iff.2 fun y hy e => ?_, fun e => ?_, fun y hy e k => ?_, fun y hy e k1 k2 => ?_, fun k1 k2 => ?_, fun k => ?_⟩
     · have h6 : hasT g' 6 = true := hasT_iff.2 ⟨x, hx', e⟩
       rw [q.1.soa] at h6
       rw [en]; exact eq_of_beq h6
     · have hy' := own hg' hy (by rw [e, en])
       refine ⟨(uni hg').1 q.1.uni y hy' x hx', fun e5 => ?_⟩
       have := onlyT_iff.1 (q.1.cn (hasT_iff.2 ⟨x, hx', e5⟩)) y hy'
       simp only [tAr, tA0, or_false] at this
       rcases this with a | a | a
       · exact .inl a
       · exact .inr (.inl a)
       · exact .inr (.inr a)
     · rw [en] at e
       obtain ⟨a, b⟩ := q.1.wild e
       exact ⟨fun k => (by rw [hasT_iff.2 ⟨x, hx', k⟩] at a; cases a), fun k => (by rw [hasT_iff.2 ⟨x, hx', k⟩] at b; cases b)⟩
     · obtain ⟨g2, hg2, hy2⟩ := mem.1 hy
       rw [en, nm hg2 hy2] at k
       exact q.2.1 (abv.2 ⟨g2, hg2, hasT_iff.2 ⟨y, hy2, e⟩, k⟩)
     · obtain ⟨g2, hg2, hy2⟩ := mem.1 hy
       rw [nm hg2 hy2] at k1
       rw [en, nm hg2 hy2] at k2
       have hd : delB (g0 g) g2 = true := by
         unfold delB; rw [if_neg (below_iff.1 k1).1]; exact hasT_iff.2 ⟨y, hy2, e⟩
       have := onlyT_iff.1 (q.2.2 (abv.2 ⟨g2, hg2, hd, k2⟩)) x hx'
       simpa using this
     · rw [en] at k1 k2
       exact onlyT_iff.1 (q.1.del (hdel.1 ⟨k1, k2⟩)) x hx'
     · rw [en] at k
       have h8 : delB (g0 g) g' = false := by
         cases hd : delB (g0 g) g' with
         | false => rfl
         | true => exact absurd (hdel.2 hd) k
       intro e
       have := q.1.ds h8
       rw [hasT_iff.2 ⟨x, hx', e⟩] at this; cases this
 · rintro ⟨h6, h2, hr⟩
   have hex : ∃ x ∈ l, x.name = o ∧ x.typ = 6 := by
     obtain ⟨x, hx⟩ := tBl (l := zBA l o 6) (by omega)
     exact ⟨x, (find_mem.1 hx).1, (find_mem.1 hx).2⟩
   obtain ⟨s, hs1, hs2, hs3⟩ := hex
   obtain ⟨go, hgo, hso⟩ := mem.1 hs1
   have ego : g0 go = o := by rw [← nm hgo hso, hs2]
   refine ⟨fun g hg => ?_, go, hgo, ego⟩
   obtain ⟨x0, hx0⟩ := tBl (tA4.2 (p.hom g hg).1)
   have r0 := hr x0 (gin hg hx0)
   have e0 := nm hg hx0
   have hun : ∀ {g'}, g' ∈ gs → underB (g0 g') o = true := fun {g'} hg' => by
     obtain ⟨x1, hx1⟩ := tBl (tA4.2 (p.hom g' hg').1)
     rw [← nm hg' hx1]; exact (hr x1 (gin hg' hx1)).un
   have hdel : ∀ {g'}, g' ∈ gs → (delB o g' = true ↔ belowB (g0 g') o = true ∧ hasR l (g0 g') 2 = true) := fun {g'} hg' => by
     rw [has hg', below_iff]
     unfold delB
     by_cases e : g0 g' = o
     · rw [if_pos e]; simp [e]
     · rw [if_neg e]; simp [e, hun hg']
   refine ⟨⟨hun hg, ?_, (uni hg).2 fun x hx y hy => ?_, fun e => ?_, fun e => onlyT_iff.2 fun y hy => ?_, fun e => onlyT_iff.2 fun y hy => ?_, fun e => ?_, fun e => ?_⟩, fun k => ?_, fun k => onlyT_iff.2 fun y hy => ?_⟩
   · rw [tBm]
     constructor
     · intro h
       obtain ⟨x, hx, e⟩ := hasT_iff.1 h
       rw [← nm hg hx, (hr x (gin hg hx)).soa e]; simp
     · intro h
       have e : g0 g = o := eq_of_beq h
       exact hasT_iff.2 ⟨s, own hg hs1 (by rw [hs2, e]), hs3⟩
   · exact (beside_iff.1 (hr y (gin hg hy)).bes x (gin hg hx) (by rw [nm hg hx, nm hg hy])).1
   · rw [← has hg, e]; exact h2
   · obtain ⟨x, hx, e5⟩ := hasT_iff.1 e
     have := (beside_iff.1 (hr x (gin hg hx)).bes y (gin hg hy) (by rw [nm hg hx, nm hg hy])).2 e5
     simpa using this
   · obtain ⟨k1, k2⟩ := (hdel hg).1 e
     exact (hr y (gin hg hy)).del (by rw [nm hg hy]; exact k1) (by rw [nm hg hy]; exact k2)
   · cases h43 : hasT g 43 with
     | false => rfl
     | true =>
       obtain ⟨x, hx, e4⟩ := hasT_iff.1 h43
       refine absurd e4 ((hr x (gin hg hx)).ds fun k => ?_)
       rw [nm hg hx] at k
       rw [(hdel hg).2 k] at e; cases e
   · constructor
     · cases h43 : hasT g 2 with
       | false => rfl
       | true =>
         obtain ⟨x, hx, e4⟩ := hasT_iff.1 h43
         exact absurd e4 ((hr x (gin hg hx)).wild (by rw [nm hg hx]; exact e)).1
     · cases h43 : hasT g 39 with
       | false => rfl
       | true =>
         obtain ⟨x, hx, e4⟩ := hasT_iff.1 h43
         exact absurd e4 ((hr x (gin hg hx)).wild (by rw [nm hg hx]; exact e)).2
   · obtain ⟨g2, hg2, hc, hb⟩ := abv.1 k
     obtain ⟨y, hy, e⟩ := hasT_iff.1 hc
     exact r0.red y (gin hg2 hy) e (by rw [e0, nm hg2 hy]; exact hb)
   · obtain ⟨g2, hg2, hc, hb⟩ := abv.1 k
     obtain ⟨k1, k2⟩ := (hdel hg2).1 hc
     rw [has hg2] at k2
     obtain ⟨y2, hy2, e⟩ := hasT_iff.1 k2
     have := (hr y (gin hg hy)).cut y2 (gin hg2 hy2) e (by rw [nm hg2 hy2]; exact k1) (by rw [nm hg hy, nm hg2 hy2]; exact hb)
     simpa using this
theorem yEy {l : List Rec} {gs : List (List Rec)} (hv : ∀ x ∈ l, vName x.name = true) (p : GrpP l gs) : GsP gs := by
 refine ⟨fun g hg => ?_, p.ord⟩
 obtain ⟨x, hx⟩ := tBl (tA4.2 (p.hom g hg).1)
 rw [← (p.hom g hg).2 x hx]
 exact hv x (by rw [← p.fl]; exact List.mem_flatten.2 ⟨g, hg, hx⟩)
theorem zIk (z : Zone) : chkP z = chkZ z := by
 unfold chkP chkZ
 by_cases h1 : vName z.origin = false
 · rw [if_pos h1, if_pos h1]
 rw [if_neg h1, if_neg h1]
 by_cases h2 : 2048 < (z.recs.length : Int)
 · rw [if_pos h2, if_pos h2]
 rw [if_neg h2, if_neg h2]
 have e3 : (crwB z.recs = true) ↔ (z.recs.all (chk1 z) = false) := by
   unfold crwB
   rw [tA6, List.all_eq_false]
   unfold chk1
   simp
 by_cases h3 : crwB z.recs = true
 · rw [if_pos h3, if_pos (e3.1 h3)]
 rw [if_neg h3, if_neg (fun q => h3 (e3.2 q))]
 have e4 : (z.recs.any badX = true) ↔ (z.recs.all zBN = false) := by
   rw [tA6, List.all_eq_false]
   unfold badX
   simp
 by_cases h4 : z.recs.any badX = true
 · rw [if_pos h4, if_pos (e4.1 h4)]
 rw [if_neg h4, if_neg (fun q => h4 (e4.2 q))]
 by_cases h5 : eqL z.recs (zAV z.recs) = false
 · rw [if_pos h5, if_pos h5]
 rw [if_neg h5, if_neg h5]
 have hv : ∀ x ∈ z.recs, vName x.name = true := fun x hx => by
   have : z.recs.all zBN = true := by
     cases q : z.recs.all zBN with
     | true => rfl
     | false => exact absurd (e4.2 q) h4
   exact (zEt (tAw.1 this x hx)).1
 have hs : Str z.recs := by
   have : z.recs = zAV z.recs := of_decide_eq_true (by simpa [eqL] using h5)
   rw [this]; exact zCW _
 have p := yHN hs hv
 have ho : vName z.origin = true := by simpa using h1
 have key := (zW7 (o := z.origin) (yEy hv p)).trans (zNb ho hs hv p)
 by_cases h6 : (((zBA z.recs z.origin 6).length : Int) = 1 ∧ hasR z.recs z.origin 2 = true ∧ ∀ x ∈ z.recs, RP z.origin z.recs x)
 · obtain ⟨q, hq1, hq2⟩ := key.2 h6
   rw [hq1]
   simp only [hq2, if_true]
   rw [if_neg (fun q => q h6.1), if_neg (by rw [h6.2.1]; decide), if_neg]
   have : z.recs.all (chk3 z) = true := tAw.2 fun x hx => (zPV (hv x hx)).2 (h6.2.2 x hx)
   rw [this]; decide
 · have lhs : (match zrun z.origin (grpR z.recs) with | none => 13 | some q => if q.2.2 = true then (0 : Int) else 13) = 13 := by
     cases hz : zrun z.origin (grpR z.recs) with
     | none => rfl
     | some q =>
       simp only
       by_cases hq : q.2.2 = true
       · exact absurd (key.1 ⟨q, hz, hq⟩) h6
       · rw [if_neg hq]
   refine Eq.trans lhs ?_
   by_cases k1 : ((zBA z.recs z.origin 6).length : Int) = 1
   · rw [if_neg (fun q => q k1)]
     by_cases k2 : hasR z.recs z.origin 2 = false
     · rw [if_pos k2]
     · rw [if_neg k2, if_pos]
       cases k3 : z.recs.all (chk3 z) with
       | false => rfl
       | true => exact absurd ⟨k1, by simpa using k2, fun x hx => (zPV (hv x hx)).1 (tAw.1 k3 x hx)⟩ h6
   · rw [if_pos k1]
theorem yHR {α : Type} [Inhabited α] {p : α → Bool} : ∀ {l : List α}, l.any p = true → (l.filter p)[0]! = l[l.findIdx p]!
 | [], h => by simp at h
 | x :: r, h => by
   cases hx : p x with
   | true => simp [List.findIdx_cons, tBx, hx]
   | false =>
     have ih := yHR (p := p) (l := r) (by simpa [hx] using h)
     simp [List.findIdx_cons, tBx, hx, ih]
theorem zGk (z : Zone) : zCg z = zBW z := by
 have hp : ∀ x, soaX z x = (x.name == z.origin && decide (x.typ = 6)) := fun x => by
   unfold soaX
   by_cases ht : x.typ = 6 <;> simp [ht]
 have hf : z.recs.filter (soaX z) = zBA z.recs z.origin 6 := by unfold zBA; exact List.filter_congr fun x _ => hp x
 unfold zCg zBW
 rw [← hf]
 cases ha : z.recs.any (soaX z) with
 | false =>
   have he : z.recs.filter (soaX z) = [] := tA9.2 fun x hx hq => absurd hq (tCj.1 ha x hx)
   rw [zET ha, he]; rfl
 | true =>
   obtain ⟨s, hs, hq⟩ := tA6.1 ha
   have hl := List.length_pos_of_mem (tBb.2 ⟨hs, hq⟩)
   have hi : zBX (soaX z) z.recs = (z.recs.findIdx (soaX z) : Int) := by rw [zBX, if_pos ha]
   rw [hi, if_pos (by omega), if_neg (by omega), Int.toNat_natCast, yHR ha]
def BD (d : Delta) : Prop := (∀ r ∈ d.rem, BSm r.dat) ∧ ∀ r ∈ d.add, BSm r.dat
def BZ (z : Zone) : Prop := ∀ r ∈ z.recs, BSm r.dat
def RD (d : Delta) : Prop := (∀ r ∈ d.rem, RSm r) ∧ ∀ r ∈ d.add, RSm r
def zUn (l : List Rec) : Bool := if 200 < (l.length : Int) then decide ((l.length : Int) ≤ 2048) else false
structure ZOk (z : Zone) : Prop where
 rw : ZRw z
 b : BZ z
structure DOk (d : Delta) : Prop where
 rw : DltRw d
 b : BD d
 g : BigD d
theorem DOk.r {d : Delta} (h : DOk d) : RD d := ⟨h.rw.2.1.2, h.rw.2.2.2⟩
noncomputable def zWR := mkF (fun s : (List Rec) => [zAn s]) (fun s => True) (fun s => Res.flat (.bo (zUn s)))
theorem zQj {l : List Rec} : zWR [zAn l] = some (Res.flat (.bo (zUn l))) := mkFe (s := (l)) trivial
theorem zTb (cx : Cx) (hP : cx.P = Tryz.prog) (hbs : cx.bs = 0) (l : List Rec)  : zAg cx Tryz.f11 [] false [zAn l] = some (Res.flat (.bo (zUn l))) := by
 refine zAf (rs := [.tmp 2]) rfl hbs rfl ?_
 repeat' first
   | (refine bN (fun h => ?_) fun h => ?_)
   | (refine zAI ?_ ?_)
   | simp only [↓cD, cU, cQ, cP, cB, zAD, unD, zAe, zAd, idx, reduceCtorEq, ↓reduceIte, ofV, ofC, zAq, Nat.reduceEqDiff, zAB, cG, implies_true, forall_const, immL, immD, Res.flat, ren, renL, Int.reduceEq, Int.reduceLT, Int.reduceLE, Int.reduceNe, deref, ldD, zAA, zAh, zAC, zAs, cC, ↓zAH, ↓zAL, ↓zAG, ↓zAK, ↓zAF, ↓zAJ, cV, cT, cF, cW, borT, borM, zAl, Res.via, zAt, zAb, refsB, Nat.reduceLT, Nat.reduceSub, Nat.reduceLeDiff, Nat.reduceMul, Nat.reduceAdd, Int.reduceToNat, appK, zAr, zAc, borL, zAj, zAm, zAz, cO, List.replicate, zAx, ofHp, ixOf, hP, *]
 all_goals first
   | rfl
   | (simp [zUn, *]; done)
   | (simp only [zUn]; split <;> simp_all <;> omega)
theorem zML {P : Program} {n : Nat} {t : TypeId} {ds : List D} (hu : P.underlying t = some (.int .u64)) (h : TD P (n + 1) t ds) : ∃ x, ds = [.it .u64 x] ∧ U64 x := by
 simp only [TD, hu] at h
 obtain ⟨x, rfl, h1, h2⟩ := h
 exact ⟨x, rfl, h1, h2⟩
theorem zGf {P : Program} {n : Nat} {t e : TypeId} {ds : List D} {α : Type} {sz : Nat} {E : α → D} {W : α → Prop} (hu : P.underlying t = some (.slice e)) (ha : aggT P e = some true) (hc : P.cellsOf e = sz) (hE : ∀ cs, TD P n e cs → ∃ a, D.agg cs = E a ∧ W a) (h : TD P (n + 1) t ds) :
   ∃ xs, ds = [vecE sz E xs] ∧ xs.length * P.bytesOf e ≤ reachBytes ∧ ∀ a ∈ xs, W a := by
 simp only [TD, hu] at h
 obtain ⟨es, h, hl, hes⟩ := h
 have : ∃ xs : List α, es = xs.map E ∧ ∀ a ∈ xs, W a := by
   clear hl h
   induction es with
   | nil => exact ⟨[], rfl, fun a ha => by simp at ha⟩
   | cons x r ih =>
     obtain ⟨xs, rfl, hxs⟩ := ih (fun y hy => hes y (by simp [hy]))
     obtain ⟨_, h2, h3, _⟩ := hes x (by simp)
     obtain ⟨cs, rfl⟩ := h3 ha
     obtain ⟨a, h4, hw⟩ := hE cs h2
     exact ⟨a :: xs, by rw [h4]; rfl, fun b hb => by rcases tAr.1 hb with rfl | hb; exact hw; exact hxs b hb⟩
 obtain ⟨xs, rfl, hxs⟩ := this
 refine ⟨xs, by rw [h, hc]; rfl, ?_, hxs⟩
 rwa [tAI] at hl
def RIn (r : Rec) : Prop := RSm r ∧ BSm r.dat
def LIn (l : List Rec) : Prop := l.length ≤ 879609302220 ∧ ∀ r ∈ l, RIn r
def ZIn (z : Zone) : Prop := Sm z.origin ∧ LIn z.recs
def DIn (d : Delta) : Prop := Sm d.origin ∧ LIn d.rem ∧ LIn d.add
theorem LIn.sm {l : List Rec} (h : LIn l) : Sm l ∧ ∀ r ∈ l, RSm r := ⟨by have := h.1; simp only [Sm]; omega, fun r hr => (h.2 r hr).1⟩
theorem ZIn.rw {z : Zone} (h : ZIn z) : ZRw z := ⟨h.1, h.2.sm.1, h.2.sm.2⟩
theorem DIn.rw {d : Delta} (h : DIn d) : DltRw d := ⟨h.1, h.2.1.sm, h.2.2.sm.1, h.2.2.sm.2⟩
theorem zUq {l : List Rec} {b : Nat} (hb : b = 160) (h : l.length * b ≤ reachBytes) (hr : ∀ r ∈ l, RIn r) : LIn l := ⟨by subst hb; unfold reachBytes at h; omega, hr⟩

theorem yGq {n : Nat} {ds : List D} (h : TD Tryz.prog (n + 2) 49 ds) : ∃ x : Adr, D.agg ds = adrE x ∧ ASm x := by
 unfold TD at h
 simp only [Tryz.underlying49, tB6, List.foldr_cons, List.foldr_nil] at h
 obtain ⟨a0, r0, rfl, _, t0, a1, r1, rfl, _, t1, a2, r2, rfl, _, t2, h9⟩ := h
 subst h9
 obtain ⟨v0, rfl⟩ := zXs Tryz.underlying4 (show TD Tryz.prog (n + 0 + 1) 4 a0 from t0)
 obtain ⟨v1, rfl, w1⟩ := zML Tryz.underlying47 (show TD Tryz.prog (n + 0 + 1) 47 a1 from t1)
 obtain ⟨v2, rfl, w2⟩ := zML Tryz.underlying47 (show TD Tryz.prog (n + 0 + 1) 47 a2 from t2)
 exact ⟨⟨v0, v1, v2⟩, rfl, ⟨w1, w2⟩⟩
theorem yGp {n : Nat} {ds : List D} (h : TD Tryz.prog (n + 3) 51 ds) : ∃ x : Dat, D.agg ds = datE x ∧ DSm x ∧ BSm x := by
 unfold TD at h
 simp only [Tryz.underlying51, tB6, List.foldr_cons, List.foldr_nil] at h
 obtain ⟨a0, r0, rfl, _, t0, a1, r1, rfl, _, t1, a2, r2, rfl, _, t2, a3, r3, rfl, _, t3, a4, r4, rfl, _, t4, a5, r5, rfl, _, t5, a6, r6, rfl, _, t6, a7, r7, rfl, _, t7, a8, r8, rfl, _, t8, a9, r9, rfl, _, t9, a10, r10, rfl, _, t10, h9⟩ := h
 subst h9
 obtain ⟨v0, e0, w0⟩ := yGq t0
 simp only [adrE, D.agg.injEq] at e0
 subst e0
 obtain ⟨v1, rfl, w1⟩ := zGe Tryz.underlying9 (show TD Tryz.prog (n + 1 + 1) 9 a1 from t1)
 obtain ⟨v2, rfl, w2⟩ := zGe Tryz.underlying9 (show TD Tryz.prog (n + 1 + 1) 9 a2 from t2)
 obtain ⟨v3, rfl, w3⟩ := zGe Tryz.underlying9 (show TD Tryz.prog (n + 1 + 1) 9 a3 from t3)
 obtain ⟨v4, rfl⟩ := zDq Tryz.underlying3 (show TD Tryz.prog (n + 1 + 1) 3 a4 from t4)
 obtain ⟨v5, rfl⟩ := zDq Tryz.underlying3 (show TD Tryz.prog (n + 1 + 1) 3 a5 from t5)
 obtain ⟨v6, rfl⟩ := zDq Tryz.underlying3 (show TD Tryz.prog (n + 1 + 1) 3 a6 from t6)
 obtain ⟨v7, rfl⟩ := zDq Tryz.underlying3 (show TD Tryz.prog (n + 1 + 1) 3 a7 from t7)
 obtain ⟨v8, rfl⟩ := zDq Tryz.underlying3 (show TD Tryz.prog (n + 1 + 1) 3 a8 from t8)
 obtain ⟨v9, rfl⟩ := zDq Tryz.underlying3 (show TD Tryz.prog (n + 1 + 1) 3 a9 from t9)
 obtain ⟨v10, rfl, w10⟩ := zML Tryz.underlying47 (show TD Tryz.prog (n + 1 + 1) 47 a10 from t10)
 exact ⟨⟨v0, v1, v2, v3, v4, v5, v6, v7, v8, v9, v10⟩, rfl, ⟨⟨w1, w2, w3, w0⟩, w10, w0⟩⟩
theorem zSu {n : Nat} {ds : List D} (h : TD Tryz.prog (n + 4) 53 ds) : ∃ x : Rec, D.agg ds = recE x ∧ RIn x := by
 unfold TD at h
 simp only [Tryz.underlying53, tB6, List.foldr_cons, List.foldr_nil] at h
 obtain ⟨a0, r0, rfl, _, t0, a1, r1, rfl, _, t1, a2, r2, rfl, _, t2, a3, r3, rfl, _, t3, h9⟩ := h
 subst h9
 obtain ⟨v0, rfl, w0⟩ := zGe Tryz.underlying9 (show TD Tryz.prog (n + 2 + 1) 9 a0 from t0)
 obtain ⟨v1, rfl⟩ := zDq Tryz.underlying3 (show TD Tryz.prog (n + 2 + 1) 3 a1 from t1)
 obtain ⟨v2, rfl⟩ := zDq Tryz.underlying3 (show TD Tryz.prog (n + 2 + 1) 3 a2 from t2)
 obtain ⟨v3, e3, w3⟩ := yGp t3
 simp only [datE, D.agg.injEq] at e3
 subst e3
 exact ⟨⟨v0, v1, v2, v3⟩, rfl, ⟨⟨w0, w3.1⟩, w3.2⟩⟩
theorem td_zone {n : Nat} {ds : List D} (h : TD Tryz.prog (n + 6) 24 ds) : ∃ x : Zone, D.agg ds = zAE x ∧ ZIn x := by
 unfold TD at h
 simp only [Tryz.underlying24, tB6, List.foldr_cons, List.foldr_nil] at h
 obtain ⟨a0, r0, rfl, _, t0, a1, r1, rfl, _, t1, h9⟩ := h
 subst h9
 obtain ⟨v0, rfl, w0⟩ := zGe Tryz.underlying9 (show TD Tryz.prog (n + 4 + 1) 9 a0 from t0)
 obtain ⟨v1, rfl, w1, u1⟩ := zGf (sz := 16) (E := recE) (W := RIn) Tryz.underlying22 (by kernel_rfl) (by kernel_rfl) (fun cs h => zSu h) (show TD Tryz.prog (n + 4 + 1) 22 a1 from t1)
 exact ⟨⟨v0, v1⟩, rfl, ⟨w0, zUq (by kernel_rfl) w1 u1⟩⟩
end Go.Mir
