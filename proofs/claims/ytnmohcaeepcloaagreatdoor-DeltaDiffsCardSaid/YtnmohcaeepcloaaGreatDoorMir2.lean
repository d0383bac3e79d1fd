/- A verified interpreter of loaded code: no theorem about any program stands here; no conditions. -/
import Derived.Test.YtnmohcaeepcloaaGreatDoorMir1
import Derived.Tactics
import Derived.Orders
import Derived.LoopN
import Derived.SizedLaws
import Derived.ChangeSlices
import Derived.Carry
import Derived.WideShapes
set_option linter.unusedSimpArgs false
set_option linter.unusedVariables false
set_option linter.defProp false
set_option maxRecDepth 100000
set_option maxHeartbeats 4000000
open Go Go.RowKit
namespace Go.Mir
section
variable {P : Program} {o : Oper} {a : Act} {B : Nat → Prop} {M M' : Mem} {A A' : Nat → Prop} {H H' : Hp} {μ μ' : Mu} {w w' : World} {d : D}

theorem zBy {α β : Type} {f : α → Option β} : ∀ {l : List α} {r : List β}, l.mapM f = some r → r.length = l.length ∧ ∀ (k : Nat) (y : β), r[k]? = some y → ∃ x, l[k]? = some x ∧ f x = some y := by
 intro l
 induction l with
 | nil => intro r h; simp at h; subst h; exact ⟨rfl, fun k y hy => by simp at hy⟩
 | cons x xs ih =>
   intro r h
   simp only [tA8, tBO] at h
   rw [tAc] at h
   obtain ⟨y, hy, h⟩ := h
   rw [tAc] at h
   obtain ⟨ys, hys, h⟩ := h
   simp only [Option.pure_def, tAb] at h
   subst h
   obtain ⟨h1, h2⟩ := ih hys
   refine ⟨by simp [h1], fun k z hz => ?_⟩
   cases k with
   | zero => simp at hz; subst hz; exact ⟨x, rfl, hy⟩
   | succ k => exact h2 k z (by simpa using hz)

theorem yEu {H : Hp} {d : D} (h : immD d = true) : bor H 0 d = some d := by simp [bor, h]

theorem zFX {H : Hp} {n : Nat} {e e' : D} (h : bor H n e = some e') :
   e'.cells.length = e.cells.length ∧ ∀ (k : Nat) (d : D), e'.cells[k]? = some d → ∃ c m, e.cells[k]? = some c ∧ m ≤ n ∧ bor H m c = some d := by
 have hone : ∀ {e e' : D}, (∀ cs, e ≠ .agg cs) → (∀ cs, e' ≠ .agg cs) → bor H n e = some e' → e'.cells.length = e.cells.length ∧ ∀ (k : Nat) (d : D), e'.cells[k]? = some d → ∃ c m, e.cells[k]? = some c ∧ m ≤ n ∧ bor H m c = some d := by
   intro e e' h1 h2 h
   have c1 : e.cells = [e] := by cases e <;> first | rfl | exact absurd rfl (h1 _)
   have c2 : e'.cells = [e'] := by cases e' <;> first | rfl | exact absurd rfl (h2 _)
   rw [c1, c2]
   refine ⟨rfl, fun k d hd => ?_⟩
   cases k with
   | zero => simp only [tAt, tAb] at hd; subst hd; exact ⟨e, n, rfl, tAl _, h⟩
   | succ k => simp at hd
 cases n with
 | zero =>
   simp only [bor] at h
   split at h
   · rename_i hi
     simp only [tAb] at h; subst h
     refine ⟨rfl, fun k d hd => ⟨d, 0, hd, tAl _, yEu ?_⟩⟩
     exact zPw hi (tAB hd)
   · cases h
 | succ n =>
   cases e
   case agg cs =>
     simp only [bor, tAe] at h
     obtain ⟨ds, hds, rfl⟩ := h
     obtain ⟨g1, g2⟩ := zBy hds
     refine ⟨g1, fun k d hd => ?_⟩
     obtain ⟨x, hx, hxy⟩ := g2 k d hd
     exact ⟨x, n, hx, by omega, hxy⟩
   all_goals
     refine hone (fun cs => by simp) (fun cs => ?_) h
     intro e
     subst e
     simp only [bor] at h
     repeat' split at h
     all_goals first | (simp at h; done) | (simp [tAc] at h; done) | skip

theorem zV8 (hR : Rel B M A H μ w) {N : Mem} (hMN : MLe M N) (hN : ∀ id β bs top o v, H id ≠ .gone → μ id = some (β, bs, top) → w.cell? ⟨β, o, none⟩ = some v → N ⟨β, o, none⟩ = some v) :
   ∀ (n : Nat), ∀ m ≤ n, ∀ (d d' : D) (v : Value), bor H m d = some d' → VR M (Leaf A H μ) d v → VRi N d' v := by
 intro n
 have himm : ∀ (d d' : D) (v : Value), (if immD d = true then some d else none) = some d' → VR M (Leaf A H μ) d v → VRi N d' v := by
   intro d d' v h hv
   split at h
   · rename_i hi
     simp only [tAb] at h; subst h
     exact (zIY hv hi).mono hMN
   · cases h
 induction n with
 | zero => intro m hm d d' v h hv; obtain rfl : m = 0 := by omega
           simp only [bor] at h; exact himm d d' v h hv
 | succ n ihn =>
   intro m hm d d' v h hv
   cases m with
   | zero => simp only [bor] at h; exact himm d d' v h hv
   | succ m =>
   have hle : m ≤ n := by omega
   have ih := ihn m hle
   cases d <;> simp only [bor] at h
   case own id off len =>
     have hl := zC4 hv
     have hbk := hR.blk id
     have hpl := hN id
     cases hh : H id <;> simp only [hh, reduceCtorEq] at h
     rename_i sz pl es
     simp only [Leaf, hh] at hl
     rw [hh] at hbk
     obtain ⟨h0, hz, hr⟩ := hbk
     obtain ⟨_, hle', a', c, rfl, hlc, hcc⟩ := hl
     have hyl : ((es.drop off).take len).length = len := by simp; omega
     have hzd : ∀ x ∈ es.drop off, x.cells.length = sz := fun x hx => hz x (tA2 hx)
     have hbase : ∀ (ys : List D), ys.length = len → (∀ x ∈ ys, x.cells.length = sz) → (∀ β bs top, μ id = some (β, bs, top) → (∀ (k : Nat) (d : D), (flat es)[k]? = some d → ∃ u, w.cell? ⟨β, bs + k, none⟩ = some u ∧ u.oneCell' = true ∧ VR M (Leaf A H μ) d u ∧ (pl = true → VRi M d u)) → ∀ (k : Nat) (d : D), (flat ys)[k]? = some d → ∃ u, w.cell? ⟨β, bs + (off * sz + k), none⟩ = some u ∧ u.oneCell' = true ∧ VRi N d u) → VRi N (.vec sz false ys) (.slice a' len c) := by
       intro ys hyl2 hzy hcell
       have := zNY (M := N) (sz := sz) (cl := false) (es := ys) (a := a') (c := c) (by omega) (fun h => by cases h) hzy h0 (fun hne => by
         have hpos : 0 < ys.length := tA4.2 hne
         rcases hcc with rfl | ⟨β', bs', top', hm, rfl, htop⟩
         · omega
         rcases hr with ⟨rfl, hm'⟩ | ⟨β, bs, top, e1, hlt, ht, ho, hc⟩
         · simp at hle'; omega
         rw [e1] at hm
         simp only [tAb, tAj] at hm
         obtain ⟨rfl, rfl, rfl⟩ := hm
         refine ⟨_, rfl, fun k d hd => ?_⟩
         obtain ⟨q, q1, q2, q3⟩ := hcell _ _ _ e1 hc k d hd
         exact ⟨q, by rw [add_lit, tBJ]; exact hpl _ _ _ _ _ (by rw [hh]; simp) e1 q1, q2, q3⟩)
       rw [hyl2] at this
       exact this
     cases pl
     · simp only [tAe] at h
       obtain ⟨ys, hys, rfl⟩ := h
       obtain ⟨g1, g2⟩ := zBy hys
       have hzy : ∀ x ∈ ys, x.cells.length = sz := fun x hx => by
         obtain ⟨k, hk⟩ := tAT.1 hx
         obtain ⟨e, he, hbe⟩ := g2 k x hk
         rw [(zFX hbe).1]; exact hzd e (tAS (tAB he))
       refine hbase ys (by omega) hzy (fun β bs top e1 hc k d hd => ?_)
       obtain ⟨i, j, y, rfl, hj, hy, hyd⟩ := zDu h0 hzy hd
       obtain ⟨e, he, hbe⟩ := g2 i y hy
       obtain ⟨c0, m', hc0, hm', hbc⟩ := (zFX hbe).2 j d hyd
       have hi : i < len := by have := (tAi.1 he).1; omega
       rw [tBw, if_pos hi, tA7] at he
       obtain ⟨u, u1, u2, u3, _⟩ := hc ((off + i) * sz + j) c0 (by rw [flat_get hz he hj]; exact hc0)
       exact ⟨u, by rw [show off * sz + (i * sz + j) = (off + i) * sz + j by rw [tAY, tBJ]]; exact u1, u2, ihn m' (by omega) c0 d u hbc u3⟩
     · simp only [tAb] at h
       subst h
       refine hbase _ hyl (fun x hx => hzd x (tAS hx)) (fun β bs top e1 hc k d hd => ?_)
       rw [zH9 hzd, zEF hz] at hd
       have hk : k < len * sz := by
         have := (tAi.1 hd).1
         simp only [tAk] at this; omega
       rw [tBw, if_pos hk, tA7] at hd
       obtain ⟨q, q1, q2, q3, q4⟩ := hc _ d hd
       exact ⟨q, q1, q2, (q4 rfl).mono hMN⟩
   case ptr id off =>
     have hl := zEA hv
     have hbk := hR.blk id
     have hpl := hN id
     cases hh : H id <;> simp only [hh, reduceCtorEq] at h
     rename_i cs
     rw [tAe] at h
     obtain ⟨ds, hds, rfl⟩ := h
     simp only [Leaf, hh] at hl
     rw [hh] at hbk
     obtain ⟨_, hle, β, hm, rfl⟩ := hl
     obtain ⟨β', e1, hlt, hf, hc⟩ := hbk
     have hnb := fun o v => hpl _ _ _ o v (by rw [hh]; simp) e1
     rw [hm] at e1
     simp only [tAb, tAj] at e1
     obtain ⟨rfl, _⟩ := e1
     obtain ⟨g1, g2⟩ := zBy hds
     refine zLR fun k y hy => ?_
     obtain ⟨x, hx, hxy⟩ := g2 k y hy
     rw [tA7] at hx
     obtain ⟨u, q1, q2, q3⟩ := hc _ x hx
     exact ⟨u, by rw [add_lit]; exact hnb _ _ q1, q2, ih x y u hxy q3⟩
   case rowp id ix off =>
     have hl := zDZ hv
     have hbk := hR.blk id
     have hpl := hN id
     cases hh : H id <;> simp only [hh, reduceCtorEq] at h
     rename_i sz pl es
     simp only [Leaf, hh] at hl
     rw [hh] at hbk
     obtain ⟨h0, hz, hr⟩ := hbk
     obtain ⟨_, hix, hle, β', bs', top', e2, rfl⟩ := hl
     rcases hr with ⟨rfl, _⟩ | ⟨β, bs, top, e1, hlt, ht, ho, hc⟩
     · simp at hix
     have hnb := fun o v => hpl _ _ _ o v (by rw [hh]; simp) e1
     rw [e1] at e2
     simp only [tAb, tAj] at e2
     obtain ⟨rfl, rfl, rfl⟩ := e2
     have hget : ∀ (e : D), es[ix]? = some e → ∀ (k : Nat) (y : D), (e.cells.drop off)[k]? = some y → ∃ u, w.cell? (Addr.add ⟨β, bs + ix * sz + off, none⟩ k) = some u ∧ u.oneCell' = true ∧ VR M (Leaf A H μ) y u ∧ (pl = true → VRi M y u) ∧ N (Addr.add ⟨β, bs + ix * sz + off, none⟩ k) = some u := by
       intro e he k y hy
       rw [tA7] at hy
       have hlt' : off + k < sz := by rw [← hz e (tAB he)]; exact (tAi.1 hy).1
       obtain ⟨u, q1, q2, q3, q4⟩ := hc (ix * sz + (off + k)) y (by rw [flat_get hz he hlt']; exact hy)
       rw [add_lit, show bs + ix * sz + off + k = bs + (ix * sz + (off + k)) by omega]
       exact ⟨u, q1, q2, q3, q4, hnb _ _ q1⟩
     cases pl
     · simp only [tAc, tAe] at h
       obtain ⟨e, he, ys, hys, rfl⟩ := h
       obtain ⟨g1, g2⟩ := zBy hys
       refine zLR fun k y hy => ?_
       obtain ⟨x, hx, hxy⟩ := g2 k y hy
       obtain ⟨u, q1, q2, q3, _, q5⟩ := hget e he k x hx
       exact ⟨u, q5, q2, ih x y u hxy q3⟩
     · simp only [tAe] at h
       obtain ⟨e, he, rfl⟩ := h
       refine zLR fun k y hy => ?_
       obtain ⟨u, q1, q2, q3, q4, q5⟩ := hget e he k y hy
       exact ⟨u, q5, q2, (q4 rfl).mono hMN⟩
   case agg cs =>
     rw [tAe] at h
     obtain ⟨ds, hds, rfl⟩ := h
     obtain ⟨vs, rfl, hl, hc⟩ := zDB zCx hv
     obtain ⟨g1, g2⟩ := zBy hds
     refine .agg ds vs (by rw [hl, g1]) (fun k => vs.getD k undef) (fun k hk => by simp [hk]) (fun k hk => ?_) (fun k y hy => ?_)
     · obtain ⟨u, q1, q2, _⟩ := hc k _ (tAn (by omega))
       rw [tAD, q1]; exact q2
     · obtain ⟨x, hx, hxy⟩ := g2 k y hy
       obtain ⟨u, q1, _, q3⟩ := hc k x hx
       rw [tAD, q1]; exact ih x y u hxy q3
   case tup cs =>
     rw [tAe] at h
     obtain ⟨ds, hds, rfl⟩ := h
     obtain ⟨vs, rfl, hl, hc⟩ := zMK zJK hv
     obtain ⟨g1, g2⟩ := zBy hds
     refine .tup ds vs (by rw [hl, g1]) (fun k => vs.getD k undef) (fun k hk => by simp [hk]) (fun k y hy => ?_)
     obtain ⟨x, hx, hxy⟩ := g2 k y hy
     obtain ⟨u, q1, q3⟩ := hc k x hx
     rw [tAD, q1]; exact ih x y u hxy q3
   case fn f first caps =>
     rw [tAc] at h
     obtain ⟨p, hp, h⟩ := h
     rw [tAe] at h
     obtain ⟨q, hq, rfl⟩ := h
     obtain ⟨vf, vc, rfl, hl1, hl2, hc1, hc2⟩ := zFR zD7 hv
     obtain ⟨g1, g2⟩ := zBy hp
     obtain ⟨g3, g4⟩ := zBy hq
     refine .fn f p q vf vc (by rw [hl1, g1]) (by rw [hl2, g3]) (fun k => vf.getD k undef) (fun k => vc.getD k undef) (fun k hk => by simp [hk]) (fun k hk => by simp [hk]) (fun k y hy => ?_) (fun k y hy => ?_)
     · obtain ⟨x, hx, hxy⟩ := g2 k y hy
       obtain ⟨u, q1, q3⟩ := hc1 k x hx
       rw [tAD, q1]; exact ih x y u hxy q3
     · obtain ⟨x, hx, hxy⟩ := g4 k y hy
       obtain ⟨u, q1, q3⟩ := hc2 k x hx
       rw [tAD, q1]; exact ih x y u hxy q3
   all_goals exact himm _ d' v h hv

def World.mem (w : World) : Mem := fun a => w.cell? a
theorem Rel.le_mem (hR : Rel B M A H μ w) : MLe M (World.mem w) := hR.mem

theorem yI7 (hR : Rel B M A H μ w) (n : Nat) (d d' : D) (v : Value) (h : bor H n d = some d') (hv : VR M (Leaf A H μ) d v) : VRi (World.mem w) d' v :=
 zV8 hR hR.le_mem (fun _ _ _ _ _ _ _ _ h => h) n n (tAl _) d d' v h hv

theorem zBw (f : Nat → Option Nat) : ∀ (l : List D) (k : Nat) (d : D), (renL f l)[k]? = some d → ∃ e, l[k]? = some e ∧ d = ren f e := by
 intro l
 induction l with
 | nil => intro k d h; simp [renL] at h
 | cons x r ih =>
   intro k d h
   simp only [renL] at h
   cases k with
   | zero => simp at h; exact ⟨x, rfl, h.symm⟩
   | succ k => exact ih k d (by simpa using h)
theorem zAX (f : Nat → Option Nat) : ∀ (l : List D), (renL f l).length = l.length := by
 intro l
 induction l with
 | nil => rfl
 | cons x r ih => simp [renL, ih]

theorem VRi.ren (f : Nat → Option Nat) {d : D} {v : Value} (h : VRi M d v) : VRi M (ren f d) v := by
 induction h with
 | un v => exact .un v
 | bo t => exact .bo t
 | it k n => exact .it k n
 | st l => exact .st l
 | vec sz cl es a c hc hcl hz hs us hm h1 hv ih => exact .vec sz cl es a c hc hcl hz hs us hm h1 hv
 | nils => exact .nils
 | emp b a c h => exact .emp b a c h
 | agg cs vs hl us hu h1 hv ih =>
   exact .agg _ vs (by rw [zAX, hl]) us hu h1 (fun k d hd => by obtain ⟨e, he, rfl⟩ := zBw f cs k d hd; exact ih k e he)
 | tup cs vs hl us hu hv ih =>
   exact .tup _ vs (by rw [zAX, hl]) us hu (fun k d hd => by obtain ⟨e, he, rfl⟩ := zBw f cs k d hd; exact ih k e he)
 | elt cs ad us hm h1 hv ih => exact .elt cs ad us hm h1 hv
 | nilp => exact .nilp
 | fn g first caps vf vc hf hc uf uc huf huc hvf hvc ihf ihc =>
   exact .fn g _ _ vf vc (by rw [zAX, hf]) (by rw [zAX, hc]) uf uc huf huc (fun k d hd => by obtain ⟨e, he, rfl⟩ := zBw f first k d hd; exact ihf k e he) (fun k d hd => by obtain ⟨e, he, rfl⟩ := zBw f caps k d hd; exact ihc k e he)
 | nilf => exact .nilf
 | nilm => exact .nilm

theorem VR.ren {L L' : D → Value → Prop} (f : Nat → Option Nat) (hM : MLe M M') (hL : ∀ d v, L d v → VR M' L' (ren f d) v) {d : D} {v : Value} (h : VR M L d v) : VR M' L' (ren f d) v := by
 induction h with
 | imm h => exact .imm ((h.ren f).mono hM)
 | leaf h => exact hL _ _ h
 | agg cs vs hl us hu h1 hv ih =>
   exact .agg _ vs (by rw [zAX, hl]) us hu h1 (fun k d hd => by obtain ⟨e, he, rfl⟩ := zBw f cs k d hd; exact ih k e he)
 | tup cs vs hl us hu hv ih =>
   exact .tup _ vs (by rw [zAX, hl]) us hu (fun k d hd => by obtain ⟨e, he, rfl⟩ := zBw f cs k d hd; exact ih k e he)
 | fn g first caps vf vc hf hc uf uc huf huc hvf hvc ihf ihc =>
   exact .fn g _ _ vf vc (by rw [zAX, hf]) (by rw [zAX, hc]) uf uc huf huc (fun k d hd => by obtain ⟨e, he, rfl⟩ := zBw f first k d hd; exact ihf k e he) (fun k d hd => by obtain ⟨e, he, rfl⟩ := zBw f caps k d hd; exact ihc k e he)

theorem Leaf.ren (f : Nat → Option Nat) (h : ∀ id j, A id → f id = some j → A' j ∧ μ' j = μ id ∧ match H id, H' j with
     | .gone, .gone => True
     | .box cs, .box cs' => cs'.length = cs.length
     | .row sz _ es, .row sz' _ es' => sz' = sz ∧ es'.length = es.length
     | .mp _, .mp _ => True
     | _, _ => False) {d : D} {v : Value} (hl : Leaf A H μ d v) : VR M' (Leaf A' H' μ') (ren f d) v := by
 cases d <;> simp only [Leaf] at hl
 case own id off len =>
   simp only [Mir.ren]
   cases hf : f id with
   | none => exact .imm (.un _)
   | some j =>
     obtain ⟨h1, h2, h3⟩ := h id j hl.1.1 hf
     refine .leaf ?_
     simp only [Leaf]
     refine ⟨⟨h1, hl.1.2⟩, ?_⟩
     have h4 := hl.2
     cases hh : H id <;> cases hh' : H' j <;> simp only [hh, hh'] at h3 h4 ⊢
     rw [h2, h3.1, h3.2]; exact h4
 case ptr id off =>
   simp only [Mir.ren]
   cases hf : f id with
   | none => exact .imm (.un _)
   | some j =>
     obtain ⟨h1, h2, h3⟩ := h id j hl.1.1 hf
     refine .leaf ?_
     simp only [Leaf]
     refine ⟨⟨h1, hl.1.2⟩, ?_⟩
     have h4 := hl.2
     cases hh : H id <;> cases hh' : H' j <;> simp only [hh, hh'] at h3 h4 ⊢
     rw [h2, h3]; exact h4
 case rowp id ix off =>
   simp only [Mir.ren]
   cases hf : f id with
   | none => exact .imm (.un _)
   | some j =>
     obtain ⟨h1, h2, h3⟩ := h id j hl.1.1 hf
     refine .leaf ?_
     simp only [Leaf]
     refine ⟨⟨h1, hl.1.2⟩, ?_⟩
     have h4 := hl.2
     cases hh : H id <;> cases hh' : H' j <;> simp only [hh, hh'] at h3 h4 ⊢
     rw [h2, h3.1, h3.2]; exact h4
 case map id =>
   simp only [Mir.ren]
   cases hf : f id with
   | none => exact .imm (.un _)
   | some j =>
     obtain ⟨h1, h2, h3⟩ := h id j hl.1.1 hf
     refine .leaf ?_
     simp only [Leaf]
     refine ⟨⟨h1, hl.1.2⟩, ?_⟩
     have h4 := hl.2
     cases hh : H id <;> cases hh' : H' j <;> simp only [hh, hh'] at h3 h4 ⊢
     rw [h2]; exact h4

def Enters (P : Program) (g : FuncId) : Prop := ∃ fn, P.funcs[g]? = some fn ∧ fn.body.isSome = true ∧ (fn.name == "runtime.NumGoroutine") = false

theorem zHO {g : FuncId} {args : Array Value} (h : Enters P g) : (callFunc g args).run P w = .ok (.enter g args) w := by
 obtain ⟨fn, h1, h2, h3⟩ := h
 have h2' : ¬ (fn.body = none) := by cases hb : fn.body <;> simp [hb] at h2 ⊢
 have h3' : ¬ (fn.name = "runtime.NumGoroutine") := by simpa using h3
 simp [callFunc, h1, h2', h3']

def PureOK (P : Program) (g : FuncId) (F : List D → Option Res) : Prop :=
 Enters P g ∧ ∀ ds r, F ds = some r → (∀ b ∈ r.hs, ∃ sz es, b = .row sz true es) ∧ ∀ (M : Mem) (w : World) (vs : List Value), (∀ a v, M a = some v → w.cell? a = some v) → vs.length = ds.length → (∀ (k : Nat) (d : D), ds[k]? = some d → ∃ v, vs[k]? = some v ∧ VRi M d v) →
   Calls P g vs.toArray w fun e w' => ∃ v Mr μ, e = .returned v ∧ Blw w.heap.size w w' ∧ (r.al = true → MLe M Mr) ∧ (∀ a v, Mr a = some v → (r.al = true ∧ M a = some v) ∨ w.heap.size ≤ a.block) ∧
     Rel (· < w.heap.size) Mr (· < r.hs.length) (ofHp r.hs) μ w' ∧ VR Mr (Leaf (· < r.hs.length) (ofHp r.hs) μ) r.r v

def ExtOK (P : Program) (g : FuncId) (F : List D → Option D) : Prop :=
 ∀ ds d, F ds = some d → ∀ (M : Mem) (w : World) (vs : List Value), (∀ a v, M a = some v → w.cell? a = some v) → vs.length = ds.length → (∀ (k : Nat) (d : D), ds[k]? = some d → ∃ v, vs[k]? = some v ∧ VRi M d v) →
   ∃ v, (callFunc g vs.toArray).run P w = .ok (.value v) w ∧ ∀ M', VRi M' d v

def EffOK (P : Program) (g : FuncId) (F : List D → List Blk → Option (D × List Blk)) : Prop :=
 Enters P g ∧ ∀ ds hs r hs', F ds hs = some (r, hs') → hs.length ≤ hs'.length ∧ ∀ (B : Nat → Prop) (M : Mem) (μ : Mu) (w : World) (vs : List Value), Rel B M (· < hs.length) (ofHp hs) μ w → (∀ k, B k → k < w.heap.size) → vs.length = ds.length →
   (∀ (k : Nat) (d : D), ds[k]? = some d → ∃ v, vs[k]? = some v ∧ VR M (Leaf (· < hs.length) (ofHp hs) μ) d v) →
   Calls P g vs.toArray w fun e w' => ∃ v M' μ', e = .returned v ∧ Post B M (· < hs.length) (ofHp hs) μ w r (ofHp hs') (· < hs'.length) v w' M' μ'

structure CxOK (cx : Cx) : Prop where
 rd : ∀ g ∈ cx.rd, (cx.orc g).isSome = true ∨ (cx.ext g).isSome = true
 orc : ∀ g F, cx.orc g = some F → PureOK cx.P g F
 ext : ∀ g F, cx.ext g = some F → ExtOK cx.P g F
 eff : ∀ g F, cx.eff g = some F → EffOK cx.P g F

theorem zD2 (hs : List Blk) : ∀ (k : Nat), ofHp hs k = (hs[k]?).getD .gone := by
 induction hs with
 | nil => intro k; simp [ofHp]
 | cons b r ih => intro k; cases k <;> simp [ofHp, ih]

theorem zLh {nid : Nat} {r : Res} {v : Value} {Mr : Mem} {μr : Mu} {Mc : Mem} (hR : Rel B M A H μ w) (hB : ∀ k, B k → k < w.heap.size) (hn : ∀ id, nid ≤ id → id < nid + r.hs.length → ¬ A id) (hrows : ∀ b ∈ r.hs, ∃ sz es, b = .row sz true es)
   (hA : ∀ id, A id → A' id) (hA' : ∀ id, nid ≤ id → id < nid + r.hs.length → A' id) (hbel : Blw w.heap.size w w') (hMc : r.al = true → Mc = M) (hmr : ∀ a v, Mr a = some v → (r.al = true ∧ Mc a = some v) ∨ w.heap.size ≤ a.block)
   (hRr : Rel (· < w.heap.size) Mr (· < r.hs.length) (ofHp r.hs) μr w') (hv : VR Mr (Leaf (· < r.hs.length) (ofHp r.hs) μr) r.r v) :
   ∃ M' μ', Post B M A H μ w (ren (fun i => some (nid + i)) r.r) (zB8 H nid r.hs) A' v w' M' μ' := by
 have hHin : ∀ k, k < r.hs.length → zB8 H nid r.hs (nid + k) = ofHp r.hs k := fun k hk => by
   unfold zB8; rw [if_pos (by omega), tBd, zD2, tAn hk]; rfl
 have hHout : ∀ id, ¬ (nid ≤ id ∧ id < nid + r.hs.length) → zB8 H nid r.hs id = H id := fun id hid => by
   unfold zB8
   split
   · rw [tBu (by omega)]; rfl
   · rfl
 have hgone : ∀ id, A id → ¬ (nid ≤ id ∧ id < nid + r.hs.length) := fun id ha h => hn id h.1 h.2 ha
 have hMold : ∀ a v, M a = some v → a.block < w.heap.size := fun a v h => World.block_lt_of_cell? w a (hR.mem a v h)
 refine ⟨fun a => if a.block < w.heap.size then M a else Mr a, fun id => if nid ≤ id ∧ id < nid + r.hs.length then μr (id - nid) else μ id, ?_⟩
 have hle : MLe M (fun a => if a.block < w.heap.size then M a else Mr a) := fun a v h => by simp only []; rw [if_pos (hMold a v h)]; exact h
 have hle2 : MLe Mr (fun a => if a.block < w.heap.size then M a else Mr a) := fun a v h => by
   simp only []
   rcases hmr a v h with ⟨hal, hm⟩ | hb
   · rw [hMc hal] at hm; rw [if_pos (hMold a v hm)]; exact hm
   · rw [if_neg (by omega)]; exact h
 have hk : ∀ d v, Leaf A H μ d v → Leaf A' (zB8 H nid r.hs) (fun id => if nid ≤ id ∧ id < nid + r.hs.length then μr (id - nid) else μ id) d v := fun d v h => h.mono hA (fun id hid => by
   rw [hHout id (hgone id hid)]
   have := hgone id hid
   simp only [this, if_false]
   cases hh : H id <;> simp)
 refine ⟨hle, ⟨fun a v h => ?_, fun id h => ?_, fun id β bs top h hm => ?_, fun i j β b1 t1 b2 t2 h h' hm hm' => ?_, fun id β bs top h hm a v hM => ?_, fun id => ?_⟩, ?_, hk, .of_below hbel hB, fun a v h => ?_⟩
 · split at h
   · rename_i hlt; rw [hbel.cell hlt]; exact hR.mem a v h
   · exact hRr.mem a v h
 · by_cases hin : nid ≤ id ∧ id < nid + r.hs.length
   · exact hA' id hin.1 hin.2
   · rw [hHout id hin] at h; exact hA id (hR.given id h)
 · by_cases hin : nid ≤ id ∧ id < nid + r.hs.length
   · simp only [hin, and_self, if_true] at hm
     obtain ⟨k, rfl⟩ : ∃ k, id = nid + k := ⟨id - nid, by omega⟩
     rw [hHin k (by omega)] at h
     rw [tBd] at hm
     have := hRr.place k β bs top h hm; exact fun hb => this (hB _ hb)
   · simp only [hin, if_false] at hm
     rw [hHout id hin] at h
     exact hR.place id β bs top h hm
 · by_cases hin : nid ≤ i ∧ i < nid + r.hs.length <;> by_cases hjn : nid ≤ j ∧ j < nid + r.hs.length
   · simp only [hin, hjn, and_self, if_true] at hm hm'
     obtain ⟨k, rfl⟩ : ∃ k, i = nid + k := ⟨i - nid, by omega⟩
     obtain ⟨k', rfl⟩ : ∃ k, j = nid + k := ⟨j - nid, by omega⟩
     rw [hHin k (by omega)] at h
     rw [hHin k' (by omega)] at h'
     rw [tBd] at hm hm'
     rw [hRr.apart k k' β b1 t1 b2 t2 h h' hm hm']
   · simp only [hin, hjn, and_self, if_true, if_false] at hm hm'
     obtain ⟨k, rfl⟩ : ∃ k, i = nid + k := ⟨i - nid, by omega⟩
     rw [hHin k (by omega)] at h
     rw [hHout j hjn] at h'
     rw [tBd] at hm
     have := hRr.place k β b1 t1 h hm
     have := hR.lt h' hm'
     omega
   · simp only [hin, hjn, and_self, if_true, if_false] at hm hm'
     obtain ⟨k, rfl⟩ : ∃ k, j = nid + k := ⟨j - nid, by omega⟩
     rw [hHin k (by omega)] at h'
     rw [hHout i hin] at h
     rw [tBd] at hm'
     have := hRr.place k β b2 t2 h' hm'
     have := hR.lt h hm
     omega
   · simp only [hin, hjn, if_false] at hm hm'
     rw [hHout i hin] at h
     rw [hHout j hjn] at h'
     exact hR.apart i j β b1 t1 b2 t2 h h' hm hm'
 · by_cases hin : nid ≤ id ∧ id < nid + r.hs.length
   · simp only [hin, and_self, if_true] at hm
     obtain ⟨k, rfl⟩ : ∃ k, id = nid + k := ⟨id - nid, by omega⟩
     rw [hHin k (by omega)] at h
     rw [tBd] at hm
     split at hM
     · have := hRr.place k β bs top h hm; omega
     · exact hRr.alone k β bs top h hm a v hM
   · simp only [hin, if_false] at hm
     rw [hHout id hin] at h
     split at hM
     · exact hR.alone id β bs top h hm a v hM
     · have := hR.lt h hm; omega
 · by_cases hin : nid ≤ id ∧ id < nid + r.hs.length
   · simp only [hin, and_self, if_true]
     obtain ⟨k, rfl⟩ : ∃ k, id = nid + k := ⟨id - nid, by omega⟩
     rw [hHin k (by omega), tBd]
     have hb := hRr.blk k
     have hkr : k < r.hs.length := by omega
     obtain ⟨sz, es, he⟩ := hrows r.hs[k] (tBH hkr)
     have hok : ofHp r.hs k = .row sz true es := by rw [zD2, tAn hkr]; exact he
     rw [hok] at hb ⊢
     obtain ⟨h0, hz, hr⟩ := hb
     refine ⟨h0, hz, ?_⟩
     rcases hr with hr | ⟨β, bs, top, e1, hlt, ht, ho, hc⟩
     · exact .inl hr
     · refine .inr ⟨β, bs, top, e1, hlt, ht, ho, fun k d hd => ?_⟩
       obtain ⟨u, q1, q2, _, q4⟩ := hc k d hd
       have := (q4 rfl).mono hle2
       exact ⟨u, q1, q2, .imm this, fun _ => this⟩
   · simp only [hin, if_false]
     rw [hHout id hin]
     by_cases hg : H id = .gone
     · rw [hg]; trivial
     · exact (hR.blk id).mono hle hk hbel.size (fun β bs top hm => hbel.block β (hR.lt hg hm))
 · refine VR.ren _ hle2 (fun d v h => Leaf.ren _ (fun id j hid hj => ?_) h) hv
   simp only [tAb] at hj
   subst hj
   refine ⟨hA' _ (by omega) (by omega), ?_, ?_⟩
   · rw [if_pos (by omega), tBd]
   · rw [hHin id hid]
     cases hh : ofHp r.hs id <;> simp

 · split at h
   · exact .inl h
   · exact .inr (by omega)

end
section
variable {cx : Cx} {env env' : Nat → D} {o : Oper} {H H' : Hp} {nid nx' : Nat} {d : D}

theorem zFI {x : Option Operand} {ρ ρ' : Operand → D} (h : ∀ y ∈ x.toArray, ρ y = ρ' y) : x.map ρ = x.map ρ' := by
 cases x with
 | none => rfl
 | some y => simp at h; simp [h]

theorem zLo (h : ∀ x ∈ o.op.operands, ev env x = ev env' x) : opD cx env o H nid = opD cx env' o H nid := by
 unfold opD
 cases ho : o.op <;> simp only [ho, Op.operands] at h ⊢
 case build t ps =>
   have : (ps.toList.map fun p => (p.1, ev env p.2)) = ps.toList.map fun p => (p.1, ev env' p.2) := tBo (fun p hp => by
     rw [h p.2 (by simp; exact ⟨p.1, by simpa using hp⟩)])
   simp only [this]
 case buildSlice t n ps =>
   have : (ps.toList.map fun p => (p.1, ev env p.2)) = ps.toList.map fun p => (p.1, ev env' p.2) := tBo (fun p hp => by
     rw [h p.2 (by simp; exact ⟨p.1, by simpa using hp⟩)])
   simp only [this]
 case makeFunc fn first caps =>
   have h1 : first.toList.map (ev env) = first.toList.map (ev env') := tBo (fun x hx => h x (by simp at hx ⊢; exact .inl hx))
   have h2 : caps.toList.map (ev env) = caps.toList.map (ev env') := tBo (fun x hx => h x (by simp at hx ⊢; exact .inr hx))
   rw [h1, h2]
 case makeMap t r => rw [zFI h]
 case slice t x lo hi mx =>
   simp only [Array.mem_append] at h
   rw [h x (by simp), zFI (x := lo) (fun y hy => h y (.inl (.inl (.inr hy)))), zFI (x := hi) (fun y hy => h y (.inl (.inr hy))), zFI (x := mx) (fun y hy => h y (.inr hy))]
 case call c =>
   simp only [Call.operands] at h
   cases hc : c.callee <;> simp only [hc] at h ⊢
   case value f =>
     have h1 : c.args.toList.map (ev env) = c.args.toList.map (ev env') := tBo (fun x hx => h x (by simp at hx ⊢; simp [hx]))
     rw [h1, h f (by simp)]
   case builtin b =>
     have h1 : c.args.toList.map (ev env) = c.args.toList.map (ev env') := tBo (fun x hx => h x (by simp at hx ⊢; simp [hx]))
     rw [h1]
 all_goals first
   | rfl
   | (simp only [h _ (by simp)])
   | (simp at h; simp only [h])

theorem zO5 {rd : List FuncId} (hk : zBK rd o.op = 0) : ∃ r : Option D, ∀ (H : Hp) (nid : Nat), opD cx env o H nid = r.map fun d => (d, H, nid) := by
 unfold opD
 cases ho : o.op <;> simp only [ho, zBK] at hk ⊢ <;> first | (simp at hk; done) | skip
 case move x => exact ⟨some (ev env x), fun _ _ => rfl⟩
 case assign x =>
   have hn : nilC x = false := by cases h : nilC x <;> simp [h] at hk ⊢
   exact ⟨some (ev env x), fun _ _ => by simp [hn]⟩
 case pick c a b =>
   cases hc : ev env c
   case bo t => exact ⟨some (if t then ev env a else ev env b), fun _ _ => by simp [hc]⟩
   all_goals exact ⟨none, fun _ _ => by simp [hc]⟩
 case build t ps => exact ⟨_, fun _ _ => rfl⟩
 case binOp => exact ⟨_, fun _ _ => rfl⟩
 case unOp => exact ⟨_, fun _ _ => rfl⟩
 case makeFunc fn first caps => exact ⟨some (.fn fn (first.toList.map (ev env)) (caps.toList.map (ev env))), fun _ _ => rfl⟩
 case field t x f =>
   cases hc : ev env x
   case agg cs =>
     refine ⟨(zAQ cx.P t f).bind fun fl => zAx cx.P fl.type cs fl.offset, fun _ _ => ?_⟩
     simp only [hc]
     cases zAQ cx.P t f <;> simp
   all_goals exact ⟨none, fun _ _ => by simp [hc]⟩
 case index => exact ⟨_, fun _ _ => rfl⟩
 case extract t j =>
   cases hc : ev env t
   case tup ds => exact ⟨ds[j]?, fun _ _ => by simp [hc]⟩
   all_goals exact ⟨none, fun _ _ => by simp [hc]⟩
 case call c =>
   split at hk <;> try (split at hk) <;> simp at hk
   all_goals simp at hk

theorem zIS {hs : List Blk} {id : Nat} (h : ¬ (nid ≤ id ∧ id < nid + hs.length)) : zB8 H nid hs id = H id := by
 unfold zB8
 split
 · rw [tBu (by omega)]; rfl
 · rfl

theorem zM6 {P : Program} {t : TypeId} {l c : D} (h : zDe P t H nid l c = some (d, H', nx')) : nid ≤ nx' ∧ ∀ id, ¬ (nid ≤ id ∧ id < nx') → H' id = H id := by
 unfold zDe at h
 simp only [tAc] at h
 obtain ⟨e, _, inf, _, z, _, h⟩ := h
 split at h
 · split at h
   · simp only [tAb, tAj] at h
     obtain ⟨-, rfl, rfl⟩ := h
     exact ⟨by omega, fun id hid => upd_ne _ _ (by omega)⟩
   · simp at h
 · simp at h

theorem zLn {rd : List FuncId} (hk : zBK rd o.op = 1) (hrd : ∀ g ∈ rd, (cx.orc g).isSome = true ∨ (cx.ext g).isSome = true) (h : opD cx env o H nid = some (d, H', nx')) :
   nid ≤ nx' ∧ ∀ id, ¬ (nid ≤ id ∧ id < nx') → H' id = H id := by
 unfold opD at h
 have hsame : ∀ {α : Type} {f : α → D} {r : Option α}, r.map (fun d => (f d, H, nid)) = some (d, H', nx') → nid ≤ nx' ∧ ∀ id, ¬ (nid ≤ id ∧ id < nx') → H' id = H id := fun h => by
   simp only [tAe, tAj] at h
   obtain ⟨_, _, _, rfl, rfl⟩ := h
   exact ⟨tAl _, fun _ _ => rfl⟩
 have hone : ∀ {b : Blk} {e : D}, some (e, upd H nid b, nid + 1) = some (d, H', nx') → nid ≤ nx' ∧ ∀ id, ¬ (nid ≤ id ∧ id < nx') → H' id = H id := fun h => by
   simp only [tAb, tAj] at h
   obtain ⟨-, rfl, rfl⟩ := h
   exact ⟨by omega, fun id hid => upd_ne _ _ (by omega)⟩
 cases ho : o.op <;> simp only [ho, zBK] at hk h <;> first | (simp at hk; done) | skip
 case assign x =>
   split at h
   · simp only [zAr, tAc] at h
     obtain ⟨e, _, sz, _, h⟩ := h
     split at h
     · exact hone h
     · simp at h
   · exact hsame (f := id) (r := some _) h
 case alloc t =>
   simp only [tAc, tAe] at h
   obtain ⟨z, _, cs, _, h⟩ := h
   exact hone (congrArg some h)
 case box t x =>
   simp only [tAe] at h
   obtain ⟨cs, _, h⟩ := h
   exact hone (congrArg some h)
 case buildSlice t n ps =>
   simp only [tAc] at h
   obtain ⟨e, _, sz, _, z, _, h⟩ := h
   split at h
   · simp only [tAe] at h
     obtain ⟨es, _, h⟩ := h
     exact hone (congrArg some h)
   · simp at h
 case load t x =>
   simp only [tAc] at h
   obtain ⟨cs, _, h⟩ := h
   exact hsame (f := id) h
 case nilCheck => exact hsame (f := id) h
 case convert s t x =>
   split at h
   · exact hsame (f := id) (r := some _) h
   · exact hsame (f := id) (r := some _) h
   · split at h
     · split at h
       · exact hone h
       · simp at h
     · simp at h
   · split at h
     · split at h
       · simp only [tAc] at h
         obtain ⟨es, _, h⟩ := h
         exact hsame h
       · simp at h
     · simp at h
   · simp at h
 case makeMap t r =>
   simp only [tAc] at h
   obtain ⟨_, _, h⟩ := h
   split at h
   · exact hone h
   · exact hone h
   · simp at h
 case makeSlice => exact zM6 h
 case slice => exact hsame (f := id) h
 case fieldAddr => exact hsame (f := id) h
 case indexAddr => exact hsame (f := id) h
 case lookup => exact hsame (f := id) h
 case call c =>
   split at hk
   · rename_i g hg
     simp only [hg, ev] at h
     have hr : rd.contains g = true := by
       split at hk
       · assumption
       · simp at hk
     unfold zBI at h
     rcases hrd g (by simpa using hr) with hs | hs
     · obtain ⟨F, hF⟩ := tA3.1 hs
       simp only [hF, tAc] at h
       obtain ⟨asx, _, r, _, h⟩ := h
       split at h
       · simp at h
       · simp only [tAb, tAj] at h
         obtain ⟨-, rfl, rfl⟩ := h
         exact ⟨by omega, fun id hid => zIS hid⟩
     · obtain ⟨F, hF⟩ := tA3.1 hs
       cases ho : cx.orc g with
       | some F' =>
         simp only [ho, tAc] at h
         obtain ⟨asx, _, r, _, h⟩ := h
         split at h
         · simp at h
         · simp only [tAb, tAj] at h
           obtain ⟨-, rfl, rfl⟩ := h
           exact ⟨by omega, fun id hid => zIS hid⟩
       | none =>
         simp only [ho, hF, tAc] at h
         obtain ⟨asx, _, h⟩ := h
         exact hsame (f := id) h
   · rename_i hg
     simp only [hg, zAd] at h
     split at h
     all_goals first | (simp at *; done) | skip
     exact hsame h
   · rename_i hg
     simp only [hg, zAd] at h
     exact hsame (f := id) h
   · rename_i hg
     simp only [hg, zAd] at h
     exact hsame (f := id) h
   · simp at hk
end
section
variable {P : Program} {B B2 : Nat → Prop} {M M' : Mem} {A A' A2 : Nat → Prop} {H H' H2 : Hp} {μ μ' μ2 : Mu} {w w' : World} {d : D} {f : Nat → Option Nat} {R : Nat → Prop}

theorem zBH {l : List D} {k : Nat} {d : D} {id : Nat} (hd : l[k]? = some d) (h : id ∈ refs d) : id ∈ zAp l := by
 induction l generalizing k with
 | nil => simp at hd
 | cons x r ih =>
   simp only [zAp, tAz]
   cases k with
   | zero => simp only [tAt, tAb] at hd; subst hd; exact .inl h
   | succ k => exact .inr (ih (by simpa using hd))
theorem zB6 {l : List D} {id : Nat} (h : id ∈ zAp l) : ∃ d ∈ l, id ∈ refs d := by
 induction l with
 | nil => simp [zAp] at h
 | cons x r ih =>
   simp only [zAp, tAz] at h
   rcases h with h | h
   · exact ⟨x, by simp, h⟩
   · obtain ⟨d, hd, h'⟩ := ih h; exact ⟨d, by simp [hd], h'⟩
theorem zOW (f : Nat → Option Nat) : ∀ (l : List D), renL f l = l.map (ren f)
 | [] => rfl
 | d :: r => by rw [renL, zOW f r]; rfl

mutual
theorem zFu : ∀ d : D, ren some d = d
 | .own .. => rfl
 | .ptr .. => rfl
 | .rowp .. => rfl
 | .map _ => rfl
 | .agg cs => by rw [ren, zCZ cs]
 | .tup cs => by rw [ren, zCZ cs]
 | .fn g p q => by rw [ren, zCZ p, zCZ q]
 | .un => rfl
 | .bo _ => rfl
 | .it .. => rfl
 | .st _ => rfl
 | .vec .. => rfl
 | .nils => rfl
 | .emp _ => rfl
 | .elt _ => rfl
 | .nilp => rfl
 | .nilf => rfl
 | .nilm => rfl
theorem zCZ : ∀ l : List D, renL some l = l
 | [] => rfl
 | d :: r => by rw [renL, zFu d, zCZ r]
end
theorem zMY (b : Blk) : renBlk some b = b := by
 cases b with
 | row sz pl es => cases pl <;> simp [renBlk, zCZ]
 | _ => simp [renBlk, zCZ]

theorem zI5 {e c : D} (hc : c ∈ e.cells) {id : Nat} (h : id ∈ refs c) : id ∈ refs e := by
 cases e <;> simp only [D.cells, tAy] at hc <;> first | (subst hc; exact h) | skip
 rename_i cs
 obtain ⟨k, hk⟩ := tAT.1 hc
 simp only [refs]; exact zBH hk h
theorem zL2 (f : Nat → Option Nat) (e : D) : (ren f e).cells = e.cells.map (ren f) := by
 cases e <;> simp only [ren, D.cells, zOW, tAO, tBn] <;> (try rfl)
 case own id off len => cases f id <;> rfl
 case ptr id off => cases f id <;> rfl
 case rowp id ix off => cases f id <;> rfl
 case map id => cases f id <;> rfl
theorem zY9 (f : Nat → Option Nat) (es : List D) : flat (renL f es) = (flat es).map (ren f) := by
 induction es with
 | nil => rfl
 | cons e r ih =>
   have h1 : flat (e :: r) = e.cells ++ flat r := by simp [flat]
   have h2 : flat (renL f (e :: r)) = (ren f e).cells ++ flat (renL f r) := by simp [flat, renL]
   rw [h1, h2, ih, zL2, tBE]

theorem VR.ren_on {L L' : D → Value → Prop} (hL : ∀ d v, L d v → (∀ id ∈ refs d, R id) → VR M L' (Mir.ren f d) v) {d : D} {v : Value} (h : VR M L d v) : (∀ id ∈ refs d, R id) → VR M L' (Mir.ren f d) v := by
 induction h with
 | imm h => exact fun _ => .imm (h.ren f)
 | leaf h => exact hL _ _ h
 | agg cs vs hl us hu h1 hv ih =>
   intro hr
   rw [Mir.ren]
   refine .agg _ vs (by rw [zAX]; exact hl) us hu h1 (fun k d hd => ?_)
   obtain ⟨e, he, rfl⟩ := zBw f cs k d hd
   exact ih k e he (fun id hid => hr id (by simp only [refs]; exact zBH he hid))
 | tup cs vs hl us hu hv ih =>
   intro hr
   rw [Mir.ren]
   refine .tup _ vs (by rw [zAX]; exact hl) us hu (fun k d hd => ?_)
   obtain ⟨e, he, rfl⟩ := zBw f cs k d hd
   exact ih k e he (fun id hid => hr id (by simp only [refs]; exact zBH he hid))
 | fn g first caps vf vc hf hc uf uc huf huc hvf hvc ihf ihc =>
   intro hr
   rw [Mir.ren]
   refine .fn g _ _ vf vc (by rw [zAX]; exact hf) (by rw [zAX]; exact hc) uf uc huf huc (fun k d hd => ?_) (fun k d hd => ?_)
   · obtain ⟨e, he, rfl⟩ := zBw f first k d hd
     exact ihf k e he (fun id hid => hr id (by simp only [refs, tAz]; exact .inl (zBH he hid)))
   · obtain ⟨e, he, rfl⟩ := zBw f caps k d hd
     exact ihc k e he (fun id hid => hr id (by simp only [refs, tAz]; exact .inr (zBH he hid)))

structure Carry (R : Nat → Prop) (f : Nat → Option Nat) (B2 : Nat → Prop) (A : Nat → Prop) (H : Hp) (μ : Mu) (A2 : Nat → Prop) (H2 : Hp) (μ2 : Mu) : Prop where
 clos : ∀ id, R id → ∀ j ∈ refsB (H id), R j
 tot : ∀ id, R id → ∃ j, f id = some j
 inj : ∀ id id' j, R id → R id' → f id = some j → f id' = some j → id = id'
 goes : ∀ id j, R id → f id = some j → H2 j = renBlk f (H id) ∧ μ2 j = μ id ∧ (A id → A2 j)
 from_ : ∀ j, H2 j ≠ .gone → ∃ id, R id ∧ f id = some j
 place : ∀ id β bs top, R id → H id ≠ .gone → μ id = some (β, bs, top) → ¬ B2 β

theorem Carry.leaf (hc : Carry R f B2 A H μ A2 H2 μ2) {d : D} {v : Value} (h : Leaf A H μ d v) (hr : ∀ id ∈ refs d, R id) : VR M (Leaf A2 H2 μ2) (ren f d) v := by
 cases d <;> simp only [Leaf] at h
 case own id off len =>
   have hid := hr id (by simp [refs])
   obtain ⟨j, hj⟩ := hc.tot id hid
   obtain ⟨h2, hm, ha⟩ := hc.goes id j hid hj
   simp only [ren, hj]
   refine .leaf ?_
   simp only [Leaf, h2, hm]
   refine ⟨⟨ha h.1.1, h.1.2⟩, ?_⟩
   have h3 := h.2
   cases hh : H id <;> simp only [hh, renBlk] at h3 ⊢
   rename_i sz pl es
   cases pl <;> simpa [renBlk, zAX] using h3
 case ptr id off =>
   have hid := hr id (by simp [refs])
   obtain ⟨j, hj⟩ := hc.tot id hid
   obtain ⟨h2, hm, ha⟩ := hc.goes id j hid hj
   simp only [ren, hj]
   refine .leaf ?_
   simp only [Leaf, h2, hm]
   refine ⟨⟨ha h.1.1, h.1.2⟩, ?_⟩
   have h3 := h.2
   cases hh : H id <;> simp only [hh, renBlk] at h3 ⊢
   · rw [zAX]; exact h3
   · rename_i sz pl es
     cases pl <;> simp [renBlk]
 case rowp id ix off =>
   have hid := hr id (by simp [refs])
   obtain ⟨j, hj⟩ := hc.tot id hid
   obtain ⟨h2, hm, ha⟩ := hc.goes id j hid hj
   simp only [ren, hj]
   refine .leaf ?_
   simp only [Leaf, h2, hm]
   refine ⟨⟨ha h.1.1, h.1.2⟩, ?_⟩
   have h3 := h.2
   cases hh : H id <;> simp only [hh, renBlk] at h3 ⊢
   rename_i sz pl es
   cases pl <;> simpa [renBlk, zAX] using h3
 case map id =>
   have hid := hr id (by simp [refs])
   obtain ⟨j, hj⟩ := hc.tot id hid
   obtain ⟨h2, hm, ha⟩ := hc.goes id j hid hj
   simp only [ren, hj]
   refine .leaf ?_
   simp only [Leaf, h2, hm]
   refine ⟨⟨ha h.1.1, h.1.2⟩, ?_⟩
   have h3 := h.2
   cases hh : H id <;> simp only [hh, renBlk] at h3 ⊢
   · rename_i sz pl es
     cases pl <;> simp [renBlk]
   · exact h3
theorem Carry.vr (hc : Carry R f B2 A H μ A2 H2 μ2) {d : D} {v : Value} (h : VR M (Leaf A H μ) d v) (hr : ∀ id ∈ refs d, R id) : VR M (Leaf A2 H2 μ2) (ren f d) v :=
 h.ren_on (R := R) (fun d v h hr => hc.leaf h hr) hr

theorem zC1 {f : Nat → Option Nat} {b : Blk} (h : renBlk f b ≠ .gone) : b ≠ .gone := fun e => h (by rw [e]; rfl)

theorem Carry.rel (hc : Carry R f B2 A H μ A2 H2 μ2) (hR : Rel B M A H μ w) : Rel B2 M A2 H2 μ2 w := by
 refine ⟨hR.mem, fun j hj => ?_, fun j β bs top hj hm => ?_, fun i j β bs top bs' top' hi hj hmi hmj => ?_, fun j β bs top hj hm => ?_, fun j => ?_⟩
 · obtain ⟨id, hid, hf⟩ := hc.from_ j hj
   obtain ⟨h2, _, ha⟩ := hc.goes id j hid hf
   exact ha (hR.given id (zC1 (h2 ▸ hj)))
 · obtain ⟨id, hid, hf⟩ := hc.from_ j hj
   obtain ⟨h2, h3, _⟩ := hc.goes id j hid hf
   exact hc.place id β bs top hid (zC1 (h2 ▸ hj)) (h3 ▸ hm)
 · obtain ⟨p, hp, hfp⟩ := hc.from_ i hi
   obtain ⟨q, hq, hfq⟩ := hc.from_ j hj
   obtain ⟨p2, p3, _⟩ := hc.goes p i hp hfp
   obtain ⟨q2, q3, _⟩ := hc.goes q j hq hfq
   have := hR.apart p q β bs top bs' top' (zC1 (p2 ▸ hi)) (zC1 (q2 ▸ hj)) (p3 ▸ hmi) (q3 ▸ hmj)
   subst this
   rw [hfp] at hfq; simpa using hfq
 · obtain ⟨id, hid, hf⟩ := hc.from_ j hj
   obtain ⟨h2, h3, _⟩ := hc.goes id j hid hf
   exact hR.alone id β bs top (zC1 (h2 ▸ hj)) (h3 ▸ hm)
 · by_cases hj : H2 j = .gone
   · rw [hj]; trivial
   · obtain ⟨id, hid, hf⟩ := hc.from_ j hj
     obtain ⟨h2, h3, _⟩ := hc.goes id j hid hf
     have hb := hR.blk id
     have hcl := hc.clos id hid
     rw [h2, h3]
     cases hh : H id with
     | gone => trivial
     | box cs =>
       rw [hh] at hb hcl
       obtain ⟨β, e, hlt, hfz, hcs⟩ := hb
       refine ⟨β, e, hlt, fun k hk => hfz k (by rw [zAX] at hk; exact hk), fun k d hd => ?_⟩
       obtain ⟨c, hcc, rfl⟩ := zBw f cs k d hd
       obtain ⟨u, q1, q2, q3⟩ := hcs k c hcc
       exact ⟨u, q1, q2, hc.vr q3 (fun i hi => hcl i (by simp only [refsB]; exact zBH hcc hi))⟩
     | mp es =>
       rw [hh] at hb
       exact hb
     | row sz pl es =>
       rw [hh] at hb hcl
       obtain ⟨h0, hz, hr⟩ := hb
       cases pl with
       | true =>
         refine ⟨h0, hz, ?_⟩
         rcases hr with hr | ⟨β, bs, top, e1, hlt, ht, ho, hcs⟩
         · exact .inl hr
         · refine .inr ⟨β, bs, top, e1, hlt, ht, ho, fun k d hd => ?_⟩
           obtain ⟨u, q1, q2, q3, q4⟩ := hcs k d hd
           exact ⟨u, q1, q2, .imm (q4 rfl), q4⟩
       | false =>
         refine ⟨h0, fun e he => ?_, ?_⟩
         · obtain ⟨k, hk⟩ := tAT.1 he
           obtain ⟨c, hcc, rfl⟩ := zBw f es k e hk
           rw [zL2, tAI]; exact hz c (tAB hcc)
         rcases hr with ⟨rfl, hr⟩ | ⟨β, bs, top, e1, hlt, ht, ho, hcs⟩
         · exact .inl ⟨rfl, hr⟩
         · refine .inr ⟨β, bs, top, e1, hlt, by rw [zAX]; exact ht, ho, fun k d hd => ?_⟩
           rw [zY9, tAE, tAe] at hd
           obtain ⟨c, hcc, rfl⟩ := hd
           obtain ⟨u, q1, q2, q3, q4⟩ := hcs k c hcc
           refine ⟨u, q1, q2, hc.vr q3 (fun i hi => hcl i ?_), fun h => by cases h⟩
           obtain ⟨i0, j0, e, _, _, he, hec⟩ := zDu h0 hz hcc
           simp only [refsB]
           exact zBH he (zI5 (tAB hec) hi)

theorem zI0 {v : Value} {Hm : Hp} {μm μ1 : Mu} {Am A1 : Nat → Prop} {V : Nat → Bool} {H1 : Hp} (hR : Rel B M A H μ w) (hB : ∀ k, B k → k < w.heap.size)
   (hp : Post B2 M Am Hm μm w d H1 A1 v w' M' μ1) (hBB : ∀ k, B k → B2 k) (hB2 : ∀ id β bs top, V id = false → H id ≠ .gone → μ id = some (β, bs, top) → B2 β)
   (hA1 : ∀ id, A1 id → V id = true ∧ A2 id) (hN : ∀ id, A id → V id = true → (∀ d v, (refs d = [id]) → Leaf A H μ d v → Leaf Am Hm μm d v)) (hAA : ∀ id, A id → A2 id) :
   ∃ μ'', Post B M A H μ w d (fun id => if V id then H1 id else H id) A2 v w' M' μ'' := by
 refine ⟨fun id => if V id then μ1 id else μ id, ?_⟩
 have hk1 : ∀ d v, Leaf A1 H1 μ1 d v → Leaf A2 (fun id => if V id then H1 id else H id) (fun id => if V id then μ1 id else μ id) d v := by
   intro d v h
   have hV : ∀ id, A1 id → V id = true := fun id h => (hA1 id h).1
   exact h.mono (fun id h => (hA1 id h).2) (fun id hid => by
     simp only [hV id hid, if_true, true_and]
     cases hh : H1 id <;> simp)
 have hk : ∀ d v, Leaf A H μ d v → Leaf A2 (fun id => if V id then H1 id else H id) (fun id => if V id then μ1 id else μ id) d v := by
   intro d v h
   have hone : ∀ id, refs d = [id] → A id → Leaf A2 (fun id => if V id then H1 id else H id) (fun id => if V id then μ1 id else μ id) d v := fun id hid ha => by
     by_cases hv : V id = true
     · exact hk1 d v (hp.keep d v (hN id ha hv d v hid h))
     · cases d <;> simp only [refs, tAv, and_true] at hid <;> first | (subst hid; simp only [Leaf, hv, if_false, tAf] at h ⊢; exact ⟨⟨hAA _ h.1.1, h.1.2⟩, h.2⟩) | exact absurd h (by simp [Leaf])
   cases d <;> first | exact hone _ rfl h.1.1 | exact h.elim
 refine ⟨hp.mle, ⟨hp.rel.mem, fun id h => ?_, fun id β bs top h hm => ?_, fun i j β b1 t1 b2 t2 h h' hm hm' => ?_, fun id β bs top h hm a v hM => ?_, fun id => ?_⟩, hp.val.mono (MLe.refl _) hk1, hk, hp.below.mono hBB, hp.new⟩
 · by_cases hv : V id = true
   · simp only [hv, if_true] at h; exact (hA1 id (hp.rel.given id h)).2
   · simp only [hv, if_false, tAf] at h; exact hAA id (hR.given id h)
 · by_cases hv : V id = true
   · simp only [hv, if_true] at h hm; exact fun hb => hp.rel.place id β bs top h hm (hBB _ hb)
   · simp only [hv, if_false, tAf] at h hm; exact hR.place id β bs top h hm
 · by_cases hi : V i = true <;> by_cases hj : V j = true
   · simp only [hi, hj, if_true] at h h' hm hm'; exact hp.rel.apart i j β b1 t1 b2 t2 h h' hm hm'
   · simp only [hi, hj, if_true, if_false, tAf] at h h' hm hm'
     exact absurd (hB2 j β b2 t2 (by simpa using hj) h' hm') (hp.rel.place i β b1 t1 h hm)
   · simp only [hi, hj, if_true, if_false, tAf] at h h' hm hm'
     exact absurd (hB2 i β b1 t1 (by simpa using hi) h hm) (hp.rel.place j β b2 t2 h' hm')
   · simp only [hi, hj, if_false, tAf] at h h' hm hm'; exact hR.apart i j β b1 t1 b2 t2 h h' hm hm'
 · by_cases hv : V id = true
   · simp only [hv, if_true] at h hm; exact hp.rel.alone id β bs top h hm a v hM
   · simp only [hv, if_false, tAf] at h hm
     rcases hp.new a v hM with h1 | h1
     · exact hR.alone id β bs top h hm a v h1
     · have := hR.lt h hm; omega
 · by_cases hv : V id = true
   · simp only [hv, if_true]
     exact (hp.rel.blk id).mono (MLe.refl _) hk1 (tAl _) (fun _ _ _ _ => rfl)
   · simp only [hv, if_false, tAf]
     by_cases hg : H id = .gone
     · rw [hg]; trivial
     · exact (hR.blk id).mono hp.mle hk hp.below.size (fun β bs top hm => hp.below.block β (hB2 id β bs top (by simpa using hv) hg hm))

end
section
variable {P : Program} {cx : Cx} {env : Nat → D} {o : Oper} {a : Act} {B : Nat → Prop} {M : Mem} {A A' : Nat → Prop} {H H' : Hp} {μ : Mu} {w : World} {d : D} {nid nx' : Nat}

theorem zXP (T : TypeId) (v : Value) : (Instr.box T v).run P w = .ok (.pointer (some ⟨w.heap.size, 0, none⟩)) (w.alloc (.cells v.cells T)) := by
 simp [Instr.box, newVar, newRow]

theorem zLi {ps : Array (Nat × Operand)} {ρ : Operand → D} {σ : Operand → Value} {L : D → Value → Prop} (h : ∀ x, VR M L (ρ x) (σ x)) :
   (ps.toList.map fun p => (p.1, ρ p.2)).map (·.1) = (ps.map fun p => (p.1, σ p.2)).toList.map (·.1) ∧
   ∀ (j : Nat) (p : Nat × D) (q : Nat × Value), (ps.toList.map fun p => (p.1, ρ p.2))[j]? = some p → (ps.map fun p => (p.1, σ p.2)).toList[j]? = some q → VR M L p.2 q.2 := by
 refine ⟨by simp, fun j p q hp hq => ?_⟩
 simp only [tAE, tAe, Array.toList_map] at hp hq
 obtain ⟨x, hx, rfl⟩ := hp
 obtain ⟨y, hy, rfl⟩ := hq
 rw [hx] at hy; simp only [tAb] at hy; subst hy
 exact h _

theorem zHo {xs : Array Operand} {ρ : Operand → D} {σ : Operand → Value} {L : D → Value → Prop} (h : ∀ x, VR M L (ρ x) (σ x)) :
   (xs.map σ).toList.length = (xs.toList.map ρ).length ∧ ∀ (k : Nat) (d : D), (xs.toList.map ρ)[k]? = some d → ∃ v, (xs.map σ).toList[k]? = some v ∧ VR M L d v := by
 refine ⟨by simp, fun k d hd => ?_⟩
 simp only [tAE, tAe, Array.toList_map] at hd ⊢
 obtain ⟨x, hx, rfl⟩ := hd
 exact ⟨_, ⟨x, hx, rfl⟩, h x⟩

def GoesOK (P : Program) (s : Sem Next) (w : World) (R : Value → World → Prop) : Prop :=
 (∃ v w', s.run P w = .ok (.value v) w' ∧ R v w') ∨ (∃ g args, s.run P w = .ok (.enter g args) w ∧ Calls P g args w fun e w' => ∃ v, e = .returned v ∧ R v w')

theorem GoesOK.op {R : Value → World → Prop} {s : Sem Next} (hs : (execOp a.eval o).run P w = s.run P w) (h : GoesOK P s w R) (hR : ∀ v w', R v w' → ∃ M' μ', Post B M A H μ w d H' A' v w' M' μ') : OpOK P o a B M A H μ w d H' A' := by
 rcases h with ⟨v, w', hr, hq⟩ | ⟨g, args, hr, hc⟩
 · obtain ⟨M', μ', hp⟩ := hR v w' hq
   exact .value (hs.trans hr) hp
 · intro K Q hK
   unfold Oper.wp
   rw [hs, hr, Oper.upon_enter]
   refine hc.mono fun e w' he => ?_
   obtain ⟨v, rfl, hq⟩ := he
   obtain ⟨M', μ', hp⟩ := hR v w' hq
   exact hK v w' M' μ' hp

theorem VRi.refs {d : D} {v : Value} (h : VRi M d v) : Mir.refs d = [] := by
 have hL : ∀ (l : List D), (∀ (k : Nat) (d : D), l[k]? = some d → Mir.refs d = []) → zAp l = [] := by
   intro l
   induction l with
   | nil => intro _; rfl
   | cons x r ih => intro h; rw [zAp, h 0 x rfl, ih (fun k d hd => h (k + 1) d (by simpa using hd))]; rfl
 induction h with
 | agg cs vs hl us hu h1 hv ih => rw [Mir.refs]; exact hL cs ih
 | tup cs vs hl us hu hv ih => rw [Mir.refs]; exact hL cs ih
 | fn f first caps vf vc hf hc uf uc huf huc hvf hvc ihf ihc => rw [Mir.refs, hL first ihf, hL caps ihc]; rfl
 | _ => rfl
theorem Leaf.refs {d : D} {v : Value} (h : Leaf A H μ d v) : ∃ id, Mir.refs d = [id] ∧ A id := by
 cases d <;> first | exact ⟨_, rfl, h.1.1⟩ | exact h.elim
theorem VR.refs {d : D} {v : Value} (h : VR M (Leaf A H μ) d v) : ∀ id ∈ Mir.refs d, A id := by
 induction h with
 | imm h => rw [h.refs]; simp
 | leaf h => obtain ⟨id, e, ha⟩ := h.refs; rw [e]; simpa using ha
 | agg cs vs hl us hu h1 hv ih =>
   intro id hid
   obtain ⟨d, hd, h'⟩ := zB6 (by simpa only [Mir.refs] using hid)
   obtain ⟨k, hk⟩ := tAT.1 hd
   exact ih k d hk id h'
 | tup cs vs hl us hu hv ih =>
   intro id hid
   obtain ⟨d, hd, h'⟩ := zB6 (by simpa only [Mir.refs] using hid)
   obtain ⟨k, hk⟩ := tAT.1 hd
   exact ih k d hk id h'
 | fn f first caps vf vc hf hc uf uc huf huc hvf hvc ihf ihc =>
   intro id hid
   simp only [Mir.refs, tAz] at hid
   rcases hid with hid | hid
   · obtain ⟨d, hd, h'⟩ := zB6 hid
     obtain ⟨k, hk⟩ := tAT.1 hd
     exact ihf k d hk id h'
   · obtain ⟨d, hd, h'⟩ := zB6 hid
     obtain ⟨k, hk⟩ := tAT.1 hd
     exact ihc k d hk id h'
theorem zQ2 {e : D} {id : Nat} (h : id ∈ Mir.refs e) : ∃ c ∈ e.cells, id ∈ Mir.refs c := by
 cases e with
 | agg cs => exact zB6 (l := cs) (by simpa only [Mir.refs] using h)
 | _ => exact ⟨_, by simp [D.cells], h⟩
theorem Rel.refs (hR : Rel B M A H μ w) {id j : Nat} (h : j ∈ refsB (H id)) : A j := by
 have hb := hR.blk id
 cases hh : H id with
 | gone => rw [hh] at h; simp [refsB] at h
 | mp es => rw [hh] at h; simp [refsB] at h
 | box cs =>
   rw [hh] at h hb
   obtain ⟨β, _, _, _, hc⟩ := hb
   obtain ⟨d, hd, h'⟩ := zB6 (by simpa only [refsB] using h)
   obtain ⟨k, hk⟩ := tAT.1 hd
   obtain ⟨u, _, _, q⟩ := hc k d hk
   exact q.refs j h'
 | row sz pl es =>
   rw [hh] at h hb
   cases pl with
   | true => simp [refsB] at h
   | false =>
     obtain ⟨h0, hz, hr⟩ := hb
     obtain ⟨e, he, h'⟩ := zB6 (by simpa only [refsB] using h)
     obtain ⟨c, hc, h''⟩ := zQ2 h'
     rcases hr with ⟨rfl, _⟩ | ⟨β, bs, top, e1, hlt, ht, ho, hcs⟩
     · simp at he
     · have hm : c ∈ flat es := by simp only [flat, List.mem_flatMap]; exact ⟨e, he, hc⟩
       obtain ⟨k, hk⟩ := tAT.1 hm
       obtain ⟨u, _, _, q, _⟩ := hcs k c hk
       exact q.refs j h''

theorem zE8 (H : Hp) : ∀ (n : Nat) (todo acc : List Nat), acc.Nodup → (zAY H n todo acc).Nodup := by
 intro n
 induction n with
 | zero => intro todo acc h; exact h
 | succ n ih =>
   intro todo acc h
   cases todo with
   | nil => exact h
   | cons id r =>
     simp only [zAY]
     split
     · exact ih _ _ h
     · rename_i hc
       refine ih _ _ ?_
       rw [List.nodup_append]
       exact ⟨h, by simp, fun a ha b hb => by simp only [tAy] at hb; subst hb; intro e; subst e; exact hc (by simpa using ha)⟩
theorem zLe (H : Hp) (S : Nat → Prop) (hS : ∀ i, ∀ j ∈ refsB (H i), S j) : ∀ (n : Nat) (todo acc : List Nat), (∀ i ∈ todo, S i) → (∀ i ∈ acc, S i) → ∀ i ∈ zAY H n todo acc, S i := by
 intro n
 induction n with
 | zero => intro todo acc _ h; exact h
 | succ n ih =>
   intro todo acc ht h
   cases todo with
   | nil => exact h
   | cons id r =>
     simp only [zAY]
     split
     · exact ih _ _ (fun i hi => ht i (by simp [hi])) h
     · refine ih _ _ (fun i hi => ?_) (fun i hi => ?_)
       · rcases tAz.1 hi with hi | hi
         · exact hS _ i hi
         · exact ht i (by simp [hi])
       · rcases tAz.1 hi with hi | hi
         · exact h i hi
         · simp only [tAy] at hi; subst hi; exact ht _ (by simp)

theorem zBm {ids : List Nat} {id j : Nat} (h : ixOf ids id = some j) : ids[j]? = some id := by
 induction ids generalizing j with
 | nil => simp [ixOf] at h
 | cons a r ih =>
   simp only [ixOf] at h
   split at h
   · rename_i e; simp only [tAb] at h; subst h; subst e; rfl
   · simp only [tAe] at h
     obtain ⟨k, hk, rfl⟩ := h
     simpa using ih hk
theorem zEQ {ids : List Nat} {id : Nat} (h : id ∈ ids) : ∃ j, ixOf ids id = some j := by
 induction ids with
 | nil => simp at h
 | cons a r ih =>
   simp only [ixOf]
   by_cases e : a = id
   · exact ⟨0, by simp [e]⟩
   · obtain ⟨j, hj⟩ := ih (by simpa [Ne.symm e] using h)
     exact ⟨j + 1, by simp [e, hj]⟩
theorem zER {ids : List Nat} (hn : ids.Nodup) {id j : Nat} (h : ids[j]? = some id) : ixOf ids id = some j := by
 obtain ⟨i, hi⟩ := zEQ (tAB h)
 have := zBm hi
 have hlt : i < ids.length := (tAi.1 this).1
 rw [hi, (List.getElem?_inj hlt hn).1 (this.trans h.symm)]
theorem zUV {ids : List Nat} {id : Nat} (h : ixOf ids id = none) : id ∉ ids := fun hm => by
 obtain ⟨j, hj⟩ := zEQ hm; rw [h] at hj; cases hj

def isRef : D → Bool | .own .. | .ptr .. | .rowp .. | .map _ => true | _ => false
theorem Leaf.isRef {d : D} {v : Value} (h : Leaf A H μ d v) : Mir.isRef d = true := by cases d <;> first | rfl | exact h.elim
theorem zGZ {d : D} {v : Value} (h : VR M (Leaf A H μ) d v) (hd : isRef d = true) : Leaf A H μ d v := by
 cases d <;> simp only [isRef, tAf] at hd
 · exact zC4 h
 · exact zEA h
 · exact zDZ h
 · exact zHW h
theorem zH4 {f : Nat → Option Nat} {d : D} {id j : Nat} (hd : isRef d = true) (hr : refs d = [id]) (hf : f id = some j) : isRef (ren f d) = true ∧ refs (ren f d) = [j] := by
 cases d <;> simp only [isRef, tAf] at hd <;> simp only [refs, tAv, and_true] at hr <;> subst hr <;> simp [ren, hf, isRef, refs]
theorem zMX {f g : Nat → Option Nat} {d : D} {id j : Nat} (hd : isRef d = true) (hr : refs d = [id]) (hf : f id = some j) (hg : g j = some id) : ren g (ren f d) = d := by
 cases d <;> simp only [isRef, tAf] at hd <;> simp only [refs, tAv, and_true] at hr <;> subst hr <;> simp [ren, hf, hg]

def Others (B : Nat → Prop) (ids : List Nat) (H : Hp) (μ : Mu) : Nat → Prop := fun β => B β ∨ ∃ id bs top, id ∉ ids ∧ H id ≠ .gone ∧ μ id = some (β, bs, top)
theorem Others.lt (hR : Rel B M A H μ w) (hB : ∀ k, B k → k < w.heap.size) {ids : List Nat} : ∀ k, Others B ids H μ k → k < w.heap.size := fun k h => by
 rcases h with h | ⟨id, bs, top, _, hg, hm⟩
 · exact hB k h
 · exact hR.lt hg hm
theorem Others.place (hR : Rel B M A H μ w) {ids : List Nat} {id β bs top : Nat} (hid : id ∈ ids) (hg : H id ≠ .gone) (hm : μ id = some (β, bs, top)) : ¬ Others B ids H μ β := fun h => by
 rcases h with h | ⟨id', bs', top', hn, hg', hm'⟩
 · exact hR.place id β bs top hg hm h
 · exact hn ((hR.apart _ _ _ _ _ _ _ hg hg' hm hm') ▸ hid)

theorem zEU {ids : List Nat} (h : closed H ids = true) {id : Nat} (hid : id ∈ ids) : ∀ j ∈ refsB (H id), j ∈ ids := by
 simp only [closed, tAw] at h
 exact fun j hj => by simpa using h id hid j hj

theorem yEf {g : FuncId} {F : List D → List Blk → Option (D × List Blk)} {args : List D} {vs : List Value} (hF : EffOK P g F) (h : zCc F args H nid = some (d, H', nx')) (hR : Rel B M A H μ w) (hB : ∀ k, B k → k < w.heap.size)
   (hn : ∀ id, nid ≤ id → id < nx' → ¬ A id) (hl : vs.length = args.length) (hv : ∀ (k : Nat) (d : D), args[k]? = some d → ∃ v, vs[k]? = some v ∧ VR M (Leaf A H μ) d v) :
   nid ≤ nx' ∧ Calls P g vs.toArray w fun e w' => ∃ v, e = .returned v ∧ ∃ M' μ', Post B M A H μ w d H' (fun id => A id ∨ (nid ≤ id ∧ id < nx')) v w' M' μ' := by
 unfold zCc at h
 simp only [] at h
 generalize hids : zAY H 60 (zAp args) [] = ids at h
 split at h
 case isFalse => simp at h
 rename_i hcond
 simp only [tAd, tAw] at hcond
 obtain ⟨hcl, hroot⟩ := hcond
 have hcl := fun {id} => zEU hcl (id := id)
 rw [tAc] at h
 obtain ⟨⟨r, hs⟩, hFr, h⟩ := h
 simp only [] at h
 split at h
 case isFalse => simp at h
 rename_i hlen
 simp only [tAb, tAj] at h
 obtain ⟨rfl, rfl, rfl⟩ := h
 have hnd : ids.Nodup := by rw [← hids]; exact zE8 _ _ _ _ (by simp)
 have hargA : ∀ j ∈ zAp args, A j := fun j hj => by
   obtain ⟨d, hd, h'⟩ := zB6 hj
   obtain ⟨k, hk⟩ := tAT.1 hd
   obtain ⟨v, _, q⟩ := hv k d hk
   exact q.refs j h'
 have hidA : ∀ id ∈ ids, A id := by rw [← hids]; exact zLe H A (fun i j hj => hR.refs hj) _ _ _ hargA (by simp)
 refine ⟨by omega, ?_⟩
 have hget : ∀ j, ofHp (ids.map fun i => renBlk (ixOf ids) (H i)) j = ((ids[j]?).map fun i => renBlk (ixOf ids) (H i)).getD .gone := fun j => by rw [zD2, tAE]
 have c1 : Carry (· ∈ ids) (ixOf ids) (Others B ids H μ) A H μ (· < ids.length) (ofHp (ids.map fun i => renBlk (ixOf ids) (H i))) (fun j => (ids[j]?).bind μ) := by
   refine ⟨fun id hid => hcl hid, fun id hid => zEQ hid, fun id id' j _ _ h h' => ?_, fun id j hid hj => ?_, fun j hj => ?_, fun id β bs top hid hg hm => Others.place hR hid hg hm⟩
   · have := (zBm h).symm.trans (zBm h'); simpa using this
   · have := zBm hj
     refine ⟨by rw [hget, this]; rfl, by rw [this]; rfl, fun _ => (tAi.1 this).1⟩
   · rw [hget] at hj
     cases hh : ids[j]? with
     | none => rw [hh] at hj; simp at hj
     | some id => exact ⟨id, tAB hh, zER hnd hh⟩
 obtain ⟨hle, hcall⟩ := hF.2 _ _ r hs hFr
 have hlm : (ids.map fun i => renBlk (ixOf ids) (H i)).length = ids.length := tAI _
 rw [hlm] at hle hcall
 refine (hcall (Others B ids H μ) M _ w vs (c1.rel hR) (Others.lt hR hB) (by rw [zAX]; exact hl) (fun k d hd => ?_)).mono fun e w' he => ?_
 · obtain ⟨e, he, rfl⟩ := zBw _ args k d hd
   obtain ⟨v, h1, h2⟩ := hv k e he
   exact ⟨v, h1, c1.vr h2 (fun id hid => by simpa using hroot id (zBH he hid))⟩
 obtain ⟨v, M', μ1, rfl, hp⟩ := he
 refine ⟨v, rfl, M', ?_⟩
 have c2 : Carry (· < hs.length) (zEY ids nid) (Others B ids H μ) (· < hs.length) (ofHp hs) μ1 (fun id => id ∈ ids ∨ (nid ≤ id ∧ id < nid + (hs.length - ids.length)))
     (fun id => if ids.contains id || (decide (nid ≤ id) && decide (id < nid + (hs.length - ids.length))) then zFh ids nid hs H id else .gone)
     (fun id => match ixOf ids id with | some j => μ1 j | none => μ1 (ids.length + (id - nid))) := by
   have hnew : ∀ id, id ∈ ids → ¬ (nid ≤ id ∧ id < nid + (hs.length - ids.length)) := fun id hid h => hn id h.1 h.2 (hidA id hid)
   have hb : ∀ j, j < hs.length → ∃ id, zEY ids nid j = some id ∧ ((ixOf ids id = some j ∧ id ∈ ids) ∨ (ixOf ids id = none ∧ nid ≤ id ∧ id < nid + (hs.length - ids.length) ∧ j = ids.length + (id - nid))) := by
     intro j hj
     unfold zEY
     by_cases hjk : j < ids.length
     · rw [if_pos hjk]
       exact ⟨ids[j], tAn hjk, .inl ⟨zER hnd (tAn hjk), tBH hjk⟩⟩
     · rw [if_neg hjk]
       refine ⟨_, rfl, .inr ⟨?_, by omega, by omega, by omega⟩⟩
       cases hix : ixOf ids (nid + (j - ids.length)) with
       | none => rfl
       | some i => exact absurd ⟨by omega, by omega⟩ (hnew _ (tAB (zBm hix)))
   refine ⟨fun id _ j hj => hp.rel.refs hj, fun id hid => by obtain ⟨j, hj, _⟩ := hb id hid; exact ⟨j, hj⟩, fun i i' j hi hi' h h' => ?_, fun i j hi hj => ?_, fun j hj => ?_, fun id β bs top _ hg hm => hp.rel.place id β bs top hg hm⟩
   · obtain ⟨x, hx, hx'⟩ := hb i hi
     obtain ⟨y, hy, hy'⟩ := hb i' hi'
     rw [h] at hx; rw [h'] at hy
     simp only [tAb] at hx hy
     subst hx; subst hy
     rcases hx' with ⟨q1, _⟩ | ⟨q1, q2, q3, q4⟩ <;> rcases hy' with ⟨p1, _⟩ | ⟨p1, p2, p3, p4⟩
     · rw [q1] at p1; simpa using p1
     · rw [q1] at p1; cases p1
     · rw [q1] at p1; cases p1
     · omega
   · obtain ⟨x, hx, hx'⟩ := hb i hi
     rw [hj] at hx
     simp only [tAb] at hx
     subst hx
     rcases hx' with ⟨q1, q2⟩ | ⟨q1, q2, q3, q4⟩
     · simp only [q1, zFh, tA5, q2, decide_true, Bool.true_or, if_true, true_and]
       exact fun _ => .inl trivial
     · simp only [q1, zFh, q2, q3, decide_true, tBp, Bool.or_true, if_true, and_self, ← q4, true_and]
       exact fun _ => .inr trivial
   · by_cases hc : (ids.contains j || (decide (nid ≤ j) && decide (j < nid + (hs.length - ids.length)))) = true
     · simp only [hc, if_true] at hj
       cases hix : ixOf ids j with
       | some i =>
         have hi := zBm hix
         have hil := (tAi.1 hi).1
         exact ⟨i, by omega, by unfold zEY; rw [if_pos hil]; exact hi⟩
       | none =>
         have hnm := zUV hix
         simp only [hnm, tA5, decide_false, tBg, tAd, decide_eq_true_eq] at hc
         exact ⟨ids.length + (j - nid), by omega, by unfold zEY; rw [if_neg (by omega)]; congr 1; omega⟩
     · simp only [hc, if_false, tAf] at hj; exact absurd rfl hj
 have hAm : ∀ d v, Leaf (fun id => A id ∧ id ∈ ids) (zBv ids H) μ d v → Leaf A H μ d v ∧ ∃ id, refs d = [id] ∧ id ∈ ids := fun d v h => by
   obtain ⟨id, hr, ha⟩ := h.refs
   refine ⟨?_, id, hr, ha.2⟩
   have hre : zBv ids H id = H id := by simp [zBv, ha.2]
   cases d <;> first | exact h.elim | (simp only [refs, tAv, and_true] at hr; subst hr; simp only [Leaf, hre] at h ⊢; exact ⟨⟨h.1.1.1, h.1.2⟩, h.2⟩)
 have hp2 : Post (Others B ids H μ) M (fun id => A id ∧ id ∈ ids) (zBv ids H) μ w (ren (zEY ids nid) r)
     (fun id => if ids.contains id || (decide (nid ≤ id) && decide (id < nid + (hs.length - ids.length))) then zFh ids nid hs H id else .gone) (fun id => id ∈ ids ∨ (nid ≤ id ∧ id < nid + (hs.length - ids.length))) v w' M'
     (fun id => match ixOf ids id with | some j => μ1 j | none => μ1 (ids.length + (id - nid))) := by
   refine ⟨hp.mle, c2.rel hp.rel, c2.vr hp.val (fun id hid => hp.val.refs id hid), fun d v hl => ?_, hp.below, hp.new⟩
   obtain ⟨h1, id, hr, hid⟩ := hAm d v hl
   obtain ⟨j, hj⟩ := zEQ hid
   have hjl : j < ids.length := (tAi.1 (zBm hj)).1
   have hd := h1.isRef
   obtain ⟨i1, i2⟩ := zH4 hd hr hj
   have h2 := zGZ (c1.vr (.leaf h1) (by rw [hr]; simpa using hid) : VR M _ _ _) i1
   have h3 := hp.keep _ _ h2
   have hbk : zEY ids nid j = some id := by unfold zEY; rw [if_pos hjl]; exact zBm hj
   have h4 : VR M' _ _ _ := c2.vr (.leaf h3) (by rw [i2]; intro x hx; simp only [tAy] at hx; subst hx; omega)
   rw [zMX hd hr hj hbk] at h4
   exact zGZ h4 hd
 have f1 : ∀ id β bs top, (ids.contains id || (decide (nid ≤ id) && decide (id < nid + (hs.length - ids.length)))) = false → H id ≠ .gone → μ id = some (β, bs, top) → Others B ids H μ β := fun id β bs top hv hg hm => by
   refine .inr ⟨id, bs, top, ?_, hg, hm⟩
   simp only [Bool.or_eq_false_iff, tA5, decide_eq_false_iff_not] at hv; exact hv.1
 have f2 : ∀ id, (id ∈ ids ∨ (nid ≤ id ∧ id < nid + (hs.length - ids.length))) → (ids.contains id || (decide (nid ≤ id) && decide (id < nid + (hs.length - ids.length)))) = true ∧ (A id ∨ (nid ≤ id ∧ id < nid + (hs.length - ids.length))) := fun id hid => by
   rcases hid with hid | hid
   · exact ⟨by simp [hid], .inl (hidA id hid)⟩
   · exact ⟨by simp [hid.1, hid.2], .inr hid⟩
 have f3 : ∀ id, A id → (ids.contains id || (decide (nid ≤ id) && decide (id < nid + (hs.length - ids.length)))) = true → (∀ d v, (refs d = [id]) → Leaf A H μ d v → Leaf (fun id => A id ∧ id ∈ ids) (zBv ids H) μ d v) := fun id ha hv d v hr hl => by
   have hid : id ∈ ids := by
     simp only [tAK, tAd, decide_eq_true_eq, tA5] at hv
     rcases hv with hv | hv
     · exact hv
     · exact absurd ha (hn id hv.1 hv.2)
   have hre : zBv ids H id = H id := by simp [zBv, hid]
   cases d <;> first | exact hl.elim | (simp only [refs, tAv, and_true] at hr; subst hr; simp only [Leaf, hre] at hl ⊢; exact ⟨⟨⟨hl.1.1, hid⟩, hl.1.2⟩, hl.2⟩)
 obtain ⟨μ'', h⟩ := zI0 (A2 := fun id => A id ∨ (nid ≤ id ∧ id < nid + (hs.length - ids.length))) (V := fun id => ids.contains id || (decide (nid ≤ id) && decide (id < nid + (hs.length - ids.length)))) hR hB hp2 (fun k hk => .inl hk) f1 f2 f3 (fun id h => .inl h)
 refine ⟨μ'', ?_⟩
 have e : (fun id => if (ids.contains id || (decide (nid ≤ id) && decide (id < nid + (hs.length - ids.length)))) = true then if (ids.contains id || (decide (nid ≤ id) && decide (id < nid + (hs.length - ids.length)))) = true then zFh ids nid hs H id else .gone else H id) = zFh ids nid hs H := by
   funext id
   by_cases hc : (ids.contains id || (decide (nid ≤ id) && decide (id < nid + (hs.length - ids.length)))) = true
   · simp only [hc, if_true]
   · simp only [hc, if_false, tAf]
     simp only [tAK, tAd, decide_eq_true_eq, not_or, tA5] at hc
     unfold zFh
     cases hix : ixOf ids id with
     | some j => exact absurd (tAB (zBm hix)) hc.1
     | none => simp only [hc.2, if_false]
 rw [e] at h
 exact h

theorem zFg : ∀ (n : Nat) (d : D), immD d = true → bor H n d = some d := by
 intro n
 have hm : ∀ (f : D → Option D) (l : List D), (∀ d, immD d = true → f d = some d) → immL l = true → l.mapM f = some l := by
   intro f l hf
   induction l with
   | nil => intro _; rfl
   | cons x r ih => intro h; simp only [immL, tAd] at h; rw [tA8, hf x h.1, ih h.2]; rfl
 induction n with
 | zero => intro d h; simp [bor, h]
 | succ n ih =>
   intro d h
   cases d <;> simp only [bor, immD, tAf] at h ⊢ <;> try (simp; done)
   case agg cs => rw [hm _ _ ih h]; rfl
   case tup cs => rw [hm _ _ ih h]; rfl
   case fn f p q =>
     simp only [tAd] at h
     rw [hm _ _ ih h.1, hm _ _ ih h.2]; rfl

theorem yFr {g : FuncId} {args : List D} {vs : List Value} (hcx : CxOK cx) (h : zBI cx g args H nid = some (d, H', nx')) (hR : Rel B M A H μ w) (hB : ∀ k, B k → k < w.heap.size)
   (hn : ∀ id, nid ≤ id → id < nx' → ¬ A id) (hl : vs.length = args.length) (hv : ∀ (k : Nat) (d : D), args[k]? = some d → ∃ v, vs[k]? = some v ∧ VR M (Leaf A H μ) d v) :
   nid ≤ nx' ∧ GoesOK cx.P (callFunc g vs.toArray) w fun v w' => ∃ M' μ', Post B M A H μ w d H' (fun id => A id ∨ (nid ≤ id ∧ id < nx')) v w' M' μ' := by
 have hbor : ∀ {asx : List D}, args.mapM (bor H 3) = some asx → vs.length = asx.length ∧ ∀ (k : Nat) (d : D), asx[k]? = some d → ∃ v, vs[k]? = some v ∧ VRi (World.mem w) d v := fun {asx} has => by
   obtain ⟨g1, g2⟩ := zBy has
   refine ⟨by omega, fun k d hd => ?_⟩
   obtain ⟨x, hx, hxd⟩ := g2 k d hd
   obtain ⟨v, hv1, hv2⟩ := hv k x hx
   exact ⟨v, hv1, yI7 hR _ _ _ _ hxd hv2⟩
 unfold zBI at h
 cases ho : cx.orc g with
 | some F =>
   simp only [ho, tAc] at h
   obtain ⟨asx, has, r, hr, h⟩ := h
   split at h
   · simp at h
   · rename_i hal
     simp only [tAb, tAj] at h
     obtain ⟨rfl, rfl, rfl⟩ := h
     obtain ⟨hent, hF⟩ := hcx.orc g F ho
     obtain ⟨hrows, hF⟩ := hF asx r hr
     obtain ⟨hlen, hag⟩ := hbor has
     refine ⟨by omega, .inr ⟨g, vs.toArray, zHO hent, ?_⟩⟩
     by_cases hal' : r.al = true
     · have himm : immL args = true := by simpa [hal'] using hal
       have := hF M w vs hR.mem (by obtain ⟨g1, _⟩ := zBy has; omega) (fun k d hd => by
         obtain ⟨g1, g2⟩ := zBy has
         obtain ⟨x, hx, hxd⟩ := g2 k d hd
         obtain ⟨v, hv1, hv2⟩ := hv k x hx
         have hix : immD x = true := zG8 himm hx
         refine ⟨v, hv1, ?_⟩
         rw [zFg 3 x hix] at hxd
         simp only [tAb] at hxd
         subst hxd
         exact zIY hv2 hix)
       refine this.mono fun e w' he => ?_
       obtain ⟨v, Mr, μr, rfl, h1, h2, h3, h4, h5⟩ := he
       refine ⟨v, rfl, ?_⟩
       exact zLh hR hB hn hrows (fun id h => .inl h) (fun id h1 h2 => .inr ⟨h1, h2⟩) h1 (Mc := M) (fun _ => rfl) h3 h4 h5
     · have := hF (World.mem w) w vs (fun _ _ h => h) hlen hag
       refine this.mono fun e w' he => ?_
       obtain ⟨v, Mr, μr, rfl, h1, h2, h3, h4, h5⟩ := he
       refine ⟨v, rfl, ?_⟩
       exact zLh hR hB hn hrows (fun id h => .inl h) (fun id h1 h2 => .inr ⟨h1, h2⟩) h1 (Mc := World.mem w) (fun h => absurd h hal') h3 h4 h5
 | none =>
   cases he : cx.ext g with
   | some F =>
     simp only [ho, he, tAc, tAe, tAj] at h
     obtain ⟨asx, has, x, hx, rfl, rfl, rfl⟩ := h
     obtain ⟨hlen, hag⟩ := hbor has
     obtain ⟨v, hr, hv⟩ := hcx.ext g F he asx x hx (World.mem w) w vs (fun _ _ h => h) hlen hag
     exact ⟨tAl _, .inl ⟨v, w, hr, M, μ, .same hR (fun id h => .inl h) (.imm (hv M))⟩⟩
   | none =>
     simp only [ho, he, tAc] at h
     obtain ⟨F, hF, h⟩ := h
     obtain ⟨q1, q2⟩ := yEf (hcx.eff g F hF) h hR hB hn hl hv
     exact ⟨q1, .inr ⟨g, vs.toArray, zHO (hcx.eff g F hF).1, q2⟩⟩

end
section
variable {P : Program} {cx : Cx} {env : Nat → D} {o : Oper} {a : Act} {B : Nat → Prop} {M : Mem} {A A' : Nat → Prop} {H H' : Hp} {μ : Mu} {w : World} {d : D} {nid nx' : Nat}

theorem zCo {s : Sem Value} {v : Value} {w' : World} (h : s.run P w = .ok v w') : (do pure (Next.value (← s)) : Sem Next).run P w = .ok (.value v) w' := by
 rw [Sem.run_bind, h]; rfl
theorem zHN {s : Sem Unit} {w' : World} (h : s.run P w = .ok () w') : (do s; pure Next.skip : Sem Next).run P w = .ok .skip w' := by
 rw [Sem.run_bind, h]; rfl

theorem zC6 {s : Sem Value} {v : Value} (hx : execOp a.eval o = (do pure (Next.value (← s)) : Sem Next)) (hr : s.run P w = .ok v w) (hR : Rel B M A H μ w) (hA : ∀ id, A id → A' id) (hv : VR M (Leaf A H μ) d v) : OpOK P o a B M A H μ w d H A' :=
 OpOK.pure (by rw [hx]; exact zCo hr) hR hA hv

theorem zYt {t : TypeId} {l c : D} (h : zDe P t H nid l c = some (d, H', nx')) : nx' = nid + 1 := by
 unfold zDe at h
 simp only [tAc] at h
 obtain ⟨e, _, inf, _, z, _, h⟩ := h
 split at h
 · split at h
   · simp only [tAb, tAj] at h; exact h.2.2.symm
   · simp at h
 · simp at h
theorem zRS {t : TypeId} {s x : D} (h : zBY P t H nid s x = some (d, H', nx')) : nx' = nid + 1 := by
 unfold zBY at h
 simp only [tAc] at h
 obtain ⟨e, _, inf, _, ⟨px, ys⟩, _, z, _, h⟩ := h
 simp only [] at h
 split at h
 · simp at h
 · split at h
   · split at h
     · simp only [tAb, tAj] at h; exact h.2.2.symm
     · simp at h
   · split at h
     · simp only [tAb, tAj] at h; exact h.2.2.symm
     · simp at h
   · split at h
     · split at h
       · simp only [tAb, tAj] at h; exact h.2.2.symm
       · simp at h
     · simp at h
   · simp at h

theorem zGn {x : Option Operand} {L : D → Value → Prop} {ρ : Operand → D} {σ : Operand → Value} (h : ∀ x, VR M L (ρ x) (σ x)) :
   (∀ d, x.map ρ = some d → ∃ v, x.map σ = some v ∧ VR M L d v) ∧ (x.map ρ = none → x.map σ = none) := by
 cases x with
 | none => simp
 | some y => simp only [tAF, tAb]; exact ⟨fun d hd => ⟨_, rfl, hd ▸ h y⟩, fun h => by cases h⟩

theorem zO2 (hcx : CxOK cx) (h : opD cx env o H nid = some (d, H', nx')) (hR : Rel B M A H μ w) (hE : EnvR M (Leaf A H μ) env a) (hB : ∀ k, B k → k < w.heap.size) (hn : ∀ id, nid ≤ id → id < nx' → ¬ A id) :
   nid ≤ nx' ∧ OpOK cx.P o a B M A H μ w d H' (fun id => A id ∨ (nid ≤ id ∧ id < nx')) := by
 have hev := fun x => yEL hE x
 have hAA : ∀ id, A id → (fun id => A id ∨ (nid ≤ id ∧ id < nx')) id := fun id h => .inl h
 have hsame : ∀ {α : Type} {f : α → D} {r : Option α}, r.map (fun d => (f d, H, nid)) = some (d, H', nx') → ∃ x, r = some x ∧ d = f x ∧ H' = H ∧ nx' = nid := fun h => by
   simp only [tAe, tAj] at h
   obtain ⟨x, hx, h1, h2, h3⟩ := h
   exact ⟨x, hx, h1.symm, h2.symm, h3.symm⟩
 unfold opD at h
 cases ho : o.op <;> simp only [ho] at h <;> try (cases h; done)
 case move x =>
   obtain ⟨y, hy, rfl, rfl, rfl⟩ := hsame (f := id) (r := some _) h
   simp only [tAb] at hy; subst hy
   exact ⟨tAl _, .pure (by simp [execOp, ho]) hR hAA (hev x)⟩
 case assign x =>
  split at h
  · rename_i hnc
    have hx : x = .const (.slice none 0 0) := by
      unfold nilC at hnc
      split at hnc
      · rfl
      · cases hnc
    subst hx
    simp only [zAr, tAc] at h
    obtain ⟨e, _, sz, _, h⟩ := h
    split at h
    · rename_i hsz
      simp only [tAb, tAj] at h
      obtain ⟨rfl, rfl, rfl⟩ := h
      have hf := Rel.fresh (nid := nid) (blk := .row sz true []) (loc := none) (A' := fun id => A id ∨ (nid ≤ id ∧ id < nid + 1)) hR (hn nid (tAl _) (by omega)) hB (fun id h => .inl h) (.inr ⟨tAl _, by omega⟩) (Blw.refl _ _) (fun _ _ _ h => by cases h)
        (fun _ => ⟨hsz, ⟨fun x hx => by simp at hx, Or.inl ⟨rfl, rfl⟩⟩⟩)
      refine ⟨by omega, .value (v := .slice none 0 0) (w' := w) (M' := M) (μ' := upd μ nid none) (by simp [execOp, ho, Act.eval]) ⟨MLe.refl M, hf.1, .leaf ?_, hf.2.1, hf.2.2, fun _ _ h => .inl h⟩⟩
      simp only [Leaf, upd_same]
      exact ⟨⟨.inr ⟨tAl _, by omega⟩, rfl⟩, by simp, none, 0, rfl, tAl _, .inl rfl⟩
    · cases h
  · obtain ⟨y, hy, rfl, rfl, rfl⟩ := hsame (f := id) (r := some _) h
    simp only [tAb] at hy; subst hy
    exact ⟨tAl _, .pure (by simp [execOp, ho]) hR hAA (hev x)⟩
 case pick c x y =>
   have hc := hev c
   cases hh : ev env c <;> simp only [hh, reduceCtorEq] at h
   rename_i t
   rw [hh] at hc
   have hc := zE2 hc
   simp only [tAb, tAj] at h
   obtain ⟨rfl, rfl, rfl⟩ := h
   refine ⟨tAl _, .pure (v := if t then a.eval x else a.eval y) (by simp [execOp, ho, hc, asBool]) hR hAA ?_⟩
   cases t
   · exact hev y
   · exact hev x
 case alloc t =>
   simp only [tAc, tAe, tAj] at h
   obtain ⟨z, hz, cs, hcs, rfl, rfl, rfl⟩ := h
   obtain ⟨v, hv, rfl⟩ := zKS (w := w) hz
   obtain ⟨c1, c2⟩ := cells_ok (.imm (zF9 (P := cx.P) M t v) : VR M (Leaf A H μ) _ _) hcs
   have hb := yBQ (nid := nid) (A' := fun id => A id ∨ (nid ≤ id ∧ id < nid + 1)) t hR (hn nid (tAl _) (by omega)) hB hAA (.inr ⟨tAl _, by omega⟩) c1 c2
   refine ⟨by omega, .value ?_ hb⟩
   simp [execOp, ho, Instr.alloc, hv, newVar, newRow]
 case box t x =>
   simp only [tAe, tAj] at h
   obtain ⟨cs, hcs, rfl, rfl, rfl⟩ := h
   obtain ⟨c1, c2⟩ := cells_ok (hev x) hcs
   have hb := yBQ (nid := nid) (A' := fun id => A id ∨ (nid ≤ id ∧ id < nid + 1)) t hR (hn nid (tAl _) (by omega)) hB hAA (.inr ⟨tAl _, by omega⟩) c1 c2
   refine ⟨by omega, .value ?_ hb⟩
   simp only [execOp, ho]
   exact zCo (zXP t _)
 case build t ps =>
   obtain ⟨y, hy, rfl, rfl, rfl⟩ := hsame (f := id) h
   obtain ⟨p1, p2⟩ := zLi (ps := ps) hev
   obtain ⟨v, hr, hv⟩ := zZD (P := cx.P) (w := w) p1 p2 hy
   exact ⟨tAl _, zC6 (by simp only [execOp, ho]) hr hR hAA hv⟩
 case buildSlice t n ps =>
   simp only [tAc] at h
   obtain ⟨e, he, sz, hsz, z, hz, h⟩ := h
   split at h
   · rename_i hc
     simp only [tAe, tAj] at h
     obtain ⟨es, hes, rfl, rfl, rfl⟩ := h
     obtain ⟨p1, p2⟩ := zLi (ps := ps) hev
     obtain ⟨r, w', μ', hr, hp⟩ := zKn (nid := nid) (A' := fun id => A id ∨ (nid ≤ id ∧ id < nid + 1)) hR (hn nid (tAl _) (by omega)) hB hAA (.inr ⟨tAl _, by omega⟩) he hsz hz hc.1 hc.2 p1 p2 hes
     refine ⟨by omega, .value ?_ hp⟩
     simp only [execOp, ho]
     exact zCo hr
   · cases h
 case load t x =>
   simp only [tAc] at h
   obtain ⟨cs, hcs, h⟩ := h
   obtain ⟨y, hy, rfl, rfl, rfl⟩ := hsame (f := id) h
   obtain ⟨ad, had, hca⟩ := zPN hR (hev x) hcs
   obtain ⟨v, hr, hv⟩ := yAK hca hy
   refine ⟨tAl _, zC6 (s := Instr.loadAt t (a.eval x)) (by simp only [execOp, ho]) (v := v) ?_ hR hAA hv⟩
   rw [had, Instr.loadAt]
   simp [Instr.sureAddr, hr]
 case store t x y =>
   simp only [tAc] at h
   obtain ⟨xs, hxs, h⟩ := h
   split at h
   · rename_i hsz
     simp only [tAe, tAj] at h
     obtain ⟨H1, hH, rfl, rfl, rfl⟩ := h
     obtain ⟨c1, c2⟩ := cells_ok (hev y) hxs
     obtain ⟨w', hr, hp⟩ := yCt hR hAA (hev x) c1 c2 hsz hH
     refine ⟨tAl _, .skip ?_ hp⟩
     simp only [execOp, ho]
     exact zHN hr
   · cases h
 case nilCheck x =>
   obtain ⟨y, hy, rfl, rfl, rfl⟩ := hsame (f := id) h
   obtain ⟨h1, h2⟩ := zM3 (P := cx.P) (w := w) rfl ho (hev x) hy
   exact ⟨tAl _, .pure h1 hR hAA h2⟩
 case binOp op t x y k =>
   obtain ⟨z, hz, rfl, rfl, rfl⟩ := hsame (f := id) h
   obtain ⟨r, h1, h2⟩ := yFv (w := w) x y (hev x) (hev y) hz
   exact ⟨tAl _, zC6 (by simp only [execOp, ho]) h1 hR hAA h2⟩
 case unOp op t x =>
   obtain ⟨z, hz, rfl, rfl, rfl⟩ := hsame (f := id) h
   obtain ⟨r, h1, h2⟩ := yGn (P := cx.P) (w := w) (hev x) hz
   exact ⟨tAl _, zC6 (by simp only [execOp, ho]) h1 hR hAA h2⟩
 case convert s t x =>
   have hx := hev x
   split at h
   · rename_i hs hd hxe
     have hx' := zCN (hxe ▸ hx)
     obtain ⟨y, hy, rfl, rfl, rfl⟩ := hsame (f := id) (r := some _) h
     simp only [tAb] at hy; subst hy
     refine ⟨tAl _, zC6 (s := convert s t (a.eval x)) (by simp only [execOp, ho]) ?_ hR hAA (.imm (.it _ _))⟩
     rw [hx']
     simp only [convert, Sem.run_bind, run_underlying hs, run_underlying hd, Result.andThen_ok, Conv.intToInt, Sem.run_pure]
   · rename_i l hs hd hxe
     have hx' := zEi (hxe ▸ hx)
     obtain ⟨y, hy, rfl, rfl, rfl⟩ := hsame (f := id) (r := some _) h
     simp only [tAb] at hy; subst hy
     refine ⟨tAl _, zC6 (s := convert s t (a.eval x)) (by simp only [execOp, ho]) ?_ hR hAA (.imm (.st _))⟩
     rw [hx']
     simp only [convert, Sem.run_bind, run_underlying hs, run_underlying hd, Result.andThen_ok, Sem.run_pure]
   · rename_i e l hs hd hxe
     split at h
     · rename_i he hz
       split at h
       · simp only [tAb, tAj] at h
         obtain ⟨rfl, rfl, rfl⟩ := h
         obtain ⟨r, w', μ', hr, hp⟩ := zQH (nid := nid) (A' := fun id => A id ∨ (nid ≤ id ∧ id < nid + 1)) hR (hn nid (tAl _) (by omega)) hB hAA (.inr ⟨tAl _, by omega⟩) (hxe ▸ hx) hs hd he
         refine ⟨by omega, .value ?_ hp⟩
         simp only [execOp, ho]
         exact zCo hr
       · cases h
     · cases h
   · rename_i e hs hd
     split at h
     · rename_i he hz
       split at h
       · rename_i hso
         simp only [tAc] at h
         obtain ⟨⟨px, es⟩, hes, h⟩ := h
         obtain ⟨l, hl, rfl, rfl, rfl⟩ := hsame h
         have := zXq (P := cx.P) (w := w) hR hx (fun l hl => by rw [hl] at hso; simp [zBP, hs] at hso) hs hd he hes hl
         exact ⟨tAl _, zC6 (s := convert s t (a.eval x)) (by simp only [execOp, ho]) this hR hAA (.imm (.st _))⟩
       · cases h
     · cases h
   · cases h
 case makeFunc fn first caps =>
   obtain ⟨y, hy, rfl, rfl, rfl⟩ := hsame (f := id) (r := some _) h
   simp only [tAb] at hy; subst hy
   obtain ⟨q1, q2⟩ := zHo (xs := first) hev
   obtain ⟨p1, p2⟩ := zHo (xs := caps) hev
   refine ⟨tAl _, zC6 (s := Instr.makeFunc fn (first.map a.eval) (caps.map a.eval)) (by simp only [execOp, ho]) (v := .func fn (first.map a.eval) (caps.map a.eval)) rfl hR hAA ?_⟩
   exact yJ7 (by simp) (by simp) (fun k d hd => by obtain ⟨v, h1, h2⟩ := q2 k d hd; exact ⟨v, by simpa using h1, h2⟩) (fun k d hd => by obtain ⟨v, h1, h2⟩ := p2 k d hd; exact ⟨v, by simpa using h1, h2⟩)
 case makeMap t r =>
   simp only [tAc] at h
   obtain ⟨⟨kt, vt⟩, hmt, h⟩ := h
   have hu := zHX hmt
   have hp : ∀ {d H' nx'}, some (D.map nid, upd H nid (.mp []), nid + 1) = some (d, H', nx') → (∃ w', (Instr.makeMap t (r.map a.eval)).run cx.P w = .ok (.map (some w.heap.size)) w' ∧ w' = w.alloc (.map #[] 0)) → (∀ id, nid ≤ id → id < nx' → ¬ A id) →
       nid ≤ nx' ∧ OpOK cx.P o a B M A H μ w d H' (fun id => A id ∨ (nid ≤ id ∧ id < nx')) := by
     intro d H' nx' h hr hn
     simp only [tAb, tAj] at h
     obtain ⟨rfl, rfl, rfl⟩ := h
     obtain ⟨w', hr, rfl⟩ := hr
     obtain ⟨r1, r2, r3⟩ := hR.fresh (A' := fun id => A id ∨ (nid ≤ id ∧ id < nid + 1)) (nid := nid) (blk := .mp []) (loc := some (w.heap.size, 0, 0)) (w' := w.alloc (.map #[] 0)) (hn nid (tAl _) (by omega)) hB (fun id h => .inl h) (.inr ⟨tAl _, by omega⟩) (heap_alloc w _)
       (fun β bs top e => by simp only [tAb, tAj] at e; omega) (fun hk => ⟨w.heap.size, #[], 0, rfl, by simp, by show (w.heap.push _)[w.heap.size]? = _; simp, rfl, fun k p hp => by simp at hp⟩)
     refine ⟨by omega, .value (v := .map (some w.heap.size)) ?_ ⟨MLe.refl M, r1, .leaf ?_, r2, r3, fun _ _ h => .inl h⟩⟩
     · simp only [execOp, ho]
       exact zCo hr
     · simp only [Leaf, upd_same]
       exact ⟨⟨.inr ⟨tAl _, by omega⟩, rfl⟩, w.heap.size, rfl, rfl⟩
   cases r with
   | none =>
     simp only [tBX] at h
     exact hp h ⟨_, by simp [Instr.makeMap], rfl⟩ hn
   | some x =>
     have hx := hev x
     simp only [tAF] at h
     split at h
     · rename_i hh; cases hh
     · rename_i q k n hh
       simp only [tAb] at hh
       rw [hh] at hx
       have hx := zCN hx
       exact hp h ⟨_, by simp [Instr.makeMap, run_underlying hu, hx, asInt, asIntOf], rfl⟩ hn
     · cases h
 case makeSlice t l c =>
   have hnx := zYt h
   obtain ⟨_, r, w', μ', hr, hp⟩ := yEa (A' := fun id => A id ∨ (nid ≤ id ∧ id < nx')) hR (hn nid (tAl _) (by omega)) hB hAA (.inr ⟨tAl _, by omega⟩) (hev l) (hev c) h
   refine ⟨by omega, .value ?_ hp⟩
   simp only [execOp, ho]
   exact zCo hr
 case slice t x lo hi mx =>
   obtain ⟨y, hy, rfl, rfl, rfl⟩ := hsame (f := id) h
   obtain ⟨r, h1, h2⟩ := zXH hR (hev x) hy (zGn hev).1 (zGn hev).1 (zGn hev).1 (zGn hev).2 (zGn hev).2 (zGn hev).2
   exact ⟨tAl _, zC6 (by simp only [execOp, ho]) h1 hR hAA h2⟩
 case fieldAddr t x f =>
   obtain ⟨y, hy, rfl, rfl, rfl⟩ := hsame (f := id) h
   obtain ⟨r, h1, h2⟩ := zLP (P := cx.P) (w := w) (hev x) hy
   exact ⟨tAl _, zC6 (by simp only [execOp, ho]) h1 hR hAA h2⟩
 case field t x f =>
   have hx := hev x
   cases hh : ev env x <;> simp only [hh, reduceCtorEq] at h
   rename_i cs
   rw [hh] at hx
   simp only [tAc] at h
   obtain ⟨fl, hfl, h⟩ := h
   obtain ⟨y, hy, rfl, rfl, rfl⟩ := hsame (f := id) h
   obtain ⟨r, h1, h2⟩ := zQY (w := w) hx hfl hy
   exact ⟨tAl _, zC6 (by simp only [execOp, ho]) h1 hR hAA h2⟩
 case indexAddr t x ix =>
   obtain ⟨y, hy, rfl, rfl, rfl⟩ := hsame (f := id) h
   obtain ⟨r, h1, h2⟩ := zLE hR (hev x) (hev ix) hy
   exact ⟨tAl _, zC6 (by simp only [execOp, ho]) h1 hR hAA h2⟩
 case index t x ix =>
   obtain ⟨y, hy, rfl, rfl, rfl⟩ := hsame (f := id) h
   obtain ⟨r, h1, h2⟩ := zYW (P := cx.P) (w := w) (hev x) (hev ix) hy
   exact ⟨tAl _, zC6 (by simp only [execOp, ho]) h1 hR hAA h2⟩
 case lookup t m k ok =>
   obtain ⟨y, hy, rfl, rfl, rfl⟩ := hsame (f := id) h
   obtain ⟨r, h1, h2⟩ := zUp hR (hev m) (hev k) hy
   exact ⟨tAl _, zC6 (by simp only [execOp, ho]) h1 hR hAA h2⟩
 case mapUpdate t m k v =>
   simp only [tAe, tAj] at h
   obtain ⟨H1, hH, rfl, rfl, rfl⟩ := h
   obtain ⟨w', hr, hp⟩ := zKH hR hAA (hev m) (hev k) (hev v) hH
   refine ⟨tAl _, .skip ?_ hp⟩
   simp only [execOp, ho]
   exact zHN hr
 case insert t m k v =>
   simp only [tAe, tAj] at h
   obtain ⟨H1, hH, rfl, rfl, rfl⟩ := h
   obtain ⟨w', hr, hp⟩ := zKH hR hAA (hev m) (hev k) (hev v) hH
   refine ⟨tAl _, .skip ?_ hp⟩
   simp only [execOp, ho]
   exact zHN hr
 case extract t j =>
   have hx := hev t
   cases hh : ev env t <;> simp only [hh, reduceCtorEq] at h
   rename_i cs
   rw [hh] at hx
   obtain ⟨y, hy, rfl, rfl, rfl⟩ := hsame (f := id) h
   obtain ⟨vs, hvs, hl, hc⟩ := zMK zJK hx
   obtain ⟨u, h1, h2⟩ := hc _ _ hy
   refine ⟨tAl _, zC6 (s := Instr.extract (a.eval t) j) (by simp only [execOp, ho]) (v := u) ?_ hR hAA h2⟩
   rw [hvs]; simp [Instr.extract, h1]
 case call c =>
   have hex : ∀ (s : Sem Next), (do let d ← resolve a.eval c o.type; invoke d.target d.args : Sem Next).run cx.P w = s.run cx.P w → (execOp a.eval o).run cx.P w = s.run cx.P w := fun s h => by simp only [execOp, ho]; exact h
   split at h
   · rename_i f hf
     have hx := hev f
     cases hh : ev env f <;> simp only [hh, reduceCtorEq] at h
     rename_i fn first caps
     cases fn <;> simp only [reduceCtorEq] at h
     rename_i g
     rw [hh] at hx
     obtain ⟨vf, vc, hfv, l1, l2, c1, c2⟩ := zFR zD7 hx
     obtain ⟨q1, q2⟩ := zHo (xs := c.args) hev
     have hlen : ((vf ++ c.args.map a.eval) ++ vc).toList.length = (first ++ c.args.toList.map (ev env) ++ caps).length := by
       simp only [Array.toList_append, tAh, tBA, tAI, Array.size_map, l1, l2]
     obtain ⟨h1, h2⟩ := yFr (vs := ((vf ++ c.args.map a.eval) ++ vc).toList) hcx h hR hB hn hlen (fun k d hd => by
       simp only [Array.toList_append]
       rw [List.getElem?_append] at hd ⊢
       rw [List.getElem?_append] at hd ⊢
       simp only [tAh, tAI, tBA, Array.size_map, l1] at hd ⊢
       split
       · rename_i hk
         rw [if_pos hk] at hd
         split
         · rename_i hk2
           rw [if_pos hk2] at hd
           obtain ⟨u, u1, u2⟩ := c1 k d hd
           exact ⟨u, by simpa using u1, u2⟩
         · rename_i hk2
           rw [if_neg hk2] at hd
           exact q2 _ d hd
       · rename_i hk
         rw [if_neg hk] at hd
         obtain ⟨u, u1, u2⟩ := c2 _ d hd
         exact ⟨u, by simpa using u1, u2⟩)
     refine ⟨h1, GoesOK.op (hex _ ?_) h2 (fun v w' h => h)⟩
     simp only [resolve, hf, Deferred.ofValue, hfv, invoke, Sem.run_bind, Sem.run_pure, Result.andThen_ok, Array.toArray_toList]
   · rename_i b hb
     obtain ⟨q1, q2⟩ := zHo (xs := c.args) hev
     unfold zAd at h
     have hgo : ∀ (s : Sem Value), builtin b c.argTypes o.type (c.args.map fun | .const _ => true | _ => false) (c.args.map a.eval) = (do pure (Next.value (← s)) : Sem Next) → ∀ {v w'}, s.run cx.P w = .ok v w' → (execOp a.eval o).run cx.P w = .ok (.value v) w' := fun s hs v w' hr => by
       rw [hex (do pure (Next.value (← s)) : Sem Next) ?_]
       · exact zCo hr
       · rw [← hs]; simp only [resolve, hb, Sem.run_bind, Sem.run_pure, Result.andThen_ok, invoke]; rfl
     split at h
     · rename_i t x hts hxs
       obtain ⟨n, hn', rfl, rfl, rfl⟩ := hsame h
       have hat : c.argTypes = #[t] := Array.toList_inj.1 hts
       obtain ⟨y, hy⟩ : ∃ y, c.args.toList = [y] := by
         cases hh : c.args.toList with
         | nil => rw [hh] at hxs; simp at hxs
         | cons y r => cases r with
           | nil => exact ⟨y, rfl⟩
           | cons _ _ => rw [hh] at hxs; simp at hxs
       rw [hy] at hxs
       simp only [tAO, tBn, tAv, and_true] at hxs
       subst hxs
       have hao : c.args.map a.eval = #[a.eval y] := by apply Array.toList_inj.1; rw [Array.toList_map, hy]; rfl
       exact ⟨tAl _, .pure (hgo (Builtin.len_ #[t] o.type #[a.eval y]) (by rw [hat, hao]; rfl) (yHA o.type hR (hev y) hn')) hR hAA (.imm (.it _ _))⟩
     · rename_i t u x1 x2 hts hxs
       have hat : c.argTypes = #[t, u] := Array.toList_inj.1 hts
       obtain ⟨y, z, hy⟩ : ∃ y z, c.args.toList = [y, z] := by
         cases hh : c.args.toList with
         | nil => rw [hh] at hxs; simp at hxs
         | cons y r => cases r with
           | nil => rw [hh] at hxs; simp at hxs
           | cons z r => cases r with
             | nil => exact ⟨y, z, rfl⟩
             | cons _ _ => rw [hh] at hxs; simp at hxs
       rw [hy] at hxs
       simp only [tAO, tBn, tAv, and_true] at hxs
       obtain ⟨rfl, rfl⟩ := hxs
       have hao : c.args.map a.eval = #[a.eval y, a.eval z] := by apply Array.toList_inj.1; rw [Array.toList_map, hy]; rfl
       split at h
       · rename_i hso
         have hnx := zRS h
         obtain ⟨_, r, w', μ', hr, hp⟩ := zWe (ty := o.type) (A' := fun id => A id ∨ (nid ≤ id ∧ id < nx')) hR (hn nid (tAl _) (by omega)) hB hAA (.inr ⟨tAl _, by omega⟩) (hev y) (hev z) hso h
         exact ⟨by omega, .value (hgo (Builtin.append_ #[t, u] o.type #[a.eval y, a.eval z]) (by rw [hat, hao]; rfl) hr) hp⟩
       · cases h
     · rename_i t x hts hxs
       simp only [tAe, tAj] at h
       obtain ⟨⟨r, H1⟩, hcl, rfl, rfl, rfl⟩ := h
       have hat : c.argTypes = #[t] := Array.toList_inj.1 hts
       obtain ⟨y, hy⟩ : ∃ y, c.args.toList = [y] := by
         cases hh : c.args.toList with
         | nil => rw [hh] at hxs; simp at hxs
         | cons y r => cases r with
           | nil => exact ⟨y, rfl⟩
           | cons _ _ => rw [hh] at hxs; simp at hxs
       rw [hy] at hxs
       simp only [tAO, tBn, tAv, and_true] at hxs
       subst hxs
       have hao : c.args.map a.eval = #[a.eval y] := by apply Array.toList_inj.1; rw [Array.toList_map, hy]; rfl
       obtain ⟨w', hr, hp⟩ := zZy (A' := fun id => A id ∨ (nid ≤ id ∧ id < nid)) o.type hR hAA (hev y) hcl
       exact ⟨tAl _, .value (hgo (Builtin.clear_ #[t] o.type #[a.eval y]) (by rw [hat, hao]; rfl) hr) hp⟩
     · obtain ⟨n, hn', rfl, rfl, rfl⟩ := hsame (f := id) h
       obtain ⟨x, r, v, e1, e2, e3⟩ := zLp (P := cx.P) (w := w) (m2 := Builtin.min2) (f := fun p q => if q < p then q else p) (fun k k' x y => rfl) _ _ (by rw [q1]) q2 hn'
       exact ⟨tAl _, .pure (hgo (Builtin.min_ c.argTypes o.type (c.args.map a.eval)) rfl (by simp only [Builtin.min_, e1]; exact e2)) hR hAA e3⟩
     · obtain ⟨n, hn', rfl, rfl, rfl⟩ := hsame (f := id) h
       obtain ⟨x, r, v, e1, e2, e3⟩ := zLp (P := cx.P) (w := w) (m2 := Builtin.max2) (f := fun p q => if p < q then q else p) (fun k k' x y => rfl) _ _ (by rw [q1]) q2 hn'
       exact ⟨tAl _, .pure (hgo (Builtin.max_ c.argTypes o.type (c.args.map a.eval)) rfl (by simp only [Builtin.max_, e1]; exact e2)) hR hAA e3⟩
     · cases h
   · cases h

end
structure Start where
 B : Nat → Prop
 M0 : Mem
 w0 : World
 bs : Nat
 nt : Nat
 H0 : Hp
 μ0 : Mu
 hB : ∀ k, B k → k < w0.heap.size

def Inv (S : Start) (fr : Nat → Prop) (env : Nat → D) (H : Hp) (a : Act) (w : World) : Prop :=
 ∃ M A μ, MLe S.M0 M ∧ (∀ ad v, M ad = some v → S.M0 ad = some v ∨ S.w0.heap.size ≤ ad.block) ∧ Keep S.B S.w0 w ∧ Rel S.B M A H μ w ∧ EnvR M (Leaf A H μ) env a ∧
   (∀ id, fr id → ¬ A id) ∧ (∀ id, id < S.bs → A id) ∧ (∀ d v, Leaf (· < S.bs) S.H0 S.μ0 d v → Leaf A H μ d v) ∧ a.defers = [] ∧ a.tmps.size = S.nt

section
variable {S : Start} {cx : Cx} {env : Nat → D} {o : Oper} {ops : List Oper} {a : Act} {H H' : Hp} {w : World} {d : D} {nid nx' : Nat} {fr fr' : Nat → Prop}

theorem Inv.fewer (h : Inv S fr env H a w) (hf : ∀ id, fr' id → fr id) : Inv S fr' env H a w := by
 obtain ⟨M, A, μ, h1, h2, h3, h4, h5, h6, h7, h8, h9, h10⟩ := h
 exact ⟨M, A, μ, h1, h2, h3, h4, h5, fun id hid => h6 id (hf id hid), h7, h8, h9, h10⟩

theorem yC0 {dst : Option Nat} {v : Value} {t : Nat} (hd : ∀ x, dst = some x → x < a.tmps.size) : (a.put dst v).tmps.getD t undef = if dst = some t then v else a.tmps.getD t undef := by
 cases dst with
 | none => simp [Act.put]
 | some x =>
   have hx := hd x rfl
   by_cases e : x = t
   · subst e; simp [Act.put, hx]
   · rw [if_neg (by simpa using e)]
     simp [Act.put, Array.getElem?_setIfInBounds_ne e]
theorem zOX (dst : Option Nat) (v : Value) : (a.put dst v).tmps.size = a.tmps.size := by cases dst <;> simp [Act.put]
theorem zHR (dst : Option Nat) (v : Value) : (a.put dst v).defers = a.defers := by cases dst <;> rfl

theorem zVl {M M' : Mem} {L L' : D → Value → Prop} {dst : Option Nat} {v : Value} (hE : EnvR M L env a) (hM : MLe M M') (hL : ∀ d v, L d v → L' d v) (hd : ∀ x, dst = some x → x < a.tmps.size) (hv : VR M' L' d v) :
   EnvR M' L' (zA4 env dst d) (a.put dst v) := by
 intro t
 rw [yC0 hd]
 cases dst with
 | none => simp only [zA4, reduceCtorEq, if_false]; exact (hE t).mono hM hL
 | some x =>
   simp only [zA4, tAb]
   by_cases e : x = t
   · subst e; rw [upd_same, if_pos rfl]; exact hv
   · rw [upd_ne _ _ (Ne.symm e), if_neg e]; exact (hE t).mono hM hL

theorem Inv.post {M M' : Mem} {A A' : Nat → Prop} {μ μ' : Mu} {v : Value} {w' : World} (h1 : MLe S.M0 M) (h2 : ∀ ad v, M ad = some v → S.M0 ad = some v ∨ S.w0.heap.size ≤ ad.block) (h3 : Keep S.B S.w0 w) (h5 : EnvR M (Leaf A H μ) env a)
   (h8 : ∀ d v, Leaf (· < S.bs) S.H0 S.μ0 d v → Leaf A H μ d v) (h9 : a.defers = []) (h10 : a.tmps.size = S.nt) (hp : Post S.B M A H μ w d H' A' v w' M' μ') (h6 : ∀ id, fr id → ¬ A' id) (h7 : ∀ id, id < S.bs → A' id)
   {dst : Option Nat} (hd : ∀ x, dst = some x → x < S.nt) : Inv S fr (zA4 env dst d) H' (a.put dst v) w' := by
 refine ⟨M', A', μ', h1.trans hp.mle, fun ad v h => ?_, h3.trans hp.below, hp.rel, zVl h5 hp.mle hp.keep (by rw [h10]; exact hd) hp.val, h6, h7, fun d v h => hp.keep d v (h8 d v h), by rw [zHR]; exact h9, by rw [zOX]; exact h10⟩
 rcases hp.new ad v h with q | q
 · exact h2 ad v q
 · exact .inr (Nat.le_trans h3.size q)

theorem Inv.lt (h : Inv S fr env H a w) : ∀ k, S.B k → k < w.heap.size := fun k hk => by
 obtain ⟨M, A, μ, h1, h2, h3, _⟩ := h
 exact Nat.lt_of_lt_of_le (S.hB k hk) h3.size

theorem Inv.op (hcx : CxOK cx) (hd : ∀ x, o.dst = some x → x < S.nt) (h : Inv S fr env H a w) (ho : opD cx env o H nid = some (d, H', nx')) (hf : ∀ id, nid ≤ id → id < nx' → fr id) {K : Act → World → Prop} {Q : Exit → Act → World → Prop}
   (hK : nid ≤ nx' → ∀ a w, Inv S (fun id => fr id ∧ ¬ (nid ≤ id ∧ id < nx')) (zA4 env o.dst d) H' a w → K a w) : o.wp cx.P a w K Q := by
 have hlt := h.lt
 obtain ⟨M, A, μ, h1, h2, h3, h4, h5, h6, h7, h8, h9, h10⟩ := h
 obtain ⟨q1, q2⟩ := zO2 hcx ho h4 h5 hlt (fun id p q => h6 id (hf id p q))
 exact q2 K Q fun v w' M' μ' hp => hK q1 _ _ (.post h1 h2 h3 h5 h8 h9 h10 hp (fun id hid => by
   rintro (h | h)
   · exact h6 id hid.1 h
   · exact hid.2 h) (fun id hid => .inl (h7 id hid)) hd)

theorem Inv.skip (hd : ∀ x, o.dst = some x → x < S.nt) (h : Inv S fr env H a w) : Inv S fr (zA4 env o.dst (.tup [])) H (a.put o.dst undef) w := by
 obtain ⟨M, A, μ, h1, h2, h3, h4, h5, h6, h7, h8, h9, h10⟩ := h
 exact ⟨M, A, μ, h1, h2, h3, h4, zVl h5 (MLe.refl M) (fun _ _ h => h) (by rw [h10]; exact hd) (.imm (.tup [] #[] rfl (fun _ => undef) (fun k hk => by simp at hk) (fun k d hd => by simp at hd))), h6, h7, h8, by rw [zHR]; exact h9, by rw [zOX]; exact h10⟩

theorem Inv.want (h : Inv S fr env H a w) {b : Bool} (hw : zFm ops env o = some b) : Region.wanted o (yielded ops.toArray a.tmps) = b := by
 obtain ⟨M, A, μ, h1, h2, h3, h4, h5, _⟩ := h
 unfold zFm at hw
 unfold Region.wanted
 cases hg : o.guard with
 | none => simp only [hg, tAb] at hw; exact hw
 | some p =>
   obtain ⟨j, want⟩ := p
   simp only [hg] at hw ⊢
   cases hj : (ops[j]?).bind (·.dst) with
   | none => rw [hj] at hw; cases hw
   | some t =>
     rw [hj] at hw
     simp only [] at hw
     cases ht : env t <;> rw [ht] at hw <;> simp only [reduceCtorEq, tAb] at hw
     · rename_i v
       have h5t := h5 t
       rw [ht] at h5t
       have hb := zE2 h5t
       have hget : a.tmps[t]? = some (.bool v) := by
         cases hx : a.tmps[t]? with
         | none => simp only [tAD, hx, Option.getD_none] at hb; cases hb
         | some u => simp only [tAD, hx, tBa] at hb; rw [hb]
       have hj' : (ops.toArray[j]?).bind (·.dst) = some t := by simpa using hj
       unfold yielded
       rw [hj', tAg, hget]
       subst hw; cases v <;> cases want <;> rfl
     · rename_i cs
       have h5t := h5 t
       rw [ht] at h5t
       obtain ⟨vs, hb, _⟩ := zMK zJK h5t
       have hj' : (ops.toArray[j]?).bind (·.dst) = some t := by simpa using hj
       unfold yielded
       rw [hj', tAg]
       subst hw
       cases hx : a.tmps[t]? with
       | none => cases want <;> rfl
       | some u =>
         simp only [tAD, hx, tBa] at hb
         rw [hb]; cases want <;> rfl

theorem zSN (hcx : CxOK cx) {Q : Exit → Act → World → Prop} : ∀ (l : List Oper), zI4 S.nt l = true → ∀ (st st' : St) (a : Act) (w : World), zEZ cx ops l st = some st' → Inv S (st.nx ≤ ·) st.env st.H a w →
   (∀ a w, st.nx ≤ st'.nx → Inv S (st'.nx ≤ ·) st'.env st'.H a w → Q .normal a w) → wpList cx.P ops.toArray Q l a w := by
 intro l
 induction l with
 | nil =>
   intro _ st st' a w h hi hQ
   simp only [zEZ, tAb] at h
   subst h
   exact wpList_nil (hQ a w (tAl _) hi)
 | cons o rest ih =>
   intro hdst st st' a w h hi hQ
   simp only [zI4, tAq, tAd] at hdst
   have hd : ∀ x, o.dst = some x → x < S.nt := fun x hx => by have := hdst.1; rw [hx] at this; simpa using this
   simp only [zEZ, tAc] at h
   obtain ⟨b, hb, h⟩ := h
   have hwt := hi.want hb
   refine wpList_step fun K hK => ?_
   rw [hwt]
   cases b with
   | true =>
     simp only [if_true, tAc] at h ⊢
     obtain ⟨⟨d, H', nx'⟩, ho, h⟩ := h
     refine hi.op hcx hd ho (fun id h _ => h) fun hle a' w' hi' => hK a' w' ?_
     exact ih hdst.2 _ st' a' w' h (hi'.fewer (fun id hid => ⟨Nat.le_trans hle hid, fun hh => by simp only [] at hid; omega⟩)) (fun a w hl hi => hQ a w (Nat.le_trans hle hl) hi)
   | false =>
     simp only [tAf, if_false] at h ⊢
     exact hK _ _ (ih hdst.2 _ st' _ w h (hi.skip hd) hQ)

end
section
variable {S : Start} {cx : Cx} {env env' : Nat → D} {o p : Oper} {ops : List Oper} {a : Act} {H H' H1 : Hp} {w : World} {d : D} {nid nx nx' bef i j : Nat} {fr fr' : Nat → Prop} {bs : List Nat}

theorem zPH {x : Operand} (hx : x ∈ o.op.operands) (h : ∀ t ∈ looks ops o, env t = env' t) : ev env x = ev env' x := by
 cases x with
 | tmp t =>
   simp only [ev]
   refine h t ?_
   simp only [looks, tAz, List.mem_filterMap, Array.mem_toList_iff]
   exact .inl ⟨.tmp t, hx, rfl⟩
 | const v => rfl
 | global g => rfl
 | func f => rfl

theorem zHy (h : ∀ t ∈ looks ops o, env t = env' t) : zFm ops env o = zFm ops env' o := by
 unfold zFm
 cases hg : o.guard with
 | none => rfl
 | some q =>
   obtain ⟨g, b⟩ := q
   simp only []
   cases hj : (ops[g]?).bind (·.dst) with
   | none => rfl
   | some t =>
     have : env t = env' t := h t (by simp only [looks, hg, hj, tAz]; exact .inr (by simp))
     simp only [this]

theorem zMW (h : ∀ t ∈ looks ops o, env t = env' t) : roots env o = roots env' o := by
 unfold roots
 rw [List.flatMap_def, List.flatMap_def]
 congr 1
 exact tBo (fun x hx => by rw [zPH (by simpa using hx) h])

theorem zHG (h : ∀ t ∈ looks ops o, env t = env' t) : stepD cx nx bef i o env H = stepD cx nx bef i o env' H := by
 have hc : ∀ H nid, opD cx env o H nid = opD cx env' o H nid := fun H nid => zLo (fun x hx => zPH hx h)
 unfold stepD
 simp only [zMW h, hc]

theorem zIL (hk : zBK cx.rd o.op = 0) : ∃ r : Option D, ∀ H, stepD cx nx bef i o env H = r.map fun d => (d, H) := by
 obtain ⟨r, hr⟩ := zO5 (cx := cx) (env := env) hk
 refine ⟨r, fun H => ?_⟩
 unfold stepD
 rw [if_pos hk, hr]
 cases r <;> rfl

theorem zTW (H : Hp) : ∀ (n : Nat) (todo acc : List Nat), ∀ id ∈ acc, id ∈ zAY H n todo acc := by
 intro n
 induction n with
 | zero => intro todo acc id h; exact h
 | succ n ih =>
   intro todo acc id h
   cases todo with
   | nil => exact h
   | cons x r =>
     simp only [zAY]
     split
     · exact ih _ _ id h
     · exact ih _ _ id (List.mem_append_left _ h)
theorem zM0 {H G : Hp} : ∀ (n : Nat) (todo acc : List Nat), (∀ id ∈ zAY H n todo acc, G id = H id) → zAY G n todo acc = zAY H n todo acc := by
 intro n
 induction n with
 | zero => intro todo acc _; rfl
 | succ n ih =>
   intro todo acc h
   cases todo with
   | nil => rfl
   | cons x r =>
     simp only [zAY] at h ⊢
     split
     · rename_i hc
       rw [if_pos hc] at h
       exact ih _ _ h
     · rename_i hc
       rw [if_neg hc] at h
       have hx : G x = H x := h x (zTW H _ _ _ x (by simp))
       rw [hx]
       exact ih _ _ h

def zBe (nx i id : Nat) : Prop := nx + i * 64 ≤ id ∧ id < nx + i * 64 + 64

theorem zFn {id : Nat} (hb : bef.testBit i = false) (h : zBe nx i id) : vis nx bef id = false := by
 unfold zBe at h
 unfold vis
 have : (id - nx) / 64 = i := by omega
 rw [this, hb]
 simp; omega

theorem zHF (hcx : CxOK cx) (hk : zBK cx.rd o.op = 1) (hb : bef.testBit i = false) (h : stepD cx nx bef i o env H = some (d, H1)) :
   (∀ id, ¬ zBe nx i id → H1 id = H id) ∧ ∀ G, (∀ id, vis nx bef id = true ∨ zBe nx i id → G id = H id) → ∃ G1, stepD cx nx bef i o env G = some (d, G1) ∧ (∀ id, zBe nx i id → G1 id = H1 id) ∧ ∀ id, ¬ zBe nx i id → G1 id = G id := by
 unfold stepD at h ⊢
 rw [if_neg (by omega)] at h
 simp only [if_neg (show ¬ zBK cx.rd o.op = 0 by omega)]
 simp only [] at h ⊢
 generalize hids : zAY H 60 (roots env o) [] = ids at h
 split at h
 case isFalse => cases h
 rename_i hc
 simp only [tAd, tAw] at hc
 obtain ⟨⟨hcl, hro⟩, hvis⟩ := hc
 rw [tAc] at h
 obtain ⟨⟨d', H', nx'⟩, ho, h⟩ := h
 simp only [] at h
 split at h
 case isFalse => cases h
 rename_i hle
 simp only [tAb, tAj] at h
 obtain ⟨rfl, rfl⟩ := h
 obtain ⟨q1, q2⟩ := zLn hk hcx.rd ho
 have hold : ∀ id ∈ ids, H' id = H id := fun id hid => by
   have hv := hvis id hid
   rw [q2 id (fun hh => by
     have := zFn (nx := nx) (i := i) (id := id) hb ⟨hh.1, by omega⟩
     rw [hv] at this; cases this)]
   simp [zBv, hid]
 have hnid : ∀ id ∈ ids, ¬ zBe nx i id := fun id hid hh => by
   have := zFn (nx := nx) (i := i) (id := id) hb hh
   rw [hvis id hid] at this; cases this
 have hm : ∀ (G : Hp) (id : Nat), (∀ id ∈ ids, G id = H id) → (zBe nx i id → mend ids (nx + i * 64) G H' id = H' id) ∧ (¬ zBe nx i id → mend ids (nx + i * 64) G H' id = G id) := fun G id hG => by
   unfold mend zBe
   constructor
   · intro hr
     rw [if_pos (by simp [hr.1, hr.2])]
   · intro hr
     by_cases hid : id ∈ ids
     · rw [if_pos (by simp [hid]), hold id hid, hG id hid]
     · rw [if_neg]
       simp only [tAK, tAd, decide_eq_true_eq, tA5, not_or]
       exact ⟨hid, hr⟩
 refine ⟨fun id hid => ?_, fun G hG => ?_⟩
 · split
   · rfl
   · exact (hm H id (fun _ _ => rfl)).2 hid
 have hGi : ∀ id ∈ ids, G id = H id := fun id hid => hG id (.inl (hvis id hid))
 have hre : zAY G 60 (roots env o) [] = ids := by rw [zM0 60 _ _ (by rw [hids]; exact hGi), hids]
 have hcl' : closed G ids = true := by
   simp only [closed, tAw] at hcl ⊢
   intro x hx
   rw [hGi x hx]; exact hcl x hx
 have hrs : zBv ids G = zBv ids H := by
   funext id
   unfold zBv
   split
   · rename_i hid; exact hGi id (by simpa using hid)
   · rfl
 refine ⟨if zBK cx.rd o.op = 1 ∧ nx' = nx + i * 64 then G else mend ids (nx + i * 64) G H', ?_, fun id hid => ?_, fun id hid => ?_⟩
 · rw [hre, if_pos (by simp only [tAd, tAw]; exact ⟨⟨hcl', hro⟩, hvis⟩), hrs, ho]
   simp only [tAg, if_pos hle]
 · by_cases hq : zBK cx.rd o.op = 1 ∧ nx' = nx + i * 64
   · rw [if_pos hq, if_pos hq]; exact hG id (.inr hid)
   · rw [if_neg hq, if_neg hq, (hm G id hGi).1 hid, (hm H id (fun _ _ => rfl)).1 hid]
 · by_cases hq : zBK cx.rd o.op = 1 ∧ nx' = nx + i * 64
   · rw [if_pos hq]
   · rw [if_neg hq]; exact (hm G id hGi).2 hid

def zJt (cx : Cx) (ops : List Oper) (bs : List Nat) (nx i : Nat) (s : (Nat → D) × Hp) : Option ((Nat → D) × Hp) :=
 match ops[i]? with
 | none => some s
 | some o => (zFm ops s.1 o).bind fun w => if w then (stepD cx nx (bs.getD i 0) i o s.1 s.2).map fun r => (zA4 s.1 o.dst r.1, r.2) else some (zA4 s.1 o.dst (.tup []), s.2)
def runO (cx : Cx) (ops : List Oper) (bs : List Nat) (nx : Nat) : List Nat → (Nat → D) × Hp → Option ((Nat → D) × Hp)
 | [], s => some s
 | i :: r, s => (zJt cx ops bs nx i s).bind (runO cx ops bs nx r)

theorem zZm : ∀ (l : List Oper) (i : Nat) (env : Nat → D) (H : Hp), (∀ j, l[j]? = ops[i + j]?) → zDw cx ops bs nx l i env H = runO cx ops bs nx (List.range' i l.length) (env, H) := by
 intro l
 induction l with
 | nil => intro i env H _; rfl
 | cons o r ih =>
   intro i env H h
   have h0 : ops[i]? = some o := by simpa using (h 0).symm
   have hr : ∀ j, r[j]? = ops[i + 1 + j]? := fun j => by have := h (j + 1); simpa [tBJ, Nat.add_comm 1 j] using this
   simp only [zDw, tAp, List.range'_succ, runO, zJt, h0]
   cases zFm ops env o with
   | none => rfl
   | some b =>
     cases b with
     | false => simp only [tAg, tAf, if_false]; exact ih (i + 1) _ _ hr
     | true =>
       simp only [tAg, if_true]
       cases stepD cx nx (bs.getD i 0) i o env H with
       | none => rfl
       | some q => simp only [tAg, tAF]; exact ih (i + 1) _ _ hr

theorem zIN {dst : Option Nat} {v : D} {t : Nat} (h : dst ≠ some t) : zA4 env dst v t = env t := by
 cases dst with
 | none => rfl
 | some x => exact upd_ne _ _ (fun e => h (by rw [e]))
theorem zMS {x y : Option Nat} {u v : D} (h : ∀ t, x = some t → y ≠ some t) : zA4 (zA4 env x u) y v = zA4 (zA4 env y v) x u := by
 cases x with
 | none => rfl
 | some s =>
   cases y with
   | none => rfl
   | some t =>
     have hne : s ≠ t := fun e => h s rfl (by rw [e])
     funext k
     simp only [zA4, upd]
     by_cases e1 : k = s <;> by_cases e2 : k = t <;> simp [e1, e2]
     · subst e1; exact absurd e2 hne
     all_goals simp_all

theorem zY8 (hf : free cx.rd ops o p = true) : (∀ (e : Nat → D) v t, t ∈ looks ops p → zA4 e o.dst v t = e t) ∧ (∀ (e : Nat → D) v t, t ∈ looks ops o → zA4 e p.dst v t = e t) ∧ (∀ t, o.dst = some t → p.dst ≠ some t) := by
 simp only [free, tAd] at hf
 obtain ⟨⟨⟨⟨h1, h2⟩, h3⟩, h4⟩, h5⟩ := hf
 refine ⟨fun e v t ht => zIN fun hd => ?_, fun e v t ht => zIN fun hd => ?_, fun t ht hp => ?_⟩
 · simp only [zYj, hd, tAG, tA5, decide_eq_false_iff_not] at h1; exact h1 ht
 · simp only [zYj, hd, tAG, tA5, decide_eq_false_iff_not] at h2; exact h2 ht
 · simp only [zUa, ht, bne_iff_ne, ne_eq] at h3; exact h3 hp

theorem swap (hcx : CxOK cx) {s s1 s2 : (Nat → D) × Hp} (hij : i ≠ j) (hi : ops[i]? = some o) (hj : ops[j]? = some p) (hf : free cx.rd ops o p = true) (hii : (bs.getD i 0).testBit i = false) (hjj : (bs.getD j 0).testBit j = false) (hb1 : (bs.getD i 0).testBit j = false) (hb2 : (bs.getD j 0).testBit i = false)
   (h1 : zJt cx ops bs nx i s = some s1) (h2 : zJt cx ops bs nx j s1 = some s2) : ∃ s', zJt cx ops bs nx j s = some s' ∧ zJt cx ops bs nx i s' = some s2 := by
 obtain ⟨f1, f2, f3⟩ := zY8 hf
 obtain ⟨env, H⟩ := s
 simp only [zJt, hi, hj] at h1 h2 ⊢
 rw [tAc] at h1 h2
 obtain ⟨b1, w1, h1⟩ := h1
 obtain ⟨b2, w2, h2⟩ := h2
 have key : ∃ (v1 v2 : D) (G1 G2 : Hp), s1 = (zA4 env o.dst v1, G1) ∧ s2 = (zA4 (zA4 env o.dst v1) p.dst v2, G2) ∧
     ∃ G, (if b2 = true then (stepD cx nx (bs.getD j 0) j p env H).map fun r => (zA4 env p.dst r.1, r.2) else some (zA4 env p.dst (.tup []), H)) = some (zA4 env p.dst v2, G) ∧
       (if b1 = true then (stepD cx nx (bs.getD i 0) i o (zA4 env p.dst v2) G).map fun r => (zA4 (zA4 env p.dst v2) o.dst r.1, r.2) else some (zA4 (zA4 env p.dst v2) o.dst (.tup []), G)) = some (zA4 (zA4 env p.dst v2) o.dst v1, G2) := by
   have hc1 : ∀ (v : D) (H : Hp), stepD cx nx (bs.getD i 0) i o (zA4 env p.dst v) H = stepD cx nx (bs.getD i 0) i o env H := fun v H => zHG (ops := ops) (fun t ht => f2 env v t ht)
   have hc2 : ∀ (v : D) (H : Hp), stepD cx nx (bs.getD j 0) j p (zA4 env o.dst v) H = stepD cx nx (bs.getD j 0) j p env H := fun v H => zHG (ops := ops) (fun t ht => f1 env v t ht)
   cases b1 with
   | false =>
     simp only [tAf, if_false, tAb] at h1 ⊢
     subst h1
     cases b2 with
     | false =>
       simp only [tAf, if_false, tAb] at h2 ⊢
       exact ⟨.tup [], .tup [], H, H, rfl, h2.symm, H, rfl, rfl⟩
     | true =>
       simp only [if_true, tAe, hc2] at h2 ⊢
       obtain ⟨⟨d, G⟩, hd, rfl⟩ := h2
       exact ⟨.tup [], d, H, G, rfl, rfl, G, ⟨(d, G), hd, rfl⟩, rfl⟩
   | true =>
     simp only [if_true, tAe] at h1 ⊢
     obtain ⟨⟨d1, G1⟩, hd1, rfl⟩ := h1
     cases b2 with
     | false =>
       simp only [tAf, if_false, tAb] at h2 ⊢
       refine ⟨d1, .tup [], G1, G1, rfl, h2.symm, H, rfl, ⟨(d1, G1), ?_, rfl⟩⟩
       rw [hc1]; exact hd1
     | true =>
       simp only [if_true, tAe, hc2] at h2 ⊢
       obtain ⟨⟨d2, G2⟩, hd2, rfl⟩ := h2
       simp only [hc1]
       have hkk : zBK cx.rd o.op = 0 ∨ zBK cx.rd p.op = 0 ∨ (zBK cx.rd o.op = 1 ∧ zBK cx.rd p.op = 1) := by
         simp only [free, tAd, tAK, beq_iff_eq] at hf
         rcases hf.2 with (h | h) | h
         · exact .inl h
         · exact .inr (.inl h)
         · exact .inr (.inr h)
       rcases hkk with hk | hk | ⟨hk1, hk2⟩
       · obtain ⟨r, hr⟩ := zIL (cx := cx) (nx := nx) (bef := bs.getD i 0) (i := i) (o := o) (env := env) hk
         rw [hr] at hd1
         simp only [tAe, tAj] at hd1
         obtain ⟨x, rfl, rfl, rfl⟩ := hd1
         exact ⟨x, d2, H, G2, rfl, rfl, G2, ⟨(d2, G2), hd2, rfl⟩, (x, G2), by rw [hr]; rfl, rfl⟩
       · obtain ⟨r, hr⟩ := zIL (cx := cx) (nx := nx) (bef := bs.getD j 0) (i := j) (o := p) (env := env) hk
         rw [hr] at hd2
         simp only [tAe, tAj] at hd2
         obtain ⟨x, rfl, rfl, rfl⟩ := hd2
         exact ⟨d1, x, G1, G1, rfl, rfl, H, ⟨(x, H), by rw [hr]; rfl, rfl⟩, (d1, G1), hd1, rfl⟩
       · obtain ⟨a1, a2⟩ := zHF hcx hk1 hii hd1
         obtain ⟨c1, c2⟩ := zHF hcx hk2 hjj hd2
         have v1 : ∀ id, vis nx (bs.getD j 0) id = true ∨ zBe nx j id → H id = G1 id := fun id hv => (a1 id (fun hr => by
           rcases hv with hv | hv
           · rw [zFn hb2 hr] at hv; cases hv
           · unfold zBe at hr hv; omega)).symm
         obtain ⟨G, e1, e2, e3⟩ := c2 H v1
         have v2 : ∀ id, vis nx (bs.getD i 0) id = true ∨ zBe nx i id → G id = H id := fun id hv => e3 id (fun hr => by
           rcases hv with hv | hv
           · rw [zFn hb1 hr] at hv; cases hv
           · unfold zBe at hr hv; omega)
         obtain ⟨G', g1, g2, g3⟩ := a2 G v2
         have hdis : ∀ id, zBe nx i id → ¬ zBe nx j id := fun id h h' => by unfold zBe at h h'; omega
         have hGG : G' = G2 := by
           funext id
           by_cases hri : zBe nx i id
           · rw [g2 id hri, c1 id (hdis id hri)]
           · rw [g3 id hri]
             by_cases hrj : zBe nx j id
             · exact e2 id hrj
             · rw [e3 id hrj, c1 id hrj, a1 id hri]
         subst hGG
         exact ⟨d1, d2, G1, G', rfl, rfl, G, ⟨(d2, G), e1, rfl⟩, (d1, G'), g1, rfl⟩
 obtain ⟨v1, v2, G1, G2, rfl, rfl, G, k1, k2⟩ := key
 have w2' : zFm ops env p = some b2 := by rw [← w2]; exact zHy (fun t ht => (f1 env v1 t ht).symm)
 refine ⟨(zA4 env p.dst v2, G), ?_, ?_⟩
 · rw [w2']; exact k1
 · rw [zHy (ops := ops) (o := o) (env := zA4 env p.dst v2) (env' := env) (fun t ht => f2 env v2 t ht), w1]
   simp only [tAg]
   rw [k2, zMS (fun t ht hp => f3 t hp ht)]
end
section
variable {S : Start} {cx : Cx} {env env' : Nat → D} {o p : Oper} {ops : List Oper} {a : Act} {H H' H1 : Hp} {w : World} {d : D} {nid nx nx' bef i j : Nat} {fr fr' : Nat → Prop} {bs : List Nat}

structure Ordered (rd : List FuncId) (ops : List Oper) (bs : List Nat) : Prop where
 low : ∀ i o, ops[i]? = some o → ∀ j ∈ direct o, j < i ∧ (bs.getD i 0).testBit j = true
 clo : ∀ i o j p, ops[i]? = some o → ops[j]? = some p → (bs.getD i 0).testBit j = true → j < i ∧ (j ∈ direct o ∨ ∃ k ∈ direct o, (bs.getD k 0).testBit j = true)
 fre : ∀ i o j p, ops[i]? = some o → ops[j]? = some p → (bs.getD i 0).testBit j = false → i = j ∨ (bs.getD j 0).testBit i = true ∨ free rd ops o p = true

theorem yC4 {rd : List FuncId} (h : zLT rd ops = true) : Ordered rd ops (befs ops []) := by
 simp only [zLT, tAw, tBT] at h
 have hlt : ∀ {i o}, ops[i]? = some o → i < ops.length := fun hi => (tAi.1 hi).1
 refine ⟨fun i o hi j hj => ?_, fun i o j p hi hj hb => ?_, fun i o j p hi hj hb => ?_⟩
 · have := h i (hlt hi)
   simp only [hi, tAd, tAw, decide_eq_true_eq] at this
   exact this.1 j hj
 · have := h i (hlt hi)
   simp only [hi, tAd, tAw, decide_eq_true_eq, tBT] at this
   have := this.2 j (hlt hj)
   simp only [hj, hb, if_true, tAd, decide_eq_true_eq, tAK, tA5, tA6] at this
   exact this
 · have := h i (hlt hi)
   simp only [hi, tAd, tAw, decide_eq_true_eq, tBT] at this
   have := this.2 j (hlt hj)
   simp only [hj, hb, tAf, if_false, tAK, beq_iff_eq] at this
   rcases this with (h | h) | h
   · exact .inl h
   · exact .inr (.inl h)
   · exact .inr (.inr h)

theorem Ordered.self (ho : Ordered cx.rd ops bs) (hi : ops[i]? = some o) : (bs.getD i 0).testBit i = false := by
 cases h : (bs.getD i 0).testBit i with
 | false => rfl
 | true => have := (ho.clo i o i o hi hi h).1; omega

theorem yI5 (hcx : CxOK cx) (ho : Ordered cx.rd ops bs) (hi : ops[i]? = some o) : ∀ (L : List Nat) (s f : (Nat → D) × Hp), i ∈ L → (∀ j ∈ L, j < ops.length) → L.Nodup → L.Pairwise (fun x y => (bs.getD x 0).testBit y = false) → (∀ j ∈ L, (bs.getD i 0).testBit j = false) →
   runO cx ops bs nx L s = some f → ∃ s', zJt cx ops bs nx i s = some s' ∧ runO cx ops bs nx (L.erase i) s' = some f := by
 intro L
 induction L with
 | nil => intro s f hm; simp at hm
 | cons j r ih =>
   intro s f hm hlt hnd hpw hrd hr
   simp only [runO, tAc] at hr
   obtain ⟨s1, h1, h2⟩ := hr
   by_cases e : j = i
   · subst e
     exact ⟨s1, h1, by simpa using h2⟩
   · have hir : i ∈ r := by simpa [Ne.symm e] using hm
     rw [List.nodup_cons] at hnd
     rw [tAC] at hpw
     obtain ⟨s2, h3, h4⟩ := ih s1 f hir (fun k hk => hlt k (by simp [hk])) hnd.2 hpw.2 (fun k hk => hrd k (by simp [hk])) h2
     have hjl := hlt j (by simp)
     have hj : ops[j]? = some ops[j] := tAn hjl
     have hji := hpw.1 i hir
     have hij := hrd j (by simp)
     have hf : free cx.rd ops ops[j] o = true := by
       rcases ho.fre j _ i o hj hi hji with h | h | h
       · exact absurd h e
       · rw [hij] at h; cases h
       · exact h
     obtain ⟨s', g1, g2⟩ := swap hcx e hj hi hf (ho.self hj) (ho.self hi) hji hij h1 h3
     refine ⟨s', g1, ?_⟩
     rw [List.erase_cons_tail (by simpa using e)]
     simp only [runO, g2, tAg]
     exact h4

theorem zHP {B : Nat → Prop} {M : Mem} {A : Nat → Prop} {μ : Mu} {ids : List Nat} (hR : Rel B M A H μ w) (hcl : closed H ids = true) :
   Carry (· ∈ ids) some (Others B ids H μ) A H μ (fun id => A id ∧ id ∈ ids) (zBv ids H) μ := by
 refine ⟨fun id hid => zEU hcl hid, fun id _ => ⟨id, rfl⟩, fun id id' j _ _ h h' => ?_, fun id j hid h => ?_, fun j hj => ⟨j, ?_, rfl⟩, fun id β bs top hid hg hm => Others.place hR hid hg hm⟩
 · simp only [tAb] at h h'; rw [h, h']
 · simp only [tAb] at h; subst h
   refine ⟨by rw [zMY]; simp [zBv, hid], rfl, fun ha => ⟨ha, hid⟩⟩
 · unfold zBv at hj
   split at hj
   · rename_i h; simpa using h
   · exact absurd rfl hj

theorem Inv.stepD (hcx : CxOK cx) (hd : ∀ x, o.dst = some x → x < S.nt) (h : Inv S fr env H a w) (ho : stepD cx nx bef i o env H = some (d, H')) (hf : ∀ id, zBe nx i id → fr id) {K : Act → World → Prop} {Q : Exit → Act → World → Prop}
   (hK : ∀ a w, Inv S (fun id => fr id ∧ ¬ zBe nx i id) (zA4 env o.dst d) H' a w → K a w) : o.wp cx.P a w K Q := by
 by_cases hk : zBK cx.rd o.op = 0
 · obtain ⟨r, hr⟩ := zO5 (cx := cx) (env := env) hk
   unfold Mir.stepD at ho
   rw [if_pos hk, hr] at ho
   simp only [tBf, tAe] at ho
   obtain ⟨x, rfl, he⟩ := ho
   simp only [Function.comp, tAj] at he
   obtain ⟨rfl, rfl⟩ := he
   have := hr H (nx + i * 64)
   exact h.op hcx hd this (fun id p q => absurd q (by omega)) fun _ a w hi => hK a w (hi.fewer (fun id hid => ⟨hid.1, by omega⟩))
 · classical
   have hlt := h.lt
   obtain ⟨M, A, μ, h1, h2, h3, h4, h5, h6, h7, h8, h9, h10⟩ := h
   unfold Mir.stepD at ho
   rw [if_neg hk] at ho
   simp only [] at ho
   generalize hids : zAY H 60 (roots env o) [] = ids at ho
   split at ho
   case isFalse => cases ho
   rename_i hc
   simp only [tAd, tAw] at hc
   obtain ⟨⟨hcl, hro⟩, hvis⟩ := hc
   rw [tAc] at ho
   obtain ⟨⟨d', H1, nx'⟩, ho, hh⟩ := ho
   simp only [] at hh
   split at hh
   case isFalse => cases hh
   rename_i hle
   simp only [tAb, tAj] at hh
   obtain ⟨rfl, rfl⟩ := hh
   have c := zHP h4 hcl
   have hroot : ∀ x ∈ o.op.operands, ∀ id ∈ refs (ev env x), id ∈ ids := fun x hx id hid => by
     have := hro id (by simp only [roots, List.mem_flatMap]; exact ⟨x, by simpa using hx, hid⟩)
     simpa using this
   have hrA : ∀ j ∈ roots env o, A j := fun j hj => by
     simp only [roots, List.mem_flatMap] at hj
     obtain ⟨x, _, hx⟩ := hj
     exact (yEL h5 x).refs j hx
   have hidA : ∀ id ∈ ids, A id := by rw [← hids]; exact zLe H A (fun i j hj => h4.refs hj) _ _ _ hrA (by simp)
   have hE : EnvR M (Leaf (fun id => A id ∧ id ∈ ids) (zBv ids H) μ) (fun t => if Operand.tmp t ∈ o.op.operands then env t else .un) a := by
     intro t
     by_cases ht : Operand.tmp t ∈ o.op.operands
     · simp only [ht, if_true]
       have := c.vr (h5 t) (fun id hid => hroot _ ht id hid)
       rw [zFu] at this
       exact this
     · simp only [ht, if_false]; exact .imm (.un _)
   have hoc : opD cx (fun t => if Operand.tmp t ∈ o.op.operands then env t else .un) o (zBv ids H) (nx + i * 64) = some (d', H1, nx') := by
     rw [← ho]
     refine zLo fun x hx => ?_
     cases x with
     | tmp t => simp only [ev, hx, if_true]
     | const v => rfl
     | global g => rfl
     | func f => rfl
   obtain ⟨q1, q2⟩ := zO2 hcx hoc (c.rel h4) hE (Others.lt h4 hlt) (fun id p q hh => h6 id (hf id ⟨p, by omega⟩) hh.1)
   refine q2 K Q fun v w' M' μ' hp => ?_
   have hnA : ∀ id, zBe nx i id → ¬ A id := fun id hid => h6 id (hf id hid)
   have f1 : ∀ id β bs top, (ids.contains id || (decide (nx + i * 64 ≤ id) && decide (id < nx'))) = false → H id ≠ .gone → μ id = some (β, bs, top) → Others S.B ids H μ β := fun id β bs top hv hg hm => by
     refine .inr ⟨id, bs, top, ?_, hg, hm⟩
     simp only [Bool.or_eq_false_iff, tA5, decide_eq_false_iff_not] at hv; exact hv.1
   have f2 : ∀ id, ((A id ∧ id ∈ ids) ∨ (nx + i * 64 ≤ id ∧ id < nx')) → (ids.contains id || (decide (nx + i * 64 ≤ id) && decide (id < nx'))) = true ∧ (A id ∨ (nx + i * 64 ≤ id ∧ id < nx')) := fun id hid => by
     rcases hid with hid | hid
     · exact ⟨by simp [hid.2], .inl hid.1⟩
     · exact ⟨by simp [hid.1, hid.2], .inr hid⟩
   have f3 : ∀ id, A id → (ids.contains id || (decide (nx + i * 64 ≤ id) && decide (id < nx'))) = true → (∀ d v, (refs d = [id]) → Leaf A H μ d v → Leaf (fun id => A id ∧ id ∈ ids) (zBv ids H) μ d v) := fun id ha hv d v hr hl => by
     have hid : id ∈ ids := by
       simp only [tAK, tAd, decide_eq_true_eq, tA5] at hv
       rcases hv with hv | hv
       · exact hv
       · exact absurd ha (hnA id ⟨hv.1, by omega⟩)
     have hre : zBv ids H id = H id := by simp [zBv, hid]
     cases d <;> first | exact hl.elim | (simp only [refs, tAv, and_true] at hr; subst hr; simp only [Leaf, hre] at hl ⊢; exact ⟨⟨⟨hl.1.1, hid⟩, hl.1.2⟩, hl.2⟩)
   obtain ⟨μ'', hp'⟩ := zI0 (A2 := fun id => A id ∨ (nx + i * 64 ≤ id ∧ id < nx')) (V := fun id => ids.contains id || (decide (nx + i * 64 ≤ id) && decide (id < nx'))) h4 hlt hp (fun k hk => .inl hk) f1 f2 f3 (fun id h => .inl h)
   have e : (fun id => if (ids.contains id || (decide (nx + i * 64 ≤ id) && decide (id < nx'))) = true then H1 id else H id) = mend ids (nx + i * 64) H H1 := by
     funext id
     unfold mend
     by_cases hid : id ∈ ids
     · simp [hid]
     · simp only [tA5, hid, decide_false, tBg, tAd, decide_eq_true_eq]
       by_cases hr : nx + i * 64 ≤ id ∧ id < nx'
       · rw [if_pos hr, if_pos ⟨hr.1, by omega⟩]
       · rw [if_neg hr]
         split
         · rename_i hr2
           rw [h4.gone_of (hnA id ⟨hr2.1, hr2.2⟩)]
           have : ¬ ((A id ∧ id ∈ ids) ∨ (nx + i * 64 ≤ id ∧ id < nx')) := by
             rintro (h | h)
             · exact hid h.2
             · exact hr h
           exact (hp.rel.gone_of this).symm
         · rfl
   have e2 : (if zBK cx.rd o.op = 1 ∧ nx' = nx + i * 64 then H else mend ids (nx + i * 64) H H1) = mend ids (nx + i * 64) H H1 := by
     split
     · rename_i hq
       obtain ⟨_, hqq⟩ := zLn hq.1 hcx.rd ho
       rw [← e]
       funext id
       split
       · rename_i hv
         rw [hqq id (by omega)]
         simp only [tAK, tAd, decide_eq_true_eq, tA5] at hv
         rcases hv with hv | hv
         · simp [zBv, hv]
         · omega
       · rfl
     · rfl
   rw [e, ← e2] at hp'
   exact hK _ _ (.post h1 h2 h3 h5 h8 h9 h10 hp' (fun id hid => by
     rintro (h | h)
     · exact h6 id hid.1 h
     · exact hid.2 ⟨h.1, by omega⟩) (fun id hid => .inl (h7 id hid)) hd)

theorem zWf {arr : Array Oper} (hcx : CxOK cx) (ho : Ordered cx.rd arr.toList bs) (hdst : zI4 S.nt arr.toList = true) {Q : Exit → Act → World → Prop} {f : (Nat → D) × Hp} (hQ : ∀ a w, Inv S (nx + arr.size * 64 ≤ ·) f.1 f.2 a w → Q .normal a w) :
   ∀ (n : Nat) (listed : Array Bool) (L : List Nat) (s : (Nat → D) × Hp) (a : Act) (w : World), L.length ≤ n → listed.size = arr.size → (∀ i, i < arr.size → (listed.getD i true = false ↔ i ∈ L)) → (∀ i ∈ L, i < arr.size) → L.Nodup → L.Pairwise (fun x y => (bs.getD x 0).testBit y = false) →
     (∀ i j, i < arr.size → j < arr.size → i ∉ L → (bs.getD i 0).testBit j = true → j ∉ L) → runO cx arr.toList bs nx L s = some f → Inv S (fun id => nx + arr.size * 64 ≤ id ∨ ∃ i ∈ L, zBe nx i id) s.1 s.2 a w → wpAny cx.P .any arr Q n listed a w := by
 intro n
 have hget : ∀ {i : Nat}, i < arr.size → arr.toList[i]? = some arr[i]! ∧ arr[i]? = some arr[i]! := fun {i} hi => by simp [hi]
 have hdir : ∀ {i : Nat} {e : Edge}, i < arr.size → e ∈ arr[i]!.after → Region.binds .any e = true → e.on ∈ direct arr[i]! := fun {i e} hi he hb => by
   simp only [direct, tBk, tBb, Array.mem_toList_iff]
   exact ⟨e, ⟨he, hb⟩, rfl⟩
 have hhead : ∀ (listed : Array Bool) (i : Nat) (r : List Nat), listed.size = arr.size → (∀ j, j < arr.size → (listed.getD j true = false ↔ j ∈ i :: r)) → (∀ j ∈ i :: r, j < arr.size) → (i :: r).Pairwise (fun x y => (bs.getD x 0).testBit y = false) → i ∈ Region.ready .any arr listed := by
   intro listed i r hsz hl hlt hpw
   have hi := hlt i (by simp)
   rw [tAC] at hpw
   simp only [Region.ready, tBb, tBT, tAd, tAG]
   refine ⟨hi, (hl i hi).2 (by simp), ?_⟩
   rw [(hget hi).2]
   simp only [tAF, tBa, Array.all_eq_true_iff_forall_mem, tAK, tAG]
   intro e he
   cases hb : Region.binds .any e with
   | false => exact .inl rfl
   | true =>
     refine .inr ?_
     obtain ⟨h1, h2⟩ := ho.low i _ (hget hi).1 e.on (hdir hi he hb)
     have hne : e.on ∉ i :: r := by
       simp only [tAr, not_or]
       refine ⟨by omega, fun hm => ?_⟩
       have := hpw.1 _ hm; rw [h2] at this; cases this
     have hes : e.on < arr.size := by omega
     have := mt (hl e.on hes).1 hne
     have hgd : listed.getD e.on false = listed.getD e.on true := by simp [hsz, hes]
     rw [hgd]; simpa using this
 induction n with
 | zero =>
   intro listed L s a w hn hsz hl hlt hnd hpw hcl hr hi
   have hL : L = [] := tB4.1 (by omega)
   subst hL
   simp only [runO, tAb] at hr
   subst hr
   refine ⟨?_, hQ a w (hi.fewer (fun id h => .inl h))⟩
   rw [List.eq_nil_iff_forall_not_mem]
   intro i hi
   simp only [Region.ready, tBb, tBT, tAd, tAG] at hi
   exact absurd ((hl i hi.1).1 hi.2.1) (by simp)
 | succ n ih =>
   intro listed L s a w hn hsz hl hlt hnd hpw hcl hr hi
   refine ⟨fun hrd => ?_, fun i hir => ?_⟩
   · cases L with
     | nil =>
       simp only [runO, tAb] at hr
       subst hr
       exact hQ a w (hi.fewer (fun id h => .inl h))
     | cons i r =>
       have := hhead listed i r hsz hl hlt hpw
       rw [hrd] at this; simp at this
   · have hir' := hir
     simp only [Region.ready, tBb, tBT, tAd, tAG] at hir
     obtain ⟨his, hun, hall⟩ := hir
     have hiL := (hl i his).1 hun
     rw [(hget his).2] at hall
     simp only [tAF, tBa, Array.all_eq_true_iff_forall_mem, tAK, tAG] at hall
     have hdl : ∀ k ∈ direct arr[i]!, k < arr.size ∧ k ∉ L := fun k hk => by
       obtain ⟨h1, h2⟩ := ho.low i _ (hget his).1 k hk
       have hks : k < arr.size := by omega
       refine ⟨hks, fun hm => ?_⟩
       simp only [direct, tBk, tBb, Array.mem_toList_iff] at hk
       obtain ⟨e, ⟨he, hb⟩, rfl⟩ := hk
       have := hall e he
       rw [hb] at this
       simp only [tAA, false_or] at this
       have hgd : listed.getD e.on false = listed.getD e.on true := by simp [hsz, hks]
       rw [hgd, (hl _ hks).2 hm] at this; cases this
     have hnb : ∀ j ∈ L, (bs.getD i 0).testBit j = false := fun j hj => by
       cases hb : (bs.getD i 0).testBit j with
       | false => rfl
       | true =>
         have hjs := hlt j hj
         obtain ⟨_, h2⟩ := ho.clo i _ j _ (hget his).1 (hget hjs).1 hb
         rcases h2 with h2 | ⟨k, hk, hkj⟩
         · exact absurd hj (hdl j h2).2
         · obtain ⟨k1, k2⟩ := hdl k hk
           exact absurd hj (hcl k j k1 hjs k2 hkj)
     obtain ⟨s', hs, hrs⟩ := yI5 hcx ho (hget his).1 L s f hiL (fun j hj => by simpa using hlt j hj) hnd hpw hnb hr
     have hd : ∀ x, arr[i]!.dst = some x → x < S.nt := fun x hx => by
       simp only [zI4, tAw] at hdst
       have := hdst arr[i]! (by simp [his])
       rw [hx] at this; simpa using this
     have hnext : ∀ a w, Inv S (fun id => (nx + arr.size * 64 ≤ id ∨ ∃ i ∈ L, zBe nx i id) ∧ ¬ zBe nx i id) s'.1 s'.2 a w → wpAny cx.P .any arr Q n (listed.setIfInBounds i true) a w := fun a w hi' => by
       have hmem : ∀ j, j ∈ L.erase i ↔ j ≠ i ∧ j ∈ L := fun j => List.Nodup.mem_erase_iff hnd
       refine ih (listed.setIfInBounds i true) (L.erase i) s' a w ?_ (by simp [hsz]) (fun j hj => ?_) (fun j hj => hlt j ((hmem j).1 hj).2) (hnd.erase i) (hpw.sublist List.erase_sublist) (fun x y hx hy hxl hb => ?_) hrs (hi'.fewer fun id hid => ?_)
       · rw [List.length_erase_of_mem hiL]; omega
       · rw [hmem]
         by_cases e : j = i
         · subst e; simp [hsz, his]
         · have : (listed.setIfInBounds i true).getD j true = listed.getD j true := by
             simp [tAD, Array.getElem?_setIfInBounds_ne (Ne.symm e)]
           rw [this, hl j hj]
           simp [e]
       · rw [hmem] at hxl ⊢
         rintro ⟨_, hyL⟩
         by_cases e : x = i
         · subst e; rw [hnb y hyL] at hb; cases hb
         · exact hcl x y hx hy (fun h => hxl ⟨e, h⟩) hb hyL
       · rcases hid with hid | ⟨k, hk, hkr⟩
         · refine ⟨.inl hid, fun hr => ?_⟩
           unfold zBe at hr; omega
         · obtain ⟨k1, k2⟩ := (hmem k).1 hk
           refine ⟨.inr ⟨k, k2, hkr⟩, fun hr => k1 ?_⟩
           unfold zBe at hr hkr; omega
     simp only [zJt, (hget his).1] at hs
     rw [tAc] at hs
     obtain ⟨b, hb, hs⟩ := hs
     have hwt := hi.want hb
     unfold wpOp
     rw [(hget his).2]
     simp only []
     have hwt' : Region.wanted arr[i]! (yielded arr a.tmps) = b := by simpa using hwt
     rw [hwt']
     cases b with
     | true =>
       simp only [if_true, tAe] at hs ⊢
       obtain ⟨⟨d, H'⟩, hst, rfl⟩ := hs
       exact .inl (hi.stepD hcx hd hst (fun id hid => .inr ⟨i, hiL, hid⟩) hnext)
     | false =>
       simp only [tAf, if_false, tAb] at hs ⊢
       subst hs
       exact hnext _ _ ((hi.skip hd).fewer (fun id h => h.1))

theorem zRC {arr : Array Oper} (hcx : CxOK cx) (ho : zLT cx.rd arr.toList = true) (hdst : zI4 S.nt arr.toList = true) {Q : Exit → Act → World → Prop} {H : Hp} (h : zDw cx arr.toList (befs arr.toList []) nx arr.toList 0 env H = some (env', H')) (hi : Inv S (nx ≤ ·) env H a w)
   (hQ : ∀ a w, Inv S (nx + arr.size * 64 ≤ ·) env' H' a w → Q .normal a w) : wpAny cx.P .any arr Q arr.size (Array.replicate arr.size false) a w := by
 have ho' := yC4 ho
 rw [zZm arr.toList 0 env H (fun j => by simp)] at h
 refine zWf hcx ho' hdst hQ arr.size _ (List.range' 0 arr.toList.length) (env, H) a w (by simp) (by simp) (fun i hi => ?_) (fun i hi => ?_) (List.nodup_range' ..) ?_ (fun i j hi hj hn => ?_) h (hi.fewer fun id hid => ?_)
 · simp [hi]
 · simpa using hi
 · refine List.Pairwise.imp_of_mem ?_ (List.pairwise_lt_range' (s := 0) (n := arr.toList.length))
   intro x y hx hy hxy
   simp only [List.mem_range'_1, tAL, true_and, tAZ] at hx hy
   cases hb : ((befs arr.toList []).getD x 0).testBit y with
   | false => rfl
   | true =>
     have := (ho'.clo x _ y _ (tAn hx) (tAn hy) hb).1
     omega
 · simp [hi] at hn
 · rcases hid with h | ⟨i, _, h⟩
   · show nx ≤ id; omega
   · show nx ≤ id; unfold zBe at h; omega

end
section
variable {S : Start} {cx : Cx} {env env' : Nat → D} {o p : Oper} {ops : List Oper} {a : Act} {H H' H1 : Hp} {w w' : World} {d : D} {nid nx nx' bef i j : Nat} {fr fr' : Nat → Prop} {bs : List Nat}
variable {B : Nat → Prop} {M : Mem} {A : Nat → Prop} {μ : Mu}

theorem Rel.same_heap (hR : Rel B M A H μ w) (h : w'.heap = w.heap) : Rel B M A H μ w' := by
 have hc : ∀ ad, w'.cell? ad = w.cell? ad := fun ad => World.cell?_of_block (w := w) (by rw [h])
 exact ⟨fun ad v hm => by rw [hc]; exact hR.mem ad v hm, hR.given, hR.place, hR.apart, hR.alone, fun id => (hR.blk id).mono (MLe.refl M) (fun _ _ h => h) (by rw [h]; exact tAl _) (fun _ _ _ _ => by rw [h])⟩

theorem Inv.drew (h : Inv S fr env H a w) : Inv S fr env H a { w with drawn := w.drawn + 1 } := by
 obtain ⟨M, A, μ, h1, h2, h3, h4, h5, h6, h7, h8, h9, h10⟩ := h
 exact ⟨M, A, μ, h1, h2, ⟨h3.os, h3.tape, h3.output, h3.size, h3.block, Nat.le_succ_of_le h3.drawn⟩, h4.same_heap rfl, h5, h6, h7, h8, h9, h10⟩

def zIs (S : Start) (st : St) (a : Act) (w : World) : Prop := Inv S (st.nx ≤ ·) st.env st.H a w ∧ S.bs ≤ st.nx

theorem zGE (H : Hp) : ∀ (n : Nat) (todo acc : List Nat), ∃ r, zAY H n todo acc = acc ++ r := by
 intro n
 induction n with
 | zero => intro todo acc; exact ⟨[], by simp [zAY]⟩
 | succ n ih =>
   intro todo acc
   cases todo with
   | nil => exact ⟨[], by simp [zAY]⟩
   | cons x r =>
     simp only [zAY]
     split
     · exact ih _ _
     · obtain ⟨q, hq⟩ := ih (refsB (H x) ++ r) (acc ++ [x])
       exact ⟨x :: q, by rw [hq]; simp⟩

theorem zUc (f : Nat → D) (t : Nat) : ∀ (ks : List Nat), zDJ (ks.map fun t => (t, f t)) t = if t ∈ ks then f t else .un := by
 intro ks
 induction ks with
 | nil => rfl
 | cons k r ih =>
   simp only [tAO, zDJ, ih, tAr]
   by_cases e : t = k
   · subst e; simp
   · simp [e]

theorem zQI {ks : List Nat} {st st' : St} (h : tidy S.bs ks st = some st') (hs : zIs S st a w) : zIs S st' a w := by
 obtain ⟨⟨M, A, μ, h1, h2, h3, h4, h5, h6, h7, h8, h9, h10⟩, hbs⟩ := hs
 unfold tidy at h
 simp only [] at h
 generalize hids : zCH S.bs (ks.map st.env) st.H = ids at h
 split at h
 case isFalse => cases h
 rename_i hc
 simp only [tAd, tAw] at hc
 obtain ⟨hcl, hro⟩ := hc
 simp only [tAb] at h
 subst h
 have hnd : ids.Nodup := by rw [← hids]; exact zE8 _ _ _ _ List.nodup_range
 obtain ⟨q, hq⟩ := zGE st.H 60 (zAp (ks.map st.env) ++ (List.range S.bs).flatMap fun i => refsB (st.H i)) (List.range S.bs)
 have hq' : ids = List.range S.bs ++ q := by rw [← hids]; exact hq
 have hold : ∀ id, id < S.bs → ids[id]? = some id := fun id hid => by
   rw [hq', tAP (by simpa using hid)]; simp [hid]
 have hget : ∀ j, ofHp (ids.map fun i => renBlk (ixOf ids) (st.H i)) j = ((ids[j]?).map fun i => renBlk (ixOf ids) (st.H i)).getD .gone := fun j => by rw [zD2, tAE]
 have c1 : Carry (· ∈ ids) (ixOf ids) S.B A st.H μ (· < ids.length) (ofHp (ids.map fun i => renBlk (ixOf ids) (st.H i))) (fun j => (ids[j]?).bind μ) := by
   refine ⟨fun id hid => zEU hcl hid, fun id hid => zEQ hid, fun id id' j _ _ h h' => ?_, fun id j hid hj => ?_, fun j hj => ?_, fun id β bs top hid hg hm => h4.place id β bs top hg hm⟩
   · have := (zBm h).symm.trans (zBm h'); simpa using this
   · have := zBm hj
     refine ⟨by rw [hget, this]; rfl, by rw [this]; rfl, fun _ => (tAi.1 this).1⟩
   · rw [hget] at hj
     cases hh : ids[j]? with
     | none => rw [hh] at hj; simp at hj
     | some id => exact ⟨id, tAB hh, zER hnd hh⟩
 refine ⟨⟨M, (· < ids.length), (fun j => (ids[j]?).bind μ), h1, h2, h3, c1.rel h4, fun t => ?_, fun id hid => ?_, fun id hid => ?_, fun d v hl => ?_, h9, h10⟩, ?_⟩
 · simp only [zUc (fun t => ren (ixOf ids) (st.env t))]
   split
   · rename_i ht
     refine c1.vr (h5 t) (fun id hid => ?_)
     have : id ∈ zAp (ks.map st.env) := by
       obtain ⟨k, hk⟩ := tAT.1 ht
       exact zBH (k := k) (d := st.env t) (by rw [tAE, hk]; rfl) hid
     simpa using hro id this
   · exact .imm (.un _)
 · simp only [] at hid; simp only []; omega
 · exact (tAi.1 (hold id hid)).1
 · obtain ⟨id, hr, hid⟩ := hl.refs
   have hix := zER hnd (hold id hid)
   have hd := hl.isRef
   have hv : VR M _ _ _ := c1.vr (.leaf (h8 d v hl)) (by rw [hr]; intro x hx; simp only [tAy] at hx; subst hx; exact tAB (hold _ hid))
   have := zGZ hv (zH4 hd hr hix).1
   have e := zMX (f := ixOf ids) (g := some) hd hr hix rfl
   rw [zFu] at e
   rw [e] at this
   exact this
 · rw [hq']; simp

def exOf : Ex → Exit
 | .nrm => .normal
 | .exit n => .exit n
 | .gto n => .goto n
 | .ret => .ret

theorem zYw {α : Type} {g : Nat → Option α} {r : α} (h : lim g = some r) : ∃ n, g n = some r := by
 unfold lim at h
 split at h
 · rename_i hh
   simp only [tAb] at h
   subst h
   exact Classical.choose_spec hh
 · cases h

theorem zRu (hcx : CxOK cx) (hP : cx.P.follows .mixedOrders = true) (hbs : cx.bs = S.bs) : ∀ (c : Code), codeOk cx.rd S.nt c = true → ∀ (st : St) (e : Ex) (st' : St), exec cx c st = some (e, st') →
   ∀ (a : Act) (w : World), zIs S st a w → ∀ (Q : Exit → Act → World → Prop), (∀ a w, zIs S st' a w → Q (exOf e) a w) → c.wp cx.P Q a w := by
 intro c
 induction c with
 | skip =>
   intro _ st e st' h a w hs Q hQ
   simp only [exec, tAb, tAj] at h
   obtain ⟨rfl, rfl⟩ := h
   exact wp_skip (hQ a w hs)
 | region id ops draw =>
   intro hc st e st' h a w hs Q hQ
   simp only [codeOk, tAd, tAK, tAG] at hc
   cases draw with
   | false =>
     simp only [exec, tAf, if_false, tAe, tAj] at h
     obtain ⟨s, h, rfl, rfl⟩ := h
     exact wp_region_list (zSN hcx ops.toList hc.1 st s a w h hs.1 (fun a w hle hi => hQ a w ⟨hi, Nat.le_trans hs.2 hle⟩))
   | true =>
     simp only [exec, if_true, tAe, tAj] at h
     obtain ⟨⟨env, H⟩, h, rfl, rfl⟩ := h
     have hdr : zLT cx.rd ops.toList = true := by rcases hc.2 with h | h; cases h; exact h
     exact wp_region_any hP (zRC hcx hdr hc.1 h hs.1.drew (fun a w hi => hQ a w ⟨hi, by have := hs.2; show S.bs ≤ st.nx + ops.size * 64; omega⟩))
 | seq x y ihx ihy =>
   intro hc st e st' h a w hs Q hQ
   simp only [codeOk, tAd] at hc
   simp only [exec] at h
   cases hx : exec cx x st with
   | none => rw [hx] at h; cases h
   | some r =>
     obtain ⟨e1, st1⟩ := r
     rw [hx] at h
     refine wp_seq (ihx hc.1 st e1 st1 hx a w hs _ fun a w hs1 => ?_)
     cases e1 with
     | nrm => exact ihy hc.2 st1 e st' h a w hs1 Q hQ
     | exit n => simp only [tAb, tAj] at h; obtain ⟨rfl, rfl⟩ := h; exact hQ a w hs1
     | gto n => simp only [tAb, tAj] at h; obtain ⟨rfl, rfl⟩ := h; exact hQ a w hs1
     | ret => simp only [tAb, tAj] at h; obtain ⟨rfl, rfl⟩ := h; exact hQ a w hs1
 | cond c x y ihx ihy =>
   intro hc st e st' h a w hs Q hQ
   simp only [codeOk, tAd] at hc
   simp only [exec] at h
   have hcv : ∀ t, ev st.env c = .bo t → a.eval c = .bool t := fun t ht => by
     obtain ⟨⟨M, A, μ, h1, h2, h3, h4, h5, _⟩, _⟩ := hs
     have := yEL h5 c
     rw [ht] at this
     exact zE2 this
   cases hh : ev st.env c <;> simp only [hh, reduceCtorEq] at h
   rename_i t
   refine wp_cond (hcv t hh) ?_
   cases t with
   | true => simp only [if_true] at h ⊢; exact ihx hc.1 st e st' h a w hs Q hQ
   | false => simp only [tAf, if_false] at h ⊢; exact ihy hc.2 st e st' h a w hs Q hQ
 | block id x ih =>
   intro hc st e st' h a w hs Q hQ
   simp only [codeOk] at hc
   simp only [exec] at h
   cases hx : exec cx x st with
   | none => rw [hx] at h; cases h
   | some r =>
     obtain ⟨e1, st1⟩ := r
     rw [hx] at h
     refine wp_block (ih hc st e1 st1 hx a w hs _ fun a w hs1 => ?_)
     cases e1 with
     | nrm => simp only [tAb, tAj] at h; obtain ⟨rfl, rfl⟩ := h; exact hQ a w hs1
     | exit n =>
       simp only [] at h
       simp only [exOf, Exit.inBlock]
       split at h
       · rename_i e; simp only [tAb, tAj] at h; obtain ⟨rfl, rfl⟩ := h; rw [if_pos e]; exact hQ a w hs1
       · rename_i e; simp only [tAb, tAj] at h; obtain ⟨rfl, rfl⟩ := h; rw [if_neg e]; exact hQ a w hs1
     | gto n => simp only [tAb, tAj] at h; obtain ⟨rfl, rfl⟩ := h; exact hQ a w hs1
     | ret => simp only [tAb, tAj] at h; obtain ⟨rfl, rfl⟩ := h; exact hQ a w hs1
 | loop x ih =>
   intro hc st e st' h a w hs Q hQ
   simp only [codeOk] at hc
   simp only [exec] at h
   obtain ⟨n, hn⟩ := zYw h
   refine wp_loop_rounds n ?_
   clear h
   induction n generalizing st a w with
   | zero => cases hn
   | succ n ihn =>
     simp only [iter] at hn
     rw [rounds_succ]
     generalize hf : ((match cx.kp (zBt x) with | some ks => tidy cx.bs ks st | none => some st).bind fun s => exec cx x s) = r at hn
     cases r with
     | none => cases hn
     | some r =>
       obtain ⟨e1, st1⟩ := r
       rw [tAc] at hf
       obtain ⟨s, hs1, hf⟩ := hf
       have hss : zIs S s a w := by
         split at hs1
         · rw [hbs] at hs1; exact zQI hs1 hs
         · simp only [tAb] at hs1; subst hs1; exact hs
       refine ih hc s e1 st1 hf a w hss _ fun a w hs2 => ?_
       cases e1 with
       | nrm => exact ihn st1 a w hs2 hn
       | exit n => simp only [tAb, tAj] at hn; obtain ⟨rfl, rfl⟩ := hn; exact hQ a w hs2
       | gto n => simp only [tAb, tAj] at hn; obtain ⟨rfl, rfl⟩ := hn; exact hQ a w hs2
       | ret => simp only [tAb, tAj] at hn; obtain ⟨rfl, rfl⟩ := hn; exact hQ a w hs2
 | exit id =>
   intro _ st e st' h a w hs Q hQ
   simp only [exec, tAb, tAj] at h
   obtain ⟨rfl, rfl⟩ := h
   exact wp_exit (hQ a w hs)
 | ret =>
   intro _ st e st' h a w hs Q hQ
   simp only [exec, tAb, tAj] at h
   obtain ⟨rfl, rfl⟩ := h
   exact wp_ret (hQ a w hs)
 | label l =>
   intro _ st e st' h a w hs Q hQ
   simp only [exec, tAb, tAj] at h
   obtain ⟨rfl, rfl⟩ := h
   exact wp_label (hQ a w hs)
 | goto l =>
   intro _ st e st' h a w hs Q hQ
   simp only [exec, tAb, tAj] at h
   obtain ⟨rfl, rfl⟩ := h
   exact wp_goto (hQ a w hs)
 | _ => intro _ st e st' h; simp only [exec, reduceCtorEq] at h

end
end Go.Mir
namespace Go.Mir
mutual
def zBU : D → Bool
 | .vec _ _ es => es.isEmpty
 | .elt cs => cs.isEmpty
 | .agg cs => zBh cs
 | .tup cs => zBh cs
 | .fn _ first caps => zBh first && zBh caps
 | _ => true
def zBh : List D → Bool
 | [] => true
 | d :: r => zBU d && zBh r
end
def zFL : Blk → Bool
 | .box cs => zBh cs
 | .row _ _ es => zBh es
 | .mp es => es.all fun p => zBU p.1 && zBU p.2
 | .gone => true

def killAll (own : List Nat) (H : Hp) : Hp := fun id => if own.contains id then .gone else H id
def finV (own : List Nat) (H : Hp) : D → Option D
 | .own id off len => match ixOf own id with
   | some j => some (.own j off len)
   | none => bor (killAll own H) 6 (.own id off len)
 | d => bor (killAll own H) 6 d
def finT (own : List Nat) (H : Hp) : List D → Option D
 | [d] => finV own H d
 | ds => (ds.mapM (finV own H)).map .tup
def finB (own : List Nat) (H : Hp) (id : Nat) : Option Blk := match H id with
 | .row sz true es => some (.row sz true es)
 | .row sz false es => (es.mapM (bor (killAll own H) 6)).map (.row sz true)
 | _ => none
def zC5 (out : List D) (ks : List Nat) : List Nat := ks.filterMap fun k => match out[k]? with | some (D.own id _ _) => some id | _ => none
def dry (out : List D) (H : Hp) : Bool :=
 let ids := zAY H 60 (zAp out) []
 closed H ids && (zAp out).all (fun j => ids.contains j) && zBh out && ids.all fun i => zFL (H i)
def distinct : List Nat → Bool
 | [] => true
 | a :: r => !(r.contains a) && distinct r
noncomputable def zAg (cx : Cx) (fn : Func) (ks : List Nat) (al : Bool) (ds : List D) : Option Res :=
 (runD { cx with bs := 0 } fn ds []).bind fun (out, H, _) => if distinct (zC5 out ks) && (al || dry out H) then
   let H2 := if al then H else zBv (zAY H 60 (zAp out) []) H
   ((zC5 out ks).mapM (finB (zC5 out ks) H2)).bind fun hs => (finT (zC5 out ks) H2 out).map fun r => ⟨al, r, hs⟩ else none
noncomputable def zCm (cx : Cx) (fn : Func) (ds : List D) (hs : List Blk) : Option (D × List Blk) :=
 (runD { cx with bs := hs.length } fn ds hs).bind fun (out, H, _) => let ids := zCH hs.length out H
   if closed H ids && (zAp out).all (fun j => ids.contains j) then some (one (renL (ixOf ids) out), ids.map fun i => renBlk (ixOf ids) (H i)) else none

structure BodyOK (cx : Cx) (g : FuncId) (fn : Func) (c : Code) : Prop where
 found : cx.P.funcs[g]? = some fn
 body : fn.body = some c
 name : (fn.name == "runtime.NumGoroutine") = false
 code : codeOk cx.rd fn.ntmps c = true

section
variable {S : Start} {cx : Cx} {env env' : Nat → D} {a : Act} {H H' : Hp} {w w' : World} {d : D}
variable {B : Nat → Prop} {M : Mem} {A : Nat → Prop} {μ : Mu} {P : Program}

theorem yCR {st : St} (hR : Rel B M A st.H μ w) (hE : EnvR M (Leaf A st.H μ) st.env a) : ∀ (l : List ResultVar) (ds : List D), resD P st l = some ds →
   ∃ vs : List Value, (l.mapM (fun r => (match r with | .tmp t => pure (a.tmps.getD t undef) | .cell x t => do loadVar t (← asAddr (a.tmps.getD x undef)) : Sem Value))).run P w = .ok vs w ∧ vs.length = ds.length ∧ ∀ (k : Nat) (d : D), ds[k]? = some d → ∃ v, vs[k]? = some v ∧ VR M (Leaf A st.H μ) d v := by
 intro l
 induction l with
 | nil =>
   intro ds h
   simp only [resD, tAb] at h
   subst h
   exact ⟨[], by simp, rfl, fun k d hd => by simp at hd⟩
 | cons r rest ih =>
   intro ds h
   have hcons : ∀ (d : D) (ds' : List D) (v : Value) (vs : List Value), ds = d :: ds' → vs.length = ds'.length → VR M (Leaf A st.H μ) d v → (∀ (k : Nat) (d : D), ds'[k]? = some d → ∃ v, vs[k]? = some v ∧ VR M (Leaf A st.H μ) d v) →
       (v :: vs).length = ds.length ∧ ∀ (k : Nat) (d : D), ds[k]? = some d → ∃ u, (v :: vs)[k]? = some u ∧ VR M (Leaf A st.H μ) d u := by
     intro d ds' v vs e hl hv hvs
     subst e
     refine ⟨by simp [hl], fun k x hx => ?_⟩
     cases k with
     | zero => simp only [tAt, tAb] at hx; subst hx; exact ⟨v, rfl, hv⟩
     | succ k => exact hvs k x (by simpa using hx)
   cases r with
   | tmp t =>
     simp only [resD, tAe] at h
     obtain ⟨ds', h, rfl⟩ := h
     obtain ⟨vs, q1, q2, q3⟩ := ih ds' h
     refine ⟨a.tmps.getD t undef :: vs, ?_, hcons _ _ _ _ rfl q2 (hE t) q3⟩
     simp only [tA8, Sem.run_bind, Sem.run_pure, Result.andThen_ok, q1]
   | cell x t =>
     simp only [resD, tAc, tAe] at h
     obtain ⟨cs, hcs, d, hd, ds', h, rfl⟩ := h
     obtain ⟨vs, q1, q2, q3⟩ := ih ds' h
     obtain ⟨ad, had, hca⟩ := zPN hR (hE x) hcs
     obtain ⟨v, hr, hv⟩ := yAK hca hd
     refine ⟨v :: vs, ?_, hcons _ _ _ _ rfl q2 hv q3⟩
     have : (do loadVar t (← asAddr (a.tmps.getD x undef)) : Sem Value).run P w = .ok v w := by rw [had]; simp [asAddr, hr]
     simp only [tA8]
     rw [Sem.run_bind, this]
     simp only [Sem.run_bind, Sem.run_pure, Result.andThen_ok, q1]

theorem yHn {L : D → Value → Prop} {ds : List D} {vs : List Value} (hl : vs.length = ds.length) (h : ∀ (k : Nat) (d : D), ds[k]? = some d → ∃ v, vs[k]? = some v ∧ VR M L d v) :
   VR M L (one ds) (if h : vs.toArray.size = 1 then vs.toArray[0] else .tuple vs.toArray) := by
 cases ds with
 | nil =>
   cases vs with
   | nil => exact zIJ rfl (fun k d hd => by simp at hd)
   | cons _ _ => cases hl
 | cons d r =>
   cases vs with
   | nil => cases hl
   | cons v vs =>
     cases r with
     | nil =>
       cases vs with
       | nil =>
         obtain ⟨u, hu, hv⟩ := h 0 d rfl
         simp only [tAt, tAb] at hu
         subst hu
         exact hv
       | cons _ _ => simp at hl
     | cons e r =>
       cases vs with
       | nil => simp at hl
       | cons u vs =>
         rw [dif_neg (by simp)]
         exact zIJ (by simpa using hl) (fun k d hd => by obtain ⟨v, h1, h2⟩ := h k d hd; exact ⟨v, by simpa using h1, h2⟩)

theorem zQ1 {fn : Func} {st : St} {ds : List D} (hR : Rel B M A st.H μ w) (hE : EnvR M (Leaf A st.H μ) st.env a) (h : resD P st fn.results.toList = some ds) :
   ∃ vs : List Value, (results fn a.tmps).run P w = .ok (if h : vs.toArray.size = 1 then vs.toArray[0] else .tuple vs.toArray) w ∧ vs.length = ds.length ∧ ∀ (k : Nat) (d : D), ds[k]? = some d → ∃ v, vs[k]? = some v ∧ VR M (Leaf A st.H μ) d v := by
 obtain ⟨vs, q1, q2, q3⟩ := yCR hR hE _ _ h
 refine ⟨vs, ?_, q2, q3⟩
 unfold results
 rw [Array.mapM_eq_mapM_toList]
 simp only [Sem.run_bind, map_eq_pure_bind, Sem.run_pure]
 have key : ∀ (F : ResultVar → Sem Value), F = (fun r => (match r with | .tmp t => pure (a.tmps.getD t undef) | .cell x t => do loadVar t (← asAddr (a.tmps.getD x undef)) : Sem Value)) →
     (((Sem.run P (List.mapM F fn.results.toList) w).andThen fun a w' => Result.ok a.toArray w').andThen fun a w' => Result.ok (if h : a.size = 1 then a[0] else Value.tuple a) w') = Result.ok (if h : vs.toArray.size = 1 then vs.toArray[0] else Value.tuple vs.toArray) w := fun F hF => by
   subst hF
   rw [q1]
   simp only [Result.andThen_ok]
 exact key _ (by funext r; cases r <;> rfl)

theorem zKT {g : FuncId} {fn : Func} {c : Code} {hs : List Blk} {ds out : List D} {nx : Nat} {vs : List Value} (hcx : CxOK cx) (hP : cx.P.follows .mixedOrders = true) (hb : BodyOK cx g fn c) (hbs : cx.bs = hs.length) (h : runD cx fn ds hs = some (out, H', nx)) (hlt : vs.length ≤ fn.ntmps)
   (hR : Rel B M (· < hs.length) (ofHp hs) μ w) (hB : ∀ k, B k → k < w.heap.size) (hl : vs.length = ds.length) (hv : ∀ (k : Nat) (d : D), ds[k]? = some d → ∃ v, vs[k]? = some v ∧ VR M (Leaf (· < hs.length) (ofHp hs) μ) d v) :
   Calls cx.P g vs.toArray w fun e w' => ∃ (us : List Value) (M' : Mem) (A' : Nat → Prop) (μ' : Mu), e = .returned (if h : us.toArray.size = 1 then us.toArray[0] else .tuple us.toArray) ∧ us.length = out.length ∧ MLe M M' ∧ (∀ ad v, M' ad = some v → M ad = some v ∨ w.heap.size ≤ ad.block) ∧ Keep B w w' ∧
     Rel B M' A' H' μ' w' ∧ (∀ (k : Nat) (d : D), out[k]? = some d → ∃ v, us[k]? = some v ∧ VR M' (Leaf A' H' μ') d v) ∧ (∀ id, id < hs.length → A' id) ∧ (∀ d v, Leaf (· < hs.length) (ofHp hs) μ d v → Leaf A' H' μ' d v) := by
 unfold runD at h
 rw [hb.body] at h
 simp only [tAg] at h
 refine calls_of_wp hb.found hb.body ?_
 let S : Start := ⟨B, M, w, hs.length, fn.ntmps, ofHp hs, μ, hB⟩
 have hst : zIs S ⟨zAq ds, ofHp hs, hs.length⟩ { tmps := vs.toArray ++ Array.replicate (fn.ntmps - vs.toArray.size) undef, defers := [] } w := by
   refine ⟨⟨M, (· < hs.length), μ, MLe.refl M, fun _ _ h => .inl h, Keep.refl _ _, hR, fun t => ?_, fun id hid => by show ¬ (id < hs.length); exact Nat.not_lt.2 hid, fun id h => h, fun d v h => h, rfl, ?_⟩, tAl _⟩
   · have hae : ∀ (ds : List D) (t : Nat), zAq ds t = (ds[t]?).getD .un := by
       intro ds
       induction ds with
       | nil => intro t; rfl
       | cons d r ih => intro t; cases t with
         | zero => rfl
         | succ t => simp [zAq, ih]
     show VR M (Leaf (· < hs.length) (ofHp hs) μ) (zAq ds t) ((vs.toArray ++ Array.replicate (fn.ntmps - vs.toArray.size) undef).getD t undef)
     rw [hae]
     cases hd : ds[t]? with
     | none => exact .imm (.un _)
     | some d =>
       obtain ⟨v, h1, h2⟩ := hv t d hd
       have hlt' : t < vs.length := (tAi.1 h1).1
       have : (vs.toArray ++ Array.replicate (fn.ntmps - vs.toArray.size) undef).getD t undef = v := by
         rw [tAD, Array.getElem?_append_left (by simpa using hlt')]
         simp [h1]
       simp only [tBa]
       rw [this]; exact h2
   · simp [S]; omega
 have hfin : ∀ (st : St), (resD cx.P st fn.results.toList).map (fun ds => (ds, st.H, st.nx)) = some (out, H', nx) → ∀ a w', zIs S st a w' → a.defers = [] ∧ ∃ v, (results fn a.tmps).run cx.P w' = .ok v w' ∧ ∃ (us : List Value) (M' : Mem) (A' : Nat → Prop) (μ' : Mu), Ending.returned v = .returned (if h : us.toArray.size = 1 then us.toArray[0] else .tuple us.toArray) ∧ us.length = out.length ∧ MLe M M' ∧ (∀ ad v, M' ad = some v → M ad = some v ∨ w.heap.size ≤ ad.block) ∧ Keep B w w' ∧
     Rel B M' A' H' μ' w' ∧ (∀ (k : Nat) (d : D), out[k]? = some d → ∃ v, us[k]? = some v ∧ VR M' (Leaf A' H' μ') d v) ∧ (∀ id, id < hs.length → A' id) ∧ (∀ d v, Leaf (· < hs.length) (ofHp hs) μ d v → Leaf A' H' μ' d v) := by
   intro st h a w' hs
   simp only [tAe, tAj] at h
   obtain ⟨ds', hr, rfl, rfl, rfl⟩ := h
   obtain ⟨⟨M', A', μ', h1, h2, h3, h4, h5, h6, h7, h8, h9, h10⟩, _⟩ := hs
   obtain ⟨us, q1, q2, q3⟩ := zQ1 h4 h5 hr
   exact ⟨h9, _, q1, us, M', A', μ', rfl, q2, h1, h2, h3, h4, q3, h7, h8⟩
 cases he : exec cx c ⟨zAq ds, ofHp hs, hs.length⟩ with
 | none => rw [he] at h; cases h
 | some r =>
   obtain ⟨e, st⟩ := r
   rw [he] at h
   refine zRu (S := S) hcx hP hbs c hb.code _ e st he _ _ hst _ fun a w' hs => ?_
   cases e with
   | nrm => exact hfin st h a w' hs
   | ret => exact hfin st h a w' hs
   | exit n => cases h
   | gto n => cases h

end
end Go.Mir
namespace Go.Mir
section
variable {cx : Cx} {env env' : Nat → D} {a : Act} {H H' : Hp} {w w' : World} {d : D}
variable {B : Nat → Prop} {M M' N : Mem} {A : Nat → Prop} {μ : Mu} {P : Program}

theorem CxOK.at (hcx : CxOK cx) (n : Nat) : CxOK { cx with bs := n } := ⟨hcx.rd, hcx.orc, hcx.ext, hcx.eff⟩
theorem BodyOK.at {g : FuncId} {fn : Func} {c : Code} (h : BodyOK cx g fn c) (n : Nat) : BodyOK { cx with bs := n } g fn c := ⟨h.found, h.body, h.name, h.code⟩
theorem BodyOK.enters {g : FuncId} {fn : Func} {c : Code} (h : BodyOK cx g fn c) : Enters cx.P g := ⟨fn, h.found, by rw [h.body]; rfl, h.name⟩

theorem zQJ {ids : List Nat} (hR : Rel B M A H μ w) (hcl : closed H ids = true) (hnd : ids.Nodup) :
   Carry (· ∈ ids) (ixOf ids) B A H μ (· < ids.length) (ofHp (ids.map fun i => renBlk (ixOf ids) (H i))) (fun j => (ids[j]?).bind μ) := by
 have hget : ∀ j, ofHp (ids.map fun i => renBlk (ixOf ids) (H i)) j = ((ids[j]?).map fun i => renBlk (ixOf ids) (H i)).getD .gone := fun j => by rw [zD2, tAE]
 refine ⟨fun id hid => zEU hcl hid, fun id hid => zEQ hid, fun id id' j _ _ h h' => ?_, fun id j hid hj => ?_, fun j hj => ?_, fun id β bs top hid hg hm => hR.place id β bs top hg hm⟩
 · have := (zBm h).symm.trans (zBm h'); simpa using this
 · have := zBm hj
   refine ⟨by rw [hget, this]; rfl, by rw [this]; rfl, fun _ => (tAi.1 this).1⟩
 · rw [hget] at hj
   cases hh : ids[j]? with
   | none => rw [hh] at hj; simp at hj
   | some id => exact ⟨id, tAB hh, zER hnd hh⟩

theorem zVo {g : FuncId} {fn : Func} {c : Code} {F : List D → List Blk → Option (D × List Blk)} (hcx : CxOK cx) (hP : cx.P.follows .mixedOrders = true) (hb : BodyOK cx g fn c) (hF : ∀ ds hs r, F ds hs = some r → ds.length ≤ fn.ntmps ∧ zCm cx fn ds hs = some r) : EffOK cx.P g F := by
 refine ⟨hb.enters, fun ds hs r hs' hr => ?_⟩
 obtain ⟨hlt, hr⟩ := hF _ _ _ hr
 unfold zCm at hr
 rw [tAc] at hr
 obtain ⟨⟨out, H, nx⟩, hrun, hr⟩ := hr
 simp only [] at hr
 generalize hids : zCH hs.length out H = ids at hr
 split at hr
 case isFalse => cases hr
 rename_i hc
 simp only [tAd, tAw] at hc
 obtain ⟨hcl, hro⟩ := hc
 simp only [tAb, tAj] at hr
 obtain ⟨rfl, rfl⟩ := hr
 have hnd : ids.Nodup := by rw [← hids]; exact zE8 _ _ _ _ List.nodup_range
 obtain ⟨q, hq⟩ := zGE H 60 (zAp out ++ (List.range hs.length).flatMap fun i => refsB (H i)) (List.range hs.length)
 have hq' : ids = List.range hs.length ++ q := by rw [← hids]; exact hq
 have hold : ∀ id, id < hs.length → ids[id]? = some id := fun id hid => by
   rw [hq', tAP (by simpa using hid)]; simp [hid]
 refine ⟨by rw [tAI, hq']; simp, fun B M μ w vs hR hB hl hv => ?_⟩
 refine (zKT (hcx.at hs.length) hP (hb.at _) rfl hrun (by omega) hR hB hl hv).mono fun e w' he => ?_
 obtain ⟨us, M', A', μ', rfl, h1, h2, h3, h4, h5, h6, h7, h8⟩ := he
 have c1 := zQJ h5 hcl hnd
 rw [tAI]
 refine ⟨_, M', _, rfl, h2, c1.rel h5, yHn (by rw [zAX]; exact h1) (fun k d hd => ?_), fun d v hl => ?_, h4, h3⟩
 · obtain ⟨e, he, rfl⟩ := zBw _ out k d hd
   obtain ⟨v, q1, q2⟩ := h6 k e he
   exact ⟨v, q1, c1.vr q2 (fun id hid => by simpa using hro id (zBH he hid))⟩
 · obtain ⟨id, hr, hid⟩ := hl.refs
   have hix := zER hnd (hold id hid)
   have hd := hl.isRef
   have hv : VR M _ _ _ := c1.vr (.leaf (h8 d v hl)) (by rw [hr]; intro x hx; simp only [tAy] at hx; subst hx; exact tAB (hold _ hid))
   have := zGZ hv (zH4 hd hr hix).1
   have e := zMX (f := ixOf ids) (g := some) hd hr hix rfl
   rw [zFu] at e
   rw [e] at this
   exact this

theorem zBr {l : List D} (h : zBh l = true) {k : Nat} {d : D} (hd : l[k]? = some d) : zBU d = true := by
 induction l generalizing k with
 | nil => simp at hd
 | cons x r ih =>
   simp only [zBh, tAd] at h
   cases k with
   | zero => simp only [tAt, tAb] at hd; subst hd; exact h.1
   | succ k => exact ih h.2 (by simpa using hd)
def noM : Mem := fun _ => none
theorem VRi.dry {d : D} {v : Value} (h : VRi M d v) : zBU d = true → VRi noM d v := by
 induction h with
 | un v => exact fun _ => .un v
 | bo t => exact fun _ => .bo t
 | it k n => exact fun _ => .it k n
 | st l => exact fun _ => .st l
 | vec sz cl es a c hc hcl hz hs us hm h1 hv ih =>
   intro hn
   simp only [zBU, List.isEmpty_iff] at hn
   subst hn
   exact .vec sz cl [] a c hc hcl hz hs us (fun h => absurd rfl h) h1 (fun k d hd => by simp [flat] at hd)
 | nils => exact fun _ => .nils
 | emp b a c h => exact fun _ => .emp b a c h
 | agg cs vs hl us hu h1 hv ih => exact fun hn => .agg cs vs hl us hu h1 (fun k d hd => ih k d hd (zBr (by simpa only [zBU] using hn) hd))
 | tup cs vs hl us hu hv ih => exact fun hn => .tup cs vs hl us hu (fun k d hd => ih k d hd (zBr (by simpa only [zBU] using hn) hd))
 | elt cs ad us hm h1 hv ih =>
   intro hn
   simp only [zBU, List.isEmpty_iff] at hn
   subst hn
   exact .elt [] ad us (fun k hk => absurd hk (by simp)) h1 (fun k d hd => by simp at hd)
 | nilp => exact fun _ => .nilp
 | fn f first caps vf vc hf hc uf uc huf huc hvf hvc ihf ihc =>
   intro hn
   simp only [zBU, tAd] at hn
   exact .fn f first caps vf vc hf hc uf uc huf huc (fun k d hd => ihf k d hd (zBr hn.1 hd)) (fun k d hd => ihc k d hd (zBr hn.2 hd))
 | nilf => exact fun _ => .nilf
 | nilm => exact fun _ => .nilm
theorem VR.dry {L : D → Value → Prop} {d : D} {v : Value} (h : VR M L d v) : zBU d = true → VR noM L d v := by
 induction h with
 | imm h => exact fun hn => .imm (h.dry hn)
 | leaf h => exact fun _ => .leaf h
 | agg cs vs hl us hu h1 hv ih => exact fun hn => .agg cs vs hl us hu h1 (fun k d hd => ih k d hd (zBr (by simpa only [zBU] using hn) hd))
 | tup cs vs hl us hu hv ih => exact fun hn => .tup cs vs hl us hu (fun k d hd => ih k d hd (zBr (by simpa only [zBU] using hn) hd))
 | fn f first caps vf vc hf hc uf uc huf huc hvf hvc ihf ihc =>
   intro hn
   simp only [zBU, tAd] at hn
   exact .fn f first caps vf vc hf hc uf uc huf huc (fun k d hd => ihf k d hd (zBr hn.1 hd)) (fun k d hd => ihc k d hd (zBr hn.2 hd))
theorem zVX {e c : D} (h : zBU e = true) (hc : c ∈ e.cells) : zBU c = true := by
 cases e <;> simp only [D.cells, tAy] at hc <;> first | (subst hc; exact h) | skip
 rename_i cs
 obtain ⟨k, hk⟩ := tAT.1 hc
 exact zBr (by simpa only [zBU] using h) hk
theorem zPC {es : List D} (h : zBh es = true) {k : Nat} {d : D} (hd : (flat es)[k]? = some d) : zBU d = true := by
 have hm := tAB hd
 simp only [flat, List.mem_flatMap] at hm
 obtain ⟨e, he, hc⟩ := hm
 obtain ⟨j, hj⟩ := tAT.1 he
 exact zVX (zBr h hj) hc
theorem Rel.dry (hR : Rel B M A H μ w) (h : ∀ id, zFL (H id) = true) : Rel B noM A H μ w := by
 refine ⟨fun a v h => (by cases h), hR.given, hR.place, hR.apart, fun id β bs top hg hm a v h => (by cases h), fun id => ?_⟩
 have hb := hR.blk id
 have hn := h id
 cases hh : H id with
 | gone => trivial
 | box cs =>
   rw [hh] at hb hn
   obtain ⟨β, e, hlt, hf, hc⟩ := hb
   exact ⟨β, e, hlt, hf, fun k d hd => by obtain ⟨u, q1, q2, q3⟩ := hc k d hd; exact ⟨u, q1, q2, q3.dry (zBr hn hd)⟩⟩
 | row sz pl es =>
   rw [hh] at hb hn
   obtain ⟨h0, hz, hr⟩ := hb
   refine ⟨h0, hz, ?_⟩
   rcases hr with hr | ⟨β, bs, top, e1, hlt, ht, ho, hc⟩
   · exact .inl hr
   · exact .inr ⟨β, bs, top, e1, hlt, ht, ho, fun k d hd => by obtain ⟨u, q1, q2, q3, q4⟩ := hc k d hd; exact ⟨u, q1, q2, q3.dry (zPC hn hd), fun h => (q4 h).dry (zPC hn hd)⟩⟩
 | mp es =>
   rw [hh] at hb hn
   obtain ⟨β, ents, clk, e, hlt, hhe, hs, hc⟩ := hb
   simp only [zFL, tAw, tAd] at hn
   refine ⟨β, ents, clk, e, hlt, hhe, hs, fun k p hp => ?_⟩
   obtain ⟨x, q1, q2, q3, q4⟩ := hc k p hp
   have := hn p (tAB hp)
   exact ⟨x, q1, q2, q3.dry this.1, q4.dry this.2⟩

theorem Rel.killAll (hR : Rel B M A H μ w) (own : List Nat) : Rel B M A (Mir.killAll own H) μ w ∧ (∀ d v, Leaf A H μ d v → Leaf A (Mir.killAll own H) μ d v) := by
 have hk : ∀ d v, Leaf A H μ d v → Leaf A (Mir.killAll own H) μ d v := fun d v h => h.mono (fun _ h => h) (fun id hid => by
   unfold Mir.killAll
   split
   · exact .inl rfl
   · cases h : H id <;> simp)
 have hgg : ∀ id, Mir.killAll own H id ≠ .gone → H id ≠ .gone := fun id h => by
   unfold Mir.killAll at h
   split at h
   · exact absurd rfl h
   · exact h
 refine ⟨⟨hR.mem, fun id h => hR.given id (hgg id h), fun id β bs top h => hR.place id β bs top (hgg _ h), fun i j β b1 t1 b2 t2 h h' => hR.apart i j β b1 t1 b2 t2 (hgg _ h) (hgg _ h'), fun id β bs top h => hR.alone id β bs top (hgg _ h), fun id => ?_⟩, hk⟩
 unfold Mir.killAll
 split
 · trivial
 · exact (hR.blk id).mono (MLe.refl M) hk (tAl _) (fun _ _ _ _ => rfl)

theorem zDx : ∀ {l : List Nat}, distinct l = true → l.Nodup
 | [], _ => by simp
 | a :: r, h => by
   simp only [distinct, tAd, tAG, tA5, decide_eq_false_iff_not] at h
   rw [List.nodup_cons]
   exact ⟨h.1, zDx h.2⟩

theorem yBI {n : Nat} {own : List Nat} {hs : List Blk} {out : List D} {us : List Value} {r : D} {al : Bool} {M0 : Mem} (hR : Rel (· < n) M A H μ w) (hn : n ≤ w.heap.size) (hnew : ∀ a v, M a = some v → (al = true ∧ M0 a = some v) ∨ n ≤ a.block) (hnd : own.Nodup) (hh : own.mapM (finB own H) = some hs) (hr : finT own H out = some r)
   (hl : us.length = out.length) (hv : ∀ (k : Nat) (d : D), out[k]? = some d → ∃ v, us[k]? = some v ∧ VR M (Leaf A H μ) d v) :
   ∃ Mr μr, MLe M Mr ∧ (∀ a v, Mr a = some v → (al = true ∧ M0 a = some v) ∨ n ≤ a.block) ∧ Rel (· < n) Mr (· < hs.length) (ofHp hs) μr w ∧ VR Mr (Leaf (· < hs.length) (ofHp hs) μr) r (if h : us.toArray.size = 1 then us.toArray[0] else .tuple us.toArray) := by
 classical
 obtain ⟨g1, g2⟩ := zBy hh
 obtain ⟨hK, hKl⟩ := hR.killAll own
 have hrow : ∀ (j id : Nat), own[j]? = some id → ∃ sz pl es es', H id = .row sz pl es ∧ hs[j]? = some (.row sz true es') ∧ ((pl = true ∧ es' = es) ∨ (pl = false ∧ es.mapM (bor (killAll own H) 6) = some es')) := fun j id hj => by
   have hjl : j < hs.length := by rw [g1]; exact (tAi.1 hj).1
   obtain ⟨x, hx, hb⟩ := g2 j hs[j] (tAn hjl)
   rw [hj] at hx
   simp only [tAb] at hx
   subst hx
   have hsj : hs[j]? = some hs[j] := tAn hjl
   generalize hs[j] = b at hb hsj
   unfold finB at hb
   split at hb
   · rename_i sz es he
     simp only [tAb] at hb
     exact ⟨sz, true, es, es, he, by rw [hsj, ← hb], .inl ⟨rfl, rfl⟩⟩
   · rename_i sz es he
     simp only [tAe] at hb
     obtain ⟨es', hes, hb⟩ := hb
     exact ⟨sz, false, es, es', he, by rw [hsj, ← hb], .inr ⟨rfl, hes⟩⟩
   · cases hb
 have hlive : ∀ id ∈ own, H id ≠ .gone := fun id hid => by
   obtain ⟨j, hj⟩ := tAT.1 hid
   obtain ⟨sz, pl, es, es', he, _⟩ := hrow j id hj
   rw [he]; simp
 let Mr : Mem := fun a => if (∃ id ∈ own, ∃ bs top, μ id = some (a.block, bs, top)) then none else if a.block < n then M a else w.cell? a
 have hMr : MLe M Mr := fun a v h => by
   have hk : ¬ ∃ id ∈ own, ∃ bs top, μ id = some (a.block, bs, top) := fun ⟨id, hid, bs, top, hm⟩ => hR.alone id _ bs top (hlive id hid) hm a v h rfl
   simp only [Mr]
   rw [if_neg hk]
   split
   · exact h
   · exact hR.mem a v h
 have hN : ∀ id β bs top o v, killAll own H id ≠ .gone → μ id = some (β, bs, top) → w.cell? ⟨β, o, none⟩ = some v → Mr ⟨β, o, none⟩ = some v := fun id β bs top o v hg hm hc => by
   have hid : id ∉ own := fun h => hg (by simp [killAll, h])
   have hgg : H id ≠ .gone := fun e => hg (by simp [killAll, e])
   have hk : ¬ ∃ id ∈ own, ∃ bs top, μ id = some (β, bs, top) := fun ⟨id', hid', bs', top', hm'⟩ => hid ((hR.apart id' id β bs' top' bs top (hlive id' hid') hgg hm' hm) ▸ hid')
   simp only [Mr]
   rw [if_neg hk, if_neg (hR.place id β bs top hgg hm)]
   exact hc
 have hbor : ∀ (d d' : D) (v : Value), bor (killAll own H) 6 d = some d' → VR M (Leaf A H μ) d v → VRi Mr d' v := fun d d' v hb hv => zV8 hK hMr hN 6 6 (tAl _) d d' v hb (hv.mono (MLe.refl M) hKl)
 have hbor' : ∀ (m : Nat), m ≤ 6 → ∀ (d d' : D) (v : Value), bor (killAll own H) m d = some d' → VR M (Leaf A H μ) d v → VRi Mr d' v := fun m hm d d' v hb hv => zV8 hK hMr hN 6 m hm d d' v hb (hv.mono (MLe.refl M) hKl)
 have hget : ∀ j, ofHp hs j = (hs[j]?).getD .gone := fun j => zD2 hs j
 have hback : ∀ j, ofHp hs j ≠ .gone → ∃ id, own[j]? = some id := fun j hj => by
   cases hj' : own[j]? with
   | some id => exact ⟨id, rfl⟩
   | none =>
     refine absurd ?_ hj
     rw [hget, tBu (by rw [g1]; exact List.getElem?_eq_none_iff.1 hj')]; rfl
 refine ⟨Mr, fun j => (own[j]?).bind μ, hMr, fun a v h => ?_, ⟨fun a v h => ?_, fun j hj => ?_, fun j β bs top hj hm => ?_, fun i j β b1 t1 b2 t2 hi hj hm hm' => ?_, fun j β bs top hj hm a v h => ?_, fun j => ?_⟩, ?_⟩
 · simp only [Mr] at h
   split at h
   · cases h
   · split at h
     · exact hnew a v h
     · exact .inr (by omega)
 · simp only [Mr] at h
   split at h
   · cases h
   · split at h
     · exact hR.mem a v h
     · exact h
 · obtain ⟨id, hid⟩ := hback j hj
   show j < hs.length
   rw [g1]; exact (tAi.1 hid).1
 · obtain ⟨id, hid⟩ := hback j hj
   simp only [hid, tAg] at hm
   exact hR.place id β bs top (hlive id (tAB hid)) hm
 · obtain ⟨p, hp⟩ := hback i hi
   obtain ⟨q, hq⟩ := hback j hj
   simp only [hp, tAg] at hm
   simp only [hq, tAg] at hm'
   have := hR.apart p q β b1 t1 b2 t2 (hlive p (tAB hp)) (hlive q (tAB hq)) hm hm'
   subst this
   exact (List.getElem?_inj (tAi.1 hp).1 hnd).1 (hp.trans hq.symm)
 · obtain ⟨id, hid⟩ := hback j hj
   simp only [hid, tAg] at hm
   intro e
   subst e
   simp only [Mr] at h
   rw [if_pos ⟨id, tAB hid, bs, top, hm⟩] at h
   cases h
 · cases hid : own[j]? with
   | none =>
     have : ofHp hs j = .gone := by rw [hget, tBu (by rw [g1]; exact List.getElem?_eq_none_iff.1 hid)]; rfl
     rw [this]; trivial
   | some id =>
     obtain ⟨sz, pl, es, es', he, hsj, hes⟩ := hrow j id hid
     have hb := hR.blk id
     rw [he] at hb
     rw [hget, hsj]
     simp only [tBa, tAg]
     obtain ⟨h0, hz, hr⟩ := hb
     rcases hes with ⟨rfl, rfl⟩ | ⟨rfl, hes⟩
     · refine ⟨h0, hz, ?_⟩
       rcases hr with hr | ⟨β, bs, top, e1, hlt, ht, ho, hc⟩
       · exact .inl hr
       · refine .inr ⟨β, bs, top, e1, hlt, ht, ho, fun k d hd => ?_⟩
         obtain ⟨u, q1, q2, _, q4⟩ := hc k d hd
         have := (q4 rfl).mono hMr
         exact ⟨u, q1, q2, .imm this, fun _ => this⟩
     · obtain ⟨k1, k2⟩ := zBy hes
       have hz' : ∀ e ∈ es', e.cells.length = sz := fun e he' => by
         obtain ⟨k, hk⟩ := tAT.1 he'
         obtain ⟨x, hx, hbx⟩ := k2 k e hk
         rw [(zFX hbx).1]; exact hz x (tAB hx)
       refine ⟨h0, hz', ?_⟩
       rcases hr with ⟨rfl, hr⟩ | ⟨β, bs, top, e1, hlt, ht, ho, hc⟩
       · exact .inl ⟨by simpa using k1, hr⟩
       · refine .inr ⟨β, bs, top, e1, hlt, by omega, ho, fun k d hd => ?_⟩
         obtain ⟨i0, j0, e, rfl, hj0, hei, hej⟩ := zDu h0 hz' hd
         obtain ⟨x, hx, hbx⟩ := k2 i0 e hei
         obtain ⟨c0, m, hc0, hm, hbc⟩ := (zFX hbx).2 j0 d hej
         obtain ⟨u, q1, q2, q3, _⟩ := hc (i0 * sz + j0) c0 (by rw [flat_get hz hx hj0]; exact hc0)
         have := hbor' m hm c0 d u hbc q3
         exact ⟨u, q1, q2, .imm this, fun _ => this⟩
 · have hfv : ∀ (d d' : D) (v : Value), finV own H d = some d' → VR M (Leaf A H μ) d v → VR Mr (Leaf (· < hs.length) (ofHp hs) (fun j => (own[j]?).bind μ)) d' v := by
     intro d d' v h hv
     cases d
     case own id off len =>
       simp only [finV] at h
       split at h
       · rename_i j hj
         simp only [tAb] at h
         subst h
         have hoj := zBm hj
         obtain ⟨sz, pl, es, es', he, hsj, hes⟩ := hrow j id hoj
         have hl' := zC4 hv
         refine .leaf ?_
         simp only [Leaf, he] at hl'
         simp only [Leaf, hget, hsj, hoj, tBa, tAg]
         have hlen : es'.length = es.length := by
           rcases hes with ⟨_, rfl⟩ | ⟨_, hes⟩
           · rfl
           · exact (zBy hes).1
         rw [hlen]
         exact ⟨⟨(tAi.1 hsj).1, hl'.1.2⟩, hl'.2⟩
       · exact .imm (hbor _ _ _ h hv)
     all_goals
       simp only [finV] at h
       exact .imm (hbor _ _ _ h hv)
   have htup : ∀ (ds : List D), (ds.mapM (finV own H)).map D.tup = some r → us.length = ds.length → (∀ (k : Nat) (d : D), ds[k]? = some d → ∃ v, us[k]? = some v ∧ VR M (Leaf A H μ) d v) → VR Mr (Leaf (· < hs.length) (ofHp hs) (fun j => (own[j]?).bind μ)) r (.tuple us.toArray) := by
     intro ds h hl hv
     simp only [tAe] at h
     obtain ⟨rs, hrs, rfl⟩ := h
     obtain ⟨t1, t2⟩ := zBy hrs
     refine zIJ (by simp [hl, t1]) (fun k d hd => ?_)
     obtain ⟨x, hx, hxd⟩ := t2 k d hd
     obtain ⟨v, v1, v2⟩ := hv k x hx
     exact ⟨v, by simpa using v1, hfv x d v hxd v2⟩
   unfold finT at hr
   split at hr
   · rename_i d
     cases us with
     | nil => cases hl
     | cons u us =>
       cases us with
       | cons _ _ => simp at hl
       | nil =>
         obtain ⟨v, v1, v2⟩ := hv 0 d rfl
         simp only [tAt, tAb] at v1
         subst v1
         exact hfv d r u hr v2
   · rename_i hne
     have hne' : us.toArray.size ≠ 1 := fun h1 => by
       have : out.length = 1 := by rw [← hl]; simpa using h1
       obtain ⟨d, hd⟩ := List.length_eq_one_iff.1 this
       exact hne d hd
     rw [dif_neg hne']
     exact htup out hr hl hv

theorem zRc {g : FuncId} {fn : Func} {c : Code} {F : List D → Option Res} (hcx : CxOK cx) (hP : cx.P.follows .mixedOrders = true) (hb : BodyOK cx g fn c) (hF : ∀ ds r, F ds = some r → ds.length ≤ fn.ntmps ∧ ∃ ks al, zAg cx fn ks al ds = some r) : PureOK cx.P g F := by
 refine ⟨hb.enters, fun ds r hr => ?_⟩
 obtain ⟨hlt, ks, al, hr⟩ := hF ds r hr
 unfold zAg at hr
 rw [tAc] at hr
 obtain ⟨⟨out, H, nx⟩, hrun, hr⟩ := hr
 simp only [] at hr
 split at hr
 case isFalse => cases hr
 rename_i hc
 simp only [tAd, tAK] at hc
 obtain ⟨hdis, hdry⟩ := hc
 simp only [tAc, tAe] at hr
 obtain ⟨hs, hhs, r', hr', rfl⟩ := hr
 refine ⟨fun b hb => ?_, fun M w vs hmem hl hv => ?_⟩
 · obtain ⟨j, hj⟩ := tAT.1 hb
   obtain ⟨id, _, hf⟩ := (zBy hhs).2 j b hj
   unfold finB at hf
   split at hf
   · simp only [tAb] at hf; exact ⟨_, _, hf.symm⟩
   · simp only [tAe] at hf
     obtain ⟨es', _, hf⟩ := hf
     exact ⟨_, _, hf.symm⟩
   · cases hf
 · have hR0 : Rel (· < w.heap.size) M (· < ([] : List Blk).length) (ofHp []) (fun _ => none) w := by
     refine ⟨hmem, fun id h => absurd rfl h, fun id β bs top h => absurd rfl h, fun i j β b1 t1 b2 t2 h => absurd rfl h, fun id β bs top h => absurd rfl h, fun id => trivial⟩
   refine (zKT (hcx.at 0) hP (hb.at _) rfl hrun (by omega) hR0 (fun k h => h) hl (fun k d hd => by obtain ⟨v, h1, h2⟩ := hv k d hd; exact ⟨v, h1, .imm h2⟩)).mono fun e w' he => ?_
   obtain ⟨us, M', A', μ', rfl, h1, h2, h3, h4, h5, h6, h7, h8⟩ := he
   have hbel : Blw w.heap.size w w' := ⟨⟨h4.os, h4.tape, h4.output, h4.size, fun k hk => h4.block k hk⟩, h4.drawn⟩
   cases al with
   | true =>
     simp only [if_true] at hhs hr'
     obtain ⟨Mr, μr, q1, q2, q3, q4⟩ := yBI (al := true) (M0 := M) h5 h4.size (fun a v h => by rcases h3 a v h with h | h; exact .inl ⟨rfl, h⟩; exact .inr h) (zDx hdis) hhs hr' h1 h6
     exact ⟨_, Mr, μr, rfl, hbel, fun _ => h2.trans q1, q2, q3, q4⟩
   | false =>
     simp only [tAf, if_false, false_or] at hhs hr' hdry
     unfold dry at hdry
     simp only [] at hdry
     generalize hids : zAY H 60 (zAp out) [] = ids at hdry hhs hr'
     simp only [tAd, tAw] at hdry
     obtain ⟨⟨⟨hcl, hro⟩, hno⟩, hnb⟩ := hdry
     have c := zHP h5 hcl
     have hR2 : Rel (· < w.heap.size) M' (fun id => A' id ∧ id ∈ ids) (zBv ids H) μ' w' := by
       have := c.rel h5
       exact ⟨this.mem, this.given, fun id β bs top hg hm hlt => this.place id β bs top hg hm (.inl hlt), this.apart, this.alone, this.blk⟩
     have hR3 := hR2.dry (fun id => by
       unfold zBv
       split
       · rename_i h; exact hnb id (by simpa using h)
       · rfl)
     obtain ⟨Mr, μr, q1, q2, q3, q4⟩ := yBI (al := false) (M0 := M) hR3 h4.size (fun a v h => by cases h) (zDx hdis) hhs hr' h1 (fun k d hd => by
       obtain ⟨v, v1, v2⟩ := h6 k d hd
       have := c.vr v2 (fun id hid => by simpa using hro id (zBH hd hid))
       rw [zFu] at this
       exact ⟨v, v1, this.dry (zBr hno hd)⟩)
     exact ⟨_, Mr, μr, rfl, hbel, fun h => (by cases h), q2, q3, q4⟩

end
inductive Tok where
 | go
 | no
def Ev {α : Type} (t : Tok) (o : Option α) (Q : α → Tok → Prop) : Prop := ∃ a, o = some a ∧ Q a .go
def EvC (t : Tok) (d : D) (k : Bool → Tok → Prop) : Prop := ∃ b, d = .bo b ∧ k b .go
def Br (t : Tok) (c : Prop) (A B : Tok → Prop) : Prop := (c → A .go) ∧ (¬ c → B .go)
def Ms (t : Tok) (c : Prop) (A : Tok → Prop) : Prop := c ∧ A .go
def EvW (t : Tok) (d : D) (b : Bool) (A B : Tok → Prop) : Prop := match d with | .bo v => Br .go (v = b) A B | .tup _ => B .go | _ => False
def EvX (t : Tok) (cx : Cx) (c : Code) (st : St) (k : Ex → St → Tok → Prop) : Prop := Ev .go (exec cx c st) fun r t => k r.1 r.2 t
def EvO (t : Tok) (cx : Cx) (ops : List Oper) (l : List Oper) (st : St) (k : St → Tok → Prop) : Prop := Ev .go (zEZ cx ops l st) k
def EvO1 (t : Tok) (cx : Cx) (ops : List Oper) (o : Oper) (l : List Oper) (env : Nat → D) (H : Hp) (nx : Nat) (k : St → Tok → Prop) : Prop := Ev .go (opD cx env o H nx) fun r _ => EvO .go cx ops l ⟨zA4 env o.dst r.1, r.2.1, r.2.2⟩ k

section
variable {α β : Type} {cx : Cx} {ops l : List Oper} {env : Nat → D} {H : Hp} {nx nid : Nat} {st : St} {o : Oper} {c c1 c2 : Code} {k : Ex → St → Tok → Prop} {q : St → Tok → Prop} {Q : α → Tok → Prop} {t : Tok}

theorem Ev.congr {o o' : Option α} (h : o = o') : Ev t o Q = Ev t o' Q := by rw [h]
theorem EvC.congr {d d' : D} {k : Bool → Tok → Prop} (h : d = d') : EvC t d k = EvC t d' k := by rw [h]
theorem Br.congr {c c' : Prop} {A B : Tok → Prop} (h : c = c') : Br t c A B = Br t c' A B := by rw [h]
theorem Ms.congr {c c' : Prop} {A : Tok → Prop} (h : c = c') : Ms t c A = Ms t c' A := by rw [h]
theorem zCh {a : α} : Ev .go (some a) Q ↔ Q a .go := ⟨fun ⟨_, e, h⟩ => (by cases e; exact h), fun h => ⟨a, rfl, h⟩⟩
theorem zCK : Ev .go (none : Option α) Q ↔ False := ⟨fun ⟨_, e, _⟩ => (by cases e), fun h => h.elim⟩
theorem zPG {o : Option β} {f : β → α} : Ev .go (o.map f) Q ↔ Ev .go o fun a t => Q (f a) t := by
 cases o <;> simp [zCh, zCK]
theorem zGy {o : Option β} {f : β → Option α} : Ev .go (o.bind f) Q ↔ Ev .go o fun a t => Ev t (f a) Q := by
 cases o <;> simp [zCh, zCK]
theorem zVe {p : Prop} [Decidable p] {a : Option α} : Ev .go (if p then a else none) Q ↔ Ms .go p (fun t => Ev t a Q) := by
 by_cases h : p <;> simp [h, zCK, Ms, Ev]
theorem zV7 {A B : Tok → Prop} : Br .go True A B ↔ A .go := by simp [Br]
theorem zPX {A B : Tok → Prop} : Br .go False A B ↔ B .go := by simp [Br]
theorem zUi {A : Tok → Prop} : Ms .go True A ↔ A .go := by simp [Ms]
theorem yKq {p : Prop} {A B : Tok → Prop} (h : p → A .go) (h' : ¬ p → B .go) : Br .go p A B := ⟨h, h'⟩
theorem zAI {p : Prop} {A : Tok → Prop} (h : p) (h' : A .go) : Ms .go p A := ⟨h, h'⟩
theorem one_one {d : D} : one [d] = d := rfl
theorem yC9 {d e : D} : one [d, e] = .tup [d, e] := rfl
theorem zT8 {d e f : D} : one [d, e, f] = .tup [d, e, f] := rfl
theorem yBO {b : Bool} {k : Bool → Tok → Prop} : EvC .go (.bo b) k ↔ k b .go := ⟨fun ⟨_, e, h⟩ => (by cases e; exact h), fun h => ⟨b, rfl, h⟩⟩
theorem yEU {p : Prop} [Decidable p] {d e : D} {k : Bool → Tok → Prop} : EvC .go (if p then d else e) k ↔ Br .go p (fun t => EvC t d k) (fun t => EvC t e k) := by
 by_cases h : p <;> simp [h, Br, EvC]

theorem yBN {v b : Bool} {A B : Tok → Prop} : EvW .go (.bo v) b A B ↔ Br .go (v = b) A B := Iff.rfl
theorem zVg {ds : List D} {b : Bool} {A B : Tok → Prop} : EvW .go (.tup ds) b A B ↔ B .go := Iff.rfl
theorem yEP {p : Prop} [Decidable p] {d e : D} {b : Bool} {A B : Tok → Prop} : EvW .go (if p then d else e) b A B ↔ Br .go p (fun t => EvW t d b A B) (fun t => EvW t e b A B) := by
 by_cases h : p <;> simp [h, Br]
theorem EvW.congr {t : Tok} {d d' : D} {b : Bool} {A B : Tok → Prop} (h : d = d') : EvW t d b A B = EvW t d' b A B := by rw [h]
theorem zRv {id : Nat} {a : Array Oper} : EvX .go cx (.region id a false) st k ↔ EvO .go cx a.toList a.toList st (k .nrm) := by
 simp only [EvX, EvO, exec, tAf, if_false, zPG]
theorem yEN : EvX .go cx (.seq c1 c2) st k ↔ EvX .go cx c1 st fun e s t => match e with | .nrm => EvX t cx c2 s k | e => k e s t := by
 simp only [EvX, exec]
 cases h : exec cx c1 st with
 | none => simp [zCK]
 | some r =>
   obtain ⟨e, s⟩ := r
   cases e <;> simp [zCh]
theorem zZi {x : Operand} : EvX .go cx (.cond x c1 c2) st k ↔ EvC .go (ev st.env x) fun b t => Br t (b = true) (fun t => EvX t cx c1 st k) (fun t => EvX t cx c2 st k) := by
 simp only [EvX, exec, EvC, Br]
 cases h : ev st.env x <;> simp [zCK]
 rename_i t
 cases t <;> simp
theorem zVf {id : Nat} : EvX .go cx (.block id c) st k ↔ EvX .go cx c st fun e s t => match e with | .exit j => if j = id then k .nrm s t else k (.exit j) s t | e => k e s t := by
 simp only [EvX, exec]
 cases h : exec cx c st with
 | none => simp [zCK]
 | some r =>
   obtain ⟨e, s⟩ := r
   cases e <;> simp [zCh]
   rename_i j
   by_cases hj : j = id <;> simp [hj, zCh]
theorem zZg {id : Nat} : EvX .go cx (.exit id) st k ↔ k (.exit id) st .go := by simp [EvX, exec, zCh]
theorem yEO : EvX .go cx .ret st k ↔ k .ret st .go := by simp [EvX, exec, zCh]
theorem zZf : EvX .go cx .skip st k ↔ k .nrm st .go := by simp [EvX, exec, zCh]

def EvD (t : Tok) (cx : Cx) (ops : List Oper) (bs : List Nat) (nx : Nat) (l : List Oper) (i : Nat) (env : Nat → D) (H : Hp) (k : (Nat → D) → Hp → Tok → Prop) : Prop := Ev .go (zDw cx ops bs nx l i env H) fun r t => k r.1 r.2 t
def EvD1 (t : Tok) (cx : Cx) (ops : List Oper) (bs : List Nat) (nx : Nat) (o : Oper) (l : List Oper) (i : Nat) (env : Nat → D) (H : Hp) (k : (Nat → D) → Hp → Tok → Prop) : Prop := Ev .go (stepD cx nx (bs.getD i 0) i o env H) fun r _ => EvD .go cx ops bs nx l (i + 1) (zA4 env o.dst r.1) r.2 k
theorem zZh {id : Nat} {a : Array Oper} : EvX .go cx (.region id a true) ⟨env, H, nx⟩ k ↔ EvD .go cx a.toList (befs a.toList []) nx a.toList 0 env H fun env H t => k .nrm ⟨env, H, nx + a.size * 64⟩ t := by
 simp only [EvX, EvD, exec, if_true, zPG]
theorem yET {bs : List Nat} {i : Nat} {q : (Nat → D) → Hp → Tok → Prop} : EvD .go cx ops bs nx [] i env H q ↔ q env H .go := by simp [EvD, zDw, zCh]
theorem zVj {bs : List Nat} {i : Nat} {q : (Nat → D) → Hp → Tok → Prop} {dst : Option Tmp} {op : Op} {ty : TypeId} {pos : String} {after : Array Edge} : EvD .go cx ops bs nx (⟨dst, op, ty, pos, after, none⟩ :: l) i env H q ↔
   EvD1 .go cx ops bs nx ⟨dst, op, ty, pos, after, none⟩ l i env H q := by
 simp only [EvD, EvD1, zDw, zFm, tAg, if_true, zGy]
 constructor <;> exact id
theorem yES {bs : List Nat} {i : Nat} {q : (Nat → D) → Hp → Tok → Prop} {dst : Option Tmp} {op : Op} {ty : TypeId} {pos : String} {after : Array Edge} {g : Option (Nat × Bool)} : EvD1 .go cx ops bs nx ⟨dst, op, ty, pos, after, g⟩ l i env H q ↔
   Ev .go (stepD cx nx (bs.getD i 0) i ⟨dst, op, ty, pos, after, g⟩ env H) fun r t => EvD t cx ops bs nx l (i + 1) (zA4 env dst r.1) r.2 q := Iff.rfl
theorem yER : EvO .go cx ops [] st q ↔ q st .go := by simp [EvO, zEZ, zCh]
theorem zVh {dst : Option Tmp} {op : Op} {ty : TypeId} {pos : String} {after : Array Edge} : EvO .go cx ops (⟨dst, op, ty, pos, after, none⟩ :: l) ⟨env, H, nx⟩ q ↔ EvO1 .go cx ops ⟨dst, op, ty, pos, after, none⟩ l env H nx q := by
 simp only [EvO, EvO1, zEZ, zFm, tAg, if_true, zGy]
 constructor <;> exact id
theorem yEQ {dst : Option Tmp} {op : Op} {ty : TypeId} {pos : String} {after : Array Edge} {g : Option (Nat × Bool)} : EvO1 .go cx ops ⟨dst, op, ty, pos, after, g⟩ l env H nx q ↔ Ev .go (opD cx env ⟨dst, op, ty, pos, after, g⟩ H nx) fun r t => EvO t cx ops l ⟨zA4 env dst r.1, r.2.1, r.2.2⟩ q := Iff.rfl
def zIH : List Oper → Nat → Option Tmp
 | [], _ => none
 | o :: _, 0 => o.dst
 | _ :: r, n + 1 => zIH r n
theorem zKc : ∀ (l : List Oper) (j : Nat), (l[j]?).bind (·.dst) = zIH l j
 | [], _ => rfl
 | _ :: _, 0 => rfl
 | _ :: r, n + 1 => by simp only [tAV, zIH]; exact zKc r n
theorem zRA {dst : Option Tmp} {op : Op} {ty : TypeId} {pos : String} {after : Array Edge} {g : Option (Nat × Bool)} : zIH (⟨dst, op, ty, pos, after, g⟩ :: l) 0 = dst := rfl
theorem zRB {n : Nat} : zIH (o :: l) (n + 1) = zIH l n := rfl
theorem zVk {bs : List Nat} {i : Nat} {q : (Nat → D) → Hp → Tok → Prop} {dst : Option Tmp} {op : Op} {ty : TypeId} {pos : String} {after : Array Edge} {j : Nat} {b : Bool} : EvD .go cx ops bs nx (⟨dst, op, ty, pos, after, some (j, b)⟩ :: l) i env H q ↔
   Ev .go (zIH ops j) fun x t => EvW t (env x) b (fun t => EvD1 t cx ops bs nx ⟨dst, op, ty, pos, after, some (j, b)⟩ l i env H q) (fun t => EvD t cx ops bs nx l (i + 1) (zA4 env dst (.tup [])) H q) := by
 simp only [EvD, EvD1, zDw, zFm, zKc]
 cases h : zIH ops j with
 | none => simp [zCK]
 | some t =>
   simp only [zCh, EvW]
   cases h : env t <;> simp [zCK, Br]
   rename_i v
   by_cases hv : v = b
   · subst hv; simp [zGy]; constructor <;> exact id
   · simp [hv]
theorem zVi {dst : Option Tmp} {op : Op} {ty : TypeId} {pos : String} {after : Array Edge} {j : Nat} {b : Bool} : EvO .go cx ops (⟨dst, op, ty, pos, after, some (j, b)⟩ :: l) ⟨env, H, nx⟩ q ↔
   Ev .go (zIH ops j) fun x t => EvW t (env x) b (fun t => EvO1 t cx ops ⟨dst, op, ty, pos, after, some (j, b)⟩ l env H nx q) (fun t => EvO t cx ops l ⟨zA4 env dst (.tup []), H, nx⟩ q) := by
 simp only [EvO, EvO1, zEZ, zFm, zKc]
 cases h : zIH ops j with
 | none => simp [zCK]
 | some t =>
   simp only [zCh, EvW]
   cases h : env t <;> simp [zCK, Br]
   rename_i v
   by_cases hv : v = b
   · subst hv; simp [zGy]; constructor <;> exact id
   · simp [hv]

section
variable {dst : Option Tmp} {ty t : TypeId} {pos : String} {after : Array Edge} {g : Option (Nat × Bool)} {x y z : Operand}
theorem yIF {t : Tmp} : ev env (.tmp t) = env t := rfl
theorem zZe {v : Value} : ev env (.const v) = ofV v := rfl
theorem yEM {f : FuncId} : ev env (.func f) = .fn (.func f) [] [] := rfl
theorem yGm {f : Nat → D} {n : Nat} {v : D} : upd f n v n = v := by simp [upd]
theorem yCg {f : Nat → D} {n m : Nat} {v : D} (h : ¬ m = n) : upd f n v m = f m := by simp [upd, h]
theorem zSk {f : Hp} {n : Nat} {v : Blk} : upd f n v n = v := by simp [upd]
theorem zNZ {f : Hp} {n m : Nat} {v : Blk} (h : ¬ m = n) : upd f n v m = f m := by simp [upd, h]
theorem zXM {n : Nat} {v : D} : zA4 env (some n) v = upd env n v := rfl
theorem zXN {v : D} : zA4 env none v = env := rfl
theorem yC8 : opD cx env ⟨dst, .move x, ty, pos, after, g⟩ H nid = some (ev env x, H, nid) := rfl
theorem zT7 : opD cx env ⟨dst, .assign x, ty, pos, after, g⟩ H nid = if nilC x then zAr cx.P ty H nid else some (ev env x, H, nid) := rfl
theorem zYl {t : Tmp} : nilC (.tmp t) = false := rfl
theorem zUf {f : FuncId} : nilC (.func f) = false := rfl
theorem zYm : nilC (.const (.slice none 0 0)) = true := rfl
theorem zYo {k : IntKind} {n : Int} : nilC (.const (.int k n)) = false := rfl
theorem zUg {b : Bool} : nilC (.const (.bool b)) = false := rfl
theorem zM4 {b : ByteArray} : nilC (.const (.string b)) = false := rfl
theorem zYp {b : Array Value} : nilC (.const (.agg b)) = false := rfl
theorem yC7 : opD cx env ⟨dst, .pick x y z, ty, pos, after, g⟩ H nid = match ev env x with | .bo t => some (if t then ev env y else ev env z, H, nid) | _ => none := rfl
theorem zX9 : opD cx env ⟨dst, .alloc t, ty, pos, after, g⟩ H nid = (zDC cx.P t).bind fun z => (cellsOf z).map fun cs => (.ptr nid 0, upd H nid (.box cs), nid + 1) := rfl
theorem yHl : opD cx env ⟨dst, .box t x, ty, pos, after, g⟩ H nid = (cellsOf (ev env x)).map fun cs => (.ptr nid 0, upd H nid (.box cs), nid + 1) := rfl
theorem zX8 {ps : Array (Nat × Operand)} : opD cx env ⟨dst, .build t ps, ty, pos, after, g⟩ H nid = (zDm cx.P t (ps.toList.map fun (i, x) => (i, ev env x))).map fun d => (d, H, nid) := rfl
theorem zFJ {n : Nat} {ps : Array (Nat × Operand)} : opD cx env ⟨dst, .buildSlice t n ps, ty, pos, after, g⟩ H nid = (zBL cx.P t).bind fun e => (szT cx.P e).bind fun sz => (zDn cx.P e sz).bind fun z =>
   if n * sz ≤ 16777216 ∧ 0 ≤ n then (zAz sz (List.replicate n z) (ps.toList.map fun (i, x) => (i, ev env x))).map fun es => (.own nid 0 n, upd H nid (.row sz (immL es) es), nid + 1) else none := rfl
theorem zT5 : opD cx env ⟨dst, .load t x, ty, pos, after, g⟩ H nid = (deref H (ev env x)).bind fun cs => (ldD cx.P t cs).map fun d => (d, H, nid) := rfl
theorem zO1 : opD cx env ⟨dst, .store t x y, ty, pos, after, g⟩ H nid = (cellsOf (ev env y)).bind fun xs => if szT cx.P t = some xs.length then (zKL H (ev env x) xs).map fun H' => (.un, H', nid) else none := rfl
theorem zHT : opD cx env ⟨dst, .nilCheck x, ty, pos, after, g⟩ H nid = (zB1 H (ev env x)).map fun d => (d, H, nid) := rfl
theorem yHm {op : BinOp} {t' : TypeId} : opD cx env ⟨dst, .binOp op t x y t', ty, pos, after, g⟩ H nid = (binD cx.P op t (ev env x) (ev env y)).map fun d => (d, H, nid) := rfl
theorem yJP {op : UnOp} : opD cx env ⟨dst, .unOp op t x, ty, pos, after, g⟩ H nid = (unD op (ev env x)).map fun d => (d, H, nid) := rfl
theorem zM1 {fn : Fn} {first caps : Array Operand} : opD cx env ⟨dst, .makeFunc fn first caps, ty, pos, after, g⟩ H nid = some (.fn fn (first.toList.map (ev env)) (caps.toList.map (ev env)), H, nid) := rfl
theorem zLl : opD cx env ⟨dst, .makeSlice t x y, ty, pos, after, g⟩ H nid = zDe cx.P t H nid (ev env x) (ev env y) := rfl
theorem zO3 {lo hi mx : Option Operand} : opD cx env ⟨dst, .slice t x lo hi mx, ty, pos, after, g⟩ H nid = (zAW cx.P H t (ev env x) (lo.map (ev env)) (hi.map (ev env)) (mx.map (ev env))).map fun d => (d, H, nid) := rfl
theorem zGG {f : Nat} : opD cx env ⟨dst, .fieldAddr t x f, ty, pos, after, g⟩ H nid = (zAM cx.P H t (ev env x) f).map fun d => (d, H, nid) := rfl
theorem zO4 {f : Nat} : opD cx env ⟨dst, .field t x f, ty, pos, after, g⟩ H nid = match ev env x with | .agg cs => (zAQ cx.P t f).bind fun fl => (zAx cx.P fl.type cs fl.offset).map fun d => (d, H, nid) | _ => none := rfl
theorem zGF : opD cx env ⟨dst, .indexAddr t x y, ty, pos, after, g⟩ H nid = (zAP cx.P H t (ev env x) (ev env y)).map fun d => (d, H, nid) := rfl
theorem zX7 : opD cx env ⟨dst, .index t x y, ty, pos, after, g⟩ H nid = (zDL cx.P t (ev env x) (ev env y)).map fun d => (d, H, nid) := rfl
theorem zLm {b : Bool} : opD cx env ⟨dst, .lookup t x y b, ty, pos, after, g⟩ H nid = (zDt cx.P H t (ev env x) (ev env y) b).map fun d => (d, H, nid) := rfl
theorem zLk : opD cx env ⟨dst, .mapUpdate t x y z, ty, pos, after, g⟩ H nid = (zEu cx.P H t (ev env x) (ev env y) (ev env z)).map fun H' => (.un, H', nid) := rfl
theorem zT6 : opD cx env ⟨dst, .insert t x y z, ty, pos, after, g⟩ H nid = (zEu cx.P H t (ev env x) (ev env y) (ev env z)).map fun H' => (.un, H', nid) := rfl
theorem zRf {j : Nat} : opD cx env ⟨dst, .extract x j, ty, pos, after, g⟩ H nid = match ev env x with | .tup ds => (ds[j]?).map fun d => (d, H, nid) | _ => none := rfl
def zAA (P : Program) (src dst : TypeId) (x : D) (H : Hp) (nid : Nat) : Option (D × Hp × Nat) := match P.underlying src, P.underlying dst, x with
   | some _, some (.int k), .it _ n => some (.it k (k.wrap n), H, nid)
   | some .string, some .string, .st l => some (.st l, H, nid)
   | some .string, some (.slice e), .st l => match P.underlying e, szT P e with
     | some (.int .u8), some 1 => if l.length ≤ 140737488355328 then some (.own nid 0 l.length, upd H nid (.row 1 true (l.map fun c => .it .u8 c.toNat)), nid + 1) else none
     | _, _ => none
   | some (.slice e), some .string, d => match P.underlying e, szT P e with
     | some (.int .u8), some 1 => if zBP P src d then (elems H 1 d).bind fun (_, es) => (es.mapM byteOfD).map fun l => (.st l, H, nid) else none
     | _, _ => none
   | _, _, _ => none
theorem zIU {t' : TypeId} : opD cx env ⟨dst, .convert t t' x, ty, pos, after, g⟩ H nid = zAA cx.P t t' (ev env x) H nid := rfl
theorem zM2 {f : Operand} {args : Array Operand} {ts : Array TypeId} : opD cx env ⟨dst, .call ⟨.value f, args, ts⟩, ty, pos, after, g⟩ H nid = match ev env f with | .fn (.func g) first caps => zBI cx g (first ++ args.toList.map (ev env) ++ caps) H nid | _ => none := rfl
theorem zDI {b : Builtin} {args : Array Operand} {ts : Array TypeId} : opD cx env ⟨dst, .call ⟨.builtin b, args, ts⟩, ty, pos, after, g⟩ H nid = zAd cx b ts.toList (args.toList.map (ev env)) H nid := rfl
end

theorem zL3 {g : FuncId} {F : List D → Option Res} {args : List D} (ho : cx.orc g = some F) (hi : immL args = true) : zBI cx g args H nid = (F args).map fun r => (ren (fun i => some (nid + i)) r.r, zB8 H nid r.hs, nid + r.hs.length) := by
 have hm : ∀ l : List D, immL l = true → l.mapM (bor H 3) = some l := by
   intro l
   induction l with
   | nil => intro _; rfl
   | cons x r ih => intro h; simp only [immL, tAd] at h; rw [tA8, zFg 3 x h.1, ih h.2]; rfl
 unfold zBI
 simp only [ho, hm args hi, hi, tAg, tBI, Bool.and_false, tAf, if_false]
 cases F args <;> rfl

theorem zUW {f : St → Option (Ex × St)} : ∀ {n m : Nat} {st : St} {r : Ex × St}, n ≤ m → iter f n st = some r → iter f m st = some r := by
 intro n
 induction n with
 | zero => intro m st r _ h; cases h
 | succ n ih =>
   intro m st r hm h
   obtain ⟨m, rfl⟩ : ∃ m', m = m' + 1 := ⟨m - 1, by omega⟩
   simp only [iter] at h ⊢
   cases hf : f st with
   | none => rw [hf] at h; cases h
   | some q =>
     obtain ⟨e, s⟩ := q
     rw [hf] at h
     cases e with
     | nrm => exact ih (by omega) h
     | _ => exact h

theorem yHt {g : Nat → Option α} {n : Nat} {r : α} (hm : ∀ {n m : Nat} {r : α}, n ≤ m → g n = some r → g m = some r) (h : g n = some r) : lim g = some r := by
 have hex : ∃ a n, g n = some a := ⟨r, n, h⟩
 unfold lim
 rw [dif_pos hex]
 obtain ⟨n', h'⟩ := Classical.choose_spec hex
 rcases Nat.le_total n n' with hle | hle
 · rw [← h', hm hle h]
 · rw [← h, hm hle h']

theorem zJ7 {σ : Type} (I : σ → St) (J : σ → Prop) (m : σ → Nat) (ks : List Nat) (hk : cx.kp (zBt c) = some ks) (K : Ex → St → Prop)
   (h : ∀ s, J s → EvX .go cx c (I s) fun e st' _ => match e with | .nrm => ∃ s', tidy cx.bs ks st' = some (I s') ∧ J s' ∧ m s' < m s | e => K e st') (hK : ∀ e s, K e s → e ≠ .nrm → k e s .go)
   {s : σ} (h0 : tidy cx.bs ks st = some (I s)) (hJ : J s) : EvX .go cx (.loop c) st k := by
 have key : ∀ (n : Nat) (s : σ) (st : St), m s = n → J s → tidy cx.bs ks st = some (I s) → ∃ n r, iter (fun s => (match cx.kp (zBt c) with | some ks => tidy cx.bs ks s | none => some s).bind fun s => exec cx c s) n st = some r ∧ K r.1 r.2 ∧ r.1 ≠ .nrm := by
   intro n
   induction n using Nat.strongRecOn with
   | _ n ih =>
     intro s st hm hJ ht
     obtain ⟨⟨e, st'⟩, he, hq⟩ := h s hJ
     cases e with
     | nrm =>
       obtain ⟨s', t1, t2, t3⟩ := hq
       obtain ⟨n', r, r1, r2⟩ := ih (m s') (by omega) s' st' rfl t2 t1
       refine ⟨n' + 1, r, ?_, r2⟩
       simp only [iter, hk, ht, tAg, he]
       simp only [hk] at r1
       exact r1
     | exit j => exact ⟨1, (.exit j, st'), by simp only [iter, hk, ht, tAg, he], hq, by simp⟩
     | gto j => exact ⟨1, (.gto j, st'), by simp only [iter, hk, ht, tAg, he], hq, by simp⟩
     | ret => exact ⟨1, (.ret, st'), by simp only [iter, hk, ht, tAg, he], hq, by simp⟩
 obtain ⟨n, r, r1, r2, r3⟩ := key _ s st rfl hJ h0
 refine ⟨r, ?_, hK r.1 r.2 r2 r3⟩
 exact yHt (fun hle => zUW hle) r1

theorem zD0 {fn : Func} {c : Code} {ds : List D} {r : Res} (hb : fn.body = some c) (hbs : cx.bs = 0) (ks : List Nat) (al : Bool) (h : EvX .go cx c ⟨zAq ds, ofHp [], 0⟩ fun e st t => (e = .nrm ∨ e = .ret) ∧ Ev t (resD cx.P st fn.results.toList) fun out t => (distinct (zC5 out ks) && (al || dry out st.H)) = true ∧
     Ev t ((zC5 out ks).mapM (finB (zC5 out ks) (if al then st.H else zBv (zAY st.H 60 (zAp out) []) st.H))) fun hs t => Ev t (finT (zC5 out ks) (if al then st.H else zBv (zAY st.H 60 (zAp out) []) st.H) out) fun d _ => (⟨al, d, hs⟩ : Res) = r) : zAg cx fn ks al ds = some r := by
 obtain ⟨⟨e, s⟩, he, hen, out, ho, hd, hs, hhs, d, hd', rfl⟩ := h
 have hcx : { cx with bs := 0 } = cx := by rw [← hbs]
 unfold zAg runD
 rw [hb, hcx]
 simp only [tAg, tAu, he]
 rcases hen with rfl | rfl <;> simp only [ho, tAF, tAg, hd, if_true, hhs, hd']

def yEg : D → Bool
 | .bo _ => true
 | .it _ _ => true
 | .st _ => true
 | .nils => true
 | _ => false
def zDN : D → Bool
 | .agg cs => cs.all yEg
 | .bo _ => true
 | .it _ _ => true
 | .st _ => true
 | .nils => true
 | .nilp => true
 | .nilf => true
 | .nilm => true
 | _ => false
def zAB : List D → Bool
 | [] => true
 | d :: r => zDN d && zAB r
theorem zFd {d : D} (h : zDN d = true) : refs d = [] ∧ zBU d = true ∧ immD d = true ∧ ∀ id off len, d ≠ .own id off len := by
 have hl : ∀ cs : List D, (∀ d ∈ cs, yEg d = true) → zAp cs = [] ∧ zBh cs = true ∧ immL cs = true := by
   intro cs
   induction cs with
   | nil => intro _; simp [zAp, zBh, immL]
   | cons x r ih =>
     intro h
     obtain ⟨h1, h2, h3⟩ := ih fun d hd => h d (by simp [hd])
     have hx := h x (by simp)
     cases x <;> simp [yEg] at hx <;> simp [zAp, zBh, immL, refs, zBU, immD, h1, h2, h3]
 cases d <;> simp [zDN] at h <;> simp [refs, zBU, immD]
 obtain ⟨h1, h2, h3⟩ := hl _ h
 exact ⟨h1, h2, h3⟩
theorem zD9 : ∀ {l : List D}, zAB l = true → zAp l = [] ∧ zBh l = true ∧ ∀ d ∈ l, zDN d = true
 | [], _ => by simp [zAp, zBh]
 | d :: r, h => by
   simp only [zAB, tAd] at h
   obtain ⟨h1, h2, h3⟩ := zD9 h.2
   obtain ⟨g1, g2, _⟩ := zFd h.1
   refine ⟨by simp [zAp, g1, h1], by simp [zBh, g2, h2], fun e he => ?_⟩
   rcases tAr.1 he with rfl | he
   · exact h.1
   · exact h3 e he
theorem zJZ {own : List Nat} {H : Hp} {d : D} (h : zDN d = true) : finV own H d = some d := by
 obtain ⟨_, _, hi, hn⟩ := zFd h
 have := zFg (H := killAll own H) 6 d hi
 cases d <;> simp only [finV] <;> first | exact this | exact absurd rfl (hn _ _ _)
theorem zU9 {own : List Nat} {H : Hp} {out : List D} (h : zAB out = true) : finT own H out = some (one out) := by
 obtain ⟨_, _, hf⟩ := zD9 h
 have hm : ∀ l : List D, (∀ d ∈ l, zDN d = true) → l.mapM (finV own H) = some l := by
   intro l
   induction l with
   | nil => intro _; rfl
   | cons x r ih => intro h; rw [tA8, zJZ (h x (by simp)), ih (fun d hd => h d (by simp [hd]))]; rfl
 cases out with
 | nil => rfl
 | cons d r =>
   cases r with
   | nil => exact zJZ (hf d (by simp))
   | cons e r => simp only [finT, one, hm _ hf, tAF]

theorem zAf {fn : Func} {c : Code} {ds : List D} {r : Res} {rs : List ResultVar} (hb : fn.body = some c) (hbs : cx.bs = 0) (hrs : fn.results.toList = rs) (h : EvX .go cx c ⟨zAq ds, ofHp [], 0⟩ fun e st t => (e = .nrm ∨ e = .ret) ∧ Ev t (resD cx.P st rs) fun out _ => zAB out = true ∧ Res.flat (one out) = r) : zAg cx fn [] false ds = some r := by
 obtain ⟨⟨e, s⟩, he, hen, out, ho, hf, rfl⟩ := h
 refine zD0 hb hbs [] false ⟨(e, s), he, hen, out, hrs ▸ ho, ?_, [], rfl, one out, zU9 hf, rfl⟩
 obtain ⟨h1, h2, _⟩ := zD9 hf
 simp [zC5, distinct, dry, h1, h2, zAY, closed]

theorem zXX {P : Program} : resD P st [] = some [] := rfl
theorem zXW {P : Program} {t : Tmp} {r : List ResultVar} : resD P ⟨env, H, nx⟩ (.tmp t :: r) = (resD P ⟨env, H, nx⟩ r).map (env t :: ·) := rfl
theorem zTF {P : Program} {a : Tmp} {t : TypeId} {r : List ResultVar} : resD P ⟨env, H, nx⟩ (.cell a t :: r) = (deref H (env a)).bind fun cs => (ldD P t cs).bind fun d => (resD P ⟨env, H, nx⟩ r).map (d :: ·) := rfl
end
def lk {α : Type} : List (FuncId × α) → FuncId → Option α
 | [], _ => none
 | (a, F) :: r, g => if g = a then some F else lk r g
theorem zLr {α : Type} : ∀ {l : List (FuncId × α)} {g : FuncId} {F : α}, lk l g = some F → (g, F) ∈ l
 | [], _, _, h => by cases h
 | (a, G) :: r, g, F, h => by
   simp only [lk] at h
   split at h
   · rename_i e; simp only [tAb] at h; subst h; subst e; simp
   · exact tBW _ (zLr h)
theorem zM8 {α : Type} : ∀ {l : List (FuncId × α)} {g : FuncId}, g ∈ l.map (·.1) → (lk l g).isSome = true
 | [], _, h => by simp at h
 | (a, G) :: r, g, h => by
   simp only [lk]
   split
   · rfl
   · rename_i e; exact zM8 (by simpa [e] using h)

structure Known where
 P : Program
 orcs : List (FuncId × (List D → Option Res))
 exts : List (FuncId × (List D → Option D))
 effs : List (FuncId × (List D → List Blk → Option (D × List Blk)))
def Known.cx (K : Known) (kp : Nat → Option (List Nat)) : Cx := ⟨K.P, K.orcs.map (·.1) ++ K.exts.map (·.1), lk K.orcs, lk K.exts, lk K.effs, 0, kp⟩
structure Known.OK (K : Known) : Prop where
 orcs : ∀ p ∈ K.orcs, PureOK K.P p.1 p.2
 exts : ∀ p ∈ K.exts, ExtOK K.P p.1 p.2
 effs : ∀ p ∈ K.effs, EffOK K.P p.1 p.2
theorem Known.OK.cx {K : Known} (h : K.OK) (kp : Nat → Option (List Nat)) : CxOK (K.cx kp) := by
 refine ⟨fun g hg => ?_, fun g F hF => h.orcs (g, F) (zLr hF), fun g F hF => h.exts (g, F) (zLr hF), fun g F hF => h.effs (g, F) (zLr hF)⟩
 simp only [Known.cx, tAz] at hg
 rcases hg with hg | hg
 · exact .inl (zM8 hg)
 · exact .inr (zM8 hg)
def Known.pure (K : Known) (g : FuncId) (F : List D → Option Res) : Known := { K with orcs := (g, F) :: K.orcs }
def Known.eff (K : Known) (g : FuncId) (F : List D → List Blk → Option (D × List Blk)) : Known := { K with effs := (g, F) :: K.effs }
def Known.ext (K : Known) (g : FuncId) (F : List D → Option D) : Known := { K with exts := (g, F) :: K.exts }
theorem Known.OK.pure {K : Known} (h : K.OK) {g : FuncId} {F : List D → Option Res} (hF : PureOK K.P g F) : (K.pure g F).OK :=
 ⟨fun p hp => by
   simp only [Known.pure, tAr] at hp
   rcases hp with rfl | hp
   · exact hF
   · exact h.orcs p hp, h.exts, h.effs⟩
theorem Known.OK.eff {K : Known} (h : K.OK) {g : FuncId} {F : List D → List Blk → Option (D × List Blk)} (hF : EffOK K.P g F) : (K.eff g F).OK :=
 ⟨h.orcs, h.exts, fun p hp => by
   simp only [Known.eff, tAr] at hp
   rcases hp with rfl | hp
   · exact hF
   · exact h.effs p hp⟩
theorem Known.OK.ext {K : Known} (h : K.OK) {g : FuncId} {F : List D → Option D} (hF : ExtOK K.P g F) : (K.ext g F).OK :=
 ⟨h.orcs, fun p hp => by
   simp only [Known.ext, tAr] at hp
   rcases hp with rfl | hp
   · exact hF
   · exact h.exts p hp, h.effs⟩
theorem Known.OK.none (P : Program) : (⟨P, [], [], []⟩ : Known).OK := ⟨fun p h => (by cases h), fun p h => (by cases h), fun p h => (by cases h)⟩

structure Body (P : Program) (rd : List FuncId) (g : FuncId) (fn : Func) (c : Code) : Prop where
 found : P.funcs[g]? = some fn
 body : fn.body = some c
 name : (fn.name == "runtime.NumGoroutine") = false
 code : codeOk rd fn.ntmps c = true
theorem Known.fn {K : Known} (h : K.OK) (hP : K.P.follows .mixedOrders = true) {g : FuncId} {fn : Func} {c : Code} {F : List D → Option Res} (kp : Nat → Option (List Nat)) (hb : Body K.P (K.cx kp).rd g fn c)
   (hF : ∀ ds r, F ds = some r → ds.length ≤ fn.ntmps ∧ ∃ ks al, zAg (K.cx kp) fn ks al ds = some r) : (K.pure g F).OK :=
 h.pure (zRc (h.cx kp) hP ⟨hb.found, hb.body, hb.name, hb.code⟩ hF)
theorem Known.fnEff {K : Known} (h : K.OK) (hP : K.P.follows .mixedOrders = true) {g : FuncId} {fn : Func} {c : Code} {F : List D → List Blk → Option (D × List Blk)} (kp : Nat → Option (List Nat)) (hb : Body K.P (K.cx kp).rd g fn c)
   (hF : ∀ ds hs r, F ds hs = some r → ds.length ≤ fn.ntmps ∧ zCm (K.cx kp) fn ds hs = some r) : (K.eff g F).OK :=
 h.eff (zVo (h.cx kp) hP ⟨hb.found, hb.body, hb.name, hb.code⟩ hF)
end Go.Mir
namespace Go.Mir
mutual
theorem zCp (f : Nat → Option Nat) : ∀ d : D, refs d = [] → ren f d = d
 | .own .., h => by simp [refs] at h
 | .ptr .., h => by simp [refs] at h
 | .rowp .., h => by simp [refs] at h
 | .map _, h => by simp [refs] at h
 | .agg cs, h => by rw [ren, zC0 f cs (by simpa [refs] using h)]
 | .tup cs, h => by rw [ren, zC0 f cs (by simpa [refs] using h)]
 | .fn g p q, h => by
   have h' : zAp p = [] ∧ zAp q = [] := by simpa [refs] using h
   rw [ren, zC0 f p h'.1, zC0 f q h'.2]
 | .un, _ => rfl
 | .bo _, _ => rfl
 | .it .., _ => rfl
 | .st _, _ => rfl
 | .vec .., _ => rfl
 | .nils, _ => rfl
 | .emp _, _ => rfl
 | .elt _, _ => rfl
 | .nilp, _ => rfl
 | .nilf, _ => rfl
 | .nilm, _ => rfl
theorem zC0 (f : Nat → Option Nat) : ∀ l : List D, zAp l = [] → renL f l = l
 | [], _ => rfl
 | d :: r, h => by
   have h' : refs d = [] ∧ zAp r = [] := by simpa [zAp] using h
   rw [renL, zCp f d h'.1, zC0 f r h'.2]
end

theorem zTH {l : List D} (h : zAp l = []) {d : D} (hd : d ∈ l) : refs d = [] := by
 induction l with
 | nil => simp at hd
 | cons x r ih =>
   have h' : refs x = [] ∧ zAp r = [] := by simpa [zAp] using h
   rcases tAr.1 hd with rfl | hd
   · exact h'.1
   · exact ih h'.2 hd

theorem zKJ {ks : List Nat} {st : St} (h : zAp (ks.map st.env) = []) : tidy 0 ks st = some ⟨zDJ (ks.map fun t => (t, st.env t)), ofHp [], 0⟩ := by
 unfold tidy zCH
 simp only [h, List.range_zero, List.flatMap_nil, tAo]
 have h1 : zAY st.H 60 [] [] = [] := by simp [zAY]
 rw [h1]
 have h2 : (ks.map fun t => (t, ren (ixOf []) (st.env t))) = ks.map fun t => (t, st.env t) := tBo (fun t ht => by
   rw [zCp _ _ (zTH h (tBk.2 ⟨t, ht, rfl⟩))])
 simp [closed, h2]

section
variable {cx : Cx} {c : Code} {st : St} {k : Ex → St → Tok → Prop}
theorem zAU {σ : Type} (I : σ → List D) (J : σ → Prop) (m : σ → Nat) (ks : List Nat) (hbs : cx.bs = 0) (hk : cx.kp (zBt c) = some ks) (hI : ∀ s, zAp (I s) = [])
   (h : ∀ s, J s → EvX .go cx c ⟨zDJ (ks.zip (I s)), ofHp [], 0⟩ fun e st' t => match e with | .nrm => ∃ s', ks.map st'.env = I s' ∧ J s' ∧ m s' < m s | e => k e st' t)
   {s : σ} (h0 : ks.map st.env = I s) (hJ : J s) : EvX .go cx (.loop c) st k := by
 have hz : ∀ (f : Nat → D) (l : List D), ks.map f = l → (ks.map fun t => (t, f t)) = ks.zip l := by
   intro f l h
   subst h
   clear h0 hk h
   induction ks with
   | nil => rfl
   | cons a r ih => simp only [tAO, List.zip_cons_cons, ih]
 refine zJ7 (fun s => ⟨zDJ (ks.zip (I s)), ofHp [], 0⟩) J m ks hk (fun e s => e ≠ .nrm ∧ k e s .go) (fun s hs => ?_) (fun e s h _ => h.2) (s := s) ?_ hJ
 · obtain ⟨r, hr, hq⟩ := h s hs
   refine ⟨r, hr, ?_⟩
   obtain ⟨e, st'⟩ := r
   cases e with
   | nrm =>
     obtain ⟨s', q1, q2, q3⟩ := hq
     refine ⟨s', ?_, q2, q3⟩
     rw [hbs, zKJ (by rw [q1]; exact hI s'), hz _ _ q1]
   | _ => exact ⟨by simp, hq⟩
 · rw [hbs, zKJ (by rw [h0]; exact hI s), hz _ _ h0]
end

theorem yEn (a b : Int) : (a == b) = decide (a = b) := by by_cases h : a = b <;> simp [h]
theorem yEm (a b : Int) : (a != b) = !decide (a = b) := by by_cases h : a = b <;> simp [h]
theorem zYg {t : Nat} {d : D} {r : List (Nat × D)} : zDJ ((t, d) :: r) t = d := by simp [zDJ]
theorem zUb {t k : Nat} {d : D} {r : List (Nat × D)} (h : ¬ k = t) : zDJ ((t, d) :: r) k = zDJ r k := by simp [zDJ, h]
theorem zTG : zAp [] = [] := rfl
theorem yCT {k : IntKind} {n : Int} : refs (.it k n) = [] := rfl
theorem yCU {b : Bool} : refs (.bo b) = [] := rfl
theorem yCS {l : List UInt8} : refs (.st l) = [] := rfl

def ivec : Option Bool → List Int → D
 | none, [] => .nils
 | o, zs => .vec 1 (o.getD false) (zs.map (D.it .i64))
theorem zIX (o : Option Bool) (zs : List Int) : (ivec o zs = .nils ∧ zs = []) ∨ ivec o zs = .vec 1 (o.getD false) (zs.map (D.it .i64)) := by
 cases o <;> cases zs <;> simp [ivec]
theorem zAZ {o : Option Bool} {zs : List Int} : refs (ivec o zs) = [] := by rcases zIX o zs with ⟨h, _⟩ | h <;> rw [h] <;> rfl
theorem zYY {o : Option Bool} {zs : List Int} : immD (ivec o zs) = true := by rcases zIX o zs with ⟨h, _⟩ | h <;> rw [h] <;> rfl
theorem zXZ {f : Nat → Option Nat} {o : Option Bool} {zs : List Int} : ren f (ivec o zs) = ivec o zs := zCp f _ zAZ
section
variable {P : Program} {H : Hp} {t e : TypeId} {o : Option Bool} {zs : List Int} {k : IntKind}
end
end Go.Mir
namespace Go.Mir
def layB (P : Program) : Nat → List Field → Nat → Bool
 | off, [], tot => off == tot
 | off, f :: r, tot => f.offset == off && layB P (off + P.cellsOf f.type) r tot
def zEB (P : Program) : Nat → TypeId → Bool
 | 0, _ => false
 | n + 1, t => match P.underlying t with
   | some .bool => true
   | some (.int _) => true
   | some .string => true
   | some (.slice e) => zEB P n e && decide (0 < P.cellsOf e) && (aggT P e).isSome && decide (aggT P e = some true ∨ P.cellsOf e = 1)
   | some (.struct fs) => fs.toList.all (fun f => zEB P n f.type) && layB P 0 fs.toList (P.cellsOf t)
   | _ => false

def TD (P : Program) : Nat → TypeId → List D → Prop
 | 0, _, _ => False
 | n + 1, t, ds => match P.underlying t with
   | some .bool => ∃ b, ds = [.bo b]
   | some (.int k) => ∃ x, ds = [.it k x] ∧ k.min ≤ x ∧ x ≤ k.max
   | some .string => ∃ l, ds = [.st l] ∧ l.length ≤ reachBytes
   | some (.slice e) => ∃ es, ds = [.vec (P.cellsOf e) false es] ∧ es.length * P.bytesOf e ≤ reachBytes ∧
       ∀ x ∈ es, x.cells.length = P.cellsOf e ∧ TD P n e x.cells ∧ (aggT P e = some true → ∃ cs, x = .agg cs) ∧ (aggT P e = some false → x.cells = [x])
   | some (.struct fs) => fs.toList.foldr (fun f Q ds => ∃ a b, ds = a ++ b ∧ a.length = P.cellsOf f.type ∧ TD P n f.type a ∧ Q b) (fun ds => ds = []) ds
   | _ => False

theorem addr_add_add (a : Addr) (m n : Nat) : (a.add m).add n = a.add (m + n) := by
 unfold Addr.add
 by_cases hm : m = 0
 · subst hm; simp
 · by_cases hn : n = 0
   · subst hn; simp
   · have : ¬ m + n = 0 := by omega
     simp [hm, hn, this, tBJ]

theorem zVW {w : World} {base n : Nat} {a : Addr} {cs : List Value} (h : w.cells? base a n = some cs) : cs.length = n ∧ ∀ (k : Nat) (v : Value), cs[k]? = some v → w.cell? (a.add k) = some v := by
 unfold World.cells? at h
 split at h
 · have hl := mapM_some_length h
   simp at hl
   refine ⟨hl, fun k v hv => ?_⟩
   have hk : k < n := by rw [← hl]; exact (tAi.1 hv).1
   have := mapM_some_get h k k (by simp [hk])
   rw [this]; exact hv
 · cases h

section
variable {H : Type} {enc : TypeId × Value → H} {P : Program} {w : World} {base : Nat} {spare : Nat → Bool} {held : Bool}

theorem zO6 {x : D} (h : ∀ cs, x ≠ .agg cs) : x.cells = [x] := by cases x <;> first | rfl | exact absurd rfl (h _)

theorem zPz {e : TypeId} : ∀ (l : List (DataW H)), ∀ d ∈ l, ∀ m ∈ d.weights P e, m ∈ DataW.weightsAll P e l
 | [], _, h, _, _ => by simp at h
 | x :: r, d, h, m, hm => by
   simp only [DataW.weightsAll, tAz]
   rcases tAr.1 h with rfl | h
   · exact .inl hm
   · exact .inr (zPz r d h m hm)

def Holds (w : World) (ds : List D) (cs : List Value) : Prop := ds.length = cs.length ∧ ∀ (k : Nat) (d : D), ds[k]? = some d → ∃ v, cs[k]? = some v ∧ v.oneCell' = true ∧ VRi (World.mem w) d v

theorem Holds.one {d : D} {v : Value} (h1 : v.oneCell' = true) (h : VRi (World.mem w) d v) : Holds w [d] [v] :=
 ⟨rfl, fun k x hx => by
   cases k with
   | zero => simp at hx; subst hx; exact ⟨v, rfl, h1, h⟩
   | succ k => simp at hx⟩
theorem Holds.append {a b : List D} {x y : List Value} (h : Holds w a x) (k : Holds w b y) : Holds w (a ++ b) (x ++ y) :=
 ⟨by simp [h.1, k.1], fun i d hd => by
   by_cases hi : i < a.length
   · rw [tAP hi] at hd
     rw [tAP (by rw [← h.1]; exact hi)]; exact h.2 i d hd
   · rw [tAN (by omega)] at hd
     rw [tAN (by rw [← h.1]; omega), ← h.1]; exact k.2 _ d hd⟩

theorem zSo : ∀ (n : Nat) (fuel : Nat) (t : TypeId) (cs : List Value) (y : DataW H) (ps : List MemPlace), zEB P n t = true → DataW.trod enc P w base spare held fuel t cs = some (y, ps) →
   (∀ m ∈ y.weights P t, m ≤ reachBytes) → ∃ ds, TD P n t ds ∧ Holds w ds cs ∧ ds.length = cs.length := by
 intro n
 induction n with
 | zero => intro fuel t cs y ps hp; simp [zEB] at hp
 | succ n ih =>
   intro fuel t cs y ps hp h hw
   simp only [zEB] at hp
   cases hu : P.underlying t with
   | none => simp [hu] at hp
   | some dsc =>
   simp only [hu] at hp
   cases dsc <;> simp only [tAf] at hp
   case bool =>
     obtain ⟨b, rfl, _⟩ := DataW.trod_bool hu h
     exact ⟨[.bo b], by simp [TD, hu], Holds.one rfl (.bo b), rfl⟩
   case int k =>
     obtain ⟨x, rfl, _, hwf⟩ := DataW.trod_int hu h
     simp [Lit.wf] at hwf
     exact ⟨[.it k x], by simp [TD, hu, hwf], Holds.one rfl (.it k x), rfl⟩
   case string =>
     obtain ⟨s, rfl, hx, _⟩ := DataW.trod_string hu h
     obtain ⟨rfl, _⟩ := Prod.mk.inj hx
     refine ⟨[.st s.data.toList], ?_, Holds.one rfl ?_, rfl⟩
     · simp only [TD, hu]
       exact ⟨_, rfl, hw _ (by simp [DataW.weights])⟩
     · have := VRi.st (M := World.mem w) s.data.toList
       simpa using this
   case slice e =>
     simp only [tAd, decide_eq_true_eq] at hp
     obtain ⟨⟨⟨hp, hpos⟩, hag⟩, hone⟩ := hp
     rcases DataW.trod_slice hu h with ⟨rfl, _⟩ | ⟨a, len, cap, elems, rest, m, rfl, rfl, hx, hb, hl, hm, hlen, hel, _, _⟩
     · exact ⟨[.vec (P.cellsOf e) false []], by simp [TD, hu], Holds.one rfl (.vec _ false [] none 0 (tAl _) (fun h => by cases h) (fun e he => by simp at he) hpos (fun _ => undef) (fun h => absurd rfl h) (fun k hk => by simp [flat] at hk) (fun k d hd => by simp [flat] at hd)), rfl⟩
     · obtain ⟨rfl, _⟩ := Prod.mk.inj hx
       simp only [DataW.weights, hu, tAr, tAz] at hw
       have hfirst := hw _ (.inl rfl)
       have hex : ∀ i, ∃ x : D, i < len → (x.cells.length = P.cellsOf e ∧ TD P n e x.cells ∧ (aggT P e = some true → ∃ cs, x = .agg cs) ∧ (aggT P e = some false → x.cells = [x])) ∧
           ∀ (k : Nat) (d : D), x.cells[k]? = some d → ∃ v, w.cell? ((a.add (i * P.cellsOf e)).add k) = some v ∧ v.oneCell' = true ∧ VRi (World.mem w) d v := by
         intro i
         by_cases hi : i < len
         · have h1 := hel i hi
           rw [tAn (by omega)] at h1
           rw [tAc] at h1
           obtain ⟨cs', hc', ht'⟩ := h1
           obtain ⟨hcl, hcg⟩ := zVW hc'
           obtain ⟨ds, d1, d2, d3⟩ := ih m e cs' (elems[i]'(by omega)).1 (elems[i]'(by omega)).2 hp ht' (fun q hq => hw q (.inr (.inl (zPz _ _ (tBk.2 ⟨_, tBH _, rfl⟩) q hq))))
           cases hg : aggT P e with
           | none => simp [hg] at hag
           | some g =>
           cases g with
           | true =>
             refine ⟨.agg ds, fun _ => ⟨⟨by simp [D.cells, d3, hcl], d1, fun _ => ⟨ds, rfl⟩, fun h => by simp at h⟩, fun k d hd => ?_⟩⟩
             obtain ⟨v, v1, v2, v3⟩ := d2.2 k d hd
             exact ⟨v, hcg k v v1, v2, v3⟩
           | false =>
             have hc1 : P.cellsOf e = 1 := by simpa [hg] using hone
             obtain ⟨x, rfl⟩ : ∃ x, ds = [x] := by
               match ds, (by omega : ds.length = 1) with
               | [x], _ => exact ⟨x, rfl⟩
             have hxa : ∀ cs, x ≠ .agg cs := by
               intro cs hc
               subst hc
               obtain ⟨v, v1, v2, v3⟩ := d2.2 0 _ rfl
               cases v3
               simp [Value.oneCell'] at v2
             refine ⟨x, fun _ => ⟨⟨by rw [zO6 hxa, hc1]; rfl, by rw [zO6 hxa]; exact d1, fun h => by simp at h, fun _ => zO6 hxa⟩, fun k d hd => ?_⟩⟩
             rw [zO6 hxa] at hd
             obtain ⟨v, v1, v2, v3⟩ := d2.2 k d hd
             exact ⟨v, hcg k v v1, v2, v3⟩
         · exact ⟨.un, fun hc => absurd hc hi⟩
       obtain ⟨f, hf⟩ := Classical.axiomOfChoice hex
       have hget : ∀ {i : Nat} {x : D}, ((List.range len).map f)[i]? = some x → i < len ∧ x = f i := by
         intro i x hx
         have hi : i < len := by have := (tAi.1 hx).1; simpa using this
         rw [tAE, List.getElem?_range hi] at hx
         simp at hx
         exact ⟨hi, hx.symm⟩
       have hmem : ∀ x ∈ (List.range len).map f, x.cells.length = P.cellsOf e ∧ TD P n e x.cells ∧ (aggT P e = some true → ∃ cs, x = .agg cs) ∧ (aggT P e = some false → x.cells = [x]) := by
         intro x hx
         obtain ⟨i, hi⟩ := tAT.1 hx
         obtain ⟨h1, rfl⟩ := hget hi
         exact (hf i h1).1
       refine ⟨[.vec (P.cellsOf e) false ((List.range len).map f)], ?_, Holds.one rfl ?_, rfl⟩
       · simp only [TD, hu]
         refine ⟨_, rfl, ?_, hmem⟩
         have h2 : len * P.bytesOf e ≤ (elems.length + rest.length) * P.bytesOf e := tAX _ (by omega)
         simp at hfirst
         simp
         omega
       · have := zNY (M := World.mem w) (sz := P.cellsOf e) (cl := false) (es := (List.range len).map f) (a := some a) (c := cap) (by simpa using hl) (fun h => by cases h) (fun x hx => (hmem x hx).1) hpos
           (fun _ => ⟨a, rfl, fun k d hd => by
             obtain ⟨i, j, x, rfl, hj, hx, hd'⟩ := zDu hpos (fun x hx => (hmem x hx).1) hd
             obtain ⟨h1, rfl⟩ := hget hx
             obtain ⟨v, v1, v2, v3⟩ := (hf i h1).2 j d hd'
             rw [addr_add_add] at v1
             exact ⟨v, v1, v2, v3⟩⟩)
         simpa using this
   case struct fs =>
     simp only [tAd] at hp
     obtain ⟨hpf, hlay⟩ := hp
     obtain ⟨xs, m, rfl, hx, hcl, hxl, hg⟩ := DataW.trod_struct hu h
     obtain ⟨rfl, _⟩ := Prod.mk.inj hx
     simp only [DataW.weights, hu] at hw
     have key : ∀ (l : List Field) (zs : List (DataW H × List MemPlace)) (off : Nat), layB P off l (P.cellsOf t) = true → off ≤ P.cellsOf t → l.all (fun f => zEB P n f.type) = true → zs.length = l.length →
         (∀ (i : Nat) (f : Field), l[i]? = some f → DataW.trod enc P w base spare held m f.type ((cs.drop f.offset).take (P.cellsOf f.type)) = zs[i]?) →
         (∀ q ∈ DataW.weightsEach P (l.map (·.type)) (zs.map (·.1)), q ≤ reachBytes) →
         ∃ ds, l.foldr (fun f Q ds => ∃ a b, ds = a ++ b ∧ a.length = P.cellsOf f.type ∧ TD P n f.type a ∧ Q b) (fun ds => ds = []) ds ∧ Holds w ds (cs.drop off) ∧ ds.length = (cs.drop off).length := by
       intro l
       induction l with
       | nil =>
         intro zs off hlay hoff _ _ _ _
         simp [layB] at hlay
         have : cs.drop off = [] := List.drop_eq_nil_of_le (by omega)
         exact ⟨[], rfl, by rw [this]; exact ⟨rfl, fun k d hd => by simp at hd⟩, by rw [this]; rfl⟩
       | cons f r ihl =>
         intro zs off hlay hoff hpl hzl hgz hwz
         simp only [layB, tAd, beq_iff_eq] at hlay
         obtain ⟨hfo, hlay⟩ := hlay
         simp only [tAq, tAd] at hpl
         match zs, hzl with
         | z :: zs, hzl =>
         simp only [tAp, Nat.add_right_cancel_iff] at hzl
         have h0 := hgz 0 f rfl
         simp only [tAt] at h0
         simp only [tAO, DataW.weightsEach, tAz] at hwz
         obtain ⟨d0, t0, H0, l0⟩ := ih m f.type _ z.1 z.2 hpl.1 h0 (fun q hq => hwz q (.inl hq))
         have hoff' : off + P.cellsOf f.type ≤ P.cellsOf t := by
           clear ihl hgz hwz h0 H0 t0 l0
           have : ∀ (l : List Field) (o : Nat), layB P o l (P.cellsOf t) = true → o ≤ P.cellsOf t := by
             intro l
             induction l with
             | nil => intro o h; simp [layB] at h; omega
             | cons g r ih => intro o h; simp only [layB, tAd] at h; have := ih _ h.2; omega
           exact this r _ hlay
         have hl0 : d0.length = P.cellsOf f.type := by rw [l0, hfo]; simp; omega
         obtain ⟨d1, t1, H1, l1⟩ := ihl zs (off + P.cellsOf f.type) hlay hoff' hpl.2 hzl (fun i g hgi => by have := hgz (i + 1) g (by simpa using hgi); simpa using this) (fun q hq => hwz q (.inr hq))
         have hsplit : cs.drop off = (cs.drop f.offset).take (P.cellsOf f.type) ++ cs.drop (off + P.cellsOf f.type) := by
           rw [hfo, ← List.drop_drop, tAH]
         refine ⟨d0 ++ d1, ?_, ?_, ?_⟩
         · simp only [List.foldr_cons]
           exact ⟨d0, d1, rfl, hl0, t0, t1⟩
         · rw [hsplit]; exact H0.append H1
         · rw [hsplit]; simp [l0, l1]
     obtain ⟨ds, h1, h2, h3⟩ := key fs.toList xs 0 hlay (tAL _) hpf (by simpa using hxl) (fun i f hf => hg i f (by simpa using hf)) hw
     simp only [tBv] at h2 h3
     exact ⟨ds, by simp only [TD, hu]; exact h1, h2, h3⟩
end
def TD1 (P : Program) (n : Nat) (t : TypeId) (d : D) : Prop := (aggT P t = some true ∧ ∃ cs, d = .agg cs ∧ TD P n t cs) ∨ (aggT P t = some false ∧ TD P n t [d])
def TDA (P : Program) (n : Nat) : List TypeId → List D → Prop
 | [], ds => ds = []
 | t :: ts, ds => ∃ d r, ds = d :: r ∧ TD1 P n t d ∧ TDA P n ts r

section
variable {H : Type} {enc : TypeId × Value → H} {P : Program} {w : World} {base : Nat}

theorem cells_one {v : Value} (h : v.oneCell' = true) : v.cells.toList = [v] := by cases v <;> first | rfl | (simp [Value.oneCell'] at h)
theorem holds_one {d : D} {v : Value} (h : Mir.Holds w [d] [v]) : VRi (World.mem w) d v := by
 obtain ⟨u, h1, _, h3⟩ := h.2 0 d rfl
 simp at h1; subst h1; exact h3

theorem zZK {n : Nat} {t : TypeId} {v : Value} {y : DataW H} {p : List MemPlace} {spare : Nat → Bool} (hp : zEB P n t = true) (hv : Value.okWide P w .any base t v) (h : DataW.Trod enc P w 0 spare true t v y p)
   (hw : ∀ m ∈ y.weights P t, m ≤ reachBytes) : ∃ d, TD1 P n t d ∧ VRi (World.mem w) d v := by
 obtain ⟨fuel, hf⟩ := h
 obtain ⟨ds, h1, h2, h3⟩ := zSo n fuel t _ y p hp hf hw
 have hflat : aggT P t = some false → v.oneCell' = true → ∃ d, TD1 P n t d ∧ VRi (World.mem w) d v := by
   intro ha ho
   rw [cells_one ho] at h2 h3
   match ds, h3 with
   | [d], _ => exact ⟨d, .inr ⟨ha, h1⟩, holds_one h2⟩
 cases n with
 | zero => simp [zEB] at hp
 | succ n =>
 simp only [zEB] at hp
 cases hu : P.underlying t with
 | none => simp [hu] at hp
 | some dsc =>
 simp only [hu] at hp
 cases dsc <;> simp only [tAf] at hp
 case bool => obtain ⟨b, rfl⟩ := WideShapes.okWide_bool hu hv; exact hflat (by simp [aggT, hu]) rfl
 case int k => obtain ⟨x, rfl⟩ := WideShapes.okWide_int hu hv; exact hflat (by simp [aggT, hu]) rfl
 case string => obtain ⟨s, rfl⟩ := WideShapes.okWide_string hu hv; exact hflat (by simp [aggT, hu]) rfl
 case slice e => obtain ⟨a, l, c, rfl⟩ := WideShapes.okWide_slice hu hv; exact hflat (by simp [aggT, hu]) rfl
 case struct fs =>
   obtain ⟨cs, rfl, hcs⟩ := WideShapes.okWide_struct hu hv
   refine ⟨.agg ds, .inl ⟨by simp [aggT, hu], ds, rfl, h1⟩, ?_⟩
   simp only [Value.cells] at h2 h3
   refine .agg ds cs (by simp at h3; omega) (fun k => cs.getD k undef) (fun k hk => by simp [hk]) (fun k hk => ?_) (fun k d hd => ?_)
   · have hk' : k < ds.length := by simp at h3; omega
     obtain ⟨v, v1, v2, _⟩ := h2.2 k _ (tAn hk')
     rw [tBQ] at v1
     rw [tAD, v1]; exact v2
   · obtain ⟨v, v1, v2, v3⟩ := h2.2 k d hd
     rw [tBQ] at v1
     rw [tAD, v1]; exact v3

theorem zL9 {n : Nat} {spare : Nat → Bool} : ∀ (ts : List TypeId) (vs : List Value) (ys : List (DataW H)) (p : List MemPlace), ts.all (zEB P n) = true → DataW.TrodAll enc P w 0 spare true ts vs ys p →
   (∀ (j : Nat) t v, ts[j]? = some t → vs[j]? = some v → Value.okWide P w .any base t v) → (∀ m ∈ DataW.weightsEach P ts ys, m ≤ reachBytes) →
   ∃ ds, TDA P n ts ds ∧ vs.length = ds.length ∧ ∀ (k : Nat) (d : D), ds[k]? = some d → ∃ v, vs[k]? = some v ∧ VRi (World.mem w) d v
 | [], [], [], _, _, _, _, _ => ⟨[], rfl, rfl, fun k d hd => by simp at hd⟩
 | t :: ts, v :: vs, y :: ys, p, hp, hA, hv, hw => by
   obtain ⟨p1, p2, h1, h2, _⟩ := hA
   simp only [tAq, tAd] at hp
   simp only [DataW.weightsEach, tAz] at hw
   obtain ⟨d, d1, d2⟩ := zZK hp.1 (hv 0 t v rfl rfl) h1 (fun m hm => hw m (.inl hm))
   obtain ⟨ds, e1, e2, e3⟩ := zL9 ts vs ys p2 hp.2 h2 (fun j t v ht hv' => hv (j + 1) t v (by simpa using ht) (by simpa using hv')) (fun m hm => hw m (.inr hm))
   refine ⟨d :: ds, ⟨d, ds, rfl, d1, e1⟩, by simp [e2], fun k x hx => ?_⟩
   cases k with
   | zero => simp at hx; subst hx; exact ⟨v, rfl, d2⟩
   | succ k => exact e3 k x (by simpa using hx)
 | [], _ :: _, _, _, _, h, _, _ => by cases ‹List (DataW H)› <;> simp [DataW.TrodAll] at h
 | [], [], _ :: _, _, _, h, _, _ => by simp [DataW.TrodAll] at h
 | _ :: _, [], _, _, _, h, _, _ => by cases ‹List (DataW H)› <;> simp [DataW.TrodAll] at h
 | _ :: _, _ :: _, [], _, _, h, _, _ => by simp [DataW.TrodAll] at h

theorem law_run {n : Nat} {g : FuncId} {F : List D → Option Res} {ts : List TypeId} {args : Array Value} {ys : List (DataW H)} {p : List MemPlace} {spare : Nat → Bool} (hF : PureOK P g F) (hp : ts.all (zEB P n) = true)
   (hA : DataW.TrodAll enc P w 0 spare true ts args.toList ys p) (hv : ∀ (j : Nat) t v, ts[j]? = some t → args[j]? = some v → Value.okWide P w .any base t v)
   (hw : (DataW.weightsEach P ts ys).all (· ≤ reachBytes) = true) (hT : ∀ ds, TDA P n ts ds → F ds = some (Res.flat (.bo true))) :
   Calls P g args w fun e w' => e = .returned (.bool true) ∧ Below w.heap.size w w' := by
 obtain ⟨ds, d1, d2, d3⟩ := zL9 ts args.toList ys p hp hA (fun j t v ht hv' => hv j t v ht (by simpa using hv')) (fun m hm => by simpa using tAw.1 hw m hm)
 have hc := (hF.2 ds _ (hT ds d1)).2 (World.mem w) w args.toList (fun a v h => h) d2 d3
 refine hc.mono fun e w' hq => ?_
 obtain ⟨v, Mr, μ, rfl, hb, _, _, _, hr⟩ := hq
 refine ⟨?_, hb.toBelow⟩
 simp only [Res.flat] at hr
 cases hr with
 | imm h => cases h; rfl
 | leaf h => exact h.elim

theorem args_stay {spare : Nat → Bool} (hl : laidOutB P = true) {w' : World} (hb : Below w.heap.size w w') : ∀ (ts : List TypeId) (vs : List Value) (ys : List (DataW H)) (p : List MemPlace), ts.all (fun t => P.readableRec t && decide (t < P.types.size)) = true →
   DataW.TrodAll enc P w 0 (fun _ => true) true ts vs ys p → DataW.TrodAll enc P w' 0 (fun b => decide (b < w.heap.size)) true ts vs ys p
 | [], [], [], _, _, h => h
 | t :: ts, v :: vs, y :: ys, p, hr, h => by
   obtain ⟨p1, p2, h1, h2, rfl⟩ := h
   simp only [tAq, tAd, decide_eq_true_eq] at hr
   exact ⟨p1, p2, Below.trod hl hr.1.1 hr.1.2 h1 hb (by obtain ⟨m, hm⟩ := h1; exact DataW.trod_lt m _ _ _ hm), args_stay (spare := spare) hl hb ts vs ys p2 hr.2 h2, rfl⟩
 | [], _ :: _, _, _, _, h => by cases ‹List (DataW H)› <;> simp [DataW.TrodAll] at h
 | [], [], _ :: _, _, _, h => by simp [DataW.TrodAll] at h
 | _ :: _, [], _, _, _, h => by cases ‹List (DataW H)› <;> simp [DataW.TrodAll] at h
 | _ :: _, _ :: _, [], _, _, h => by simp [DataW.TrodAll] at h
end
end Go.Mir
