/- A verified interpreter of loaded code: no theorem about any program stands here; no conditions. -/
import Derived.Below
import Derived.Orders
import Derived.Laws.Sem
import Derived.Laws.World
import Derived.Laws.Rows
import Derived.Laws.AppendOwn
import Derived.Laws.IdiomCopy
import Derived.Laws.Entries
import Derived.Laws.Cells
import Derived.Laws.Slices
import Derived.Laws.StructEq
import Derived.Laws.Strings
import Derived.Deep.AppendSrc
import Derived.Laws.Tables
import Derived.Laws.MakeOwn
import Derived.Laws.BytesString
import Derived.Great.BuildSlice
import Derived.Lib.UnsafeStr
set_option linter.unusedSimpArgs false
set_option linter.unusedVariables false
set_option linter.defProp false
set_option maxRecDepth 100000
set_option maxHeartbeats 4000000
open Go Go.RowKit
namespace Go.Mir
def tAa := @And.intro
def tAb := @Option.some.injEq.{0}
def tAc := @Option.bind_eq_some_iff.{0,0}
def tAd := @Bool.and_eq_true
def tAe := @Option.map_eq_some_iff.{0,0}
def tAf := @Bool.false_eq_true
def tAg := @Option.bind_some.{0,0}
def tAh := @List.length_append.{0}
def tAi := @List.getElem?_eq_some_iff.{0}
def tAj := @Prod.mk.injEq.{0,0}
def tAk := @List.length_take.{0}
def tAl := @Nat.le_refl
def tAm := @List.append_assoc.{0}
def tAn := @List.getElem?_eq_getElem.{0}
def tAo := @List.append_nil.{0}
def tAp := @List.length_cons.{0}
def tAq := @List.all_cons.{0}
def tAr := @List.mem_cons.{0}
def tAs := @List.all_nil.{0}
def tAt := @List.getElem?_cons_zero.{0}
def tAu := @List.length_nil.{0}
def tAv := @List.cons.injEq.{0}
def tAw := @List.all_eq_true.{0}
def tAx := @List.length_drop.{0}
def tAy := @List.mem_singleton.{0}
def tAz := @List.mem_append.{0}
def tAA := @Bool.true_eq_false
def tAB := @List.mem_of_getElem?.{0}
def tAC := @List.pairwise_cons.{0}
def tAD := @Array.getD_eq_getD_getElem?.{0}
def tAE := @List.getElem?_map.{0,0}
def tAF := @Option.map_some.{0,0}
def tAG := @Bool.not_eq_true'
def tAH := @List.take_append_drop.{0}
def tAI := @List.length_map.{0,0}
def tAJ := @List.nil_append.{0}
def tAK := @Bool.or_eq_true
def tAL := @Nat.zero_le
def tAM := @List.take_of_length_le.{0}
def tAN := @List.getElem?_append_right.{0}
def tAO := @List.map_cons.{0,0}
def tAP := @List.getElem?_append_left.{0}
def tAQ := @List.ne_nil_of_length_pos.{0}
def tAR := @Bool.true_and
def tAS := @List.mem_of_mem_take.{0}
def tAT := @List.mem_iff_getElem?.{0}
def tAU := @List.eq_nil_of_length_eq_zero.{0}
def tAV := @List.getElem?_cons_succ.{0}
def tAW := @Classical.byContradiction
def tAX := @Nat.mul_le_mul_right
def tAY := @Nat.add_mul
def tAZ := @Nat.zero_add
def tA0 := @List.not_mem_nil.{0}
def tA1 := @Array.getElem?_eq_getElem.{0}
def tA2 := @List.mem_of_mem_drop.{0}
def tA3 := @Option.isSome_iff_exists.{0}
def tA4 := @List.length_pos_iff.{0}
def tA5 := @List.contains_eq_mem.{0}
def tA6 := @List.any_eq_true.{0}
def tA7 := @List.getElem?_drop.{0}
def tA8 := @List.mapM_cons.{0,0,0}
def tA9 := @List.filter_eq_nil_iff.{0}
def tBa := @Option.getD_some.{0}
def tBb := @List.mem_filter.{0}
def tBc := @List.pairwise_append.{0}
def tBd := @Nat.add_sub_cancel_left
def tBe := @List.flatMap_cons.{0,0}
def tBf := @Option.map_map.{0,0,0}
def tBg := @Bool.false_or
def tBh := @Int.ofNat_inj
def tBi := @List.cons_append.{0}
def tBj := @Int.eq_ofNat_of_zero_le
def tBk := @List.mem_map.{0,0}
def tBl := @List.exists_mem_of_length_pos.{0}
def tBm := @Bool.eq_iff_iff
def tBn := @List.map_nil.{0,0}
def tBo := @List.map_congr_left.{0,0}
def tBp := @Bool.and_self
def tBq := @Int.fdiv_eq_ediv_of_nonneg
def tBr := @List.mem_or_eq_of_mem_set.{0}
def tBs := @List.take_succ_cons.{0}
def tBt := @List.Pairwise.nil.{0}
def tBu := @List.getElem?_eq_none.{0}
def tBv := @List.drop_zero.{0}
def tBw := @List.getElem?_take.{0}
def tBx := @List.filter_cons.{0}
def tBy := @Int.pow_nonneg
def tBz := @List.drop_of_length_le.{0}
def tBA := @Array.length_toList.{0}
def tBB := @List.replicate_zero.{0}
def tBC := @List.length_set.{0}
def tBD := @Array.eq_empty_of_size_eq_zero.{0}
def tBE := @List.map_append.{0,0}
def tBF := @UInt8.toNat_inj
def tBG := @List.getElem?_toArray.{0}
def tBH := @List.getElem_mem.{0}
def tBI := @Bool.not_true
def tBJ := @Nat.add_assoc
def tBK := @Bool.not_false
def tBL := @List.pairwise_singleton.{0}
def tBM := @List.contains_nil.{0}
def tBN := @List.drop_succ_cons.{0}
def tBO := @Option.bind_eq_bind.{0}
def tBP := @List.length_reverse.{0}
def tBQ := @Array.getElem?_toList.{0}
def tBR := @List.mem_cons_self.{0}
def tBS := @List.length_replicate.{0}
def tBT := @List.mem_range
def tBU := @List.length_filter_le.{0}
def tBV := @Int.le_refl
def tBW := @List.mem_cons_of_mem.{0}
def tBX := @Option.map_none.{0,0}
def tBY := @List.map_set.{0,0}
def tBZ := @List.mem_iff_getElem.{0}
def tB0 := @Bool.eq_false_or_eq_true
def tB1 := @List.map_take.{0,0}
def tB2 := @List.take_append_of_le_length.{0}
def tB3 := @List.getElem?_replicate.{0}
def tB4 := @List.length_eq_zero_iff.{0}
def tB5 := @List.getElem_of_mem.{0}
def tB6 := @List.toList_toArray.{0}
def tB7 := @List.filter_eq_self.{0}
def tB8 := @List.map_eq_nil_iff.{0,0}
def tB9 := @List.foldlM_cons.{0,0,0}
def tCa := @List.take_length.{0}
def tCb := @List.take_zero.{0}
def tCc := @Bool.false_and
def tCd := @List.filter_append.{0}
def tCe := @List.foldl_cons.{0,0}
def tCf := @Array.getElem?_modify.{0}
def tCg := @Int.tmod_eq_emod_of_nonneg
def tCh := @List.size_toArray.{0}
def tCi := @Bool.not_eq_false
def tCj := @List.any_eq_false.{0}
def tCk := @List.take_sublist.{0}
def tCl := @List.pairwise_iff_getElem.{0}
inductive D where
 | un
 | bo (v : Bool)
 | it (k : IntKind) (n : Int)
 | st (l : List UInt8)
 | vec (sz : Nat) (cl : Bool) (es : List D)
 | nils
 | emp (b : Bool)
 | own (id off len : Nat)
 | agg (cs : List D)
 | tup (ds : List D)
 | ptr (id off : Nat)
 | rowp (id ix off : Nat)
 | elt (cs : List D)
 | nilp
 | fn (f : Fn) (first caps : List D)
 | nilf
 | map (id : Nat)
 | nilm
 deriving Inhabited

def D.cells : D → List D
 | .agg cs => cs
 | d => [d]

def flat (es : List D) : List D := es.flatMap D.cells

inductive Blk where
 | gone
 | box (cs : List D)
 | row (sz : Nat) (pl : Bool) (es : List D)
 | mp (es : List (D × D))
 deriving Inhabited

abbrev Hp := Nat → Blk
def upd {α : Type} (f : Nat → α) (k : Nat) (v : α) : Nat → α := fun j => if j = k then v else f j
theorem upd_same {α : Type} (f : Nat → α) (k : Nat) (v : α) : upd f k v k = v := by simp [upd]
theorem upd_ne {α : Type} (f : Nat → α) {j k : Nat} (v : α) (h : j ≠ k) : upd f k v j = f j := by simp [upd, h]

abbrev Mu := Nat → Option (Nat × Nat × Nat)
abbrev Mem := Addr → Option Value

inductive VRi (M : Mem) : D → Value → Prop
 | un (v : Value) : VRi M .un v
 | bo (t : Bool) : VRi M (.bo t) (.bool t)
 | it (k : IntKind) (n : Int) : VRi M (.it k n) (.int k n)
 | st (l : List UInt8) : VRi M (.st l) (.string ⟨l.toArray⟩)
 | vec (sz : Nat) (cl : Bool) (es : List D) (a : Option Addr) (c : Nat) (hc : es.length ≤ c) (hcl : cl = true → c = es.length) (hz : ∀ e ∈ es, e.cells.length = sz) (hs : 0 < sz) (us : Nat → Value)
     (hm : es ≠ [] → ∃ ad, a = some ad ∧ ∀ k, k < (flat es).length → M (ad.add k) = some (us k))
     (h1 : ∀ k, k < (flat es).length → (us k).oneCell' = true)
     (hv : ∀ (k : Nat) (d : D), (flat es)[k]? = some d → VRi M d (us k)) : VRi M (.vec sz cl es) (.slice a es.length c)
 | nils : VRi M .nils (.slice none 0 0)
 | emp (b : Bool) (a : Option Addr) (c : Nat) (h : a.isSome = b) : VRi M (.emp b) (.slice a 0 c)
 | agg (cs : List D) (vs : Array Value) (hl : vs.size = cs.length) (us : Nat → Value) (hu : ∀ k, k < vs.size → vs[k]? = some (us k)) (h1 : ∀ k, k < vs.size → (us k).oneCell' = true)
     (hv : ∀ (k : Nat) (d : D), cs[k]? = some d → VRi M d (us k)) : VRi M (.agg cs) (.agg vs)
 | tup (cs : List D) (vs : Array Value) (hl : vs.size = cs.length) (us : Nat → Value) (hu : ∀ k, k < vs.size → vs[k]? = some (us k))
     (hv : ∀ (k : Nat) (d : D), cs[k]? = some d → VRi M d (us k)) : VRi M (.tup cs) (.tuple vs)
 | elt (cs : List D) (ad : Addr) (us : Nat → Value) (hm : ∀ k, k < cs.length → M (ad.add k) = some (us k)) (h1 : ∀ k, k < cs.length → (us k).oneCell' = true)
     (hv : ∀ (k : Nat) (d : D), cs[k]? = some d → VRi M d (us k)) : VRi M (.elt cs) (.pointer (some ad))
 | nilp : VRi M .nilp (.pointer none)
 | fn (f : Fn) (first caps : List D) (vf vc : Array Value) (hf : vf.size = first.length) (hc : vc.size = caps.length) (uf uc : Nat → Value)
     (huf : ∀ k, k < vf.size → vf[k]? = some (uf k)) (huc : ∀ k, k < vc.size → vc[k]? = some (uc k))
     (hvf : ∀ (k : Nat) (d : D), first[k]? = some d → VRi M d (uf k)) (hvc : ∀ (k : Nat) (d : D), caps[k]? = some d → VRi M d (uc k)) : VRi M (.fn f first caps) (.func f vf vc)
 | nilf : VRi M .nilf .nilFunc
 | nilm : VRi M .nilm (.map none)

def Leaf (A : Nat → Prop) (H : Hp) (μ : Mu) : D → Value → Prop
 | .own id off len, v => (A id ∧ v.oneCell' = true) ∧ match H id with
   | .row sz _ es => off + len ≤ es.length ∧ ∃ a c, v = .slice a len c ∧ len ≤ c ∧ (c = 0 ∨ ∃ β bs top, μ id = some (β, bs, top) ∧ a = some ⟨β, bs + off * sz, none⟩ ∧ off + c ≤ top)
   | _ => True
 | .ptr id off, v => (A id ∧ v.oneCell' = true) ∧ match H id with
   | .box cs => off ≤ cs.length ∧ ∃ β, μ id = some (β, 0, 0) ∧ v = .pointer (some ⟨β, off, none⟩)
   | _ => True
 | .rowp id ix off, v => (A id ∧ v.oneCell' = true) ∧ match H id with
   | .row sz _ es => ix < es.length ∧ off ≤ sz ∧ ∃ β bs top, μ id = some (β, bs, top) ∧ v = .pointer (some ⟨β, bs + ix * sz + off, none⟩)
   | _ => True
 | .map id, v => (A id ∧ v.oneCell' = true) ∧ match H id with
   | .mp _ => ∃ β, μ id = some (β, 0, 0) ∧ v = .map (some β)
   | _ => True
 | _, _ => False

mutual
def scal : D → Bool
 | .bo _ | .it _ _ | .st _ => true
 | .agg cs => zSO cs
 | _ => false
def zSO : List D → Bool
 | [] => true
 | d :: r => scal d && zSO r
end

inductive VR (M : Mem) (L : D → Value → Prop) : D → Value → Prop
 | imm {d : D} {v : Value} (h : VRi M d v) : VR M L d v
 | leaf {d : D} {v : Value} (h : L d v) : VR M L d v
 | agg (cs : List D) (vs : Array Value) (hl : vs.size = cs.length) (us : Nat → Value) (hu : ∀ k, k < vs.size → vs[k]? = some (us k)) (h1 : ∀ k, k < vs.size → (us k).oneCell' = true)
     (hv : ∀ (k : Nat) (d : D), cs[k]? = some d → VR M L d (us k)) : VR M L (.agg cs) (.agg vs)
 | tup (cs : List D) (vs : Array Value) (hl : vs.size = cs.length) (us : Nat → Value) (hu : ∀ k, k < vs.size → vs[k]? = some (us k))
     (hv : ∀ (k : Nat) (d : D), cs[k]? = some d → VR M L d (us k)) : VR M L (.tup cs) (.tuple vs)
 | fn (f : Fn) (first caps : List D) (vf vc : Array Value) (hf : vf.size = first.length) (hc : vc.size = caps.length) (uf uc : Nat → Value)
     (huf : ∀ k, k < vf.size → vf[k]? = some (uf k)) (huc : ∀ k, k < vc.size → vc[k]? = some (uc k))
     (hvf : ∀ (k : Nat) (d : D), first[k]? = some d → VR M L d (uf k)) (hvc : ∀ (k : Nat) (d : D), caps[k]? = some d → VR M L d (uc k)) : VR M L (.fn f first caps) (.func f vf vc)

def MLe (M M' : Mem) : Prop := ∀ a v, M a = some v → M' a = some v
theorem MLe.refl (M : Mem) : MLe M M := fun _ _ h => h
theorem MLe.trans {M M' M'' : Mem} (h : MLe M M') (k : MLe M' M'') : MLe M M'' := fun a v q => k a v (h a v q)

theorem VRi.mono {M M' : Mem} (hM : MLe M M') {d : D} {v : Value} (h : VRi M d v) : VRi M' d v := by
 induction h with
 | un v => exact .un v
 | bo t => exact .bo t
 | it k n => exact .it k n
 | st l => exact .st l
 | vec sz cl es a c hc hcl hz hs us hm h1 hv ih =>
   exact .vec sz cl es a c hc hcl hz hs us (fun hne => by obtain ⟨ad, e, hk⟩ := hm hne; exact ⟨ad, e, fun k hlt => hM _ _ (hk k hlt)⟩) h1 ih
 | nils => exact .nils
 | emp b a c h => exact .emp b a c h
 | agg cs vs hl us hu h1 hv ih => exact .agg cs vs hl us hu h1 ih
 | tup cs vs hl us hu hv ih => exact .tup cs vs hl us hu ih
 | elt cs ad us hm h1 hv ih => exact .elt cs ad us (fun k hk => hM _ _ (hm k hk)) h1 ih
 | nilp => exact .nilp
 | fn f first caps vf vc hf hc uf uc huf huc hvf hvc ihf ihc => exact .fn f first caps vf vc hf hc uf uc huf huc ihf ihc
 | nilf => exact .nilf
 | nilm => exact .nilm

theorem VR.mono {M M' : Mem} {L L' : D → Value → Prop} (hM : MLe M M') (hL : ∀ d v, L d v → L' d v) {d : D} {v : Value} (h : VR M L d v) : VR M' L' d v := by
 induction h with
 | imm h => exact .imm (h.mono hM)
 | leaf h => exact .leaf (hL _ _ h)
 | agg cs vs hl us hu h1 hv ih => exact .agg cs vs hl us hu h1 ih
 | tup cs vs hl us hu hv ih => exact .tup cs vs hl us hu ih
 | fn f first caps vf vc hf hc uf uc huf huc hvf hvc ihf ihc => exact .fn f first caps vf vc hf hc uf uc huf huc ihf ihc

structure Keep (B : Nat → Prop) (w w' : World) : Prop where
 os : w'.os = w.os
 tape : w'.tape = w.tape
 output : w'.output = w.output
 size : w.heap.size ≤ w'.heap.size
 block : ∀ k, B k → w'.heap[k]? = w.heap[k]?
 drawn : w.drawn ≤ w'.drawn
structure Blw (n : Nat) (w w' : World) : Prop extends Below n w w' where
 drawn : w.drawn ≤ w'.drawn
theorem Blw.refl (n : Nat) (w : World) : Blw n w w := ⟨Below.refl n w, tAl _⟩
theorem Keep.refl (B : Nat → Prop) (w : World) : Keep B w w := ⟨rfl, rfl, rfl, tAl _, fun _ _ => rfl, tAl _⟩
theorem Keep.trans {B : Nat → Prop} {a b c : World} (h : Keep B a b) (k : Keep B b c) : Keep B a c :=
 ⟨k.os.trans h.os, k.tape.trans h.tape, k.output.trans h.output, Nat.le_trans h.size k.size, fun i hi => (k.block i hi).trans (h.block i hi), Nat.le_trans h.drawn k.drawn⟩
theorem Keep.mono {B B' : Nat → Prop} {w w' : World} (h : Keep B w w') (hB : ∀ k, B' k → B k) : Keep B' w w' := ⟨h.os, h.tape, h.output, h.size, fun k hk => h.block k (hB k hk), h.drawn⟩
theorem Keep.of_below {B : Nat → Prop} {n : Nat} {w w' : World} (h : Blw n w w') (hB : ∀ k, B k → k < n) : Keep B w w' := ⟨h.os, h.tape, h.output, h.size, fun k hk => h.block k (hB k hk), h.drawn⟩

def BlkOk (M : Mem) (L : D → Value → Prop) (w : World) (loc : Option (Nat × Nat × Nat)) : Blk → Prop
 | .gone => True
 | .box cs => ∃ β, loc = some (β, 0, 0) ∧ β < w.heap.size ∧ (∀ k, k < cs.length → w.frozen? ⟨β, k, none⟩ = false) ∧
     ∀ (k : Nat) (d : D), cs[k]? = some d → ∃ u, w.cell? ⟨β, k, none⟩ = some u ∧ u.oneCell' = true ∧ VR M L d u
 | .row sz pl es => 0 < sz ∧ (∀ e ∈ es, e.cells.length = sz) ∧ ((es = [] ∧ loc = none) ∨ ∃ β bs top, loc = some (β, bs, top) ∧ β < w.heap.size ∧ es.length ≤ top ∧
     (∀ o, o < top * sz → (w.cell? ⟨β, bs + o, none⟩).isSome = true ∧ w.frozen? ⟨β, bs + o, none⟩ = false) ∧
     ∀ (k : Nat) (d : D), (flat es)[k]? = some d → ∃ u, w.cell? ⟨β, bs + k, none⟩ = some u ∧ u.oneCell' = true ∧ VR M L d u ∧ (pl = true → VRi M d u))
 | .mp es => ∃ β ents clk, loc = some (β, 0, 0) ∧ β < w.heap.size ∧ w.heap[β]? = some (.map ents clk) ∧ ents.size = es.length ∧
     ∀ (k : Nat) (p : D × D), es[k]? = some p → ∃ e, ents[k]? = some e ∧ scal p.1 = true ∧ VRi M p.1 e.key ∧ VRi M p.2 e.val

structure Rel (B : Nat → Prop) (M : Mem) (A : Nat → Prop) (H : Hp) (μ : Mu) (w : World) : Prop where
 mem : ∀ a v, M a = some v → w.cell? a = some v
 given : ∀ id, H id ≠ .gone → A id
 place : ∀ id β bs top, H id ≠ .gone → μ id = some (β, bs, top) → ¬ B β
 apart : ∀ id id' β bs top bs' top', H id ≠ .gone → H id' ≠ .gone → μ id = some (β, bs, top) → μ id' = some (β, bs', top') → id = id'
 alone : ∀ id β bs top, H id ≠ .gone → μ id = some (β, bs, top) → ∀ a v, M a = some v → a.block ≠ β
 blk : ∀ id, BlkOk M (Leaf A H μ) w (μ id) (H id)

theorem Leaf.mono {A A' : Nat → Prop} {H H' : Hp} {μ μ' : Mu} (hA : ∀ id, A id → A' id)
   (h : ∀ id, A id → H' id = .gone ∨ (μ' id = μ id ∧ match H id, H' id with
     | .box cs, .box cs' => cs'.length = cs.length
     | .row sz _ es, .row sz' _ es' => sz' = sz ∧ es'.length = es.length
     | .mp _, .mp _ => True
     | _, _ => False)) {d : D} {v : Value} (hl : Leaf A H μ d v) : Leaf A' H' μ' d v := by
 cases d <;> simp only [Leaf] at hl ⊢
 case own id off len =>
   refine ⟨⟨hA _ hl.1.1, hl.1.2⟩, ?_⟩
   rcases h id hl.1.1 with hg | ⟨hm, hs⟩
   · simp [hg]
   · have h2 := hl.2
     cases hh : H id <;> cases hh' : H' id <;> simp only [hh, hh'] at hs h2 ⊢
     rw [hm, hs.1, hs.2]; exact h2
 case ptr id off =>
   refine ⟨⟨hA _ hl.1.1, hl.1.2⟩, ?_⟩
   rcases h id hl.1.1 with hg | ⟨hm, hs⟩
   · simp [hg]
   · have h2 := hl.2
     cases hh : H id <;> cases hh' : H' id <;> simp only [hh, hh'] at hs h2 ⊢
     rw [hm, hs]; exact h2
 case rowp id ix off =>
   refine ⟨⟨hA _ hl.1.1, hl.1.2⟩, ?_⟩
   rcases h id hl.1.1 with hg | ⟨hm, hs⟩
   · simp [hg]
   · have h2 := hl.2
     cases hh : H id <;> cases hh' : H' id <;> simp only [hh, hh'] at hs h2 ⊢
     rw [hm, hs.1, hs.2]; exact h2
 case map id =>
   refine ⟨⟨hA _ hl.1.1, hl.1.2⟩, ?_⟩
   rcases h id hl.1.1 with hg | ⟨hm, hs⟩
   · simp [hg]
   · have h2 := hl.2
     cases hh : H id <;> cases hh' : H' id <;> simp only [hh, hh'] at hs h2 ⊢
     rw [hm]; exact h2

theorem BlkOk.mono {M M' : Mem} {L L' : D → Value → Prop} {w w' : World} {loc : Option (Nat × Nat × Nat)} (hM : MLe M M') (hL : ∀ d v, L d v → L' d v) (hs : w.heap.size ≤ w'.heap.size)
   (hw : ∀ β bs top, loc = some (β, bs, top) → w'.heap[β]? = w.heap[β]?) {b : Blk} (h : BlkOk M L w loc b) : BlkOk M' L' w' loc b := by
 cases b with
 | gone => trivial
 | box cs =>
   obtain ⟨β, e, hlt, hf, hc⟩ := h
   have hb := hw _ _ _ e
   refine ⟨β, e, by omega, fun k hk => ?_, fun k d hd => ?_⟩
   · rw [World.frozen?_of_block (w := w) (a := ⟨β, k, none⟩) hb]; exact hf k hk
   · obtain ⟨u, h1, h2, h3⟩ := hc k d hd
     exact ⟨u, by rw [World.cell?_of_block (w := w) (a := ⟨β, k, none⟩) hb]; exact h1, h2, h3.mono hM hL⟩
 | row sz pl es =>
   obtain ⟨h0, hz, hr⟩ := h
   refine ⟨h0, hz, ?_⟩
   rcases hr with hr | ⟨β, bs, top, e, hlt, ht, ho, hc⟩
   · exact .inl hr
   · have hb := hw _ _ _ e
     refine .inr ⟨β, bs, top, e, by omega, ht, fun o q => ?_, fun k d hd => ?_⟩
     · rw [World.frozen?_of_block (w := w) (a := ⟨β, bs + o, none⟩) hb, World.cell?_of_block (w := w) (a := ⟨β, bs + o, none⟩) hb]; exact ho o q
     · obtain ⟨u, h1, h2, h3, h4⟩ := hc k d hd
       exact ⟨u, by rw [World.cell?_of_block (w := w) (a := ⟨β, bs + k, none⟩) hb]; exact h1, h2, h3.mono hM hL, fun q => (h4 q).mono hM⟩
 | mp es =>
   obtain ⟨β, ents, clk, e, hlt, hh, hn, hc⟩ := h
   refine ⟨β, ents, clk, e, by omega, by rw [hw _ _ _ e]; exact hh, hn, fun k p hp => ?_⟩
   obtain ⟨x, h1, h2, h3, h4⟩ := hc k p hp
   exact ⟨x, h1, h2, h3.mono hM, h4.mono hM⟩

structure Post (B : Nat → Prop) (M : Mem) (A : Nat → Prop) (H : Hp) (μ : Mu) (w : World) (d : D) (H' : Hp) (A' : Nat → Prop) (v : Value) (w' : World) (M' : Mem) (μ' : Mu) : Prop where
 mle : MLe M M'
 rel : Rel B M' A' H' μ' w'
 val : VR M' (Leaf A' H' μ') d v
 keep : ∀ d v, Leaf A H μ d v → Leaf A' H' μ' d v
 below : Keep B w w'
 new : ∀ a v, M' a = some v → M a = some v ∨ w.heap.size ≤ a.block
def ofC : Value → D
 | .bool b => .bo b
 | .int k n => .it k n
 | .string s => .st s.data.toList
 | .slice none 0 0 => .nils
 | .pointer none => .nilp
 | .nilFunc => .nilf
 | .map none => .nilm
 | _ => .un
def ofV : Value → D
 | .agg cs => if cs.toList.all Value.oneCell' then .agg (cs.toList.map ofC) else .un
 | v => ofC v
def ev (env : Nat → D) : Operand → D
 | .tmp t => env t
 | .const v => ofV v
 | .global _ => .un
 | .func f => .fn (.func f) [] []

def cellsOf : D → Option (List D)
 | .un => none
 | .tup _ => none
 | .agg cs => some cs
 | d => some [d]

mutual
def immD : D → Bool
 | .own .. | .ptr .. | .rowp .. | .map .. => false
 | .agg cs => immL cs
 | .tup cs => immL cs
 | .fn _ first caps => immL first && immL caps
 | _ => true
def immL : List D → Bool
 | [] => true
 | d :: r => immD d && immL r
end

mutual
def ren (f : Nat → Option Nat) : D → D
 | .own id off len => match f id with | some j => .own j off len | none => .un
 | .ptr id off => match f id with | some j => .ptr j off | none => .un
 | .rowp id ix off => match f id with | some j => .rowp j ix off | none => .un
 | .map id => match f id with | some j => .map j | none => .un
 | .agg cs => .agg (renL f cs)
 | .tup cs => .tup (renL f cs)
 | .fn g first caps => .fn g (renL f first) (renL f caps)
 | d => d
def renL (f : Nat → Option Nat) : List D → List D
 | [] => []
 | d :: r => ren f d :: renL f r
end

def bor (H : Hp) : Nat → D → Option D
 | 0, d => if immD d then some d else none
 | n + 1, d => match d with
   | .own id off len => match H id with
     | .row sz true es => some (.vec sz false ((es.drop off).take len))
     | .row sz false es => (((es.drop off).take len).mapM (bor H n)).map (.vec sz false)
     | _ => none
   | .ptr id off => match H id with
     | .box cs => ((cs.drop off).mapM (bor H n)).map .elt
     | _ => none
   | .rowp id ix off => match H id with
     | .row _ true es => (es[ix]?).map fun e => .elt (e.cells.drop off)
     | .row _ false es => (es[ix]?).bind fun e => ((e.cells.drop off).mapM (bor H n)).map .elt
     | _ => none
   | .agg cs => (cs.mapM (bor H n)).map .agg
   | .tup cs => (cs.mapM (bor H n)).map .tup
   | .fn g first caps => (first.mapM (bor H n)).bind fun p => (caps.mapM (bor H n)).map fun q => .fn g p q
   | d => if immD d then some d else none

section
variable (P : Program)
def szT (t : TypeId) : Option Nat := (P.info? t).map (·.size)
def aggT (t : TypeId) : Option Bool := match P.underlying t with | some (.struct _) => some true | some (.array _ _) => some true | some _ => some false | none => none
def zBL (t : TypeId) : Option TypeId := match P.underlying t with | some (.slice e) => some e | _ => none
def widc (u : TypeId) (d : D) : D := match d with
 | .nils => match P.underlying u with
   | some (.slice e) => match szT P e with
     | some sz => if 0 < sz then .vec sz false [] else .nils
     | none => .nils
   | _ => .nils
 | d => d
def widL : List TypeId → List D → List D
 | u :: us, d :: ds => widc P u d :: widL us ds
 | _, ds => ds
def wid (t : TypeId) (d : D) : D := match d with
 | .agg cs => .agg (widL P ((P.cellTypes P.depth t).getD []) cs)
 | d => widc P t d
def zDC (t : TypeId) : Option D := (((P.info? t).bind (·.zero)).map ofV).map (wid P t)
def zAQ (t : TypeId) (f : Nat) : Option Field := match P.underlying t with | some (.struct fs) => fs[f]? | _ => none

def ldD (t : TypeId) (cs : List D) : Option D :=
 (aggT P t).bind fun g => if g then (szT P t).bind fun n => if n ≤ cs.length then some (.agg (cs.take n)) else none else cs.head?
def zAx (t : TypeId) (cs : List D) (off : Nat) : Option D :=
 (aggT P t).bind fun g => if g then (szT P t).bind fun n => if off + n ≤ cs.length then some (.agg ((cs.drop off).take n)) else none else cs[off]?
def setAt (cs : List D) (off : Nat) (xs : List D) : Option (List D) :=
 if off + xs.length ≤ cs.length then some (cs.take off ++ (xs ++ cs.drop (off + xs.length))) else none
def deref (H : Hp) : D → Option (List D)
 | .ptr id off => match H id with | .box cs => some (cs.drop off) | _ => none
 | .rowp id ix off => match H id with | .row _ _ es => (es[ix]?).map fun e => e.cells.drop off | _ => none
 | .elt cs => some cs
 | _ => none
def again (e : D) (cs : List D) : D := match e with | .agg _ => .agg cs | _ => cs.headD .un
def zKL (H : Hp) (a : D) (xs : List D) : Option Hp := match a with
 | .ptr id off => match H id with | .box cs => (setAt cs off xs).map fun cs' => upd H id (.box cs') | _ => none
 | .rowp id ix off => match H id with
   | .row sz pl es => (es[ix]?).bind fun e => (setAt e.cells off xs).map fun cs' => upd H id (.row sz (pl && immL xs) (es.set ix (again e cs')))
   | _ => none
 | _ => none

def zEG (place : Nat → Option (Nat × Nat)) (cs : List D) : List (Nat × D) → Option (List D)
 | [] => some cs
 | (i, v) :: rest => (place i).bind fun (off, n) => (cellsOf v).bind fun xs => if xs.length = n then (setAt cs off xs).bind fun cs' => zEG place cs' rest else none
def zDm (t : TypeId) (parts : List (Nat × D)) : Option D :=
 (zDC P t).bind fun z => (cellsOf z).bind fun zc => match P.underlying t with
 | some (.struct fs) => if fs.toList.all (fun f => (szT P f.type).isSome) then (zEG (fun i => (fs[i]?).bind fun f => (szT P f.type).map fun n => (f.offset, n)) zc parts).map .agg else none
 | some (.array _ e) => (szT P e).bind fun n => (zEG (fun i => some (i * n, n)) zc parts).map .agg
 | _ => none
def zAz (n : Nat) (es : List D) : List (Nat × D) → Option (List D)
 | [] => some es
 | (i, v) :: rest => (cellsOf v).bind fun xs => if xs.length = n ∧ i < es.length then zAz n (es.set i v) rest else none
def elems (H : Hp) (n : Nat) : D → Option (Bool × List D)
 | .vec sz _ es => if sz = n then some (true, es) else none
 | .nils => some (true, [])
 | .emp _ => some (true, [])
 | .own id off len => match H id with | .row sz pl es => if sz = n then some (pl, (es.drop off).take len) else none | _ => none
 | .st l => if n = 1 then some (true, l.map fun c => .it .u8 c.toNat) else none
 | _ => none

mutual
def eqD : Nat → TypeId → D → D → Option Bool
 | 0, _, _, _ => none
 | n + 1, t, a, b => match P.underlying t, a, b with
   | some .bool, .bo p, .bo q => some (p == q)
   | some (.int _), .it k p, .it k' q => if k = k' then some (p == q) else none
   | some .string, .st p, .st q => some (p == q)
   | some (.struct fs), .agg xs, .agg ys => if P.stoodInHeld t then none else eqF n fs.toList xs ys
   | some (.slice _), .nils, .nils => some true
   | some (.slice _), .emp b, .nils => some (!b)
   | some (.slice _), .vec _ _ es, .nils => if es.isEmpty then none else some false
   | some (.func ..), .nilf, .nilf => some true
   | some (.func ..), .nilf, .fn .. => some false
   | some (.func ..), .fn .., .nilf => some false
   | _, _, _ => none
def eqF : Nat → List Field → List D → List D → Option Bool
 | _, [], _, _ => some true
 | n, f :: fs, xs, ys => if f.name = "_" then none else
   (zAx P f.type xs f.offset).bind fun p => (zAx P f.type ys f.offset).bind fun q => (eqD n f.type p q).bind fun r => (eqF n fs xs ys).map fun r' => r && r'
end

def zAs (op : BinOp) (k : IntKind) (a b : Int) : Option Int :=
 match op with
 | .and => some (k.wrap (BitVec.ofInt k.bits a &&& BitVec.ofInt k.bits b).toNat)
 | .or => some (k.wrap (BitVec.ofInt k.bits a ||| BitVec.ofInt k.bits b).toNat)
 | .xor => some (k.wrap (BitVec.ofInt k.bits a ^^^ BitVec.ofInt k.bits b).toNat)
 | .andNot => some (k.wrap (BitVec.ofInt k.bits a &&& ~~~ BitVec.ofInt k.bits b).toNat)
 | _ => none
def zAD (op : BinOp) (k : IntKind) (a b : Int) : Option D :=
 match op with
 | .add => some (.it k (k.wrap (a + b)))
 | .sub => some (.it k (k.wrap (a - b)))
 | .mul => some (.it k (k.wrap (a * b)))
 | .quo => if b = 0 then none else some (.it k (k.wrap (a.tdiv b)))
 | .rem => if b = 0 then none else some (.it k (a.tmod b))
 | .eql => some (.bo (a == b))
 | .neq => some (.bo (a != b))
 | .lss => some (.bo (decide (a < b)))
 | .leq => some (.bo (decide (a ≤ b)))
 | .gtr => some (.bo (decide (a > b)))
 | .geq => some (.bo (decide (a ≥ b)))
 | .shl => none
 | .shr => none
 | op => (zAs op k a b).map (.it k)
def zAh (op : BinOp) (k : IntKind) (a b : Int) : Option D :=
 if b < 0 then none else match op with
 | .shl => some (.it k (k.wrap (a * 2 ^ (min b.toNat k.bits))))
 | .shr => some (.it k (a.fdiv (2 ^ (min b.toNat k.bits))))
 | _ => none
def zAC (op : BinOp) (a b : List UInt8) : Option D :=
 match op with
 | .add => if a.length + b.length ≤ 9223372036854775807 then some (.st (a ++ b)) else none
 | .eql => some (.bo (a == b))
 | .neq => some (.bo (!(a == b)))
 | .lss => some (.bo (Op.bytesLess a b))
 | .leq => some (.bo (Op.bytesLess a b || a == b))
 | .gtr => some (.bo (!(Op.bytesLess a b || a == b)))
 | .geq => some (.bo (!(Op.bytesLess a b)))
 | _ => none
def zEq (op : BinOp) (r : Option Bool) : Option D := match op with
 | .eql => r.map .bo
 | .neq => r.map fun r => .bo (!r)
 | _ => none
def binD (op : BinOp) (t : TypeId) (a b : D) : Option D :=
 match a, b with
 | .it k x, .it k' y => match op with
   | .shl => zAh op k x y
   | .shr => zAh op k x y
   | _ => if k = k' then zAD op k x y else none
 | .st x, .st y => zAC op x y
 | .bo _, .bo _ => zEq op (eqD P 12 t a b)
 | .agg _, .agg _ => if P.eqGuardType P.depth t then none else zEq op (eqD P 12 t a b)
 | .nils, .nils => zEq op (eqD P 12 t a b)
 | .emp _, .nils => zEq op (eqD P 12 t a b)
 | .vec _ _ _, .nils => zEq op (eqD P 12 t a b)
 | .nilf, .nilf => zEq op (eqD P 12 t a b)
 | .nilf, .fn _ _ _ => zEq op (eqD P 12 t a b)
 | .fn _ _ _, .nilf => zEq op (eqD P 12 t a b)
 | _, _ => none
def unD (op : UnOp) (a : D) : Option D :=
 match op, a with
 | .neg, .it k n => some (.it k (k.wrap (0 - n)))
 | .xor, .it k n => (zAs .xor k (if k.signed then -1 else k.max) n).map (.it k)
 | .not, .bo p => some (.bo (!p))
 | _, _ => none
def byteOfD : D → Option UInt8
 | .it .u8 n => some (UInt8.ofNat n.toNat)
 | _ => none
def idx (d : D) : Option Int := match d with | .it _ n => some n | _ => none

def zB1 (H : Hp) (x : D) : Option D := match x with
 | .ptr id off => match H id with | .box _ => some (.ptr id off) | _ => none
 | .rowp id ix off => match H id with | .row _ _ _ => some (.rowp id ix off) | _ => none
 | .elt cs => some (.elt cs)
 | .fn (.func f) p q => some (.fn (.func f) p q)
 | _ => none
def bnds (n : Nat) (lo hi mx : Option D) : Option (Nat × Nat × Option Nat) :=
 (match lo with | none => some (0 : Int) | some d => idx d).bind fun l => match mx with
 | none => (match hi with | none => some (n : Int) | some d => idx d).bind fun h => if 0 ≤ l ∧ l ≤ h ∧ h ≤ n then some (l.toNat, h.toNat, none) else none
 | some m => (hi.bind idx).bind fun h => (idx m).bind fun m => if 0 ≤ l ∧ l ≤ h ∧ h ≤ m ∧ m ≤ n then some (l.toNat, h.toNat, some m.toNat) else none
def capB : Option Nat → Bool → Nat → Bool
 | none, b, _ => b
 | some m, _, h => decide (m = h)
def yEl (t : TypeId) : Bool := match P.underlying t with | some .string => true | _ => false
def zAW (H : Hp) (t : TypeId) (x : D) (lo hi mx : Option D) : Option D :=
 match x with
 | .st s => (bnds s.length lo hi mx).bind fun (l, h, m) => if yEl P t && m.isNone then some (.st ((s.take h).drop l)) else none
 | .vec sz cl es => (zBL P t).bind fun e => if szT P e = some sz then (bnds es.length lo hi mx).map fun (l, h, m) =>
     .vec sz (capB m (cl && hi.isNone) h) ((es.take h).drop l) else none
 | .nils => (zBL P t).bind fun e => (szT P e).bind fun _ => (bnds 0 lo hi mx).map fun _ => .nils
 | .own id off len => (zBL P t).bind fun e => match H id with
   | .row sz _ _ => if szT P e = some sz then (bnds len lo hi mx).bind fun (l, h, m) => match m with
     | none => some (.own id (off + l) (h - l))
     | some m => if m = l then some (.vec sz true []) else none
     else none
   | _ => none
 | _ => none

def zAP (H : Hp) (t : TypeId) (x ix : D) : Option D :=
 (idx ix).bind fun k => match P.underlying t, x with
 | some (.slice e), .vec sz _ es => if szT P e = some sz ∧ 0 ≤ k then (es[k.toNat]?).map fun e => .elt e.cells else none
 | some (.slice e), .own id off len => match H id with
   | .row sz _ _ => if szT P e = some sz ∧ 0 ≤ k ∧ k < len then some (.rowp id (off + k.toNat) 0) else none
   | _ => none
 | some (.array n e), .ptr id off => match H id with
   | .box cs => (szT P e).bind fun sz => if 0 ≤ k ∧ k < n ∧ off + k.toNat * sz ≤ cs.length then some (.ptr id (off + k.toNat * sz)) else none
   | _ => none
 | _, _ => none
def zAM (H : Hp) (t : TypeId) (x : D) (f : Nat) : Option D :=
 (zAQ P t f).bind fun fl => (szT P fl.type).bind fun n => if n = 0 then none else match x with
 | .ptr id off => match H id with | .box cs => if off + fl.offset ≤ cs.length then some (.ptr id (off + fl.offset)) else none | _ => none
 | .rowp id ix off => match H id with | .row sz _ _ => if off + fl.offset ≤ sz then some (.rowp id ix (off + fl.offset)) else none | _ => none
 | .elt cs => if fl.offset ≤ cs.length then some (.elt (cs.drop fl.offset)) else none
 | _ => none
def zDL (t : TypeId) (x ix : D) : Option D :=
 (idx ix).bind fun k => match P.underlying t, x with
 | some .string, .st l => if 0 ≤ k then (l[k.toNat]?).map fun c => .it .u8 c.toNat else none
 | some (.array n e), .agg cs => (szT P e).bind fun sz => if 0 ≤ k ∧ k < n then zAx P e cs (k.toNat * sz) else none
 | _, _ => none

def zBP (u : TypeId) (x : D) : Bool := match P.underlying u, x with
 | some .string, .st _ => true
 | some (.slice _), .st _ => false
 | some (.slice _), _ => true
 | _, _ => false
def zDn (e : TypeId) (n : Nat) : Option D := (zDC P e).bind fun z => (cellsOf z).bind fun cs => if cs.length = n ∧ 0 < n then some z else none
def zFl (e : TypeId) : Option (List D) := (zDC P e).bind cellsOf
def zBY (t : TypeId) (H : Hp) (nid : Nat) (s x : D) : Option (D × Hp × Nat) :=
 (zBL P t).bind fun e => (P.info? e).bind fun inf => (elems H inf.size x).bind fun (px, ys) => (zFl P e).bind fun z =>
 if inf.size = 0 ∨ inf.bytes = 0 ∨ z.length ≠ inf.size then none else
 match s with
 | .nils => if ys.length * inf.bytes ≤ 140737488355328 then some (.own nid 0 ys.length, upd H nid (.row inf.size px ys), nid + 1) else none
 | .vec sz true es => if sz = inf.size ∧ (es = [] ∨ ys ≠ []) ∧ (es.length + ys.length) * inf.bytes ≤ 140737488355328 then some (.own nid 0 (es.length + ys.length), upd H nid (.row inf.size px (es ++ ys)), nid + 1) else none
 | .own id off len => match H id with
   | .row sz pl es => if sz = inf.size ∧ off + len = es.length ∧ (len + ys.length) * inf.bytes ≤ 140737488355328 then
       some (.own nid 0 (len + ys.length), upd (upd H id .gone) nid (.row sz (pl && px) (es.drop off ++ ys)), nid + 1) else none
   | _ => none
 | _ => none
def zPT (t : TypeId) (H : Hp) (d : D) : Option (D × Hp) :=
 (zBL P t).bind fun e => match d with
 | .own id off len => match H id with
   | .row sz pl es => (zDn P e sz).bind fun z => if off + len ≤ es.length then some (.tup [], upd H id (.row sz pl (es.take off ++ (List.replicate len z ++ es.drop (off + len))))) else none
   | _ => none
 | _ => none
def zDe (t : TypeId) (H : Hp) (nid : Nat) (l c : D) : Option (D × Hp × Nat) :=
 (zBL P t).bind fun e => (P.info? e).bind fun inf => (zDn P e inf.size).bind fun z =>
 match l, c with
 | .it .i64 l, .it .i64 c => if 0 ≤ l ∧ l ≤ c ∧ (inf.bytes : Int) * c ≤ 281474976710656 ∧ 0 < inf.bytes then some (.own nid 0 l.toNat, upd H nid (.row inf.size true (List.replicate l.toNat z)), nid + 1) else none
 | _, _ => none

def zEa (kt : TypeId) (k : D) : List (D × D) → Option (Option Nat)
 | [] => some none
 | (k', _) :: r => (eqD P 12 kt k k').bind fun e => if e then some (some 0) else (zEa kt k r).map fun (o : Option Nat) => o.map (· + 1)
mutual
def zEj : D → D → Bool
 | .bo a, .bo b => a == b
 | .it k a, .it k' b => k == k' && a == b
 | .st a, .st b => a == b
 | .agg xs, .agg ys => zE5 xs ys
 | _, _ => false
def zE5 : List D → List D → Bool
 | [], [] => true
 | x :: xs, y :: ys => zEj x y && zE5 xs ys
 | _, _ => false
end
def mapT (t : TypeId) : Option (TypeId × TypeId) := match P.underlying t with | some (.map k v) => some (k, v) | _ => none
def zDt (H : Hp) (t : TypeId) (m k : D) (ok : Bool) : Option D :=
 (mapT P t).bind fun (kt, vt) => (zDC P vt).bind fun z => if !(scal k && (eqD P 12 kt k k).isSome) then none else
 (match m with | .nilm => some [] | .map id => (match H id with | .mp es => some es | _ => none) | _ => none).bind fun es =>
 (zEa P kt k es).map fun (o : Option Nat) =>
 let (v, f) := match o.bind (es[·]?) with | some p => (p.2, true) | none => (z, false)
 if ok then .tup [v, .bo f] else v
def zEu (H : Hp) (t : TypeId) (m k v : D) : Option Hp :=
 (mapT P t).bind fun (kt, _) => if !(scal k && immD v && (eqD P 12 kt k k).isSome) then none else match m with
 | .map id => match H id with
   | .mp es => (zEa P kt k es).bind fun (o : Option Nat) => match o with
     | some j => if ((es[j]?).map fun p => zEj p.1 k) = some true then some (upd H id (.mp (es.set j (k, v)))) else none
     | none => some (upd H id (.mp (es ++ [(k, v)])))
   | _ => none
 | _ => none
end

mutual
def refs : D → List Nat
 | .own id _ _ => [id]
 | .ptr id _ => [id]
 | .rowp id _ _ => [id]
 | .map id => [id]
 | .agg cs => zAp cs
 | .tup cs => zAp cs
 | .fn _ first caps => zAp first ++ zAp caps
 | _ => []
def zAp : List D → List Nat
 | [] => []
 | d :: r => refs d ++ zAp r
end
def refsB : Blk → List Nat
 | .box cs => zAp cs
 | .row _ false es => zAp es
 | _ => []
def zAY (H : Hp) : Nat → List Nat → List Nat → List Nat
 | 0, _, acc => acc
 | _ + 1, [], acc => acc
 | n + 1, id :: todo, acc => if acc.contains id then zAY H n todo acc else zAY H n (refsB (H id) ++ todo) (acc ++ [id])
def ixOf : List Nat → Nat → Option Nat
 | [], _ => none
 | a :: r, k => if a = k then some 0 else (ixOf r k).map (· + 1)
def renBlk (f : Nat → Option Nat) : Blk → Blk
 | .box cs => .box (renL f cs)
 | .row sz false es => .row sz false (renL f es)
 | b => b
structure Res where
 al : Bool
 r : D
 hs : List Blk
def Res.flat (d : D) : Res := ⟨false, d, []⟩

structure Cx where
 P : Program
 rd : List FuncId
 orc : FuncId → Option (List D → Option Res)
 ext : FuncId → Option (List D → Option D)
 eff : FuncId → Option (List D → List Blk → Option (D × List Blk))
 bs : Nat
 kp : Nat → Option (List Nat)

def zB8 (H : Hp) (nid : Nat) (hs : List Blk) : Hp := fun id => if nid ≤ id then (hs[id - nid]?).getD (H id) else H id
theorem zGm (H : Hp) (nid : Nat) : zB8 H nid [] = H := by funext id; simp [zB8]

def ofHp : List Blk → Nat → Blk
 | [], _ => .gone
 | b :: _, 0 => b
 | _ :: r, k + 1 => ofHp r k
def closed (H : Hp) (ids : List Nat) : Bool := ids.all fun i => (refsB (H i)).all fun j => ids.contains j
def zBv (ids : List Nat) (H : Hp) : Hp := fun id => if ids.contains id then H id else .gone
def zEY (ids : List Nat) (nid j : Nat) : Option Nat := if j < ids.length then ids[j]? else some (nid + (j - ids.length))
def zFh (ids : List Nat) (nid : Nat) (hs : List Blk) (H : Hp) : Hp := fun id => match ixOf ids id with
 | some j => renBlk (zEY ids nid) (ofHp hs j)
 | none => if nid ≤ id ∧ id < nid + (hs.length - ids.length) then renBlk (zEY ids nid) (ofHp hs (ids.length + (id - nid))) else H id
def zCc (F : List D → List Blk → Option (D × List Blk)) (args : List D) (H : Hp) (nid : Nat) : Option (D × Hp × Nat) :=
 let ids := zAY H 60 (zAp args) []
 if closed H ids && (zAp args).all (fun j => ids.contains j) then
   (F (renL (ixOf ids) args) (ids.map fun i => renBlk (ixOf ids) (H i))).bind fun (r, hs) => if ids.length ≤ hs.length then some (ren (zEY ids nid) r, zFh ids nid hs H, nid + (hs.length - ids.length)) else none
 else none

def zBI (cx : Cx) (g : FuncId) (args : List D) (H : Hp) (nid : Nat) : Option (D × Hp × Nat) :=
 match cx.orc g with
 | some F => (args.mapM (bor H 3)).bind fun asx => (F asx).bind fun r =>
   if r.al && !(immL args) then none else some (ren (fun i => some (nid + i)) r.r, zB8 H nid r.hs, nid + r.hs.length)
 | none => match cx.ext g with
   | some F => (args.mapM (bor H 3)).bind fun asx => (F asx).map fun d => (d, H, nid)
   | none => (cx.eff g).bind fun F => zCc F args H nid

def minD (f : Int → Int → Int) : List D → Option D
 | [] => none
 | x :: r => r.foldlM (fun a b => match a, b with | .it k p, .it _ q => some (.it k (f p q)) | _, _ => none) x

def lenD (P : Program) (H : Hp) (t : TypeId) (d : D) : Option Int :=
 match P.underlying t, d with
 | some .string, .st l => some (l.length : Int)
 | some (.slice _), .vec _ _ es => some (es.length : Int)
 | some (.slice _), .nils => some 0
 | some (.slice _), .own id _ len => match H id with | .row _ _ _ => some (len : Int) | _ => none
 | some (.map _ _), .nilm => some 0
 | some (.map _ _), .map id => match H id with | .mp es => some (es.length : Int) | _ => none
 | _, _ => none

def zAd (cx : Cx) (b : Builtin) (ts : List TypeId) (args : List D) (H : Hp) (nid : Nat) : Option (D × Hp × Nat) :=
 match b, ts, args with
 | .len, [t], [x] => (lenD cx.P H t x).map fun n => (.it .i64 n, H, nid)
 | .append, [t, u], [s, x] => if zBP cx.P u x then zBY cx.P t H nid s x else none
 | .clear, [t], [x] => (zPT cx.P t H x).map fun (r, H') => (r, H', nid)
 | .min, _, xs => (minD (fun p q => if q < p then q else p) xs).map fun d => (d, H, nid)
 | .max, _, xs => (minD (fun p q => if p < q then q else p) xs).map fun d => (d, H, nid)
 | _, _, _ => none

def nilC : Operand → Bool | .const (.slice none 0 0) => true | _ => false
def zAr (P : Program) (t : TypeId) (H : Hp) (nid : Nat) : Option (D × Hp × Nat) :=
 (zBL P t).bind fun e => (szT P e).bind fun sz => if 0 < sz then some (.own nid 0 0, upd H nid (.row sz true []), nid + 1) else none
def opD (cx : Cx) (env : Nat → D) (o : Oper) (H : Hp) (nid : Nat) : Option (D × Hp × Nat) :=
 let ρ := ev env
 match o.op with
 | .move x => some (ρ x, H, nid)
 | .assign x => if nilC x then zAr cx.P o.type H nid else some (ρ x, H, nid)
 | .pick c a b => match ρ c with | .bo t => some (if t then ρ a else ρ b, H, nid) | _ => none
 | .alloc t => (zDC cx.P t).bind fun z => (cellsOf z).map fun cs => (.ptr nid 0, upd H nid (.box cs), nid + 1)
 | .box t x => (cellsOf (ρ x)).map fun cs => (.ptr nid 0, upd H nid (.box cs), nid + 1)
 | .build t parts => (zDm cx.P t (parts.toList.map fun (i, x) => (i, ρ x))).map fun d => (d, H, nid)
 | .buildSlice t n parts => (zBL cx.P t).bind fun e => (szT cx.P e).bind fun sz => (zDn cx.P e sz).bind fun z =>
   if n * sz ≤ 16777216 ∧ 0 ≤ n then
     (zAz sz (List.replicate n z) (parts.toList.map fun (i, x) => (i, ρ x))).map fun es => (.own nid 0 n, upd H nid (.row sz (immL es) es), nid + 1)
   else none
 | .load t a => (deref H (ρ a)).bind fun cs => (ldD cx.P t cs).map fun d => (d, H, nid)
 | .store t a x => (cellsOf (ρ x)).bind fun xs => if szT cx.P t = some xs.length then (zKL H (ρ a) xs).map fun H' => (.un, H', nid) else none
 | .nilCheck x => (zB1 H (ρ x)).map fun d => (d, H, nid)
 | .binOp op t x y _ => (binD cx.P op t (ρ x) (ρ y)).map fun d => (d, H, nid)
 | .unOp op _ x => (unD op (ρ x)).map fun d => (d, H, nid)
 | .convert src dst x => match cx.P.underlying src, cx.P.underlying dst, ρ x with
   | some _, some (.int k), .it _ n => some (.it k (k.wrap n), H, nid)
   | some .string, some .string, .st l => some (.st l, H, nid)
   | some .string, some (.slice e), .st l => match cx.P.underlying e, szT cx.P e with
     | some (.int .u8), some 1 => if l.length ≤ 140737488355328 then some (.own nid 0 l.length, upd H nid (.row 1 true (l.map fun c => .it .u8 c.toNat)), nid + 1) else none
     | _, _ => none
   | some (.slice e), some .string, d => match cx.P.underlying e, szT cx.P e with
     | some (.int .u8), some 1 => if zBP cx.P src d then (elems H 1 d).bind fun (_, es) => (es.mapM byteOfD).map fun l => (.st l, H, nid) else none
     | _, _ => none
   | _, _, _ => none
 | .makeFunc fn first caps => some (.fn fn (first.toList.map ρ) (caps.toList.map ρ), H, nid)
 | .makeMap t r => (mapT cx.P t).bind fun _ => match r.map ρ with
   | none => some (.map nid, upd H nid (.mp []), nid + 1)
   | some (.it _ _) => some (.map nid, upd H nid (.mp []), nid + 1)
   | _ => none
 | .makeSlice t l c => zDe cx.P t H nid (ρ l) (ρ c)
 | .slice t x lo hi mx => (zAW cx.P H t (ρ x) (lo.map ρ) (hi.map ρ) (mx.map ρ)).map fun d => (d, H, nid)
 | .fieldAddr t x f => (zAM cx.P H t (ρ x) f).map fun d => (d, H, nid)
 | .field t x f => match ρ x with | .agg cs => (zAQ cx.P t f).bind fun fl => (zAx cx.P fl.type cs fl.offset).map fun d => (d, H, nid) | _ => none
 | .indexAddr t x ix => (zAP cx.P H t (ρ x) (ρ ix)).map fun d => (d, H, nid)
 | .index t x ix => (zDL cx.P t (ρ x) (ρ ix)).map fun d => (d, H, nid)
 | .lookup t m k ok => (zDt cx.P H t (ρ m) (ρ k) ok).map fun d => (d, H, nid)
 | .mapUpdate t m k v => (zEu cx.P H t (ρ m) (ρ k) (ρ v)).map fun H' => (.un, H', nid)
 | .insert t m k v => (zEu cx.P H t (ρ m) (ρ k) (ρ v)).map fun H' => (.un, H', nid)
 | .extract t j => match ρ t with | .tup ds => (ds[j]?).map fun d => (d, H, nid) | _ => none
 | .call c => match c.callee with
   | .value f => match ρ f with
     | .fn (.func g) first caps => zBI cx g (first ++ c.args.toList.map ρ ++ caps) H nid
     | _ => none
   | .builtin b => zAd cx b c.argTypes.toList (c.args.toList.map ρ) H nid
   | _ => none
 | _ => none

structure St where
 env : Nat → D
 H : Hp
 nx : Nat

def zA4 (env : Nat → D) : Option Nat → D → (Nat → D)
 | some d, v => upd env d v
 | none, _ => env

def zFm (ops : List Oper) (env : Nat → D) (o : Oper) : Option Bool :=
 match o.guard with
 | none => some true
 | some (j, want) => match (ops[j]?).bind (·.dst) with
   | some t => match env t with | .bo v => some (v == want) | .tup _ => some false | _ => none
   | none => none

def zEZ (cx : Cx) (ops : List Oper) : List Oper → St → Option St
 | [], st => some st
 | o :: rest, st => (zFm ops st.env o).bind fun w =>
   if w then (opD cx st.env o st.H st.nx).bind fun (d, H', nx') => zEZ cx ops rest ⟨zA4 st.env o.dst d, H', nx'⟩
   else zEZ cx ops rest ⟨zA4 st.env o.dst (.tup []), st.H, st.nx⟩

def zBK (rd : List FuncId) : Op → Nat
 | .move _ => 0
 | .assign x => if nilC x then 1 else 0
 | .pick _ _ _ => 0
 | .build _ _ => 0
 | .binOp _ _ _ _ _ => 0
 | .unOp _ _ _ => 0
 | .field _ _ _ => 0
 | .index _ _ _ => 0
 | .makeFunc _ _ _ => 0
 | .extract _ _ => 0
 | .alloc _ => 1
 | .box _ _ => 1
 | .buildSlice _ _ _ => 1
 | .load _ _ => 1
 | .nilCheck _ => 1
 | .convert _ _ _ => 1
 | .makeMap _ _ => 1
 | .makeSlice _ _ _ => 1
 | .slice _ _ _ _ _ => 1
 | .fieldAddr _ _ _ => 1
 | .indexAddr _ _ _ => 1
 | .lookup _ _ _ _ => 1
 | .call c => match c.callee with
   | .value (.func g) => if rd.contains g then 1 else 2
   | .builtin .len => 1
   | .builtin .min => 1
   | .builtin .max => 1
   | _ => 2
 | _ => 2
def yJA : Operand → Option Tmp | .tmp t => some t | _ => none
def looks (ops : List Oper) (o : Oper) : List Tmp :=
 o.op.operands.toList.filterMap yJA ++ (match o.guard with | some (g, _) => ((ops[g]?).bind (·.dst)).toList | none => [])
def direct (o : Oper) : List Nat := (o.after.toList.filter (Region.binds .any)).map (·.on)
def befs : List Oper → List Nat → List Nat
 | [], acc => acc
 | o :: r, acc => befs r (acc ++ [(direct o).foldl (fun s j => s ||| 2 ^ j ||| acc.getD j 0) 0])
def zYj (o : Oper) (l : List Tmp) : Bool := match o.dst with | some d => !(l.contains d) | none => true
def zUa (o p : Oper) : Bool := match o.dst with | some d => p.dst != some d | none => true
def free (rd : List FuncId) (ops : List Oper) (o p : Oper) : Bool :=
 zYj o (looks ops p) && zYj p (looks ops o) && zUa o p && zUa p o && (zBK rd o.op == 0 || zBK rd p.op == 0 || (zBK rd o.op == 1 && zBK rd p.op == 1))
def zLT (rd : List FuncId) (ops : List Oper) : Bool :=
 let bs := befs ops []
 (List.range ops.length).all fun i => match ops[i]? with
 | none => true
 | some o => (direct o).all (fun j => j < i && (bs.getD i 0).testBit j) &&
   (List.range ops.length).all fun j => match ops[j]? with
   | none => true
   | some p => if (bs.getD i 0).testBit j then j < i && ((direct o).contains j || (direct o).any fun k => (bs.getD k 0).testBit j)
     else i == j || (bs.getD j 0).testBit i || free rd ops o p
def vis (nx bef id : Nat) : Bool := decide (id < nx) || bef.testBit ((id - nx) / 64)
def mend (ids : List Nat) (nid : Nat) (H H' : Hp) : Hp := fun id => if ids.contains id || (decide (nid ≤ id) && decide (id < nid + 64)) then H' id else H id
def roots (env : Nat → D) (o : Oper) : List Nat := o.op.operands.toList.flatMap fun x => refs (ev env x)
def stepD (cx : Cx) (nx bef i : Nat) (o : Oper) (env : Nat → D) (H : Hp) : Option (D × Hp) :=
 if zBK cx.rd o.op = 0 then (opD cx env o (fun _ => .gone) 0).map fun (d, _, _) => (d, H)
 else let ids := zAY H 60 (roots env o) []
   if closed H ids && (roots env o).all (fun j => ids.contains j) && ids.all (vis nx bef) then
     (opD cx env o (zBv ids H) (nx + i * 64)).bind fun (d, H', nx') => if nx' ≤ nx + i * 64 + 64 then some (d, if zBK cx.rd o.op = 1 ∧ nx' = nx + i * 64 then H else mend ids (nx + i * 64) H H') else none
   else none
def zDw (cx : Cx) (ops : List Oper) (bef : List Nat) (nx : Nat) : List Oper → Nat → (Nat → D) → Hp → Option ((Nat → D) × Hp)
 | [], _, env, H => some (env, H)
 | o :: rest, i, env, H => (zFm ops env o).bind fun w =>
   if w then (stepD cx nx (bef.getD i 0) i o env H).bind fun (d, H') => zDw cx ops bef nx rest (i + 1) (zA4 env o.dst d) H'
   else zDw cx ops bef nx rest (i + 1) (zA4 env o.dst (.tup [])) H

def zI4 (nt : Nat) (ops : List Oper) : Bool := ops.all fun o => match o.dst with | some d => d < nt | none => true
def codeOk (rd : List FuncId) (nt : Nat) : Code → Bool
 | .region _ ops draw => zI4 nt ops.toList && (!draw || zLT rd ops.toList)
 | .seq a b => codeOk rd nt a && codeOk rd nt b
 | .cond _ a b => codeOk rd nt a && codeOk rd nt b
 | .block _ c => codeOk rd nt c
 | .loop c => codeOk rd nt c
 | _ => true

inductive Ex where
 | nrm
 | exit (n : Nat)
 | gto (n : Nat)
 | ret

def zBt : Code → Nat
 | .region id _ _ => id
 | .seq a _ => zBt a
 | .block _ c => zBt c
 | .loop c => zBt c
 | _ => 1000000

def zDJ : List (Nat × D) → Nat → D
 | [], _ => .un
 | (t, d) :: r, k => if k = t then d else zDJ r k
def zCH (bs : Nat) (ds : List D) (H : Hp) : List Nat := zAY H 60 (zAp ds ++ (List.range bs).flatMap fun i => refsB (H i)) (List.range bs)
def tidy (bs : Nat) (ks : List Nat) (st : St) : Option St :=
 let ids := zCH bs (ks.map st.env) st.H
 if closed st.H ids && (zAp (ks.map st.env)).all (fun j => ids.contains j) then
   some ⟨zDJ (ks.map fun t => (t, ren (ixOf ids) (st.env t))), ofHp (ids.map fun i => renBlk (ixOf ids) (st.H i)), ids.length⟩
 else none

def iter (f : St → Option (Ex × St)) : Nat → St → Option (Ex × St)
 | 0, _ => none
 | n + 1, st => match f st with
   | some (.nrm, st') => iter f n st'
   | r => r
open Classical in
noncomputable def lim {α : Type} (g : Nat → Option α) : Option α := if h : ∃ a, ∃ n, g n = some a then some (Classical.choose h) else none

noncomputable def exec (cx : Cx) : Code → St → Option (Ex × St)
 | .skip, st => some (.nrm, st)
 | .region _ ops draw, st =>
   if draw then (zDw cx ops.toList (befs ops.toList []) st.nx ops.toList 0 st.env st.H).map fun (env, H) => (.nrm, ⟨env, H, st.nx + ops.size * 64⟩)
   else (zEZ cx ops.toList ops.toList st).map fun s => (.nrm, s)
 | .seq a b, st => match exec cx a st with
   | some (.nrm, st') => exec cx b st'
   | r => r
 | .cond c a b, st => match ev st.env c with
   | .bo t => if t then exec cx a st else exec cx b st
   | _ => none
 | .block id c, st => match exec cx c st with
   | some (.exit j, st') => if j = id then some (.nrm, st') else some (.exit j, st')
   | r => r
 | .loop c, st => lim fun n => iter (fun s => (match cx.kp (zBt c) with | some ks => tidy cx.bs ks s | none => some s).bind fun s => exec cx c s) n st
 | .exit id, st => some (.exit id, st)
 | .ret, st => some (.ret, st)
 | .label _, st => some (.nrm, st)
 | .goto l, st => some (.gto l, st)
 | _, _ => none

def resD (P : Program) (st : St) : List ResultVar → Option (List D)
 | [] => some []
 | .tmp t :: r => (resD P st r).map (st.env t :: ·)
 | .cell a t :: r => (deref st.H (st.env a)).bind fun cs => (ldD P t cs).bind fun d => (resD P st r).map (d :: ·)
def one : List D → D
 | [d] => d
 | ds => .tup ds

def zAq : List D → Nat → D
 | [], _ => .un
 | d :: _, 0 => d
 | _ :: r, k + 1 => zAq r k

noncomputable def runD (cx : Cx) (fn : Func) (args : List D) (hs : List Blk) : Option (List D × Hp × Nat) :=
 fn.body.bind fun c => match exec cx c ⟨zAq args, ofHp hs, hs.length⟩ with
   | some (.nrm, st) => (resD cx.P st fn.results.toList).map fun ds => (ds, st.H, st.nx)
   | some (.ret, st) => (resD cx.P st fn.results.toList).map fun ds => (ds, st.H, st.nx)
   | _ => none
section inv
variable {M : Mem} {A : Nat → Prop} {H : Hp} {μ : Mu}

theorem zE2 {t : Bool} {v : Value} (h : VR M (Leaf A H μ) (.bo t) v) : v = .bool t := by
 cases h with
 | imm h => cases h; rfl
 | leaf h => exact h.elim
theorem zCN {k : IntKind} {n : Int} {v : Value} (h : VR M (Leaf A H μ) (.it k n) v) : v = .int k n := by
 cases h with
 | imm h => cases h; rfl
 | leaf h => exact h.elim
theorem zEi {l : List UInt8} {v : Value} (h : VR M (Leaf A H μ) (.st l) v) : v = .string ⟨l.toArray⟩ := by
 cases h with
 | imm h => cases h; rfl
 | leaf h => exact h.elim
theorem zGA {b : Bool} {v : Value} (h : VR M (Leaf A H μ) (.emp b) v) : ∃ a c, v = .slice a 0 c ∧ a.isSome = b := by
 cases h with
 | imm h => cases h with | emp _ a c h => exact ⟨a, c, rfl, h⟩
 | leaf h => exact h.elim
theorem zBC {v : Value} (h : VR M (Leaf A H μ) .nils v) : v = .slice none 0 0 := by
 cases h with
 | imm h => cases h; rfl
 | leaf h => exact h.elim
theorem zJH {v : Value} (h : VR M (Leaf A H μ) .nilm v) : v = .map none := by
 cases h with
 | imm h => cases h; rfl
 | leaf h => exact h.elim
theorem zDo {sz : Nat} {cl : Bool} {es : List D} {v : Value} (h : VR M (Leaf A H μ) (.vec sz cl es) v) : VRi M (.vec sz cl es) v := by
 cases h with
 | imm h => exact h
 | leaf h => exact h.elim
theorem zKb {cs : List D} {v : Value} (h : VR M (Leaf A H μ) (.elt cs) v) : VRi M (.elt cs) v := by
 cases h with
 | imm h => exact h
 | leaf h => exact h.elim
theorem zC4 {id off len : Nat} {v : Value} (h : VR M (Leaf A H μ) (.own id off len) v) : Leaf A H μ (.own id off len) v := by
 cases h with
 | imm h => cases h
 | leaf h => exact h
theorem zEA {id off : Nat} {v : Value} (h : VR M (Leaf A H μ) (.ptr id off) v) : Leaf A H μ (.ptr id off) v := by
 cases h with
 | imm h => cases h
 | leaf h => exact h
theorem zDZ {id ix off : Nat} {v : Value} (h : VR M (Leaf A H μ) (.rowp id ix off) v) : Leaf A H μ (.rowp id ix off) v := by
 cases h with
 | imm h => cases h
 | leaf h => exact h
theorem zHW {id : Nat} {v : Value} (h : VR M (Leaf A H μ) (.map id) v) : Leaf A H μ (.map id) v := by
 cases h with
 | imm h => cases h
 | leaf h => exact h

theorem zDB {L : D → Value → Prop} (hL : ∀ cs v, ¬ L (.agg cs) v) {cs : List D} {v : Value} (h : VR M L (.agg cs) v) :
   ∃ vs, v = .agg vs ∧ vs.size = cs.length ∧ ∀ (k : Nat) (d : D), cs[k]? = some d → ∃ u, vs[k]? = some u ∧ u.oneCell' = true ∧ VR M L d u := by
 cases h with
 | imm h =>
   cases h with
   | agg _ vs hl us hu h1 hv =>
     refine ⟨vs, rfl, hl, fun k d hd => ?_⟩
     have hk : k < vs.size := by rw [hl]; exact (tAi.1 hd).1
     exact ⟨us k, hu k hk, h1 k hk, .imm (hv k d hd)⟩
 | leaf h => exact absurd h (hL _ _)
 | agg _ vs hl us hu h1 hv =>
   refine ⟨vs, rfl, hl, fun k d hd => ?_⟩
   have hk : k < vs.size := by rw [hl]; exact (tAi.1 hd).1
   exact ⟨us k, hu k hk, h1 k hk, hv k d hd⟩
theorem zMK {L : D → Value → Prop} (hL : ∀ cs v, ¬ L (.tup cs) v) {cs : List D} {v : Value} (h : VR M L (.tup cs) v) :
   ∃ vs, v = .tuple vs ∧ vs.size = cs.length ∧ ∀ (k : Nat) (d : D), cs[k]? = some d → ∃ u, vs[k]? = some u ∧ VR M L d u := by
 cases h with
 | imm h =>
   cases h with
   | tup _ vs hl us hu hv =>
     refine ⟨vs, rfl, hl, fun k d hd => ?_⟩
     have hk : k < vs.size := by rw [hl]; exact (tAi.1 hd).1
     exact ⟨us k, hu k hk, .imm (hv k d hd)⟩
 | leaf h => exact absurd h (hL _ _)
 | tup _ vs hl us hu hv =>
   refine ⟨vs, rfl, hl, fun k d hd => ?_⟩
   have hk : k < vs.size := by rw [hl]; exact (tAi.1 hd).1
   exact ⟨us k, hu k hk, hv k d hd⟩
theorem zFR {L : D → Value → Prop} (hL : ∀ f p q v, ¬ L (.fn f p q) v) {f : Fn} {first caps : List D} {v : Value} (h : VR M L (.fn f first caps) v) :
   ∃ vf vc, v = .func f vf vc ∧ vf.size = first.length ∧ vc.size = caps.length ∧ (∀ (k : Nat) (d : D), first[k]? = some d → ∃ u, vf[k]? = some u ∧ VR M L d u) ∧
     ∀ (k : Nat) (d : D), caps[k]? = some d → ∃ u, vc[k]? = some u ∧ VR M L d u := by
 cases h with
 | imm h =>
   cases h with
   | fn _ _ _ vf vc hf hc uf uc huf huc hvf hvc =>
     refine ⟨vf, vc, rfl, hf, hc, fun k d hd => ?_, fun k d hd => ?_⟩
     · have hk : k < vf.size := by rw [hf]; exact (tAi.1 hd).1
       exact ⟨uf k, huf k hk, .imm (hvf k d hd)⟩
     · have hk : k < vc.size := by rw [hc]; exact (tAi.1 hd).1
       exact ⟨uc k, huc k hk, .imm (hvc k d hd)⟩
 | leaf h => exact absurd h (hL _ _ _ _)
 | fn _ _ _ vf vc hf hc uf uc huf huc hvf hvc =>
   refine ⟨vf, vc, rfl, hf, hc, fun k d hd => ?_, fun k d hd => ?_⟩
   · have hk : k < vf.size := by rw [hf]; exact (tAi.1 hd).1
     exact ⟨uf k, huf k hk, hvf k d hd⟩
   · have hk : k < vc.size := by rw [hc]; exact (tAi.1 hd).1
     exact ⟨uc k, huc k hk, hvc k d hd⟩

theorem Leaf.one {d : D} {v : Value} (h : Leaf A H μ d v) : v.oneCell' = true := by
 cases d <;> simp only [Leaf] at h <;> exact h.1.2
theorem zCx (cs : List D) (v : Value) : ¬ Leaf A H μ (.agg cs) v := fun h => h.elim
theorem zJK (cs : List D) (v : Value) : ¬ Leaf A H μ (.tup cs) v := fun h => h.elim
theorem zD7 (f : Fn) (p q : List D) (v : Value) : ¬ Leaf A H μ (.fn f p q) v := fun h => h.elim

theorem zP0 {L : D → Value → Prop} {cs : List D} {vs : Array Value} (hl : vs.size = cs.length) (h : ∀ (k : Nat) (d : D), cs[k]? = some d → ∃ u, vs[k]? = some u ∧ u.oneCell' = true ∧ VR M L d u) : VR M L (.agg cs) (.agg vs) := by
 refine .agg cs vs hl (fun k => vs.getD k undef) (fun k hk => by simp [tA1 hk, hk]) (fun k hk => ?_) (fun k d hd => ?_)
 · have hk' : k < cs.length := by rw [← hl]; exact hk
   obtain ⟨u, h1, h2, _⟩ := h k cs[k] (tAn hk')
   rw [tAD, h1]; exact h2
 · obtain ⟨u, h1, _, h3⟩ := h k d hd
   rw [tAD, h1]; exact h3
theorem zIJ {L : D → Value → Prop} {cs : List D} {vs : Array Value} (hl : vs.size = cs.length) (h : ∀ (k : Nat) (d : D), cs[k]? = some d → ∃ u, vs[k]? = some u ∧ VR M L d u) : VR M L (.tup cs) (.tuple vs) := by
 refine .tup cs vs hl (fun k => vs.getD k undef) (fun k hk => by simp [tA1 hk, hk]) (fun k d hd => ?_)
 obtain ⟨u, h1, h3⟩ := h k d hd
 rw [tAD, h1]; exact h3
theorem yJ7 {L : D → Value → Prop} {f : Fn} {first caps : List D} {vf vc : Array Value} (hf : vf.size = first.length) (hc : vc.size = caps.length) (h : ∀ (k : Nat) (d : D), first[k]? = some d → ∃ u, vf[k]? = some u ∧ VR M L d u)
   (h' : ∀ (k : Nat) (d : D), caps[k]? = some d → ∃ u, vc[k]? = some u ∧ VR M L d u) : VR M L (.fn f first caps) (.func f vf vc) := by
 refine .fn f first caps vf vc hf hc (fun k => vf.getD k undef) (fun k => vc.getD k undef) (fun k hk => by simp [tA1 hk, hk]) (fun k hk => by simp [tA1 hk, hk]) (fun k d hd => ?_) (fun k d hd => ?_)
 · obtain ⟨u, h1, h3⟩ := h k d hd
   rw [tAD, h1]; exact h3
 · obtain ⟨u, h1, h3⟩ := h' k d hd
   rw [tAD, h1]; exact h3

theorem cells_ok {d : D} {cs : List D} {v : Value} (h : VR M (Leaf A H μ) d v) (hc : cellsOf d = some cs) :
   v.cells.size = cs.length ∧ ∀ (k : Nat) (e : D), cs[k]? = some e → ∃ u, v.cells[k]? = some u ∧ u.oneCell' = true ∧ VR M (Leaf A H μ) e u := by
 have single : ∀ {d : D} {v : Value}, VR M (Leaf A H μ) d v → v.oneCell' = true → v.cells.size = [d].length ∧ ∀ (k : Nat) (e : D), [d][k]? = some e → ∃ u, v.cells[k]? = some u ∧ u.oneCell' = true ∧ VR M (Leaf A H μ) e u := by
   intro d v h h1
   have hc : v.cells = #[v] := by cases v <;> first | rfl | simp [Value.oneCell'] at h1
   rw [hc]
   refine ⟨rfl, fun k e he => ?_⟩
   cases k with
   | zero => simp at he; subst he; exact ⟨v, rfl, h1, h⟩
   | succ k => simp at he
 cases d <;> simp only [cellsOf, tAb, reduceCtorEq] at hc
 case agg l =>
   subst hc
   obtain ⟨vs, rfl, hl, hu⟩ := zDB zCx h
   exact ⟨hl, hu⟩
 all_goals subst hc
 case bo t => exact single h (by rw [zE2 h]; rfl)
 case it k n => exact single h (by rw [zCN h]; rfl)
 case st l => exact single h (by rw [zEi h]; rfl)
 case nils => exact single h (by rw [zBC h]; rfl)
 case emp => exact single h (by obtain ⟨_, _, rfl, _⟩ := zGA h; rfl)
 case nilm => exact single h (by rw [zJH h]; rfl)
 case vec => exact single h (by cases zDo h; rfl)
 case elt => exact single h (by cases zKb h; rfl)
 case own => exact single h (zC4 h).one
 case ptr => exact single h (zEA h).one
 case rowp => exact single h (zDZ h).one
 case map => exact single h (zHW h).one
 case nilp => exact single h (by cases h with | imm h => cases h; rfl | leaf h => exact h.elim)
 case nilf => exact single h (by cases h with | imm h => cases h; rfl | leaf h => exact h.elim)
 case fn => exact single h (by obtain ⟨_, _, rfl, _⟩ := zFR zD7 h; rfl)

theorem yBq (M : Mem) (v : Value) : VRi M (ofC v) v := by
 unfold ofC
 split
 all_goals first | exact .bo _ | exact .it _ _ | exact .nils | exact .nilp | exact .nilf | exact .nilm | exact .un _ | skip
 rename_i s
 have : (⟨s.data.toList.toArray⟩ : ByteArray) = s := by cases s; simp
 have h := VRi.st (M := M) s.data.toList
 rwa [this] at h
theorem yBp (M : Mem) (v : Value) : VRi M (ofV v) v := by
 unfold ofV
 split
 · rename_i cs
   split
   · rename_i h1
     simp only [tAw, Array.mem_toList_iff] at h1
     refine .agg _ cs (by simp) (fun k => cs.getD k undef) (fun k hk => by simp [tA1 hk, hk]) (fun k hk => ?_) (fun k d hd => ?_)
     · simp only [Array.getD, hk, dite_true]; exact h1 _ (Array.getElem_mem hk)
     · simp only [tAE, tAe, tBQ] at hd
       obtain ⟨u, hu, rfl⟩ := hd
       rw [tAD, hu]; exact yBq M u
   · exact .un _
 · exact yBq M v

def EnvR (M : Mem) (L : D → Value → Prop) (env : Nat → D) (a : Act) : Prop := ∀ t, VR M L (env t) (a.tmps.getD t undef)

theorem yEL {L : D → Value → Prop} {env : Nat → D} {a : Act} (h : EnvR M L env a) (x : Operand) : VR M L (ev env x) (a.eval x) := by
 cases x with
 | tmp t => exact h t
 | const v => exact .imm (yBp M v)
 | global g => exact .imm (.un _)
 | func f => exact .imm (.fn _ [] [] #[] #[] rfl rfl (fun _ => undef) (fun _ => undef) (fun k hk => by simp at hk) (fun k hk => by simp at hk) (fun k d hd => by simp at hd) (fun k d hd => by simp at hd))

end inv
def OpOK (P : Program) (o : Oper) (a : Act) (B : Nat → Prop) (M : Mem) (A : Nat → Prop) (H : Hp) (μ : Mu) (w : World) (d : D) (H' : Hp) (A' : Nat → Prop) : Prop :=
 ∀ (K : Act → World → Prop) (Q : Exit → Act → World → Prop), (∀ v w' M' μ', Post B M A H μ w d H' A' v w' M' μ' → K (a.put o.dst v) w') → o.wp P a w K Q

section
variable {P : Program} {o : Oper} {a : Act} {B : Nat → Prop} {M : Mem} {A A' : Nat → Prop} {H H' : Hp} {μ : Mu} {w : World} {d : D}

theorem OpOK.value {v : Value} {w' : World} {M' : Mem} {μ' : Mu} (hr : (execOp a.eval o).run P w = .ok (.value v) w') (hp : Post B M A H μ w d H' A' v w' M' μ') : OpOK P o a B M A H μ w d H' A' := by
 intro K Q hK
 unfold Oper.wp
 rw [hr]
 exact hK v w' M' μ' hp
theorem OpOK.skip {w' : World} {M' : Mem} {μ' : Mu} (hr : (execOp a.eval o).run P w = .ok .skip w') (hp : Post B M A H μ w d H' A' undef w' M' μ') : OpOK P o a B M A H μ w d H' A' := by
 intro K Q hK
 unfold Oper.wp
 rw [hr]
 exact hK undef w' M' μ' hp

theorem Post.same {v : Value} (hR : Rel B M A H μ w) (hA : ∀ id, A id → A' id) (hv : VR M (Leaf A H μ) d v) : Post B M A H μ w d H A' v w M μ := by
 have hk : ∀ d v, Leaf A H μ d v → Leaf A' H μ d v := fun d v h => h.mono hA (fun id _ => by
   cases h : H id <;> simp)
 exact ⟨MLe.refl M, ⟨hR.mem, fun id h => hA _ (hR.given id h), hR.place, hR.apart, hR.alone, fun id => (hR.blk id).mono (MLe.refl M) hk (tAl _) (fun _ _ _ _ => rfl)⟩, hv.mono (MLe.refl M) hk, hk, Keep.refl _ _, fun _ _ h => .inl h⟩

theorem OpOK.pure {v : Value} (hr : (execOp a.eval o).run P w = .ok (.value v) w) (hR : Rel B M A H μ w) (hA : ∀ id, A id → A' id) (hv : VR M (Leaf A H μ) d v) : OpOK P o a B M A H μ w d H A' :=
 .value hr (.same hR hA hv)

def CellsAt (w : World) (M : Mem) (L : D → Value → Prop) (ad : Addr) (cs : List D) : Prop :=
 ∀ (k : Nat) (d : D), cs[k]? = some d → ∃ u, w.cell? (ad.add k) = some u ∧ u.oneCell' = true ∧ VR M L d u

theorem add_lit (b o n : Nat) : (⟨b, o, none⟩ : Addr).add n = ⟨b, o + n, none⟩ := by unfold Addr.add; split <;> simp_all

theorem zBp {es : List D} {sz : Nat} (h : ∀ e ∈ es, e.cells.length = sz) : (flat es).length = es.length * sz := by
 induction es with
 | nil => simp [flat]
 | cons e r ih =>
   have := ih (fun x hx => h x (tBW _ hx))
   simp only [flat, tBe, tAh, tAp] at *
   rw [this, h e (tBR ..), tAY, Nat.one_mul, Nat.add_comm]
theorem flat_get {es : List D} {sz : Nat} (h : ∀ e ∈ es, e.cells.length = sz) {i : Nat} {e : D} (he : es[i]? = some e) {k : Nat} (hk : k < sz) : (flat es)[i * sz + k]? = e.cells[k]? := by
 induction es generalizing i with
 | nil => simp at he
 | cons x r ih =>
   have hx := h x (tBR ..)
   have hr := fun y hy => h y (tBW x hy)
   simp only [flat, tBe] at *
   cases i with
   | zero =>
     simp at he; subst he
     rw [Nat.zero_mul, tAZ, tAP (by omega)]
   | succ i =>
     have : (i + 1) * sz + k = x.cells.length + (i * sz + k) := by rw [hx, tAY]; omega
     rw [this, tAN (by omega), tBd]
     exact ih hr (by simpa using he)

theorem zEF {es : List D} {sz : Nat} (h : ∀ e ∈ es, e.cells.length = sz) (n : Nat) : flat (es.drop n) = (flat es).drop (n * sz) := by
 induction es generalizing n with
 | nil => simp [flat]
 | cons x r ih =>
   cases n with
   | zero => simp
   | succ n =>
     have hx := h x (tBR ..)
     rw [tBN, ih (fun y hy => h y (tBW x hy))]
     have e : (n + 1) * sz = x.cells.length + n * sz := by rw [hx, tAY, Nat.one_mul, Nat.add_comm]
     simp only [flat, tBe]
     rw [e, List.drop_length_add_append]
theorem zH9 {es : List D} {sz : Nat} (h : ∀ e ∈ es, e.cells.length = sz) (n : Nat) : flat (es.take n) = (flat es).take (n * sz) := by
 induction es generalizing n with
 | nil => simp [flat]
 | cons x r ih =>
   cases n with
   | zero => simp [flat]
   | succ n =>
     have hx := h x (tBR ..)
     rw [tBs]
     have := ih (fun y hy => h y (tBW x hy)) n
     simp only [flat, tBe] at *
     have e : (n + 1) * sz = x.cells.length + n * sz := by rw [hx, tAY, Nat.one_mul, Nat.add_comm]
     rw [this, e, List.take_length_add_append]
theorem zIa (es fs : List D) : flat (es ++ fs) = flat es ++ flat fs := by simp [flat]

theorem zEs {L : D → Value → Prop} {sz : Nat} {cl : Bool} {es : List D} {v : Value} (h : VRi M (.vec sz cl es) v) :
   ∃ a c, v = .slice a es.length c ∧ es.length ≤ c ∧ (cl = true → c = es.length) ∧ (∀ e ∈ es, e.cells.length = sz) ∧ 0 < sz ∧
     (es ≠ [] → ∃ ad, a = some ad ∧ ∀ (k : Nat) (d : D), (flat es)[k]? = some d → ∃ u, M (ad.add k) = some u ∧ u.oneCell' = true ∧ VRi M d u) := by
 cases h with
 | vec _ _ _ a c hc hcl hz hs us hm h1 hv =>
   refine ⟨a, c, rfl, hc, hcl, hz, hs, fun hne => ?_⟩
   obtain ⟨ad, rfl, hk⟩ := hm hne
   refine ⟨ad, rfl, fun k d hd => ?_⟩
   have hlt := (tAi.1 hd).1
   exact ⟨us k, hk k hlt, h1 k hlt, hv k d hd⟩
theorem zNf {cs : List D} {v : Value} (h : VRi M (.elt cs) v) :
   ∃ ad, v = .pointer (some ad) ∧ ∀ (k : Nat) (d : D), cs[k]? = some d → ∃ u, M (ad.add k) = some u ∧ u.oneCell' = true ∧ VRi M d u := by
 cases h with
 | elt _ ad us hm h1 hv =>
   refine ⟨ad, rfl, fun k d hd => ?_⟩
   have hlt := (tAi.1 hd).1
   exact ⟨us k, hm k hlt, h1 k hlt, hv k d hd⟩
theorem zLR {cs : List D} {ad : Addr} (h : ∀ (k : Nat) (d : D), cs[k]? = some d → ∃ u, M (ad.add k) = some u ∧ u.oneCell' = true ∧ VRi M d u) : VRi M (.elt cs) (.pointer (some ad)) := by
 refine .elt cs ad (fun k => (M (ad.add k)).getD undef) (fun k hk => ?_) (fun k hk => ?_) (fun k d hd => ?_)
 · obtain ⟨u, h1, _⟩ := h k _ (tAn hk); rw [h1]; rfl
 · obtain ⟨u, h1, h2, _⟩ := h k _ (tAn hk); rw [h1]; exact h2
 · obtain ⟨u, h1, _, h3⟩ := h k d hd; rw [h1]; exact h3
theorem zNY {sz : Nat} {cl : Bool} {es : List D} {a : Option Addr} {c : Nat} (hc : es.length ≤ c) (hcl : cl = true → c = es.length) (hz : ∀ e ∈ es, e.cells.length = sz) (hs : 0 < sz)
   (h : es ≠ [] → ∃ ad, a = some ad ∧ ∀ (k : Nat) (d : D), (flat es)[k]? = some d → ∃ u, M (ad.add k) = some u ∧ u.oneCell' = true ∧ VRi M d u) : VRi M (.vec sz cl es) (.slice a es.length c) := by
 by_cases hne : es = []
 · subst hne
   exact .vec sz cl [] a c hc hcl hz hs (fun _ => undef) (fun h => absurd rfl h) (fun k hk => by simp [flat] at hk) (fun k d hd => by simp [flat] at hd)
 · obtain ⟨ad, rfl, hk⟩ := h hne
   refine .vec sz cl es (some ad) c hc hcl hz hs (fun k => (M (ad.add k)).getD undef) (fun _ => ⟨ad, rfl, fun k hlt => ?_⟩) (fun k hlt => ?_) (fun k d hd => ?_)
   · obtain ⟨u, h1, _⟩ := hk k _ (tAn hlt); rw [h1]; rfl
   · obtain ⟨u, h1, h2, _⟩ := hk k _ (tAn hlt); rw [h1]; exact h2
   · obtain ⟨u, h1, _, h3⟩ := hk k d hd; rw [h1]; exact h3

theorem zPN (hR : Rel B M A H μ w) {p : D} {v : Value} (hv : VR M (Leaf A H μ) p v) {cs : List D} (hd : deref H p = some cs) :
   ∃ ad, v = .pointer (some ad) ∧ CellsAt w M (Leaf A H μ) ad cs := by
 cases p <;> simp only [deref, reduceCtorEq] at hd
 case ptr id off =>
   have hl := zEA hv
   have hb := hR.blk id
   cases hh : H id <;> simp only [hh, reduceCtorEq, tAb] at hd
   rename_i l
   subst hd
   simp only [Leaf, hh] at hl
   rw [hh] at hb
   obtain ⟨β, e1, hlt, hf, hc⟩ := hb
   obtain ⟨_, hle, β', e2, rfl⟩ := hl
   rw [e1] at e2
   simp only [tAb, tAj] at e2
   obtain ⟨rfl, _⟩ := e2
   refine ⟨_, rfl, fun k d hk => ?_⟩
   rw [tA7] at hk
   obtain ⟨u, h1, h2, h3⟩ := hc (off + k) d hk
   exact ⟨u, by rw [add_lit]; exact h1, h2, h3⟩
 case rowp id ix off =>
   have hl := zDZ hv
   have hb := hR.blk id
   cases hh : H id <;> simp only [hh, reduceCtorEq] at hd
   rename_i sz pl es
   rw [tAe] at hd
   obtain ⟨e, he, rfl⟩ := hd
   simp only [Leaf, hh] at hl
   rw [hh] at hb
   obtain ⟨h0, hz, hr⟩ := hb
   obtain ⟨_, hix, hle, β', bs', top', e2, rfl⟩ := hl
   rcases hr with ⟨rfl, _⟩ | ⟨β, bs, top, e1, hlt, ht, ho, hc⟩
   · simp at he
   · rw [e1] at e2
     simp only [tAb, tAj] at e2
     obtain ⟨rfl, rfl, rfl⟩ := e2
     refine ⟨_, rfl, fun k d hk => ?_⟩
     rw [tA7] at hk
     have hec := hz e (tAB he)
     have hlt' : off + k < sz := by rw [← hec]; exact (tAi.1 hk).1
     obtain ⟨u, h1, h2, h3, _⟩ := hc (ix * sz + (off + k)) d (by rw [flat_get hz he hlt']; exact hk)
     refine ⟨u, ?_, h2, h3⟩
     rw [add_lit, show bs + ix * sz + off + k = bs + (ix * sz + (off + k)) by omega]; exact h1
 case elt l =>
   simp only [tAb] at hd
   subst hd
   obtain ⟨ad, rfl, hk⟩ := zNf (zKb hv)
   exact ⟨ad, rfl, fun k d hd => by
     obtain ⟨u, h1, h2, h3⟩ := hk k d hd
     exact ⟨u, hR.mem _ _ h1, h2, .imm h3⟩⟩

theorem zCI {t : TypeId} {n : Nat} (h : szT P t = some n) : (sizeOf t).run P w = .ok n w := by
 unfold szT at h
 rw [tAe] at h
 obtain ⟨i, hi, rfl⟩ := h
 simp [sizeOf, typeInfo, hi]
theorem zSc {M : Mem} {u : TypeId} {d : D} {v : Value} (h : VRi M d v) : VRi M (widc P u d) v := by
 unfold widc
 split
 · split
   · split
     · split
       · cases h
         rename_i hs
         exact .vec _ false [] none 0 (tAl _) (fun h => by cases h) (fun e he => by simp at he) hs (fun _ => undef) (fun h => absurd rfl h) (fun k hk => by simp [flat] at hk) (fun k d hd => by simp [flat] at hd)
       · exact h
     · exact h
   · exact h
 · exact h
theorem zXg {us : List TypeId} : ∀ {ds : List D} {k : Nat} {d : D}, (widL P us ds)[k]? = some d → ∃ e, ds[k]? = some e ∧ (d = e ∨ ∃ u, d = widc P u e) := by
 induction us with
 | nil => intro ds k d h; exact ⟨d, by simpa [widL] using h, .inl rfl⟩
 | cons u us ih =>
   intro ds k d h
   cases ds with
   | nil => simp [widL] at h
   | cons x r =>
     simp only [widL] at h
     cases k with
     | zero => simp at h; exact ⟨x, rfl, .inr ⟨u, h.symm⟩⟩
     | succ k =>
       obtain ⟨e, he, hd⟩ := ih (ds := r) (k := k) (d := d) (by simpa using h)
       exact ⟨e, by simpa using he, hd⟩
theorem zME {us : List TypeId} : ∀ {ds : List D}, (widL P us ds).length = ds.length := by
 induction us with
 | nil => intro ds; simp [widL]
 | cons u us ih => intro ds; cases ds <;> simp [widL, ih]
theorem yGi {M : Mem} {t : TypeId} {d : D} {v : Value} (h : VRi M d v) : VRi M (wid P t d) v := by
 unfold wid
 split
 · cases h with
   | agg cs vs hl us hu h1 hv =>
     refine .agg _ vs (by rw [zME]; exact hl) us hu h1 (fun k d hd => ?_)
     obtain ⟨e, he, hde⟩ := zXg hd
     rcases hde with rfl | ⟨u, rfl⟩
     · exact hv k _ he
     · exact zSc (hv k _ he)
 · exact zSc h
theorem zF9 (M : Mem) (t : TypeId) (v : Value) : VRi M (wid P t (ofV v)) v := yGi (yBp M v)
theorem zKS {t : TypeId} {z : D} (h : zDC P t = some z) : ∃ v, (zeroValue t).run P w = .ok v w ∧ z = wid P t (ofV v) := by
 unfold zDC at h
 simp only [tBf, Function.comp_def] at h
 rw [tAe] at h
 obtain ⟨v, hv, rfl⟩ := h
 rw [tAc] at hv
 obtain ⟨i, hi, hz⟩ := hv
 exact ⟨v, by simp [zeroValue, typeInfo, hi, hz], rfl⟩
theorem zFr {t : TypeId} {g : Bool} (h : aggT P t = some g) : (isAgg t).run P w = .ok g w := by
 unfold aggT at h
 unfold isAgg underlying
 cases hd : P.underlying t with
 | none => rw [hd] at h; cases h
 | some d => rw [hd] at h; simp [hd]; cases d <;> simp at h ⊢ <;> rw [h]

theorem CellsAt.list {L : D → Value → Prop} {ad : Addr} {cs : List D} (h : CellsAt w M L ad cs) (n : Nat) (hn : n ≤ cs.length) :
   ∃ us : List Value, us.length = n ∧ (∀ j v, us[j]? = some v → w.cell? (ad.add j) = some v) ∧ ∀ (k : Nat) (d : D), (cs.take n)[k]? = some d → ∃ u, us[k]? = some u ∧ u.oneCell' = true ∧ VR M L d u := by
 refine ⟨(List.range n).map fun k => (w.cell? (ad.add k)).getD undef, by simp, fun j v hj => ?_, fun k d hk => ?_⟩
 · simp only [tAE, tAe] at hj
   obtain ⟨i, hi, rfl⟩ := hj
   have hlt : j < n := by
     have := (tAi.1 hi).1
     simpa using this
   rw [List.getElem?_range hlt] at hi
   simp only [tAb] at hi
   subst hi
   obtain ⟨u, h1, _⟩ := h j _ (tAn (by omega))
   rw [h1]; rfl
 · have hlt : k < n := by
     have := (tAi.1 hk).1
     simp only [tAk] at this; omega
   rw [tBw, if_pos hlt] at hk
   obtain ⟨u, h1, h2, h3⟩ := h k d hk
   exact ⟨u, by rw [tAE, List.getElem?_range hlt]; simp [h1], h2, h3⟩

theorem yAK {L : D → Value → Prop} {t : TypeId} {ad : Addr} {cs : List D} {d : D} (h : CellsAt w M L ad cs) (hd : ldD P t cs = some d) :
   ∃ v, (loadVar t ad).run P w = .ok v w ∧ VR M L d v := by
 unfold ldD at hd
 rw [tAc] at hd
 obtain ⟨g, hg, hd⟩ := hd
 cases g with
 | true =>
   simp only [if_true] at hd
   rw [tAc] at hd
   obtain ⟨n, hn, hd⟩ := hd
   split at hd
   · rename_i hle
     simp only [tAb] at hd
     subst hd
     obtain ⟨us, hl, hc, hv⟩ := h.list n hle
     refine ⟨.agg us.toArray, ?_, zP0 (by simp [hl]; omega) (fun k d hk => ?_)⟩
     · have := run_loadCells_list (P := P) w ad us hc
       rw [hl] at this
       simp [loadVar, zFr hg, zCI hn, this]
     · obtain ⟨u, h1, h2, h3⟩ := hv k d hk
       exact ⟨u, by simpa using h1, h2, h3⟩
   · cases hd
 | false =>
   simp only [tAf, if_false, List.head?_eq_getElem?] at hd
   obtain ⟨u, h1, h2, h3⟩ := h 0 d hd
   have h1' : w.cell? ad = some u := by simpa [Addr.add] using h1
   exact ⟨u, by simp [loadVar, zFr hg, h1'], h3⟩

end
section
variable {P : Program} {o : Oper} {a : Act} {B : Nat → Prop} {M : Mem} {A A' : Nat → Prop} {H H' : Hp} {μ : Mu} {w : World} {d : D}

theorem zEy {L : D → Value → Prop} {t : TypeId} {cs : List D} {vs : Array Value} {off : Nat} {d : D} (hl : vs.size = cs.length) (h : ∀ (k : Nat) (d : D), cs[k]? = some d → ∃ u, vs[k]? = some u ∧ u.oneCell' = true ∧ VR M L d u)
   (hd : zAx P t cs off = some d) : ∃ v, (part t vs off).run P w = .ok v w ∧ VR M L d v := by
 unfold zAx at hd
 rw [tAc] at hd
 obtain ⟨g, hg, hd⟩ := hd
 cases g with
 | true =>
   simp only [if_true] at hd
   rw [tAc] at hd
   obtain ⟨n, hn, hd⟩ := hd
   split at hd
   · rename_i hle
     simp only [tAb] at hd
     subst hd
     refine ⟨.agg (vs.extract off (off + n)), by simp [part, zFr hg, zCI hn], zP0 (by simp; omega) (fun k d hk => ?_)⟩
     have hlt : k < n := by
       have := (tAi.1 hk).1
       simp only [tAk, tAx] at this; omega
     rw [tBw, if_pos hlt, tA7] at hk
     obtain ⟨u, h1, h2, h3⟩ := h _ d hk
     refine ⟨u, ?_, h2, h3⟩
     rw [Array.getElem?_extract, if_pos (by omega)]; exact h1
   · cases hd
 | false =>
   simp only [tAf, if_false] at hd
   obtain ⟨u, h1, h2, h3⟩ := h off d hd
   exact ⟨u, by simp [part, zFr hg, h1], h3⟩

theorem zIb {t : TypeId} {f : Nat} {fl : Field} (h : zAQ P t f = some fl) : ∃ fs, P.underlying t = some (.struct fs) ∧ fs[f]? = some fl := by
 unfold zAQ at h
 split at h
 · rename_i fs hu; exact ⟨fs, hu, h⟩
 · cases h
theorem zCt {t e : TypeId} (h : zBL P t = some e) : P.underlying t = some (.slice e) := by
 unfold zBL at h
 split at h
 · rename_i f hu; simp only [tAb] at h; subst h; exact hu
 · cases h

theorem zQY {t : TypeId} {f : Nat} {fl : Field} {cs : List D} {v : Value} {d : D} (hv : VR M (Leaf A H μ) (.agg cs) v) (hf : zAQ P t f = some fl) (hd : zAx P fl.type cs fl.offset = some d) :
   ∃ u, (Instr.field t v f).run P w = .ok u w ∧ VR M (Leaf A H μ) d u := by
 obtain ⟨fs, hu, hfl⟩ := zIb hf
 obtain ⟨vs, rfl, hl, h⟩ := zDB zCx hv
 obtain ⟨u, hr, hv'⟩ := zEy (w := w) hl h hd
 exact ⟨u, by simp [Instr.field, run_underlying hu, hfl, asAgg, hr], hv'⟩

theorem zE6 {t : TypeId} {f : Nat} {fl : Field} {ad : Addr} {n : Nat} (hf : zAQ P t f = some fl) (hn : szT P fl.type = some n) (h0 : n ≠ 0) :
   (Instr.fieldAt t (.pointer (some ad)) f).run P w = .ok (.pointer (some (ad.add fl.offset))) w := by
 obtain ⟨fs, hu, hfl⟩ := zIb hf
 simp [Instr.fieldAt, run_underlying hu, hfl, Instr.sureAddr, fieldPlace, zCI hn, h0]

theorem zLP {t : TypeId} {f : Nat} {p d : D} {v : Value} (hv : VR M (Leaf A H μ) p v) (hd : zAM P H t p f = some d) :
   ∃ u, (Instr.fieldAt t v f).run P w = .ok u w ∧ VR M (Leaf A H μ) d u := by
 unfold zAM at hd
 rw [tAc] at hd
 obtain ⟨fl, hf, hd⟩ := hd
 rw [tAc] at hd
 obtain ⟨n, hn, hd⟩ := hd
 split at hd
 · cases hd
 rename_i h0
 cases p <;> simp only [reduceCtorEq] at hd
 case ptr id off =>
   have hl := zEA hv
   cases hh : H id <;> simp only [hh, reduceCtorEq] at hd
   simp only [Leaf, hh] at hl
   split at hd
   · rename_i hle
     simp only [tAb] at hd
     subst hd
     obtain ⟨h1, _, β, hm, rfl⟩ := hl
     exact ⟨_, zE6 hf hn h0, .leaf (by simp only [Leaf, hh]; exact ⟨⟨h1.1, rfl⟩, hle, β, hm, by rw [add_lit]⟩)⟩
   · cases hd
 case rowp id ix off =>
   have hl := zDZ hv
   cases hh : H id <;> simp only [hh, reduceCtorEq] at hd
   simp only [Leaf, hh] at hl
   split at hd
   · rename_i hle
     simp only [tAb] at hd
     subst hd
     obtain ⟨h1, hix, _, β, bs, top, hm, rfl⟩ := hl
     exact ⟨_, zE6 hf hn h0, .leaf (by simp only [Leaf, hh]; exact ⟨⟨h1.1, rfl⟩, hix, hle, β, bs, top, hm, by rw [add_lit]; congr 3; omega⟩)⟩
   · cases hd
 case elt cs =>
   split at hd
   · rename_i hle
     simp only [tAb] at hd
     subst hd
     obtain ⟨ad, rfl, hk⟩ := zNf (zKb hv)
     refine ⟨_, zE6 hf hn h0, .imm (zLR fun k d hd => ?_)⟩
     rw [tA7] at hd
     obtain ⟨u, h1, h2, h3⟩ := hk _ d hd
     refine ⟨u, ?_, h2, h3⟩
     rw [show (ad.add fl.offset).add k = ad.add (fl.offset + k) from ?_]
     · exact h1
     · unfold Addr.add
       by_cases z : fl.offset = 0
       · simp [z]
       · by_cases zk : k = 0
         · simp [z, zk]
         · rw [if_neg z, if_neg zk, if_neg (by omega)]; simp; omega
   · cases hd

theorem zM3 {p d : D} {x : Operand} {v : Value} (hx : a.eval x = v) (ho : o.op = .nilCheck x) (hv : VR M (Leaf A H μ) p v) (hd : zB1 H p = some d) :
   (execOp a.eval o).run P w = .ok (.value v) w ∧ VR M (Leaf A H μ) d v := by
 unfold zB1 at hd
 cases p <;> simp only [reduceCtorEq] at hd
 case ptr id off =>
   have hl := zEA hv
   cases hh : H id <;> simp only [hh, reduceCtorEq, tAb] at hd
   subst hd
   have hl' := hl
   simp only [Leaf, hh] at hl
   obtain ⟨_, _, β, _, rfl⟩ := hl
   exact ⟨by simp [execOp, ho, hx], hv⟩
 case rowp id ix off =>
   have hl := zDZ hv
   cases hh : H id <;> simp only [hh, reduceCtorEq, tAb] at hd
   subst hd
   simp only [Leaf, hh] at hl
   obtain ⟨_, _, _, β, _, _, _, rfl⟩ := hl
   exact ⟨by simp [execOp, ho, hx], hv⟩
 case elt cs =>
   simp only [tAb] at hd
   subst hd
   obtain ⟨ad, rfl, _⟩ := zNf (zKb hv)
   exact ⟨by simp [execOp, ho, hx], hv⟩
 case fn f p q =>
   cases f <;> simp only [reduceCtorEq, tAb] at hd
   subst hd
   obtain ⟨vf, vc, rfl, _⟩ := zFR zD7 hv
   exact ⟨by simp [execOp, ho, hx], hv⟩

theorem zGp {x : D} {v : Value} {n : Int} (hv : VR M (Leaf A H μ) x v) (h : idx x = some n) : ∃ k, v = .int k n := by
 cases x <;> simp only [idx, reduceCtorEq, tAb] at h
 subst h
 exact ⟨_, zCN hv⟩

theorem zLE {t : TypeId} {x ix d : D} {v u : Value} (hR : Rel B M A H μ w) (hv : VR M (Leaf A H μ) x v) (hu : VR M (Leaf A H μ) ix u) (hd : zAP P H t x ix = some d) :
   ∃ r, (Instr.indexAt t v u).run P w = .ok r w ∧ VR M (Leaf A H μ) d r := by
 unfold zAP at hd
 rw [tAc] at hd
 obtain ⟨k, hk, hd⟩ := hd
 obtain ⟨kd, rfl⟩ := zGp hu hk
 split at hd
 · rename_i e sz cl es hut
   split at hd
   · rename_i hc
     obtain ⟨hn, h0⟩ := hc
     rw [tAe] at hd
     obtain ⟨el, hel, rfl⟩ := hd
     obtain ⟨a', c, rfl, hc1, hc2, hz, hs, hm⟩ := zEs (L := Leaf A H μ) (zDo hv)
     have hlt : k.toNat < es.length := (tAi.1 hel).1
     obtain ⟨ad, rfl, hcell⟩ := hm (by intro e0; rw [e0] at hlt; simp at hlt)
     refine ⟨.pointer (some (ad.add (k.toNat * sz))), ?_, .imm (zLR fun j d hj => ?_)⟩
     · simp [Instr.indexAt, asIntOf, run_underlying hut, zCI hn, h0, show k < (es.length : Int) by omega]
     · have hj' : j < sz := by rw [← hz el (tAB hel)]; exact (tAi.1 hj).1
       obtain ⟨u, h1, h2, h3⟩ := hcell (k.toNat * sz + j) d (by rw [flat_get hz hel hj']; exact hj)
       refine ⟨u, ?_, h2, h3⟩
       rw [show (ad.add (k.toNat * sz)).add j = ad.add (k.toNat * sz + j) from ?_]
       · exact h1
       · unfold Addr.add
         by_cases z : k.toNat * sz = 0
         · simp [z]
         · by_cases zk : j = 0
           · simp [z, zk]
           · rw [if_neg z, if_neg zk, if_neg (by omega)]; simp; omega
   · cases hd
 · rename_i e id off len hut
   split at hd
   · rename_i sz pl es hh
     split at hd
     · rename_i hc
       obtain ⟨hn, h0, hlt⟩ := hc
       simp only [tAb] at hd
       subst hd
       have hl := zC4 hv
       simp only [Leaf, hh] at hl
       obtain ⟨h1, hle, a', c, rfl, hlc, hcc⟩ := hl
       rcases hcc with rfl | ⟨β, bs, top, hm, rfl, htop⟩
       · omega
       · refine ⟨.pointer (some ((⟨β, bs + off * sz, none⟩ : Addr).add (k.toNat * sz))), ?_, .leaf ?_⟩
         · simp [Instr.indexAt, asIntOf, run_underlying hut, zCI hn, h0, hlt]
         · simp only [Leaf, hh]
           refine ⟨⟨h1.1, rfl⟩, by omega, by omega, β, bs, top, hm, ?_⟩
           rw [add_lit, tAY]; congr 3; omega
     · cases hd
   · cases hd
 · rename_i n e id off hut
   split at hd
   · rename_i cs hh
     rw [tAc] at hd
     obtain ⟨sz, hn, hd⟩ := hd
     split at hd
     · rename_i hc
       obtain ⟨h0, hlt, hle⟩ := hc
       simp only [tAb] at hd
       subst hd
       have hl := zEA hv
       simp only [Leaf, hh] at hl
       obtain ⟨h1, _, β, hm, rfl⟩ := hl
       refine ⟨.pointer (some ((⟨β, off, none⟩ : Addr).add (k.toNat * sz))), ?_, .leaf ?_⟩
       · simp [Instr.indexAt, asIntOf, run_underlying hut, zCI hn, Instr.sureAddr, h0, hlt]
       · simp only [Leaf, hh]
         exact ⟨⟨h1.1, rfl⟩, hle, β, hm, by rw [add_lit]⟩
     · cases hd
   · cases hd
 · cases hd

theorem zYW {t : TypeId} {x ix d : D} {v u : Value} (hv : VR M (Leaf A H μ) x v) (hu : VR M (Leaf A H μ) ix u) (hd : zDL P t x ix = some d) :
   ∃ r, (Instr.index t v u).run P w = .ok r w ∧ VR M (Leaf A H μ) d r := by
 unfold zDL at hd
 rw [tAc] at hd
 obtain ⟨k, hk, hd⟩ := hd
 obtain ⟨kd, rfl⟩ := zGp hu hk
 split at hd
 · rename_i l hut
   split at hd
   · rename_i h0
     rw [tAe] at hd
     obtain ⟨c, hc, rfl⟩ := hd
     rw [zEi hv]
     refine ⟨.int .u8 c.toNat, ?_, .imm (.it _ _)⟩
     have hlt := (tAi.1 hc).1
     have hg := (tAi.1 hc).2
     have : (⟨l.toArray⟩ : ByteArray)[k.toNat]? = some c := by
       have hs : k.toNat < (⟨l.toArray⟩ : ByteArray).size := by simpa [ByteArray.size] using hlt
       rw [getElem?_pos (⟨l.toArray⟩ : ByteArray) k.toNat hs, ← hg]
       rfl
     simp [Instr.index, asIntOf, run_underlying hut, h0, this]
   · cases hd
 · rename_i n e cs hut
   rw [tAc] at hd
   obtain ⟨sz, hn, hd⟩ := hd
   split at hd
   · rename_i hc
     obtain ⟨h0, hlt⟩ := hc
     obtain ⟨vs, rfl, hl, h⟩ := zDB zCx hv
     obtain ⟨r, hr, hv'⟩ := zEy (w := w) hl h hd
     exact ⟨r, by simp [Instr.index, asIntOf, run_underlying hut, zCI hn, h0, hlt, hr], hv'⟩
   · cases hd
 · cases hd

end
section
variable {P : Program} {o : Oper} {a : Act} {B : Nat → Prop} {M : Mem} {A A' : Nat → Prop} {H H' : Hp} {μ : Mu} {w : World} {d : D}

theorem zCw {v : Value} (h : VR M (Leaf A H μ) .nilf v) : v = .nilFunc := by
 cases h with
 | imm h => cases h; rfl
 | leaf h => exact h.elim
theorem zJq (l : List UInt8) : (⟨l.toArray⟩ : ByteArray).toList = l := by rw [ByteArray.toList_eq]

theorem yIM (n : Nat) (ih : ∀ (t : TypeId) (a b : D) (r : Bool), eqD P n t a b = some r → ∀ (u v : Value), VR M (Leaf A H μ) a u → VR M (Leaf A H μ) b v → ∀ m, n ≤ m → (Op.equalIn m t u v).run P w = .ok r w) :
   ∀ (fs : List Field) (xs ys : List D) (r : Bool), eqF P n fs xs ys = some r → ∀ (us vs : Array Value), us.size = xs.length → (∀ (k : Nat) (d : D), xs[k]? = some d → ∃ u, us[k]? = some u ∧ u.oneCell' = true ∧ VR M (Leaf A H μ) d u) →
     vs.size = ys.length → (∀ (k : Nat) (d : D), ys[k]? = some d → ∃ u, vs[k]? = some u ∧ u.oneCell' = true ∧ VR M (Leaf A H μ) d u) → ∀ m, n ≤ m → (Op.eqFields m us vs fs).run P w = .ok r w := by
 intro fs
 induction fs with
 | nil =>
   intro xs ys r h us vs hl hk hl' hk' m hm
   simp only [eqF, tAb] at h; subst h; simp [Op.eqFields]
 | cons f fs ihf =>
   intro xs ys r h us vs hl hk hl' hk' m hm
   rw [eqF] at h
   split at h
   · cases h
   · rename_i hn
     rw [tAc] at h
     obtain ⟨p, hp, h⟩ := h
     rw [tAc] at h
     obtain ⟨q, hq, h⟩ := h
     rw [tAc] at h
     obtain ⟨r1, h1, h⟩ := h
     rw [tAe] at h
     obtain ⟨r2, h2, rfl⟩ := h
     obtain ⟨u, hu, hvu⟩ := zEy (w := w) hl hk hp
     obtain ⟨v, hv, hvv⟩ := zEy (w := w) hl' hk' hq
     have e1 := ih f.type p q r1 h1 u v hvu hvv m hm
     have e2 := ihf xs ys r2 h2 us vs hl hk hl' hk' m hm
     simp only [Op.eqFields]
     rw [if_pos hn]
     simp only [Sem.run_bind, hu, Result.andThen_ok, hv, e1, Sem.run_ite, Sem.run_pure, e2]
     cases r1 <;> simp

theorem yIN : ∀ (n : Nat) (t : TypeId) (a b : D) (r : Bool), eqD P n t a b = some r → ∀ (u v : Value), VR M (Leaf A H μ) a u → VR M (Leaf A H μ) b v → ∀ m, n ≤ m → (Op.equalIn m t u v).run P w = .ok r w := by
 intro n
 induction n with
 | zero => intro t a b r h; simp [eqD] at h
 | succ n ih =>
   intro t a b r h u v hu hv m hm
   obtain ⟨m, rfl⟩ : ∃ j, m = j + 1 := ⟨m - 1, by omega⟩
   unfold eqD at h
   split at h
   · rename_i p q ht
     simp only [tAb] at h; subst h
     rw [zE2 hu, zE2 hv]; simp [Op.equalIn, run_underlying ht]
   · rename_i kk k p k' q ht
     split at h
     · rename_i hk
       simp only [tAb] at h; subst h; subst hk
       rw [zCN hu, zCN hv]; simp [Op.equalIn, run_underlying ht]
     · cases h
   · rename_i p q ht
     simp only [tAb] at h; subst h
     rw [zEi hu, zEi hv, run_equalIn_string w m t _ _ ht, zJq, zJq]
   · rename_i fs xs ys ht
     split at h
     · cases h
     · rename_i hp
       obtain ⟨vs, rfl, hl, hk⟩ := zDB zCx hu
       obtain ⟨vs', rfl, hl', hk'⟩ := zDB zCx hv
       have hf : P.fieldsOf t = fs := by simp [Program.fieldsOf, ht]
       rw [run_equalIn_struct w m t vs vs' (by rw [hf]; exact ht) (by simpa using hp), hf]
       exact yIM n ih fs.toList xs ys r h vs vs' hl hk hl' hk' m (by omega)
   · rename_i ht
     simp only [tAb] at h; subst h
     rw [zBC hu, zBC hv]; simp [Op.equalIn, run_underlying ht]
   · rename_i b ht
     simp only [tAb] at h; subst h
     obtain ⟨a, c, rfl, rfl⟩ := zGA hu
     rw [zBC hv]; cases a <;> simp [Op.equalIn, run_underlying ht]
   · rename_i es ht
     split at h
     · cases h
     · rename_i hne
       simp only [tAb] at h; subst h
       obtain ⟨a, c, rfl, _, _, _, _, hm⟩ := zEs (L := Leaf A H μ) (zDo hu)
       obtain ⟨ad, rfl, _⟩ := hm (by simpa [List.isEmpty_iff] using hne)
       rw [zBC hv]; simp [Op.equalIn, run_underlying ht]
   · rename_i ht
     simp only [tAb] at h; subst h
     rw [zCw hu, zCw hv]; simp [Op.equalIn, run_underlying ht]
   · rename_i ht
     simp only [tAb] at h; subst h
     obtain ⟨_, _, rfl, _⟩ := zFR zD7 hv
     rw [zCw hu]; simp [Op.equalIn, run_underlying ht]
   · rename_i ht
     simp only [tAb] at h; subst h
     obtain ⟨_, _, rfl, _⟩ := zFR zD7 hu
     rw [zCw hv]; simp [Op.equalIn, run_underlying ht]
   · cases h

theorem yEV {t : TypeId} {a b : D} {r : Bool} (h : eqD P 12 t a b = some r) {u v : Value} (hu : VR M (Leaf A H μ) a u) (hv : VR M (Leaf A H μ) b v) : (Op.equal t u v).run P w = .ok r w :=
 yIN 12 t a b r h u v hu hv 10000 (by omega)

theorem zYM {op : BinOp} {k : IntKind} {x y : Int} {d : D} (t : TypeId) (h : zAD op k x y = some d) : ∃ v, (binOp op t (.int k x) (.int k y)).run P w = .ok v w ∧ VR M (Leaf A H μ) d v := by
 cases op <;> simp only [zAD, zAs, tAb, tAF, tBX, reduceCtorEq] at h
 case quo =>
   split at h
   · cases h
   · rename_i hy; simp only [tAb] at h; subst h
     exact ⟨_, by simp [binOp, Op.intDiv, hy], .imm (.it _ _)⟩
 case rem =>
   split at h
   · cases h
   · rename_i hy; simp only [tAb] at h; subst h
     exact ⟨_, by simp [binOp, Op.intDiv, hy], .imm (.it _ _)⟩
 all_goals subst h
 case and => exact ⟨_, by simp only [binOp]; rw [if_neg (by simp)]; rfl, .imm (.it _ _)⟩
 case or => exact ⟨_, by simp only [binOp]; rw [if_neg (by simp)]; rfl, .imm (.it _ _)⟩
 case xor => exact ⟨_, by simp only [binOp]; rw [if_neg (by simp)]; rfl, .imm (.it _ _)⟩
 case andNot => exact ⟨_, by simp only [binOp]; rw [if_neg (by simp)]; rfl, .imm (.it _ _)⟩
 case add => exact ⟨_, by simp [binOp, Op.intArith], .imm (.it _ _)⟩
 case sub => exact ⟨_, by simp [binOp, Op.intArith], .imm (.it _ _)⟩
 case mul => exact ⟨_, by simp [binOp, Op.intArith], .imm (.it _ _)⟩
 all_goals exact ⟨_, by simp [binOp, Op.intCmp], .imm (.bo _)⟩

theorem zIM {op : BinOp} {k k' : IntKind} {x y : Int} {d : D} (t : TypeId) (h : zAh op k x y = some d) : ∃ v, (binOp op t (.int k x) (.int k' y)).run P w = .ok v w ∧ VR M (Leaf A H μ) d v := by
 unfold zAh at h
 split at h
 · cases h
 · rename_i hy
   split at h
   · simp only [tAb] at h; subst h
     exact ⟨_, by simp [binOp, Op.shift, hy], .imm (.it _ _)⟩
   · simp only [tAb] at h; subst h
     exact ⟨_, by simp [binOp, Op.shift, hy], .imm (.it _ _)⟩
   · cases h

theorem zXw {op : BinOp} {x y : List UInt8} {d : D} (t : TypeId) (h : zAC op x y = some d) : ∃ v, (binOp op t (.string ⟨x.toArray⟩) (.string ⟨y.toArray⟩)).run P w = .ok v w ∧ VR M (Leaf A H μ) d v := by
 have hs : ∀ l : List UInt8, (⟨l.toArray⟩ : ByteArray).size = l.length := fun l => by simp [ByteArray.size]
 cases op <;> simp only [zAC, tAb, reduceCtorEq] at h
 case add =>
   split at h
   · rename_i hle
     simp only [tAb] at h; subst h
     refine ⟨.string ⟨(x ++ y).toArray⟩, ?_, .imm (.st _)⟩
     have hn : ¬ (((⟨x.toArray⟩ : ByteArray).size + (⟨y.toArray⟩ : ByteArray).size : Nat) : Int) > IntKind.i64.max := by
       rw [hs, hs]; simp [IntKind.max, IntKind.signed, IntKind.bits]; omega
     have ha : (⟨x.toArray⟩ : ByteArray) ++ ⟨y.toArray⟩ = ⟨(x ++ y).toArray⟩ := by
       apply ByteArray.ext; simp [ByteArray.data_append]
     simp only [binOp, Op.stringOp]
     rw [if_neg hn, ha]; rfl
   · cases h
 all_goals subst h
 all_goals exact ⟨_, by simp [binOp, Op.stringOp, zJq], .imm (.bo _)⟩

theorem zBs (op : BinOp) (t : TypeId) (x y : Operand) (u v : Value) (h : ∀ p q, u = .agg p → v = .agg q → P.eqGuardType P.depth t = false) (h' : u ≠ .nilIface) : (eqGuard op t x y u v).run P w = .ok () w := by
 cases op <;> simp only [eqGuard, tBI, tBK, tAf, if_false, if_true, Sem.run_pure, pure_bind] <;> try rfl
 all_goals
   split
   · exact absurd rfl h'
   · rename_i p q
     simp [h p q rfl rfl]
   · rfl

theorem zDj {op : BinOp} {t : TypeId} {p q d : D} {u v : Value} (hb : ∀ k k' n n', u = .int k n → v = .int k' n' → False) (hs : ∀ s s', u = .string s → v = .string s' → False) (hf : ∀ k b, u ≠ .float k b) (hc : ∀ k b c, u ≠ .complex k b c) (hp : ∀ z, u ≠ .pointer z) (hp' : ∀ z, v ≠ .pointer z)
   (hu : VR M (Leaf A H μ) p u) (hv : VR M (Leaf A H μ) q v) (h : zEq op (eqD P 12 t p q) = some d) : ∃ r, (binOp op t u v).run P w = .ok r w ∧ VR M (Leaf A H μ) d r := by
 cases op <;> simp only [zEq, reduceCtorEq] at h <;> rw [tAe] at h <;> obtain ⟨r, hr, rfl⟩ := h <;> have e := yEV (w := w) hr hu hv
 · refine ⟨.bool r, ?_, .imm (.bo _)⟩
   cases u <;> cases v <;> first | (exact (hb _ _ _ _ rfl rfl).elim) | (exact (hs _ _ rfl rfl).elim) | (exact absurd rfl (hf _ _)) | (exact absurd rfl (hc _ _ _)) | (exact absurd rfl (hp _)) | (exact absurd rfl (hp' _)) | (simp only [binOp]; simp [e])
 · refine ⟨.bool (!r), ?_, .imm (.bo _)⟩
   cases u <;> cases v <;> first | (exact (hb _ _ _ _ rfl rfl).elim) | (exact (hs _ _ rfl rfl).elim) | (exact absurd rfl (hf _ _)) | (exact absurd rfl (hc _ _ _)) | (exact absurd rfl (hp _)) | (exact absurd rfl (hp' _)) | (simp only [binOp]; simp [e])

theorem yFv {op : BinOp} {t : TypeId} {p q : D} {d : D} (x y : Operand) {u v : Value} (hu : VR M (Leaf A H μ) p u) (hv : VR M (Leaf A H μ) q v) (h : binD P op t p q = some d) :
   ∃ r, (do eqGuard op t x y u v; binOp op t u v : Sem Value).run P w = .ok r w ∧ VR M (Leaf A H μ) d r := by
 have fin : (eqGuard op t x y u v).run P w = .ok () w → (∃ r, (binOp op t u v).run P w = .ok r w ∧ VR M (Leaf A H μ) d r) → ∃ r, (do eqGuard op t x y u v; binOp op t u v : Sem Value).run P w = .ok r w ∧ VR M (Leaf A H μ) d r := by
   rintro hg ⟨r, hr, hd⟩
   exact ⟨r, by simp only [Sem.run_bind, hg, Result.andThen_ok, hr], hd⟩
 unfold binD at h
 split at h
 · rename_i k n k' n'
   have e1 := zCN hu; have e2 := zCN hv; subst e1; subst e2
   refine fin (zBs op t x y _ _ (by simp) (by simp)) ?_
   split at h
   · exact zIM t h
   · exact zIM t h
   · split at h
     · rename_i e; subst e; exact zYM t h
     · cases h
 · have e1 := zEi hu; have e2 := zEi hv; subst e1; subst e2
   exact fin (zBs op t x y _ _ (by simp) (by simp)) (zXw t h)
 · have e1 := zE2 hu; have e2 := zE2 hv; subst e1; subst e2
   exact fin (zBs op t x y _ _ (by simp) (by simp)) (zDj (by simp) (by simp) (by simp) (by simp) (by simp) (by simp) hu hv h)
 · obtain ⟨_, e1, _⟩ := zDB zCx hu; obtain ⟨_, e2, _⟩ := zDB zCx hv; subst e1; subst e2
   split at h
   · cases h
   · rename_i hg
     exact fin (zBs op t x y _ _ (fun _ _ _ _ => by simpa using hg) (by simp)) (zDj (by simp) (by simp) (by simp) (by simp) (by simp) (by simp) hu hv h)
 · have e1 := zBC hu; have e2 := zBC hv; subst e1; subst e2
   exact fin (zBs op t x y _ _ (by simp) (by simp)) (zDj (by simp) (by simp) (by simp) (by simp) (by simp) (by simp) hu hv h)
 · obtain ⟨_, _, e1, _⟩ := zGA hu; have e2 := zBC hv; subst e1; subst e2
   exact fin (zBs op t x y _ _ (by simp) (by simp)) (zDj (by simp) (by simp) (by simp) (by simp) (by simp) (by simp) hu hv h)
 · obtain ⟨_, _, e1, _⟩ := zEs (L := Leaf A H μ) (zDo hu); have e2 := zBC hv; subst e1; subst e2
   exact fin (zBs op t x y _ _ (by simp) (by simp)) (zDj (by simp) (by simp) (by simp) (by simp) (by simp) (by simp) hu hv h)
 · have e1 := zCw hu; have e2 := zCw hv; subst e1; subst e2
   exact fin (zBs op t x y _ _ (by simp) (by simp)) (zDj (by simp) (by simp) (by simp) (by simp) (by simp) (by simp) hu hv h)
 · have e1 := zCw hu; obtain ⟨_, _, e2, _⟩ := zFR zD7 hv; subst e1; subst e2
   exact fin (zBs op t x y _ _ (by simp) (by simp)) (zDj (by simp) (by simp) (by simp) (by simp) (by simp) (by simp) hu hv h)
 · obtain ⟨_, _, e1, _⟩ := zFR zD7 hu; have e2 := zCw hv; subst e1; subst e2
   exact fin (zBs op t x y _ _ (by simp) (by simp)) (zDj (by simp) (by simp) (by simp) (by simp) (by simp) (by simp) hu hv h)
 · cases h

theorem yGn {op : UnOp} {p d : D} {u : Value} (hu : VR M (Leaf A H μ) p u) (h : unD op p = some d) : ∃ r, (Op.unary op u).run P w = .ok r w ∧ VR M (Leaf A H μ) d r := by
 unfold unD at h
 split at h
 · simp only [tAb] at h; subst h; rw [zCN hu]
   exact ⟨_, by simp [Op.unary, Op.intArith], .imm (.it _ _)⟩
 · simp only [zAs, tAF, tAb] at h; subst h; rw [zCN hu]
   exact ⟨_, by simp only [Op.unary]; rfl, .imm (.it _ _)⟩
 · simp only [tAb] at h; subst h; rw [zE2 hu]
   exact ⟨_, by simp [Op.unary], .imm (.bo _)⟩
 · cases h

end
section
variable {P : Program} {o : Oper} {a : Act} {B : Nat → Prop} {M : Mem} {A A' : Nat → Prop} {H H' : Hp} {μ : Mu} {w w' : World} {d : D}

theorem Rel.gone_of {nid : Nat} (hR : Rel B M A H μ w) (hn : ¬ A nid) : H nid = .gone := by
 cases h : H nid with
 | gone => rfl
 | _ => exact absurd (hR.given nid (by rw [h]; simp)) hn

theorem Rel.lt {id β bs top : Nat} (hR : Rel B M A H μ w) (h : H id ≠ .gone) (hm : μ id = some (β, bs, top)) : β < w.heap.size := by
 have hb := hR.blk id
 cases hh : H id <;> rw [hh] at hb h
 · exact absurd rfl h
 · obtain ⟨β', e, hlt, _⟩ := hb; rw [hm] at e; simp only [tAb, tAj] at e; rw [e.1]; exact hlt
 · obtain ⟨_, _, hr⟩ := hb
   rcases hr with ⟨_, e⟩ | ⟨β', bs', top', e, hlt, _⟩
   · rw [hm] at e; cases e
   · rw [hm] at e; simp only [tAb, tAj] at e; rw [e.1]; exact hlt
 · obtain ⟨β', _, _, e, hlt, _⟩ := hb; rw [hm] at e; simp only [tAb, tAj] at e; rw [e.1]; exact hlt

theorem Rel.fresh {nid : Nat} {blk : Blk} {loc : Option (Nat × Nat × Nat)} (hR : Rel B M A H μ w) (hn : ¬ A nid) (hB : ∀ k, B k → k < w.heap.size) (hA : ∀ id, A id → A' id) (hA' : A' nid) (hw : Blw w.heap.size w w')
   (hl : ∀ β bs top, loc = some (β, bs, top) → w.heap.size ≤ β) (hb : (∀ d v, Leaf A H μ d v → Leaf A' (upd H nid blk) (upd μ nid loc) d v) → BlkOk M (Leaf A' (upd H nid blk) (upd μ nid loc)) w' loc blk) :
   Rel B M A' (upd H nid blk) (upd μ nid loc) w' ∧ (∀ d v, Leaf A H μ d v → Leaf A' (upd H nid blk) (upd μ nid loc) d v) ∧ Keep B w w' := by
 have hk : ∀ d v, Leaf A H μ d v → Leaf A' (upd H nid blk) (upd μ nid loc) d v := fun d v h => h.mono hA (fun id hid => by
   have hne : id ≠ nid := fun e => hn (e ▸ hid)
   rw [upd_ne _ _ hne, upd_ne _ _ hne]
   cases h : H id <;> simp)
 refine ⟨⟨fun a v h => ?_, fun id h => ?_, fun id β bs top h hm => ?_, fun id id' β bs top bs' top' h h' hm hm' => ?_, fun id β bs top h hm a v hM => ?_, fun id => ?_⟩, hk, .of_below hw hB⟩
 · rw [hw.cell (World.block_lt_of_cell? w a (hR.mem a v h))]; exact hR.mem a v h
 · by_cases e : id = nid
   · subst e; exact hA'
   · rw [upd_ne _ _ e] at h; exact hA _ (hR.given id h)
 · by_cases e : id = nid
   · subst e; rw [upd_same] at hm; have := hl _ _ _ hm; exact fun hb => absurd (hB _ hb) (by omega)
   · rw [upd_ne _ _ e] at h hm; exact hR.place id _ _ _ h hm
 · by_cases e : id = nid <;> by_cases e' : id' = nid
   · rw [e, e']
   · subst e; rw [upd_same] at hm; rw [upd_ne _ _ e'] at h' hm'
     have := hl _ _ _ hm; have := hR.lt h' hm'; omega
   · subst e'; rw [upd_same] at hm'; rw [upd_ne _ _ e] at h hm
     have := hl _ _ _ hm'; have := hR.lt h hm; omega
   · rw [upd_ne _ _ e] at h hm; rw [upd_ne _ _ e'] at h' hm'
     exact hR.apart id id' _ _ _ _ _ h h' hm hm'
 · by_cases e : id = nid
   · subst e; rw [upd_same] at hm
     have := hl _ _ _ hm; have := World.block_lt_of_cell? w a (hR.mem a v hM); omega
   · rw [upd_ne _ _ e] at h hm; exact hR.alone id _ _ _ h hm a v hM
 · by_cases e : id = nid
   · subst e; rw [upd_same, upd_same]; exact hb hk
   · rw [upd_ne _ _ e, upd_ne _ _ e]
     by_cases hg : H id = .gone
     · rw [hg]; trivial
     · exact (hR.blk id).mono (MLe.refl M) hk hw.size (fun β bs top hm => hw.block β (hR.lt hg hm))

theorem Rel.write {id β bs top : Nat} {blk : Blk} (hR : Rel B M A H μ w) (hg : H id ≠ .gone) (hm : μ id = some (β, bs, top)) (hA : ∀ id, A id → A' id)
   (hs : match H id, blk with
     | .box cs, .box cs' => cs'.length = cs.length
     | .row sz _ es, .row sz' _ es' => sz' = sz ∧ es'.length = es.length
     | .mp _, .mp _ => True
     | _, _ => False)
   (hos : w'.os = w.os) (htp : w'.tape = w.tape) (hout : w'.output = w.output) (hsz : w'.heap.size = w.heap.size) (hoth : ∀ k, k ≠ β → w'.heap[k]? = w.heap[k]?)
   (hb : (∀ d v, Leaf A H μ d v → Leaf A' (upd H id blk) μ d v) → BlkOk M (Leaf A' (upd H id blk) μ) w' (μ id) blk) (hdr : w.drawn ≤ w'.drawn := by first | exact tAl _ | simp) :
   Rel B M A' (upd H id blk) μ w' ∧ (∀ d v, Leaf A H μ d v → Leaf A' (upd H id blk) μ d v) ∧ Keep B w w' := by
 have hk : ∀ d v, Leaf A H μ d v → Leaf A' (upd H id blk) μ d v := fun d v h => h.mono hA (fun id' hid => by
   by_cases e : id' = id
   · subst e; rw [upd_same]; exact .inr ⟨rfl, hs⟩
   · rw [upd_ne _ _ e]; cases h : H id' <;> simp)
 have hgg : ∀ id', upd H id blk id' ≠ .gone → H id' ≠ .gone := fun id' h => by
   by_cases e : id' = id
   · subst e; exact hg
   · rwa [upd_ne _ _ e] at h
 have hcell : ∀ a v, M a = some v → w'.cell? a = some v := fun a v h => by
   have hne := hR.alone id β bs top hg hm a v h
   rw [World.cell?_of_block (w := w) (hoth _ hne)]; exact hR.mem a v h
 refine ⟨⟨hcell, fun id' h => hA _ (hR.given id' (hgg id' h)), fun id' β' bs' top' h => hR.place id' β' bs' top' (hgg _ h), fun i j β' b1 t1 b2 t2 h h' => hR.apart i j β' b1 t1 b2 t2 (hgg _ h) (hgg _ h'),
   fun id' β' bs' top' h => hR.alone id' β' bs' top' (hgg _ h), fun id' => ?_⟩, hk, ⟨hos, htp, hout, by omega, fun k hk' => hoth k (fun e => ?_), hdr⟩⟩
 · by_cases e : id' = id
   · subst e; rw [upd_same]; exact hb hk
   · rw [upd_ne _ _ e]
     by_cases hg' : H id' = .gone
     · rw [hg']; trivial
     · refine (hR.blk id').mono (MLe.refl M) hk (by omega) (fun β' bs' top' hm' => hoth β' (fun e' => e ?_))
       subst e'; exact hR.apart _ _ _ _ _ _ _ hg' hg hm' hm
 · exact hR.place id β bs top hg hm (e ▸ hk')

theorem Rel.kill {id : Nat} (hR : Rel B M A H μ w) : Rel B M A (upd H id .gone) μ w ∧ (∀ d v, Leaf A H μ d v → Leaf A (upd H id .gone) μ d v) := by
 have hk : ∀ d v, Leaf A H μ d v → Leaf A (upd H id .gone) μ d v := fun d v h => h.mono (fun _ h => h) (fun id' hid => by
   by_cases e : id' = id
   · subst e; rw [upd_same]; exact .inl rfl
   · rw [upd_ne _ _ e]; cases h : H id' <;> simp)
 have hgg : ∀ id', upd H id .gone id' ≠ .gone → H id' ≠ .gone := fun id' h => by
   by_cases e : id' = id
   · subst e; rw [upd_same] at h; exact absurd rfl h
   · rwa [upd_ne _ _ e] at h
 refine ⟨⟨hR.mem, fun id' h => hR.given id' (hgg id' h), fun id' β' bs' top' h => hR.place id' β' bs' top' (hgg _ h), fun i j β' b1 t1 b2 t2 h h' => hR.apart i j β' b1 t1 b2 t2 (hgg _ h) (hgg _ h'),
   fun id' β' bs' top' h => hR.alone id' β' bs' top' (hgg _ h), fun id' => ?_⟩, hk⟩
 by_cases e : id' = id
 · subst e; rw [upd_same]; trivial
 · rw [upd_ne _ _ e]
   exact (hR.blk id').mono (MLe.refl M) hk (tAl _) (fun _ _ _ _ => rfl)

theorem Rel.move {id nid β bs top : Nat} {blk : Blk} {bs' top' : Nat} (hR : Rel B M A H μ w) (hg : H id ≠ .gone) (hm : μ id = some (β, bs, top)) (hn : ¬ A nid) (hA : ∀ id, A id → A' id) (hA' : A' nid)
   (hos : w'.os = w.os) (htp : w'.tape = w.tape) (hout : w'.output = w.output) (hsz : w'.heap.size = w.heap.size) (hoth : ∀ k, k ≠ β → w'.heap[k]? = w.heap[k]?)
   (hb : (∀ d v, Leaf A H μ d v → Leaf A' (upd (upd H id .gone) nid blk) (upd μ nid (some (β, bs', top'))) d v) → BlkOk M (Leaf A' (upd (upd H id .gone) nid blk) (upd μ nid (some (β, bs', top')))) w' (some (β, bs', top')) blk) (hdr : w.drawn ≤ w'.drawn := by first | exact tAl _ | simp) :
   Rel B M A' (upd (upd H id .gone) nid blk) (upd μ nid (some (β, bs', top'))) w' ∧ (∀ d v, Leaf A H μ d v → Leaf A' (upd (upd H id .gone) nid blk) (upd μ nid (some (β, bs', top'))) d v) ∧ Keep B w w' := by
 have hin : id ≠ nid := fun e => hn (e ▸ hR.given id hg)
 have hk : ∀ d v, Leaf A H μ d v → Leaf A' (upd (upd H id .gone) nid blk) (upd μ nid (some (β, bs', top'))) d v := fun d v h => h.mono hA (fun id' hid => by
   have hne : id' ≠ nid := fun e => hn (e ▸ hid)
   rw [upd_ne _ _ hne, upd_ne _ _ hne]
   by_cases e : id' = id
   · subst e; rw [upd_same]; exact .inl rfl
   · rw [upd_ne _ _ e]; cases h : H id' <;> simp)
 have hgg : ∀ id', id' ≠ nid → upd (upd H id .gone) nid blk id' ≠ .gone → H id' ≠ .gone ∧ id' ≠ id := fun id' hne h => by
   rw [upd_ne _ _ hne] at h
   by_cases e : id' = id
   · subst e; rw [upd_same] at h; exact absurd rfl h
   · rw [upd_ne _ _ e] at h; exact ⟨h, e⟩
 refine ⟨⟨fun a v h => ?_, fun id' h => ?_, fun id' β' b1 t1 h hm' => ?_, fun i j β' b1 t1 b2 t2 h h' hm1 hm2 => ?_, fun id' β' b1 t1 h hm' a v hM => ?_, fun id' => ?_⟩, hk, ⟨hos, htp, hout, by omega, fun k hk' => hoth k (fun e => ?_), hdr⟩⟩
 · have hne := hR.alone id β bs top hg hm a v h
   rw [World.cell?_of_block (w := w) (hoth _ hne)]; exact hR.mem a v h
 · by_cases e : id' = nid
   · subst e; exact hA'
   · exact hA _ (hR.given id' (hgg id' e h).1)
 · by_cases e : id' = nid
   · subst e; rw [upd_same] at hm'; simp only [tAb, tAj] at hm'; rw [← hm'.1]; exact hR.place id β bs top hg hm
   · rw [upd_ne _ _ e] at hm'; exact hR.place id' _ _ _ (hgg id' e h).1 hm'
 · by_cases e : i = nid <;> by_cases e' : j = nid
   · rw [e, e']
   · subst e; rw [upd_same] at hm1; rw [upd_ne _ _ e'] at hm2
     simp only [tAb, tAj] at hm1
     have hj := hgg j e' h'
     rw [← hm1.1] at hm2
     exact absurd (hR.apart _ _ _ _ _ _ _ hj.1 hg hm2 hm) hj.2
   · subst e'; rw [upd_same] at hm2; rw [upd_ne _ _ e] at hm1
     simp only [tAb, tAj] at hm2
     have hi := hgg i e h
     rw [← hm2.1] at hm1
     exact absurd (hR.apart _ _ _ _ _ _ _ hi.1 hg hm1 hm) hi.2
   · rw [upd_ne _ _ e] at hm1; rw [upd_ne _ _ e'] at hm2
     exact hR.apart i j _ _ _ _ _ (hgg i e h).1 (hgg j e' h').1 hm1 hm2
 · by_cases e : id' = nid
   · subst e; rw [upd_same] at hm'; simp only [tAb, tAj] at hm'; rw [← hm'.1]; exact hR.alone id β bs top hg hm a v hM
   · rw [upd_ne _ _ e] at hm'; exact hR.alone id' _ _ _ (hgg id' e h).1 hm' a v hM
 · by_cases e : id' = nid
   · subst e; rw [upd_same, upd_same]; exact hb hk
   · rw [upd_ne _ _ e, upd_ne _ _ e]
     by_cases e2 : id' = id
     · subst e2; rw [upd_same]; trivial
     · rw [upd_ne _ _ e2]
       by_cases hg' : H id' = .gone
       · rw [hg']; trivial
       · refine (hR.blk id').mono (MLe.refl M) hk (by omega) (fun β' b1 t1 hm' => hoth β' (fun e' => e2 ?_))
         subst e'; exact hR.apart _ _ _ _ _ _ _ hg' hg hm' hm
 · exact hR.place id β bs top hg hm (e ▸ hk')

theorem heap_alloc (w : World) (ob : Obj) : Blw w.heap.size w (w.alloc ob) :=
 ⟨⟨rfl, rfl, rfl, by simp, fun k hk => Below.heap_alloc _ _ _ hk⟩, tAl _⟩

theorem yBQ {nid : Nat} {cs : List D} {v : Value} (T : TypeId) (hR : Rel B M A H μ w) (hn : ¬ A nid) (hB : ∀ k, B k → k < w.heap.size) (hA : ∀ id, A id → A' id) (hA' : A' nid)
   (hl : v.cells.size = cs.length) (hc : ∀ (k : Nat) (e : D), cs[k]? = some e → ∃ u, v.cells[k]? = some u ∧ u.oneCell' = true ∧ VR M (Leaf A H μ) e u) :
   Post B M A H μ w (.ptr nid 0) (upd H nid (.box cs)) A' (.pointer (some ⟨w.heap.size, 0, none⟩)) (w.alloc (.cells v.cells T)) M (upd μ nid (some (w.heap.size, 0, 0))) := by
 obtain ⟨h1, h2, h3⟩ := hR.fresh (blk := .box cs) (loc := some (w.heap.size, 0, 0)) (w' := w.alloc (.cells v.cells T)) hn hB hA hA' (heap_alloc w _) (fun β bs top e => by simp only [tAb, tAj] at e; omega) (fun hk => by
   refine ⟨w.heap.size, rfl, by simp, fun k hlt => World.frozen?_alloc_new _ _ _ _, fun k e he => ?_⟩
   obtain ⟨u, hu1, hu2, hu3⟩ := hc k e he
   exact ⟨u, by rw [World.cell?_alloc_new]; exact hu1, hu2, hu3.mono (MLe.refl M) hk⟩)
 exact ⟨MLe.refl M, h1, .leaf (by simp only [Leaf, upd_same]; exact ⟨⟨hA', rfl⟩, tAL _, w.heap.size, rfl, rfl⟩), h2, h3, fun _ _ h => .inl h⟩

theorem setCells_size (b : Nat) : ∀ (vs : List Value) (o : Nat) (w : World), (w.setCells b o vs).heap.size = w.heap.size
 | [], _, _ => rfl
 | v :: r, o, w => by rw [World.setCells, setCells_size b r]; simp
theorem zB0 (b : Nat) : ∀ (vs : List Value) (o : Nat) (w : World) (k : Nat), k ≠ b → (w.setCells b o vs).heap[k]? = w.heap[k]?
 | [], _, _, _, _ => rfl
 | v :: r, o, w, k, h => by rw [World.setCells, zB0 b r _ _ k h, Below.heap_setCell _ _ _ _ h]
@[simp] theorem zIG (b : Nat) : ∀ (vs : List Value) (o : Nat) (w : World), (w.setCells b o vs).drawn = w.drawn
 | [], _, _ => rfl
 | v :: r, o, w => by rw [World.setCells, zIG b r]; simp
theorem zCX (b : Nat) : ∀ (vs : List Value) (o : Nat) (w : World), (w.setCells b o vs).os = w.os ∧ (w.setCells b o vs).tape = w.tape ∧ (w.setCells b o vs).output = w.output
 | [], _, _ => ⟨rfl, rfl, rfl⟩
 | v :: r, o, w => by rw [World.setCells]; exact zCX b r _ _

end
section
variable {P : Program} {o : Oper} {a : Act} {B : Nat → Prop} {M : Mem} {A A' : Nat → Prop} {H H' : Hp} {μ : Mu} {w w' : World} {d : D}

theorem yD4 {l : List D} {u : Value} (h : VR M (Leaf A H μ) (.agg l) u) (h1 : u.oneCell' = true) : False := by
 obtain ⟨_, rfl, _⟩ := zDB zCx h
 simp [Value.oneCell'] at h1

theorem zDH {cs cs' xs : List D} {off : Nat} (h : setAt cs off xs = some cs') : off + xs.length ≤ cs.length ∧ cs' = cs.take off ++ (xs ++ cs.drop (off + xs.length)) := by
 unfold setAt at h
 split at h
 · rename_i hle; simp only [tAb] at h; exact ⟨hle, h.symm⟩
 · cases h
theorem zB5 {cs cs' xs : List D} {off : Nat} (h : setAt cs off xs = some cs') : cs'.length = cs.length := by
 obtain ⟨hle, rfl⟩ := zDH h
 simp; omega
theorem zHM {cs cs' xs : List D} {off : Nat} (h : setAt cs off xs = some cs') (k : Nat) : cs'[k]? = if off ≤ k ∧ k < off + xs.length then xs[k - off]? else cs[k]? := by
 obtain ⟨hle, rfl⟩ := zDH h
 have ht : (cs.take off).length = off := by simp; omega
 by_cases h1 : k < off
 · rw [tAP (by omega), if_neg (by omega), tBw, if_pos h1]
 · rw [tAN (by omega), ht]
   by_cases h2 : k < off + xs.length
   · rw [tAP (by omega), if_pos (by omega)]
   · rw [tAN (by omega), if_neg (by omega), tA7]
     congr 1; omega

theorem zIY {d : D} {v : Value} (h : VR M (Leaf A H μ) d v) : immD d = true → VRi M d v := by
 have hL : ∀ (l : List D), immL l = true → ∀ (k : Nat) (d : D), l[k]? = some d → immD d = true := by
   intro l
   induction l with
   | nil => intro _ k d hd; simp at hd
   | cons x r ih =>
     intro hl k d hd
     simp only [immL, tAd] at hl
     cases k with
     | zero => simp at hd; subst hd; exact hl.1
     | succ k => exact ih hl.2 k d (by simpa using hd)
 induction h with
 | imm h => exact fun _ => h
 | leaf h => intro hi; rename_i d v; cases d <;> simp [immD] at hi <;> exact h.elim
 | agg cs vs hl us hu h1 hv ih =>
   intro hi; simp only [immD] at hi
   exact .agg cs vs hl us hu h1 (fun k d hd => ih k d hd (hL cs hi k d hd))
 | tup cs vs hl us hu hv ih =>
   intro hi; simp only [immD] at hi
   exact .tup cs vs hl us hu (fun k d hd => ih k d hd (hL cs hi k d hd))
 | fn f first caps vf vc hf hc uf uc huf huc hvf hvc ihf ihc =>
   intro hi; simp only [immD, tAd] at hi
   exact .fn f first caps vf vc hf hc uf uc huf huc (fun k d hd => ihf k d hd (hL first hi.1 k d hd)) (fun k d hd => ihc k d hd (hL caps hi.2 k d hd))
theorem zG8 {l : List D} (hl : immL l = true) {k : Nat} {d : D} (hd : l[k]? = some d) : immD d = true := by
 induction l generalizing k with
 | nil => simp at hd
 | cons x r ih =>
   simp only [immL, tAd] at hl
   cases k with
   | zero => simp at hd; subst hd; exact hl.1
   | succ k => exact ih hl.2 (by simpa using hd)

theorem zDu {es : List D} {sz : Nat} (hs : 0 < sz) (h : ∀ e ∈ es, e.cells.length = sz) {n : Nat} {d : D} (hd : (flat es)[n]? = some d) : ∃ i k e, n = i * sz + k ∧ k < sz ∧ es[i]? = some e ∧ e.cells[k]? = some d := by
 have hlt : n < es.length * sz := by rw [← zBp h]; exact (tAi.1 hd).1
 have hi : n / sz < es.length := (Nat.div_lt_iff_lt_mul hs).2 hlt
 have hk : n % sz < sz := Nat.mod_lt _ hs
 have he : n = n / sz * sz + n % sz := by rw [Nat.mul_comm]; exact (Nat.div_add_mod n sz).symm
 refine ⟨n / sz, n % sz, es[n / sz], he, hk, tAn hi, ?_⟩
 rw [← flat_get h (tAn hi) hk, ← he]; exact hd

theorem zNI {e : D} {cs' : List D} (h : e.cells.length = cs'.length) (hna : ∀ y ∈ cs', ∀ l, y ≠ .agg l) : (again e cs').cells = cs' := by
 cases e <;> simp only [again, D.cells] at * <;> try rfl
 all_goals
   match cs', h with
   | [y], _ =>
     have := hna y (by simp)
     cases y <;> first | rfl | (exact absurd rfl (this _))

theorem yCt {p : D} {v u : Value} {xs : List D} {t : TypeId} (hR : Rel B M A H μ w) (hA : ∀ id, A id → A' id) (hv : VR M (Leaf A H μ) p v) (hl : u.cells.size = xs.length)
   (hx : ∀ (k : Nat) (e : D), xs[k]? = some e → ∃ c, u.cells[k]? = some c ∧ c.oneCell' = true ∧ VR M (Leaf A H μ) e c) (ht : szT P t = some xs.length) (hd : zKL H p xs = some H') :
   ∃ w', (Instr.storeAt t v u).run P w = .ok () w' ∧ Post B M A H μ w .un H' A' undef w' M μ := by
 have hxl : ∀ j, j < u.cells.toList.length → ∃ e, xs[j]? = some e := fun j hj => ⟨xs[j]'(by simpa [hl] using hj), tAn _⟩
 have h1 : ∀ c ∈ u.cells.toList, c.oneCell' = true := by
   intro c hc
   obtain ⟨j, hj, rfl⟩ := tB5 hc
   obtain ⟨e, he⟩ := hxl j hj
   obtain ⟨c', h1, h2, _⟩ := hx j e he
   have : u.cells[j]? = some u.cells.toList[j] := by simp at hj ⊢
   rw [this] at h1; simp only [tAb] at h1; rw [h1]; exact h2
 cases p <;> simp only [zKL, reduceCtorEq] at hd
 case ptr id off =>
   have hlf := zEA hv
   have hb := hR.blk id
   cases hh : H id <;> simp only [hh, reduceCtorEq] at hd
   rename_i cs
   rw [tAe] at hd
   obtain ⟨cs', hs, rfl⟩ := hd
   have hle := (zDH hs).1
   simp only [Leaf, hh] at hlf
   rw [hh] at hb
   obtain ⟨β, e1, hlt, hf, hc⟩ := hb
   obtain ⟨_, _, β', e2, rfl⟩ := hlf
   rw [e1] at e2
   simp only [tAb, tAj] at e2
   obtain ⟨rfl, _⟩ := e2
   have hcell : ∀ k, k < cs.length → (w.cell? ⟨β, k, none⟩).isSome = true := fun k hk => by
     obtain ⟨c, h, _⟩ := hc k _ (tAn hk); rw [h]; rfl
   have hst := run_storeCells_cells (P := P) β off u.cells.toList 0 w (fun j hj => by simpa using hcell (off + j) (by simp at hj; omega)) (fun j hj => by simpa using hf (off + j) (by simp at hj; omega)) h1
   simp only [Nat.add_zero] at hst
   obtain ⟨ho1, ho2, ho3⟩ := zCX β u.cells.toList off w
   obtain ⟨r1, r2, r3⟩ := hR.write (A' := A') (id := id) (blk := .box cs') (w' := w.setCells β off u.cells.toList) (by rw [hh]; simp) e1 hA (by rw [hh]; exact zB5 hs) ho1 ho2 ho3 (setCells_size _ _ _ _) (fun k hk => zB0 _ _ _ _ _ hk) (fun hk => by
     refine ⟨β, e1, by rw [setCells_size]; exact hlt, fun k hkl => by rw [World.frozen?_setCells]; exact hf k (by rw [← zB5 hs]; exact hkl), fun k e he => ?_⟩
     rw [zHM hs] at he
     split at he
     · rename_i hin
       obtain ⟨c, c1, c2, c3⟩ := hx _ e he
       refine ⟨c, ?_, c2, c3.mono (MLe.refl M) hk⟩
       have hj : k - off < u.cells.toList.length := by simp; omega
       have := World.cell?_setCells_in β u.cells.toList off w (fun j hj => hcell (off + j) (by simp at hj; omega)) (k - off) hj
       rw [show off + (k - off) = k by omega] at this
       rw [this]
       rw [tA1 (by simpa using hj)] at c1
       simpa using c1
     · rename_i hin
       obtain ⟨c, c1, c2, c3⟩ := hc k e he
       exact ⟨c, by rw [World.cell?_setCells_out β u.cells.toList off w _ (fun _ _ => by simp; omega)]; exact c1, c2, c3.mono (MLe.refl M) hk⟩)
   refine ⟨_, ?_, ⟨MLe.refl M, r1, .imm (.un _), r2, r3, fun _ _ h => .inl h⟩⟩
   simp [Instr.storeAt, Instr.sureAddr, storeVar, zCI ht, hl, hst]
 case rowp id ix off =>
   have hlf := zDZ hv
   have hb := hR.blk id
   cases hh : H id <;> simp only [hh, reduceCtorEq] at hd
   rename_i sz pl es
   rw [tAc] at hd
   obtain ⟨e, he, hd⟩ := hd
   rw [tAe] at hd
   obtain ⟨cs', hs, rfl⟩ := hd
   have hle := (zDH hs).1
   simp only [Leaf, hh] at hlf
   rw [hh] at hb
   obtain ⟨h0, hz, hr⟩ := hb
   obtain ⟨_, hix, _, β', bs', top', e2, rfl⟩ := hlf
   have hec : e.cells.length = sz := hz e (tAB he)
   rcases hr with ⟨rfl, _⟩ | ⟨β, bs, top, e1, hlt, htop, ho, hc⟩
   · simp at he
   rw [e1] at e2
   simp only [tAb, tAj] at e2
   obtain ⟨rfl, rfl, rfl⟩ := e2
   have hin : ix * sz + sz ≤ top * sz := by
     have : (ix + 1) * sz ≤ top * sz := tAX _ (by omega)
     rwa [tAY, Nat.one_mul] at this
   have hst := run_storeCells_cells (P := P) β (bs + ix * sz + off) u.cells.toList 0 w (fun j hj => by
       have := (ho (ix * sz + off + j) (by simp at hj; omega)).1
       rwa [show bs + (ix * sz + off + j) = bs + ix * sz + off + 0 + j by omega] at this) (fun j hj => by
       have := (ho (ix * sz + off + j) (by simp at hj; omega)).2
       rwa [show bs + (ix * sz + off + j) = bs + ix * sz + off + 0 + j by omega] at this) h1
   simp only [Nat.add_zero] at hst
   obtain ⟨ho1, ho2, ho3⟩ := zCX β u.cells.toList (bs + ix * sz + off) w
   have hcs' : ∀ (k : Nat) (y : D), cs'[k]? = some y → ∃ c, (w.setCells β (bs + ix * sz + off) u.cells.toList).cell? ⟨β, bs + (ix * sz + k), none⟩ = some c ∧ c.oneCell' = true ∧ VR M (Leaf A H μ) y c ∧ (pl = true → immL xs = true → VRi M y c) := by
     intro k y hy
     have hk : k < sz := by rw [← hec, ← zB5 hs]; exact (tAi.1 hy).1
     rw [zHM hs] at hy
     split at hy
     · rename_i hin'
       obtain ⟨c, c1, c2, c3⟩ := hx _ y hy
       refine ⟨c, ?_, c2, c3, fun _ hi => zIY c3 (zG8 hi hy)⟩
       have hj : k - off < u.cells.toList.length := by simp; omega
       have := World.cell?_setCells_in β u.cells.toList (bs + ix * sz + off) w (fun j hj => by
         have := (ho (ix * sz + off + j) (by simp at hj; omega)).1
         rwa [show bs + (ix * sz + off + j) = bs + ix * sz + off + j by omega] at this) (k - off) hj
       rw [show bs + ix * sz + off + (k - off) = bs + (ix * sz + k) by omega] at this
       rw [this]
       rw [tA1 (by simpa using hj)] at c1
       simpa using c1
     · rename_i hin'
       obtain ⟨c, c1, c2, c3, c4⟩ := hc (ix * sz + k) y (by rw [flat_get hz he hk]; exact hy)
       exact ⟨c, by rw [World.cell?_setCells_out β u.cells.toList _ w _ (fun _ _ => by simp; omega)]; exact c1, c2, c3, fun h _ => c4 h⟩
   have hna : ∀ y ∈ cs', ∀ l, y ≠ .agg l := fun y hy l e => by
     obtain ⟨k, hk, rfl⟩ := tB5 hy
     obtain ⟨c, _, c2, c3, _⟩ := hcs' k _ (tAn hk)
     rw [e] at c3; exact yD4 c3 c2
   have hag : (again e cs').cells = cs' := zNI (zB5 hs).symm hna
   have hz' : ∀ x ∈ es.set ix (again e cs'), x.cells.length = sz := fun x hx => by
     rcases tBr hx with h | rfl
     · exact hz x h
     · rw [hag, zB5 hs, hec]
   obtain ⟨r1, r2, r3⟩ := hR.write (A' := A') (id := id) (blk := .row sz (pl && immL xs) (es.set ix (again e cs'))) (w' := w.setCells β (bs + ix * sz + off) u.cells.toList) (by rw [hh]; simp) e1 hA (by rw [hh]; simp) ho1 ho2 ho3 (setCells_size _ _ _ _) (fun k hk => zB0 _ _ _ _ _ hk) (fun hk => by
     refine ⟨h0, hz', .inr ⟨β, bs, top, e1, by rw [setCells_size]; exact hlt, by simpa using htop, fun o' ho' => ?_, fun n y hy => ?_⟩⟩
     · rw [World.frozen?_setCells]
       refine ⟨?_, (ho o' ho').2⟩
       by_cases hr : bs + ix * sz + off ≤ bs + o' ∧ bs + o' < bs + ix * sz + off + u.cells.toList.length
       · have := World.cell?_setCells_in β u.cells.toList (bs + ix * sz + off) w (fun j hj => by
           have := (ho (ix * sz + off + j) (by simp at hj; omega)).1
           rwa [show bs + (ix * sz + off + j) = bs + ix * sz + off + j by omega] at this) (o' - (ix * sz + off)) (by omega)
         rw [show bs + ix * sz + off + (o' - (ix * sz + off)) = bs + o' by omega] at this
         rw [this]; rfl
       · rw [World.cell?_setCells_out β u.cells.toList _ w _ (fun _ _ => by simp at hr ⊢; omega)]; exact (ho o' ho').1
     · obtain ⟨i, k, e', rfl, hk', he', hy'⟩ := zDu h0 hz' hy
       rw [List.getElem?_set] at he'
       split at he'
       · rename_i hi
         subst hi
         simp only [tAb] at he'
         subst he'
         rw [hag] at hy'
         obtain ⟨c, c1, c2, c3, c4⟩ := hcs' k y hy'
         exact ⟨c, c1, c2, c3.mono (MLe.refl M) hk, fun h => by simp only [tAd] at h; exact c4 h.1 h.2⟩
       · rename_i hi
         obtain ⟨c, c1, c2, c3, c4⟩ := hc (i * sz + k) y (by rw [flat_get hz he' hk']; exact hy')
         refine ⟨c, ?_, c2, c3.mono (MLe.refl M) hk, fun h => by simp only [tAd] at h; exact c4 h.1⟩
         rw [World.cell?_setCells_out β u.cells.toList _ w _ (fun _ _ => ?_)]
         · exact c1
         · have hne : i ≠ ix := fun e => hi e.symm
           rcases Nat.lt_or_gt_of_ne hne with hlt' | hgt
           · left
             have : (i + 1) * sz ≤ ix * sz := tAX _ hlt'
             rw [tAY] at this; simp only []; omega
           · right
             have : (ix + 1) * sz ≤ i * sz := tAX _ hgt
             rw [tAY] at this; simp; omega)
   refine ⟨_, ?_, ⟨MLe.refl M, r1, .imm (.un _), r2, r3, fun _ _ h => .inl h⟩⟩
   simp [Instr.storeAt, Instr.sureAddr, storeVar, zCI ht, hl, hst]

end
section
variable {P : Program} {o : Oper} {a : Act} {B : Nat → Prop} {M : Mem} {A A' : Nat → Prop} {H H' : Hp} {μ : Mu} {w w' : World} {d : D}

structure Cells (M : Mem) (L : D → Value → Prop) (n : Nat) (pl : Bool) (ys : List D) (us : List Value) : Prop where
 len : us.length = ys.length * n
 each : ∀ e ∈ ys, e.cells.length = n
 get : ∀ (k : Nat) (d : D), (flat ys)[k]? = some d → ∃ u, us[k]? = some u ∧ u.oneCell' = true ∧ VR M L d u ∧ (pl = true → VRi M d u)

theorem Cells.one {L : D → Value → Prop} {n : Nat} {pl : Bool} {ys : List D} {us : List Value} (h : Cells M L n pl ys us) : ∀ u ∈ us, u.oneCell' = true := by
 intro u hu
 obtain ⟨j, hj, rfl⟩ := tB5 hu
 have hlt : j < (flat ys).length := by rw [zBp h.each, ← h.len]; exact hj
 obtain ⟨c, h1, h2, _⟩ := h.get j _ (tAn hlt)
 rw [tAn hj] at h1
 simp only [tAb] at h1
 rw [h1]; exact h2

theorem zHk {L : D → Value → Prop} {n : Nat} {pl : Bool} {ys : List D} {ad : Addr} (hz : ∀ e ∈ ys, e.cells.length = n)
   (h : ∀ (k : Nat) (d : D), (flat ys)[k]? = some d → ∃ u, w.cell? (ad.add k) = some u ∧ u.oneCell' = true ∧ VR M L d u ∧ (pl = true → VRi M d u)) :
   ∃ us : List Value, (∀ j v, us[j]? = some v → w.cell? (ad.add j) = some v) ∧ Cells M L n pl ys us := by
 refine ⟨(List.range (ys.length * n)).map fun k => (w.cell? (ad.add k)).getD undef, fun j v hj => ?_, ⟨by simp, hz, fun k d hk => ?_⟩⟩
 · simp only [tAE, tAe] at hj
   obtain ⟨i, hi, rfl⟩ := hj
   have hlt : j < ys.length * n := by
     have := (tAi.1 hi).1
     simpa using this
   rw [List.getElem?_range hlt] at hi
   simp only [tAb] at hi
   subst hi
   obtain ⟨u, h1, _⟩ := h j _ (tAn (by rw [zBp hz]; exact hlt))
   rw [h1]; rfl
 · have hlt : k < ys.length * n := by rw [← zBp hz]; exact (tAi.1 hk).1
   obtain ⟨u, h1, h2, h3, h4⟩ := h k d hk
   exact ⟨u, by rw [tAE, List.getElem?_range hlt]; simp [h1], h2, h3, h4⟩

theorem zKm (l : List UInt8) : byteCells ⟨l.toArray⟩ = l.map fun b => Value.int .u8 b.toNat := by simp [byteCells]

theorem zI1 (l : List UInt8) : flat (l.map fun c => D.it .u8 c.toNat) = l.map fun c => D.it .u8 c.toNat := by
 induction l with
 | nil => rfl
 | cons c r ih => simp only [flat, tAO, tBe, D.cells, List.singleton_append] at *; rw [ih]
theorem zPJ {n : Nat} {x : D} {v : Value} {px : Bool} {ys : List D} {u : TypeId} (hR : Rel B M A H μ w) (hv : VR M (Leaf A H μ) x v) (hn : 0 < n) (he : elems H n x = some (px, ys)) (hs : zBP P u x = true) :
   ∃ us : List Value, Src P n u v ys.length us w ∧ Cells M (Leaf A H μ) n px ys us := by
 have hsl : (∀ l, x ≠ .st l) → ∃ e', P.underlying u = some (.slice e') := fun hne => by
   unfold zBP at hs
   split at hs
   · exact absurd rfl (hne _)
   · cases hs
   · rename_i e' h _; exact ⟨e', h⟩
   · cases hs
 cases x <;> simp only [elems, reduceCtorEq] at he
 case vec sz cl es =>
   split at he
   · rename_i e; subst e
     simp only [tAb, tAj] at he
     obtain ⟨rfl, rfl⟩ := he
     obtain ⟨e', hk⟩ := hsl (by simp)
     obtain ⟨a', c, rfl, hc1, hc2, hz, h0, hm⟩ := zEs (L := Leaf A H μ) (zDo hv)
     by_cases hne : es = []
     · subst hne
       refine ⟨[], ?_, ⟨by simp, by simp, fun k d hd => by simp [flat] at hd⟩⟩
       cases a' with
       | none => exact Src.ofNil w hk c
       | some ad => exact Src.ofSlice w hk ad 0 c [] (by simp) (by simp) (by simp)
     · obtain ⟨ad, rfl, hcell⟩ := hm hne
       obtain ⟨us, h1, h2⟩ := zHk (w := w) (L := Leaf A H μ) (pl := true) hz (fun k d hd => by
         obtain ⟨q, q1, q2, q3⟩ := hcell k d hd
         exact ⟨q, hR.mem _ _ q1, q2, .imm q3, fun _ => q3⟩)
       exact ⟨us, Src.ofSlice w hk ad es.length c us h2.len h1 h2.one, h2⟩
   · cases he
 case emp b =>
   simp only [tAb, tAj] at he
   obtain ⟨rfl, rfl⟩ := he
   obtain ⟨e', hk⟩ := hsl (by simp)
   obtain ⟨a, c, rfl, _⟩ := zGA hv
   refine ⟨[], ?_, ⟨by simp, by simp, fun k d hd => by simp [flat] at hd⟩⟩
   cases a with
   | none => exact Src.ofNil w hk c
   | some ad => exact Src.ofSlice w hk ad 0 c [] (by simp) (by simp) (by simp)
 case nils =>
   simp only [tAb, tAj] at he
   obtain ⟨rfl, rfl⟩ := he
   obtain ⟨e', hk⟩ := hsl (by simp)
   rw [zBC hv]
   exact ⟨[], Src.ofNil w hk 0, ⟨by simp, by simp, fun k d hd => by simp [flat] at hd⟩⟩
 case own id off len =>
   obtain ⟨e', hk⟩ := hsl (by simp)
   have hl := zC4 hv
   have hb := hR.blk id
   cases hh : H id <;> simp only [hh, reduceCtorEq] at he
   rename_i sz pl es
   split at he
   · rename_i e; subst e
     simp only [tAb, tAj] at he
     obtain ⟨rfl, rfl⟩ := he
     simp only [Leaf, hh] at hl
     rw [hh] at hb
     obtain ⟨h0, hz, hr⟩ := hb
     obtain ⟨_, hle, a', c, rfl, hlc, hcc⟩ := hl
     have hyl : ((es.drop off).take len).length = len := by simp; omega
     have hz' : ∀ x ∈ (es.drop off).take len, x.cells.length = sz := fun x hx => hz x (tA2 (tAS hx))
     by_cases hlen : len = 0
     · subst hlen
       rw [hyl]
       have hnil : (es.drop off).take 0 = [] := by simp
       rw [hnil]
       refine ⟨[], ?_, ⟨by simp, by simp, fun k d hd => by simp [flat] at hd⟩⟩
       cases a' with
       | none => exact Src.ofNil w hk c
       | some ad => exact Src.ofSlice w hk ad 0 c [] (by simp) (by simp) (by simp)
     · rcases hcc with rfl | ⟨β', bs', top', hm, rfl, htop⟩
       · omega
       rcases hr with ⟨rfl, hm'⟩ | ⟨β, bs, top, e1, hlt, ht, ho, hc⟩
       · simp at hle; omega
       rw [e1] at hm
       simp only [tAb, tAj] at hm
       obtain ⟨rfl, rfl, rfl⟩ := hm
       obtain ⟨us, h1, h2⟩ := zHk (w := w) (L := Leaf A H μ) (pl := pl) (ad := ⟨β, bs + off * sz, none⟩) hz' (fun k d hd => by
         rw [zH9 (fun x hx => hz x (tA2 hx)), zEF hz] at hd
         have hk : k < len * sz := by
           have := (tAi.1 hd).1
           simp only [tAk] at this; omega
         rw [tBw, if_pos hk, tA7] at hd
         obtain ⟨q, q1, q2, q3, q4⟩ := hc _ d hd
         exact ⟨q, by rw [add_lit, tBJ]; exact q1, q2, q3, q4⟩)
       have := Src.ofSlice (P := P) (size := sz) w hk ⟨β, bs + off * sz, none⟩ len c us (by rw [h2.len, hyl]) h1 h2.one
       rw [hyl]
       exact ⟨us, this, h2⟩
   · cases he
 case st l =>
   split at he
   · rename_i e; subst e
     simp only [tAb, tAj] at he
     obtain ⟨rfl, rfl⟩ := he
     have hk : P.underlying u = some .string := by
       unfold zBP at hs
       split at hs
       · assumption
       · cases hs
       · rename_i h1 h2; exact (h2 l rfl).elim
       · cases hs
     rw [zEi hv]
     have := Src.ofString (P := P) w hk ⟨l.toArray⟩
     have hsz : (⟨l.toArray⟩ : ByteArray).size = l.length := by simp [ByteArray.size]
     rw [hsz, zKm] at this
     refine ⟨_, by rw [tAI]; exact this, ⟨by simp, fun e he => ?_, fun k d hd => ?_⟩⟩
     · obtain ⟨c, _, rfl⟩ := tBk.1 he; rfl
     · rw [zI1, tAE, tAe] at hd
       obtain ⟨c, hc, rfl⟩ := hd
       exact ⟨.int .u8 c.toNat, by rw [tAE, hc]; rfl, rfl, .imm (.it _ _), fun _ => .it _ _⟩
   · cases he

theorem zMC {e : TypeId} {z : List D} (h : zFl P e = some z) : ∃ v i, P.info? e = some i ∧ i.zero = some v ∧ v.cells.size = z.length ∧ ∀ c ∈ v.cells.toList, c.oneCell' = true := by
 unfold zFl at h
 rw [tAc] at h
 obtain ⟨d, hd, hc⟩ := h
 unfold zDC at hd
 simp only [tBf, Function.comp_def] at hd
 rw [tAe] at hd
 obtain ⟨v, hv, rfl⟩ := hd
 rw [tAc] at hv
 obtain ⟨i, hi, hz⟩ := hv
 have := cells_ok (M := fun _ => none) (A := fun _ => False) (H := fun _ => .gone) (μ := fun _ => none) (.imm (zF9 (P := P) _ e v)) hc
 refine ⟨v, i, hi, hz, this.1, fun c hcm => ?_⟩
 obtain ⟨j, hj, rfl⟩ := tB5 hcm
 have hj' : j < z.length := by rw [← this.1]; simpa using hj
 obtain ⟨u, h1, h2, _⟩ := this.2 j _ (tAn hj')
 rw [tA1 (by simpa using hj)] at h1
 simp only [tAb] at h1
 simp only [Array.getElem_toList] at *
 rw [h1]; exact h2

theorem zOS {nid sz cap : Nat} {pl : Bool} {ys : List D} {us : List Value} {cs : Array Value} {w1 : World} (T : TypeId) (hR : Rel B M A H μ w) (hn : ¬ A nid) (hB : ∀ k, B k → k < w.heap.size) (hA : ∀ id, A id → A' id) (hA' : A' nid) (h0 : 0 < sz)
   (hw1 : w1.heap = w.heap ∧ w1.os = w.os ∧ w1.tape = w.tape ∧ w1.output = w.output ∧ w.drawn ≤ w1.drawn) (hc : Cells M (Leaf A H μ) sz pl ys us) (hcs : cs.size = cap * sz) (hle : ys.length ≤ cap) (hus : ∀ (k : Nat) (u : Value), us[k]? = some u → cs[k]? = some u) :
   Post B M A H μ w (.own nid 0 ys.length) (upd H nid (.row sz pl ys)) A' (.slice (some ⟨w.heap.size, 0, none⟩) ys.length cap) (w1.alloc (.cells cs T)) M (upd μ nid (some (w.heap.size, 0, cap))) := by
 obtain ⟨hh, h1, h2, h3, h4⟩ := hw1
 have hs1 : w1.heap.size = w.heap.size := by rw [hh]
 obtain ⟨r1, r2, r3⟩ := hR.fresh (A' := A') (nid := nid) (blk := .row sz pl ys) (loc := some (w.heap.size, 0, cap)) (w' := w1.alloc (.cells cs T)) hn hB hA hA'
   ⟨⟨h1, h2, h3, by simp; omega, fun k hk => by rw [Below.heap_alloc _ _ _ (by omega), hh]⟩, h4⟩ (fun β bs top e => by simp only [tAb, tAj] at e; omega) (fun hk => by
   refine ⟨h0, hc.each, .inr ⟨w.heap.size, 0, cap, rfl, by simp; omega, hle, fun o ho => ?_, fun k d hd => ?_⟩⟩
   · rw [← hs1, tAZ, World.cell?_alloc_new, World.frozen?_alloc_new, tA1 (by omega)]
     exact ⟨rfl, rfl⟩
   · obtain ⟨u, q1, q2, q3, q4⟩ := hc.get k d hd
     exact ⟨u, by rw [← hs1, tAZ, World.cell?_alloc_new]; exact hus k u q1, q2, q3.mono (MLe.refl M) hk, q4⟩)
 exact ⟨MLe.refl M, r1, .leaf (by simp only [Leaf, upd_same]; exact ⟨⟨hA', rfl⟩, by omega, _, _, rfl, hle, .inr ⟨w.heap.size, 0, cap, rfl, by simp, by omega⟩⟩), r2, r3, fun _ _ h => .inl h⟩

theorem zMG {nid sz : Nat} {pl : Bool} {a' : Option Addr} (hR : Rel B M A H μ w) (hn : ¬ A nid) (hB : ∀ k, B k → k < w.heap.size) (hA : ∀ id, A id → A' id) (hA' : A' nid) (h0 : 0 < sz) :
   Post B M A H μ w (.own nid 0 0) (upd H nid (.row sz pl [])) A' (.slice a' 0 0) w M (upd μ nid none) := by
 obtain ⟨r1, r2, r3⟩ := hR.fresh (A' := A') (nid := nid) (blk := .row sz pl []) (loc := none) (w' := w) hn hB hA hA' (Blw.refl _ _) (fun β bs top e => by cases e) (fun hk => ⟨h0, by simp, .inl ⟨rfl, rfl⟩⟩)
 exact ⟨MLe.refl M, r1, .leaf (by simp only [Leaf, upd_same]; exact ⟨⟨hA', rfl⟩, by simp, _, _, rfl, tAl _, .inl rfl⟩), r2, r3, fun _ _ h => .inl h⟩

theorem Cells.append {L : D → Value → Prop} {n : Nat} {p q : Bool} {xs ys : List D} {us vs : List Value} (h : Cells M L n p xs us) (k : Cells M L n q ys vs) : Cells M L n (p && q) (xs ++ ys) (us ++ vs) := by
 refine ⟨by rw [tAh, tAh, h.len, k.len, tAY], fun e he => ?_, fun i d hd => ?_⟩
 · rcases tAz.1 he with he | he
   · exact h.each e he
   · exact k.each e he
 · rw [zIa] at hd
   have hfl : (flat xs).length = us.length := by rw [zBp h.each, h.len]
   by_cases hi : i < (flat xs).length
   · rw [tAP hi] at hd
     obtain ⟨u, h1, h2, h3, h4⟩ := h.get i d hd
     exact ⟨u, by rw [tAP (by omega)]; exact h1, h2, h3, fun e => h4 (by simp only [tAd] at e; exact e.1)⟩
   · rw [tAN (by omega)] at hd
     obtain ⟨u, h1, h2, h3, h4⟩ := k.get _ d hd
     exact ⟨u, by rw [tAN (by omega), ← hfl]; exact h1, h2, h3, fun e => h4 (by simp only [tAd] at e; exact e.2)⟩
theorem zJT {nid sLen sCap : Nat} {base : Option Addr} {t tx ty e : TypeId} {i : TypeInfo} {z x : Value} {pl px : Bool} {xs ys : List D} {olds news : List Value}
   (hR : Rel B M A H μ w) (hn : ¬ A nid) (hB : ∀ k, B k → k < w.heap.size) (hA : ∀ id, A id → A' id) (hA' : A' nid) (ht : P.underlying t = some (.slice e)) (hi : P.info? e = some i) (hz : i.zero = some z) (hzs : z.cells.size = i.size) (h0 : 0 < i.size)
   (hold : (Builtin.firstCells i.size sLen (.slice base sLen sCap)).run P w.drew = .ok olds.toArray w.drew) (hs : Src P i.size tx x ys.length news w) (hx : Cells M (Leaf A H μ) i.size pl xs olds) (hy : Cells M (Leaf A H μ) i.size px ys news)
   (hl : xs.length = sLen) (hg : sCap < sLen + ys.length) (hb : (sLen + ys.length) * i.bytes ≤ 140737488355328) (hb0 : 0 < i.bytes) :
   ∃ v w' μ', (Builtin.append_ #[t, tx] ty #[.slice base sLen sCap, x]).run P w = .ok v w' ∧ Post B M A H μ w (.own nid 0 (sLen + ys.length)) (upd H nid (.row i.size (pl && px) (xs ++ ys))) A' v w' M μ' := by
 have h63 : ((sLen + ys.length : Nat) : Int) ≤ 9223372036854775807 := by
   have := Nat.le_mul_of_pos_right (sLen + ys.length) hb0; omega
 have hr := run_append_grow_src w t tx ty e i z ht hi hz base sLen sCap olds hold x ys.length news hs hg h63 (growslice_fits hg hb)
 have hge := grownCap_ge w (sLen + ys.length) sCap e
 have hxy := hx.append hy
 have hlen : (xs ++ ys).length = sLen + ys.length := by rw [tAh, hl]
 have := zOS (B := B) (A' := A') (nid := nid) (cap := grownCap w (sLen + ys.length) sCap e) (cs := (olds ++ news).toArray ++ Builtin.zeroCells z.cells (grownCap w (sLen + ys.length) sCap e - (sLen + ys.length))) (w1 := w.drew) e hR hn hB hA hA' h0 ⟨rfl, rfl, rfl, rfl, Nat.le_succ _⟩ hxy ?_ (by rw [hlen]; exact hge) (fun k u hu => ?_)
 · rw [hlen] at this
   exact ⟨_, _, _, hr, this⟩
 · rw [Array.size_append, tCh, hxy.len, size_zeroCells, hzs, hlen, ← tAY]
   congr 1; omega
 · rw [Array.getElem?_append_left (by simpa using (tAi.1 hu).1)]; simpa using hu

end
section
variable {P : Program} {o : Oper} {a : Act} {B : Nat → Prop} {M : Mem} {A A' : Nat → Prop} {H H' : Hp} {μ : Mu} {w w' : World} {d : D}

theorem Cells.leaf {L L' : D → Value → Prop} {n : Nat} {p : Bool} {xs : List D} {us : List Value} (h : Cells M L n p xs us) (hL : ∀ d v, L d v → L' d v) : Cells M L' n p xs us :=
 ⟨h.len, h.each, fun i d hd => by obtain ⟨u, h1, h2, h3, h4⟩ := h.get i d hd; exact ⟨u, h1, h2, h3.mono (MLe.refl M) hL, h4⟩⟩
theorem Cells.nil {L : D → Value → Prop} {n : Nat} {p : Bool} : Cells M L n p [] [] := ⟨by simp, by simp, fun k d hd => by simp [flat] at hd⟩

theorem Post.after {H1 : Hp} {v : Value} {M' : Mem} {μ' : Mu} (hk : ∀ d v, Leaf A H μ d v → Leaf A H1 μ d v) (h : Post B M A H1 μ w d H' A' v w' M' μ') : Post B M A H μ w d H' A' v w' M' μ' :=
 ⟨h.mle, h.rel, h.val, fun d v q => h.keep d v (hk d v q), h.below, h.new⟩

theorem zGx (size : Nat) (base : Option Addr) (c : Nat) (w : World) : (Builtin.firstCells size 0 (.slice base 0 c)).run P w = .ok #[] w := by
 cases base with
 | none => simp [Builtin.firstCells]
 | some ad => simp [Builtin.firstCells, loadCells, loadCellsFrom]

theorem zCY {t tx ty e : TypeId} {i : TypeInfo} {base : Option Addr} {x : Value} (ht : P.underlying t = some (.slice e)) (hi : P.info? e = some i) (hs : Src P i.size tx x 0 [] w) :
   (Builtin.append_ #[t, tx] ty #[.slice base 0 0, x]).run P w = .ok (.slice base 0 0) w := by
 rcases hs.kind with ⟨e', hk⟩ | hk <;> cases base <;> simp [Builtin.append_, run_underlying ht, run_underlying hk, sizeOf, typeInfo, hi, hs.len, hs.cells, storeCells]

theorem zWe {nid nx' : Nat} {t tx ty : TypeId} {s x : D} {v u : Value} (hR : Rel B M A H μ w) (hn : ¬ A nid) (hB : ∀ k, B k → k < w.heap.size) (hA : ∀ id, A id → A' id) (hA' : A' nid) (hs : VR M (Leaf A H μ) s v) (hx : VR M (Leaf A H μ) x u) (hso : zBP P tx x = true)
   (h : zBY P t H nid s x = some (d, H', nx')) : nx' = nid + 1 ∧ ∃ r w' μ', (Builtin.append_ #[t, tx] ty #[v, u]).run P w = .ok r w' ∧ Post B M A H μ w d H' A' r w' M μ' := by
 unfold zBY at h
 rw [tAc] at h
 obtain ⟨e, he, h⟩ := h
 rw [tAc] at h
 obtain ⟨i, hi, h⟩ := h
 rw [tAc] at h
 obtain ⟨⟨px, ys⟩, hys, h⟩ := h
 rw [tAc] at h
 obtain ⟨z, hz, h⟩ := h
 have ht := zCt he
 split at h
 · cases h
 rename_i hc0
 have h0 : 0 < i.size := by omega
 have hb0 : 0 < i.bytes := by omega
 obtain ⟨zv, i', hi', hzz, hzl, hz1⟩ := zMC hz
 rw [hi] at hi'; simp only [tAb] at hi'; subst hi'
 have hzs : zv.cells.size = i.size := by rw [hzl]; omega
 obtain ⟨news, hsrc, hcy⟩ := zPJ hR hx h0 hys hso
 split at h
 · -- nil
   split at h
   · rename_i hb
     simp only [tAb, tAj] at h
     obtain ⟨rfl, rfl, rfl⟩ := h
     refine ⟨rfl, ?_⟩
     rw [zBC hs]
     by_cases hy : ys = []
     · subst hy
       have hnn : news = [] := tAU (by rw [hcy.len]; simp)
       subst hnn
       exact ⟨_, _, _, zCY ht hi hsrc, zMG hR hn hB hA hA' h0⟩
     · have hpos : 0 < ys.length := tA4.2 hy
       obtain ⟨r, w', μ', hr, hp⟩ := zJT (ty := ty) (pl := true) (xs := []) (sLen := 0) (sCap := 0) (base := none) (olds := []) hR hn hB hA hA' ht hi hzz hzs h0 (zGx _ _ _ _) hsrc .nil hcy rfl (by omega) (by rw [tAZ]; exact hb) hb0
       simp only [tAZ, tAJ, tAR] at hp
       exact ⟨r, w', μ', hr, hp⟩
   · cases h
 · -- a slice that is full
   rename_i sz es
   split at h
   · rename_i hb
     obtain ⟨rfl, hor, hb⟩ := hb
     simp only [tAb, tAj] at h
     obtain ⟨rfl, rfl, rfl⟩ := h
     refine ⟨rfl, ?_⟩
     obtain ⟨a', c, rfl, hc1, hc2, hze, hz0, hm⟩ := zEs (L := Leaf A H μ) (zDo hs)
     have hc2 := hc2 rfl
     subst hc2
     by_cases hy : ys = []
     · subst hy
       have hes : es = [] := by rcases hor with h | h; exact h; exact absurd rfl h
       subst hes
       have hnn : news = [] := tAU (by rw [hcy.len]; simp)
       subst hnn
       exact ⟨_, _, _, zCY ht hi hsrc, zMG hR hn hB hA hA' h0⟩
     · have hpos : 0 < ys.length := tA4.2 hy
       have hold : ∃ olds, (Builtin.firstCells i.size es.length (.slice a' es.length es.length)).run P w.drew = .ok olds.toArray w.drew ∧ Cells M (Leaf A H μ) i.size true es olds := by
         by_cases hes : es = []
         · subst hes
           exact ⟨[], zGx _ _ _ _, .nil⟩
         · obtain ⟨ad, rfl, hcell⟩ := hm hes
           obtain ⟨us, h1, h2⟩ := zHk (w := w) (L := Leaf A H μ) (pl := true) hze (fun k d hd => by
             obtain ⟨q, q1, q2, q3⟩ := hcell k d hd
             exact ⟨q, hR.mem _ _ q1, q2, .imm q3, fun _ => q3⟩)
           exact ⟨us, run_firstCells_some w.drew i.size es.length ad _ _ us h2.len (by simpa using h1), h2⟩
       obtain ⟨olds, ho1, ho2⟩ := hold
       obtain ⟨r, w', μ', hr, hp⟩ := zJT (ty := ty) (pl := true) (xs := es) (sLen := es.length) (sCap := es.length) (base := a') (olds := olds) hR hn hB hA hA' ht hi hzz hzs h0 ho1 hsrc ho2 hcy rfl (by omega) hb hb0
       simp only [tAR] at hp
       exact ⟨r, w', μ', hr, hp⟩
   · cases h
 · -- a row of the call's own
   rename_i id off len
   have hl := zC4 hs
   have hbk := hR.blk id
   split at h
   · rename_i sz pl es hh
     split at h
     · rename_i hb
       obtain ⟨rfl, hlen, hb⟩ := hb
       simp only [tAb, tAj] at h
       obtain ⟨rfl, rfl, rfl⟩ := h
       refine ⟨rfl, ?_⟩
       simp only [Leaf, hh] at hl
       rw [hh] at hbk
       obtain ⟨_, hze, hr⟩ := hbk
       obtain ⟨_, hle, a', c, rfl, hlc, hcc⟩ := hl
       obtain ⟨hK, hk⟩ := hR.kill (id := id)
       have hdl : (es.drop off).length = len := by simp; omega
       have hze' : ∀ x ∈ es.drop off, x.cells.length = i.size := fun x hx => hze x (tA2 hx)
       have hg : H id ≠ .gone := by rw [hh]; simp
       by_cases hfit : len + ys.length ≤ c
       · by_cases hc : c = 0
         · subst hc
           have hl0 : len = 0 := by omega
           have hy : ys = [] := tAU (by omega)
           subst hy; subst hl0
           have hnn : news = [] := tAU (by rw [hcy.len]; simp)
           subst hnn
           have hd0 : es.drop off = [] := tAU hdl
           rw [hd0]
           exact ⟨_, _, _, zCY ht hi hsrc, .after hk (zMG hK hn hB hA hA' h0)⟩
         · rcases hcc with rfl | ⟨β, bs, top, hm, rfl, htop⟩
           · exact absurd rfl hc
           rcases hr with ⟨rfl, hm'⟩ | ⟨β', bs', top', e1, hlt, htt, ho, hcell⟩
           · rw [hm] at hm'; cases hm'
           rw [hm] at e1
           simp only [tAb, tAj] at e1
           obtain ⟨rfl, rfl, rfl⟩ := e1
           have hnl : news.length = ys.length * i.size := hcy.len
           have hsum : (len + ys.length) * i.size = len * i.size + ys.length * i.size := tAY _ _ _
           have htm : (off + (len + ys.length)) * i.size ≤ top * i.size := tAX _ (by omega)
           rw [tAY] at htm
           have hcs : ∀ j, j < news.length → (w.cell? ⟨β, bs + off * i.size + len * i.size + j, none⟩).isSome = true ∧ w.frozen? ⟨β, bs + off * i.size + len * i.size + j, none⟩ = false := fun j hj => by
             have := ho (off * i.size + len * i.size + j) (by omega)
             rwa [show bs + (off * i.size + len * i.size + j) = bs + off * i.size + len * i.size + j by omega] at this
           have hrun := run_append_room_src (P := P) w t tx ty e i ht hi β (bs + off * i.size) len c u ys.length news hsrc hfit (fun j hj => (hcs j hj).1) (fun j hj => (hcs j hj).2)
           obtain ⟨ho1, ho2, ho3⟩ := zCX β news (bs + off * i.size + len * i.size) w
           have hin := World.cell?_setCells_in β news (bs + off * i.size + len * i.size) w (fun j hj => (hcs j hj).1)
           obtain ⟨r1, r2, r3⟩ := hR.move (A' := A') (nid := nid) (bs' := bs + off * i.size) (top' := top - off) (blk := .row i.size (pl && px) (es.drop off ++ ys)) (w' := w.setCells β (bs + off * i.size + len * i.size) news) hg hm hn hA hA' ho1 ho2 ho3 (setCells_size _ _ _ _) (fun k hk => zB0 _ _ _ _ _ hk) (fun hk2 => by
             refine ⟨h0, fun x hx => ?_, .inr ⟨β, _, _, rfl, by rw [setCells_size]; exact hlt, by rw [tAh, hdl]; omega, fun o' ho' => ?_, fun k d hd => ?_⟩⟩
             · rcases tAz.1 hx with hx | hx
               · exact hze' x hx
               · exact hcy.each x hx
             · have hlt' : off * i.size + o' < top * i.size := by
                 rw [Nat.sub_mul] at ho'; omega
               have hoo := ho (off * i.size + o') hlt'
               rw [World.frozen?_setCells]
               refine ⟨?_, by rw [tBJ]; exact hoo.2⟩
               by_cases hrg : len * i.size ≤ o' ∧ o' < len * i.size + news.length
               · have := hin (o' - len * i.size) (by omega)
                 rw [show bs + off * i.size + len * i.size + (o' - len * i.size) = bs + off * i.size + o' by omega] at this
                 rw [this]; rfl
               · rw [World.cell?_setCells_out β news _ w _ (fun _ _ => by simp; omega), tBJ]; exact hoo.1
             · rw [zIa] at hd
               have hfl : (flat (es.drop off)).length = len * i.size := by rw [zBp hze', hdl]
               by_cases hkl : k < len * i.size
               · rw [tAP (by omega), zEF hze, tA7] at hd
                 obtain ⟨q, q1, q2, q3, q4⟩ := hcell _ d hd
                 refine ⟨q, ?_, q2, q3.mono (MLe.refl M) hk2, fun e => q4 (by simp only [tAd] at e; exact e.1)⟩
                 rw [World.cell?_setCells_out β news _ w _ (fun _ _ => by simp; omega), tBJ]; exact q1
               · rw [tAN (by omega), hfl] at hd
                 obtain ⟨q, q1, q2, q3, q4⟩ := hcy.get _ d hd
                 have hj := (tAi.1 q1).1
                 refine ⟨q, ?_, q2, q3.mono (MLe.refl M) hk2, fun e => q4 (by simp only [tAd] at e; exact e.2)⟩
                 have := hin _ hj
                 rw [show bs + off * i.size + len * i.size + (k - len * i.size) = bs + off * i.size + k by omega] at this
                 rw [this, ← tAn hj]; exact q1)
           refine ⟨_, _, _, hrun, ⟨MLe.refl M, r1, .leaf ?_, r2, r3, fun _ _ h => .inl h⟩⟩
           simp only [Leaf, upd_same]
           exact ⟨⟨hA', rfl⟩, by rw [tAh, hdl]; omega, _, _, rfl, hfit, .inr ⟨β, _, _, rfl, by simp, by omega⟩⟩
       · have hold : ∃ olds, (Builtin.firstCells i.size len (.slice a' len c)).run P w.drew = .ok olds.toArray w.drew ∧ Cells M (Leaf A H μ) i.size pl (es.drop off) olds := by
           by_cases hl0 : len = 0
           · subst hl0
             have hd0 : es.drop off = [] := tAU hdl
             rw [hd0]
             exact ⟨[], zGx _ _ _ _, .nil⟩
           · rcases hcc with rfl | ⟨β, bs, top, hm, rfl, htop⟩
             · omega
             rcases hr with ⟨rfl, hm'⟩ | ⟨β', bs', top', e1, hlt, htt, ho, hcell⟩
             · rw [hm] at hm'; cases hm'
             rw [hm] at e1
             simp only [tAb, tAj] at e1
             obtain ⟨rfl, rfl, rfl⟩ := e1
             obtain ⟨us, h1, h2⟩ := zHk (w := w) (L := Leaf A H μ) (pl := pl) (ad := ⟨β, bs + off * i.size, none⟩) hze' (fun k d hd => by
               rw [zEF hze, tA7] at hd
               obtain ⟨q, q1, q2, q3, q4⟩ := hcell _ d hd
               exact ⟨q, by rw [add_lit, tBJ]; exact q1, q2, q3, q4⟩)
             exact ⟨us, run_firstCells_some w.drew i.size len _ _ _ us (by rw [h2.len, hdl]) (by simpa using h1), h2⟩
         obtain ⟨olds, ho1, ho2⟩ := hold
         obtain ⟨r, w', μ', hr', hp⟩ := zJT (ty := ty) (pl := pl) (xs := es.drop off) (sLen := len) (sCap := c) (base := a') (olds := olds) hK hn hB hA hA' ht hi hzz hzs h0 ho1 hsrc (ho2.leaf hk) (hcy.leaf hk) hdl (by omega) hb hb0
         exact ⟨r, w', μ', hr', .after hk hp⟩
     · cases h
   · cases h
 · cases h

end
section
variable {P : Program} {o : Oper} {a : Act} {B : Nat → Prop} {M : Mem} {A A' : Nat → Prop} {H H' : Hp} {μ : Mu} {w w' : World} {d : D}

def Told (M : Mem) (L : D → Value → Prop) (cs : List D) (vs : Array Value) : Prop :=
 vs.size = cs.length ∧ ∀ (k : Nat) (d : D), cs[k]? = some d → ∃ u, vs[k]? = some u ∧ u.oneCell' = true ∧ VR M L d u

theorem zJg {e : TypeId} {n : Nat} {z : D} (h : zDn P e n = some z) : ∃ v i, P.info? e = some i ∧ i.zero = some v ∧ v.cells.size = n ∧ z.cells.length = n ∧ 0 < n ∧ ∀ (k : Nat) (d : D), z.cells[k]? = some d → ∃ u, v.cells[k]? = some u ∧ u.oneCell' = true ∧ VRi M d u := by
 unfold zDn at h
 rw [tAc] at h
 obtain ⟨z', hd, h⟩ := h
 rw [tAc] at h
 obtain ⟨cs, hc, h⟩ := h
 split at h
 · rename_i hl
   simp only [tAb] at h
   subst h
   unfold zDC at hd
   simp only [tBf, Function.comp_def] at hd
   rw [tAe] at hd
   obtain ⟨v, hv, rfl⟩ := hd
   rw [tAc] at hv
   obtain ⟨i, hi, hz⟩ := hv
   have hck : (wid P e (ofV v)).cells = cs := by
     cases hq : wid P e (ofV v) <;> rw [hq] at hc <;> simp only [cellsOf, tAb, reduceCtorEq] at hc <;> subst hc <;> rfl
   have := cells_ok (M := M) (A := fun _ => False) (H := fun _ => .gone) (μ := fun _ => none) (.imm (zF9 (P := P) _ e v)) hc
   refine ⟨v, i, hi, hz, by rw [this.1]; exact hl.1, by rw [hck]; exact hl.1, hl.2, fun k d hk => ?_⟩
   rw [hck] at hk
   obtain ⟨u, h1, h2, h3⟩ := this.2 k d hk
   refine ⟨u, h1, h2, ?_⟩
   have hL : ∀ d v, ¬ Leaf (fun _ => False) (fun _ => Blk.gone) (fun _ => none) d v := fun d v hl => by cases d <;> simp only [Leaf] at hl <;> exact hl.1.1
   have : ∀ {d : D} {v : Value}, VR M (Leaf (fun _ => False) (fun _ => Blk.gone) (fun _ => none)) d v → VRi M d v := fun h => by
     induction h with
     | imm h => exact h
     | leaf h => exact absurd h (hL _ _)
     | agg cs vs hl us hu h1 hv ih => exact .agg cs vs hl us hu h1 ih
     | tup cs vs hl us hu hv ih => exact .tup cs vs hl us hu ih
     | fn f first caps vf vc hf hc uf uc huf huc hvf hvc ihf ihc => exact .fn f first caps vf vc hf hc uf uc huf huc ihf ihc
   exact this h3
 · cases h

theorem foldl_set (off : Nat) : ∀ (l : List Value) (s : Nat) (cells : Array Value), off + s + l.length ≤ cells.size →
   ((l.zipIdx s).foldl (fun cs (c, j) => cs.setIfInBounds (off + j) c) cells).size = cells.size ∧
   ∀ k, ((l.zipIdx s).foldl (fun cs (c, j) => cs.setIfInBounds (off + j) c) cells)[k]? = if off + s ≤ k ∧ k < off + s + l.length then l[k - (off + s)]? else cells[k]? := by
 intro l
 induction l with
 | nil => intro s cells h; exact ⟨rfl, fun k => by rw [if_neg (by simp only [tAu]; omega)]; rfl⟩
 | cons c r ih =>
   intro s cells h
   simp only [List.zipIdx_cons, tCe, tAp] at *
   obtain ⟨h1, h2⟩ := ih (s + 1) (cells.setIfInBounds (off + s) c) (by simp; omega)
   refine ⟨by rw [h1]; simp, fun k => ?_⟩
   rw [h2 k]
   by_cases e : k = off + s
   · subst e
     rw [if_neg (by omega), if_pos (by omega), Nat.sub_self]
     rw [Array.getElem?_setIfInBounds_self_of_lt (by omega), tAt]
   · by_cases hin : off + s + 1 ≤ k ∧ k < off + s + 1 + r.length
     · rw [if_pos (by omega), if_pos (by omega), show k - (off + s) = (k - (off + (s + 1))) + 1 by omega]; rfl
     · rw [if_neg (by omega), if_neg (by omega), Array.getElem?_setIfInBounds_ne (by omega)]

theorem zLO {place : Nat → Option (Nat × Nat)} {cells : Array Value} {i off n : Nat} {v : Value} {rest : List (Nat × Value)} (hp : place i = some (off, n)) (hn : v.cells.size = n) (hle : off + n ≤ cells.size) :
   ∃ cells', Instr.fill place cells ((i, v) :: rest) = Instr.fill place cells' rest ∧ cells'.size = cells.size ∧ ∀ k, cells'[k]? = if off ≤ k ∧ k < off + n then v.cells[k - off]? else cells[k]? := by
 refine ⟨_, by simp only [Instr.fill, hp]; rw [if_neg (by simp [hn]; omega)], ?_⟩
 have := foldl_set off v.cells.toList 0 cells (by simp only [tBA]; omega)
 rw [← Array.foldl_toList, Array.toList_zipIdx]
 refine ⟨this.1, fun k => ?_⟩
 rw [this.2 k]
 simp [hn]

theorem Told.set {L : D → Value → Prop} {cs cs' xs : List D} {vs vs' : Array Value} {u : Value} {off : Nat} (h : Told M L cs vs) (hs : setAt cs off xs = some cs') (hx : Told M L xs u.cells) (hsz : vs'.size = vs.size)
   (hg : ∀ k, vs'[k]? = if off ≤ k ∧ k < off + xs.length then u.cells[k - off]? else vs[k]?) : Told M L cs' vs' := by
 refine ⟨by rw [hsz, h.1, zB5 hs], fun k d hk => ?_⟩
 rw [zHM hs] at hk
 rw [hg]
 split at hk
 · rename_i hin; rw [if_pos hin]; exact hx.2 _ d hk
 · rename_i hin; rw [if_neg hin]; exact h.2 k d hk

theorem zVb {place : Nat → Option (Nat × Nat)} : ∀ (ps : List (Nat × D)) (vs : List (Nat × Value)) (cs cs' : List D) (cells : Array Value), ps.map (·.1) = vs.map (·.1) → (∀ (j : Nat) (p : Nat × D) (q : Nat × Value), ps[j]? = some p → vs[j]? = some q → VR M (Leaf A H μ) p.2 q.2) →
   Told M (Leaf A H μ) cs cells → zEG place cs ps = some cs' → ∃ cells', Instr.fill place cells vs = some cells' ∧ Told M (Leaf A H μ) cs' cells' := by
 intro ps
 induction ps with
 | nil =>
   intro vs cs cs' cells hm hv ht hf
   cases vs with
   | nil => simp only [zEG, tAb] at hf; subst hf; exact ⟨cells, rfl, ht⟩
   | cons q r => simp at hm
 | cons p r ih =>
   intro vs cs cs' cells hm hv ht hf
   cases vs with
   | nil => simp at hm
   | cons q r' =>
     obtain ⟨i, d⟩ := p
     obtain ⟨i', v⟩ := q
     simp only [tAO, tAv] at hm
     obtain ⟨rfl, hm⟩ := hm
     simp only [zEG] at hf
     rw [tAc] at hf
     obtain ⟨⟨off, n⟩, hp, hf⟩ := hf
     rw [tAc] at hf
     obtain ⟨xs, hx, hf⟩ := hf
     split at hf
     · rename_i hn
       rw [tAc] at hf
       obtain ⟨cs1, hs, hf⟩ := hf
       have hc := cells_ok (hv 0 _ _ rfl rfl) hx
       have hle := (zDH hs).1
       obtain ⟨cells1, e1, e2, e3⟩ := zLO (rest := r') hp (show v.cells.size = n by rw [hc.1]; exact hn) (show off + n ≤ cells.size by rw [ht.1]; omega)
       have ht1 : Told M (Leaf A H μ) cs1 cells1 := ht.set hs hc e2 (fun k => by rw [e3 k, hn])
       obtain ⟨cells', h1, h2⟩ := ih r' cs1 cs' cells1 hm (fun j p q h h' => hv (j + 1) p q (by simpa using h) (by simpa using h')) ht1 hf
       exact ⟨cells', by rw [e1]; exact h1, h2⟩
     · cases hf

theorem zT0 : ∀ (fs : List Field), fs.all (fun f => (szT P f.type).isSome) = true → ∃ places : List (Nat × Nat), fs.mapM (fun f => (P.info? f.type).map fun i => (f.offset, i.size)) = some places ∧ ∀ (i : Nat), places[i]? = (fs[i]?).bind fun (f : Field) => (szT P f.type).map fun n => (f.offset, n) := by
 intro fs
 induction fs with
 | nil => intro _; exact ⟨[], rfl, fun i => by simp⟩
 | cons f r ih =>
   intro h
   simp only [tAq, tAd] at h
   obtain ⟨places, h1, h2⟩ := ih h.2
   obtain ⟨n, hn⟩ := tA3.1 h.1
   unfold szT at hn
   rw [tAe] at hn
   obtain ⟨i, hi, rfl⟩ := hn
   refine ⟨(f.offset, i.size) :: places, by simp only [tA8, hi, tAF, tBO, tAg, Option.pure_def, h1], fun j => ?_⟩
   cases j with
   | zero => simp [szT, hi]
   | succ j => simpa using h2 j

theorem zZD {t : TypeId} {ps : List (Nat × D)} {vs : Array (Nat × Value)} (hm : ps.map (·.1) = vs.toList.map (·.1)) (hv : ∀ (j : Nat) (p : Nat × D) (q : Nat × Value), ps[j]? = some p → vs.toList[j]? = some q → VR M (Leaf A H μ) p.2 q.2)
   (h : zDm P t ps = some d) : ∃ v, (Instr.build t vs).run P w = .ok v w ∧ VR M (Leaf A H μ) d v := by
 unfold zDm at h
 rw [tAc] at h
 obtain ⟨z, hz, h⟩ := h
 rw [tAc] at h
 obtain ⟨zc, hzc, h⟩ := h
 unfold zDC at hz
 simp only [tBf, Function.comp_def] at hz
 rw [tAe] at hz
 obtain ⟨zv, hzv, rfl⟩ := hz
 rw [tAc] at hzv
 obtain ⟨it, hit, hzz⟩ := hzv
 have ht : Told M (Leaf A H μ) zc zv.cells := cells_ok (.imm (zF9 (P := P) _ t zv)) hzc
 split at h
 · rename_i fs hu
   split at h
   · rename_i hall
     rw [tAe] at h
     obtain ⟨cs', hf, rfl⟩ := h
     obtain ⟨places, hp1, hp2⟩ := zT0 fs.toList hall
     have hpl : (fun (i : Nat) => (fs[i]?).bind fun (f : Field) => (szT P f.type).map fun n => (f.offset, n)) = (places.toArray[·]?) := by
       funext i; simp [hp2 i]
     rw [hpl] at hf
     obtain ⟨cells', h1, h2⟩ := zVb ps vs.toList zc cs' zv.cells hm hv ht hf
     refine ⟨.agg cells', run_build w t vs cells' ?_, zP0 h2.1 h2.2⟩
     simp only [Program.built, hit, hu, hzz, hp1]; exact h1
   · cases h
 · rename_i n e hu
   rw [tAc] at h
   obtain ⟨sz, hsz, h⟩ := h
   rw [tAe] at h
   obtain ⟨cs', hf, rfl⟩ := h
   obtain ⟨cells', h1, h2⟩ := zVb ps vs.toList zc cs' zv.cells hm hv ht hf
   unfold szT at hsz
   rw [tAe] at hsz
   obtain ⟨ie, hie, rfl⟩ := hsz
   exact ⟨.agg cells', run_build w t vs cells' (by simp [Program.built, hit, hu, hzz, hie, h1]), zP0 h2.1 h2.2⟩
 · cases h

structure ToldE (M : Mem) (L : D → Value → Prop) (n : Nat) (es : List D) (vs : Array Value) : Prop where
 each : ∀ e ∈ es, e.cells.length = n
 told : Told M L (flat es) vs

theorem zKk {d : D} {cs : List D} (h : cellsOf d = some cs) : d.cells = cs := by
 cases d <;> simp only [cellsOf, tAb, reduceCtorEq] at h <;> subst h <;> rfl

theorem zZd {n : Nat} (hn : 0 < n) : ∀ (ps : List (Nat × D)) (vs : List (Nat × Value)) (es es' : List D) (cells : Array Value), ps.map (·.1) = vs.map (·.1) → (∀ (j : Nat) (p : Nat × D) (q : Nat × Value), ps[j]? = some p → vs[j]? = some q → VR M (Leaf A H μ) p.2 q.2) →
   ToldE M (Leaf A H μ) n es cells → zAz n es ps = some es' → es'.length = es.length ∧ ∃ cells', Instr.fill (fun i => some (i * n, n)) cells vs = some cells' ∧ ToldE M (Leaf A H μ) n es' cells' := by
 intro ps
 induction ps with
 | nil =>
   intro vs es es' cells hm hv ht hf
   cases vs with
   | nil => simp only [zAz, tAb] at hf; subst hf; exact ⟨rfl, cells, rfl, ht⟩
   | cons q r => simp at hm
 | cons p r ih =>
   intro vs es es' cells hm hv ht hf
   cases vs with
   | nil => simp at hm
   | cons q r' =>
     obtain ⟨i, d⟩ := p
     obtain ⟨i', v⟩ := q
     simp only [tAO, tAv] at hm
     obtain ⟨rfl, hm⟩ := hm
     simp only [zAz] at hf
     rw [tAc] at hf
     obtain ⟨xs, hx, hf⟩ := hf
     split at hf
     · rename_i hnn
       have hc := cells_ok (hv 0 _ _ rfl rfl) hx
       have hdc := zKk hx
       have hsz : cells.size = es.length * n := by rw [ht.told.1, zBp ht.each]
       have hin : i * n + n ≤ es.length * n := by
         have : (i + 1) * n ≤ es.length * n := tAX _ hnn.2
         rwa [tAY, Nat.one_mul] at this
       obtain ⟨cells1, e1, e2, e3⟩ := zLO (place := fun i => some (i * n, n)) (i := i) (rest := r') rfl (show v.cells.size = n by rw [hc.1]; exact hnn.1) (show i * n + n ≤ cells.size by omega)
       have hz1 : ∀ e ∈ es.set i d, e.cells.length = n := fun e he => by
         rcases tBr he with h | rfl
         · exact ht.each e h
         · rw [hdc]; exact hnn.1
       have ht1 : ToldE M (Leaf A H μ) n (es.set i d) cells1 := by
         refine ⟨hz1, by rw [e2, hsz, zBp hz1, tBC], fun k y hy => ?_⟩
         obtain ⟨j, k', e, rfl, hk', he, hy'⟩ := zDu hn hz1 hy
         rw [e3]
         rw [List.getElem?_set] at he
         split at he
         · rename_i hj; subst hj
           rw [if_pos hnn.2] at he
           simp only [tAb] at he
           subst he
           rw [if_pos (by omega), tBd]
           rw [hdc] at hy'
           exact hc.2 k' y hy'
         · rename_i hj
           have hne : ¬ (i * n ≤ j * n + k' ∧ j * n + k' < i * n + n) := by
             rintro ⟨h1, h2⟩
             rcases Nat.lt_or_gt_of_ne hj with h | h
             · have : (i + 1) * n ≤ j * n := tAX _ h
               rw [tAY] at this; omega
             · have : (j + 1) * n ≤ i * n := tAX _ h
               rw [tAY] at this; omega
           rw [if_neg hne]
           exact ht.told.2 _ y (by rw [flat_get ht.each he hk']; exact hy')
       obtain ⟨hlen, cells', h1, h2⟩ := ih r' (es.set i d) es' cells1 hm (fun j p q h h' => hv (j + 1) p q (by simpa using h) (by simpa using h')) ht1 hf
       exact ⟨by rw [hlen]; simp, cells', by rw [e1]; exact h1, h2⟩
     · cases hf

theorem zFN (z : Array Value) (n k : Nat) (hk : k < n) : (madeCells z n)[k]? = some z[k % z.size]! := by
 simp [madeCells, hk]
theorem zHY {L : D → Value → Prop} {e : TypeId} {n : Nat} {z : D} {v : Value} (m : Nat) (hz : z.cells.length = n) (hv : v.cells.size = n) (hn : 0 < n) (h : ∀ (k : Nat) (d : D), z.cells[k]? = some d → ∃ u, v.cells[k]? = some u ∧ u.oneCell' = true ∧ VRi M d u) :
   ToldE M L n (List.replicate m z) (madeCells v.cells (m * n)) := by
 have hz1 : ∀ e ∈ List.replicate m z, e.cells.length = n := fun e he => by rw [List.eq_of_mem_replicate he]; exact hz
 refine ⟨hz1, by rw [size_madeCells, zBp hz1, tBS], fun k y hy => ?_⟩
 obtain ⟨j, k', e, rfl, hk', he, hy'⟩ := zDu hn hz1 hy
 have hj : j < m := by
   have := (tAi.1 he).1
   simpa using this
 rw [tB3, if_pos hj] at he
 simp only [tAb] at he
 subst he
 obtain ⟨u, h1, h2, h3⟩ := h k' y hy'
 have hlt : j * n + k' < m * n := by
   have : (j + 1) * n ≤ m * n := tAX _ hj
   rw [tAY] at this; omega
 refine ⟨u, ?_, h2, .imm h3⟩
 rw [zFN _ _ _ hlt, hv, Nat.mul_comm j n, Nat.mul_add_mod, Nat.mod_eq_of_lt hk']
 rw [Array.getElem!_eq_getD, tAD, h1]; rfl

end
section
variable {P : Program} {o : Oper} {a : Act} {B : Nat → Prop} {M : Mem} {A A' : Nat → Prop} {H H' : Hp} {μ : Mu} {w w' : World} {d : D}

theorem zPw {e d : D} (h : immD e = true) (hd : d ∈ e.cells) : immD d = true := by
 cases e <;> simp only [D.cells, tAy] at hd
 case agg cs =>
   simp only [immD] at h
   obtain ⟨k, hk, rfl⟩ := tB5 hd
   exact zG8 h (tAn hk)
 all_goals (subst hd; exact h)

theorem ToldE.cells {n : Nat} {es : List D} {vs : Array Value} (h : ToldE M (Leaf A H μ) n es vs) (hn : 0 < n) : Cells M (Leaf A H μ) n (immL es) es vs.toList := by
 refine ⟨by rw [tBA, h.told.1, zBp h.each], h.each, fun k d hd => ?_⟩
 obtain ⟨u, h1, h2, h3⟩ := h.told.2 k d hd
 refine ⟨u, by simpa using h1, h2, h3, fun hi => zIY h3 ?_⟩
 obtain ⟨j, k', e, _, _, he, hd'⟩ := zDu hn h.each hd
 exact zPw (zG8 hi he) (tAB hd')

theorem zKn {nid n : Nat} {t e : TypeId} {sz : Nat} {z : D} {es : List D} {ps : List (Nat × D)} {vs : Array (Nat × Value)} (hR : Rel B M A H μ w) (hn : ¬ A nid) (hB : ∀ k, B k → k < w.heap.size) (hA : ∀ id, A id → A' id) (hA' : A' nid)
   (ht : zBL P t = some e) (hsz : szT P e = some sz) (hz : zDn P e sz = some z) (hs : n * sz ≤ 16777216) (h00 : 0 ≤ n) (hm : ps.map (·.1) = vs.toList.map (·.1)) (hv : ∀ (j : Nat) (p : Nat × D) (q : Nat × Value), ps[j]? = some p → vs.toList[j]? = some q → VR M (Leaf A H μ) p.2 q.2)
   (hf : zAz sz (List.replicate n z) ps = some es) : ∃ r w' μ', (Instr.buildSlice t n vs).run P w = .ok r w' ∧ Post B M A H μ w (.own nid 0 n) (upd H nid (.row sz (immL es) es)) A' r w' M μ' := by
 obtain ⟨v, i, hi, hzz, hv1, hz1, hp, hc⟩ := zJg (M := M) hz
 have hu := zCt ht
 have hsi : i.size = sz := by simp [szT, hi] at hsz; exact hsz
 subst hsi
 rcases Nat.eq_zero_or_pos n with e0 | h0
 · subst e0
   have hps : ps = [] := by
     cases ps with
     | nil => rfl
     | cons p r =>
       obtain ⟨q1, q2⟩ := p
       simp only [zAz, tBB, tAu, Nat.not_lt_zero, and_false, if_false, tAc] at hf
       obtain ⟨_, _, hf⟩ := hf; cases hf
   subst hps
   simp only [zAz, tBB, tAb] at hf
   subst hf
   have hvs : vs = #[] := by
     have h2 : vs.toList = [] := by simpa using hm.symm
     exact Array.toList_eq_nil_iff.1 h2
   subst hvs
   have hr : (Instr.buildSlice t 0 #[]).run P w = .ok (.slice (some ⟨w.heap.size, 0, none⟩) 0 0) (w.alloc (.cells #[] e)) := by
     simp [Instr.buildSlice, run_underlying hu, sizeOf, typeInfo, hi, Instr.fill, newRow]
     rw [show ∀ f : Nat → Value, Array.map f (Array.range 0) = #[] from fun f => tBD (by simp)]
   have hp := zOS (nid := nid) (cap := 0) (cs := #[]) (w1 := w) (ys := []) (us := []) (pl := immL []) e hR hn hB hA hA' hp ⟨rfl, rfl, rfl, rfl, tAl _⟩ ⟨by simp, by simp, fun k d hd => by simp [flat] at hd⟩ (by simp) (by simp) (fun k u hu => by simp at hu)
   exact ⟨_, _, _, hr, hp⟩
 have hlen1 : (List.replicate n z).length = n := by simp
 obtain ⟨hl, cells, hfill, htold⟩ := zZd hp ps vs.toList _ es (madeCells v.cells (n * i.size)) hm hv (zHY (e := e) n hz1 hv1 hp hc) hf
 rw [hlen1] at hl
 have hr := run_buildSlice w t e n vs cells i v hu hi hzz (by omega) (by have := Nat.mul_pos h0 hp; omega) hfill
 have hcells : cells.size = n * i.size := by rw [htold.told.1, zBp htold.each, hl]
 have hp := zOS (nid := nid) (cap := n) (cs := cells) (w1 := w) e hR hn hB hA hA' hp ⟨rfl, rfl, rfl, rfl, tAl _⟩ (htold.cells hp) hcells (by omega) (fun k u hu => by simpa using hu)
 rw [hl] at hp
 exact ⟨_, _, _, hr, hp⟩

theorem yEa {nid nx' : Nat} {t : TypeId} {l c : D} {v u : Value} (hR : Rel B M A H μ w) (hn : ¬ A nid) (hB : ∀ k, B k → k < w.heap.size) (hA : ∀ id, A id → A' id) (hA' : A' nid) (hl : VR M (Leaf A H μ) l v) (hc : VR M (Leaf A H μ) c u)
   (h : zDe P t H nid l c = some (d, H', nx')) : nx' = nid + 1 ∧ ∃ r w' μ', (Instr.makeSlice t v u).run P w = .ok r w' ∧ Post B M A H μ w d H' A' r w' M μ' := by
 unfold zDe at h
 rw [tAc] at h
 obtain ⟨e, he, h⟩ := h
 rw [tAc] at h
 obtain ⟨i, hi, h⟩ := h
 rw [tAc] at h
 obtain ⟨z, hz, h⟩ := h
 split at h
 · rename_i l c
   split at h
   · rename_i hcond
     obtain ⟨h0, hlc, hb, hb0⟩ := hcond
     simp only [tAb, tAj] at h
     obtain ⟨rfl, rfl, rfl⟩ := h
     refine ⟨rfl, ?_⟩
     rw [zCN hl, zCN hc]
     obtain ⟨zv, i', hi', hzz, hv1, hz1, hp, hcc⟩ := zJg (M := M) hz
     rw [hi] at hi'; simp only [tAb] at hi'; subst hi'
     have hcle : c ≤ 281474976710656 := by
       have : (1 : Int) * c ≤ (i.bytes : Int) * c := Int.mul_le_mul_of_nonneg_right (by omega) (by omega)
       omega
     have hr := run_make (P := P) w t e i zv (zCt he) hi hzz .i64 .i64 l c h0 hlc hb (by omega)
     have htold := zHY (M := M) (L := Leaf A H μ) (e := e) l.toNat hz1 hv1 hp hcc
     have hcs : Cells M (Leaf A H μ) i.size true (List.replicate l.toNat z) (madeCells zv.cells (l.toNat * i.size)).toList := by
       refine ⟨by rw [tBA, size_madeCells, tBS], htold.each, fun k d hd => ?_⟩
       obtain ⟨u, h1, h2, h3⟩ := htold.told.2 k d hd
       refine ⟨u, by simpa using h1, h2, h3, fun _ => ?_⟩
       obtain ⟨j, k', x, rfl, hk', hx, hd'⟩ := zDu hp htold.each hd
       have hj : j < l.toNat := by have := (tAi.1 hx).1; simpa using this
       rw [tB3, if_pos hj] at hx
       simp only [tAb] at hx
       subst hx
       obtain ⟨u', q1, q2, q3⟩ := hcc k' d hd'
       have hlt : j * i.size + k' < l.toNat * i.size := by
         have : (j + 1) * i.size ≤ l.toNat * i.size := tAX _ hj
         rw [tAY] at this; omega
       rw [zFN _ _ _ hlt, hv1, Nat.mul_comm j i.size, Nat.mul_add_mod, Nat.mod_eq_of_lt hk', Array.getElem!_eq_getD, tAD, q1] at h1
       simp only [tBa, tAb] at h1
       rw [← h1]; exact q3
     have hpp := zOS (nid := nid) (cap := c.toNat) (cs := madeCells zv.cells (c.toNat * i.size)) (w1 := w) e hR hn hB hA hA' hp ⟨rfl, rfl, rfl, rfl, tAl _⟩ hcs (size_madeCells _ _) (by rw [tBS]; omega) (fun k u hu => by
       have hlt : k < l.toNat * i.size := by have := (tAi.1 hu).1; simpa [size_madeCells] using this
       have hlt2 : k < c.toNat * i.size := Nat.lt_of_lt_of_le hlt (tAX _ (by omega))
       rw [tBQ, zFN _ _ _ hlt] at hu
       rw [zFN _ _ _ hlt2]; exact hu)
     rw [tBS] at hpp
     exact ⟨_, _, _, hr, hpp⟩
   · cases h
 · cases h

theorem zKo {n cap l h : Nat} {mo : Option Nat} {lo hi mx : Option D} {vl vh vm : Option Value} (isS : Bool) (hc : n ≤ cap) (hb : bnds n lo hi mx = some (l, h, mo))
   (h1 : ∀ d, lo = some d → ∃ v, vl = some v ∧ VR M (Leaf A H μ) d v) (h2 : ∀ d, hi = some d → ∃ v, vh = some v ∧ VR M (Leaf A H μ) d v) (h3 : ∀ d, mx = some d → ∃ v, vm = some v ∧ VR M (Leaf A H μ) d v)
   (e1 : lo = none → vl = none) (e2 : hi = none → vh = none) (e3 : mx = none → vm = none) :
   (Instr.sliceBounds isS n cap vl vh vm).run P w = .ok (l, h, mo.getD cap) w ∧ l ≤ h ∧ (∀ m, mo = some m → h ≤ m ∧ m ≤ n) ∧ h ≤ n ∧ (hi = none → h = n) ∧ (mo = none ↔ mx = none) := by
 unfold bnds at hb
 rw [tAc] at hb
 obtain ⟨li, hl, hb⟩ := hb
 have hlow : ∃ k, vl = none ∧ li = 0 ∨ vl = some (.int k li) := by
   cases lo with
   | none => simp only [tAb] at hl; exact ⟨.i64, .inl ⟨e1 rfl, hl.symm⟩⟩
   | some d =>
     obtain ⟨v, hv, hr⟩ := h1 d rfl
     obtain ⟨k, rfl⟩ := zGp hr hl
     exact ⟨k, .inr hv⟩
 cases mx with
 | none =>
   simp only [] at hb
   rw [tAc] at hb
   obtain ⟨hi', hh, hb⟩ := hb
   split at hb
   · rename_i hcond
     obtain ⟨c1, c2, c3⟩ := hcond
     simp only [tAb, tAj] at hb
     obtain ⟨rfl, rfl, rfl⟩ := hb
     have hhi : ∃ k, (hi = none ∧ vh = none ∧ hi' = n) ∨ (vh = some (.int k hi') ∧ hi ≠ none) := by
       cases hi with
       | none => simp only [tAb] at hh; exact ⟨.i64, .inl ⟨rfl, e2 rfl, hh.symm⟩⟩
       | some d =>
         obtain ⟨v, hv, hr⟩ := h2 d rfl
         obtain ⟨k, rfl⟩ := zGp hr hh
         exact ⟨k, .inr ⟨hv, by simp⟩⟩
     rw [e3 rfl]
     refine ⟨?_, by omega, by simp, by omega, fun hn => ?_, by simp⟩
     · obtain ⟨k, hlow⟩ := hlow
       obtain ⟨k', hhi⟩ := hhi
       have b2 : hi' ≤ (cap : Int) := by omega
       have b3 : 0 ≤ hi' := by omega
       rcases hlow with ⟨rfl, rfl⟩ | rfl <;> rcases hhi with ⟨_, rfl, rfl⟩ | ⟨rfl, _⟩ <;> simp [Instr.sliceBounds, Instr.sliceBound, asIntOf, c1, b2, b3, c2, c3] <;> omega
     · obtain ⟨k', hhi⟩ := hhi
       rcases hhi with ⟨_, _, rfl⟩ | ⟨_, h⟩
       · simp
       · exact absurd hn h
   · cases hb
 | some m =>
   simp only [] at hb
   rw [tAc] at hb
   obtain ⟨hi', hh, hb⟩ := hb
   rw [tAc] at hb
   obtain ⟨mi, hmi, hb⟩ := hb
   split at hb
   · rename_i hcond
     obtain ⟨c1, c2, c3, c4⟩ := hcond
     simp only [tAb, tAj] at hb
     obtain ⟨rfl, rfl, rfl⟩ := hb
     rw [tAc] at hh
     obtain ⟨hd, rfl, hh⟩ := hh
     obtain ⟨v, rfl, hr⟩ := h2 hd rfl
     obtain ⟨k, rfl⟩ := zGp hr hh
     obtain ⟨v', rfl, hr'⟩ := h3 m rfl
     obtain ⟨k', rfl⟩ := zGp hr' hmi
     refine ⟨?_, by omega, fun m hm => by simp only [tAb] at hm; omega, by omega, fun hn => by simp at hn, by simp⟩
     obtain ⟨k3, hlow⟩ := hlow
     have b2 : mi ≤ (cap : Int) := by omega
     have b3 : 0 ≤ hi' := by omega
     have b4 : 0 ≤ mi := by omega
     have b5 : (mi.toNat : Int) = mi := by omega
     have b6 : (hi'.toNat : Int) = hi' := by omega
     rcases hlow with ⟨rfl, rfl⟩ | rfl <;> simp [Instr.sliceBounds, Instr.sliceBound, asIntOf, c1, b2, b3, b4, b5, b6, c2, c3]
   · cases hb

end
section
variable {P : Program} {o : Oper} {a : Act} {B : Nat → Prop} {M : Mem} {A A' : Nat → Prop} {H H' : Hp} {μ : Mu} {w w' : World} {d : D}

theorem add_add (ad : Addr) (m k : Nat) : (ad.add m).add k = ad.add (m + k) := by
 unfold Addr.add
 by_cases z : m = 0
 · simp [z]
 · by_cases zk : k = 0
   · simp [z, zk]
   · rw [if_neg z, if_neg zk, if_neg (by omega)]; simp; omega

theorem zXH {t : TypeId} {x : D} {lo hi mx : Option D} {v : Value} {vl vh vm : Option Value} (hR : Rel B M A H μ w) (hv : VR M (Leaf A H μ) x v) (h : zAW P H t x lo hi mx = some d)
   (h1 : ∀ d, lo = some d → ∃ v, vl = some v ∧ VR M (Leaf A H μ) d v) (h2 : ∀ d, hi = some d → ∃ v, vh = some v ∧ VR M (Leaf A H μ) d v) (h3 : ∀ d, mx = some d → ∃ v, vm = some v ∧ VR M (Leaf A H μ) d v)
   (e1 : lo = none → vl = none) (e2 : hi = none → vh = none) (e3 : mx = none → vm = none) :
   ∃ r, (Instr.sliceAt t v vl vh vm).run P w = .ok r w ∧ VR M (Leaf A H μ) d r := by
 unfold zAW at h
 split at h
 · -- a string
   rename_i s
   rw [tAc] at h
   obtain ⟨⟨l, h', m⟩, hb, h⟩ := h
   dsimp only at h
   split at h
   · rename_i hc
     simp only [tAd] at hc
     simp only [tAb] at h
     subst h
     have hu : P.underlying t = some .string := by
       have := hc.1; unfold yEl at this
       split at this
       · assumption
       · cases this
     have hm : m = none := by cases m with | none => rfl | some _ => simp at hc
     subst hm
     rw [zEi hv]
     have hsz : (⟨s.toArray⟩ : ByteArray).size = s.length := by simp [ByteArray.size]
     obtain ⟨hr, hle, _, hhn, _, hmx⟩ := zKo (P := P) (w := w) (cap := s.length) false (tAl _) hb h1 h2 h3 e1 e2 e3
     have hmn := e3 (hmx.1 rfl)
     rw [hmn] at hr ⊢
     refine ⟨.string ((⟨s.toArray⟩ : ByteArray).extract l h'), ?_, ?_⟩
     · simp only [Instr.sliceAt, Sem.run_bind, run_underlying hu, Result.andThen_ok, Instr.slice, hsz, hr]
       simp [hr]
     · have : (⟨s.toArray⟩ : ByteArray).extract l h' = ⟨((s.take h').drop l).toArray⟩ := by
         apply ByteArray.ext
         simp only [ByteArray.data_extract]
         apply Array.ext'
         simp [List.extract_eq_take_drop, List.drop_take]
       rw [this]; exact .imm (.st _)
   · cases h
 · -- a slice that nobody writes
   rename_i sz cl es
   rw [tAc] at h
   obtain ⟨e, he, h⟩ := h
   split at h
   · rename_i hsz
     rw [tAe] at h
     obtain ⟨⟨l, h', m⟩, hb, rfl⟩ := h
     have hu := zCt he
     obtain ⟨a', c, rfl, hc1, hc2, hz, h0, hm⟩ := zEs (L := Leaf A H μ) (zDo hv)
     obtain ⟨hr, hle, hmm, hhn, hhi, hmx⟩ := zKo (P := P) (w := w) (cap := c) true hc1 hb h1 h2 h3 e1 e2 e3
     have hlen : ((es.take h').drop l).length = h' - l := by simp; omega
     refine ⟨.slice (if m.getD c = l then a' else a'.map (·.add (l * sz))) (h' - l) (m.getD c - l), ?_, .imm ?_⟩
     · simp only [Instr.sliceAt, Sem.run_bind, run_underlying hu, Result.andThen_ok, Instr.slice, hr, zCI hsz, Sem.run_pure]
     · have hcap : h' ≤ m.getD c := by
         cases m with
         | none => simp; omega
         | some m => simp; exact (hmm m rfl).1
       have := zNY (M := M) (sz := sz) (cl := capB m (cl && hi.isNone) h') (es := (es.take h').drop l) (a := if m.getD c = l then a' else a'.map (·.add (l * sz))) (c := m.getD c - l) (by omega) (fun hcl => ?_) (fun x hx => hz x (tAS (tA2 hx))) h0 (fun hne => ?_)
       · rw [hlen] at this; exact this
       · rw [hlen]
         cases m with
         | none =>
           simp only [capB, tAd] at hcl
           have hn : hi = none := by cases hi with | none => rfl | some _ => simp at hcl
           have := hc2 hcl.1
           have := hhi hn
           simp; omega
         | some m => simp [capB] at hcl ⊢; omega
       · have hpos : 0 < ((es.take h').drop l).length := tA4.2 hne
         have hes : es ≠ [] := by intro e0; rw [e0] at hpos; simp at hpos
         obtain ⟨ad, rfl, hcell⟩ := hm hes
         have hzt : ∀ x ∈ es.take h', x.cells.length = sz := fun x hx => hz x (tAS hx)
         refine ⟨ad.add (l * sz), by rw [if_neg (by omega)]; rfl, fun k d hd => ?_⟩
         rw [zEF hzt, zH9 hz, tA7] at hd
         have hlt : l * sz + k < h' * sz := by
           have := (tAi.1 hd).1
           simp only [tAk] at this; omega
         rw [tBw, if_pos hlt] at hd
         rw [add_add]
         exact hcell _ d hd
   · cases h
 · -- nil
   rw [tAc] at h
   obtain ⟨e, he, h⟩ := h
   rw [tAc] at h
   obtain ⟨n, hn, h⟩ := h
   rw [tAe] at h
   obtain ⟨⟨l, h', m⟩, hb, rfl⟩ := h
   have hu := zCt he
   rw [zBC hv]
   obtain ⟨hr, hle, hmm, hhn, hhi, hmx⟩ := zKo (P := P) (w := w) (cap := 0) true (tAl _) hb h1 h2 h3 e1 e2 e3
   refine ⟨.slice none 0 0, ?_, .imm .nils⟩
   have hl0 : l = 0 := by omega
   have hh0 : h' = 0 := by omega
   have hm0 : m.getD 0 = 0 := by
     cases m with
     | none => rfl
     | some m => have := hmm m rfl; simp; omega
   rw [hl0, hh0, hm0] at hr
   simp only [Instr.sliceAt, Sem.run_bind, run_underlying hu, Result.andThen_ok, Instr.slice, hr, zCI hn, Sem.run_pure]
   simp
 · -- a row of the call's own
   rename_i id off len
   rw [tAc] at h
   obtain ⟨e, he, h⟩ := h
   split at h
   · rename_i sz pl es hh
     split at h
     · rename_i hsz
       rw [tAc] at h
       obtain ⟨⟨l, h', m⟩, hb, h⟩ := h
       have hu := zCt he
       have hl := zC4 hv
       simp only [Leaf, hh] at hl
       obtain ⟨hid, hle, a', c, rfl, hlc, hcc⟩ := hl
       obtain ⟨hr, hle', hmm, hhn, hhi, hmx⟩ := zKo (P := P) (w := w) (cap := c) true hlc hb h1 h2 h3 e1 e2 e3
       have hrun : (Instr.sliceAt t (.slice a' len c) vl vh vm).run P w = .ok (.slice (if m.getD c = l then a' else a'.map (·.add (l * sz))) (h' - l) (m.getD c - l)) w := by
         simp only [Instr.sliceAt, Sem.run_bind, run_underlying hu, Result.andThen_ok, Instr.slice, hr, zCI hsz, Sem.run_pure]
       have hb0 := hR.blk id
       rw [hh] at hb0
       dsimp only at h
       split at h
       · simp only [tAb] at h
         subst h
         refine ⟨_, hrun, .leaf ?_⟩
         simp only [Leaf, hh]
         refine ⟨⟨hid.1, rfl⟩, by omega, _, _, rfl, by simp; omega, ?_⟩
         by_cases hcl : c = l
         · left; simp; omega
         · right
           rcases hcc with rfl | ⟨β, bs, top, hm, rfl, htop⟩
           · omega
           · refine ⟨β, bs, top, hm, ?_, by simp; omega⟩
             simp only [Option.getD_none]
             rw [if_neg hcl]
             simp only [tAF]
             rw [add_lit, tAY]; congr 2; omega
       · rename_i m
         split at h
         · rename_i hml
           simp only [tAb] at h
           subst h
           refine ⟨_, hrun, .imm ?_⟩
           have := hmm m rfl
           have hz : h' - l = 0 := by omega
           have hz2 : m - l = 0 := by omega
           simp only [tBa, hz, hz2]
           exact zNY (es := []) (c := 0) (by simp) (fun _ => rfl) (by simp) hb0.1 (fun h => absurd rfl h)
         · cases h
     · cases h
   · cases h
 · cases h

theorem yHA {t : TypeId} {x : D} {v : Value} {n : Int} (ty : TypeId) (hR : Rel B M A H μ w) (hv : VR M (Leaf A H μ) x v) (h : lenD P H t x = some n) : (Builtin.len_ #[t] ty #[v]).run P w = .ok (.int .i64 n) w := by
 unfold lenD at h
 split at h
 · rename_i l hu
   simp only [tAb] at h; subst h
   rw [zEi hv]; have hs : (⟨l.toArray⟩ : ByteArray).size = l.length := by simp [ByteArray.size]
   simp only [Builtin.len_]; simp [run_underlying hu, goInt, hs]
 · rename_i e _ _ es hu
   simp only [tAb] at h; subst h
   obtain ⟨a', c, rfl, _⟩ := zEs (L := Leaf A H μ) (zDo hv)
   simp [Builtin.len_, run_underlying hu, goInt]
 · rename_i e hu
   simp only [tAb] at h; subst h
   rw [zBC hv]; simp [Builtin.len_, run_underlying hu, goInt]
 · rename_i e id off len hu
   have hl := zC4 hv
   split at h
   · rename_i sz pl es hh
     simp only [tAb] at h; subst h
     simp only [Leaf, hh] at hl
     obtain ⟨_, _, a', c, rfl, _⟩ := hl
     simp [Builtin.len_, run_underlying hu, goInt]
   · cases h
 · rename_i hu
   simp only [tAb] at h; subst h
   rw [zJH hv]; simp [Builtin.len_, run_underlying hu, goInt]
 · rename_i k e id hu
   have hl := zHW hv
   split at h
   · rename_i es hh
     simp only [tAb] at h; subst h
     simp only [Leaf, hh] at hl
     obtain ⟨_, β, hm, rfl⟩ := hl
     have hb := hR.blk id
     rw [hh] at hb
     obtain ⟨β', ents, clk, e1, hlt, hheap, hn, _⟩ := hb
     rw [hm] at e1
     simp only [tAb, tAj] at e1
     obtain ⟨rfl, _⟩ := e1
     have : (getObj β).run P w = .ok (.map ents clk) w := by simp [getObj, Sem.run, hheap]
     simp [Builtin.len_, run_underlying hu, this, goInt, hn]
   · cases h
 · cases h

theorem zLp {f : Int → Int → Int} {m2 : Value → Value → Sem Value} (hm : ∀ k k' x y, (m2 (.int k x) (.int k' y)).run P w = .ok (.int k (f x y)) w) :
   ∀ (ds : List D) (vs : List Value), ds.length = vs.length → (∀ (k : Nat) (d : D), ds[k]? = some d → ∃ v, vs[k]? = some v ∧ VR M (Leaf A H μ) d v) → minD f ds = some d → ∃ x r v, vs = x :: r ∧ (r.foldlM m2 x).run P w = .ok v w ∧ VR M (Leaf A H μ) d v := by
 intro ds vs hl hv h
 cases ds with
 | nil => cases h
 | cons x r =>
   cases vs with
   | nil => cases hl
   | cons v vs =>
     simp only [minD] at h
     obtain ⟨v0, e0, hx⟩ := hv 0 x rfl
     simp only [tAt, tAb] at e0
     subst e0
     have hv' : ∀ (k : Nat) (d : D), r[k]? = some d → ∃ u, vs[k]? = some u ∧ VR M (Leaf A H μ) d u := fun k d hk => hv (k + 1) d (by simpa using hk)
     clear hv
     simp only [tAp, Nat.add_right_cancel_iff] at hl
     refine ⟨v, vs, ?_⟩
     induction r generalizing x v vs with
     | nil =>
       cases vs with
       | nil =>
         simp only [List.foldlM_nil, Option.pure_def, tAb] at h
         subst h
         exact ⟨v, rfl, by simp, hx⟩
       | cons _ _ => cases hl
     | cons y r ih =>
       cases vs with
       | nil => cases hl
       | cons u vs =>
         obtain ⟨u0, e0, hy⟩ := hv' 0 y rfl
         simp only [tAt, tAb] at e0
         subst e0
         simp only [tB9, tBO] at h
         rw [tAc] at h
         obtain ⟨z, hz, h⟩ := h
         split at hz
         · rename_i k p k' q
           simp only [tAb] at hz
           subst hz
           have e1 := zCN hx; have e2 := zCN hy
           subst e1; subst e2
           obtain ⟨v', _, h1, h2⟩ := ih (.it k (f p q)) h (.int k (f p q)) vs (.imm (.it _ _)) (fun k d hk => hv' (k + 1) d (by simpa using hk)) (by simpa using hl)
           exact ⟨v', rfl, by simp only [tB9, Sem.run_bind, hm, Result.andThen_ok]; exact h1, h2⟩
         · cases hz

end
section
variable {P : Program} {o : Oper} {a : Act} {B : Nat → Prop} {M : Mem} {A A' : Nat → Prop} {H H' : Hp} {μ : Mu} {w w' : World} {d : D}

theorem zXl {α : Type} (f : Nat → α) (k : Nat) : upd f k (f k) = f := by
 funext j; unfold upd; split
 · rename_i h; rw [h]
 · rfl

theorem zZy {t : TypeId} {x : D} {v : Value} (ty : TypeId) (hR : Rel B M A H μ w) (hA : ∀ id, A id → A' id) (hv : VR M (Leaf A H μ) x v) (h : zPT P t H x = some (d, H')) :
   ∃ w', (Builtin.clear_ #[t] ty #[v]).run P w = .ok (.tuple #[]) w' ∧ Post B M A H μ w d H' A' (.tuple #[]) w' M μ := by
 unfold zPT at h
 rw [tAc] at h
 obtain ⟨e, he, h⟩ := h
 have hu := zCt he
 have htup : ∀ {L : D → Value → Prop}, VR M L (.tup []) (.tuple #[]) := fun {L} => zIJ rfl (fun k d hd => by simp at hd)
 cases x <;> simp only [reduceCtorEq] at h
 rename_i id off len
 have hl := zC4 hv
 have hbk := hR.blk id
 cases hh : H id <;> simp only [hh, reduceCtorEq] at h
 rename_i sz pl es
 rw [tAc] at h
 obtain ⟨z, hz, h⟩ := h
 split at h
 · rename_i hle
   simp only [tAb, tAj] at h
   obtain ⟨rfl, rfl⟩ := h
   simp only [Leaf, hh] at hl
   rw [hh] at hbk
   obtain ⟨h0, hze, hr⟩ := hbk
   obtain ⟨_, _, a', c, rfl, hlc, hcc⟩ := hl
   obtain ⟨zv, i, hi, hzz, hv1, hz1, hp, hcell⟩ := zJg (M := M) hz
   by_cases hl0 : len = 0
   · subst hl0
     have : upd H id (.row sz pl (es.take off ++ (List.replicate 0 z ++ es.drop (off + 0)))) = H := by
       simp only [tBB, tAJ, Nat.add_zero, tAH]
       rw [← hh]; exact zXl H id
     rw [this]
     refine ⟨w, ?_, .same hR hA htup⟩
     cases a' <;> simp [Builtin.clear_, run_underlying hu]
   · rcases hcc with rfl | ⟨β, bs, top, hm, rfl, htop⟩
     · omega
     rcases hr with ⟨rfl, hm'⟩ | ⟨β', bs', top', e1, hlt, htt, ho, hcel⟩
     · rw [hm] at hm'; cases hm'
     rw [hm] at e1
     simp only [tAb, tAj] at e1
     obtain ⟨rfl, rfl, rfl⟩ := e1
     have hsi : zv.cells.size = sz := hv1
     have hzc : (Builtin.zeroCells zv.cells len) = madeCells zv.cells (len * sz) := by unfold Builtin.zeroCells madeCells; rw [hv1]
     have hnl : (madeCells zv.cells (len * sz)).toList.length = len * sz := by rw [tBA, size_madeCells]
     have htm : (off + len) * sz ≤ top * sz := tAX _ (by omega)
     rw [tAY] at htm
     have hcs : ∀ j, j < (madeCells zv.cells (len * sz)).toList.length → (w.cell? ⟨β, bs + off * sz + j, none⟩).isSome = true ∧ w.frozen? ⟨β, bs + off * sz + j, none⟩ = false := fun j hj => by
       have := ho (off * sz + j) (by omega)
       rwa [show bs + (off * sz + j) = bs + off * sz + j by omega] at this
     have hmt := zHY (M := M) (L := Leaf A H μ) (e := e) len hz1 hv1 hp hcell
     have h1 : ∀ c ∈ (madeCells zv.cells (len * sz)).toList, c.oneCell' = true := (hmt.cells hp).one
     have hst := run_storeCells_cells (P := P) β (bs + off * sz) (madeCells zv.cells (len * sz)).toList 0 w (fun j hj => by simpa using (hcs j hj).1) (fun j hj => by simpa using (hcs j hj).2) h1
     simp only [Nat.add_zero] at hst
     obtain ⟨ho1, ho2, ho3⟩ := zCX β (madeCells zv.cells (len * sz)).toList (bs + off * sz) w
     have hin := World.cell?_setCells_in β (madeCells zv.cells (len * sz)).toList (bs + off * sz) w (fun j hj => (hcs j hj).1)
     have htk : (es.take off).length = off := by simp; omega
     have hz' : ∀ x ∈ es.take off ++ (List.replicate len z ++ es.drop (off + len)), x.cells.length = sz := fun x hx => by
       rcases tAz.1 hx with hx | hx
       · exact hze x (tAS hx)
       · rcases tAz.1 hx with hx | hx
         · rw [List.eq_of_mem_replicate hx]; exact hz1
         · exact hze x (tA2 hx)
     obtain ⟨r1, r2, r3⟩ := hR.write (A' := A') (id := id) (blk := .row sz pl (es.take off ++ (List.replicate len z ++ es.drop (off + len)))) (w' := w.setCells β (bs + off * sz) (madeCells zv.cells (len * sz)).toList) (by rw [hh]; simp) hm hA (by rw [hh]; simp; omega) ho1 ho2 ho3 (setCells_size _ _ _ _) (fun k hk => zB0 _ _ _ _ _ hk) (fun hk2 => by
       refine ⟨h0, hz', .inr ⟨β, bs, top, hm, by rw [setCells_size]; exact hlt, by simp; omega, fun o' ho' => ?_, fun n y hy => ?_⟩⟩
       · rw [World.frozen?_setCells]
         refine ⟨?_, (ho o' ho').2⟩
         by_cases hrg : off * sz ≤ o' ∧ o' < off * sz + len * sz
         · have := hin (o' - off * sz) (by omega)
           rw [show bs + off * sz + (o' - off * sz) = bs + o' by omega] at this
           rw [this]; rfl
         · rw [World.cell?_setCells_out β _ _ w _ (fun _ _ => by simp only [hnl]; omega)]; exact (ho o' ho').1
       · obtain ⟨i', k, e', rfl, hk', he', hy'⟩ := zDu h0 hz' hy
         by_cases hi1 : i' < off
         · rw [tAP (by omega), tBw, if_pos hi1] at he'
           obtain ⟨q, q1, q2, q3, q4⟩ := hcel (i' * sz + k) y (by rw [flat_get hze he' hk']; exact hy')
           have : (i' + 1) * sz ≤ off * sz := tAX _ hi1
           rw [tAY] at this
           exact ⟨q, by rw [World.cell?_setCells_out β _ _ w _ (fun _ _ => by simp only [hnl]; omega)]; exact q1, q2, q3.mono (MLe.refl M) hk2, q4⟩
         · rw [tAN (by omega), htk] at he'
           by_cases hi2 : i' < off + len
           · rw [tAP (by simp; omega), tB3, if_pos (by omega)] at he'
             simp only [tAb] at he'
             subst he'
             have hlt2 : (i' - off) * sz + k < len * sz := by
               have : (i' - off + 1) * sz ≤ len * sz := tAX _ (by omega)
               rw [tAY] at this; omega
             obtain ⟨q, q1, q2, q3⟩ := hcell k y hy'
             refine ⟨q, ?_, q2, .imm q3, fun _ => q3⟩
             have := hin ((i' - off) * sz + k) (by omega)
             have e3 : bs + off * sz + ((i' - off) * sz + k) = bs + (i' * sz + k) := by
               have : off * sz + (i' - off) * sz = i' * sz := by rw [← tAY]; congr 1; omega
               omega
             rw [e3] at this
             rw [this, ← tAn, tBQ, zFN _ _ _ hlt2, hv1, Nat.mul_comm (i' - off) sz, Nat.mul_add_mod, Nat.mod_eq_of_lt hk', Array.getElem!_eq_getD, tAD, q1]; rfl
           · rw [tAN (by simp; omega), tBS, tA7, show off + len + (i' - off - len) = i' by omega] at he'
             obtain ⟨q, q1, q2, q3, q4⟩ := hcel (i' * sz + k) y (by rw [flat_get hze he' hk']; exact hy')
             have : (off + len) * sz ≤ i' * sz := tAX _ (by omega)
             rw [tAY] at this
             exact ⟨q, by rw [World.cell?_setCells_out β _ _ w _ (fun _ _ => by simp only [hnl]; omega)]; exact q1, q2, q3.mono (MLe.refl M) hk2, q4⟩)
     refine ⟨_, ?_, ⟨MLe.refl M, r1, htup, r2, r3, fun _ _ h => .inl h⟩⟩
     have hlen : ¬ len = 0 := hl0
     obtain ⟨len, rfl⟩ : ∃ n, len = n + 1 := ⟨len - 1, by omega⟩
     simp [Builtin.clear_, run_underlying hu, zeroValue, typeInfo, hi, hzz, hzc, hst]
 · cases h

theorem zH6 (w : World) (p : Addr) (n : Nat) (a : Addr) : (w.freeze p n).cell? a = w.cell? a := by
 unfold World.freeze
 split
 · rfl
 · simp only [World.cell?, tCf]
   by_cases hb : p.block = a.block
   · simp only [hb, if_true]
     cases hh : w.heap[a.block]? with
     | none => simp
     | some x => cases x <;> simp
   · simp [hb]
theorem zJU (w : World) (b n : Nat) (c : Array Value) (T : TypeId) (h : w.heap[b]? = some (.cells c T (0, 0))) (o : Nat) (ho : o < n) : (w.freeze ⟨b, n, none⟩ 1).frozen? ⟨b, o, none⟩ = false := by
 simp only [World.freeze, World.frozen?]
 simp [tCf, h]
 omega
theorem zNd (w : World) (p : Addr) (n : Nat) : (w.freeze p n).heap.size = w.heap.size := by
 unfold World.freeze; split <;> simp

theorem zQH {nid : Nat} {src dst e : TypeId} {l : List UInt8} {v : Value} (hR : Rel B M A H μ w) (hn : ¬ A nid) (hB : ∀ k, B k → k < w.heap.size) (hA : ∀ id, A id → A' id) (hA' : A' nid) (hv : VR M (Leaf A H μ) (.st l) v)
   (hs : P.underlying src = some .string) (hd : P.underlying dst = some (.slice e)) (he : P.underlying e = some (.int .u8)) :
   ∃ r w' μ', (convert src dst v).run P w = .ok r w' ∧ Post B M A H μ w (.own nid 0 l.length) (upd H nid (.row 1 true (l.map fun c => .it .u8 c.toNat))) A' r w' M μ' := by
 rw [zEi hv]
 have hsz : (⟨l.toArray⟩ : ByteArray).size = l.length := by simp [ByteArray.size]
 have hge := grownCap_ge w l.length 0 e
 generalize hcap : grownCap w l.length 0 e = cap at hge
 have hel : (⟨l.toArray⟩ : ByteArray).data.map (fun b => Value.int .u8 b.toNat) = (l.map fun b => Value.int .u8 b.toNat).toArray := by simp
 generalize hcells : (l.map fun b => Value.int .u8 b.toNat).toArray ++ Array.replicate (cap - l.length) (Value.int .u8 0) = cs
 have hcsz : cs.size = cap := by rw [← hcells]; simp; omega
 have hheap : (w.drew.alloc (.cells cs e)).heap[w.heap.size]? = some (.cells cs e (0, 0)) := heap_alloc_new w.drew _
 refine ⟨.slice (some ⟨w.heap.size, 0, none⟩) l.length cap, (w.drew.alloc (.cells cs e)).freeze ⟨w.heap.size, cs.size, none⟩ 1, upd μ nid (some (w.heap.size, 0, cap)), ?_, ?_⟩
 · have hch : (choose (.appendCap l.length 0 e)).run P w = .ok cap w.drew := by rw [← hcap]; simp [Question.forced, grownCap]
   have hsh : (w.drew.alloc (.cells cs e)).shape? w.heap.size = some (e, cs.size) := by unfold World.shape?; rw [hheap]
   have hms : (markStringish ⟨w.heap.size, 0, none⟩).run P (w.drew.alloc (.cells cs e)) = .ok () ((w.drew.alloc (.cells cs e)).freeze ⟨w.heap.size, cs.size, none⟩ 1) := by
     unfold markStringish; simp [hsh]
   have hnr : (newRow e cs).run P w.drew = .ok ⟨w.heap.size, 0, none⟩ (w.drew.alloc (.cells cs e)) := by simp [newRow]
   have hsb : (Conv.stringToBytes e ⟨l.toArray⟩).run P w = .ok (.slice (some ⟨w.heap.size, 0, none⟩) l.length cap) ((w.drew.alloc (.cells cs e)).freeze ⟨w.heap.size, cs.size, none⟩ 1) := by
     unfold Conv.stringToBytes
     rw [hsz]
     simp only [Sem.run_bind, hch, Result.andThen_ok]
     rw [hel, hcells, hnr]
     simp only [Result.andThen_ok, hms, Sem.run_pure]
   simp [-run_choose, convert, run_underlying hs, run_underlying hd, run_underlying he, hsb]
 · have hk1 : Blw w.heap.size w ((w.drew.alloc (.cells cs e)).freeze ⟨w.heap.size, cs.size, none⟩ 1) := by
     have h1 : Below w.heap.size w (w.drew.alloc (.cells cs e)) := ⟨rfl, rfl, rfl, by simp, fun k hk => Below.heap_alloc w.drew _ _ hk⟩
     exact ⟨Lib.below_freeze h1 (tAl _) 1, Nat.le_succ _⟩
   obtain ⟨r1, r2, r3⟩ := hR.fresh (A' := A') (nid := nid) (blk := .row 1 true (l.map fun c => .it .u8 c.toNat)) (loc := some (w.heap.size, 0, cap)) (w' := (w.drew.alloc (.cells cs e)).freeze ⟨w.heap.size, cs.size, none⟩ 1) hn hB hA hA' hk1
     (fun β bs top e => by simp only [tAb, tAj] at e; omega) (fun hk => by
     refine ⟨by omega, fun x hx => by obtain ⟨c, _, rfl⟩ := tBk.1 hx; rfl, .inr ⟨w.heap.size, 0, cap, rfl, by rw [zNd]; simp, by simpa using hge, fun o ho => ?_, fun k d hd => ?_⟩⟩
     · rw [Nat.mul_one] at ho
       refine ⟨?_, ?_⟩
       · rw [zH6, tAZ]
         have := World.cell?_alloc_new w.drew cs e o
         rw [show (w.drew.heap.size) = w.heap.size from rfl] at this
         rw [this, tA1 (by omega)]; rfl
       · rw [tAZ]; exact zJU _ _ _ _ _ hheap o (by omega)
     · rw [zI1, tAE, tAe] at hd
       obtain ⟨c, hc, rfl⟩ := hd
       refine ⟨.int .u8 c.toNat, ?_, rfl, .imm (.it _ _), fun _ => .it _ _⟩
       rw [zH6, tAZ]
       have := World.cell?_alloc_new w.drew cs e k
       rw [show (w.drew.heap.size) = w.heap.size from rfl] at this
       have hlt := (tAi.1 hc).1
       rw [this, ← hcells, Array.getElem?_append_left (by simpa using hlt)]
       simp [hc])
   exact ⟨MLe.refl M, r1, .leaf (by simp only [Leaf, upd_same]; exact ⟨⟨hA', rfl⟩, by simp, _, _, rfl, hge, .inr ⟨w.heap.size, 0, cap, rfl, by simp, by omega⟩⟩), r2, r3, fun _ _ h => .inl h⟩

theorem zRg {es : List D} {l : List UInt8} {us : List Value} (hm : es.mapM byteOfD = some l) (hl : us.length = es.length) (h : ∀ (k : Nat) (d : D), es[k]? = some d → ∃ u, us[k]? = some u ∧ VR M (Leaf A H μ) d u) :
   ∃ ns : List Int, us = ns.map (Value.int .u8) ∧ ns.map (fun n => UInt8.ofNat n.toNat) = l := by
 induction es generalizing l us with
 | nil =>
   cases us with
   | nil => simp at hm; subst hm; exact ⟨[], rfl, rfl⟩
   | cons _ _ => cases hl
 | cons e r ih =>
   cases us with
   | nil => cases hl
   | cons u us =>
     simp only [tA8, tBO] at hm
     rw [tAc] at hm
     obtain ⟨c, hc, hm⟩ := hm
     rw [tAc] at hm
     obtain ⟨l', hl', hm⟩ := hm
     simp only [Option.pure_def, tAb] at hm
     subst hm
     obtain ⟨ns, h1, h2⟩ := ih hl' (by simpa using hl) (fun k d hd => h (k + 1) d (by simpa using hd))
     obtain ⟨u0, e0, hv⟩ := h 0 e rfl
     simp only [tAt, tAb] at e0
     subst e0
     unfold byteOfD at hc
     split at hc
     · rename_i n
       simp only [tAb] at hc
       rw [zCN hv]
       exact ⟨n :: ns, by rw [tAO, h1], by rw [tAO, h2, hc]⟩
     · cases hc

theorem zTX (ns : List Int) : ∀ (s : ByteArray), (ns.foldl (fun r n => r.push (UInt8.ofNat n.toNat)) s) = ⟨(s.data.toList ++ ns.map fun n => UInt8.ofNat n.toNat).toArray⟩ := by
 induction ns with
 | nil => intro s; apply ByteArray.ext; simp
 | cons n r ih => intro s; rw [tCe, ih]; apply ByteArray.ext; simp

theorem zXq {src dst e : TypeId} {x : D} {px : Bool} {es : List D} {l : List UInt8} {v : Value} (hR : Rel B M A H μ w) (hv : VR M (Leaf A H μ) x v) (hx : ∀ l, x ≠ .st l)
   (hs : P.underlying src = some (.slice e)) (hd : P.underlying dst = some .string) (he : P.underlying e = some (.int .u8)) (hes : elems H 1 x = some (px, es)) (hm : es.mapM byteOfD = some l) :
   (convert src dst v).run P w = .ok (.string ⟨l.toArray⟩) w := by
 have hso : zBP P src x = true := by
   unfold zBP; rw [hs]; cases x <;> first | rfl | exact absurd rfl (hx _)
 obtain ⟨us, hsrc, hc⟩ := zPJ hR hv (by omega) hes hso
 have hl : us.length = es.length := by rw [hc.len, Nat.mul_one]
 have hone : ∀ (k : Nat) (d : D), es[k]? = some d → ∃ u, us[k]? = some u ∧ VR M (Leaf A H μ) d u := fun k d hd => by
   have hcl : d.cells.length = 1 := hc.each d (tAB hd)
   obtain ⟨y, hy⟩ : ∃ y, d.cells = [y] := by
     match hq : d.cells, hcl with
     | [y], _ => exact ⟨y, rfl⟩
   have h1 : (flat es)[k * 1 + 0]? = d.cells[0]? := flat_get hc.each hd (by omega)
   rw [hy] at h1
   obtain ⟨u, q1, q2, q3, _⟩ := hc.get _ _ h1
   rw [Nat.mul_one, Nat.add_zero] at q1
   refine ⟨u, q1, ?_⟩
   cases d <;> simp only [D.cells, tAv, and_true] at hy
   case agg cs =>
     exfalso
     have : ∀ (es : List D) (l : List UInt8), es.mapM byteOfD = some l → ∀ x ∈ es, ∃ n, x = .it .u8 n := by
       intro es
       induction es with
       | nil => intro l _ x hx; simp at hx
       | cons a r ih =>
         intro l hm x hx
         simp only [tA8, tBO] at hm
         rw [tAc] at hm
         obtain ⟨c, hc, hm⟩ := hm
         rw [tAc] at hm
         obtain ⟨l', hl', _⟩ := hm
         rcases tAr.1 hx with rfl | hx
         · unfold byteOfD at hc; split at hc
           · exact ⟨_, rfl⟩
           · cases hc
         · exact ih l' hl' x hx
     obtain ⟨n, hn⟩ := this es l hm _ (tAB hd)
     cases hn
   all_goals (subst hy; exact q3)
 obtain ⟨ns, rfl, hns⟩ := zRg hm hl hone
 have hfc := hsrc.cells
 have hlen := hsrc.len w
 cases v <;> try (simp [Builtin.lenOf] at hlen; done)
 case string s =>
   exfalso
   cases x <;> simp only [elems, reduceCtorEq] at hes
   case st l => exact hx l rfl
   case vec => cases zDo hv
   case nils => cases zBC hv
   case emp => obtain ⟨_, _, e, _⟩ := zGA hv; cases e
   case own id off len =>
     have hl := zC4 hv
     cases hh : H id <;> simp only [hh, reduceCtorEq] at hes
     simp only [Leaf, hh] at hl
     obtain ⟨_, _, a', c, e, _⟩ := hl
     cases e
 case slice a' n c =>
   simp only [Builtin.lenOf, Sem.run_pure, Result.ok.injEq, and_true] at hlen
   subst hlen
   cases a' with
   | none =>
     simp only [Builtin.firstCells, Sem.run_pure, Result.ok.injEq, and_true] at hfc
     have hn0 : ns = [] := by
       have := congrArg Array.size hfc; simp at this; exact tAU this.symm
     subst hn0
     simp only [tBn] at hns
     subst hns
     simp [convert, run_underlying hs, run_underlying hd, run_underlying he, Conv.bytesToString]
     rfl
   | some ad =>
     simp only [Builtin.firstCells, Nat.mul_one] at hfc
     have := run_bytesToString (P := P) w ad es.length c ns hfc
     rw [zTX, hns] at this
     simp [convert, run_underlying hs, run_underlying hd, run_underlying he, this]

end
section
variable {P : Program} {o : Oper} {a : Act} {B : Nat → Prop} {M : Mem} {A A' : Nat → Prop} {H H' : Hp} {μ : Mu} {w w' : World} {d : D}

theorem zQX (emp : Bool) (m : Nat) (us : Array Value) : ∀ (fs : List Field), (∀ f ∈ fs, f.name ≠ "_" → ∃ v, (part f.type us f.offset).run P w = .ok v w ∧ (Instr.checkKey emp m f.type v).run P w = .ok () w) →
   (forIn fs PUnit.unit fun f _ => do
     if f.name ≠ "_" then Instr.checkKey emp m f.type (← part f.type us f.offset)
     pure (ForInStep.yield PUnit.unit) : Sem PUnit).run P w = .ok PUnit.unit w := by
 intro fs
 induction fs with
 | nil => intro _; simp
 | cons f r ih =>
   intro h
   have hr := ih (fun f hf => h f (tBW _ hf))
   simp only [List.forIn_cons, Sem.run_bind, Sem.run_ite]
   by_cases hn : f.name ≠ "_"
   · obtain ⟨v, h1, h2⟩ := h f (tBR ..) hn
     rw [if_pos hn]
     simp only [h1, Result.andThen_ok, h2, Sem.run_pure]
     exact hr
   · rw [if_neg hn]
     simp only [Sem.run_pure, Result.andThen_ok]
     exact hr

theorem yEi (n : Nat) (ih : ∀ (t : TypeId) (a b : D) (r : Bool), eqD P n t a b = some r → ∀ (u : Value), VR M (Leaf A H μ) a u → ∀ m, n ≤ m → ∀ emp, (Instr.checkKey emp m t u).run P w = .ok () w) :
   ∀ (fs : List Field) (xs ys : List D) (r : Bool), eqF P n fs xs ys = some r → ∀ (us : Array Value), us.size = xs.length → (∀ (k : Nat) (d : D), xs[k]? = some d → ∃ u, us[k]? = some u ∧ u.oneCell' = true ∧ VR M (Leaf A H μ) d u) →
     ∀ m, n ≤ m → ∀ emp, ∀ f ∈ fs, f.name ≠ "_" → ∃ v, (part f.type us f.offset).run P w = .ok v w ∧ (Instr.checkKey emp m f.type v).run P w = .ok () w := by
 intro fs
 induction fs with
 | nil => intro xs ys r _ us _ _ m _ emp f hf; simp at hf
 | cons g gs ihf =>
   intro xs ys r h us hl hk m hm emp f hf hfn
   unfold eqF at h
   split at h
   · cases h
   · rw [tAc] at h
     obtain ⟨p, hp, h⟩ := h
     rw [tAc] at h
     obtain ⟨q, hq, h⟩ := h
     rw [tAc] at h
     obtain ⟨r1, h1, h⟩ := h
     rw [tAe] at h
     obtain ⟨r2, h2, _⟩ := h
     rcases tAr.1 hf with rfl | hf
     · obtain ⟨u, hu, hvu⟩ := zEy (w := w) hl hk hp
       exact ⟨u, hu, ih _ p q r1 h1 u hvu m hm emp⟩
     · exact ihf xs ys r2 h2 us hl hk m hm emp f hf hfn

theorem yBB : ∀ (n : Nat) (t : TypeId) (a b : D) (r : Bool), eqD P n t a b = some r → ∀ (u : Value), VR M (Leaf A H μ) a u → ∀ m, n ≤ m → ∀ emp, (Instr.checkKey emp m t u).run P w = .ok () w := by
 intro n
 induction n with
 | zero => intro t a b r h; simp [eqD] at h
 | succ n ih =>
   intro t a b r h u hu m hm emp
   obtain ⟨m, rfl⟩ : ∃ j, m = j + 1 := ⟨m - 1, by omega⟩
   unfold eqD at h
   split at h
   · rename_i p q ht
     rw [zE2 hu]; simp [Instr.checkKey, run_underlying ht]
   · rename_i kk k p k' q ht
     rw [zCN hu]; simp [Instr.checkKey, run_underlying ht]
   · rename_i p q ht
     rw [zEi hu]; simp [Instr.checkKey, run_underlying ht]
   · rename_i fs xs ys ht
     split at h
     · cases h
     · rename_i hp
       obtain ⟨vs, rfl, hl, hk⟩ := zDB zCx hu
       have hF := yEi n ih fs.toList xs ys r h vs hl hk m (by omega) emp
       have hrun := zQX (P := P) (w := w) emp m vs fs.toList hF
       rw [Array.forIn_toList] at hrun
       simp only [Instr.checkKey, Sem.run_bind, run_underlying ht, Result.andThen_ok]
       simp only [Sem.run_bind] at hrun
       rw [hrun]
       simp
   · rename_i ht
     rw [zBC hu]; simp [Instr.checkKey, run_underlying ht]
   · rename_i b ht
     obtain ⟨_, _, rfl, _⟩ := zGA hu
     simp [Instr.checkKey, run_underlying ht]
   · rename_i ht
     obtain ⟨_, _, rfl, _⟩ := zEs (L := Leaf A H μ) (zDo hu)
     simp [Instr.checkKey, run_underlying ht]
   · rename_i ht
     rw [zCw hu]; simp [Instr.checkKey, run_underlying ht]
   · rename_i ht
     rw [zCw hu]; simp [Instr.checkKey, run_underlying ht]
   · rename_i ht
     obtain ⟨_, _, rfl, _⟩ := zFR zD7 hu
     simp [Instr.checkKey, run_underlying ht]
   · cases h

theorem zJY {kt : TypeId} {k : D} {kv : Value} (hk : VR M (Leaf A H μ) k kv) : ∀ (es : List (D × D)) (ents : List MapEntry) (i : Nat) (o : Option Nat), ents.length = es.length → (∀ (j : Nat) (p : D × D), es[j]? = some p → ∃ e, ents[j]? = some e ∧ VRi M p.1 e.key ∧ VRi M p.2 e.val) → zEa P kt k es = some o →
   (Instr.findAsking kt kv ents i).run P w = .ok (o.map fun j => (i + j, ((ents[j]?).map (·.val)).getD undef)) w := by
 intro es
 induction es with
 | nil =>
   intro ents i o hl _ h
   cases ents with
   | nil => simp only [zEa, tAb] at h; subst h; simp [Instr.findAsking]
   | cons _ _ => cases hl
 | cons p r ih =>
   intro ents i o hl he h
   cases ents with
   | nil => cases hl
   | cons e ents =>
     obtain ⟨k', v'⟩ := p
     simp only [zEa] at h
     rw [tAc] at h
     obtain ⟨b, hb, h⟩ := h
     obtain ⟨e0, h0, h1, h2⟩ := he 0 (k', v') rfl
     simp only [tAt, tAb] at h0
     subst h0
     have hq := yEV (w := w) hb hk (.imm h1)
     cases b with
     | true =>
       simp only [if_true, tAb] at h
       subst h
       simp [Instr.findAsking, hq]
     | false =>
       simp only [tAf, if_false] at h
       rw [tAe] at h
       obtain ⟨o', ho', rfl⟩ := h
       have := ih ents (i + 1) o' (by simpa using hl) (fun j p hj => he (j + 1) p (by simpa using hj)) ho'
       simp only [Instr.findAsking, Sem.run_bind, hq, Result.andThen_ok, tAf, if_false, this]
       cases o' with
       | none => rfl
       | some j => simp; omega

theorem zQT {kt : TypeId} {kd : TypeDesc} {u v : Value} {c : Bool} (hkt : P.underlying kt = some kd) (h : Instr.sameNow kd u v = some c) : (Op.equal kt u v).run P w = .ok c w := by
 unfold Instr.sameNow at h
 split at h
 · rename_i kk k a k' b
   split at h
   · rename_i e; subst e
     simp only [tAb] at h; subst h
     exact run_equalIn_int w 9999 kt k kk a b hkt
   · cases h
 · rename_i a b
   simp only [tAb] at h; subst h
   rw [beq_toListBytes]
   exact run_equalIn_string w 9999 kt a b hkt
 · rename_i a b
   simp only [tAb] at h; subst h
   exact run_equalIn_bool' w 9999 kt a b hkt
 · cases h

theorem zRs {kt : TypeId} {kd : TypeDesc} {k : D} {kv : Value} (hkt : P.underlying kt = some kd) (hk : VR M (Leaf A H μ) k kv) : ∀ (es : List (D × D)) (ents : List MapEntry) (i : Nat) (o : Option Nat) (r : Option (Nat × Value)), ents.length = es.length → (∀ (j : Nat) (p : D × D), es[j]? = some p → ∃ e, ents[j]? = some e ∧ VRi M p.1 e.key ∧ VRi M p.2 e.val) → zEa P kt k es = some o →
   Instr.findNow kd kv ents i = some r → r = (o.map fun j => (i + j, ((ents[j]?).map (·.val)).getD undef)) := by
 intro es
 induction es with
 | nil =>
   intro ents i o r hl _ h hr
   cases ents with
   | nil => simp only [zEa, tAb] at h; subst h; simp [Instr.findNow] at hr; subst hr; rfl
   | cons _ _ => cases hl
 | cons p es' ih =>
   intro ents i o r hl he h hr
   cases ents with
   | nil => cases hl
   | cons e ents =>
     obtain ⟨k', v'⟩ := p
     simp only [zEa] at h
     rw [tAc] at h
     obtain ⟨b, hb, h⟩ := h
     obtain ⟨e0, h0, h1, h2⟩ := he 0 (k', v') rfl
     simp only [tAt, tAb] at h0
     subst h0
     have hs : ∀ c, Instr.sameNow kd kv e.key = some c → c = b := by
       intro c hc
       have q1 := zQT (P := P) (w := (default : World)) hkt hc
       have q2 := yEV (w := (default : World)) hb hk (.imm h1)
       rw [q1] at q2
       simpa using q2
     unfold Instr.findNow at hr
     split at hr
     · rename_i hc
       have := hs _ hc
       subst this
       simp only [if_true, tAb] at h
       subst h
       simp only [tAb] at hr
       subst hr
       simp
     · rename_i hc
       have := hs _ hc
       subst this
       simp only [tAf, if_false] at h
       rw [tAe] at h
       obtain ⟨o', ho', rfl⟩ := h
       have := ih ents (i + 1) o' r (by simpa using hl) (fun j p hj => he (j + 1) p (by simpa using hj)) ho' hr
       rw [this]
       cases o' with
       | none => rfl
       | some j => simp; omega
     · cases hr

theorem zI3 {kt : TypeId} {k : D} {kv : Value} {kd : TypeDesc} (hkt : P.underlying kt = some kd) (hk : VR M (Leaf A H μ) k kv) {es : List (D × D)} {ents : List MapEntry} {o : Option Nat} (hl : ents.length = es.length) (he : ∀ (j : Nat) (p : D × D), es[j]? = some p → ∃ e, ents[j]? = some e ∧ VRi M p.1 e.key ∧ VRi M p.2 e.val) (h : zEa P kt k es = some o) :
   (Instr.findKey kt kv ents).run P w = .ok (o.map fun j => (j, ((ents[j]?).map (·.val)).getD undef)) w := by
 unfold Instr.findKey
 simp only [Sem.run_bind, run_underlying hkt, Result.andThen_ok]
 cases hr : Instr.findNow kd kv ents 0 with
 | some r =>
   have := zRs hkt hk es ents 0 o r hl he h hr
   simp only [tAZ] at this
   rw [this]; simp
 | none =>
   have := zJY (w := w) hk es ents 0 o hl he h
   simp only [tAZ] at this
   exact this

theorem zHX {t kt vt : TypeId} (h : mapT P t = some (kt, vt)) : P.underlying t = some (.map kt vt) := by
 unfold mapT at h
 split at h
 · rename_i k v hu; simp only [tAb, tAj] at h; rw [← h.1, ← h.2]; exact hu
 · cases h

theorem zSm {t : TypeId} {k : D} {b : Bool} {n : Nat} (h : eqD P n t k k = some b) : ∃ kd, P.underlying t = some kd := by
 cases n with
 | zero => simp [eqD] at h
 | succ n =>
   unfold eqD at h
   split at h
   all_goals first | (cases h; done) | exact ⟨_, by assumption⟩

theorem zPD {kt : TypeId} {k : D} : ∀ (es : List (D × D)) (j : Nat), zEa P kt k es = some (some j) → j < es.length := by
 intro es
 induction es with
 | nil => intro j h; simp [zEa] at h
 | cons p r ih =>
   intro j h
   obtain ⟨k', v'⟩ := p
   simp only [zEa] at h
   rw [tAc] at h
   obtain ⟨b, hb, h⟩ := h
   cases b with
   | true => simp only [if_true, tAb] at h; subst h; simp
   | false =>
     simp only [tAf, if_false] at h
     rw [tAe] at h
     obtain ⟨o', ho', e⟩ := h
     cases o' with
     | none => cases e
     | some j' => simp only [tAF, tAb] at e; have := ih j' ho'; simp; omega

theorem zUp {t : TypeId} {m k : D} {ok : Bool} {mv kv : Value} (hR : Rel B M A H μ w) (hm : VR M (Leaf A H μ) m mv) (hk : VR M (Leaf A H μ) k kv) (h : zDt P H t m k ok = some d) :
   ∃ r, (Instr.lookup t mv kv ok).run P w = .ok r w ∧ VR M (Leaf A H μ) d r := by
 unfold zDt at h
 rw [tAc] at h
 obtain ⟨⟨kt, vt⟩, ht, h⟩ := h
 rw [tAc] at h
 obtain ⟨z, hz, h⟩ := h
 split at h
 · cases h
 rename_i hc
 simp only [tAG, tCi, tAd] at hc
 obtain ⟨b, hb⟩ := tA3.1 hc.2
 rw [tAc] at h
 obtain ⟨es, hes, h⟩ := h
 rw [tAe] at h
 obtain ⟨o, ho, rfl⟩ := h
 have hu := zHX ht
 obtain ⟨kd, hkd⟩ := zSm hb
 obtain ⟨zv, hzv, rfl⟩ := zKS (w := w) hz
 have hrest : ∀ ents : Array MapEntry, ents.toList.length = es.length → (∀ (j : Nat) (p : D × D), es[j]? = some p → ∃ e, ents.toList[j]? = some e ∧ VRi M p.1 e.key ∧ VRi M p.2 e.val) → ∃ r, (do
     Instr.checkKey ents.isEmpty 10000 kt kv
     let (v, ok') ← match ← Instr.findKey kt kv ents.toList with
       | some (_, v) => pure (v, true)
       | none => pure (← zeroValue vt, false)
     pure (if ok then Value.tuple #[v, .bool ok'] else v) : Sem Value).run P w = .ok r w ∧
     VR M (Leaf A H μ) (match (match o.bind (es[·]?) with | some p => (p.2, true) | none => (wid P vt (ofV zv), false)) with | (v, f) => if ok then D.tup [v, .bo f] else v) r := by
   intro ents he2 he3
   have hck := yBB (P := P) (w := w) 12 kt k k b hb kv hk 10000 (by omega) ents.isEmpty
   have hfk := zI3 (w := w) hkd hk he2 he3 ho
   cases o with
   | none =>
     simp only [tBX] at hfk
     refine ⟨if ok then .tuple #[zv, .bool false] else zv, ?_, ?_⟩
     · simp only [Sem.run_bind, Result.andThen_ok, hck, hfk, hzv, Sem.run_pure]
     · cases ok with
       | false => exact .imm (zF9 (P := P) M vt zv)
       | true =>
         refine zIJ rfl (fun k d hd => ?_)
         match k, hd with
         | 0, hd => simp only [tAt, tAb] at hd; subst hd; exact ⟨zv, rfl, .imm (zF9 (P := P) M vt zv)⟩
         | 1, hd => simp only [tAV, tAt, tAb] at hd; subst hd; exact ⟨.bool false, rfl, .imm (.bo _)⟩
   | some j =>
     have hj := zPD es j ho
     obtain ⟨e, q1, _, q3⟩ := he3 j _ (tAn hj)
     simp only [tAF, q1, tBa] at hfk
     simp only [tAg, tAn hj]
     refine ⟨if ok then .tuple #[e.val, .bool true] else e.val, ?_, ?_⟩
     · simp only [Sem.run_bind, Result.andThen_ok, hck, hfk, Sem.run_pure]
     · cases ok with
       | false => exact .imm q3
       | true =>
         refine zIJ rfl (fun k d hd => ?_)
         match k, hd with
         | 0, hd => simp only [tAt, tAb] at hd; subst hd; exact ⟨e.val, rfl, .imm q3⟩
         | 1, hd => simp only [tAV, tAt, tAb] at hd; subst hd; exact ⟨.bool true, rfl, .imm (.bo _)⟩
 cases m <;> simp only [reduceCtorEq] at hes
 case nilm =>
   simp only [tAb] at hes; subst hes
   rw [zJH hm]
   obtain ⟨r, hr, hv⟩ := hrest #[] (by simp) (fun j p hp => by simp at hp)
   refine ⟨r, ?_, hv⟩
   simp only [Sem.run_bind, Result.andThen_ok] at hr
   simp only [Instr.lookup, Sem.run_bind, run_underlying hu, Result.andThen_ok, Sem.run_pure]
   exact hr
 case map id =>
   have hl := zHW hm
   have hbk := hR.blk id
   cases hh : H id <;> simp only [hh, reduceCtorEq, tAb] at hes
   subst hes
   simp only [Leaf, hh] at hl
   rw [hh] at hbk
   obtain ⟨_, β, hmu, rfl⟩ := hl
   obtain ⟨β', ents, clk, e1, hlt, hheap, hn, hcell⟩ := hbk
   rw [hmu] at e1
   simp only [tAb, tAj] at e1
   obtain ⟨rfl, _⟩ := e1
   have hg : (getObj β).run P w = .ok (.map ents clk) w := by simp [getObj, Sem.run, hheap]
   obtain ⟨r, hr, hv⟩ := hrest ents (by simpa using hn) (fun j p hp => by
     obtain ⟨e, q1, _, q2, q3⟩ := hcell j p hp
     exact ⟨e, by simpa using q1, q2, q3⟩)
   refine ⟨r, ?_, hv⟩
   simp only [Sem.run_bind, Result.andThen_ok] at hr
   simp only [Instr.lookup, Sem.run_bind, run_underlying hu, Result.andThen_ok, hg, Sem.run_pure]
   exact hr

theorem zFq {d d' : D} {u v : Value} (h : zEj d d' = true) (hu : VRi M d u) (hv : VRi M d' v) (h1 : u.oneCell' = true) (n : Nat) : Instr.sameBits n u v = true := by
 cases hu <;> cases hv <;> simp [zEj] at h <;> first
   | (subst h; simp [Instr.sameBits]; done)
   | (subst h; simp only [Instr.sameBits, beq_toListBytes, beq_self_eq_true]; done)
   | (obtain ⟨rfl, rfl⟩ := h; simp [Instr.sameBits])
   | (simp [Value.oneCell'] at h1)

theorem zMT {xs ys : List D} (h : zE5 xs ys = true) : xs.length = ys.length ∧ ∀ (k : Nat) (d d' : D), xs[k]? = some d → ys[k]? = some d' → zEj d d' = true := by
 induction xs generalizing ys with
 | nil => cases ys <;> simp [zE5] at h ⊢
 | cons x r ih =>
   cases ys with
   | nil => simp [zE5] at h
   | cons y s =>
     simp only [zE5, tAd] at h
     obtain ⟨h1, h2⟩ := ih h.2
     refine ⟨by simp [h1], fun k d d' hd hd' => ?_⟩
     cases k with
     | zero => simp at hd hd'; subst hd; subst hd'; exact h.1
     | succ k => exact h2 k d d' (by simpa using hd) (by simpa using hd')

theorem zMU {d d' : D} {u v : Value} (h : zEj d d' = true) (hu : VRi M d u) (hv : VRi M d' v) : Instr.sameBits 10000 u v = true := by
 by_cases h1 : u.oneCell' = true
 · exact zFq h hu hv h1 _
 · cases hu with
   | agg cs vs hl us hu' h1' hv' =>
     cases hv <;> simp only [zEj, tAf] at h
     rename_i cs' vs' hl' us' hu'' h1'' hv''
     obtain ⟨e1, e2⟩ := zMT h
     have : Instr.sameBits 10000 (.agg vs) (.agg vs') = (vs.size == vs'.size && (vs.toList.zip vs'.toList).all fun (x, y) => Instr.sameBits 9999 x y) := rfl
     rw [this, hl, hl', e1]
     simp only [beq_self_eq_true, tAR, tAw]
     intro p hp
     obtain ⟨k, hk, rfl⟩ := tB5 hp
     simp only [List.length_zip, tBA] at hk
     have k1 : k < vs.size := by omega
     have k2 : k < vs'.size := by omega
     have q1 := hv' k cs[k] (tAn (by omega))
     have q2 := hv'' k cs'[k] (tAn (by omega))
     have r1 := hu' k k1
     have r2 := hu'' k k2
     rw [tA1 k1] at r1
     rw [tA1 k2] at r2
     simp only [tAb] at r1 r2
     simp only [List.getElem_zip, Array.getElem_toList]
     rw [r1, r2]
     exact zFq (e2 k _ _ (tAn (by omega)) (tAn (by omega))) q1 q2 (h1' k k1) _
   | un v => cases hv <;> simp [zEj] at h
   | tup => cases hv <;> simp [zEj] at h
   | bo => simp [Value.oneCell'] at h1
   | it => simp [Value.oneCell'] at h1
   | st => simp [Value.oneCell'] at h1
   | vec => simp [Value.oneCell'] at h1
   | nils => simp [Value.oneCell'] at h1
   | emp => simp [Value.oneCell'] at h1
   | elt => simp [Value.oneCell'] at h1
   | nilp => simp [Value.oneCell'] at h1
   | fn => simp [Value.oneCell'] at h1
   | nilf => simp [Value.oneCell'] at h1
   | nilm => simp [Value.oneCell'] at h1

mutual
theorem zOg : ∀ d, scal d = true → immD d = true
 | .bo _, _ => rfl
 | .it _ _, _ => rfl
 | .st _, _ => rfl
 | .agg cs, h => zKR cs (by simpa [scal] using h)
 | .un, h => by simp [scal] at h
 | .vec _ _ _, h => by simp [scal] at h
 | .nils, h => by simp [scal] at h
 | .emp _, h => by simp [scal] at h
 | .own _ _ _, h => by simp [scal] at h
 | .tup _, h => by simp [scal] at h
 | .ptr _ _, h => by simp [scal] at h
 | .rowp _ _ _, h => by simp [scal] at h
 | .elt _, h => by simp [scal] at h
 | .nilp, h => by simp [scal] at h
 | .fn _ _ _, h => by simp [scal] at h
 | .nilf, h => by simp [scal] at h
 | .map _, h => by simp [scal] at h
 | .nilm, h => by simp [scal] at h
theorem zKR : ∀ l, zSO l = true → immL l = true
 | [], _ => rfl
 | d :: r, h => by
   simp only [zSO, tAd] at h
   simp only [immL, tAd]
   exact ⟨zOg d h.1, zKR r h.2⟩
end

theorem zKH {t : TypeId} {m k v : D} {mv kv vv : Value} (hR : Rel B M A H μ w) (hA : ∀ id, A id → A' id) (hm : VR M (Leaf A H μ) m mv) (hk : VR M (Leaf A H μ) k kv) (hv : VR M (Leaf A H μ) v vv) (h : zEu P H t m k v = some H') :
   ∃ w', (Instr.mapUpdate t mv kv vv).run P w = .ok () w' ∧ Post B M A H μ w .un H' A' undef w' M μ := by
 unfold zEu at h
 rw [tAc] at h
 obtain ⟨⟨kt, vt⟩, ht, h⟩ := h
 dsimp only at h
 split at h
 · cases h
 rename_i hc
 simp only [tAG, tCi, tAd] at hc
 obtain ⟨⟨hsc, hiv⟩, hbs⟩ := hc
 obtain ⟨b, hb⟩ := tA3.1 hbs
 have hu := zHX ht
 obtain ⟨kd, hkd⟩ := zSm hb
 cases m <;> simp only [reduceCtorEq] at h
 rename_i id
 have hl := zHW hm
 have hbk := hR.blk id
 cases hh : H id <;> simp only [hh, reduceCtorEq] at h
 rename_i es
 rw [tAc] at h
 obtain ⟨o, ho, h⟩ := h
 simp only [Leaf, hh] at hl
 rw [hh] at hbk
 obtain ⟨_, β, hmu, rfl⟩ := hl
 obtain ⟨β', ents, clk, e1, hlt, hheap, hn, hcell⟩ := hbk
 rw [hmu] at e1
 simp only [tAb, tAj] at e1
 obtain ⟨rfl, _⟩ := e1
 have hg : (getObj β).run P w = .ok (.map ents clk) w := by simp [getObj, Sem.run, hheap]
 have hck := yBB (P := P) (w := w) 12 kt k k b hb kv hk 10000 (by omega) false
 have hfk := zI3 (w := w) (ents := ents.toList) hkd hk (by simpa using hn) (fun j p hp => by
     obtain ⟨e, q1, _, q2, q3⟩ := hcell j p hp
     exact ⟨e, by simpa using q1, q2, q3⟩) ho
 have hki : VRi M k kv := zIY hk (zOg k hsc)
 have hvi : VRi M v vv := zIY hv hiv
 have hset : ∀ (ents' : Array MapEntry) (clk' : Nat), (setObj β (.map ents' clk')).run P w = .ok () { w with heap := w.heap.setIfInBounds β (.map ents' clk') } := fun ents' clk' => by simp [setObj, Sem.run, hheap]
 have fin : ∀ (es' : List (D × D)) (ents' : Array MapEntry) (clk' : Nat), ents'.size = es'.length → (∀ (k : Nat) (p : D × D), es'[k]? = some p → ∃ e, ents'[k]? = some e ∧ scal p.1 = true ∧ VRi M p.1 e.key ∧ VRi M p.2 e.val) →
     Post B M A H μ w .un (upd H id (.mp es')) A' undef { w with heap := w.heap.setIfInBounds β (.map ents' clk') } M μ := by
   intro es' ents' clk' h1 h2
   obtain ⟨r1, r2, r3⟩ := hR.write (A' := A') (id := id) (blk := .mp es') (w' := { w with heap := w.heap.setIfInBounds β (.map ents' clk') }) (by rw [hh]; simp) hmu hA (by rw [hh]; trivial) rfl rfl rfl (by simp) (fun k hk => by simp only [Array.getElem?_setIfInBounds]; rw [if_neg (fun e => hk e.symm)])
     (fun hk => ⟨β, ents', clk', hmu, by simpa using hlt, by simp [hlt], h1, h2⟩)
   exact ⟨MLe.refl M, r1, .imm (.un _), r2, r3, fun _ _ h => .inl h⟩
 cases o with
 | none =>
   simp only [tAb] at h
   subst h
   simp only [tBX] at hfk
   refine ⟨_, ?_, fin (es ++ [(k, v)]) (ents.push { key := kv, val := vv, born := clk }) (clk + 1) (by simp [hn]) (fun j p hp => ?_)⟩
   · simp only [Instr.mapUpdate, Sem.run_bind, run_underlying hu, Result.andThen_ok, hg, hck, hfk, hset]
   · by_cases hj : j < es.length
     · rw [tAP hj] at hp
       obtain ⟨e, q1, q2, q3, q4⟩ := hcell j p hp
       exact ⟨e, by rw [Array.getElem?_push, if_neg (by omega)]; exact q1, q2, q3, q4⟩
     · rw [tAN (by omega)] at hp
       have hj0 : j = es.length := by
         have := (tAi.1 hp).1
         simp at this; omega
       subst hj0
       simp only [Nat.sub_self, tAt, tAb] at hp
       subst hp
       exact ⟨_, by rw [Array.getElem?_push, if_pos hn.symm], hsc, hki, hvi⟩
 | some j =>
   dsimp only at h
   split at h
   · rename_i hsame
     simp only [tAb] at h
     subst h
     have hj := zPD es j ho
     obtain ⟨e, q1, q2, q3, q4⟩ := hcell j _ (tAn hj)
     simp only [tAn hj, tAF, tAb] at hsame
     have hsb := zMU hsame q3 hki
     have q1' : ents.toList[j]? = some e := by simpa using q1
     simp only [tAF, q1', tBa] at hfk
     have hstay : (Instr.keyThatStays (((ents[j]?).map fun (x : MapEntry) => x.key).getD kv) kv).run P w = .ok kv w := by
       rw [q1]; simp [Instr.keyThatStays, hsb]
     refine ⟨_, ?_, fin (es.set j (k, v)) (ents.modify j fun e => { e with key := kv, val := vv }) clk (by simp [hn]) (fun i p hp => ?_)⟩
     · simp only [Instr.mapUpdate, Sem.run_bind, run_underlying hu, Result.andThen_ok, hg, hck, hfk, hstay, hset]
     · rw [List.getElem?_set] at hp
       split at hp
       · rename_i e0; subst e0
         simp only [tAb] at hp
         subst hp
         exact ⟨_, by rw [tCf, if_pos rfl, q1]; rfl, hsc, hki, hvi⟩
       · rename_i e0
         obtain ⟨e', p1, p2, p3, p4⟩ := hcell i p hp
         exact ⟨e', by rw [tCf, if_neg e0]; exact p1, p2, p3, p4⟩
   · cases h

end
end Go.Mir
