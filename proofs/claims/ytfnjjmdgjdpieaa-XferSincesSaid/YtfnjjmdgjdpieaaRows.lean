/-
  No cell of these rows narrows 'for every input' (looked for: loops, veiled, ifaces, maps, wideKeys, modest, calm, conditions, laid).
  DERIVED. THE GIVEN ROWS OF THIS SEAT. 3 by the template 'for every input the law returns true; each argument reads behind the call as it read before'; 0 by the template 'total and deterministic' (their statements: YtfnjjmdgjdpieaaTotals.lean).
  GIVEN WITH THE SEED: the statements are not yours to turn. If you find one false, say at which input.
  Laid BY PROGRAM, IN A SANDBOX (cutbox-rows.mjs): the forced cells as the released guide's own fill.sh prints them over the translation bc9e65b1c3f9dd8b… (all of the seat's roots in one cut). By AI agents, Wed Nov 11 2026. No macro, syntax, notation, axiom, sorry.
-/
import Derived.Test.YtfnjjmdgjdpieaaChecked
import GoSem.Claim
import GoSem.ClaimJoined
import GoSem.ClaimMapViews
import Derived.JoinedTies
import Derived.KernelRfl
namespace Go.Proofs.Ytfnjjmdgjdpieaa
/- THE CELL 'sum', in the pinned program and in every row, IS THE sha256 OF THE DUMP (.gsa) THAT YtfnjjmdgjdpieaaProg.lean LOADS. Nothing in Lean hashes anything: it is a label: what it is worth is what the hold of that sum in a sandbox is worth. -/
noncomputable def Try.pinned : Pinned := { name := "ytfnjjmdgjdpieaa", sum := "bc9e65b1c3f9dd8b48039c4654bc97d2328a0a37b3cc4bc1058b921c9fdf3764", checked := Try.checked }
namespace Rows
def none {H : Type} : Left H := { results := [], args := [] }

/-- 'ddilaw14.XferSplits': WHATEVER THE INPUT: true; the input reads as it did. -/
def xferSplitsSpec : ChangeSpec := { name := "xferSplits", fn := fun _ => fun
  | [d1, d2] => { results := [.lit (.bool true)], args := [d1, d2] }
  | _ => none }
def xferSplitsRow : OpenClaim := { program := "ytfnjjmdgjdpieaa", sum := "bc9e65b1c3f9dd8b48039c4654bc97d2328a0a37b3cc4bc1058b921c9fdf3764", func := "ddi/ddilaw14.XferSplits", spec := "xferSplits", unfollowed := true, recurses := true, apart := false }
def XferSplitsSaid : Prop := xferSplitsRow.holds Try.pinned (OpenSpec.ofChange xferSplitsSpec)

/-- ITS FALSE NEIGHBOUR: 'it returns false'. Refute it at one input. -/
def xferSplitsWrong : ChangeSpec := { name := "xferSplits", fn := fun _ => fun
  | [d1, d2] => { results := [.lit (.bool false)], args := [d1, d2] }
  | _ => none }
def XferSplitsWrongFalsely : Prop := xferSplitsRow.holds Try.pinned (OpenSpec.ofChange xferSplitsWrong)

/-- 'ddilaw14.XferParts': WHATEVER THE INPUT: true; the input reads as it did. -/
def xferPartsSpec : ChangeSpec := { name := "xferParts", fn := fun _ => fun
  | [d1, d2] => { results := [.lit (.bool true)], args := [d1, d2] }
  | _ => none }
def xferPartsRow : OpenClaim := { program := "ytfnjjmdgjdpieaa", sum := "bc9e65b1c3f9dd8b48039c4654bc97d2328a0a37b3cc4bc1058b921c9fdf3764", func := "ddi/ddilaw14.XferParts", spec := "xferParts", unfollowed := true, recurses := true, apart := false }
def XferPartsSaid : Prop := xferPartsRow.holds Try.pinned (OpenSpec.ofChange xferPartsSpec)

/-- ITS FALSE NEIGHBOUR: 'it returns false'. Refute it at one input. -/
def xferPartsWrong : ChangeSpec := { name := "xferParts", fn := fun _ => fun
  | [d1, d2] => { results := [.lit (.bool false)], args := [d1, d2] }
  | _ => none }
def XferPartsWrongFalsely : Prop := xferPartsRow.holds Try.pinned (OpenSpec.ofChange xferPartsWrong)

/-- 'ddilaw14.XferSinces': WHATEVER THE INPUT: true; the input reads as it did. -/
def xferSincesSpec : ChangeSpec := { name := "xferSinces", fn := fun _ => fun
  | [d1, d2] => { results := [.lit (.bool true)], args := [d1, d2] }
  | _ => none }
def xferSincesRow : OpenClaim := { program := "ytfnjjmdgjdpieaa", sum := "bc9e65b1c3f9dd8b48039c4654bc97d2328a0a37b3cc4bc1058b921c9fdf3764", func := "ddi/ddilaw14.XferSinces", spec := "xferSinces", unfollowed := true, recurses := true, apart := false }
def XferSincesSaid : Prop := xferSincesRow.holds Try.pinned (OpenSpec.ofChange xferSincesSpec)

/-- ITS FALSE NEIGHBOUR: 'it returns false'. Refute it at one input. -/
def xferSincesWrong : ChangeSpec := { name := "xferSinces", fn := fun _ => fun
  | [d1, d2] => { results := [.lit (.bool false)], args := [d1, d2] }
  | _ => none }
def XferSincesWrongFalsely : Prop := xferSincesRow.holds Try.pinned (OpenSpec.ofChange xferSincesWrong)

/- THE SECOND FORM. 'bulk': how many values and letters a reading holds, each counted each time it is reached (what is shared counts as often as it is met; a slice's spare places count too). A statement '..UptoSaid' is the law's where the arguments, and the package variables that the reading takes, are together of bulk at most 1048576: NARROWER than '..Said'. Prove '..Said' where nothing that the law and all that it calls make is longer than what came in: it says more and counts as full. Else prove '..UptoSaid'. A law counts once. -/
mutual
def uptoBulk {H : Type} : DataW H → Nat
  | .lit (.string bytes) => bytes.length + 1
  | .lit _ => 1
  | .nil => 1
  | .ptr d => uptoBulk d + 1
  | .slice elems spare => uptoBulkAll elems + uptoBulkAll spare + 1
  | .agg parts => uptoBulkAll parts + 1
  | .iface _ d => uptoBulk d + 1
  | .map entries => uptoBulkEntries entries + 1
  | .held _ => 1
def uptoBulkAll {H : Type} : List (DataW H) → Nat
  | [] => 0
  | d :: r => uptoBulk d + uptoBulkAll r
def uptoBulkEntries {H : Type} : List (Lit × DataW H) → Nat
  | [] => 0
  | x :: r => uptoBulkEntry x + uptoBulkEntries r
def uptoBulkEntry {H : Type} : Lit × DataW H → Nat
  | (.string bytes, d) => bytes.length + uptoBulk d + 1
  | (_, d) => uptoBulk d + 1
 end
def uptoSmall : (H : Type) → List (DataW H) → Bool := fun _ ds => decide (uptoBulkAll ds ≤ 1048576)
def OpenSpec.upto (s : _root_.Go.ChangeSpec) : _root_.Go.OpenSpec := { _root_.Go.OpenSpec.ofChange s with cond := some uptoSmall }

/-- 'ddilaw14.XferSplits', WHERE WHAT IT READS IS OF BULK AT MOST 1048576: true; the input reads as it did. -/
def xferSplitsUptoRow : OpenClaim := { program := "ytfnjjmdgjdpieaa", sum := "bc9e65b1c3f9dd8b48039c4654bc97d2328a0a37b3cc4bc1058b921c9fdf3764", func := "ddi/ddilaw14.XferSplits", spec := "xferSplits", unfollowed := true, recurses := true, apart := false, narrowed := true }
def XferSplitsUptoSaid : Prop := xferSplitsUptoRow.holds Try.pinned (OpenSpec.upto xferSplitsSpec)

/-- 'ddilaw14.XferParts', WHERE WHAT IT READS IS OF BULK AT MOST 1048576: true; the input reads as it did. -/
def xferPartsUptoRow : OpenClaim := { program := "ytfnjjmdgjdpieaa", sum := "bc9e65b1c3f9dd8b48039c4654bc97d2328a0a37b3cc4bc1058b921c9fdf3764", func := "ddi/ddilaw14.XferParts", spec := "xferParts", unfollowed := true, recurses := true, apart := false, narrowed := true }
def XferPartsUptoSaid : Prop := xferPartsUptoRow.holds Try.pinned (OpenSpec.upto xferPartsSpec)

/-- 'ddilaw14.XferSinces', WHERE WHAT IT READS IS OF BULK AT MOST 1048576: true; the input reads as it did. -/
def xferSincesUptoRow : OpenClaim := { program := "ytfnjjmdgjdpieaa", sum := "bc9e65b1c3f9dd8b48039c4654bc97d2328a0a37b3cc4bc1058b921c9fdf3764", func := "ddi/ddilaw14.XferSinces", spec := "xferSinces", unfollowed := true, recurses := true, apart := false, narrowed := true }
def XferSincesUptoSaid : Prop := xferSincesUptoRow.holds Try.pinned (OpenSpec.upto xferSincesSpec)

end Rows
end Go.Proofs.Ytfnjjmdgjdpieaa
