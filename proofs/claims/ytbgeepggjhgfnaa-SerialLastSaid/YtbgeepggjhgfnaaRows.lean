/-
  No cell of these rows narrows 'for every input' (looked for: loops, veiled, ifaces, maps, wideKeys, modest, calm, conditions, laid).
  DERIVED. THE GIVEN ROWS OF THIS SEAT. 6 by the template 'for every input the law returns true; each argument reads behind the call as it read before'; 0 by the template 'total and deterministic' (their statements: YtbgeepggjhgfnaaTotals.lean).
  GIVEN WITH THE SEED: the statements are not yours to turn. If you find one false, say at which input.
  Laid BY PROGRAM, IN A SANDBOX (cutbox-rows.mjs): the forced cells as the released guide's own fill.sh prints them over the translation 05409cdf369d69f6… (all of the seat's roots in one cut). By AI agents, Wed Nov 11 2026. No macro, syntax, notation, axiom, sorry.
-/
import Derived.Test.YtbgeepggjhgfnaaChecked
import GoSem.Claim
import GoSem.ClaimJoined
import GoSem.ClaimMapViews
import Derived.JoinedTies
import Derived.KernelRfl
namespace Go.Proofs.Ytbgeepggjhgfnaa
/- THE CELL 'sum', in the pinned program and in every row, IS THE sha256 OF THE DUMP (.gsa) THAT YtbgeepggjhgfnaaProg.lean LOADS. Nothing in Lean hashes anything: it is a label: what it is worth is what the hold of that sum in a sandbox is worth. -/
noncomputable def Try.pinned : Pinned := { name := "ytbgeepggjhgfnaa", sum := "05409cdf369d69f6641143391909514c5a6a038a0cdecfb71b14e5c7858b25f4", checked := Try.checked }
namespace Rows
def none {H : Type} : Left H := { results := [], args := [] }

/-- 'ddilaw04.SerialAdds': WHATEVER THE INPUT: true; the input reads as it did. -/
def serialAddsSpec : ChangeSpec := { name := "serialAdds", fn := fun _ => fun
  | [d1, d2] => { results := [.lit (.bool true)], args := [d1, d2] }
  | _ => none }
def serialAddsRow : OpenClaim := { program := "ytbgeepggjhgfnaa", sum := "05409cdf369d69f6641143391909514c5a6a038a0cdecfb71b14e5c7858b25f4", func := "ddi/ddilaw04.SerialAdds", spec := "serialAdds", apart := false }
def SerialAddsSaid : Prop := serialAddsRow.holds Try.pinned (OpenSpec.ofChange serialAddsSpec)

/-- ITS FALSE NEIGHBOUR: 'it returns false'. Refute it at one input. -/
def serialAddsWrong : ChangeSpec := { name := "serialAdds", fn := fun _ => fun
  | [d1, d2] => { results := [.lit (.bool false)], args := [d1, d2] }
  | _ => none }
def SerialAddsWrongFalsely : Prop := serialAddsRow.holds Try.pinned (OpenSpec.ofChange serialAddsWrong)

/-- 'ddilaw04.SerialCompares': WHATEVER THE INPUT: true; the input reads as it did. -/
def serialComparesSpec : ChangeSpec := { name := "serialCompares", fn := fun _ => fun
  | [d1, d2] => { results := [.lit (.bool true)], args := [d1, d2] }
  | _ => none }
def serialComparesRow : OpenClaim := { program := "ytbgeepggjhgfnaa", sum := "05409cdf369d69f6641143391909514c5a6a038a0cdecfb71b14e5c7858b25f4", func := "ddi/ddilaw04.SerialCompares", spec := "serialCompares", apart := false }
def SerialComparesSaid : Prop := serialComparesRow.holds Try.pinned (OpenSpec.ofChange serialComparesSpec)

/-- ITS FALSE NEIGHBOUR: 'it returns false'. Refute it at one input. -/
def serialComparesWrong : ChangeSpec := { name := "serialCompares", fn := fun _ => fun
  | [d1, d2] => { results := [.lit (.bool false)], args := [d1, d2] }
  | _ => none }
def SerialComparesWrongFalsely : Prop := serialComparesRow.holds Try.pinned (OpenSpec.ofChange serialComparesWrong)

/-- 'ddilaw04.SerialMaxima': WHATEVER THE INPUT: true; the input reads as it did. -/
def serialMaximaSpec : ChangeSpec := { name := "serialMaxima", fn := fun _ => fun
  | [d] => { results := [.lit (.bool true)], args := [d] }
  | _ => none }
def serialMaximaRow : OpenClaim := { program := "ytbgeepggjhgfnaa", sum := "05409cdf369d69f6641143391909514c5a6a038a0cdecfb71b14e5c7858b25f4", func := "ddi/ddilaw04.SerialMaxima", spec := "serialMaxima", apart := false }
def SerialMaximaSaid : Prop := serialMaximaRow.holds Try.pinned (OpenSpec.ofChange serialMaximaSpec)

/-- ITS FALSE NEIGHBOUR: 'it returns false'. Refute it at one input. -/
def serialMaximaWrong : ChangeSpec := { name := "serialMaxima", fn := fun _ => fun
  | [d] => { results := [.lit (.bool false)], args := [d] }
  | _ => none }
def SerialMaximaWrongFalsely : Prop := serialMaximaRow.holds Try.pinned (OpenSpec.ofChange serialMaximaWrong)

/-- 'ddilaw04.SerialSteps': WHATEVER THE INPUT: true; the input reads as it did. -/
def serialStepsSpec : ChangeSpec := { name := "serialSteps", fn := fun _ => fun
  | [d1, d2, d3] => { results := [.lit (.bool true)], args := [d1, d2, d3] }
  | _ => none }
def serialStepsRow : OpenClaim := { program := "ytbgeepggjhgfnaa", sum := "05409cdf369d69f6641143391909514c5a6a038a0cdecfb71b14e5c7858b25f4", func := "ddi/ddilaw04.SerialSteps", spec := "serialSteps", apart := false }
def SerialStepsSaid : Prop := serialStepsRow.holds Try.pinned (OpenSpec.ofChange serialStepsSpec)

/-- ITS FALSE NEIGHBOUR: 'it returns false'. Refute it at one input. -/
def serialStepsWrong : ChangeSpec := { name := "serialSteps", fn := fun _ => fun
  | [d1, d2, d3] => { results := [.lit (.bool false)], args := [d1, d2, d3] }
  | _ => none }
def SerialStepsWrongFalsely : Prop := serialStepsRow.holds Try.pinned (OpenSpec.ofChange serialStepsWrong)

/-- 'ddilaw04.SerialTurns': WHATEVER THE INPUT: true; the input reads as it did. -/
def serialTurnsSpec : ChangeSpec := { name := "serialTurns", fn := fun _ => fun
  | [d1, d2, d3] => { results := [.lit (.bool true)], args := [d1, d2, d3] }
  | _ => none }
def serialTurnsRow : OpenClaim := { program := "ytbgeepggjhgfnaa", sum := "05409cdf369d69f6641143391909514c5a6a038a0cdecfb71b14e5c7858b25f4", func := "ddi/ddilaw04.SerialTurns", spec := "serialTurns", apart := false }
def SerialTurnsSaid : Prop := serialTurnsRow.holds Try.pinned (OpenSpec.ofChange serialTurnsSpec)

/-- ITS FALSE NEIGHBOUR: 'it returns false'. Refute it at one input. -/
def serialTurnsWrong : ChangeSpec := { name := "serialTurns", fn := fun _ => fun
  | [d1, d2, d3] => { results := [.lit (.bool false)], args := [d1, d2, d3] }
  | _ => none }
def SerialTurnsWrongFalsely : Prop := serialTurnsRow.holds Try.pinned (OpenSpec.ofChange serialTurnsWrong)

/-- 'ddilaw04.SerialLast': WHATEVER THE INPUT: true; the input reads as it did. -/
def serialLastSpec : ChangeSpec := { name := "serialLast", fn := fun _ => fun
  | [d1, d2] => { results := [.lit (.bool true)], args := [d1, d2] }
  | _ => none }
def serialLastRow : OpenClaim := { program := "ytbgeepggjhgfnaa", sum := "05409cdf369d69f6641143391909514c5a6a038a0cdecfb71b14e5c7858b25f4", func := "ddi/ddilaw04.SerialLast", spec := "serialLast", apart := false }
def SerialLastSaid : Prop := serialLastRow.holds Try.pinned (OpenSpec.ofChange serialLastSpec)

/-- ITS FALSE NEIGHBOUR: 'it returns false'. Refute it at one input. -/
def serialLastWrong : ChangeSpec := { name := "serialLast", fn := fun _ => fun
  | [d1, d2] => { results := [.lit (.bool false)], args := [d1, d2] }
  | _ => none }
def SerialLastWrongFalsely : Prop := serialLastRow.holds Try.pinned (OpenSpec.ofChange serialLastWrong)

/- THE SECOND FORM. 'bulk': how many values and letters a reading holds, each counted each time it is reached (what is shared counts as often as it is met; a slice's spare places count too). A statement '..UptoSaid' is the law's where the arguments, and the package variables that the reading takes, are together of bulk at most 1048576: NARROWER than '..Said'. Prove '..Said' where nothing that the law and all that it calls make is longer than what came in: it says more and counts as full. Else prove '..UptoSaid'. A law counts once. -/
mutual
def uptoBulk {H : Type} : DataW H → Nat
  | .lit (.string bytes) => bytes.length + 1
  | .lit _ => 1
  | .nil => 1
  | .ptr d => uptoBulk d + 1
  | .slice elems spare => uptoBulkAll elems + uptoBulkAll spare + 1
  | .agg parts => uptoBulkAll parts + 1
  | .iface _ d => uptoBulk d + 1
  | .map entries => uptoBulkEntries entries + 1
  | .held _ => 1
def uptoBulkAll {H : Type} : List (DataW H) → Nat
  | [] => 0
  | d :: r => uptoBulk d + uptoBulkAll r
def uptoBulkEntries {H : Type} : List (Lit × DataW H) → Nat
  | [] => 0
  | x :: r => uptoBulkEntry x + uptoBulkEntries r
def uptoBulkEntry {H : Type} : Lit × DataW H → Nat
  | (.string bytes, d) => bytes.length + uptoBulk d + 1
  | (_, d) => uptoBulk d + 1
 end
def uptoSmall : (H : Type) → List (DataW H) → Bool := fun _ ds => decide (uptoBulkAll ds ≤ 1048576)
def OpenSpec.upto (s : _root_.Go.ChangeSpec) : _root_.Go.OpenSpec := { _root_.Go.OpenSpec.ofChange s with cond := some uptoSmall }

/-- 'ddilaw04.SerialAdds', WHERE WHAT IT READS IS OF BULK AT MOST 1048576: true; the input reads as it did. -/
def serialAddsUptoRow : OpenClaim := { program := "ytbgeepggjhgfnaa", sum := "05409cdf369d69f6641143391909514c5a6a038a0cdecfb71b14e5c7858b25f4", func := "ddi/ddilaw04.SerialAdds", spec := "serialAdds", apart := false, narrowed := true }
def SerialAddsUptoSaid : Prop := serialAddsUptoRow.holds Try.pinned (OpenSpec.upto serialAddsSpec)

/-- 'ddilaw04.SerialCompares', WHERE WHAT IT READS IS OF BULK AT MOST 1048576: true; the input reads as it did. -/
def serialComparesUptoRow : OpenClaim := { program := "ytbgeepggjhgfnaa", sum := "05409cdf369d69f6641143391909514c5a6a038a0cdecfb71b14e5c7858b25f4", func := "ddi/ddilaw04.SerialCompares", spec := "serialCompares", apart := false, narrowed := true }
def SerialComparesUptoSaid : Prop := serialComparesUptoRow.holds Try.pinned (OpenSpec.upto serialComparesSpec)

/-- 'ddilaw04.SerialMaxima', WHERE WHAT IT READS IS OF BULK AT MOST 1048576: true; the input reads as it did. -/
def serialMaximaUptoRow : OpenClaim := { program := "ytbgeepggjhgfnaa", sum := "05409cdf369d69f6641143391909514c5a6a038a0cdecfb71b14e5c7858b25f4", func := "ddi/ddilaw04.SerialMaxima", spec := "serialMaxima", apart := false, narrowed := true }
def SerialMaximaUptoSaid : Prop := serialMaximaUptoRow.holds Try.pinned (OpenSpec.upto serialMaximaSpec)

/-- 'ddilaw04.SerialSteps', WHERE WHAT IT READS IS OF BULK AT MOST 1048576: true; the input reads as it did. -/
def serialStepsUptoRow : OpenClaim := { program := "ytbgeepggjhgfnaa", sum := "05409cdf369d69f6641143391909514c5a6a038a0cdecfb71b14e5c7858b25f4", func := "ddi/ddilaw04.SerialSteps", spec := "serialSteps", apart := false, narrowed := true }
def SerialStepsUptoSaid : Prop := serialStepsUptoRow.holds Try.pinned (OpenSpec.upto serialStepsSpec)

/-- 'ddilaw04.SerialTurns', WHERE WHAT IT READS IS OF BULK AT MOST 1048576: true; the input reads as it did. -/
def serialTurnsUptoRow : OpenClaim := { program := "ytbgeepggjhgfnaa", sum := "05409cdf369d69f6641143391909514c5a6a038a0cdecfb71b14e5c7858b25f4", func := "ddi/ddilaw04.SerialTurns", spec := "serialTurns", apart := false, narrowed := true }
def SerialTurnsUptoSaid : Prop := serialTurnsUptoRow.holds Try.pinned (OpenSpec.upto serialTurnsSpec)

/-- 'ddilaw04.SerialLast', WHERE WHAT IT READS IS OF BULK AT MOST 1048576: true; the input reads as it did. -/
def serialLastUptoRow : OpenClaim := { program := "ytbgeepggjhgfnaa", sum := "05409cdf369d69f6641143391909514c5a6a038a0cdecfb71b14e5c7858b25f4", func := "ddi/ddilaw04.SerialLast", spec := "serialLast", apart := false, narrowed := true }
def SerialLastUptoSaid : Prop := serialLastUptoRow.holds Try.pinned (OpenSpec.upto serialLastSpec)

end Rows
end Go.Proofs.Ytbgeepggjhgfnaa
