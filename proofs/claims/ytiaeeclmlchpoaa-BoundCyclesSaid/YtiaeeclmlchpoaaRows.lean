/-
  No cell of these rows narrows 'for every input' (looked for: loops, veiled, ifaces, maps, wideKeys, modest, calm, conditions, laid).
  DERIVED. THE GIVEN ROWS OF THIS SEAT. 7 by the template 'for every input the law returns true; each argument reads behind the call as it read before'; 0 by the template 'total and deterministic' (their statements: YtiaeeclmlchpoaaTotals.lean).
  GIVEN WITH THE SEED: the statements are not yours to turn. If you find one false, say at which input.
  Laid BY PROGRAM, IN A SANDBOX (cutbox-rows.mjs): the forced cells as the released guide's own fill.sh prints them over the translation 97a1275163ff97d6… (all of the seat's roots in one cut). By AI agents, Wed Nov 11 2026. No macro, syntax, notation, axiom, sorry.
-/
import Derived.Test.YtiaeeclmlchpoaaChecked
import GoSem.Claim
import GoSem.ClaimJoined
import GoSem.ClaimMapViews
import Derived.JoinedTies
import Derived.KernelRfl
namespace Go.Proofs.Ytiaeeclmlchpoaa
/- THE CELL 'sum', in the pinned program and in every row, IS THE sha256 OF THE DUMP (.gsa) THAT YtiaeeclmlchpoaaProg.lean LOADS. Nothing in Lean hashes anything: it is a label: what it is worth is what the hold of that sum in a sandbox is worth. -/
noncomputable def Try.pinned : Pinned := { name := "ytiaeeclmlchpoaa", sum := "97a1275163ff97d6746c9feb91bc2351e426971d816dbfe30b32db3d187cc71f", checked := Try.checked }
namespace Rows
def none {H : Type} : Left H := { results := [], args := [] }

/-- 'katabasislaw08.BoundFits': WHATEVER THE INPUT: true; the input reads as it did. -/
def boundFitsSpec : ChangeSpec := { name := "boundFits", fn := fun _ => fun
  | [d1, d2, d3, d4, d5] => { results := [.lit (.bool true)], args := [d1, d2, d3, d4, d5] }
  | _ => none }
def boundFitsRow : OpenClaim := { program := "ytiaeeclmlchpoaa", sum := "97a1275163ff97d6746c9feb91bc2351e426971d816dbfe30b32db3d187cc71f", func := "katabasis/katabasislaw08.BoundFits", spec := "boundFits", inPlace := ["math/bits.Add64", "math/bits.Sub64"], unfollowed := true, recurses := true, named := ["math/bits.divideError", "math/bits.overflowError"], apart := false }
def BoundFitsSaid : Prop := boundFitsRow.holds Try.pinned (OpenSpec.ofChange boundFitsSpec)

/-- ITS FALSE NEIGHBOUR: 'it returns false'. Refute it at one input. -/
def boundFitsWrong : ChangeSpec := { name := "boundFits", fn := fun _ => fun
  | [d1, d2, d3, d4, d5] => { results := [.lit (.bool false)], args := [d1, d2, d3, d4, d5] }
  | _ => none }
def BoundFitsWrongFalsely : Prop := boundFitsRow.holds Try.pinned (OpenSpec.ofChange boundFitsWrong)

/-- 'katabasislaw08.BoundLeast': WHATEVER THE INPUT: true; the input reads as it did. -/
def boundLeastSpec : ChangeSpec := { name := "boundLeast", fn := fun _ => fun
  | [d1, d2, d3, d4] => { results := [.lit (.bool true)], args := [d1, d2, d3, d4] }
  | _ => none }
def boundLeastRow : OpenClaim := { program := "ytiaeeclmlchpoaa", sum := "97a1275163ff97d6746c9feb91bc2351e426971d816dbfe30b32db3d187cc71f", func := "katabasis/katabasislaw08.BoundLeast", spec := "boundLeast", inPlace := ["math/bits.Add64", "math/bits.Sub64"], unfollowed := true, recurses := true, named := ["math/bits.divideError", "math/bits.overflowError"], apart := false }
def BoundLeastSaid : Prop := boundLeastRow.holds Try.pinned (OpenSpec.ofChange boundLeastSpec)

/-- ITS FALSE NEIGHBOUR: 'it returns false'. Refute it at one input. -/
def boundLeastWrong : ChangeSpec := { name := "boundLeast", fn := fun _ => fun
  | [d1, d2, d3, d4] => { results := [.lit (.bool false)], args := [d1, d2, d3, d4] }
  | _ => none }
def BoundLeastWrongFalsely : Prop := boundLeastRow.holds Try.pinned (OpenSpec.ofChange boundLeastWrong)

/-- 'katabasislaw08.BoundBelow': WHATEVER THE INPUT: true; the input reads as it did. -/
def boundBelowSpec : ChangeSpec := { name := "boundBelow", fn := fun _ => fun
  | [d1, d2, d3] => { results := [.lit (.bool true)], args := [d1, d2, d3] }
  | _ => none }
def boundBelowRow : OpenClaim := { program := "ytiaeeclmlchpoaa", sum := "97a1275163ff97d6746c9feb91bc2351e426971d816dbfe30b32db3d187cc71f", func := "katabasis/katabasislaw08.BoundBelow", spec := "boundBelow", inPlace := ["math/bits.Add64", "math/bits.Sub64"], unfollowed := true, recurses := true, named := ["math/bits.divideError", "math/bits.overflowError"], apart := false }
def BoundBelowSaid : Prop := boundBelowRow.holds Try.pinned (OpenSpec.ofChange boundBelowSpec)

/-- ITS FALSE NEIGHBOUR: 'it returns false'. Refute it at one input. -/
def boundBelowWrong : ChangeSpec := { name := "boundBelow", fn := fun _ => fun
  | [d1, d2, d3] => { results := [.lit (.bool false)], args := [d1, d2, d3] }
  | _ => none }
def BoundBelowWrongFalsely : Prop := boundBelowRow.holds Try.pinned (OpenSpec.ofChange boundBelowWrong)

/-- 'katabasislaw08.BoundSmaller': WHATEVER THE INPUT: true; the input reads as it did. -/
def boundSmallerSpec : ChangeSpec := { name := "boundSmaller", fn := fun _ => fun
  | [d1, d2, d3, d4, d5, d6] => { results := [.lit (.bool true)], args := [d1, d2, d3, d4, d5, d6] }
  | _ => none }
def boundSmallerRow : OpenClaim := { program := "ytiaeeclmlchpoaa", sum := "97a1275163ff97d6746c9feb91bc2351e426971d816dbfe30b32db3d187cc71f", func := "katabasis/katabasislaw08.BoundSmaller", spec := "boundSmaller", inPlace := ["math/bits.Add64", "math/bits.Sub64"], unfollowed := true, recurses := true, named := ["math/bits.divideError", "math/bits.overflowError"], apart := false }
def BoundSmallerSaid : Prop := boundSmallerRow.holds Try.pinned (OpenSpec.ofChange boundSmallerSpec)

/-- ITS FALSE NEIGHBOUR: 'it returns false'. Refute it at one input. -/
def boundSmallerWrong : ChangeSpec := { name := "boundSmaller", fn := fun _ => fun
  | [d1, d2, d3, d4, d5, d6] => { results := [.lit (.bool false)], args := [d1, d2, d3, d4, d5, d6] }
  | _ => none }
def BoundSmallerWrongFalsely : Prop := boundSmallerRow.holds Try.pinned (OpenSpec.ofChange boundSmallerWrong)

/-- 'katabasislaw08.BoundBelows': WHATEVER THE INPUT: true; the input reads as it did. -/
def boundBelowsSpec : ChangeSpec := { name := "boundBelows", fn := fun _ => fun
  | [d1, d2, d3] => { results := [.lit (.bool true)], args := [d1, d2, d3] }
  | _ => none }
def boundBelowsRow : OpenClaim := { program := "ytiaeeclmlchpoaa", sum := "97a1275163ff97d6746c9feb91bc2351e426971d816dbfe30b32db3d187cc71f", func := "katabasis/katabasislaw08.BoundBelows", spec := "boundBelows", inPlace := ["math/bits.Add64", "math/bits.Sub64"], unfollowed := true, recurses := true, named := ["math/bits.divideError", "math/bits.overflowError"], apart := false }
def BoundBelowsSaid : Prop := boundBelowsRow.holds Try.pinned (OpenSpec.ofChange boundBelowsSpec)

/-- ITS FALSE NEIGHBOUR: 'it returns false'. Refute it at one input. -/
def boundBelowsWrong : ChangeSpec := { name := "boundBelows", fn := fun _ => fun
  | [d1, d2, d3] => { results := [.lit (.bool false)], args := [d1, d2, d3] }
  | _ => none }
def BoundBelowsWrongFalsely : Prop := boundBelowsRow.holds Try.pinned (OpenSpec.ofChange boundBelowsWrong)

/-- 'katabasislaw08.BoundMultiples': WHATEVER THE INPUT: true; the input reads as it did. -/
def boundMultiplesSpec : ChangeSpec := { name := "boundMultiples", fn := fun _ => fun
  | [d1, d2, d3, d4, d5, d6] => { results := [.lit (.bool true)], args := [d1, d2, d3, d4, d5, d6] }
  | _ => none }
def boundMultiplesRow : OpenClaim := { program := "ytiaeeclmlchpoaa", sum := "97a1275163ff97d6746c9feb91bc2351e426971d816dbfe30b32db3d187cc71f", func := "katabasis/katabasislaw08.BoundMultiples", spec := "boundMultiples", inPlace := ["math/bits.Add64", "math/bits.Sub64"], unfollowed := true, recurses := true, named := ["math/bits.divideError", "math/bits.overflowError"], apart := false }
def BoundMultiplesSaid : Prop := boundMultiplesRow.holds Try.pinned (OpenSpec.ofChange boundMultiplesSpec)

/-- ITS FALSE NEIGHBOUR: 'it returns false'. Refute it at one input. -/
def boundMultiplesWrong : ChangeSpec := { name := "boundMultiples", fn := fun _ => fun
  | [d1, d2, d3, d4, d5, d6] => { results := [.lit (.bool false)], args := [d1, d2, d3, d4, d5, d6] }
  | _ => none }
def BoundMultiplesWrongFalsely : Prop := boundMultiplesRow.holds Try.pinned (OpenSpec.ofChange boundMultiplesWrong)

/-- 'katabasislaw08.BoundCycles': WHATEVER THE INPUT: true; the input reads as it did. -/
def boundCyclesSpec : ChangeSpec := { name := "boundCycles", fn := fun _ => fun
  | [d1, d2, d3, d4] => { results := [.lit (.bool true)], args := [d1, d2, d3, d4] }
  | _ => none }
def boundCyclesRow : OpenClaim := { program := "ytiaeeclmlchpoaa", sum := "97a1275163ff97d6746c9feb91bc2351e426971d816dbfe30b32db3d187cc71f", func := "katabasis/katabasislaw08.BoundCycles", spec := "boundCycles", inPlace := ["math/bits.Add64", "math/bits.Sub64"], unfollowed := true, recurses := true, named := ["math/bits.divideError", "math/bits.overflowError"], apart := false }
def BoundCyclesSaid : Prop := boundCyclesRow.holds Try.pinned (OpenSpec.ofChange boundCyclesSpec)

/-- ITS FALSE NEIGHBOUR: 'it returns false'. Refute it at one input. -/
def boundCyclesWrong : ChangeSpec := { name := "boundCycles", fn := fun _ => fun
  | [d1, d2, d3, d4] => { results := [.lit (.bool false)], args := [d1, d2, d3, d4] }
  | _ => none }
def BoundCyclesWrongFalsely : Prop := boundCyclesRow.holds Try.pinned (OpenSpec.ofChange boundCyclesWrong)

/- THE SECOND FORM. 'bulk': how many values and letters a reading holds, each counted each time it is reached (what is shared counts as often as it is met; a slice's spare places count too). A statement '..UptoSaid' is the law's where the arguments, and the package variables that the reading takes, are together of bulk at most 1048576: NARROWER than '..Said'. Prove '..Said' where nothing that the law and all that it calls make is longer than what came in: it says more and counts as full. Else prove '..UptoSaid'. A law counts once. -/
mutual
def uptoBulk {H : Type} : DataW H → Nat
  | .lit (.string bytes) => bytes.length + 1
  | .lit _ => 1
  | .nil => 1
  | .ptr d => uptoBulk d + 1
  | .slice elems spare => uptoBulkAll elems + uptoBulkAll spare + 1
  | .agg parts => uptoBulkAll parts + 1
  | .iface _ d => uptoBulk d + 1
  | .map entries => uptoBulkEntries entries + 1
  | .held _ => 1
def uptoBulkAll {H : Type} : List (DataW H) → Nat
  | [] => 0
  | d :: r => uptoBulk d + uptoBulkAll r
def uptoBulkEntries {H : Type} : List (Lit × DataW H) → Nat
  | [] => 0
  | x :: r => uptoBulkEntry x + uptoBulkEntries r
def uptoBulkEntry {H : Type} : Lit × DataW H → Nat
  | (.string bytes, d) => bytes.length + uptoBulk d + 1
  | (_, d) => uptoBulk d + 1
 end
def uptoSmall : (H : Type) → List (DataW H) → Bool := fun _ ds => decide (uptoBulkAll ds ≤ 1048576)
def OpenSpec.upto (s : _root_.Go.ChangeSpec) : _root_.Go.OpenSpec := { _root_.Go.OpenSpec.ofChange s with cond := some uptoSmall }

/-- 'katabasislaw08.BoundFits', WHERE WHAT IT READS IS OF BULK AT MOST 1048576: true; the input reads as it did. -/
def boundFitsUptoRow : OpenClaim := { program := "ytiaeeclmlchpoaa", sum := "97a1275163ff97d6746c9feb91bc2351e426971d816dbfe30b32db3d187cc71f", func := "katabasis/katabasislaw08.BoundFits", spec := "boundFits", inPlace := ["math/bits.Add64", "math/bits.Sub64"], unfollowed := true, recurses := true, named := ["math/bits.divideError", "math/bits.overflowError"], apart := false, narrowed := true }
def BoundFitsUptoSaid : Prop := boundFitsUptoRow.holds Try.pinned (OpenSpec.upto boundFitsSpec)

/-- 'katabasislaw08.BoundLeast', WHERE WHAT IT READS IS OF BULK AT MOST 1048576: true; the input reads as it did. -/
def boundLeastUptoRow : OpenClaim := { program := "ytiaeeclmlchpoaa", sum := "97a1275163ff97d6746c9feb91bc2351e426971d816dbfe30b32db3d187cc71f", func := "katabasis/katabasislaw08.BoundLeast", spec := "boundLeast", inPlace := ["math/bits.Add64", "math/bits.Sub64"], unfollowed := true, recurses := true, named := ["math/bits.divideError", "math/bits.overflowError"], apart := false, narrowed := true }
def BoundLeastUptoSaid : Prop := boundLeastUptoRow.holds Try.pinned (OpenSpec.upto boundLeastSpec)

/-- 'katabasislaw08.BoundBelow', WHERE WHAT IT READS IS OF BULK AT MOST 1048576: true; the input reads as it did. -/
def boundBelowUptoRow : OpenClaim := { program := "ytiaeeclmlchpoaa", sum := "97a1275163ff97d6746c9feb91bc2351e426971d816dbfe30b32db3d187cc71f", func := "katabasis/katabasislaw08.BoundBelow", spec := "boundBelow", inPlace := ["math/bits.Add64", "math/bits.Sub64"], unfollowed := true, recurses := true, named := ["math/bits.divideError", "math/bits.overflowError"], apart := false, narrowed := true }
def BoundBelowUptoSaid : Prop := boundBelowUptoRow.holds Try.pinned (OpenSpec.upto boundBelowSpec)

/-- 'katabasislaw08.BoundSmaller', WHERE WHAT IT READS IS OF BULK AT MOST 1048576: true; the input reads as it did. -/
def boundSmallerUptoRow : OpenClaim := { program := "ytiaeeclmlchpoaa", sum := "97a1275163ff97d6746c9feb91bc2351e426971d816dbfe30b32db3d187cc71f", func := "katabasis/katabasislaw08.BoundSmaller", spec := "boundSmaller", inPlace := ["math/bits.Add64", "math/bits.Sub64"], unfollowed := true, recurses := true, named := ["math/bits.divideError", "math/bits.overflowError"], apart := false, narrowed := true }
def BoundSmallerUptoSaid : Prop := boundSmallerUptoRow.holds Try.pinned (OpenSpec.upto boundSmallerSpec)

/-- 'katabasislaw08.BoundBelows', WHERE WHAT IT READS IS OF BULK AT MOST 1048576: true; the input reads as it did. -/
def boundBelowsUptoRow : OpenClaim := { program := "ytiaeeclmlchpoaa", sum := "97a1275163ff97d6746c9feb91bc2351e426971d816dbfe30b32db3d187cc71f", func := "katabasis/katabasislaw08.BoundBelows", spec := "boundBelows", inPlace := ["math/bits.Add64", "math/bits.Sub64"], unfollowed := true, recurses := true, named := ["math/bits.divideError", "math/bits.overflowError"], apart := false, narrowed := true }
def BoundBelowsUptoSaid : Prop := boundBelowsUptoRow.holds Try.pinned (OpenSpec.upto boundBelowsSpec)

/-- 'katabasislaw08.BoundMultiples', WHERE WHAT IT READS IS OF BULK AT MOST 1048576: true; the input reads as it did. -/
def boundMultiplesUptoRow : OpenClaim := { program := "ytiaeeclmlchpoaa", sum := "97a1275163ff97d6746c9feb91bc2351e426971d816dbfe30b32db3d187cc71f", func := "katabasis/katabasislaw08.BoundMultiples", spec := "boundMultiples", inPlace := ["math/bits.Add64", "math/bits.Sub64"], unfollowed := true, recurses := true, named := ["math/bits.divideError", "math/bits.overflowError"], apart := false, narrowed := true }
def BoundMultiplesUptoSaid : Prop := boundMultiplesUptoRow.holds Try.pinned (OpenSpec.upto boundMultiplesSpec)

/-- 'katabasislaw08.BoundCycles', WHERE WHAT IT READS IS OF BULK AT MOST 1048576: true; the input reads as it did. -/
def boundCyclesUptoRow : OpenClaim := { program := "ytiaeeclmlchpoaa", sum := "97a1275163ff97d6746c9feb91bc2351e426971d816dbfe30b32db3d187cc71f", func := "katabasis/katabasislaw08.BoundCycles", spec := "boundCycles", inPlace := ["math/bits.Add64", "math/bits.Sub64"], unfollowed := true, recurses := true, named := ["math/bits.divideError", "math/bits.overflowError"], apart := false, narrowed := true }
def BoundCyclesUptoSaid : Prop := boundCyclesUptoRow.holds Try.pinned (OpenSpec.upto boundCyclesSpec)

end Rows
end Go.Proofs.Ytiaeeclmlchpoaa
