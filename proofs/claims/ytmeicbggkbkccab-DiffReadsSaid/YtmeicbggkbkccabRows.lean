/-
  No cell of these rows narrows 'for every input' (looked for: loops, veiled, ifaces, maps, wideKeys, modest, calm, conditions, laid).
  DERIVED. THE GIVEN ROWS OF THIS SEAT. 11 by the template 'for every input the law returns true; each argument reads behind the call as it read before'; 0 by the template 'total and deterministic' (their statements: YtmeicbggkbkccabTotals.lean).
  GIVEN WITH THE SEED: the statements are not yours to turn. If you find one false, say at which input.
  Laid BY PROGRAM, IN A SANDBOX (cutbox-rows.mjs): the forced cells as the released guide's own fill.sh prints them over the translation 6402d4778f827b92… (all of the seat's roots in one cut). By AI agents, Wed Nov 11 2026. No macro, syntax, notation, axiom, sorry.
-/
import Derived.Test.YtmeicbggkbkccabChecked
import GoSem.Claim
import GoSem.ClaimJoined
import GoSem.ClaimMapViews
import Derived.JoinedTies
import Derived.KernelRfl
namespace Go.Proofs.Ytmeicbggkbkccab
/- THE CELL 'sum', in the pinned program and in every row, IS THE sha256 OF THE DUMP (.gsa) THAT YtmeicbggkbkccabProg.lean LOADS. Nothing in Lean hashes anything: it is a label: what it is worth is what the hold of that sum in a sandbox is worth. -/
noncomputable def Try.pinned : Pinned := { name := "ytmeicbggkbkccab", sum := "6402d4778f827b92cc5b9a17e21f87be905e54e7a8ebd5a1ef906bfa5b6c3de4", checked := Try.checked }
namespace Rows
def none {H : Type} : Left H := { results := [], args := [] }

/-- 'carryoverlaw23.PatchApplies': WHATEVER THE INPUT: true; the input reads as it did. -/
def patchAppliesSpec : ChangeSpec := { name := "patchApplies", fn := fun _ => fun
  | [d1, d2] => { results := [.lit (.bool true)], args := [d1, d2] }
  | _ => none }
def patchAppliesRow : OpenClaim := { program := "ytmeicbggkbkccab", sum := "6402d4778f827b92cc5b9a17e21f87be905e54e7a8ebd5a1ef906bfa5b6c3de4", func := "carryover/carryoverlaw23.PatchApplies", spec := "patchApplies", inPlace := ["internal/abi.NoEscape"], apart := false }
def PatchAppliesSaid : Prop := patchAppliesRow.holds Try.pinned (OpenSpec.ofChange patchAppliesSpec)

/-- ITS FALSE NEIGHBOUR: 'it returns false'. Refute it at one input. -/
def patchAppliesWrong : ChangeSpec := { name := "patchApplies", fn := fun _ => fun
  | [d1, d2] => { results := [.lit (.bool false)], args := [d1, d2] }
  | _ => none }
def PatchAppliesWrongFalsely : Prop := patchAppliesRow.holds Try.pinned (OpenSpec.ofChange patchAppliesWrong)

/-- 'carryoverlaw01.OctetBack': WHATEVER THE INPUT: true; the input reads as it did. -/
def octetBackSpec : ChangeSpec := { name := "octetBack", fn := fun _ => fun
  | [d1, d2, d3, d4] => { results := [.lit (.bool true)], args := [d1, d2, d3, d4] }
  | _ => none }
def octetBackRow : OpenClaim := { program := "ytmeicbggkbkccab", sum := "6402d4778f827b92cc5b9a17e21f87be905e54e7a8ebd5a1ef906bfa5b6c3de4", func := "carryover/carryoverlaw01.OctetBack", spec := "octetBack", apart := false }
def OctetBackSaid : Prop := octetBackRow.holds Try.pinned (OpenSpec.ofChange octetBackSpec)

/-- ITS FALSE NEIGHBOUR: 'it returns false'. Refute it at one input. -/
def octetBackWrong : ChangeSpec := { name := "octetBack", fn := fun _ => fun
  | [d1, d2, d3, d4] => { results := [.lit (.bool false)], args := [d1, d2, d3, d4] }
  | _ => none }
def OctetBackWrongFalsely : Prop := octetBackRow.holds Try.pinned (OpenSpec.ofChange octetBackWrong)

/-- 'carryoverlaw23.PatchMakes': WHATEVER THE INPUT: true; the input reads as it did. -/
def patchMakesSpec : ChangeSpec := { name := "patchMakes", fn := fun _ => fun
  | [d1, d2] => { results := [.lit (.bool true)], args := [d1, d2] }
  | _ => none }
def patchMakesRow : OpenClaim := { program := "ytmeicbggkbkccab", sum := "6402d4778f827b92cc5b9a17e21f87be905e54e7a8ebd5a1ef906bfa5b6c3de4", func := "carryover/carryoverlaw23.PatchMakes", spec := "patchMakes", inPlace := ["internal/abi.NoEscape"], apart := false }
def PatchMakesSaid : Prop := patchMakesRow.holds Try.pinned (OpenSpec.ofChange patchMakesSpec)

/-- ITS FALSE NEIGHBOUR: 'it returns false'. Refute it at one input. -/
def patchMakesWrong : ChangeSpec := { name := "patchMakes", fn := fun _ => fun
  | [d1, d2] => { results := [.lit (.bool false)], args := [d1, d2] }
  | _ => none }
def PatchMakesWrongFalsely : Prop := patchMakesRow.holds Try.pinned (OpenSpec.ofChange patchMakesWrong)

/-- 'carryoverlaw23.PatchComposes': WHATEVER THE INPUT: true; the input reads as it did. -/
def patchComposesSpec : ChangeSpec := { name := "patchComposes", fn := fun _ => fun
  | [d1, d2, d3] => { results := [.lit (.bool true)], args := [d1, d2, d3] }
  | _ => none }
def patchComposesRow : OpenClaim := { program := "ytmeicbggkbkccab", sum := "6402d4778f827b92cc5b9a17e21f87be905e54e7a8ebd5a1ef906bfa5b6c3de4", func := "carryover/carryoverlaw23.PatchComposes", spec := "patchComposes", apart := false }
def PatchComposesSaid : Prop := patchComposesRow.holds Try.pinned (OpenSpec.ofChange patchComposesSpec)

/-- ITS FALSE NEIGHBOUR: 'it returns false'. Refute it at one input. -/
def patchComposesWrong : ChangeSpec := { name := "patchComposes", fn := fun _ => fun
  | [d1, d2, d3] => { results := [.lit (.bool false)], args := [d1, d2, d3] }
  | _ => none }
def PatchComposesWrongFalsely : Prop := patchComposesRow.holds Try.pinned (OpenSpec.ofChange patchComposesWrong)

/-- 'carryoverlaw23.PatchChain': WHATEVER THE INPUT: true; the input reads as it did. -/
def patchChainSpec : ChangeSpec := { name := "patchChain", fn := fun _ => fun
  | [d1, d2, d3] => { results := [.lit (.bool true)], args := [d1, d2, d3] }
  | _ => none }
def patchChainRow : OpenClaim := { program := "ytmeicbggkbkccab", sum := "6402d4778f827b92cc5b9a17e21f87be905e54e7a8ebd5a1ef906bfa5b6c3de4", func := "carryover/carryoverlaw23.PatchChain", spec := "patchChain", inPlace := ["internal/abi.NoEscape"], apart := false }
def PatchChainSaid : Prop := patchChainRow.holds Try.pinned (OpenSpec.ofChange patchChainSpec)

/-- ITS FALSE NEIGHBOUR: 'it returns false'. Refute it at one input. -/
def patchChainWrong : ChangeSpec := { name := "patchChain", fn := fun _ => fun
  | [d1, d2, d3] => { results := [.lit (.bool false)], args := [d1, d2, d3] }
  | _ => none }
def PatchChainWrongFalsely : Prop := patchChainRow.holds Try.pinned (OpenSpec.ofChange patchChainWrong)

/-- 'carryoverlaw24.DiffBursts': WHATEVER THE INPUT: true; the input reads as it did. -/
def diffBurstsSpec : ChangeSpec := { name := "diffBursts", fn := fun _ => fun
  | [d1, d2, d3, d4, d5] => { results := [.lit (.bool true)], args := [d1, d2, d3, d4, d5] }
  | _ => none }
def diffBurstsRow : OpenClaim := { program := "ytmeicbggkbkccab", sum := "6402d4778f827b92cc5b9a17e21f87be905e54e7a8ebd5a1ef906bfa5b6c3de4", func := "carryover/carryoverlaw24.DiffBursts", spec := "diffBursts", apart := false }
def DiffBurstsSaid : Prop := diffBurstsRow.holds Try.pinned (OpenSpec.ofChange diffBurstsSpec)

/-- ITS FALSE NEIGHBOUR: 'it returns false'. Refute it at one input. -/
def diffBurstsWrong : ChangeSpec := { name := "diffBursts", fn := fun _ => fun
  | [d1, d2, d3, d4, d5] => { results := [.lit (.bool false)], args := [d1, d2, d3, d4, d5] }
  | _ => none }
def DiffBurstsWrongFalsely : Prop := diffBurstsRow.holds Try.pinned (OpenSpec.ofChange diffBurstsWrong)

/-- 'carryoverlaw24.DiffReads': WHATEVER THE INPUT: true; the input reads as it did. -/
def diffReadsSpec : ChangeSpec := { name := "diffReads", fn := fun _ => fun
  | [d1, d2] => { results := [.lit (.bool true)], args := [d1, d2] }
  | _ => none }
def diffReadsRow : OpenClaim := { program := "ytmeicbggkbkccab", sum := "6402d4778f827b92cc5b9a17e21f87be905e54e7a8ebd5a1ef906bfa5b6c3de4", func := "carryover/carryoverlaw24.DiffReads", spec := "diffReads", apart := false }
def DiffReadsSaid : Prop := diffReadsRow.holds Try.pinned (OpenSpec.ofChange diffReadsSpec)

/-- ITS FALSE NEIGHBOUR: 'it returns false'. Refute it at one input. -/
def diffReadsWrong : ChangeSpec := { name := "diffReads", fn := fun _ => fun
  | [d1, d2] => { results := [.lit (.bool false)], args := [d1, d2] }
  | _ => none }
def DiffReadsWrongFalsely : Prop := diffReadsRow.holds Try.pinned (OpenSpec.ofChange diffReadsWrong)

/-- 'carryoverlaw24.DiffBase': WHATEVER THE INPUT: true; the input reads as it did. -/
def diffBaseSpec : ChangeSpec := { name := "diffBase", fn := fun _ => fun
  | [d1, d2, d3] => { results := [.lit (.bool true)], args := [d1, d2, d3] }
  | _ => none }
def diffBaseRow : OpenClaim := { program := "ytmeicbggkbkccab", sum := "6402d4778f827b92cc5b9a17e21f87be905e54e7a8ebd5a1ef906bfa5b6c3de4", func := "carryover/carryoverlaw24.DiffBase", spec := "diffBase", inPlace := ["internal/abi.NoEscape"], apart := false }
def DiffBaseSaid : Prop := diffBaseRow.holds Try.pinned (OpenSpec.ofChange diffBaseSpec)

/-- ITS FALSE NEIGHBOUR: 'it returns false'. Refute it at one input. -/
def diffBaseWrong : ChangeSpec := { name := "diffBase", fn := fun _ => fun
  | [d1, d2, d3] => { results := [.lit (.bool false)], args := [d1, d2, d3] }
  | _ => none }
def DiffBaseWrongFalsely : Prop := diffBaseRow.holds Try.pinned (OpenSpec.ofChange diffBaseWrong)

/-- 'carryoverlaw24.DiffMakes': WHATEVER THE INPUT: true; the input reads as it did. -/
def diffMakesSpec : ChangeSpec := { name := "diffMakes", fn := fun _ => fun
  | [d1, d2] => { results := [.lit (.bool true)], args := [d1, d2] }
  | _ => none }
def diffMakesRow : OpenClaim := { program := "ytmeicbggkbkccab", sum := "6402d4778f827b92cc5b9a17e21f87be905e54e7a8ebd5a1ef906bfa5b6c3de4", func := "carryover/carryoverlaw24.DiffMakes", spec := "diffMakes", inPlace := ["internal/abi.NoEscape"], apart := false }
def DiffMakesSaid : Prop := diffMakesRow.holds Try.pinned (OpenSpec.ofChange diffMakesSpec)

/-- ITS FALSE NEIGHBOUR: 'it returns false'. Refute it at one input. -/
def diffMakesWrong : ChangeSpec := { name := "diffMakes", fn := fun _ => fun
  | [d1, d2] => { results := [.lit (.bool false)], args := [d1, d2] }
  | _ => none }
def DiffMakesWrongFalsely : Prop := diffMakesRow.holds Try.pinned (OpenSpec.ofChange diffMakesWrong)

/-- 'carryoverlaw24.DiffChecks': WHATEVER THE INPUT: true; the input reads as it did. -/
def diffChecksSpec : ChangeSpec := { name := "diffChecks", fn := fun _ => fun
  | [d1, d2, d3, d4, d5] => { results := [.lit (.bool true)], args := [d1, d2, d3, d4, d5] }
  | _ => none }
def diffChecksRow : OpenClaim := { program := "ytmeicbggkbkccab", sum := "6402d4778f827b92cc5b9a17e21f87be905e54e7a8ebd5a1ef906bfa5b6c3de4", func := "carryover/carryoverlaw24.DiffChecks", spec := "diffChecks", inPlace := ["internal/abi.NoEscape"], apart := false }
def DiffChecksSaid : Prop := diffChecksRow.holds Try.pinned (OpenSpec.ofChange diffChecksSpec)

/-- ITS FALSE NEIGHBOUR: 'it returns false'. Refute it at one input. -/
def diffChecksWrong : ChangeSpec := { name := "diffChecks", fn := fun _ => fun
  | [d1, d2, d3, d4, d5] => { results := [.lit (.bool false)], args := [d1, d2, d3, d4, d5] }
  | _ => none }
def DiffChecksWrongFalsely : Prop := diffChecksRow.holds Try.pinned (OpenSpec.ofChange diffChecksWrong)

/-- 'carryoverlaw24.DiffChain': WHATEVER THE INPUT: true; the input reads as it did. -/
def diffChainSpec : ChangeSpec := { name := "diffChain", fn := fun _ => fun
  | [d1, d2, d3, d4] => { results := [.lit (.bool true)], args := [d1, d2, d3, d4] }
  | _ => none }
def diffChainRow : OpenClaim := { program := "ytmeicbggkbkccab", sum := "6402d4778f827b92cc5b9a17e21f87be905e54e7a8ebd5a1ef906bfa5b6c3de4", func := "carryover/carryoverlaw24.DiffChain", spec := "diffChain", inPlace := ["internal/abi.NoEscape"], apart := false }
def DiffChainSaid : Prop := diffChainRow.holds Try.pinned (OpenSpec.ofChange diffChainSpec)

/-- ITS FALSE NEIGHBOUR: 'it returns false'. Refute it at one input. -/
def diffChainWrong : ChangeSpec := { name := "diffChain", fn := fun _ => fun
  | [d1, d2, d3, d4] => { results := [.lit (.bool false)], args := [d1, d2, d3, d4] }
  | _ => none }
def DiffChainWrongFalsely : Prop := diffChainRow.holds Try.pinned (OpenSpec.ofChange diffChainWrong)

/- THE SECOND FORM. 'bulk': how many values and letters a reading holds, each counted each time it is reached (what is shared counts as often as it is met; a slice's spare places count too). A statement '..UptoSaid' is the law's where the arguments, and the package variables that the reading takes, are together of bulk at most 1048576: NARROWER than '..Said'. Prove '..Said' where nothing that the law and all that it calls make is longer than what came in: it says more and counts as full. Else prove '..UptoSaid'. A law counts once. -/
mutual
def uptoBulk {H : Type} : DataW H → Nat
  | .lit (.string bytes) => bytes.length + 1
  | .lit _ => 1
  | .nil => 1
  | .ptr d => uptoBulk d + 1
  | .slice elems spare => uptoBulkAll elems + uptoBulkAll spare + 1
  | .agg parts => uptoBulkAll parts + 1
  | .iface _ d => uptoBulk d + 1
  | .map entries => uptoBulkEntries entries + 1
  | .held _ => 1
def uptoBulkAll {H : Type} : List (DataW H) → Nat
  | [] => 0
  | d :: r => uptoBulk d + uptoBulkAll r
def uptoBulkEntries {H : Type} : List (Lit × DataW H) → Nat
  | [] => 0
  | x :: r => uptoBulkEntry x + uptoBulkEntries r
def uptoBulkEntry {H : Type} : Lit × DataW H → Nat
  | (.string bytes, d) => bytes.length + uptoBulk d + 1
  | (_, d) => uptoBulk d + 1
 end
def uptoSmall : (H : Type) → List (DataW H) → Bool := fun _ ds => decide (uptoBulkAll ds ≤ 1048576)
def OpenSpec.upto (s : _root_.Go.ChangeSpec) : _root_.Go.OpenSpec := { _root_.Go.OpenSpec.ofChange s with cond := some uptoSmall }

/-- 'carryoverlaw23.PatchApplies', WHERE WHAT IT READS IS OF BULK AT MOST 1048576: true; the input reads as it did. -/
def patchAppliesUptoRow : OpenClaim := { program := "ytmeicbggkbkccab", sum := "6402d4778f827b92cc5b9a17e21f87be905e54e7a8ebd5a1ef906bfa5b6c3de4", func := "carryover/carryoverlaw23.PatchApplies", spec := "patchApplies", inPlace := ["internal/abi.NoEscape"], apart := false, narrowed := true }
def PatchAppliesUptoSaid : Prop := patchAppliesUptoRow.holds Try.pinned (OpenSpec.upto patchAppliesSpec)

/-- 'carryoverlaw01.OctetBack', WHERE WHAT IT READS IS OF BULK AT MOST 1048576: true; the input reads as it did. -/
def octetBackUptoRow : OpenClaim := { program := "ytmeicbggkbkccab", sum := "6402d4778f827b92cc5b9a17e21f87be905e54e7a8ebd5a1ef906bfa5b6c3de4", func := "carryover/carryoverlaw01.OctetBack", spec := "octetBack", apart := false, narrowed := true }
def OctetBackUptoSaid : Prop := octetBackUptoRow.holds Try.pinned (OpenSpec.upto octetBackSpec)

/-- 'carryoverlaw23.PatchMakes', WHERE WHAT IT READS IS OF BULK AT MOST 1048576: true; the input reads as it did. -/
def patchMakesUptoRow : OpenClaim := { program := "ytmeicbggkbkccab", sum := "6402d4778f827b92cc5b9a17e21f87be905e54e7a8ebd5a1ef906bfa5b6c3de4", func := "carryover/carryoverlaw23.PatchMakes", spec := "patchMakes", inPlace := ["internal/abi.NoEscape"], apart := false, narrowed := true }
def PatchMakesUptoSaid : Prop := patchMakesUptoRow.holds Try.pinned (OpenSpec.upto patchMakesSpec)

/-- 'carryoverlaw23.PatchComposes', WHERE WHAT IT READS IS OF BULK AT MOST 1048576: true; the input reads as it did. -/
def patchComposesUptoRow : OpenClaim := { program := "ytmeicbggkbkccab", sum := "6402d4778f827b92cc5b9a17e21f87be905e54e7a8ebd5a1ef906bfa5b6c3de4", func := "carryover/carryoverlaw23.PatchComposes", spec := "patchComposes", apart := false, narrowed := true }
def PatchComposesUptoSaid : Prop := patchComposesUptoRow.holds Try.pinned (OpenSpec.upto patchComposesSpec)

/-- 'carryoverlaw23.PatchChain', WHERE WHAT IT READS IS OF BULK AT MOST 1048576: true; the input reads as it did. -/
def patchChainUptoRow : OpenClaim := { program := "ytmeicbggkbkccab", sum := "6402d4778f827b92cc5b9a17e21f87be905e54e7a8ebd5a1ef906bfa5b6c3de4", func := "carryover/carryoverlaw23.PatchChain", spec := "patchChain", inPlace := ["internal/abi.NoEscape"], apart := false, narrowed := true }
def PatchChainUptoSaid : Prop := patchChainUptoRow.holds Try.pinned (OpenSpec.upto patchChainSpec)

/-- 'carryoverlaw24.DiffBursts', WHERE WHAT IT READS IS OF BULK AT MOST 1048576: true; the input reads as it did. -/
def diffBurstsUptoRow : OpenClaim := { program := "ytmeicbggkbkccab", sum := "6402d4778f827b92cc5b9a17e21f87be905e54e7a8ebd5a1ef906bfa5b6c3de4", func := "carryover/carryoverlaw24.DiffBursts", spec := "diffBursts", apart := false, narrowed := true }
def DiffBurstsUptoSaid : Prop := diffBurstsUptoRow.holds Try.pinned (OpenSpec.upto diffBurstsSpec)

/-- 'carryoverlaw24.DiffReads', WHERE WHAT IT READS IS OF BULK AT MOST 1048576: true; the input reads as it did. -/
def diffReadsUptoRow : OpenClaim := { program := "ytmeicbggkbkccab", sum := "6402d4778f827b92cc5b9a17e21f87be905e54e7a8ebd5a1ef906bfa5b6c3de4", func := "carryover/carryoverlaw24.DiffReads", spec := "diffReads", apart := false, narrowed := true }
def DiffReadsUptoSaid : Prop := diffReadsUptoRow.holds Try.pinned (OpenSpec.upto diffReadsSpec)

/-- 'carryoverlaw24.DiffBase', WHERE WHAT IT READS IS OF BULK AT MOST 1048576: true; the input reads as it did. -/
def diffBaseUptoRow : OpenClaim := { program := "ytmeicbggkbkccab", sum := "6402d4778f827b92cc5b9a17e21f87be905e54e7a8ebd5a1ef906bfa5b6c3de4", func := "carryover/carryoverlaw24.DiffBase", spec := "diffBase", inPlace := ["internal/abi.NoEscape"], apart := false, narrowed := true }
def DiffBaseUptoSaid : Prop := diffBaseUptoRow.holds Try.pinned (OpenSpec.upto diffBaseSpec)

/-- 'carryoverlaw24.DiffMakes', WHERE WHAT IT READS IS OF BULK AT MOST 1048576: true; the input reads as it did. -/
def diffMakesUptoRow : OpenClaim := { program := "ytmeicbggkbkccab", sum := "6402d4778f827b92cc5b9a17e21f87be905e54e7a8ebd5a1ef906bfa5b6c3de4", func := "carryover/carryoverlaw24.DiffMakes", spec := "diffMakes", inPlace := ["internal/abi.NoEscape"], apart := false, narrowed := true }
def DiffMakesUptoSaid : Prop := diffMakesUptoRow.holds Try.pinned (OpenSpec.upto diffMakesSpec)

/-- 'carryoverlaw24.DiffChecks', WHERE WHAT IT READS IS OF BULK AT MOST 1048576: true; the input reads as it did. -/
def diffChecksUptoRow : OpenClaim := { program := "ytmeicbggkbkccab", sum := "6402d4778f827b92cc5b9a17e21f87be905e54e7a8ebd5a1ef906bfa5b6c3de4", func := "carryover/carryoverlaw24.DiffChecks", spec := "diffChecks", inPlace := ["internal/abi.NoEscape"], apart := false, narrowed := true }
def DiffChecksUptoSaid : Prop := diffChecksUptoRow.holds Try.pinned (OpenSpec.upto diffChecksSpec)

/-- 'carryoverlaw24.DiffChain', WHERE WHAT IT READS IS OF BULK AT MOST 1048576: true; the input reads as it did. -/
def diffChainUptoRow : OpenClaim := { program := "ytmeicbggkbkccab", sum := "6402d4778f827b92cc5b9a17e21f87be905e54e7a8ebd5a1ef906bfa5b6c3de4", func := "carryover/carryoverlaw24.DiffChain", spec := "diffChain", inPlace := ["internal/abi.NoEscape"], apart := false, narrowed := true }
def DiffChainUptoSaid : Prop := diffChainUptoRow.holds Try.pinned (OpenSpec.upto diffChainSpec)

end Rows
end Go.Proofs.Ytmeicbggkbkccab
