/-
  No cell of these rows narrows 'for every input' (looked for: loops, veiled, ifaces, maps, wideKeys, modest, calm, conditions, laid).
  DERIVED. THE GIVEN ROWS OF THIS SEAT. 12 by the template 'for every input the law returns true; each argument reads behind the call as it read before'; 0 by the template 'total and deterministic' (their statements: YtmeicbggkbkccaaTotals.lean).
  GIVEN WITH THE SEED: the statements are not yours to turn. If you find one false, say at which input.
  Laid BY PROGRAM, IN A SANDBOX (cutbox-rows.mjs): the forced cells as the released guide's own fill.sh prints them over the translation f0368a1c17e2ef4d… (all of the seat's roots in one cut). By AI agents, Wed Nov 11 2026. No macro, syntax, notation, axiom, sorry.
-/
import Derived.Test.YtmeicbggkbkccaaChecked
import GoSem.Claim
import GoSem.ClaimJoined
import GoSem.ClaimMapViews
import Derived.JoinedTies
import Derived.KernelRfl
namespace Go.Proofs.Ytmeicbggkbkccaa
/- THE CELL 'sum', in the pinned program and in every row, IS THE sha256 OF THE DUMP (.gsa) THAT YtmeicbggkbkccaaProg.lean LOADS. Nothing in Lean hashes anything: it is a label: what it is worth is what the hold of that sum in a sandbox is worth. -/
noncomputable def Try.pinned : Pinned := { name := "ytmeicbggkbkccaa", sum := "f0368a1c17e2ef4d5824dd6b50d05b95dc3a661cbf1fea9e5e6edcbcbaae89fc", checked := Try.checked }
namespace Rows
def none {H : Type} : Left H := { results := [], args := [] }

/-- 'carryoverlaw02.CrcParts': WHATEVER THE INPUT: true; the input reads as it did. -/
def crcPartsSpec : ChangeSpec := { name := "crcParts", fn := fun _ => fun
  | [d1, d2, d3] => { results := [.lit (.bool true)], args := [d1, d2, d3] }
  | _ => none }
def crcPartsRow : OpenClaim := { program := "ytmeicbggkbkccaa", sum := "f0368a1c17e2ef4d5824dd6b50d05b95dc3a661cbf1fea9e5e6edcbcbaae89fc", func := "carryover/carryoverlaw02.CrcParts", spec := "crcParts", apart := false }
def CrcPartsSaid : Prop := crcPartsRow.holds Try.pinned (OpenSpec.ofChange crcPartsSpec)

/-- ITS FALSE NEIGHBOUR: 'it returns false'. Refute it at one input. -/
def crcPartsWrong : ChangeSpec := { name := "crcParts", fn := fun _ => fun
  | [d1, d2, d3] => { results := [.lit (.bool false)], args := [d1, d2, d3] }
  | _ => none }
def CrcPartsWrongFalsely : Prop := crcPartsRow.holds Try.pinned (OpenSpec.ofChange crcPartsWrong)

/-- 'carryoverlaw02.CrcXor': WHATEVER THE INPUT: true; the input reads as it did. -/
def crcXorSpec : ChangeSpec := { name := "crcXor", fn := fun _ => fun
  | [d1, d2, d3] => { results := [.lit (.bool true)], args := [d1, d2, d3] }
  | _ => none }
def crcXorRow : OpenClaim := { program := "ytmeicbggkbkccaa", sum := "f0368a1c17e2ef4d5824dd6b50d05b95dc3a661cbf1fea9e5e6edcbcbaae89fc", func := "carryover/carryoverlaw02.CrcXor", spec := "crcXor", apart := false }
def CrcXorSaid : Prop := crcXorRow.holds Try.pinned (OpenSpec.ofChange crcXorSpec)

/-- ITS FALSE NEIGHBOUR: 'it returns false'. Refute it at one input. -/
def crcXorWrong : ChangeSpec := { name := "crcXor", fn := fun _ => fun
  | [d1, d2, d3] => { results := [.lit (.bool false)], args := [d1, d2, d3] }
  | _ => none }
def CrcXorWrongFalsely : Prop := crcXorRow.holds Try.pinned (OpenSpec.ofChange crcXorWrong)

/-- 'carryoverlaw23.PatchTidies': WHATEVER THE INPUT: true; the input reads as it did. -/
def patchTidiesSpec : ChangeSpec := { name := "patchTidies", fn := fun _ => fun
  | [d1, d2] => { results := [.lit (.bool true)], args := [d1, d2] }
  | _ => none }
def patchTidiesRow : OpenClaim := { program := "ytmeicbggkbkccaa", sum := "f0368a1c17e2ef4d5824dd6b50d05b95dc3a661cbf1fea9e5e6edcbcbaae89fc", func := "carryover/carryoverlaw23.PatchTidies", spec := "patchTidies", apart := false }
def PatchTidiesSaid : Prop := patchTidiesRow.holds Try.pinned (OpenSpec.ofChange patchTidiesSpec)

/-- ITS FALSE NEIGHBOUR: 'it returns false'. Refute it at one input. -/
def patchTidiesWrong : ChangeSpec := { name := "patchTidies", fn := fun _ => fun
  | [d1, d2] => { results := [.lit (.bool false)], args := [d1, d2] }
  | _ => none }
def PatchTidiesWrongFalsely : Prop := patchTidiesRow.holds Try.pinned (OpenSpec.ofChange patchTidiesWrong)

/-- 'carryoverlaw01.OctetOne': WHATEVER THE INPUT: true; the input reads as it did. -/
def octetOneSpec : ChangeSpec := { name := "octetOne", fn := fun _ => fun
  | [d] => { results := [.lit (.bool true)], args := [d] }
  | _ => none }
def octetOneRow : OpenClaim := { program := "ytmeicbggkbkccaa", sum := "f0368a1c17e2ef4d5824dd6b50d05b95dc3a661cbf1fea9e5e6edcbcbaae89fc", func := "carryover/carryoverlaw01.OctetOne", spec := "octetOne", apart := false }
def OctetOneSaid : Prop := octetOneRow.holds Try.pinned (OpenSpec.ofChange octetOneSpec)

/-- ITS FALSE NEIGHBOUR: 'it returns false'. Refute it at one input. -/
def octetOneWrong : ChangeSpec := { name := "octetOne", fn := fun _ => fun
  | [d] => { results := [.lit (.bool false)], args := [d] }
  | _ => none }
def OctetOneWrongFalsely : Prop := octetOneRow.holds Try.pinned (OpenSpec.ofChange octetOneWrong)

/-- 'carryoverlaw02.CrcOpens': WHATEVER THE INPUT: true; the input reads as it did. -/
def crcOpensSpec : ChangeSpec := { name := "crcOpens", fn := fun _ => fun
  | [d] => { results := [.lit (.bool true)], args := [d] }
  | _ => none }
def crcOpensRow : OpenClaim := { program := "ytmeicbggkbkccaa", sum := "f0368a1c17e2ef4d5824dd6b50d05b95dc3a661cbf1fea9e5e6edcbcbaae89fc", func := "carryover/carryoverlaw02.CrcOpens", spec := "crcOpens", apart := false }
def CrcOpensSaid : Prop := crcOpensRow.holds Try.pinned (OpenSpec.ofChange crcOpensSpec)

/-- ITS FALSE NEIGHBOUR: 'it returns false'. Refute it at one input. -/
def crcOpensWrong : ChangeSpec := { name := "crcOpens", fn := fun _ => fun
  | [d] => { results := [.lit (.bool false)], args := [d] }
  | _ => none }
def CrcOpensWrongFalsely : Prop := crcOpensRow.holds Try.pinned (OpenSpec.ofChange crcOpensWrong)

/-- 'carryovertop.CarryoverTwice': WHATEVER THE INPUT: true; the input reads as it did. -/
def carryoverTwiceSpec : ChangeSpec := { name := "carryoverTwice", fn := fun _ => fun
  | [d1, d2, d3] => { results := [.lit (.bool true)], args := [d1, d2, d3] }
  | _ => none }
def carryoverTwiceRow : OpenClaim := { program := "ytmeicbggkbkccaa", sum := "f0368a1c17e2ef4d5824dd6b50d05b95dc3a661cbf1fea9e5e6edcbcbaae89fc", func := "carryover/carryovertop.CarryoverTwice", spec := "carryoverTwice", inPlace := ["math.Float64frombits", "math.Float64bits"], unfollowed := true, recurses := true, apart := false }
def CarryoverTwiceSaid : Prop := carryoverTwiceRow.holds Try.pinned (OpenSpec.ofChange carryoverTwiceSpec)

/-- ITS FALSE NEIGHBOUR: 'it returns false'. Refute it at one input. -/
def carryoverTwiceWrong : ChangeSpec := { name := "carryoverTwice", fn := fun _ => fun
  | [d1, d2, d3] => { results := [.lit (.bool false)], args := [d1, d2, d3] }
  | _ => none }
def CarryoverTwiceWrongFalsely : Prop := carryoverTwiceRow.holds Try.pinned (OpenSpec.ofChange carryoverTwiceWrong)

/-- 'carryoverlaw01.OctetPuts': WHATEVER THE INPUT: true; the input reads as it did. -/
def octetPutsSpec : ChangeSpec := { name := "octetPuts", fn := fun _ => fun
  | [d1, d2, d3, d4, d5] => { results := [.lit (.bool true)], args := [d1, d2, d3, d4, d5] }
  | _ => none }
def octetPutsRow : OpenClaim := { program := "ytmeicbggkbkccaa", sum := "f0368a1c17e2ef4d5824dd6b50d05b95dc3a661cbf1fea9e5e6edcbcbaae89fc", func := "carryover/carryoverlaw01.OctetPuts", spec := "octetPuts", unfollowed := true, recurses := true, apart := false }
def OctetPutsSaid : Prop := octetPutsRow.holds Try.pinned (OpenSpec.ofChange octetPutsSpec)

/-- ITS FALSE NEIGHBOUR: 'it returns false'. Refute it at one input. -/
def octetPutsWrong : ChangeSpec := { name := "octetPuts", fn := fun _ => fun
  | [d1, d2, d3, d4, d5] => { results := [.lit (.bool false)], args := [d1, d2, d3, d4, d5] }
  | _ => none }
def OctetPutsWrongFalsely : Prop := octetPutsRow.holds Try.pinned (OpenSpec.ofChange octetPutsWrong)

/-- 'carryovertop.CarryoverCanon': WHATEVER THE INPUT: true; the input reads as it did. -/
def carryoverCanonSpec : ChangeSpec := { name := "carryoverCanon", fn := fun _ => fun
  | [d1, d2, d3, d4] => { results := [.lit (.bool true)], args := [d1, d2, d3, d4] }
  | _ => none }
def carryoverCanonRow : OpenClaim := { program := "ytmeicbggkbkccaa", sum := "f0368a1c17e2ef4d5824dd6b50d05b95dc3a661cbf1fea9e5e6edcbcbaae89fc", func := "carryover/carryovertop.CarryoverCanon", spec := "carryoverCanon", inPlace := ["math.Float64frombits", "math.Float64bits"], unfollowed := true, recurses := true, apart := false }
def CarryoverCanonSaid : Prop := carryoverCanonRow.holds Try.pinned (OpenSpec.ofChange carryoverCanonSpec)

/-- ITS FALSE NEIGHBOUR: 'it returns false'. Refute it at one input. -/
def carryoverCanonWrong : ChangeSpec := { name := "carryoverCanon", fn := fun _ => fun
  | [d1, d2, d3, d4] => { results := [.lit (.bool false)], args := [d1, d2, d3, d4] }
  | _ => none }
def CarryoverCanonWrongFalsely : Prop := carryoverCanonRow.holds Try.pinned (OpenSpec.ofChange carryoverCanonWrong)

/-- 'carryoverlaw02.CrcSums': WHATEVER THE INPUT: true; the input reads as it did. -/
def crcSumsSpec : ChangeSpec := { name := "crcSums", fn := fun _ => fun
  | [d] => { results := [.lit (.bool true)], args := [d] }
  | _ => none }
def crcSumsRow : OpenClaim := { program := "ytmeicbggkbkccaa", sum := "f0368a1c17e2ef4d5824dd6b50d05b95dc3a661cbf1fea9e5e6edcbcbaae89fc", func := "carryover/carryoverlaw02.CrcSums", spec := "crcSums", apart := false }
def CrcSumsSaid : Prop := crcSumsRow.holds Try.pinned (OpenSpec.ofChange crcSumsSpec)

/-- ITS FALSE NEIGHBOUR: 'it returns false'. Refute it at one input. -/
def crcSumsWrong : ChangeSpec := { name := "crcSums", fn := fun _ => fun
  | [d] => { results := [.lit (.bool false)], args := [d] }
  | _ => none }
def CrcSumsWrongFalsely : Prop := crcSumsRow.holds Try.pinned (OpenSpec.ofChange crcSumsWrong)

/-- 'carryoverlaw02.CrcBursts': WHATEVER THE INPUT: true; the input reads as it did. -/
def crcBurstsSpec : ChangeSpec := { name := "crcBursts", fn := fun _ => fun
  | [d1, d2, d3] => { results := [.lit (.bool true)], args := [d1, d2, d3] }
  | _ => none }
def crcBurstsRow : OpenClaim := { program := "ytmeicbggkbkccaa", sum := "f0368a1c17e2ef4d5824dd6b50d05b95dc3a661cbf1fea9e5e6edcbcbaae89fc", func := "carryover/carryoverlaw02.CrcBursts", spec := "crcBursts", apart := false }
def CrcBurstsSaid : Prop := crcBurstsRow.holds Try.pinned (OpenSpec.ofChange crcBurstsSpec)

/-- ITS FALSE NEIGHBOUR: 'it returns false'. Refute it at one input. -/
def crcBurstsWrong : ChangeSpec := { name := "crcBursts", fn := fun _ => fun
  | [d1, d2, d3] => { results := [.lit (.bool false)], args := [d1, d2, d3] }
  | _ => none }
def CrcBurstsWrongFalsely : Prop := crcBurstsRow.holds Try.pinned (OpenSpec.ofChange crcBurstsWrong)

/-- 'carryoverlaw02.CrcFlips': WHATEVER THE INPUT: true; the input reads as it did. -/
def crcFlipsSpec : ChangeSpec := { name := "crcFlips", fn := fun _ => fun
  | [d1, d2, d3, d4, d5] => { results := [.lit (.bool true)], args := [d1, d2, d3, d4, d5] }
  | _ => none }
def crcFlipsRow : OpenClaim := { program := "ytmeicbggkbkccaa", sum := "f0368a1c17e2ef4d5824dd6b50d05b95dc3a661cbf1fea9e5e6edcbcbaae89fc", func := "carryover/carryoverlaw02.CrcFlips", spec := "crcFlips", apart := false }
def CrcFlipsSaid : Prop := crcFlipsRow.holds Try.pinned (OpenSpec.ofChange crcFlipsSpec)

/-- ITS FALSE NEIGHBOUR: 'it returns false'. Refute it at one input. -/
def crcFlipsWrong : ChangeSpec := { name := "crcFlips", fn := fun _ => fun
  | [d1, d2, d3, d4, d5] => { results := [.lit (.bool false)], args := [d1, d2, d3, d4, d5] }
  | _ => none }
def CrcFlipsWrongFalsely : Prop := crcFlipsRow.holds Try.pinned (OpenSpec.ofChange crcFlipsWrong)

/-- 'carryoverlaw01.OctetStays': WHATEVER THE INPUT: true; the input reads as it did. -/
def octetStaysSpec : ChangeSpec := { name := "octetStays", fn := fun _ => fun
  | [d1, d2] => { results := [.lit (.bool true)], args := [d1, d2] }
  | _ => none }
def octetStaysRow : OpenClaim := { program := "ytmeicbggkbkccaa", sum := "f0368a1c17e2ef4d5824dd6b50d05b95dc3a661cbf1fea9e5e6edcbcbaae89fc", func := "carryover/carryoverlaw01.OctetStays", spec := "octetStays", apart := false }
def OctetStaysSaid : Prop := octetStaysRow.holds Try.pinned (OpenSpec.ofChange octetStaysSpec)

/-- ITS FALSE NEIGHBOUR: 'it returns false'. Refute it at one input. -/
def octetStaysWrong : ChangeSpec := { name := "octetStays", fn := fun _ => fun
  | [d1, d2] => { results := [.lit (.bool false)], args := [d1, d2] }
  | _ => none }
def OctetStaysWrongFalsely : Prop := octetStaysRow.holds Try.pinned (OpenSpec.ofChange octetStaysWrong)

/- THE SECOND FORM. 'bulk': how many values and letters a reading holds, each counted each time it is reached (what is shared counts as often as it is met; a slice's spare places count too). A statement '..UptoSaid' is the law's where the arguments, and the package variables that the reading takes, are together of bulk at most 1048576: NARROWER than '..Said'. Prove '..Said' where nothing that the law and all that it calls make is longer than what came in: it says more and counts as full. Else prove '..UptoSaid'. A law counts once. -/
mutual
def uptoBulk {H : Type} : DataW H → Nat
  | .lit (.string bytes) => bytes.length + 1
  | .lit _ => 1
  | .nil => 1
  | .ptr d => uptoBulk d + 1
  | .slice elems spare => uptoBulkAll elems + uptoBulkAll spare + 1
  | .agg parts => uptoBulkAll parts + 1
  | .iface _ d => uptoBulk d + 1
  | .map entries => uptoBulkEntries entries + 1
  | .held _ => 1
def uptoBulkAll {H : Type} : List (DataW H) → Nat
  | [] => 0
  | d :: r => uptoBulk d + uptoBulkAll r
def uptoBulkEntries {H : Type} : List (Lit × DataW H) → Nat
  | [] => 0
  | x :: r => uptoBulkEntry x + uptoBulkEntries r
def uptoBulkEntry {H : Type} : Lit × DataW H → Nat
  | (.string bytes, d) => bytes.length + uptoBulk d + 1
  | (_, d) => uptoBulk d + 1
 end
def uptoSmall : (H : Type) → List (DataW H) → Bool := fun _ ds => decide (uptoBulkAll ds ≤ 1048576)
def OpenSpec.upto (s : _root_.Go.ChangeSpec) : _root_.Go.OpenSpec := { _root_.Go.OpenSpec.ofChange s with cond := some uptoSmall }

/-- 'carryoverlaw02.CrcParts', WHERE WHAT IT READS IS OF BULK AT MOST 1048576: true; the input reads as it did. -/
def crcPartsUptoRow : OpenClaim := { program := "ytmeicbggkbkccaa", sum := "f0368a1c17e2ef4d5824dd6b50d05b95dc3a661cbf1fea9e5e6edcbcbaae89fc", func := "carryover/carryoverlaw02.CrcParts", spec := "crcParts", apart := false, narrowed := true }
def CrcPartsUptoSaid : Prop := crcPartsUptoRow.holds Try.pinned (OpenSpec.upto crcPartsSpec)

/-- 'carryoverlaw02.CrcXor', WHERE WHAT IT READS IS OF BULK AT MOST 1048576: true; the input reads as it did. -/
def crcXorUptoRow : OpenClaim := { program := "ytmeicbggkbkccaa", sum := "f0368a1c17e2ef4d5824dd6b50d05b95dc3a661cbf1fea9e5e6edcbcbaae89fc", func := "carryover/carryoverlaw02.CrcXor", spec := "crcXor", apart := false, narrowed := true }
def CrcXorUptoSaid : Prop := crcXorUptoRow.holds Try.pinned (OpenSpec.upto crcXorSpec)

/-- 'carryoverlaw23.PatchTidies', WHERE WHAT IT READS IS OF BULK AT MOST 1048576: true; the input reads as it did. -/
def patchTidiesUptoRow : OpenClaim := { program := "ytmeicbggkbkccaa", sum := "f0368a1c17e2ef4d5824dd6b50d05b95dc3a661cbf1fea9e5e6edcbcbaae89fc", func := "carryover/carryoverlaw23.PatchTidies", spec := "patchTidies", apart := false, narrowed := true }
def PatchTidiesUptoSaid : Prop := patchTidiesUptoRow.holds Try.pinned (OpenSpec.upto patchTidiesSpec)

/-- 'carryoverlaw01.OctetOne', WHERE WHAT IT READS IS OF BULK AT MOST 1048576: true; the input reads as it did. -/
def octetOneUptoRow : OpenClaim := { program := "ytmeicbggkbkccaa", sum := "f0368a1c17e2ef4d5824dd6b50d05b95dc3a661cbf1fea9e5e6edcbcbaae89fc", func := "carryover/carryoverlaw01.OctetOne", spec := "octetOne", apart := false, narrowed := true }
def OctetOneUptoSaid : Prop := octetOneUptoRow.holds Try.pinned (OpenSpec.upto octetOneSpec)

/-- 'carryoverlaw02.CrcOpens', WHERE WHAT IT READS IS OF BULK AT MOST 1048576: true; the input reads as it did. -/
def crcOpensUptoRow : OpenClaim := { program := "ytmeicbggkbkccaa", sum := "f0368a1c17e2ef4d5824dd6b50d05b95dc3a661cbf1fea9e5e6edcbcbaae89fc", func := "carryover/carryoverlaw02.CrcOpens", spec := "crcOpens", apart := false, narrowed := true }
def CrcOpensUptoSaid : Prop := crcOpensUptoRow.holds Try.pinned (OpenSpec.upto crcOpensSpec)

/-- 'carryovertop.CarryoverTwice', WHERE WHAT IT READS IS OF BULK AT MOST 1048576: true; the input reads as it did. -/
def carryoverTwiceUptoRow : OpenClaim := { program := "ytmeicbggkbkccaa", sum := "f0368a1c17e2ef4d5824dd6b50d05b95dc3a661cbf1fea9e5e6edcbcbaae89fc", func := "carryover/carryovertop.CarryoverTwice", spec := "carryoverTwice", inPlace := ["math.Float64frombits", "math.Float64bits"], unfollowed := true, recurses := true, apart := false, narrowed := true }
def CarryoverTwiceUptoSaid : Prop := carryoverTwiceUptoRow.holds Try.pinned (OpenSpec.upto carryoverTwiceSpec)

/-- 'carryoverlaw01.OctetPuts', WHERE WHAT IT READS IS OF BULK AT MOST 1048576: true; the input reads as it did. -/
def octetPutsUptoRow : OpenClaim := { program := "ytmeicbggkbkccaa", sum := "f0368a1c17e2ef4d5824dd6b50d05b95dc3a661cbf1fea9e5e6edcbcbaae89fc", func := "carryover/carryoverlaw01.OctetPuts", spec := "octetPuts", unfollowed := true, recurses := true, apart := false, narrowed := true }
def OctetPutsUptoSaid : Prop := octetPutsUptoRow.holds Try.pinned (OpenSpec.upto octetPutsSpec)

/-- 'carryovertop.CarryoverCanon', WHERE WHAT IT READS IS OF BULK AT MOST 1048576: true; the input reads as it did. -/
def carryoverCanonUptoRow : OpenClaim := { program := "ytmeicbggkbkccaa", sum := "f0368a1c17e2ef4d5824dd6b50d05b95dc3a661cbf1fea9e5e6edcbcbaae89fc", func := "carryover/carryovertop.CarryoverCanon", spec := "carryoverCanon", inPlace := ["math.Float64frombits", "math.Float64bits"], unfollowed := true, recurses := true, apart := false, narrowed := true }
def CarryoverCanonUptoSaid : Prop := carryoverCanonUptoRow.holds Try.pinned (OpenSpec.upto carryoverCanonSpec)

/-- 'carryoverlaw02.CrcSums', WHERE WHAT IT READS IS OF BULK AT MOST 1048576: true; the input reads as it did. -/
def crcSumsUptoRow : OpenClaim := { program := "ytmeicbggkbkccaa", sum := "f0368a1c17e2ef4d5824dd6b50d05b95dc3a661cbf1fea9e5e6edcbcbaae89fc", func := "carryover/carryoverlaw02.CrcSums", spec := "crcSums", apart := false, narrowed := true }
def CrcSumsUptoSaid : Prop := crcSumsUptoRow.holds Try.pinned (OpenSpec.upto crcSumsSpec)

/-- 'carryoverlaw02.CrcBursts', WHERE WHAT IT READS IS OF BULK AT MOST 1048576: true; the input reads as it did. -/
def crcBurstsUptoRow : OpenClaim := { program := "ytmeicbggkbkccaa", sum := "f0368a1c17e2ef4d5824dd6b50d05b95dc3a661cbf1fea9e5e6edcbcbaae89fc", func := "carryover/carryoverlaw02.CrcBursts", spec := "crcBursts", apart := false, narrowed := true }
def CrcBurstsUptoSaid : Prop := crcBurstsUptoRow.holds Try.pinned (OpenSpec.upto crcBurstsSpec)

/-- 'carryoverlaw02.CrcFlips', WHERE WHAT IT READS IS OF BULK AT MOST 1048576: true; the input reads as it did. -/
def crcFlipsUptoRow : OpenClaim := { program := "ytmeicbggkbkccaa", sum := "f0368a1c17e2ef4d5824dd6b50d05b95dc3a661cbf1fea9e5e6edcbcbaae89fc", func := "carryover/carryoverlaw02.CrcFlips", spec := "crcFlips", apart := false, narrowed := true }
def CrcFlipsUptoSaid : Prop := crcFlipsUptoRow.holds Try.pinned (OpenSpec.upto crcFlipsSpec)

/-- 'carryoverlaw01.OctetStays', WHERE WHAT IT READS IS OF BULK AT MOST 1048576: true; the input reads as it did. -/
def octetStaysUptoRow : OpenClaim := { program := "ytmeicbggkbkccaa", sum := "f0368a1c17e2ef4d5824dd6b50d05b95dc3a661cbf1fea9e5e6edcbcbaae89fc", func := "carryover/carryoverlaw01.OctetStays", spec := "octetStays", apart := false, narrowed := true }
def OctetStaysUptoSaid : Prop := octetStaysUptoRow.holds Try.pinned (OpenSpec.upto octetStaysSpec)

end Rows
end Go.Proofs.Ytmeicbggkbkccaa
