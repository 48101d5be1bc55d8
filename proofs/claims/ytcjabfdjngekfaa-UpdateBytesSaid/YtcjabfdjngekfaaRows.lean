/-
  No cell of these rows narrows 'for every input' (looked for: loops, veiled, ifaces, maps, wideKeys, modest, calm, conditions, laid).
  DERIVED. THE GIVEN ROWS OF THIS SEAT. 12 by the template 'for every input the law returns true; each argument reads behind the call as it read before'; 0 by the template 'total and deterministic' (their statements: YtcjabfdjngekfaaTotals.lean).
  GIVEN WITH THE SEED: the statements are not yours to turn. If you find one false, say at which input.
  Laid BY PROGRAM, IN A SANDBOX (cutbox-rows.mjs): the forced cells as the released guide's own fill.sh prints them over the translation 122eb85a5bd2217a… (all of the seat's roots in one cut). By AI agents, Wed Nov 11 2026. No macro, syntax, notation, axiom, sorry.
-/
import Derived.Test.YtcjabfdjngekfaaChecked
import GoSem.Claim
import GoSem.ClaimJoined
import GoSem.ClaimMapViews
import Derived.JoinedTies
import Derived.KernelRfl
namespace Go.Proofs.Ytcjabfdjngekfaa
/- THE CELL 'sum', in the pinned program and in every row, IS THE sha256 OF THE DUMP (.gsa) THAT YtcjabfdjngekfaaProg.lean LOADS. Nothing in Lean hashes anything: it is a label: what it is worth is what the hold of that sum in a sandbox is worth. -/
noncomputable def Try.pinned : Pinned := { name := "ytcjabfdjngekfaa", sum := "122eb85a5bd2217a04ca1270854807f4b21e2dbc38b4426a0b1669f56d40db99", checked := Try.checked }
namespace Rows
def none {H : Type} : Left H := { results := [], args := [] }

/-- 'saddlebaglaw12.LeafBytes': WHATEVER THE INPUT: true; the input reads as it did. -/
def leafBytesSpec : ChangeSpec := { name := "leafBytes", fn := fun _ => fun
  | [d1, d2, d3] => { results := [.lit (.bool true)], args := [d1, d2, d3] }
  | _ => none }
def leafBytesRow : OpenClaim := { program := "ytcjabfdjngekfaa", sum := "122eb85a5bd2217a04ca1270854807f4b21e2dbc38b4426a0b1669f56d40db99", func := "saddlebag/saddlebaglaw12.LeafBytes", spec := "leafBytes", apart := false }
def LeafBytesSaid : Prop := leafBytesRow.holds Try.pinned (OpenSpec.ofChange leafBytesSpec)

/-- ITS FALSE NEIGHBOUR: 'it returns false'. Refute it at one input. -/
def leafBytesWrong : ChangeSpec := { name := "leafBytes", fn := fun _ => fun
  | [d1, d2, d3] => { results := [.lit (.bool false)], args := [d1, d2, d3] }
  | _ => none }
def LeafBytesWrongFalsely : Prop := leafBytesRow.holds Try.pinned (OpenSpec.ofChange leafBytesWrong)

/-- 'saddlebaglaw21.VolumeSizes': WHATEVER THE INPUT: true; the input reads as it did. -/
def volumeSizesSpec : ChangeSpec := { name := "volumeSizes", fn := fun _ => fun
  | [d1, d2, d3] => { results := [.lit (.bool true)], args := [d1, d2, d3] }
  | _ => none }
def volumeSizesRow : OpenClaim := { program := "ytcjabfdjngekfaa", sum := "122eb85a5bd2217a04ca1270854807f4b21e2dbc38b4426a0b1669f56d40db99", func := "saddlebag/saddlebaglaw21.VolumeSizes", spec := "volumeSizes", apart := false }
def VolumeSizesSaid : Prop := volumeSizesRow.holds Try.pinned (OpenSpec.ofChange volumeSizesSpec)

/-- ITS FALSE NEIGHBOUR: 'it returns false'. Refute it at one input. -/
def volumeSizesWrong : ChangeSpec := { name := "volumeSizes", fn := fun _ => fun
  | [d1, d2, d3] => { results := [.lit (.bool false)], args := [d1, d2, d3] }
  | _ => none }
def VolumeSizesWrongFalsely : Prop := volumeSizesRow.holds Try.pinned (OpenSpec.ofChange volumeSizesWrong)

/-- 'saddlebaglaw21.VolumeBack': WHATEVER THE INPUT: true; the input reads as it did. -/
def volumeBackSpec : ChangeSpec := { name := "volumeBack", fn := fun _ => fun
  | [d1, d2, d3] => { results := [.lit (.bool true)], args := [d1, d2, d3] }
  | _ => none }
def volumeBackRow : OpenClaim := { program := "ytcjabfdjngekfaa", sum := "122eb85a5bd2217a04ca1270854807f4b21e2dbc38b4426a0b1669f56d40db99", func := "saddlebag/saddlebaglaw21.VolumeBack", spec := "volumeBack", apart := false }
def VolumeBackSaid : Prop := volumeBackRow.holds Try.pinned (OpenSpec.ofChange volumeBackSpec)

/-- ITS FALSE NEIGHBOUR: 'it returns false'. Refute it at one input. -/
def volumeBackWrong : ChangeSpec := { name := "volumeBack", fn := fun _ => fun
  | [d1, d2, d3] => { results := [.lit (.bool false)], args := [d1, d2, d3] }
  | _ => none }
def VolumeBackWrongFalsely : Prop := volumeBackRow.holds Try.pinned (OpenSpec.ofChange volumeBackWrong)

/-- 'saddlebaglaw26.RelayBytes': WHATEVER THE INPUT: true; the input reads as it did. -/
def relayBytesSpec : ChangeSpec := { name := "relayBytes", fn := fun _ => fun
  | [d1, d2] => { results := [.lit (.bool true)], args := [d1, d2] }
  | _ => none }
def relayBytesRow : OpenClaim := { program := "ytcjabfdjngekfaa", sum := "122eb85a5bd2217a04ca1270854807f4b21e2dbc38b4426a0b1669f56d40db99", func := "saddlebag/saddlebaglaw26.RelayBytes", spec := "relayBytes", apart := false }
def RelayBytesSaid : Prop := relayBytesRow.holds Try.pinned (OpenSpec.ofChange relayBytesSpec)

/-- ITS FALSE NEIGHBOUR: 'it returns false'. Refute it at one input. -/
def relayBytesWrong : ChangeSpec := { name := "relayBytes", fn := fun _ => fun
  | [d1, d2] => { results := [.lit (.bool false)], args := [d1, d2] }
  | _ => none }
def RelayBytesWrongFalsely : Prop := relayBytesRow.holds Try.pinned (OpenSpec.ofChange relayBytesWrong)

/-- 'saddlebaglaw26.RelayPasses': WHATEVER THE INPUT: true; the input reads as it did. -/
def relayPassesSpec : ChangeSpec := { name := "relayPasses", fn := fun _ => fun
  | [d1, d2] => { results := [.lit (.bool true)], args := [d1, d2] }
  | _ => none }
def relayPassesRow : OpenClaim := { program := "ytcjabfdjngekfaa", sum := "122eb85a5bd2217a04ca1270854807f4b21e2dbc38b4426a0b1669f56d40db99", func := "saddlebag/saddlebaglaw26.RelayPasses", spec := "relayPasses", apart := false }
def RelayPassesSaid : Prop := relayPassesRow.holds Try.pinned (OpenSpec.ofChange relayPassesSpec)

/-- ITS FALSE NEIGHBOUR: 'it returns false'. Refute it at one input. -/
def relayPassesWrong : ChangeSpec := { name := "relayPasses", fn := fun _ => fun
  | [d1, d2] => { results := [.lit (.bool false)], args := [d1, d2] }
  | _ => none }
def RelayPassesWrongFalsely : Prop := relayPassesRow.holds Try.pinned (OpenSpec.ofChange relayPassesWrong)

/-- 'saddlebaglaw21.VolumeBytes': WHATEVER THE INPUT: true; the input reads as it did. -/
def volumeBytesSpec : ChangeSpec := { name := "volumeBytes", fn := fun _ => fun
  | [d1, d2] => { results := [.lit (.bool true)], args := [d1, d2] }
  | _ => none }
def volumeBytesRow : OpenClaim := { program := "ytcjabfdjngekfaa", sum := "122eb85a5bd2217a04ca1270854807f4b21e2dbc38b4426a0b1669f56d40db99", func := "saddlebag/saddlebaglaw21.VolumeBytes", spec := "volumeBytes", apart := false }
def VolumeBytesSaid : Prop := volumeBytesRow.holds Try.pinned (OpenSpec.ofChange volumeBytesSpec)

/-- ITS FALSE NEIGHBOUR: 'it returns false'. Refute it at one input. -/
def volumeBytesWrong : ChangeSpec := { name := "volumeBytes", fn := fun _ => fun
  | [d1, d2] => { results := [.lit (.bool false)], args := [d1, d2] }
  | _ => none }
def VolumeBytesWrongFalsely : Prop := volumeBytesRow.holds Try.pinned (OpenSpec.ofChange volumeBytesWrong)

/-- 'saddlebaglaw12.LeafTurns': WHATEVER THE INPUT: true; the input reads as it did. -/
def leafTurnsSpec : ChangeSpec := { name := "leafTurns", fn := fun _ => fun
  | [d1, d2] => { results := [.lit (.bool true)], args := [d1, d2] }
  | _ => none }
def leafTurnsRow : OpenClaim := { program := "ytcjabfdjngekfaa", sum := "122eb85a5bd2217a04ca1270854807f4b21e2dbc38b4426a0b1669f56d40db99", func := "saddlebag/saddlebaglaw12.LeafTurns", spec := "leafTurns", inPlace := ["slices.overlaps[saddlebag/leaf.Entry]"], unfollowed := true, recurses := true, apart := false }
def LeafTurnsSaid : Prop := leafTurnsRow.holds Try.pinned (OpenSpec.ofChange leafTurnsSpec)

/-- ITS FALSE NEIGHBOUR: 'it returns false'. Refute it at one input. -/
def leafTurnsWrong : ChangeSpec := { name := "leafTurns", fn := fun _ => fun
  | [d1, d2] => { results := [.lit (.bool false)], args := [d1, d2] }
  | _ => none }
def LeafTurnsWrongFalsely : Prop := leafTurnsRow.holds Try.pinned (OpenSpec.ofChange leafTurnsWrong)

/-- 'saddlebaglaw12.LeafBack': WHATEVER THE INPUT: true; the input reads as it did. -/
def leafBackSpec : ChangeSpec := { name := "leafBack", fn := fun _ => fun
  | [d1, d2] => { results := [.lit (.bool true)], args := [d1, d2] }
  | _ => none }
def leafBackRow : OpenClaim := { program := "ytcjabfdjngekfaa", sum := "122eb85a5bd2217a04ca1270854807f4b21e2dbc38b4426a0b1669f56d40db99", func := "saddlebag/saddlebaglaw12.LeafBack", spec := "leafBack", inPlace := ["slices.overlaps[saddlebag/leaf.Entry]"], unfollowed := true, recurses := true, apart := false }
def LeafBackSaid : Prop := leafBackRow.holds Try.pinned (OpenSpec.ofChange leafBackSpec)

/-- ITS FALSE NEIGHBOUR: 'it returns false'. Refute it at one input. -/
def leafBackWrong : ChangeSpec := { name := "leafBack", fn := fun _ => fun
  | [d1, d2] => { results := [.lit (.bool false)], args := [d1, d2] }
  | _ => none }
def LeafBackWrongFalsely : Prop := leafBackRow.holds Try.pinned (OpenSpec.ofChange leafBackWrong)

/-- 'saddlebaglaw14.UpdateBack': WHATEVER THE INPUT: true; the input reads as it did. -/
def updateBackSpec : ChangeSpec := { name := "updateBack", fn := fun _ => fun
  | [d1, d2] => { results := [.lit (.bool true)], args := [d1, d2] }
  | _ => none }
def updateBackRow : OpenClaim := { program := "ytcjabfdjngekfaa", sum := "122eb85a5bd2217a04ca1270854807f4b21e2dbc38b4426a0b1669f56d40db99", func := "saddlebag/saddlebaglaw14.UpdateBack", spec := "updateBack", inPlace := ["internal/bytealg.Compare"], unfollowed := true, recurses := true, apart := false }
def UpdateBackSaid : Prop := updateBackRow.holds Try.pinned (OpenSpec.ofChange updateBackSpec)

/-- ITS FALSE NEIGHBOUR: 'it returns false'. Refute it at one input. -/
def updateBackWrong : ChangeSpec := { name := "updateBack", fn := fun _ => fun
  | [d1, d2] => { results := [.lit (.bool false)], args := [d1, d2] }
  | _ => none }
def UpdateBackWrongFalsely : Prop := updateBackRow.holds Try.pinned (OpenSpec.ofChange updateBackWrong)

/-- 'saddlebaglaw14.UpdateBytes': WHATEVER THE INPUT: true; the input reads as it did. -/
def updateBytesSpec : ChangeSpec := { name := "updateBytes", fn := fun _ => fun
  | [d1, d2, d3] => { results := [.lit (.bool true)], args := [d1, d2, d3] }
  | _ => none }
def updateBytesRow : OpenClaim := { program := "ytcjabfdjngekfaa", sum := "122eb85a5bd2217a04ca1270854807f4b21e2dbc38b4426a0b1669f56d40db99", func := "saddlebag/saddlebaglaw14.UpdateBytes", spec := "updateBytes", inPlace := ["internal/bytealg.Compare"], unfollowed := true, recurses := true, apart := false }
def UpdateBytesSaid : Prop := updateBytesRow.holds Try.pinned (OpenSpec.ofChange updateBytesSpec)

/-- ITS FALSE NEIGHBOUR: 'it returns false'. Refute it at one input. -/
def updateBytesWrong : ChangeSpec := { name := "updateBytes", fn := fun _ => fun
  | [d1, d2, d3] => { results := [.lit (.bool false)], args := [d1, d2, d3] }
  | _ => none }
def UpdateBytesWrongFalsely : Prop := updateBytesRow.holds Try.pinned (OpenSpec.ofChange updateBytesWrong)

/-- 'saddlebaglaw03.IdsText': WHATEVER THE INPUT: true; the input reads as it did. -/
def idsTextSpec : ChangeSpec := { name := "idsText", fn := fun _ => fun
  | [d1, d2, d3] => { results := [.lit (.bool true)], args := [d1, d2, d3] }
  | _ => none }
def idsTextRow : OpenClaim := { program := "ytcjabfdjngekfaa", sum := "122eb85a5bd2217a04ca1270854807f4b21e2dbc38b4426a0b1669f56d40db99", func := "saddlebag/saddlebaglaw03.IdsText", spec := "idsText", inPlace := ["internal/bytealg.Compare"], unfollowed := true, recurses := true, apart := false }
def IdsTextSaid : Prop := idsTextRow.holds Try.pinned (OpenSpec.ofChange idsTextSpec)

/-- ITS FALSE NEIGHBOUR: 'it returns false'. Refute it at one input. -/
def idsTextWrong : ChangeSpec := { name := "idsText", fn := fun _ => fun
  | [d1, d2, d3] => { results := [.lit (.bool false)], args := [d1, d2, d3] }
  | _ => none }
def IdsTextWrongFalsely : Prop := idsTextRow.holds Try.pinned (OpenSpec.ofChange idsTextWrong)

/-- 'saddlebaglaw03.IdsLaws': WHATEVER THE INPUT: true; the input reads as it did. -/
def idsLawsSpec : ChangeSpec := { name := "idsLaws", fn := fun _ => fun
  | [d1, d2] => { results := [.lit (.bool true)], args := [d1, d2] }
  | _ => none }
def idsLawsRow : OpenClaim := { program := "ytcjabfdjngekfaa", sum := "122eb85a5bd2217a04ca1270854807f4b21e2dbc38b4426a0b1669f56d40db99", func := "saddlebag/saddlebaglaw03.IdsLaws", spec := "idsLaws", inPlace := ["internal/bytealg.Compare"], unfollowed := true, recurses := true, apart := false }
def IdsLawsSaid : Prop := idsLawsRow.holds Try.pinned (OpenSpec.ofChange idsLawsSpec)

/-- ITS FALSE NEIGHBOUR: 'it returns false'. Refute it at one input. -/
def idsLawsWrong : ChangeSpec := { name := "idsLaws", fn := fun _ => fun
  | [d1, d2] => { results := [.lit (.bool false)], args := [d1, d2] }
  | _ => none }
def IdsLawsWrongFalsely : Prop := idsLawsRow.holds Try.pinned (OpenSpec.ofChange idsLawsWrong)

/- THE SECOND FORM. 'bulk': how many values and letters a reading holds, each counted each time it is reached (what is shared counts as often as it is met; a slice's spare places count too). A statement '..UptoSaid' is the law's where the arguments, and the package variables that the reading takes, are together of bulk at most 1048576: NARROWER than '..Said'. Prove '..Said' where nothing that the law and all that it calls make is longer than what came in: it says more and counts as full. Else prove '..UptoSaid'. A law counts once. -/
mutual
def uptoBulk {H : Type} : DataW H → Nat
  | .lit (.string bytes) => bytes.length + 1
  | .lit _ => 1
  | .nil => 1
  | .ptr d => uptoBulk d + 1
  | .slice elems spare => uptoBulkAll elems + uptoBulkAll spare + 1
  | .agg parts => uptoBulkAll parts + 1
  | .iface _ d => uptoBulk d + 1
  | .map entries => uptoBulkEntries entries + 1
  | .held _ => 1
def uptoBulkAll {H : Type} : List (DataW H) → Nat
  | [] => 0
  | d :: r => uptoBulk d + uptoBulkAll r
def uptoBulkEntries {H : Type} : List (Lit × DataW H) → Nat
  | [] => 0
  | x :: r => uptoBulkEntry x + uptoBulkEntries r
def uptoBulkEntry {H : Type} : Lit × DataW H → Nat
  | (.string bytes, d) => bytes.length + uptoBulk d + 1
  | (_, d) => uptoBulk d + 1
 end
def uptoSmall : (H : Type) → List (DataW H) → Bool := fun _ ds => decide (uptoBulkAll ds ≤ 1048576)
def OpenSpec.upto (s : _root_.Go.ChangeSpec) : _root_.Go.OpenSpec := { _root_.Go.OpenSpec.ofChange s with cond := some uptoSmall }

/-- 'saddlebaglaw12.LeafBytes', WHERE WHAT IT READS IS OF BULK AT MOST 1048576: true; the input reads as it did. -/
def leafBytesUptoRow : OpenClaim := { program := "ytcjabfdjngekfaa", sum := "122eb85a5bd2217a04ca1270854807f4b21e2dbc38b4426a0b1669f56d40db99", func := "saddlebag/saddlebaglaw12.LeafBytes", spec := "leafBytes", apart := false, narrowed := true }
def LeafBytesUptoSaid : Prop := leafBytesUptoRow.holds Try.pinned (OpenSpec.upto leafBytesSpec)

/-- 'saddlebaglaw21.VolumeSizes', WHERE WHAT IT READS IS OF BULK AT MOST 1048576: true; the input reads as it did. -/
def volumeSizesUptoRow : OpenClaim := { program := "ytcjabfdjngekfaa", sum := "122eb85a5bd2217a04ca1270854807f4b21e2dbc38b4426a0b1669f56d40db99", func := "saddlebag/saddlebaglaw21.VolumeSizes", spec := "volumeSizes", apart := false, narrowed := true }
def VolumeSizesUptoSaid : Prop := volumeSizesUptoRow.holds Try.pinned (OpenSpec.upto volumeSizesSpec)

/-- 'saddlebaglaw21.VolumeBack', WHERE WHAT IT READS IS OF BULK AT MOST 1048576: true; the input reads as it did. -/
def volumeBackUptoRow : OpenClaim := { program := "ytcjabfdjngekfaa", sum := "122eb85a5bd2217a04ca1270854807f4b21e2dbc38b4426a0b1669f56d40db99", func := "saddlebag/saddlebaglaw21.VolumeBack", spec := "volumeBack", apart := false, narrowed := true }
def VolumeBackUptoSaid : Prop := volumeBackUptoRow.holds Try.pinned (OpenSpec.upto volumeBackSpec)

/-- 'saddlebaglaw26.RelayBytes', WHERE WHAT IT READS IS OF BULK AT MOST 1048576: true; the input reads as it did. -/
def relayBytesUptoRow : OpenClaim := { program := "ytcjabfdjngekfaa", sum := "122eb85a5bd2217a04ca1270854807f4b21e2dbc38b4426a0b1669f56d40db99", func := "saddlebag/saddlebaglaw26.RelayBytes", spec := "relayBytes", apart := false, narrowed := true }
def RelayBytesUptoSaid : Prop := relayBytesUptoRow.holds Try.pinned (OpenSpec.upto relayBytesSpec)

/-- 'saddlebaglaw26.RelayPasses', WHERE WHAT IT READS IS OF BULK AT MOST 1048576: true; the input reads as it did. -/
def relayPassesUptoRow : OpenClaim := { program := "ytcjabfdjngekfaa", sum := "122eb85a5bd2217a04ca1270854807f4b21e2dbc38b4426a0b1669f56d40db99", func := "saddlebag/saddlebaglaw26.RelayPasses", spec := "relayPasses", apart := false, narrowed := true }
def RelayPassesUptoSaid : Prop := relayPassesUptoRow.holds Try.pinned (OpenSpec.upto relayPassesSpec)

/-- 'saddlebaglaw21.VolumeBytes', WHERE WHAT IT READS IS OF BULK AT MOST 1048576: true; the input reads as it did. -/
def volumeBytesUptoRow : OpenClaim := { program := "ytcjabfdjngekfaa", sum := "122eb85a5bd2217a04ca1270854807f4b21e2dbc38b4426a0b1669f56d40db99", func := "saddlebag/saddlebaglaw21.VolumeBytes", spec := "volumeBytes", apart := false, narrowed := true }
def VolumeBytesUptoSaid : Prop := volumeBytesUptoRow.holds Try.pinned (OpenSpec.upto volumeBytesSpec)

/-- 'saddlebaglaw12.LeafTurns', WHERE WHAT IT READS IS OF BULK AT MOST 1048576: true; the input reads as it did. -/
def leafTurnsUptoRow : OpenClaim := { program := "ytcjabfdjngekfaa", sum := "122eb85a5bd2217a04ca1270854807f4b21e2dbc38b4426a0b1669f56d40db99", func := "saddlebag/saddlebaglaw12.LeafTurns", spec := "leafTurns", inPlace := ["slices.overlaps[saddlebag/leaf.Entry]"], unfollowed := true, recurses := true, apart := false, narrowed := true }
def LeafTurnsUptoSaid : Prop := leafTurnsUptoRow.holds Try.pinned (OpenSpec.upto leafTurnsSpec)

/-- 'saddlebaglaw12.LeafBack', WHERE WHAT IT READS IS OF BULK AT MOST 1048576: true; the input reads as it did. -/
def leafBackUptoRow : OpenClaim := { program := "ytcjabfdjngekfaa", sum := "122eb85a5bd2217a04ca1270854807f4b21e2dbc38b4426a0b1669f56d40db99", func := "saddlebag/saddlebaglaw12.LeafBack", spec := "leafBack", inPlace := ["slices.overlaps[saddlebag/leaf.Entry]"], unfollowed := true, recurses := true, apart := false, narrowed := true }
def LeafBackUptoSaid : Prop := leafBackUptoRow.holds Try.pinned (OpenSpec.upto leafBackSpec)

/-- 'saddlebaglaw14.UpdateBack', WHERE WHAT IT READS IS OF BULK AT MOST 1048576: true; the input reads as it did. -/
def updateBackUptoRow : OpenClaim := { program := "ytcjabfdjngekfaa", sum := "122eb85a5bd2217a04ca1270854807f4b21e2dbc38b4426a0b1669f56d40db99", func := "saddlebag/saddlebaglaw14.UpdateBack", spec := "updateBack", inPlace := ["internal/bytealg.Compare"], unfollowed := true, recurses := true, apart := false, narrowed := true }
def UpdateBackUptoSaid : Prop := updateBackUptoRow.holds Try.pinned (OpenSpec.upto updateBackSpec)

/-- 'saddlebaglaw14.UpdateBytes', WHERE WHAT IT READS IS OF BULK AT MOST 1048576: true; the input reads as it did. -/
def updateBytesUptoRow : OpenClaim := { program := "ytcjabfdjngekfaa", sum := "122eb85a5bd2217a04ca1270854807f4b21e2dbc38b4426a0b1669f56d40db99", func := "saddlebag/saddlebaglaw14.UpdateBytes", spec := "updateBytes", inPlace := ["internal/bytealg.Compare"], unfollowed := true, recurses := true, apart := false, narrowed := true }
def UpdateBytesUptoSaid : Prop := updateBytesUptoRow.holds Try.pinned (OpenSpec.upto updateBytesSpec)

/-- 'saddlebaglaw03.IdsText', WHERE WHAT IT READS IS OF BULK AT MOST 1048576: true; the input reads as it did. -/
def idsTextUptoRow : OpenClaim := { program := "ytcjabfdjngekfaa", sum := "122eb85a5bd2217a04ca1270854807f4b21e2dbc38b4426a0b1669f56d40db99", func := "saddlebag/saddlebaglaw03.IdsText", spec := "idsText", inPlace := ["internal/bytealg.Compare"], unfollowed := true, recurses := true, apart := false, narrowed := true }
def IdsTextUptoSaid : Prop := idsTextUptoRow.holds Try.pinned (OpenSpec.upto idsTextSpec)

/-- 'saddlebaglaw03.IdsLaws', WHERE WHAT IT READS IS OF BULK AT MOST 1048576: true; the input reads as it did. -/
def idsLawsUptoRow : OpenClaim := { program := "ytcjabfdjngekfaa", sum := "122eb85a5bd2217a04ca1270854807f4b21e2dbc38b4426a0b1669f56d40db99", func := "saddlebag/saddlebaglaw03.IdsLaws", spec := "idsLaws", inPlace := ["internal/bytealg.Compare"], unfollowed := true, recurses := true, apart := false, narrowed := true }
def IdsLawsUptoSaid : Prop := idsLawsUptoRow.holds Try.pinned (OpenSpec.upto idsLawsSpec)

end Rows
end Go.Proofs.Ytcjabfdjngekfaa
