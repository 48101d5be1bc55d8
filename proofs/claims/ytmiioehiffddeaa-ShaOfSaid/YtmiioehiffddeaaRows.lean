/-
  No cell of these rows narrows 'for every input' (looked for: loops, veiled, ifaces, maps, wideKeys, modest, calm, conditions, laid).
  DERIVED. THE GIVEN ROWS OF THIS SEAT. 10 by the template 'for every input the law returns true; each argument reads behind the call as it read before'; 0 by the template 'total and deterministic' (their statements: YtmiioehiffddeaaTotals.lean).
  GIVEN WITH THE SEED: the statements are not yours to turn. If you find one false, say at which input.
  Laid BY PROGRAM, IN A SANDBOX (cutbox-rows.mjs): the forced cells as the released guide's own fill.sh prints them over the translation c7039a6e779cf260… (all of the seat's roots in one cut). By AI agents, Wed Nov 11 2026. No macro, syntax, notation, axiom, sorry.
-/
import Derived.Test.YtmiioehiffddeaaChecked
import GoSem.Claim
import GoSem.ClaimJoined
import GoSem.ClaimMapViews
import Derived.JoinedTies
import Derived.KernelRfl
namespace Go.Proofs.Ytmiioehiffddeaa
/- THE CELL 'sum', in the pinned program and in every row, IS THE sha256 OF THE DUMP (.gsa) THAT YtmiioehiffddeaaProg.lean LOADS. Nothing in Lean hashes anything: it is a label: what it is worth is what the hold of that sum in a sandbox is worth. -/
noncomputable def Try.pinned : Pinned := { name := "ytmiioehiffddeaa", sum := "c7039a6e779cf260fc8d717ad20b172b21487cf15b185c6a71be141445579a38", checked := Try.checked }
namespace Rows
def none {H : Type} : Left H := { results := [], args := [] }

/-- 'saddlebaglaw12.LeafBytes': WHATEVER THE INPUT: true; the input reads as it did. -/
def leafBytesSpec : ChangeSpec := { name := "leafBytes", fn := fun _ => fun
  | [d1, d2, d3] => { results := [.lit (.bool true)], args := [d1, d2, d3] }
  | _ => none }
def leafBytesRow : OpenClaim := { program := "ytmiioehiffddeaa", sum := "c7039a6e779cf260fc8d717ad20b172b21487cf15b185c6a71be141445579a38", func := "saddlebag/saddlebaglaw12.LeafBytes", spec := "leafBytes", apart := false }
def LeafBytesSaid : Prop := leafBytesRow.holds Try.pinned (OpenSpec.ofChange leafBytesSpec)

/-- ITS FALSE NEIGHBOUR: 'it returns false'. Refute it at one input. -/
def leafBytesWrong : ChangeSpec := { name := "leafBytes", fn := fun _ => fun
  | [d1, d2, d3] => { results := [.lit (.bool false)], args := [d1, d2, d3] }
  | _ => none }
def LeafBytesWrongFalsely : Prop := leafBytesRow.holds Try.pinned (OpenSpec.ofChange leafBytesWrong)

/-- 'saddlebaglaw02.ShaParts': WHATEVER THE INPUT: true; the input reads as it did. -/
def shaPartsSpec : ChangeSpec := { name := "shaParts", fn := fun _ => fun
  | [d] => { results := [.lit (.bool true)], args := [d] }
  | _ => none }
def shaPartsRow : OpenClaim := { program := "ytmiioehiffddeaa", sum := "c7039a6e779cf260fc8d717ad20b172b21487cf15b185c6a71be141445579a38", func := "saddlebag/saddlebaglaw02.ShaParts", spec := "shaParts", apart := false }
def ShaPartsSaid : Prop := shaPartsRow.holds Try.pinned (OpenSpec.ofChange shaPartsSpec)

/-- ITS FALSE NEIGHBOUR: 'it returns false'. Refute it at one input. -/
def shaPartsWrong : ChangeSpec := { name := "shaParts", fn := fun _ => fun
  | [d] => { results := [.lit (.bool false)], args := [d] }
  | _ => none }
def ShaPartsWrongFalsely : Prop := shaPartsRow.holds Try.pinned (OpenSpec.ofChange shaPartsWrong)

/-- 'saddlebaglaw02.ShaNobody': WHATEVER THE INPUT: true; the input reads as it did. -/
def shaNobodySpec : ChangeSpec := { name := "shaNobody", fn := fun _ => fun
  | [d] => { results := [.lit (.bool true)], args := [d] }
  | _ => none }
def shaNobodyRow : OpenClaim := { program := "ytmiioehiffddeaa", sum := "c7039a6e779cf260fc8d717ad20b172b21487cf15b185c6a71be141445579a38", func := "saddlebag/saddlebaglaw02.ShaNobody", spec := "shaNobody", apart := false }
def ShaNobodySaid : Prop := shaNobodyRow.holds Try.pinned (OpenSpec.ofChange shaNobodySpec)

/-- ITS FALSE NEIGHBOUR: 'it returns false'. Refute it at one input. -/
def shaNobodyWrong : ChangeSpec := { name := "shaNobody", fn := fun _ => fun
  | [d] => { results := [.lit (.bool false)], args := [d] }
  | _ => none }
def ShaNobodyWrongFalsely : Prop := shaNobodyRow.holds Try.pinned (OpenSpec.ofChange shaNobodyWrong)

/-- 'saddlebaglaw01.LayPuts': WHATEVER THE INPUT: true; the input reads as it did. -/
def layPutsSpec : ChangeSpec := { name := "layPuts", fn := fun _ => fun
  | [d1, d2, d3] => { results := [.lit (.bool true)], args := [d1, d2, d3] }
  | _ => none }
def layPutsRow : OpenClaim := { program := "ytmiioehiffddeaa", sum := "c7039a6e779cf260fc8d717ad20b172b21487cf15b185c6a71be141445579a38", func := "saddlebag/saddlebaglaw01.LayPuts", spec := "layPuts", apart := false }
def LayPutsSaid : Prop := layPutsRow.holds Try.pinned (OpenSpec.ofChange layPutsSpec)

/-- ITS FALSE NEIGHBOUR: 'it returns false'. Refute it at one input. -/
def layPutsWrong : ChangeSpec := { name := "layPuts", fn := fun _ => fun
  | [d1, d2, d3] => { results := [.lit (.bool false)], args := [d1, d2, d3] }
  | _ => none }
def LayPutsWrongFalsely : Prop := layPutsRow.holds Try.pinned (OpenSpec.ofChange layPutsWrong)

/-- 'saddlebaglaw01.LayBack': WHATEVER THE INPUT: true; the input reads as it did. -/
def layBackSpec : ChangeSpec := { name := "layBack", fn := fun _ => fun
  | [d1, d2] => { results := [.lit (.bool true)], args := [d1, d2] }
  | _ => none }
def layBackRow : OpenClaim := { program := "ytmiioehiffddeaa", sum := "c7039a6e779cf260fc8d717ad20b172b21487cf15b185c6a71be141445579a38", func := "saddlebag/saddlebaglaw01.LayBack", spec := "layBack", apart := false }
def LayBackSaid : Prop := layBackRow.holds Try.pinned (OpenSpec.ofChange layBackSpec)

/-- ITS FALSE NEIGHBOUR: 'it returns false'. Refute it at one input. -/
def layBackWrong : ChangeSpec := { name := "layBack", fn := fun _ => fun
  | [d1, d2] => { results := [.lit (.bool false)], args := [d1, d2] }
  | _ => none }
def LayBackWrongFalsely : Prop := layBackRow.holds Try.pinned (OpenSpec.ofChange layBackWrong)

/-- 'saddlebaglaw02.ShaConsts': WHATEVER THE INPUT: true; the input reads as it did. -/
def shaConstsSpec : ChangeSpec := { name := "shaConsts", fn := fun _ => fun
  | [d] => { results := [.lit (.bool true)], args := [d] }
  | _ => none }
def shaConstsRow : OpenClaim := { program := "ytmiioehiffddeaa", sum := "c7039a6e779cf260fc8d717ad20b172b21487cf15b185c6a71be141445579a38", func := "saddlebag/saddlebaglaw02.ShaConsts", spec := "shaConsts", apart := false }
def ShaConstsSaid : Prop := shaConstsRow.holds Try.pinned (OpenSpec.ofChange shaConstsSpec)

/-- ITS FALSE NEIGHBOUR: 'it returns false'. Refute it at one input. -/
def shaConstsWrong : ChangeSpec := { name := "shaConsts", fn := fun _ => fun
  | [d] => { results := [.lit (.bool false)], args := [d] }
  | _ => none }
def ShaConstsWrongFalsely : Prop := shaConstsRow.holds Try.pinned (OpenSpec.ofChange shaConstsWrong)

/-- 'saddlebaglaw01.LayReads': WHATEVER THE INPUT: true; the input reads as it did. -/
def layReadsSpec : ChangeSpec := { name := "layReads", fn := fun _ => fun
  | [d1, d2] => { results := [.lit (.bool true)], args := [d1, d2] }
  | _ => none }
def layReadsRow : OpenClaim := { program := "ytmiioehiffddeaa", sum := "c7039a6e779cf260fc8d717ad20b172b21487cf15b185c6a71be141445579a38", func := "saddlebag/saddlebaglaw01.LayReads", spec := "layReads", apart := false }
def LayReadsSaid : Prop := layReadsRow.holds Try.pinned (OpenSpec.ofChange layReadsSpec)

/-- ITS FALSE NEIGHBOUR: 'it returns false'. Refute it at one input. -/
def layReadsWrong : ChangeSpec := { name := "layReads", fn := fun _ => fun
  | [d1, d2] => { results := [.lit (.bool false)], args := [d1, d2] }
  | _ => none }
def LayReadsWrongFalsely : Prop := layReadsRow.holds Try.pinned (OpenSpec.ofChange layReadsWrong)

/-- 'saddlebaglaw01.LayOne': WHATEVER THE INPUT: true; the input reads as it did. -/
def layOneSpec : ChangeSpec := { name := "layOne", fn := fun _ => fun
  | [d] => { results := [.lit (.bool true)], args := [d] }
  | _ => none }
def layOneRow : OpenClaim := { program := "ytmiioehiffddeaa", sum := "c7039a6e779cf260fc8d717ad20b172b21487cf15b185c6a71be141445579a38", func := "saddlebag/saddlebaglaw01.LayOne", spec := "layOne", apart := false }
def LayOneSaid : Prop := layOneRow.holds Try.pinned (OpenSpec.ofChange layOneSpec)

/-- ITS FALSE NEIGHBOUR: 'it returns false'. Refute it at one input. -/
def layOneWrong : ChangeSpec := { name := "layOne", fn := fun _ => fun
  | [d] => { results := [.lit (.bool false)], args := [d] }
  | _ => none }
def LayOneWrongFalsely : Prop := layOneRow.holds Try.pinned (OpenSpec.ofChange layOneWrong)

/-- 'saddlebaglaw01.LayNobody': WHATEVER THE INPUT: true; the input reads as it did. -/
def layNobodySpec : ChangeSpec := { name := "layNobody", fn := fun _ => fun
  | [d] => { results := [.lit (.bool true)], args := [d] }
  | _ => none }
def layNobodyRow : OpenClaim := { program := "ytmiioehiffddeaa", sum := "c7039a6e779cf260fc8d717ad20b172b21487cf15b185c6a71be141445579a38", func := "saddlebag/saddlebaglaw01.LayNobody", spec := "layNobody", apart := false }
def LayNobodySaid : Prop := layNobodyRow.holds Try.pinned (OpenSpec.ofChange layNobodySpec)

/-- ITS FALSE NEIGHBOUR: 'it returns false'. Refute it at one input. -/
def layNobodyWrong : ChangeSpec := { name := "layNobody", fn := fun _ => fun
  | [d] => { results := [.lit (.bool false)], args := [d] }
  | _ => none }
def LayNobodyWrongFalsely : Prop := layNobodyRow.holds Try.pinned (OpenSpec.ofChange layNobodyWrong)

/-- 'saddlebaglaw02.ShaOf': WHATEVER THE INPUT: true; the input reads as it did. -/
def shaOfSpec : ChangeSpec := { name := "shaOf", fn := fun _ => fun
  | [d1, d2] => { results := [.lit (.bool true)], args := [d1, d2] }
  | _ => none }
def shaOfRow : OpenClaim := { program := "ytmiioehiffddeaa", sum := "c7039a6e779cf260fc8d717ad20b172b21487cf15b185c6a71be141445579a38", func := "saddlebag/saddlebaglaw02.ShaOf", spec := "shaOf", apart := false }
def ShaOfSaid : Prop := shaOfRow.holds Try.pinned (OpenSpec.ofChange shaOfSpec)

/-- ITS FALSE NEIGHBOUR: 'it returns false'. Refute it at one input. -/
def shaOfWrong : ChangeSpec := { name := "shaOf", fn := fun _ => fun
  | [d1, d2] => { results := [.lit (.bool false)], args := [d1, d2] }
  | _ => none }
def ShaOfWrongFalsely : Prop := shaOfRow.holds Try.pinned (OpenSpec.ofChange shaOfWrong)

/- THE SECOND FORM. 'bulk': how many values and letters a reading holds, each counted each time it is reached (what is shared counts as often as it is met; a slice's spare places count too). A statement '..UptoSaid' is the law's where the arguments, and the package variables that the reading takes, are together of bulk at most 1048576: NARROWER than '..Said'. Prove '..Said' where nothing that the law and all that it calls make is longer than what came in: it says more and counts as full. Else prove '..UptoSaid'. A law counts once. -/
mutual
def uptoBulk {H : Type} : DataW H → Nat
  | .lit (.string bytes) => bytes.length + 1
  | .lit _ => 1
  | .nil => 1
  | .ptr d => uptoBulk d + 1
  | .slice elems spare => uptoBulkAll elems + uptoBulkAll spare + 1
  | .agg parts => uptoBulkAll parts + 1
  | .iface _ d => uptoBulk d + 1
  | .map entries => uptoBulkEntries entries + 1
  | .held _ => 1
def uptoBulkAll {H : Type} : List (DataW H) → Nat
  | [] => 0
  | d :: r => uptoBulk d + uptoBulkAll r
def uptoBulkEntries {H : Type} : List (Lit × DataW H) → Nat
  | [] => 0
  | x :: r => uptoBulkEntry x + uptoBulkEntries r
def uptoBulkEntry {H : Type} : Lit × DataW H → Nat
  | (.string bytes, d) => bytes.length + uptoBulk d + 1
  | (_, d) => uptoBulk d + 1
 end
def uptoSmall : (H : Type) → List (DataW H) → Bool := fun _ ds => decide (uptoBulkAll ds ≤ 1048576)
def OpenSpec.upto (s : _root_.Go.ChangeSpec) : _root_.Go.OpenSpec := { _root_.Go.OpenSpec.ofChange s with cond := some uptoSmall }

/-- 'saddlebaglaw12.LeafBytes', WHERE WHAT IT READS IS OF BULK AT MOST 1048576: true; the input reads as it did. -/
def leafBytesUptoRow : OpenClaim := { program := "ytmiioehiffddeaa", sum := "c7039a6e779cf260fc8d717ad20b172b21487cf15b185c6a71be141445579a38", func := "saddlebag/saddlebaglaw12.LeafBytes", spec := "leafBytes", apart := false, narrowed := true }
def LeafBytesUptoSaid : Prop := leafBytesUptoRow.holds Try.pinned (OpenSpec.upto leafBytesSpec)

/-- 'saddlebaglaw02.ShaParts', WHERE WHAT IT READS IS OF BULK AT MOST 1048576: true; the input reads as it did. -/
def shaPartsUptoRow : OpenClaim := { program := "ytmiioehiffddeaa", sum := "c7039a6e779cf260fc8d717ad20b172b21487cf15b185c6a71be141445579a38", func := "saddlebag/saddlebaglaw02.ShaParts", spec := "shaParts", apart := false, narrowed := true }
def ShaPartsUptoSaid : Prop := shaPartsUptoRow.holds Try.pinned (OpenSpec.upto shaPartsSpec)

/-- 'saddlebaglaw02.ShaNobody', WHERE WHAT IT READS IS OF BULK AT MOST 1048576: true; the input reads as it did. -/
def shaNobodyUptoRow : OpenClaim := { program := "ytmiioehiffddeaa", sum := "c7039a6e779cf260fc8d717ad20b172b21487cf15b185c6a71be141445579a38", func := "saddlebag/saddlebaglaw02.ShaNobody", spec := "shaNobody", apart := false, narrowed := true }
def ShaNobodyUptoSaid : Prop := shaNobodyUptoRow.holds Try.pinned (OpenSpec.upto shaNobodySpec)

/-- 'saddlebaglaw01.LayPuts', WHERE WHAT IT READS IS OF BULK AT MOST 1048576: true; the input reads as it did. -/
def layPutsUptoRow : OpenClaim := { program := "ytmiioehiffddeaa", sum := "c7039a6e779cf260fc8d717ad20b172b21487cf15b185c6a71be141445579a38", func := "saddlebag/saddlebaglaw01.LayPuts", spec := "layPuts", apart := false, narrowed := true }
def LayPutsUptoSaid : Prop := layPutsUptoRow.holds Try.pinned (OpenSpec.upto layPutsSpec)

/-- 'saddlebaglaw01.LayBack', WHERE WHAT IT READS IS OF BULK AT MOST 1048576: true; the input reads as it did. -/
def layBackUptoRow : OpenClaim := { program := "ytmiioehiffddeaa", sum := "c7039a6e779cf260fc8d717ad20b172b21487cf15b185c6a71be141445579a38", func := "saddlebag/saddlebaglaw01.LayBack", spec := "layBack", apart := false, narrowed := true }
def LayBackUptoSaid : Prop := layBackUptoRow.holds Try.pinned (OpenSpec.upto layBackSpec)

/-- 'saddlebaglaw02.ShaConsts', WHERE WHAT IT READS IS OF BULK AT MOST 1048576: true; the input reads as it did. -/
def shaConstsUptoRow : OpenClaim := { program := "ytmiioehiffddeaa", sum := "c7039a6e779cf260fc8d717ad20b172b21487cf15b185c6a71be141445579a38", func := "saddlebag/saddlebaglaw02.ShaConsts", spec := "shaConsts", apart := false, narrowed := true }
def ShaConstsUptoSaid : Prop := shaConstsUptoRow.holds Try.pinned (OpenSpec.upto shaConstsSpec)

/-- 'saddlebaglaw01.LayReads', WHERE WHAT IT READS IS OF BULK AT MOST 1048576: true; the input reads as it did. -/
def layReadsUptoRow : OpenClaim := { program := "ytmiioehiffddeaa", sum := "c7039a6e779cf260fc8d717ad20b172b21487cf15b185c6a71be141445579a38", func := "saddlebag/saddlebaglaw01.LayReads", spec := "layReads", apart := false, narrowed := true }
def LayReadsUptoSaid : Prop := layReadsUptoRow.holds Try.pinned (OpenSpec.upto layReadsSpec)

/-- 'saddlebaglaw01.LayOne', WHERE WHAT IT READS IS OF BULK AT MOST 1048576: true; the input reads as it did. -/
def layOneUptoRow : OpenClaim := { program := "ytmiioehiffddeaa", sum := "c7039a6e779cf260fc8d717ad20b172b21487cf15b185c6a71be141445579a38", func := "saddlebag/saddlebaglaw01.LayOne", spec := "layOne", apart := false, narrowed := true }
def LayOneUptoSaid : Prop := layOneUptoRow.holds Try.pinned (OpenSpec.upto layOneSpec)

/-- 'saddlebaglaw01.LayNobody', WHERE WHAT IT READS IS OF BULK AT MOST 1048576: true; the input reads as it did. -/
def layNobodyUptoRow : OpenClaim := { program := "ytmiioehiffddeaa", sum := "c7039a6e779cf260fc8d717ad20b172b21487cf15b185c6a71be141445579a38", func := "saddlebag/saddlebaglaw01.LayNobody", spec := "layNobody", apart := false, narrowed := true }
def LayNobodyUptoSaid : Prop := layNobodyUptoRow.holds Try.pinned (OpenSpec.upto layNobodySpec)

/-- 'saddlebaglaw02.ShaOf', WHERE WHAT IT READS IS OF BULK AT MOST 1048576: true; the input reads as it did. -/
def shaOfUptoRow : OpenClaim := { program := "ytmiioehiffddeaa", sum := "c7039a6e779cf260fc8d717ad20b172b21487cf15b185c6a71be141445579a38", func := "saddlebag/saddlebaglaw02.ShaOf", spec := "shaOf", apart := false, narrowed := true }
def ShaOfUptoSaid : Prop := shaOfUptoRow.holds Try.pinned (OpenSpec.upto shaOfSpec)

end Rows
end Go.Proofs.Ytmiioehiffddeaa
