/-
  No cell of these rows narrows 'for every input' (looked for: loops, veiled, ifaces, maps, wideKeys, modest, calm, conditions, laid).
  DERIVED. THE GIVEN ROWS OF THIS SEAT. 10 by the template 'for every input the law returns true; each argument reads behind the call as it read before'; 0 by the template 'total and deterministic' (their statements: YtpldkplfdbjidaaTotals.lean).
  GIVEN WITH THE SEED: the statements are not yours to turn. If you find one false, say at which input.
  Laid BY PROGRAM, IN A SANDBOX (cutbox-rows.mjs): the forced cells as the released guide's own fill.sh prints them over the translation 82a240e7b2090709… (all of the seat's roots in one cut). By AI agents, Wed Nov 11 2026. No macro, syntax, notation, axiom, sorry.
-/
import Derived.Test.YtpldkplfdbjidaaChecked
import GoSem.Claim
import GoSem.ClaimJoined
import GoSem.ClaimMapViews
import Derived.JoinedTies
import Derived.KernelRfl
namespace Go.Proofs.Ytpldkplfdbjidaa
/- THE CELL 'sum', in the pinned program and in every row, IS THE sha256 OF THE DUMP (.gsa) THAT YtpldkplfdbjidaaProg.lean LOADS. Nothing in Lean hashes anything: it is a label: what it is worth is what the hold of that sum in a sandbox is worth. -/
noncomputable def Try.pinned : Pinned := { name := "ytpldkplfdbjidaa", sum := "82a240e7b20907091622618bf9196a1134f63993be06561d7e71bc83f329cb1c", checked := Try.checked }
namespace Rows
def none {H : Type} : Left H := { results := [], args := [] }

/-- 'saddlebaglaw03.IdsText': WHATEVER THE INPUT: true; the input reads as it did. -/
def idsTextSpec : ChangeSpec := { name := "idsText", fn := fun _ => fun
  | [d1, d2, d3] => { results := [.lit (.bool true)], args := [d1, d2, d3] }
  | _ => none }
def idsTextRow : OpenClaim := { program := "ytpldkplfdbjidaa", sum := "82a240e7b20907091622618bf9196a1134f63993be06561d7e71bc83f329cb1c", func := "saddlebag/saddlebaglaw03.IdsText", spec := "idsText", inPlace := ["internal/bytealg.Compare"], unfollowed := true, recurses := true, plainKeys := false, apart := false }
def IdsTextSaid : Prop := idsTextRow.holds Try.pinned (OpenSpec.ofChange idsTextSpec)

/-- ITS FALSE NEIGHBOUR: 'it returns false'. Refute it at one input. -/
def idsTextWrong : ChangeSpec := { name := "idsText", fn := fun _ => fun
  | [d1, d2, d3] => { results := [.lit (.bool false)], args := [d1, d2, d3] }
  | _ => none }
def IdsTextWrongFalsely : Prop := idsTextRow.holds Try.pinned (OpenSpec.ofChange idsTextWrong)

/-- 'saddlebaglaw03.IdsLaws': WHATEVER THE INPUT: true; the input reads as it did. -/
def idsLawsSpec : ChangeSpec := { name := "idsLaws", fn := fun _ => fun
  | [d1, d2] => { results := [.lit (.bool true)], args := [d1, d2] }
  | _ => none }
def idsLawsRow : OpenClaim := { program := "ytpldkplfdbjidaa", sum := "82a240e7b20907091622618bf9196a1134f63993be06561d7e71bc83f329cb1c", func := "saddlebag/saddlebaglaw03.IdsLaws", spec := "idsLaws", inPlace := ["internal/bytealg.Compare"], unfollowed := true, recurses := true, plainKeys := false, apart := false }
def IdsLawsSaid : Prop := idsLawsRow.holds Try.pinned (OpenSpec.ofChange idsLawsSpec)

/-- ITS FALSE NEIGHBOUR: 'it returns false'. Refute it at one input. -/
def idsLawsWrong : ChangeSpec := { name := "idsLaws", fn := fun _ => fun
  | [d1, d2] => { results := [.lit (.bool false)], args := [d1, d2] }
  | _ => none }
def IdsLawsWrongFalsely : Prop := idsLawsRow.holds Try.pinned (OpenSpec.ofChange idsLawsWrong)

/-- 'saddlebaglaw03.IdsBytes': WHATEVER THE INPUT: true; the input reads as it did. -/
def idsBytesSpec : ChangeSpec := { name := "idsBytes", fn := fun _ => fun
  | [d1, d2, d3] => { results := [.lit (.bool true)], args := [d1, d2, d3] }
  | _ => none }
def idsBytesRow : OpenClaim := { program := "ytpldkplfdbjidaa", sum := "82a240e7b20907091622618bf9196a1134f63993be06561d7e71bc83f329cb1c", func := "saddlebag/saddlebaglaw03.IdsBytes", spec := "idsBytes", inPlace := ["internal/bytealg.Compare"], unfollowed := true, recurses := true, plainKeys := false, apart := false }
def IdsBytesSaid : Prop := idsBytesRow.holds Try.pinned (OpenSpec.ofChange idsBytesSpec)

/-- ITS FALSE NEIGHBOUR: 'it returns false'. Refute it at one input. -/
def idsBytesWrong : ChangeSpec := { name := "idsBytes", fn := fun _ => fun
  | [d1, d2, d3] => { results := [.lit (.bool false)], args := [d1, d2, d3] }
  | _ => none }
def IdsBytesWrongFalsely : Prop := idsBytesRow.holds Try.pinned (OpenSpec.ofChange idsBytesWrong)

/-- 'saddlebaglaw03.IdsBack': WHATEVER THE INPUT: true; the input reads as it did. -/
def idsBackSpec : ChangeSpec := { name := "idsBack", fn := fun _ => fun
  | [d] => { results := [.lit (.bool true)], args := [d] }
  | _ => none }
def idsBackRow : OpenClaim := { program := "ytpldkplfdbjidaa", sum := "82a240e7b20907091622618bf9196a1134f63993be06561d7e71bc83f329cb1c", func := "saddlebag/saddlebaglaw03.IdsBack", spec := "idsBack", inPlace := ["internal/bytealg.Compare"], unfollowed := true, recurses := true, plainKeys := false, apart := false }
def IdsBackSaid : Prop := idsBackRow.holds Try.pinned (OpenSpec.ofChange idsBackSpec)

/-- ITS FALSE NEIGHBOUR: 'it returns false'. Refute it at one input. -/
def idsBackWrong : ChangeSpec := { name := "idsBack", fn := fun _ => fun
  | [d] => { results := [.lit (.bool false)], args := [d] }
  | _ => none }
def IdsBackWrongFalsely : Prop := idsBackRow.holds Try.pinned (OpenSpec.ofChange idsBackWrong)

/-- 'saddlebaglaw22.SplitPlans': WHATEVER THE INPUT: true; the input reads as it did. -/
def splitPlansSpec : ChangeSpec := { name := "splitPlans", fn := fun _ => fun
  | [d1, d2, d3] => { results := [.lit (.bool true)], args := [d1, d2, d3] }
  | _ => none }
def splitPlansRow : OpenClaim := { program := "ytpldkplfdbjidaa", sum := "82a240e7b20907091622618bf9196a1134f63993be06561d7e71bc83f329cb1c", func := "saddlebag/saddlebaglaw22.SplitPlans", spec := "splitPlans", inPlace := ["sync/atomic.LoadUint32", "(*internal/sync.Mutex).Lock", "internal/race.Disable", "sync/atomic.CompareAndSwapInt32", "internal/race.Enable", "internal/race.Acquire", "(*internal/sync.Mutex).lockSlow", "internal/sync.runtime_canSpin", "internal/sync.runtime_doSpin", "internal/sync.throw", "internal/sync.runtime_nanotime", "internal/sync.runtime_SemacquireMutex", "sync/atomic.AddInt32", "(*internal/sync.Mutex).Unlock", "internal/race.ReleaseMerge", "(*internal/sync.Mutex).unlockSlow", "internal/sync.fatal", "internal/sync.runtime_Semrelease", "sync/atomic.StoreUint32"], unfollowed := true, recurses := true, plainKeys := false, apart := false }
def SplitPlansSaid : Prop := splitPlansRow.holds Try.pinned (OpenSpec.ofChange splitPlansSpec)

/-- ITS FALSE NEIGHBOUR: 'it returns false'. Refute it at one input. -/
def splitPlansWrong : ChangeSpec := { name := "splitPlans", fn := fun _ => fun
  | [d1, d2, d3] => { results := [.lit (.bool false)], args := [d1, d2, d3] }
  | _ => none }
def SplitPlansWrongFalsely : Prop := splitPlansRow.holds Try.pinned (OpenSpec.ofChange splitPlansWrong)

/-- 'saddlebaglaw22.SplitForged': WHATEVER THE INPUT: true; the input reads as it did. -/
def splitForgedSpec : ChangeSpec := { name := "splitForged", fn := fun _ => fun
  | [d1, d2, d3] => { results := [.lit (.bool true)], args := [d1, d2, d3] }
  | _ => none }
def splitForgedRow : OpenClaim := { program := "ytpldkplfdbjidaa", sum := "82a240e7b20907091622618bf9196a1134f63993be06561d7e71bc83f329cb1c", func := "saddlebag/saddlebaglaw22.SplitForged", spec := "splitForged", inPlace := ["sync/atomic.LoadUint32", "(*internal/sync.Mutex).Lock", "internal/race.Disable", "sync/atomic.CompareAndSwapInt32", "internal/race.Enable", "internal/race.Acquire", "(*internal/sync.Mutex).lockSlow", "internal/sync.runtime_canSpin", "internal/sync.runtime_doSpin", "internal/sync.throw", "internal/sync.runtime_nanotime", "internal/sync.runtime_SemacquireMutex", "sync/atomic.AddInt32", "(*internal/sync.Mutex).Unlock", "internal/race.ReleaseMerge", "(*internal/sync.Mutex).unlockSlow", "internal/sync.fatal", "internal/sync.runtime_Semrelease", "sync/atomic.StoreUint32"], unfollowed := true, recurses := true, plainKeys := false, apart := false }
def SplitForgedSaid : Prop := splitForgedRow.holds Try.pinned (OpenSpec.ofChange splitForgedSpec)

/-- ITS FALSE NEIGHBOUR: 'it returns false'. Refute it at one input. -/
def splitForgedWrong : ChangeSpec := { name := "splitForged", fn := fun _ => fun
  | [d1, d2, d3] => { results := [.lit (.bool false)], args := [d1, d2, d3] }
  | _ => none }
def SplitForgedWrongFalsely : Prop := splitForgedRow.holds Try.pinned (OpenSpec.ofChange splitForgedWrong)

/-- 'saddlebaglaw15.DagOwn': WHATEVER THE INPUT: true; the input reads as it did. -/
def dagOwnSpec : ChangeSpec := { name := "dagOwn", fn := fun _ => fun
  | [d1, d2] => { results := [.lit (.bool true)], args := [d1, d2] }
  | _ => none }
def dagOwnRow : OpenClaim := { program := "ytpldkplfdbjidaa", sum := "82a240e7b20907091622618bf9196a1134f63993be06561d7e71bc83f329cb1c", func := "saddlebag/saddlebaglaw15.DagOwn", spec := "dagOwn", inPlace := ["internal/bytealg.Compare"], unfollowed := true, recurses := true, plainKeys := false, apart := false }
def DagOwnSaid : Prop := dagOwnRow.holds Try.pinned (OpenSpec.ofChange dagOwnSpec)

/-- ITS FALSE NEIGHBOUR: 'it returns false'. Refute it at one input. -/
def dagOwnWrong : ChangeSpec := { name := "dagOwn", fn := fun _ => fun
  | [d1, d2] => { results := [.lit (.bool false)], args := [d1, d2] }
  | _ => none }
def DagOwnWrongFalsely : Prop := dagOwnRow.holds Try.pinned (OpenSpec.ofChange dagOwnWrong)

/-- 'saddlebaglaw15.DagClosed': WHATEVER THE INPUT: true; the input reads as it did. -/
def dagClosedSpec : ChangeSpec := { name := "dagClosed", fn := fun _ => fun
  | [d1, d2] => { results := [.lit (.bool true)], args := [d1, d2] }
  | _ => none }
def dagClosedRow : OpenClaim := { program := "ytpldkplfdbjidaa", sum := "82a240e7b20907091622618bf9196a1134f63993be06561d7e71bc83f329cb1c", func := "saddlebag/saddlebaglaw15.DagClosed", spec := "dagClosed", inPlace := ["internal/bytealg.Compare"], unfollowed := true, recurses := true, plainKeys := false, apart := false }
def DagClosedSaid : Prop := dagClosedRow.holds Try.pinned (OpenSpec.ofChange dagClosedSpec)

/-- ITS FALSE NEIGHBOUR: 'it returns false'. Refute it at one input. -/
def dagClosedWrong : ChangeSpec := { name := "dagClosed", fn := fun _ => fun
  | [d1, d2] => { results := [.lit (.bool false)], args := [d1, d2] }
  | _ => none }
def DagClosedWrongFalsely : Prop := dagClosedRow.holds Try.pinned (OpenSpec.ofChange dagClosedWrong)

/-- 'saddlebaglaw16.PendNobody': WHATEVER THE INPUT: true; the input reads as it did. -/
def pendNobodySpec : ChangeSpec := { name := "pendNobody", fn := fun _ => fun
  | [d] => { results := [.lit (.bool true)], args := [d] }
  | _ => none }
def pendNobodyRow : OpenClaim := { program := "ytpldkplfdbjidaa", sum := "82a240e7b20907091622618bf9196a1134f63993be06561d7e71bc83f329cb1c", func := "saddlebag/saddlebaglaw16.PendNobody", spec := "pendNobody", inPlace := ["internal/bytealg.Compare", "maps.clone"], unfollowed := true, recurses := true, plainKeys := false, apart := false }
def PendNobodySaid : Prop := pendNobodyRow.holds Try.pinned (OpenSpec.ofChange pendNobodySpec)

/-- ITS FALSE NEIGHBOUR: 'it returns false'. Refute it at one input. -/
def pendNobodyWrong : ChangeSpec := { name := "pendNobody", fn := fun _ => fun
  | [d] => { results := [.lit (.bool false)], args := [d] }
  | _ => none }
def PendNobodyWrongFalsely : Prop := pendNobodyRow.holds Try.pinned (OpenSpec.ofChange pendNobodyWrong)

/-- 'saddlebaglaw15.DagNobody': WHATEVER THE INPUT: true; the input reads as it did. -/
def dagNobodySpec : ChangeSpec := { name := "dagNobody", fn := fun _ => fun
  | [d] => { results := [.lit (.bool true)], args := [d] }
  | _ => none }
def dagNobodyRow : OpenClaim := { program := "ytpldkplfdbjidaa", sum := "82a240e7b20907091622618bf9196a1134f63993be06561d7e71bc83f329cb1c", func := "saddlebag/saddlebaglaw15.DagNobody", spec := "dagNobody", inPlace := ["internal/bytealg.Compare"], unfollowed := true, recurses := true, plainKeys := false, apart := false }
def DagNobodySaid : Prop := dagNobodyRow.holds Try.pinned (OpenSpec.ofChange dagNobodySpec)

/-- ITS FALSE NEIGHBOUR: 'it returns false'. Refute it at one input. -/
def dagNobodyWrong : ChangeSpec := { name := "dagNobody", fn := fun _ => fun
  | [d] => { results := [.lit (.bool false)], args := [d] }
  | _ => none }
def DagNobodyWrongFalsely : Prop := dagNobodyRow.holds Try.pinned (OpenSpec.ofChange dagNobodyWrong)

/- THE SECOND FORM. 'bulk': how many values and letters a reading holds, each counted each time it is reached (what is shared counts as often as it is met; a slice's spare places count too). A statement '..UptoSaid' is the law's where the arguments, and the package variables that the reading takes, are together of bulk at most 1048576: NARROWER than '..Said'. Prove '..Said' where nothing that the law and all that it calls make is longer than what came in: it says more and counts as full. Else prove '..UptoSaid'. A law counts once. -/
mutual
def uptoBulk {H : Type} : DataW H → Nat
  | .lit (.string bytes) => bytes.length + 1
  | .lit _ => 1
  | .nil => 1
  | .ptr d => uptoBulk d + 1
  | .slice elems spare => uptoBulkAll elems + uptoBulkAll spare + 1
  | .agg parts => uptoBulkAll parts + 1
  | .iface _ d => uptoBulk d + 1
  | .map entries => uptoBulkEntries entries + 1
  | .held _ => 1
def uptoBulkAll {H : Type} : List (DataW H) → Nat
  | [] => 0
  | d :: r => uptoBulk d + uptoBulkAll r
def uptoBulkEntries {H : Type} : List (Lit × DataW H) → Nat
  | [] => 0
  | x :: r => uptoBulkEntry x + uptoBulkEntries r
def uptoBulkEntry {H : Type} : Lit × DataW H → Nat
  | (.string bytes, d) => bytes.length + uptoBulk d + 1
  | (_, d) => uptoBulk d + 1
 end
def uptoSmall : (H : Type) → List (DataW H) → Bool := fun _ ds => decide (uptoBulkAll ds ≤ 1048576)
def OpenSpec.upto (s : _root_.Go.ChangeSpec) : _root_.Go.OpenSpec := { _root_.Go.OpenSpec.ofChange s with cond := some uptoSmall }

/-- 'saddlebaglaw03.IdsText', WHERE WHAT IT READS IS OF BULK AT MOST 1048576: true; the input reads as it did. -/
def idsTextUptoRow : OpenClaim := { program := "ytpldkplfdbjidaa", sum := "82a240e7b20907091622618bf9196a1134f63993be06561d7e71bc83f329cb1c", func := "saddlebag/saddlebaglaw03.IdsText", spec := "idsText", inPlace := ["internal/bytealg.Compare"], unfollowed := true, recurses := true, plainKeys := false, apart := false, narrowed := true }
def IdsTextUptoSaid : Prop := idsTextUptoRow.holds Try.pinned (OpenSpec.upto idsTextSpec)

/-- 'saddlebaglaw03.IdsLaws', WHERE WHAT IT READS IS OF BULK AT MOST 1048576: true; the input reads as it did. -/
def idsLawsUptoRow : OpenClaim := { program := "ytpldkplfdbjidaa", sum := "82a240e7b20907091622618bf9196a1134f63993be06561d7e71bc83f329cb1c", func := "saddlebag/saddlebaglaw03.IdsLaws", spec := "idsLaws", inPlace := ["internal/bytealg.Compare"], unfollowed := true, recurses := true, plainKeys := false, apart := false, narrowed := true }
def IdsLawsUptoSaid : Prop := idsLawsUptoRow.holds Try.pinned (OpenSpec.upto idsLawsSpec)

/-- 'saddlebaglaw03.IdsBytes', WHERE WHAT IT READS IS OF BULK AT MOST 1048576: true; the input reads as it did. -/
def idsBytesUptoRow : OpenClaim := { program := "ytpldkplfdbjidaa", sum := "82a240e7b20907091622618bf9196a1134f63993be06561d7e71bc83f329cb1c", func := "saddlebag/saddlebaglaw03.IdsBytes", spec := "idsBytes", inPlace := ["internal/bytealg.Compare"], unfollowed := true, recurses := true, plainKeys := false, apart := false, narrowed := true }
def IdsBytesUptoSaid : Prop := idsBytesUptoRow.holds Try.pinned (OpenSpec.upto idsBytesSpec)

/-- 'saddlebaglaw03.IdsBack', WHERE WHAT IT READS IS OF BULK AT MOST 1048576: true; the input reads as it did. -/
def idsBackUptoRow : OpenClaim := { program := "ytpldkplfdbjidaa", sum := "82a240e7b20907091622618bf9196a1134f63993be06561d7e71bc83f329cb1c", func := "saddlebag/saddlebaglaw03.IdsBack", spec := "idsBack", inPlace := ["internal/bytealg.Compare"], unfollowed := true, recurses := true, plainKeys := false, apart := false, narrowed := true }
def IdsBackUptoSaid : Prop := idsBackUptoRow.holds Try.pinned (OpenSpec.upto idsBackSpec)

/-- 'saddlebaglaw22.SplitPlans', WHERE WHAT IT READS IS OF BULK AT MOST 1048576: true; the input reads as it did. -/
def splitPlansUptoRow : OpenClaim := { program := "ytpldkplfdbjidaa", sum := "82a240e7b20907091622618bf9196a1134f63993be06561d7e71bc83f329cb1c", func := "saddlebag/saddlebaglaw22.SplitPlans", spec := "splitPlans", inPlace := ["sync/atomic.LoadUint32", "(*internal/sync.Mutex).Lock", "internal/race.Disable", "sync/atomic.CompareAndSwapInt32", "internal/race.Enable", "internal/race.Acquire", "(*internal/sync.Mutex).lockSlow", "internal/sync.runtime_canSpin", "internal/sync.runtime_doSpin", "internal/sync.throw", "internal/sync.runtime_nanotime", "internal/sync.runtime_SemacquireMutex", "sync/atomic.AddInt32", "(*internal/sync.Mutex).Unlock", "internal/race.ReleaseMerge", "(*internal/sync.Mutex).unlockSlow", "internal/sync.fatal", "internal/sync.runtime_Semrelease", "sync/atomic.StoreUint32"], unfollowed := true, recurses := true, plainKeys := false, apart := false, narrowed := true }
def SplitPlansUptoSaid : Prop := splitPlansUptoRow.holds Try.pinned (OpenSpec.upto splitPlansSpec)

/-- 'saddlebaglaw22.SplitForged', WHERE WHAT IT READS IS OF BULK AT MOST 1048576: true; the input reads as it did. -/
def splitForgedUptoRow : OpenClaim := { program := "ytpldkplfdbjidaa", sum := "82a240e7b20907091622618bf9196a1134f63993be06561d7e71bc83f329cb1c", func := "saddlebag/saddlebaglaw22.SplitForged", spec := "splitForged", inPlace := ["sync/atomic.LoadUint32", "(*internal/sync.Mutex).Lock", "internal/race.Disable", "sync/atomic.CompareAndSwapInt32", "internal/race.Enable", "internal/race.Acquire", "(*internal/sync.Mutex).lockSlow", "internal/sync.runtime_canSpin", "internal/sync.runtime_doSpin", "internal/sync.throw", "internal/sync.runtime_nanotime", "internal/sync.runtime_SemacquireMutex", "sync/atomic.AddInt32", "(*internal/sync.Mutex).Unlock", "internal/race.ReleaseMerge", "(*internal/sync.Mutex).unlockSlow", "internal/sync.fatal", "internal/sync.runtime_Semrelease", "sync/atomic.StoreUint32"], unfollowed := true, recurses := true, plainKeys := false, apart := false, narrowed := true }
def SplitForgedUptoSaid : Prop := splitForgedUptoRow.holds Try.pinned (OpenSpec.upto splitForgedSpec)

/-- 'saddlebaglaw15.DagOwn', WHERE WHAT IT READS IS OF BULK AT MOST 1048576: true; the input reads as it did. -/
def dagOwnUptoRow : OpenClaim := { program := "ytpldkplfdbjidaa", sum := "82a240e7b20907091622618bf9196a1134f63993be06561d7e71bc83f329cb1c", func := "saddlebag/saddlebaglaw15.DagOwn", spec := "dagOwn", inPlace := ["internal/bytealg.Compare"], unfollowed := true, recurses := true, plainKeys := false, apart := false, narrowed := true }
def DagOwnUptoSaid : Prop := dagOwnUptoRow.holds Try.pinned (OpenSpec.upto dagOwnSpec)

/-- 'saddlebaglaw15.DagClosed', WHERE WHAT IT READS IS OF BULK AT MOST 1048576: true; the input reads as it did. -/
def dagClosedUptoRow : OpenClaim := { program := "ytpldkplfdbjidaa", sum := "82a240e7b20907091622618bf9196a1134f63993be06561d7e71bc83f329cb1c", func := "saddlebag/saddlebaglaw15.DagClosed", spec := "dagClosed", inPlace := ["internal/bytealg.Compare"], unfollowed := true, recurses := true, plainKeys := false, apart := false, narrowed := true }
def DagClosedUptoSaid : Prop := dagClosedUptoRow.holds Try.pinned (OpenSpec.upto dagClosedSpec)

/-- 'saddlebaglaw16.PendNobody', WHERE WHAT IT READS IS OF BULK AT MOST 1048576: true; the input reads as it did. -/
def pendNobodyUptoRow : OpenClaim := { program := "ytpldkplfdbjidaa", sum := "82a240e7b20907091622618bf9196a1134f63993be06561d7e71bc83f329cb1c", func := "saddlebag/saddlebaglaw16.PendNobody", spec := "pendNobody", inPlace := ["internal/bytealg.Compare", "maps.clone"], unfollowed := true, recurses := true, plainKeys := false, apart := false, narrowed := true }
def PendNobodyUptoSaid : Prop := pendNobodyUptoRow.holds Try.pinned (OpenSpec.upto pendNobodySpec)

/-- 'saddlebaglaw15.DagNobody', WHERE WHAT IT READS IS OF BULK AT MOST 1048576: true; the input reads as it did. -/
def dagNobodyUptoRow : OpenClaim := { program := "ytpldkplfdbjidaa", sum := "82a240e7b20907091622618bf9196a1134f63993be06561d7e71bc83f329cb1c", func := "saddlebag/saddlebaglaw15.DagNobody", spec := "dagNobody", inPlace := ["internal/bytealg.Compare"], unfollowed := true, recurses := true, plainKeys := false, apart := false, narrowed := true }
def DagNobodyUptoSaid : Prop := dagNobodyUptoRow.holds Try.pinned (OpenSpec.upto dagNobodySpec)

end Rows
end Go.Proofs.Ytpldkplfdbjidaa
