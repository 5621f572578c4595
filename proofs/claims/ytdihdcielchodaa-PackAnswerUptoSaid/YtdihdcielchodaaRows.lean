/-
  No cell of these rows narrows 'for every input' (looked for: loops, veiled, ifaces, maps, wideKeys, modest, calm, conditions, laid).
  DERIVED. THE GIVEN ROWS OF THIS SEAT. 11 by the template 'for every input the law returns true; each argument reads behind the call as it read before'; 0 by the template 'total and deterministic' (their statements: YtdihdcielchodaaTotals.lean).
  GIVEN WITH THE SEED: the statements are not yours to turn. If you find one false, say at which input.
  Laid BY PROGRAM, IN A SANDBOX (cutbox-rows.mjs): the forced cells as the released guide's own fill.sh prints them over the translation cb1e2dc6296986d8… (all of the seat's roots in one cut). By AI agents, Wed Nov 11 2026. No macro, syntax, notation, axiom, sorry.
-/
import Derived.Test.YtdihdcielchodaaChecked
import GoSem.Claim
import GoSem.ClaimJoined
import GoSem.ClaimMapViews
import Derived.JoinedTies
import Derived.KernelRfl
namespace Go.Proofs.Ytdihdcielchodaa
/- THE CELL 'sum', in the pinned program and in every row, IS THE sha256 OF THE DUMP (.gsa) THAT YtdihdcielchodaaProg.lean LOADS. Nothing in Lean hashes anything: it is a label: what it is worth is what the hold of that sum in a sandbox is worth. -/
noncomputable def Try.pinned : Pinned := { name := "ytdihdcielchodaa", sum := "cb1e2dc6296986d8c98c7c6dbe6e169675d93fecf40f3efbe2c43a3241f44ceb", checked := Try.checked }
namespace Rows
def none {H : Type} : Left H := { results := [], args := [] }

/-- 'portagelaw.FoldTells': WHATEVER THE INPUT: true; the input reads as it did. -/
def foldTellsSpec : ChangeSpec := { name := "foldTells", fn := fun _ => fun
  | [d1, d2] => { results := [.lit (.bool true)], args := [d1, d2] }
  | _ => none }
def foldTellsRow : OpenClaim := { program := "ytdihdcielchodaa", sum := "cb1e2dc6296986d8c98c7c6dbe6e169675d93fecf40f3efbe2c43a3241f44ceb", func := "portage/portagelaw.FoldTells", spec := "foldTells", inPlace := ["slices.overlaps[portage/api.Session]", "slices.overlaps[portage/api.Reply]"], unfollowed := true, recurses := true, apart := false }
def FoldTellsSaid : Prop := foldTellsRow.holds Try.pinned (OpenSpec.ofChange foldTellsSpec)

/-- ITS FALSE NEIGHBOUR: 'it returns false'. Refute it at one input. -/
def foldTellsWrong : ChangeSpec := { name := "foldTells", fn := fun _ => fun
  | [d1, d2] => { results := [.lit (.bool false)], args := [d1, d2] }
  | _ => none }
def FoldTellsWrongFalsely : Prop := foldTellsRow.holds Try.pinned (OpenSpec.ofChange foldTellsWrong)

/-- 'portagelaw.FoldSplit': WHATEVER THE INPUT: true; the input reads as it did. -/
def foldSplitSpec : ChangeSpec := { name := "foldSplit", fn := fun _ => fun
  | [d1, d2, d3] => { results := [.lit (.bool true)], args := [d1, d2, d3] }
  | _ => none }
def foldSplitRow : OpenClaim := { program := "ytdihdcielchodaa", sum := "cb1e2dc6296986d8c98c7c6dbe6e169675d93fecf40f3efbe2c43a3241f44ceb", func := "portage/portagelaw.FoldSplit", spec := "foldSplit", inPlace := ["slices.overlaps[portage/api.Session]", "slices.overlaps[portage/api.Reply]"], unfollowed := true, recurses := true, apart := false }
def FoldSplitSaid : Prop := foldSplitRow.holds Try.pinned (OpenSpec.ofChange foldSplitSpec)

/-- ITS FALSE NEIGHBOUR: 'it returns false'. Refute it at one input. -/
def foldSplitWrong : ChangeSpec := { name := "foldSplit", fn := fun _ => fun
  | [d1, d2, d3] => { results := [.lit (.bool false)], args := [d1, d2, d3] }
  | _ => none }
def FoldSplitWrongFalsely : Prop := foldSplitRow.holds Try.pinned (OpenSpec.ofChange foldSplitWrong)

/-- 'portagelaw.TraceTells': WHATEVER THE INPUT: true; the input reads as it did. -/
def traceTellsSpec : ChangeSpec := { name := "traceTells", fn := fun _ => fun
  | [d] => { results := [.lit (.bool true)], args := [d] }
  | _ => none }
def traceTellsRow : OpenClaim := { program := "ytdihdcielchodaa", sum := "cb1e2dc6296986d8c98c7c6dbe6e169675d93fecf40f3efbe2c43a3241f44ceb", func := "portage/portagelaw.TraceTells", spec := "traceTells", inPlace := ["slices.overlaps[portage/api.Session]", "slices.overlaps[portage/api.Reply]"], unfollowed := true, recurses := true, apart := false }
def TraceTellsSaid : Prop := traceTellsRow.holds Try.pinned (OpenSpec.ofChange traceTellsSpec)

/-- ITS FALSE NEIGHBOUR: 'it returns false'. Refute it at one input. -/
def traceTellsWrong : ChangeSpec := { name := "traceTells", fn := fun _ => fun
  | [d] => { results := [.lit (.bool false)], args := [d] }
  | _ => none }
def TraceTellsWrongFalsely : Prop := traceTellsRow.holds Try.pinned (OpenSpec.ofChange traceTellsWrong)

/-- 'portagelaw.TraceOnce': WHATEVER THE INPUT: true; the input reads as it did. -/
def traceOnceSpec : ChangeSpec := { name := "traceOnce", fn := fun _ => fun
  | [d1, d2, d3] => { results := [.lit (.bool true)], args := [d1, d2, d3] }
  | _ => none }
def traceOnceRow : OpenClaim := { program := "ytdihdcielchodaa", sum := "cb1e2dc6296986d8c98c7c6dbe6e169675d93fecf40f3efbe2c43a3241f44ceb", func := "portage/portagelaw.TraceOnce", spec := "traceOnce", inPlace := ["slices.overlaps[portage/api.Session]", "slices.overlaps[portage/api.Reply]"], unfollowed := true, recurses := true, apart := false }
def TraceOnceSaid : Prop := traceOnceRow.holds Try.pinned (OpenSpec.ofChange traceOnceSpec)

/-- ITS FALSE NEIGHBOUR: 'it returns false'. Refute it at one input. -/
def traceOnceWrong : ChangeSpec := { name := "traceOnce", fn := fun _ => fun
  | [d1, d2, d3] => { results := [.lit (.bool false)], args := [d1, d2, d3] }
  | _ => none }
def TraceOnceWrongFalsely : Prop := traceOnceRow.holds Try.pinned (OpenSpec.ofChange traceOnceWrong)

/-- 'portagelaw.TraceLife': WHATEVER THE INPUT: true; the input reads as it did. -/
def traceLifeSpec : ChangeSpec := { name := "traceLife", fn := fun _ => fun
  | [d1, d2, d3] => { results := [.lit (.bool true)], args := [d1, d2, d3] }
  | _ => none }
def traceLifeRow : OpenClaim := { program := "ytdihdcielchodaa", sum := "cb1e2dc6296986d8c98c7c6dbe6e169675d93fecf40f3efbe2c43a3241f44ceb", func := "portage/portagelaw.TraceLife", spec := "traceLife", inPlace := ["slices.overlaps[portage/api.Session]", "slices.overlaps[portage/api.Reply]"], unfollowed := true, recurses := true, apart := false }
def TraceLifeSaid : Prop := traceLifeRow.holds Try.pinned (OpenSpec.ofChange traceLifeSpec)

/-- ITS FALSE NEIGHBOUR: 'it returns false'. Refute it at one input. -/
def traceLifeWrong : ChangeSpec := { name := "traceLife", fn := fun _ => fun
  | [d1, d2, d3] => { results := [.lit (.bool false)], args := [d1, d2, d3] }
  | _ => none }
def TraceLifeWrongFalsely : Prop := traceLifeRow.holds Try.pinned (OpenSpec.ofChange traceLifeWrong)

/-- 'portagelaw.TraceVals': WHATEVER THE INPUT: true; the input reads as it did. -/
def traceValsSpec : ChangeSpec := { name := "traceVals", fn := fun _ => fun
  | [d] => { results := [.lit (.bool true)], args := [d] }
  | _ => none }
def traceValsRow : OpenClaim := { program := "ytdihdcielchodaa", sum := "cb1e2dc6296986d8c98c7c6dbe6e169675d93fecf40f3efbe2c43a3241f44ceb", func := "portage/portagelaw.TraceVals", spec := "traceVals", inPlace := ["slices.overlaps[portage/api.Session]", "slices.overlaps[portage/api.Reply]"], unfollowed := true, recurses := true, apart := false }
def TraceValsSaid : Prop := traceValsRow.holds Try.pinned (OpenSpec.ofChange traceValsSpec)

/-- ITS FALSE NEIGHBOUR: 'it returns false'. Refute it at one input. -/
def traceValsWrong : ChangeSpec := { name := "traceVals", fn := fun _ => fun
  | [d] => { results := [.lit (.bool false)], args := [d] }
  | _ => none }
def TraceValsWrongFalsely : Prop := traceValsRow.holds Try.pinned (OpenSpec.ofChange traceValsWrong)

/-- 'portagelaw.PackTells': WHATEVER THE INPUT: true; the input reads as it did. -/
def packTellsSpec : ChangeSpec := { name := "packTells", fn := fun _ => fun
  | [d] => { results := [.lit (.bool true)], args := [d] }
  | _ => none }
def packTellsRow : OpenClaim := { program := "ytdihdcielchodaa", sum := "cb1e2dc6296986d8c98c7c6dbe6e169675d93fecf40f3efbe2c43a3241f44ceb", func := "portage/portagelaw.PackTells", spec := "packTells", inPlace := ["slices.overlaps[portage/api.Session]", "slices.overlaps[portage/api.Reply]"], unfollowed := true, recurses := true, apart := false }
def PackTellsSaid : Prop := packTellsRow.holds Try.pinned (OpenSpec.ofChange packTellsSpec)

/-- ITS FALSE NEIGHBOUR: 'it returns false'. Refute it at one input. -/
def packTellsWrong : ChangeSpec := { name := "packTells", fn := fun _ => fun
  | [d] => { results := [.lit (.bool false)], args := [d] }
  | _ => none }
def PackTellsWrongFalsely : Prop := packTellsRow.holds Try.pinned (OpenSpec.ofChange packTellsWrong)

/-- 'portagelaw.PackCuts': WHATEVER THE INPUT: true; the input reads as it did. -/
def packCutsSpec : ChangeSpec := { name := "packCuts", fn := fun _ => fun
  | [d1, d2] => { results := [.lit (.bool true)], args := [d1, d2] }
  | _ => none }
def packCutsRow : OpenClaim := { program := "ytdihdcielchodaa", sum := "cb1e2dc6296986d8c98c7c6dbe6e169675d93fecf40f3efbe2c43a3241f44ceb", func := "portage/portagelaw.PackCuts", spec := "packCuts", inPlace := ["slices.overlaps[portage/api.Session]", "slices.overlaps[portage/api.Reply]"], unfollowed := true, recurses := true, apart := false }
def PackCutsSaid : Prop := packCutsRow.holds Try.pinned (OpenSpec.ofChange packCutsSpec)

/-- ITS FALSE NEIGHBOUR: 'it returns false'. Refute it at one input. -/
def packCutsWrong : ChangeSpec := { name := "packCuts", fn := fun _ => fun
  | [d1, d2] => { results := [.lit (.bool false)], args := [d1, d2] }
  | _ => none }
def PackCutsWrongFalsely : Prop := packCutsRow.holds Try.pinned (OpenSpec.ofChange packCutsWrong)

/-- 'portagelaw.PackPuts': WHATEVER THE INPUT: true; the input reads as it did. -/
def packPutsSpec : ChangeSpec := { name := "packPuts", fn := fun _ => fun
  | [d1, d2] => { results := [.lit (.bool true)], args := [d1, d2] }
  | _ => none }
def packPutsRow : OpenClaim := { program := "ytdihdcielchodaa", sum := "cb1e2dc6296986d8c98c7c6dbe6e169675d93fecf40f3efbe2c43a3241f44ceb", func := "portage/portagelaw.PackPuts", spec := "packPuts", inPlace := ["slices.overlaps[portage/api.Session]", "slices.overlaps[portage/api.Reply]"], unfollowed := true, recurses := true, apart := false }
def PackPutsSaid : Prop := packPutsRow.holds Try.pinned (OpenSpec.ofChange packPutsSpec)

/-- ITS FALSE NEIGHBOUR: 'it returns false'. Refute it at one input. -/
def packPutsWrong : ChangeSpec := { name := "packPuts", fn := fun _ => fun
  | [d1, d2] => { results := [.lit (.bool false)], args := [d1, d2] }
  | _ => none }
def PackPutsWrongFalsely : Prop := packPutsRow.holds Try.pinned (OpenSpec.ofChange packPutsWrong)

/-- 'portagelaw.PackTrue': WHATEVER THE INPUT: true; the input reads as it did. -/
def packTrueSpec : ChangeSpec := { name := "packTrue", fn := fun _ => fun
  | [d1, d2, d3, d4] => { results := [.lit (.bool true)], args := [d1, d2, d3, d4] }
  | _ => none }
def packTrueRow : OpenClaim := { program := "ytdihdcielchodaa", sum := "cb1e2dc6296986d8c98c7c6dbe6e169675d93fecf40f3efbe2c43a3241f44ceb", func := "portage/portagelaw.PackTrue", spec := "packTrue", inPlace := ["slices.overlaps[portage/api.Session]", "slices.overlaps[portage/api.Reply]"], unfollowed := true, recurses := true, apart := false }
def PackTrueSaid : Prop := packTrueRow.holds Try.pinned (OpenSpec.ofChange packTrueSpec)

/-- ITS FALSE NEIGHBOUR: 'it returns false'. Refute it at one input. -/
def packTrueWrong : ChangeSpec := { name := "packTrue", fn := fun _ => fun
  | [d1, d2, d3, d4] => { results := [.lit (.bool false)], args := [d1, d2, d3, d4] }
  | _ => none }
def PackTrueWrongFalsely : Prop := packTrueRow.holds Try.pinned (OpenSpec.ofChange packTrueWrong)

/-- 'portagelaw.PackAnswer': WHATEVER THE INPUT: true; the input reads as it did. -/
def packAnswerSpec : ChangeSpec := { name := "packAnswer", fn := fun _ => fun
  | [d1, d2, d3] => { results := [.lit (.bool true)], args := [d1, d2, d3] }
  | _ => none }
def packAnswerRow : OpenClaim := { program := "ytdihdcielchodaa", sum := "cb1e2dc6296986d8c98c7c6dbe6e169675d93fecf40f3efbe2c43a3241f44ceb", func := "portage/portagelaw.PackAnswer", spec := "packAnswer", inPlace := ["slices.overlaps[portage/api.Session]", "slices.overlaps[portage/api.Reply]"], unfollowed := true, recurses := true, apart := false }
def PackAnswerSaid : Prop := packAnswerRow.holds Try.pinned (OpenSpec.ofChange packAnswerSpec)

/-- ITS FALSE NEIGHBOUR: 'it returns false'. Refute it at one input. -/
def packAnswerWrong : ChangeSpec := { name := "packAnswer", fn := fun _ => fun
  | [d1, d2, d3] => { results := [.lit (.bool false)], args := [d1, d2, d3] }
  | _ => none }
def PackAnswerWrongFalsely : Prop := packAnswerRow.holds Try.pinned (OpenSpec.ofChange packAnswerWrong)

/- THE SECOND FORM. 'bulk': how many values and letters a reading holds, each counted each time it is reached (what is shared counts as often as it is met; a slice's spare places count too). A statement '..UptoSaid' is the law's where the arguments, and the package variables that the reading takes, are together of bulk at most 1048576: NARROWER than '..Said'. Prove '..Said' where nothing that the law and all that it calls make is longer than what came in: it says more and counts as full. Else prove '..UptoSaid'. A law counts once. -/
mutual
def uptoBulk {H : Type} : DataW H → Nat
  | .lit (.string bytes) => bytes.length + 1
  | .lit _ => 1
  | .nil => 1
  | .ptr d => uptoBulk d + 1
  | .slice elems spare => uptoBulkAll elems + uptoBulkAll spare + 1
  | .agg parts => uptoBulkAll parts + 1
  | .iface _ d => uptoBulk d + 1
  | .map entries => uptoBulkEntries entries + 1
  | .held _ => 1
def uptoBulkAll {H : Type} : List (DataW H) → Nat
  | [] => 0
  | d :: r => uptoBulk d + uptoBulkAll r
def uptoBulkEntries {H : Type} : List (Lit × DataW H) → Nat
  | [] => 0
  | x :: r => uptoBulkEntry x + uptoBulkEntries r
def uptoBulkEntry {H : Type} : Lit × DataW H → Nat
  | (.string bytes, d) => bytes.length + uptoBulk d + 1
  | (_, d) => uptoBulk d + 1
 end
def uptoSmall : (H : Type) → List (DataW H) → Bool := fun _ ds => decide (uptoBulkAll ds ≤ 1048576)
def OpenSpec.upto (s : _root_.Go.ChangeSpec) : _root_.Go.OpenSpec := { _root_.Go.OpenSpec.ofChange s with cond := some uptoSmall }

/-- 'portagelaw.FoldTells', WHERE WHAT IT READS IS OF BULK AT MOST 1048576: true; the input reads as it did. -/
def foldTellsUptoRow : OpenClaim := { program := "ytdihdcielchodaa", sum := "cb1e2dc6296986d8c98c7c6dbe6e169675d93fecf40f3efbe2c43a3241f44ceb", func := "portage/portagelaw.FoldTells", spec := "foldTells", inPlace := ["slices.overlaps[portage/api.Session]", "slices.overlaps[portage/api.Reply]"], unfollowed := true, recurses := true, apart := false, narrowed := true }
def FoldTellsUptoSaid : Prop := foldTellsUptoRow.holds Try.pinned (OpenSpec.upto foldTellsSpec)

/-- 'portagelaw.FoldSplit', WHERE WHAT IT READS IS OF BULK AT MOST 1048576: true; the input reads as it did. -/
def foldSplitUptoRow : OpenClaim := { program := "ytdihdcielchodaa", sum := "cb1e2dc6296986d8c98c7c6dbe6e169675d93fecf40f3efbe2c43a3241f44ceb", func := "portage/portagelaw.FoldSplit", spec := "foldSplit", inPlace := ["slices.overlaps[portage/api.Session]", "slices.overlaps[portage/api.Reply]"], unfollowed := true, recurses := true, apart := false, narrowed := true }
def FoldSplitUptoSaid : Prop := foldSplitUptoRow.holds Try.pinned (OpenSpec.upto foldSplitSpec)

/-- 'portagelaw.TraceTells', WHERE WHAT IT READS IS OF BULK AT MOST 1048576: true; the input reads as it did. -/
def traceTellsUptoRow : OpenClaim := { program := "ytdihdcielchodaa", sum := "cb1e2dc6296986d8c98c7c6dbe6e169675d93fecf40f3efbe2c43a3241f44ceb", func := "portage/portagelaw.TraceTells", spec := "traceTells", inPlace := ["slices.overlaps[portage/api.Session]", "slices.overlaps[portage/api.Reply]"], unfollowed := true, recurses := true, apart := false, narrowed := true }
def TraceTellsUptoSaid : Prop := traceTellsUptoRow.holds Try.pinned (OpenSpec.upto traceTellsSpec)

/-- 'portagelaw.TraceOnce', WHERE WHAT IT READS IS OF BULK AT MOST 1048576: true; the input reads as it did. -/
def traceOnceUptoRow : OpenClaim := { program := "ytdihdcielchodaa", sum := "cb1e2dc6296986d8c98c7c6dbe6e169675d93fecf40f3efbe2c43a3241f44ceb", func := "portage/portagelaw.TraceOnce", spec := "traceOnce", inPlace := ["slices.overlaps[portage/api.Session]", "slices.overlaps[portage/api.Reply]"], unfollowed := true, recurses := true, apart := false, narrowed := true }
def TraceOnceUptoSaid : Prop := traceOnceUptoRow.holds Try.pinned (OpenSpec.upto traceOnceSpec)

/-- 'portagelaw.TraceLife', WHERE WHAT IT READS IS OF BULK AT MOST 1048576: true; the input reads as it did. -/
def traceLifeUptoRow : OpenClaim := { program := "ytdihdcielchodaa", sum := "cb1e2dc6296986d8c98c7c6dbe6e169675d93fecf40f3efbe2c43a3241f44ceb", func := "portage/portagelaw.TraceLife", spec := "traceLife", inPlace := ["slices.overlaps[portage/api.Session]", "slices.overlaps[portage/api.Reply]"], unfollowed := true, recurses := true, apart := false, narrowed := true }
def TraceLifeUptoSaid : Prop := traceLifeUptoRow.holds Try.pinned (OpenSpec.upto traceLifeSpec)

/-- 'portagelaw.TraceVals', WHERE WHAT IT READS IS OF BULK AT MOST 1048576: true; the input reads as it did. -/
def traceValsUptoRow : OpenClaim := { program := "ytdihdcielchodaa", sum := "cb1e2dc6296986d8c98c7c6dbe6e169675d93fecf40f3efbe2c43a3241f44ceb", func := "portage/portagelaw.TraceVals", spec := "traceVals", inPlace := ["slices.overlaps[portage/api.Session]", "slices.overlaps[portage/api.Reply]"], unfollowed := true, recurses := true, apart := false, narrowed := true }
def TraceValsUptoSaid : Prop := traceValsUptoRow.holds Try.pinned (OpenSpec.upto traceValsSpec)

/-- 'portagelaw.PackTells', WHERE WHAT IT READS IS OF BULK AT MOST 1048576: true; the input reads as it did. -/
def packTellsUptoRow : OpenClaim := { program := "ytdihdcielchodaa", sum := "cb1e2dc6296986d8c98c7c6dbe6e169675d93fecf40f3efbe2c43a3241f44ceb", func := "portage/portagelaw.PackTells", spec := "packTells", inPlace := ["slices.overlaps[portage/api.Session]", "slices.overlaps[portage/api.Reply]"], unfollowed := true, recurses := true, apart := false, narrowed := true }
def PackTellsUptoSaid : Prop := packTellsUptoRow.holds Try.pinned (OpenSpec.upto packTellsSpec)

/-- 'portagelaw.PackCuts', WHERE WHAT IT READS IS OF BULK AT MOST 1048576: true; the input reads as it did. -/
def packCutsUptoRow : OpenClaim := { program := "ytdihdcielchodaa", sum := "cb1e2dc6296986d8c98c7c6dbe6e169675d93fecf40f3efbe2c43a3241f44ceb", func := "portage/portagelaw.PackCuts", spec := "packCuts", inPlace := ["slices.overlaps[portage/api.Session]", "slices.overlaps[portage/api.Reply]"], unfollowed := true, recurses := true, apart := false, narrowed := true }
def PackCutsUptoSaid : Prop := packCutsUptoRow.holds Try.pinned (OpenSpec.upto packCutsSpec)

/-- 'portagelaw.PackPuts', WHERE WHAT IT READS IS OF BULK AT MOST 1048576: true; the input reads as it did. -/
def packPutsUptoRow : OpenClaim := { program := "ytdihdcielchodaa", sum := "cb1e2dc6296986d8c98c7c6dbe6e169675d93fecf40f3efbe2c43a3241f44ceb", func := "portage/portagelaw.PackPuts", spec := "packPuts", inPlace := ["slices.overlaps[portage/api.Session]", "slices.overlaps[portage/api.Reply]"], unfollowed := true, recurses := true, apart := false, narrowed := true }
def PackPutsUptoSaid : Prop := packPutsUptoRow.holds Try.pinned (OpenSpec.upto packPutsSpec)

/-- 'portagelaw.PackTrue', WHERE WHAT IT READS IS OF BULK AT MOST 1048576: true; the input reads as it did. -/
def packTrueUptoRow : OpenClaim := { program := "ytdihdcielchodaa", sum := "cb1e2dc6296986d8c98c7c6dbe6e169675d93fecf40f3efbe2c43a3241f44ceb", func := "portage/portagelaw.PackTrue", spec := "packTrue", inPlace := ["slices.overlaps[portage/api.Session]", "slices.overlaps[portage/api.Reply]"], unfollowed := true, recurses := true, apart := false, narrowed := true }
def PackTrueUptoSaid : Prop := packTrueUptoRow.holds Try.pinned (OpenSpec.upto packTrueSpec)

/-- 'portagelaw.PackAnswer', WHERE WHAT IT READS IS OF BULK AT MOST 1048576: true; the input reads as it did. -/
def packAnswerUptoRow : OpenClaim := { program := "ytdihdcielchodaa", sum := "cb1e2dc6296986d8c98c7c6dbe6e169675d93fecf40f3efbe2c43a3241f44ceb", func := "portage/portagelaw.PackAnswer", spec := "packAnswer", inPlace := ["slices.overlaps[portage/api.Session]", "slices.overlaps[portage/api.Reply]"], unfollowed := true, recurses := true, apart := false, narrowed := true }
def PackAnswerUptoSaid : Prop := packAnswerUptoRow.holds Try.pinned (OpenSpec.upto packAnswerSpec)

end Rows
end Go.Proofs.Ytdihdcielchodaa
