/-
  No cell of these rows narrows 'for every input' (looked for: loops, veiled, ifaces, maps, wideKeys, modest, calm, conditions, laid).
  DERIVED. THE GIVEN ROWS OF THIS SEAT. 12 by the template 'for every input the law returns true; each argument reads behind the call as it read before'; 0 by the template 'total and deterministic' (their statements: YtdmaehpdccpnoaaTotals.lean).
  GIVEN WITH THE SEED: the statements are not yours to turn. If you find one false, say at which input.
  Laid BY PROGRAM, IN A SANDBOX (cutbox-rows.mjs): the forced cells as the released guide's own fill.sh prints them over the translation 0a64dcd9bba3b45b… (all of the seat's roots in one cut). By AI agents, Wed Nov 11 2026. No macro, syntax, notation, axiom, sorry.
-/
import Derived.Test.YtdmaehpdccpnoaaChecked
import GoSem.Claim
import GoSem.ClaimJoined
import GoSem.ClaimMapViews
import Derived.JoinedTies
import Derived.KernelRfl
namespace Go.Proofs.Ytdmaehpdccpnoaa
/- THE CELL 'sum', in the pinned program and in every row, IS THE sha256 OF THE DUMP (.gsa) THAT YtdmaehpdccpnoaaProg.lean LOADS. Nothing in Lean hashes anything: it is a label: what it is worth is what the hold of that sum in a sandbox is worth. -/
noncomputable def Try.pinned : Pinned := { name := "ytdmaehpdccpnoaa", sum := "0a64dcd9bba3b45b3f7654f02b5e218be550e72bb16e084393cabb91c9d4499f", checked := Try.checked }
namespace Rows
def none {H : Type} : Left H := { results := [], args := [] }

/-- 'portagelaw.ApplyChecks': WHATEVER THE INPUT: true; the input reads as it did. -/
def applyChecksSpec : ChangeSpec := { name := "applyChecks", fn := fun _ => fun
  | [d] => { results := [.lit (.bool true)], args := [d] }
  | _ => none }
def applyChecksRow : OpenClaim := { program := "ytdmaehpdccpnoaa", sum := "0a64dcd9bba3b45b3f7654f02b5e218be550e72bb16e084393cabb91c9d4499f", func := "portage/portagelaw.ApplyChecks", spec := "applyChecks", inPlace := ["slices.overlaps[portage/api.Session]", "slices.overlaps[portage/api.Reply]"], unfollowed := true, recurses := true, apart := false }
def ApplyChecksSaid : Prop := applyChecksRow.holds Try.pinned (OpenSpec.ofChange applyChecksSpec)

/-- ITS FALSE NEIGHBOUR: 'it returns false'. Refute it at one input. -/
def applyChecksWrong : ChangeSpec := { name := "applyChecks", fn := fun _ => fun
  | [d] => { results := [.lit (.bool false)], args := [d] }
  | _ => none }
def ApplyChecksWrongFalsely : Prop := applyChecksRow.holds Try.pinned (OpenSpec.ofChange applyChecksWrong)

/-- 'portagelaw.ApplyOnes': WHATEVER THE INPUT: true; the input reads as it did. -/
def applyOnesSpec : ChangeSpec := { name := "applyOnes", fn := fun _ => fun
  | [d1, d2] => { results := [.lit (.bool true)], args := [d1, d2] }
  | _ => none }
def applyOnesRow : OpenClaim := { program := "ytdmaehpdccpnoaa", sum := "0a64dcd9bba3b45b3f7654f02b5e218be550e72bb16e084393cabb91c9d4499f", func := "portage/portagelaw.ApplyOnes", spec := "applyOnes", inPlace := ["slices.overlaps[portage/api.Session]", "slices.overlaps[portage/api.Reply]"], unfollowed := true, recurses := true, apart := false }
def ApplyOnesSaid : Prop := applyOnesRow.holds Try.pinned (OpenSpec.ofChange applyOnesSpec)

/-- ITS FALSE NEIGHBOUR: 'it returns false'. Refute it at one input. -/
def applyOnesWrong : ChangeSpec := { name := "applyOnes", fn := fun _ => fun
  | [d1, d2] => { results := [.lit (.bool false)], args := [d1, d2] }
  | _ => none }
def ApplyOnesWrongFalsely : Prop := applyOnesRow.holds Try.pinned (OpenSpec.ofChange applyOnesWrong)

/-- 'portagelaw.ApplyAgain': WHATEVER THE INPUT: true; the input reads as it did. -/
def applyAgainSpec : ChangeSpec := { name := "applyAgain", fn := fun _ => fun
  | [d1, d2, d3] => { results := [.lit (.bool true)], args := [d1, d2, d3] }
  | _ => none }
def applyAgainRow : OpenClaim := { program := "ytdmaehpdccpnoaa", sum := "0a64dcd9bba3b45b3f7654f02b5e218be550e72bb16e084393cabb91c9d4499f", func := "portage/portagelaw.ApplyAgain", spec := "applyAgain", inPlace := ["slices.overlaps[portage/api.Session]", "slices.overlaps[portage/api.Reply]"], unfollowed := true, recurses := true, apart := false }
def ApplyAgainSaid : Prop := applyAgainRow.holds Try.pinned (OpenSpec.ofChange applyAgainSpec)

/-- ITS FALSE NEIGHBOUR: 'it returns false'. Refute it at one input. -/
def applyAgainWrong : ChangeSpec := { name := "applyAgain", fn := fun _ => fun
  | [d1, d2, d3] => { results := [.lit (.bool false)], args := [d1, d2, d3] }
  | _ => none }
def ApplyAgainWrongFalsely : Prop := applyAgainRow.holds Try.pinned (OpenSpec.ofChange applyAgainWrong)

/-- 'portagelaw.ApplyKept': WHATEVER THE INPUT: true; the input reads as it did. -/
def applyKeptSpec : ChangeSpec := { name := "applyKept", fn := fun _ => fun
  | [d1, d2, d3] => { results := [.lit (.bool true)], args := [d1, d2, d3] }
  | _ => none }
def applyKeptRow : OpenClaim := { program := "ytdmaehpdccpnoaa", sum := "0a64dcd9bba3b45b3f7654f02b5e218be550e72bb16e084393cabb91c9d4499f", func := "portage/portagelaw.ApplyKept", spec := "applyKept", inPlace := ["slices.overlaps[portage/api.Session]", "slices.overlaps[portage/api.Reply]"], unfollowed := true, recurses := true, apart := false }
def ApplyKeptSaid : Prop := applyKeptRow.holds Try.pinned (OpenSpec.ofChange applyKeptSpec)

/-- ITS FALSE NEIGHBOUR: 'it returns false'. Refute it at one input. -/
def applyKeptWrong : ChangeSpec := { name := "applyKept", fn := fun _ => fun
  | [d1, d2, d3] => { results := [.lit (.bool false)], args := [d1, d2, d3] }
  | _ => none }
def ApplyKeptWrongFalsely : Prop := applyKeptRow.holds Try.pinned (OpenSpec.ofChange applyKeptWrong)

/-- 'portagelaw.ApplyTrue': WHATEVER THE INPUT: true; the input reads as it did. -/
def applyTrueSpec : ChangeSpec := { name := "applyTrue", fn := fun _ => fun
  | [d1, d2] => { results := [.lit (.bool true)], args := [d1, d2] }
  | _ => none }
def applyTrueRow : OpenClaim := { program := "ytdmaehpdccpnoaa", sum := "0a64dcd9bba3b45b3f7654f02b5e218be550e72bb16e084393cabb91c9d4499f", func := "portage/portagelaw.ApplyTrue", spec := "applyTrue", inPlace := ["slices.overlaps[portage/api.Session]", "slices.overlaps[portage/api.Reply]"], unfollowed := true, recurses := true, apart := false }
def ApplyTrueSaid : Prop := applyTrueRow.holds Try.pinned (OpenSpec.ofChange applyTrueSpec)

/-- ITS FALSE NEIGHBOUR: 'it returns false'. Refute it at one input. -/
def applyTrueWrong : ChangeSpec := { name := "applyTrue", fn := fun _ => fun
  | [d1, d2] => { results := [.lit (.bool false)], args := [d1, d2] }
  | _ => none }
def ApplyTrueWrongFalsely : Prop := applyTrueRow.holds Try.pinned (OpenSpec.ofChange applyTrueWrong)

/-- 'portagelaw.StubTells': WHATEVER THE INPUT: true; the input reads as it did. -/
def stubTellsSpec : ChangeSpec := { name := "stubTells", fn := fun _ => fun
  | [d1, d2, d3] => { results := [.lit (.bool true)], args := [d1, d2, d3] }
  | _ => none }
def stubTellsRow : OpenClaim := { program := "ytdmaehpdccpnoaa", sum := "0a64dcd9bba3b45b3f7654f02b5e218be550e72bb16e084393cabb91c9d4499f", func := "portage/portagelaw.StubTells", spec := "stubTells", inPlace := ["slices.overlaps[int]"], unfollowed := true, recurses := true, apart := false }
def StubTellsSaid : Prop := stubTellsRow.holds Try.pinned (OpenSpec.ofChange stubTellsSpec)

/-- ITS FALSE NEIGHBOUR: 'it returns false'. Refute it at one input. -/
def stubTellsWrong : ChangeSpec := { name := "stubTells", fn := fun _ => fun
  | [d1, d2, d3] => { results := [.lit (.bool false)], args := [d1, d2, d3] }
  | _ => none }
def StubTellsWrongFalsely : Prop := stubTellsRow.holds Try.pinned (OpenSpec.ofChange stubTellsWrong)

/-- 'portagelaw.StubAgain': WHATEVER THE INPUT: true; the input reads as it did. -/
def stubAgainSpec : ChangeSpec := { name := "stubAgain", fn := fun _ => fun
  | [d1, d2, d3, d4] => { results := [.lit (.bool true)], args := [d1, d2, d3, d4] }
  | _ => none }
def stubAgainRow : OpenClaim := { program := "ytdmaehpdccpnoaa", sum := "0a64dcd9bba3b45b3f7654f02b5e218be550e72bb16e084393cabb91c9d4499f", func := "portage/portagelaw.StubAgain", spec := "stubAgain", inPlace := ["slices.overlaps[int]"], unfollowed := true, recurses := true, apart := false }
def StubAgainSaid : Prop := stubAgainRow.holds Try.pinned (OpenSpec.ofChange stubAgainSpec)

/-- ITS FALSE NEIGHBOUR: 'it returns false'. Refute it at one input. -/
def stubAgainWrong : ChangeSpec := { name := "stubAgain", fn := fun _ => fun
  | [d1, d2, d3, d4] => { results := [.lit (.bool false)], args := [d1, d2, d3, d4] }
  | _ => none }
def StubAgainWrongFalsely : Prop := stubAgainRow.holds Try.pinned (OpenSpec.ofChange stubAgainWrong)

/-- 'portagelaw.LogTells': WHATEVER THE INPUT: true; the input reads as it did. -/
def logTellsSpec : ChangeSpec := { name := "logTells", fn := fun _ => fun
  | [d1, d2] => { results := [.lit (.bool true)], args := [d1, d2] }
  | _ => none }
def logTellsRow : OpenClaim := { program := "ytdmaehpdccpnoaa", sum := "0a64dcd9bba3b45b3f7654f02b5e218be550e72bb16e084393cabb91c9d4499f", func := "portage/portagelaw.LogTells", spec := "logTells", unfollowed := true, recurses := true, apart := false }
def LogTellsSaid : Prop := logTellsRow.holds Try.pinned (OpenSpec.ofChange logTellsSpec)

/-- ITS FALSE NEIGHBOUR: 'it returns false'. Refute it at one input. -/
def logTellsWrong : ChangeSpec := { name := "logTells", fn := fun _ => fun
  | [d1, d2] => { results := [.lit (.bool false)], args := [d1, d2] }
  | _ => none }
def LogTellsWrongFalsely : Prop := logTellsRow.holds Try.pinned (OpenSpec.ofChange logTellsWrong)

/-- 'portagelaw.LogKept': WHATEVER THE INPUT: true; the input reads as it did. -/
def logKeptSpec : ChangeSpec := { name := "logKept", fn := fun _ => fun
  | [d1, d2] => { results := [.lit (.bool true)], args := [d1, d2] }
  | _ => none }
def logKeptRow : OpenClaim := { program := "ytdmaehpdccpnoaa", sum := "0a64dcd9bba3b45b3f7654f02b5e218be550e72bb16e084393cabb91c9d4499f", func := "portage/portagelaw.LogKept", spec := "logKept", unfollowed := true, recurses := true, apart := false }
def LogKeptSaid : Prop := logKeptRow.holds Try.pinned (OpenSpec.ofChange logKeptSpec)

/-- ITS FALSE NEIGHBOUR: 'it returns false'. Refute it at one input. -/
def logKeptWrong : ChangeSpec := { name := "logKept", fn := fun _ => fun
  | [d1, d2] => { results := [.lit (.bool false)], args := [d1, d2] }
  | _ => none }
def LogKeptWrongFalsely : Prop := logKeptRow.holds Try.pinned (OpenSpec.ofChange logKeptWrong)

/-- 'portagelaw.SnapWrites': WHATEVER THE INPUT: true; the input reads as it did. -/
def snapWritesSpec : ChangeSpec := { name := "snapWrites", fn := fun _ => fun
  | [d1, d2] => { results := [.lit (.bool true)], args := [d1, d2] }
  | _ => none }
def snapWritesRow : OpenClaim := { program := "ytdmaehpdccpnoaa", sum := "0a64dcd9bba3b45b3f7654f02b5e218be550e72bb16e084393cabb91c9d4499f", func := "portage/portagelaw.SnapWrites", spec := "snapWrites", unfollowed := true, recurses := true, apart := false }
def SnapWritesSaid : Prop := snapWritesRow.holds Try.pinned (OpenSpec.ofChange snapWritesSpec)

/-- ITS FALSE NEIGHBOUR: 'it returns false'. Refute it at one input. -/
def snapWritesWrong : ChangeSpec := { name := "snapWrites", fn := fun _ => fun
  | [d1, d2] => { results := [.lit (.bool false)], args := [d1, d2] }
  | _ => none }
def SnapWritesWrongFalsely : Prop := snapWritesRow.holds Try.pinned (OpenSpec.ofChange snapWritesWrong)

/-- 'portagelaw.SnapBack': WHATEVER THE INPUT: true; the input reads as it did. -/
def snapBackSpec : ChangeSpec := { name := "snapBack", fn := fun _ => fun
  | [d1, d2] => { results := [.lit (.bool true)], args := [d1, d2] }
  | _ => none }
def snapBackRow : OpenClaim := { program := "ytdmaehpdccpnoaa", sum := "0a64dcd9bba3b45b3f7654f02b5e218be550e72bb16e084393cabb91c9d4499f", func := "portage/portagelaw.SnapBack", spec := "snapBack", unfollowed := true, recurses := true, apart := false }
def SnapBackSaid : Prop := snapBackRow.holds Try.pinned (OpenSpec.ofChange snapBackSpec)

/-- ITS FALSE NEIGHBOUR: 'it returns false'. Refute it at one input. -/
def snapBackWrong : ChangeSpec := { name := "snapBack", fn := fun _ => fun
  | [d1, d2] => { results := [.lit (.bool false)], args := [d1, d2] }
  | _ => none }
def SnapBackWrongFalsely : Prop := snapBackRow.holds Try.pinned (OpenSpec.ofChange snapBackWrong)

/-- 'portagelaw.SnapOne': WHATEVER THE INPUT: true; the input reads as it did. -/
def snapOneSpec : ChangeSpec := { name := "snapOne", fn := fun _ => fun
  | [d1, d2] => { results := [.lit (.bool true)], args := [d1, d2] }
  | _ => none }
def snapOneRow : OpenClaim := { program := "ytdmaehpdccpnoaa", sum := "0a64dcd9bba3b45b3f7654f02b5e218be550e72bb16e084393cabb91c9d4499f", func := "portage/portagelaw.SnapOne", spec := "snapOne", unfollowed := true, recurses := true, apart := false }
def SnapOneSaid : Prop := snapOneRow.holds Try.pinned (OpenSpec.ofChange snapOneSpec)

/-- ITS FALSE NEIGHBOUR: 'it returns false'. Refute it at one input. -/
def snapOneWrong : ChangeSpec := { name := "snapOne", fn := fun _ => fun
  | [d1, d2] => { results := [.lit (.bool false)], args := [d1, d2] }
  | _ => none }
def SnapOneWrongFalsely : Prop := snapOneRow.holds Try.pinned (OpenSpec.ofChange snapOneWrong)

/- THE SECOND FORM. 'bulk': how many values and letters a reading holds, each counted each time it is reached (what is shared counts as often as it is met; a slice's spare places count too). A statement '..UptoSaid' is the law's where the arguments, and the package variables that the reading takes, are together of bulk at most 1048576: NARROWER than '..Said'. Prove '..Said' where nothing that the law and all that it calls make is longer than what came in: it says more and counts as full. Else prove '..UptoSaid'. A law counts once. -/
mutual
def uptoBulk {H : Type} : DataW H → Nat
  | .lit (.string bytes) => bytes.length + 1
  | .lit _ => 1
  | .nil => 1
  | .ptr d => uptoBulk d + 1
  | .slice elems spare => uptoBulkAll elems + uptoBulkAll spare + 1
  | .agg parts => uptoBulkAll parts + 1
  | .iface _ d => uptoBulk d + 1
  | .map entries => uptoBulkEntries entries + 1
  | .held _ => 1
def uptoBulkAll {H : Type} : List (DataW H) → Nat
  | [] => 0
  | d :: r => uptoBulk d + uptoBulkAll r
def uptoBulkEntries {H : Type} : List (Lit × DataW H) → Nat
  | [] => 0
  | x :: r => uptoBulkEntry x + uptoBulkEntries r
def uptoBulkEntry {H : Type} : Lit × DataW H → Nat
  | (.string bytes, d) => bytes.length + uptoBulk d + 1
  | (_, d) => uptoBulk d + 1
 end
def uptoSmall : (H : Type) → List (DataW H) → Bool := fun _ ds => decide (uptoBulkAll ds ≤ 1048576)
def OpenSpec.upto (s : _root_.Go.ChangeSpec) : _root_.Go.OpenSpec := { _root_.Go.OpenSpec.ofChange s with cond := some uptoSmall }

/-- 'portagelaw.ApplyChecks', WHERE WHAT IT READS IS OF BULK AT MOST 1048576: true; the input reads as it did. -/
def applyChecksUptoRow : OpenClaim := { program := "ytdmaehpdccpnoaa", sum := "0a64dcd9bba3b45b3f7654f02b5e218be550e72bb16e084393cabb91c9d4499f", func := "portage/portagelaw.ApplyChecks", spec := "applyChecks", inPlace := ["slices.overlaps[portage/api.Session]", "slices.overlaps[portage/api.Reply]"], unfollowed := true, recurses := true, apart := false, narrowed := true }
def ApplyChecksUptoSaid : Prop := applyChecksUptoRow.holds Try.pinned (OpenSpec.upto applyChecksSpec)

/-- 'portagelaw.ApplyOnes', WHERE WHAT IT READS IS OF BULK AT MOST 1048576: true; the input reads as it did. -/
def applyOnesUptoRow : OpenClaim := { program := "ytdmaehpdccpnoaa", sum := "0a64dcd9bba3b45b3f7654f02b5e218be550e72bb16e084393cabb91c9d4499f", func := "portage/portagelaw.ApplyOnes", spec := "applyOnes", inPlace := ["slices.overlaps[portage/api.Session]", "slices.overlaps[portage/api.Reply]"], unfollowed := true, recurses := true, apart := false, narrowed := true }
def ApplyOnesUptoSaid : Prop := applyOnesUptoRow.holds Try.pinned (OpenSpec.upto applyOnesSpec)

/-- 'portagelaw.ApplyAgain', WHERE WHAT IT READS IS OF BULK AT MOST 1048576: true; the input reads as it did. -/
def applyAgainUptoRow : OpenClaim := { program := "ytdmaehpdccpnoaa", sum := "0a64dcd9bba3b45b3f7654f02b5e218be550e72bb16e084393cabb91c9d4499f", func := "portage/portagelaw.ApplyAgain", spec := "applyAgain", inPlace := ["slices.overlaps[portage/api.Session]", "slices.overlaps[portage/api.Reply]"], unfollowed := true, recurses := true, apart := false, narrowed := true }
def ApplyAgainUptoSaid : Prop := applyAgainUptoRow.holds Try.pinned (OpenSpec.upto applyAgainSpec)

/-- 'portagelaw.ApplyKept', WHERE WHAT IT READS IS OF BULK AT MOST 1048576: true; the input reads as it did. -/
def applyKeptUptoRow : OpenClaim := { program := "ytdmaehpdccpnoaa", sum := "0a64dcd9bba3b45b3f7654f02b5e218be550e72bb16e084393cabb91c9d4499f", func := "portage/portagelaw.ApplyKept", spec := "applyKept", inPlace := ["slices.overlaps[portage/api.Session]", "slices.overlaps[portage/api.Reply]"], unfollowed := true, recurses := true, apart := false, narrowed := true }
def ApplyKeptUptoSaid : Prop := applyKeptUptoRow.holds Try.pinned (OpenSpec.upto applyKeptSpec)

/-- 'portagelaw.ApplyTrue', WHERE WHAT IT READS IS OF BULK AT MOST 1048576: true; the input reads as it did. -/
def applyTrueUptoRow : OpenClaim := { program := "ytdmaehpdccpnoaa", sum := "0a64dcd9bba3b45b3f7654f02b5e218be550e72bb16e084393cabb91c9d4499f", func := "portage/portagelaw.ApplyTrue", spec := "applyTrue", inPlace := ["slices.overlaps[portage/api.Session]", "slices.overlaps[portage/api.Reply]"], unfollowed := true, recurses := true, apart := false, narrowed := true }
def ApplyTrueUptoSaid : Prop := applyTrueUptoRow.holds Try.pinned (OpenSpec.upto applyTrueSpec)

/-- 'portagelaw.StubTells', WHERE WHAT IT READS IS OF BULK AT MOST 1048576: true; the input reads as it did. -/
def stubTellsUptoRow : OpenClaim := { program := "ytdmaehpdccpnoaa", sum := "0a64dcd9bba3b45b3f7654f02b5e218be550e72bb16e084393cabb91c9d4499f", func := "portage/portagelaw.StubTells", spec := "stubTells", inPlace := ["slices.overlaps[int]"], unfollowed := true, recurses := true, apart := false, narrowed := true }
def StubTellsUptoSaid : Prop := stubTellsUptoRow.holds Try.pinned (OpenSpec.upto stubTellsSpec)

/-- 'portagelaw.StubAgain', WHERE WHAT IT READS IS OF BULK AT MOST 1048576: true; the input reads as it did. -/
def stubAgainUptoRow : OpenClaim := { program := "ytdmaehpdccpnoaa", sum := "0a64dcd9bba3b45b3f7654f02b5e218be550e72bb16e084393cabb91c9d4499f", func := "portage/portagelaw.StubAgain", spec := "stubAgain", inPlace := ["slices.overlaps[int]"], unfollowed := true, recurses := true, apart := false, narrowed := true }
def StubAgainUptoSaid : Prop := stubAgainUptoRow.holds Try.pinned (OpenSpec.upto stubAgainSpec)

/-- 'portagelaw.LogTells', WHERE WHAT IT READS IS OF BULK AT MOST 1048576: true; the input reads as it did. -/
def logTellsUptoRow : OpenClaim := { program := "ytdmaehpdccpnoaa", sum := "0a64dcd9bba3b45b3f7654f02b5e218be550e72bb16e084393cabb91c9d4499f", func := "portage/portagelaw.LogTells", spec := "logTells", unfollowed := true, recurses := true, apart := false, narrowed := true }
def LogTellsUptoSaid : Prop := logTellsUptoRow.holds Try.pinned (OpenSpec.upto logTellsSpec)

/-- 'portagelaw.LogKept', WHERE WHAT IT READS IS OF BULK AT MOST 1048576: true; the input reads as it did. -/
def logKeptUptoRow : OpenClaim := { program := "ytdmaehpdccpnoaa", sum := "0a64dcd9bba3b45b3f7654f02b5e218be550e72bb16e084393cabb91c9d4499f", func := "portage/portagelaw.LogKept", spec := "logKept", unfollowed := true, recurses := true, apart := false, narrowed := true }
def LogKeptUptoSaid : Prop := logKeptUptoRow.holds Try.pinned (OpenSpec.upto logKeptSpec)

/-- 'portagelaw.SnapWrites', WHERE WHAT IT READS IS OF BULK AT MOST 1048576: true; the input reads as it did. -/
def snapWritesUptoRow : OpenClaim := { program := "ytdmaehpdccpnoaa", sum := "0a64dcd9bba3b45b3f7654f02b5e218be550e72bb16e084393cabb91c9d4499f", func := "portage/portagelaw.SnapWrites", spec := "snapWrites", unfollowed := true, recurses := true, apart := false, narrowed := true }
def SnapWritesUptoSaid : Prop := snapWritesUptoRow.holds Try.pinned (OpenSpec.upto snapWritesSpec)

/-- 'portagelaw.SnapBack', WHERE WHAT IT READS IS OF BULK AT MOST 1048576: true; the input reads as it did. -/
def snapBackUptoRow : OpenClaim := { program := "ytdmaehpdccpnoaa", sum := "0a64dcd9bba3b45b3f7654f02b5e218be550e72bb16e084393cabb91c9d4499f", func := "portage/portagelaw.SnapBack", spec := "snapBack", unfollowed := true, recurses := true, apart := false, narrowed := true }
def SnapBackUptoSaid : Prop := snapBackUptoRow.holds Try.pinned (OpenSpec.upto snapBackSpec)

/-- 'portagelaw.SnapOne', WHERE WHAT IT READS IS OF BULK AT MOST 1048576: true; the input reads as it did. -/
def snapOneUptoRow : OpenClaim := { program := "ytdmaehpdccpnoaa", sum := "0a64dcd9bba3b45b3f7654f02b5e218be550e72bb16e084393cabb91c9d4499f", func := "portage/portagelaw.SnapOne", spec := "snapOne", unfollowed := true, recurses := true, apart := false, narrowed := true }
def SnapOneUptoSaid : Prop := snapOneUptoRow.holds Try.pinned (OpenSpec.upto snapOneSpec)

end Rows
end Go.Proofs.Ytdmaehpdccpnoaa
