/-
  No cell of these rows narrows 'for every input' (looked for: loops, veiled, ifaces, maps, wideKeys, modest, calm, conditions, laid).
  DERIVED. THE GIVEN ROWS OF THIS SEAT. 6 by the template 'for every input the law returns true; each argument reads behind the call as it read before'; 0 by the template 'total and deterministic' (their statements: YtgmgbfpoeclgiaaTotals.lean).
  GIVEN WITH THE SEED: the statements are not yours to turn. If you find one false, say at which input.
  Laid BY PROGRAM, IN A SANDBOX (cutbox-rows.mjs): the forced cells as the released guide's own fill.sh prints them over the translation da9fbca42a7c88b3… (all of the seat's roots in one cut). By AI agents, Wed Nov 11 2026. No macro, syntax, notation, axiom, sorry.
-/
import Derived.Test.YtgmgbfpoeclgiaaChecked
import GoSem.Claim
import GoSem.ClaimJoined
import GoSem.ClaimMapViews
import Derived.JoinedTies
import Derived.KernelRfl
namespace Go.Proofs.Ytgmgbfpoeclgiaa
/- THE CELL 'sum', in the pinned program and in every row, IS THE sha256 OF THE DUMP (.gsa) THAT YtgmgbfpoeclgiaaProg.lean LOADS. Nothing in Lean hashes anything: it is a label: what it is worth is what the hold of that sum in a sandbox is worth. -/
noncomputable def Try.pinned : Pinned := { name := "ytgmgbfpoeclgiaa", sum := "da9fbca42a7c88b38a8e9ec4e2cb33b98dce1da7731370d48513e6bfe027d304", checked := Try.checked }
namespace Rows
def none {H : Type} : Left H := { results := [], args := [] }

/-- 'portagelaw.NodeTells': WHATEVER THE INPUT: true; the input reads as it did. -/
def nodeTellsSpec : ChangeSpec := { name := "nodeTells", fn := fun _ => fun
  | [d1, d2, d3] => { results := [.lit (.bool true)], args := [d1, d2, d3] }
  | _ => none }
def nodeTellsRow : OpenClaim := { program := "ytgmgbfpoeclgiaa", sum := "da9fbca42a7c88b38a8e9ec4e2cb33b98dce1da7731370d48513e6bfe027d304", func := "portage/portagelaw.NodeTells", spec := "nodeTells", inPlace := ["slices.overlaps[portage/api.Session]", "slices.overlaps[portage/api.Reply]"], unfollowed := true, recurses := true, apart := false }
def NodeTellsSaid : Prop := nodeTellsRow.holds Try.pinned (OpenSpec.ofChange nodeTellsSpec)

/-- ITS FALSE NEIGHBOUR: 'it returns false'. Refute it at one input. -/
def nodeTellsWrong : ChangeSpec := { name := "nodeTells", fn := fun _ => fun
  | [d1, d2, d3] => { results := [.lit (.bool false)], args := [d1, d2, d3] }
  | _ => none }
def NodeTellsWrongFalsely : Prop := nodeTellsRow.holds Try.pinned (OpenSpec.ofChange nodeTellsWrong)

/-- 'portagelaw.NodeTrue': WHATEVER THE INPUT: true; the input reads as it did. -/
def nodeTrueSpec : ChangeSpec := { name := "nodeTrue", fn := fun _ => fun
  | [d1, d2, d3] => { results := [.lit (.bool true)], args := [d1, d2, d3] }
  | _ => none }
def nodeTrueRow : OpenClaim := { program := "ytgmgbfpoeclgiaa", sum := "da9fbca42a7c88b38a8e9ec4e2cb33b98dce1da7731370d48513e6bfe027d304", func := "portage/portagelaw.NodeTrue", spec := "nodeTrue", inPlace := ["slices.overlaps[portage/api.Session]", "slices.overlaps[portage/api.Reply]"], unfollowed := true, recurses := true, apart := false }
def NodeTrueSaid : Prop := nodeTrueRow.holds Try.pinned (OpenSpec.ofChange nodeTrueSpec)

/-- ITS FALSE NEIGHBOUR: 'it returns false'. Refute it at one input. -/
def nodeTrueWrong : ChangeSpec := { name := "nodeTrue", fn := fun _ => fun
  | [d1, d2, d3] => { results := [.lit (.bool false)], args := [d1, d2, d3] }
  | _ => none }
def NodeTrueWrongFalsely : Prop := nodeTrueRow.holds Try.pinned (OpenSpec.ofChange nodeTrueWrong)

/-- 'portagelaw.NodeOld': WHATEVER THE INPUT: true; the input reads as it did. -/
def nodeOldSpec : ChangeSpec := { name := "nodeOld", fn := fun _ => fun
  | [d1, d2, d3, d4] => { results := [.lit (.bool true)], args := [d1, d2, d3, d4] }
  | _ => none }
def nodeOldRow : OpenClaim := { program := "ytgmgbfpoeclgiaa", sum := "da9fbca42a7c88b38a8e9ec4e2cb33b98dce1da7731370d48513e6bfe027d304", func := "portage/portagelaw.NodeOld", spec := "nodeOld", inPlace := ["slices.overlaps[portage/api.Session]", "slices.overlaps[portage/api.Reply]"], unfollowed := true, recurses := true, apart := false }
def NodeOldSaid : Prop := nodeOldRow.holds Try.pinned (OpenSpec.ofChange nodeOldSpec)

/-- ITS FALSE NEIGHBOUR: 'it returns false'. Refute it at one input. -/
def nodeOldWrong : ChangeSpec := { name := "nodeOld", fn := fun _ => fun
  | [d1, d2, d3, d4] => { results := [.lit (.bool false)], args := [d1, d2, d3, d4] }
  | _ => none }
def NodeOldWrongFalsely : Prop := nodeOldRow.holds Try.pinned (OpenSpec.ofChange nodeOldWrong)

/-- 'portagelaw.GroupTrue': WHATEVER THE INPUT: true; the input reads as it did. -/
def groupTrueSpec : ChangeSpec := { name := "groupTrue", fn := fun _ => fun
  | [d1, d2, d3, d4] => { results := [.lit (.bool true)], args := [d1, d2, d3, d4] }
  | _ => none }
def groupTrueRow : OpenClaim := { program := "ytgmgbfpoeclgiaa", sum := "da9fbca42a7c88b38a8e9ec4e2cb33b98dce1da7731370d48513e6bfe027d304", func := "portage/portagelaw.GroupTrue", spec := "groupTrue", inPlace := ["slices.overlaps[portage/api.Session]", "slices.overlaps[portage/api.Reply]"], unfollowed := true, recurses := true, apart := false }
def GroupTrueSaid : Prop := groupTrueRow.holds Try.pinned (OpenSpec.ofChange groupTrueSpec)

/-- ITS FALSE NEIGHBOUR: 'it returns false'. Refute it at one input. -/
def groupTrueWrong : ChangeSpec := { name := "groupTrue", fn := fun _ => fun
  | [d1, d2, d3, d4] => { results := [.lit (.bool false)], args := [d1, d2, d3, d4] }
  | _ => none }
def GroupTrueWrongFalsely : Prop := groupTrueRow.holds Try.pinned (OpenSpec.ofChange groupTrueWrong)

/-- 'portagelaw.GroupEnd': WHATEVER THE INPUT: true; the input reads as it did. -/
def groupEndSpec : ChangeSpec := { name := "groupEnd", fn := fun _ => fun
  | [d1, d2] => { results := [.lit (.bool true)], args := [d1, d2] }
  | _ => none }
def groupEndRow : OpenClaim := { program := "ytgmgbfpoeclgiaa", sum := "da9fbca42a7c88b38a8e9ec4e2cb33b98dce1da7731370d48513e6bfe027d304", func := "portage/portagelaw.GroupEnd", spec := "groupEnd", inPlace := ["slices.overlaps[portage/api.Session]", "slices.overlaps[portage/api.Reply]"], unfollowed := true, recurses := true, apart := false }
def GroupEndSaid : Prop := groupEndRow.holds Try.pinned (OpenSpec.ofChange groupEndSpec)

/-- ITS FALSE NEIGHBOUR: 'it returns false'. Refute it at one input. -/
def groupEndWrong : ChangeSpec := { name := "groupEnd", fn := fun _ => fun
  | [d1, d2] => { results := [.lit (.bool false)], args := [d1, d2] }
  | _ => none }
def GroupEndWrongFalsely : Prop := groupEndRow.holds Try.pinned (OpenSpec.ofChange groupEndWrong)

/-- 'portagelaw.StubOnce': WHATEVER THE INPUT: true; the input reads as it did. -/
def stubOnceSpec : ChangeSpec := { name := "stubOnce", fn := fun _ => fun
  | [d] => { results := [.lit (.bool true)], args := [d] }
  | _ => none }
def stubOnceRow : OpenClaim := { program := "ytgmgbfpoeclgiaa", sum := "da9fbca42a7c88b38a8e9ec4e2cb33b98dce1da7731370d48513e6bfe027d304", func := "portage/portagelaw.StubOnce", spec := "stubOnce", inPlace := ["slices.overlaps[portage/api.Session]", "slices.overlaps[portage/api.Reply]", "slices.overlaps[int]"], unfollowed := true, recurses := true, apart := false }
def StubOnceSaid : Prop := stubOnceRow.holds Try.pinned (OpenSpec.ofChange stubOnceSpec)

/-- ITS FALSE NEIGHBOUR: 'it returns false'. Refute it at one input. -/
def stubOnceWrong : ChangeSpec := { name := "stubOnce", fn := fun _ => fun
  | [d] => { results := [.lit (.bool false)], args := [d] }
  | _ => none }
def StubOnceWrongFalsely : Prop := stubOnceRow.holds Try.pinned (OpenSpec.ofChange stubOnceWrong)

/- THE SECOND FORM. 'bulk': how many values and letters a reading holds, each counted each time it is reached (what is shared counts as often as it is met; a slice's spare places count too). A statement '..UptoSaid' is the law's where the arguments, and the package variables that the reading takes, are together of bulk at most 1048576: NARROWER than '..Said'. Prove '..Said' where nothing that the law and all that it calls make is longer than what came in: it says more and counts as full. Else prove '..UptoSaid'. A law counts once. -/
mutual
def uptoBulk {H : Type} : DataW H → Nat
  | .lit (.string bytes) => bytes.length + 1
  | .lit _ => 1
  | .nil => 1
  | .ptr d => uptoBulk d + 1
  | .slice elems spare => uptoBulkAll elems + uptoBulkAll spare + 1
  | .agg parts => uptoBulkAll parts + 1
  | .iface _ d => uptoBulk d + 1
  | .map entries => uptoBulkEntries entries + 1
  | .held _ => 1
def uptoBulkAll {H : Type} : List (DataW H) → Nat
  | [] => 0
  | d :: r => uptoBulk d + uptoBulkAll r
def uptoBulkEntries {H : Type} : List (Lit × DataW H) → Nat
  | [] => 0
  | x :: r => uptoBulkEntry x + uptoBulkEntries r
def uptoBulkEntry {H : Type} : Lit × DataW H → Nat
  | (.string bytes, d) => bytes.length + uptoBulk d + 1
  | (_, d) => uptoBulk d + 1
 end
def uptoSmall : (H : Type) → List (DataW H) → Bool := fun _ ds => decide (uptoBulkAll ds ≤ 1048576)
def OpenSpec.upto (s : _root_.Go.ChangeSpec) : _root_.Go.OpenSpec := { _root_.Go.OpenSpec.ofChange s with cond := some uptoSmall }

/-- 'portagelaw.NodeTells', WHERE WHAT IT READS IS OF BULK AT MOST 1048576: true; the input reads as it did. -/
def nodeTellsUptoRow : OpenClaim := { program := "ytgmgbfpoeclgiaa", sum := "da9fbca42a7c88b38a8e9ec4e2cb33b98dce1da7731370d48513e6bfe027d304", func := "portage/portagelaw.NodeTells", spec := "nodeTells", inPlace := ["slices.overlaps[portage/api.Session]", "slices.overlaps[portage/api.Reply]"], unfollowed := true, recurses := true, apart := false, narrowed := true }
def NodeTellsUptoSaid : Prop := nodeTellsUptoRow.holds Try.pinned (OpenSpec.upto nodeTellsSpec)

/-- 'portagelaw.NodeTrue', WHERE WHAT IT READS IS OF BULK AT MOST 1048576: true; the input reads as it did. -/
def nodeTrueUptoRow : OpenClaim := { program := "ytgmgbfpoeclgiaa", sum := "da9fbca42a7c88b38a8e9ec4e2cb33b98dce1da7731370d48513e6bfe027d304", func := "portage/portagelaw.NodeTrue", spec := "nodeTrue", inPlace := ["slices.overlaps[portage/api.Session]", "slices.overlaps[portage/api.Reply]"], unfollowed := true, recurses := true, apart := false, narrowed := true }
def NodeTrueUptoSaid : Prop := nodeTrueUptoRow.holds Try.pinned (OpenSpec.upto nodeTrueSpec)

/-- 'portagelaw.NodeOld', WHERE WHAT IT READS IS OF BULK AT MOST 1048576: true; the input reads as it did. -/
def nodeOldUptoRow : OpenClaim := { program := "ytgmgbfpoeclgiaa", sum := "da9fbca42a7c88b38a8e9ec4e2cb33b98dce1da7731370d48513e6bfe027d304", func := "portage/portagelaw.NodeOld", spec := "nodeOld", inPlace := ["slices.overlaps[portage/api.Session]", "slices.overlaps[portage/api.Reply]"], unfollowed := true, recurses := true, apart := false, narrowed := true }
def NodeOldUptoSaid : Prop := nodeOldUptoRow.holds Try.pinned (OpenSpec.upto nodeOldSpec)

/-- 'portagelaw.GroupTrue', WHERE WHAT IT READS IS OF BULK AT MOST 1048576: true; the input reads as it did. -/
def groupTrueUptoRow : OpenClaim := { program := "ytgmgbfpoeclgiaa", sum := "da9fbca42a7c88b38a8e9ec4e2cb33b98dce1da7731370d48513e6bfe027d304", func := "portage/portagelaw.GroupTrue", spec := "groupTrue", inPlace := ["slices.overlaps[portage/api.Session]", "slices.overlaps[portage/api.Reply]"], unfollowed := true, recurses := true, apart := false, narrowed := true }
def GroupTrueUptoSaid : Prop := groupTrueUptoRow.holds Try.pinned (OpenSpec.upto groupTrueSpec)

/-- 'portagelaw.GroupEnd', WHERE WHAT IT READS IS OF BULK AT MOST 1048576: true; the input reads as it did. -/
def groupEndUptoRow : OpenClaim := { program := "ytgmgbfpoeclgiaa", sum := "da9fbca42a7c88b38a8e9ec4e2cb33b98dce1da7731370d48513e6bfe027d304", func := "portage/portagelaw.GroupEnd", spec := "groupEnd", inPlace := ["slices.overlaps[portage/api.Session]", "slices.overlaps[portage/api.Reply]"], unfollowed := true, recurses := true, apart := false, narrowed := true }
def GroupEndUptoSaid : Prop := groupEndUptoRow.holds Try.pinned (OpenSpec.upto groupEndSpec)

/-- 'portagelaw.StubOnce', WHERE WHAT IT READS IS OF BULK AT MOST 1048576: true; the input reads as it did. -/
def stubOnceUptoRow : OpenClaim := { program := "ytgmgbfpoeclgiaa", sum := "da9fbca42a7c88b38a8e9ec4e2cb33b98dce1da7731370d48513e6bfe027d304", func := "portage/portagelaw.StubOnce", spec := "stubOnce", inPlace := ["slices.overlaps[portage/api.Session]", "slices.overlaps[portage/api.Reply]", "slices.overlaps[int]"], unfollowed := true, recurses := true, apart := false, narrowed := true }
def StubOnceUptoSaid : Prop := stubOnceUptoRow.holds Try.pinned (OpenSpec.upto stubOnceSpec)

end Rows
end Go.Proofs.Ytgmgbfpoeclgiaa
