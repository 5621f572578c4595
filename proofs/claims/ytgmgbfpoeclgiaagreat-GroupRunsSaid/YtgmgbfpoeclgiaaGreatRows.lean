/-
  No cell of these rows narrows 'for every input' (looked for: loops, veiled, ifaces, maps, wideKeys, modest, calm, conditions, laid).
  DERIVED. THE GIVEN ROWS OF THIS SEAT. 3 by the template 'for every input the law returns true; each argument reads behind the call as it read before'; 0 by the template 'total and deterministic' (their statements: YtgmgbfpoeclgiaaGreatTotals.lean).
  GIVEN WITH THE SEED: the statements are not yours to turn. If you find one false, say at which input.
  Laid BY PROGRAM, IN A SANDBOX (cutbox-rows.mjs): the forced cells as the released guide's own fill.sh prints them over the translation 75c588ea932da967… (all of the seat's roots in one cut). By AI agents, Wed Nov 11 2026. No macro, syntax, notation, axiom, sorry.
-/
import Derived.Test.YtgmgbfpoeclgiaaGreatChecked
import GoSem.Claim
import GoSem.ClaimJoined
import GoSem.ClaimMapViews
import Derived.JoinedTies
import Derived.KernelRfl
namespace Go.Proofs.YtgmgbfpoeclgiaaGreat
/- THE CELL 'sum', in the pinned program and in every row, IS THE sha256 OF THE DUMP (.gsa) THAT YtgmgbfpoeclgiaaGreatProg.lean LOADS. Nothing in Lean hashes anything: it is a label: what it is worth is what the hold of that sum in a sandbox is worth. -/
noncomputable def Tryz.pinned : Pinned := { name := "ytgmgbfpoeclgiaagreat", sum := "75c588ea932da9678864e1312949674be725a5cd8e94cc69305a095fd30683f7", checked := Tryz.checked }
namespace Rows
def none {H : Type} : Left H := { results := [], args := [] }

/-- 'portagelaw.GroupTells': WHATEVER THE INPUT: true; the input reads as it did. -/
def groupTellsSpec : ChangeSpec := { name := "groupTells", fn := fun _ => fun
  | [d1, d2] => { results := [.lit (.bool true)], args := [d1, d2] }
  | _ => none }
def groupTellsRow : OpenClaim := { program := "ytgmgbfpoeclgiaagreat", sum := "75c588ea932da9678864e1312949674be725a5cd8e94cc69305a095fd30683f7", func := "portage/portagelaw.GroupTells", spec := "groupTells", inPlace := ["slices.overlaps[portage/api.Session]", "slices.overlaps[portage/api.Reply]"], unfollowed := true, recurses := true, apart := false }
def GroupTellsSaid : Prop := groupTellsRow.holds Tryz.pinned (OpenSpec.ofChange groupTellsSpec)

/-- ITS FALSE NEIGHBOUR: 'it returns false'. Refute it at one input. -/
def groupTellsWrong : ChangeSpec := { name := "groupTells", fn := fun _ => fun
  | [d1, d2] => { results := [.lit (.bool false)], args := [d1, d2] }
  | _ => none }
def GroupTellsWrongFalsely : Prop := groupTellsRow.holds Tryz.pinned (OpenSpec.ofChange groupTellsWrong)

/-- 'portagelaw.GroupRuns': WHATEVER THE INPUT: true; the input reads as it did. -/
def groupRunsSpec : ChangeSpec := { name := "groupRuns", fn := fun _ => fun
  | [d1, d2, d3] => { results := [.lit (.bool true)], args := [d1, d2, d3] }
  | _ => none }
def groupRunsRow : OpenClaim := { program := "ytgmgbfpoeclgiaagreat", sum := "75c588ea932da9678864e1312949674be725a5cd8e94cc69305a095fd30683f7", func := "portage/portagelaw.GroupRuns", spec := "groupRuns", inPlace := ["slices.overlaps[portage/api.Session]", "slices.overlaps[portage/api.Reply]"], unfollowed := true, recurses := true, apart := false }
def GroupRunsSaid : Prop := groupRunsRow.holds Tryz.pinned (OpenSpec.ofChange groupRunsSpec)

/-- ITS FALSE NEIGHBOUR: 'it returns false'. Refute it at one input. -/
def groupRunsWrong : ChangeSpec := { name := "groupRuns", fn := fun _ => fun
  | [d1, d2, d3] => { results := [.lit (.bool false)], args := [d1, d2, d3] }
  | _ => none }
def GroupRunsWrongFalsely : Prop := groupRunsRow.holds Tryz.pinned (OpenSpec.ofChange groupRunsWrong)

/-- 'portagelaw.RestGroups': WHATEVER THE INPUT: true; the input reads as it did. -/
def restGroupsSpec : ChangeSpec := { name := "restGroups", fn := fun _ => fun
  | [d1, d2, d3] => { results := [.lit (.bool true)], args := [d1, d2, d3] }
  | _ => none }
def restGroupsRow : OpenClaim := { program := "ytgmgbfpoeclgiaagreat", sum := "75c588ea932da9678864e1312949674be725a5cd8e94cc69305a095fd30683f7", func := "portage/portagelaw.RestGroups", spec := "restGroups", inPlace := ["slices.overlaps[portage/api.Session]", "slices.overlaps[portage/api.Reply]"], unfollowed := true, recurses := true, apart := false }
def RestGroupsSaid : Prop := restGroupsRow.holds Tryz.pinned (OpenSpec.ofChange restGroupsSpec)

/-- ITS FALSE NEIGHBOUR: 'it returns false'. Refute it at one input. -/
def restGroupsWrong : ChangeSpec := { name := "restGroups", fn := fun _ => fun
  | [d1, d2, d3] => { results := [.lit (.bool false)], args := [d1, d2, d3] }
  | _ => none }
def RestGroupsWrongFalsely : Prop := restGroupsRow.holds Tryz.pinned (OpenSpec.ofChange restGroupsWrong)

/- THE SECOND FORM. 'bulk': how many values and letters a reading holds, each counted each time it is reached (what is shared counts as often as it is met; a slice's spare places count too). A statement '..UptoSaid' is the law's where the arguments, and the package variables that the reading takes, are together of bulk at most 1048576: NARROWER than '..Said'. Prove '..Said' where nothing that the law and all that it calls make is longer than what came in: it says more and counts as full. Else prove '..UptoSaid'. A law counts once. -/
mutual
def uptoBulk {H : Type} : DataW H → Nat
  | .lit (.string bytes) => bytes.length + 1
  | .lit _ => 1
  | .nil => 1
  | .ptr d => uptoBulk d + 1
  | .slice elems spare => uptoBulkAll elems + uptoBulkAll spare + 1
  | .agg parts => uptoBulkAll parts + 1
  | .iface _ d => uptoBulk d + 1
  | .map entries => uptoBulkEntries entries + 1
  | .held _ => 1
def uptoBulkAll {H : Type} : List (DataW H) → Nat
  | [] => 0
  | d :: r => uptoBulk d + uptoBulkAll r
def uptoBulkEntries {H : Type} : List (Lit × DataW H) → Nat
  | [] => 0
  | x :: r => uptoBulkEntry x + uptoBulkEntries r
def uptoBulkEntry {H : Type} : Lit × DataW H → Nat
  | (.string bytes, d) => bytes.length + uptoBulk d + 1
  | (_, d) => uptoBulk d + 1
 end
def uptoSmall : (H : Type) → List (DataW H) → Bool := fun _ ds => decide (uptoBulkAll ds ≤ 1048576)
def OpenSpec.upto (s : _root_.Go.ChangeSpec) : _root_.Go.OpenSpec := { _root_.Go.OpenSpec.ofChange s with cond := some uptoSmall }

/-- 'portagelaw.GroupTells', WHERE WHAT IT READS IS OF BULK AT MOST 1048576: true; the input reads as it did. -/
def groupTellsUptoRow : OpenClaim := { program := "ytgmgbfpoeclgiaagreat", sum := "75c588ea932da9678864e1312949674be725a5cd8e94cc69305a095fd30683f7", func := "portage/portagelaw.GroupTells", spec := "groupTells", inPlace := ["slices.overlaps[portage/api.Session]", "slices.overlaps[portage/api.Reply]"], unfollowed := true, recurses := true, apart := false, narrowed := true }
def GroupTellsUptoSaid : Prop := groupTellsUptoRow.holds Tryz.pinned (OpenSpec.upto groupTellsSpec)

/-- 'portagelaw.GroupRuns', WHERE WHAT IT READS IS OF BULK AT MOST 1048576: true; the input reads as it did. -/
def groupRunsUptoRow : OpenClaim := { program := "ytgmgbfpoeclgiaagreat", sum := "75c588ea932da9678864e1312949674be725a5cd8e94cc69305a095fd30683f7", func := "portage/portagelaw.GroupRuns", spec := "groupRuns", inPlace := ["slices.overlaps[portage/api.Session]", "slices.overlaps[portage/api.Reply]"], unfollowed := true, recurses := true, apart := false, narrowed := true }
def GroupRunsUptoSaid : Prop := groupRunsUptoRow.holds Tryz.pinned (OpenSpec.upto groupRunsSpec)

/-- 'portagelaw.RestGroups', WHERE WHAT IT READS IS OF BULK AT MOST 1048576: true; the input reads as it did. -/
def restGroupsUptoRow : OpenClaim := { program := "ytgmgbfpoeclgiaagreat", sum := "75c588ea932da9678864e1312949674be725a5cd8e94cc69305a095fd30683f7", func := "portage/portagelaw.RestGroups", spec := "restGroups", inPlace := ["slices.overlaps[portage/api.Session]", "slices.overlaps[portage/api.Reply]"], unfollowed := true, recurses := true, apart := false, narrowed := true }
def RestGroupsUptoSaid : Prop := restGroupsUptoRow.holds Tryz.pinned (OpenSpec.upto restGroupsSpec)

end Rows
end Go.Proofs.YtgmgbfpoeclgiaaGreat
