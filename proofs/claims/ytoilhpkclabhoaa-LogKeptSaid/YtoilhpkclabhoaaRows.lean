/-
  No cell of these rows narrows 'for every input' (looked for: loops, veiled, ifaces, maps, wideKeys, modest, calm, conditions, laid).
  DERIVED. THE GIVEN ROWS OF THIS SEAT. 7 by the template 'for every input the law returns true; each argument reads behind the call as it read before'; 0 by the template 'total and deterministic' (their statements: YtoilhpkclabhoaaTotals.lean).
  GIVEN WITH THE SEED: the statements are not yours to turn. If you find one false, say at which input.
  Laid BY PROGRAM, IN A SANDBOX (cutbox-rows.mjs): the forced cells as the released guide's own fill.sh prints them over the translation 154691bb667e7728… (all of the seat's roots in one cut). By AI agents, Wed Nov 11 2026. No macro, syntax, notation, axiom, sorry.
-/
import Derived.Test.YtoilhpkclabhoaaChecked
import GoSem.Claim
import GoSem.ClaimJoined
import GoSem.ClaimMapViews
import Derived.JoinedTies
import Derived.KernelRfl
namespace Go.Proofs.Ytoilhpkclabhoaa
/- THE CELL 'sum', in the pinned program and in every row, IS THE sha256 OF THE DUMP (.gsa) THAT YtoilhpkclabhoaaProg.lean LOADS. Nothing in Lean hashes anything: it is a label: what it is worth is what the hold of that sum in a sandbox is worth. -/
noncomputable def Try.pinned : Pinned := { name := "ytoilhpkclabhoaa", sum := "154691bb667e7728908dcfe32f71c5ed04b1cfa5137194c324cc12b62ad0b38f", checked := Try.checked }
namespace Rows
def none {H : Type} : Left H := { results := [], args := [] }

/-- 'portagelaw.StateTells': WHATEVER THE INPUT: true; the input reads as it did. -/
def stateTellsSpec : ChangeSpec := { name := "stateTells", fn := fun _ => fun
  | [d1, d2] => { results := [.lit (.bool true)], args := [d1, d2] }
  | _ => none }
def stateTellsRow : OpenClaim := { program := "ytoilhpkclabhoaa", sum := "154691bb667e7728908dcfe32f71c5ed04b1cfa5137194c324cc12b62ad0b38f", func := "portage/portagelaw.StateTells", spec := "stateTells", unfollowed := true, recurses := true, apart := false }
def StateTellsSaid : Prop := stateTellsRow.holds Try.pinned (OpenSpec.ofChange stateTellsSpec)

/-- ITS FALSE NEIGHBOUR: 'it returns false'. Refute it at one input. -/
def stateTellsWrong : ChangeSpec := { name := "stateTells", fn := fun _ => fun
  | [d1, d2] => { results := [.lit (.bool false)], args := [d1, d2] }
  | _ => none }
def StateTellsWrongFalsely : Prop := stateTellsRow.holds Try.pinned (OpenSpec.ofChange stateTellsWrong)

/-- 'portagelaw.LogTells': WHATEVER THE INPUT: true; the input reads as it did. -/
def logTellsSpec : ChangeSpec := { name := "logTells", fn := fun _ => fun
  | [d1, d2] => { results := [.lit (.bool true)], args := [d1, d2] }
  | _ => none }
def logTellsRow : OpenClaim := { program := "ytoilhpkclabhoaa", sum := "154691bb667e7728908dcfe32f71c5ed04b1cfa5137194c324cc12b62ad0b38f", func := "portage/portagelaw.LogTells", spec := "logTells", unfollowed := true, recurses := true, apart := false }
def LogTellsSaid : Prop := logTellsRow.holds Try.pinned (OpenSpec.ofChange logTellsSpec)

/-- ITS FALSE NEIGHBOUR: 'it returns false'. Refute it at one input. -/
def logTellsWrong : ChangeSpec := { name := "logTells", fn := fun _ => fun
  | [d1, d2] => { results := [.lit (.bool false)], args := [d1, d2] }
  | _ => none }
def LogTellsWrongFalsely : Prop := logTellsRow.holds Try.pinned (OpenSpec.ofChange logTellsWrong)

/-- 'portagelaw.LogKept': WHATEVER THE INPUT: true; the input reads as it did. -/
def logKeptSpec : ChangeSpec := { name := "logKept", fn := fun _ => fun
  | [d1, d2] => { results := [.lit (.bool true)], args := [d1, d2] }
  | _ => none }
def logKeptRow : OpenClaim := { program := "ytoilhpkclabhoaa", sum := "154691bb667e7728908dcfe32f71c5ed04b1cfa5137194c324cc12b62ad0b38f", func := "portage/portagelaw.LogKept", spec := "logKept", unfollowed := true, recurses := true, apart := false }
def LogKeptSaid : Prop := logKeptRow.holds Try.pinned (OpenSpec.ofChange logKeptSpec)

/-- ITS FALSE NEIGHBOUR: 'it returns false'. Refute it at one input. -/
def logKeptWrong : ChangeSpec := { name := "logKept", fn := fun _ => fun
  | [d1, d2] => { results := [.lit (.bool false)], args := [d1, d2] }
  | _ => none }
def LogKeptWrongFalsely : Prop := logKeptRow.holds Try.pinned (OpenSpec.ofChange logKeptWrong)

/-- 'portagelaw.SnapWrites': WHATEVER THE INPUT: true; the input reads as it did. -/
def snapWritesSpec : ChangeSpec := { name := "snapWrites", fn := fun _ => fun
  | [d1, d2] => { results := [.lit (.bool true)], args := [d1, d2] }
  | _ => none }
def snapWritesRow : OpenClaim := { program := "ytoilhpkclabhoaa", sum := "154691bb667e7728908dcfe32f71c5ed04b1cfa5137194c324cc12b62ad0b38f", func := "portage/portagelaw.SnapWrites", spec := "snapWrites", unfollowed := true, recurses := true, apart := false }
def SnapWritesSaid : Prop := snapWritesRow.holds Try.pinned (OpenSpec.ofChange snapWritesSpec)

/-- ITS FALSE NEIGHBOUR: 'it returns false'. Refute it at one input. -/
def snapWritesWrong : ChangeSpec := { name := "snapWrites", fn := fun _ => fun
  | [d1, d2] => { results := [.lit (.bool false)], args := [d1, d2] }
  | _ => none }
def SnapWritesWrongFalsely : Prop := snapWritesRow.holds Try.pinned (OpenSpec.ofChange snapWritesWrong)

/-- 'portagelaw.SnapBack': WHATEVER THE INPUT: true; the input reads as it did. -/
def snapBackSpec : ChangeSpec := { name := "snapBack", fn := fun _ => fun
  | [d1, d2] => { results := [.lit (.bool true)], args := [d1, d2] }
  | _ => none }
def snapBackRow : OpenClaim := { program := "ytoilhpkclabhoaa", sum := "154691bb667e7728908dcfe32f71c5ed04b1cfa5137194c324cc12b62ad0b38f", func := "portage/portagelaw.SnapBack", spec := "snapBack", unfollowed := true, recurses := true, apart := false }
def SnapBackSaid : Prop := snapBackRow.holds Try.pinned (OpenSpec.ofChange snapBackSpec)

/-- ITS FALSE NEIGHBOUR: 'it returns false'. Refute it at one input. -/
def snapBackWrong : ChangeSpec := { name := "snapBack", fn := fun _ => fun
  | [d1, d2] => { results := [.lit (.bool false)], args := [d1, d2] }
  | _ => none }
def SnapBackWrongFalsely : Prop := snapBackRow.holds Try.pinned (OpenSpec.ofChange snapBackWrong)

/-- 'portagelaw.SnapOne': WHATEVER THE INPUT: true; the input reads as it did. -/
def snapOneSpec : ChangeSpec := { name := "snapOne", fn := fun _ => fun
  | [d1, d2] => { results := [.lit (.bool true)], args := [d1, d2] }
  | _ => none }
def snapOneRow : OpenClaim := { program := "ytoilhpkclabhoaa", sum := "154691bb667e7728908dcfe32f71c5ed04b1cfa5137194c324cc12b62ad0b38f", func := "portage/portagelaw.SnapOne", spec := "snapOne", unfollowed := true, recurses := true, apart := false }
def SnapOneSaid : Prop := snapOneRow.holds Try.pinned (OpenSpec.ofChange snapOneSpec)

/-- ITS FALSE NEIGHBOUR: 'it returns false'. Refute it at one input. -/
def snapOneWrong : ChangeSpec := { name := "snapOne", fn := fun _ => fun
  | [d1, d2] => { results := [.lit (.bool false)], args := [d1, d2] }
  | _ => none }
def SnapOneWrongFalsely : Prop := snapOneRow.holds Try.pinned (OpenSpec.ofChange snapOneWrong)

/-- 'portagelaw.SnapOn': WHATEVER THE INPUT: true; the input reads as it did. -/
def snapOnSpec : ChangeSpec := { name := "snapOn", fn := fun _ => fun
  | [d1, d2] => { results := [.lit (.bool true)], args := [d1, d2] }
  | _ => none }
def snapOnRow : OpenClaim := { program := "ytoilhpkclabhoaa", sum := "154691bb667e7728908dcfe32f71c5ed04b1cfa5137194c324cc12b62ad0b38f", func := "portage/portagelaw.SnapOn", spec := "snapOn", inPlace := ["slices.overlaps[portage/api.Session]", "slices.overlaps[portage/api.Reply]"], unfollowed := true, recurses := true, apart := false }
def SnapOnSaid : Prop := snapOnRow.holds Try.pinned (OpenSpec.ofChange snapOnSpec)

/-- ITS FALSE NEIGHBOUR: 'it returns false'. Refute it at one input. -/
def snapOnWrong : ChangeSpec := { name := "snapOn", fn := fun _ => fun
  | [d1, d2] => { results := [.lit (.bool false)], args := [d1, d2] }
  | _ => none }
def SnapOnWrongFalsely : Prop := snapOnRow.holds Try.pinned (OpenSpec.ofChange snapOnWrong)

/- THE SECOND FORM. 'bulk': how many values and letters a reading holds, each counted each time it is reached (what is shared counts as often as it is met; a slice's spare places count too). A statement '..UptoSaid' is the law's where the arguments, and the package variables that the reading takes, are together of bulk at most 1048576: NARROWER than '..Said'. Prove '..Said' where nothing that the law and all that it calls make is longer than what came in: it says more and counts as full. Else prove '..UptoSaid'. A law counts once. -/
mutual
def uptoBulk {H : Type} : DataW H → Nat
  | .lit (.string bytes) => bytes.length + 1
  | .lit _ => 1
  | .nil => 1
  | .ptr d => uptoBulk d + 1
  | .slice elems spare => uptoBulkAll elems + uptoBulkAll spare + 1
  | .agg parts => uptoBulkAll parts + 1
  | .iface _ d => uptoBulk d + 1
  | .map entries => uptoBulkEntries entries + 1
  | .held _ => 1
def uptoBulkAll {H : Type} : List (DataW H) → Nat
  | [] => 0
  | d :: r => uptoBulk d + uptoBulkAll r
def uptoBulkEntries {H : Type} : List (Lit × DataW H) → Nat
  | [] => 0
  | x :: r => uptoBulkEntry x + uptoBulkEntries r
def uptoBulkEntry {H : Type} : Lit × DataW H → Nat
  | (.string bytes, d) => bytes.length + uptoBulk d + 1
  | (_, d) => uptoBulk d + 1
 end
def uptoSmall : (H : Type) → List (DataW H) → Bool := fun _ ds => decide (uptoBulkAll ds ≤ 1048576)
def OpenSpec.upto (s : _root_.Go.ChangeSpec) : _root_.Go.OpenSpec := { _root_.Go.OpenSpec.ofChange s with cond := some uptoSmall }

/-- 'portagelaw.StateTells', WHERE WHAT IT READS IS OF BULK AT MOST 1048576: true; the input reads as it did. -/
def stateTellsUptoRow : OpenClaim := { program := "ytoilhpkclabhoaa", sum := "154691bb667e7728908dcfe32f71c5ed04b1cfa5137194c324cc12b62ad0b38f", func := "portage/portagelaw.StateTells", spec := "stateTells", unfollowed := true, recurses := true, apart := false, narrowed := true }
def StateTellsUptoSaid : Prop := stateTellsUptoRow.holds Try.pinned (OpenSpec.upto stateTellsSpec)

/-- 'portagelaw.LogTells', WHERE WHAT IT READS IS OF BULK AT MOST 1048576: true; the input reads as it did. -/
def logTellsUptoRow : OpenClaim := { program := "ytoilhpkclabhoaa", sum := "154691bb667e7728908dcfe32f71c5ed04b1cfa5137194c324cc12b62ad0b38f", func := "portage/portagelaw.LogTells", spec := "logTells", unfollowed := true, recurses := true, apart := false, narrowed := true }
def LogTellsUptoSaid : Prop := logTellsUptoRow.holds Try.pinned (OpenSpec.upto logTellsSpec)

/-- 'portagelaw.LogKept', WHERE WHAT IT READS IS OF BULK AT MOST 1048576: true; the input reads as it did. -/
def logKeptUptoRow : OpenClaim := { program := "ytoilhpkclabhoaa", sum := "154691bb667e7728908dcfe32f71c5ed04b1cfa5137194c324cc12b62ad0b38f", func := "portage/portagelaw.LogKept", spec := "logKept", unfollowed := true, recurses := true, apart := false, narrowed := true }
def LogKeptUptoSaid : Prop := logKeptUptoRow.holds Try.pinned (OpenSpec.upto logKeptSpec)

/-- 'portagelaw.SnapWrites', WHERE WHAT IT READS IS OF BULK AT MOST 1048576: true; the input reads as it did. -/
def snapWritesUptoRow : OpenClaim := { program := "ytoilhpkclabhoaa", sum := "154691bb667e7728908dcfe32f71c5ed04b1cfa5137194c324cc12b62ad0b38f", func := "portage/portagelaw.SnapWrites", spec := "snapWrites", unfollowed := true, recurses := true, apart := false, narrowed := true }
def SnapWritesUptoSaid : Prop := snapWritesUptoRow.holds Try.pinned (OpenSpec.upto snapWritesSpec)

/-- 'portagelaw.SnapBack', WHERE WHAT IT READS IS OF BULK AT MOST 1048576: true; the input reads as it did. -/
def snapBackUptoRow : OpenClaim := { program := "ytoilhpkclabhoaa", sum := "154691bb667e7728908dcfe32f71c5ed04b1cfa5137194c324cc12b62ad0b38f", func := "portage/portagelaw.SnapBack", spec := "snapBack", unfollowed := true, recurses := true, apart := false, narrowed := true }
def SnapBackUptoSaid : Prop := snapBackUptoRow.holds Try.pinned (OpenSpec.upto snapBackSpec)

/-- 'portagelaw.SnapOne', WHERE WHAT IT READS IS OF BULK AT MOST 1048576: true; the input reads as it did. -/
def snapOneUptoRow : OpenClaim := { program := "ytoilhpkclabhoaa", sum := "154691bb667e7728908dcfe32f71c5ed04b1cfa5137194c324cc12b62ad0b38f", func := "portage/portagelaw.SnapOne", spec := "snapOne", unfollowed := true, recurses := true, apart := false, narrowed := true }
def SnapOneUptoSaid : Prop := snapOneUptoRow.holds Try.pinned (OpenSpec.upto snapOneSpec)

/-- 'portagelaw.SnapOn', WHERE WHAT IT READS IS OF BULK AT MOST 1048576: true; the input reads as it did. -/
def snapOnUptoRow : OpenClaim := { program := "ytoilhpkclabhoaa", sum := "154691bb667e7728908dcfe32f71c5ed04b1cfa5137194c324cc12b62ad0b38f", func := "portage/portagelaw.SnapOn", spec := "snapOn", inPlace := ["slices.overlaps[portage/api.Session]", "slices.overlaps[portage/api.Reply]"], unfollowed := true, recurses := true, apart := false, narrowed := true }
def SnapOnUptoSaid : Prop := snapOnUptoRow.holds Try.pinned (OpenSpec.upto snapOnSpec)

end Rows
end Go.Proofs.Ytoilhpkclabhoaa
