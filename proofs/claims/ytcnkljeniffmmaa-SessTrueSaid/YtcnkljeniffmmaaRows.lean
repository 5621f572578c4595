/-
  No cell of these rows narrows 'for every input' (looked for: loops, veiled, ifaces, maps, wideKeys, modest, calm, conditions, laid).
  DERIVED. THE GIVEN ROWS OF THIS SEAT. 7 by the template 'for every input the law returns true; each argument reads behind the call as it read before'; 0 by the template 'total and deterministic' (their statements: YtcnkljeniffmmaaTotals.lean).
  GIVEN WITH THE SEED: the statements are not yours to turn. If you find one false, say at which input.
  Laid BY PROGRAM, IN A SANDBOX (cutbox-rows.mjs): the forced cells as the released guide's own fill.sh prints them over the translation 9305591b88e7ce99… (all of the seat's roots in one cut). By AI agents, Wed Nov 11 2026. No macro, syntax, notation, axiom, sorry.
-/
import Derived.Test.YtcnkljeniffmmaaChecked
import GoSem.Claim
import GoSem.ClaimJoined
import GoSem.ClaimMapViews
import Derived.JoinedTies
import Derived.KernelRfl
namespace Go.Proofs.Ytcnkljeniffmmaa
/- THE CELL 'sum', in the pinned program and in every row, IS THE sha256 OF THE DUMP (.gsa) THAT YtcnkljeniffmmaaProg.lean LOADS. Nothing in Lean hashes anything: it is a label: what it is worth is what the hold of that sum in a sandbox is worth. -/
noncomputable def Try.pinned : Pinned := { name := "ytcnkljeniffmmaa", sum := "9305591b88e7ce99dc9ad5a4de4a97f94d79ea15e8d88e1b315d646304e4460f", checked := Try.checked }
namespace Rows
def none {H : Type} : Left H := { results := [], args := [] }

/-- 'portagelaw.OpTells': WHATEVER THE INPUT: true; the input reads as it did. -/
def opTellsSpec : ChangeSpec := { name := "opTells", fn := fun _ => fun
  | [d1, d2] => { results := [.lit (.bool true)], args := [d1, d2] }
  | _ => none }
def opTellsRow : OpenClaim := { program := "ytcnkljeniffmmaa", sum := "9305591b88e7ce99dc9ad5a4de4a97f94d79ea15e8d88e1b315d646304e4460f", func := "portage/portagelaw.OpTells", spec := "opTells", unfollowed := true, recurses := true, apart := false }
def OpTellsSaid : Prop := opTellsRow.holds Try.pinned (OpenSpec.ofChange opTellsSpec)

/-- ITS FALSE NEIGHBOUR: 'it returns false'. Refute it at one input. -/
def opTellsWrong : ChangeSpec := { name := "opTells", fn := fun _ => fun
  | [d1, d2] => { results := [.lit (.bool false)], args := [d1, d2] }
  | _ => none }
def OpTellsWrongFalsely : Prop := opTellsRow.holds Try.pinned (OpenSpec.ofChange opTellsWrong)

/-- 'portagelaw.OpTrue': WHATEVER THE INPUT: true; the input reads as it did. -/
def opTrueSpec : ChangeSpec := { name := "opTrue", fn := fun _ => fun
  | [d1, d2] => { results := [.lit (.bool true)], args := [d1, d2] }
  | _ => none }
def opTrueRow : OpenClaim := { program := "ytcnkljeniffmmaa", sum := "9305591b88e7ce99dc9ad5a4de4a97f94d79ea15e8d88e1b315d646304e4460f", func := "portage/portagelaw.OpTrue", spec := "opTrue", unfollowed := true, recurses := true, apart := false }
def OpTrueSaid : Prop := opTrueRow.holds Try.pinned (OpenSpec.ofChange opTrueSpec)

/-- ITS FALSE NEIGHBOUR: 'it returns false'. Refute it at one input. -/
def opTrueWrong : ChangeSpec := { name := "opTrue", fn := fun _ => fun
  | [d1, d2] => { results := [.lit (.bool false)], args := [d1, d2] }
  | _ => none }
def OpTrueWrongFalsely : Prop := opTrueRow.holds Try.pinned (OpenSpec.ofChange opTrueWrong)

/-- 'portagelaw.StateTells': WHATEVER THE INPUT: true; the input reads as it did. -/
def stateTellsSpec : ChangeSpec := { name := "stateTells", fn := fun _ => fun
  | [d1, d2] => { results := [.lit (.bool true)], args := [d1, d2] }
  | _ => none }
def stateTellsRow : OpenClaim := { program := "ytcnkljeniffmmaa", sum := "9305591b88e7ce99dc9ad5a4de4a97f94d79ea15e8d88e1b315d646304e4460f", func := "portage/portagelaw.StateTells", spec := "stateTells", unfollowed := true, recurses := true, apart := false }
def StateTellsSaid : Prop := stateTellsRow.holds Try.pinned (OpenSpec.ofChange stateTellsSpec)

/-- ITS FALSE NEIGHBOUR: 'it returns false'. Refute it at one input. -/
def stateTellsWrong : ChangeSpec := { name := "stateTells", fn := fun _ => fun
  | [d1, d2] => { results := [.lit (.bool false)], args := [d1, d2] }
  | _ => none }
def StateTellsWrongFalsely : Prop := stateTellsRow.holds Try.pinned (OpenSpec.ofChange stateTellsWrong)

/-- 'portagelaw.SessTells': WHATEVER THE INPUT: true; the input reads as it did. -/
def sessTellsSpec : ChangeSpec := { name := "sessTells", fn := fun _ => fun
  | [d1, d2] => { results := [.lit (.bool true)], args := [d1, d2] }
  | _ => none }
def sessTellsRow : OpenClaim := { program := "ytcnkljeniffmmaa", sum := "9305591b88e7ce99dc9ad5a4de4a97f94d79ea15e8d88e1b315d646304e4460f", func := "portage/portagelaw.SessTells", spec := "sessTells", inPlace := ["slices.overlaps[portage/api.Session]"], unfollowed := true, recurses := true, apart := false }
def SessTellsSaid : Prop := sessTellsRow.holds Try.pinned (OpenSpec.ofChange sessTellsSpec)

/-- ITS FALSE NEIGHBOUR: 'it returns false'. Refute it at one input. -/
def sessTellsWrong : ChangeSpec := { name := "sessTells", fn := fun _ => fun
  | [d1, d2] => { results := [.lit (.bool false)], args := [d1, d2] }
  | _ => none }
def SessTellsWrongFalsely : Prop := sessTellsRow.holds Try.pinned (OpenSpec.ofChange sessTellsWrong)

/-- 'portagelaw.SessPuts': WHATEVER THE INPUT: true; the input reads as it did. -/
def sessPutsSpec : ChangeSpec := { name := "sessPuts", fn := fun _ => fun
  | [d1, d2, d3] => { results := [.lit (.bool true)], args := [d1, d2, d3] }
  | _ => none }
def sessPutsRow : OpenClaim := { program := "ytcnkljeniffmmaa", sum := "9305591b88e7ce99dc9ad5a4de4a97f94d79ea15e8d88e1b315d646304e4460f", func := "portage/portagelaw.SessPuts", spec := "sessPuts", inPlace := ["slices.overlaps[portage/api.Session]"], unfollowed := true, recurses := true, apart := false }
def SessPutsSaid : Prop := sessPutsRow.holds Try.pinned (OpenSpec.ofChange sessPutsSpec)

/-- ITS FALSE NEIGHBOUR: 'it returns false'. Refute it at one input. -/
def sessPutsWrong : ChangeSpec := { name := "sessPuts", fn := fun _ => fun
  | [d1, d2, d3] => { results := [.lit (.bool false)], args := [d1, d2, d3] }
  | _ => none }
def SessPutsWrongFalsely : Prop := sessPutsRow.holds Try.pinned (OpenSpec.ofChange sessPutsWrong)

/-- 'portagelaw.SessFresh': WHATEVER THE INPUT: true; the input reads as it did. -/
def sessFreshSpec : ChangeSpec := { name := "sessFresh", fn := fun _ => fun
  | [d1, d2] => { results := [.lit (.bool true)], args := [d1, d2] }
  | _ => none }
def sessFreshRow : OpenClaim := { program := "ytcnkljeniffmmaa", sum := "9305591b88e7ce99dc9ad5a4de4a97f94d79ea15e8d88e1b315d646304e4460f", func := "portage/portagelaw.SessFresh", spec := "sessFresh", inPlace := ["slices.overlaps[portage/api.Session]"], unfollowed := true, recurses := true, apart := false }
def SessFreshSaid : Prop := sessFreshRow.holds Try.pinned (OpenSpec.ofChange sessFreshSpec)

/-- ITS FALSE NEIGHBOUR: 'it returns false'. Refute it at one input. -/
def sessFreshWrong : ChangeSpec := { name := "sessFresh", fn := fun _ => fun
  | [d1, d2] => { results := [.lit (.bool false)], args := [d1, d2] }
  | _ => none }
def SessFreshWrongFalsely : Prop := sessFreshRow.holds Try.pinned (OpenSpec.ofChange sessFreshWrong)

/-- 'portagelaw.SessTrue': WHATEVER THE INPUT: true; the input reads as it did. -/
def sessTrueSpec : ChangeSpec := { name := "sessTrue", fn := fun _ => fun
  | [d1, d2, d3, d4, d5] => { results := [.lit (.bool true)], args := [d1, d2, d3, d4, d5] }
  | _ => none }
def sessTrueRow : OpenClaim := { program := "ytcnkljeniffmmaa", sum := "9305591b88e7ce99dc9ad5a4de4a97f94d79ea15e8d88e1b315d646304e4460f", func := "portage/portagelaw.SessTrue", spec := "sessTrue", inPlace := ["slices.overlaps[portage/api.Session]"], unfollowed := true, recurses := true, apart := false }
def SessTrueSaid : Prop := sessTrueRow.holds Try.pinned (OpenSpec.ofChange sessTrueSpec)

/-- ITS FALSE NEIGHBOUR: 'it returns false'. Refute it at one input. -/
def sessTrueWrong : ChangeSpec := { name := "sessTrue", fn := fun _ => fun
  | [d1, d2, d3, d4, d5] => { results := [.lit (.bool false)], args := [d1, d2, d3, d4, d5] }
  | _ => none }
def SessTrueWrongFalsely : Prop := sessTrueRow.holds Try.pinned (OpenSpec.ofChange sessTrueWrong)

/- THE SECOND FORM. 'bulk': how many values and letters a reading holds, each counted each time it is reached (what is shared counts as often as it is met; a slice's spare places count too). A statement '..UptoSaid' is the law's where the arguments, and the package variables that the reading takes, are together of bulk at most 1048576: NARROWER than '..Said'. Prove '..Said' where nothing that the law and all that it calls make is longer than what came in: it says more and counts as full. Else prove '..UptoSaid'. A law counts once. -/
mutual
def uptoBulk {H : Type} : DataW H → Nat
  | .lit (.string bytes) => bytes.length + 1
  | .lit _ => 1
  | .nil => 1
  | .ptr d => uptoBulk d + 1
  | .slice elems spare => uptoBulkAll elems + uptoBulkAll spare + 1
  | .agg parts => uptoBulkAll parts + 1
  | .iface _ d => uptoBulk d + 1
  | .map entries => uptoBulkEntries entries + 1
  | .held _ => 1
def uptoBulkAll {H : Type} : List (DataW H) → Nat
  | [] => 0
  | d :: r => uptoBulk d + uptoBulkAll r
def uptoBulkEntries {H : Type} : List (Lit × DataW H) → Nat
  | [] => 0
  | x :: r => uptoBulkEntry x + uptoBulkEntries r
def uptoBulkEntry {H : Type} : Lit × DataW H → Nat
  | (.string bytes, d) => bytes.length + uptoBulk d + 1
  | (_, d) => uptoBulk d + 1
 end
def uptoSmall : (H : Type) → List (DataW H) → Bool := fun _ ds => decide (uptoBulkAll ds ≤ 1048576)
def OpenSpec.upto (s : _root_.Go.ChangeSpec) : _root_.Go.OpenSpec := { _root_.Go.OpenSpec.ofChange s with cond := some uptoSmall }

/-- 'portagelaw.OpTells', WHERE WHAT IT READS IS OF BULK AT MOST 1048576: true; the input reads as it did. -/
def opTellsUptoRow : OpenClaim := { program := "ytcnkljeniffmmaa", sum := "9305591b88e7ce99dc9ad5a4de4a97f94d79ea15e8d88e1b315d646304e4460f", func := "portage/portagelaw.OpTells", spec := "opTells", unfollowed := true, recurses := true, apart := false, narrowed := true }
def OpTellsUptoSaid : Prop := opTellsUptoRow.holds Try.pinned (OpenSpec.upto opTellsSpec)

/-- 'portagelaw.OpTrue', WHERE WHAT IT READS IS OF BULK AT MOST 1048576: true; the input reads as it did. -/
def opTrueUptoRow : OpenClaim := { program := "ytcnkljeniffmmaa", sum := "9305591b88e7ce99dc9ad5a4de4a97f94d79ea15e8d88e1b315d646304e4460f", func := "portage/portagelaw.OpTrue", spec := "opTrue", unfollowed := true, recurses := true, apart := false, narrowed := true }
def OpTrueUptoSaid : Prop := opTrueUptoRow.holds Try.pinned (OpenSpec.upto opTrueSpec)

/-- 'portagelaw.StateTells', WHERE WHAT IT READS IS OF BULK AT MOST 1048576: true; the input reads as it did. -/
def stateTellsUptoRow : OpenClaim := { program := "ytcnkljeniffmmaa", sum := "9305591b88e7ce99dc9ad5a4de4a97f94d79ea15e8d88e1b315d646304e4460f", func := "portage/portagelaw.StateTells", spec := "stateTells", unfollowed := true, recurses := true, apart := false, narrowed := true }
def StateTellsUptoSaid : Prop := stateTellsUptoRow.holds Try.pinned (OpenSpec.upto stateTellsSpec)

/-- 'portagelaw.SessTells', WHERE WHAT IT READS IS OF BULK AT MOST 1048576: true; the input reads as it did. -/
def sessTellsUptoRow : OpenClaim := { program := "ytcnkljeniffmmaa", sum := "9305591b88e7ce99dc9ad5a4de4a97f94d79ea15e8d88e1b315d646304e4460f", func := "portage/portagelaw.SessTells", spec := "sessTells", inPlace := ["slices.overlaps[portage/api.Session]"], unfollowed := true, recurses := true, apart := false, narrowed := true }
def SessTellsUptoSaid : Prop := sessTellsUptoRow.holds Try.pinned (OpenSpec.upto sessTellsSpec)

/-- 'portagelaw.SessPuts', WHERE WHAT IT READS IS OF BULK AT MOST 1048576: true; the input reads as it did. -/
def sessPutsUptoRow : OpenClaim := { program := "ytcnkljeniffmmaa", sum := "9305591b88e7ce99dc9ad5a4de4a97f94d79ea15e8d88e1b315d646304e4460f", func := "portage/portagelaw.SessPuts", spec := "sessPuts", inPlace := ["slices.overlaps[portage/api.Session]"], unfollowed := true, recurses := true, apart := false, narrowed := true }
def SessPutsUptoSaid : Prop := sessPutsUptoRow.holds Try.pinned (OpenSpec.upto sessPutsSpec)

/-- 'portagelaw.SessFresh', WHERE WHAT IT READS IS OF BULK AT MOST 1048576: true; the input reads as it did. -/
def sessFreshUptoRow : OpenClaim := { program := "ytcnkljeniffmmaa", sum := "9305591b88e7ce99dc9ad5a4de4a97f94d79ea15e8d88e1b315d646304e4460f", func := "portage/portagelaw.SessFresh", spec := "sessFresh", inPlace := ["slices.overlaps[portage/api.Session]"], unfollowed := true, recurses := true, apart := false, narrowed := true }
def SessFreshUptoSaid : Prop := sessFreshUptoRow.holds Try.pinned (OpenSpec.upto sessFreshSpec)

/-- 'portagelaw.SessTrue', WHERE WHAT IT READS IS OF BULK AT MOST 1048576: true; the input reads as it did. -/
def sessTrueUptoRow : OpenClaim := { program := "ytcnkljeniffmmaa", sum := "9305591b88e7ce99dc9ad5a4de4a97f94d79ea15e8d88e1b315d646304e4460f", func := "portage/portagelaw.SessTrue", spec := "sessTrue", inPlace := ["slices.overlaps[portage/api.Session]"], unfollowed := true, recurses := true, apart := false, narrowed := true }
def SessTrueUptoSaid : Prop := sessTrueUptoRow.holds Try.pinned (OpenSpec.upto sessTrueSpec)

end Rows
end Go.Proofs.Ytcnkljeniffmmaa
