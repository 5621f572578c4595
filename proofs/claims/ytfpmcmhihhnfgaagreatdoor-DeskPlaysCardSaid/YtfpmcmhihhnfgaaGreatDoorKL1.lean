/- What the laws make: entries, sessions, a state. No conditions. -/
import Derived.Test.YtfpmcmhihhnfgaaGreatDoorKS4
import Derived.Test.YtfpmcmhihhnfgaaGreatDoorKT1
import Derived.Test.YtfpmcmhihhnfgaaGreatDoorKU1
set_option linter.unusedVariables false
set_option linter.unusedSimpArgs false
namespace Go.Proofs.YtfpmcmhihhnfgaaGreatDoor
open Go.RowKit
set_option maxRecDepth 100000
set_option maxHeartbeats 4000000
theorem Eb(x y:Operand)(a b:Int)(hb:b≠0)(w:World):(EK.sem (.bop .rem 3 x y) [vi a,vi b]).run Tryz.prog w=.ok (.value (vi (Int.tmod a b))) w:=by
 simp[EK.sem,eqGuard,binOp,Op.intDiv,hb]
theorem bM.nil(D:Hp)(p:OL):bM D p 0 0 []:=⟨Nat.le_refl _,by simp[maxLen],Rows.nil _ _ _⟩
end Go.Proofs.YtfpmcmhihhnfgaaGreatDoor
