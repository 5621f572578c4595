/- Symbolic runs of functions: what each leaves to prove is enough for its call. Printed by a program of ours. No conditions. Contracts: cmp.Compare, the order of sessions, binary search. No conditions. Contracts: clones of replies and sessions; what finds a session. No conditions. -/
import Derived.Test.YtoilhpkclabhoaaKE3
import Derived.Test.YtoilhpkclabhoaaProg
import Derived.Test.YtoilhpkclabhoaaKS1
import Derived.Test.YtoilhpkclabhoaaKE4
set_option linter.unusedVariables false
set_option linter.unusedSimpArgs false
namespace Go.Proofs.Ytoilhpkclabhoaa
open Go.RowKit
set_option maxRecDepth 100000
set_option maxHeartbeats 4000000
def v_row : VC :=
(.all 0
(.all 1
(.ret (.agg [.int .i64 (.v 0), .int .i64 (.k 2), .int .i64 (.k 9), .slK 1 0 2 2]) [(1, ⟨[.int .i64 (.k 3), .int .i64 (.k 7), .int .i64 (.k 5), .int .i64 (.k (-1))], 67⟩)])))
theorem x_row (x0 : Int) (M : Nat → Prop) (H0 : Hp) (W0 : World) (R : Ending → World → Prop) (hH : H0.le (hpOf W0)) (h :
 (∀ b0 : Nat,
 (∀ b1 : Nat,
 Rt R W0 M H0 (fun W => Kn W0 M H0 W b1 (Obj.cells #[vi 3, vi 7, vi 5, vi (-1)] 67 (0, 0)) ∧ True) (Value.agg #[vi x0, vi 2, vi 9, Value.slice (some ⟨b1, 0, none⟩) 2 2])))) :
  Calls Try.prog 61 #[vi x0] W0 R :=
  calls_sxA (M := M) (V := v_row) (hi := {}) (args := [.int .i64 (.v 0)]) (nv := 1) (e := (upd (fun _ => .i 0) 0 (.i x0))) Try.func61 hH h (by kernel_rfl) (by kernel_rfl) (by kernel_rfl)
end Go.Proofs.Ytoilhpkclabhoaa
namespace Go.Proofs.Ytoilhpkclabhoaa
open Go.RowKit

end Go.Proofs.Ytoilhpkclabhoaa
namespace Go.Proofs.Ytoilhpkclabhoaa
open Go.RowKit

theorem infoRep : infoIs Try.prog 67 2 16 = true := by kernel_rfl
theorem infoSes : infoIs Try.prog 59 4 48 = true := by kernel_rfl
theorem Kept.of_ow {H : Hp} {p : Option Loc} {n c : Nat} {l : List Rep} {g : Option Nat} (h : Ow H 67 2 p n c (l.map Rep.row) g) : Kept H p n c l := ⟨h.2.2.1, h.2.2.2.1, h.rows⟩
/-- a table of one's own -/
def OwnTab (D : Hp) (p : Option Loc) (n c : Nat) (l : List Ses) (g : Option Nat) : Prop := ∃ rows Dk, Ow D 59 4 p n c rows g ∧ Hp.le Dk D ∧ (∀ b, g = some b → Dk b = none) ∧ All2 (SesRow Dk) rows l
end Go.Proofs.Ytoilhpkclabhoaa
