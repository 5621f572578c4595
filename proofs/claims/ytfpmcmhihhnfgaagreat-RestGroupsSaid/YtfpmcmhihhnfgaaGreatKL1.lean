/- Symbolic runs of functions: what each leaves to prove is enough for its call. Printed by a program of ours. No conditions. What the laws make: entries, sessions, a state. No conditions. -/
import Derived.Test.YtfpmcmhihhnfgaaGreatKE3
import Derived.Test.YtfpmcmhihhnfgaaGreatProg
import Derived.Test.YtfpmcmhihhnfgaaGreatKS4
import Derived.Test.YtfpmcmhihhnfgaaGreatKT1
import Derived.Test.YtfpmcmhihhnfgaaGreatKU1
set_option linter.unusedVariables false
set_option linter.unusedSimpArgs false
namespace Go.Proofs.YtfpmcmhihhnfgaaGreat
open Go.RowKit
set_option maxRecDepth 100000
set_option maxHeartbeats 4000000
def v_lopen : VC :=
(.all 0
(.ret (.agg [.int .i64 (.k 1), vI 0, vI 1, .int .i64 (.k 0), .int .i64 (.k 0), .int .i64 (.k 0), .int .i64 (.k 0), .int .i64 (.k 0), .int .i64 (.k 0)]) []))
theorem x_lopen (x0 x1 : Int) (M : Nat → Prop) (H0 : Hp) (W0 : World) (R : Ending → World → Prop) (hH : H0.le (hpOf W0)) (h :
 (∀ b0 : Nat,
 Rt R W0 M H0 nK (Value.agg #[vi 1, vi x0, vi x1, vi 0, vi 0, vi 0, vi 0, vi 0, vi 0]))) :
  Calls Tryz.prog 20 #[vi x0, vi x1] W0 R :=
  calls_sxA (M := M) (V := v_lopen) (hi := {}) (args := [vI 0, vI 1]) (nv := 2) (e := (upd (upd (fun _ => .i 0) 0 (.i x0)) 1 (.i x1))) Tryz.func20 hH h (by kernel_rfl) (by kernel_rfl) (by kernel_rfl)
def v_lcall : VC :=
(.all 0
(.all 1
(.ret (.agg [.int .i64 (.k 2), vI 0, vI 1, vI 2, vI 3, vI 4, vI 5, vI 6, vI 7]) [])))
theorem x_lcall (x0 x1 x2 x3 x4 x5 x6 x7 : Int) (M : Nat → Prop) (H0 : Hp) (W0 : World) (R : Ending → World → Prop) (hH : H0.le (hpOf W0)) (h :
 (∀ b0 : Nat,
 (∀ b1 : Nat,
 Rt R W0 M H0 nK (Value.agg #[vi 2, vi x0, vi x1, vi x2, vi x3, vi x4, vi x5, vi x6, vi x7])))) :
  Calls Tryz.prog 21 #[vi x0, vi x1, vi x2, vi x3, Value.agg #[vi x4, vi x5, vi x6, vi x7]] W0 R :=
  calls_sxA (M := M) (V := v_lcall) (hi := {}) (args := [vI 0, vI 1, vI 2, vI 3, .agg [vI 4, vI 5, vI 6, vI 7]]) (nv := 8) (e := (upd (upd (upd (upd (upd (upd (upd (upd (fun _ => .i 0) 0 (.i x0)) 1 (.i x1)) 2 (.i x2)) 3 (.i x3)) 4 (.i x4)) 5 (.i x5)) 6 (.i x6)) 7 (.i x7))) Tryz.func21 hH h (by kernel_rfl) (by kernel_rfl) (by kernel_rfl)
def v_ladd : VC :=
(.all 0
(.ret (.agg [.int .i64 (.k 2), .int .i64 (.k 0), .int .i64 (.k 0), vI 0]) []))
theorem x_ladd (x0 : Int) (M : Nat → Prop) (H0 : Hp) (W0 : World) (R : Ending → World → Prop) (hH : H0.le (hpOf W0)) (h :
 (∀ b0 : Nat,
 Rt R W0 M H0 nK (Value.agg #[vi 2, vi 0, vi 0, vi x0]))) :
  Calls Tryz.prog 22 #[vi x0] W0 R :=
  calls_sxA (M := M) (V := v_ladd) (hi := {}) (args := [vI 0]) (nv := 1) (e := (upd (fun _ => .i 0) 0 (.i x0))) Tryz.func22 hH h (by kernel_rfl) (by kernel_rfl) (by kernel_rfl)
end Go.Proofs.YtfpmcmhihhnfgaaGreat
namespace Go.Proofs.YtfpmcmhihhnfgaaGreat
open Go.RowKit

def chooseI (c n : Int) : Int := Int.tmod (if c < 0 then 0 - (c + 1) else c) n
theorem choose_in (c n : Int) (hn : 0 < n) : 0 ≤ chooseI c n ∧ chooseI c n < n := by
  unfold chooseI
  have h0 : 0 ≤ (if c < 0 then 0 - (c + 1) else c) := by split <;> omega
  generalize (if c < 0 then 0 - (c + 1) else c) = d at h0
  rw [Int.tmod_eq_emod_of_nonneg h0]
  exact ⟨Int.emod_nonneg _ (by omega), Int.emod_lt_of_pos _ hn⟩
theorem ek_rem (x y : Operand) (a b : Int) (hb : b ≠ 0) (w : World) : (EK.sem (.bop .rem 3 x y) [vi a, vi b]).run Tryz.prog w = .ok (.value (vi (Int.tmod a b))) w := by
  simp [EK.sem, eqGuard, binOp, Op.intDiv, hb]
theorem c_choose (c n : Int) (hn : 0 < n) (hc : -9223372036854775808 ≤ c ∧ c ≤ 9223372036854775807) (H : Hp) : Gv Tryz.prog 7 #[vi c, vi n] H (vi (chooseI c n)) := fun W hH => by
  refine x_choose c n noM H W _ hH ⟨fun h => ⟨in64 (by omega), fun _ => ⟨in64 (by omega), fun _ => ?_⟩⟩, fun h => ?_⟩
  · unfold chooseI
    rw [if_pos h]
    exact fun W1 n1 _ => ⟨_, _, ek_rem _ _ _ _ (by omega) _, Ext.refl _, Rt.gv⟩
  · unfold chooseI
    rw [if_neg h]
    exact fun W1 n1 _ => ⟨_, _, ek_rem _ _ _ _ (by omega) _, Ext.refl _, Rt.gv⟩
theorem c_ladd (x : Int) (H : Hp) : Gv Tryz.prog 22 #[vi x] H (.agg #[vi 2, vi 0, vi 0, vi x]) := fun W hH => x_ladd x noM H W _ hH fun b0 => Rt.gv
theorem c_lcall (time client seq ack : Int) (x : POp) (H : Hp) : Gv Tryz.prog 21 #[vi time, vi client, vi seq, vi ack, .agg #[vi x.kind, vi x.key, vi x.to, vi x.n]] H (.agg #[vi 2, vi time, vi client, vi seq, vi ack, vi x.kind, vi x.key, vi x.to, vi x.n]) := fun W hH => x_lcall time client seq ack _ _ _ _ noM H W _ hH fun b0 b1 => Rt.gv
theorem c_lopen (time client : Int) (H : Hp) : Gv Tryz.prog 20 #[vi time, vi client] H (.agg #[vi 1, vi time, vi client, vi 0, vi 0, vi 0, vi 0, vi 0, vi 0]) := fun W hH => x_lopen time client noM H W _ hH fun b0 => Rt.gv
theorem Kept.nil (D : Hp) (p : Option Loc) : Kept D p 0 0 [] := ⟨Nat.le_refl _, by simp [maxLen], Rows.nil _ _ _⟩
end Go.Proofs.YtfpmcmhihhnfgaaGreat
