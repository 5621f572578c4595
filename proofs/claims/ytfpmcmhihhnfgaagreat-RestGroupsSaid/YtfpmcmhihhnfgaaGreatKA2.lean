/- Symbolic runs of functions: what each leaves to prove is enough for its call. Printed by a program of ours. No conditions. Contract: slices.Insert of replies. No conditions. Contracts: what looks up, and what deletes, in kept answers. No conditions. -/
import Derived.Test.YtfpmcmhihhnfgaaGreatKE3
import Derived.Test.YtfpmcmhihhnfgaaGreatProg
import Derived.Test.YtfpmcmhihhnfgaaGreatKS2
import Derived.Test.YtfpmcmhihhnfgaaGreatKE4
import Derived.Lib.Overlaps
import Derived.Test.YtfpmcmhihhnfgaaGreatKS3
import Derived.Test.YtfpmcmhihhnfgaaGreatKA1
set_option linter.unusedVariables false
set_option linter.unusedSimpArgs false
namespace Go.Proofs.YtfpmcmhihhnfgaaGreat
open Go.RowKit
set_option maxRecDepth 100000
set_option maxHeartbeats 4000000
def v_stOwn : VC :=
(.all 0
(.all 1
(.call 63 [vS 6] [] [(9, .p), (10, .n), (11, .n)] (vS 9) .fresh
(.ret (.agg [vI 0, vI 1, vI 2, vI 3, vI 4, vI 5, vS 9]) []))))
theorem x_stOwn (x0 x1 x2 x3 x4 x5 : Int) (x6 : Option Loc) (x7 x8 : Nat) (M : Nat → Prop) (H0 : Hp) (W0 : World) (R : Ending → World → Prop) (hH : H0.le (hpOf W0)) (h :
 (∀ b0 : Nat,
 (∀ b1 : Nat,
 (Cl Tryz.prog W0 M H0 nK 63 #[vsl x6 x7 x8] fun z W1 W2 => ∃ (x9 : Option Loc) (x10 x11 : Nat), z = .returned (vsl x9 x10 x11) ∧ Fr W1 W2 H0 fun H1 =>
 Rt R W0 M H1 nK (Value.agg #[vi x0, vi x1, vi x2, vi x3, vi x4, vi x5, vsl x9 x10 x11]))))) :
  Calls Tryz.prog 44 #[Value.agg #[vi x0, vi x1, vi x2, vi x3, vi x4, vi x5, vsl x6 x7 x8]] W0 R :=
  calls_sxA (M := M) (V := v_stOwn) (hi := {}) (args := [.agg [vI 0, vI 1, vI 2, vI 3, vI 4, vI 5, vS 6]]) (nv := 9) (e := (upd (upd (upd (upd (upd (upd (upd (upd (upd (fun _ => .i 0) 0 (.i x0)) 1 (.i x1)) 2 (.i x2)) 3 (.i x3)) 4 (.i x4)) 5 (.i x5)) 6 (.p x6)) 7 (.n x7)) 8 (.n x8))) Tryz.func44 hH h (by kernel_rfl) (by kernel_rfl) (by kernel_rfl)
def v_ownState : VC :=
(.all 0
(.all 1
(.call 43 [vS 6, .int .i64 (.k (-1))] [] [(9, .p), (10, .n), (11, .n)] (vS 9) .fresh
(.ret (.agg [vI 0, vI 1, vI 2, vI 3, vI 4, vI 5, vS 9]) []))))
theorem x_ownState (x0 x1 x2 x3 x4 x5 : Int) (x6 : Option Loc) (x7 x8 : Nat) (M : Nat → Prop) (H0 : Hp) (W0 : World) (R : Ending → World → Prop) (hH : H0.le (hpOf W0)) (h :
 (∀ b0 : Nat,
 (∀ b1 : Nat,
 (Cl Tryz.prog W0 M H0 nK 43 #[vsl x6 x7 x8, vi (-1)] fun z W1 W2 => ∃ (x9 : Option Loc) (x10 x11 : Nat), z = .returned (vsl x9 x10 x11) ∧ Fr W1 W2 H0 fun H1 =>
 Rt R W0 M H1 nK (Value.agg #[vi x0, vi x1, vi x2, vi x3, vi x4, vi x5, vsl x9 x10 x11]))))) :
  Calls Tryz.prog 24 #[Value.agg #[vi x0, vi x1, vi x2, vi x3, vi x4, vi x5, vsl x6 x7 x8]] W0 R :=
  calls_sxA (M := M) (V := v_ownState) (hi := {}) (args := [.agg [vI 0, vI 1, vI 2, vI 3, vI 4, vI 5, vS 6]]) (nv := 9) (e := (upd (upd (upd (upd (upd (upd (upd (upd (upd (fun _ => .i 0) 0 (.i x0)) 1 (.i x1)) 2 (.i x2)) 3 (.i x3)) 4 (.i x4)) 5 (.i x5)) 6 (.p x6)) 7 (.n x7)) 8 (.n x8))) Tryz.func24 hH h (by kernel_rfl) (by kernel_rfl) (by kernel_rfl)
def v_kcall1 : VC :=
(.all 0
(.ld 2 (.k 0) [.ptrO 3 (.k 0)] [(3, .p)]
(.chk (.isp 3)
(.ld 3 (.add (.k 0) (.k 1)) [vI 4] [(4, .i)]
(.ret (.bool (.le (.v 0) (.v 4))) [])))))
theorem x_kcall1 (x0 x1 : Int) (x2 : Option Loc) (M : Nat → Prop) (H0 : Hp) (W0 : World) (R : Ending → World → Prop) (hH : H0.le (hpOf W0)) (h :
 (∀ b0 : Nat,
 (∃ x3 : Option Loc, RowAt H0 x2 0 [Value.pointer (ptrAt x3 0)] ∧
 (x3.isSome = true ∧ (x3.isSome = true →
 (∃ x4 : Int, RowAt H0 x3 (0 + 1) [vi x4] ∧
 Rt R W0 M H0 nK (vb (decide (x0 ≤ x4))))))))) :
  Calls Tryz.prog 97 #[Value.agg #[vi x0, vi x1], Value.pointer (ptrAt x2 0)] W0 R :=
  calls_sxA (M := M) (V := v_kcall1) (hi := {}) (args := [.agg [vI 0, vI 1], .ptrO 2 (.k 0)]) (nv := 3) (e := (upd (upd (upd (fun _ => .i 0) 0 (.i x0)) 1 (.i x1)) 2 (.p x2))) Tryz.func97 hH h (by kernel_rfl) (by kernel_rfl) (by kernel_rfl)
def v_kcall2 : VC :=
(.all 0
(.call 100 [vI 0, vI 2] [] [(3, .i)] (vI 3) .same
(.ret (vI 3) [])))
theorem x_kcall2 (x0 x1 x2 : Int) (M : Nat → Prop) (H0 : Hp) (W0 : World) (R : Ending → World → Prop) (hH : H0.le (hpOf W0)) (h :
 (∀ b0 : Nat,
 (Cl Tryz.prog W0 M H0 nK 100 #[vi x0, vi x2] fun z W1 W2 => ∃ x3 : Int, z = .returned (vi x3) ∧ Ext W1 W2 ∧
 Rt R W0 M H0 nK (vi x3)))) :
  Calls Tryz.prog 99 #[Value.agg #[vi x0, vi x1], vi x2] W0 R :=
  calls_sxA (M := M) (V := v_kcall2) (hi := {}) (args := [.agg [vI 0, vI 1], vI 2]) (nv := 3) (e := (upd (upd (upd (fun _ => .i 0) 0 (.i x0)) 1 (.i x1)) 2 (.i x2))) Tryz.func99 hH h (by kernel_rfl) (by kernel_rfl) (by kernel_rfl)
def v_indexR : VC :=
(.chk (.le (.k 0) (.v 1))
(.loop [(4, .i)] [.i (.k 0)] [.i (.v 4)]
(.ite (.lt (.v 4) (.v 1))
(.chk (.idx (.v 4) (.v 1))
(.chk (.isp 0)
(.ld 0 (.add (.k 0) (.mul (.v 4) (.k 2))) [vI 5, vI 6] [(5, .i), (6, .i)]
(.call 97 [.agg [vI 5, vI 6], .ptrO 3 (.k 0)] [] [(7, .b)] (.bool (.v 7)) .same
(.ite (.v 7)
(.ret (vI 4) [])
(.chk (.rng .i64 (.add (.v 4) (.k 1)))
(.back 0 [.i (.add (.v 4) (.k 1))])))))))
(.ret (.int .i64 (.k (-1))) []))))
theorem x_indexR (x0 : Option Loc) (x1 x2 : Nat) (x3 : Option Loc) (M : Nat → Prop) (H0 : Hp) (W0 : World) (R : Ending → World → Prop) (hH : H0.le (hpOf W0)) (h :
 (0 ≤ (x1 : Int) ∧ (0 ≤ (x1 : Int) →
 (∃ (I0 : List Dat → Hp → Prop) (μ0 : List Dat → Nat), I0 [.i 0] H0 ∧ ∀ H1 : Hp, ∀ x4 : Int, I0 [.i x4] H1 →
  ((x4 < (x1 : Int) →
   (((0 : Int) ≤ x4 ∧ x4 < (x1 : Int)) ∧ (((0 : Int) ≤ x4 ∧ x4 < (x1 : Int)) →
   (x0.isSome = true ∧ (x0.isSome = true →
   (∃ (x5 x6 : Int), RowAt H1 x0 (0 + (x4 * 2)) [vi x5, vi x6] ∧
   (Cl Tryz.prog W0 M H1 nK 97 #[Value.agg #[vi x5, vi x6], Value.pointer (ptrAt x3 0)] fun z W1 W2 => ∃ x7 : Bool, z = .returned (vb (x7)) ∧ Ext W1 W2 ∧
   ((x7 = true →
    Rt R W0 M H1 nK (vi x4)) ∧
   (¬ (x7 = true) →
    (inKind .i64 (x4 + 1) ∧ (inKind .i64 (x4 + 1) →
    (I0 [.i (x4 + 1)] H1 ∧ μ0 [.i (x4 + 1)] < μ0 [.i x4])))))))))))) ∧
  (¬ (x4 < (x1 : Int)) →
   Rt R W0 M H1 nK (vi (-1)))))))) :
  Calls Tryz.prog 105 #[vsl x0 x1 x2, Value.func (.func 97) #[] #[Value.pointer (ptrAt x3 0)]] W0 R :=
  calls_sxA (M := M) (V := v_indexR) (hi := {loops := [(2, .inv [(8, .pt (.int .i64))] [])]}) (args := [vS 0, .func 97 [] [.ptrO 3 (.k 0)]]) (nv := 4) (e := (upd (upd (upd (upd (fun _ => .i 0) 0 (.p x0)) 1 (.n x1)) 2 (.n x2)) 3 (.p x3))) Tryz.func105 hH h (by kernel_rfl) (by kernel_rfl) (by kernel_rfl)
def v_delFR : VC :=
(.call 105 [vS 0, .func 97 [] [.ptrO 3 (.k 0)]] [] [(4, .i)] (vI 4) .same
(.ite (.eq (.v 4) (.k (-1)))
(.ret (vS 0) [])
(.chk (.rng .i64 (.add (.v 4) (.k 1)))
(.loop [(5, .i), (6, .i)] [.i (.add (.v 4) (.k 1)), .i (.v 4)] [.i (.v 5), .i (.v 6)]
(.chk (.le (.k 0) (.v 1))
(.ite (.lt (.v 5) (.v 1))
(.chk (.idx (.v 5) (.v 1))
(.chk (.isp 0)
(.ld 0 (.add (.k 0) (.mul (.v 5) (.k 2))) [vI 7, vI 8] [(7, .i), (8, .i)]
(.all 0
(.call 97 [.agg [vI 7, vI 8], .ptrO 3 (.k 0)] [] [(9, .b)] (.bool (.v 9)) .same
(.ite (.v 9)
(.chk (.rng .i64 (.add (.v 5) (.k 1)))
(.back 0 [.i (.add (.v 5) (.k 1)), .i (.v 6)]))
(.chk (.idx (.v 6) (.v 1))
(.esc (.storeO 77) [.ptrO 0 (.add (.k 0) (.mul (.v 6) (.k 2))), .agg [vI 7, vI 8]] [] [] none .turn
(.chk (.rng .i64 (.add (.v 6) (.k 1)))
(.chk (.rng .i64 (.add (.v 5) (.k 1)))
(.back 0 [.i (.add (.v 5) (.k 1)), .i (.add (.v 6) (.k 1))])))))))))))
(.chk (.le (.k 0) (.v 6))
(.chk (.le (.v 6) (.v 1))
(.chk (.le (.v 1) (.v 2))
(.esc (.bi .clear #[73] 0) [.slO 0 (.add (.k 0) (.skip (.v 2) (.v 6) 2)) (.sub (.v 1) (.v 6)) (.sub (.v 2) (.v 6))] [] [] (some (.tup [])) .turn
(.chk (.le (.v 6) (.v 2))
(.ret (.slO 0 (.k 0) (.v 6) (.v 2)) []))))))))))))
theorem x_delFR (x0 : Option Loc) (x1 x2 : Nat) (x3 : Option Loc) (M : Nat → Prop) (H0 : Hp) (W0 : World) (R : Ending → World → Prop) (hH : H0.le (hpOf W0)) (h :
 (Cl Tryz.prog W0 M H0 nK 105 #[vsl x0 x1 x2, Value.func (.func 97) #[] #[Value.pointer (ptrAt x3 0)]] fun z W1 W2 => ∃ x4 : Int, z = .returned (vi x4) ∧ Ext W1 W2 ∧
 ((x4 = (-1) →
  Rt R W0 M H0 nK (vsl x0 x1 x2)) ∧
 (¬ (x4 = (-1)) →
  (inKind .i64 (x4 + 1) ∧ (inKind .i64 (x4 + 1) →
  (∃ (I0 : List Dat → Hp → Prop) (μ0 : List Dat → Nat), I0 [.i (x4 + 1), .i x4] H0 ∧ ∀ H1 : Hp, ∀ (x5 x6 : Int), I0 [.i x5, .i x6] H1 →
   (0 ≤ (x1 : Int) ∧ (0 ≤ (x1 : Int) →
   ((x5 < (x1 : Int) →
    (((0 : Int) ≤ x5 ∧ x5 < (x1 : Int)) ∧ (((0 : Int) ≤ x5 ∧ x5 < (x1 : Int)) →
    (x0.isSome = true ∧ (x0.isSome = true →
    (∃ (x7 x8 : Int), RowAt H1 x0 (0 + (x5 * 2)) [vi x7, vi x8] ∧
    (∀ b0 : Nat,
    (Cl Tryz.prog W0 M H1 nK 97 #[Value.agg #[vi x7, vi x8], Value.pointer (ptrAt x3 0)] fun z W3 W4 => ∃ x9 : Bool, z = .returned (vb (x9)) ∧ Ext W3 W4 ∧
    ((x9 = true →
     (inKind .i64 (x5 + 1) ∧ (inKind .i64 (x5 + 1) →
     (I0 [.i (x5 + 1), .i x6] H1 ∧ μ0 [.i (x5 + 1), .i x6] < μ0 [.i x5, .i x6])))) ∧
    (¬ (x9 = true) →
     (((0 : Int) ≤ x6 ∧ x6 < (x1 : Int)) ∧ (((0 : Int) ≤ x6 ∧ x6 < (x1 : Int)) →
     (Es W0 M H1 nK fun W5 => Eo Tryz.prog (.storeO 77) [Value.pointer (ptrAt x0 (0 + (x6 * 2))), Value.agg #[vi x7, vi x8]] W5 (.skip) fun W6 => Tn W0 M H1 W5 W6 fun H2 =>
     (inKind .i64 (x6 + 1) ∧ (inKind .i64 (x6 + 1) →
     (inKind .i64 (x5 + 1) ∧ (inKind .i64 (x5 + 1) →
     (I0 [.i (x5 + 1), .i (x6 + 1)] H2 ∧ μ0 [.i (x5 + 1), .i (x6 + 1)] < μ0 [.i x5, .i x6])))))))))))))))))) ∧
   (¬ (x5 < (x1 : Int)) →
    (0 ≤ x6 ∧ (0 ≤ x6 →
    (x6 ≤ (x1 : Int) ∧ (x6 ≤ (x1 : Int) →
    ((x1 : Int) ≤ (x2 : Int) ∧ ((x1 : Int) ≤ (x2 : Int) →
    (Es W0 M H1 nK fun W3 => Eo Tryz.prog (.bi .clear #[73] 0) [Value.slice (ptrAt x0 (0 + (if (x2 : Int) = x6 then 0 else x6 * ((2 : Nat) : Int)))) (((x1 : Int) - x6) : Int).toNat (((x2 : Int) - x6) : Int).toNat] W3 (.value (Value.tuple #[])) fun W4 => Tn W0 M H1 W3 W4 fun H2 =>
    (x6 ≤ (x2 : Int) ∧ (x6 ≤ (x2 : Int) →
    Rt R W0 M H2 nK (vsl x0 (x6).toNat x2))))))))))))))))))))) :
  Calls Tryz.prog 96 #[vsl x0 x1 x2, Value.func (.func 97) #[] #[Value.pointer (ptrAt x3 0)]] W0 R :=
  calls_sxA (M := M) (V := v_delFR) (hi := {loops := [(5, .inv [(6, .pt (.int .i64)), (5, .pt (.int .i64))] [])]}) (args := [vS 0, .func 97 [] [.ptrO 3 (.k 0)]]) (nv := 4) (e := (upd (upd (upd (upd (fun _ => .i 0) 0 (.p x0)) 1 (.n x1)) 2 (.n x2)) 3 (.p x3))) Tryz.func96 hH h (by kernel_rfl) (by kernel_rfl) (by kernel_rfl)
def v_bsR : VC :=
(.chk (.le (.k 0) (.v 1))
(.loop [(4, .n), (5, .n)] [.n (.k 0), .n (.v 1)] [.n (.v 4), .n (.v 5)]
(.ite (.lt (.v 4) (.v 5))
(.chk (.rng .i64 (.add (.v 4) (.v 5)))
(.esc (.bop .shr 140 (.tmp 21) (.const (Value.int .u64 1))) [.int .u64 (.wrap .u64 (.add (.v 4) (.v 5))), .int .u64 (.k 1)] [] [(6, .i)] (some (.int .u64 (.v 6))) .same
(.chk (.rng .i64 (.v 6))
(.chk (.idx (.v 6) (.v 1))
(.chk (.isp 0)
(.ld 0 (.add (.k 0) (.mul (.v 6) (.k 2))) [vI 7, vI 8] [(7, .i), (8, .i)]
(.call 99 [.agg [vI 7, vI 8], vI 3] [] [(9, .i)] (vI 9) .same
(.ite (.lt (.v 9) (.k 0))
(.chk (.rng .i64 (.add (.v 6) (.k 1)))
(.chk (.le (.k 0) (.add (.v 6) (.k 1)))
(.chk (.le (.k 0) (.v 5))
(.back 0 [.n (.add (.v 6) (.k 1)), .n (.v 5)]))))
(.chk (.le (.k 0) (.v 4))
(.chk (.le (.k 0) (.v 6))
(.back 0 [.n (.v 4), .n (.v 6)])))))))))))
(.ite (.lt (.v 4) (.v 1))
(.chk (.idx (.v 4) (.v 1))
(.chk (.isp 0)
(.ld 0 (.add (.k 0) (.mul (.v 4) (.k 2))) [vI 6, vI 7] [(6, .i), (7, .i)]
(.call 99 [.agg [vI 6, vI 7], vI 3] [] [(8, .i)] (vI 8) .same
(.ret (.tup [vI 4, .bool (.eq (.v 8) (.k 0))]) [])))))
(.ret (.tup [vI 4, .bool (.k false)]) [])))))
theorem x_bsR (x0 : Option Loc) (x1 x2 : Nat) (x3 : Int) (M : Nat → Prop) (H0 : Hp) (W0 : World) (R : Ending → World → Prop) (hH : H0.le (hpOf W0)) (h :
 (0 ≤ (x1 : Int) ∧ (0 ≤ (x1 : Int) →
 (∃ (I0 : List Dat → Hp → Prop) (μ0 : List Dat → Nat), I0 [.n 0, .n x1] H0 ∧ ∀ H1 : Hp, ∀ (x4 x5 : Nat), I0 [.n x4, .n x5] H1 →
  (((x4 : Int) < (x5 : Int) →
   (inKind .i64 ((x4 : Int) + (x5 : Int)) ∧ (inKind .i64 ((x4 : Int) + (x5 : Int)) →
   (Es W0 M H1 nK fun W1 => ∃ x6 : Int, Eo Tryz.prog (.bop .shr 140 (.tmp 21) (.const (Value.int .u64 1))) [Value.int .u64 (IntKind.wrap .u64 ((x4 : Int) + (x5 : Int))), Value.int .u64 1] W1 (.value (Value.int .u64 x6)) fun W2 => Ext W1 W2 ∧
   (inKind .i64 x6 ∧ (inKind .i64 x6 →
   (((0 : Int) ≤ x6 ∧ x6 < (x1 : Int)) ∧ (((0 : Int) ≤ x6 ∧ x6 < (x1 : Int)) →
   (x0.isSome = true ∧ (x0.isSome = true →
   (∃ (x7 x8 : Int), RowAt H1 x0 (0 + (x6 * 2)) [vi x7, vi x8] ∧
   (Cl Tryz.prog W0 M H1 nK 99 #[Value.agg #[vi x7, vi x8], vi x3] fun z W3 W4 => ∃ x9 : Int, z = .returned (vi x9) ∧ Ext W3 W4 ∧
   ((x9 < 0 →
    (inKind .i64 (x6 + 1) ∧ (inKind .i64 (x6 + 1) →
    (0 ≤ (x6 + 1) ∧ (0 ≤ (x6 + 1) →
    (0 ≤ (x5 : Int) ∧ (0 ≤ (x5 : Int) →
    (I0 [.n ((x6 + 1) : Int).toNat, .n x5] H1 ∧ μ0 [.n ((x6 + 1) : Int).toNat, .n x5] < μ0 [.n x4, .n x5])))))))) ∧
   (¬ (x9 < 0) →
    (0 ≤ (x4 : Int) ∧ (0 ≤ (x4 : Int) →
    (0 ≤ x6 ∧ (0 ≤ x6 →
    (I0 [.n x4, .n (x6).toNat] H1 ∧ μ0 [.n x4, .n (x6).toNat] < μ0 [.n x4, .n x5]))))))))))))))))))) ∧
  (¬ ((x4 : Int) < (x5 : Int)) →
   (((x4 : Int) < (x1 : Int) →
    (((0 : Int) ≤ (x4 : Int) ∧ (x4 : Int) < (x1 : Int)) ∧ (((0 : Int) ≤ (x4 : Int) ∧ (x4 : Int) < (x1 : Int)) →
    (x0.isSome = true ∧ (x0.isSome = true →
    (∃ (x6 x7 : Int), RowAt H1 x0 (0 + ((x4 : Int) * 2)) [vi x6, vi x7] ∧
    (Cl Tryz.prog W0 M H1 nK 99 #[Value.agg #[vi x6, vi x7], vi x3] fun z W1 W2 => ∃ x8 : Int, z = .returned (vi x8) ∧ Ext W1 W2 ∧
    Rt R W0 M H1 nK (Value.tuple #[vi (x4 : Int), vb (decide (x8 = 0))])))))))) ∧
   (¬ ((x4 : Int) < (x1 : Int)) →
    Rt R W0 M H1 nK (Value.tuple #[vi (x4 : Int), vb (false)]))))))))) :
  Calls Tryz.prog 98 #[vsl x0 x1 x2, vi x3, Value.func (.func 99) #[] #[]] W0 R :=
  calls_sxA (M := M) (V := v_bsR) (hi := {loops := [(3, .inv [(9, .nat), (10, .nat)] [])]}) (args := [vS 0, vI 3, .func 99 [] []]) (nv := 4) (e := (upd (upd (upd (upd (fun _ => .i 0) 0 (.p x0)) 1 (.n x1)) 2 (.n x2)) 3 (.i x3))) Tryz.func98 hH h (by kernel_rfl) (by kernel_rfl) (by kernel_rfl)
def v_insR : VC :=
(.chk (.le (.k 0) (.v 3))
(.chk (.le (.v 3) (.v 1))
(.chk (.le (.v 1) (.v 2))
(.chk (.le (.k 0) (.v 5))
(.ite (.eq (.v 5) (.k 0))
(.ret (vS 0) [])
(.chk (.le (.k 0) (.v 1))
(.ite (.eq (.v 3) (.v 1))
(.esc (.bi .append #[73, 73] 73) [vS 0, vS 4] [] [(7, .p), (8, .n), (9, .n)] (some (vS 7)) .turn
(.ret (vS 7) []))
(.chk (.rng .i64 (.add (.v 1) (.v 5)))
(.esc (.bi .cap #[73] 3) [vS 0] [] [(7, .i)] (some (vI 7)) .same
(.ite (.lt (.v 7) (.add (.v 1) (.v 5)))
(.chk (.le (.v 3) (.v 2))
(.chk (.rng .i64 (.sub (.add (.v 1) (.v 5)) (.v 3)))
(.esc (.bi .append #[73, 3] 73) [.slO 0 (.k 0) (.v 3) (.v 2), .int .i64 (.sub (.add (.v 1) (.v 5)) (.v 3))] [] [(8, .p), (9, .n), (10, .n)] (some (vS 8)) .turn
(.chk (.le (.v 3) (.v 9))
(.chk (.le (.v 9) (.v 10))
(.esc (.bi .copy #[73, 73] 3) [.slO 8 (.add (.k 0) (.skip (.v 10) (.v 3) 2)) (.sub (.v 9) (.v 3)) (.sub (.v 10) (.v 3)), vS 4] [] [(11, .i)] (some (vI 11)) .turn
(.chk (.rng .i64 (.add (.v 3) (.v 5)))
(.chk (.le (.k 0) (.add (.v 3) (.v 5)))
(.chk (.le (.add (.v 3) (.v 5)) (.v 9))
(.esc (.bi .copy #[73, 73] 3) [.slO 8 (.add (.k 0) (.skip (.v 10) (.add (.v 3) (.v 5)) 2)) (.sub (.v 9) (.add (.v 3) (.v 5))) (.sub (.v 10) (.add (.v 3) (.v 5))), .slO 0 (.add (.k 0) (.skip (.v 2) (.v 3) 2)) (.sub (.v 1) (.v 3)) (.sub (.v 2) (.v 3))] [] [(12, .i)] (some (vI 12)) .turn
(.ret (vS 8) [])))))))))))
(.chk (.le (.k 0) (.add (.v 1) (.v 5)))
(.chk (.le (.add (.v 1) (.v 5)) (.v 2))
(.chk (.rng .i64 (.add (.v 3) (.v 5)))
(.chk (.le (.k 0) (.add (.v 3) (.v 5)))
(.chk (.le (.add (.v 3) (.v 5)) (.add (.v 1) (.v 5)))
(.esc (.ext 111) [vS 4, .slO 0 (.add (.k 0) (.skip (.v 2) (.add (.v 3) (.v 5)) 2)) (.sub (.add (.v 1) (.v 5)) (.add (.v 3) (.v 5))) (.sub (.v 2) (.add (.v 3) (.v 5)))] [] [(8, .b)] (some (.bool (.v 8))) .same
(.ite (.v 8)
(.chk (.le (.v 1) (.add (.v 1) (.v 5)))
(.esc (.bi .copy #[73, 73] 3) [.slO 0 (.add (.k 0) (.skip (.v 2) (.v 1) 2)) (.sub (.add (.v 1) (.v 5)) (.v 1)) (.sub (.v 2) (.v 1)), vS 4] [] [(9, .i)] (some (vI 9)) .turn
(.chk (.le (.v 3) (.add (.v 1) (.v 5)))
(.call 112 [.slO 0 (.add (.k 0) (.skip (.v 2) (.v 3) 2)) (.sub (.add (.v 1) (.v 5)) (.v 3)) (.sub (.v 2) (.v 3)), vI 5] [] [] (.tup []) .same
(.ret (.slO 0 (.k 0) (.add (.v 1) (.v 5)) (.v 2)) [])))))
(.chk (.le (.v 3) (.add (.v 1) (.v 5)))
(.esc (.bi .copy #[73, 73] 3) [.slO 0 (.add (.k 0) (.skip (.v 2) (.add (.v 3) (.v 5)) 2)) (.sub (.add (.v 1) (.v 5)) (.add (.v 3) (.v 5))) (.sub (.v 2) (.add (.v 3) (.v 5))), .slO 0 (.add (.k 0) (.skip (.v 2) (.v 3) 2)) (.sub (.add (.v 1) (.v 5)) (.v 3)) (.sub (.v 2) (.v 3))] [] [(9, .i)] (some (vI 9)) .turn
(.esc (.bi .copy #[73, 73] 3) [.slO 0 (.add (.k 0) (.skip (.v 2) (.v 3) 2)) (.sub (.add (.v 1) (.v 5)) (.v 3)) (.sub (.v 2) (.v 3)), vS 4] [] [(10, .i)] (some (vI 10)) .turn
(.ret (.slO 0 (.k 0) (.add (.v 1) (.v 5)) (.v 2)) [])))))))))))))))))))))
theorem x_insR (x0 : Option Loc) (x1 x2 : Nat) (x3 : Int) (x4 : Option Loc) (x5 x6 : Nat) (M : Nat → Prop) (H0 : Hp) (W0 : World) (R : Ending → World → Prop) (hH : H0.le (hpOf W0)) (h :
 (0 ≤ x3 ∧ (0 ≤ x3 →
 (x3 ≤ (x1 : Int) ∧ (x3 ≤ (x1 : Int) →
 ((x1 : Int) ≤ (x2 : Int) ∧ ((x1 : Int) ≤ (x2 : Int) →
 (0 ≤ (x5 : Int) ∧ (0 ≤ (x5 : Int) →
 (((x5 : Int) = 0 →
  Rt R W0 M H0 nK (vsl x0 x1 x2)) ∧
 (¬ ((x5 : Int) = 0) →
  (0 ≤ (x1 : Int) ∧ (0 ≤ (x1 : Int) →
  ((x3 = (x1 : Int) →
   (Es W0 M H0 nK fun W1 => ∃ (x7 : Option Loc) (x8 x9 : Nat), Eo Tryz.prog (.bi .append #[73, 73] 73) [vsl x0 x1 x2, vsl x4 x5 x6] W1 (.value (vsl x7 x8 x9)) fun W2 => Tn W0 M H0 W1 W2 fun H1 =>
   Rt R W0 M H1 nK (vsl x7 x8 x9))) ∧
  (¬ (x3 = (x1 : Int)) →
   (inKind .i64 ((x1 : Int) + (x5 : Int)) ∧ (inKind .i64 ((x1 : Int) + (x5 : Int)) →
   (Es W0 M H0 nK fun W1 => ∃ x7 : Int, Eo Tryz.prog (.bi .cap #[73] 3) [vsl x0 x1 x2] W1 (.value (vi x7)) fun W2 => Ext W1 W2 ∧
   ((x7 < ((x1 : Int) + (x5 : Int)) →
    (x3 ≤ (x2 : Int) ∧ (x3 ≤ (x2 : Int) →
    (inKind .i64 (((x1 : Int) + (x5 : Int)) - x3) ∧ (inKind .i64 (((x1 : Int) + (x5 : Int)) - x3) →
    (Es W0 M H0 nK fun W3 => ∃ (x8 : Option Loc) (x9 x10 : Nat), Eo Tryz.prog (.bi .append #[73, 3] 73) [vsl x0 (x3).toNat x2, vi (((x1 : Int) + (x5 : Int)) - x3)] W3 (.value (vsl x8 x9 x10)) fun W4 => Tn W0 M H0 W3 W4 fun H1 =>
    (x3 ≤ (x9 : Int) ∧ (x3 ≤ (x9 : Int) →
    ((x9 : Int) ≤ (x10 : Int) ∧ ((x9 : Int) ≤ (x10 : Int) →
    (Es W0 M H1 nK fun W5 => ∃ x11 : Int, Eo Tryz.prog (.bi .copy #[73, 73] 3) [Value.slice (ptrAt x8 (0 + (if (x10 : Int) = x3 then 0 else x3 * ((2 : Nat) : Int)))) (((x9 : Int) - x3) : Int).toNat (((x10 : Int) - x3) : Int).toNat, vsl x4 x5 x6] W5 (.value (vi x11)) fun W6 => Tn W0 M H1 W5 W6 fun H2 =>
    (inKind .i64 (x3 + (x5 : Int)) ∧ (inKind .i64 (x3 + (x5 : Int)) →
    (0 ≤ (x3 + (x5 : Int)) ∧ (0 ≤ (x3 + (x5 : Int)) →
    ((x3 + (x5 : Int)) ≤ (x9 : Int) ∧ ((x3 + (x5 : Int)) ≤ (x9 : Int) →
    (Es W0 M H2 nK fun W7 => ∃ x12 : Int, Eo Tryz.prog (.bi .copy #[73, 73] 3) [Value.slice (ptrAt x8 (0 + (if (x10 : Int) = (x3 + (x5 : Int)) then 0 else (x3 + (x5 : Int)) * ((2 : Nat) : Int)))) (((x9 : Int) - (x3 + (x5 : Int))) : Int).toNat (((x10 : Int) - (x3 + (x5 : Int))) : Int).toNat, Value.slice (ptrAt x0 (0 + (if (x2 : Int) = x3 then 0 else x3 * ((2 : Nat) : Int)))) (((x1 : Int) - x3) : Int).toNat (((x2 : Int) - x3) : Int).toNat] W7 (.value (vi x12)) fun W8 => Tn W0 M H2 W7 W8 fun H3 =>
    Rt R W0 M H3 nK (vsl x8 x9 x10))))))))))))))))))) ∧
   (¬ (x7 < ((x1 : Int) + (x5 : Int))) →
    (0 ≤ ((x1 : Int) + (x5 : Int)) ∧ (0 ≤ ((x1 : Int) + (x5 : Int)) →
    (((x1 : Int) + (x5 : Int)) ≤ (x2 : Int) ∧ (((x1 : Int) + (x5 : Int)) ≤ (x2 : Int) →
    (inKind .i64 (x3 + (x5 : Int)) ∧ (inKind .i64 (x3 + (x5 : Int)) →
    (0 ≤ (x3 + (x5 : Int)) ∧ (0 ≤ (x3 + (x5 : Int)) →
    ((x3 + (x5 : Int)) ≤ ((x1 : Int) + (x5 : Int)) ∧ ((x3 + (x5 : Int)) ≤ ((x1 : Int) + (x5 : Int)) →
    (Es W0 M H0 nK fun W3 => ∃ x8 : Bool, Eo Tryz.prog (.ext 111) [vsl x4 x5 x6, Value.slice (ptrAt x0 (0 + (if (x2 : Int) = (x3 + (x5 : Int)) then 0 else (x3 + (x5 : Int)) * ((2 : Nat) : Int)))) ((((x1 : Int) + (x5 : Int)) - (x3 + (x5 : Int))) : Int).toNat (((x2 : Int) - (x3 + (x5 : Int))) : Int).toNat] W3 (.value (vb (x8))) fun W4 => Ext W3 W4 ∧
    ((x8 = true →
     ((x1 : Int) ≤ ((x1 : Int) + (x5 : Int)) ∧ ((x1 : Int) ≤ ((x1 : Int) + (x5 : Int)) →
     (Es W0 M H0 nK fun W5 => ∃ x9 : Int, Eo Tryz.prog (.bi .copy #[73, 73] 3) [Value.slice (ptrAt x0 (0 + (if (x2 : Int) = (x1 : Int) then 0 else (x1 : Int) * ((2 : Nat) : Int)))) ((((x1 : Int) + (x5 : Int)) - (x1 : Int)) : Int).toNat (((x2 : Int) - (x1 : Int)) : Int).toNat, vsl x4 x5 x6] W5 (.value (vi x9)) fun W6 => Tn W0 M H0 W5 W6 fun H1 =>
     (x3 ≤ ((x1 : Int) + (x5 : Int)) ∧ (x3 ≤ ((x1 : Int) + (x5 : Int)) →
     (Cl Tryz.prog W0 M H1 nK 112 #[Value.slice (ptrAt x0 (0 + (if (x2 : Int) = x3 then 0 else x3 * ((2 : Nat) : Int)))) ((((x1 : Int) + (x5 : Int)) - x3) : Int).toNat (((x2 : Int) - x3) : Int).toNat, vi (x5 : Int)] fun z W7 W8 => z = .returned (Value.tuple #[]) ∧ Ext W7 W8 ∧
     Rt R W0 M H1 nK (vsl x0 (((x1 : Int) + (x5 : Int)) : Int).toNat x2)))))))) ∧
    (¬ (x8 = true) →
     (x3 ≤ ((x1 : Int) + (x5 : Int)) ∧ (x3 ≤ ((x1 : Int) + (x5 : Int)) →
     (Es W0 M H0 nK fun W5 => ∃ x9 : Int, Eo Tryz.prog (.bi .copy #[73, 73] 3) [Value.slice (ptrAt x0 (0 + (if (x2 : Int) = (x3 + (x5 : Int)) then 0 else (x3 + (x5 : Int)) * ((2 : Nat) : Int)))) ((((x1 : Int) + (x5 : Int)) - (x3 + (x5 : Int))) : Int).toNat (((x2 : Int) - (x3 + (x5 : Int))) : Int).toNat, Value.slice (ptrAt x0 (0 + (if (x2 : Int) = x3 then 0 else x3 * ((2 : Nat) : Int)))) ((((x1 : Int) + (x5 : Int)) - x3) : Int).toNat (((x2 : Int) - x3) : Int).toNat] W5 (.value (vi x9)) fun W6 => Tn W0 M H0 W5 W6 fun H1 =>
     (Es W0 M H1 nK fun W7 => ∃ x10 : Int, Eo Tryz.prog (.bi .copy #[73, 73] 3) [Value.slice (ptrAt x0 (0 + (if (x2 : Int) = x3 then 0 else x3 * ((2 : Nat) : Int)))) ((((x1 : Int) + (x5 : Int)) - x3) : Int).toNat (((x2 : Int) - x3) : Int).toNat, vsl x4 x5 x6] W7 (.value (vi x10)) fun W8 => Tn W0 M H1 W7 W8 fun H2 =>
     Rt R W0 M H2 nK (vsl x0 (((x1 : Int) + (x5 : Int)) : Int).toNat x2)))))))))))))))))))))))))))))))))))))) :
  Calls Tryz.prog 102 #[vsl x0 x1 x2, vi x3, vsl x4 x5 x6] W0 R :=
  calls_sxA (M := M) (V := v_insR) (hi := {}) (args := [vS 0, vI 3, vS 4]) (nv := 7) (e := (upd (upd (upd (upd (upd (upd (upd (fun _ => .i 0) 0 (.p x0)) 1 (.n x1)) 2 (.n x2)) 3 (.i x3)) 4 (.p x4)) 5 (.n x5)) 6 (.n x6))) Tryz.func102 hH h (by kernel_rfl) (by kernel_rfl) (by kernel_rfl)
def v_mopen : VC :=
(.ite (.v 1)
(.chk (.idx (.v 0) (.v 11))
(.chk (.isp 10)
(.chk (.le (.k 0) (.add (.k 0) (.mul (.v 0) (.k 4))))
(.esc (.storeO 3) [.ptrO 10 (.add (.add (.k 0) (.mul (.v 0) (.k 4))) (.k 2)), vI 5] [] [] none .turn
(.ret (.int .i64 (.k 0)) [(0, ⟨[.ptrK 1 0, .bool (.v 3)], 109⟩), (1, ⟨[vI 4, vI 5, vI 6, vI 7, vI 8, vI 9, vS 10], 25⟩)])))))
(.chk (.le (.k 0) (.v 11))
(.ite (.eq (.v 11) (.k 3))
(.ret (.int .i64 (.k (-2))) [(0, ⟨[.ptrK 1 0, .bool (.v 3)], 109⟩), (1, ⟨[vI 4, vI 5, vI 6, vI 7, vI 8, vI 9, vS 10], 25⟩)])
(.all 2
(.call 95 [vS 10, vI 0, .slK 2 0 1 1] [(2, ⟨[vI 2, .int .i64 (.k 0), vI 5, .c (Value.slice none 0 0)], 75⟩)] [(13, .p), (14, .n), (15, .n)] (vS 13) .turn
(.ret (.int .i64 (.k 0)) [(0, ⟨[.ptrK 1 0, .bool (.v 3)], 109⟩), (1, ⟨[vI 4, vI 5, vI 6, vI 7, vI 8, vI 9, vS 13], 25⟩)]))))))
theorem x_mopen (x0 : Nat) (x1 : Bool) (x2 : Int) (x3 : Bool) (x4 x5 x6 x7 x8 x9 : Int) (x10 : Option Loc) (x11 x12 : Nat) (b0 b1 : Nat) (M : Nat → Prop) (H0 : Hp) (W0 : World) (R : Ending → World → Prop) (hH : H0.le (hpOf W0)) (hne : b0 ≠ b1) (h0 : W0.heap[b0]? = some (Obj.cells #[Value.pointer (some ⟨b1, 0, none⟩), vb (x3)] 109 (0, 0)) ∧ M b0 ∧ H0 b0 = none) (h1 : W0.heap[b1]? = some (Obj.cells #[vi x4, vi x5, vi x6, vi x7, vi x8, vi x9, vsl x10 x11 x12] 25 (0, 0)) ∧ M b1 ∧ H0 b1 = none) (h :
 ((x1 = true →
  (((0 : Int) ≤ (x0 : Int) ∧ (x0 : Int) < (x11 : Int)) ∧ (((0 : Int) ≤ (x0 : Int) ∧ (x0 : Int) < (x11 : Int)) →
  (x10.isSome = true ∧ (x10.isSome = true →
  (0 ≤ (0 + ((x0 : Int) * 4)) ∧ (0 ≤ (0 + ((x0 : Int) * 4)) →
  (Es W0 M H0 nK fun W1 => Eo Tryz.prog (.storeO 3) [Value.pointer (ptrAt x10 ((0 + ((x0 : Int) * 4)) + 2)), vi x5] W1 (.skip) fun W2 => Tn W0 M H0 W1 W2 fun H1 =>
  Rt R W0 M H1 (fun W => Kn W0 M H1 W b0 (Obj.cells #[Value.pointer (some ⟨b1, 0, none⟩), vb (x3)] 109 (0, 0)) ∧ Kn W0 M H1 W b1 (Obj.cells #[vi x4, vi x5, vi x6, vi x7, vi x8, vi x9, vsl x10 x11 x12] 25 (0, 0)) ∧ True) (vi 0))))))))) ∧
 (¬ (x1 = true) →
  (0 ≤ (x11 : Int) ∧ (0 ≤ (x11 : Int) →
  (((x11 : Int) = 3 →
   Rt R W0 M H0 (fun W => Kn W0 M H0 W b0 (Obj.cells #[Value.pointer (some ⟨b1, 0, none⟩), vb (x3)] 109 (0, 0)) ∧ Kn W0 M H0 W b1 (Obj.cells #[vi x4, vi x5, vi x6, vi x7, vi x8, vi x9, vsl x10 x11 x12] 25 (0, 0)) ∧ True) (vi (-2))) ∧
  (¬ ((x11 : Int) = 3) →
   (∀ b2 : Nat,
   (Cl Tryz.prog W0 M H0 (fun W => Kn W0 M H0 W b2 (Obj.cells #[vi x2, vi 0, vi x5, Value.slice none 0 0] 75 (0, 0)) ∧ True) 95 #[vsl x10 x11 x12, vi (x0 : Int), Value.slice (some ⟨b2, 0, none⟩) 1 1] fun z W1 W2 => ∃ (x13 : Option Loc) (x14 x15 : Nat), z = .returned (vsl x13 x14 x15) ∧ Tn W0 M H0 W1 W2 fun H1 =>
   Rt R W0 M H1 (fun W => Kn W0 M H1 W b0 (Obj.cells #[Value.pointer (some ⟨b1, 0, none⟩), vb (x3)] 109 (0, 0)) ∧ Kn W0 M H1 W b1 (Obj.cells #[vi x4, vi x5, vi x6, vi x7, vi x8, vi x9, vsl x13 x14 x15] 25 (0, 0)) ∧ True) (vi 0)))))))))) :
  Calls Tryz.prog 87 #[Value.pointer (some ⟨b0, 0, none⟩), vi (x0 : Int), vb (x1), vi x2] W0 R :=
  calls_sxB (M := M) (V := v_mopen) (hi := {turns := [95]}) (o0 := ⟨[.ptrK 1 0, .bool (.v 3)], 109⟩) (o1 := ⟨[vI 4, vI 5, vI 6, vI 7, vI 8, vI 9, vS 10], 25⟩) (args := [.ptrK 0 0, vI 0, .bool (.v 1), vI 2]) (nv := 13) (e := (upd (upd (upd (upd (upd (upd (upd (upd (upd (upd (upd (upd (upd (fun _ => .i 0) 0 (.n x0)) 1 (.b x1)) 2 (.i x2)) 3 (.b x3)) 4 (.i x4)) 5 (.i x5)) 6 (.i x6)) 7 (.i x7)) 8 (.i x8)) 9 (.i x9)) 10 (.p x10)) 11 (.n x11)) 12 (.n x12))) Tryz.func87 hH hne h0 h1 h (by kernel_rfl) (by kernel_rfl) (by kernel_rfl) (by kernel_rfl) (by kernel_rfl)
def v_mcall : VC :=
(.all 2
(.all 3
(.chk (.isp 0)
(.chk (.le (.k 0) (.v 1))
(.esc (.storeO 3) [.ptrO 0 (.add (.v 1) (.k 2)), vI 5] [] [] none .turn
(.ld 0 (.add (.v 1) (.k 1)) [vI 23] [(23, .i)]
(.esc (.storeO 3) [.ptrO 0 (.add (.v 1) (.k 1)), .int .i64 (.mx (.v 23) (.v 18))] [] [] none .turn
(.ld 0 (.add (.v 1) (.k 3)) [vS 24] [(24, .p), (25, .n), (26, .n)]
(.call 96 [vS 24, .func 97 [] [.ptrK 2 0]] [(2, ⟨[.ptrO 0 (.v 1)], 129⟩)] [(27, .p), (28, .n), (29, .n)] (vS 27) .turn
(.esc (.storeO 73) [.ptrO 0 (.add (.v 1) (.k 3)), vS 27] [] [] none .turn
(.ld 0 (.add (.v 1) (.k 1)) [vI 30] [(30, .i)]
(.ite (.le (.v 17) (.v 30))
(.ret (.int .i64 (.k (-4))) [(0, ⟨[.ptrK 1 0, .bool (.v 3)], 109⟩), (1, ⟨[vI 4, vI 5, vI 6, vI 7, vI 8, vI 9, vS 10], 25⟩)])
(.ld 0 (.add (.v 1) (.k 3)) [vS 31] [(31, .p), (32, .n), (33, .n)]
(.call 98 [vS 31, vI 17, .func 99 [] []] [] [(34, .i), (35, .b)] (.tup [vI 34, .bool (.v 35)]) .same
(.ite (.v 35)
(.ld 0 (.add (.v 1) (.k 3)) [vS 36] [(36, .p), (37, .n), (38, .n)]
(.chk (.idx (.v 34) (.v 37))
(.chk (.isp 36)
(.chk (.le (.k 0) (.add (.k 0) (.mul (.v 34) (.k 2))))
(.ld 36 (.add (.add (.k 0) (.mul (.v 34) (.k 2))) (.k 1)) [vI 39] [(39, .i)]
(.ret (vI 39) [(0, ⟨[.ptrK 1 0, .bool (.v 3)], 109⟩), (1, ⟨[vI 4, vI 5, vI 6, vI 7, vI 8, vI 9, vS 10], 25⟩)]))))))
(.ld 0 (.add (.v 1) (.k 1)) [vI 36] [(36, .i)]
(.chk (.rng .i64 (.add (.v 36) (.k 3)))
(.ite (.lt (.add (.v 36) (.k 3)) (.v 17))
(.ret (.int .i64 (.k (-5))) [(0, ⟨[.ptrK 1 0, .bool (.v 3)], 109⟩), (1, ⟨[vI 4, vI 5, vI 6, vI 7, vI 8, vI 9, vS 10], 25⟩)])
(.call 101 [.agg [vI 6, vI 7, vI 8, vI 9], .agg [vI 19, vI 20, vI 21, vI 22]] [] [(37, .i), (38, .i), (39, .i), (40, .i), (41, .i)] (.tup [.agg [vI 37, vI 38, vI 39, vI 40], vI 41]) .same
(.ld 0 (.add (.v 1) (.k 3)) [vS 42] [(42, .p), (43, .n), (44, .n)]
(.all 4
(.call 102 [vS 42, vI 34, .slK 4 0 1 1] [(4, ⟨[vI 17, vI 41], 77⟩)] [(45, .p), (46, .n), (47, .n)] (vS 45) .turn
(.esc (.storeO 73) [.ptrO 0 (.add (.v 1) (.k 3)), vS 45] [] [] none .turn
(.ret (vI 41) [(0, ⟨[.ptrK 1 0, .bool (.k true)], 109⟩), (1, ⟨[vI 4, vI 5, vI 37, vI 38, vI 39, vI 40, vS 10], 25⟩)]))))))))))))))))))))))))
theorem x_mcall (x0 : Option Loc) (x1 : Int) (x3 : Bool) (x4 x5 x6 x7 x8 x9 : Int) (x10 : Option Loc) (x11 x12 : Nat) (x14 x15 x16 x17 x18 x19 x20 x21 x22 : Int) (b0 b1 : Nat) (M : Nat → Prop) (H0 : Hp) (W0 : World) (R : Ending → World → Prop) (hH : H0.le (hpOf W0)) (hne : b0 ≠ b1) (h0 : W0.heap[b0]? = some (Obj.cells #[Value.pointer (some ⟨b1, 0, none⟩), vb (x3)] 109 (0, 0)) ∧ M b0 ∧ H0 b0 = none) (h1 : W0.heap[b1]? = some (Obj.cells #[vi x4, vi x5, vi x6, vi x7, vi x8, vi x9, vsl x10 x11 x12] 25 (0, 0)) ∧ M b1 ∧ H0 b1 = none) (h :
 (∀ b2 : Nat,
 (∀ b3 : Nat,
 (x0.isSome = true ∧ (x0.isSome = true →
 (0 ≤ x1 ∧ (0 ≤ x1 →
 (Es W0 M H0 nK fun W1 => Eo Tryz.prog (.storeO 3) [Value.pointer (ptrAt x0 (x1 + 2)), vi x5] W1 (.skip) fun W2 => Tn W0 M H0 W1 W2 fun H1 =>
 (∃ x23 : Int, RowAt H1 x0 (x1 + 1) [vi x23] ∧
 (Es W0 M H1 nK fun W3 => Eo Tryz.prog (.storeO 3) [Value.pointer (ptrAt x0 (x1 + 1)), vi (if x23 < x18 then x18 else x23)] W3 (.skip) fun W4 => Tn W0 M H1 W3 W4 fun H2 =>
 (∃ (x24 : Option Loc) (x25 x26 : Nat), RowAt H2 x0 (x1 + 3) [vsl x24 x25 x26] ∧
 (Cl Tryz.prog W0 M H2 (fun W => Kn W0 M H2 W b2 (Obj.cells #[Value.pointer (ptrAt x0 x1)] 129 (0, 0)) ∧ True) 96 #[vsl x24 x25 x26, Value.func (.func 97) #[] #[Value.pointer (some ⟨b2, 0, none⟩)]] fun z W5 W6 => ∃ (x27 : Option Loc) (x28 x29 : Nat), z = .returned (vsl x27 x28 x29) ∧ Tn W0 M H2 W5 W6 fun H3 =>
 (Es W0 M H3 nK fun W7 => Eo Tryz.prog (.storeO 73) [Value.pointer (ptrAt x0 (x1 + 3)), vsl x27 x28 x29] W7 (.skip) fun W8 => Tn W0 M H3 W7 W8 fun H4 =>
 (∃ x30 : Int, RowAt H4 x0 (x1 + 1) [vi x30] ∧
 ((x17 ≤ x30 →
  Rt R W0 M H4 (fun W => Kn W0 M H4 W b0 (Obj.cells #[Value.pointer (some ⟨b1, 0, none⟩), vb (x3)] 109 (0, 0)) ∧ Kn W0 M H4 W b1 (Obj.cells #[vi x4, vi x5, vi x6, vi x7, vi x8, vi x9, vsl x10 x11 x12] 25 (0, 0)) ∧ True) (vi (-4))) ∧
 (¬ (x17 ≤ x30) →
  (∃ (x31 : Option Loc) (x32 x33 : Nat), RowAt H4 x0 (x1 + 3) [vsl x31 x32 x33] ∧
  (Cl Tryz.prog W0 M H4 nK 98 #[vsl x31 x32 x33, vi x17, Value.func (.func 99) #[] #[]] fun z W9 W10 => ∃ (x34 : Int) (x35 : Bool), z = .returned (Value.tuple #[vi x34, vb (x35)]) ∧ Ext W9 W10 ∧
  ((x35 = true →
   (∃ (x36 : Option Loc) (x37 x38 : Nat), RowAt H4 x0 (x1 + 3) [vsl x36 x37 x38] ∧
   (((0 : Int) ≤ x34 ∧ x34 < (x37 : Int)) ∧ (((0 : Int) ≤ x34 ∧ x34 < (x37 : Int)) →
   (x36.isSome = true ∧ (x36.isSome = true →
   (0 ≤ (0 + (x34 * 2)) ∧ (0 ≤ (0 + (x34 * 2)) →
   (∃ x39 : Int, RowAt H4 x36 ((0 + (x34 * 2)) + 1) [vi x39] ∧
   Rt R W0 M H4 (fun W => Kn W0 M H4 W b0 (Obj.cells #[Value.pointer (some ⟨b1, 0, none⟩), vb (x3)] 109 (0, 0)) ∧ Kn W0 M H4 W b1 (Obj.cells #[vi x4, vi x5, vi x6, vi x7, vi x8, vi x9, vsl x10 x11 x12] 25 (0, 0)) ∧ True) (vi x39)))))))))) ∧
  (¬ (x35 = true) →
   (∃ x36 : Int, RowAt H4 x0 (x1 + 1) [vi x36] ∧
   (inKind .i64 (x36 + 3) ∧ (inKind .i64 (x36 + 3) →
   (((x36 + 3) < x17 →
    Rt R W0 M H4 (fun W => Kn W0 M H4 W b0 (Obj.cells #[Value.pointer (some ⟨b1, 0, none⟩), vb (x3)] 109 (0, 0)) ∧ Kn W0 M H4 W b1 (Obj.cells #[vi x4, vi x5, vi x6, vi x7, vi x8, vi x9, vsl x10 x11 x12] 25 (0, 0)) ∧ True) (vi (-5))) ∧
   (¬ ((x36 + 3) < x17) →
    (Cl Tryz.prog W0 M H4 nK 101 #[Value.agg #[vi x6, vi x7, vi x8, vi x9], Value.agg #[vi x19, vi x20, vi x21, vi x22]] fun z W11 W12 => ∃ (x37 x38 x39 x40 x41 : Int), z = .returned (Value.tuple #[Value.agg #[vi x37, vi x38, vi x39, vi x40], vi x41]) ∧ Ext W11 W12 ∧
    (∃ (x42 : Option Loc) (x43 x44 : Nat), RowAt H4 x0 (x1 + 3) [vsl x42 x43 x44] ∧
    (∀ b4 : Nat,
    (Cl Tryz.prog W0 M H4 (fun W => Kn W0 M H4 W b4 (Obj.cells #[vi x17, vi x41] 77 (0, 0)) ∧ True) 102 #[vsl x42 x43 x44, vi x34, Value.slice (some ⟨b4, 0, none⟩) 1 1] fun z W13 W14 => ∃ (x45 : Option Loc) (x46 x47 : Nat), z = .returned (vsl x45 x46 x47) ∧ Tn W0 M H4 W13 W14 fun H5 =>
    (Es W0 M H5 nK fun W15 => Eo Tryz.prog (.storeO 73) [Value.pointer (ptrAt x0 (x1 + 3)), vsl x45 x46 x47] W15 (.skip) fun W16 => Tn W0 M H5 W15 W16 fun H6 =>
    Rt R W0 M H6 (fun W => Kn W0 M H6 W b0 (Obj.cells #[Value.pointer (some ⟨b1, 0, none⟩), vb (true)] 109 (0, 0)) ∧ Kn W0 M H6 W b1 (Obj.cells #[vi x4, vi x5, vi x37, vi x38, vi x39, vi x40, vsl x10 x11 x12] 25 (0, 0)) ∧ True) (vi x41))))))))))))))))))))))))))))))) :
  Calls Tryz.prog 89 #[Value.pointer (some ⟨b0, 0, none⟩), Value.pointer (ptrAt x0 x1), Value.agg #[vi x14, vi x15, vi x16, vi x17, vi x18, vi x19, vi x20, vi x21, vi x22]] W0 R :=
  calls_sxB (M := M) (V := v_mcall) (hi := {turns := [96, 102]}) (o0 := ⟨[.ptrK 1 0, .bool (.v 3)], 109⟩) (o1 := ⟨[vI 4, vI 5, vI 6, vI 7, vI 8, vI 9, vS 10], 25⟩) (args := [.ptrK 0 0, .ptrO 0 (.v 1), .agg [vI 14, vI 15, vI 16, vI 17, vI 18, vI 19, vI 20, vI 21, vI 22]]) (nv := 23) (e := (upd (upd (upd (upd (upd (upd (upd (upd (upd (upd (upd (upd (upd (upd (upd (upd (upd (upd (upd (upd (upd (fun _ => .i 0) 0 (.p x0)) 1 (.i x1)) 3 (.b x3)) 4 (.i x4)) 5 (.i x5)) 6 (.i x6)) 7 (.i x7)) 8 (.i x8)) 9 (.i x9)) 10 (.p x10)) 11 (.n x11)) 12 (.n x12)) 14 (.i x14)) 15 (.i x15)) 16 (.i x16)) 17 (.i x17)) 18 (.i x18)) 19 (.i x19)) 20 (.i x20)) 21 (.i x21)) 22 (.i x22))) Tryz.func89 hH hne h0 h1 h (by kernel_rfl) (by kernel_rfl) (by kernel_rfl) (by kernel_rfl) (by kernel_rfl)
def v_mapply : VC :=
(.all 2
(.chk (.rng .i64 (.add (.v 4) (.k 1)))
(.call 85 [vS 10, .int .i64 (.mx (.v 5) (.v 15))] [] [(23, .p), (24, .n), (25, .n)] (vS 23) .fresh
(.call 86 [vS 23, vI 16] [] [(26, .i), (27, .b)] (.tup [vI 26, .bool (.v 27)]) .same
(.ite (.eq (.v 14) (.k 1))
(.call 87 [.ptrK 0 0, vI 26, .bool (.v 27), vI 16] [(0, ⟨[.ptrK 1 0, .bool (.v 3)], 109⟩), (1, ⟨[.int .i64 (.add (.v 4) (.k 1)), .int .i64 (.mx (.v 5) (.v 15)), vI 6, vI 7, vI 8, vI 9, vS 23], 25⟩)] [(28, .i), (29, .p), (30, .b), (31, .i), (32, .i), (33, .i), (34, .i), (35, .i), (36, .i), (37, .p), (38, .n), (39, .n)] (vI 28) (.both [(0, ⟨[.ptrO 29 (.k 0), .bool (.v 30)], 109⟩), (1, ⟨[vI 31, vI 32, vI 33, vI 34, vI 35, vI 36, vS 37], 25⟩)])
(.ret (vI 28) [(0, ⟨[.ptrO 29 (.k 0), .bool (.v 30)], 109⟩), (1, ⟨[vI 31, vI 32, vI 33, vI 34, vI 35, vI 36, vS 37], 25⟩)]))
(.ite (.v 27)
(.ite (.eq (.v 14) (.k 3))
(.chk (.rng .i64 (.add (.v 26) (.k 1)))
(.call 88 [vS 23, vI 26, .int .i64 (.add (.v 26) (.k 1))] [] [(28, .p), (29, .n), (30, .n)] (vS 28) .turn
(.ret (.int .i64 (.k 0)) [(0, ⟨[.ptrK 1 0, .bool (.v 3)], 109⟩), (1, ⟨[.int .i64 (.add (.v 4) (.k 1)), .int .i64 (.mx (.v 5) (.v 15)), vI 6, vI 7, vI 8, vI 9, vS 28], 25⟩)])))
(.chk (.idx (.v 26) (.v 24))
(.chk (.isp 23)
(.call 89 [.ptrK 0 0, .ptrO 23 (.add (.k 0) (.mul (.v 26) (.k 4))), .agg [vI 14, vI 15, vI 16, vI 17, vI 18, vI 19, vI 20, vI 21, vI 22]] [(0, ⟨[.ptrK 1 0, .bool (.v 3)], 109⟩), (1, ⟨[.int .i64 (.add (.v 4) (.k 1)), .int .i64 (.mx (.v 5) (.v 15)), vI 6, vI 7, vI 8, vI 9, vS 23], 25⟩)] [(28, .i), (29, .p), (30, .b), (31, .i), (32, .i), (33, .i), (34, .i), (35, .i), (36, .i), (37, .p), (38, .n), (39, .n)] (vI 28) (.both [(0, ⟨[.ptrO 29 (.k 0), .bool (.v 30)], 109⟩), (1, ⟨[vI 31, vI 32, vI 33, vI 34, vI 35, vI 36, vS 37], 25⟩)])
(.ret (vI 28) [(0, ⟨[.ptrO 29 (.k 0), .bool (.v 30)], 109⟩), (1, ⟨[vI 31, vI 32, vI 33, vI 34, vI 35, vI 36, vS 37], 25⟩)])))))
(.ret (.int .i64 (.k (-3))) [(0, ⟨[.ptrK 1 0, .bool (.v 3)], 109⟩), (1, ⟨[.int .i64 (.add (.v 4) (.k 1)), .int .i64 (.mx (.v 5) (.v 15)), vI 6, vI 7, vI 8, vI 9, vS 23], 25⟩)])))))))
theorem x_mapply (x3 : Bool) (x4 x5 x6 x7 x8 x9 : Int) (x10 : Option Loc) (x11 x12 : Nat) (x14 x15 x16 x17 x18 x19 x20 x21 x22 : Int) (b0 b1 : Nat) (M : Nat → Prop) (H0 : Hp) (W0 : World) (R : Ending → World → Prop) (hH : H0.le (hpOf W0)) (hne : b0 ≠ b1) (h0 : W0.heap[b0]? = some (Obj.cells #[Value.pointer (some ⟨b1, 0, none⟩), vb (x3)] 109 (0, 0)) ∧ M b0 ∧ H0 b0 = none) (h1 : W0.heap[b1]? = some (Obj.cells #[vi x4, vi x5, vi x6, vi x7, vi x8, vi x9, vsl x10 x11 x12] 25 (0, 0)) ∧ M b1 ∧ H0 b1 = none) (h :
 (∀ b2 : Nat,
 (inKind .i64 (x4 + 1) ∧ (inKind .i64 (x4 + 1) →
 (Cl Tryz.prog W0 M H0 nK 85 #[vsl x10 x11 x12, vi (if x5 < x15 then x15 else x5)] fun z W1 W2 => ∃ (x23 : Option Loc) (x24 x25 : Nat), z = .returned (vsl x23 x24 x25) ∧ Fr W1 W2 H0 fun H1 =>
 (Cl Tryz.prog W0 M H1 nK 86 #[vsl x23 x24 x25, vi x16] fun z W3 W4 => ∃ (x26 : Int) (x27 : Bool), z = .returned (Value.tuple #[vi x26, vb (x27)]) ∧ Ext W3 W4 ∧
 ((x14 = 1 →
  (Cl Tryz.prog W0 M H1 (fun W => Kn W0 M H1 W b0 (Obj.cells #[Value.pointer (some ⟨b1, 0, none⟩), vb (x3)] 109 (0, 0)) ∧ Kn W0 M H1 W b1 (Obj.cells #[vi (x4 + 1), vi (if x5 < x15 then x15 else x5), vi x6, vi x7, vi x8, vi x9, vsl x23 x24 x25] 25 (0, 0)) ∧ True) 87 #[Value.pointer (some ⟨b0, 0, none⟩), vi x26, vb (x27), vi x16] fun z W5 W6 => ∃ (x28 : Int) (x29 : Option Loc) (x30 : Bool) (x31 x32 x33 x34 x35 x36 : Int) (x37 : Option Loc) (x38 x39 : Nat), z = .returned (vi x28) ∧ Bt W0 M H1 [(b0, Obj.cells #[Value.pointer (ptrAt x29 0), vb (x30)] 109 (0, 0)), (b1, Obj.cells #[vi x31, vi x32, vi x33, vi x34, vi x35, vi x36, vsl x37 x38 x39] 25 (0, 0))] W5 W6 fun H2 =>
  Rt R W0 M H2 (fun W => Kn W0 M H2 W b0 (Obj.cells #[Value.pointer (ptrAt x29 0), vb (x30)] 109 (0, 0)) ∧ Kn W0 M H2 W b1 (Obj.cells #[vi x31, vi x32, vi x33, vi x34, vi x35, vi x36, vsl x37 x38 x39] 25 (0, 0)) ∧ True) (vi x28))) ∧
 (¬ (x14 = 1) →
  ((x27 = true →
   ((x14 = 3 →
    (inKind .i64 (x26 + 1) ∧ (inKind .i64 (x26 + 1) →
    (Cl Tryz.prog W0 M H1 nK 88 #[vsl x23 x24 x25, vi x26, vi (x26 + 1)] fun z W5 W6 => ∃ (x28 : Option Loc) (x29 x30 : Nat), z = .returned (vsl x28 x29 x30) ∧ Tn W0 M H1 W5 W6 fun H2 =>
    Rt R W0 M H2 (fun W => Kn W0 M H2 W b0 (Obj.cells #[Value.pointer (some ⟨b1, 0, none⟩), vb (x3)] 109 (0, 0)) ∧ Kn W0 M H2 W b1 (Obj.cells #[vi (x4 + 1), vi (if x5 < x15 then x15 else x5), vi x6, vi x7, vi x8, vi x9, vsl x28 x29 x30] 25 (0, 0)) ∧ True) (vi 0))))) ∧
   (¬ (x14 = 3) →
    (((0 : Int) ≤ x26 ∧ x26 < (x24 : Int)) ∧ (((0 : Int) ≤ x26 ∧ x26 < (x24 : Int)) →
    (x23.isSome = true ∧ (x23.isSome = true →
    (Cl Tryz.prog W0 M H1 (fun W => Kn W0 M H1 W b0 (Obj.cells #[Value.pointer (some ⟨b1, 0, none⟩), vb (x3)] 109 (0, 0)) ∧ Kn W0 M H1 W b1 (Obj.cells #[vi (x4 + 1), vi (if x5 < x15 then x15 else x5), vi x6, vi x7, vi x8, vi x9, vsl x23 x24 x25] 25 (0, 0)) ∧ True) 89 #[Value.pointer (some ⟨b0, 0, none⟩), Value.pointer (ptrAt x23 (0 + (x26 * 4))), Value.agg #[vi x14, vi x15, vi x16, vi x17, vi x18, vi x19, vi x20, vi x21, vi x22]] fun z W5 W6 => ∃ (x28 : Int) (x29 : Option Loc) (x30 : Bool) (x31 x32 x33 x34 x35 x36 : Int) (x37 : Option Loc) (x38 x39 : Nat), z = .returned (vi x28) ∧ Bt W0 M H1 [(b0, Obj.cells #[Value.pointer (ptrAt x29 0), vb (x30)] 109 (0, 0)), (b1, Obj.cells #[vi x31, vi x32, vi x33, vi x34, vi x35, vi x36, vsl x37 x38 x39] 25 (0, 0))] W5 W6 fun H2 =>
    Rt R W0 M H2 (fun W => Kn W0 M H2 W b0 (Obj.cells #[Value.pointer (ptrAt x29 0), vb (x30)] 109 (0, 0)) ∧ Kn W0 M H2 W b1 (Obj.cells #[vi x31, vi x32, vi x33, vi x34, vi x35, vi x36, vsl x37 x38 x39] 25 (0, 0)) ∧ True) (vi x28))))))))) ∧
  (¬ (x27 = true) →
   Rt R W0 M H1 (fun W => Kn W0 M H1 W b0 (Obj.cells #[Value.pointer (some ⟨b1, 0, none⟩), vb (x3)] 109 (0, 0)) ∧ Kn W0 M H1 W b1 (Obj.cells #[vi (x4 + 1), vi (if x5 < x15 then x15 else x5), vi x6, vi x7, vi x8, vi x9, vsl x23 x24 x25] 25 (0, 0)) ∧ True) (vi (-3)))))))))))) :
  Calls Tryz.prog 65 #[Value.pointer (some ⟨b0, 0, none⟩), Value.agg #[vi x14, vi x15, vi x16, vi x17, vi x18, vi x19, vi x20, vi x21, vi x22]] W0 R :=
  calls_sxB (M := M) (V := v_mapply) (hi := {mods := [(87, [100, 101]), (89, [100, 101])], turns := [88, 87, 89]}) (o0 := ⟨[.ptrK 1 0, .bool (.v 3)], 109⟩) (o1 := ⟨[vI 4, vI 5, vI 6, vI 7, vI 8, vI 9, vS 10], 25⟩) (args := [.ptrK 0 0, .agg [vI 14, vI 15, vI 16, vI 17, vI 18, vI 19, vI 20, vI 21, vI 22]]) (nv := 23) (e := (upd (upd (upd (upd (upd (upd (upd (upd (upd (upd (upd (upd (upd (upd (upd (upd (upd (upd (upd (fun _ => .i 0) 3 (.b x3)) 4 (.i x4)) 5 (.i x5)) 6 (.i x6)) 7 (.i x7)) 8 (.i x8)) 9 (.i x9)) 10 (.p x10)) 11 (.n x11)) 12 (.n x12)) 14 (.i x14)) 15 (.i x15)) 16 (.i x16)) 17 (.i x17)) 18 (.i x18)) 19 (.i x19)) 20 (.i x20)) 21 (.i x21)) 22 (.i x22))) Tryz.func65 hH hne h0 h1 h (by kernel_rfl) (by kernel_rfl) (by kernel_rfl) (by kernel_rfl) (by kernel_rfl)
end Go.Proofs.YtfpmcmhihhnfgaaGreat
namespace Go.Proofs.YtfpmcmhihhnfgaaGreat
open Go.RowKit

theorem ek_overlapsR {W : World} {a b o la ca : Nat} {R C : Array Value} {T T' : Nat} (hne : a ≠ b) (ha : W.heap[a]? = some (.cells R T (0, 0))) (hb : W.heap[b]? = some (.cells C T' (0, 0))) (hC : C.size ≠ 0) :
    (EK.sem (.ext 111) [vsl (some (a, 0)) 1 1, vsl (some (b, o)) la ca]).run Tryz.prog W = .ok (.value (vb false)) W := by
  show (callFunc 111 #[vsl (some (a, 0)) 1 1, vsl (some (b, o)) la ca]).run Tryz.prog W = _
  have hsz : ∀ w, (Go.sizeOf 77).run Tryz.prog w = .ok 2 w := fun w => by
    obtain ⟨ti, z, i1, i2, i3, _⟩ := info_of infoRep
    exact run_sizeOf i1 i3 w
  rw [run_callFunc_extern Tryz.func111 (by kernel_rfl) (by kernel_rfl) (by kernel_rfl) (e := Extern.SlicesOverlaps.overlaps #[73, 73] #[4]) (by kernel_rfl)]
  have := Lib.run_overlaps_apart W 73 4 77 Tryz.underlying73 2 hsz ⟨a, 0, none⟩ ⟨b, o, none⟩ 1 1 la ca hne T T' R.size C.size (by simp [World.shape?, ha]) (by simp [World.shape?, hb]) hC (by simp [World.frozen?, ha]) (by simp [World.frozen?, ha])
  have e1 : vsl (some (a, 0)) 1 1 = .slice (some ⟨a, 0, none⟩) 1 1 := rfl
  have e2 : vsl (some (b, o)) la ca = .slice (some ⟨b, o, none⟩) la ca := rfl
  rw [e1, e2, this]
  rfl
theorem c_insertR {H : Hp} {p : Option Loc} {n c : Nat} {rows : List (List Value)} {g : Option Nat} (ho : Ow H 77 2 p n c rows g) {i : Nat} (hi : i ≤ n) {vb : Nat} {row : List Value} (hv : H vb = some (.cells row.toArray 77 (0, 0))) (hl : row.length = 2) (h1 : ∀ v ∈ row, v.oneCell' = true) (hne : g ≠ some vb) (hb : n ≤ 1099511627776) :
    Gt Tryz.prog 102 #[vsl p n c, vi i, vsl (some (vb, 0)) 1 1] H g fun v H' g' => ∃ p' n' c', v = vsl p' n' c' ∧ Ow H' 77 2 p' n' c' (rows.take i ++ row :: rows.drop i) g' := fun W hH => by
  have hn := ho.1
  have hc := ho.2.2.1
  have h63 := ho.2.2.2.1
  have hmx : maxLen = 9223372036854775807 := rfl
  obtain ⟨ti, z, i1, i2, i3, i4, i5, i6⟩ := info_of infoRep
  have hone : ∀ r ∈ rows, ∀ v ∈ r, v.oneCell' = true := fun r hr => (ho.2.1 r hr).2
  have hrow1 : ∀ K : Hp, K vb = some (.cells row.toArray 77 (0, 0)) → Rows K (some (vb, 0)) 1 2 [row] := fun K hK => Rows.block hK rfl (fun r hr => by simp only [List.mem_singleton] at hr; subst hr; exact hl) (by simp [List.take_of_length_le (show row.length ≤ 2 by omega)])
  have hone1 : ∀ r ∈ [row], ∀ v ∈ r, v.oneCell' = true := fun r hr => by simp only [List.mem_singleton] at hr; subst hr; exact h1
  refine x_insR p n c i (some (vb, 0)) 1 1 (fun b => g = some b) H W _ hH ⟨by omega, fun _ => ⟨by omega, fun _ => ⟨by omega, fun _ => ⟨by omega, fun _ => ⟨fun h => absurd h (by omega), fun _ => ⟨by omega, fun _ => ⟨fun hin => ?_, fun hin => ⟨in64 (by omega), fun _ => ?_⟩⟩⟩⟩⟩⟩⟩⟩
  · -- behind all
    have hin' : i = n := by omega
    intro W1 n1 _
    obtain ⟨p', c', g', W', H', h2, h3, h4, h5, h6⟩ := run_append_rows (P := Tryz.prog) Tryz.underlying73 i1 i2 i3 i4 i5 (by omega) n1.sub ho (hrow1 H hv) hone1 (by omega) (by omega) 73 (c2 := 1)
    refine ⟨p', n + 1, c', W', h2, H', h3.own ho (fun b hb => .inr hb), Rt.gt hH ho.held g' ?_ ⟨p', n + 1, c', rfl, ?_⟩⟩
    · exact h5.imp id (fun h b hb => by rw [h] at hb; simp only [Option.some.injEq] at hb; rw [← hb]; exact n1.mod.size)
    · rw [hin', List.take_of_length_le (by omega), List.drop_of_length_le (by omega)]
      exact h4.merge (h5.imp id (fun h b hb => by rw [h] at hb; simp only [Option.some.injEq] at hb; rw [← hb]; exact n1.mod.size))
  · intro W1 n1 _
    refine ⟨c, W1, ek_cap (P := Tryz.prog) Tryz.underlying73 _ p n c W1, Ext.refl _, fun hcap => ⟨by omega, fun _ => ⟨in64 (by omega), fun _ => ?_⟩⟩, fun hcap => ⟨by omega, fun _ => ⟨by omega, fun _ => ⟨in64 (by omega), fun _ => ⟨by omega, fun _ => ⟨by omega, fun _ => ?_⟩⟩⟩⟩⟩⟩
    · -- a new array
      intro W3 n3 _
      have ek : ((n : Int) + ((1 : Nat) : Int) - (i : Int)) = ((n + 1 - i : Nat) : Int) := by omega
      rw [ek]
      obtain ⟨c', zr, W4, H1, h2, h3, h4, h5⟩ := ek_zeros (P := Tryz.prog) (tn := 3) (kq := .i64) Tryz.underlying73 Tryz.underlying3 infoRep (by omega) n3.sub (ho.take i hi) (k := n + 1 - i) (by omega) (by omega) (by omega) (by omega) 73
      have eit : ((i : Int)).toNat = i := by omega
      rw [eit]
      refine ⟨some (W3.heap.size, 0), i + (n + 1 - i), c', W4, h2, H1, h3.turned (fun b hb => ⟨ho.held b hb, .inr hb⟩), by omega, fun _ => ⟨by have := h5.2.2.1; omega, fun _ => ?_⟩⟩
      have hnew : W.heap.size ≤ W3.heap.size := n3.mod.size
      have hln : i + (n + 1 - i) = n + 1 := by omega
      rw [hln] at h5 ⊢
      have hc'n := h5.2.2.1
      have hlr1 := h5.1
      intro W5 n5 _
      rw [slice_tail]
      have et : tailP (some (W3.heap.size, 0)) c' i 2 = shiftP (some (W3.heap.size, 0)) (i * 2) := by unfold tailP; rw [if_neg (by omega)]
      obtain ⟨W6, H2, h7, h8, h9⟩ := ek_copy (P := Tryz.prog) Tryz.underlying73 i1 i3 (by omega) n5.sub h5 (hrow1 H1 (h4 _ _ hv)) hone1 (m := 1) (sl := 1) (c2 := 1) (dl := n + 1 - i) (dc := c' - i) (k := i) (by omega) (by simp [Nat.min_def]; omega) (by omega) (off := ((i * 2 : Nat) : Int)) rfl 3
      have ev1 : vsl (tailP (some (W3.heap.size, 0)) c' i 2) (n + 1 - i) (c' - i) = .slice (ptrAt (some (W3.heap.size, 0)) ((i * 2 : Nat) : Int)) (n + 1 - i) (c' - i) := by rw [et, ptrAt_shift, Int.toNat_natCast]
      rw [ev1]
      refine ⟨1, W6, h7, H2, h8.turned (fun b hb => ⟨h5.held b hb, .inl (by simp only [Option.some.injEq] at hb; rw [← hb]; exact hnew)⟩), in64 (by omega), fun _ => ⟨by omega, fun _ => ⟨by omega, fun _ => ?_⟩⟩⟩
      intro W7 n7 _
      have e11 : ((i : Int) + ((1 : Nat) : Int)) = ((i + 1 : Nat) : Int) := by omega
      rw [e11, slice_tail, slice_tail]
      have et2 : tailP (some (W3.heap.size, 0)) c' (i + 1) 2 = shiftP (some (W3.heap.size, 0)) ((i + 1) * 2) := by unfold tailP; rw [if_neg (by omega)]
      have ev2 : vsl (tailP (some (W3.heap.size, 0)) c' (i + 1) 2) (n + 1 - (i + 1)) (c' - (i + 1)) = .slice (ptrAt (some (W3.heap.size, 0)) (((i + 1) * 2 : Nat) : Int)) (n + 1 - (i + 1)) (c' - (i + 1)) := by rw [et2, ptrAt_shift, Int.toNat_natCast]
      -- what was there is still read
      have hgs : ∀ b, some W3.heap.size = some b → H b = none := fun b hb => by simp only [Option.some.injEq] at hb; rw [← hb]; exact old_none hH hnew
      have hH2 : H.le H2 := h8.keep n5.sub h4 hgs
      have hsrc : Rows H2 (tailP p c i 2) (n - i) 2 (rows.drop i) := (ho.rows.tail hi hc).mono hH2
      obtain ⟨W8, H3, ha, hb', hc'⟩ := ek_copy (P := Tryz.prog) Tryz.underlying73 i1 i3 (by omega) n7.sub h9 hsrc (fun r hr => hone r (List.mem_of_mem_drop hr)) (m := n - i) (sl := n - i) (c2 := c - i) (dl := n + 1 - (i + 1)) (dc := c' - (i + 1)) (k := i + 1) (by omega) (by simp) (by omega) (off := (((i + 1) * 2 : Nat) : Int)) rfl 3
      rw [ev2]
      refine ⟨_, W8, ha, H3, hb'.turned (fun b hb => ⟨h9.held b hb, .inl (by simp only [Option.some.injEq] at hb; rw [← hb]; exact hnew)⟩), Rt.gt hH ho.held (some W3.heap.size) (.inr (fun b hb => by simp only [Option.some.injEq] at hb; rw [← hb]; exact hnew)) ⟨_, n + 1, c', rfl, ?_⟩⟩
      have hfin := hc'.merge (g := g) (W0 := W) (H := H) (.inr (fun b hb => by simp only [Option.some.injEq] at hb; rw [← hb]; exact hnew))
      have heq : ∀ A : List (List Value), A.length = n + 1 → A.take i = rows.take i → (A.take i ++ [row] ++ A.drop (i + 1)).take (i + 1) ++ rows.drop i ++ (A.take i ++ [row] ++ A.drop (i + 1)).drop (i + 1 + (n - i)) = rows.take i ++ row :: rows.drop i := fun A hA hA2 => by
        have t1 : (A.take i ++ [row]).length = i + 1 := by simp; omega
        have t2 : (A.take i ++ [row] ++ A.drop (i + 1)).take (i + 1) = A.take i ++ [row] := by rw [← t1, List.take_left]
        have t3 : (A.take i ++ [row] ++ A.drop (i + 1)).drop (i + 1 + (n - i)) = [] := List.drop_of_length_le (by simp only [List.length_append, List.length_drop, t1]; omega)
        rw [t2, t3, hA2]
        simp
      rw [heq _ (by simp; omega) (by rw [List.take_append_of_le_length (by simp; omega), List.take_take, Nat.min_self])] at hfin
      exact hfin
    · -- in place
      intro W3 n3 _
      have hcn : n + 1 ≤ c := by omega
      obtain ⟨q1, q2, q3, q4, q5⟩ := id ho
      rcases q5 with ⟨rfl, _⟩ | ⟨b, C, rfl, rfl, q6, q7, q8⟩
      · omega
      have ebn : ((n : Int) + ((1 : Nat) : Int)) = ((n + 1 : Nat) : Int) := by omega
      have ei1 : ((i : Int) + ((1 : Nat) : Int)) = ((i + 1 : Nat) : Int) := by omega
      rw [ebn, ei1, slice_tail, slice_tail, slice_tail]
      have et : ∀ k, k < c → ∀ a d, vsl (tailP (some (b, 0)) c k 2) a d = .slice (ptrAt (some (b, 0)) ((k * 2 : Nat) : Int)) a d := fun k hk a d => by unfold tailP; rw [if_neg (by omega), ptrAt_shift, Int.toNat_natCast]
      have hbv : vb ≠ b := fun h => hne (by rw [h])
      have ep : tailP (some (b, 0)) c (i + 1) 2 = some ((b : Blk), (if c = i + 1 then 0 else (i + 1) * 2)) := by
        unfold tailP shiftP
        split
        · rfl
        · simp [shift_at]
      refine ⟨false, W3, by rw [ep]; exact ek_overlapsR hbv (n3.sub _ _ hv) (n3.sub _ _ q6) (by omega), Ext.refl _, fun h => (by cases h), fun _ => ⟨by omega, fun _ => ?_⟩⟩
      intro W5 n5 _
      have hsrc : Rows H (tailP (some (b, 0)) c i 2) (n - i) 2 (rows.drop i) := ho.rows.tail hi hc
      rw [et (i + 1) (by omega)]
      obtain ⟨W6, H2, h7, h8, h9⟩ := ek_copyX (P := Tryz.prog) Tryz.underlying73 i1 i3 (by omega) n5.sub ho hsrc (fun r hr => hone r (List.mem_of_mem_drop hr)) (m := n - i) (sl := n + 1 - i) (c2 := c - i) (dl := n + 1 - (i + 1)) (dc := c - (i + 1)) (k := i + 1) (by omega) (by simp [Nat.min_def]; omega) (by omega) (by omega) (by omega) (off := (((i + 1) * 2 : Nat) : Int)) rfl 3
      refine ⟨_, W6, h7, H2, h8.own ho (fun b hb => .inr hb), ?_⟩
      intro W7 n7 _
      rw [et i (by omega)]
      have hv2 : H2 vb = some (.cells row.toArray 77 (0, 0)) := by
        rw [h8.same vb (heap_lt (n5.sub _ _ hv)) (fun h => hbv (by simpa using h.symm))]
        exact hv
      rw [show i + 1 + (n - i) = n + 1 by omega] at h9
      obtain ⟨W8, H3, ha, hb', hc'⟩ := ek_copy (P := Tryz.prog) Tryz.underlying73 i1 i3 (by omega) n7.sub h9 (hrow1 H2 hv2) hone1 (m := 1) (sl := 1) (c2 := 1) (dl := n + 1 - i) (dc := c - i) (k := i) (by omega) (by simp [Nat.min_def]; omega) (by omega) (off := ((i * 2 : Nat) : Int)) rfl 3
      have en : (((n + 1 : Nat) : Int)).toNat = n + 1 := by omega
      rw [en]
      refine ⟨_, W8, ha, H3, hb'.own h9 (fun b hb => .inr hb), Rt.gt hH ho.held _ (.inl rfl) ⟨_, n + 1, c, rfl, ?_⟩⟩
      have hfin := hc'.merge (g := some b) (W0 := W) (H := H) (.inl rfl)
      have heq : (rows.take (i + 1) ++ rows.drop i).take i ++ [row] ++ (rows.take (i + 1) ++ rows.drop i).drop (i + 1) = rows.take i ++ row :: rows.drop i := by
        have t1 : (rows.take (i + 1)).length = i + 1 := by simp; omega
        rw [List.take_append_of_le_length (by omega), List.take_take, Nat.min_eq_left (by omega), List.drop_append, List.drop_of_length_le (by omega), t1, Nat.sub_self]
        simp
      rw [heq] at hfin
      exact hfin
end Go.Proofs.YtfpmcmhihhnfgaaGreat
namespace Go.Proofs.YtfpmcmhihhnfgaaGreat
open Go.RowKit

theorem c_kcall2 (r : Rep) (x : Int) (H : Hp) : Gv Tryz.prog 99 #[.agg #[vi r.seq, vi r.val], vi x] H (vi (cmpI r.seq x)) := fun W hH =>
  x_kcall2 _ _ _ noM H W _ hH fun _ => Cl.same (c_compare _ _ _) fun _ _ hx => ⟨_, rfl, hx, Rt.gv⟩
/-- the first for which f says yes; -1: none -/
def ixK (f : Rep → Bool) : Nat → List Rep → Int
  | _, [] => -1
  | k, s :: t => if f s = true then k else ixK f (k + 1) t
theorem ixK_spec (f : Rep → Bool) : ∀ (l : List Rep) (k : Nat), (ixK f k l = -1 ∧ ∀ s ∈ l, f s = false) ∨ ∃ j s, ixK f k l = ((k + j : Nat) : Int) ∧ l[j]? = some s ∧ f s = true ∧ ∀ t ∈ l.take j, f t = false
  | [], k => .inl ⟨rfl, fun s hs => by simp at hs⟩
  | s :: t, k => by
    unfold ixK
    split
    · rename_i h
      exact .inr ⟨0, s, by simp, by simp, h, fun t ht => by simp at ht⟩
    · rename_i h
      rcases ixK_spec f t (k + 1) with ⟨h1, h2⟩ | ⟨j, u, h1, h2, h3, h4⟩
      · refine .inl ⟨h1, fun x hx => ?_⟩
        rcases List.mem_cons.1 hx with rfl | hx
        · simpa using h
        · exact h2 x hx
      · refine .inr ⟨j + 1, u, by rw [h1]; congr 1; omega, by simpa using h2, h3, fun x hx => ?_⟩
        rw [List.take_succ_cons] at hx
        rcases List.mem_cons.1 hx with rfl | hx
        · simpa using h
        · exact h4 x hx
/-- acknowledged -/
def ackd (a : Int) (r : Rep) : Bool := decide (r.seq ≤ a)
theorem c_kcall1 {H : Hp} {q r : Option Loc} {a : Int} (hq : RowAt H q 0 [Value.pointer (ptrAt r 0)]) (hr : RowAt H r (0 + 1) [vi a]) (x y : Int) :
    Gv Tryz.prog 97 #[.agg #[vi x, vi y], .pointer (ptrAt q 0)] H (vb (decide (x ≤ a))) := fun W hH =>
  x_kcall1 x y q noM H W _ hH fun _ => ⟨r, hq, hr.isSome, fun _ => ⟨a, hr, Rt.gv⟩⟩
theorem c_indexR {H : Hp} {q r : Option Loc} {a : Int} (hq : RowAt H q 0 [Value.pointer (ptrAt r 0)]) (hr : RowAt H r (0 + 1) [vi a]) {p : Option Loc} {n c : Nat} {l : List Rep} (hk : Kept H p n c l) :
    Gv Tryz.prog 105 #[vsl p n c, .func (.func 97) #[] #[.pointer (ptrAt q 0)]] H (vi (ixK (ackd a) 0 l)) := fun W hH => by
  have hn := hk.len
  have h63 := hk.lt63
  refine x_indexR p n c q noM H W _ hH ⟨by omega, fun _ => ⟨fun v K => match v with | [.i k] => ∃ j : Nat, k = j ∧ j ≤ n ∧ H.le K ∧ ixK (ackd a) j (l.drop j) = ixK (ackd a) 0 l | _ => False, fun v => match v with | [.i k] => n - k.toNat | _ => 0, ⟨0, rfl, by omega, Hp.le_refl H, by simp⟩, fun K k hI => ?_⟩⟩
  obtain ⟨j, rfl, hj, hle, hf⟩ := hI
  refine ⟨fun hlt => ⟨⟨by omega, hlt⟩, fun _ => ?_⟩, fun hge => Rt.gv' ?_⟩
  · obtain ⟨s, hs, hat, _⟩ := (hk.mono hle).at' (k := j) (by omega)
    rw [drop_cons hs, ixK] at hf
    refine ⟨hat.isSome, fun _ => ⟨_, _, hat, ?_⟩⟩
    refine Cl.same (c_kcall1 (hq.mono hle) (hr.mono hle) _ _) fun _ _ hx => ⟨_, rfl, hx, fun h => Rt.gv' ?_, fun h => ⟨in64 (by omega), fun _ => ⟨⟨j + 1, by omega, by omega, hle, ?_⟩, by simp only; omega⟩⟩⟩
    · have h' : ackd a s = true := h
      rw [← hf, if_pos h']
    · have h' : ¬ ackd a s = true := h
      rw [← hf, if_neg h']
  · rw [← hf, List.drop_of_length_le (by omega)]; rfl
set_option maxHeartbeats 1000000 in
theorem c_delFR {H : Hp} {q u : Option Loc} {a : Int} {g : Option Nat} (hq : RowAt (but g H) q 0 [Value.pointer (ptrAt u 0)]) (hu0 : RowAt (but g H) u (0 + 1) [vi a]) {p : Option Loc} {n c : Nat} {l : List Rep} (ho : Ow H 77 2 p n c (l.map Rep.row) g) :
    Gt Tryz.prog 96 #[vsl p n c, .func (.func 97) #[] #[.pointer (ptrAt q 0)]] H g fun v H' g' => ∃ n', v = vsl p n' c ∧ Ow H' 77 2 p n' c ((l.filter fun s => !ackd a s).map Rep.row) g' := fun W hH => by
  have hn : n = l.length := by rw [ho.1]; simp
  have hc := ho.2.2.1
  have h63 := (Kept.of_ow ho).lt63
  obtain ⟨ti, z, i1, i2, i3, i4, i5, i6⟩ := info_of infoRep
  refine x_delFR p n c q (fun b => g = some b) H W _ hH ?_
  refine Cl.same (c_indexR (hq.mono (but_le g H)) (hu0.mono (but_le g H)) (Kept.of_ow ho)) fun _ _ hx => ⟨_, rfl, hx, ?_⟩
  rcases ixK_spec (ackd a) l 0 with ⟨h1, h2⟩ | ⟨j0, s0, h1, h2, h3, h4⟩
  · rw [h1]
    refine ⟨fun _ => Rt.gt hH ho.held g (.inl rfl) ⟨n, rfl, ?_⟩, fun h => absurd rfl h⟩
    rw [List.filter_eq_self.2 (fun s hs => by rw [h2 s hs]; rfl)]
    exact ho.merge (.inl rfl)
  · rw [h1, Nat.zero_add]
    have hj0 : j0 < l.length := (List.getElem?_eq_some_iff.1 h2).1
    refine ⟨fun h => absurd h (by omega), fun _ => ⟨in64 (by omega), fun _ => ?_⟩⟩
    refine ⟨fun v K => match v with | [.i x, .i y] => ∃ j i : Nat, x = j ∧ y = i ∧ i < j ∧ j ≤ n ∧ (but g H).le K ∧ ∃ rows', Ow K 77 2 p n c rows' g ∧ rows'.drop j = (l.map Rep.row).drop j ∧ rows'.take i = ((l.take j).filter fun s => !ackd a s).map Rep.row | _ => False,
      fun v => match v with | [.i x, _] => n - x.toNat | _ => 0, ⟨j0 + 1, j0, by omega, rfl, by omega, by omega, but_le g H, _, ho, rfl, ?_⟩, fun K x y hI => ?_⟩
    · rw [filter_take _ h2, h3, List.filter_eq_self.2 (fun s hs => by rw [h4 s hs]; rfl)]
      simp
    obtain ⟨j, i, rfl, rfl, hij, hj, hle, rows', ho', hd, ha'⟩ := hI
    have hn' := ho'.1
    refine ⟨by omega, fun _ => ⟨fun hlt => ⟨⟨by omega, hlt⟩, fun _ => ?_⟩, fun hge => ⟨by omega, fun _ => ⟨by omega, fun _ => ⟨by omega, fun _ => ?_⟩⟩⟩⟩⟩
    · have hjr : j < l.length := by omega
      have hrj' : rows'[j]? = some (Rep.row l[j]) := by
        have h5 : (rows'.drop j)[0]? = ((l.map Rep.row).drop j)[0]? := by rw [hd]
        rw [List.getElem?_drop, List.getElem?_drop] at h5
        simpa [List.getElem?_eq_getElem hjr] using h5
      have hs : l[j]? = some l[j] := List.getElem?_eq_getElem hjr
      generalize l[j] = s at hrj' hs
      obtain ⟨r', hr', _, hat⟩ := ho'.rows.at (k := j) (by omega) (off := 0 + (j : Int) * 2) (by omega)
      rw [hrj'] at hr'
      simp only [Option.some.injEq] at hr'
      subst hr'
      have hdn : rows'.drop (j + 1) = (l.map Rep.row).drop (j + 1) := by
        have e1 : rows'.drop (j + 1) = (rows'.drop j).drop 1 := by rw [List.drop_drop]
        rw [e1, hd, List.drop_drop]
      refine ⟨hat.isSome, fun _ => ⟨_, _, hat, fun b0 => ?_⟩⟩
      refine Cl.same (c_kcall1 (hq.mono hle) (hu0.mono hle) _ _) fun _ _ hx2 => ⟨_, rfl, hx2, fun h => ⟨in64 (by omega), fun _ => ⟨⟨j + 1, i, by omega, rfl, by omega, by omega, hle, rows', ho', hdn, ?_⟩, by simp only; omega⟩⟩, fun h => ⟨⟨by omega, by omega⟩, fun _ => ?_⟩⟩
      · have : ackd a s = true := h
        rw [filter_take _ hs, this]
        simpa using ha'
      · intro W5 n5 _
        have hir : i < rows'.length := by rw [← hn']; omega
        obtain ⟨W6, H2, hrun, hu, ho2⟩ := ek_store (P := Tryz.prog) (t := 77) i1 n5.sub ho' (i := i) (j := 0) (vs := [vi s.seq, vi s.val]) (v := .agg #[vi s.seq, vi s.val]) (List.getElem?_eq_getElem hir) rfl i3 (by simp) (by simp)
          (fun u hu => by
            simp only [List.mem_cons, List.not_mem_nil, or_false] at hu
            rcases hu with rfl | rfl <;> rfl) (off := 0 + (i : Int) * 2) (by omega)
        have hseg : segRow rows'[i] 0 [vi s.seq, vi s.val] = s.row := by
          have := (ho'.2.1 _ (List.getElem_mem hir)).1
          unfold segRow
          rw [List.drop_of_length_le (by simp; omega)]
          simp [Rep.row]
        rw [hseg] at ho2
        refine ⟨W6, hrun, H2, hu.own ho' (fun b hb => .inr hb), in64 (by omega), fun _ => ⟨in64 (by omega), fun _ => ⟨⟨j + 1, i + 1, by omega, by omega, by omega, by omega, hu.keep n5.sub hle (but_g H), _, ho2, ?_, ?_⟩, by simp only; omega⟩⟩⟩
        · rw [List.drop_set_of_lt (by omega)]; exact hdn
        · have : ackd a s = false := by simpa [ackd] using h
          rw [filter_take _ hs, this]
          have e2 : (rows'.set i s.row).take (i + 1) = rows'.take i ++ [s.row] := by
            rw [List.take_succ_eq_append_getElem (by simp; omega)]
            simp [List.take_set_of_le]
          rw [e2, ha']
          simp
    · have hjn : j = n := by omega
      subst hjn
      intro W3 n3 _
      rw [slice_tail]
      have hot := ho'.take i (by omega)
      have hic : i < c := by omega
      have et : i < c → vsl (tailP p c i 2) (j - i) (c - i) = .slice (ptrAt p ((i * 2 : Nat) : Int)) (j - i) (c - i) := fun h => by unfold tailP; rw [if_neg (by omega), ptrAt_shift, Int.toNat_natCast]
      rw [et hic]
      obtain ⟨W4, H2, hrun, hu, ho2⟩ := ek_clear (P := Tryz.prog) Tryz.underlying73 i1 i2 i5 i6 n3.sub hot (m := j - i) (dc := c - i) (by omega) (off := ((i * 2 : Nat) : Int)) (fun _ => rfl) 0
      refine ⟨W4, hrun, H2, hu.own hot (fun b hb => .inr hb), by omega, fun _ => ?_⟩
      have ei : ((i : Int)).toNat = i := by omega
      rw [ei]
      refine Rt.gt hH ho.held g (.inl rfl) ⟨i, rfl, ?_⟩
      have e3 : l.take j = l := List.take_of_length_le (by omega)
      rw [e3] at ha'
      rw [ha'] at ho2
      exact ho2.merge (.inl rfl)
theorem filter_splitK {l : List Rep} {x : Int} {i : Nat} (h1 : ∀ k s, k < i → l[k]? = some s → s.seq < x) (h2 : ∀ k s, i ≤ k → l[k]? = some s → x ≤ s.seq) (hi : i ≤ l.length) : posK l x = i ∧ (hasK l x = true ↔ ∃ s, l[i]? = some s ∧ s.seq = x) ∨ ¬ (l.Pairwise fun a b => a.seq < b.seq) := by
  by_cases hp : l.Pairwise fun a b => a.seq < b.seq
  · left
    have e1 : l.take i ++ l.drop i = l := List.take_append_drop i l
    constructor
    · unfold posK
      rw [← e1, List.filter_append, List.filter_eq_self.2, List.filter_eq_nil_iff.2]
      · simp; omega
      · intro s hs
        obtain ⟨k, hk⟩ := List.mem_iff_getElem?.1 hs
        rw [List.getElem?_drop] at hk
        have := h2 _ s (by omega) hk
        simp; omega
      · intro s hs
        obtain ⟨k, hk⟩ := List.mem_iff_getElem?.1 hs
        rw [List.getElem?_take] at hk
        split at hk
        · rename_i hlt
          have := h1 _ s hlt hk
          simpa using this
        · cases hk
    · unfold hasK
      rw [List.any_eq_true]
      constructor
      · rintro ⟨s, hs, he⟩
        obtain ⟨k, hk⟩ := List.mem_iff_getElem?.1 hs
        simp only [decide_eq_true_eq] at he
        have hki : i ≤ k := by
          rcases Nat.lt_or_ge k i with h | h
          · have := h1 k s h hk; omega
          · exact h
        rcases Nat.eq_or_lt_of_le hki with rfl | hlt
        · exact ⟨s, hk, he⟩
        · have hkl : k < l.length := (List.getElem?_eq_some_iff.1 hk).1
          have hil : i < l.length := by omega
          have h3 := List.pairwise_iff_getElem.1 hp i k hil hkl hlt
          have h4 := h2 i _ (Nat.le_refl _) (List.getElem?_eq_getElem hil)
          have h5 := (List.getElem?_eq_some_iff.1 hk).2
          rw [h5] at h3
          omega
      · rintro ⟨s, hs, he⟩
        exact ⟨s, List.mem_of_getElem? hs, by simpa using he⟩
  · exact .inr hp
theorem c_bsR {H : Hp} {p : Option Loc} {n c : Nat} {l : List Rep} (hT : Kept H p n c l) (ho : l.Pairwise fun a b => a.seq < b.seq) (hs : n ≤ 4611686018427387903) (x : Int) :
    Gv Tryz.prog 98 #[vsl p n c, vi x, .func (.func 99) #[] #[]] H (.tuple #[vi (posK l x), vb (hasK l x)]) := fun W hH => by
  have hn := hT.len
  refine x_bsR p n c x noM H W _ hH ⟨by omega, fun _ => ?_⟩
  refine ⟨fun v K => match v with | [.n i, .n j] => i ≤ j ∧ j ≤ n ∧ H.le K ∧ (∀ (k : Nat) (s : Rep), k < i → l[k]? = some s → s.seq < x) ∧ (∀ (k : Nat) (s : Rep), j ≤ k → l[k]? = some s → x ≤ s.seq) | _ => False,
    fun v => match v with | [.n i, .n j] => j - i | _ => 0, ⟨by omega, by omega, Hp.le_refl H, fun k s hk => by omega, fun k s hk hks => by have := (List.getElem?_eq_some_iff.1 hks).1; omega⟩, fun K i j hI => ?_⟩
  obtain ⟨hij, hj, hle, h1, h2⟩ := hI
  refine ⟨fun hlt => ⟨in64 (by omega), fun _ => ?_⟩, fun hge => ?_⟩
  · intro W1 _ _
    refine ⟨_, _, ek_shr _ _ _ (by omega) (by omega) W1, Ext.refl _, in64 (by omega), fun _ => ⟨⟨by omega, by omega⟩, fun _ => ?_⟩⟩
    obtain ⟨m, hm⟩ : ∃ m : Nat, ((i : Int) + j) / 2 = m := ⟨(((i : Int) + j) / 2).toNat, by omega⟩
    rw [hm]
    have hmi : i ≤ m ∧ m < j := by omega
    obtain ⟨s, hs, hat, _⟩ := (hT.mono hle).at' (k := m) (by omega)
    refine ⟨hat.isSome, fun _ => ⟨_, _, hat, ?_⟩⟩
    have hml : m < l.length := by omega
    have hsm := (List.getElem?_eq_some_iff.1 hs).2
    have hpw := List.pairwise_iff_getElem.1 ho
    refine Cl.same (c_kcall2 s x K) fun _ _ hx => ⟨_, rfl, hx, fun h0 => ⟨in64 (by omega), fun _ => ⟨by omega, fun _ => ⟨by omega, fun _ => ?_⟩⟩⟩, fun h0 => ⟨by omega, fun _ => ⟨by omega, fun _ => ?_⟩⟩⟩
    · have hlt : s.seq < x := by unfold cmpI at h0; split at h0 <;> (try split at h0) <;> omega
      rw [show ((m : Int) + 1).toNat = m + 1 by omega]
      refine ⟨⟨by omega, by omega, hle, fun k t hk hkt => ?_, h2⟩, by simp only; omega⟩
      rcases Nat.eq_or_lt_of_le (Nat.le_of_lt_succ hk) with rfl | hk'
      · rw [hs] at hkt; simp only [Option.some.injEq] at hkt; rw [← hkt]; exact hlt
      · have hkl : k < l.length := by omega
        have h5 := hpw k m hkl hml hk'
        rw [hsm, (List.getElem?_eq_some_iff.1 hkt).2] at h5
        omega
    · have hge : x ≤ s.seq := by unfold cmpI at h0; split at h0 <;> (try split at h0) <;> omega
      rw [show ((m : Int)).toNat = m by omega]
      refine ⟨⟨by omega, by omega, hle, h1, fun k t hk hkt => ?_⟩, by simp only; omega⟩
      rcases Nat.eq_or_lt_of_le hk with rfl | hk'
      · rw [hs] at hkt; simp only [Option.some.injEq] at hkt; rw [← hkt]; exact hge
      · have hkl : k < l.length := (List.getElem?_eq_some_iff.1 hkt).1
        have h5 := hpw m k hml hkl hk'
        rw [hsm, (List.getElem?_eq_some_iff.1 hkt).2] at h5
        omega
  · have hij2 : i = j := by omega
    subst hij2
    rcases filter_splitK h1 h2 (by omega) with ⟨e1, e2⟩ | e
    · refine ⟨fun hlt => ⟨⟨by omega, hlt⟩, fun _ => ?_⟩, fun hge2 => Rt.gv' ?_⟩
      · obtain ⟨s, hs, hat, _⟩ := (hT.mono hle).at' (k := i) (by omega)
        refine ⟨hat.isSome, fun _ => ⟨_, _, hat, ?_⟩⟩
        refine Cl.same (c_kcall2 s x K) fun _ _ hx => ⟨_, rfl, hx, Rt.gv' ?_⟩
        have hge := h2 i s (Nat.le_refl _) hs
        rw [e1]
        congr 3
        cases hb : hasK l x with
        | true =>
          obtain ⟨t, ht, he⟩ := e2.1 hb
          rw [hs] at ht; simp only [Option.some.injEq] at ht
          subst ht
          rw [he]; simp [cmpI]
        | false =>
          have hne : s.seq ≠ x := fun he => by rw [e2.2 ⟨s, hs, he⟩] at hb; cases hb
          have hc : cmpI s.seq x = 1 := by unfold cmpI; rw [if_neg (by omega), if_pos (by omega)]
          simp [hc]
      · rw [e1]
        congr 3
        cases hb : hasK l x with
        | true =>
          obtain ⟨t, ht, _⟩ := e2.1 hb
          have := (List.getElem?_eq_some_iff.1 ht).1
          omega
        | false => rfl
    · exact absurd ho e
end Go.Proofs.YtfpmcmhihhnfgaaGreat
