/- Symbolic runs of functions: what each leaves to prove is enough for its call. Printed by a program of ours. No conditions. Contracts: what deletes in a table of one's own, what inserts. No conditions. Contracts: what is fresh, what is dropped, what is put. No conditions. -/
import Derived.Test.YtfpmcmhihhnfgaaGreatKE3
import Derived.Test.YtfpmcmhihhnfgaaGreatProg
import Derived.Test.YtfpmcmhihhnfgaaGreatKS2
import Derived.Test.YtfpmcmhihhnfgaaGreatKE4
import Derived.Lib.Overlaps
set_option linter.unusedVariables false
set_option linter.unusedSimpArgs false
namespace Go.Proofs.YtfpmcmhihhnfgaaGreat
open Go.RowKit
set_option maxRecDepth 100000
set_option maxHeartbeats 4000000
def v_delS : VC :=
(.chk (.le (.k 0) (.v 1))
(.esc (.slice 23 true true true) [vS 0, vI 3, vI 4, vI 1] [] [(5, .p), (6, .n), (7, .n)] (some (vS 5)) .fresh
(.ite (.eq (.v 3) (.v 4))
(.ret (vS 0) [])
(.chk (.le (.k 0) (.v 3))
(.chk (.le (.v 3) (.v 2))
(.chk (.le (.k 0) (.v 4))
(.chk (.le (.v 4) (.v 1))
(.chk (.le (.v 1) (.v 2))
(.esc (.bi .append #[23, 23] 23) [.slO 0 (.k 0) (.v 3) (.v 2), .slO 0 (.add (.k 0) (.skip (.v 2) (.v 4) 4)) (.sub (.v 1) (.v 4)) (.sub (.v 2) (.v 4))] [] [(8, .p), (9, .n), (10, .n)] (some (vS 8)) .turn
(.chk (.le (.k 0) (.v 9))
(.chk (.le (.v 9) (.v 1))
(.chk (.le (.v 1) (.v 10))
(.esc (.bi .clear #[23] 0) [.slO 8 (.add (.k 0) (.skip (.v 10) (.v 9) 4)) (.sub (.v 1) (.v 9)) (.sub (.v 10) (.v 9))] [] [] (some (.tup [])) .turn
(.ret (vS 8) []))))))))))))))
theorem x_delS (x0 : Option Loc) (x1 x2 : Nat) (x3 x4 : Int) (M : Nat → Prop) (H0 : Hp) (W0 : World) (R : Ending → World → Prop) (hH : H0.le (hpOf W0)) (h :
 (0 ≤ (x1 : Int) ∧ (0 ≤ (x1 : Int) →
 (Es W0 M H0 nK fun W1 => ∃ (x5 : Option Loc) (x6 x7 : Nat), Eo Tryz.prog (.slice 23 true true true) [vsl x0 x1 x2, vi x3, vi x4, vi (x1 : Int)] W1 (.value (vsl x5 x6 x7)) fun W2 => Fr W1 W2 H0 fun H1 =>
 ((x3 = x4 →
  Rt R W0 M H1 nK (vsl x0 x1 x2)) ∧
 (¬ (x3 = x4) →
  (0 ≤ x3 ∧ (0 ≤ x3 →
  (x3 ≤ (x2 : Int) ∧ (x3 ≤ (x2 : Int) →
  (0 ≤ x4 ∧ (0 ≤ x4 →
  (x4 ≤ (x1 : Int) ∧ (x4 ≤ (x1 : Int) →
  ((x1 : Int) ≤ (x2 : Int) ∧ ((x1 : Int) ≤ (x2 : Int) →
  (Es W0 M H1 nK fun W3 => ∃ (x8 : Option Loc) (x9 x10 : Nat), Eo Tryz.prog (.bi .append #[23, 23] 23) [vsl x0 (x3).toNat x2, Value.slice (ptrAt x0 (0 + (if (x2 : Int) = x4 then 0 else x4 * ((4 : Nat) : Int)))) (((x1 : Int) - x4) : Int).toNat (((x2 : Int) - x4) : Int).toNat] W3 (.value (vsl x8 x9 x10)) fun W4 => Tn W0 M H1 W3 W4 fun H2 =>
  (0 ≤ (x9 : Int) ∧ (0 ≤ (x9 : Int) →
  ((x9 : Int) ≤ (x1 : Int) ∧ ((x9 : Int) ≤ (x1 : Int) →
  ((x1 : Int) ≤ (x10 : Int) ∧ ((x1 : Int) ≤ (x10 : Int) →
  (Es W0 M H2 nK fun W5 => Eo Tryz.prog (.bi .clear #[23] 0) [Value.slice (ptrAt x8 (0 + (if (x10 : Int) = (x9 : Int) then 0 else (x9 : Int) * ((4 : Nat) : Int)))) (((x1 : Int) - (x9 : Int)) : Int).toNat (((x10 : Int) - (x9 : Int)) : Int).toNat] W5 (.value (Value.tuple #[])) fun W6 => Tn W0 M H2 W5 W6 fun H3 =>
  Rt R W0 M H3 nK (vsl x8 x9 x10))))))))))))))))))))))))) :
  Calls Tryz.prog 88 #[vsl x0 x1 x2, vi x3, vi x4] W0 R :=
  calls_sxA (M := M) (V := v_delS) (hi := {}) (args := [vS 0, vI 3, vI 4]) (nv := 5) (e := (upd (upd (upd (upd (upd (fun _ => .i 0) 0 (.p x0)) 1 (.n x1)) 2 (.n x2)) 3 (.i x3)) 4 (.i x4))) Tryz.func88 hH h (by kernel_rfl) (by kernel_rfl) (by kernel_rfl)
def v_insS : VC :=
(.chk (.le (.k 0) (.v 3))
(.chk (.le (.v 3) (.v 1))
(.chk (.le (.v 1) (.v 2))
(.chk (.le (.k 0) (.v 5))
(.ite (.eq (.v 5) (.k 0))
(.ret (vS 0) [])
(.chk (.le (.k 0) (.v 1))
(.ite (.eq (.v 3) (.v 1))
(.esc (.bi .append #[23, 23] 23) [vS 0, vS 4] [] [(7, .p), (8, .n), (9, .n)] (some (vS 7)) .turn
(.ret (vS 7) []))
(.chk (.rng .i64 (.add (.v 1) (.v 5)))
(.esc (.bi .cap #[23] 3) [vS 0] [] [(7, .i)] (some (vI 7)) .same
(.ite (.lt (.v 7) (.add (.v 1) (.v 5)))
(.chk (.le (.v 3) (.v 2))
(.chk (.rng .i64 (.sub (.add (.v 1) (.v 5)) (.v 3)))
(.esc (.bi .append #[23, 3] 23) [.slO 0 (.k 0) (.v 3) (.v 2), .int .i64 (.sub (.add (.v 1) (.v 5)) (.v 3))] [] [(8, .p), (9, .n), (10, .n)] (some (vS 8)) .turn
(.chk (.le (.v 3) (.v 9))
(.chk (.le (.v 9) (.v 10))
(.esc (.bi .copy #[23, 23] 3) [.slO 8 (.add (.k 0) (.skip (.v 10) (.v 3) 4)) (.sub (.v 9) (.v 3)) (.sub (.v 10) (.v 3)), vS 4] [] [(11, .i)] (some (vI 11)) .turn
(.chk (.rng .i64 (.add (.v 3) (.v 5)))
(.chk (.le (.k 0) (.add (.v 3) (.v 5)))
(.chk (.le (.add (.v 3) (.v 5)) (.v 9))
(.esc (.bi .copy #[23, 23] 3) [.slO 8 (.add (.k 0) (.skip (.v 10) (.add (.v 3) (.v 5)) 4)) (.sub (.v 9) (.add (.v 3) (.v 5))) (.sub (.v 10) (.add (.v 3) (.v 5))), .slO 0 (.add (.k 0) (.skip (.v 2) (.v 3) 4)) (.sub (.v 1) (.v 3)) (.sub (.v 2) (.v 3))] [] [(12, .i)] (some (vI 12)) .turn
(.ret (vS 8) [])))))))))))
(.chk (.le (.k 0) (.add (.v 1) (.v 5)))
(.chk (.le (.add (.v 1) (.v 5)) (.v 2))
(.chk (.rng .i64 (.add (.v 3) (.v 5)))
(.chk (.le (.k 0) (.add (.v 3) (.v 5)))
(.chk (.le (.add (.v 3) (.v 5)) (.add (.v 1) (.v 5)))
(.esc (.ext 103) [vS 4, .slO 0 (.add (.k 0) (.skip (.v 2) (.add (.v 3) (.v 5)) 4)) (.sub (.add (.v 1) (.v 5)) (.add (.v 3) (.v 5))) (.sub (.v 2) (.add (.v 3) (.v 5)))] [] [(8, .b)] (some (.bool (.v 8))) .same
(.ite (.v 8)
(.chk (.le (.v 1) (.add (.v 1) (.v 5)))
(.esc (.bi .copy #[23, 23] 3) [.slO 0 (.add (.k 0) (.skip (.v 2) (.v 1) 4)) (.sub (.add (.v 1) (.v 5)) (.v 1)) (.sub (.v 2) (.v 1)), vS 4] [] [(9, .i)] (some (vI 9)) .turn
(.chk (.le (.v 3) (.add (.v 1) (.v 5)))
(.call 104 [.slO 0 (.add (.k 0) (.skip (.v 2) (.v 3) 4)) (.sub (.add (.v 1) (.v 5)) (.v 3)) (.sub (.v 2) (.v 3)), vI 5] [] [] (.tup []) .same
(.ret (.slO 0 (.k 0) (.add (.v 1) (.v 5)) (.v 2)) [])))))
(.chk (.le (.v 3) (.add (.v 1) (.v 5)))
(.esc (.bi .copy #[23, 23] 3) [.slO 0 (.add (.k 0) (.skip (.v 2) (.add (.v 3) (.v 5)) 4)) (.sub (.add (.v 1) (.v 5)) (.add (.v 3) (.v 5))) (.sub (.v 2) (.add (.v 3) (.v 5))), .slO 0 (.add (.k 0) (.skip (.v 2) (.v 3) 4)) (.sub (.add (.v 1) (.v 5)) (.v 3)) (.sub (.v 2) (.v 3))] [] [(9, .i)] (some (vI 9)) .turn
(.esc (.bi .copy #[23, 23] 3) [.slO 0 (.add (.k 0) (.skip (.v 2) (.v 3) 4)) (.sub (.add (.v 1) (.v 5)) (.v 3)) (.sub (.v 2) (.v 3)), vS 4] [] [(10, .i)] (some (vI 10)) .turn
(.ret (.slO 0 (.k 0) (.add (.v 1) (.v 5)) (.v 2)) [])))))))))))))))))))))
theorem x_insS (x0 : Option Loc) (x1 x2 : Nat) (x3 : Int) (x4 : Option Loc) (x5 x6 : Nat) (M : Nat → Prop) (H0 : Hp) (W0 : World) (R : Ending → World → Prop) (hH : H0.le (hpOf W0)) (h :
 (0 ≤ x3 ∧ (0 ≤ x3 →
 (x3 ≤ (x1 : Int) ∧ (x3 ≤ (x1 : Int) →
 ((x1 : Int) ≤ (x2 : Int) ∧ ((x1 : Int) ≤ (x2 : Int) →
 (0 ≤ (x5 : Int) ∧ (0 ≤ (x5 : Int) →
 (((x5 : Int) = 0 →
  Rt R W0 M H0 nK (vsl x0 x1 x2)) ∧
 (¬ ((x5 : Int) = 0) →
  (0 ≤ (x1 : Int) ∧ (0 ≤ (x1 : Int) →
  ((x3 = (x1 : Int) →
   (Es W0 M H0 nK fun W1 => ∃ (x7 : Option Loc) (x8 x9 : Nat), Eo Tryz.prog (.bi .append #[23, 23] 23) [vsl x0 x1 x2, vsl x4 x5 x6] W1 (.value (vsl x7 x8 x9)) fun W2 => Tn W0 M H0 W1 W2 fun H1 =>
   Rt R W0 M H1 nK (vsl x7 x8 x9))) ∧
  (¬ (x3 = (x1 : Int)) →
   (inKind .i64 ((x1 : Int) + (x5 : Int)) ∧ (inKind .i64 ((x1 : Int) + (x5 : Int)) →
   (Es W0 M H0 nK fun W1 => ∃ x7 : Int, Eo Tryz.prog (.bi .cap #[23] 3) [vsl x0 x1 x2] W1 (.value (vi x7)) fun W2 => Ext W1 W2 ∧
   ((x7 < ((x1 : Int) + (x5 : Int)) →
    (x3 ≤ (x2 : Int) ∧ (x3 ≤ (x2 : Int) →
    (inKind .i64 (((x1 : Int) + (x5 : Int)) - x3) ∧ (inKind .i64 (((x1 : Int) + (x5 : Int)) - x3) →
    (Es W0 M H0 nK fun W3 => ∃ (x8 : Option Loc) (x9 x10 : Nat), Eo Tryz.prog (.bi .append #[23, 3] 23) [vsl x0 (x3).toNat x2, vi (((x1 : Int) + (x5 : Int)) - x3)] W3 (.value (vsl x8 x9 x10)) fun W4 => Tn W0 M H0 W3 W4 fun H1 =>
    (x3 ≤ (x9 : Int) ∧ (x3 ≤ (x9 : Int) →
    ((x9 : Int) ≤ (x10 : Int) ∧ ((x9 : Int) ≤ (x10 : Int) →
    (Es W0 M H1 nK fun W5 => ∃ x11 : Int, Eo Tryz.prog (.bi .copy #[23, 23] 3) [Value.slice (ptrAt x8 (0 + (if (x10 : Int) = x3 then 0 else x3 * ((4 : Nat) : Int)))) (((x9 : Int) - x3) : Int).toNat (((x10 : Int) - x3) : Int).toNat, vsl x4 x5 x6] W5 (.value (vi x11)) fun W6 => Tn W0 M H1 W5 W6 fun H2 =>
    (inKind .i64 (x3 + (x5 : Int)) ∧ (inKind .i64 (x3 + (x5 : Int)) →
    (0 ≤ (x3 + (x5 : Int)) ∧ (0 ≤ (x3 + (x5 : Int)) →
    ((x3 + (x5 : Int)) ≤ (x9 : Int) ∧ ((x3 + (x5 : Int)) ≤ (x9 : Int) →
    (Es W0 M H2 nK fun W7 => ∃ x12 : Int, Eo Tryz.prog (.bi .copy #[23, 23] 3) [Value.slice (ptrAt x8 (0 + (if (x10 : Int) = (x3 + (x5 : Int)) then 0 else (x3 + (x5 : Int)) * ((4 : Nat) : Int)))) (((x9 : Int) - (x3 + (x5 : Int))) : Int).toNat (((x10 : Int) - (x3 + (x5 : Int))) : Int).toNat, Value.slice (ptrAt x0 (0 + (if (x2 : Int) = x3 then 0 else x3 * ((4 : Nat) : Int)))) (((x1 : Int) - x3) : Int).toNat (((x2 : Int) - x3) : Int).toNat] W7 (.value (vi x12)) fun W8 => Tn W0 M H2 W7 W8 fun H3 =>
    Rt R W0 M H3 nK (vsl x8 x9 x10))))))))))))))))))) ∧
   (¬ (x7 < ((x1 : Int) + (x5 : Int))) →
    (0 ≤ ((x1 : Int) + (x5 : Int)) ∧ (0 ≤ ((x1 : Int) + (x5 : Int)) →
    (((x1 : Int) + (x5 : Int)) ≤ (x2 : Int) ∧ (((x1 : Int) + (x5 : Int)) ≤ (x2 : Int) →
    (inKind .i64 (x3 + (x5 : Int)) ∧ (inKind .i64 (x3 + (x5 : Int)) →
    (0 ≤ (x3 + (x5 : Int)) ∧ (0 ≤ (x3 + (x5 : Int)) →
    ((x3 + (x5 : Int)) ≤ ((x1 : Int) + (x5 : Int)) ∧ ((x3 + (x5 : Int)) ≤ ((x1 : Int) + (x5 : Int)) →
    (Es W0 M H0 nK fun W3 => ∃ x8 : Bool, Eo Tryz.prog (.ext 103) [vsl x4 x5 x6, Value.slice (ptrAt x0 (0 + (if (x2 : Int) = (x3 + (x5 : Int)) then 0 else (x3 + (x5 : Int)) * ((4 : Nat) : Int)))) ((((x1 : Int) + (x5 : Int)) - (x3 + (x5 : Int))) : Int).toNat (((x2 : Int) - (x3 + (x5 : Int))) : Int).toNat] W3 (.value (vb (x8))) fun W4 => Ext W3 W4 ∧
    ((x8 = true →
     ((x1 : Int) ≤ ((x1 : Int) + (x5 : Int)) ∧ ((x1 : Int) ≤ ((x1 : Int) + (x5 : Int)) →
     (Es W0 M H0 nK fun W5 => ∃ x9 : Int, Eo Tryz.prog (.bi .copy #[23, 23] 3) [Value.slice (ptrAt x0 (0 + (if (x2 : Int) = (x1 : Int) then 0 else (x1 : Int) * ((4 : Nat) : Int)))) ((((x1 : Int) + (x5 : Int)) - (x1 : Int)) : Int).toNat (((x2 : Int) - (x1 : Int)) : Int).toNat, vsl x4 x5 x6] W5 (.value (vi x9)) fun W6 => Tn W0 M H0 W5 W6 fun H1 =>
     (x3 ≤ ((x1 : Int) + (x5 : Int)) ∧ (x3 ≤ ((x1 : Int) + (x5 : Int)) →
     (Cl Tryz.prog W0 M H1 nK 104 #[Value.slice (ptrAt x0 (0 + (if (x2 : Int) = x3 then 0 else x3 * ((4 : Nat) : Int)))) ((((x1 : Int) + (x5 : Int)) - x3) : Int).toNat (((x2 : Int) - x3) : Int).toNat, vi (x5 : Int)] fun z W7 W8 => z = .returned (Value.tuple #[]) ∧ Ext W7 W8 ∧
     Rt R W0 M H1 nK (vsl x0 (((x1 : Int) + (x5 : Int)) : Int).toNat x2)))))))) ∧
    (¬ (x8 = true) →
     (x3 ≤ ((x1 : Int) + (x5 : Int)) ∧ (x3 ≤ ((x1 : Int) + (x5 : Int)) →
     (Es W0 M H0 nK fun W5 => ∃ x9 : Int, Eo Tryz.prog (.bi .copy #[23, 23] 3) [Value.slice (ptrAt x0 (0 + (if (x2 : Int) = (x3 + (x5 : Int)) then 0 else (x3 + (x5 : Int)) * ((4 : Nat) : Int)))) ((((x1 : Int) + (x5 : Int)) - (x3 + (x5 : Int))) : Int).toNat (((x2 : Int) - (x3 + (x5 : Int))) : Int).toNat, Value.slice (ptrAt x0 (0 + (if (x2 : Int) = x3 then 0 else x3 * ((4 : Nat) : Int)))) ((((x1 : Int) + (x5 : Int)) - x3) : Int).toNat (((x2 : Int) - x3) : Int).toNat] W5 (.value (vi x9)) fun W6 => Tn W0 M H0 W5 W6 fun H1 =>
     (Es W0 M H1 nK fun W7 => ∃ x10 : Int, Eo Tryz.prog (.bi .copy #[23, 23] 3) [Value.slice (ptrAt x0 (0 + (if (x2 : Int) = x3 then 0 else x3 * ((4 : Nat) : Int)))) ((((x1 : Int) + (x5 : Int)) - x3) : Int).toNat (((x2 : Int) - x3) : Int).toNat, vsl x4 x5 x6] W7 (.value (vi x10)) fun W8 => Tn W0 M H1 W7 W8 fun H2 =>
     Rt R W0 M H2 nK (vsl x0 (((x1 : Int) + (x5 : Int)) : Int).toNat x2)))))))))))))))))))))))))))))))))))))) :
  Calls Tryz.prog 95 #[vsl x0 x1 x2, vi x3, vsl x4 x5 x6] W0 R :=
  calls_sxA (M := M) (V := v_insS) (hi := {}) (args := [vS 0, vI 3, vS 4]) (nv := 7) (e := (upd (upd (upd (upd (upd (upd (upd (fun _ => .i 0) 0 (.p x0)) 1 (.n x1)) 2 (.n x2)) 3 (.i x3)) 4 (.p x4)) 5 (.n x5)) 6 (.n x6))) Tryz.func95 hH h (by kernel_rfl) (by kernel_rfl) (by kernel_rfl)
def v_delF : VC :=
(.call 77 [vS 0, .func 92 [] [.ptrO 3 (.k 0)]] [] [(4, .i)] (vI 4) .same
(.ite (.eq (.v 4) (.k (-1)))
(.ret (vS 0) [])
(.chk (.rng .i64 (.add (.v 4) (.k 1)))
(.loop [(5, .i), (6, .i)] [.i (.add (.v 4) (.k 1)), .i (.v 4)] [.i (.v 5), .i (.v 6)]
(.chk (.le (.k 0) (.v 1))
(.ite (.lt (.v 5) (.v 1))
(.chk (.idx (.v 5) (.v 1))
(.chk (.isp 0)
(.ld 0 (.add (.k 0) (.mul (.v 5) (.k 4))) [vI 7, vI 8, vI 9, vS 10] [(7, .i), (8, .i), (9, .i), (10, .p), (11, .n), (12, .n)]
(.all 0
(.call 92 [.agg [vI 7, vI 8, vI 9, vS 10], .ptrO 3 (.k 0)] [] [(13, .b)] (.bool (.v 13)) .same
(.ite (.v 13)
(.chk (.rng .i64 (.add (.v 5) (.k 1)))
(.back 0 [.i (.add (.v 5) (.k 1)), .i (.v 6)]))
(.chk (.idx (.v 6) (.v 1))
(.esc (.storeO 75) [.ptrO 0 (.add (.k 0) (.mul (.v 6) (.k 4))), .agg [vI 7, vI 8, vI 9, vS 10]] [] [] none .turn
(.chk (.rng .i64 (.add (.v 6) (.k 1)))
(.chk (.rng .i64 (.add (.v 5) (.k 1)))
(.back 0 [.i (.add (.v 5) (.k 1)), .i (.add (.v 6) (.k 1))])))))))))))
(.chk (.le (.k 0) (.v 6))
(.chk (.le (.v 6) (.v 1))
(.chk (.le (.v 1) (.v 2))
(.esc (.bi .clear #[23] 0) [.slO 0 (.add (.k 0) (.skip (.v 2) (.v 6) 4)) (.sub (.v 1) (.v 6)) (.sub (.v 2) (.v 6))] [] [] (some (.tup [])) .turn
(.chk (.le (.v 6) (.v 2))
(.ret (.slO 0 (.k 0) (.v 6) (.v 2)) []))))))))))))
theorem x_delF (x0 : Option Loc) (x1 x2 : Nat) (x3 : Option Loc) (M : Nat → Prop) (H0 : Hp) (W0 : World) (R : Ending → World → Prop) (hH : H0.le (hpOf W0)) (h :
 (Cl Tryz.prog W0 M H0 nK 77 #[vsl x0 x1 x2, Value.func (.func 92) #[] #[Value.pointer (ptrAt x3 0)]] fun z W1 W2 => ∃ x4 : Int, z = .returned (vi x4) ∧ Ext W1 W2 ∧
 ((x4 = (-1) →
  Rt R W0 M H0 nK (vsl x0 x1 x2)) ∧
 (¬ (x4 = (-1)) →
  (inKind .i64 (x4 + 1) ∧ (inKind .i64 (x4 + 1) →
  (∃ (I0 : List Dat → Hp → Prop) (μ0 : List Dat → Nat), I0 [.i (x4 + 1), .i x4] H0 ∧ ∀ H1 : Hp, ∀ (x5 x6 : Int), I0 [.i x5, .i x6] H1 →
   (0 ≤ (x1 : Int) ∧ (0 ≤ (x1 : Int) →
   ((x5 < (x1 : Int) →
    (((0 : Int) ≤ x5 ∧ x5 < (x1 : Int)) ∧ (((0 : Int) ≤ x5 ∧ x5 < (x1 : Int)) →
    (x0.isSome = true ∧ (x0.isSome = true →
    (∃ (x7 x8 x9 : Int) (x10 : Option Loc) (x11 x12 : Nat), RowAt H1 x0 (0 + (x5 * 4)) [vi x7, vi x8, vi x9, vsl x10 x11 x12] ∧
    (∀ b0 : Nat,
    (Cl Tryz.prog W0 M H1 nK 92 #[Value.agg #[vi x7, vi x8, vi x9, vsl x10 x11 x12], Value.pointer (ptrAt x3 0)] fun z W3 W4 => ∃ x13 : Bool, z = .returned (vb (x13)) ∧ Ext W3 W4 ∧
    ((x13 = true →
     (inKind .i64 (x5 + 1) ∧ (inKind .i64 (x5 + 1) →
     (I0 [.i (x5 + 1), .i x6] H1 ∧ μ0 [.i (x5 + 1), .i x6] < μ0 [.i x5, .i x6])))) ∧
    (¬ (x13 = true) →
     (((0 : Int) ≤ x6 ∧ x6 < (x1 : Int)) ∧ (((0 : Int) ≤ x6 ∧ x6 < (x1 : Int)) →
     (Es W0 M H1 nK fun W5 => Eo Tryz.prog (.storeO 75) [Value.pointer (ptrAt x0 (0 + (x6 * 4))), Value.agg #[vi x7, vi x8, vi x9, vsl x10 x11 x12]] W5 (.skip) fun W6 => Tn W0 M H1 W5 W6 fun H2 =>
     (inKind .i64 (x6 + 1) ∧ (inKind .i64 (x6 + 1) →
     (inKind .i64 (x5 + 1) ∧ (inKind .i64 (x5 + 1) →
     (I0 [.i (x5 + 1), .i (x6 + 1)] H2 ∧ μ0 [.i (x5 + 1), .i (x6 + 1)] < μ0 [.i x5, .i x6])))))))))))))))))) ∧
   (¬ (x5 < (x1 : Int)) →
    (0 ≤ x6 ∧ (0 ≤ x6 →
    (x6 ≤ (x1 : Int) ∧ (x6 ≤ (x1 : Int) →
    ((x1 : Int) ≤ (x2 : Int) ∧ ((x1 : Int) ≤ (x2 : Int) →
    (Es W0 M H1 nK fun W3 => Eo Tryz.prog (.bi .clear #[23] 0) [Value.slice (ptrAt x0 (0 + (if (x2 : Int) = x6 then 0 else x6 * ((4 : Nat) : Int)))) (((x1 : Int) - x6) : Int).toNat (((x2 : Int) - x6) : Int).toNat] W3 (.value (Value.tuple #[])) fun W4 => Tn W0 M H1 W3 W4 fun H2 =>
    (x6 ≤ (x2 : Int) ∧ (x6 ≤ (x2 : Int) →
    Rt R W0 M H2 nK (vsl x0 (x6).toNat x2))))))))))))))))))))) :
  Calls Tryz.prog 91 #[vsl x0 x1 x2, Value.func (.func 92) #[] #[Value.pointer (ptrAt x3 0)]] W0 R :=
  calls_sxA (M := M) (V := v_delF) (hi := {loops := [(5, .inv [(6, .pt (.int .i64)), (5, .pt (.int .i64))] [])]}) (args := [vS 0, .func 92 [] [.ptrO 3 (.k 0)]]) (nv := 4) (e := (upd (upd (upd (upd (fun _ => .i 0) 0 (.p x0)) 1 (.n x1)) 2 (.n x2)) 3 (.p x3))) Tryz.func91 hH h (by kernel_rfl) (by kernel_rfl) (by kernel_rfl)
def v_left : VC :=
(.all 0
(.call 63 [vS 0] [] [(4, .p), (5, .n), (6, .n)] (vS 4) .fresh
(.call 91 [vS 4, .func 92 [] [.ptrK 0 0]] [(0, ⟨[vI 3], 3⟩)] [(7, .p), (8, .n), (9, .n)] (vS 7) .turn
(.ret (vS 7) []))))
theorem x_left (x0 : Option Loc) (x1 x2 : Nat) (x3 : Int) (M : Nat → Prop) (H0 : Hp) (W0 : World) (R : Ending → World → Prop) (hH : H0.le (hpOf W0)) (h :
 (∀ b0 : Nat,
 (Cl Tryz.prog W0 M H0 nK 63 #[vsl x0 x1 x2] fun z W1 W2 => ∃ (x4 : Option Loc) (x5 x6 : Nat), z = .returned (vsl x4 x5 x6) ∧ Fr W1 W2 H0 fun H1 =>
 (Cl Tryz.prog W0 M H1 (fun W => Kn W0 M H1 W b0 (Obj.cells #[vi x3] 3 (0, 0)) ∧ True) 91 #[vsl x4 x5 x6, Value.func (.func 92) #[] #[Value.pointer (some ⟨b0, 0, none⟩)]] fun z W3 W4 => ∃ (x7 : Option Loc) (x8 x9 : Nat), z = .returned (vsl x7 x8 x9) ∧ Tn W0 M H1 W3 W4 fun H2 =>
 Rt R W0 M H2 nK (vsl x7 x8 x9))))) :
  Calls Tryz.prog 85 #[vsl x0 x1 x2, vi x3] W0 R :=
  calls_sxA (M := M) (V := v_left) (hi := {turns := [91]}) (args := [vS 0, vI 3]) (nv := 4) (e := (upd (upd (upd (upd (fun _ => .i 0) 0 (.p x0)) 1 (.n x1)) 2 (.n x2)) 3 (.i x3))) Tryz.func85 hH h (by kernel_rfl) (by kernel_rfl) (by kernel_rfl)
def v_without : VC :=
(.loop [(4, .n), (5, .p), (6, .n), (7, .n)] [.n (.k 0), .pn, .n (.k 0), .n (.k 0)] [.n (.v 4), .p 5 (.k 0), .n (.v 6), .n (.v 7)]
(.chk (.le (.k 0) (.v 1))
(.ite (.lt (.v 4) (.v 1))
(.chk (.idx (.v 4) (.v 1))
(.chk (.isp 0)
(.ld 0 (.add (.k 0) (.mul (.v 4) (.k 4))) [vI 8] [(8, .i)]
(.ite (.eq (.v 8) (.v 3))
(.chk (.rng .i64 (.add (.v 4) (.k 1)))
(.chk (.le (.k 0) (.add (.v 4) (.k 1)))
(.chk (.le (.k 0) (.v 6))
(.chk (.le (.k 0) (.v 7))
(.back 0 [.n (.add (.v 4) (.k 1)), .p 5 (.k 0), .n (.v 6), .n (.v 7)])))))
(.ld 0 (.add (.k 0) (.mul (.v 4) (.k 4))) [vI 9, vI 10, vI 11, vS 12] [(9, .i), (10, .i), (11, .i), (12, .p), (13, .n), (14, .n)]
(.call 62 [.agg [vI 9, vI 10, vI 11, vS 12]] [] [(15, .i), (16, .i), (17, .i), (18, .p), (19, .n), (20, .n)] (.agg [vI 15, vI 16, vI 17, vS 18]) .fresh
(.all 0
(.esc (.bi .append #[23, 23] 23) [vS 5, .slK 0 0 1 1] [(0, ⟨[vI 15, vI 16, vI 17, vS 18], 75⟩)] [(21, .p), (22, .n), (23, .n)] (some (vS 21)) .turn
(.chk (.rng .i64 (.add (.v 4) (.k 1)))
(.chk (.le (.k 0) (.add (.v 4) (.k 1)))
(.chk (.le (.k 0) (.v 22))
(.chk (.le (.k 0) (.v 23))
(.back 0 [.n (.add (.v 4) (.k 1)), .p 21 (.k 0), .n (.v 22), .n (.v 23)])))))))))))))
(.ret (vS 5) []))))
theorem x_without (x0 : Option Loc) (x1 x2 : Nat) (x3 : Int) (M : Nat → Prop) (H0 : Hp) (W0 : World) (R : Ending → World → Prop) (hH : H0.le (hpOf W0)) (h :
 (∃ (I0 : List Dat → Hp → Prop) (μ0 : List Dat → Nat), I0 [.n 0, .p none, .n 0, .n 0] H0 ∧ ∀ H1 : Hp, ∀ (x4 : Nat) (x5 : Option Loc) (x6 x7 : Nat), I0 [.n x4, .p (x5.map fun a => a.shift 0), .n x6, .n x7] H1 →
  (0 ≤ (x1 : Int) ∧ (0 ≤ (x1 : Int) →
  (((x4 : Int) < (x1 : Int) →
   (((0 : Int) ≤ (x4 : Int) ∧ (x4 : Int) < (x1 : Int)) ∧ (((0 : Int) ≤ (x4 : Int) ∧ (x4 : Int) < (x1 : Int)) →
   (x0.isSome = true ∧ (x0.isSome = true →
   (∃ x8 : Int, RowAt H1 x0 (0 + ((x4 : Int) * 4)) [vi x8] ∧
   ((x8 = x3 →
    (inKind .i64 ((x4 : Int) + 1) ∧ (inKind .i64 ((x4 : Int) + 1) →
    (0 ≤ ((x4 : Int) + 1) ∧ (0 ≤ ((x4 : Int) + 1) →
    (0 ≤ (x6 : Int) ∧ (0 ≤ (x6 : Int) →
    (0 ≤ (x7 : Int) ∧ (0 ≤ (x7 : Int) →
    (I0 [.n (((x4 : Int) + 1) : Int).toNat, .p (x5.map fun a => a.shift 0), .n x6, .n x7] H1 ∧ μ0 [.n (((x4 : Int) + 1) : Int).toNat, .p (x5.map fun a => a.shift 0), .n x6, .n x7] < μ0 [.n x4, .p (x5.map fun a => a.shift 0), .n x6, .n x7])))))))))) ∧
   (¬ (x8 = x3) →
    (∃ (x9 x10 x11 : Int) (x12 : Option Loc) (x13 x14 : Nat), RowAt H1 x0 (0 + ((x4 : Int) * 4)) [vi x9, vi x10, vi x11, vsl x12 x13 x14] ∧
    (Cl Tryz.prog W0 M H1 nK 62 #[Value.agg #[vi x9, vi x10, vi x11, vsl x12 x13 x14]] fun z W1 W2 => ∃ (x15 x16 x17 : Int) (x18 : Option Loc) (x19 x20 : Nat), z = .returned (Value.agg #[vi x15, vi x16, vi x17, vsl x18 x19 x20]) ∧ Fr W1 W2 H1 fun H2 =>
    (∀ b0 : Nat,
    (Es W0 M H2 (fun W => Kn W0 M H2 W b0 (Obj.cells #[vi x15, vi x16, vi x17, vsl x18 x19 x20] 75 (0, 0)) ∧ True) fun W3 => ∃ (x21 : Option Loc) (x22 x23 : Nat), Eo Tryz.prog (.bi .append #[23, 23] 23) [vsl x5 x6 x7, Value.slice (some ⟨b0, 0, none⟩) 1 1] W3 (.value (vsl x21 x22 x23)) fun W4 => Tn W0 M H2 W3 W4 fun H3 =>
    (inKind .i64 ((x4 : Int) + 1) ∧ (inKind .i64 ((x4 : Int) + 1) →
    (0 ≤ ((x4 : Int) + 1) ∧ (0 ≤ ((x4 : Int) + 1) →
    (0 ≤ (x22 : Int) ∧ (0 ≤ (x22 : Int) →
    (0 ≤ (x23 : Int) ∧ (0 ≤ (x23 : Int) →
    (I0 [.n (((x4 : Int) + 1) : Int).toNat, .p (x21.map fun a => a.shift 0), .n x22, .n x23] H3 ∧ μ0 [.n (((x4 : Int) + 1) : Int).toNat, .p (x21.map fun a => a.shift 0), .n x22, .n x23] < μ0 [.n x4, .p (x5.map fun a => a.shift 0), .n x6, .n x7]))))))))))))))))))))) ∧
  (¬ ((x4 : Int) < (x1 : Int)) →
   Rt R W0 M H1 nK (vsl x5 x6 x7))))))) :
  Calls Tryz.prog 43 #[vsl x0 x1 x2, vi x3] W0 R :=
  calls_sxA (M := M) (V := v_without) (hi := {loops := [(3, .inv [(6, .nat), (5, .pt .sl)] [])]}) (args := [vS 0, vI 3]) (nv := 4) (e := (upd (upd (upd (upd (fun _ => .i 0) 0 (.p x0)) 1 (.n x1)) 2 (.n x2)) 3 (.i x3))) Tryz.func43 hH h (by kernel_rfl) (by kernel_rfl) (by kernel_rfl)
def v_rfresh : VC :=
(.loop [(4, .n), (5, .p), (6, .n), (7, .n)] [.n (.k 0), .pn, .n (.k 0), .n (.k 0)] [.n (.v 4), .p 5 (.k 0), .n (.v 6), .n (.v 7)]
(.chk (.le (.k 0) (.v 1))
(.ite (.lt (.v 4) (.v 1))
(.chk (.idx (.v 4) (.v 1))
(.chk (.isp 0)
(.chk (.le (.k 0) (.add (.k 0) (.mul (.v 4) (.k 4))))
(.ld 0 (.add (.add (.k 0) (.mul (.v 4) (.k 4))) (.k 2)) [vI 8] [(8, .i)]
(.chk (.rng .i64 (.sub (.v 3) (.k 20)))
(.ite (.le (.sub (.v 3) (.k 20)) (.v 8))
(.ld 0 (.add (.k 0) (.mul (.v 4) (.k 4))) [vI 9, vI 10, vI 11, vS 12] [(9, .i), (10, .i), (11, .i), (12, .p), (13, .n), (14, .n)]
(.call 62 [.agg [vI 9, vI 10, vI 11, vS 12]] [] [(15, .i), (16, .i), (17, .i), (18, .p), (19, .n), (20, .n)] (.agg [vI 15, vI 16, vI 17, vS 18]) .fresh
(.all 0
(.esc (.bi .append #[23, 23] 23) [vS 5, .slK 0 0 1 1] [(0, ⟨[vI 15, vI 16, vI 17, vS 18], 75⟩)] [(21, .p), (22, .n), (23, .n)] (some (vS 21)) .turn
(.chk (.rng .i64 (.add (.v 4) (.k 1)))
(.chk (.le (.k 0) (.add (.v 4) (.k 1)))
(.chk (.le (.k 0) (.v 22))
(.chk (.le (.k 0) (.v 23))
(.back 0 [.n (.add (.v 4) (.k 1)), .p 21 (.k 0), .n (.v 22), .n (.v 23)])))))))))
(.chk (.rng .i64 (.add (.v 4) (.k 1)))
(.chk (.le (.k 0) (.add (.v 4) (.k 1)))
(.chk (.le (.k 0) (.v 6))
(.chk (.le (.k 0) (.v 7))
(.back 0 [.n (.add (.v 4) (.k 1)), .p 5 (.k 0), .n (.v 6), .n (.v 7)])))))))))))
(.ret (vS 5) []))))
theorem x_rfresh (x0 : Option Loc) (x1 x2 : Nat) (x3 : Int) (M : Nat → Prop) (H0 : Hp) (W0 : World) (R : Ending → World → Prop) (hH : H0.le (hpOf W0)) (h :
 (∃ (I0 : List Dat → Hp → Prop) (μ0 : List Dat → Nat), I0 [.n 0, .p none, .n 0, .n 0] H0 ∧ ∀ H1 : Hp, ∀ (x4 : Nat) (x5 : Option Loc) (x6 x7 : Nat), I0 [.n x4, .p (x5.map fun a => a.shift 0), .n x6, .n x7] H1 →
  (0 ≤ (x1 : Int) ∧ (0 ≤ (x1 : Int) →
  (((x4 : Int) < (x1 : Int) →
   (((0 : Int) ≤ (x4 : Int) ∧ (x4 : Int) < (x1 : Int)) ∧ (((0 : Int) ≤ (x4 : Int) ∧ (x4 : Int) < (x1 : Int)) →
   (x0.isSome = true ∧ (x0.isSome = true →
   (0 ≤ (0 + ((x4 : Int) * 4)) ∧ (0 ≤ (0 + ((x4 : Int) * 4)) →
   (∃ x8 : Int, RowAt H1 x0 ((0 + ((x4 : Int) * 4)) + 2) [vi x8] ∧
   (inKind .i64 (x3 - 20) ∧ (inKind .i64 (x3 - 20) →
   (((x3 - 20) ≤ x8 →
    (∃ (x9 x10 x11 : Int) (x12 : Option Loc) (x13 x14 : Nat), RowAt H1 x0 (0 + ((x4 : Int) * 4)) [vi x9, vi x10, vi x11, vsl x12 x13 x14] ∧
    (Cl Tryz.prog W0 M H1 nK 62 #[Value.agg #[vi x9, vi x10, vi x11, vsl x12 x13 x14]] fun z W1 W2 => ∃ (x15 x16 x17 : Int) (x18 : Option Loc) (x19 x20 : Nat), z = .returned (Value.agg #[vi x15, vi x16, vi x17, vsl x18 x19 x20]) ∧ Fr W1 W2 H1 fun H2 =>
    (∀ b0 : Nat,
    (Es W0 M H2 (fun W => Kn W0 M H2 W b0 (Obj.cells #[vi x15, vi x16, vi x17, vsl x18 x19 x20] 75 (0, 0)) ∧ True) fun W3 => ∃ (x21 : Option Loc) (x22 x23 : Nat), Eo Tryz.prog (.bi .append #[23, 23] 23) [vsl x5 x6 x7, Value.slice (some ⟨b0, 0, none⟩) 1 1] W3 (.value (vsl x21 x22 x23)) fun W4 => Tn W0 M H2 W3 W4 fun H3 =>
    (inKind .i64 ((x4 : Int) + 1) ∧ (inKind .i64 ((x4 : Int) + 1) →
    (0 ≤ ((x4 : Int) + 1) ∧ (0 ≤ ((x4 : Int) + 1) →
    (0 ≤ (x22 : Int) ∧ (0 ≤ (x22 : Int) →
    (0 ≤ (x23 : Int) ∧ (0 ≤ (x23 : Int) →
    (I0 [.n (((x4 : Int) + 1) : Int).toNat, .p (x21.map fun a => a.shift 0), .n x22, .n x23] H3 ∧ μ0 [.n (((x4 : Int) + 1) : Int).toNat, .p (x21.map fun a => a.shift 0), .n x22, .n x23] < μ0 [.n x4, .p (x5.map fun a => a.shift 0), .n x6, .n x7])))))))))))))) ∧
   (¬ ((x3 - 20) ≤ x8) →
    (inKind .i64 ((x4 : Int) + 1) ∧ (inKind .i64 ((x4 : Int) + 1) →
    (0 ≤ ((x4 : Int) + 1) ∧ (0 ≤ ((x4 : Int) + 1) →
    (0 ≤ (x6 : Int) ∧ (0 ≤ (x6 : Int) →
    (0 ≤ (x7 : Int) ∧ (0 ≤ (x7 : Int) →
    (I0 [.n (((x4 : Int) + 1) : Int).toNat, .p (x5.map fun a => a.shift 0), .n x6, .n x7] H1 ∧ μ0 [.n (((x4 : Int) + 1) : Int).toNat, .p (x5.map fun a => a.shift 0), .n x6, .n x7] < μ0 [.n x4, .p (x5.map fun a => a.shift 0), .n x6, .n x7]))))))))))))))))))))) ∧
  (¬ ((x4 : Int) < (x1 : Int)) →
   Rt R W0 M H1 nK (vsl x5 x6 x7))))))) :
  Calls Tryz.prog 69 #[vsl x0 x1 x2, vi x3] W0 R :=
  calls_sxA (M := M) (V := v_rfresh) (hi := {loops := [(3, .inv [(6, .nat), (5, .pt .sl)] [])]}) (args := [vS 0, vI 3]) (nv := 4) (e := (upd (upd (upd (upd (fun _ => .i 0) 0 (.p x0)) 1 (.n x1)) 2 (.n x2)) 3 (.i x3))) Tryz.func69 hH h (by kernel_rfl) (by kernel_rfl) (by kernel_rfl)
def v_putOf : VC :=
(.all 0
(.call 39 [vS 0] [] [(9, .i)] (vI 9) .same
(.ite (.eq (.v 9) (.k 0))
(.call 55 [.agg [vI 3, vI 4, vI 5, vS 6]] [] [(10, .i)] (vI 10) .same
(.ite (.eq (.v 10) (.k 0))
(.loop [(11, .n), (12, .b), (13, .p), (14, .n), (15, .n)] [.n (.k 0), .b (.k false), .pn, .n (.k 0), .n (.k 0)] [.n (.v 11), .b (.v 12), .p 13 (.k 0), .n (.v 14), .n (.v 15)]
(.chk (.le (.k 0) (.v 1))
(.ite (.lt (.v 11) (.v 1))
(.ite (.v 12)
(.chk (.idx (.v 11) (.v 1))
(.chk (.isp 0)
(.ld 0 (.add (.k 0) (.mul (.v 11) (.k 4))) [vI 16] [(16, .i)]
(.ite (.eq (.v 16) (.v 3))
(.chk (.rng .i64 (.add (.v 11) (.k 1)))
(.chk (.le (.k 0) (.add (.v 11) (.k 1)))
(.chk (.le (.k 0) (.v 14))
(.chk (.le (.k 0) (.v 15))
(.back 0 [.n (.add (.v 11) (.k 1)), .b (.v 12), .p 13 (.k 0), .n (.v 14), .n (.v 15)])))))
(.ld 0 (.add (.k 0) (.mul (.v 11) (.k 4))) [vI 17, vI 18, vI 19, vS 20] [(17, .i), (18, .i), (19, .i), (20, .p), (21, .n), (22, .n)]
(.call 62 [.agg [vI 17, vI 18, vI 19, vS 20]] [] [(23, .i), (24, .i), (25, .i), (26, .p), (27, .n), (28, .n)] (.agg [vI 23, vI 24, vI 25, vS 26]) .fresh
(.all 1
(.esc (.bi .append #[23, 23] 23) [vS 13, .slK 1 0 1 1] [(1, ⟨[vI 23, vI 24, vI 25, vS 26], 75⟩)] [(29, .p), (30, .n), (31, .n)] (some (vS 29)) .turn
(.chk (.rng .i64 (.add (.v 11) (.k 1)))
(.chk (.le (.k 0) (.add (.v 11) (.k 1)))
(.chk (.le (.k 0) (.v 30))
(.chk (.le (.k 0) (.v 31))
(.back 0 [.n (.add (.v 11) (.k 1)), .b (.v 12), .p 29 (.k 0), .n (.v 30), .n (.v 31)])))))))))))))
(.chk (.idx (.v 11) (.v 1))
(.chk (.isp 0)
(.ld 0 (.add (.k 0) (.mul (.v 11) (.k 4))) [vI 16] [(16, .i)]
(.ite (.le (.v 3) (.v 16))
(.call 62 [.agg [vI 3, vI 4, vI 5, vS 6]] [] [(17, .i), (18, .i), (19, .i), (20, .p), (21, .n), (22, .n)] (.agg [vI 17, vI 18, vI 19, vS 20]) .fresh
(.all 1
(.esc (.bi .append #[23, 23] 23) [vS 13, .slK 1 0 1 1] [(1, ⟨[vI 17, vI 18, vI 19, vS 20], 75⟩)] [(23, .p), (24, .n), (25, .n)] (some (vS 23)) .turn
(.ld 0 (.add (.k 0) (.mul (.v 11) (.k 4))) [vI 26] [(26, .i)]
(.ite (.eq (.v 26) (.v 3))
(.chk (.rng .i64 (.add (.v 11) (.k 1)))
(.chk (.le (.k 0) (.add (.v 11) (.k 1)))
(.chk (.le (.k 0) (.v 24))
(.chk (.le (.k 0) (.v 25))
(.back 0 [.n (.add (.v 11) (.k 1)), .b (.k true), .p 23 (.k 0), .n (.v 24), .n (.v 25)])))))
(.ld 0 (.add (.k 0) (.mul (.v 11) (.k 4))) [vI 27, vI 28, vI 29, vS 30] [(27, .i), (28, .i), (29, .i), (30, .p), (31, .n), (32, .n)]
(.call 62 [.agg [vI 27, vI 28, vI 29, vS 30]] [] [(33, .i), (34, .i), (35, .i), (36, .p), (37, .n), (38, .n)] (.agg [vI 33, vI 34, vI 35, vS 36]) .fresh
(.all 2
(.esc (.bi .append #[23, 23] 23) [vS 23, .slK 2 0 1 1] [(2, ⟨[vI 33, vI 34, vI 35, vS 36], 75⟩)] [(39, .p), (40, .n), (41, .n)] (some (vS 39)) .turn
(.chk (.rng .i64 (.add (.v 11) (.k 1)))
(.chk (.le (.k 0) (.add (.v 11) (.k 1)))
(.chk (.le (.k 0) (.v 40))
(.chk (.le (.k 0) (.v 41))
(.back 0 [.n (.add (.v 11) (.k 1)), .b (.k true), .p 39 (.k 0), .n (.v 40), .n (.v 41)]))))))))))))))
(.ld 0 (.add (.k 0) (.mul (.v 11) (.k 4))) [vI 17] [(17, .i)]
(.ite (.eq (.v 17) (.v 3))
(.chk (.rng .i64 (.add (.v 11) (.k 1)))
(.chk (.le (.k 0) (.add (.v 11) (.k 1)))
(.chk (.le (.k 0) (.v 14))
(.chk (.le (.k 0) (.v 15))
(.back 0 [.n (.add (.v 11) (.k 1)), .b (.v 12), .p 13 (.k 0), .n (.v 14), .n (.v 15)])))))
(.ld 0 (.add (.k 0) (.mul (.v 11) (.k 4))) [vI 18, vI 19, vI 20, vS 21] [(18, .i), (19, .i), (20, .i), (21, .p), (22, .n), (23, .n)]
(.call 62 [.agg [vI 18, vI 19, vI 20, vS 21]] [] [(24, .i), (25, .i), (26, .i), (27, .p), (28, .n), (29, .n)] (.agg [vI 24, vI 25, vI 26, vS 27]) .fresh
(.all 1
(.esc (.bi .append #[23, 23] 23) [vS 13, .slK 1 0 1 1] [(1, ⟨[vI 24, vI 25, vI 26, vS 27], 75⟩)] [(30, .p), (31, .n), (32, .n)] (some (vS 30)) .turn
(.chk (.rng .i64 (.add (.v 11) (.k 1)))
(.chk (.le (.k 0) (.add (.v 11) (.k 1)))
(.chk (.le (.k 0) (.v 31))
(.chk (.le (.k 0) (.v 32))
(.back 0 [.n (.add (.v 11) (.k 1)), .b (.v 12), .p 30 (.k 0), .n (.v 31), .n (.v 32)]))))))))))))))))
(.ite (.v 12)
(.chk (.le (.k 0) (.v 14))
(.ite (.lt (.k 3) (.v 14))
(.ret (.tup [.c (Value.slice none 0 0), .int .i64 (.k 2)]) [])
(.ret (.tup [vS 13, .int .i64 (.k 0)]) [])))
(.call 62 [.agg [vI 3, vI 4, vI 5, vS 6]] [] [(16, .i), (17, .i), (18, .i), (19, .p), (20, .n), (21, .n)] (.agg [vI 16, vI 17, vI 18, vS 19]) .fresh
(.all 1
(.esc (.bi .append #[23, 23] 23) [vS 13, .slK 1 0 1 1] [(1, ⟨[vI 16, vI 17, vI 18, vS 19], 75⟩)] [(22, .p), (23, .n), (24, .n)] (some (vS 22)) .turn
(.chk (.le (.k 0) (.v 23))
(.ite (.lt (.k 3) (.v 23))
(.ret (.tup [.c (Value.slice none 0 0), .int .i64 (.k 2)]) [])
(.ret (.tup [vS 22, .int .i64 (.k 0)]) []))))))))))
(.ret (.tup [.c (Value.slice none 0 0), vI 10]) [])))
(.ret (.tup [.c (Value.slice none 0 0), vI 9]) []))))
theorem x_putOf (x0 : Option Loc) (x1 x2 : Nat) (x3 x4 x5 : Int) (x6 : Option Loc) (x7 x8 : Nat) (M : Nat → Prop) (H0 : Hp) (W0 : World) (R : Ending → World → Prop) (hH : H0.le (hpOf W0)) (h :
 (∀ b0 : Nat,
 (Cl Tryz.prog W0 M H0 nK 39 #[vsl x0 x1 x2] fun z W1 W2 => ∃ x9 : Int, z = .returned (vi x9) ∧ Ext W1 W2 ∧
 ((x9 = 0 →
  (Cl Tryz.prog W0 M H0 nK 55 #[Value.agg #[vi x3, vi x4, vi x5, vsl x6 x7 x8]] fun z W3 W4 => ∃ x10 : Int, z = .returned (vi x10) ∧ Ext W3 W4 ∧
  ((x10 = 0 →
   (∃ (I0 : List Dat → Hp → Prop) (μ0 : List Dat → Nat), I0 [.n 0, .b (false), .p none, .n 0, .n 0] H0 ∧ ∀ H1 : Hp, ∀ (x11 : Nat) (x12 : Bool) (x13 : Option Loc) (x14 x15 : Nat), I0 [.n x11, .b (x12), .p (x13.map fun a => a.shift 0), .n x14, .n x15] H1 →
    (0 ≤ (x1 : Int) ∧ (0 ≤ (x1 : Int) →
    (((x11 : Int) < (x1 : Int) →
     ((x12 = true →
      (((0 : Int) ≤ (x11 : Int) ∧ (x11 : Int) < (x1 : Int)) ∧ (((0 : Int) ≤ (x11 : Int) ∧ (x11 : Int) < (x1 : Int)) →
      (x0.isSome = true ∧ (x0.isSome = true →
      (∃ x16 : Int, RowAt H1 x0 (0 + ((x11 : Int) * 4)) [vi x16] ∧
      ((x16 = x3 →
       (inKind .i64 ((x11 : Int) + 1) ∧ (inKind .i64 ((x11 : Int) + 1) →
       (0 ≤ ((x11 : Int) + 1) ∧ (0 ≤ ((x11 : Int) + 1) →
       (0 ≤ (x14 : Int) ∧ (0 ≤ (x14 : Int) →
       (0 ≤ (x15 : Int) ∧ (0 ≤ (x15 : Int) →
       (I0 [.n (((x11 : Int) + 1) : Int).toNat, .b (x12), .p (x13.map fun a => a.shift 0), .n x14, .n x15] H1 ∧ μ0 [.n (((x11 : Int) + 1) : Int).toNat, .b (x12), .p (x13.map fun a => a.shift 0), .n x14, .n x15] < μ0 [.n x11, .b (x12), .p (x13.map fun a => a.shift 0), .n x14, .n x15])))))))))) ∧
      (¬ (x16 = x3) →
       (∃ (x17 x18 x19 : Int) (x20 : Option Loc) (x21 x22 : Nat), RowAt H1 x0 (0 + ((x11 : Int) * 4)) [vi x17, vi x18, vi x19, vsl x20 x21 x22] ∧
       (Cl Tryz.prog W0 M H1 nK 62 #[Value.agg #[vi x17, vi x18, vi x19, vsl x20 x21 x22]] fun z W5 W6 => ∃ (x23 x24 x25 : Int) (x26 : Option Loc) (x27 x28 : Nat), z = .returned (Value.agg #[vi x23, vi x24, vi x25, vsl x26 x27 x28]) ∧ Fr W5 W6 H1 fun H2 =>
       (∀ b1 : Nat,
       (Es W0 M H2 (fun W => Kn W0 M H2 W b1 (Obj.cells #[vi x23, vi x24, vi x25, vsl x26 x27 x28] 75 (0, 0)) ∧ True) fun W7 => ∃ (x29 : Option Loc) (x30 x31 : Nat), Eo Tryz.prog (.bi .append #[23, 23] 23) [vsl x13 x14 x15, Value.slice (some ⟨b1, 0, none⟩) 1 1] W7 (.value (vsl x29 x30 x31)) fun W8 => Tn W0 M H2 W7 W8 fun H3 =>
       (inKind .i64 ((x11 : Int) + 1) ∧ (inKind .i64 ((x11 : Int) + 1) →
       (0 ≤ ((x11 : Int) + 1) ∧ (0 ≤ ((x11 : Int) + 1) →
       (0 ≤ (x30 : Int) ∧ (0 ≤ (x30 : Int) →
       (0 ≤ (x31 : Int) ∧ (0 ≤ (x31 : Int) →
       (I0 [.n (((x11 : Int) + 1) : Int).toNat, .b (x12), .p (x29.map fun a => a.shift 0), .n x30, .n x31] H3 ∧ μ0 [.n (((x11 : Int) + 1) : Int).toNat, .b (x12), .p (x29.map fun a => a.shift 0), .n x30, .n x31] < μ0 [.n x11, .b (x12), .p (x13.map fun a => a.shift 0), .n x14, .n x15]))))))))))))))))))))) ∧
     (¬ (x12 = true) →
      (((0 : Int) ≤ (x11 : Int) ∧ (x11 : Int) < (x1 : Int)) ∧ (((0 : Int) ≤ (x11 : Int) ∧ (x11 : Int) < (x1 : Int)) →
      (x0.isSome = true ∧ (x0.isSome = true →
      (∃ x16 : Int, RowAt H1 x0 (0 + ((x11 : Int) * 4)) [vi x16] ∧
      ((x3 ≤ x16 →
       (Cl Tryz.prog W0 M H1 nK 62 #[Value.agg #[vi x3, vi x4, vi x5, vsl x6 x7 x8]] fun z W5 W6 => ∃ (x17 x18 x19 : Int) (x20 : Option Loc) (x21 x22 : Nat), z = .returned (Value.agg #[vi x17, vi x18, vi x19, vsl x20 x21 x22]) ∧ Fr W5 W6 H1 fun H2 =>
       (∀ b1 : Nat,
       (Es W0 M H2 (fun W => Kn W0 M H2 W b1 (Obj.cells #[vi x17, vi x18, vi x19, vsl x20 x21 x22] 75 (0, 0)) ∧ True) fun W7 => ∃ (x23 : Option Loc) (x24 x25 : Nat), Eo Tryz.prog (.bi .append #[23, 23] 23) [vsl x13 x14 x15, Value.slice (some ⟨b1, 0, none⟩) 1 1] W7 (.value (vsl x23 x24 x25)) fun W8 => Tn W0 M H2 W7 W8 fun H3 =>
       (∃ x26 : Int, RowAt H3 x0 (0 + ((x11 : Int) * 4)) [vi x26] ∧
       ((x26 = x3 →
        (inKind .i64 ((x11 : Int) + 1) ∧ (inKind .i64 ((x11 : Int) + 1) →
        (0 ≤ ((x11 : Int) + 1) ∧ (0 ≤ ((x11 : Int) + 1) →
        (0 ≤ (x24 : Int) ∧ (0 ≤ (x24 : Int) →
        (0 ≤ (x25 : Int) ∧ (0 ≤ (x25 : Int) →
        (I0 [.n (((x11 : Int) + 1) : Int).toNat, .b (true), .p (x23.map fun a => a.shift 0), .n x24, .n x25] H3 ∧ μ0 [.n (((x11 : Int) + 1) : Int).toNat, .b (true), .p (x23.map fun a => a.shift 0), .n x24, .n x25] < μ0 [.n x11, .b (x12), .p (x13.map fun a => a.shift 0), .n x14, .n x15])))))))))) ∧
       (¬ (x26 = x3) →
        (∃ (x27 x28 x29 : Int) (x30 : Option Loc) (x31 x32 : Nat), RowAt H3 x0 (0 + ((x11 : Int) * 4)) [vi x27, vi x28, vi x29, vsl x30 x31 x32] ∧
        (Cl Tryz.prog W0 M H3 nK 62 #[Value.agg #[vi x27, vi x28, vi x29, vsl x30 x31 x32]] fun z W9 W10 => ∃ (x33 x34 x35 : Int) (x36 : Option Loc) (x37 x38 : Nat), z = .returned (Value.agg #[vi x33, vi x34, vi x35, vsl x36 x37 x38]) ∧ Fr W9 W10 H3 fun H4 =>
        (∀ b2 : Nat,
        (Es W0 M H4 (fun W => Kn W0 M H4 W b2 (Obj.cells #[vi x33, vi x34, vi x35, vsl x36 x37 x38] 75 (0, 0)) ∧ True) fun W11 => ∃ (x39 : Option Loc) (x40 x41 : Nat), Eo Tryz.prog (.bi .append #[23, 23] 23) [vsl x23 x24 x25, Value.slice (some ⟨b2, 0, none⟩) 1 1] W11 (.value (vsl x39 x40 x41)) fun W12 => Tn W0 M H4 W11 W12 fun H5 =>
        (inKind .i64 ((x11 : Int) + 1) ∧ (inKind .i64 ((x11 : Int) + 1) →
        (0 ≤ ((x11 : Int) + 1) ∧ (0 ≤ ((x11 : Int) + 1) →
        (0 ≤ (x40 : Int) ∧ (0 ≤ (x40 : Int) →
        (0 ≤ (x41 : Int) ∧ (0 ≤ (x41 : Int) →
        (I0 [.n (((x11 : Int) + 1) : Int).toNat, .b (true), .p (x39.map fun a => a.shift 0), .n x40, .n x41] H5 ∧ μ0 [.n (((x11 : Int) + 1) : Int).toNat, .b (true), .p (x39.map fun a => a.shift 0), .n x40, .n x41] < μ0 [.n x11, .b (x12), .p (x13.map fun a => a.shift 0), .n x14, .n x15])))))))))))))))))))) ∧
      (¬ (x3 ≤ x16) →
       (∃ x17 : Int, RowAt H1 x0 (0 + ((x11 : Int) * 4)) [vi x17] ∧
       ((x17 = x3 →
        (inKind .i64 ((x11 : Int) + 1) ∧ (inKind .i64 ((x11 : Int) + 1) →
        (0 ≤ ((x11 : Int) + 1) ∧ (0 ≤ ((x11 : Int) + 1) →
        (0 ≤ (x14 : Int) ∧ (0 ≤ (x14 : Int) →
        (0 ≤ (x15 : Int) ∧ (0 ≤ (x15 : Int) →
        (I0 [.n (((x11 : Int) + 1) : Int).toNat, .b (x12), .p (x13.map fun a => a.shift 0), .n x14, .n x15] H1 ∧ μ0 [.n (((x11 : Int) + 1) : Int).toNat, .b (x12), .p (x13.map fun a => a.shift 0), .n x14, .n x15] < μ0 [.n x11, .b (x12), .p (x13.map fun a => a.shift 0), .n x14, .n x15])))))))))) ∧
       (¬ (x17 = x3) →
        (∃ (x18 x19 x20 : Int) (x21 : Option Loc) (x22 x23 : Nat), RowAt H1 x0 (0 + ((x11 : Int) * 4)) [vi x18, vi x19, vi x20, vsl x21 x22 x23] ∧
        (Cl Tryz.prog W0 M H1 nK 62 #[Value.agg #[vi x18, vi x19, vi x20, vsl x21 x22 x23]] fun z W5 W6 => ∃ (x24 x25 x26 : Int) (x27 : Option Loc) (x28 x29 : Nat), z = .returned (Value.agg #[vi x24, vi x25, vi x26, vsl x27 x28 x29]) ∧ Fr W5 W6 H1 fun H2 =>
        (∀ b1 : Nat,
        (Es W0 M H2 (fun W => Kn W0 M H2 W b1 (Obj.cells #[vi x24, vi x25, vi x26, vsl x27 x28 x29] 75 (0, 0)) ∧ True) fun W7 => ∃ (x30 : Option Loc) (x31 x32 : Nat), Eo Tryz.prog (.bi .append #[23, 23] 23) [vsl x13 x14 x15, Value.slice (some ⟨b1, 0, none⟩) 1 1] W7 (.value (vsl x30 x31 x32)) fun W8 => Tn W0 M H2 W7 W8 fun H3 =>
        (inKind .i64 ((x11 : Int) + 1) ∧ (inKind .i64 ((x11 : Int) + 1) →
        (0 ≤ ((x11 : Int) + 1) ∧ (0 ≤ ((x11 : Int) + 1) →
        (0 ≤ (x31 : Int) ∧ (0 ≤ (x31 : Int) →
        (0 ≤ (x32 : Int) ∧ (0 ≤ (x32 : Int) →
        (I0 [.n (((x11 : Int) + 1) : Int).toNat, .b (x12), .p (x30.map fun a => a.shift 0), .n x31, .n x32] H3 ∧ μ0 [.n (((x11 : Int) + 1) : Int).toNat, .b (x12), .p (x30.map fun a => a.shift 0), .n x31, .n x32] < μ0 [.n x11, .b (x12), .p (x13.map fun a => a.shift 0), .n x14, .n x15])))))))))))))))))))))))))) ∧
    (¬ ((x11 : Int) < (x1 : Int)) →
     ((x12 = true →
      (0 ≤ (x14 : Int) ∧ (0 ≤ (x14 : Int) →
      ((3 < (x14 : Int) →
       Rt R W0 M H1 nK (Value.tuple #[Value.slice none 0 0, vi 2])) ∧
      (¬ (3 < (x14 : Int)) →
       Rt R W0 M H1 nK (Value.tuple #[vsl x13 x14 x15, vi 0])))))) ∧
     (¬ (x12 = true) →
      (Cl Tryz.prog W0 M H1 nK 62 #[Value.agg #[vi x3, vi x4, vi x5, vsl x6 x7 x8]] fun z W5 W6 => ∃ (x16 x17 x18 : Int) (x19 : Option Loc) (x20 x21 : Nat), z = .returned (Value.agg #[vi x16, vi x17, vi x18, vsl x19 x20 x21]) ∧ Fr W5 W6 H1 fun H2 =>
      (∀ b1 : Nat,
      (Es W0 M H2 (fun W => Kn W0 M H2 W b1 (Obj.cells #[vi x16, vi x17, vi x18, vsl x19 x20 x21] 75 (0, 0)) ∧ True) fun W7 => ∃ (x22 : Option Loc) (x23 x24 : Nat), Eo Tryz.prog (.bi .append #[23, 23] 23) [vsl x13 x14 x15, Value.slice (some ⟨b1, 0, none⟩) 1 1] W7 (.value (vsl x22 x23 x24)) fun W8 => Tn W0 M H2 W7 W8 fun H3 =>
      (0 ≤ (x23 : Int) ∧ (0 ≤ (x23 : Int) →
      ((3 < (x23 : Int) →
       Rt R W0 M H3 nK (Value.tuple #[Value.slice none 0 0, vi 2])) ∧
      (¬ (3 < (x23 : Int)) →
       Rt R W0 M H3 nK (Value.tuple #[vsl x22 x23 x24, vi 0])))))))))))))))) ∧
  (¬ (x10 = 0) →
   Rt R W0 M H0 nK (Value.tuple #[Value.slice none 0 0, vi x10]))))) ∧
 (¬ (x9 = 0) →
  Rt R W0 M H0 nK (Value.tuple #[Value.slice none 0 0, vi x9])))))) :
  Calls Tryz.prog 71 #[vsl x0 x1 x2, Value.agg #[vi x3, vi x4, vi x5, vsl x6 x7 x8]] W0 R :=
  calls_sxA (M := M) (V := v_putOf) (hi := {loops := [(10, .inv [(10, .nat), (9, .pt .bool), (8, .pt .sl)] [])]}) (args := [vS 0, .agg [vI 3, vI 4, vI 5, vS 6]]) (nv := 9) (e := (upd (upd (upd (upd (upd (upd (upd (upd (upd (fun _ => .i 0) 0 (.p x0)) 1 (.n x1)) 2 (.n x2)) 3 (.i x3)) 4 (.i x4)) 5 (.i x5)) 6 (.p x6)) 7 (.n x7)) 8 (.n x8))) Tryz.func71 hH h (by kernel_rfl) (by kernel_rfl) (by kernel_rfl)
def v_choose : VC :=
(.ite (.lt (.v 0) (.k 0))
(.chk (.rng .i64 (.add (.v 0) (.k 1)))
(.chk (.rng .i64 (.sub (.k 0) (.add (.v 0) (.k 1))))
(.esc (.bop .rem 3 (.tmp 10) (.tmp 11)) [.int .i64 (.sub (.k 0) (.add (.v 0) (.k 1))), vI 1] [] [(2, .i)] (some (vI 2)) .same
(.ret (vI 2) []))))
(.esc (.bop .rem 3 (.tmp 10) (.tmp 11)) [vI 0, vI 1] [] [(2, .i)] (some (vI 2)) .same
(.ret (vI 2) [])))
theorem x_choose (x0 x1 : Int) (M : Nat → Prop) (H0 : Hp) (W0 : World) (R : Ending → World → Prop) (hH : H0.le (hpOf W0)) (h :
 ((x0 < 0 →
  (inKind .i64 (x0 + 1) ∧ (inKind .i64 (x0 + 1) →
  (inKind .i64 (0 - (x0 + 1)) ∧ (inKind .i64 (0 - (x0 + 1)) →
  (Es W0 M H0 nK fun W1 => ∃ x2 : Int, Eo Tryz.prog (.bop .rem 3 (.tmp 10) (.tmp 11)) [vi (0 - (x0 + 1)), vi x1] W1 (.value (vi x2)) fun W2 => Ext W1 W2 ∧
  Rt R W0 M H0 nK (vi x2))))))) ∧
 (¬ (x0 < 0) →
  (Es W0 M H0 nK fun W1 => ∃ x2 : Int, Eo Tryz.prog (.bop .rem 3 (.tmp 10) (.tmp 11)) [vi x0, vi x1] W1 (.value (vi x2)) fun W2 => Ext W1 W2 ∧
  Rt R W0 M H0 nK (vi x2))))) :
  Calls Tryz.prog 7 #[vi x0, vi x1] W0 R :=
  calls_sxA (M := M) (V := v_choose) (hi := {}) (args := [vI 0, vI 1]) (nv := 2) (e := (upd (upd (fun _ => .i 0) 0 (.i x0)) 1 (.i x1))) Tryz.func7 hH h (by kernel_rfl) (by kernel_rfl) (by kernel_rfl)
end Go.Proofs.YtfpmcmhihhnfgaaGreat
namespace Go.Proofs.YtfpmcmhihhnfgaaGreat
open Go.RowKit

theorem c_delete {H : Hp} {p : Option Loc} {n c : Nat} {rows : List (List Value)} {g : Option Nat} (ho : Ow H 75 4 p n c rows g) {i j : Nat} (hij : i ≤ j) (hj : j ≤ n) (hb : n ≤ 1099511627776) :
    Gt Tryz.prog 88 #[vsl p n c, vi i, vi j] H g fun v H' g' => ∃ p' n' c', v = vsl p' n' c' ∧ Ow H' 75 4 p' n' c' (rows.take i ++ rows.drop j) g' := fun W hH => by
  have hn := ho.1
  have hc := ho.2.2.1
  have h63 := ho.2.2.2.1
  obtain ⟨ti, z, i1, i2, i3, i4, i5, i6⟩ := info_of infoSes
  refine x_delS p n c i j (fun b => g = some b) H W _ hH ⟨by omega, fun _ => ?_⟩
  intro W1 n1 _
  obtain ⟨q, hq⟩ := ek_slice3 (P := Tryz.prog) Tryz.underlying23 i1 i3 p n c i j n hij hj hc W1
  refine ⟨q, _, _, W1, hq, Ext.refl _, noH, noH_le _, fun b o h => (by cases h), fun H1 h01 _ => ?_⟩
  have ho1 : Ow H1 75 4 p n c rows g := ho.mono fun b _ o h => h01 b o h
  refine ⟨fun h => ?_, fun hne => ⟨by omega, fun _ => ⟨by omega, fun _ => ⟨by omega, fun _ => ⟨by omega, fun _ => ⟨by omega, fun _ => ?_⟩⟩⟩⟩⟩⟩
  · have : i = j := by omega
    subst this
    refine Rt.gt hH ho.held g (.inl rfl) ⟨p, n, c, rfl, ?_⟩
    rw [List.take_append_drop]
    exact ho1.merge (.inl rfl)
  · intro W3 n3 _
    have hrd : Rows H1 (tailP p c j 4) (n - j) 4 (rows.drop j) := ho1.rows.tail hj hc
    obtain ⟨p', c', g', W', H', h2, h3, h4, h5, h6⟩ := run_append_rows (P := Tryz.prog) Tryz.underlying23 i1 i2 i3 i4 i5 (by omega) n3.sub (ho1.take i (by omega)) hrd (fun r hr v hv => (ho.2.1 r (List.mem_of_mem_drop hr)).2 v hv) (by simp only [maxLen] at *; omega) (by omega) 23 (c2 := c - j)
    obtain ⟨rfl, rfl, rfl⟩ := h6 (by omega)
    rw [slice_tail]
    refine ⟨p', i + (n - j), c', W', h2, H', h3.own (ho1.take i (by omega)) (fun b hb => .inr hb), by omega, fun _ => ⟨by omega, fun _ => ⟨by omega, fun _ => ?_⟩⟩⟩
    intro W5 n5 _
    obtain ⟨W6, H3, h7, h8, h9⟩ := ek_clear (P := Tryz.prog) Tryz.underlying23 i1 i2 i5 i6 n5.sub h4 (m := n - (i + (n - j))) (dc := c' - (i + (n - j))) (by omega) (off := 0 + (if (c' : Int) = ((i + (n - j) : Nat) : Int) then 0 else ((i + (n - j) : Nat) : Int) * ((4 : Nat) : Int))) (fun h => by rw [if_neg (by omega)]; omega) 0
    have e1 : (((n : Int) - ((i + (n - j) : Nat) : Int)) : Int).toNat = n - (i + (n - j)) := by omega
    have e2 : (((c' : Int) - ((i + (n - j) : Nat) : Int)) : Int).toNat = c' - (i + (n - j)) := by omega
    rw [e1, e2]
    exact ⟨W6, h7, H3, h8.own h4 (fun b hb => .inr hb), Rt.gt hH ho.held g' (.inl rfl) ⟨p', _, c', rfl, h9.merge (.inl rfl)⟩⟩
theorem ek_overlaps {W : World} {a b o la ca : Nat} {R C : Array Value} {T T' : Nat} (hne : a ≠ b) (ha : W.heap[a]? = some (.cells R T (0, 0))) (hb : W.heap[b]? = some (.cells C T' (0, 0))) (hC : C.size ≠ 0) :
    (EK.sem (.ext 103) [vsl (some (a, 0)) 1 1, vsl (some (b, o)) la ca]).run Tryz.prog W = .ok (.value (vb false)) W := by
  show (callFunc 103 #[vsl (some (a, 0)) 1 1, vsl (some (b, o)) la ca]).run Tryz.prog W = _
  have hsz : ∀ w, (Go.sizeOf 75).run Tryz.prog w = .ok 4 w := fun w => by
    obtain ⟨ti, z, i1, i2, i3, _⟩ := info_of infoSes
    exact run_sizeOf i1 i3 w
  rw [run_callFunc_extern Tryz.func103 (by kernel_rfl) (by kernel_rfl) (by kernel_rfl) (e := Extern.SlicesOverlaps.overlaps #[23, 23] #[4]) (by kernel_rfl)]
  have := Lib.run_overlaps_apart W 23 4 75 Tryz.underlying23 4 hsz ⟨a, 0, none⟩ ⟨b, o, none⟩ 1 1 la ca hne T T' R.size C.size (by simp [World.shape?, ha]) (by simp [World.shape?, hb]) hC (by simp [World.frozen?, ha]) (by simp [World.frozen?, ha])
  have e1 : vsl (some (a, 0)) 1 1 = .slice (some ⟨a, 0, none⟩) 1 1 := rfl
  have e2 : vsl (some (b, o)) la ca = .slice (some ⟨b, o, none⟩) la ca := rfl
  rw [e1, e2, this]
  rfl
theorem c_insert {H : Hp} {p : Option Loc} {n c : Nat} {rows : List (List Value)} {g : Option Nat} (ho : Ow H 75 4 p n c rows g) {i : Nat} (hi : i ≤ n) {vb : Nat} {row : List Value} (hv : H vb = some (.cells row.toArray 75 (0, 0))) (hl : row.length = 4) (h1 : ∀ v ∈ row, v.oneCell' = true) (hne : g ≠ some vb) (hb : n ≤ 1099511627776) :
    Gt Tryz.prog 95 #[vsl p n c, vi i, vsl (some (vb, 0)) 1 1] H g fun v H' g' => ∃ p' n' c', v = vsl p' n' c' ∧ Ow H' 75 4 p' n' c' (rows.take i ++ row :: rows.drop i) g' := fun W hH => by
  have hn := ho.1
  have hc := ho.2.2.1
  have h63 := ho.2.2.2.1
  have hmx : maxLen = 9223372036854775807 := rfl
  obtain ⟨ti, z, i1, i2, i3, i4, i5, i6⟩ := info_of infoSes
  have hone : ∀ r ∈ rows, ∀ v ∈ r, v.oneCell' = true := fun r hr => (ho.2.1 r hr).2
  have hrow1 : ∀ K : Hp, K vb = some (.cells row.toArray 75 (0, 0)) → Rows K (some (vb, 0)) 1 4 [row] := fun K hK => Rows.block hK rfl (fun r hr => by simp only [List.mem_singleton] at hr; subst hr; exact hl) (by simp [← hl])
  have hone1 : ∀ r ∈ [row], ∀ v ∈ r, v.oneCell' = true := fun r hr => by simp only [List.mem_singleton] at hr; subst hr; exact h1
  refine x_insS p n c i (some (vb, 0)) 1 1 (fun b => g = some b) H W _ hH ⟨by omega, fun _ => ⟨by omega, fun _ => ⟨by omega, fun _ => ⟨by omega, fun _ => ⟨fun h => absurd h (by omega), fun _ => ⟨by omega, fun _ => ⟨fun hin => ?_, fun hin => ⟨in64 (by omega), fun _ => ?_⟩⟩⟩⟩⟩⟩⟩⟩
  · -- behind all
    have hin' : i = n := by omega
    intro W1 n1 _
    obtain ⟨p', c', g', W', H', h2, h3, h4, h5, h6⟩ := run_append_rows (P := Tryz.prog) Tryz.underlying23 i1 i2 i3 i4 i5 (by omega) n1.sub ho (hrow1 H hv) hone1 (by omega) (by omega) 23 (c2 := 1)
    refine ⟨p', n + 1, c', W', h2, H', h3.own ho (fun b hb => .inr hb), Rt.gt hH ho.held g' ?_ ⟨p', n + 1, c', rfl, ?_⟩⟩
    · exact h5.imp id (fun h b hb => by rw [h] at hb; simp only [Option.some.injEq] at hb; rw [← hb]; exact n1.mod.size)
    · rw [hin', List.take_of_length_le (by omega), List.drop_of_length_le (by omega)]
      exact h4.merge (h5.imp id (fun h b hb => by rw [h] at hb; simp only [Option.some.injEq] at hb; rw [← hb]; exact n1.mod.size))
  · intro W1 n1 _
    refine ⟨c, W1, ek_cap (P := Tryz.prog) Tryz.underlying23 _ p n c W1, Ext.refl _, fun hcap => ⟨by omega, fun _ => ⟨in64 (by omega), fun _ => ?_⟩⟩, fun hcap => ⟨by omega, fun _ => ⟨by omega, fun _ => ⟨in64 (by omega), fun _ => ⟨by omega, fun _ => ⟨by omega, fun _ => ?_⟩⟩⟩⟩⟩⟩
    · -- a new array
      intro W3 n3 _
      have ek : ((n : Int) + ((1 : Nat) : Int) - (i : Int)) = ((n + 1 - i : Nat) : Int) := by omega
      rw [ek]
      obtain ⟨c', zr, W4, H1, h2, h3, h4, h5⟩ := ek_zeros (P := Tryz.prog) (tn := 3) (kq := .i64) Tryz.underlying23 Tryz.underlying3 infoSes (by omega) n3.sub (ho.take i hi) (k := n + 1 - i) (by omega) (by omega) (by omega) (by omega) 23
      have eit : ((i : Int)).toNat = i := by omega
      rw [eit]
      refine ⟨some (W3.heap.size, 0), i + (n + 1 - i), c', W4, h2, H1, h3.turned (fun b hb => ⟨ho.held b hb, .inr hb⟩), by omega, fun _ => ⟨by have := h5.2.2.1; omega, fun _ => ?_⟩⟩
      have hnew : W.heap.size ≤ W3.heap.size := n3.mod.size
      have hln : i + (n + 1 - i) = n + 1 := by omega
      rw [hln] at h5 ⊢
      have hc'n := h5.2.2.1
      have hlr1 := h5.1
      intro W5 n5 _
      rw [slice_tail]
      have et : tailP (some (W3.heap.size, 0)) c' i 4 = shiftP (some (W3.heap.size, 0)) (i * 4) := by unfold tailP; rw [if_neg (by omega)]
      obtain ⟨W6, H2, h7, h8, h9⟩ := ek_copy (P := Tryz.prog) Tryz.underlying23 i1 i3 (by omega) n5.sub h5 (hrow1 H1 (h4 _ _ hv)) hone1 (m := 1) (sl := 1) (c2 := 1) (dl := n + 1 - i) (dc := c' - i) (k := i) (by omega) (by simp [Nat.min_def]; omega) (by omega) (off := ((i * 4 : Nat) : Int)) rfl 3
      have ev1 : vsl (tailP (some (W3.heap.size, 0)) c' i 4) (n + 1 - i) (c' - i) = .slice (ptrAt (some (W3.heap.size, 0)) ((i * 4 : Nat) : Int)) (n + 1 - i) (c' - i) := by rw [et, ptrAt_shift, Int.toNat_natCast]
      rw [ev1]
      refine ⟨1, W6, h7, H2, h8.turned (fun b hb => ⟨h5.held b hb, .inl (by simp only [Option.some.injEq] at hb; rw [← hb]; exact hnew)⟩), in64 (by omega), fun _ => ⟨by omega, fun _ => ⟨by omega, fun _ => ?_⟩⟩⟩
      intro W7 n7 _
      have e11 : ((i : Int) + ((1 : Nat) : Int)) = ((i + 1 : Nat) : Int) := by omega
      rw [e11, slice_tail, slice_tail]
      have et2 : tailP (some (W3.heap.size, 0)) c' (i + 1) 4 = shiftP (some (W3.heap.size, 0)) ((i + 1) * 4) := by unfold tailP; rw [if_neg (by omega)]
      have ev2 : vsl (tailP (some (W3.heap.size, 0)) c' (i + 1) 4) (n + 1 - (i + 1)) (c' - (i + 1)) = .slice (ptrAt (some (W3.heap.size, 0)) (((i + 1) * 4 : Nat) : Int)) (n + 1 - (i + 1)) (c' - (i + 1)) := by rw [et2, ptrAt_shift, Int.toNat_natCast]
      -- what was there is still read
      have hgs : ∀ b, some W3.heap.size = some b → H b = none := fun b hb => by simp only [Option.some.injEq] at hb; rw [← hb]; exact old_none hH hnew
      have hH2 : H.le H2 := h8.keep n5.sub h4 hgs
      have hsrc : Rows H2 (tailP p c i 4) (n - i) 4 (rows.drop i) := (ho.rows.tail hi hc).mono hH2
      obtain ⟨W8, H3, ha, hb', hc'⟩ := ek_copy (P := Tryz.prog) Tryz.underlying23 i1 i3 (by omega) n7.sub h9 hsrc (fun r hr => hone r (List.mem_of_mem_drop hr)) (m := n - i) (sl := n - i) (c2 := c - i) (dl := n + 1 - (i + 1)) (dc := c' - (i + 1)) (k := i + 1) (by omega) (by simp) (by omega) (off := (((i + 1) * 4 : Nat) : Int)) rfl 3
      rw [ev2]
      refine ⟨_, W8, ha, H3, hb'.turned (fun b hb => ⟨h9.held b hb, .inl (by simp only [Option.some.injEq] at hb; rw [← hb]; exact hnew)⟩), Rt.gt hH ho.held (some W3.heap.size) (.inr (fun b hb => by simp only [Option.some.injEq] at hb; rw [← hb]; exact hnew)) ⟨_, n + 1, c', rfl, ?_⟩⟩
      have hfin := hc'.merge (g := g) (W0 := W) (H := H) (.inr (fun b hb => by simp only [Option.some.injEq] at hb; rw [← hb]; exact hnew))
      have heq : ∀ A : List (List Value), A.length = n + 1 → A.take i = rows.take i → (A.take i ++ [row] ++ A.drop (i + 1)).take (i + 1) ++ rows.drop i ++ (A.take i ++ [row] ++ A.drop (i + 1)).drop (i + 1 + (n - i)) = rows.take i ++ row :: rows.drop i := fun A hA hA2 => by
        have t1 : (A.take i ++ [row]).length = i + 1 := by simp; omega
        have t2 : (A.take i ++ [row] ++ A.drop (i + 1)).take (i + 1) = A.take i ++ [row] := by rw [← t1, List.take_left]
        have t3 : (A.take i ++ [row] ++ A.drop (i + 1)).drop (i + 1 + (n - i)) = [] := List.drop_of_length_le (by simp only [List.length_append, List.length_drop, t1]; omega)
        rw [t2, t3, hA2]
        simp
      rw [heq _ (by simp; omega) (by rw [List.take_append_of_le_length (by simp; omega), List.take_take, Nat.min_self])] at hfin
      exact hfin
    · -- in place
      intro W3 n3 _
      have hcn : n + 1 ≤ c := by omega
      obtain ⟨q1, q2, q3, q4, q5⟩ := id ho
      rcases q5 with ⟨rfl, _⟩ | ⟨b, C, rfl, rfl, q6, q7, q8⟩
      · omega
      have ebn : ((n : Int) + ((1 : Nat) : Int)) = ((n + 1 : Nat) : Int) := by omega
      have ei1 : ((i : Int) + ((1 : Nat) : Int)) = ((i + 1 : Nat) : Int) := by omega
      rw [ebn, ei1, slice_tail, slice_tail, slice_tail]
      have et : ∀ k, k < c → ∀ a d, vsl (tailP (some (b, 0)) c k 4) a d = .slice (ptrAt (some (b, 0)) ((k * 4 : Nat) : Int)) a d := fun k hk a d => by unfold tailP; rw [if_neg (by omega), ptrAt_shift, Int.toNat_natCast]
      have hbv : vb ≠ b := fun h => hne (by rw [h])
      have ep : tailP (some (b, 0)) c (i + 1) 4 = some ((b : Blk), (if c = i + 1 then 0 else (i + 1) * 4)) := by
        unfold tailP shiftP
        split
        · rfl
        · simp [shift_at]
      refine ⟨false, W3, by rw [ep]; exact ek_overlaps hbv (n3.sub _ _ hv) (n3.sub _ _ q6) (by omega), Ext.refl _, fun h => (by cases h), fun _ => ⟨by omega, fun _ => ?_⟩⟩
      intro W5 n5 _
      have hsrc : Rows H (tailP (some (b, 0)) c i 4) (n - i) 4 (rows.drop i) := ho.rows.tail hi hc
      rw [et (i + 1) (by omega)]
      obtain ⟨W6, H2, h7, h8, h9⟩ := ek_copyX (P := Tryz.prog) Tryz.underlying23 i1 i3 (by omega) n5.sub ho hsrc (fun r hr => hone r (List.mem_of_mem_drop hr)) (m := n - i) (sl := n + 1 - i) (c2 := c - i) (dl := n + 1 - (i + 1)) (dc := c - (i + 1)) (k := i + 1) (by omega) (by simp [Nat.min_def]; omega) (by omega) (by omega) (by omega) (off := (((i + 1) * 4 : Nat) : Int)) rfl 3
      refine ⟨_, W6, h7, H2, h8.own ho (fun b hb => .inr hb), ?_⟩
      intro W7 n7 _
      rw [et i (by omega)]
      have hv2 : H2 vb = some (.cells row.toArray 75 (0, 0)) := by
        rw [h8.same vb (heap_lt (n5.sub _ _ hv)) (fun h => hbv (by simpa using h.symm))]
        exact hv
      rw [show i + 1 + (n - i) = n + 1 by omega] at h9
      obtain ⟨W8, H3, ha, hb', hc'⟩ := ek_copy (P := Tryz.prog) Tryz.underlying23 i1 i3 (by omega) n7.sub h9 (hrow1 H2 hv2) hone1 (m := 1) (sl := 1) (c2 := 1) (dl := n + 1 - i) (dc := c - i) (k := i) (by omega) (by simp [Nat.min_def]; omega) (by omega) (off := ((i * 4 : Nat) : Int)) rfl 3
      have en : (((n + 1 : Nat) : Int)).toNat = n + 1 := by omega
      rw [en]
      refine ⟨_, W8, ha, H3, hb'.own h9 (fun b hb => .inr hb), Rt.gt hH ho.held _ (.inl rfl) ⟨_, n + 1, c, rfl, ?_⟩⟩
      have hfin := hc'.merge (g := some b) (W0 := W) (H := H) (.inl rfl)
      have heq : (rows.take (i + 1) ++ rows.drop i).take i ++ [row] ++ (rows.take (i + 1) ++ rows.drop i).drop (i + 1) = rows.take i ++ row :: rows.drop i := by
        have t1 : (rows.take (i + 1)).length = i + 1 := by simp; omega
        rw [List.take_append_of_le_length (by omega), List.take_take, Nat.min_eq_left (by omega), List.drop_append, List.drop_of_length_le (by omega), t1, Nat.sub_self]
        simp
      rw [heq] at hfin
      exact hfin
end Go.Proofs.YtfpmcmhihhnfgaaGreat
namespace Go.Proofs.YtfpmcmhihhnfgaaGreat
open Go.RowKit

theorem c_left1 {H : Hp} {q : Option Loc} {clock : Int} (hq : RowAt H q 0 [vi clock]) (h20 : -4611686018427387904 ≤ clock ∧ clock ≤ 4611686018427387904) (a b x : Int) (p : Option Loc) (n c : Nat) :
    Gv Tryz.prog 92 #[.agg #[vi a, vi b, vi x, vsl p n c], .pointer (ptrAt q 0)] H (vb (decide (x < clock - 20))) := fun W hH =>
  x_left1 a b x p n c q noM H W _ hH fun _ => ⟨clock, hq, in64 (by omega), fun _ => Rt.gv⟩
/-- the first for which f says yes; -1: none -/
def ixP (f : Ses → Bool) : Nat → List Ses → Int
  | _, [] => -1
  | k, s :: t => if f s = true then k else ixP f (k + 1) t
def old (clock : Int) (s : Ses) : Bool := decide (s.seen < clock - 20)
theorem ixP_spec (f : Ses → Bool) : ∀ (l : List Ses) (k : Nat), (ixP f k l = -1 ∧ ∀ s ∈ l, f s = false) ∨ ∃ j s, ixP f k l = ((k + j : Nat) : Int) ∧ l[j]? = some s ∧ f s = true ∧ ∀ t ∈ l.take j, f t = false
  | [], k => .inl ⟨rfl, fun s hs => by simp at hs⟩
  | s :: t, k => by
    unfold ixP
    split
    · rename_i h
      exact .inr ⟨0, s, by simp, by simp, h, fun t ht => by simp at ht⟩
    · rename_i h
      rcases ixP_spec f t (k + 1) with ⟨h1, h2⟩ | ⟨j, u, h1, h2, h3, h4⟩
      · refine .inl ⟨h1, fun x hx => ?_⟩
        rcases List.mem_cons.1 hx with rfl | hx
        · simpa using h
        · exact h2 x hx
      · refine .inr ⟨j + 1, u, by rw [h1]; congr 1; omega, by simpa using h2, h3, fun x hx => ?_⟩
        rw [List.take_succ_cons] at hx
        rcases List.mem_cons.1 hx with rfl | hx
        · simpa using h
        · exact h4 x hx
/-- rows of a table, as far as they are looked at -/
def Shaped (R : List Value → Ses → Prop) : Prop := ∀ (row : List Value) (s : Ses), R row s → ∃ p n c, row = [vi s.client, vi s.acked, vi s.seen, vsl p n c]
theorem SesRow.shaped (H : Hp) : Shaped (SesRow H) := fun _ _ ⟨p, n, c, h, _⟩ => ⟨p, n, c, h⟩
theorem c_indexL {H : Hp} {q : Option Loc} {clock : Int} (hq : RowAt H q 0 [vi clock]) (h20 : -4611686018427387904 ≤ clock ∧ clock ≤ 4611686018427387904) {p : Option Loc} {n c : Nat} {rows : List (List Value)} {l : List Ses} {R : List Value → Ses → Prop} (hR : Shaped R) (hr : Rows H p n 4 rows) (ha : All2 R rows l) (hb : n ≤ 1099511627776) :
    Gv Tryz.prog 77 #[vsl p n c, .func (.func 92) #[] #[.pointer (ptrAt q 0)]] H (vi (ixP (old clock) 0 l)) := fun W hH => by
  have hn : n = l.length := by rw [hr.len, ha.length]
  refine x_indexL p n c q noM H W _ hH ⟨by omega, fun _ => ⟨fun v K => match v with | [.i k] => ∃ j : Nat, k = j ∧ j ≤ n ∧ H.le K ∧ ixP (old clock) j (l.drop j) = ixP (old clock) 0 l | _ => False, fun v => match v with | [.i k] => n - k.toNat | _ => 0, ⟨0, rfl, by omega, Hp.le_refl H, by simp⟩, fun K k hI => ?_⟩⟩
  obtain ⟨j, rfl, hj, hle, hf⟩ := hI
  refine ⟨fun hlt => ⟨⟨by omega, hlt⟩, fun _ => ?_⟩, fun hge => Rt.gv' ?_⟩
  · obtain ⟨row, hrow, _, hat⟩ := (hr.mono hle).at (k := j) (by omega) (off := 0 + (j : Int) * 4) (by omega)
    obtain ⟨s, hs, hrs⟩ := ha.get hrow
    obtain ⟨p', m, d, rfl⟩ := hR _ _ hrs
    rw [drop_cons hs, ixP] at hf
    refine ⟨hat.isSome, fun _ => ⟨_, _, _, p', m, d, hat, ?_⟩⟩
    refine Cl.same (c_left1 (hq.mono hle) h20 _ _ _ p' m d) fun _ _ hx => ⟨_, rfl, hx, fun h => Rt.gv' ?_, fun h => ⟨in64 (by omega), fun _ => ⟨⟨j + 1, by omega, by omega, hle, ?_⟩, by simp only; omega⟩⟩⟩
    · have h' : old clock s = true := h
      rw [← hf, if_pos h']
    · have h' : ¬ old clock s = true := h
      rw [← hf, if_neg h']
  · rw [← hf, List.drop_of_length_le (by omega)]; rfl
theorem filter_take {α : Type} (f : α → Bool) {l : List α} {j : Nat} {s : α} (hs : l[j]? = some s) : (l.take (j + 1)).filter f = (l.take j).filter f ++ (if f s = true then [s] else []) := by
  obtain ⟨h1, h2⟩ := List.getElem?_eq_some_iff.1 hs
  rw [List.take_succ_eq_append_getElem h1, h2, List.filter_append]
  congr 1
  simp only [List.filter]
  split <;> simp_all
/-- memory but for block g -/
def but (g : Option Nat) (H : Hp) : Hp := fun b => if g = some b then none else H b
theorem but_le (g : Option Nat) (H : Hp) : (but g H).le H := fun b o h => by
  unfold but at h
  split at h
  · cases h
  · exact h
theorem but_g (H : Hp) {g : Option Nat} : ∀ b, g = some b → but g H b = none := fun b h => by unfold but; rw [if_pos h]
set_option maxHeartbeats 1000000 in
theorem c_delF {H : Hp} {q : Option Loc} {clock : Int} {g : Option Nat} (hq : RowAt (but g H) q 0 [vi clock]) (h20 : -4611686018427387904 ≤ clock ∧ clock ≤ 4611686018427387904) {p : Option Loc} {n c : Nat} {rows : List (List Value)} {l : List Ses} {R : List Value → Ses → Prop} (hR : Shaped R) (ho : Ow H 75 4 p n c rows g) (ha : All2 R rows l) (hb : n ≤ 1099511627776) :
    Gt Tryz.prog 91 #[vsl p n c, .func (.func 92) #[] #[.pointer (ptrAt q 0)]] H g fun v H' g' => ∃ n' rows', v = vsl p n' c ∧ Ow H' 75 4 p n' c rows' g' ∧ All2 R rows' (l.filter fun s => !old clock s) := fun W hH => by
  have hn : n = l.length := by rw [ho.1, ha.length]
  have hc := ho.2.2.1
  obtain ⟨ti, z, i1, i2, i3, i4, i5, i6⟩ := info_of infoSes
  refine x_delF p n c q (fun b => g = some b) H W _ hH ?_
  refine Cl.same (c_indexL (hq.mono (but_le g H)) h20 hR ho.rows ha hb) fun _ _ hx => ⟨_, rfl, hx, ?_⟩
  rcases ixP_spec (old clock) l 0 with ⟨h1, h2⟩ | ⟨j0, s0, h1, h2, h3, h4⟩
  · rw [h1]
    refine ⟨fun _ => Rt.gt hH ho.held g (.inl rfl) ⟨n, rows, rfl, ho.merge (.inl rfl), ?_⟩, fun h => absurd rfl h⟩
    rw [List.filter_eq_self.2 (fun s hs => by rw [h2 s hs]; rfl)]
    exact ha
  · rw [h1, Nat.zero_add]
    have hj0 : j0 < l.length := (List.getElem?_eq_some_iff.1 h2).1
    refine ⟨fun h => absurd h (by omega), fun _ => ⟨in64 (by omega), fun _ => ?_⟩⟩
    refine ⟨fun v K => match v with | [.i x, .i y] => ∃ j i : Nat, x = j ∧ y = i ∧ i < j ∧ j ≤ n ∧ (but g H).le K ∧ ∃ rows', Ow K 75 4 p n c rows' g ∧ rows'.drop j = rows.drop j ∧ All2 R (rows'.take i) ((l.take j).filter fun s => !old clock s) | _ => False,
      fun v => match v with | [.i x, _] => n - x.toNat | _ => 0, ⟨j0 + 1, j0, by omega, rfl, by omega, by omega, but_le g H, rows, ho, rfl, ?_⟩, fun K x y hI => ?_⟩
    · rw [filter_take _ h2, h3, List.filter_eq_self.2 (fun s hs => by rw [h4 s hs]; rfl)]
      simp only [Bool.not_true, Bool.false_eq_true, if_false, List.append_nil]
      exact ha.take j0
    obtain ⟨j, i, rfl, rfl, hij, hj, hle, rows', ho', hd, ha'⟩ := hI
    have hn' := ho'.1
    refine ⟨by omega, fun _ => ⟨fun hlt => ⟨⟨by omega, hlt⟩, fun _ => ?_⟩, fun hge => ⟨by omega, fun _ => ⟨by omega, fun _ => ⟨by omega, fun _ => ?_⟩⟩⟩⟩⟩
    · have hjr : j < rows.length := by rw [← ho.1]; omega
      have hrj' : rows'[j]? = some rows[j] := by
        have h5 : (rows'.drop j)[0]? = (rows.drop j)[0]? := by rw [hd]
        rw [List.getElem?_drop, List.getElem?_drop] at h5
        simpa [List.getElem?_eq_getElem hjr] using h5
      obtain ⟨s, hs, hrs⟩ := ha.get (List.getElem?_eq_getElem hjr)
      obtain ⟨p', m, d, hrow⟩ := hR _ _ hrs
      obtain ⟨r', hr', _, hat⟩ := ho'.rows.at (k := j) (by omega) (off := 0 + (j : Int) * 4) (by omega)
      rw [hrj'] at hr'
      simp only [Option.some.injEq] at hr'
      subst hr'
      rw [hrow] at hat hrs hrj'
      have hdn : rows'.drop (j + 1) = rows.drop (j + 1) := by
        have e1 : rows'.drop (j + 1) = (rows'.drop j).drop 1 := by rw [List.drop_drop]
        rw [e1, hd, List.drop_drop]
      refine ⟨hat.isSome, fun _ => ⟨_, _, _, p', m, d, hat, fun b0 => ?_⟩⟩
      refine Cl.same (c_left1 (hq.mono hle) h20 _ _ _ p' m d) fun _ _ hx2 => ⟨_, rfl, hx2, fun h => ⟨in64 (by omega), fun _ => ⟨⟨j + 1, i, by omega, rfl, by omega, by omega, hle, rows', ho', hdn, ?_⟩, by simp only; omega⟩⟩, fun h => ⟨⟨by omega, by omega⟩, fun _ => ?_⟩⟩
      · have : old clock s = true := h
        rw [filter_take _ hs, this]
        simpa using ha'
      · intro W5 n5 _
        have hir : i < rows'.length := by rw [← hn']; omega
        obtain ⟨W6, H2, hrun, hu, ho2⟩ := ek_store (P := Tryz.prog) (t := 75) i1 n5.sub ho' (i := i) (j := 0) (vs := [vi s.client, vi s.acked, vi s.seen, vsl p' m d]) (v := .agg #[vi s.client, vi s.acked, vi s.seen, vsl p' m d]) (List.getElem?_eq_getElem hir) rfl i3 (by simp) (by simp)
          (fun u hu => by
            simp only [List.mem_cons, List.not_mem_nil, or_false] at hu
            rcases hu with rfl | rfl | rfl | rfl <;> rfl) (off := 0 + (i : Int) * 4) (by omega)
        have hseg : segRow rows'[i] 0 [vi s.client, vi s.acked, vi s.seen, vsl p' m d] = [vi s.client, vi s.acked, vi s.seen, vsl p' m d] := by
          have := (ho'.2.1 _ (List.getElem_mem hir)).1
          unfold segRow
          rw [List.drop_of_length_le (by simp; omega)]
          simp
        rw [hseg] at ho2
        refine ⟨W6, hrun, H2, hu.own ho' (fun b hb => .inr hb), in64 (by omega), fun _ => ⟨in64 (by omega), fun _ => ⟨⟨j + 1, i + 1, by omega, by omega, by omega, by omega, hu.keep n5.sub hle (but_g H), _, ho2, ?_, ?_⟩, by simp only; omega⟩⟩⟩
        · rw [List.drop_set_of_lt (by omega)]; exact hdn
        · have : old clock s = false := by simpa [old] using h
          rw [filter_take _ hs, this]
          have e2 : (rows'.set i [vi s.client, vi s.acked, vi s.seen, vsl p' m d]).take (i + 1) = rows'.take i ++ [[vi s.client, vi s.acked, vi s.seen, vsl p' m d]] := by
            rw [List.take_succ_eq_append_getElem (by simp; omega)]
            simp [List.take_set_of_le]
          rw [e2]
          exact ha'.append (.one hrs)
    · have hjn : j = n := by omega
      subst hjn
      intro W3 n3 _
      rw [slice_tail]
      have hot := ho'.take i (by omega)
      have hic : i < c := by omega
      have et : i < c → vsl (tailP p c i 4) (j - i) (c - i) = .slice (ptrAt p ((i * 4 : Nat) : Int)) (j - i) (c - i) := fun h => by unfold tailP; rw [if_neg (by omega), ptrAt_shift, Int.toNat_natCast]
      rw [et hic]
      obtain ⟨W4, H2, hrun, hu, ho2⟩ := ek_clear (P := Tryz.prog) Tryz.underlying23 i1 i2 i5 i6 n3.sub hot (m := j - i) (dc := c - i) (by omega) (off := ((i * 4 : Nat) : Int)) (fun _ => rfl) 0
      refine ⟨W4, hrun, H2, hu.own hot (fun b hb => .inr hb), by omega, fun _ => ?_⟩
      have ei : ((i : Int)).toNat = i := by omega
      rw [ei]
      refine Rt.gt hH ho.held g (.inl rfl) ⟨i, _, rfl, ho2.merge (.inl rfl), ?_⟩
      have e3 : l.take j = l := List.take_of_length_le (by omega)
      rw [e3] at ha'
      exact ha'
end Go.Proofs.YtfpmcmhihhnfgaaGreat
