/- Symbolic runs of functions: what each leaves to prove is enough for its call. Printed by a program of ours. No conditions. Contract of the document's answer: an entry is applied. No conditions. Contract of the document's answer: an entry is applied. No conditions. Contracts of package apply: Next, One; of the document's answer: OneOf. No conditions. -/
import Derived.Test.YtfpmcmhihhnfgaaGreatKE3
import Derived.Test.YtfpmcmhihhnfgaaGreatProg
import Derived.Test.YtfpmcmhihhnfgaaGreatKS4
import Derived.Test.YtfpmcmhihhnfgaaGreatKA3
import Derived.Test.YtfpmcmhihhnfgaaGreatKA2
import Derived.Test.YtfpmcmhihhnfgaaGreatKT1
import Derived.Test.YtfpmcmhihhnfgaaGreatKA4
import Derived.Test.YtfpmcmhihhnfgaaGreatKU1
import Derived.Test.YtfpmcmhihhnfgaaGreatKA1
set_option linter.unusedVariables false
set_option linter.unusedSimpArgs false
namespace Go.Proofs.YtfpmcmhihhnfgaaGreat
open Go.RowKit
set_option maxRecDepth 100000
set_option maxHeartbeats 4000000
def v_appNext : VC :=
(.all 0
(.all 1
(.all 2
(.call 44 [.agg [vI 0, vI 1, vI 2, vI 3, vI 4, vI 5, vS 6]] [] [(18, .i), (19, .i), (20, .i), (21, .i), (22, .i), (23, .i), (24, .p), (25, .n), (26, .n)] (.agg [vI 18, vI 19, vI 20, vI 21, vI 22, vI 23, vS 24]) .fresh
(.all 3
(.call 65 [.ptrK 3 0, .agg [vI 9, vI 10, vI 11, vI 12, vI 13, vI 14, vI 15, vI 16, vI 17]] [(3, ⟨[.ptrK 0 0, .bool (.k false)], 109⟩), (0, ⟨[vI 18, vI 19, vI 20, vI 21, vI 22, vI 23, vS 24], 25⟩)] [(27, .i), (28, .p), (29, .b), (30, .i), (31, .i), (32, .i), (33, .i), (34, .i), (35, .i), (36, .p), (37, .n), (38, .n)] (vI 27) (.both [(3, ⟨[.ptrO 28 (.k 0), .bool (.v 29)], 109⟩), (0, ⟨[vI 30, vI 31, vI 32, vI 33, vI 34, vI 35, vS 36], 25⟩)])
(.ret (.tup [.agg [vI 30, vI 31, vI 32, vI 33, vI 34, vI 35, vS 36], vI 27, .bool (.v 29)]) [])))))))
theorem x_appNext (x0 x1 x2 x3 x4 x5 : Int) (x6 : Option Loc) (x7 x8 : Nat) (x9 x10 x11 x12 x13 x14 x15 x16 x17 : Int) (M : Nat → Prop) (H0 : Hp) (W0 : World) (R : Ending → World → Prop) (hH : H0.le (hpOf W0)) (h :
 (∀ b0 : Nat,
 (∀ b1 : Nat,
 (∀ b2 : Nat,
 (Cl Tryz.prog W0 M H0 nK 44 #[Value.agg #[vi x0, vi x1, vi x2, vi x3, vi x4, vi x5, vsl x6 x7 x8]] fun z W1 W2 => ∃ (x18 x19 x20 x21 x22 x23 : Int) (x24 : Option Loc) (x25 x26 : Nat), z = .returned (Value.agg #[vi x18, vi x19, vi x20, vi x21, vi x22, vi x23, vsl x24 x25 x26]) ∧ Fr W1 W2 H0 fun H1 =>
 (∀ b3 : Nat,
 (Cl Tryz.prog W0 M H1 (fun W => Kn W0 M H1 W b3 (Obj.cells #[Value.pointer (some ⟨b0, 0, none⟩), vb (false)] 109 (0, 0)) ∧ Kn W0 M H1 W b0 (Obj.cells #[vi x18, vi x19, vi x20, vi x21, vi x22, vi x23, vsl x24 x25 x26] 25 (0, 0)) ∧ True) 65 #[Value.pointer (some ⟨b3, 0, none⟩), Value.agg #[vi x9, vi x10, vi x11, vi x12, vi x13, vi x14, vi x15, vi x16, vi x17]] fun z W3 W4 => ∃ (x27 : Int) (x28 : Option Loc) (x29 : Bool) (x30 x31 x32 x33 x34 x35 : Int) (x36 : Option Loc) (x37 x38 : Nat), z = .returned (vi x27) ∧ Bt W0 M H1 [(b3, Obj.cells #[Value.pointer (ptrAt x28 0), vb (x29)] 109 (0, 0)), (b0, Obj.cells #[vi x30, vi x31, vi x32, vi x33, vi x34, vi x35, vsl x36 x37 x38] 25 (0, 0))] W3 W4 fun H2 =>
 Rt R W0 M H2 nK (Value.tuple #[Value.agg #[vi x30, vi x31, vi x32, vi x33, vi x34, vi x35, vsl x36 x37 x38], vi x27, vb (x29)])))))))) :
  Calls Tryz.prog 47 #[Value.agg #[vi x0, vi x1, vi x2, vi x3, vi x4, vi x5, vsl x6 x7 x8], Value.agg #[vi x9, vi x10, vi x11, vi x12, vi x13, vi x14, vi x15, vi x16, vi x17]] W0 R :=
  calls_sxA (M := M) (V := v_appNext) (hi := {mods := [(65, [0, 100])], turns := [65]}) (args := [.agg [vI 0, vI 1, vI 2, vI 3, vI 4, vI 5, vS 6], .agg [vI 9, vI 10, vI 11, vI 12, vI 13, vI 14, vI 15, vI 16, vI 17]]) (nv := 18) (e := (upd (upd (upd (upd (upd (upd (upd (upd (upd (upd (upd (upd (upd (upd (upd (upd (upd (upd (fun _ => .i 0) 0 (.i x0)) 1 (.i x1)) 2 (.i x2)) 3 (.i x3)) 4 (.i x4)) 5 (.i x5)) 6 (.p x6)) 7 (.n x7)) 8 (.n x8)) 9 (.i x9)) 10 (.i x10)) 11 (.i x11)) 12 (.i x12)) 13 (.i x13)) 14 (.i x14)) 15 (.i x15)) 16 (.i x16)) 17 (.i x17))) Tryz.func47 hH h (by kernel_rfl) (by kernel_rfl) (by kernel_rfl)
def v_applied : VC :=
(.all 0
(.all 1
(.all 2
(.chk (.rng .i64 (.add (.v 0) (.k 1)))
(.call 69 [vS 6, .int .i64 (.mx (.v 1) (.v 10))] [] [(18, .p), (19, .n), (20, .n)] (vS 18) .fresh
(.call 70 [vS 18, vI 11] [] [(21, .i)] (vI 21) .same
(.ite (.eq (.v 9) (.k 1))
(.ite (.le (.k 0) (.v 21))
(.chk (.idx (.v 21) (.v 19))
(.chk (.isp 18)
(.chk (.le (.k 0) (.add (.k 0) (.mul (.v 21) (.k 4))))
(.esc (.storeO 3) [.ptrO 18 (.add (.add (.k 0) (.mul (.v 21) (.k 4))) (.k 2)), .int .i64 (.mx (.v 1) (.v 10))] [] [] none .turn
(.ret (.tup [.agg [.int .i64 (.add (.v 0) (.k 1)), .int .i64 (.mx (.v 1) (.v 10)), vI 2, vI 3, vI 4, vI 5, vS 18], .int .i64 (.k 0), .bool (.k false)]) [])))))
(.chk (.le (.k 0) (.v 19))
(.ite (.eq (.v 19) (.k 3))
(.ret (.tup [.agg [.int .i64 (.add (.v 0) (.k 1)), .int .i64 (.mx (.v 1) (.v 10)), vI 2, vI 3, vI 4, vI 5, vS 18], .int .i64 (.k (-2)), .bool (.k false)]) [])
(.call 71 [vS 18, .agg [vI 11, .int .i64 (.k 0), .int .i64 (.mx (.v 1) (.v 10)), .c (Value.slice none 0 0)]] [] [(22, .p), (23, .n), (24, .n), (25, .i)] (.tup [vS 22, vI 25]) .fresh
(.ret (.tup [.agg [.int .i64 (.add (.v 0) (.k 1)), .int .i64 (.mx (.v 1) (.v 10)), vI 2, vI 3, vI 4, vI 5, vS 22], .int .i64 (.k 0), .bool (.k false)]) [])))))
(.ite (.lt (.v 21) (.k 0))
(.ret (.tup [.agg [.int .i64 (.add (.v 0) (.k 1)), .int .i64 (.mx (.v 1) (.v 10)), vI 2, vI 3, vI 4, vI 5, vS 18], .int .i64 (.k (-3)), .bool (.k false)]) [])
(.ite (.eq (.v 9) (.k 3))
(.call 43 [vS 18, vI 11] [] [(22, .p), (23, .n), (24, .n)] (vS 22) .fresh
(.ret (.tup [.agg [.int .i64 (.add (.v 0) (.k 1)), .int .i64 (.mx (.v 1) (.v 10)), vI 2, vI 3, vI 4, vI 5, vS 22], .int .i64 (.k 0), .bool (.k false)]) []))
(.chk (.idx (.v 21) (.v 19))
(.chk (.isp 18)
(.ld 18 (.add (.k 0) (.mul (.v 21) (.k 4))) [vI 22, vI 23, vI 24, vS 25] [(22, .i), (23, .i), (24, .i), (25, .p), (26, .n), (27, .n)]
(.all 3
(.loop [(28, .n), (29, .p), (30, .n), (31, .n)] [.n (.k 0), .pn, .n (.k 0), .n (.k 0)] [.n (.v 28), .p 29 (.k 0), .n (.v 30), .n (.v 31)]
(.chk (.le (.k 0) (.v 26))
(.ite (.lt (.v 28) (.v 26))
(.chk (.idx (.v 28) (.v 26))
(.chk (.isp 25)
(.ld 25 (.add (.k 0) (.mul (.v 28) (.k 2))) [vI 32] [(32, .i)]
(.ite (.lt (.mx (.v 23) (.v 13)) (.v 32))
(.ld 25 (.add (.k 0) (.mul (.v 28) (.k 2))) [vI 33, vI 34] [(33, .i), (34, .i)]
(.all 4
(.esc (.bi .append #[73, 73] 73) [vS 29, .slK 4 0 1 1] [(4, ⟨[vI 33, vI 34], 77⟩)] [(35, .p), (36, .n), (37, .n)] (some (vS 35)) .turn
(.chk (.rng .i64 (.add (.v 28) (.k 1)))
(.chk (.le (.k 0) (.add (.v 28) (.k 1)))
(.chk (.le (.k 0) (.v 36))
(.chk (.le (.k 0) (.v 37))
(.back 0 [.n (.add (.v 28) (.k 1)), .p 35 (.k 0), .n (.v 36), .n (.v 37)]))))))))
(.chk (.rng .i64 (.add (.v 28) (.k 1)))
(.chk (.le (.k 0) (.add (.v 28) (.k 1)))
(.chk (.le (.k 0) (.v 30))
(.chk (.le (.k 0) (.v 31))
(.back 0 [.n (.add (.v 28) (.k 1)), .p 29 (.k 0), .n (.v 30), .n (.v 31)])))))))))
(.esc (.storeO 75) [.ptrO 18 (.add (.k 0) (.mul (.v 21) (.k 4))), .agg [vI 22, .int .i64 (.mx (.v 23) (.v 13)), .int .i64 (.mx (.v 1) (.v 10)), vS 29]] [] [] none .turn
(.ite (.le (.v 12) (.mx (.v 23) (.v 13)))
(.ret (.tup [.agg [.int .i64 (.add (.v 0) (.k 1)), .int .i64 (.mx (.v 1) (.v 10)), vI 2, vI 3, vI 4, vI 5, vS 18], .int .i64 (.k (-4)), .bool (.k false)]) [])
(.loop [(32, .n)] [.n (.k 0)] [.n (.v 32)]
(.chk (.le (.k 0) (.v 30))
(.ite (.lt (.v 32) (.v 30))
(.chk (.idx (.v 32) (.v 30))
(.chk (.isp 29)
(.ld 29 (.add (.k 0) (.mul (.v 32) (.k 2))) [vI 33] [(33, .i)]
(.ite (.eq (.v 33) (.v 12))
(.chk (.le (.k 0) (.add (.k 0) (.mul (.v 32) (.k 2))))
(.ld 29 (.add (.add (.k 0) (.mul (.v 32) (.k 2))) (.k 1)) [vI 34] [(34, .i)]
(.ret (.tup [.agg [.int .i64 (.add (.v 0) (.k 1)), .int .i64 (.mx (.v 1) (.v 10)), vI 2, vI 3, vI 4, vI 5, vS 18], vI 34, .bool (.k false)]) [])))
(.chk (.rng .i64 (.add (.v 32) (.k 1)))
(.chk (.le (.k 0) (.add (.v 32) (.k 1)))
(.back 0 [.n (.add (.v 32) (.k 1))])))))))
(.chk (.rng .i64 (.add (.mx (.v 23) (.v 13)) (.k 3)))
(.ite (.lt (.add (.mx (.v 23) (.v 13)) (.k 3)) (.v 12))
(.ret (.tup [.agg [.int .i64 (.add (.v 0) (.k 1)), .int .i64 (.mx (.v 1) (.v 10)), vI 2, vI 3, vI 4, vI 5, vS 18], .int .i64 (.k (-5)), .bool (.k false)]) [])
(.call 72 [.agg [vI 2, vI 3, vI 4, vI 5], .agg [vI 14, vI 15, vI 16, vI 17]] [] [(33, .i), (34, .i), (35, .i), (36, .i), (37, .i)] (.tup [.agg [vI 33, vI 34, vI 35, vI 36], vI 37]) .same
(.all 4
(.loop [(38, .n)] [.n (.k 0)] [.n (.v 38)]
(.ite (.lt (.v 38) (.v 30))
(.chk (.idx (.v 38) (.v 30))
(.chk (.isp 29)
(.ld 29 (.add (.k 0) (.mul (.v 38) (.k 2))) [vI 39] [(39, .i)]
(.ite (.lt (.v 39) (.v 12))
(.chk (.rng .i64 (.add (.v 38) (.k 1)))
(.chk (.le (.k 0) (.add (.v 38) (.k 1)))
(.back 0 [.n (.add (.v 38) (.k 1))])))
(.chk (.le (.k 0) (.v 38))
(.chk (.le (.v 38) (.v 31))
(.chk (.le (.v 38) (.v 30))
(.chk (.le (.v 30) (.v 31))
(.all 5
(.esc (.bi .append #[73, 73] 73) [.slK 5 0 0 0, .slO 29 (.k 0) (.v 38) (.v 31)] [(5, ⟨[], 77⟩)] [(40, .p), (41, .n), (42, .n)] (some (vS 40)) .turn
(.all 6
(.esc (.bi .append #[73, 73] 73) [vS 40, .slK 6 0 1 1] [(6, ⟨[vI 12, vI 37], 77⟩)] [(43, .p), (44, .n), (45, .n)] (some (vS 43)) .turn
(.esc (.bi .append #[73, 73] 73) [vS 43, .slO 29 (.add (.k 0) (.skip (.v 31) (.v 38) 2)) (.sub (.v 30) (.v 38)) (.sub (.v 31) (.v 38))] [] [(46, .p), (47, .n), (48, .n)] (some (vS 46)) .turn
(.chk (.le (.k 0) (.add (.k 0) (.mul (.v 21) (.k 4))))
(.esc (.storeO 73) [.ptrO 18 (.add (.add (.k 0) (.mul (.v 21) (.k 4))) (.k 3)), vS 46] [] [] none .turn
(.ret (.tup [.agg [.int .i64 (.add (.v 0) (.k 1)), .int .i64 (.mx (.v 1) (.v 10)), vI 33, vI 34, vI 35, vI 36, vS 18], vI 37, .bool (.k true)]) []))))))))))))))))
(.chk (.le (.k 0) (.v 38))
(.chk (.le (.v 38) (.v 31))
(.chk (.le (.v 38) (.v 30))
(.chk (.le (.v 30) (.v 31))
(.all 5
(.esc (.bi .append #[73, 73] 73) [.slK 5 0 0 0, .slO 29 (.k 0) (.v 38) (.v 31)] [(5, ⟨[], 77⟩)] [(39, .p), (40, .n), (41, .n)] (some (vS 39)) .turn
(.all 6
(.esc (.bi .append #[73, 73] 73) [vS 39, .slK 6 0 1 1] [(6, ⟨[vI 12, vI 37], 77⟩)] [(42, .p), (43, .n), (44, .n)] (some (vS 42)) .turn
(.esc (.bi .append #[73, 73] 73) [vS 42, .slO 29 (.add (.k 0) (.skip (.v 31) (.v 38) 2)) (.sub (.v 30) (.v 38)) (.sub (.v 31) (.v 38))] [] [(45, .p), (46, .n), (47, .n)] (some (vS 45)) .turn
(.chk (.le (.k 0) (.add (.k 0) (.mul (.v 21) (.k 4))))
(.esc (.storeO 73) [.ptrO 18 (.add (.add (.k 0) (.mul (.v 21) (.k 4))) (.k 3)), vS 45] [] [] none .turn
(.ret (.tup [.agg [.int .i64 (.add (.v 0) (.k 1)), .int .i64 (.mx (.v 1) (.v 10)), vI 33, vI 34, vI 35, vI 36, vS 18], vI 37, .bool (.k true)]) [])))))))))))))))))))))))))))))))))))))))
theorem x_applied (x0 x1 x2 x3 x4 x5 : Int) (x6 : Option Loc) (x7 x8 : Nat) (x9 x10 x11 x12 x13 x14 x15 x16 x17 : Int) (M : Nat → Prop) (H0 : Hp) (W0 : World) (R : Ending → World → Prop) (hH : H0.le (hpOf W0)) (h :
 (∀ b0 : Nat,
 (∀ b1 : Nat,
 (∀ b2 : Nat,
 (inKind .i64 (x0 + 1) ∧ (inKind .i64 (x0 + 1) →
 (Cl Tryz.prog W0 M H0 nK 69 #[vsl x6 x7 x8, vi (if x1 < x10 then x10 else x1)] fun z W1 W2 => ∃ (x18 : Option Loc) (x19 x20 : Nat), z = .returned (vsl x18 x19 x20) ∧ Fr W1 W2 H0 fun H1 =>
 (Cl Tryz.prog W0 M H1 nK 70 #[vsl x18 x19 x20, vi x11] fun z W3 W4 => ∃ x21 : Int, z = .returned (vi x21) ∧ Ext W3 W4 ∧
 ((x9 = 1 →
  ((0 ≤ x21 →
   (((0 : Int) ≤ x21 ∧ x21 < (x19 : Int)) ∧ (((0 : Int) ≤ x21 ∧ x21 < (x19 : Int)) →
   (x18.isSome = true ∧ (x18.isSome = true →
   (0 ≤ (0 + (x21 * 4)) ∧ (0 ≤ (0 + (x21 * 4)) →
   (Es W0 M H1 nK fun W5 => Eo Tryz.prog (.storeO 3) [Value.pointer (ptrAt x18 ((0 + (x21 * 4)) + 2)), vi (if x1 < x10 then x10 else x1)] W5 (.skip) fun W6 => Tn W0 M H1 W5 W6 fun H2 =>
   Rt R W0 M H2 nK (Value.tuple #[Value.agg #[vi (x0 + 1), vi (if x1 < x10 then x10 else x1), vi x2, vi x3, vi x4, vi x5, vsl x18 x19 x20], vi 0, vb (false)]))))))))) ∧
  (¬ (0 ≤ x21) →
   (0 ≤ (x19 : Int) ∧ (0 ≤ (x19 : Int) →
   (((x19 : Int) = 3 →
    Rt R W0 M H1 nK (Value.tuple #[Value.agg #[vi (x0 + 1), vi (if x1 < x10 then x10 else x1), vi x2, vi x3, vi x4, vi x5, vsl x18 x19 x20], vi (-2), vb (false)])) ∧
   (¬ ((x19 : Int) = 3) →
    (Cl Tryz.prog W0 M H1 nK 71 #[vsl x18 x19 x20, Value.agg #[vi x11, vi 0, vi (if x1 < x10 then x10 else x1), Value.slice none 0 0]] fun z W5 W6 => ∃ (x22 : Option Loc) (x23 x24 : Nat) (x25 : Int), z = .returned (Value.tuple #[vsl x22 x23 x24, vi x25]) ∧ Fr W5 W6 H1 fun H2 =>
    Rt R W0 M H2 nK (Value.tuple #[Value.agg #[vi (x0 + 1), vi (if x1 < x10 then x10 else x1), vi x2, vi x3, vi x4, vi x5, vsl x22 x23 x24], vi 0, vb (false)]))))))))) ∧
 (¬ (x9 = 1) →
  ((x21 < 0 →
   Rt R W0 M H1 nK (Value.tuple #[Value.agg #[vi (x0 + 1), vi (if x1 < x10 then x10 else x1), vi x2, vi x3, vi x4, vi x5, vsl x18 x19 x20], vi (-3), vb (false)])) ∧
  (¬ (x21 < 0) →
   ((x9 = 3 →
    (Cl Tryz.prog W0 M H1 nK 43 #[vsl x18 x19 x20, vi x11] fun z W5 W6 => ∃ (x22 : Option Loc) (x23 x24 : Nat), z = .returned (vsl x22 x23 x24) ∧ Fr W5 W6 H1 fun H2 =>
    Rt R W0 M H2 nK (Value.tuple #[Value.agg #[vi (x0 + 1), vi (if x1 < x10 then x10 else x1), vi x2, vi x3, vi x4, vi x5, vsl x22 x23 x24], vi 0, vb (false)]))) ∧
   (¬ (x9 = 3) →
    (((0 : Int) ≤ x21 ∧ x21 < (x19 : Int)) ∧ (((0 : Int) ≤ x21 ∧ x21 < (x19 : Int)) →
    (x18.isSome = true ∧ (x18.isSome = true →
    (∃ (x22 x23 x24 : Int) (x25 : Option Loc) (x26 x27 : Nat), RowAt H1 x18 (0 + (x21 * 4)) [vi x22, vi x23, vi x24, vsl x25 x26 x27] ∧
    (∀ b3 : Nat,
    (∃ (I0 : List Dat → Hp → Prop) (μ0 : List Dat → Nat), I0 [.n 0, .p none, .n 0, .n 0] H1 ∧ ∀ H2 : Hp, ∀ (x28 : Nat) (x29 : Option Loc) (x30 x31 : Nat), I0 [.n x28, .p (x29.map fun a => a.shift 0), .n x30, .n x31] H2 →
     (0 ≤ (x26 : Int) ∧ (0 ≤ (x26 : Int) →
     (((x28 : Int) < (x26 : Int) →
      (((0 : Int) ≤ (x28 : Int) ∧ (x28 : Int) < (x26 : Int)) ∧ (((0 : Int) ≤ (x28 : Int) ∧ (x28 : Int) < (x26 : Int)) →
      (x25.isSome = true ∧ (x25.isSome = true →
      (∃ x32 : Int, RowAt H2 x25 (0 + ((x28 : Int) * 2)) [vi x32] ∧
      (((if x23 < x13 then x13 else x23) < x32 →
       (∃ (x33 x34 : Int), RowAt H2 x25 (0 + ((x28 : Int) * 2)) [vi x33, vi x34] ∧
       (∀ b4 : Nat,
       (Es W0 M H2 (fun W => Kn W0 M H2 W b4 (Obj.cells #[vi x33, vi x34] 77 (0, 0)) ∧ True) fun W5 => ∃ (x35 : Option Loc) (x36 x37 : Nat), Eo Tryz.prog (.bi .append #[73, 73] 73) [vsl x29 x30 x31, Value.slice (some ⟨b4, 0, none⟩) 1 1] W5 (.value (vsl x35 x36 x37)) fun W6 => Tn W0 M H2 W5 W6 fun H3 =>
       (inKind .i64 ((x28 : Int) + 1) ∧ (inKind .i64 ((x28 : Int) + 1) →
       (0 ≤ ((x28 : Int) + 1) ∧ (0 ≤ ((x28 : Int) + 1) →
       (0 ≤ (x36 : Int) ∧ (0 ≤ (x36 : Int) →
       (0 ≤ (x37 : Int) ∧ (0 ≤ (x37 : Int) →
       (I0 [.n (((x28 : Int) + 1) : Int).toNat, .p (x35.map fun a => a.shift 0), .n x36, .n x37] H3 ∧ μ0 [.n (((x28 : Int) + 1) : Int).toNat, .p (x35.map fun a => a.shift 0), .n x36, .n x37] < μ0 [.n x28, .p (x29.map fun a => a.shift 0), .n x30, .n x31]))))))))))))) ∧
      (¬ ((if x23 < x13 then x13 else x23) < x32) →
       (inKind .i64 ((x28 : Int) + 1) ∧ (inKind .i64 ((x28 : Int) + 1) →
       (0 ≤ ((x28 : Int) + 1) ∧ (0 ≤ ((x28 : Int) + 1) →
       (0 ≤ (x30 : Int) ∧ (0 ≤ (x30 : Int) →
       (0 ≤ (x31 : Int) ∧ (0 ≤ (x31 : Int) →
       (I0 [.n (((x28 : Int) + 1) : Int).toNat, .p (x29.map fun a => a.shift 0), .n x30, .n x31] H2 ∧ μ0 [.n (((x28 : Int) + 1) : Int).toNat, .p (x29.map fun a => a.shift 0), .n x30, .n x31] < μ0 [.n x28, .p (x29.map fun a => a.shift 0), .n x30, .n x31]))))))))))))))))) ∧
     (¬ ((x28 : Int) < (x26 : Int)) →
      (Es W0 M H2 nK fun W5 => Eo Tryz.prog (.storeO 75) [Value.pointer (ptrAt x18 (0 + (x21 * 4))), Value.agg #[vi x22, vi (if x23 < x13 then x13 else x23), vi (if x1 < x10 then x10 else x1), vsl x29 x30 x31]] W5 (.skip) fun W6 => Tn W0 M H2 W5 W6 fun H3 =>
      ((x12 ≤ (if x23 < x13 then x13 else x23) →
       Rt R W0 M H3 nK (Value.tuple #[Value.agg #[vi (x0 + 1), vi (if x1 < x10 then x10 else x1), vi x2, vi x3, vi x4, vi x5, vsl x18 x19 x20], vi (-4), vb (false)])) ∧
      (¬ (x12 ≤ (if x23 < x13 then x13 else x23)) →
       (∃ (I1 : List Dat → Hp → Prop) (μ1 : List Dat → Nat), I1 [.n 0] H3 ∧ ∀ H4 : Hp, ∀ x32 : Nat, I1 [.n x32] H4 →
        (0 ≤ (x30 : Int) ∧ (0 ≤ (x30 : Int) →
        (((x32 : Int) < (x30 : Int) →
         (((0 : Int) ≤ (x32 : Int) ∧ (x32 : Int) < (x30 : Int)) ∧ (((0 : Int) ≤ (x32 : Int) ∧ (x32 : Int) < (x30 : Int)) →
         (x29.isSome = true ∧ (x29.isSome = true →
         (∃ x33 : Int, RowAt H4 x29 (0 + ((x32 : Int) * 2)) [vi x33] ∧
         ((x33 = x12 →
          (0 ≤ (0 + ((x32 : Int) * 2)) ∧ (0 ≤ (0 + ((x32 : Int) * 2)) →
          (∃ x34 : Int, RowAt H4 x29 ((0 + ((x32 : Int) * 2)) + 1) [vi x34] ∧
          Rt R W0 M H4 nK (Value.tuple #[Value.agg #[vi (x0 + 1), vi (if x1 < x10 then x10 else x1), vi x2, vi x3, vi x4, vi x5, vsl x18 x19 x20], vi x34, vb (false)]))))) ∧
         (¬ (x33 = x12) →
          (inKind .i64 ((x32 : Int) + 1) ∧ (inKind .i64 ((x32 : Int) + 1) →
          (0 ≤ ((x32 : Int) + 1) ∧ (0 ≤ ((x32 : Int) + 1) →
          (I1 [.n (((x32 : Int) + 1) : Int).toNat] H4 ∧ μ1 [.n (((x32 : Int) + 1) : Int).toNat] < μ1 [.n x32]))))))))))))) ∧
        (¬ ((x32 : Int) < (x30 : Int)) →
         (inKind .i64 ((if x23 < x13 then x13 else x23) + 3) ∧ (inKind .i64 ((if x23 < x13 then x13 else x23) + 3) →
         ((((if x23 < x13 then x13 else x23) + 3) < x12 →
          Rt R W0 M H4 nK (Value.tuple #[Value.agg #[vi (x0 + 1), vi (if x1 < x10 then x10 else x1), vi x2, vi x3, vi x4, vi x5, vsl x18 x19 x20], vi (-5), vb (false)])) ∧
         (¬ (((if x23 < x13 then x13 else x23) + 3) < x12) →
          (Cl Tryz.prog W0 M H4 nK 72 #[Value.agg #[vi x2, vi x3, vi x4, vi x5], Value.agg #[vi x14, vi x15, vi x16, vi x17]] fun z W7 W8 => ∃ (x33 x34 x35 x36 x37 : Int), z = .returned (Value.tuple #[Value.agg #[vi x33, vi x34, vi x35, vi x36], vi x37]) ∧ Ext W7 W8 ∧
          (∀ b4 : Nat,
          (∃ (I2 : List Dat → Hp → Prop) (μ2 : List Dat → Nat), I2 [.n 0] H4 ∧ ∀ H5 : Hp, ∀ x38 : Nat, I2 [.n x38] H5 →
           (((x38 : Int) < (x30 : Int) →
            (((0 : Int) ≤ (x38 : Int) ∧ (x38 : Int) < (x30 : Int)) ∧ (((0 : Int) ≤ (x38 : Int) ∧ (x38 : Int) < (x30 : Int)) →
            (x29.isSome = true ∧ (x29.isSome = true →
            (∃ x39 : Int, RowAt H5 x29 (0 + ((x38 : Int) * 2)) [vi x39] ∧
            ((x39 < x12 →
             (inKind .i64 ((x38 : Int) + 1) ∧ (inKind .i64 ((x38 : Int) + 1) →
             (0 ≤ ((x38 : Int) + 1) ∧ (0 ≤ ((x38 : Int) + 1) →
             (I2 [.n (((x38 : Int) + 1) : Int).toNat] H5 ∧ μ2 [.n (((x38 : Int) + 1) : Int).toNat] < μ2 [.n x38])))))) ∧
            (¬ (x39 < x12) →
             (0 ≤ (x38 : Int) ∧ (0 ≤ (x38 : Int) →
             ((x38 : Int) ≤ (x31 : Int) ∧ ((x38 : Int) ≤ (x31 : Int) →
             ((x38 : Int) ≤ (x30 : Int) ∧ ((x38 : Int) ≤ (x30 : Int) →
             ((x30 : Int) ≤ (x31 : Int) ∧ ((x30 : Int) ≤ (x31 : Int) →
             (∀ b5 : Nat,
             (Es W0 M H5 (fun W => Kn W0 M H5 W b5 (Obj.cells #[] 77 (0, 0)) ∧ True) fun W9 => ∃ (x40 : Option Loc) (x41 x42 : Nat), Eo Tryz.prog (.bi .append #[73, 73] 73) [Value.slice (some ⟨b5, 0, none⟩) 0 0, vsl x29 x38 x31] W9 (.value (vsl x40 x41 x42)) fun W10 => Tn W0 M H5 W9 W10 fun H6 =>
             (∀ b6 : Nat,
             (Es W0 M H6 (fun W => Kn W0 M H6 W b6 (Obj.cells #[vi x12, vi x37] 77 (0, 0)) ∧ True) fun W11 => ∃ (x43 : Option Loc) (x44 x45 : Nat), Eo Tryz.prog (.bi .append #[73, 73] 73) [vsl x40 x41 x42, Value.slice (some ⟨b6, 0, none⟩) 1 1] W11 (.value (vsl x43 x44 x45)) fun W12 => Tn W0 M H6 W11 W12 fun H7 =>
             (Es W0 M H7 nK fun W13 => ∃ (x46 : Option Loc) (x47 x48 : Nat), Eo Tryz.prog (.bi .append #[73, 73] 73) [vsl x43 x44 x45, Value.slice (ptrAt x29 (0 + (if (x31 : Int) = (x38 : Int) then 0 else (x38 : Int) * ((2 : Nat) : Int)))) (((x30 : Int) - (x38 : Int)) : Int).toNat (((x31 : Int) - (x38 : Int)) : Int).toNat] W13 (.value (vsl x46 x47 x48)) fun W14 => Tn W0 M H7 W13 W14 fun H8 =>
             (0 ≤ (0 + (x21 * 4)) ∧ (0 ≤ (0 + (x21 * 4)) →
             (Es W0 M H8 nK fun W15 => Eo Tryz.prog (.storeO 73) [Value.pointer (ptrAt x18 ((0 + (x21 * 4)) + 3)), vsl x46 x47 x48] W15 (.skip) fun W16 => Tn W0 M H8 W15 W16 fun H9 =>
             Rt R W0 M H9 nK (Value.tuple #[Value.agg #[vi (x0 + 1), vi (if x1 < x10 then x10 else x1), vi x33, vi x34, vi x35, vi x36, vsl x18 x19 x20], vi x37, vb (true)]))))))))))))))))))))))))) ∧
           (¬ ((x38 : Int) < (x30 : Int)) →
            (0 ≤ (x38 : Int) ∧ (0 ≤ (x38 : Int) →
            ((x38 : Int) ≤ (x31 : Int) ∧ ((x38 : Int) ≤ (x31 : Int) →
            ((x38 : Int) ≤ (x30 : Int) ∧ ((x38 : Int) ≤ (x30 : Int) →
            ((x30 : Int) ≤ (x31 : Int) ∧ ((x30 : Int) ≤ (x31 : Int) →
            (∀ b5 : Nat,
            (Es W0 M H5 (fun W => Kn W0 M H5 W b5 (Obj.cells #[] 77 (0, 0)) ∧ True) fun W9 => ∃ (x39 : Option Loc) (x40 x41 : Nat), Eo Tryz.prog (.bi .append #[73, 73] 73) [Value.slice (some ⟨b5, 0, none⟩) 0 0, vsl x29 x38 x31] W9 (.value (vsl x39 x40 x41)) fun W10 => Tn W0 M H5 W9 W10 fun H6 =>
            (∀ b6 : Nat,
            (Es W0 M H6 (fun W => Kn W0 M H6 W b6 (Obj.cells #[vi x12, vi x37] 77 (0, 0)) ∧ True) fun W11 => ∃ (x42 : Option Loc) (x43 x44 : Nat), Eo Tryz.prog (.bi .append #[73, 73] 73) [vsl x39 x40 x41, Value.slice (some ⟨b6, 0, none⟩) 1 1] W11 (.value (vsl x42 x43 x44)) fun W12 => Tn W0 M H6 W11 W12 fun H7 =>
            (Es W0 M H7 nK fun W13 => ∃ (x45 : Option Loc) (x46 x47 : Nat), Eo Tryz.prog (.bi .append #[73, 73] 73) [vsl x42 x43 x44, Value.slice (ptrAt x29 (0 + (if (x31 : Int) = (x38 : Int) then 0 else (x38 : Int) * ((2 : Nat) : Int)))) (((x30 : Int) - (x38 : Int)) : Int).toNat (((x31 : Int) - (x38 : Int)) : Int).toNat] W13 (.value (vsl x45 x46 x47)) fun W14 => Tn W0 M H7 W13 W14 fun H8 =>
            (0 ≤ (0 + (x21 * 4)) ∧ (0 ≤ (0 + (x21 * 4)) →
            (Es W0 M H8 nK fun W15 => Eo Tryz.prog (.storeO 73) [Value.pointer (ptrAt x18 ((0 + (x21 * 4)) + 3)), vsl x45 x46 x47] W15 (.skip) fun W16 => Tn W0 M H8 W15 W16 fun H9 =>
            Rt R W0 M H9 nK (Value.tuple #[Value.agg #[vi (x0 + 1), vi (if x1 < x10 then x10 else x1), vi x33, vi x34, vi x35, vi x36, vsl x18 x19 x20], vi x37, vb (true)]))))))))))))))))))))))))))))))))))))))))))))))))))))))))))) :
  Calls Tryz.prog 56 #[Value.agg #[vi x0, vi x1, vi x2, vi x3, vi x4, vi x5, vsl x6 x7 x8], Value.agg #[vi x9, vi x10, vi x11, vi x12, vi x13, vi x14, vi x15, vi x16, vi x17]] W0 R :=
  calls_sxA (M := M) (V := v_applied) (hi := {loops := [(23, .inv [(10, .nat), (9, .pt .sl)] []), (32, .inv [(11, .nat)] []), (41, .inv [(14, .nat)] [])]}) (args := [.agg [vI 0, vI 1, vI 2, vI 3, vI 4, vI 5, vS 6], .agg [vI 9, vI 10, vI 11, vI 12, vI 13, vI 14, vI 15, vI 16, vI 17]]) (nv := 18) (e := (upd (upd (upd (upd (upd (upd (upd (upd (upd (upd (upd (upd (upd (upd (upd (upd (upd (upd (fun _ => .i 0) 0 (.i x0)) 1 (.i x1)) 2 (.i x2)) 3 (.i x3)) 4 (.i x4)) 5 (.i x5)) 6 (.p x6)) 7 (.n x7)) 8 (.n x8)) 9 (.i x9)) 10 (.i x10)) 11 (.i x11)) 12 (.i x12)) 13 (.i x13)) 14 (.i x14)) 15 (.i x15)) 16 (.i x16)) 17 (.i x17))) Tryz.func56 hH h (by kernel_rfl) (by kernel_rfl) (by kernel_rfl)
end Go.Proofs.YtfpmcmhihhnfgaaGreat
namespace Go.Proofs.YtfpmcmhihhnfgaaGreat
open Go.RowKit

theorem c_did (x : POp) {v : V4} (hx : x.err = 0) (hv : v.ok = true) (H : Hp) : Gv Tryz.prog 72 #[.agg #[vi v.a, vi v.b, vi v.c, vi v.d], x.vals'] H (.tuple #[.agg #[vi (x.turn v).1.a, vi (x.turn v).1.b, vi (x.turn v).1.c, vi (x.turn v).1.d], vi (x.turn v).2]) := fun W _ => r_did v x.kind x.key x.to x.n W hx hv
theorem ix_pos {l : List Ses} (h : Inc l) (x : Int) : (ixFrom x 0 l = -1 ∧ hasT l x = false) ∨ (ixFrom x 0 l = (posT l x : Int) ∧ hasT l x = true) := by
  rcases ixFrom_spec x l 0 with ⟨h1, h2, _⟩ | ⟨j, s, h1, h2, h3, h4⟩
  · exact .inl ⟨h1, h2⟩
  · refine .inr ⟨?_, h3⟩
    obtain ⟨_, _, i3, _, _⟩ := split_at x l h
    obtain ⟨u, u1, u2, u3⟩ := i3 h3
    rw [h1]
    have he : u = s := by rw [← u3, h4]
    subst he
    obtain ⟨j1, j2⟩ := List.getElem?_eq_some_iff.1 h2
    obtain ⟨k1, k2⟩ := List.getElem?_eq_some_iff.1 u1
    rw [Inc, List.pairwise_iff_getElem] at h
    rcases Nat.lt_trichotomy j (posT l x) with hlt | heq | hgt
    · have := h j _ j1 k1 hlt; rw [j2, k2] at this; omega
    · rw [heq]; congr 1; omega
    · have := h _ j k1 j1 hgt; rw [j2, k2] at this; omega
theorem All2.set {α β : Type} {R : α → β → Prop} {l : List α} {m : List β} (h : All2 R l m) : ∀ (i : Nat) {a : α} {b : β}, R a b → All2 R (l.set i a) (m.set i b) := by
  induction h with
  | nil => intro i a b _; exact .nil
  | cons x y l m hxy t ih =>
    intro i a b hab
    cases i with
    | zero => exact .cons _ _ _ _ hab t
    | succ i => exact .cons _ _ _ _ hxy (ih i hab)
/-- the row at i, in such a table -/
theorem Out.row {W : World} {K : Hp} {p : Option Loc} {n c : Nat} {L : List Ses} {rows : List (List Value)} {g : Option Nat} (ho : Ow K 75 4 p n c rows g) (ha : All2 (SesRow (rest W g K)) rows L) {i : Nat} {s : Ses} (hs : L[i]? = some s) :
    ∃ q m d, rows[i]? = some [vi s.client, vi s.acked, vi s.seen, vsl q m d] ∧ Kept (rest W g K) q m d s.kept ∧ ∀ off : Int, off = (i : Int) * 4 → RowAt K p off [vi s.client, vi s.acked, vi s.seen, vsl q m d] := by
  obtain ⟨row, h1, q, m, d, rfl, h2⟩ := ha.get' hs
  refine ⟨q, m, d, h1, h2, fun off ho' => ?_⟩
  have hlt := (List.getElem?_eq_some_iff.1 h1).1
  obtain ⟨r, h3, _, h4⟩ := ho.rows.at (k := i) (by rw [ho.1]; exact hlt) (off := off) (by omega)
  rw [h1] at h3
  simp only [Option.some.injEq] at h3
  subst h3
  exact h4
/-- what is left to do, once the place is found -/
abbrev TailP (W : World) (K : Hp) (R : Ending → World → Prop) (q : Option Loc) (a d j : Nat) (p1 : Option Loc) (i : Int) (seq val : Int) (v : Value) : Prop :=
  (0 ≤ (j : Int) ∧ (0 ≤ (j : Int) →
  ((j : Int) ≤ (d : Int) ∧ ((j : Int) ≤ (d : Int) →
  ((j : Int) ≤ (a : Int) ∧ ((j : Int) ≤ (a : Int) →
  ((a : Int) ≤ (d : Int) ∧ ((a : Int) ≤ (d : Int) →
  (∀ b5 : Nat,
  (Es W noM K (fun W1 => Kn W noM K W1 b5 (Obj.cells #[] 77 (0, 0)) ∧ True) fun W9 => ∃ x39 : Option Loc, ∃ x40 : Nat, ∃ x41 : Nat, Eo Tryz.prog (.bi .append #[73, 73] 73) [Value.slice (some ⟨b5, 0, none⟩) 0 0, vsl q j d] W9 (.value (vsl x39 x40 x41)) fun W10 => Tn W noM K W9 W10 fun H6 =>
  (∀ b6 : Nat,
  (Es W noM H6 (fun W1 => Kn W noM H6 W1 b6 (Obj.cells #[vi seq, vi val] 77 (0, 0)) ∧ True) fun W11 => ∃ x42 : Option Loc, ∃ x43 : Nat, ∃ x44 : Nat, Eo Tryz.prog (.bi .append #[73, 73] 73) [vsl x39 x40 x41, Value.slice (some ⟨b6, 0, none⟩) 1 1] W11 (.value (vsl x42 x43 x44)) fun W12 => Tn W noM H6 W11 W12 fun H7 =>
  (Es W noM H7 nK fun W13 => ∃ x45 : Option Loc, ∃ x46 : Nat, ∃ x47 : Nat, Eo Tryz.prog (.bi .append #[73, 73] 73) [vsl x42 x43 x44, Value.slice (ptrAt q (0 + (if (d : Int) = (j : Int) then 0 else (j : Int) * ((2 : Nat) : Int)))) (((a : Int) - (j : Int)) : Int).toNat (((d : Int) - (j : Int)) : Int).toNat] W13 (.value (vsl x45 x46 x47)) fun W14 => Tn W noM H7 W13 W14 fun H8 =>
  (0 ≤ (0 + (i * 4)) ∧ (0 ≤ (0 + (i * 4)) →
  (Es W noM H8 nK fun W15 => Eo Tryz.prog (.storeO 73) [Value.pointer (ptrAt p1 ((0 + (i * 4)) + 3)), vsl x45 x46 x47] W15 (.skip) fun W16 => Tn W noM H8 W15 W16 fun H9 =>
  Rt R W noM H9 nK v))))))))))))))))
/-- the kept answers, and a new one, in new memory; then it is stored -/
theorem tail_ok {W : World} {K : Hp} {R : Ending → World → Prop} {q : Option Loc} {a d j : Nat} {p1 : Option Loc} {i : Nat} {seq val : Int} {v : Value} {n1 c1 : Nat} {L : List Ses} {rows : List (List Value)} {g : Option Nat} {s : Ses} {l : List Rep} (hH : noH.le (hpOf W)) (ho : Ow K 75 4 p1 n1 c1 rows g) (hg : ∀ b, g = some b → W.heap.size ≤ b) (ha : All2 (SesRow (rest W g K)) rows L) (hs : L[i]? = some s) (hk : Kept K q a d l) (hi : IncK l) (hl : a ≤ 1000) (hj : posK l seq = j) (hno : hasK l seq = false)
    (fin : ∀ (H9 : Hp) (rows' : List (List Value)), (∀ X : Hp, X.le K → (∀ b, g = some b → X b = none) → X.le H9) → Ow H9 75 4 p1 n1 c1 rows' g → All2 (SesRow (rest W g H9)) rows' (L.set i { s with kept := putK l ⟨seq, val⟩ }) → Rt R W noM H9 nK v) :
    TailP W K R q a d j p1 (i : Int) seq val v := by
  have hal := hk.len
  have had := hk.1
  have hjl := pos_leK l seq
  obtain ⟨ti, z, i1, i2, i3, i4, i5, i6⟩ := info_of infoRep
  obtain ⟨ui, uz, u1, u2, u3, u4, u5, u6⟩ := info_of infoReps
  refine ⟨by omega, fun _ => ⟨by omega, fun _ => ⟨by omega, fun _ => ⟨by omega, fun _ => fun b5 => ?_⟩⟩⟩⟩
  intro W9 n9 k9
  have hr1 : Rows K q j 2 ((l.map Rep.row).take j) := hk.2.2.take j (by omega)
  obtain ⟨p5, c5, g5, W10, H6, e1, t1, o1, ng1, le1⟩ := ek_clone (P := Tryz.prog) Tryz.underlying73 infoRep (by omega) n9 (some (b5, 0)) hr1 (fun r hr => rep_ones l r (List.mem_of_mem_take hr)) (by omega) (by simp only [maxLen]; omega) 73 (c := d)
  refine ⟨p5, j, c5, W10, e1, H6, t1, fun b6 W11 n11 k11 => ?_⟩
  have hnew5 : ∀ b, g5 = some b → W.heap.size ≤ b := fun b hb => Nat.le_trans n9.mod.size (ng1 b hb)
  have off5 : ∀ b, g5 = some b → K b = none := fun b hb => old_none n9.sub (ng1 b hb)
  obtain ⟨p6, c6, g6, W12, H7, e2, hu2, o2, hg6, _⟩ := run_append1 (P := Tryz.prog) Tryz.underlying73 infoRep (by omega) n11.sub o1 (row := [vi seq, vi val]) k11.1.eq k11.1.off rfl (fun v hv => by
    simp only [List.mem_cons, List.not_mem_nil, or_false] at hv
    rcases hv with rfl | rfl <;> rfl) (by simp only [maxLen]; omega) (by omega) 73
  have le2 : K.le H7 := hu2.keep n11.sub le1 off5
  have hg6' : ∀ b, g6 = some b → W.heap.size ≤ b ∧ K b = none := fun b hb => by
    rcases hg6 with h | h
    · exact ⟨hnew5 b (h ▸ hb), off5 b (h ▸ hb)⟩
    · rw [h] at hb
      simp only [Option.some.injEq] at hb
      exact ⟨by have := n11.mod.size; omega, old_none (Hp.le_trans le1 n11.sub) (by omega)⟩
  refine ⟨p6, j + 1, c6, W12, e2, H7, hu2.own o1 (fun b hb => .inl (hnew5 b hb)), ?_⟩
  intro W13 n13 _
  rw [slice_tail]
  have hr3 : Rows H7 (tailP q d j 2) (a - j) 2 ((l.map Rep.row).drop j) := (hk.2.2.tail (by omega) had).mono le2
  obtain ⟨p7, c7, g7, W14, H8, e3, hu3, o3, hg7, _⟩ := run_append_rows (P := Tryz.prog) Tryz.underlying73 i1 i2 i3 i4 i5 (by omega) n13.sub o2 hr3 (fun r hr => rep_ones l r (List.mem_of_mem_drop hr)) (by simp only [maxLen]; omega) (by omega) 73 (c2 := d - j)
  have le3 : K.le H8 := hu3.keep n13.sub le2 (fun b hb => (hg6' b hb).2)
  have hg7' : ∀ b, g7 = some b → W.heap.size ≤ b ∧ K b = none := fun b hb => by
    rcases hg7 with h | h
    · exact hg6' b (h ▸ hb)
    · rw [h] at hb
      simp only [Option.some.injEq] at hb
      exact ⟨by have := n13.mod.size; omega, old_none (Hp.le_trans le2 n13.sub) (by omega)⟩
  have hput : (l.map Rep.row).take j ++ [[vi seq, vi val]] ++ (l.map Rep.row).drop j = (putK l ⟨seq, val⟩).map Rep.row := by
    rw [← put_notK hi (s := ⟨seq, val⟩) hno, List.map_append, List.map_cons, List.map_take, List.map_drop, hj]
    simp [Rep.row]
  rw [hput] at o3
  refine ⟨p7, j + 1 + (a - j), c7, W14, e3, H8, hu3.own o2 (fun b hb => .inl (hg6' b hb).1), by omega, fun _ => ?_⟩
  intro W15 n15 _
  have ho8 : Ow H8 75 4 p1 n1 c1 rows g := ho.mono fun b _ o h => le3 b o h
  obtain ⟨q0, m0, d0, hrow, _, _⟩ := Out.row ho ha hs
  obtain ⟨W16, H9, e4, hu4, o4⟩ := ek_store (P := Tryz.prog) (t := 73) u1 n15.sub ho8 (i := i) (j := 3) (vs := [vsl p7 (j + 1 + (a - j)) c7]) (v := vsl p7 (j + 1 + (a - j)) c7) hrow rfl u3 (by simp) (by simp) (fun u hu => by simp only [List.mem_singleton] at hu; subst hu; rfl) (off := 0 + (i : Int) * 4 + 3) (by omega)
  refine ⟨W16, e4, H9, hu4.own ho8 (fun b hb => .inl (hg b hb)), fin H9 _ (fun X hX hXg => hu4.keep n15.sub (Hp.le_trans hX le3) hXg) o4 ?_⟩
  have hr8 : (rest W g K).le (rest W g H9) := Hp.le_trans (rest_mono W g le3) (rest_upd W hu4 n15.sub)
  have hgg : ∀ b, g7 = some b → g ≠ some b := fun b hb h => by
    obtain ⟨o, h2⟩ := ho.held b h
    rw [(hg7' b hb).2] at h2; cases h2
  refine (ha.mono fun _ _ h => h.mono hr8).set i ⟨p7, j + 1 + (a - j), c7, rfl, Kept.of_ow (o3.mono fun b hb o h => ?_)⟩
  unfold rest
  rw [if_pos ⟨(hg7' b hb).1, hgg b hb⟩, hu4.same b (heap_lt (n15.sub b o h)) (hgg b hb)]
  exact h
end Go.Proofs.YtfpmcmhihhnfgaaGreat
namespace Go.Proofs.YtfpmcmhihhnfgaaGreat
open Go.RowKit

/-- what comes of applying, in the document's answer -/
def APost (r : Sta × Int × Bool) (v : Value) (D : Hp) : Prop := ∃ p n c, v = .tuple #[r.1.val (vsl p n c), vi r.2.1, vb r.2.2] ∧ Tab D p n c r.1.table
theorem Rt.ap {W : World} {K : Hp} {r r' : Sta × Int × Bool} {p : Option Loc} {n c : Nat} (hr : r' = r) (hT : Tab (newer W K) p n c r.1.table) :
    Rt (fun z W' => ∃ v D, z = .returned v ∧ Ext W W' ∧ D.le (hpOf W') ∧ (∀ b o, D b = some o → W.heap.size ≤ b) ∧ APost r' v D) W noM K nK (.tuple #[r.1.val (vsl p n c), vi r.2.1, vb r.2.2]) := by
  subst hr
  exact Rt.gfn ⟨p, n, c, rfl, hT⟩
theorem Out.tab' {W : World} {K : Hp} {p : Option Loc} {n c : Nat} {L : List Ses} {rows : List (List Value)} {g : Option Nat} (ho : Ow K 75 4 p n c rows g) (hg : ∀ b, g = some b → W.heap.size ≤ b) (ha : All2 (SesRow (rest W g K)) rows L) : Tab (newer W K) p n c L :=
  (OwnTab.fin ho ha (rest_le W g K) (fun b o hb => newer_new W K b o (rest_newer W g K b o hb)) (rest_g W K) hg).tab
set_option maxRecDepth 100000 in
set_option maxHeartbeats 4000000 in
theorem c_applied {H : Hp} {p : Option Loc} {n c : Nat} {s : Sta} (hT : Tab H p n c s.table) (hs : StOk s) (hp : s.pos < 50) {e : Ent} (he : EntOk e) : Gf Tryz.prog 56 #[s.val (vsl p n c), e.val] H (APost (s.apply e)) := fun W hH => by
  have hpos := hs.pos
  have hck := hs.clock
  have het := he.time
  have hsm := Small.of_ok hs.table
  have em : (if s.clock < e.time then e.time else s.clock) = max s.clock e.time := by omega
  refine x_applied s.pos s.clock s.vals.a s.vals.b s.vals.c s.vals.d p n c e.kind e.time e.client e.seq e.ack e.op.kind e.op.key e.op.to e.op.n noM H W _ hH fun b0 b1 b2 => ⟨in64 (by omega), fun _ => ?_⟩
  rw [em]
  have htok := Sta.tick_ok hs het hp
  have htck := htok.clock
  refine Cl.fresh (c_rfresh hT hsm (x := max s.clock e.time) (by omega)) ?_
  rintro v W1 W2 D ⟨p1, n1, c1, g, rfl, rows, Dk, hoD, hDk, hgk, haD⟩ hx hD hf nw1
  refine ⟨p1, n1, c1, rfl, hx, D, hD, hf, fun H1 h01 hD1 => ?_⟩
  have hg : ∀ b, g = some b → W.heap.size ≤ b := fun b hb => by
    obtain ⟨o, h⟩ := hoD.held b hb
    exact Nat.le_trans nw1.mod.size (hf b o h)
  have ho1 : Ow H1 75 4 p1 n1 c1 rows g := hoD.mono fun b _ o h => hD1 b o h
  have ha1 : All2 (SesRow (rest W g H1)) rows (s.tick e.time).table := haD.mono fun _ _ h => h.mono (le_rest (Hp.le_trans hDk hD1) (fun b o h => Nat.le_trans nw1.mod.size (hf b o (hDk b o h))) hgk)
  have hO1 : Out W H1 H1 p1 n1 c1 (s.tick e.time).table := ⟨Hp.le_refl _, rows, g, ho1, hg, ha1⟩
  have hn1 := hO1.len
  have hT1 : Tab H1 p1 n1 c1 (s.tick e.time).table := (Out.tab' ho1 hg ha1).mono (newer_le W H1)
  have hinc := htok.table.ord
  have hl3 := htok.table.len
  have htl : (s.tick e.time).clock = max s.clock e.time := rfl
  have hgK : ∀ b, g = some b → H b = none := fun b hb => old_none hH (hg b hb)
  refine Cl.same (c_rfind hT1 e.client) fun _ _ hx2 => ⟨_, rfl, hx2, fun hk => ?_, fun hk => ?_⟩
  · -- an Open
    rcases ix_pos hinc e.client with ⟨hix, hh⟩ | ⟨hix, hh⟩
    · rw [hix]
      have hh' : ¬ hasT (s.tick e.time).table e.client = true := by rw [hh]; simp
      refine ⟨fun h => absurd h (by omega), fun _ => ⟨by omega, fun _ => ⟨fun h3 => ?_, fun h3 => ?_⟩⟩⟩
      · exact Rt.ap (r := (s.tick e.time, -2, false)) (by unfold Sta.apply Sta.does; rw [if_pos hk, if_neg hh', if_pos (by omega)]) (Out.tab' ho1 hg ha1)
      · have hse : (⟨e.client, 0, max s.clock e.time, []⟩ : Ses).err = 0 := ses_err_iff.2 ⟨he.client, by simp only; omega, htck, rfl⟩
        refine Cl.fresh (c_putOf hT1 (s := ⟨e.client, 0, max s.clock e.time, []⟩) (q0 := none) (m0 := 0) (d0 := 0) ⟨Nat.le_refl _, by simp [maxLen], Rows.nil _ _ _⟩) ?_
        rintro v W3 W4 D2 ⟨p2, n2, c2, rfl, hT2⟩ hx3 hD2 hf2 nw2
        have hput : sPut (s.tick e.time).table ⟨e.client, 0, max s.clock e.time, []⟩ = (putT (s.tick e.time).table ⟨e.client, 0, max s.clock e.time, []⟩, 0) := by
          unfold sPut
          rw [if_pos (tabErr_ok.2 htok.table), if_pos hse, if_neg]
          rw [put_len hinc, hh]
          simp only [Bool.false_eq_true, if_false]
          omega
        rw [hput] at hT2
        refine ⟨p2, n2, c2, _, rfl, hx3, D2, hD2, hf2, fun H2 h12 hD3 => ?_⟩
        exact Rt.ap (r := ({ s.tick e.time with table := putT (s.tick e.time).table ⟨e.client, 0, max s.clock e.time, []⟩ }, 0, false)) (by unfold Sta.apply Sta.does; rw [if_pos hk, if_neg hh', if_neg (by omega)]; rfl) (hT2.mono (le_newer hD3 (fun b o h => Nat.le_trans nw2.mod.size (hf2 b o h))))
    · rw [hix]
      have hpl := pos_lt hinc hh
      obtain ⟨_, _, i3, _, _⟩ := split_at e.client _ hinc
      obtain ⟨x, hx4, hxc, hxf⟩ := i3 hh
      obtain ⟨q, m, d, hrow, hq, hat⟩ := Out.row ho1 ha1 hx4
      have hat0 := hat (0 + (posT (s.tick e.time).table e.client : Int) * 4) (by omega)
      refine ⟨fun _ => ⟨⟨by omega, by omega⟩, fun _ => ⟨hat0.isSome, fun _ => ⟨by omega, fun _ => ?_⟩⟩⟩, fun h => absurd h (by omega)⟩
      intro W5 n5 _
      obtain ⟨ti, z, i1, i2, i4, i5, i6, i7⟩ := info_of infoInt
      obtain ⟨W6, H2, hrun, hu, ho2⟩ := ek_store (P := Tryz.prog) (t := 3) i1 n5.sub ho1 (i := posT (s.tick e.time).table e.client) (j := 2) (vs := [vi (max s.clock e.time)]) (v := vi (max s.clock e.time)) hrow rfl i4 (by simp) (by simp) (fun u hu => by simp only [List.mem_singleton] at hu; subst hu; rfl) (off := 0 + (posT (s.tick e.time).table e.client : Int) * 4 + 2) (by omega)
      refine ⟨W6, hrun, H2, hu.own ho1 (fun b hb => .inl (hg b hb)), ?_⟩
      have ha2 := (ha1.mono fun _ _ h => h.mono (rest_upd W hu n5.sub)).set (posT (s.tick e.time).table e.client) (a := segRow [vi x.client, vi x.acked, vi x.seen, vsl q m d] 2 [vi (max s.clock e.time)]) (b := { x with seen := max s.clock e.time }) ⟨q, m, d, rfl, hq.mono (rest_upd W hu n5.sub)⟩
      have hsp := set_put hinc (s := { x with seen := max s.clock e.time }) (by simp only [hxc]; exact hh)
      simp only [hxc] at hsp
      have hxe : ({ x with seen := max s.clock e.time } : Ses) = ⟨e.client, x.acked, max s.clock e.time, x.kept⟩ := by rw [← hxc]
      rw [hxe, hsp] at ha2
      refine Rt.ap (r := ({ s.tick e.time with table := putT (s.tick e.time).table ⟨e.client, x.acked, max s.clock e.time, x.kept⟩ }, 0, false)) ?_ (Out.tab' ho2 hg ha2)
      unfold Sta.apply Sta.does
      rw [if_pos hk, if_pos hh, hxf, ← hxe]
      rfl
  · rcases ix_pos hinc e.client with ⟨hix, hh⟩ | ⟨hix, hh⟩
    · rw [hix]
      have hh' : ¬ hasT (s.tick e.time).table e.client = true := by rw [hh]; simp
      exact ⟨fun _ => Rt.ap (r := (s.tick e.time, -3, false)) (by unfold Sta.apply Sta.does; rw [if_neg hk, if_neg hh']) (Out.tab' ho1 hg ha1), fun h => absurd (by omega) h⟩
    · rw [hix]
      have hpl := pos_lt hinc hh
      refine ⟨fun h => absurd h (by omega), fun _ => ⟨fun hk3 => ?_, fun hk3 => ?_⟩⟩
      · refine Cl.fresh (c_without hT1 (Small.of_ok htok.table) e.client) ?_
        rintro v W3 W4 D2 ⟨p2, n2, c2, g2, rfl, hO2⟩ hx3 hD2 hf2 nw2
        refine ⟨p2, n2, c2, rfl, hx3, D2, hD2, hf2, fun H2 h12 hD3 => ?_⟩
        exact Rt.ap (r := ({ s.tick e.time with table := dropT (s.tick e.time).table e.client }, 0, false)) (by unfold Sta.apply Sta.does; rw [if_neg hk, if_pos hh, if_pos hk3]) (hO2.tab.mono (le_newer hD3 (fun b o h => Nat.le_trans nw2.mod.size (hf2 b o h))))
      · -- a Call
        obtain ⟨_, _, i3, _, _⟩ := split_at e.client _ hinc
        obtain ⟨x, hx4, hxc, hxf⟩ := i3 hh
        have hk2 : e.kind = 2 := by have := he.kind; omega
        obtain ⟨q1, q2, q3⟩ := he.call hk2
        have hxok := htok.table.one x (List.mem_of_getElem? hx4)
        obtain ⟨x1, x2, x3, x4⟩ := ses_err_iff.1 hxok
        have hxk3 := kept_len3 hxok
        have em2 : (if x.acked < e.ack then e.ack else x.acked) = max x.acked e.ack := by omega
        obtain ⟨q, m, d, hrow, hq, hat⟩ := Out.row ho1 ha1 hx4
        have hat0 := hat (0 + (posT (s.tick e.time).table e.client : Int) * 4) (by omega)
        have hq1 : Kept H1 q m d x.kept := hq.mono (rest_le W g H1)
        have hm := hq1.len
        have hap : s.apply e = (s.tick e.time).calls (x.ack (max s.clock e.time) e.ack) e := by
          unfold Sta.apply Sta.does
          rw [if_neg hk, if_pos hh, if_neg hk3, hxf]
          rfl
        refine ⟨⟨by omega, by omega⟩, fun _ => ⟨hat0.isSome, fun _ => ⟨_, _, _, q, m, d, hat0, fun b3 => ?_⟩⟩⟩
        rw [em2]
        refine ⟨fun v K => match v with | [.n k, .p r, .n a, .n y] => k ≤ m ∧ H1.le K ∧ ∃ g2, Ow K 77 2 r a y (((x.kept.take k).filter fun r => decide (max x.acked e.ack < r.seq)).map Rep.row) g2 ∧ ∀ b, g2 = some b → W.heap.size ≤ b ∧ H1 b = none | _ => False,
          fun v => match v with | [.n k, _, _, _] => m - k | _ => 0, ⟨by omega, Hp.le_refl _, none, Ow.nil _ _ _ _, fun b h => by cases h⟩, fun K j r a y hI => ?_⟩
        rw [map0] at hI
        obtain ⟨hj, hle, g2, ho2, hg2⟩ := hI
        have htn : ((j : Int) + 1).toNat = j + 1 := by omega
        have hal : a ≤ 3 := by
          have h1 := ho2.1
          have h2 := List.length_filter_le (fun r : Rep => decide (max x.acked e.ack < r.seq)) (x.kept.take j)
          rw [List.length_map] at h1
          rw [List.length_take] at h2
          omega
        refine ⟨by omega, fun _ => ⟨fun hlt => ⟨⟨by omega, hlt⟩, fun _ => ?_⟩, fun hge => ?_⟩⟩
        · obtain ⟨u, hu, hatr⟩ := (hq1.mono hle).at (k := j) (by omega)
          have hatr0 := hatr (0 + (j : Int) * 2) (by omega)
          refine ⟨hatr0.1.isSome, fun _ => ⟨_, hatr0.2.1, fun hp => ⟨_, _, hatr0.1, fun b4 => ?_⟩, fun hp => ?_⟩⟩
          · intro W5 n5 k5
            obtain ⟨r', y', g3, W6, H3, hrun, hu3, ho3, hg3, _⟩ := run_append1 (P := Tryz.prog) Tryz.underlying73 infoRep (by omega) n5.sub ho2 (row := [vi u.seq, vi u.val]) k5.1.eq k5.1.off rfl (fun v hv => by
              simp only [List.mem_cons, List.not_mem_nil, or_false] at hv
              rcases hv with rfl | rfl <;> rfl) (by simp only [maxLen]; omega) (by omega) 73
            refine ⟨r', a + 1, y', W6, hrun, H3, hu3.own ho2 (fun b hb => .inl (hg2 b hb).1), in64 (by omega), fun _ => ⟨by omega, fun _ => ⟨by omega, fun _ => ⟨by omega, fun _ => ?_⟩⟩⟩⟩
            rw [map0, htn]
            refine ⟨⟨by omega, hu3.keep n5.sub hle (fun b hb => (hg2 b hb).2), g3, ?_, fun b hb => ?_⟩, by simp only; omega⟩
            · rw [filter_take _ hu, if_pos (by simpa using hp), List.map_append]
              exact ho3
            · rcases hg3 with h | h
              · exact hg2 b (h ▸ hb)
              · rw [h] at hb
                simp only [Option.some.injEq] at hb
                exact ⟨by have := n5.mod.size; omega, old_none (Hp.le_trans hle n5.sub) (by omega)⟩
          · refine ⟨in64 (by omega), fun _ => ⟨by omega, fun _ => ⟨by omega, fun _ => ⟨by omega, fun _ => ?_⟩⟩⟩⟩
            rw [map0, htn]
            refine ⟨⟨by omega, hle, g2, ?_, hg2⟩, by simp only; omega⟩
            rw [filter_take _ hu, if_neg (by simpa using hp), List.append_nil]
            exact ho2
        · have e3 : x.kept.take j = x.kept := List.take_of_length_le (by omega)
          rw [e3] at ho2
          intro W5 n5 _
          obtain ⟨ti, z, i1, i2, i4, i5, i6, i7⟩ := info_of infoSes
          have hoK : Ow K 75 4 p1 n1 c1 rows g := ho1.mono fun b _ o h => hle b o h
          obtain ⟨W6, H3, hrun, hu, ho3⟩ := ek_store (P := Tryz.prog) (t := 75) i1 n5.sub hoK (i := posT (s.tick e.time).table e.client) (j := 0) (vs := [vi x.client, vi (max x.acked e.ack), vi (max s.clock e.time), vsl r a y]) (v := .agg #[vi x.client, vi (max x.acked e.ack), vi (max s.clock e.time), vsl r a y]) hrow rfl i4 (by simp) (by simp) (fun u hu => by
            simp only [List.mem_cons, List.not_mem_nil, or_false] at hu
            rcases hu with rfl | rfl | rfl | rfl <;> rfl) (off := 0 + (posT (s.tick e.time).table e.client : Int) * 4) (by omega)
          have hgg : ∀ b, g2 = some b → g ≠ some b := fun b hb h => by
            obtain ⟨o, h2⟩ := ho1.held b h
            rw [(hg2 b hb).2] at h2; cases h2
          have hkr : Kept (rest W g H3) r a y (x.ack (max s.clock e.time) e.ack).kept := Kept.of_ow (ho2.mono fun b hb o h => by
            unfold rest
            rw [if_pos ⟨(hg2 b hb).1, hgg b hb⟩, hu.same b (heap_lt (n5.sub b o h)) (hgg b hb)]
            exact h)
          have ha3 := (ha1.mono fun _ _ h => h.mono (Hp.le_trans (rest_mono W g hle) (rest_upd W hu n5.sub))).set (posT (s.tick e.time).table e.client) (a := segRow [vi x.client, vi x.acked, vi x.seen, vsl q m d] 0 [vi x.client, vi (max x.acked e.ack), vi (max s.clock e.time), vsl r a y]) (b := x.ack (max s.clock e.time) e.ack) ⟨r, a, y, rfl, hkr⟩
          have hak := ack_inc hxok (clock := max s.clock e.time) (a := e.ack)
          have hacl : (x.ack (max s.clock e.time) e.ack).client = e.client := hxc
          have haa : (x.ack (max s.clock e.time) e.ack).acked = max x.acked e.ack := rfl
          generalize hw : x.ack (max s.clock e.time) e.ack = w at ha3 hkr hap hak hacl haa ⊢
          rw [← haa] at hrun ⊢
          have hset : ∀ z : Ses, z.client = e.client → (s.tick e.time).table.set (posT (s.tick e.time).table e.client) z = putT (s.tick e.time).table z := fun z hz => by
            rw [← hz]; exact set_put hinc (by rw [hz]; exact hh)
          have hput : (s.tick e.time).table.set (posT (s.tick e.time).table e.client) w = putT (s.tick e.time).table w := hset w hacl
          have haw : 0 ≤ w.acked ∧ w.acked ≤ 60 := by omega
          have hkw : Kept H3 r a y w.kept := hkr.mono (rest_le W g H3)
          have hwl := hkw.len
          have htab : ∀ (X : Hp), H3.le X → Tab (newer W X) p1 n1 c1 (putT (s.tick e.time).table w) := fun X hX => by
            have := Out.tab' (ho3.mono fun b _ o h => hX b o h) hg (ha3.mono fun _ _ h => h.mono (rest_mono W g hX))
            rw [hput] at this
            exact this
          refine ⟨W6, hrun, H3, hu.own hoK (fun b hb => .inl (hg b hb)), fun hst => ?_, fun hst => ?_⟩
          · exact Rt.ap (r := ({ s.tick e.time with table := putT (s.tick e.time).table w }, -4, false)) (by rw [hap]; unfold Sta.calls; rw [if_pos hst]) (htab H3 (Hp.le_refl _))
          · refine ⟨fun v X => match v with | [.n k] => k ≤ a ∧ H3.le X ∧ ∀ (i : Nat) (t : Rep), i < k → w.kept[i]? = some t → t.seq ≠ e.seq | _ => False, fun v => match v with | [.n k] => a - k | _ => 0, ⟨by omega, Hp.le_refl _, fun i t h => by omega⟩, fun X k hI => ?_⟩
            obtain ⟨hka, hX, hno⟩ := hI
            have hkn : ((k : Int) + 1).toNat = k + 1 := by omega
            refine ⟨by omega, fun _ => ⟨fun hlt => ⟨⟨by omega, hlt⟩, fun _ => ?_⟩, fun hge => ?_⟩⟩
            · obtain ⟨u, hu2, hatr⟩ := (hkw.mono hX).at (k := k) (by omega)
              have hatr0 := hatr (0 + (k : Int) * 2) (by omega)
              refine ⟨hatr0.1.isSome, fun _ => ⟨_, hatr0.2.1, fun heq => ⟨by omega, fun _ => ⟨_, hatr0.2.2, ?_⟩⟩, fun hne => ⟨in64 (by omega), fun _ => ⟨by omega, fun _ => ?_⟩⟩⟩⟩
              · obtain ⟨_, _, j3, _, _⟩ := split_atK e.seq w.kept hak
                have hhk : hasK w.kept e.seq = true := by
                  unfold hasK
                  rw [List.any_eq_true]
                  exact ⟨u, List.mem_of_getElem? hu2, by simpa using heq⟩
                obtain ⟨t, t1, t2, t3⟩ := j3 hhk
                have htu : t = u := by
                  obtain ⟨m1, m2⟩ := List.getElem?_eq_some_iff.1 t1
                  obtain ⟨l1, l2⟩ := List.getElem?_eq_some_iff.1 hu2
                  rw [IncK, List.pairwise_iff_getElem] at hak
                  rcases Nat.lt_trichotomy k (posK w.kept e.seq) with h | h | h
                  · have := hak k _ l1 m1 h; rw [l2, m2] at this; omega
                  · subst h; rw [t1] at hu2; simpa using hu2
                  · have := hak _ k m1 l1 h; rw [l2, m2] at this; omega
                rw [← htu, ← t3]
                exact Rt.ap (r := ({ s.tick e.time with table := putT (s.tick e.time).table w }, (findK w.kept e.seq).val, false)) (by rw [hap]; unfold Sta.calls; rw [if_neg hst, if_pos hhk]) (htab X hX)
              · rw [hkn]
                refine ⟨⟨by omega, hX, fun i t hi hit => ?_⟩, by simp only; omega⟩
                rcases Nat.lt_or_ge i k with h | h
                · exact hno i t h hit
                · have : i = k := by omega
                  subst this
                  rw [hu2] at hit
                  simp only [Option.some.injEq] at hit
                  rw [← hit]; exact hne
            · have hhk : hasK w.kept e.seq = false := by
                unfold hasK
                rw [List.any_eq_false]
                intro t ht
                obtain ⟨i, hi⟩ := List.mem_iff_getElem?.1 ht
                have := (List.getElem?_eq_some_iff.1 hi).1
                have := hno i t (by omega) hi
                simpa using this
              have hhk' : ¬ hasK w.kept e.seq = true := by rw [hhk]; simp
              refine ⟨in64 (by omega), fun _ => ⟨fun hfar => ?_, fun hfar => ?_⟩⟩
              · exact Rt.ap (r := ({ s.tick e.time with table := putT (s.tick e.time).table w }, -5, false)) (by rw [hap]; unfold Sta.calls; rw [if_neg hst, if_neg hhk', if_pos hfar]) (htab X hX)
              · refine Cl.same (c_did e.op q3 htok.vals X) fun _ _ hx5 => ⟨_, _, _, _, _, rfl, hx5, fun b4 => ?_⟩
                generalize hr : e.op.turn (s.tick e.time).vals = t2
                have tail : ∀ (Y : Hp) (i : Nat), i ≤ a → X.le Y → (∀ (l : Nat) (t : Rep), l < i → w.kept[l]? = some t → t.seq < e.seq) → (∀ (l : Nat) (t : Rep), i ≤ l → w.kept[l]? = some t → e.seq ≤ t.seq) →
                    TailP W Y (fun z W' => ∃ v D, z = .returned v ∧ Ext W W' ∧ D.le (hpOf W') ∧ (∀ b o, D b = some o → W.heap.size ≤ b) ∧ APost (s.apply e) v D) r a y i p1 (posT (s.tick e.time).table e.client : Int) e.seq t2.2 (.tuple #[({ s.tick e.time with vals := t2.1 } : Sta).val (vsl p1 n1 c1), vi t2.2, vb true]) := fun Y i hi hY hlow hhigh => by
                  have hpk : posK w.kept e.seq = i := by
                    rcases filter_splitK hlow hhigh (by omega) with ⟨h1, _⟩ | h1
                    · exact h1
                    · exact absurd hak h1
                  refine tail_ok (noH_le _) (ho3.mono fun b _ o h => hY b o (hX b o h)) hg (ha3.mono fun _ _ h => h.mono (rest_mono W g (Hp.le_trans hX hY))) (s := w) (by rw [List.getElem?_set_self hpl]) (hkw.mono (Hp.le_trans hX hY)) hak (by omega) hpk hhk (fun H9 rows' hkeep ho9 ha9 => ?_)
                  rw [List.set_set, hset { w with kept := putK w.kept ⟨e.seq, t2.2⟩ } hacl] at ha9
                  exact Rt.ap (r := ({ s.tick e.time with vals := t2.1, table := putT (s.tick e.time).table { w with kept := putK w.kept ⟨e.seq, t2.2⟩ } }, t2.2, true)) (by rw [hap]; unfold Sta.calls; rw [if_neg hst, if_neg hhk', if_neg hfar, hr]) (Out.tab' ho9 hg ha9)
                refine ⟨fun v Y => match v with | [.n i] => i ≤ a ∧ X.le Y ∧ ∀ (l : Nat) (t : Rep), l < i → w.kept[l]? = some t → t.seq < e.seq | _ => False, fun v => match v with | [.n i] => a - i | _ => 0, ⟨by omega, Hp.le_refl _, fun l t h => by omega⟩, fun Y i hI => ?_⟩
                obtain ⟨hia, hY, hlow⟩ := hI
                have hin : ((i : Int) + 1).toNat = i + 1 := by omega
                refine ⟨fun hlt => ⟨⟨by omega, hlt⟩, fun _ => ?_⟩, fun hge => ?_⟩
                · obtain ⟨u, hu2, hatr⟩ := (hkw.mono (Hp.le_trans hX hY)).at (k := i) (by omega)
                  have hatr0 := hatr (0 + (i : Int) * 2) (by omega)
                  refine ⟨hatr0.1.isSome, fun _ => ⟨_, hatr0.2.1, fun hls => ⟨in64 (by omega), fun _ => ⟨by omega, fun _ => ?_⟩⟩, fun hls => ?_⟩⟩
                  · rw [hin]
                    refine ⟨⟨by omega, hY, fun l t hl hlt2 => ?_⟩, by simp only; omega⟩
                    rcases Nat.lt_or_ge l i with h | h
                    · exact hlow l t h hlt2
                    · have : l = i := by omega
                      subst this
                      rw [hu2] at hlt2
                      simp only [Option.some.injEq] at hlt2
                      rw [← hlt2]; exact hls
                  · refine tail Y i hia hY hlow fun l t hl hlt2 => ?_
                    rcases Nat.eq_or_lt_of_le hl with h | h
                    · subst h
                      rw [hu2] at hlt2
                      simp only [Option.some.injEq] at hlt2
                      rw [← hlt2]; omega
                    · obtain ⟨l1, l2⟩ := List.getElem?_eq_some_iff.1 hu2
                      obtain ⟨m1, m2⟩ := List.getElem?_eq_some_iff.1 hlt2
                      rw [IncK, List.pairwise_iff_getElem] at hak
                      have := hak i l l1 m1 h
                      rw [l2, m2] at this
                      omega
                · refine tail Y i hia hY hlow fun l t hl hlt2 => ?_
                  have := (List.getElem?_eq_some_iff.1 hlt2).1
                  omega
end Go.Proofs.YtfpmcmhihhnfgaaGreat
namespace Go.Proofs.YtfpmcmhihhnfgaaGreat
open Go.RowKit

theorem c_stOwn {H : Hp} {p : Option Loc} {n c : Nat} {s : Sta} (hT : Tab H p n c s.table) (hs : Small s.table) : Gf Tryz.prog 44 #[s.val (vsl p n c)] H fun v D => ∃ p' c' es g, v = s.val (vsl p' n c') ∧ OTab D p' n c' es g ∧ es.map Cel.s = s.table := fun W hH => by
  refine x_stOwn _ _ _ _ _ _ p n c noM H W _ hH fun b0 b1 => Cl.fresh (c_own2 hT hs) ?_
  rintro v W1 W2 D ⟨p', c', es, g, rfl, hO, he⟩ hx hD hf n1
  exact ⟨p', n, c', rfl, hx, D, hD, hf, fun H1 h01 hD1 => Rt.gfn ⟨p', c', es, g, rfl, hO.mono (le_newer hD1 (fun b o h => Nat.le_trans n1.mod.size (hf b o h))), he⟩⟩
theorem drop_neg {l : List Ses} (h : TabOk l) : dropT l (-1) = l := List.filter_eq_self.2 fun x hx => by
  have := (ses_err_iff.1 (h.one x hx)).1
  simp only [ne_eq, decide_not, Bool.not_eq_eq_eq_not, Bool.not_true, decide_eq_false_iff_not]
  omega
theorem c_ownState {H : Hp} {p : Option Loc} {n c : Nat} {s : Sta} (hT : Tab H p n c s.table) (hs : TabOk s.table) : Gf Tryz.prog 24 #[s.val (vsl p n c)] H fun v D => ∃ p' n' c', v = s.val (vsl p' n' c') ∧ Tab D p' n' c' s.table := fun W hH => by
  refine x_ownState _ _ _ _ _ _ p n c noM H W _ hH fun b0 b1 => Cl.fresh (c_without hT (Small.of_ok hs) (-1)) ?_
  rintro v W1 W2 D ⟨p', n', c', g, rfl, hO⟩ hx hD hf n1
  rw [drop_neg hs] at hO
  exact ⟨p', n', c', rfl, hx, D, hD, hf, fun H1 h01 hD1 => Rt.gfn ⟨p', n', c', rfl, hO.tab.mono (le_newer hD1 (fun b o h => Nat.le_trans n1.mod.size (hf b o h)))⟩⟩
theorem c_next {H : Hp} {p : Option Loc} {n c : Nat} {s : Sta} (hT : Tab H p n c s.table) (hs : StOk s) (hp : s.pos < 50) {e : Ent} (he : EntOk e) : Gf Tryz.prog 47 #[s.val (vsl p n c), e.val] H fun v D => ∃ p' n' c' es g, v = .tuple #[(s.apply e).1.val (vsl p' n' c'), vi (s.apply e).2.1, vb (s.apply e).2.2] ∧ OTab D p' n' c' es g ∧ es.map Cel.s = (s.apply e).1.table := fun W hH => by
  refine x_appNext _ _ _ _ _ _ p n c _ _ _ _ _ _ _ _ _ noM H W _ hH fun b0 b1 b2 => ?_
  refine Cl.fresh (c_stOwn hT (Small.of_ok hs.table)) ?_
  rintro v W1 W2 D ⟨p1, c1, es1, g1, rfl, hO1, he1⟩ hx hD hf n1
  refine ⟨_, _, _, _, _, _, p1, n, c1, rfl, hx, D, hD, hf, fun H1 h01 hD1 b3 => ?_⟩
  have hT1 := (hO1.mono hD1).tab
  rw [he1] at hT1
  refine Cl.both (c_mapply hT1 hs hp he b3 b0) (fun b hb => hb.elim) (fun W k => ⟨k.1, k.2.1⟩) (fun W k h => ?_) ?_
  · subst h
    have h1 := k.1.eq
    rw [k.2.1.eq] at h1
    simp at h1
  rintro v W3 W4 D0 D1 H' ⟨p2, n2, c2, es2, g2, rfl, rfl, rfl, hO2, he2, hf2⟩ n3 hd hbt
  refine ⟨_, some (b0, 0), _, _, _, _, _, _, _, p2, n2, c2, rfl, hbt _ (Rt.gfn ⟨p2, n2, c2, es2, g2, rfl, hO2.mono' fun b hb o ho => ?_, he2⟩)⟩
  rw [newer_at]
  · exact ho
  · rcases hf2 b hb with h | h
    · exact h.elim
    · rcases hd b o ho with ⟨o', h'⟩ | h'
      · rw [h] at h'; cases h'
      · exact Nat.le_trans n3.mod.size h'
theorem Tab.nil (D : Hp) (p : Option Loc) : Tab D p 0 0 [] := (OwnTab.nil D p).tab
end Go.Proofs.YtfpmcmhihhnfgaaGreat
