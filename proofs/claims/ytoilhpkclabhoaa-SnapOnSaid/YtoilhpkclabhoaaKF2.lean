/- Symbolic runs of functions: what each leaves to prove is enough for its call. Printed by a program of ours. No conditions. Contracts: entries checked, and folded as the document says. No conditions. Contract: the steps of a fold, as a loop takes them. No conditions. Contracts: the last state; all entries; the document's fold. No conditions. -/
import Derived.Test.YtoilhpkclabhoaaKE3
import Derived.Test.YtoilhpkclabhoaaProg
import Derived.Test.YtoilhpkclabhoaaKF1
import Derived.Test.YtoilhpkclabhoaaKA5
import Derived.Test.YtoilhpkclabhoaaKE4
set_option linter.unusedVariables false
set_option linter.unusedSimpArgs false
namespace Go.Proofs.Ytoilhpkclabhoaa
open Go.RowKit
set_option maxRecDepth 100000
set_option maxHeartbeats 4000000
def v_foldCheck : VC :=
(.chk (.le (.k 0) (.v 1))
(.ite (.lt (.k 50) (.v 1))
(.ret (.int .i64 (.k 2)) [])
(.loop [(3, .n)] [.n (.k 0)] [.n (.v 3)]
(.ite (.lt (.v 3) (.v 1))
(.chk (.idx (.v 3) (.v 1))
(.chk (.isp 0)
(.ld 0 (.add (.k 0) (.mul (.v 3) (.k 9))) [.int .i64 (.v 4), .int .i64 (.v 5), .int .i64 (.v 6), .int .i64 (.v 7), .int .i64 (.v 8), .int .i64 (.v 9), .int .i64 (.v 10), .int .i64 (.v 11), .int .i64 (.v 12)] [(4, .i), (5, .i), (6, .i), (7, .i), (8, .i), (9, .i), (10, .i), (11, .i), (12, .i)]
(.all 0
(.call 43 [.agg [.int .i64 (.v 4), .int .i64 (.v 5), .int .i64 (.v 6), .int .i64 (.v 7), .int .i64 (.v 8), .int .i64 (.v 9), .int .i64 (.v 10), .int .i64 (.v 11), .int .i64 (.v 12)]] [] [(13, .i)] (.int .i64 (.v 13)) .same
(.ite (.eq (.v 13) (.k 0))
(.chk (.rng .i64 (.add (.v 3) (.k 1)))
(.chk (.le (.k 0) (.add (.v 3) (.k 1)))
(.back 0 [.n (.add (.v 3) (.k 1))])))
(.ret (.int .i64 (.v 13)) [])))))))
(.ret (.int .i64 (.k 0)) [])))))
theorem x_foldCheck (x0 : Option Loc) (x1 : Nat) (x2 : Nat) (M : Nat → Prop) (H0 : Hp) (W0 : World) (R : Ending → World → Prop) (hH : H0.le (hpOf W0)) (h :
 (0 ≤ (x1 : Int) ∧ (0 ≤ (x1 : Int) →
 ((50 < (x1 : Int) →
  Rt R W0 M H0 nK (vi 2)) ∧
 (¬ (50 < (x1 : Int)) →
  (∃ (I0 : List Dat → Hp → Prop) (μ0 : List Dat → Nat), I0 [.n 0] H0 ∧ ∀ H1 : Hp, ∀ x3 : Nat, I0 [.n x3] H1 →
   (((x3 : Int) < (x1 : Int) →
    (((0 : Int) ≤ (x3 : Int) ∧ (x3 : Int) < (x1 : Int)) ∧ (((0 : Int) ≤ (x3 : Int) ∧ (x3 : Int) < (x1 : Int)) →
    (x0.isSome = true ∧ (x0.isSome = true →
    (∃ x4 : Int, ∃ x5 : Int, ∃ x6 : Int, ∃ x7 : Int, ∃ x8 : Int, ∃ x9 : Int, ∃ x10 : Int, ∃ x11 : Int, ∃ x12 : Int, RowAt H1 x0 (0 + ((x3 : Int) * 9)) [vi x4, vi x5, vi x6, vi x7, vi x8, vi x9, vi x10, vi x11, vi x12] ∧
    (∀ b0 : Nat,
    (Cl Try.prog W0 M H1 nK 43 #[Value.agg #[vi x4, vi x5, vi x6, vi x7, vi x8, vi x9, vi x10, vi x11, vi x12]] fun z W1 W2 => ∃ x13 : Int, z = .returned (vi x13) ∧ Ext W1 W2 ∧
    ((x13 = 0 →
     (inKind .i64 ((x3 : Int) + 1) ∧ (inKind .i64 ((x3 : Int) + 1) →
     (0 ≤ ((x3 : Int) + 1) ∧ (0 ≤ ((x3 : Int) + 1) →
     (I0 [.n (((x3 : Int) + 1) : Int).toNat] H1 ∧ μ0 [.n (((x3 : Int) + 1) : Int).toNat] < μ0 [.n x3])))))) ∧
    (¬ (x13 = 0) →
     Rt R W0 M H1 nK (vi x13))))))))))) ∧
   (¬ ((x3 : Int) < (x1 : Int)) →
    Rt R W0 M H1 nK (vi 0))))))))) :
  Calls Try.prog 58 #[vsl x0 x1 x2] W0 R :=
  calls_sxA (M := M) (V := v_foldCheck) (hi := {loops := [(4, .inv [(11, .nat)] [])]}) (args := [.slO 0 (.k 0) (.v 1) (.v 2)]) (nv := 3) (e := (upd (upd (upd (fun _ => .i 0) 0 (.p x0)) 1 (.n x1)) 2 (.n x2))) Try.func58 hH h (by kernel_rfl) (by kernel_rfl) (by kernel_rfl)
def v_steps : VC :=
(.all 0
(.all 1
(.ret (.func 73 [] [.ptrK 1 0, .ptrK 0 0]) [(1, ⟨[.slO 9 (.k 0) (.v 10) (.v 11)], 38⟩), (0, ⟨[.int .i64 (.v 0), .int .i64 (.v 1), .int .i64 (.v 2), .int .i64 (.v 3), .int .i64 (.v 4), .int .i64 (.v 5), .slO 6 (.k 0) (.v 7) (.v 8)], 25⟩)])))
theorem x_steps (x0 : Int) (x1 : Int) (x2 : Int) (x3 : Int) (x4 : Int) (x5 : Int) (x6 : Option Loc) (x7 : Nat) (x8 : Nat) (x9 : Option Loc) (x10 : Nat) (x11 : Nat) (M : Nat → Prop) (H0 : Hp) (W0 : World) (R : Ending → World → Prop) (hH : H0.le (hpOf W0)) (h :
 (∀ b0 : Nat,
 (∀ b1 : Nat,
 Rt R W0 M H0 (fun W => Kn W0 M H0 W b1 (Obj.cells #[vsl x9 x10 x11] 38 (0, 0)) ∧ Kn W0 M H0 W b0 (Obj.cells #[vi x0, vi x1, vi x2, vi x3, vi x4, vi x5, vsl x6 x7 x8] 25 (0, 0)) ∧ True) (Value.func (.func 73) #[] #[Value.pointer (some ⟨b1, 0, none⟩), Value.pointer (some ⟨b0, 0, none⟩)])))) :
  Calls Try.prog 60 #[Value.agg #[vi x0, vi x1, vi x2, vi x3, vi x4, vi x5, vsl x6 x7 x8], vsl x9 x10 x11] W0 R :=
  calls_sxA (M := M) (V := v_steps) (hi := {funs := [(60, 73, 2)]}) (args := [.agg [.int .i64 (.v 0), .int .i64 (.v 1), .int .i64 (.v 2), .int .i64 (.v 3), .int .i64 (.v 4), .int .i64 (.v 5), .slO 6 (.k 0) (.v 7) (.v 8)], .slO 9 (.k 0) (.v 10) (.v 11)]) (nv := 12) (e := (upd (upd (upd (upd (upd (upd (upd (upd (upd (upd (upd (upd (fun _ => .i 0) 0 (.i x0)) 1 (.i x1)) 2 (.i x2)) 3 (.i x3)) 4 (.i x4)) 5 (.i x5)) 6 (.p x6)) 7 (.n x7)) 8 (.n x8)) 9 (.p x9)) 10 (.n x10)) 11 (.n x11))) Try.func60 hH h (by kernel_rfl) (by kernel_rfl) (by kernel_rfl)
def v_steps1 : VC :=
(.ld 1 (.k 0) [.slO 3 (.k 0) (.v 4) (.v 5)] [(3, .p), (4, .n), (5, .n)]
(.chk (.le (.k 0) (.v 4))
(.loop [(6, .n)] [.n (.k 0)] [.n (.v 6)]
(.ite (.lt (.v 6) (.v 4))
(.chk (.idx (.v 6) (.v 4))
(.chk (.isp 3)
(.ld 3 (.add (.k 0) (.mul (.v 6) (.k 9))) [.int .i64 (.v 7), .int .i64 (.v 8), .int .i64 (.v 9), .int .i64 (.v 10), .int .i64 (.v 11), .int .i64 (.v 12), .int .i64 (.v 13), .int .i64 (.v 14), .int .i64 (.v 15)] [(7, .i), (8, .i), (9, .i), (10, .i), (11, .i), (12, .i), (13, .i), (14, .i), (15, .i)]
(.all 0
(.all 1
(.ld 2 (.k 0) [.int .i64 (.v 16), .int .i64 (.v 17), .int .i64 (.v 18), .int .i64 (.v 19), .int .i64 (.v 20), .int .i64 (.v 21), .slO 22 (.k 0) (.v 23) (.v 24)] [(16, .i), (17, .i), (18, .i), (19, .i), (20, .i), (21, .i), (22, .p), (23, .n), (24, .n)]
(.call 74 [.agg [.int .i64 (.v 16), .int .i64 (.v 17), .int .i64 (.v 18), .int .i64 (.v 19), .int .i64 (.v 20), .int .i64 (.v 21), .slO 22 (.k 0) (.v 23) (.v 24)], .agg [.int .i64 (.v 7), .int .i64 (.v 8), .int .i64 (.v 9), .int .i64 (.v 10), .int .i64 (.v 11), .int .i64 (.v 12), .int .i64 (.v 13), .int .i64 (.v 14), .int .i64 (.v 15)]] [] [(25, .i), (26, .i), (27, .i), (28, .i), (29, .i), (30, .i), (31, .p), (32, .n), (33, .n), (34, .i), (35, .b)] (.tup [.agg [.int .i64 (.v 25), .int .i64 (.v 26), .int .i64 (.v 27), .int .i64 (.v 28), .int .i64 (.v 29), .int .i64 (.v 30), .slO 31 (.k 0) (.v 32) (.v 33)], .int .i64 (.v 34), .bool (.v 35)]) .fresh
(.esc (.storeO 25) [.ptrO 2 (.k 0), .agg [.int .i64 (.v 25), .int .i64 (.v 26), .int .i64 (.v 27), .int .i64 (.v 28), .int .i64 (.v 29), .int .i64 (.v 30), .slO 31 (.k 0) (.v 32) (.v 33)]] [] [] none .turn
(.yld 0 [.int .i64 (.v 6), .agg [.int .i64 (.v 25), .int .i64 (.v 26), .int .i64 (.v 27), .int .i64 (.v 28), .int .i64 (.v 29), .int .i64 (.v 30), .slO 31 (.k 0) (.v 32) (.v 33), .int .i64 (.v 34), .bool (.v 35)]] []
(.chk (.rng .i64 (.add (.v 6) (.k 1)))
(.chk (.le (.k 0) (.add (.v 6) (.k 1)))
(.back 0 [.n (.add (.v 6) (.k 1))]))))))))))))
(.ret (.tup []) [])))))
theorem x_steps1 (x0 : Nat) (x1 : Option Loc) (x2 : Option Loc) (M : Nat → Prop) (H0 : Hp) (W0 : World) (R : Ending → World → Prop) (hH : H0.le (hpOf W0)) (h :
 (∃ x3 : Option Loc, ∃ x4 : Nat, ∃ x5 : Nat, RowAt H0 x1 0 [vsl x3 x4 x5] ∧
 (0 ≤ (x4 : Int) ∧ (0 ≤ (x4 : Int) →
 (∃ (I0 : List Dat → Hp → Prop) (μ0 : List Dat → Nat), I0 [.n 0] H0 ∧ ∀ H1 : Hp, ∀ x6 : Nat, I0 [.n x6] H1 →
  (((x6 : Int) < (x4 : Int) →
   (((0 : Int) ≤ (x6 : Int) ∧ (x6 : Int) < (x4 : Int)) ∧ (((0 : Int) ≤ (x6 : Int) ∧ (x6 : Int) < (x4 : Int)) →
   (x3.isSome = true ∧ (x3.isSome = true →
   (∃ x7 : Int, ∃ x8 : Int, ∃ x9 : Int, ∃ x10 : Int, ∃ x11 : Int, ∃ x12 : Int, ∃ x13 : Int, ∃ x14 : Int, ∃ x15 : Int, RowAt H1 x3 (0 + ((x6 : Int) * 9)) [vi x7, vi x8, vi x9, vi x10, vi x11, vi x12, vi x13, vi x14, vi x15] ∧
   (∀ b0 : Nat,
   (∀ b1 : Nat,
   (∃ x16 : Int, ∃ x17 : Int, ∃ x18 : Int, ∃ x19 : Int, ∃ x20 : Int, ∃ x21 : Int, ∃ x22 : Option Loc, ∃ x23 : Nat, ∃ x24 : Nat, RowAt H1 x2 0 [vi x16, vi x17, vi x18, vi x19, vi x20, vi x21, vsl x22 x23 x24] ∧
   (Cl Try.prog W0 M H1 nK 74 #[Value.agg #[vi x16, vi x17, vi x18, vi x19, vi x20, vi x21, vsl x22 x23 x24], Value.agg #[vi x7, vi x8, vi x9, vi x10, vi x11, vi x12, vi x13, vi x14, vi x15]] fun z W1 W2 => ∃ x25 : Int, ∃ x26 : Int, ∃ x27 : Int, ∃ x28 : Int, ∃ x29 : Int, ∃ x30 : Int, ∃ x31 : Option Loc, ∃ x32 : Nat, ∃ x33 : Nat, ∃ x34 : Int, ∃ x35 : Bool, z = .returned (Value.tuple #[Value.agg #[vi x25, vi x26, vi x27, vi x28, vi x29, vi x30, vsl x31 x32 x33], vi x34, vb (x35)]) ∧ Fr W1 W2 H1 fun H2 =>
   (Es W0 M H2 nK fun W3 => Eo Try.prog (.storeO 25) [Value.pointer (ptrAt x2 0), Value.agg #[vi x25, vi x26, vi x27, vi x28, vi x29, vi x30, vsl x31 x32 x33]] W3 (.skip) fun W4 => Tn W0 M H2 W3 W4 fun H3 =>
   (Yl Try.prog W0 M H3 nK x0 [vi (x6 : Int), Value.agg #[vi x25, vi x26, vi x27, vi x28, vi x29, vi x30, vsl x31 x32 x33, vi x34, vb (x35)]] fun H4 =>
   (inKind .i64 ((x6 : Int) + 1) ∧ (inKind .i64 ((x6 : Int) + 1) →
   (0 ≤ ((x6 : Int) + 1) ∧ (0 ≤ ((x6 : Int) + 1) →
   (I0 [.n (((x6 : Int) + 1) : Int).toNat] H4 ∧ μ0 [.n (((x6 : Int) + 1) : Int).toNat] < μ0 [.n x6]))))))))))))))))) ∧
  (¬ ((x6 : Int) < (x4 : Int)) →
   Rt R W0 M H1 nK (Value.tuple #[])))))))) :
  Calls Try.prog 73 #[Value.func (.yield x0) #[] #[], Value.pointer (ptrAt x1 0), Value.pointer (ptrAt x2 0)] W0 R :=
  calls_sxA (M := M) (V := v_steps1) (hi := {loops := [(1, .inv [(9, .nat)] [])]}) (args := [.yl 0, .ptrO 1 (.k 0), .ptrO 2 (.k 0)]) (nv := 3) (e := (upd (upd (upd (fun _ => .i 0) 0 (.n x0)) 1 (.p x1)) 2 (.p x2))) Try.func73 hH h (by kernel_rfl) (by kernel_rfl) (by kernel_rfl)
def v_foldAll : VC :=
(.all 0
(.all 1
(.call 11 [.agg [.int .i64 (.v 0), .int .i64 (.v 1), .int .i64 (.v 2), .int .i64 (.v 3), .int .i64 (.v 4), .int .i64 (.v 5), .slO 6 (.k 0) (.v 7) (.v 8)]] [] [(12, .i)] (.int .i64 (.v 12)) .same
(.ite (.eq (.v 12) (.k 0))
(.call 58 [.slO 9 (.k 0) (.v 10) (.v 11)] [] [(13, .i)] (.int .i64 (.v 13)) .same
(.ite (.eq (.v 13) (.k 0))
(.chk (.le (.k 0) (.v 10))
(.chk (.rng .i64 (.add (.v 0) (.v 10)))
(.ite (.lt (.k 50) (.add (.v 0) (.v 10)))
(.ret (.tup [.agg [.int .i64 (.k 0), .int .i64 (.k 0), .int .i64 (.k 0), .int .i64 (.k 0), .int .i64 (.k 0), .int .i64 (.k 0), .c (Value.slice none 0 0)], .c (Value.slice none 0 0), .int .i64 (.k 2)]) [])
(.call 59 [.agg [.int .i64 (.v 0), .int .i64 (.v 1), .int .i64 (.v 2), .int .i64 (.v 3), .int .i64 (.v 4), .int .i64 (.v 5), .slO 6 (.k 0) (.v 7) (.v 8)]] [] [(14, .i), (15, .i), (16, .i), (17, .i), (18, .i), (19, .i), (20, .p), (21, .n), (22, .n)] (.agg [.int .i64 (.v 14), .int .i64 (.v 15), .int .i64 (.v 16), .int .i64 (.v 17), .int .i64 (.v 18), .int .i64 (.v 19), .slO 20 (.k 0) (.v 21) (.v 22)]) .fresh
(.all 2
(.all 3
(.call 60 [.agg [.int .i64 (.v 0), .int .i64 (.v 1), .int .i64 (.v 2), .int .i64 (.v 3), .int .i64 (.v 4), .int .i64 (.v 5), .slO 6 (.k 0) (.v 7) (.v 8)], .slO 9 (.k 0) (.v 10) (.v 11)] [] [(23, .p), (24, .p)] (.func 73 [] [.ptrO 23 (.k 0), .ptrO 24 (.k 0)]) .fresh
(.chk (.le (.k 0) (.v 21))
(.chk (.le (.k 0) (.v 22))
(.rf 73 [.ptrO 23 (.k 0), .ptrO 24 (.k 0)] [(25, .i), (26, .i), (27, .i), (28, .i), (29, .i), (30, .i), (31, .p), (32, .n), (33, .n), (34, .p), (35, .n), (36, .n)] [.i (.v 14), .i (.v 15), .i (.v 16), .i (.v 17), .i (.v 18), .i (.v 19), .p 20 (.k 0), .n (.v 21), .n (.v 22), .pn, .n (.k 0), .n (.k 0)] [.i (.v 25), .i (.v 26), .i (.v 27), .i (.v 28), .i (.v 29), .i (.v 30), .p 31 (.k 0), .n (.v 32), .n (.v 33), .p 34 (.k 0), .n (.v 35), .n (.v 36)] [(37, .i), (38, .i), (39, .i), (40, .i), (41, .i), (42, .i), (43, .i), (44, .p), (45, .n), (46, .n), (47, .i), (48, .b)] [.int .i64 (.v 37), .agg [.int .i64 (.v 38), .int .i64 (.v 39), .int .i64 (.v 40), .int .i64 (.v 41), .int .i64 (.v 42), .int .i64 (.v 43), .slO 44 (.k 0) (.v 45) (.v 46), .int .i64 (.v 47), .bool (.v 48)]]
(.all 4
(.all 5
(.esc (.bi .append #[43, 43] 43) [.slO 34 (.k 0) (.v 35) (.v 36), .slK 5 0 1 1] [(5, ⟨[.int .i64 (.v 47)], 3⟩)] [(49, .p), (50, .n), (51, .n)] (some (.slO 49 (.k 0) (.v 50) (.v 51))) .turn
(.chk (.le (.k 0) (.v 45))
(.chk (.le (.k 0) (.v 46))
(.chk (.le (.k 0) (.v 50))
(.chk (.le (.k 0) (.v 51))
(.back 0 [.i (.v 38), .i (.v 39), .i (.v 40), .i (.v 41), .i (.v 42), .i (.v 43), .p 44 (.k 0), .n (.v 45), .n (.v 46), .p 49 (.k 0), .n (.v 50), .n (.v 51)]))))))))
(.ret (.tup [.agg [.int .i64 (.v 25), .int .i64 (.v 26), .int .i64 (.v 27), .int .i64 (.v 28), .int .i64 (.v 29), .int .i64 (.v 30), .slO 31 (.k 0) (.v 32) (.v 33)], .slO 34 (.k 0) (.v 35) (.v 36), .int .i64 (.k 0)]) [])))))))))))
(.ret (.tup [.agg [.int .i64 (.k 0), .int .i64 (.k 0), .int .i64 (.k 0), .int .i64 (.k 0), .int .i64 (.k 0), .int .i64 (.k 0), .c (Value.slice none 0 0)], .c (Value.slice none 0 0), .int .i64 (.v 13)]) [])))
(.ret (.tup [.agg [.int .i64 (.k 0), .int .i64 (.k 0), .int .i64 (.k 0), .int .i64 (.k 0), .int .i64 (.k 0), .int .i64 (.k 0), .c (Value.slice none 0 0)], .c (Value.slice none 0 0), .int .i64 (.v 12)]) [])))))
theorem x_foldAll (x0 : Int) (x1 : Int) (x2 : Int) (x3 : Int) (x4 : Int) (x5 : Int) (x6 : Option Loc) (x7 : Nat) (x8 : Nat) (x9 : Option Loc) (x10 : Nat) (x11 : Nat) (M : Nat → Prop) (H0 : Hp) (W0 : World) (R : Ending → World → Prop) (hH : H0.le (hpOf W0)) (h :
 (∀ b0 : Nat,
 (∀ b1 : Nat,
 (Cl Try.prog W0 M H0 nK 11 #[Value.agg #[vi x0, vi x1, vi x2, vi x3, vi x4, vi x5, vsl x6 x7 x8]] fun z W1 W2 => ∃ x12 : Int, z = .returned (vi x12) ∧ Ext W1 W2 ∧
 ((x12 = 0 →
  (Cl Try.prog W0 M H0 nK 58 #[vsl x9 x10 x11] fun z W3 W4 => ∃ x13 : Int, z = .returned (vi x13) ∧ Ext W3 W4 ∧
  ((x13 = 0 →
   (0 ≤ (x10 : Int) ∧ (0 ≤ (x10 : Int) →
   (inKind .i64 (x0 + (x10 : Int)) ∧ (inKind .i64 (x0 + (x10 : Int)) →
   ((50 < (x0 + (x10 : Int)) →
    Rt R W0 M H0 nK (Value.tuple #[Value.agg #[vi 0, vi 0, vi 0, vi 0, vi 0, vi 0, Value.slice none 0 0], Value.slice none 0 0, vi 2])) ∧
   (¬ (50 < (x0 + (x10 : Int))) →
    (Cl Try.prog W0 M H0 nK 59 #[Value.agg #[vi x0, vi x1, vi x2, vi x3, vi x4, vi x5, vsl x6 x7 x8]] fun z W5 W6 => ∃ x14 : Int, ∃ x15 : Int, ∃ x16 : Int, ∃ x17 : Int, ∃ x18 : Int, ∃ x19 : Int, ∃ x20 : Option Loc, ∃ x21 : Nat, ∃ x22 : Nat, z = .returned (Value.agg #[vi x14, vi x15, vi x16, vi x17, vi x18, vi x19, vsl x20 x21 x22]) ∧ Fr W5 W6 H0 fun H1 =>
    (∀ b2 : Nat,
    (∀ b3 : Nat,
    (Cl Try.prog W0 M H1 nK 60 #[Value.agg #[vi x0, vi x1, vi x2, vi x3, vi x4, vi x5, vsl x6 x7 x8], vsl x9 x10 x11] fun z W7 W8 => ∃ x23 : Option Loc, ∃ x24 : Option Loc, z = .returned (Value.func (.func 73) #[] #[Value.pointer (ptrAt x23 0), Value.pointer (ptrAt x24 0)]) ∧ Fr W7 W8 H1 fun H2 =>
    (0 ≤ (x21 : Int) ∧ (0 ≤ (x21 : Int) →
    (0 ≤ (x22 : Int) ∧ (0 ≤ (x22 : Int) →
    (∃ (own : Nat → Prop) (N : Nat) (item : Nat → List Value → Hp → Prop) (I0 : List Dat → Nat → Hp → (Nat → Prop) → Prop) (Hi Ha : Hp) (Ta : Nat → Prop), RfIn Try.prog W0 M 73 [Value.pointer (ptrAt x23 0), Value.pointer (ptrAt x24 0)] H2 own N item I0 [.i x14, .i x15, .i x16, .i x17, .i x18, .i x19, .p (x20.map fun a => a.shift 0), .n x21, .n x22, .p none, .n 0, .n 0] Hi Ha Ta ∧
    (∀ (k : Nat) (vals : List Value) (Wr : World) (Mr : Nat → Prop) (Ha : Hp) (Ta : Nat → Prop) (D H3 : Hp), k < N → W0.heap.size ≤ Wr.heap.size → item k vals D → (∀ b, Ta b → Mr b ∧ D b = none) → Ha.le H3 → D.le H3 → ∀ x25 : Int, ∀ x26 : Int, ∀ x27 : Int, ∀ x28 : Int, ∀ x29 : Int, ∀ x30 : Int, ∀ x31 : Option Loc, ∀ x32 : Nat, ∀ x33 : Nat, ∀ x34 : Option Loc, ∀ x35 : Nat, ∀ x36 : Nat, I0 [.i x25, .i x26, .i x27, .i x28, .i x29, .i x30, .p (x31.map fun a => a.shift 0), .n x32, .n x33, .p (x34.map fun a => a.shift 0), .n x35, .n x36] k Ha Ta → ∃ x37 : Int, ∃ x38 : Int, ∃ x39 : Int, ∃ x40 : Int, ∃ x41 : Int, ∃ x42 : Int, ∃ x43 : Int, ∃ x44 : Option Loc, ∃ x45 : Nat, ∃ x46 : Nat, ∃ x47 : Int, ∃ x48 : Bool, vals = [vi x37, Value.agg #[vi x38, vi x39, vi x40, vi x41, vi x42, vi x43, vsl x44 x45 x46, vi x47, vb (x48)]] ∧
     (∀ b4 : Nat,
     (∀ b5 : Nat,
     (Es Wr Mr H3 (fun W => Kn Wr Mr H3 W b5 (Obj.cells #[vi x47] 3 (0, 0)) ∧ True) fun W9 => ∃ x49 : Option Loc, ∃ x50 : Nat, ∃ x51 : Nat, Eo Try.prog (.bi .append #[43, 43] 43) [vsl x34 x35 x36, Value.slice (some ⟨b5, 0, none⟩) 1 1] W9 (.value (vsl x49 x50 x51)) fun W10 => Tn Wr Mr H3 W9 W10 fun H4 =>
     (0 ≤ (x45 : Int) ∧ (0 ≤ (x45 : Int) →
     (0 ≤ (x46 : Int) ∧ (0 ≤ (x46 : Int) →
     (0 ≤ (x50 : Int) ∧ (0 ≤ (x50 : Int) →
     (0 ≤ (x51 : Int) ∧ (0 ≤ (x51 : Int) →
     (∃ (T2 : Nat → Prop) (K2 : Hp), K2.le H4 ∧ I0 [.i x38, .i x39, .i x40, .i x41, .i x42, .i x43, .p (x44.map fun a => a.shift 0), .n x45, .n x46, .p (x49.map fun a => a.shift 0), .n x50, .n x51] (k + 1) K2 T2 ∧ (∀ b o, K2 b = some o → (∃ q, Ha b = some q) ∨ (∃ q, D b = some q) ∨ Wr.heap.size ≤ b) ∧ ∀ b, T2 b → (Ta b ∨ Wr.heap.size ≤ b) ∧ (∃ o, K2 b = some o) ∧ D b = none))))))))))))) ∧
    (∀ (H3 : Hp) (Ta : Nat → Prop), ∀ x25 : Int, ∀ x26 : Int, ∀ x27 : Int, ∀ x28 : Int, ∀ x29 : Int, ∀ x30 : Int, ∀ x31 : Option Loc, ∀ x32 : Nat, ∀ x33 : Nat, ∀ x34 : Option Loc, ∀ x35 : Nat, ∀ x36 : Nat, I0 [.i x25, .i x26, .i x27, .i x28, .i x29, .i x30, .p (x31.map fun a => a.shift 0), .n x32, .n x33, .p (x34.map fun a => a.shift 0), .n x35, .n x36] N H3 Ta →
     Rt R W0 M H3 nK (Value.tuple #[Value.agg #[vi x25, vi x26, vi x27, vi x28, vi x29, vi x30, vsl x31 x32 x33], vsl x34 x35 x36, vi 0])))))))))))))))))) ∧
  (¬ (x13 = 0) →
   Rt R W0 M H0 nK (Value.tuple #[Value.agg #[vi 0, vi 0, vi 0, vi 0, vi 0, vi 0, Value.slice none 0 0], Value.slice none 0 0, vi x13]))))) ∧
 (¬ (x12 = 0) →
  Rt R W0 M H0 nK (Value.tuple #[Value.agg #[vi 0, vi 0, vi 0, vi 0, vi 0, vi 0, Value.slice none 0 0], Value.slice none 0 0, vi x12]))))))) :
  Calls Try.prog 28 #[Value.agg #[vi x0, vi x1, vi x2, vi x3, vi x4, vi x5, vsl x6 x7 x8], vsl x9 x10 x11] W0 R :=
  calls_sxA (M := M) (V := v_foldAll) (hi := {loops := [(12, .iter [(false, [.int .i64]), (true, [.int .i64, .int .i64, .int .i64, .int .i64, .int .i64, .int .i64, .sl, .int .i64, .bool])] [(9, [.pt (.int .i64), .pt (.int .i64), .pt (.int .i64), .pt (.int .i64), .pt (.int .i64), .pt (.int .i64), .pt .sl]), (10, [.pt .sl])])], funs := [(60, 73, 2)]}) (args := [.agg [.int .i64 (.v 0), .int .i64 (.v 1), .int .i64 (.v 2), .int .i64 (.v 3), .int .i64 (.v 4), .int .i64 (.v 5), .slO 6 (.k 0) (.v 7) (.v 8)], .slO 9 (.k 0) (.v 10) (.v 11)]) (nv := 12) (e := (upd (upd (upd (upd (upd (upd (upd (upd (upd (upd (upd (upd (fun _ => .i 0) 0 (.i x0)) 1 (.i x1)) 2 (.i x2)) 3 (.i x3)) 4 (.i x4)) 5 (.i x5)) 6 (.p x6)) 7 (.n x7)) 8 (.n x8)) 9 (.p x9)) 10 (.n x10)) 11 (.n x11))) Try.func28 hH h (by kernel_rfl) (by kernel_rfl) (by kernel_rfl)
end Go.Proofs.Ytoilhpkclabhoaa
namespace Go.Proofs.Ytoilhpkclabhoaa
open Go.RowKit
open Classical
section
variable {H : Hp} {p : Option Loc} {n c : Nat} {l : List Ent}
theorem c_foldCheck (hE : Ents H p n c l) : Gv Try.prog 58 #[vsl p n c] H (vi (entsErr l)) := fun W hH => by
  have hn := hE.len
  have h63 := hE.lt63
  unfold entsErr
  refine x_foldCheck p n c noM H W _ hH ⟨by omega, fun _ => ⟨fun h50 => Rt.gv' (by rw [if_pos (by omega)]), fun h50 => ?_⟩⟩
  rw [if_neg (by omega)]
  refine ⟨fun v K => match v with | [.n j] => j ≤ n ∧ H.le K ∧ badEnt (l.drop j) = badEnt l | _ => False, fun v => match v with | [.n j] => n - j | _ => 0, ⟨by omega, Hp.le_refl H, by simp⟩, fun K j hI => ?_⟩
  obtain ⟨hj, hle, hf⟩ := hI
  have ht : ((j : Int) + 1).toNat = j + 1 := by omega
  refine ⟨fun hlt => ⟨⟨by omega, hlt⟩, fun _ => ?_⟩, fun hge => Rt.gv' ?_⟩
  · obtain ⟨e, he, hat, _⟩ := (hE.mono hle).at (k := j) (by omega)
    rw [drop_cons he, badEnt] at hf
    refine ⟨hat.isSome, fun _ => ⟨_, _, _, _, _, _, _, _, _, hat, fun b0 => Cl.same (c_entCheck e K) fun _ _ hx => ⟨_, rfl, hx, fun h0 => ⟨in64 (by omega), fun _ => ⟨by omega, fun _ => ?_⟩⟩, fun h0 => Rt.gv' (by rw [← hf, if_neg h0])⟩⟩⟩
    rw [ht]
    exact ⟨⟨by omega, hle, by rw [← hf, if_pos h0]⟩, by simp only; omega⟩
  · rw [← hf, List.drop_of_length_le (by omega)]; rfl
end
/-- a state's values, as they stand -/
def Sta.at (s : Sta) (a b v0 v1 v2 v3 : Int) : Prop := a = s.pos ∧ b = s.clock ∧ v0 = s.vals.a ∧ v1 = s.vals.b ∧ v2 = s.vals.c ∧ v3 = s.vals.d
theorem Tab.keep {W W' : World} {g : Option Nat} {H H' D : Hp} (hu : Upd g W W' H H') (hH : H.le (hpOf W)) (hD : D.le H) (hg : ∀ b, g = some b → D b = none) : D.le H' := hu.keep hH hD hg
end Go.Proofs.Ytoilhpkclabhoaa
namespace Go.Proofs.Ytoilhpkclabhoaa
open Go.RowKit
open Classical
theorem Kept.cells {H : Hp} {p : Option Loc} {n c : Nat} {l : List Rep} (h : Kept H p n c l) : Kept H.cells p n c l := ⟨h.1, h.2.1, h.2.2.cells'⟩
theorem Tab.cells {H : Hp} {p : Option Loc} {n c : Nat} {l : List Ses} (h : Tab H p n c l) : Tab H.cells p n c l := by
  obtain ⟨h1, h2, rows, h3, h4⟩ := h
  refine ⟨h1, h2, rows, h3.cells', h4.mono fun r s hr => ?_⟩
  obtain ⟨p, n, c, h5, h6⟩ := hr
  exact ⟨p, n, c, h5, h6.cells⟩
def Sta.row (s : Sta) (v : Value) : List Value := [vi s.pos, vi s.clock, vi s.vals.a, vi s.vals.b, vi s.vals.c, vi s.vals.d, v]
def stepVal (s : Sta) (v : Value) (a : Int) (b : Bool) : Value := .agg #[vi s.pos, vi s.clock, vi s.vals.a, vi s.vals.b, vi s.vals.c, vi s.vals.d, v, vi a, vb b]
def StepIt (s : Sta) (l : List Ent) (b : Nat) (k : Nat) (vals : List Value) (D : Hp) : Prop := (∀ j o, D j = some o → b < j) ∧ ∃ e p n c, l[k]? = some e ∧ vals = [vi (k : Int), stepVal (foldS s (l.take (k + 1))) (vsl p n c) ((foldS s (l.take k)).apply e).2.1 ((foldS s (l.take k)).apply e).2.2] ∧ Tab D p n c (foldS s (l.take (k + 1))).table
theorem infoState : infoIs Try.prog 25 7 72 = true := by kernel_rfl
theorem it_steps {Hi Hr : Hp} {b : Nat} {x1 : Option Loc} {q p : Option Loc} {m d n c : Nat} {s : Sta} {l : List Ent} (hs : StOk s) (hl : ∀ e ∈ l, EntOk e) (hp : s.pos + l.length ≤ 50)
    (hHr : Hr.le Hi) (hb : Hr b = none) (hx1 : RowAt Hr x1 0 [vsl q m d]) (hE : Ents Hr q m d l) (hT : Tab Hr p n c s.table) (hB : Ow Hi 25 7 (some (b, 0)) 1 1 [s.row (vsl p n c)] (some b)) :
    Iter Try.prog 73 [.pointer (ptrAt x1 0), .pointer (ptrAt (some (b, 0)) 0)] Hi (fun k => k = b) l.length (StepIt s l b) := by
  intro yl J hround W HJ FT hHi hHJ hJ0 hown hFT
  have hm := hE.len
  have hpos := hs.pos
  have h63 := hE.lt63
  have hBlt : b < W.heap.size := hB.lt hHi b rfl
  refine x_steps1 yl x1 (some (b, 0)) (fun k => k = b ∨ FT k) (both2 Hi HJ) W _ (both2_le hHi hHJ) ⟨q, m, d, (hx1.mono hHr).mono (both2_l _ _), by omega, fun _ => ?_⟩
  refine ⟨fun v K => match v with
      | [.n k] => ∃ (HJ' : Hp) (FT' : Nat → Prop) (Dt : Hp) (pt : Option Loc) (nt ct : Nat), k ≤ m ∧ J k HJ' FT' ∧ HJ'.le K ∧ Hr.le K ∧ Ow K 25 7 (some (b, 0)) 1 1 [(foldS s (l.take k)).row (vsl pt nt ct)] (some b) ∧ Dt.le K ∧ Tab Dt pt nt ct (foldS s (l.take k)).table ∧
          (∀ j, FT' j → (FT j ∨ W.heap.size ≤ j) ∧ Hr j = none ∧ Dt j = none ∧ j ≠ b ∧ ∃ o, HJ' j = some o) ∧ HJ' b = none ∧ Dt b = none
      | _ => False, fun v => match v with | [.n k] => m - k | _ => 0, ?_, ?_⟩
  · refine ⟨HJ, FT, Hr, p, n, c, by omega, hJ0, both2_r hHi hHJ, Hp.le_trans hHr (both2_l _ _), hB.mono fun b _ o ho => both2_l _ _ b o ho, Hp.le_trans hHr (both2_l _ _), hT, fun j hj => ?_, (hown b rfl).1, hb⟩
    obtain ⟨h1, h2⟩ := hFT j hj
    refine ⟨.inl hj, le_none hHr h1, le_none hHr h1, fun h => ?_, h2⟩
    obtain ⟨_, o, ho⟩ := hown b rfl
    rw [h, ho] at h1; cases h1
  intro K k ⟨HJ', FT', Dt, pt, nt, ct, hkm, hJ, hJK, hrK, hbK, hDK, hTt, hF, hJb, hDb⟩
  refine ⟨fun hlt => ⟨⟨by omega, hlt⟩, fun _ => ?_⟩, fun hge => ?_⟩
  · obtain ⟨e, he, hat, h64⟩ := (hE.mono hrK).at (k := k) (by omega)
    obtain ⟨hok, hps⟩ := fold_at_ok hs hl hp (k := k) (by omega)
    obtain ⟨row, hrow, _, hat2⟩ := hbK.rows.at (k := 0) (by omega) (off := 0) (by simp)
    simp only [List.getElem?_cons_zero, Option.some.injEq] at hrow
    subst hrow
    refine ⟨hat.isSome, fun _ => ⟨_, _, _, _, _, _, _, _, _, hat, fun b0 b1 => ⟨_, _, _, _, _, _, pt, nt, ct, hat2, ?_⟩⟩⟩
    refine Cl.fresh (c_next (hTt.mono hDK) hok hps (hl e (List.mem_of_getElem? he))) ?_
    rintro v W1 W2 D ⟨p1, n1, c1, es, g, rfl, hO, hes⟩ hx hD hf nn
    refine ⟨_, _, _, _, _, _, p1, n1, c1, _, _, rfl, hx, D, hD, hf, fun H2 h12 hd2 => ?_⟩
    have hT1 := hO.tab
    rw [hes] at hT1
    have hb2 := hbK.mono fun b _ o ho => h12 b o ho
    have hDb2 : D b = none := by
      cases hh : D b with
      | none => rfl
      | some o => have h1 := hf b o hh; have h2 := hbK.lt nn.sub b rfl; omega
    intro W3 n3 _
    obtain ⟨ti, z, i1, i2, i3, i4, i5, i6⟩ := info_of infoState
    obtain ⟨W4, H3, hrun, hu, hO3⟩ := ek_store (P := Try.prog) (t := 25) i1 n3.sub hb2 (i := 0) (j := 0) (vs := ((foldS s (l.take k)).apply e).1.row (vsl p1 n1 c1)) (v := ((foldS s (l.take k)).apply e).1.val (vsl p1 n1 c1)) rfl rfl i3 (by simp [Sta.row]) (by simp [Sta.row]) (fun u hu => by
      simp only [Sta.row, List.mem_cons, List.not_mem_nil, or_false] at hu
      rcases hu with rfl | rfl | rfl | rfl | rfl | rfl | rfl <;> rfl) (off := 0) (by simp)
    refine ⟨W4, hrun, H3, hu.own hb2 (fun j hj => .inr (.inl (by simpa using hj.symm))), ?_⟩
    have hg : ∀ {A : Hp}, A b = none → ∀ j, some b = some j → A j = none := fun h j hj => by simp only [Option.some.injEq] at hj; exact hj ▸ h
    have hJ3 : HJ'.le H3 := hu.keep n3.sub (Hp.le_trans hJK h12) (hg hJb)
    have hr3 : Hr.le H3 := hu.keep n3.sub (Hp.le_trans hrK h12) (hg hb)
    have hd3 : D.le H3 := hu.keep n3.sub hd2 (hg hDb2)
    have hdc : D.cells.le H3 := Hp.le_trans (cells_le D) hd3
    intro V nV _
    have hDF : ∀ j, FT' j → D j = none := fun j hj => by
      obtain ⟨_, _, _, _, o, ho⟩ := hF j hj
      cases hh : D j with
      | none => rfl
      | some o' => have h1 := hf j o' hh; have h2 := heap_lt (nn.sub j o (hJK j o ho)); omega
    obtain ⟨B, hBdef⟩ : ∃ B : Hp, B = fun j => if j = b then H3 j else both2 Hr D.cells j := ⟨_, rfl⟩
    have hBb : B b = H3 b := by rw [hBdef]; simp
    have hBr : Hr.le B := fun j o hj => by
      have hne : j ≠ b := fun h => by rw [h, hb] at hj; cases hj
      rw [hBdef]; simp only [if_neg hne]; exact both2_l _ _ j o hj
    have hBd : D.cells.le B := fun j o hj => by
      have hne : j ≠ b := fun h => by rw [h, Hp.cells_none hDb2] at hj; cases hj
      rw [hBdef]; simp only [if_neg hne]
      unfold both2
      cases hh : Hr j with
      | none => exact hj
      | some o' =>
        have h1 := hf j o (cells_le D j o hj)
        have h2 := heap_lt (nn.sub j o' (hrK j o' hh))
        omega
    have hB3 : B.le H3 := fun j o hj => by
      rw [hBdef] at hj
      simp only at hj
      split at hj
      · exact hj
      · unfold both2 at hj
        split at hj
        · rename_i o' ho'
          simp only [Option.some.injEq] at hj; subst hj; exact hr3 j _ ho'
        · exact hdc j o hj
    have hBF : ∀ j, FT' j → B j = none := fun j hj => by
      obtain ⟨_, f2, f3, f4, _⟩ := hF j hj
      rw [hBdef]; simp only [if_neg f4]
      unfold both2
      rw [f2]; exact Hp.cells_none (hDF j hj)
    refine yl_round (J := J (k + 1)) (HJ := HJ') (FT := FT') (D := D.cells) (B := B) nV (hround k HJ' FT' V _ D.cells (by omega) hJ (Hp.le_trans hJ3 nV.sub) ?_ (Hp.le_trans hdc nV.sub) (cells_cells D) (fun j hj => Hp.cells_none (hDF j hj))) hJ3 hdc hB3 (fun j hj => ⟨(hF j hj).2.2.2.2, ?_, hBF j hj⟩) ?_
    · refine ⟨fun j o hj => ?_, e, p1, n1, c1, he, ?_, ?_⟩
      · have h1 := hf j o (cells_le D j o hj); have h2 := hbK.lt nn.sub b rfl; omega
      · rw [foldS_at he]; rfl
      · rw [foldS_at he]; exact hT1.cells
    · rcases (hF j hj).1 with h | h
      · exact .inr (.inr h)
      · exact .inl h
    intro V' HJ2 FT2 K2 hJ2 hJK2 hBK2 hF2 hJn2 hV
    refine ⟨in64 (by omega), fun _ => ⟨by omega, fun _ => ?_⟩⟩
    have ht : ((k : Int) + 1).toNat = k + 1 := by omega
    rw [ht]
    have hbV : b < V.heap.size := by
      obtain ⟨o, ho⟩ := hO3.held b rfl
      exact heap_lt (nV.sub b o ho)
    refine ⟨⟨HJ2, FT2, D.cells, p1, n1, c1, by omega, hJ2, hJK2, Hp.le_trans hBr hBK2, ?_, Hp.le_trans hBd hBK2, ?_, fun j hj => ?_, hJn2 b hJb (Hp.cells_none hDb2) hbV, Hp.cells_none hDb2⟩, by simp only; omega⟩
    · rw [foldS_at he]
      have hO4 : Ow B 25 7 (some (b, 0)) 1 1 _ (some b) := hO3.mono fun j hj o ho => by simp only [Option.some.injEq] at hj; subst hj; rw [hBb]; exact ho
      have hO5 := hO4.mono fun j _ o ho => hBK2 j o ho
      simpa [segRow, Sta.row] using hO5
    · rw [foldS_at he]; exact hT1.cells
    · obtain ⟨f1, f2, f3⟩ := hF2 j hj
      have hsz := nV.mod.size
      rcases f1 with f1 | f1
      · obtain ⟨g1, g2, g3, g4, g5⟩ := hF j f1
        exact ⟨g1, g2, f2, g4, f3⟩
      · exact ⟨.inr (by omega), old_none (Hp.le_trans hr3 nV.sub) f1, f2, fun h => by omega, f3⟩
  · have hkm' : k = l.length := by omega
    subst hkm'
    exact fun W' n' _ => ⟨⟨_, rfl⟩, HJ', FT', hJ, Hp.le_trans hJK n'.sub, n'.mod⟩
end Go.Proofs.Ytoilhpkclabhoaa
namespace Go.Proofs.Ytoilhpkclabhoaa
open Go.RowKit
open Classical
/-- two blocks alone -/
def twoH (b0 b1 : Nat) (o0 o1 : Obj) : Hp := fun k => if k = b0 then some o0 else if k = b1 then some o1 else none
def StepsPost (s : Sta) (v : Value) (q : Option Loc) (m d : Nat) (w : Value) (D : Hp) : Prop := ∃ b0 b1 : Nat, w = .func (.func 73) #[] #[.pointer (ptrAt (some (b1, 0)) 0), .pointer (ptrAt (some (b0, 0)) 0)] ∧ b0 ≠ b1 ∧
  D b0 = some (.cells (s.row v).toArray 25 (0, 0)) ∧ D b1 = some (.cells #[vsl q m d] 38 (0, 0))
theorem c_steps (s : Sta) (p : Option Loc) (n c : Nat) (q : Option Loc) (m d : Nat) (H : Hp) : Gf Try.prog 60 #[s.val (vsl p n c), vsl q m d] H (StepsPost s (vsl p n c) q m d) := fun W hH => by
  refine x_steps _ _ _ _ _ _ p n c q m d noM H W _ hH fun b0 b1 => fun W' nn k => ?_
  obtain ⟨k1, k0, _⟩ := k
  have hne : b0 ≠ b1 := fun h => by
    subst h
    have h1 := k0.eq
    rw [k1.eq] at h1
    simp at h1
  have e0 := k0.eq
  have e1 := k1.eq
  refine ⟨_, twoH b0 b1 (.cells (s.row (vsl p n c)).toArray 25 (0, 0)) (.cells #[vsl q m d] 38 (0, 0)), rfl, nn.ext, fun b o hb => ?_, fun b o hb => ?_, b0, b1, rfl, hne, by unfold twoH; rw [if_pos rfl], by unfold twoH; rw [if_neg (fun h => hne h.symm), if_pos rfl]⟩
  · unfold twoH at hb
    split at hb
    · rename_i h; rw [h, ← hb]; exact e0
    · split at hb
      · rename_i h; rw [h, ← hb]; exact e1
      · cases hb
  · unfold twoH at hb
    split at hb
    · rename_i h; rw [h]; exact k0.own.elim id (fun h => h.elim)
    · split at hb
      · rename_i h; rw [h]; exact k1.own.elim id (fun h => h.elim)
      · cases hb
/-- an iterator over the steps, where they have just been made -/
theorem it_of {H D H2 : Hp} {W : World} {s : Sta} {l : List Ent} {p q : Option Loc} {n c m d b0 b1 : Nat} (hs : StOk s) (hl : ∀ e ∈ l, EntOk e) (hp : s.pos + l.length ≤ 50) (hE : Ents H q m d l) (hT : Tab H p n c s.table) (hH : H.le (hpOf W))
    (hf : ∀ b o, D b = some o → W.heap.size ≤ b) (hne : b0 ≠ b1) (e0 : D b0 = some (.cells (s.row (vsl p n c)).toArray 25 (0, 0))) (e1 : D b1 = some (.cells #[vsl q m d] 38 (0, 0))) (hH2 : H.le H2) (hD2 : D.le H2) :
    Iter Try.prog 73 [.pointer (ptrAt (some (b1, 0)) 0), .pointer (ptrAt (some (b0, 0)) 0)] H2 (fun k => k = b0) l.length (StepIt s l b0) := by
  obtain ⟨Hr, hr⟩ : ∃ Hr : Hp, Hr = fun j => if j = b0 then none else H2 j := ⟨_, rfl⟩
  have hle : Hr.le H2 := fun j o hj => by
    rw [hr] at hj; simp only at hj
    split at hj
    · cases hj
    · exact hj
  have hHr : H.le Hr := fun j o hj => by
    have h1 := heap_lt (hH j o hj)
    have h2 := hf b0 _ e0
    rw [hr]; simp only; rw [if_neg (by omega)]; exact hH2 j o hj
  have h1r : Hr b1 = some (.cells #[vsl q m d] 38 (0, 0)) := by
    rw [hr]; simp only; rw [if_neg (fun h => hne h.symm)]; exact hD2 _ _ e1
  refine it_steps hs hl hp (Hr := Hr) (q := q) (m := m) (d := d) (p := p) (n := n) (c := c) hle (by rw [hr]; simp) ⟨b1, 0, rfl, _, _, _, h1r, fun j hj => ?_⟩ (hE.mono hHr) (hT.mono hHr) ?_
  · simp only [List.length_singleton] at hj
    obtain rfl : j = 0 := by omega
    rfl
  · refine ⟨rfl, fun r hr => ?_, Nat.le_refl _, by simp [maxLen], .inr ⟨b0, _, rfl, rfl, hD2 _ _ e0, rfl, rfl⟩⟩
    simp only [List.mem_singleton] at hr
    subst hr
    refine ⟨rfl, fun v hv => ?_⟩
    simp only [Sta.row, List.mem_cons, List.not_mem_nil, or_false] at hv
    rcases hv with rfl | rfl | rfl | rfl | rfl | rfl | rfl <;> rfl
def noT : Nat → Prop := fun _ => False
/-- what comes of All -/
def AllPost (r : Sta × List Int × Int) (v : Value) (D : Hp) : Prop := ∃ p n c pa na ca ga, v = .tuple #[r.1.val (vsl p n c), vsl pa na ca, vi r.2.2] ∧ Tab D p n c r.1.table ∧ Ow D 3 1 pa na ca (r.2.1.map irow) ga
theorem AllPost.bad (D : Hp) (x : Int) : AllPost (Sta.zero, [], x) (.tuple #[Sta.zero.val (Value.slice none 0 0), Value.slice none 0 0, vi x]) D := ⟨none, 0, 0, none, 0, 0, none, rfl, Tab.nil _ _, Ow.nil _ _ _ _⟩
theorem sAll_ok {s : Sta} {l : List Ent} (h0 : s.err = 0) (h1 : entsErr l = 0) (h2 : ¬ 50 < s.pos + (l.length : Int)) : sAll s l = (foldS s l, foldA s l, 0) := by unfold sAll; rw [if_neg (by omega), if_neg (by omega), if_neg h2]
theorem sAll_many {s : Sta} {l : List Ent} (h0 : s.err = 0) (h1 : entsErr l = 0) (h2 : 50 < s.pos + (l.length : Int)) : sAll s l = (Sta.zero, [], 2) := by unfold sAll; rw [if_neg (by omega), if_neg (by omega), if_pos h2]
theorem sAll_ents {s : Sta} {l : List Ent} (h0 : s.err = 0) (h1 : entsErr l ≠ 0) : sAll s l = (Sta.zero, [], entsErr l) := by unfold sAll; rw [if_neg (by omega), if_pos h1]
theorem sAll_err {s : Sta} {l : List Ent} (h0 : s.err ≠ 0) : sAll s l = (Sta.zero, [], s.err) := by unfold sAll; rw [if_pos h0]
set_option maxHeartbeats 1000000 in
theorem c_foldAll {H : Hp} {p q : Option Loc} {n c m d : Nat} {s : Sta} {l : List Ent} (hT : Tab H p n c s.table) (hE : Ents H q m d l) : Gf Try.prog 28 #[s.val (vsl p n c), vsl q m d] H (AllPost (sAll s l)) := fun W hH => by
  have hm := hE.len
  refine x_foldAll _ _ _ _ _ _ p n c q m d noM H W _ hH fun b0 b1 => ?_
  refine Cl.same (c_stCheck hT) fun _ _ hx => ⟨_, rfl, hx, fun h0 => ?_, fun h0 => Rt.gfn (by rw [sAll_err h0]; exact AllPost.bad _ _)⟩
  refine Cl.same (c_foldCheck hE) fun _ _ hx => ⟨_, rfl, hx, fun h1 => ?_, fun h1 => Rt.gfn (by rw [sAll_ents h0 h1]; exact AllPost.bad _ _)⟩
  have hs := Sta.err_ok.1 h0
  obtain ⟨h50, hl⟩ := entsErr_ok.1 h1
  have hpos := hs.pos
  refine ⟨by omega, fun _ => ⟨in64 (by omega), fun _ => ⟨fun h2 => Rt.gfn (by rw [sAll_many h0 h1 (by omega)]; exact AllPost.bad _ _), fun h2 => ?_⟩⟩⟩
  rw [sAll_ok h0 h1 (by omega)]
  refine Cl.fresh (c_stOwn hT (Small.of_ok hs.table)) ?_
  rintro v W1 W2 D1 ⟨p1, c1, es, g, rfl, hO, hes⟩ hx hD1 hf1 nn
  refine ⟨_, _, _, _, _, _, p1, n, c1, rfl, hx, D1, hD1, hf1, fun H1 h01 hd1 b2 b3 => ?_⟩
  have hT1 := hO.tab
  rw [hes] at hT1
  refine Cl.fresh (c_steps s p n c q m d H1) ?_
  rintro v W3 W4 D2 ⟨a0, a1, rfl, hne, e0, e1⟩ hx2 hD2 hf2 nn2
  refine ⟨some (a1, 0), some (a0, 0), rfl, hx2, D2, hD2, hf2, fun H2 h12 hd2 => ⟨by omega, fun _ => ⟨by omega, fun _ => ?_⟩⟩⟩
  have ha0 : W.heap.size ≤ a0 := Nat.le_trans nn2.mod.size (hf2 a0 _ e0)
  have f1 : ∀ b o, D1 b = some o → W.heap.size ≤ b := fun b o h => Nat.le_trans nn.mod.size (hf1 b o h)
  have hd0 : D1 a0 = none := by
    cases hh : D1 a0 with
    | none => rfl
    | some o => have h1 := heap_lt (nn2.sub a0 o (hd1 a0 o hh)); have h2 := hf2 a0 _ e0; omega
  refine ⟨fun k => k = a0, l.length, StepIt s l a0, fun v k K T => match v with
      | [.i a, .i b, .i v0, .i v1, .i v2, .i v3, .p pt, .n nt, .n ct, .p pa, .n na, .n ca] => na = k ∧ ∃ Dt ga, (foldS s (l.take k)).at a b v0 v1 v2 v3 ∧ Tab Dt pt nt ct (foldS s (l.take k)).table ∧ Dt.le K ∧ (∀ b o, Dt b = some o → W.heap.size ≤ b) ∧ Ow K 3 1 pa na ca ((foldA s (l.take k)).map irow) ga ∧ (∀ b, ga = some b → W.heap.size ≤ b ∧ T b ∧ Dt b = none)
      | _ => False, H2, D1, noT, ⟨it_of hs hl (by omega) (hE.mono h01) (hT.mono h01) nn2.sub hf2 hne e0 e1 h12 hd2, Hp.le_refl _, Hp.le_trans hd1 h12, fun b hb => ?_, fun b hb => hb.elim, ?_⟩, ?_, ?_⟩
  · subst hb; exact ⟨hd0, ⟨_, hd2 _ _ e0⟩, .inl ha0⟩
  · rw [map0]; exact ⟨rfl, D1, none, ⟨rfl, rfl, rfl, rfl, rfl, rfl⟩, hT1, Hp.le_refl _, f1, Ow.nil _ _ _ _, fun b h => by cases h⟩
  · intro k vals Wr Mr Ha Ta D H3 hk hsz ⟨hfD, e, pt, nt, ct, he, hv, hTt⟩ hTa hHa hDa x25 x26 x27 x28 x29 x30 x31 x32 x33 pa na ca hI
    rw [map0, map0] at hI
    obtain ⟨hna, Dt, ga, _, _, _, _, ho, hga⟩ := hI
    subst na
    have ho3 := ho.mono fun b _ o h => hHa b o h
    refine ⟨_, _, _, _, _, _, _, pt, nt, ct, _, _, hv, fun b4 b5 => ?_⟩
    intro W9 n9 k9
    obtain ⟨r1, y1, g1, W10, H4, run1, hu1, oa4, hg1, _⟩ := run_append1 (P := Try.prog) Try.underlying43 infoInt (by omega) n9.sub ho3 (row := irow ((foldS s (l.take k)).apply e).2.1) k9.1.eq k9.1.off rfl (fun v hv => by
      simp only [irow, List.mem_singleton] at hv; subst hv; rfl) (by simp only [maxLen]; omega) (by omega) 43
    refine ⟨r1, k + 1, y1, W10, run1, H4, hu1.own ho3 (fun b hb => .inr (hTa b (hga b hb).2.1).1), by omega, fun _ => ⟨by omega, fun _ => ⟨by omega, fun _ => ⟨by omega, fun _ => ?_⟩⟩⟩⟩
    have hDg : ∀ b, g1 = some b → D b = none := fun b hb => by
      rcases hg1 with h | h
      · exact (hTa b (hga b (h ▸ hb)).2.1).2
      · rw [h] at hb; simp only [Option.some.injEq] at hb; exact old_none (Hp.le_trans hDa n9.sub) (by omega)
    have hD4 : D.le H4 := hu1.keep n9.sub hDa fun b hb => (hTa b (hga b hb).2.1).2
    have hnew : ∀ b, g1 = some b → (ga = some b) ∨ Wr.heap.size ≤ b := fun b hb => by
      rcases hg1 with h | h
      · exact .inl (h ▸ hb)
      · rw [h] at hb; simp only [Option.some.injEq] at hb; have := n9.mod.size; exact .inr (by omega)
    obtain ⟨K2, hKg, hKd⟩ : ∃ K2 : Hp, (∀ j, g1 = some j → K2 j = H4 j) ∧ ∀ j, g1 ≠ some j → K2 j = D j := ⟨fun j => if g1 = some j then H4 j else D j, fun j h => if_pos h, fun j h => if_neg h⟩
    refine ⟨fun b => g1 = some b, K2, fun j o hj => ?_, ?_, fun j o hj => ?_, fun j hj => ⟨?_, ?_, hDg j hj⟩⟩
    · by_cases h : g1 = some j
      · rw [hKg j h] at hj; exact hj
      · rw [hKd j h] at hj; exact hD4 j o hj
    · rw [map0, map0]
      refine ⟨rfl, D, g1, ⟨rfl, rfl, rfl, rfl, rfl, rfl⟩, hTt, fun j o hj => ?_, fun j o hj => by have := hfD j o hj; omega, ?_, fun j hj => ⟨?_, hj, hDg j hj⟩⟩
      · rw [hKd j (fun h => by rw [hDg j h] at hj; cases hj)]; exact hj
      · rw [foldA_at he, List.map_append]
        exact oa4.mono fun j hj o ho => by rw [hKg j hj]; exact ho
      · rcases hnew j hj with h | h
        · exact (hga j h).1
        · omega
    · by_cases h : g1 = some j
      · rcases hnew j h with h | h
        · exact .inl (ho.held j h)
        · exact .inr (.inr h)
      · rw [hKd j h] at hj; exact .inr (.inl ⟨o, hj⟩)
    · rcases hnew j hj with h | h
      · exact .inl (hga j h).2.1
      · exact .inr h
    · obtain ⟨o, ho⟩ := oa4.held j hj
      exact ⟨o, by rw [hKg j hj]; exact ho⟩
  · intro H3 Ta x23 x24 x25 x26 x27 x28 x29 x30 x31 pa na ca hI
    rw [map0, map0] at hI
    obtain ⟨rfl, Dt, ga, ⟨rfl, rfl, rfl, rfl, rfl, rfl⟩, hTt, hDt, fDt, ho, hga⟩ := hI
    rw [List.take_length] at hTt ho ⊢
    exact Rt.gfn ⟨x29, x30, x31, pa, _, ca, ga, rfl, hTt.mono (le_newer hDt fDt), ho.new fun b hb => (hga b hb).1⟩
end Go.Proofs.Ytoilhpkclabhoaa
