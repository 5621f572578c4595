/- Symbolic runs of functions: what each leaves to prove is enough for its call. Printed by a program of ours. No conditions. Contracts: entries checked, and folded as the document says. No conditions. Contract: the steps of a fold, as a loop takes them. No conditions. Contracts: the last state; all entries; the document's fold. No conditions. -/
import Derived.Test.YtfpmcmhihhnfgaaGreatKE3
import Derived.Test.YtfpmcmhihhnfgaaGreatProg
import Derived.Test.YtfpmcmhihhnfgaaGreatKF1
import Derived.Test.YtfpmcmhihhnfgaaGreatKA5
import Derived.Test.YtfpmcmhihhnfgaaGreatKE4
set_option linter.unusedVariables false
set_option linter.unusedSimpArgs false
namespace Go.Proofs.YtfpmcmhihhnfgaaGreat
open Go.RowKit
set_option maxRecDepth 100000
set_option maxHeartbeats 4000000
def v_foldCheck : VC :=
(.chk (.le (.k 0) (.v 1))
(.ite (.lt (.k 50) (.v 1))
(.ret (.int .i64 (.k 2)) [])
(.loop [(3, .n)] [.n (.k 0)] [.n (.v 3)]
(.ite (.lt (.v 3) (.v 1))
(.chk (.idx (.v 3) (.v 1))
(.chk (.isp 0)
(.ld 0 (.add (.k 0) (.mul (.v 3) (.k 9))) [vI 4, vI 5, vI 6, vI 7, vI 8, vI 9, vI 10, vI 11, vI 12] [(4, .i), (5, .i), (6, .i), (7, .i), (8, .i), (9, .i), (10, .i), (11, .i), (12, .i)]
(.all 0
(.call 46 [.agg [vI 4, vI 5, vI 6, vI 7, vI 8, vI 9, vI 10, vI 11, vI 12]] [] [(13, .i)] (vI 13) .same
(.ite (.eq (.v 13) (.k 0))
(.chk (.rng .i64 (.add (.v 3) (.k 1)))
(.chk (.le (.k 0) (.add (.v 3) (.k 1)))
(.back 0 [.n (.add (.v 3) (.k 1))])))
(.ret (vI 13) [])))))))
(.ret (.int .i64 (.k 0)) [])))))
theorem x_foldCheck (x0 : Option Loc) (x1 x2 : Nat) (M : Nat → Prop) (H0 : Hp) (W0 : World) (R : Ending → World → Prop) (hH : H0.le (hpOf W0)) (h :
 (0 ≤ (x1 : Int) ∧ (0 ≤ (x1 : Int) →
 ((50 < (x1 : Int) →
  Rt R W0 M H0 nK (vi 2)) ∧
 (¬ (50 < (x1 : Int)) →
  (∃ (I0 : List Dat → Hp → Prop) (μ0 : List Dat → Nat), I0 [.n 0] H0 ∧ ∀ H1 : Hp, ∀ x3 : Nat, I0 [.n x3] H1 →
   (((x3 : Int) < (x1 : Int) →
    (((0 : Int) ≤ (x3 : Int) ∧ (x3 : Int) < (x1 : Int)) ∧ (((0 : Int) ≤ (x3 : Int) ∧ (x3 : Int) < (x1 : Int)) →
    (x0.isSome = true ∧ (x0.isSome = true →
    (∃ (x4 x5 x6 x7 x8 x9 x10 x11 x12 : Int), RowAt H1 x0 (0 + ((x3 : Int) * 9)) [vi x4, vi x5, vi x6, vi x7, vi x8, vi x9, vi x10, vi x11, vi x12] ∧
    (∀ b0 : Nat,
    (Cl Tryz.prog W0 M H1 nK 46 #[Value.agg #[vi x4, vi x5, vi x6, vi x7, vi x8, vi x9, vi x10, vi x11, vi x12]] fun z W1 W2 => ∃ x13 : Int, z = .returned (vi x13) ∧ Ext W1 W2 ∧
    ((x13 = 0 →
     (inKind .i64 ((x3 : Int) + 1) ∧ (inKind .i64 ((x3 : Int) + 1) →
     (0 ≤ ((x3 : Int) + 1) ∧ (0 ≤ ((x3 : Int) + 1) →
     (I0 [.n (((x3 : Int) + 1) : Int).toNat] H1 ∧ μ0 [.n (((x3 : Int) + 1) : Int).toNat] < μ0 [.n x3])))))) ∧
    (¬ (x13 = 0) →
     Rt R W0 M H1 nK (vi x13))))))))))) ∧
   (¬ ((x3 : Int) < (x1 : Int)) →
    Rt R W0 M H1 nK (vi 0))))))))) :
  Calls Tryz.prog 49 #[vsl x0 x1 x2] W0 R :=
  calls_sxA (M := M) (V := v_foldCheck) (hi := {loops := [(4, .inv [(11, .nat)] [])]}) (args := [vS 0]) (nv := 3) (e := (upd (upd (upd (fun _ => .i 0) 0 (.p x0)) 1 (.n x1)) 2 (.n x2))) Tryz.func49 hH h (by kernel_rfl) (by kernel_rfl) (by kernel_rfl)
def v_listErr : VC :=
(.chk (.le (.k 0) (.v 1))
(.ite (.lt (.k 50) (.v 1))
(.ret (.int .i64 (.k 2)) [])
(.loop [(3, .n)] [.n (.k 0)] [.n (.v 3)]
(.ite (.lt (.v 3) (.v 1))
(.chk (.idx (.v 3) (.v 1))
(.chk (.isp 0)
(.ld 0 (.add (.k 0) (.mul (.v 3) (.k 9))) [vI 4, vI 5, vI 6, vI 7, vI 8, vI 9, vI 10, vI 11, vI 12] [(4, .i), (5, .i), (6, .i), (7, .i), (8, .i), (9, .i), (10, .i), (11, .i), (12, .i)]
(.call 51 [.agg [vI 4, vI 5, vI 6, vI 7, vI 8, vI 9, vI 10, vI 11, vI 12]] [] [(13, .i)] (vI 13) .same
(.ite (.eq (.v 13) (.k 0))
(.chk (.rng .i64 (.add (.v 3) (.k 1)))
(.chk (.le (.k 0) (.add (.v 3) (.k 1)))
(.back 0 [.n (.add (.v 3) (.k 1))])))
(.ret (vI 13) []))))))
(.ret (.int .i64 (.k 0)) [])))))
theorem x_listErr (x0 : Option Loc) (x1 x2 : Nat) (M : Nat → Prop) (H0 : Hp) (W0 : World) (R : Ending → World → Prop) (hH : H0.le (hpOf W0)) (h :
 (0 ≤ (x1 : Int) ∧ (0 ≤ (x1 : Int) →
 ((50 < (x1 : Int) →
  Rt R W0 M H0 nK (vi 2)) ∧
 (¬ (50 < (x1 : Int)) →
  (∃ (I0 : List Dat → Hp → Prop) (μ0 : List Dat → Nat), I0 [.n 0] H0 ∧ ∀ H1 : Hp, ∀ x3 : Nat, I0 [.n x3] H1 →
   (((x3 : Int) < (x1 : Int) →
    (((0 : Int) ≤ (x3 : Int) ∧ (x3 : Int) < (x1 : Int)) ∧ (((0 : Int) ≤ (x3 : Int) ∧ (x3 : Int) < (x1 : Int)) →
    (x0.isSome = true ∧ (x0.isSome = true →
    (∃ (x4 x5 x6 x7 x8 x9 x10 x11 x12 : Int), RowAt H1 x0 (0 + ((x3 : Int) * 9)) [vi x4, vi x5, vi x6, vi x7, vi x8, vi x9, vi x10, vi x11, vi x12] ∧
    (Cl Tryz.prog W0 M H1 nK 51 #[Value.agg #[vi x4, vi x5, vi x6, vi x7, vi x8, vi x9, vi x10, vi x11, vi x12]] fun z W1 W2 => ∃ x13 : Int, z = .returned (vi x13) ∧ Ext W1 W2 ∧
    ((x13 = 0 →
     (inKind .i64 ((x3 : Int) + 1) ∧ (inKind .i64 ((x3 : Int) + 1) →
     (0 ≤ ((x3 : Int) + 1) ∧ (0 ≤ ((x3 : Int) + 1) →
     (I0 [.n (((x3 : Int) + 1) : Int).toNat] H1 ∧ μ0 [.n (((x3 : Int) + 1) : Int).toNat] < μ0 [.n x3])))))) ∧
    (¬ (x13 = 0) →
     Rt R W0 M H1 nK (vi x13)))))))))) ∧
   (¬ ((x3 : Int) < (x1 : Int)) →
    Rt R W0 M H1 nK (vi 0))))))))) :
  Calls Tryz.prog 37 #[vsl x0 x1 x2] W0 R :=
  calls_sxA (M := M) (V := v_listErr) (hi := {loops := [(4, .inv [(3, .nat)] [])]}) (args := [vS 0]) (nv := 3) (e := (upd (upd (upd (fun _ => .i 0) 0 (.p x0)) 1 (.n x1)) 2 (.n x2))) Tryz.func37 hH h (by kernel_rfl) (by kernel_rfl) (by kernel_rfl)
def v_steps : VC :=
(.all 0
(.all 1
(.ret (.func 66 [] [.ptrK 1 0, .ptrK 0 0]) [(1, ⟨[vS 9], 26⟩), (0, ⟨[vI 0, vI 1, vI 2, vI 3, vI 4, vI 5, vS 6], 25⟩)])))
theorem x_steps (x0 x1 x2 x3 x4 x5 : Int) (x6 : Option Loc) (x7 x8 : Nat) (x9 : Option Loc) (x10 x11 : Nat) (M : Nat → Prop) (H0 : Hp) (W0 : World) (R : Ending → World → Prop) (hH : H0.le (hpOf W0)) (h :
 (∀ b0 : Nat,
 (∀ b1 : Nat,
 Rt R W0 M H0 (fun W => Kn W0 M H0 W b1 (Obj.cells #[vsl x9 x10 x11] 26 (0, 0)) ∧ Kn W0 M H0 W b0 (Obj.cells #[vi x0, vi x1, vi x2, vi x3, vi x4, vi x5, vsl x6 x7 x8] 25 (0, 0)) ∧ True) (Value.func (.func 66) #[] #[Value.pointer (some ⟨b1, 0, none⟩), Value.pointer (some ⟨b0, 0, none⟩)])))) :
  Calls Tryz.prog 50 #[Value.agg #[vi x0, vi x1, vi x2, vi x3, vi x4, vi x5, vsl x6 x7 x8], vsl x9 x10 x11] W0 R :=
  calls_sxA (M := M) (V := v_steps) (hi := {funs := [(50, 66, 2)]}) (args := [.agg [vI 0, vI 1, vI 2, vI 3, vI 4, vI 5, vS 6], vS 9]) (nv := 12) (e := (upd (upd (upd (upd (upd (upd (upd (upd (upd (upd (upd (upd (fun _ => .i 0) 0 (.i x0)) 1 (.i x1)) 2 (.i x2)) 3 (.i x3)) 4 (.i x4)) 5 (.i x5)) 6 (.p x6)) 7 (.n x7)) 8 (.n x8)) 9 (.p x9)) 10 (.n x10)) 11 (.n x11))) Tryz.func50 hH h (by kernel_rfl) (by kernel_rfl) (by kernel_rfl)
def v_steps1 : VC :=
(.ld 1 (.k 0) [vS 3] [(3, .p), (4, .n), (5, .n)]
(.chk (.le (.k 0) (.v 4))
(.loop [(6, .n)] [.n (.k 0)] [.n (.v 6)]
(.ite (.lt (.v 6) (.v 4))
(.chk (.idx (.v 6) (.v 4))
(.chk (.isp 3)
(.ld 3 (.add (.k 0) (.mul (.v 6) (.k 9))) [vI 7, vI 8, vI 9, vI 10, vI 11, vI 12, vI 13, vI 14, vI 15] [(7, .i), (8, .i), (9, .i), (10, .i), (11, .i), (12, .i), (13, .i), (14, .i), (15, .i)]
(.all 0
(.all 1
(.ld 2 (.k 0) [vI 16, vI 17, vI 18, vI 19, vI 20, vI 21, vS 22] [(16, .i), (17, .i), (18, .i), (19, .i), (20, .i), (21, .i), (22, .p), (23, .n), (24, .n)]
(.call 47 [.agg [vI 16, vI 17, vI 18, vI 19, vI 20, vI 21, vS 22], .agg [vI 7, vI 8, vI 9, vI 10, vI 11, vI 12, vI 13, vI 14, vI 15]] [] [(25, .i), (26, .i), (27, .i), (28, .i), (29, .i), (30, .i), (31, .p), (32, .n), (33, .n), (34, .i), (35, .b)] (.tup [.agg [vI 25, vI 26, vI 27, vI 28, vI 29, vI 30, vS 31], vI 34, .bool (.v 35)]) .fresh
(.esc (.storeO 25) [.ptrO 2 (.k 0), .agg [vI 25, vI 26, vI 27, vI 28, vI 29, vI 30, vS 31]] [] [] none .turn
(.yld 0 [vI 6, .agg [vI 25, vI 26, vI 27, vI 28, vI 29, vI 30, vS 31, vI 34, .bool (.v 35)]] []
(.chk (.rng .i64 (.add (.v 6) (.k 1)))
(.chk (.le (.k 0) (.add (.v 6) (.k 1)))
(.back 0 [.n (.add (.v 6) (.k 1))]))))))))))))
(.ret (.tup []) [])))))
theorem x_steps1 (x0 : Nat) (x1 x2 : Option Loc) (M : Nat → Prop) (H0 : Hp) (W0 : World) (R : Ending → World → Prop) (hH : H0.le (hpOf W0)) (h :
 (∃ (x3 : Option Loc) (x4 x5 : Nat), RowAt H0 x1 0 [vsl x3 x4 x5] ∧
 (0 ≤ (x4 : Int) ∧ (0 ≤ (x4 : Int) →
 (∃ (I0 : List Dat → Hp → Prop) (μ0 : List Dat → Nat), I0 [.n 0] H0 ∧ ∀ H1 : Hp, ∀ x6 : Nat, I0 [.n x6] H1 →
  (((x6 : Int) < (x4 : Int) →
   (((0 : Int) ≤ (x6 : Int) ∧ (x6 : Int) < (x4 : Int)) ∧ (((0 : Int) ≤ (x6 : Int) ∧ (x6 : Int) < (x4 : Int)) →
   (x3.isSome = true ∧ (x3.isSome = true →
   (∃ (x7 x8 x9 x10 x11 x12 x13 x14 x15 : Int), RowAt H1 x3 (0 + ((x6 : Int) * 9)) [vi x7, vi x8, vi x9, vi x10, vi x11, vi x12, vi x13, vi x14, vi x15] ∧
   (∀ b0 : Nat,
   (∀ b1 : Nat,
   (∃ (x16 x17 x18 x19 x20 x21 : Int) (x22 : Option Loc) (x23 x24 : Nat), RowAt H1 x2 0 [vi x16, vi x17, vi x18, vi x19, vi x20, vi x21, vsl x22 x23 x24] ∧
   (Cl Tryz.prog W0 M H1 nK 47 #[Value.agg #[vi x16, vi x17, vi x18, vi x19, vi x20, vi x21, vsl x22 x23 x24], Value.agg #[vi x7, vi x8, vi x9, vi x10, vi x11, vi x12, vi x13, vi x14, vi x15]] fun z W1 W2 => ∃ (x25 x26 x27 x28 x29 x30 : Int) (x31 : Option Loc) (x32 x33 : Nat) (x34 : Int) (x35 : Bool), z = .returned (Value.tuple #[Value.agg #[vi x25, vi x26, vi x27, vi x28, vi x29, vi x30, vsl x31 x32 x33], vi x34, vb (x35)]) ∧ Fr W1 W2 H1 fun H2 =>
   (Es W0 M H2 nK fun W3 => Eo Tryz.prog (.storeO 25) [Value.pointer (ptrAt x2 0), Value.agg #[vi x25, vi x26, vi x27, vi x28, vi x29, vi x30, vsl x31 x32 x33]] W3 (.skip) fun W4 => Tn W0 M H2 W3 W4 fun H3 =>
   (Yl Tryz.prog W0 M H3 nK x0 [vi (x6 : Int), Value.agg #[vi x25, vi x26, vi x27, vi x28, vi x29, vi x30, vsl x31 x32 x33, vi x34, vb (x35)]] fun H4 =>
   (inKind .i64 ((x6 : Int) + 1) ∧ (inKind .i64 ((x6 : Int) + 1) →
   (0 ≤ ((x6 : Int) + 1) ∧ (0 ≤ ((x6 : Int) + 1) →
   (I0 [.n (((x6 : Int) + 1) : Int).toNat] H4 ∧ μ0 [.n (((x6 : Int) + 1) : Int).toNat] < μ0 [.n x6]))))))))))))))))) ∧
  (¬ ((x6 : Int) < (x4 : Int)) →
   Rt R W0 M H1 nK (Value.tuple #[])))))))) :
  Calls Tryz.prog 66 #[Value.func (.yield x0) #[] #[], Value.pointer (ptrAt x1 0), Value.pointer (ptrAt x2 0)] W0 R :=
  calls_sxA (M := M) (V := v_steps1) (hi := {loops := [(1, .inv [(9, .nat)] [])]}) (args := [.yl 0, .ptrO 1 (.k 0), .ptrO 2 (.k 0)]) (nv := 3) (e := (upd (upd (upd (fun _ => .i 0) 0 (.n x0)) 1 (.p x1)) 2 (.p x2))) Tryz.func66 hH h (by kernel_rfl) (by kernel_rfl) (by kernel_rfl)
def v_last : VC :=
(.all 0
(.all 1
(.call 44 [.agg [vI 0, vI 1, vI 2, vI 3, vI 4, vI 5, vS 6]] [] [(12, .i), (13, .i), (14, .i), (15, .i), (16, .i), (17, .i), (18, .p), (19, .n), (20, .n)] (.agg [vI 12, vI 13, vI 14, vI 15, vI 16, vI 17, vS 18]) .fresh
(.call 50 [.agg [vI 12, vI 13, vI 14, vI 15, vI 16, vI 17, vS 18], vS 9] [] [(21, .p), (22, .p)] (.func 66 [] [.ptrO 21 (.k 0), .ptrO 22 (.k 0)]) .fresh
(.chk (.le (.k 0) (.v 19))
(.chk (.le (.k 0) (.v 20))
(.rf 66 [.ptrO 21 (.k 0), .ptrO 22 (.k 0)] [(23, .i), (24, .i), (25, .i), (26, .i), (27, .i), (28, .i), (29, .p), (30, .n), (31, .n)] [.i (.v 12), .i (.v 13), .i (.v 14), .i (.v 15), .i (.v 16), .i (.v 17), .p 18 (.k 0), .n (.v 19), .n (.v 20)] [.i (.v 23), .i (.v 24), .i (.v 25), .i (.v 26), .i (.v 27), .i (.v 28), .p 29 (.k 0), .n (.v 30), .n (.v 31)] [(32, .i), (33, .i), (34, .i), (35, .i), (36, .i), (37, .i), (38, .i), (39, .p), (40, .n), (41, .n), (42, .i), (43, .b)] [vI 32, .agg [vI 33, vI 34, vI 35, vI 36, vI 37, vI 38, vS 39, vI 42, .bool (.v 43)]]
(.all 2
(.chk (.le (.k 0) (.v 40))
(.chk (.le (.k 0) (.v 41))
(.back 0 [.i (.v 33), .i (.v 34), .i (.v 35), .i (.v 36), .i (.v 37), .i (.v 38), .p 39 (.k 0), .n (.v 40), .n (.v 41)]))))
(.ret (.agg [vI 23, vI 24, vI 25, vI 26, vI 27, vI 28, vS 29]) []))))))))
theorem x_last (x0 x1 x2 x3 x4 x5 : Int) (x6 : Option Loc) (x7 x8 : Nat) (x9 : Option Loc) (x10 x11 : Nat) (M : Nat → Prop) (H0 : Hp) (W0 : World) (R : Ending → World → Prop) (hH : H0.le (hpOf W0)) (h :
 (∀ b0 : Nat,
 (∀ b1 : Nat,
 (Cl Tryz.prog W0 M H0 nK 44 #[Value.agg #[vi x0, vi x1, vi x2, vi x3, vi x4, vi x5, vsl x6 x7 x8]] fun z W1 W2 => ∃ (x12 x13 x14 x15 x16 x17 : Int) (x18 : Option Loc) (x19 x20 : Nat), z = .returned (Value.agg #[vi x12, vi x13, vi x14, vi x15, vi x16, vi x17, vsl x18 x19 x20]) ∧ Fr W1 W2 H0 fun H1 =>
 (Cl Tryz.prog W0 M H1 nK 50 #[Value.agg #[vi x12, vi x13, vi x14, vi x15, vi x16, vi x17, vsl x18 x19 x20], vsl x9 x10 x11] fun z W3 W4 => ∃ (x21 x22 : Option Loc), z = .returned (Value.func (.func 66) #[] #[Value.pointer (ptrAt x21 0), Value.pointer (ptrAt x22 0)]) ∧ Fr W3 W4 H1 fun H2 =>
 (0 ≤ (x19 : Int) ∧ (0 ≤ (x19 : Int) →
 (0 ≤ (x20 : Int) ∧ (0 ≤ (x20 : Int) →
 (∃ (own : Nat → Prop) (N : Nat) (item : Nat → List Value → Hp → Prop) (I0 : List Dat → Nat → Hp → (Nat → Prop) → Prop) (Hi Ha : Hp) (Ta : Nat → Prop), RfIn Tryz.prog W0 M 66 [Value.pointer (ptrAt x21 0), Value.pointer (ptrAt x22 0)] H2 own N item I0 [.i x12, .i x13, .i x14, .i x15, .i x16, .i x17, .p (x18.map fun a => a.shift 0), .n x19, .n x20] Hi Ha Ta ∧
 (∀ (k : Nat) (vals : List Value) (Wr : World) (Mr : Nat → Prop) (Ha : Hp) (Ta : Nat → Prop) (D H3 : Hp), k < N → W0.heap.size ≤ Wr.heap.size → item k vals D → (∀ b, Ta b → Mr b ∧ D b = none) → Ha.le H3 → D.le H3 → ∀ (x23 x24 x25 x26 x27 x28 : Int) (x29 : Option Loc) (x30 x31 : Nat), I0 [.i x23, .i x24, .i x25, .i x26, .i x27, .i x28, .p (x29.map fun a => a.shift 0), .n x30, .n x31] k Ha Ta → ∃ (x32 x33 x34 x35 x36 x37 x38 : Int) (x39 : Option Loc) (x40 x41 : Nat) (x42 : Int) (x43 : Bool), vals = [vi x32, Value.agg #[vi x33, vi x34, vi x35, vi x36, vi x37, vi x38, vsl x39 x40 x41, vi x42, vb (x43)]] ∧
  (∀ b2 : Nat,
  (0 ≤ (x40 : Int) ∧ (0 ≤ (x40 : Int) →
  (0 ≤ (x41 : Int) ∧ (0 ≤ (x41 : Int) →
  (∃ (T2 : Nat → Prop) (K2 : Hp), K2.le H3 ∧ I0 [.i x33, .i x34, .i x35, .i x36, .i x37, .i x38, .p (x39.map fun a => a.shift 0), .n x40, .n x41] (k + 1) K2 T2 ∧ (∀ b o, K2 b = some o → (∃ q, Ha b = some q) ∨ (∃ q, D b = some q) ∨ Wr.heap.size ≤ b) ∧ ∀ b, T2 b → (Ta b ∨ Wr.heap.size ≤ b) ∧ (∃ o, K2 b = some o) ∧ D b = none))))))) ∧
 (∀ (H3 : Hp) (Ta : Nat → Prop), ∀ (x23 x24 x25 x26 x27 x28 : Int) (x29 : Option Loc) (x30 x31 : Nat), I0 [.i x23, .i x24, .i x25, .i x26, .i x27, .i x28, .p (x29.map fun a => a.shift 0), .n x30, .n x31] N H3 Ta →
  Rt R W0 M H3 nK (Value.agg #[vi x23, vi x24, vi x25, vi x26, vi x27, vi x28, vsl x29 x30 x31])))))))))))) :
  Calls Tryz.prog 31 #[Value.agg #[vi x0, vi x1, vi x2, vi x3, vi x4, vi x5, vsl x6 x7 x8], vsl x9 x10 x11] W0 R :=
  calls_sxA (M := M) (V := v_last) (hi := {loops := [(3, .iter [(false, [.int .i64]), (true, [.int .i64, .int .i64, .int .i64, .int .i64, .int .i64, .int .i64, .sl, .int .i64, .bool])] [(2, [.pt (.int .i64), .pt (.int .i64), .pt (.int .i64), .pt (.int .i64), .pt (.int .i64), .pt (.int .i64), .pt .sl])])], funs := [(50, 66, 2)]}) (args := [.agg [vI 0, vI 1, vI 2, vI 3, vI 4, vI 5, vS 6], vS 9]) (nv := 12) (e := (upd (upd (upd (upd (upd (upd (upd (upd (upd (upd (upd (upd (fun _ => .i 0) 0 (.i x0)) 1 (.i x1)) 2 (.i x2)) 3 (.i x3)) 4 (.i x4)) 5 (.i x5)) 6 (.p x6)) 7 (.n x7)) 8 (.n x8)) 9 (.p x9)) 10 (.n x10)) 11 (.n x11))) Tryz.func31 hH h (by kernel_rfl) (by kernel_rfl) (by kernel_rfl)
def v_folded : VC :=
(.all 0
(.all 1
(.call 24 [.agg [vI 0, vI 1, vI 2, vI 3, vI 4, vI 5, vS 6]] [] [(12, .i), (13, .i), (14, .i), (15, .i), (16, .i), (17, .i), (18, .p), (19, .n), (20, .n)] (.agg [vI 12, vI 13, vI 14, vI 15, vI 16, vI 17, vS 18]) .fresh
(.chk (.le (.k 0) (.v 19))
(.chk (.le (.k 0) (.v 20))
(.loop [(21, .n), (22, .p), (23, .n), (24, .n), (25, .p), (26, .n), (27, .n), (28, .i), (29, .i), (30, .i), (31, .i), (32, .i), (33, .i), (34, .p), (35, .n), (36, .n)] [.n (.k 0), .pn, .n (.k 0), .n (.k 0), .pn, .n (.k 0), .n (.k 0), .i (.v 12), .i (.v 13), .i (.v 14), .i (.v 15), .i (.v 16), .i (.v 17), .p 18 (.k 0), .n (.v 19), .n (.v 20)] [.n (.v 21), .p 22 (.k 0), .n (.v 23), .n (.v 24), .p 25 (.k 0), .n (.v 26), .n (.v 27), .i (.v 28), .i (.v 29), .i (.v 30), .i (.v 31), .i (.v 32), .i (.v 33), .p 34 (.k 0), .n (.v 35), .n (.v 36)]
(.chk (.le (.k 0) (.v 10))
(.ite (.lt (.v 21) (.v 10))
(.chk (.idx (.v 21) (.v 10))
(.chk (.isp 9)
(.ld 9 (.add (.k 0) (.mul (.v 21) (.k 9))) [vI 37, vI 38, vI 39, vI 40, vI 41, vI 42, vI 43, vI 44, vI 45] [(37, .i), (38, .i), (39, .i), (40, .i), (41, .i), (42, .i), (43, .i), (44, .i), (45, .i)]
(.call 56 [.agg [vI 28, vI 29, vI 30, vI 31, vI 32, vI 33, vS 34], .agg [vI 37, vI 38, vI 39, vI 40, vI 41, vI 42, vI 43, vI 44, vI 45]] [] [(46, .i), (47, .i), (48, .i), (49, .i), (50, .i), (51, .i), (52, .p), (53, .n), (54, .n), (55, .i), (56, .b)] (.tup [.agg [vI 46, vI 47, vI 48, vI 49, vI 50, vI 51, vS 52], vI 55, .bool (.v 56)]) .fresh
(.all 2
(.esc (.bi .append #[84, 84] 84) [vS 22, .slK 2 0 1 1] [(2, ⟨[vI 55], 3⟩)] [(57, .p), (58, .n), (59, .n)] (some (vS 57)) .turn
(.all 3
(.esc (.bi .append #[85, 85] 85) [vS 25, .slK 3 0 1 1] [(3, ⟨[.bool (.v 56)], 4⟩)] [(60, .p), (61, .n), (62, .n)] (some (vS 60)) .turn
(.chk (.rng .i64 (.add (.v 21) (.k 1)))
(.chk (.le (.k 0) (.add (.v 21) (.k 1)))
(.chk (.le (.k 0) (.v 58))
(.chk (.le (.k 0) (.v 59))
(.chk (.le (.k 0) (.v 61))
(.chk (.le (.k 0) (.v 62))
(.chk (.le (.k 0) (.v 53))
(.chk (.le (.k 0) (.v 54))
(.back 0 [.n (.add (.v 21) (.k 1)), .p 57 (.k 0), .n (.v 58), .n (.v 59), .p 60 (.k 0), .n (.v 61), .n (.v 62), .i (.v 46), .i (.v 47), .i (.v 48), .i (.v 49), .i (.v 50), .i (.v 51), .p 52 (.k 0), .n (.v 53), .n (.v 54)])))))))))))))))))
(.ret (.tup [.agg [vI 28, vI 29, vI 30, vI 31, vI 32, vI 33, vS 34], vS 22, vS 25]) [])))))))))
theorem x_folded (x0 x1 x2 x3 x4 x5 : Int) (x6 : Option Loc) (x7 x8 : Nat) (x9 : Option Loc) (x10 x11 : Nat) (M : Nat → Prop) (H0 : Hp) (W0 : World) (R : Ending → World → Prop) (hH : H0.le (hpOf W0)) (h :
 (∀ b0 : Nat,
 (∀ b1 : Nat,
 (Cl Tryz.prog W0 M H0 nK 24 #[Value.agg #[vi x0, vi x1, vi x2, vi x3, vi x4, vi x5, vsl x6 x7 x8]] fun z W1 W2 => ∃ (x12 x13 x14 x15 x16 x17 : Int) (x18 : Option Loc) (x19 x20 : Nat), z = .returned (Value.agg #[vi x12, vi x13, vi x14, vi x15, vi x16, vi x17, vsl x18 x19 x20]) ∧ Fr W1 W2 H0 fun H1 =>
 (0 ≤ (x19 : Int) ∧ (0 ≤ (x19 : Int) →
 (0 ≤ (x20 : Int) ∧ (0 ≤ (x20 : Int) →
 (∃ (I0 : List Dat → Hp → Prop) (μ0 : List Dat → Nat), I0 [.n 0, .p none, .n 0, .n 0, .p none, .n 0, .n 0, .i x12, .i x13, .i x14, .i x15, .i x16, .i x17, .p (x18.map fun a => a.shift 0), .n x19, .n x20] H1 ∧ ∀ H2 : Hp, ∀ (x21 : Nat) (x22 : Option Loc) (x23 x24 : Nat) (x25 : Option Loc) (x26 x27 : Nat) (x28 x29 x30 x31 x32 x33 : Int) (x34 : Option Loc) (x35 x36 : Nat), I0 [.n x21, .p (x22.map fun a => a.shift 0), .n x23, .n x24, .p (x25.map fun a => a.shift 0), .n x26, .n x27, .i x28, .i x29, .i x30, .i x31, .i x32, .i x33, .p (x34.map fun a => a.shift 0), .n x35, .n x36] H2 →
  (0 ≤ (x10 : Int) ∧ (0 ≤ (x10 : Int) →
  (((x21 : Int) < (x10 : Int) →
   (((0 : Int) ≤ (x21 : Int) ∧ (x21 : Int) < (x10 : Int)) ∧ (((0 : Int) ≤ (x21 : Int) ∧ (x21 : Int) < (x10 : Int)) →
   (x9.isSome = true ∧ (x9.isSome = true →
   (∃ (x37 x38 x39 x40 x41 x42 x43 x44 x45 : Int), RowAt H2 x9 (0 + ((x21 : Int) * 9)) [vi x37, vi x38, vi x39, vi x40, vi x41, vi x42, vi x43, vi x44, vi x45] ∧
   (Cl Tryz.prog W0 M H2 nK 56 #[Value.agg #[vi x28, vi x29, vi x30, vi x31, vi x32, vi x33, vsl x34 x35 x36], Value.agg #[vi x37, vi x38, vi x39, vi x40, vi x41, vi x42, vi x43, vi x44, vi x45]] fun z W3 W4 => ∃ (x46 x47 x48 x49 x50 x51 : Int) (x52 : Option Loc) (x53 x54 : Nat) (x55 : Int) (x56 : Bool), z = .returned (Value.tuple #[Value.agg #[vi x46, vi x47, vi x48, vi x49, vi x50, vi x51, vsl x52 x53 x54], vi x55, vb (x56)]) ∧ Fr W3 W4 H2 fun H3 =>
   (∀ b2 : Nat,
   (Es W0 M H3 (fun W => Kn W0 M H3 W b2 (Obj.cells #[vi x55] 3 (0, 0)) ∧ True) fun W5 => ∃ (x57 : Option Loc) (x58 x59 : Nat), Eo Tryz.prog (.bi .append #[84, 84] 84) [vsl x22 x23 x24, Value.slice (some ⟨b2, 0, none⟩) 1 1] W5 (.value (vsl x57 x58 x59)) fun W6 => Tn W0 M H3 W5 W6 fun H4 =>
   (∀ b3 : Nat,
   (Es W0 M H4 (fun W => Kn W0 M H4 W b3 (Obj.cells #[vb (x56)] 4 (0, 0)) ∧ True) fun W7 => ∃ (x60 : Option Loc) (x61 x62 : Nat), Eo Tryz.prog (.bi .append #[85, 85] 85) [vsl x25 x26 x27, Value.slice (some ⟨b3, 0, none⟩) 1 1] W7 (.value (vsl x60 x61 x62)) fun W8 => Tn W0 M H4 W7 W8 fun H5 =>
   (inKind .i64 ((x21 : Int) + 1) ∧ (inKind .i64 ((x21 : Int) + 1) →
   (0 ≤ ((x21 : Int) + 1) ∧ (0 ≤ ((x21 : Int) + 1) →
   (0 ≤ (x58 : Int) ∧ (0 ≤ (x58 : Int) →
   (0 ≤ (x59 : Int) ∧ (0 ≤ (x59 : Int) →
   (0 ≤ (x61 : Int) ∧ (0 ≤ (x61 : Int) →
   (0 ≤ (x62 : Int) ∧ (0 ≤ (x62 : Int) →
   (0 ≤ (x53 : Int) ∧ (0 ≤ (x53 : Int) →
   (0 ≤ (x54 : Int) ∧ (0 ≤ (x54 : Int) →
   (I0 [.n (((x21 : Int) + 1) : Int).toNat, .p (x57.map fun a => a.shift 0), .n x58, .n x59, .p (x60.map fun a => a.shift 0), .n x61, .n x62, .i x46, .i x47, .i x48, .i x49, .i x50, .i x51, .p (x52.map fun a => a.shift 0), .n x53, .n x54] H5 ∧ μ0 [.n (((x21 : Int) + 1) : Int).toNat, .p (x57.map fun a => a.shift 0), .n x58, .n x59, .p (x60.map fun a => a.shift 0), .n x61, .n x62, .i x46, .i x47, .i x48, .i x49, .i x50, .i x51, .p (x52.map fun a => a.shift 0), .n x53, .n x54] < μ0 [.n x21, .p (x22.map fun a => a.shift 0), .n x23, .n x24, .p (x25.map fun a => a.shift 0), .n x26, .n x27, .i x28, .i x29, .i x30, .i x31, .i x32, .i x33, .p (x34.map fun a => a.shift 0), .n x35, .n x36])))))))))))))))))))))))))))) ∧
  (¬ ((x21 : Int) < (x10 : Int)) →
   Rt R W0 M H2 nK (Value.tuple #[Value.agg #[vi x28, vi x29, vi x30, vi x31, vi x32, vi x33, vsl x34 x35 x36], vsl x22 x23 x24, vsl x25 x26 x27])))))))))))))) :
  Calls Tryz.prog 40 #[Value.agg #[vi x0, vi x1, vi x2, vi x3, vi x4, vi x5, vsl x6 x7 x8], vsl x9 x10 x11] W0 R :=
  calls_sxA (M := M) (V := v_folded) (hi := {loops := [(5, .inv [(9, .nat), (7, .pt .sl), (8, .pt .sl)] [(2, [.pt (.int .i64), .pt (.int .i64), .pt (.int .i64), .pt (.int .i64), .pt (.int .i64), .pt (.int .i64), .pt .sl])])]}) (args := [.agg [vI 0, vI 1, vI 2, vI 3, vI 4, vI 5, vS 6], vS 9]) (nv := 12) (e := (upd (upd (upd (upd (upd (upd (upd (upd (upd (upd (upd (upd (fun _ => .i 0) 0 (.i x0)) 1 (.i x1)) 2 (.i x2)) 3 (.i x3)) 4 (.i x4)) 5 (.i x5)) 6 (.p x6)) 7 (.n x7)) 8 (.n x8)) 9 (.p x9)) 10 (.n x10)) 11 (.n x11))) Tryz.func40 hH h (by kernel_rfl) (by kernel_rfl) (by kernel_rfl)
end Go.Proofs.YtfpmcmhihhnfgaaGreat
namespace Go.Proofs.YtfpmcmhihhnfgaaGreat
open Go.RowKit
open Classical
section
variable {H : Hp} {p : Option Loc} {n c : Nat} {l : List Ent}
theorem c_foldCheck (hE : Ents H p n c l) : Gv Tryz.prog 49 #[vsl p n c] H (vi (entsErr l)) := fun W hH => by
  have hn := hE.len
  have h63 := hE.lt63
  unfold entsErr
  refine x_foldCheck p n c noM H W _ hH ⟨by omega, fun _ => ⟨fun h50 => Rt.gv' (by rw [if_pos (by omega)]), fun h50 => ?_⟩⟩
  rw [if_neg (by omega)]
  refine ⟨fun v K => match v with | [.n j] => j ≤ n ∧ H.le K ∧ badEnt (l.drop j) = badEnt l | _ => False, fun v => match v with | [.n j] => n - j | _ => 0, ⟨by omega, Hp.le_refl H, by simp⟩, fun K j hI => ?_⟩
  obtain ⟨hj, hle, hf⟩ := hI
  have ht : ((j : Int) + 1).toNat = j + 1 := by omega
  refine ⟨fun hlt => ⟨⟨by omega, hlt⟩, fun _ => ?_⟩, fun hge => Rt.gv' ?_⟩
  · obtain ⟨e, he, hat, _⟩ := (hE.mono hle).at (k := j) (by omega)
    rw [drop_cons he, badEnt] at hf
    refine ⟨hat.isSome, fun _ => ⟨_, _, _, _, _, _, _, _, _, hat, fun b0 => Cl.same (c_entCheck e K) fun _ _ hx => ⟨_, rfl, hx, fun h0 => ⟨in64 (by omega), fun _ => ⟨by omega, fun _ => ?_⟩⟩, fun h0 => Rt.gv' (by rw [← hf, if_neg h0])⟩⟩⟩
    rw [ht]
    exact ⟨⟨by omega, hle, by rw [← hf, if_pos h0]⟩, by simp only; omega⟩
  · rw [← hf, List.drop_of_length_le (by omega)]; rfl
theorem c_listErr (hE : Ents H p n c l) : Gv Tryz.prog 37 #[vsl p n c] H (vi (entsErr l)) := fun W hH => by
  have hn := hE.len
  have h63 := hE.lt63
  unfold entsErr
  refine x_listErr p n c noM H W _ hH ⟨by omega, fun _ => ⟨fun h50 => Rt.gv' (by rw [if_pos (by omega)]), fun h50 => ?_⟩⟩
  rw [if_neg (by omega)]
  refine ⟨fun v K => match v with | [.n j] => j ≤ n ∧ H.le K ∧ badEnt (l.drop j) = badEnt l | _ => False, fun v => match v with | [.n j] => n - j | _ => 0, ⟨by omega, Hp.le_refl H, by simp⟩, fun K j hI => ?_⟩
  obtain ⟨hj, hle, hf⟩ := hI
  have ht : ((j : Int) + 1).toNat = j + 1 := by omega
  refine ⟨fun hlt => ⟨⟨by omega, hlt⟩, fun _ => ?_⟩, fun hge => Rt.gv' ?_⟩
  · obtain ⟨e, he, hat, h64⟩ := (hE.mono hle).at (k := j) (by omega)
    rw [drop_cons he, badEnt] at hf
    refine ⟨hat.isSome, fun _ => ⟨_, _, _, _, _, _, _, _, _, hat, Cl.same (c_entErr e h64 K) fun _ _ hx => ⟨_, rfl, hx, fun h0 => ⟨in64 (by omega), fun _ => ⟨by omega, fun _ => ?_⟩⟩, fun h0 => Rt.gv' (by rw [← hf, if_neg h0])⟩⟩⟩
    rw [ht]
    exact ⟨⟨by omega, hle, by rw [← hf, if_pos h0]⟩, by simp only; omega⟩
  · rw [← hf, List.drop_of_length_le (by omega)]; rfl
end
/-- a state's values, as they stand -/
def Sta.at (s : Sta) (a b v0 v1 v2 v3 : Int) : Prop := a = s.pos ∧ b = s.clock ∧ v0 = s.vals.a ∧ v1 = s.vals.b ∧ v2 = s.vals.c ∧ v3 = s.vals.d
theorem Tab.keep {W W' : World} {g : Option Nat} {H H' D : Hp} (hu : Upd g W W' H H') (hH : H.le (hpOf W)) (hD : D.le H) (hg : ∀ b, g = some b → D b = none) : D.le H' := hu.keep hH hD hg
/-- what comes of folding -/
def FPost (s : Sta) (l : List Ent) (v : Value) (D : Hp) : Prop := ∃ p n c pa ca ga pb cb gb, v = .tuple #[(foldS s l).val (vsl p n c), vsl pa l.length ca, vsl pb l.length cb] ∧ Tab D p n c (foldS s l).table ∧ Ow D 3 1 pa l.length ca ((foldA s l).map irow) ga ∧ Ow D 4 1 pb l.length cb ((foldB s l).map brow) gb
theorem infoBool : infoIs Tryz.prog 4 1 1 = true := by kernel_rfl
theorem c_folded {H : Hp} {p q : Option Loc} {n c m d : Nat} {s : Sta} {l : List Ent} (hT : Tab H p n c s.table) (hs : StOk s) (hE : Ents H q m d l) (hl : ∀ e ∈ l, EntOk e) (hp : s.pos + l.length ≤ 50) :
    Gf Tryz.prog 40 #[s.val (vsl p n c), vsl q m d] H (FPost s l) := fun W hH => by
  have hm := hE.len
  have h63 := hE.lt63
  have hpos := hs.pos
  refine x_folded _ _ _ _ _ _ p n c q m d noM H W _ hH fun b0 b1 => ?_
  refine Cl.fresh (c_ownState hT hs.table) ?_
  rintro v W1 W2 D1 ⟨p1, n1, c1, rfl, hT1⟩ hx1 hD1 hf1 nn1
  refine ⟨_, _, _, _, _, _, p1, n1, c1, rfl, hx1, D1, hD1, hf1, fun H1 h01 hd1 => ⟨by omega, fun _ => ⟨by omega, fun _ => ?_⟩⟩⟩
  have f1 : ∀ b o, D1 b = some o → W.heap.size ≤ b := fun b o h => Nat.le_trans nn1.mod.size (hf1 b o h)
  refine ⟨fun v K => match v with
      | [.n j, .p pa, .n na, .n ca, .p pb, .n nb, .n cb, .i a, .i b, .i v0, .i v1, .i v2, .i v3, .p pt, .n nt, .n ct] => ∃ ga gb Dt, j ≤ m ∧ na = j ∧ nb = j ∧ H.le K ∧ Ow K 3 1 pa j ca ((foldA s (l.take j)).map irow) ga ∧ Ow K 4 1 pb j cb ((foldB s (l.take j)).map brow) gb ∧
          (∀ b, ga = some b → W.heap.size ≤ b) ∧ (∀ b, gb = some b → W.heap.size ≤ b) ∧ Apart ga gb ∧ Hp.le Dt K ∧ (∀ b o, Dt b = some o → W.heap.size ≤ b) ∧ (∀ b, ga = some b → Dt b = none) ∧ (∀ b, gb = some b → Dt b = none) ∧ (foldS s (l.take j)).at a b v0 v1 v2 v3 ∧ Tab Dt pt nt ct (foldS s (l.take j)).table
      | _ => False, fun v => match v with | .n j :: _ => m - j | _ => 0, ?_, ?_⟩
  · rw [map0]
    exact ⟨none, none, D1, by omega, rfl, rfl, h01, Ow.nil _ _ _ _, Ow.nil _ _ _ _, (fun b h => by cases h), (fun b h => by cases h), (fun b h => by cases h), hd1, f1, (fun b h => by cases h), (fun b h => by cases h), ⟨rfl, rfl, rfl, rfl, rfl, rfl⟩, hT1⟩
  intro K j pa na ca pb nb cb a b v0 v1 v2 v3 pt nt ct hI
  simp only [map0] at hI ⊢
  obtain ⟨ga, gb, Dt, hj, hna, hnb, hle, oa, ob, na1, nb1, hab, hDt, fDt, da, db, ⟨rfl, rfl, rfl, rfl, rfl, rfl⟩, hTt⟩ := hI
  subst na; subst nb
  have ht : ((j : Int) + 1).toNat = j + 1 := by omega
  refine ⟨by omega, fun _ => ⟨fun hlt => ⟨⟨by omega, hlt⟩, fun _ => ?_⟩, fun hge => ?_⟩⟩
  · obtain ⟨e, he, hat, h64⟩ := (hE.mono hle).at (k := j) (by omega)
    obtain ⟨hok, hps⟩ := fold_at_ok hs hl hp (k := j) (by omega)
    refine ⟨hat.isSome, fun _ => ⟨_, _, _, _, _, _, _, _, _, hat, ?_⟩⟩
    refine Cl.fresh (c_applied (hTt.mono hDt) hok hps (hl e (List.mem_of_getElem? he))) ?_
    rintro v W3 W4 D2 ⟨p2, n2, c2, rfl, hT2⟩ hx3 hD2 hf2 nn2
    refine ⟨_, _, _, _, _, _, p2, n2, c2, _, _, rfl, hx3, D2, hD2, hf2, fun H2 h12 hd2 b2 => ?_⟩
    have f2 : ∀ b o, D2 b = some o → W.heap.size ≤ b := fun b o h => Nat.le_trans nn2.mod.size (hf2 b o h)
    have oa2 := oa.mono fun b _ o h => h12 b o h
    have ob2 := ob.mono fun b _ o h => h12 b o h
    have da2 : ∀ b, ga = some b → D2 b = none := fun b hb => by
      cases h : D2 b with
      | none => rfl
      | some o => have h1 := hf2 b o h; have h2 := oa.lt nn2.sub b hb; omega
    have db2 : ∀ b, gb = some b → D2 b = none := fun b hb => by
      cases h : D2 b with
      | none => rfl
      | some o => have h1 := hf2 b o h; have h2 := ob.lt nn2.sub b hb; omega
    have hH2 : H.le H2 := Hp.le_trans hle h12
    intro W5 n5 k5
    obtain ⟨r1, y1, g1, W6, H3, run1, hu1, oa3, hg1, _⟩ := run_append1 (P := Tryz.prog) Tryz.underlying84 infoInt (by omega) n5.sub oa2 (row := irow ((foldS s (l.take j)).apply e).2.1) k5.1.eq k5.1.off rfl (fun v hv => by
      simp only [irow, List.mem_singleton] at hv; subst hv; rfl) (by simp only [maxLen]; omega) (by omega) 84
    refine ⟨r1, j + 1, y1, W6, run1, H3, hu1.own oa2 (fun b hb => .inl (na1 b hb)), fun b3 => ?_⟩
    have ob3 := ob2.keep hu1 n5.sub (fun b hb h => hab b h hb)
    have hH3 : H.le H3 := hu1.keep n5.sub hH2 (fun b hb => old_none hH (na1 b hb))
    have hd3 : D2.le H3 := hu1.keep n5.sub hd2 da2
    have na3 : ∀ b, g1 = some b → W.heap.size ≤ b := fun b hb => by
      rcases hg1 with h | h
      · exact na1 b (h ▸ hb)
      · rw [h] at hb; simp only [Option.some.injEq] at hb; have := n5.mod.size; omega
    have da3 : ∀ b, g1 = some b → D2 b = none := fun b hb => by
      rcases hg1 with h | h
      · exact da2 b (h ▸ hb)
      · rw [h] at hb; simp only [Option.some.injEq] at hb; exact old_none (Hp.le_trans hd2 n5.sub) (by omega)
    have hab3 : Apart g1 gb := fun b hb hb2 => by
      rcases hg1 with h | h
      · exact hab b (h ▸ hb) hb2
      · rw [h] at hb; simp only [Option.some.injEq] at hb; have := ob2.lt n5.sub b hb2; omega
    intro W7 n7 k7
    obtain ⟨r2, y2, g2, W8, H4, run2, hu2, ob4, hg2, _⟩ := run_append1 (P := Tryz.prog) Tryz.underlying85 infoBool (by omega) n7.sub ob3 (row := brow ((foldS s (l.take j)).apply e).2.2) k7.1.eq k7.1.off rfl (fun v hv => by
      simp only [brow, List.mem_singleton] at hv; subst hv; rfl) (by simp only [maxLen]; omega) (by omega) 85
    refine ⟨r2, j + 1, y2, W8, run2, H4, hu2.own ob3 (fun b hb => .inl (nb1 b hb)), in64 (by omega), fun _ => ⟨by omega, fun _ => ⟨by omega, fun _ => ⟨by omega, fun _ => ⟨by omega, fun _ => ⟨by omega, fun _ => ⟨by omega, fun _ => ⟨by omega, fun _ => ?_⟩⟩⟩⟩⟩⟩⟩⟩
    have oa4 := oa3.keep hu2 n7.sub (fun b hb h => hab3 b hb h)
    rw [ht]
    refine ⟨⟨g1, g2, D2, by omega, rfl, rfl, hu2.keep n7.sub hH3 (fun b hb => old_none hH (nb1 b hb)), ?_, ?_, na3, ?_, ?_, hu2.keep n7.sub hd3 db2, f2, da3, ?_, ?_, ?_⟩, by omega⟩
    · rw [foldA_at he, List.map_append]; exact oa4
    · rw [foldB_at he, List.map_append]; exact ob4
    · intro b hb
      rcases hg2 with h | h
      · exact nb1 b (h ▸ hb)
      · rw [h] at hb; simp only [Option.some.injEq] at hb; have := n7.mod.size; omega
    · intro b hb hb2
      rcases hg2 with h | h
      · exact hab3 b hb (h ▸ hb2)
      · rw [h] at hb2; simp only [Option.some.injEq] at hb2; have := oa3.lt n7.sub b hb; omega
    · intro b hb
      rcases hg2 with h | h
      · exact db2 b (h ▸ hb)
      · rw [h] at hb; simp only [Option.some.injEq] at hb; exact old_none (Hp.le_trans hd3 n7.sub) (by omega)
    · rw [foldS_at he]; exact ⟨rfl, rfl, rfl, rfl, rfl, rfl⟩
    · rw [foldS_at he]; exact hT2
  · have hjm : j = l.length := by omega
    rw [hjm, List.take_length] at oa ob hTt ⊢
    exact Rt.gfn ⟨pt, nt, ct, pa, ca, ga, pb, cb, gb, rfl, hTt.mono (le_newer hDt fDt), oa.new na1, ob.new nb1⟩
end Go.Proofs.YtfpmcmhihhnfgaaGreat
namespace Go.Proofs.YtfpmcmhihhnfgaaGreat
open Go.RowKit
open Classical
theorem Kept.cells {H : Hp} {p : Option Loc} {n c : Nat} {l : List Rep} (h : Kept H p n c l) : Kept H.cells p n c l := ⟨h.1, h.2.1, h.2.2.cells'⟩
theorem Tab.cells {H : Hp} {p : Option Loc} {n c : Nat} {l : List Ses} (h : Tab H p n c l) : Tab H.cells p n c l := by
  obtain ⟨h1, h2, rows, h3, h4⟩ := h
  refine ⟨h1, h2, rows, h3.cells', h4.mono fun r s hr => ?_⟩
  obtain ⟨p, n, c, h5, h6⟩ := hr
  exact ⟨p, n, c, h5, h6.cells⟩
def Sta.row (s : Sta) (v : Value) : List Value := [vi s.pos, vi s.clock, vi s.vals.a, vi s.vals.b, vi s.vals.c, vi s.vals.d, v]
def stepVal (s : Sta) (v : Value) (a : Int) (b : Bool) : Value := .agg #[vi s.pos, vi s.clock, vi s.vals.a, vi s.vals.b, vi s.vals.c, vi s.vals.d, v, vi a, vb b]
def StepIt (s : Sta) (l : List Ent) (b : Nat) (k : Nat) (vals : List Value) (D : Hp) : Prop := (∀ j o, D j = some o → b < j) ∧ ∃ e p n c, l[k]? = some e ∧ vals = [vi (k : Int), stepVal (foldS s (l.take (k + 1))) (vsl p n c) ((foldS s (l.take k)).apply e).2.1 ((foldS s (l.take k)).apply e).2.2] ∧ Tab D p n c (foldS s (l.take (k + 1))).table
theorem infoState : infoIs Tryz.prog 25 7 72 = true := by kernel_rfl
theorem it_steps {Hi Hr : Hp} {b : Nat} {x1 : Option Loc} {q p : Option Loc} {m d n c : Nat} {s : Sta} {l : List Ent} (hs : StOk s) (hl : ∀ e ∈ l, EntOk e) (hp : s.pos + l.length ≤ 50)
    (hHr : Hr.le Hi) (hb : Hr b = none) (hx1 : RowAt Hr x1 0 [vsl q m d]) (hE : Ents Hr q m d l) (hT : Tab Hr p n c s.table) (hB : Ow Hi 25 7 (some (b, 0)) 1 1 [s.row (vsl p n c)] (some b)) :
    Iter Tryz.prog 66 [.pointer (ptrAt x1 0), .pointer (ptrAt (some (b, 0)) 0)] Hi (fun k => k = b) l.length (StepIt s l b) := by
  intro yl J hround W HJ FT hHi hHJ hJ0 hown hFT
  have hm := hE.len
  have hpos := hs.pos
  have h63 := hE.lt63
  have hBlt : b < W.heap.size := hB.lt hHi b rfl
  refine x_steps1 yl x1 (some (b, 0)) (fun k => k = b ∨ FT k) (both2 Hi HJ) W _ (both2_le hHi hHJ) ⟨q, m, d, (hx1.mono hHr).mono (both2_l _ _), by omega, fun _ => ?_⟩
  refine ⟨fun v K => match v with
      | [.n k] => ∃ (HJ' : Hp) (FT' : Nat → Prop) (Dt : Hp) (pt : Option Loc) (nt ct : Nat), k ≤ m ∧ J k HJ' FT' ∧ HJ'.le K ∧ Hr.le K ∧ Ow K 25 7 (some (b, 0)) 1 1 [(foldS s (l.take k)).row (vsl pt nt ct)] (some b) ∧ Dt.le K ∧ Tab Dt pt nt ct (foldS s (l.take k)).table ∧
          (∀ j, FT' j → (FT j ∨ W.heap.size ≤ j) ∧ Hr j = none ∧ Dt j = none ∧ j ≠ b ∧ ∃ o, HJ' j = some o) ∧ HJ' b = none ∧ Dt b = none
      | _ => False, fun v => match v with | [.n k] => m - k | _ => 0, ?_, ?_⟩
  · refine ⟨HJ, FT, Hr, p, n, c, by omega, hJ0, both2_r hHi hHJ, Hp.le_trans hHr (both2_l _ _), hB.mono fun b _ o ho => both2_l _ _ b o ho, Hp.le_trans hHr (both2_l _ _), hT, fun j hj => ?_, (hown b rfl).1, hb⟩
    obtain ⟨h1, h2⟩ := hFT j hj
    refine ⟨.inl hj, le_none hHr h1, le_none hHr h1, fun h => ?_, h2⟩
    obtain ⟨_, o, ho⟩ := hown b rfl
    rw [h, ho] at h1; cases h1
  intro K k ⟨HJ', FT', Dt, pt, nt, ct, hkm, hJ, hJK, hrK, hbK, hDK, hTt, hF, hJb, hDb⟩
  refine ⟨fun hlt => ⟨⟨by omega, hlt⟩, fun _ => ?_⟩, fun hge => ?_⟩
  · obtain ⟨e, he, hat, h64⟩ := (hE.mono hrK).at (k := k) (by omega)
    obtain ⟨hok, hps⟩ := fold_at_ok hs hl hp (k := k) (by omega)
    obtain ⟨row, hrow, _, hat2⟩ := hbK.rows.at (k := 0) (by omega) (off := 0) (by simp)
    simp only [List.getElem?_cons_zero, Option.some.injEq] at hrow
    subst hrow
    refine ⟨hat.isSome, fun _ => ⟨_, _, _, _, _, _, _, _, _, hat, fun b0 b1 => ⟨_, _, _, _, _, _, pt, nt, ct, hat2, ?_⟩⟩⟩
    refine Cl.fresh (c_next (hTt.mono hDK) hok hps (hl e (List.mem_of_getElem? he))) ?_
    rintro v W1 W2 D ⟨p1, n1, c1, es, g, rfl, hO, hes⟩ hx hD hf nn
    refine ⟨_, _, _, _, _, _, p1, n1, c1, _, _, rfl, hx, D, hD, hf, fun H2 h12 hd2 => ?_⟩
    have hT1 := hO.tab
    rw [hes] at hT1
    have hb2 := hbK.mono fun b _ o ho => h12 b o ho
    have hDb2 : D b = none := by
      cases hh : D b with
      | none => rfl
      | some o => have h1 := hf b o hh; have h2 := hbK.lt nn.sub b rfl; omega
    intro W3 n3 _
    obtain ⟨ti, z, i1, i2, i3, i4, i5, i6⟩ := info_of infoState
    obtain ⟨W4, H3, hrun, hu, hO3⟩ := ek_store (P := Tryz.prog) (t := 25) i1 n3.sub hb2 (i := 0) (j := 0) (vs := ((foldS s (l.take k)).apply e).1.row (vsl p1 n1 c1)) (v := ((foldS s (l.take k)).apply e).1.val (vsl p1 n1 c1)) rfl rfl i3 (by simp [Sta.row]) (by simp [Sta.row]) (fun u hu => by
      simp only [Sta.row, List.mem_cons, List.not_mem_nil, or_false] at hu
      rcases hu with rfl | rfl | rfl | rfl | rfl | rfl | rfl <;> rfl) (off := 0) (by simp)
    refine ⟨W4, hrun, H3, hu.own hb2 (fun j hj => .inr (.inl (by simpa using hj.symm))), ?_⟩
    have hg : ∀ {A : Hp}, A b = none → ∀ j, some b = some j → A j = none := fun h j hj => by simp only [Option.some.injEq] at hj; exact hj ▸ h
    have hJ3 : HJ'.le H3 := hu.keep n3.sub (Hp.le_trans hJK h12) (hg hJb)
    have hr3 : Hr.le H3 := hu.keep n3.sub (Hp.le_trans hrK h12) (hg hb)
    have hd3 : D.le H3 := hu.keep n3.sub hd2 (hg hDb2)
    have hdc : D.cells.le H3 := Hp.le_trans (cells_le D) hd3
    intro V nV _
    have hDF : ∀ j, FT' j → D j = none := fun j hj => by
      obtain ⟨_, _, _, _, o, ho⟩ := hF j hj
      cases hh : D j with
      | none => rfl
      | some o' => have h1 := hf j o' hh; have h2 := heap_lt (nn.sub j o (hJK j o ho)); omega
    obtain ⟨B, hBdef⟩ : ∃ B : Hp, B = fun j => if j = b then H3 j else both2 Hr D.cells j := ⟨_, rfl⟩
    have hBb : B b = H3 b := by rw [hBdef]; simp
    have hBr : Hr.le B := fun j o hj => by
      have hne : j ≠ b := fun h => by rw [h, hb] at hj; cases hj
      rw [hBdef]; simp only [if_neg hne]; exact both2_l _ _ j o hj
    have hBd : D.cells.le B := fun j o hj => by
      have hne : j ≠ b := fun h => by rw [h, Hp.cells_none hDb2] at hj; cases hj
      rw [hBdef]; simp only [if_neg hne]
      unfold both2
      cases hh : Hr j with
      | none => exact hj
      | some o' =>
        have h1 := hf j o (cells_le D j o hj)
        have h2 := heap_lt (nn.sub j o' (hrK j o' hh))
        omega
    have hB3 : B.le H3 := fun j o hj => by
      rw [hBdef] at hj
      simp only at hj
      split at hj
      · exact hj
      · unfold both2 at hj
        split at hj
        · rename_i o' ho'
          simp only [Option.some.injEq] at hj; subst hj; exact hr3 j _ ho'
        · exact hdc j o hj
    have hBF : ∀ j, FT' j → B j = none := fun j hj => by
      obtain ⟨_, f2, f3, f4, _⟩ := hF j hj
      rw [hBdef]; simp only [if_neg f4]
      unfold both2
      rw [f2]; exact Hp.cells_none (hDF j hj)
    refine yl_round (J := J (k + 1)) (HJ := HJ') (FT := FT') (D := D.cells) (B := B) nV (hround k HJ' FT' V _ D.cells (by omega) hJ (Hp.le_trans hJ3 nV.sub) ?_ (Hp.le_trans hdc nV.sub) (cells_cells D) (fun j hj => Hp.cells_none (hDF j hj))) hJ3 hdc hB3 (fun j hj => ⟨(hF j hj).2.2.2.2, ?_, hBF j hj⟩) ?_
    · refine ⟨fun j o hj => ?_, e, p1, n1, c1, he, ?_, ?_⟩
      · have h1 := hf j o (cells_le D j o hj); have h2 := hbK.lt nn.sub b rfl; omega
      · rw [foldS_at he]; rfl
      · rw [foldS_at he]; exact hT1.cells
    · rcases (hF j hj).1 with h | h
      · exact .inr (.inr h)
      · exact .inl h
    intro V' HJ2 FT2 K2 hJ2 hJK2 hBK2 hF2 hJn2 hV
    refine ⟨in64 (by omega), fun _ => ⟨by omega, fun _ => ?_⟩⟩
    have ht : ((k : Int) + 1).toNat = k + 1 := by omega
    rw [ht]
    have hbV : b < V.heap.size := by
      obtain ⟨o, ho⟩ := hO3.held b rfl
      exact heap_lt (nV.sub b o ho)
    refine ⟨⟨HJ2, FT2, D.cells, p1, n1, c1, by omega, hJ2, hJK2, Hp.le_trans hBr hBK2, ?_, Hp.le_trans hBd hBK2, ?_, fun j hj => ?_, hJn2 b hJb (Hp.cells_none hDb2) hbV, Hp.cells_none hDb2⟩, by simp only; omega⟩
    · rw [foldS_at he]
      have hO4 : Ow B 25 7 (some (b, 0)) 1 1 _ (some b) := hO3.mono fun j hj o ho => by simp only [Option.some.injEq] at hj; subst hj; rw [hBb]; exact ho
      have hO5 := hO4.mono fun j _ o ho => hBK2 j o ho
      simpa [segRow, Sta.row] using hO5
    · rw [foldS_at he]; exact hT1.cells
    · obtain ⟨f1, f2, f3⟩ := hF2 j hj
      have hsz := nV.mod.size
      rcases f1 with f1 | f1
      · obtain ⟨g1, g2, g3, g4, g5⟩ := hF j f1
        exact ⟨g1, g2, f2, g4, f3⟩
      · exact ⟨.inr (by omega), old_none (Hp.le_trans hr3 nV.sub) f1, f2, fun h => by omega, f3⟩
  · have hkm' : k = l.length := by omega
    subst hkm'
    exact fun W' n' _ => ⟨⟨_, rfl⟩, HJ', FT', hJ, Hp.le_trans hJK n'.sub, n'.mod⟩
end Go.Proofs.YtfpmcmhihhnfgaaGreat
namespace Go.Proofs.YtfpmcmhihhnfgaaGreat
open Go.RowKit
open Classical
/-- two blocks alone -/
def twoH (b0 b1 : Nat) (o0 o1 : Obj) : Hp := fun k => if k = b0 then some o0 else if k = b1 then some o1 else none
def StepsPost (s : Sta) (v : Value) (q : Option Loc) (m d : Nat) (w : Value) (D : Hp) : Prop := ∃ b0 b1 : Nat, w = .func (.func 66) #[] #[.pointer (ptrAt (some (b1, 0)) 0), .pointer (ptrAt (some (b0, 0)) 0)] ∧ b0 ≠ b1 ∧
  D b0 = some (.cells (s.row v).toArray 25 (0, 0)) ∧ D b1 = some (.cells #[vsl q m d] 26 (0, 0))
theorem c_steps (s : Sta) (p : Option Loc) (n c : Nat) (q : Option Loc) (m d : Nat) (H : Hp) : Gf Tryz.prog 50 #[s.val (vsl p n c), vsl q m d] H (StepsPost s (vsl p n c) q m d) := fun W hH => by
  refine x_steps _ _ _ _ _ _ p n c q m d noM H W _ hH fun b0 b1 => fun W' nn k => ?_
  obtain ⟨k1, k0, _⟩ := k
  have hne : b0 ≠ b1 := fun h => by
    subst h
    have h1 := k0.eq
    rw [k1.eq] at h1
    simp at h1
  have e0 := k0.eq
  have e1 := k1.eq
  refine ⟨_, twoH b0 b1 (.cells (s.row (vsl p n c)).toArray 25 (0, 0)) (.cells #[vsl q m d] 26 (0, 0)), rfl, nn.ext, fun b o hb => ?_, fun b o hb => ?_, b0, b1, rfl, hne, by unfold twoH; rw [if_pos rfl], by unfold twoH; rw [if_neg (fun h => hne h.symm), if_pos rfl]⟩
  · unfold twoH at hb
    split at hb
    · rename_i h; rw [h, ← hb]; exact e0
    · split at hb
      · rename_i h; rw [h, ← hb]; exact e1
      · cases hb
  · unfold twoH at hb
    split at hb
    · rename_i h; rw [h]; exact k0.own.elim id (fun h => h.elim)
    · split at hb
      · rename_i h; rw [h]; exact k1.own.elim id (fun h => h.elim)
      · cases hb
/-- an iterator over the steps, where they have just been made -/
theorem it_of {H D H2 : Hp} {W : World} {s : Sta} {l : List Ent} {p q : Option Loc} {n c m d b0 b1 : Nat} (hs : StOk s) (hl : ∀ e ∈ l, EntOk e) (hp : s.pos + l.length ≤ 50) (hE : Ents H q m d l) (hT : Tab H p n c s.table) (hH : H.le (hpOf W))
    (hf : ∀ b o, D b = some o → W.heap.size ≤ b) (hne : b0 ≠ b1) (e0 : D b0 = some (.cells (s.row (vsl p n c)).toArray 25 (0, 0))) (e1 : D b1 = some (.cells #[vsl q m d] 26 (0, 0))) (hH2 : H.le H2) (hD2 : D.le H2) :
    Iter Tryz.prog 66 [.pointer (ptrAt (some (b1, 0)) 0), .pointer (ptrAt (some (b0, 0)) 0)] H2 (fun k => k = b0) l.length (StepIt s l b0) := by
  obtain ⟨Hr, hr⟩ : ∃ Hr : Hp, Hr = fun j => if j = b0 then none else H2 j := ⟨_, rfl⟩
  have hle : Hr.le H2 := fun j o hj => by
    rw [hr] at hj; simp only at hj
    split at hj
    · cases hj
    · exact hj
  have hHr : H.le Hr := fun j o hj => by
    have h1 := heap_lt (hH j o hj)
    have h2 := hf b0 _ e0
    rw [hr]; simp only; rw [if_neg (by omega)]; exact hH2 j o hj
  have h1r : Hr b1 = some (.cells #[vsl q m d] 26 (0, 0)) := by
    rw [hr]; simp only; rw [if_neg (fun h => hne h.symm)]; exact hD2 _ _ e1
  refine it_steps hs hl hp (Hr := Hr) (q := q) (m := m) (d := d) (p := p) (n := n) (c := c) hle (by rw [hr]; simp) ⟨b1, 0, rfl, _, _, _, h1r, fun j hj => ?_⟩ (hE.mono hHr) (hT.mono hHr) ?_
  · simp only [List.length_singleton] at hj
    obtain rfl : j = 0 := by omega
    exact ⟨rfl, unfz0 _⟩
  · refine ⟨rfl, fun r hr => ?_, Nat.le_refl _, by simp [maxLen], .inr ⟨b0, _, rfl, rfl, hD2 _ _ e0, rfl, rfl⟩⟩
    simp only [List.mem_singleton] at hr
    subst hr
    refine ⟨rfl, fun v hv => ?_⟩
    simp only [Sta.row, List.mem_cons, List.not_mem_nil, or_false] at hv
    rcases hv with rfl | rfl | rfl | rfl | rfl | rfl | rfl <;> rfl
def noT : Nat → Prop := fun _ => False
theorem c_last {H : Hp} {p q : Option Loc} {n c m d : Nat} {s : Sta} {l : List Ent} (hT : Tab H p n c s.table) (hs : StOk s) (hE : Ents H q m d l) (hl : ∀ e ∈ l, EntOk e) (hp : s.pos + l.length ≤ 50) :
    Gf Tryz.prog 31 #[s.val (vsl p n c), vsl q m d] H fun v D => ∃ p n c, v = (foldS s l).val (vsl p n c) ∧ Tab D p n c (foldS s l).table := fun W hH => by
  refine x_last _ _ _ _ _ _ p n c q m d noM H W _ hH fun b0 b1 => ?_
  refine Cl.fresh (c_stOwn hT (Small.of_ok hs.table)) ?_
  rintro v W1 W2 D1 ⟨p1, c1, es, g, rfl, hO, hes⟩ hx hD1 hf1 nn
  refine ⟨_, _, _, _, _, _, p1, n, c1, rfl, hx, D1, hD1, hf1, fun H1 h01 hd1 => ?_⟩
  have hT1 := hO.tab
  rw [hes] at hT1
  refine Cl.fresh (c_steps s p1 n c1 q m d H1) ?_
  rintro v W3 W4 D2 ⟨a0, a1, rfl, hne, e0, e1⟩ hx2 hD2 hf2 nn2
  refine ⟨some (a1, 0), some (a0, 0), rfl, hx2, D2, hD2, hf2, fun H2 h12 hd2 => ⟨by omega, fun _ => ⟨by omega, fun _ => ?_⟩⟩⟩
  have ha0 : W.heap.size ≤ a0 := Nat.le_trans nn2.mod.size (hf2 a0 _ e0)
  have f1 : ∀ b o, D1 b = some o → W.heap.size ≤ b := fun b o h => Nat.le_trans nn.mod.size (hf1 b o h)
  have hd0 : D1 a0 = none := by
    cases hh : D1 a0 with
    | none => rfl
    | some o => have h1 := heap_lt (nn2.sub a0 o (hd1 a0 o hh)); have h2 := hf2 a0 _ e0; omega
  refine ⟨fun k => k = a0, l.length, StepIt s l a0, fun v k K T => match v with
      | [.i a, .i b, .i v0, .i v1, .i v2, .i v3, .p pt, .n nt, .n ct] => (foldS s (l.take k)).at a b v0 v1 v2 v3 ∧ Tab K pt nt ct (foldS s (l.take k)).table ∧ ∀ b o, K b = some o → W.heap.size ≤ b
      | _ => False, H2, D1, noT, ⟨it_of hs hl hp (hE.mono h01) (hT1.mono hd1) nn2.sub hf2 hne e0 e1 h12 hd2, Hp.le_refl _, Hp.le_trans hd1 h12, fun b hb => ?_, fun b hb => hb.elim, ?_⟩, ?_, ?_⟩
  · subst hb; exact ⟨hd0, ⟨_, hd2 _ _ e0⟩, .inl ha0⟩
  · rw [map0]; exact ⟨⟨rfl, rfl, rfl, rfl, rfl, rfl⟩, hT1, f1⟩
  · intro k vals Wr Mr Ha Ta D H3 hk hsz ⟨hfD, e, pt, nt, ct, he, hv, hTt⟩ hTa hHa hDa x23 x24 x25 x26 x27 x28 x29 x30 x31 hI
    refine ⟨_, _, _, _, _, _, _, pt, nt, ct, _, _, hv, fun b2 => ⟨by omega, fun _ => ⟨by omega, fun _ => ⟨noT, D, hDa, ?_, fun b o hb => .inr (.inl ⟨o, hb⟩), fun b hb => hb.elim⟩⟩⟩⟩
    rw [map0]
    exact ⟨⟨rfl, rfl, rfl, rfl, rfl, rfl⟩, hTt, fun j o hj => by have := hfD j o hj; omega⟩
  · intro H3 Ta x23 x24 x25 x26 x27 x28 x29 x30 x31 hI
    rw [map0] at hI
    obtain ⟨⟨rfl, rfl, rfl, rfl, rfl, rfl⟩, hTt, hn⟩ := hI
    rw [List.take_length] at hTt ⊢
    exact Rt.gfn ⟨x29, x30, x31, rfl, hTt.mono (le_newer (Hp.le_refl _) hn)⟩
/-- what comes of All -/
def AllPost (r : Sta × List Int × Int) (v : Value) (D : Hp) : Prop := ∃ p n c pa na ca ga, v = .tuple #[r.1.val (vsl p n c), vsl pa na ca, vi r.2.2] ∧ Tab D p n c r.1.table ∧ Ow D 3 1 pa na ca (r.2.1.map irow) ga
theorem AllPost.bad (D : Hp) (x : Int) : AllPost (Sta.zero, [], x) (.tuple #[Sta.zero.val (Value.slice none 0 0), Value.slice none 0 0, vi x]) D := ⟨none, 0, 0, none, 0, 0, none, rfl, Tab.nil _ _, Ow.nil _ _ _ _⟩
end Go.Proofs.YtfpmcmhihhnfgaaGreat
