/- Symbolic runs of functions: what each leaves to prove is enough for its call. Printed by a program of ours. No conditions. Contracts: cmp.Compare, the order of sessions, binary search. No conditions. Contracts: clones of replies and sessions; what finds a session. No conditions. -/
import Derived.Test.YtfpmcmhihhnfgaaGreatKE3
import Derived.Test.YtfpmcmhihhnfgaaGreatProg
import Derived.Test.YtfpmcmhihhnfgaaGreatKS1
import Derived.Test.YtfpmcmhihhnfgaaGreatKE4
set_option linter.unusedVariables false
set_option linter.unusedSimpArgs false
namespace Go.Proofs.YtfpmcmhihhnfgaaGreat
open Go.RowKit
set_option maxRecDepth 100000
set_option maxHeartbeats 4000000
def v_nan : VC :=
(.ret (.bool (.not (.eq (.v 0) (.v 0)))) [])
theorem x_nan (x0 : Int) (M : Nat → Prop) (H0 : Hp) (W0 : World) (R : Ending → World → Prop) (hH : H0.le (hpOf W0)) (h :
 Rt R W0 M H0 nK (vb ((!decide (x0 = x0))))) :
  Calls Tryz.prog 106 #[vi x0] W0 R :=
  calls_sxA (M := M) (V := v_nan) (hi := {}) (args := [vI 0]) (nv := 1) (e := (upd (fun _ => .i 0) 0 (.i x0))) Tryz.func106 hH h (by kernel_rfl) (by kernel_rfl) (by kernel_rfl)
def v_compare : VC :=
(.call 106 [vI 0] [] [(2, .b)] (.bool (.v 2)) .same
(.call 106 [vI 1] [] [(3, .b)] (.bool (.v 3)) .same
(.ite (.v 2)
(.ite (.v 3)
(.ret (.int .i64 (.k 0)) [])
(.ret (.int .i64 (.k (-1))) []))
(.ite (.v 3)
(.ret (.int .i64 (.k 1)) [])
(.ite (.lt (.v 0) (.v 1))
(.ret (.int .i64 (.k (-1))) [])
(.ite (.lt (.v 1) (.v 0))
(.ret (.int .i64 (.k 1)) [])
(.ret (.int .i64 (.k 0)) [])))))))
theorem x_compare (x0 x1 : Int) (M : Nat → Prop) (H0 : Hp) (W0 : World) (R : Ending → World → Prop) (hH : H0.le (hpOf W0)) (h :
 (Cl Tryz.prog W0 M H0 nK 106 #[vi x0] fun z W1 W2 => ∃ x2 : Bool, z = .returned (vb (x2)) ∧ Ext W1 W2 ∧
 (Cl Tryz.prog W0 M H0 nK 106 #[vi x1] fun z W3 W4 => ∃ x3 : Bool, z = .returned (vb (x3)) ∧ Ext W3 W4 ∧
 ((x2 = true →
  ((x3 = true →
   Rt R W0 M H0 nK (vi 0)) ∧
  (¬ (x3 = true) →
   Rt R W0 M H0 nK (vi (-1))))) ∧
 (¬ (x2 = true) →
  ((x3 = true →
   Rt R W0 M H0 nK (vi 1)) ∧
  (¬ (x3 = true) →
   ((x0 < x1 →
    Rt R W0 M H0 nK (vi (-1))) ∧
   (¬ (x0 < x1) →
    ((x1 < x0 →
     Rt R W0 M H0 nK (vi 1)) ∧
    (¬ (x1 < x0) →
     Rt R W0 M H0 nK (vi 0)))))))))))) :
  Calls Tryz.prog 100 #[vi x0, vi x1] W0 R :=
  calls_sxA (M := M) (V := v_compare) (hi := {}) (args := [vI 0, vI 1]) (nv := 2) (e := (upd (upd (fun _ => .i 0) 0 (.i x0)) 1 (.i x1))) Tryz.func100 hH h (by kernel_rfl) (by kernel_rfl) (by kernel_rfl)
def v_order : VC :=
(.all 0
(.call 100 [vI 0, vI 6] [] [(7, .i)] (vI 7) .same
(.ret (vI 7) [])))
theorem x_order (x0 x1 x2 : Int) (x3 : Option Loc) (x4 x5 : Nat) (x6 : Int) (M : Nat → Prop) (H0 : Hp) (W0 : World) (R : Ending → World → Prop) (hH : H0.le (hpOf W0)) (h :
 (∀ b0 : Nat,
 (Cl Tryz.prog W0 M H0 nK 100 #[vi x0, vi x6] fun z W1 W2 => ∃ x7 : Int, z = .returned (vi x7) ∧ Ext W1 W2 ∧
 Rt R W0 M H0 nK (vi x7)))) :
  Calls Tryz.prog 94 #[Value.agg #[vi x0, vi x1, vi x2, vsl x3 x4 x5], vi x6] W0 R :=
  calls_sxA (M := M) (V := v_order) (hi := {}) (args := [.agg [vI 0, vI 1, vI 2, vS 3], vI 6]) (nv := 7) (e := (upd (upd (upd (upd (upd (upd (upd (fun _ => .i 0) 0 (.i x0)) 1 (.i x1)) 2 (.i x2)) 3 (.p x3)) 4 (.n x4)) 5 (.n x5)) 6 (.i x6))) Tryz.func94 hH h (by kernel_rfl) (by kernel_rfl) (by kernel_rfl)
def v_bsearch : VC :=
(.chk (.le (.k 0) (.v 1))
(.loop [(4, .n), (5, .n)] [.n (.k 0), .n (.v 1)] [.n (.v 4), .n (.v 5)]
(.ite (.lt (.v 4) (.v 5))
(.chk (.rng .i64 (.add (.v 4) (.v 5)))
(.esc (.bop .shr 140 (.tmp 21) (.const (Value.int .u64 1))) [.int .u64 (.wrap .u64 (.add (.v 4) (.v 5))), .int .u64 (.k 1)] [] [(6, .i)] (some (.int .u64 (.v 6))) .same
(.chk (.rng .i64 (.v 6))
(.chk (.idx (.v 6) (.v 1))
(.chk (.isp 0)
(.ld 0 (.add (.k 0) (.mul (.v 6) (.k 4))) [vI 7, vI 8, vI 9, vS 10] [(7, .i), (8, .i), (9, .i), (10, .p), (11, .n), (12, .n)]
(.call 94 [.agg [vI 7, vI 8, vI 9, vS 10], vI 3] [] [(13, .i)] (vI 13) .same
(.ite (.lt (.v 13) (.k 0))
(.chk (.rng .i64 (.add (.v 6) (.k 1)))
(.chk (.le (.k 0) (.add (.v 6) (.k 1)))
(.chk (.le (.k 0) (.v 5))
(.back 0 [.n (.add (.v 6) (.k 1)), .n (.v 5)]))))
(.chk (.le (.k 0) (.v 4))
(.chk (.le (.k 0) (.v 6))
(.back 0 [.n (.v 4), .n (.v 6)])))))))))))
(.ite (.lt (.v 4) (.v 1))
(.chk (.idx (.v 4) (.v 1))
(.chk (.isp 0)
(.ld 0 (.add (.k 0) (.mul (.v 4) (.k 4))) [vI 6, vI 7, vI 8, vS 9] [(6, .i), (7, .i), (8, .i), (9, .p), (10, .n), (11, .n)]
(.call 94 [.agg [vI 6, vI 7, vI 8, vS 9], vI 3] [] [(12, .i)] (vI 12) .same
(.ret (.tup [vI 4, .bool (.eq (.v 12) (.k 0))]) [])))))
(.ret (.tup [vI 4, .bool (.k false)]) [])))))
theorem x_bsearch (x0 : Option Loc) (x1 x2 : Nat) (x3 : Int) (M : Nat → Prop) (H0 : Hp) (W0 : World) (R : Ending → World → Prop) (hH : H0.le (hpOf W0)) (h :
 (0 ≤ (x1 : Int) ∧ (0 ≤ (x1 : Int) →
 (∃ (I0 : List Dat → Hp → Prop) (μ0 : List Dat → Nat), I0 [.n 0, .n x1] H0 ∧ ∀ H1 : Hp, ∀ (x4 x5 : Nat), I0 [.n x4, .n x5] H1 →
  (((x4 : Int) < (x5 : Int) →
   (inKind .i64 ((x4 : Int) + (x5 : Int)) ∧ (inKind .i64 ((x4 : Int) + (x5 : Int)) →
   (Es W0 M H1 nK fun W1 => ∃ x6 : Int, Eo Tryz.prog (.bop .shr 140 (.tmp 21) (.const (Value.int .u64 1))) [Value.int .u64 (IntKind.wrap .u64 ((x4 : Int) + (x5 : Int))), Value.int .u64 1] W1 (.value (Value.int .u64 x6)) fun W2 => Ext W1 W2 ∧
   (inKind .i64 x6 ∧ (inKind .i64 x6 →
   (((0 : Int) ≤ x6 ∧ x6 < (x1 : Int)) ∧ (((0 : Int) ≤ x6 ∧ x6 < (x1 : Int)) →
   (x0.isSome = true ∧ (x0.isSome = true →
   (∃ (x7 x8 x9 : Int) (x10 : Option Loc) (x11 x12 : Nat), RowAt H1 x0 (0 + (x6 * 4)) [vi x7, vi x8, vi x9, vsl x10 x11 x12] ∧
   (Cl Tryz.prog W0 M H1 nK 94 #[Value.agg #[vi x7, vi x8, vi x9, vsl x10 x11 x12], vi x3] fun z W3 W4 => ∃ x13 : Int, z = .returned (vi x13) ∧ Ext W3 W4 ∧
   ((x13 < 0 →
    (inKind .i64 (x6 + 1) ∧ (inKind .i64 (x6 + 1) →
    (0 ≤ (x6 + 1) ∧ (0 ≤ (x6 + 1) →
    (0 ≤ (x5 : Int) ∧ (0 ≤ (x5 : Int) →
    (I0 [.n ((x6 + 1) : Int).toNat, .n x5] H1 ∧ μ0 [.n ((x6 + 1) : Int).toNat, .n x5] < μ0 [.n x4, .n x5])))))))) ∧
   (¬ (x13 < 0) →
    (0 ≤ (x4 : Int) ∧ (0 ≤ (x4 : Int) →
    (0 ≤ x6 ∧ (0 ≤ x6 →
    (I0 [.n x4, .n (x6).toNat] H1 ∧ μ0 [.n x4, .n (x6).toNat] < μ0 [.n x4, .n x5]))))))))))))))))))) ∧
  (¬ ((x4 : Int) < (x5 : Int)) →
   (((x4 : Int) < (x1 : Int) →
    (((0 : Int) ≤ (x4 : Int) ∧ (x4 : Int) < (x1 : Int)) ∧ (((0 : Int) ≤ (x4 : Int) ∧ (x4 : Int) < (x1 : Int)) →
    (x0.isSome = true ∧ (x0.isSome = true →
    (∃ (x6 x7 x8 : Int) (x9 : Option Loc) (x10 x11 : Nat), RowAt H1 x0 (0 + ((x4 : Int) * 4)) [vi x6, vi x7, vi x8, vsl x9 x10 x11] ∧
    (Cl Tryz.prog W0 M H1 nK 94 #[Value.agg #[vi x6, vi x7, vi x8, vsl x9 x10 x11], vi x3] fun z W1 W2 => ∃ x12 : Int, z = .returned (vi x12) ∧ Ext W1 W2 ∧
    Rt R W0 M H1 nK (Value.tuple #[vi (x4 : Int), vb (decide (x12 = 0))])))))))) ∧
   (¬ ((x4 : Int) < (x1 : Int)) →
    Rt R W0 M H1 nK (Value.tuple #[vi (x4 : Int), vb (false)]))))))))) :
  Calls Tryz.prog 93 #[vsl x0 x1 x2, vi x3, Value.func (.func 94) #[] #[]] W0 R :=
  calls_sxA (M := M) (V := v_bsearch) (hi := {loops := [(3, .inv [(9, .nat), (10, .nat)] [])]}) (args := [vS 0, vI 3, .func 94 [] []]) (nv := 4) (e := (upd (upd (upd (upd (fun _ => .i 0) 0 (.p x0)) 1 (.n x1)) 2 (.n x2)) 3 (.i x3))) Tryz.func93 hH h (by kernel_rfl) (by kernel_rfl) (by kernel_rfl)
def v_seek : VC :=
(.call 93 [vS 0, vI 3, .func 94 [] []] [] [(4, .i), (5, .b)] (.tup [vI 4, .bool (.v 5)]) .same
(.ret (.tup [vI 4, .bool (.v 5)]) []))
theorem x_seek (x0 : Option Loc) (x1 x2 : Nat) (x3 : Int) (M : Nat → Prop) (H0 : Hp) (W0 : World) (R : Ending → World → Prop) (hH : H0.le (hpOf W0)) (h :
 (Cl Tryz.prog W0 M H0 nK 93 #[vsl x0 x1 x2, vi x3, Value.func (.func 94) #[] #[]] fun z W1 W2 => ∃ (x4 : Int) (x5 : Bool), z = .returned (Value.tuple #[vi x4, vb (x5)]) ∧ Ext W1 W2 ∧
 Rt R W0 M H0 nK (Value.tuple #[vi x4, vb (x5)]))) :
  Calls Tryz.prog 86 #[vsl x0 x1 x2, vi x3] W0 R :=
  calls_sxA (M := M) (V := v_seek) (hi := {}) (args := [vS 0, vI 3]) (nv := 4) (e := (upd (upd (upd (upd (fun _ => .i 0) 0 (.p x0)) 1 (.n x1)) 2 (.n x2)) 3 (.i x3))) Tryz.func86 hH h (by kernel_rfl) (by kernel_rfl) (by kernel_rfl)
def v_cloneS : VC :=
(.esc (.bop .eql 23 (.tmp 3) (.const (Value.slice none 0 0))) [vS 0, .c (Value.slice none 0 0)] [] [(3, .b)] (some (.bool (.v 3))) .same
(.ite (.v 3)
(.ret (.c (Value.slice none 0 0)) [])
(.all 0
(.esc (.bi .append #[23, 23] 23) [.slK 0 0 0 0, vS 0] [(0, ⟨[], 75⟩)] [(4, .p), (5, .n), (6, .n)] (some (vS 4)) .turn
(.ret (vS 4) [])))))
theorem x_cloneS (x0 : Option Loc) (x1 x2 : Nat) (M : Nat → Prop) (H0 : Hp) (W0 : World) (R : Ending → World → Prop) (hH : H0.le (hpOf W0)) (h :
 (Es W0 M H0 nK fun W1 => ∃ x3 : Bool, Eo Tryz.prog (.bop .eql 23 (.tmp 3) (.const (Value.slice none 0 0))) [vsl x0 x1 x2, Value.slice none 0 0] W1 (.value (vb (x3))) fun W2 => Ext W1 W2 ∧
 ((x3 = true →
  Rt R W0 M H0 nK (Value.slice none 0 0)) ∧
 (¬ (x3 = true) →
  (∀ b0 : Nat,
  (Es W0 M H0 (fun W => Kn W0 M H0 W b0 (Obj.cells #[] 75 (0, 0)) ∧ True) fun W3 => ∃ (x4 : Option Loc) (x5 x6 : Nat), Eo Tryz.prog (.bi .append #[23, 23] 23) [Value.slice (some ⟨b0, 0, none⟩) 0 0, vsl x0 x1 x2] W3 (.value (vsl x4 x5 x6)) fun W4 => Tn W0 M H0 W3 W4 fun H1 =>
  Rt R W0 M H1 nK (vsl x4 x5 x6))))))) :
  Calls Tryz.prog 81 #[vsl x0 x1 x2] W0 R :=
  calls_sxA (M := M) (V := v_cloneS) (hi := {turns := []}) (args := [vS 0]) (nv := 3) (e := (upd (upd (upd (fun _ => .i 0) 0 (.p x0)) 1 (.n x1)) 2 (.n x2))) Tryz.func81 hH h (by kernel_rfl) (by kernel_rfl) (by kernel_rfl)
def v_cloneR : VC :=
(.esc (.bop .eql 73 (.tmp 3) (.const (Value.slice none 0 0))) [vS 0, .c (Value.slice none 0 0)] [] [(3, .b)] (some (.bool (.v 3))) .same
(.ite (.v 3)
(.ret (.c (Value.slice none 0 0)) [])
(.all 0
(.esc (.bi .append #[73, 73] 73) [.slK 0 0 0 0, vS 0] [(0, ⟨[], 77⟩)] [(4, .p), (5, .n), (6, .n)] (some (vS 4)) .turn
(.ret (vS 4) [])))))
theorem x_cloneR (x0 : Option Loc) (x1 x2 : Nat) (M : Nat → Prop) (H0 : Hp) (W0 : World) (R : Ending → World → Prop) (hH : H0.le (hpOf W0)) (h :
 (Es W0 M H0 nK fun W1 => ∃ x3 : Bool, Eo Tryz.prog (.bop .eql 73 (.tmp 3) (.const (Value.slice none 0 0))) [vsl x0 x1 x2, Value.slice none 0 0] W1 (.value (vb (x3))) fun W2 => Ext W1 W2 ∧
 ((x3 = true →
  Rt R W0 M H0 nK (Value.slice none 0 0)) ∧
 (¬ (x3 = true) →
  (∀ b0 : Nat,
  (Es W0 M H0 (fun W => Kn W0 M H0 W b0 (Obj.cells #[] 77 (0, 0)) ∧ True) fun W3 => ∃ (x4 : Option Loc) (x5 x6 : Nat), Eo Tryz.prog (.bi .append #[73, 73] 73) [Value.slice (some ⟨b0, 0, none⟩) 0 0, vsl x0 x1 x2] W3 (.value (vsl x4 x5 x6)) fun W4 => Tn W0 M H0 W3 W4 fun H1 =>
  Rt R W0 M H1 nK (vsl x4 x5 x6))))))) :
  Calls Tryz.prog 82 #[vsl x0 x1 x2] W0 R :=
  calls_sxA (M := M) (V := v_cloneR) (hi := {}) (args := [vS 0]) (nv := 3) (e := (upd (upd (upd (fun _ => .i 0) 0 (.p x0)) 1 (.n x1)) 2 (.n x2))) Tryz.func82 hH h (by kernel_rfl) (by kernel_rfl) (by kernel_rfl)
def v_own : VC :=
(.call 81 [vS 0] [] [(3, .p), (4, .n), (5, .n)] (vS 3) .fresh
(.chk (.le (.k 0) (.v 4))
(.loop [(6, .i)] [.i (.k 0)] [.i (.v 6)]
(.ite (.lt (.v 6) (.v 4))
(.chk (.idx (.v 6) (.v 4))
(.chk (.isp 3)
(.chk (.le (.k 0) (.add (.k 0) (.mul (.v 6) (.k 4))))
(.ld 3 (.add (.add (.k 0) (.mul (.v 6) (.k 4))) (.k 3)) [vS 7] [(7, .p), (8, .n), (9, .n)]
(.call 82 [vS 7] [] [(10, .p), (11, .n), (12, .n)] (vS 10) .fresh
(.esc (.storeO 73) [.ptrO 3 (.add (.add (.k 0) (.mul (.v 6) (.k 4))) (.k 3)), vS 10] [] [] none .turn
(.chk (.rng .i64 (.add (.v 6) (.k 1)))
(.back 0 [.i (.add (.v 6) (.k 1))]))))))))
(.ret (vS 3) [])))))
theorem x_own (x0 : Option Loc) (x1 x2 : Nat) (M : Nat → Prop) (H0 : Hp) (W0 : World) (R : Ending → World → Prop) (hH : H0.le (hpOf W0)) (h :
 (Cl Tryz.prog W0 M H0 nK 81 #[vsl x0 x1 x2] fun z W1 W2 => ∃ (x3 : Option Loc) (x4 x5 : Nat), z = .returned (vsl x3 x4 x5) ∧ Fr W1 W2 H0 fun H1 =>
 (0 ≤ (x4 : Int) ∧ (0 ≤ (x4 : Int) →
 (∃ (I0 : List Dat → Hp → Prop) (μ0 : List Dat → Nat), I0 [.i 0] H1 ∧ ∀ H2 : Hp, ∀ x6 : Int, I0 [.i x6] H2 →
  ((x6 < (x4 : Int) →
   (((0 : Int) ≤ x6 ∧ x6 < (x4 : Int)) ∧ (((0 : Int) ≤ x6 ∧ x6 < (x4 : Int)) →
   (x3.isSome = true ∧ (x3.isSome = true →
   (0 ≤ (0 + (x6 * 4)) ∧ (0 ≤ (0 + (x6 * 4)) →
   (∃ (x7 : Option Loc) (x8 x9 : Nat), RowAt H2 x3 ((0 + (x6 * 4)) + 3) [vsl x7 x8 x9] ∧
   (Cl Tryz.prog W0 M H2 nK 82 #[vsl x7 x8 x9] fun z W3 W4 => ∃ (x10 : Option Loc) (x11 x12 : Nat), z = .returned (vsl x10 x11 x12) ∧ Fr W3 W4 H2 fun H3 =>
   (Es W0 M H3 nK fun W5 => Eo Tryz.prog (.storeO 73) [Value.pointer (ptrAt x3 ((0 + (x6 * 4)) + 3)), vsl x10 x11 x12] W5 (.skip) fun W6 => Tn W0 M H3 W5 W6 fun H4 =>
   (inKind .i64 (x6 + 1) ∧ (inKind .i64 (x6 + 1) →
   (I0 [.i (x6 + 1)] H4 ∧ μ0 [.i (x6 + 1)] < μ0 [.i x6]))))))))))))) ∧
  (¬ (x6 < (x4 : Int)) →
   Rt R W0 M H2 nK (vsl x3 x4 x5)))))))) :
  Calls Tryz.prog 63 #[vsl x0 x1 x2] W0 R :=
  calls_sxA (M := M) (V := v_own) (hi := {loops := [(3, .inv [(8, .pt (.int .i64))] [])]}) (args := [vS 0]) (nv := 3) (e := (upd (upd (upd (fun _ => .i 0) 0 (.p x0)) 1 (.n x1)) 2 (.n x2))) Tryz.func63 hH h (by kernel_rfl) (by kernel_rfl) (by kernel_rfl)
def v_ownSes : VC :=
(.all 0
(.all 1
(.all 2
(.esc (.bi .append #[73, 73] 73) [.slK 2 0 0 0, vS 3] [(2, ⟨[], 77⟩)] [(6, .p), (7, .n), (8, .n)] (some (vS 6)) .turn
(.ret (.agg [vI 0, vI 1, vI 2, vS 6]) [])))))
theorem x_ownSes (x0 x1 x2 : Int) (x3 : Option Loc) (x4 x5 : Nat) (M : Nat → Prop) (H0 : Hp) (W0 : World) (R : Ending → World → Prop) (hH : H0.le (hpOf W0)) (h :
 (∀ b0 : Nat,
 (∀ b1 : Nat,
 (∀ b2 : Nat,
 (Es W0 M H0 (fun W => Kn W0 M H0 W b2 (Obj.cells #[] 77 (0, 0)) ∧ True) fun W1 => ∃ (x6 : Option Loc) (x7 x8 : Nat), Eo Tryz.prog (.bi .append #[73, 73] 73) [Value.slice (some ⟨b2, 0, none⟩) 0 0, vsl x3 x4 x5] W1 (.value (vsl x6 x7 x8)) fun W2 => Tn W0 M H0 W1 W2 fun H1 =>
 Rt R W0 M H1 nK (Value.agg #[vi x0, vi x1, vi x2, vsl x6 x7 x8])))))) :
  Calls Tryz.prog 62 #[Value.agg #[vi x0, vi x1, vi x2, vsl x3 x4 x5]] W0 R :=
  calls_sxA (M := M) (V := v_ownSes) (hi := {}) (args := [.agg [vI 0, vI 1, vI 2, vS 3]]) (nv := 6) (e := (upd (upd (upd (upd (upd (upd (fun _ => .i 0) 0 (.i x0)) 1 (.i x1)) 2 (.i x2)) 3 (.p x3)) 4 (.n x4)) 5 (.n x5))) Tryz.func62 hH h (by kernel_rfl) (by kernel_rfl) (by kernel_rfl)
def v_left1 : VC :=
(.all 0
(.ld 6 (.k 0) [vI 7] [(7, .i)]
(.chk (.rng .i64 (.sub (.v 7) (.k 20)))
(.ret (.bool (.lt (.v 2) (.sub (.v 7) (.k 20)))) []))))
theorem x_left1 (x0 x1 x2 : Int) (x3 : Option Loc) (x4 x5 : Nat) (x6 : Option Loc) (M : Nat → Prop) (H0 : Hp) (W0 : World) (R : Ending → World → Prop) (hH : H0.le (hpOf W0)) (h :
 (∀ b0 : Nat,
 (∃ x7 : Int, RowAt H0 x6 0 [vi x7] ∧
 (inKind .i64 (x7 - 20) ∧ (inKind .i64 (x7 - 20) →
 Rt R W0 M H0 nK (vb (decide (x2 < (x7 - 20))))))))) :
  Calls Tryz.prog 92 #[Value.agg #[vi x0, vi x1, vi x2, vsl x3 x4 x5], Value.pointer (ptrAt x6 0)] W0 R :=
  calls_sxA (M := M) (V := v_left1) (hi := {}) (args := [.agg [vI 0, vI 1, vI 2, vS 3], .ptrO 6 (.k 0)]) (nv := 7) (e := (upd (upd (upd (upd (upd (upd (upd (fun _ => .i 0) 0 (.i x0)) 1 (.i x1)) 2 (.i x2)) 3 (.p x3)) 4 (.n x4)) 5 (.n x5)) 6 (.p x6))) Tryz.func92 hH h (by kernel_rfl) (by kernel_rfl) (by kernel_rfl)
def v_indexL : VC :=
(.chk (.le (.k 0) (.v 1))
(.loop [(4, .i)] [.i (.k 0)] [.i (.v 4)]
(.ite (.lt (.v 4) (.v 1))
(.chk (.idx (.v 4) (.v 1))
(.chk (.isp 0)
(.ld 0 (.add (.k 0) (.mul (.v 4) (.k 4))) [vI 5, vI 6, vI 7, vS 8] [(5, .i), (6, .i), (7, .i), (8, .p), (9, .n), (10, .n)]
(.call 92 [.agg [vI 5, vI 6, vI 7, vS 8], .ptrO 3 (.k 0)] [] [(11, .b)] (.bool (.v 11)) .same
(.ite (.v 11)
(.ret (vI 4) [])
(.chk (.rng .i64 (.add (.v 4) (.k 1)))
(.back 0 [.i (.add (.v 4) (.k 1))])))))))
(.ret (.int .i64 (.k (-1))) []))))
theorem x_indexL (x0 : Option Loc) (x1 x2 : Nat) (x3 : Option Loc) (M : Nat → Prop) (H0 : Hp) (W0 : World) (R : Ending → World → Prop) (hH : H0.le (hpOf W0)) (h :
 (0 ≤ (x1 : Int) ∧ (0 ≤ (x1 : Int) →
 (∃ (I0 : List Dat → Hp → Prop) (μ0 : List Dat → Nat), I0 [.i 0] H0 ∧ ∀ H1 : Hp, ∀ x4 : Int, I0 [.i x4] H1 →
  ((x4 < (x1 : Int) →
   (((0 : Int) ≤ x4 ∧ x4 < (x1 : Int)) ∧ (((0 : Int) ≤ x4 ∧ x4 < (x1 : Int)) →
   (x0.isSome = true ∧ (x0.isSome = true →
   (∃ (x5 x6 x7 : Int) (x8 : Option Loc) (x9 x10 : Nat), RowAt H1 x0 (0 + (x4 * 4)) [vi x5, vi x6, vi x7, vsl x8 x9 x10] ∧
   (Cl Tryz.prog W0 M H1 nK 92 #[Value.agg #[vi x5, vi x6, vi x7, vsl x8 x9 x10], Value.pointer (ptrAt x3 0)] fun z W1 W2 => ∃ x11 : Bool, z = .returned (vb (x11)) ∧ Ext W1 W2 ∧
   ((x11 = true →
    Rt R W0 M H1 nK (vi x4)) ∧
   (¬ (x11 = true) →
    (inKind .i64 (x4 + 1) ∧ (inKind .i64 (x4 + 1) →
    (I0 [.i (x4 + 1)] H1 ∧ μ0 [.i (x4 + 1)] < μ0 [.i x4])))))))))))) ∧
  (¬ (x4 < (x1 : Int)) →
   Rt R W0 M H1 nK (vi (-1)))))))) :
  Calls Tryz.prog 77 #[vsl x0 x1 x2, Value.func (.func 92) #[] #[Value.pointer (ptrAt x3 0)]] W0 R :=
  calls_sxA (M := M) (V := v_indexL) (hi := {loops := [(2, .inv [(8, .pt (.int .i64))] [])]}) (args := [vS 0, .func 92 [] [.ptrO 3 (.k 0)]]) (nv := 4) (e := (upd (upd (upd (upd (fun _ => .i 0) 0 (.p x0)) 1 (.n x1)) 2 (.n x2)) 3 (.p x3))) Tryz.func77 hH h (by kernel_rfl) (by kernel_rfl) (by kernel_rfl)
end Go.Proofs.YtfpmcmhihhnfgaaGreat
namespace Go.Proofs.YtfpmcmhihhnfgaaGreat
open Go.RowKit

def cmpI (a b : Int) : Int := if a < b then -1 else if b < a then 1 else 0
theorem c_nan (a : Int) (H : Hp) : Gv Tryz.prog 106 #[vi a] H (vb false) := fun W hH => x_nan a noM H W _ hH (Rt.gv' (by simp))
theorem c_compare (a b : Int) (H : Hp) : Gv Tryz.prog 100 #[vi a, vi b] H (vi (cmpI a b)) := fun W hH => by
  refine x_compare a b noM H W _ hH ?_
  refine Cl.same (c_nan _ _) fun _ _ hx => ⟨_, rfl, hx, ?_⟩
  refine Cl.same (c_nan _ _) fun _ _ hx => ⟨_, rfl, hx, fun h => (by cases h), fun _ => ⟨fun h => (by cases h), fun _ => ⟨fun h => Rt.gv' (by simp [cmpI, h]), fun h => ⟨fun h2 => Rt.gv' (by simp [cmpI, h, h2]), fun h2 => Rt.gv' (by simp [cmpI, h, h2])⟩⟩⟩⟩
theorem c_order (s : Ses) (v : Value) (x : Int) (H : Hp) {p : Option Loc} {n c : Nat} (hv : v = vsl p n c) : Gv Tryz.prog 94 #[.agg #[vi s.client, vi s.acked, vi s.seen, v], vi x] H (vi (cmpI s.client x)) := fun W hH => by
  subst hv
  exact x_order _ _ _ p n c x noM H W _ hH fun _ => Cl.same (c_compare _ _ _) fun _ _ hx => ⟨_, rfl, hx, Rt.gv⟩
theorem ek_shr (x y : Operand) (k : Int) (h0 : 0 ≤ k) (h1 : k ≤ 9223372036854775807) (w : World) : (EK.sem (.bop .shr 140 x y) [Value.int .u64 (IntKind.wrap .u64 k), Value.int .u64 1]).run Tryz.prog w = .ok (.value (.int .u64 (k / 2))) w := by
  have hw : IntKind.wrap .u64 k = k := by
    simp only [IntKind.wrap, IntKind.bits, IntKind.signed, Bool.false_and, Bool.false_eq_true, if_false]
    exact Int.emod_eq_of_lt h0 (by omega)
  rw [hw]
  have hn : min 1 (IntKind.bits .u64) = 1 := rfl
  have hd : k.fdiv (2 ^ 1) = k / 2 := by rw [Int.fdiv_eq_ediv_of_nonneg _ (by omega)]; rfl
  simp [EK.sem, eqGuard, binOp, Op.shift, hn]
  rw [Int.fdiv_eq_ediv_of_nonneg _ (by omega)]
theorem filter_split {l : List Ses} {x : Int} {i : Nat} (h1 : ∀ k s, k < i → l[k]? = some s → s.client < x) (h2 : ∀ k s, i ≤ k → l[k]? = some s → x ≤ s.client) (hi : i ≤ l.length) : posT l x = i ∧ (hasT l x = true ↔ ∃ s, l[i]? = some s ∧ s.client = x) ∨ ¬ (l.Pairwise fun a b => a.client < b.client) := by
  by_cases hp : l.Pairwise fun a b => a.client < b.client
  · left
    have e1 : l.take i ++ l.drop i = l := List.take_append_drop i l
    constructor
    · unfold posT
      rw [← e1, List.filter_append, List.filter_eq_self.2, List.filter_eq_nil_iff.2]
      · simp; omega
      · intro s hs
        obtain ⟨k, hk⟩ := List.mem_iff_getElem?.1 hs
        rw [List.getElem?_drop] at hk
        have := h2 _ s (by omega) hk
        simp; omega
      · intro s hs
        obtain ⟨k, hk⟩ := List.mem_iff_getElem?.1 hs
        rw [List.getElem?_take] at hk
        split at hk
        · rename_i hlt
          have := h1 _ s hlt hk
          simpa using this
        · cases hk
    · unfold hasT
      rw [List.any_eq_true]
      constructor
      · rintro ⟨s, hs, he⟩
        obtain ⟨k, hk⟩ := List.mem_iff_getElem?.1 hs
        simp only [decide_eq_true_eq] at he
        have hki : i ≤ k := by
          rcases Nat.lt_or_ge k i with h | h
          · have := h1 k s h hk; omega
          · exact h
        rcases Nat.eq_or_lt_of_le hki with rfl | hlt
        · exact ⟨s, hk, he⟩
        · have hkl : k < l.length := (List.getElem?_eq_some_iff.1 hk).1
          have hil : i < l.length := by omega
          have h3 := List.pairwise_iff_getElem.1 hp i k hil hkl hlt
          have h4 := h2 i _ (Nat.le_refl _) (List.getElem?_eq_getElem hil)
          have h5 := (List.getElem?_eq_some_iff.1 hk).2
          rw [h5] at h3
          omega
      · rintro ⟨s, hs, he⟩
        exact ⟨s, List.mem_of_getElem? hs, by simpa using he⟩
  · exact .inr hp
theorem c_bsearch {H : Hp} {p : Option Loc} {n c : Nat} {l : List Ses} (hT : Tab H p n c l) (ho : l.Pairwise fun a b => a.client < b.client) (hs : n ≤ 4611686018427387903) (x : Int) :
    Gv Tryz.prog 93 #[vsl p n c, vi x, .func (.func 94) #[] #[]] H (.tuple #[vi (posT l x), vb (hasT l x)]) := fun W hH => by
  have hn := hT.len
  refine x_bsearch p n c x noM H W _ hH ⟨by omega, fun _ => ?_⟩
  refine ⟨fun v K => match v with | [.n i, .n j] => i ≤ j ∧ j ≤ n ∧ H.le K ∧ (∀ (k : Nat) (s : Ses), k < i → l[k]? = some s → s.client < x) ∧ (∀ (k : Nat) (s : Ses), j ≤ k → l[k]? = some s → x ≤ s.client) | _ => False,
    fun v => match v with | [.n i, .n j] => j - i | _ => 0, ⟨by omega, by omega, Hp.le_refl H, fun k s hk => by omega, fun k s hk hks => by have := (List.getElem?_eq_some_iff.1 hks).1; omega⟩, fun K i j hI => ?_⟩
  obtain ⟨hij, hj, hle, h1, h2⟩ := hI
  refine ⟨fun hlt => ⟨in64 (by omega), fun _ => ?_⟩, fun hge => ?_⟩
  · intro W1 _ _
    refine ⟨_, _, ek_shr _ _ _ (by omega) (by omega) W1, Ext.refl _, in64 (by omega), fun _ => ⟨⟨by omega, by omega⟩, fun _ => ?_⟩⟩
    obtain ⟨m, hm⟩ : ∃ m : Nat, ((i : Int) + j) / 2 = m := ⟨(((i : Int) + j) / 2).toNat, by omega⟩
    rw [hm]
    have hmi : i ≤ m ∧ m < j := by omega
    obtain ⟨s, q, k, d, hs, hq, hat, _⟩ := (hT.mono hle).at' (k := m) (by omega)
    refine ⟨hat.isSome, fun _ => ⟨_, _, _, _, _, _, hat, ?_⟩⟩
    have hml : m < l.length := by omega
    have hsm := (List.getElem?_eq_some_iff.1 hs).2
    have hpw := List.pairwise_iff_getElem.1 ho
    refine Cl.same (c_order s _ x K rfl) fun _ _ hx => ⟨_, rfl, hx, fun h0 => ⟨in64 (by omega), fun _ => ⟨by omega, fun _ => ⟨by omega, fun _ => ?_⟩⟩⟩, fun h0 => ⟨by omega, fun _ => ⟨by omega, fun _ => ?_⟩⟩⟩
    · have hlt : s.client < x := by unfold cmpI at h0; split at h0 <;> (try split at h0) <;> omega
      rw [show ((m : Int) + 1).toNat = m + 1 by omega]
      refine ⟨⟨by omega, by omega, hle, fun k t hk hkt => ?_, h2⟩, by simp only; omega⟩
      rcases Nat.eq_or_lt_of_le (Nat.le_of_lt_succ hk) with rfl | hk'
      · rw [hs] at hkt; simp only [Option.some.injEq] at hkt; rw [← hkt]; exact hlt
      · have hkl : k < l.length := by omega
        have h5 := hpw k m hkl hml hk'
        rw [hsm, (List.getElem?_eq_some_iff.1 hkt).2] at h5
        omega
    · have hge : x ≤ s.client := by unfold cmpI at h0; split at h0 <;> (try split at h0) <;> omega
      rw [show ((m : Int)).toNat = m by omega]
      refine ⟨⟨by omega, by omega, hle, h1, fun k t hk hkt => ?_⟩, by simp only; omega⟩
      rcases Nat.eq_or_lt_of_le hk with rfl | hk'
      · rw [hs] at hkt; simp only [Option.some.injEq] at hkt; rw [← hkt]; exact hge
      · have hkl : k < l.length := (List.getElem?_eq_some_iff.1 hkt).1
        have h5 := hpw m k hml hkl hk'
        rw [hsm, (List.getElem?_eq_some_iff.1 hkt).2] at h5
        omega
  · have hij2 : i = j := by omega
    subst hij2
    rcases filter_split h1 h2 (by omega) with ⟨e1, e2⟩ | e
    · refine ⟨fun hlt => ⟨⟨by omega, hlt⟩, fun _ => ?_⟩, fun hge2 => Rt.gv' ?_⟩
      · obtain ⟨s, q, k, d, hs, hq, hat, _⟩ := (hT.mono hle).at' (k := i) (by omega)
        refine ⟨hat.isSome, fun _ => ⟨_, _, _, _, _, _, hat, ?_⟩⟩
        refine Cl.same (c_order s _ x K rfl) fun _ _ hx => ⟨_, rfl, hx, Rt.gv' ?_⟩
        have hge := h2 i s (Nat.le_refl _) hs
        rw [e1]
        congr 3
        cases hb : hasT l x with
        | true =>
          obtain ⟨t, ht, he⟩ := e2.1 hb
          rw [hs] at ht; simp only [Option.some.injEq] at ht
          subst ht
          rw [he]; simp [cmpI]
        | false =>
          have hne : s.client ≠ x := fun he => by rw [e2.2 ⟨s, hs, he⟩] at hb; cases hb
          have hc : cmpI s.client x = 1 := by unfold cmpI; rw [if_neg (by omega), if_pos (by omega)]
          simp [hc]
      · rw [e1]
        congr 3
        cases hb : hasT l x with
        | true =>
          obtain ⟨t, ht, _⟩ := e2.1 hb
          have := (List.getElem?_eq_some_iff.1 ht).1
          omega
        | false => rfl
    · exact absurd ho e
theorem c_seek {H : Hp} {p : Option Loc} {n c : Nat} {l : List Ses} (hT : Tab H p n c l) (ho : l.Pairwise fun a b => a.client < b.client) (hs : n ≤ 4611686018427387903) (x : Int) : Gv Tryz.prog 86 #[vsl p n c, vi x] H (.tuple #[vi (posT l x), vb (hasT l x)]) := fun W hH =>
  x_seek p n c x noM H W _ hH (Cl.same (c_bsearch hT ho hs x) fun _ _ hx => ⟨_, _, rfl, hx, Rt.gv⟩)
end Go.Proofs.YtfpmcmhihhnfgaaGreat
namespace Go.Proofs.YtfpmcmhihhnfgaaGreat
open Go.RowKit

theorem infoRep : infoIs Tryz.prog 77 2 16 = true := by kernel_rfl
theorem infoSes : infoIs Tryz.prog 75 4 48 = true := by kernel_rfl
theorem rep_ones (l : List Rep) : ∀ r ∈ l.map Rep.row, ∀ v ∈ r, v.oneCell' = true := fun r hr v hv => by
  obtain ⟨x, _, rfl⟩ := List.mem_map.1 hr
  simp only [Rep.row, List.mem_cons, List.not_mem_nil, or_false] at hv
  rcases hv with rfl | rfl <;> rfl
theorem ses_ones {H : Hp} {rows : List (List Value)} {l : List Ses} (h : All2 (SesRow H) rows l) : ∀ r ∈ rows, ∀ v ∈ r, v.oneCell' = true := fun r hr v hv => by
  obtain ⟨i, hi⟩ := List.mem_iff_getElem?.1 hr
  obtain ⟨s, _, p, n, c, rfl, _⟩ := h.get hi
  simp only [List.mem_cons, List.not_mem_nil, or_false] at hv
  rcases hv with rfl | rfl | rfl | rfl <;> rfl
theorem Kept.of_ow {H : Hp} {p : Option Loc} {n c : Nat} {l : List Rep} {g : Option Nat} (h : Ow H 77 2 p n c (l.map Rep.row) g) : Kept H p n c l := ⟨h.2.2.1, h.2.2.2.1, h.rows⟩
theorem c_cloneS {H : Hp} {p : Option Loc} {n c : Nat} {rows : List (List Value)} (hr : Rows H p n 4 rows) (h1 : ∀ r ∈ rows, ∀ v ∈ r, v.oneCell' = true) (hb : n ≤ 1099511627776) : Gf Tryz.prog 81 #[vsl p n c] H fun v D => ∃ p' c' g, v = vsl p' n c' ∧ Ow D 75 4 p' n c' rows g := fun W hH => by
  refine x_cloneS p n c noM H W _ hH ?_
  intro W1 n1 _
  refine ⟨_, _, ek_nil Tryz.underlying23 _ _ p n c W1, Ext.refl _, fun h => Rt.gfn ?_, fun h b0 => ?_⟩
  · have hp : p = none := by simpa using h
    subst hp
    have hn : n = 0 := by
      rcases Nat.eq_zero_or_pos n with h0 | h0
      · exact h0
      · obtain ⟨r, _, _, hat⟩ := hr.at h0 (off := 0) (by simp)
        have := hat.isSome
        cases this
    subst hn
    have hl : rows = [] := List.length_eq_zero_iff.1 hr.len.symm
    subst hl
    exact ⟨none, 0, none, rfl, Ow.nil _ _ _ _⟩
  · intro W3 n3 _
    obtain ⟨p', c', g, W', H', h1, h2, h3, h4, h5⟩ := ek_clone (P := Tryz.prog) Tryz.underlying23 infoSes (by omega) n3 (some (b0, 0)) hr h1 (by omega) (by simp only [maxLen]; omega) 23 (c := c)
    refine ⟨p', n, c', W', h1, H', h2, Rt.gfn ⟨p', c', g, rfl, h3.new (fun b hb => Nat.le_trans n3.mod.size (h4 b hb))⟩⟩
theorem c_ownSes {H : Hp} {p : Option Loc} {n c : Nat} {s : Ses} (hk : Kept H p n c s.kept) (hb : n ≤ 8796093022208) : Gf Tryz.prog 62 #[.agg #[vi s.client, vi s.acked, vi s.seen, vsl p n c]] H fun v D => ∃ p' c', v = .agg #[vi s.client, vi s.acked, vi s.seen, vsl p' n c'] ∧ Kept D p' n c' s.kept := fun W hH => by
  refine x_ownSes _ _ _ p n c noM H W _ hH ?_
  intro b0 b1 b2 W3 n3 _
  obtain ⟨p', c', g, W', H', h1, h2, h3, h4, h5⟩ := ek_clone (P := Tryz.prog) Tryz.underlying73 infoRep (by omega) n3 (some (b2, 0)) hk.2.2 (rep_ones _) (by omega) (by simp only [maxLen]; omega) 73 (c := c)
  exact ⟨p', n, c', W', h1, H', h2, Rt.gfn ⟨p', c', rfl, Kept.of_ow (h3.new (fun b hb => Nat.le_trans n3.mod.size (h4 b hb)))⟩⟩
/-- a table of one's own -/
def OwnTab (D : Hp) (p : Option Loc) (n c : Nat) (l : List Ses) (g : Option Nat) : Prop := ∃ rows Dk, Ow D 75 4 p n c rows g ∧ Hp.le Dk D ∧ (∀ b, g = some b → Dk b = none) ∧ All2 (SesRow Dk) rows l
theorem OwnTab.tab {D : Hp} {p : Option Loc} {n c : Nat} {l : List Ses} {g : Option Nat} (h : OwnTab D p n c l g) : Tab D p n c l := by
  obtain ⟨rows, Dk, h1, h2, _, h4⟩ := h
  exact ⟨h1.2.2.1, h1.2.2.2.1, rows, h1.rows, h4.mono fun _ _ h => h.mono h2⟩
end Go.Proofs.YtfpmcmhihhnfgaaGreat
