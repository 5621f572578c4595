/- Symbolic runs of functions: what each leaves to prove is enough for its call. Printed by a program of ours. No conditions. Entries as bytes: plain data. What is written is read as it was, and nothing else is. No conditions. Contracts: the places of an entry's fields; what is written into an entry. No conditions. Contracts: Write of an entry. No conditions. Contracts: an entry is read. No conditions. -/
import Derived.Test.YtoilhpkclabhoaaKE3
import Derived.Test.YtoilhpkclabhoaaProg
import Derived.Test.YtoilhpkclabhoaaKY1
import Derived.Test.YtoilhpkclabhoaaKY2
import Derived.Test.YtoilhpkclabhoaaKA1
import Derived.Test.YtoilhpkclabhoaaKE4
import Derived.Test.YtoilhpkclabhoaaKT1
set_option linter.unusedVariables false
set_option linter.unusedSimpArgs false
namespace Go.Proofs.Ytoilhpkclabhoaa
open Go.RowKit
set_option maxRecDepth 100000
set_option maxHeartbeats 4000000
def v_places : VC :=
(.chk (.isp 0)
(.all 0
(.ld 0 (.k 0) [.int .i64 (.v 1)] [(1, .i)]
(.ite (.eq (.v 1) (.k 2))
(.chk (.le (.k 0) (.add (.k 0) (.k 5)))
(.all 1
(.esc (.bi .append #[72, 72] 72) [.slK 0 0 3 3, .slK 1 0 6 6] [(0, ⟨[.ptrO 0 (.k 0), .int .i64 (.k 1), .int .i64 (.k 0), .ptrO 0 (.add (.k 0) (.k 1)), .int .i64 (.k 2), .int .i64 (.k 0), .ptrO 0 (.add (.k 0) (.k 2)), .int .i64 (.k 1), .int .i64 (.k 0)], 77⟩), (1, ⟨[.ptrO 0 (.add (.k 0) (.k 3)), .int .i64 (.k 1), .int .i64 (.k 0), .ptrO 0 (.add (.k 0) (.k 4)), .int .i64 (.k 1), .int .i64 (.k 0), .ptrO 0 (.add (.k 0) (.k 5)), .int .i64 (.k 1), .int .i64 (.k 0), .ptrO 0 (.add (.add (.k 0) (.k 5)) (.k 1)), .int .i64 (.k 1), .int .i64 (.k 0), .ptrO 0 (.add (.add (.k 0) (.k 5)) (.k 2)), .int .i64 (.k 1), .int .i64 (.k 0), .ptrO 0 (.add (.add (.k 0) (.k 5)) (.k 3)), .int .i64 (.k 2), .int .i64 (.k 999)], 77⟩)] [(2, .p), (3, .n), (4, .n)] (some (.slO 2 (.k 0) (.v 3) (.v 4))) .turn
(.ret (.slO 2 (.k 0) (.v 3) (.v 4)) []))))
(.ret (.slK 0 0 3 3) [(0, ⟨[.ptrO 0 (.k 0), .int .i64 (.k 1), .int .i64 (.k 0), .ptrO 0 (.add (.k 0) (.k 1)), .int .i64 (.k 2), .int .i64 (.k 0), .ptrO 0 (.add (.k 0) (.k 2)), .int .i64 (.k 1), .int .i64 (.k 0)], 77⟩)])))))
theorem x_places (x0 : Option Loc) (M : Nat → Prop) (H0 : Hp) (W0 : World) (R : Ending → World → Prop) (hH : H0.le (hpOf W0)) (h :
 (x0.isSome = true ∧ (x0.isSome = true →
 (∀ b0 : Nat,
 (∃ x1 : Int, RowAt H0 x0 0 [vi x1] ∧
 ((x1 = 2 →
  ((0 : Int) ≤ (0 + 5) ∧ ((0 : Int) ≤ (0 + 5) →
  (∀ b1 : Nat,
  (Es W0 M H0 (fun W => Kn W0 M H0 W b0 (Obj.cells #[Value.pointer (ptrAt x0 0), vi 1, vi 0, Value.pointer (ptrAt x0 (0 + 1)), vi 2, vi 0, Value.pointer (ptrAt x0 (0 + 2)), vi 1, vi 0] 77 (0, 0)) ∧ Kn W0 M H0 W b1 (Obj.cells #[Value.pointer (ptrAt x0 (0 + 3)), vi 1, vi 0, Value.pointer (ptrAt x0 (0 + 4)), vi 1, vi 0, Value.pointer (ptrAt x0 (0 + 5)), vi 1, vi 0, Value.pointer (ptrAt x0 ((0 + 5) + 1)), vi 1, vi 0, Value.pointer (ptrAt x0 ((0 + 5) + 2)), vi 1, vi 0, Value.pointer (ptrAt x0 ((0 + 5) + 3)), vi 2, vi 999] 77 (0, 0)) ∧ True) fun W1 => ∃ x2 : Option Loc, ∃ x3 : Nat, ∃ x4 : Nat, Eo Try.prog (.bi .append #[72, 72] 72) [Value.slice (some ⟨b0, 0, none⟩) 3 3, Value.slice (some ⟨b1, 0, none⟩) 6 6] W1 (.value (vsl x2 x3 x4)) fun W2 => Tn W0 M H0 W1 W2 fun H1 =>
  Rt R W0 M H1 nK (vsl x2 x3 x4)))))) ∧
 (¬ (x1 = 2) →
  Rt R W0 M H0 (fun W => Kn W0 M H0 W b0 (Obj.cells #[Value.pointer (ptrAt x0 0), vi 1, vi 0, Value.pointer (ptrAt x0 (0 + 1)), vi 2, vi 0, Value.pointer (ptrAt x0 (0 + 2)), vi 1, vi 0] 77 (0, 0)) ∧ True) (Value.slice (some ⟨b0, 0, none⟩) 3 3)))))))) :
  Calls Try.prog 44 #[Value.pointer (ptrAt x0 0)] W0 R :=
  calls_sxA (M := M) (V := v_places) (hi := {}) (args := [.ptrO 0 (.k 0)]) (nv := 1) (e := (upd (fun _ => .i 0) 0 (.p x0))) Try.func44 hH h (by kernel_rfl) (by kernel_rfl) (by kernel_rfl)
def v_logWrite : VC :=
(.hold 9 [.int .i64 (.v 0), .int .i64 (.v 1), .int .i64 (.v 2), .int .i64 (.v 3), .int .i64 (.v 4), .int .i64 (.v 5), .int .i64 (.v 6), .int .i64 (.v 7), .int .i64 (.v 8)] 33
(.ld 9 (.k 0) [.int .i64 (.v 10), .int .i64 (.v 11), .int .i64 (.v 12), .int .i64 (.v 13), .int .i64 (.v 14), .int .i64 (.v 15), .int .i64 (.v 16), .int .i64 (.v 17), .int .i64 (.v 18)] [(10, .i), (11, .i), (12, .i), (13, .i), (14, .i), (15, .i), (16, .i), (17, .i), (18, .i)]
(.call 43 [.agg [.int .i64 (.v 10), .int .i64 (.v 11), .int .i64 (.v 12), .int .i64 (.v 13), .int .i64 (.v 14), .int .i64 (.v 15), .int .i64 (.v 16), .int .i64 (.v 17), .int .i64 (.v 18)]] [] [(19, .i)] (.int .i64 (.v 19)) .same
(.ite (.eq (.v 19) (.k 0))
(.call 44 [.ptrO 9 (.k 0)] [] [(20, .p), (21, .n), (22, .n)] (.slO 20 (.k 0) (.v 21) (.v 22)) .fresh
(.chk (.le (.k 0) (.v 21))
(.loop [(23, .n), (24, .p), (25, .n), (26, .n)] [.n (.k 0), .pn, .n (.k 0), .n (.k 0)] [.n (.v 23), .p 24 (.k 0), .n (.v 25), .n (.v 26)]
(.ite (.lt (.v 23) (.v 21))
(.chk (.idx (.v 23) (.v 21))
(.chk (.isp 20)
(.ld 20 (.add (.k 0) (.mul (.v 23) (.k 3))) [.ptrO 27 (.k 0), .int .i64 (.v 28), .int .i64 (.v 29)] [(27, .p), (28, .i), (29, .i)]
(.all 0
(.chk (.isp 27)
(.ld 27 (.k 0) [.int .i64 (.v 30)] [(30, .i)]
(.chk (.rng .i64 (.add (.v 30) (.v 29)))
(.chk (.rng .i64 (.sub (.v 28) (.k 1)))
(.chk (.le (.k 0) (.v 25))
(.chk (.le (.k 0) (.v 26))
(.loop [(31, .i), (32, .p), (33, .n), (34, .n)] [.i (.sub (.v 28) (.k 1)), .p 24 (.k 0), .n (.v 25), .n (.v 26)] [.i (.v 31), .p 32 (.k 0), .n (.v 33), .n (.v 34)]
(.ite (.le (.k 0) (.v 31))
(.chk (.rng .i64 (.mul (.k 8) (.v 31)))
(.esc (.bop .shr 3 (.tmp 36) (.tmp 38)) [.int .i64 (.add (.v 30) (.v 29)), .int .i64 (.mul (.k 8) (.v 31))] [] [(35, .i)] (some (.int .i64 (.v 35))) .same
(.all 1
(.esc (.bi .append #[71, 71] 71) [.slO 32 (.k 0) (.v 33) (.v 34), .slK 1 0 1 1] [(1, ⟨[.int .u8 (.wrap .u8 (.v 35))], 5⟩)] [(36, .p), (37, .n), (38, .n)] (some (.slO 36 (.k 0) (.v 37) (.v 38))) .turn
(.chk (.rng .i64 (.sub (.v 31) (.k 1)))
(.chk (.le (.k 0) (.v 37))
(.chk (.le (.k 0) (.v 38))
(.back 0 [.i (.sub (.v 31) (.k 1)), .p 36 (.k 0), .n (.v 37), .n (.v 38)]))))))))
(.chk (.rng .i64 (.add (.v 23) (.k 1)))
(.chk (.le (.k 0) (.add (.v 23) (.k 1)))
(.chk (.le (.k 0) (.v 33))
(.chk (.le (.k 0) (.v 34))
(.back 1 [.n (.add (.v 23) (.k 1)), .p 32 (.k 0), .n (.v 33), .n (.v 34)])))))))))))))))))
(.esc (.conv 71 9) [.slO 24 (.k 0) (.v 25) (.v 26)] [] [(27, .s)] (some (.str 27)) .same
(.ret (.tup [.str 27, .int .i64 (.k 0)]) []))))))
(.ret (.tup [.c (Value.string ⟨#[]⟩), .int .i64 (.v 19)]) [])))))
theorem x_logWrite (x0 : Int) (x1 : Int) (x2 : Int) (x3 : Int) (x4 : Int) (x5 : Int) (x6 : Int) (x7 : Int) (x8 : Int) (M : Nat → Prop) (H0 : Hp) (W0 : World) (R : Ending → World → Prop) (hH : H0.le (hpOf W0)) (h :
 (∀ x9 : Option Loc, ∀ H1 : Hp, (∃ b : Nat, x9 = some ((b : Blk), 0) ∧ W0.heap.size ≤ b ∧ H0 b = none ∧ H1 b = some (Obj.cells #[vi x0, vi x1, vi x2, vi x3, vi x4, vi x5, vi x6, vi x7, vi x8] 33 (0, 0))) → H0.le H1 →
 (∃ x10 : Int, ∃ x11 : Int, ∃ x12 : Int, ∃ x13 : Int, ∃ x14 : Int, ∃ x15 : Int, ∃ x16 : Int, ∃ x17 : Int, ∃ x18 : Int, RowAt H1 x9 0 [vi x10, vi x11, vi x12, vi x13, vi x14, vi x15, vi x16, vi x17, vi x18] ∧
 (Cl Try.prog W0 M H1 nK 43 #[Value.agg #[vi x10, vi x11, vi x12, vi x13, vi x14, vi x15, vi x16, vi x17, vi x18]] fun z W1 W2 => ∃ x19 : Int, z = .returned (vi x19) ∧ Ext W1 W2 ∧
 ((x19 = 0 →
  (Cl Try.prog W0 M H1 nK 44 #[Value.pointer (ptrAt x9 0)] fun z W3 W4 => ∃ x20 : Option Loc, ∃ x21 : Nat, ∃ x22 : Nat, z = .returned (vsl x20 x21 x22) ∧ Fr W3 W4 H1 fun H2 =>
  (0 ≤ (x21 : Int) ∧ (0 ≤ (x21 : Int) →
  (∃ (I0 : List Dat → Hp → Prop) (μ0 : List Dat → Nat), I0 [.n 0, .p none, .n 0, .n 0] H2 ∧ ∀ H3 : Hp, ∀ x23 : Nat, ∀ x24 : Option Loc, ∀ x25 : Nat, ∀ x26 : Nat, I0 [.n x23, .p (x24.map fun a => a.shift 0), .n x25, .n x26] H3 →
   (((x23 : Int) < (x21 : Int) →
    (((0 : Int) ≤ (x23 : Int) ∧ (x23 : Int) < (x21 : Int)) ∧ (((0 : Int) ≤ (x23 : Int) ∧ (x23 : Int) < (x21 : Int)) →
    (x20.isSome = true ∧ (x20.isSome = true →
    (∃ x27 : Option Loc, ∃ x28 : Int, ∃ x29 : Int, RowAt H3 x20 (0 + ((x23 : Int) * 3)) [Value.pointer (ptrAt x27 0), vi x28, vi x29] ∧
    (∀ b0 : Nat,
    (x27.isSome = true ∧ (x27.isSome = true →
    (∃ x30 : Int, RowAt H3 x27 0 [vi x30] ∧
    (inKind .i64 (x30 + x29) ∧ (inKind .i64 (x30 + x29) →
    (inKind .i64 (x28 - 1) ∧ (inKind .i64 (x28 - 1) →
    (0 ≤ (x25 : Int) ∧ (0 ≤ (x25 : Int) →
    (0 ≤ (x26 : Int) ∧ (0 ≤ (x26 : Int) →
    (∃ (I1 : List Dat → Hp → Prop) (μ1 : List Dat → Nat), I1 [.i (x28 - 1), .p (x24.map fun a => a.shift 0), .n x25, .n x26] H3 ∧ ∀ H4 : Hp, ∀ x31 : Int, ∀ x32 : Option Loc, ∀ x33 : Nat, ∀ x34 : Nat, I1 [.i x31, .p (x32.map fun a => a.shift 0), .n x33, .n x34] H4 →
     ((0 ≤ x31 →
      (inKind .i64 (8 * x31) ∧ (inKind .i64 (8 * x31) →
      (Es W0 M H4 nK fun W5 => ∃ x35 : Int, Eo Try.prog (.bop .shr 3 (.tmp 36) (.tmp 38)) [vi (x30 + x29), vi (8 * x31)] W5 (.value (vi x35)) fun W6 => Ext W5 W6 ∧
      (∀ b1 : Nat,
      (Es W0 M H4 (fun W => Kn W0 M H4 W b1 (Obj.cells #[Value.int .u8 (IntKind.wrap .u8 x35)] 5 (0, 0)) ∧ True) fun W7 => ∃ x36 : Option Loc, ∃ x37 : Nat, ∃ x38 : Nat, Eo Try.prog (.bi .append #[71, 71] 71) [vsl x32 x33 x34, Value.slice (some ⟨b1, 0, none⟩) 1 1] W7 (.value (vsl x36 x37 x38)) fun W8 => Tn W0 M H4 W7 W8 fun H5 =>
      (inKind .i64 (x31 - 1) ∧ (inKind .i64 (x31 - 1) →
      (0 ≤ (x37 : Int) ∧ (0 ≤ (x37 : Int) →
      (0 ≤ (x38 : Int) ∧ (0 ≤ (x38 : Int) →
      (I1 [.i (x31 - 1), .p (x36.map fun a => a.shift 0), .n x37, .n x38] H5 ∧ μ1 [.i (x31 - 1), .p (x36.map fun a => a.shift 0), .n x37, .n x38] < μ1 [.i x31, .p (x32.map fun a => a.shift 0), .n x33, .n x34]))))))))))))) ∧
     (¬ (0 ≤ x31) →
      (inKind .i64 ((x23 : Int) + 1) ∧ (inKind .i64 ((x23 : Int) + 1) →
      (0 ≤ ((x23 : Int) + 1) ∧ (0 ≤ ((x23 : Int) + 1) →
      (0 ≤ (x33 : Int) ∧ (0 ≤ (x33 : Int) →
      (0 ≤ (x34 : Int) ∧ (0 ≤ (x34 : Int) →
      (I0 [.n (((x23 : Int) + 1) : Int).toNat, .p (x32.map fun a => a.shift 0), .n x33, .n x34] H4 ∧ μ0 [.n (((x23 : Int) + 1) : Int).toNat, .p (x32.map fun a => a.shift 0), .n x33, .n x34] < μ0 [.n x23, .p (x24.map fun a => a.shift 0), .n x25, .n x26])))))))))))))))))))))))))))))) ∧
   (¬ ((x23 : Int) < (x21 : Int)) →
    (Es W0 M H3 nK fun W5 => ∃ x27 : ByteArray, Eo Try.prog (.conv 71 9) [vsl x24 x25 x26] W5 (.value (Value.string x27)) fun W6 => Ext W5 W6 ∧
    Rt R W0 M H3 nK (Value.tuple #[Value.string x27, vi 0]))))))))) ∧
 (¬ (x19 = 0) →
  Rt R W0 M H1 nK (Value.tuple #[Value.string ⟨#[]⟩, vi x19]))))))) :
  Calls Try.prog 15 #[Value.agg #[vi x0, vi x1, vi x2, vi x3, vi x4, vi x5, vi x6, vi x7, vi x8]] W0 R :=
  calls_sxA (M := M) (V := v_logWrite) (hi := {holds := [(0, 0)], loops := [(6, .inv [(17, .nat), (5, .pt .sl)] []), (10, .inv [(9, .pt (.int .i64)), (5, .pt .sl)] [])]}) (args := [.agg [.int .i64 (.v 0), .int .i64 (.v 1), .int .i64 (.v 2), .int .i64 (.v 3), .int .i64 (.v 4), .int .i64 (.v 5), .int .i64 (.v 6), .int .i64 (.v 7), .int .i64 (.v 8)]]) (nv := 9) (e := (upd (upd (upd (upd (upd (upd (upd (upd (upd (fun _ => .i 0) 0 (.i x0)) 1 (.i x1)) 2 (.i x2)) 3 (.i x3)) 4 (.i x4)) 5 (.i x5)) 6 (.i x6)) 7 (.i x7)) 8 (.i x8))) Try.func15 hH h (by kernel_rfl) (by kernel_rfl) (by kernel_rfl)
def v_logRead : VC :=
(.hold 1 [.int .i64 (.k 0), .int .i64 (.k 0), .int .i64 (.k 0), .int .i64 (.k 0), .int .i64 (.k 0), .int .i64 (.k 0), .int .i64 (.k 0), .int .i64 (.k 0), .int .i64 (.k 0)] 33
(.esc (.bop .eql 9 (.tmp 10) (.const (Value.string ⟨#[]⟩))) [.str 0, .c (Value.string ⟨#[]⟩)] [] [(2, .b)] (some (.bool (.v 2))) .same
(.ite (.v 2)
(.ld 1 (.k 0) [.int .i64 (.v 3), .int .i64 (.v 4), .int .i64 (.v 5), .int .i64 (.v 6), .int .i64 (.v 7), .int .i64 (.v 8), .int .i64 (.v 9), .int .i64 (.v 10), .int .i64 (.v 11)] [(3, .i), (4, .i), (5, .i), (6, .i), (7, .i), (8, .i), (9, .i), (10, .i), (11, .i)]
(.esc (.storeO 33) [.ptrO 1 (.k 0), .agg [.int .i64 (.v 3), .int .i64 (.v 4), .int .i64 (.v 5), .int .i64 (.v 6), .int .i64 (.v 7), .int .i64 (.v 8), .int .i64 (.v 9), .int .i64 (.v 10), .int .i64 (.v 11)]] [] [] none .turn
(.ld 1 (.k 0) [.int .i64 (.v 12), .int .i64 (.v 13), .int .i64 (.v 14), .int .i64 (.v 15), .int .i64 (.v 16), .int .i64 (.v 17), .int .i64 (.v 18), .int .i64 (.v 19), .int .i64 (.v 20)] [(12, .i), (13, .i), (14, .i), (15, .i), (16, .i), (17, .i), (18, .i), (19, .i), (20, .i)]
(.ret (.tup [.agg [.int .i64 (.v 12), .int .i64 (.v 13), .int .i64 (.v 14), .int .i64 (.v 15), .int .i64 (.v 16), .int .i64 (.v 17), .int .i64 (.v 18), .int .i64 (.v 19), .int .i64 (.v 20)], .str 0, .bool (.k false)]) []))))
(.esc (.idx 9) [.str 0, .int .i64 (.k 0)] [] [(3, .i)] (some (.int .u8 (.v 3))) .same
(.chk (.rng .i64 (.v 3))
(.chk (.isp 1)
(.esc (.storeO 3) [.ptrO 1 (.k 0), .int .i64 (.v 3)] [] [] none .turn
(.call 44 [.ptrO 1 (.k 0)] [] [(4, .p), (5, .n), (6, .n)] (.slO 4 (.k 0) (.v 5) (.v 6)) .fresh
(.chk (.le (.k 0) (.v 5))
(.loop [(7, .n), (8, .s)] [.n (.k 0), .s 0] [.n (.v 7), .s 8]
(.ite (.lt (.v 7) (.v 5))
(.chk (.idx (.v 7) (.v 5))
(.chk (.isp 4)
(.ld 4 (.add (.k 0) (.mul (.v 7) (.k 3))) [.ptrO 9 (.k 0), .int .i64 (.v 10), .int .i64 (.v 11)] [(9, .p), (10, .i), (11, .i)]
(.all 0
(.ite (.lt (.slen 8) (.v 10))
(.ld 1 (.k 0) [.int .i64 (.v 12), .int .i64 (.v 13), .int .i64 (.v 14), .int .i64 (.v 15), .int .i64 (.v 16), .int .i64 (.v 17), .int .i64 (.v 18), .int .i64 (.v 19), .int .i64 (.v 20)] [(12, .i), (13, .i), (14, .i), (15, .i), (16, .i), (17, .i), (18, .i), (19, .i), (20, .i)]
(.esc (.storeO 33) [.ptrO 1 (.k 0), .agg [.int .i64 (.v 12), .int .i64 (.v 13), .int .i64 (.v 14), .int .i64 (.v 15), .int .i64 (.v 16), .int .i64 (.v 17), .int .i64 (.v 18), .int .i64 (.v 19), .int .i64 (.v 20)]] [] [] none .turn
(.ld 1 (.k 0) [.int .i64 (.v 21), .int .i64 (.v 22), .int .i64 (.v 23), .int .i64 (.v 24), .int .i64 (.v 25), .int .i64 (.v 26), .int .i64 (.v 27), .int .i64 (.v 28), .int .i64 (.v 29)] [(21, .i), (22, .i), (23, .i), (24, .i), (25, .i), (26, .i), (27, .i), (28, .i), (29, .i)]
(.ret (.tup [.agg [.int .i64 (.v 21), .int .i64 (.v 22), .int .i64 (.v 23), .int .i64 (.v 24), .int .i64 (.v 25), .int .i64 (.v 26), .int .i64 (.v 27), .int .i64 (.v 28), .int .i64 (.v 29)], .str 0, .bool (.k false)]) []))))
(.esc (.slice 9 false true false) [.str 8, .int .i64 (.v 10)] [] [(12, .s)] (some (.str 12)) .same
(.esc (.conv 9 71) [.str 12] [] [(13, .p), (14, .n), (15, .n)] (some (.slO 13 (.k 0) (.v 14) (.v 15))) .fresh
(.chk (.le (.k 0) (.v 14))
(.loop [(16, .n), (17, .i)] [.n (.k 0), .i (.k 0)] [.n (.v 16), .i (.v 17)]
(.ite (.lt (.v 16) (.v 14))
(.chk (.idx (.v 16) (.v 14))
(.chk (.isp 13)
(.ld 13 (.add (.k 0) (.mul (.v 16) (.k 1))) [.int .u8 (.v 18)] [(18, .i)]
(.esc (.bop .shl 3 (.tmp 42) (.const (Value.int .u64 8))) [.int .i64 (.v 17), .int .u64 (.k 8)] [] [(19, .i)] (some (.int .i64 (.v 19))) .same
(.chk (.rng .i64 (.v 18))
(.esc (.bop .or 3 (.tmp 43) (.tmp 45)) [.int .i64 (.v 19), .int .i64 (.v 18)] [] [(20, .i)] (some (.int .i64 (.v 20))) .same
(.chk (.rng .i64 (.add (.v 16) (.k 1)))
(.chk (.le (.k 0) (.add (.v 16) (.k 1)))
(.back 0 [.n (.add (.v 16) (.k 1)), .i (.v 20)])))))))))
(.chk (.rng .i64 (.sub (.v 17) (.v 11)))
(.chk (.le (.k 0) (.v 10))
(.chk (.le (.v 10) (.slen 8))
(.esc (.slice 9 true false false) [.str 8, .int .i64 (.v 10)] [] [(18, .s)] (some (.str 18)) .same
(.chk (.isp 9)
(.esc (.storeO 3) [.ptrO 9 (.k 0), .int .i64 (.sub (.v 17) (.v 11))] [] [] none .turn
(.chk (.rng .i64 (.add (.v 7) (.k 1)))
(.chk (.le (.k 0) (.add (.v 7) (.k 1)))
(.back 1 [.n (.add (.v 7) (.k 1)), .s 18])))))))))))))))))))
(.ld 1 (.k 0) [.int .i64 (.v 9), .int .i64 (.v 10), .int .i64 (.v 11), .int .i64 (.v 12), .int .i64 (.v 13), .int .i64 (.v 14), .int .i64 (.v 15), .int .i64 (.v 16), .int .i64 (.v 17)] [(9, .i), (10, .i), (11, .i), (12, .i), (13, .i), (14, .i), (15, .i), (16, .i), (17, .i)]
(.ld 1 (.k 0) [.int .i64 (.v 18), .int .i64 (.v 19), .int .i64 (.v 20), .int .i64 (.v 21), .int .i64 (.v 22), .int .i64 (.v 23), .int .i64 (.v 24), .int .i64 (.v 25), .int .i64 (.v 26)] [(18, .i), (19, .i), (20, .i), (21, .i), (22, .i), (23, .i), (24, .i), (25, .i), (26, .i)]
(.call 43 [.agg [.int .i64 (.v 18), .int .i64 (.v 19), .int .i64 (.v 20), .int .i64 (.v 21), .int .i64 (.v 22), .int .i64 (.v 23), .int .i64 (.v 24), .int .i64 (.v 25), .int .i64 (.v 26)]] [] [(27, .i)] (.int .i64 (.v 27)) .same
(.esc (.storeO 33) [.ptrO 1 (.k 0), .agg [.int .i64 (.v 9), .int .i64 (.v 10), .int .i64 (.v 11), .int .i64 (.v 12), .int .i64 (.v 13), .int .i64 (.v 14), .int .i64 (.v 15), .int .i64 (.v 16), .int .i64 (.v 17)]] [] [] none .turn
(.ld 1 (.k 0) [.int .i64 (.v 28), .int .i64 (.v 29), .int .i64 (.v 30), .int .i64 (.v 31), .int .i64 (.v 32), .int .i64 (.v 33), .int .i64 (.v 34), .int .i64 (.v 35), .int .i64 (.v 36)] [(28, .i), (29, .i), (30, .i), (31, .i), (32, .i), (33, .i), (34, .i), (35, .i), (36, .i)]
(.ret (.tup [.agg [.int .i64 (.v 28), .int .i64 (.v 29), .int .i64 (.v 30), .int .i64 (.v 31), .int .i64 (.v 32), .int .i64 (.v 33), .int .i64 (.v 34), .int .i64 (.v 35), .int .i64 (.v 36)], .str 8, .bool (.eq (.v 27) (.k 0))]) [])))))))))))))))))
theorem x_logRead (x0 : ByteArray) (M : Nat → Prop) (H0 : Hp) (W0 : World) (R : Ending → World → Prop) (hH : H0.le (hpOf W0)) (h :
 (∀ x1 : Option Loc, ∀ H1 : Hp, (∃ b : Nat, x1 = some ((b : Blk), 0) ∧ W0.heap.size ≤ b ∧ H0 b = none ∧ H1 b = some (Obj.cells #[vi 0, vi 0, vi 0, vi 0, vi 0, vi 0, vi 0, vi 0, vi 0] 33 (0, 0))) → H0.le H1 →
 (Es W0 M H1 nK fun W1 => ∃ x2 : Bool, Eo Try.prog (.bop .eql 9 (.tmp 10) (.const (Value.string ⟨#[]⟩))) [Value.string x0, Value.string ⟨#[]⟩] W1 (.value (vb (x2))) fun W2 => Ext W1 W2 ∧
 ((x2 = true →
  (∃ x3 : Int, ∃ x4 : Int, ∃ x5 : Int, ∃ x6 : Int, ∃ x7 : Int, ∃ x8 : Int, ∃ x9 : Int, ∃ x10 : Int, ∃ x11 : Int, RowAt H1 x1 0 [vi x3, vi x4, vi x5, vi x6, vi x7, vi x8, vi x9, vi x10, vi x11] ∧
  (Es W0 M H1 nK fun W3 => Eo Try.prog (.storeO 33) [Value.pointer (ptrAt x1 0), Value.agg #[vi x3, vi x4, vi x5, vi x6, vi x7, vi x8, vi x9, vi x10, vi x11]] W3 (.skip) fun W4 => Tn W0 M H1 W3 W4 fun H2 =>
  (∃ x12 : Int, ∃ x13 : Int, ∃ x14 : Int, ∃ x15 : Int, ∃ x16 : Int, ∃ x17 : Int, ∃ x18 : Int, ∃ x19 : Int, ∃ x20 : Int, RowAt H2 x1 0 [vi x12, vi x13, vi x14, vi x15, vi x16, vi x17, vi x18, vi x19, vi x20] ∧
  Rt R W0 M H2 nK (Value.tuple #[Value.agg #[vi x12, vi x13, vi x14, vi x15, vi x16, vi x17, vi x18, vi x19, vi x20], Value.string x0, vb (false)]))))) ∧
 (¬ (x2 = true) →
  (Es W0 M H1 nK fun W3 => ∃ x3 : Int, Eo Try.prog (.idx 9) [Value.string x0, vi 0] W3 (.value (Value.int .u8 x3)) fun W4 => Ext W3 W4 ∧
  (inKind .i64 x3 ∧ (inKind .i64 x3 →
  (x1.isSome = true ∧ (x1.isSome = true →
  (Es W0 M H1 nK fun W5 => Eo Try.prog (.storeO 3) [Value.pointer (ptrAt x1 0), vi x3] W5 (.skip) fun W6 => Tn W0 M H1 W5 W6 fun H2 =>
  (Cl Try.prog W0 M H2 nK 44 #[Value.pointer (ptrAt x1 0)] fun z W7 W8 => ∃ x4 : Option Loc, ∃ x5 : Nat, ∃ x6 : Nat, z = .returned (vsl x4 x5 x6) ∧ Fr W7 W8 H2 fun H3 =>
  (0 ≤ (x5 : Int) ∧ (0 ≤ (x5 : Int) →
  (∃ (I0 : List Dat → Hp → Prop) (μ0 : List Dat → Nat), I0 [.n 0, .s x0] H3 ∧ ∀ H4 : Hp, ∀ x7 : Nat, ∀ x8 : ByteArray, I0 [.n x7, .s x8] H4 →
   (((x7 : Int) < (x5 : Int) →
    (((0 : Int) ≤ (x7 : Int) ∧ (x7 : Int) < (x5 : Int)) ∧ (((0 : Int) ≤ (x7 : Int) ∧ (x7 : Int) < (x5 : Int)) →
    (x4.isSome = true ∧ (x4.isSome = true →
    (∃ x9 : Option Loc, ∃ x10 : Int, ∃ x11 : Int, RowAt H4 x4 (0 + ((x7 : Int) * 3)) [Value.pointer (ptrAt x9 0), vi x10, vi x11] ∧
    (∀ b0 : Nat,
    (((x8.size : Int) < x10 →
     (∃ x12 : Int, ∃ x13 : Int, ∃ x14 : Int, ∃ x15 : Int, ∃ x16 : Int, ∃ x17 : Int, ∃ x18 : Int, ∃ x19 : Int, ∃ x20 : Int, RowAt H4 x1 0 [vi x12, vi x13, vi x14, vi x15, vi x16, vi x17, vi x18, vi x19, vi x20] ∧
     (Es W0 M H4 nK fun W9 => Eo Try.prog (.storeO 33) [Value.pointer (ptrAt x1 0), Value.agg #[vi x12, vi x13, vi x14, vi x15, vi x16, vi x17, vi x18, vi x19, vi x20]] W9 (.skip) fun W10 => Tn W0 M H4 W9 W10 fun H5 =>
     (∃ x21 : Int, ∃ x22 : Int, ∃ x23 : Int, ∃ x24 : Int, ∃ x25 : Int, ∃ x26 : Int, ∃ x27 : Int, ∃ x28 : Int, ∃ x29 : Int, RowAt H5 x1 0 [vi x21, vi x22, vi x23, vi x24, vi x25, vi x26, vi x27, vi x28, vi x29] ∧
     Rt R W0 M H5 nK (Value.tuple #[Value.agg #[vi x21, vi x22, vi x23, vi x24, vi x25, vi x26, vi x27, vi x28, vi x29], Value.string x0, vb (false)]))))) ∧
    (¬ ((x8.size : Int) < x10) →
     (Es W0 M H4 nK fun W9 => ∃ x12 : ByteArray, Eo Try.prog (.slice 9 false true false) [Value.string x8, vi x10] W9 (.value (Value.string x12)) fun W10 => Ext W9 W10 ∧
     (Es W0 M H4 nK fun W11 => ∃ x13 : Option Loc, ∃ x14 : Nat, ∃ x15 : Nat, Eo Try.prog (.conv 9 71) [Value.string x12] W11 (.value (vsl x13 x14 x15)) fun W12 => Fr W11 W12 H4 fun H5 =>
     (0 ≤ (x14 : Int) ∧ (0 ≤ (x14 : Int) →
     (∃ (I1 : List Dat → Hp → Prop) (μ1 : List Dat → Nat), I1 [.n 0, .i 0] H5 ∧ ∀ H6 : Hp, ∀ x16 : Nat, ∀ x17 : Int, I1 [.n x16, .i x17] H6 →
      (((x16 : Int) < (x14 : Int) →
       (((0 : Int) ≤ (x16 : Int) ∧ (x16 : Int) < (x14 : Int)) ∧ (((0 : Int) ≤ (x16 : Int) ∧ (x16 : Int) < (x14 : Int)) →
       (x13.isSome = true ∧ (x13.isSome = true →
       (∃ x18 : Int, RowAt H6 x13 (0 + ((x16 : Int) * 1)) [Value.int .u8 x18] ∧
       (Es W0 M H6 nK fun W13 => ∃ x19 : Int, Eo Try.prog (.bop .shl 3 (.tmp 42) (.const (Value.int .u64 8))) [vi x17, Value.int .u64 8] W13 (.value (vi x19)) fun W14 => Ext W13 W14 ∧
       (inKind .i64 x18 ∧ (inKind .i64 x18 →
       (Es W0 M H6 nK fun W15 => ∃ x20 : Int, Eo Try.prog (.bop .or 3 (.tmp 43) (.tmp 45)) [vi x19, vi x18] W15 (.value (vi x20)) fun W16 => Ext W15 W16 ∧
       (inKind .i64 ((x16 : Int) + 1) ∧ (inKind .i64 ((x16 : Int) + 1) →
       (0 ≤ ((x16 : Int) + 1) ∧ (0 ≤ ((x16 : Int) + 1) →
       (I1 [.n (((x16 : Int) + 1) : Int).toNat, .i x20] H6 ∧ μ1 [.n (((x16 : Int) + 1) : Int).toNat, .i x20] < μ1 [.n x16, .i x17]))))))))))))))) ∧
      (¬ ((x16 : Int) < (x14 : Int)) →
       (inKind .i64 (x17 - x11) ∧ (inKind .i64 (x17 - x11) →
       (0 ≤ x10 ∧ (0 ≤ x10 →
       (x10 ≤ (x8.size : Int) ∧ (x10 ≤ (x8.size : Int) →
       (Es W0 M H6 nK fun W13 => ∃ x18 : ByteArray, Eo Try.prog (.slice 9 true false false) [Value.string x8, vi x10] W13 (.value (Value.string x18)) fun W14 => Ext W13 W14 ∧
       (x9.isSome = true ∧ (x9.isSome = true →
       (Es W0 M H6 nK fun W15 => Eo Try.prog (.storeO 3) [Value.pointer (ptrAt x9 0), vi (x17 - x11)] W15 (.skip) fun W16 => Tn W0 M H6 W15 W16 fun H7 =>
       (inKind .i64 ((x7 : Int) + 1) ∧ (inKind .i64 ((x7 : Int) + 1) →
       (0 ≤ ((x7 : Int) + 1) ∧ (0 ≤ ((x7 : Int) + 1) →
       (I0 [.n (((x7 : Int) + 1) : Int).toNat, .s x18] H7 ∧ μ0 [.n (((x7 : Int) + 1) : Int).toNat, .s x18] < μ0 [.n x7, .s x8]))))))))))))))))))))))))))))))) ∧
   (¬ ((x7 : Int) < (x5 : Int)) →
    (∃ x9 : Int, ∃ x10 : Int, ∃ x11 : Int, ∃ x12 : Int, ∃ x13 : Int, ∃ x14 : Int, ∃ x15 : Int, ∃ x16 : Int, ∃ x17 : Int, RowAt H4 x1 0 [vi x9, vi x10, vi x11, vi x12, vi x13, vi x14, vi x15, vi x16, vi x17] ∧
    (∃ x18 : Int, ∃ x19 : Int, ∃ x20 : Int, ∃ x21 : Int, ∃ x22 : Int, ∃ x23 : Int, ∃ x24 : Int, ∃ x25 : Int, ∃ x26 : Int, RowAt H4 x1 0 [vi x18, vi x19, vi x20, vi x21, vi x22, vi x23, vi x24, vi x25, vi x26] ∧
    (Cl Try.prog W0 M H4 nK 43 #[Value.agg #[vi x18, vi x19, vi x20, vi x21, vi x22, vi x23, vi x24, vi x25, vi x26]] fun z W9 W10 => ∃ x27 : Int, z = .returned (vi x27) ∧ Ext W9 W10 ∧
    (Es W0 M H4 nK fun W11 => Eo Try.prog (.storeO 33) [Value.pointer (ptrAt x1 0), Value.agg #[vi x9, vi x10, vi x11, vi x12, vi x13, vi x14, vi x15, vi x16, vi x17]] W11 (.skip) fun W12 => Tn W0 M H4 W11 W12 fun H5 =>
    (∃ x28 : Int, ∃ x29 : Int, ∃ x30 : Int, ∃ x31 : Int, ∃ x32 : Int, ∃ x33 : Int, ∃ x34 : Int, ∃ x35 : Int, ∃ x36 : Int, RowAt H5 x1 0 [vi x28, vi x29, vi x30, vi x31, vi x32, vi x33, vi x34, vi x35, vi x36] ∧
    Rt R W0 M H5 nK (Value.tuple #[Value.agg #[vi x28, vi x29, vi x30, vi x31, vi x32, vi x33, vi x34, vi x35, vi x36], Value.string x8, vb (decide (x27 = 0))]))))))))))))))))))))))) :
  Calls Try.prog 47 #[Value.string x0] W0 R :=
  calls_sxA (M := M) (V := v_logRead) (hi := {holds := [(0, 0)], loops := [(6, .inv [(21, .nat), (3, .pt .str)] []), (12, .inv [(38, .nat), (7, .pt (.int .i64))] [])]}) (args := [.str 0]) (nv := 1) (e := (upd (fun _ => .i 0) 0 (.s x0))) Try.func47 hH h (by kernel_rfl) (by kernel_rfl) (by kernel_rfl)
def v_logReplay : VC :=
(.ite (.lt (.k 4096) (.slen 0))
(.ret (.tup [.c (Value.slice none 0 0), .int .i64 (.k 0), .int .i64 (.k 2)]) [])
(.loop [(1, .p), (2, .n), (3, .n), (4, .s)] [.pn, .n (.k 0), .n (.k 0), .s 0] [.p 1 (.k 0), .n (.v 2), .n (.v 3), .s 4]
(.chk (.le (.k 0) (.v 2))
(.ite (.lt (.v 2) (.k 50))
(.call 47 [.str 4] [] [(5, .i), (6, .i), (7, .i), (8, .i), (9, .i), (10, .i), (11, .i), (12, .i), (13, .i), (14, .s), (15, .b)] (.tup [.agg [.int .i64 (.v 5), .int .i64 (.v 6), .int .i64 (.v 7), .int .i64 (.v 8), .int .i64 (.v 9), .int .i64 (.v 10), .int .i64 (.v 11), .int .i64 (.v 12), .int .i64 (.v 13)], .str 14, .bool (.v 15)]) .same
(.all 0
(.ite (.v 15)
(.all 1
(.esc (.bi .append #[38, 38] 38) [.slO 1 (.k 0) (.v 2) (.v 3), .slK 1 0 1 1] [(1, ⟨[.int .i64 (.v 5), .int .i64 (.v 6), .int .i64 (.v 7), .int .i64 (.v 8), .int .i64 (.v 9), .int .i64 (.v 10), .int .i64 (.v 11), .int .i64 (.v 12), .int .i64 (.v 13)], 33⟩)] [(16, .p), (17, .n), (18, .n)] (some (.slO 16 (.k 0) (.v 17) (.v 18))) .turn
(.chk (.le (.k 0) (.v 17))
(.chk (.le (.k 0) (.v 18))
(.back 0 [.p 16 (.k 0), .n (.v 17), .n (.v 18), .s 14])))))
(.chk (.rng .i64 (.sub (.slen 0) (.slen 4)))
(.ret (.tup [.slO 1 (.k 0) (.v 2) (.v 3), .int .i64 (.sub (.slen 0) (.slen 4)), .int .i64 (.k 0)]) [])))))
(.chk (.rng .i64 (.sub (.slen 0) (.slen 4)))
(.ret (.tup [.slO 1 (.k 0) (.v 2) (.v 3), .int .i64 (.sub (.slen 0) (.slen 4)), .int .i64 (.k 0)]) []))))))
theorem x_logReplay (x0 : ByteArray) (M : Nat → Prop) (H0 : Hp) (W0 : World) (R : Ending → World → Prop) (hH : H0.le (hpOf W0)) (h :
 ((4096 < (x0.size : Int) →
  Rt R W0 M H0 nK (Value.tuple #[Value.slice none 0 0, vi 0, vi 2])) ∧
 (¬ (4096 < (x0.size : Int)) →
  (∃ (I0 : List Dat → Hp → Prop) (μ0 : List Dat → Nat), I0 [.p none, .n 0, .n 0, .s x0] H0 ∧ ∀ H1 : Hp, ∀ x1 : Option Loc, ∀ x2 : Nat, ∀ x3 : Nat, ∀ x4 : ByteArray, I0 [.p (x1.map fun a => a.shift 0), .n x2, .n x3, .s x4] H1 →
   (0 ≤ (x2 : Int) ∧ (0 ≤ (x2 : Int) →
   (((x2 : Int) < 50 →
    (Cl Try.prog W0 M H1 nK 47 #[Value.string x4] fun z W1 W2 => ∃ x5 : Int, ∃ x6 : Int, ∃ x7 : Int, ∃ x8 : Int, ∃ x9 : Int, ∃ x10 : Int, ∃ x11 : Int, ∃ x12 : Int, ∃ x13 : Int, ∃ x14 : ByteArray, ∃ x15 : Bool, z = .returned (Value.tuple #[Value.agg #[vi x5, vi x6, vi x7, vi x8, vi x9, vi x10, vi x11, vi x12, vi x13], Value.string x14, vb (x15)]) ∧ Ext W1 W2 ∧
    (∀ b0 : Nat,
    ((x15 = true →
     (∀ b1 : Nat,
     (Es W0 M H1 (fun W => Kn W0 M H1 W b1 (Obj.cells #[vi x5, vi x6, vi x7, vi x8, vi x9, vi x10, vi x11, vi x12, vi x13] 33 (0, 0)) ∧ True) fun W3 => ∃ x16 : Option Loc, ∃ x17 : Nat, ∃ x18 : Nat, Eo Try.prog (.bi .append #[38, 38] 38) [vsl x1 x2 x3, Value.slice (some ⟨b1, 0, none⟩) 1 1] W3 (.value (vsl x16 x17 x18)) fun W4 => Tn W0 M H1 W3 W4 fun H2 =>
     (0 ≤ (x17 : Int) ∧ (0 ≤ (x17 : Int) →
     (0 ≤ (x18 : Int) ∧ (0 ≤ (x18 : Int) →
     (I0 [.p (x16.map fun a => a.shift 0), .n x17, .n x18, .s x14] H2 ∧ μ0 [.p (x16.map fun a => a.shift 0), .n x17, .n x18, .s x14] < μ0 [.p (x1.map fun a => a.shift 0), .n x2, .n x3, .s x4])))))))) ∧
    (¬ (x15 = true) →
     (inKind .i64 ((x0.size : Int) - (x4.size : Int)) ∧ (inKind .i64 ((x0.size : Int) - (x4.size : Int)) →
     Rt R W0 M H1 nK (Value.tuple #[vsl x1 x2 x3, vi ((x0.size : Int) - (x4.size : Int)), vi 0])))))))) ∧
   (¬ ((x2 : Int) < 50) →
    (inKind .i64 ((x0.size : Int) - (x4.size : Int)) ∧ (inKind .i64 ((x0.size : Int) - (x4.size : Int)) →
    Rt R W0 M H1 nK (Value.tuple #[vsl x1 x2 x3, vi ((x0.size : Int) - (x4.size : Int)), vi 0]))))))))))) :
  Calls Try.prog 18 #[Value.string x0] W0 R :=
  calls_sxA (M := M) (V := v_logReplay) (hi := {loops := [(5, .inv [(5, .pt .sl), (6, .pt .str)] [])]}) (args := [.str 0]) (nv := 1) (e := (upd (fun _ => .i 0) 0 (.s x0))) Try.func18 hH h (by kernel_rfl) (by kernel_rfl) (by kernel_rfl)
end Go.Proofs.Ytoilhpkclabhoaa
namespace Go.Proofs.Ytoilhpkclabhoaa

def encE (x : Ent) : List UInt8 := [b8 x.kind] ++ be2 x.time ++ [b8 x.client] ++ (if x.kind = 2 then [b8 x.seq, b8 x.ack, b8 x.op.kind, b8 x.op.key, b8 x.op.to] ++ be2 (x.op.n + 999) else [])
def okE (e : Ent) (r : List UInt8) : Option (Ent × List UInt8) := if e.err = 0 then some (e, r) else none
def pE : List UInt8 → Option (Ent × List UInt8)
  | k :: t1 :: t0 :: c :: l => if k.toNat = 2 then (match l with
      | s :: a :: o :: key :: to :: n1 :: n0 :: l => okE ⟨k.toNat, w2 t1 t0, c.toNat, s.toNat, a.toNat, ⟨o.toNat, key.toNat, to.toNat, w2 n1 n0 - 999⟩⟩ l
      | _ => none)
    else okE ⟨k.toNat, w2 t1 t0, c.toNat, 0, 0, ⟨0, 0, 0, 0⟩⟩ l
  | _ => none
def lWrite (x : Ent) : List UInt8 × Int := if x.err = 0 then (encE x, 0) else ([], x.err)
theorem okE_iff {e x : Ent} {r r' : List UInt8} : okE e r = some (x, r') ↔ e.err = 0 ∧ x = e ∧ r' = r := by
  unfold okE
  split
  · rename_i h
    simp only [Option.some.injEq, Prod.mk.injEq, h, true_and]
    exact ⟨fun ⟨a, b⟩ => ⟨a.symm, b.symm⟩, fun ⟨a, b⟩ => ⟨a.symm, b.symm⟩⟩
  · rename_i h
    simp [h]
theorem sub_add (n m : Int) : n - m + m = n := by omega
theorem pE_enc {l r : List UInt8} {x : Ent} (h : pE l = some (x, r)) : x.err = 0 ∧ l = encE x ++ r := by
  unfold pE at h
  split at h
  · rename_i k t1 t0 c l
    split at h
    · rename_i hk
      split at h
      · obtain ⟨h1, rfl, rfl⟩ := okE_iff.1 h
        refine ⟨h1, ?_⟩
        have : ((k.toNat : Nat) : Int) = 2 := by omega
        simp only [encE, this, if_true, sub_add, be2_w2, b8_toNat]
        rw [show b8 2 = k by rw [← this, b8_toNat]]
        rfl
      · cases h
    · rename_i hk
      obtain ⟨h1, rfl, rfl⟩ := okE_iff.1 h
      refine ⟨h1, ?_⟩
      have : ¬ ((k.toNat : Nat) : Int) = 2 := by omega
      simp only [encE, if_neg this, be2_w2, b8_toNat]
      rfl
  · cases h
theorem op_rng {x : POp} (h : x.err = 0) : (1 ≤ x.kind ∧ x.kind ≤ 4) ∧ (0 ≤ x.key ∧ x.key ≤ 3) ∧ (0 ≤ x.to ∧ x.to ≤ 3) ∧ -999 ≤ x.n ∧ x.n ≤ 999 := by
  unfold POp.err at h
  split at h
  · cases h
  · split at h
    · cases h
    · split at h
      · cases h
      · omega
theorem enc_pE {x : Ent} (h : x.err = 0) (r : List UInt8) : pE (encE x ++ r) = some (x, r) := by
  obtain ⟨h1, h2, h3, h4, h5⟩ := Ent.err_ok.1 h
  have e1 := b8_id (n := x.kind) (by omega) (by omega)
  have e2 : w2 (b8 (x.time / 256)) (b8 x.time) = x.time := w2_id (by omega) (by omega)
  have e3 := b8_id (n := x.client) (by omega) (by omega)
  by_cases hk : x.kind = 2
  · obtain ⟨g1, g2, g3⟩ := h4 hk
    obtain ⟨o1, o2, o3, o4⟩ := op_rng g3
    simp only [encE, hk, if_true, be2, List.cons_append, List.nil_append, pE, e2, e3]
    rw [if_pos (by decide), b8_id (n := x.seq) (by omega) (by omega), b8_id (n := x.ack) (by omega) (by omega), b8_id (n := x.op.kind) (by omega) (by omega), b8_id (n := x.op.key) (by omega) (by omega), b8_id (n := x.op.to) (by omega) (by omega), w2_id (n := x.op.n + 999) (by omega) (by omega)]
    refine okE_iff.2 ⟨?_, ?_, rfl⟩
    · have : (⟨((b8 2).toNat : Nat), x.time, x.client, x.seq, x.ack, ⟨x.op.kind, x.op.key, x.op.to, x.op.n + 999 - 999⟩⟩ : Ent) = x := by
        obtain ⟨a, b, c, d, e, ⟨f, g, i, j⟩⟩ := x
        simp only at hk
        subst hk
        simp only [Ent.mk.injEq, POp.mk.injEq, true_and]
        exact ⟨by decide, by omega⟩
      rw [this]; exact h
    · obtain ⟨a, b, c, d, e, ⟨f, g, i, j⟩⟩ := x
      simp only at hk
      subst hk
      simp only [Ent.mk.injEq, POp.mk.injEq, true_and]
      exact ⟨by decide, by omega⟩
  · obtain ⟨g1, g2, g3⟩ := h5 hk
    simp only [encE, if_neg hk, be2, List.cons_append, List.nil_append, pE, e1, e2, e3]
    rw [if_neg (by omega)]
    have : (⟨x.kind, x.time, x.client, 0, 0, ⟨0, 0, 0, 0⟩⟩ : Ent) = x := by
      obtain ⟨a, b, c, d, e, o⟩ := x
      simp only at g1 g2 g3
      rw [g1, g2, g3]
      rfl
    rw [this]
    exact okE_iff.2 ⟨h, rfl, rfl⟩
/-- by the places of its fields: where, how many bytes, and what is added -/
abbrev Pl := Nat × Nat × Int
def plL (k : Int) : List Pl := [(0, 1, 0), (1, 2, 0), (2, 1, 0)] ++ if k = 2 then [(3, 1, 0), (4, 1, 0), (5, 1, 0), (6, 1, 0), (7, 1, 0), (8, 2, 999)] else []
theorem plL_1 {k : Int} {q : Pl} (h : q ∈ plL k) : q.1 < 9 ∧ (q.2.1 = 1 ∨ q.2.1 = 2) ∧ (q.2.2 = 0 ∨ q.2.2 = 999) := by
  unfold plL at h
  split at h
  · simp only [List.cons_append, List.nil_append, List.mem_cons, List.not_mem_nil, or_false] at h
    rcases h with rfl | rfl | rfl | rfl | rfl | rfl | rfl | rfl | rfl <;> simp
  · simp only [List.append_nil, List.mem_cons, List.not_mem_nil, or_false] at h
    rcases h with rfl | rfl | rfl <;> simp
theorem plL_len (k : Int) : (plL k).length ≤ 9 := by
  unfold plL
  split <;> simp
def decL : List Pl → List Int → List UInt8 → Option (List Int × List UInt8)
  | [], cs, l => some (cs, l)
  | q :: ps, cs, l => if l.length < q.2.1 then none else decL ps (cs.set q.1 (val (l.take q.2.1) - q.2.2)) (l.drop q.2.1)
def eCells (x : Ent) : List Int := [x.kind, x.time, x.client, x.seq, x.ack, x.op.kind, x.op.key, x.op.to, x.op.n]
def ofC : List Int → Ent
  | [a, b, c, d, e, f, g, i, j] => ⟨a, b, c, d, e, ⟨f, g, i, j⟩⟩
  | _ => Ent.zero
def encP (cs : List Int) (q : Pl) : List UInt8 := beK q.2.1 (cs.getD q.1 0 + q.2.2)
theorem encE_pl (x : Ent) : (plL x.kind).flatMap (encP (eCells x)) = encE x := by
  by_cases h : x.kind = 2
  · simp [plL, encE, h, encP, eCells, beK, be2]
  · simp [plL, encE, h, encP, eCells, beK, be2]
def dE (l : List UInt8) : Option (Ent × List UInt8) := match l with
  | [] => none
  | k :: l => match decL (plL (k.toNat : Int)) [(k.toNat : Int), 0, 0, 0, 0, 0, 0, 0, 0] (k :: l) with
    | some (cs, r) => okE (ofC cs) r
    | none => none
theorem dE_pE (l : List UInt8) : dE l = pE l := by
  match l with
  | [] => rfl
  | [k] => by_cases h : (k.toNat : Int) = 2 <;> simp [dE, plL, decL, h, pE]
  | [k, t1] => by_cases h : (k.toNat : Int) = 2 <;> simp [dE, plL, decL, h, pE]
  | [k, t1, t0] => by_cases h : (k.toNat : Int) = 2 <;> simp [dE, plL, decL, h, pE]
  | k :: t1 :: t0 :: c :: l =>
    by_cases h : (k.toNat : Int) = 2
    · have h' : k.toNat = 2 := by omega
      match l with
      | [] => simp [dE, plL, decL, h, h', pE]
      | [_] => simp [dE, plL, decL, h, h', pE]
      | [_, _] => simp [dE, plL, decL, h, h', pE]
      | [_, _, _] => simp [dE, plL, decL, h, h', pE]
      | [_, _, _, _] => simp [dE, plL, decL, h, h', pE]
      | [_, _, _, _, _] => simp [dE, plL, decL, h, h', pE]
      | [_, _, _, _, _, _] => simp [dE, plL, decL, h, h', pE]
      | _ :: _ :: _ :: _ :: _ :: _ :: _ :: l =>
        have n2 : ∀ n : Nat, ¬ (n + 1 + 1 < 2) := fun n => by omega
        simp [dE, plL, decL, h, h', pE, ofC, val, val.valF, w2, n2]
    · have h' : ¬ k.toNat = 2 := by omega
      have n2 : ∀ n : Nat, ¬ (n + 1 + 1 < 2) := fun n => by omega
      simp [dE, plL, decL, h, h', pE, ofC, val, val.valF, w2, n2]
theorem encE_len {x : Ent} : 0 < (encE x).length ∧ (encE x).length ≤ 11 := by
  unfold encE
  split <;> simp [be2]
/-- Replay -/
def repE : Nat → List UInt8 → List Ent × List UInt8
  | 0, l => ([], l)
  | n + 1, l => match pE l with
    | some (x, r) => (x :: (repE n r).1, (repE n r).2)
    | none => ([], l)
end Go.Proofs.Ytoilhpkclabhoaa
namespace Go.Proofs.Ytoilhpkclabhoaa
open Go.RowKit

theorem infoPlace : infoIs Try.prog 77 3 24 = true := by kernel_rfl
theorem infoEnt9 : infoIs Try.prog 33 9 72 = true := by kernel_rfl
theorem infoInt1 : infoIs Try.prog 3 1 8 = true := by kernel_rfl
/-- a known block behind another that is full -/
theorem rows_append2 {P : Program} {t e w bytes : Nat} (ht : P.underlying t = some (.slice e)) (hi : infoIs P e w bytes = true) (hw : 0 < w) {W : World} {H : Hp} (hH : H.le (hpOf W)) {b b2 : Nat} {rs ms : List (List Value)}
    (hk : W.heap[b]? = some (.cells rs.flatten.toArray e (0, 0))) (hn : H b = none) (hk2 : W.heap[b2]? = some (.cells ms.flatten.toArray e (0, 0))) (hn2 : H b2 = none) (hne : b ≠ b2)
    (hr : ∀ r ∈ rs, r.length = w ∧ ∀ v ∈ r, v.oneCell' = true) (hm : ∀ r ∈ ms, r.length = w ∧ ∀ v ∈ r, v.oneCell' = true) (h0 : 0 < ms.length) (h63' : rs.length + ms.length ≤ 70368744177664) (hb : (rs.length + ms.length) * bytes ≤ 140737488355328) (ty : Nat) :
    ∃ p' c' g' W' H', (EK.sem (.bi .append #[t, t] ty) [.slice (some ⟨b, 0, none⟩) rs.length rs.length, .slice (some ⟨b2, 0, none⟩) ms.length ms.length]).run P W = .ok (.value (vsl p' (rs.length + ms.length) c')) W' ∧ Upd none W W' H H' ∧ Ow H' e w p' (rs.length + ms.length) c' (rs ++ ms) g' ∧ (∀ b, g' = some b → W.heap.size ≤ b) := by
  obtain ⟨i, z, i1, i2, i3, i4, i5, _⟩ := info_of hi
  have h63 : rs.length + ms.length ≤ maxLen := by simp only [maxLen]; omega
  have hle := addH_le hH hk
  have hle2 := addH_le hle hk2
  have hb2 : addH H b (.cells rs.flatten.toArray e (0, 0)) b2 = none := by unfold addH; rw [if_neg (fun h => hne h.symm)]; exact hn2
  have hfl : rs.flatten.length = rs.length * w := flat_len fun r h => (hr r h).1
  have hfm : ms.flatten.length = ms.length * w := flat_len fun r h => (hm r h).1
  have ho : Ow (addH (addH H b (.cells rs.flatten.toArray e (0, 0))) b2 (.cells ms.flatten.toArray e (0, 0))) e w (some (b, 0)) rs.length rs.length rs (some b) :=
    ⟨rfl, hr, Nat.le_refl _, by omega, .inr ⟨b, _, rfl, rfl, le_addH hb2 b _ (addH_at ..), by simp [hfl], by rw [List.take_of_length_le (by simp [hfl])]⟩⟩
  have hR : Rows (addH (addH H b (.cells rs.flatten.toArray e (0, 0))) b2 (.cells ms.flatten.toArray e (0, 0))) (some (b2, 0)) ms.length w ms :=
    Rows.block (addH_at ..) rfl (fun r h => (hm r h).1) (by rw [List.drop_zero, List.take_of_length_le (by simp [hfm])])
  obtain ⟨b2', o2, h2, _⟩ := (Rows.at hR (k := 0) h0 (off := 0) (by simp)).choose_spec.2.2
  have hnews := Rows.cells hR hle2 hw
  have holds := ho.rows.cells hle2 hw
  have hge := grownCap_ge W (rs.length + ms.length) rs.length e
  have hcm : grownCap W (rs.length + ms.length) rs.length e ≤ maxLen := grownCap_le_maxLen W (rs.length + ms.length) rs.length e h63
  have hrun := run_append_grow (P := P) W t ty e i z ht i1 i2 (Loc.addr ((b : Blk), 0)) rs.length rs.length rs.flatten (by rw [hfl, i3]) holds (Loc.addr ((b2 : Blk), 0)) ms.length ms.length ms.flatten (by rw [hfm, i3]) hnews (by omega) (by omega) (growslice_fits (by omega) (by rw [i4]; exact hb))
  generalize hC : rs.flatten.toArray ++ ms.flatten.toArray ++ Builtin.zeroCells z.cells (grownCap W (rs.length + ms.length) rs.length e - (rs.length + ms.length)) = C at hrun
  refine ⟨some (W.heap.size, 0), _, some W.heap.size, W.drew.alloc (.cells C e), addH H W.heap.size (.cells C e), ?_, Upd.made hH _, Ow.made (n := rs.length + ms.length) (rows := rs ++ ms) (by simp) (fun r h => (List.mem_append.1 h).elim (hr r) (hm r)) hge hcm ?_ ?_ _, fun b hb => by simp only [Option.some.injEq] at hb; omega⟩
  · have hsem : ∀ (v v2 : Value), (EK.sem (.bi .append #[t, t] ty) [v, v2]).run P W = ((Builtin.append_ #[t, t] ty #[v, v2]).run P W).andThen fun v w => .ok (.value v) w := fun v v2 => by
      simp [EK.sem, builtin]
    rw [hsem]
    simp only [addr_at] at hrun
    simp only [vsl, ptrAt, Option.map_some, Int.toNat_zero, add0, addr_at, hrun, Result.andThen_ok]
  · rw [← hC]
    simp only [Array.size_append, List.size_toArray, size_zeroCells, hfl, hfm, i5]
    have e1 := Nat.mul_comm
    have : (rs.length + ms.length) + (grownCap W (rs.length + ms.length) rs.length e - (rs.length + ms.length)) = grownCap W (rs.length + ms.length) rs.length e := by omega
    rw [← Nat.add_mul, ← Nat.add_mul, this]
  · rw [← hC]
    simp only [Array.toList_append, List.append_assoc]
    rw [← List.append_assoc]
    have : (rs.length + ms.length) * w = (rs.flatten ++ ms.flatten).length := by rw [List.length_append, hfl, hfm, Nat.add_mul]
    rw [this, List.flatten_append]
    exact List.take_left
def prow (b : Nat) (q : Pl) : List Value := [.pointer (some ⟨b, q.1, none⟩), vi q.2.1, vi q.2.2]
theorem prow_wid (b : Nat) (l : List Pl) : ∀ r ∈ l.map (prow b), r.length = 3 ∧ ∀ v ∈ r, v.oneCell' = true := fun r hr => by
  obtain ⟨q, _, rfl⟩ := List.mem_map.1 hr
  refine ⟨rfl, fun v hv => ?_⟩
  simp only [prow, List.mem_cons, List.not_mem_nil, or_false] at hv
  rcases hv with rfl | rfl | rfl <;> rfl
theorem c_places {H : Hp} {b : Nat} {cs : List Int} {k : Int} (hb : H b = some (.cells (cs.map vi).toArray 33 (0, 0))) (hk : cs[0]? = some k) :
    Gf Try.prog 44 #[.pointer (some ⟨b, 0, none⟩)] H fun v D => ∃ p n c, v = vsl p n c ∧ Rows D p n 3 ((plL k).map (prow b)) := fun W hH => by
  have hat : RowAt H (some ((b : Blk), 0)) 0 [vi k] := ⟨b, 0, rfl, _, _, _, hb, fun j hj => by
    have : j = 0 := by simpa using hj
    subst this
    simp [hk]⟩
  refine x_places (some (b, 0)) noM H W _ hH ⟨rfl, fun _ b0 => ⟨k, hat, fun h2 => ⟨by omega, fun _ b1 W1 n1 k1 => ?_⟩, fun h2 => ?_⟩⟩
  · obtain ⟨k2, k3, _⟩ := k1
    have e1 := k2.eq
    have e2 := k3.eq
    have hne : b0 ≠ b1 := fun he => by
      rw [he, e2] at e1
      simp at e1
    obtain ⟨p', c', g', W2, H2, hrun, hu, ho, hg⟩ := rows_append2 (P := Try.prog) (t := 72) (e := 77) (w := 3) (bytes := 24) (by kernel_rfl) infoPlace (by omega) n1.sub (b := b0) (b2 := b1) (rs := [(0, 1, 0), (1, 2, 0), (2, 1, 0)].map (prow b)) (ms := [(3, 1, 0), (4, 1, 0), (5, 1, 0), (6, 1, 0), (7, 1, 0), (8, 2, 999)].map (prow b))
      e1 k2.off e2 k3.off hne (prow_wid b _) (prow_wid b _) (by simp) (by simp) (by simp) 72
    refine ⟨_, _, _, _, hrun, H2, hu.turned (fun b hb => by cases hb), ?_⟩
    refine Rt.gfn ⟨_, _, _, rfl, ?_⟩
    have := (ho.new (W := W) (fun b hb => Nat.le_trans n1.mod.size (hg b hb))).rows
    rw [plL, if_pos h2, List.map_append]
    exact this
  · intro W1 n1 k1
    have k2 := k1.1
    have hb0 : newer W H b0 = none := by
      cases h : newer W H b0 with
      | none => rfl
      | some o => have := newer_le W H b0 o h; rw [k2.off] at this; cases this
    refine ⟨_, addH (newer W H) b0 (.cells ((([(0, 1, 0), (1, 2, 0), (2, 1, 0)] : List Pl).map (prow b)).flatten).toArray 77 (0, 0)), rfl, n1.ext, addH_le (Hp.le_trans (newer_le W H) n1.sub) k2.eq, fun b' o h => ?_, some (b0, 0), 3, 3, rfl, ?_⟩
    · unfold addH at h
      split at h
      · rename_i h1
        subst h1
        exact k2.own.resolve_right fun h => h
      · exact newer_new W H b' o h
    · rw [plL, if_neg h2, List.append_nil]
      exact Rows.block (addH_at ..) rfl (fun r hr => (prow_wid b _ r hr).1) rfl
/-- cells of an entry are written over -/
theorem ek_setE {t w by_ : Nat} (ht : infoIs Try.prog t w by_ = true) {H : Hp} {W : World} (hH : H.le (hpOf W)) {b : Nat} {cs vs : List Int} (hb : H b = some (.cells (cs.map vi).toArray 33 (0, 0))) (h9 : cs.length = 9) {o : Nat} (hw : w = vs.length) (h0 : 0 < vs.length) (ho : o + vs.length ≤ 9) {v : Value} (hv : v.cells = (vs.map vi).toArray) :
    ∃ W' H', (EK.sem (.storeO t) [.pointer (ptrAt (some ((b : Blk), o)) 0), v]).run Try.prog W = .ok .skip W' ∧ Upd (some b) W W' H H' ∧ H' b = some (.cells ((cs.take o ++ vs ++ cs.drop (o + vs.length)).map vi).toArray 33 (0, 0)) := by
  obtain ⟨ti, z, i1, i2, i3, _⟩ := info_of ht
  have how : Ow H 33 9 (some (b, 0)) 1 1 [cs.map vi] (some b) := ⟨rfl, fun r hr => by
    simp only [List.mem_singleton] at hr
    subst hr
    exact ⟨by simp [h9], fun v hv => by obtain ⟨x, _, rfl⟩ := List.mem_map.1 hv; rfl⟩, Nat.le_refl _, by simp [maxLen], .inr ⟨b, _, rfl, rfl, hb, by simp [h9], by simp; exact List.take_of_length_le (by simp [h9])⟩⟩
  obtain ⟨W', H', h1, h2, h3⟩ := ek_store (P := Try.prog) (t := t) i1 hH how (i := 0) (j := o) (r := cs.map vi) (vs := vs.map vi) (v := v) rfl hv (by rw [i3, hw]; simp) (by simpa using ho) (by simpa using h0) (fun u hu => by obtain ⟨x, _, rfl⟩ := List.mem_map.1 hu; rfl) (off := (o : Int)) (by simp)
  refine ⟨W', H', ?_, h2, ?_⟩
  · rw [← h1]
    by_cases ho0 : o = 0 <;> simp [ptrAt, Addr.add, ho0]
  · rcases h3.2.2.2.2 with ⟨h4, _⟩ | ⟨b', C, h4, h5, h6, h7, h8⟩
    · cases h4
    · simp only [Option.some.injEq] at h5
      subst h5
      rw [h6]
      rw [List.take_of_length_le (by simp [h7])] at h8
      have : C = ((cs.take o ++ vs ++ cs.drop (o + vs.length)).map vi).toArray := by
        apply Array.toList_inj.1
        rw [h8]
        simp [segRow, List.map_take, List.map_drop]
      rw [this]
end Go.Proofs.Ytoilhpkclabhoaa
namespace Go.Proofs.Ytoilhpkclabhoaa
open Go.RowKit

theorem row_cells {H : Hp} {b : Nat} {cs : List Int} (hb : H b = some (.cells (cs.map vi).toArray 33 (0, 0))) : RowAt H (some ((b : Blk), 0)) 0 (cs.map vi) :=
  ⟨b, 0, rfl, _, _, _, hb, fun j hj => by simp at hj ⊢⟩
theorem row_cell {H : Hp} {b o : Nat} {cs : List Int} {x : Int} (hb : H b = some (.cells (cs.map vi).toArray 33 (0, 0))) (hx : cs[o]? = some x) : RowAt H (some ((b : Blk), o)) 0 [vi x] :=
  ⟨b, o, rfl, _, _, _, hb, fun j hj => by
    have : j = 0 := by simpa using hj
    subst this
    simp [hx]⟩
theorem pl_len {q : Pl} (h : q.2.1 = 1 ∨ q.2.1 = 2) (cs : List Int) : (encP cs q).length ≤ 2 := by
  unfold encP
  rw [beK_len h]
  omega
theorem flatP_len {cs : List Int} {l : List Pl} (h : ∀ q ∈ l, q.2.1 = 1 ∨ q.2.1 = 2) : (l.flatMap (encP cs)).length ≤ l.length * 2 := flat_len3 fun q hq => pl_len (h q hq) cs
set_option maxHeartbeats 1000000 in
theorem c_logWrite (x : Ent) (H : Hp) : Gv Try.prog 15 #[x.val] H (.tuple #[.string (bs (lWrite x).1), vi (lWrite x).2]) := fun W hH => by
  refine x_logWrite _ _ _ _ _ _ _ _ _ noM H W _ hH ?_
  rintro xp H1 ⟨b, rfl, hbW, hb0, hb1⟩ le1
  replace hb1 : H1 b = some (.cells ((eCells x).map vi).toArray 33 (0, 0)) := hb1
  refine ⟨_, _, _, _, _, _, _, _, _, row_cells hb1, ?_⟩
  refine Cl.same (c_entCheck x H1) fun _ _ hx => ⟨_, rfl, hx, fun h0 => ?_, fun h0 => Rt.gv' (by unfold lWrite; rw [if_neg h0]; rfl)⟩
  have hok := Ent.err_ok.1 h0
  have hlw : lWrite x = (encE x, 0) := if_pos h0
  obtain ⟨y1, y2, y3, y4, y5⟩ := hok
  have hrng : ∀ y ∈ eCells x, -999 ≤ y ∧ y ≤ 999 := by
    by_cases hk : x.kind = 2
    · obtain ⟨g1, g2, g3⟩ := y4 hk
      obtain ⟨o1, o2, o3, o4⟩ := op_rng g3
      intro y hy
      simp only [eCells, List.mem_cons, List.not_mem_nil, or_false] at hy
      rcases hy with rfl | rfl | rfl | rfl | rfl | rfl | rfl | rfl | rfl <;> omega
    · obtain ⟨g1, g2, g3⟩ := y5 hk
      intro y hy
      simp only [eCells, g3, POp.none, List.mem_cons, List.not_mem_nil, or_false] at hy
      rcases hy with rfl | rfl | rfl | rfl | rfl | rfl | rfl | rfl | rfl <;> omega
  rw [hlw]
  refine Cl.fresh (c_places (k := x.kind) hb1 rfl) ?_
  rintro v W1 W2 D ⟨p0, n0, c0, rfl, hR⟩ hx hD hf nn
  refine ⟨p0, n0, c0, rfl, hx, D, hD, hf, fun H2 le2 hD2 => ?_⟩
  replace hR := hR.mono hD2
  have hb2 := le2 b _ hb1
  have hn0 : n0 = (plL x.kind).length := by simpa using hR.len
  have h9 := plL_len x.kind
  refine ⟨by omega, fun _ => ?_⟩
  refine ⟨fun v K => match v with | [.n j, .p p, .n n, .n c] => ∃ g, j ≤ n0 ∧ H2.le K ∧ By K p n c (((plL x.kind).take j).flatMap (encP (eCells x))) g ∧ (∀ b, g = some b → W.heap.size ≤ b ∧ H2 b = none) | _ => False, fun v => match v with | [.n j, _, _, _] => n0 - j | _ => 0,
    ⟨none, by omega, Hp.le_refl _, Ow.nil _ _ _ _, fun b h => by cases h⟩, fun K j p n c hI => ?_⟩
  obtain ⟨g, hj, hle, hy, hg⟩ := hI
  rw [map0] at hy
  refine ⟨fun hlt => ?_, fun hge => ?_⟩
  · obtain ⟨row, hrow, _, hat⟩ := hR.at (k := j) (by omega) (off := 0 + (j : Int) * 3) (by omega)
    rw [List.getElem?_map, Option.map_eq_some_iff] at hrow
    obtain ⟨q, hq, rfl⟩ := hrow
    obtain ⟨q1, q2, q3⟩ := plL_1 (List.mem_of_getElem? hq)
    have hl9 : (eCells x).length = 9 := rfl
    obtain ⟨y, hyq⟩ : ∃ y, (eCells x)[q.1]? = some y := ⟨_, List.getElem?_eq_getElem (by omega)⟩
    have hyr := hrng y (List.mem_of_getElem? hyq)
    have hat' := hat.mono hle
    have hln : n = (((plL x.kind).take j).flatMap (encP (eCells x))).length := hy.len
    have hlb := flatP_len (cs := eCells x) (l := (plL x.kind).take j) (fun q' hq' => (plL_1 (List.mem_of_mem_take hq')).2.1)
    have hlt9 : ((plL x.kind).take j).length ≤ 9 := by rw [List.length_take]; omega
    have henc : encP (eCells x) q = beK q.2.1 (y + q.2.2) := by unfold encP; rw [List.getD_eq_getElem?_getD, hyq]; rfl
    refine ⟨⟨by omega, hlt⟩, fun _ => ⟨hat'.isSome, fun _ => ⟨some ((b : Blk), q.1), (q.2.1 : Int), q.2.2, hat', fun b0 => ⟨rfl, fun _ => ⟨y, row_cell (hle b _ hb2) hyq, in64 (by omega), fun _ => ⟨in64 (by omega), fun _ => ⟨by omega, fun _ => ⟨by omega, fun _ => ?_⟩⟩⟩⟩⟩⟩⟩⟩
    have hk := q2
    generalize hz : y + q.2.2 = z at henc
    generalize hkk : q.2.1 = k at henc hk
    refine ⟨fun v K2 => match v with | [.i i, .p p, .n n, .n c] => ∃ (g1 : Option Nat) (r : Nat), i = (k : Int) - 1 - r ∧ r ≤ k ∧ H2.le K2 ∧ By K2 p n c (((plL x.kind).take j).flatMap (encP (eCells x)) ++ (beK k z).take r) g1 ∧ (∀ b, g1 = some b → W.heap.size ≤ b ∧ H2 b = none) | _ => False, fun v => match v with | [.i i, _, _, _] => (i + 1).toNat | _ => 0,
      ⟨g, 0, by omega, by omega, hle, by rw [map0]; simpa using hy, hg⟩, fun K2 i p2 n2 c2 hI2 => ?_⟩
    obtain ⟨g2, r, rfl, hr, hle2, hy2, hg2⟩ := hI2
    rw [map0] at hy2
    have hln2 := hy2.len
    have hrl : ((beK k z).take r).length ≤ 2 := by rw [List.length_take, beK_len hk]; omega
    rw [List.length_append] at hln2
    refine ⟨fun hi => ?_, fun hi => ?_⟩
    · obtain ⟨i, hir⟩ : ∃ i : Nat, (k : Int) - 1 - r = i := ⟨k - 1 - r, by omega⟩
      rw [hir]
      have hi1 : i < k := by omega
      refine ⟨in64 (by omega), fun _ W3 n3 _ => ⟨_, _, ek_bshr i (by omega) _ _ z, Ext.refl _, fun b1 W5 n5 k5 => ?_⟩⟩
      have hk5 := k5.1
      rw [wrap8] at hk5
      obtain ⟨p', c', g', W6, K3, hrun, hu, hy3, hg3⟩ := by_append (m := [b8 (if i = 0 then z else z / 256)]) n5.sub hy2 hk5.eq hk5.off (by simp only [List.length_cons, List.length_nil]; omega) 71
      refine ⟨p', _, c', W6, hrun, K3, hu.own hy2 (fun b hb => .inl (hg2 b hb).1), in64 (by omega), fun _ => ⟨by omega, fun _ => ⟨by omega, fun _ => ?_⟩⟩⟩
      refine ⟨⟨g', r + 1, by omega, by omega, hu.keep n5.sub hle2 (fun b hb => (hg2 b hb).2), ?_, fun b hb => ?_⟩, by simp only; omega⟩
      · rw [map0]
        have e1 : r + 1 = k - i := by omega
        have e2 : r = k - 1 - i := by omega
        rw [e1, beK_next hk z hi1, ← e2, ← List.append_assoc]
        exact hy3
      · rcases hg3 with h | h
        · exact hg2 b (h ▸ hb)
        · rw [h] at hb
          simp only [Option.some.injEq] at hb
          have := n5.mod.size
          refine ⟨by omega, le_none hle2 ?_⟩
          cases hh : K2 b with
          | none => rfl
          | some o => have := heap_lt (n5.sub b o hh); omega
    · have hrk : r = k := by omega
      subst hrk
      rw [show (beK r z).take r = beK r z from List.take_of_length_le (by rw [beK_len hk]; exact Nat.le_refl _)] at hy2
      refine ⟨in64 (by omega), fun _ => ⟨by omega, fun _ => ⟨by omega, fun _ => ⟨by omega, fun _ => ?_⟩⟩⟩⟩
      rw [show ((j : Int) + 1).toNat = j + 1 by omega]
      refine ⟨⟨g2, by omega, hle2, ?_, hg2⟩, by simp only; omega⟩
      rw [map0, List.take_add_one, hq, List.flatMap_append]
      simp only [Option.toList_some, List.flatMap_cons, List.flatMap_nil, List.append_nil, henc]
      exact hy2
  · have hjn : j = n0 := by omega
    rw [List.take_of_length_le (by omega), encE_pl] at hy
    intro W3 n3 _
    exact ⟨_, _, ek_bytes_str hy.rows n3.sub, Ext.refl _, Rt.gv⟩
end Go.Proofs.Ytoilhpkclabhoaa
namespace Go.Proofs.Ytoilhpkclabhoaa
open Go.RowKit

/-- what comes of reading one: on failure, anything -/
def readP (l : List UInt8) (v : Value) : Prop := ∃ (e : Ent) (r : List UInt8) (ok : Bool), v = .tuple #[e.val, .string (bs r), vb ok] ∧ pE l = (if ok = true then some (e, r) else none)
theorem less_le (b : Nat) (H : Hp) : (less b H).le H := fun b' o h => by
  unfold less at h
  split at h
  · cases h
  · exact h
theorem nine {cs : List Int} (h : cs.length = 9) : ∃ e : Ent, cs = eCells e ∧ ofC cs = e := by
  match cs, h with
  | [a, b, c, d, e, f, g, i, j], _ => exact ⟨⟨a, b, c, d, e, ⟨f, g, i, j⟩⟩, rfl, rfl⟩
theorem ek_storeAll {H : Hp} {W : World} (hH : H.le (hpOf W)) {b : Nat} (e : Ent) (hb : H b = some (.cells ((eCells e).map vi).toArray 33 (0, 0))) :
    ∃ W' H', (EK.sem (.storeO 33) [.pointer (ptrAt (some ((b : Blk), 0)) 0), .agg ((eCells e).map vi).toArray]).run Try.prog W = .ok .skip W' ∧ Upd (some b) W W' H H' ∧ H' b = some (.cells ((eCells e).map vi).toArray 33 (0, 0)) := by
  obtain ⟨W', H', h1, h2, h3⟩ := ek_setE infoEnt9 hH hb rfl (o := 0) (vs := eCells e) rfl (by simp [eCells]) (by simp [eCells]) (v := .agg ((eCells e).map vi).toArray) rfl
  refine ⟨W', H', h1, h2, ?_⟩
  rw [h3]
  rfl
theorem decL_at {ps : List Pl} {j : Nat} {q : Pl} (h : ps[j]? = some q) (cs : List Int) (l : List UInt8) : decL (ps.drop j) cs l = if l.length < q.2.1 then none else decL (ps.drop (j + 1)) (cs.set q.1 (val (l.take q.2.1) - q.2.2)) (l.drop q.2.1) := by
  have hj := (List.getElem?_eq_some_iff.1 h).1
  have : ps.drop j = q :: ps.drop (j + 1) := by
    rw [List.drop_eq_getElem_cons hj]
    rw [(List.getElem?_eq_some_iff.1 h).2]
  rw [this]
  rfl
theorem val_rng {l : List UInt8} (h : l.length ≤ 2) : 0 ≤ val l ∧ val l ≤ 65535 := by
  match l, h with
  | [], _ => simp [val]
  | [a], _ => have := a.toNat_lt; simp only [val, val.valF]; omega
  | [a, b], _ => have := a.toNat_lt; have := b.toNat_lt; simp only [val, val.valF]; omega
theorem set_seg (cs : List Int) (o : Nat) (x : Int) (h : o < cs.length) : cs.take o ++ [x] ++ cs.drop (o + 1) = cs.set o x := by
  rw [List.set_eq_take_append_cons_drop, if_pos h]
  simp
set_option maxHeartbeats 1000000 in
theorem c_logRead (l : List UInt8) (H : Hp) : Gf Try.prog 47 #[.string (bs l)] H (fun v _ => readP l v) := fun W hH => by
  refine x_logRead (bs l) noM H W _ hH ?_
  rintro xp H1 ⟨b, rfl, hbW, hb0, hb1⟩ le1
  replace hb1 : H1 b = some (.cells (([0, 0, 0, 0, 0, 0, 0, 0, 0] : List Int).map vi).toArray 33 (0, 0)) := hb1
  have bad : ∀ (r : List UInt8), pE l = none → ∀ {K : Hp} {kn : World → Prop} (e : Ent), Rt (RGf W (fun v _ => readP l v)) W noM K kn (.tuple #[e.val, .string (bs r), vb false]) := fun r hr K kn e =>
    Rt.gf (D := noH) (post := fun v _ => readP l v) (noH_le _) (fun b o h => by cases h) ⟨e, r, false, rfl, by simp [hr]⟩
  have fail : ∀ {K : Hp} {cs : List Int}, K b = some (.cells (cs.map vi).toArray 33 (0, 0)) → cs.length = 9 → pE l = none → ∃ e : Ent, RowAt K (some ((b : Blk), 0)) 0 [vi e.kind, vi e.time, vi e.client, vi e.seq, vi e.ack, vi e.op.kind, vi e.op.key, vi e.op.to, vi e.op.n] ∧
      (Es W noM K nK fun W3 => Eo Try.prog (.storeO 33) [Value.pointer (ptrAt (some ((b : Blk), 0)) 0), e.val] W3 (.skip) fun W4 => Tn W noM K W3 W4 fun H2 => RowAt H2 (some ((b : Blk), 0)) 0 [vi e.kind, vi e.time, vi e.client, vi e.seq, vi e.ack, vi e.op.kind, vi e.op.key, vi e.op.to, vi e.op.n]) := fun {K cs} hb h9 _ => by
    obtain ⟨e, rfl, _⟩ := nine h9
    refine ⟨e, row_cells hb, fun W3 n3 _ => ?_⟩
    obtain ⟨W4, K2, h1, h2, h3⟩ := ek_storeAll n3.sub e hb
    exact ⟨W4, h1, K2, h2.turned (fun b' hb' => by simp only [Option.some.injEq] at hb'; subst hb'; exact ⟨⟨_, hb⟩, .inl hbW⟩), row_cells h3⟩
  intro W1 n1 _
  refine ⟨_, _, ek_str_eq _ _ l [], Ext.refl _, fun hz => ?_, fun hz => ?_⟩
  · have hl : l = [] := by simpa using hz
    have hp : pE l = none := by rw [hl]; rfl
    obtain ⟨e, hat, hst⟩ := fail hb1 rfl hp
    refine ⟨_, _, _, _, _, _, _, _, _, hat, fun W3 n3 k3 => ?_⟩
    obtain ⟨W4, hrun, H2, ht, hat2⟩ := hst W3 n3 k3
    exact ⟨W4, hrun, H2, ht, _, _, _, _, _, _, _, _, _, hat2, bad l hp e⟩
  · cases l with
    | nil => simp at hz
    | cons k0 l' =>
      have hk0 := k0.toNat_lt
      refine fun W3 n3 _ => ⟨_, _, ek_idx0 k0 l', Ext.refl _, in64 (by omega), fun _ => ⟨rfl, fun _ W5 n5 _ => ?_⟩⟩
      obtain ⟨W6, H2, hrun, hu, hb2⟩ := ek_setE infoInt1 n5.sub hb1 rfl (o := 0) (vs := [(k0.toNat : Int)]) rfl (by simp) (by simp) (v := vi (k0.toNat : Int)) rfl
      replace hb2 : H2 b = some (.cells (([(k0.toNat : Int), 0, 0, 0, 0, 0, 0, 0, 0] : List Int).map vi).toArray 33 (0, 0)) := hb2
      refine ⟨W6, hrun, H2, hu.turned (fun b' hb' => by simp only [Option.some.injEq] at hb'; subst hb'; exact ⟨⟨_, hb1⟩, .inl hbW⟩), ?_⟩
      refine Cl.fresh (c_places (k := (k0.toNat : Int)) hb2 rfl) ?_
      rintro v Wa Wb D ⟨p0, n0, c0, rfl, hR⟩ hx hD hf nn
      refine ⟨p0, n0, c0, rfl, hx, D, hD, hf, fun H3 le3 hD3 => ⟨by omega, fun _ => ?_⟩⟩
      have hn0 : n0 = (plL (k0.toNat : Int)).length := by simpa using hR.len
      have hb3 := le3 b _ hb2
      have h9l := plL_len (k0.toNat : Int)
      have hDl : D.le (less b H3) := fun b' o h => by
        have h1 := hf b' o h
        have h2 := heap_lt (nn.sub b _ hb2)
        unfold less
        rw [if_neg (by omega)]
        exact hD3 b' o h
      replace hR := hR.mono hDl
      refine ⟨fun v K => match v with | [.n j, .s s] => ∃ (cs : List Int) (rest : List UInt8), j ≤ n0 ∧ s = bs rest ∧ cs.length = 9 ∧ K b = some (.cells (cs.map vi).toArray 33 (0, 0)) ∧ (less b H3).le K ∧ decL (plL (k0.toNat : Int)) [(k0.toNat : Int), 0, 0, 0, 0, 0, 0, 0, 0] (k0 :: l') = decL ((plL (k0.toNat : Int)).drop j) cs rest | _ => False, fun v => match v with | [.n j, _] => n0 - j | _ => 0,
        ⟨_, k0 :: l', by omega, rfl, rfl, hb3, less_le b H3, rfl⟩, fun K j s hI => ?_⟩
      obtain ⟨cs, rest, hj, rfl, h9, hbK, hle, hdec⟩ := hI
      have hpE : ∀ o, decL (plL (k0.toNat : Int)) [(k0.toNat : Int), 0, 0, 0, 0, 0, 0, 0, 0] (k0 :: l') = o → pE (k0 :: l') = match o with | some (cs, r) => okE (ofC cs) r | none => none := fun o ho => by
        rw [← dE_pE]
        simp only [dE, ho]
        all_goals (cases o <;> rfl)
      refine ⟨fun hlt => ?_, fun hge => ?_⟩
      · obtain ⟨row, hrow, _, hat⟩ := (hR.mono hle).at (k := j) (by omega) (off := 0 + (j : Int) * 3) (by omega)
        rw [List.getElem?_map, Option.map_eq_some_iff] at hrow
        obtain ⟨q, hq, rfl⟩ := hrow
        obtain ⟨q1, q2, q3⟩ := plL_1 (List.mem_of_getElem? hq)
        rw [decL_at hq] at hdec
        refine ⟨⟨by omega, hlt⟩, fun _ => ⟨hat.isSome, fun _ => ⟨some ((b : Blk), q.1), (q.2.1 : Int), q.2.2, hat, fun b0 => ⟨fun hsh => ?_, fun hlg => ?_⟩⟩⟩⟩
        · rw [bs_size] at hsh
          rw [if_pos (by omega)] at hdec
          have hp := hpE _ hdec
          obtain ⟨e, hat, hst⟩ := fail hbK h9 hp
          refine ⟨_, _, _, _, _, _, _, _, _, hat, fun W3 n3 k3 => ?_⟩
          obtain ⟨W4, hrun, H2, ht, hat2⟩ := hst W3 n3 k3
          exact ⟨W4, hrun, H2, ht, _, _, _, _, _, _, _, _, _, hat2, bad _ hp e⟩
        · rw [bs_size] at hlg
          rw [if_neg (by omega)] at hdec
          generalize hkk : q.2.1 = k at *
          have hkl : k ≤ rest.length := by omega
          intro W9 n9 _
          refine ⟨_, _, ek_to rest k hkl, Ext.refl _, fun W11 n11 _ => ?_⟩
          obtain ⟨W12, c, hrun, hx, hc, D2, hD2, hf2, hB⟩ := ek_str_bytes (W := W11) (bs (rest.take k))
          refine ⟨_, _, _, _, hrun, Fr.of hx hD2 hf2 fun H5 le5 hD5 => ?_⟩
          rw [bs_size, List.length_take, Nat.min_eq_left hkl] at hB ⊢
          replace hB : Bs D2 (some (W11.heap.size, 0)) k (rest.take k) := hB
          refine ⟨by omega, fun _ => ⟨fun v K2 => match v with | [.n i, .i n] => i ≤ k ∧ H5.le K2 ∧ n = val ((rest.take k).take i) | _ => False, fun v => match v with | [.n i, _] => k - i | _ => 0, ⟨by omega, Hp.le_refl _, by simp [val]⟩, fun K2 i n hI2 => ?_⟩⟩
          obtain ⟨hi, hle5, rfl⟩ := hI2
          refine ⟨fun hlt2 => ?_, fun hge2 => ?_⟩
          · obtain ⟨a, ha, hat2⟩ := Bs.at (hB.mono (Hp.le_trans hD5 hle5)) (k := i) (by omega)
            have hv : 0 ≤ val ((rest.take k).take i) ∧ val ((rest.take k).take i) ≤ 255 := by
              have hj1 : i = 0 ∨ i = 1 := by omega
              rcases hj1 with rfl | rfl
              · simp [val]
              · cases hh : rest.take k with
                | nil => simp [val]
                | cons a t =>
                  have := a.toNat_lt
                  simp only [List.take_succ_cons, List.take_zero, val, val.valF]
                  omega
            have hs : (rest.take k).take (i + 1) = (rest.take k).take i ++ [a] := by
              rw [List.take_add_one, ha]
              rfl
            refine ⟨⟨by omega, hlt2⟩, fun _ => ⟨rfl, fun _ => ⟨_, hat2, fun W13 n13 _ => ⟨_, _, ek_bshl _ _ _ hv.1 (by omega), Ext.refl _, in64 (by have := a.toNat_lt; omega), fun _ W15 n15 _ => ⟨_, _, ek_bor _ _ _ a hv.1 (by omega), Ext.refl _, in64 (by omega), fun _ => ⟨by omega, fun _ => ⟨⟨by omega, hle5, ?_⟩, by simp only; omega⟩⟩⟩⟩⟩⟩⟩
            rw [show ((i : Int) + 1).toNat = i + 1 by omega, hs, val_app]
          · have hik : i = k := by omega
            subst hik
            rw [List.take_take, Nat.min_self]
            have hvr := val_rng (l := rest.take i) (by rw [List.length_take]; omega)
            refine ⟨in64 (by omega), fun _ => ⟨by omega, fun _ => ⟨by rw [bs_size]; omega, fun _ W13 n13 _ => ⟨_, _, ek_from rest i hkl, Ext.refl _, rfl, fun _ W15 n15 _ => ?_⟩⟩⟩⟩
            obtain ⟨W16, H7, hrun7, hu7, hb7⟩ := ek_setE infoInt1 n15.sub (hle5 b _ (le5 b _ hbK)) h9 (o := q.1) (vs := [val (rest.take i) - q.2.2]) rfl (by simp) (by simp; omega) (v := vi (val (rest.take i) - q.2.2)) rfl
            refine ⟨W16, hrun7, H7, hu7.turned (fun b' hb' => by simp only [Option.some.injEq] at hb'; subst hb'; exact ⟨⟨_, hle5 b _ (le5 b _ hbK)⟩, .inl hbW⟩), in64 (by omega), fun _ => ⟨by omega, fun _ => ?_⟩⟩
            rw [show ((j : Int) + 1).toNat = j + 1 by omega]
            refine ⟨⟨cs.set q.1 (val (rest.take i) - q.2.2), rest.drop i, by omega, rfl, by simp [h9], ?_, ?_, hdec⟩, by simp only; omega⟩
            · rw [hb7, ← set_seg cs q.1 _ (by omega)]
              rfl
            · refine hu7.keep n15.sub (Hp.le_trans hle (Hp.le_trans le5 hle5)) fun b' hb' => ?_
              simp only [Option.some.injEq] at hb'
              subst hb'
              unfold less
              rw [if_pos rfl]
      · have hjn : j = n0 := by omega
        rw [List.drop_of_length_le (by omega)] at hdec
        have hp := hpE _ hdec
        obtain ⟨e, rfl, hof⟩ := nine h9
        simp only [decL] at hp
        rw [hof] at hp
        refine ⟨_, _, _, _, _, _, _, _, _, row_cells hbK, _, _, _, _, _, _, _, _, _, row_cells hbK, ?_⟩
        refine Cl.same (c_entCheck e K) fun _ _ hx => ⟨_, rfl, hx, fun W3 n3 _ => ?_⟩
        obtain ⟨W4, K2, h1, h2, h3⟩ := ek_storeAll n3.sub e hbK
        refine ⟨W4, h1, K2, h2.turned (fun b' hb' => by simp only [Option.some.injEq] at hb'; subst hb'; exact ⟨⟨_, hbK⟩, .inl hbW⟩), _, _, _, _, _, _, _, _, _, row_cells h3, ?_⟩
        refine Rt.gf (D := noH) (post := fun v _ => readP (k0 :: l') v) (noH_le _) (fun b o h => by cases h) ⟨e, rest, decide (e.err = 0), rfl, ?_⟩
        rw [hp]
        simp [okE]
end Go.Proofs.Ytoilhpkclabhoaa
