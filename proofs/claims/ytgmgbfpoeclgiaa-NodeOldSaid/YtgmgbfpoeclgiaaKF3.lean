/- Symbolic runs of functions: what each leaves to prove is enough for its call. Printed by a program of ours. No conditions. What must be in any case, of folding; entries that a law is shown. No conditions. Contracts: FoldTells, FoldSplit. No conditions. -/
import Derived.Test.YtgmgbfpoeclgiaaKE3
import Derived.Test.YtgmgbfpoeclgiaaProg
import Derived.Test.YtgmgbfpoeclgiaaKF2
import Derived.Test.YtgmgbfpoeclgiaaKL1
set_option linter.unusedVariables false
set_option linter.unusedSimpArgs false
namespace Go.Proofs.Ytgmgbfpoeclgiaa
open Go.RowKit
set_option maxRecDepth 100000
set_option maxHeartbeats 4000000
def v_lsome : VC :=
(.call 24 [.int .i64 (.k 1), .int .i64 (.k 1)] [] [(0, .i), (1, .i), (2, .i), (3, .i), (4, .i), (5, .i), (6, .i), (7, .i), (8, .i)] (.agg [.int .i64 (.v 0), .int .i64 (.v 1), .int .i64 (.v 2), .int .i64 (.v 3), .int .i64 (.v 4), .int .i64 (.v 5), .int .i64 (.v 6), .int .i64 (.v 7), .int .i64 (.v 8)]) .same
(.call 51 [.int .i64 (.k 5)] [] [(9, .i), (10, .i), (11, .i), (12, .i)] (.agg [.int .i64 (.v 9), .int .i64 (.v 10), .int .i64 (.v 11), .int .i64 (.v 12)]) .same
(.call 50 [.int .i64 (.k 2), .int .i64 (.k 1), .int .i64 (.k 1), .int .i64 (.k 0), .agg [.int .i64 (.v 9), .int .i64 (.v 10), .int .i64 (.v 11), .int .i64 (.v 12)]] [] [(13, .i), (14, .i), (15, .i), (16, .i), (17, .i), (18, .i), (19, .i), (20, .i), (21, .i)] (.agg [.int .i64 (.v 13), .int .i64 (.v 14), .int .i64 (.v 15), .int .i64 (.v 16), .int .i64 (.v 17), .int .i64 (.v 18), .int .i64 (.v 19), .int .i64 (.v 20), .int .i64 (.v 21)]) .same
(.call 51 [.int .i64 (.k 5)] [] [(22, .i), (23, .i), (24, .i), (25, .i)] (.agg [.int .i64 (.v 22), .int .i64 (.v 23), .int .i64 (.v 24), .int .i64 (.v 25)]) .same
(.call 50 [.int .i64 (.k 3), .int .i64 (.k 1), .int .i64 (.k 1), .int .i64 (.k 0), .agg [.int .i64 (.v 22), .int .i64 (.v 23), .int .i64 (.v 24), .int .i64 (.v 25)]] [] [(26, .i), (27, .i), (28, .i), (29, .i), (30, .i), (31, .i), (32, .i), (33, .i), (34, .i)] (.agg [.int .i64 (.v 26), .int .i64 (.v 27), .int .i64 (.v 28), .int .i64 (.v 29), .int .i64 (.v 30), .int .i64 (.v 31), .int .i64 (.v 32), .int .i64 (.v 33), .int .i64 (.v 34)]) .same
(.call 51 [.int .i64 (.k 7)] [] [(35, .i), (36, .i), (37, .i), (38, .i)] (.agg [.int .i64 (.v 35), .int .i64 (.v 36), .int .i64 (.v 37), .int .i64 (.v 38)]) .same
(.call 50 [.int .i64 (.k 4), .int .i64 (.k 2), .int .i64 (.k 1), .int .i64 (.k 0), .agg [.int .i64 (.v 35), .int .i64 (.v 36), .int .i64 (.v 37), .int .i64 (.v 38)]] [] [(39, .i), (40, .i), (41, .i), (42, .i), (43, .i), (44, .i), (45, .i), (46, .i), (47, .i)] (.agg [.int .i64 (.v 39), .int .i64 (.v 40), .int .i64 (.v 41), .int .i64 (.v 42), .int .i64 (.v 43), .int .i64 (.v 44), .int .i64 (.v 45), .int .i64 (.v 46), .int .i64 (.v 47)]) .same
(.call 24 [.int .i64 (.k 4), .int .i64 (.k 2)] [] [(48, .i), (49, .i), (50, .i), (51, .i), (52, .i), (53, .i), (54, .i), (55, .i), (56, .i)] (.agg [.int .i64 (.v 48), .int .i64 (.v 49), .int .i64 (.v 50), .int .i64 (.v 51), .int .i64 (.v 52), .int .i64 (.v 53), .int .i64 (.v 54), .int .i64 (.v 55), .int .i64 (.v 56)]) .same
(.call 50 [.int .i64 (.k 5), .int .i64 (.k 1), .int .i64 (.k 2), .int .i64 (.k 1), .agg [.int .i64 (.k 3), .int .i64 (.k 0), .int .i64 (.k 1), .int .i64 (.k 2)]] [] [(57, .i), (58, .i), (59, .i), (60, .i), (61, .i), (62, .i), (63, .i), (64, .i), (65, .i)] (.agg [.int .i64 (.v 57), .int .i64 (.v 58), .int .i64 (.v 59), .int .i64 (.v 60), .int .i64 (.v 61), .int .i64 (.v 62), .int .i64 (.v 63), .int .i64 (.v 64), .int .i64 (.v 65)]) .same
(.call 51 [.int .i64 (.k 5)] [] [(66, .i), (67, .i), (68, .i), (69, .i)] (.agg [.int .i64 (.v 66), .int .i64 (.v 67), .int .i64 (.v 68), .int .i64 (.v 69)]) .same
(.call 50 [.int .i64 (.k 6), .int .i64 (.k 1), .int .i64 (.k 1), .int .i64 (.k 0), .agg [.int .i64 (.v 66), .int .i64 (.v 67), .int .i64 (.v 68), .int .i64 (.v 69)]] [] [(70, .i), (71, .i), (72, .i), (73, .i), (74, .i), (75, .i), (76, .i), (77, .i), (78, .i)] (.agg [.int .i64 (.v 70), .int .i64 (.v 71), .int .i64 (.v 72), .int .i64 (.v 73), .int .i64 (.v 74), .int .i64 (.v 75), .int .i64 (.v 76), .int .i64 (.v 77), .int .i64 (.v 78)]) .same
(.call 51 [.int .i64 (.k 1)] [] [(79, .i), (80, .i), (81, .i), (82, .i)] (.agg [.int .i64 (.v 79), .int .i64 (.v 80), .int .i64 (.v 81), .int .i64 (.v 82)]) .same
(.call 50 [.int .i64 (.k 40), .int .i64 (.k 1), .int .i64 (.k 2), .int .i64 (.k 1), .agg [.int .i64 (.v 79), .int .i64 (.v 80), .int .i64 (.v 81), .int .i64 (.v 82)]] [] [(83, .i), (84, .i), (85, .i), (86, .i), (87, .i), (88, .i), (89, .i), (90, .i), (91, .i)] (.agg [.int .i64 (.v 83), .int .i64 (.v 84), .int .i64 (.v 85), .int .i64 (.v 86), .int .i64 (.v 87), .int .i64 (.v 88), .int .i64 (.v 89), .int .i64 (.v 90), .int .i64 (.v 91)]) .same
(.call 24 [.int .i64 (.k 41), .int .i64 (.k 1)] [] [(92, .i), (93, .i), (94, .i), (95, .i), (96, .i), (97, .i), (98, .i), (99, .i), (100, .i)] (.agg [.int .i64 (.v 92), .int .i64 (.v 93), .int .i64 (.v 94), .int .i64 (.v 95), .int .i64 (.v 96), .int .i64 (.v 97), .int .i64 (.v 98), .int .i64 (.v 99), .int .i64 (.v 100)]) .same
(.call 51 [.int .i64 (.k 9)] [] [(101, .i), (102, .i), (103, .i), (104, .i)] (.agg [.int .i64 (.v 101), .int .i64 (.v 102), .int .i64 (.v 103), .int .i64 (.v 104)]) .same
(.call 50 [.int .i64 (.k 42), .int .i64 (.k 1), .int .i64 (.k 1), .int .i64 (.k 0), .agg [.int .i64 (.v 101), .int .i64 (.v 102), .int .i64 (.v 103), .int .i64 (.v 104)]] [] [(105, .i), (106, .i), (107, .i), (108, .i), (109, .i), (110, .i), (111, .i), (112, .i), (113, .i)] (.agg [.int .i64 (.v 105), .int .i64 (.v 106), .int .i64 (.v 107), .int .i64 (.v 108), .int .i64 (.v 109), .int .i64 (.v 110), .int .i64 (.v 111), .int .i64 (.v 112), .int .i64 (.v 113)]) .same
(.all 0
(.ret (.slK 0 0 10 10) [(0, ⟨[.int .i64 (.v 0), .int .i64 (.v 1), .int .i64 (.v 2), .int .i64 (.v 3), .int .i64 (.v 4), .int .i64 (.v 5), .int .i64 (.v 6), .int .i64 (.v 7), .int .i64 (.v 8), .int .i64 (.v 13), .int .i64 (.v 14), .int .i64 (.v 15), .int .i64 (.v 16), .int .i64 (.v 17), .int .i64 (.v 18), .int .i64 (.v 19), .int .i64 (.v 20), .int .i64 (.v 21), .int .i64 (.v 26), .int .i64 (.v 27), .int .i64 (.v 28), .int .i64 (.v 29), .int .i64 (.v 30), .int .i64 (.v 31), .int .i64 (.v 32), .int .i64 (.v 33), .int .i64 (.v 34), .int .i64 (.v 39), .int .i64 (.v 40), .int .i64 (.v 41), .int .i64 (.v 42), .int .i64 (.v 43), .int .i64 (.v 44), .int .i64 (.v 45), .int .i64 (.v 46), .int .i64 (.v 47), .int .i64 (.v 48), .int .i64 (.v 49), .int .i64 (.v 50), .int .i64 (.v 51), .int .i64 (.v 52), .int .i64 (.v 53), .int .i64 (.v 54), .int .i64 (.v 55), .int .i64 (.v 56), .int .i64 (.v 57), .int .i64 (.v 58), .int .i64 (.v 59), .int .i64 (.v 60), .int .i64 (.v 61), .int .i64 (.v 62), .int .i64 (.v 63), .int .i64 (.v 64), .int .i64 (.v 65), .int .i64 (.v 70), .int .i64 (.v 71), .int .i64 (.v 72), .int .i64 (.v 73), .int .i64 (.v 74), .int .i64 (.v 75), .int .i64 (.v 76), .int .i64 (.v 77), .int .i64 (.v 78), .int .i64 (.v 83), .int .i64 (.v 84), .int .i64 (.v 85), .int .i64 (.v 86), .int .i64 (.v 87), .int .i64 (.v 88), .int .i64 (.v 89), .int .i64 (.v 90), .int .i64 (.v 91), .int .i64 (.v 92), .int .i64 (.v 93), .int .i64 (.v 94), .int .i64 (.v 95), .int .i64 (.v 96), .int .i64 (.v 97), .int .i64 (.v 98), .int .i64 (.v 99), .int .i64 (.v 100), .int .i64 (.v 105), .int .i64 (.v 106), .int .i64 (.v 107), .int .i64 (.v 108), .int .i64 (.v 109), .int .i64 (.v 110), .int .i64 (.v 111), .int .i64 (.v 112), .int .i64 (.v 113)], 43⟩)]))))))))))))))))))
theorem x_lsome (M : Nat → Prop) (H0 : Hp) (W0 : World) (R : Ending → World → Prop) (hH : H0.le (hpOf W0)) (h :
 (Cl Try.prog W0 M H0 nK 24 #[vi 1, vi 1] fun z W1 W2 => ∃ x0 : Int, ∃ x1 : Int, ∃ x2 : Int, ∃ x3 : Int, ∃ x4 : Int, ∃ x5 : Int, ∃ x6 : Int, ∃ x7 : Int, ∃ x8 : Int, z = .returned (Value.agg #[vi x0, vi x1, vi x2, vi x3, vi x4, vi x5, vi x6, vi x7, vi x8]) ∧ Ext W1 W2 ∧
 (Cl Try.prog W0 M H0 nK 51 #[vi 5] fun z W3 W4 => ∃ x9 : Int, ∃ x10 : Int, ∃ x11 : Int, ∃ x12 : Int, z = .returned (Value.agg #[vi x9, vi x10, vi x11, vi x12]) ∧ Ext W3 W4 ∧
 (Cl Try.prog W0 M H0 nK 50 #[vi 2, vi 1, vi 1, vi 0, Value.agg #[vi x9, vi x10, vi x11, vi x12]] fun z W5 W6 => ∃ x13 : Int, ∃ x14 : Int, ∃ x15 : Int, ∃ x16 : Int, ∃ x17 : Int, ∃ x18 : Int, ∃ x19 : Int, ∃ x20 : Int, ∃ x21 : Int, z = .returned (Value.agg #[vi x13, vi x14, vi x15, vi x16, vi x17, vi x18, vi x19, vi x20, vi x21]) ∧ Ext W5 W6 ∧
 (Cl Try.prog W0 M H0 nK 51 #[vi 5] fun z W7 W8 => ∃ x22 : Int, ∃ x23 : Int, ∃ x24 : Int, ∃ x25 : Int, z = .returned (Value.agg #[vi x22, vi x23, vi x24, vi x25]) ∧ Ext W7 W8 ∧
 (Cl Try.prog W0 M H0 nK 50 #[vi 3, vi 1, vi 1, vi 0, Value.agg #[vi x22, vi x23, vi x24, vi x25]] fun z W9 W10 => ∃ x26 : Int, ∃ x27 : Int, ∃ x28 : Int, ∃ x29 : Int, ∃ x30 : Int, ∃ x31 : Int, ∃ x32 : Int, ∃ x33 : Int, ∃ x34 : Int, z = .returned (Value.agg #[vi x26, vi x27, vi x28, vi x29, vi x30, vi x31, vi x32, vi x33, vi x34]) ∧ Ext W9 W10 ∧
 (Cl Try.prog W0 M H0 nK 51 #[vi 7] fun z W11 W12 => ∃ x35 : Int, ∃ x36 : Int, ∃ x37 : Int, ∃ x38 : Int, z = .returned (Value.agg #[vi x35, vi x36, vi x37, vi x38]) ∧ Ext W11 W12 ∧
 (Cl Try.prog W0 M H0 nK 50 #[vi 4, vi 2, vi 1, vi 0, Value.agg #[vi x35, vi x36, vi x37, vi x38]] fun z W13 W14 => ∃ x39 : Int, ∃ x40 : Int, ∃ x41 : Int, ∃ x42 : Int, ∃ x43 : Int, ∃ x44 : Int, ∃ x45 : Int, ∃ x46 : Int, ∃ x47 : Int, z = .returned (Value.agg #[vi x39, vi x40, vi x41, vi x42, vi x43, vi x44, vi x45, vi x46, vi x47]) ∧ Ext W13 W14 ∧
 (Cl Try.prog W0 M H0 nK 24 #[vi 4, vi 2] fun z W15 W16 => ∃ x48 : Int, ∃ x49 : Int, ∃ x50 : Int, ∃ x51 : Int, ∃ x52 : Int, ∃ x53 : Int, ∃ x54 : Int, ∃ x55 : Int, ∃ x56 : Int, z = .returned (Value.agg #[vi x48, vi x49, vi x50, vi x51, vi x52, vi x53, vi x54, vi x55, vi x56]) ∧ Ext W15 W16 ∧
 (Cl Try.prog W0 M H0 nK 50 #[vi 5, vi 1, vi 2, vi 1, Value.agg #[vi 3, vi 0, vi 1, vi 2]] fun z W17 W18 => ∃ x57 : Int, ∃ x58 : Int, ∃ x59 : Int, ∃ x60 : Int, ∃ x61 : Int, ∃ x62 : Int, ∃ x63 : Int, ∃ x64 : Int, ∃ x65 : Int, z = .returned (Value.agg #[vi x57, vi x58, vi x59, vi x60, vi x61, vi x62, vi x63, vi x64, vi x65]) ∧ Ext W17 W18 ∧
 (Cl Try.prog W0 M H0 nK 51 #[vi 5] fun z W19 W20 => ∃ x66 : Int, ∃ x67 : Int, ∃ x68 : Int, ∃ x69 : Int, z = .returned (Value.agg #[vi x66, vi x67, vi x68, vi x69]) ∧ Ext W19 W20 ∧
 (Cl Try.prog W0 M H0 nK 50 #[vi 6, vi 1, vi 1, vi 0, Value.agg #[vi x66, vi x67, vi x68, vi x69]] fun z W21 W22 => ∃ x70 : Int, ∃ x71 : Int, ∃ x72 : Int, ∃ x73 : Int, ∃ x74 : Int, ∃ x75 : Int, ∃ x76 : Int, ∃ x77 : Int, ∃ x78 : Int, z = .returned (Value.agg #[vi x70, vi x71, vi x72, vi x73, vi x74, vi x75, vi x76, vi x77, vi x78]) ∧ Ext W21 W22 ∧
 (Cl Try.prog W0 M H0 nK 51 #[vi 1] fun z W23 W24 => ∃ x79 : Int, ∃ x80 : Int, ∃ x81 : Int, ∃ x82 : Int, z = .returned (Value.agg #[vi x79, vi x80, vi x81, vi x82]) ∧ Ext W23 W24 ∧
 (Cl Try.prog W0 M H0 nK 50 #[vi 40, vi 1, vi 2, vi 1, Value.agg #[vi x79, vi x80, vi x81, vi x82]] fun z W25 W26 => ∃ x83 : Int, ∃ x84 : Int, ∃ x85 : Int, ∃ x86 : Int, ∃ x87 : Int, ∃ x88 : Int, ∃ x89 : Int, ∃ x90 : Int, ∃ x91 : Int, z = .returned (Value.agg #[vi x83, vi x84, vi x85, vi x86, vi x87, vi x88, vi x89, vi x90, vi x91]) ∧ Ext W25 W26 ∧
 (Cl Try.prog W0 M H0 nK 24 #[vi 41, vi 1] fun z W27 W28 => ∃ x92 : Int, ∃ x93 : Int, ∃ x94 : Int, ∃ x95 : Int, ∃ x96 : Int, ∃ x97 : Int, ∃ x98 : Int, ∃ x99 : Int, ∃ x100 : Int, z = .returned (Value.agg #[vi x92, vi x93, vi x94, vi x95, vi x96, vi x97, vi x98, vi x99, vi x100]) ∧ Ext W27 W28 ∧
 (Cl Try.prog W0 M H0 nK 51 #[vi 9] fun z W29 W30 => ∃ x101 : Int, ∃ x102 : Int, ∃ x103 : Int, ∃ x104 : Int, z = .returned (Value.agg #[vi x101, vi x102, vi x103, vi x104]) ∧ Ext W29 W30 ∧
 (Cl Try.prog W0 M H0 nK 50 #[vi 42, vi 1, vi 1, vi 0, Value.agg #[vi x101, vi x102, vi x103, vi x104]] fun z W31 W32 => ∃ x105 : Int, ∃ x106 : Int, ∃ x107 : Int, ∃ x108 : Int, ∃ x109 : Int, ∃ x110 : Int, ∃ x111 : Int, ∃ x112 : Int, ∃ x113 : Int, z = .returned (Value.agg #[vi x105, vi x106, vi x107, vi x108, vi x109, vi x110, vi x111, vi x112, vi x113]) ∧ Ext W31 W32 ∧
 (∀ b0 : Nat,
 Rt R W0 M H0 (fun W => Kn W0 M H0 W b0 (Obj.cells #[vi x0, vi x1, vi x2, vi x3, vi x4, vi x5, vi x6, vi x7, vi x8, vi x13, vi x14, vi x15, vi x16, vi x17, vi x18, vi x19, vi x20, vi x21, vi x26, vi x27, vi x28, vi x29, vi x30, vi x31, vi x32, vi x33, vi x34, vi x39, vi x40, vi x41, vi x42, vi x43, vi x44, vi x45, vi x46, vi x47, vi x48, vi x49, vi x50, vi x51, vi x52, vi x53, vi x54, vi x55, vi x56, vi x57, vi x58, vi x59, vi x60, vi x61, vi x62, vi x63, vi x64, vi x65, vi x70, vi x71, vi x72, vi x73, vi x74, vi x75, vi x76, vi x77, vi x78, vi x83, vi x84, vi x85, vi x86, vi x87, vi x88, vi x89, vi x90, vi x91, vi x92, vi x93, vi x94, vi x95, vi x96, vi x97, vi x98, vi x99, vi x100, vi x105, vi x106, vi x107, vi x108, vi x109, vi x110, vi x111, vi x112, vi x113] 43 (0, 0)) ∧ True) (Value.slice (some ⟨b0, 0, none⟩) 10 10))))))))))))))))))) :
  Calls Try.prog 40 #[] W0 R :=
  calls_sxA (M := M) (V := v_lsome) (hi := {}) (args := []) (nv := 0) (e := (fun _ => .i 0)) Try.func40 hH h (by kernel_rfl) (by kernel_rfl) (by kernel_rfl)
end Go.Proofs.Ytgmgbfpoeclgiaa
namespace Go.Proofs.Ytgmgbfpoeclgiaa
open Go.RowKit
set_option maxRecDepth 100000
def someL : List Ent := [⟨1, 1, 1, 0, 0, ⟨0, 0, 0, 0⟩⟩, ⟨2, 2, 1, 1, 0, ⟨2, 0, 0, 5⟩⟩, ⟨2, 3, 1, 1, 0, ⟨2, 0, 0, 5⟩⟩, ⟨2, 4, 2, 1, 0, ⟨2, 0, 0, 7⟩⟩, ⟨1, 4, 2, 0, 0, ⟨0, 0, 0, 0⟩⟩, ⟨2, 5, 1, 2, 1, ⟨3, 0, 1, 2⟩⟩, ⟨2, 6, 1, 1, 0, ⟨2, 0, 0, 5⟩⟩, ⟨2, 40, 1, 2, 1, ⟨2, 0, 0, 1⟩⟩, ⟨1, 41, 1, 0, 0, ⟨0, 0, 0, 0⟩⟩, ⟨2, 42, 1, 1, 0, ⟨2, 0, 0, 9⟩⟩]
theorem ents_blk {H : Hp} {b : Nat} {C : Array Value} {T : Nat} {fz : Nat × Nat} {l : List Ent} {n : Nat} (hb : H b = some (.cells C T fz)) (hn : n = l.length) (hm : n ≤ maxLen) (h64 : ∀ e ∈ l, e.in64) (hc : (C.toList.drop 0).take (n * 9) = (l.map Ent.row).flatten) : Ents H (some (b, 0)) n n l :=
  ⟨Nat.le_refl _, hm, Rows.block hb (by simpa using hn) (fun r hr => by
    obtain ⟨y, _, rfl⟩ := List.mem_map.1 hr
    rfl) hc, h64⟩
/-- what comes stands in one new block -/
theorem Rt.one {W0 : World} {H : Hp} {v : Value} {post : Value → Hp → Prop} {b : Nat} {o : Obj} {kn : World → Prop} (hk : ∀ W, kn W → Kn W0 noM H W b o) (hp : ∀ D : Hp, D b = some o → post v D) :
    Rt (fun z W' => ∃ v D, z = .returned v ∧ Ext W0 W' ∧ D.le (hpOf W') ∧ (∀ b o, D b = some o → W0.heap.size ≤ b) ∧ post v D) W0 noM H kn v := fun W n k => by
  have hk := hk W k
  refine ⟨v, addH noH b o, rfl, n.ext, addH_le (noH_le _) hk.eq, fun j q hj => ?_, hp _ (addH_at ..)⟩
  unfold addH at hj
  split at hj
  · rename_i h; subst h; exact hk.own.resolve_right (fun h => h)
  · cases hj
instance (e : Ent) : Decidable e.in64 := by unfold Ent.in64; infer_instance
theorem someL_64 : ∀ e ∈ someL, e.in64 := by decide +kernel
theorem c_lsome (H : Hp) : Gf Try.prog 40 #[] H fun v D => ∃ p, v = vsl p 10 10 ∧ Ents D p 10 10 someL := fun W hH => by
  refine x_lsome noM H W _ hH ?_
  refine Cl.same (c_lopen 1 1 H) fun _ _ hx => ⟨_, _, _, _, _, _, _, _, _, rfl, hx, ?_⟩
  refine Cl.same (c_ladd 5 H) fun _ _ hx => ⟨_, _, _, _, rfl, hx, ?_⟩
  refine Cl.same (c_lcall 2 1 1 0 ⟨2, 0, 0, 5⟩ H) fun _ _ hx => ⟨_, _, _, _, _, _, _, _, _, rfl, hx, ?_⟩
  refine Cl.same (c_ladd 5 H) fun _ _ hx => ⟨_, _, _, _, rfl, hx, ?_⟩
  refine Cl.same (c_lcall 3 1 1 0 ⟨2, 0, 0, 5⟩ H) fun _ _ hx => ⟨_, _, _, _, _, _, _, _, _, rfl, hx, ?_⟩
  refine Cl.same (c_ladd 7 H) fun _ _ hx => ⟨_, _, _, _, rfl, hx, ?_⟩
  refine Cl.same (c_lcall 4 2 1 0 ⟨2, 0, 0, 7⟩ H) fun _ _ hx => ⟨_, _, _, _, _, _, _, _, _, rfl, hx, ?_⟩
  refine Cl.same (c_lopen 4 2 H) fun _ _ hx => ⟨_, _, _, _, _, _, _, _, _, rfl, hx, ?_⟩
  refine Cl.same (c_lcall 5 1 2 1 ⟨3, 0, 1, 2⟩ H) fun _ _ hx => ⟨_, _, _, _, _, _, _, _, _, rfl, hx, ?_⟩
  refine Cl.same (c_ladd 5 H) fun _ _ hx => ⟨_, _, _, _, rfl, hx, ?_⟩
  refine Cl.same (c_lcall 6 1 1 0 ⟨2, 0, 0, 5⟩ H) fun _ _ hx => ⟨_, _, _, _, _, _, _, _, _, rfl, hx, ?_⟩
  refine Cl.same (c_ladd 1 H) fun _ _ hx => ⟨_, _, _, _, rfl, hx, ?_⟩
  refine Cl.same (c_lcall 40 1 2 1 ⟨2, 0, 0, 1⟩ H) fun _ _ hx => ⟨_, _, _, _, _, _, _, _, _, rfl, hx, ?_⟩
  refine Cl.same (c_lopen 41 1 H) fun _ _ hx => ⟨_, _, _, _, _, _, _, _, _, rfl, hx, ?_⟩
  refine Cl.same (c_ladd 9 H) fun _ _ hx => ⟨_, _, _, _, rfl, hx, ?_⟩
  refine Cl.same (c_lcall 42 1 1 0 ⟨2, 0, 0, 9⟩ H) fun _ _ hx => ⟨_, _, _, _, _, _, _, _, _, rfl, hx, fun b0 => ?_⟩
  exact Rt.one (b := b0) (fun W k => k.1) fun D hD => ⟨some (b0, 0), rfl, ents_blk hD rfl (by simp [maxLen]) someL_64 rfl⟩
theorem Fr.none {W W' : World} {H : Hp} {K : Hp → Prop} (hx : Ext W W') (hk : ∀ H' : Hp, H.le H' → K H') : Fr W W' H K := ⟨hx, noH, noH_le _, (fun b o h => by cases h), fun H' h _ => hk H' h⟩
theorem Cl.held {P : Program} {W0 : World} {H : Hp} {kn : World → Prop} {f : Nat} {args : Array Value} {v : Value} {Φ : Ending → World → World → Prop} {b : Nat} {o : Obj} (hk : ∀ W, kn W → Kn W0 noM H W b o) (hc : Gv P f args (addH H b o) v) (hp : ∀ W W', Ext W W' → Φ (.returned v) W W') : Cl P W0 noM H kn f args Φ :=
  Cl.sameK (fun W n k => ⟨addH H b o, addH_le n.sub (hk W k).eq, hc⟩) hp
theorem some10_eq : (sAll Sta.zero someL).1.pos = 10 ∧ (sAll Sta.zero someL).1.clock = 42 ∧ (sAll Sta.zero someL).1.vals = ⟨12, 2, 0, 0⟩ ∧ (sAll Sta.zero someL).2.1 = [0, 5, 5, -3, 0, 3, -4, -3, 0, 12] ∧ (sAll Sta.zero someL).2.2 = 0 := by decide +kernel
def zeros (n : Nat) : List Ent := List.replicate n ⟨0, 0, 0, 0, 0, ⟨0, 0, 0, 0⟩⟩
theorem zeros51 : sAll Sta.zero (zeros 51) = (Sta.zero, [], 2) := by decide +kernel
theorem shop45 : sAll ⟨45, 10, ⟨7, 0, 0, 1⟩, [rowS 2, rowS 4]⟩ someL = (Sta.zero, [], 2) := by decide +kernel
theorem some_err : entsErr someL = 0 := by decide +kernel
theorem zero_err : entsErr (zeros 1) = 4 := by decide +kernel
theorem zeros_64 (n : Nat) : ∀ e ∈ zeros n, e.in64 := fun e he => by
  obtain rfl := List.eq_of_mem_replicate he
  exact ⟨by decide, by decide⟩
theorem ints_blk {H : Hp} {b : Nat} {C : Array Value} {T : Nat} {fz : Nat × Nat} {l : List Int} {n : Nat} (hb : H b = some (.cells C T fz)) (hn : n = l.length) (hm : n ≤ maxLen) (hc : (C.toList.drop 0).take (n * 1) = (l.map irow).flatten) : Ints H (some (b, 0)) n n l :=
  ⟨Nat.le_refl _, hm, Rows.block hb (by simpa using hn) (fun r hr => by
    obtain ⟨y, _, rfl⟩ := List.mem_map.1 hr
    rfl) hc⟩
theorem all51 {W0 W : World} {H : Hp} {b : Nat} {C : Array Value} {T : Nat} (hC : C.toList = ((zeros 51).map Ent.row).flatten) (n : Now W0 noM H W) (k : Kn W0 noM H W b (.cells C T (0, 0))) :
    ∃ H1 : Hp, H1.le (hpOf W) ∧ Gf Try.prog 27 #[Sta.zero.val (vsl none 0 0), vsl (some (b, 0)) 51 51] H1 (AllPost (Sta.zero, [], 2)) :=
  ⟨_, addH_le n.sub k.eq, zeros51 ▸ c_foldAll (s := Sta.zero) (l := zeros 51) (Tab.nil _ _) (ents_blk (addH_at ..) rfl (by simp [maxLen]) (zeros_64 51) (by rw [hC]; kernel_rfl))⟩
theorem chk1 {W0 W : World} {H : Hp} {b : Nat} {C : Array Value} {T : Nat} (hC : C.toList = ((zeros 1).map Ent.row).flatten) (n : Now W0 noM H W) (k : Kn W0 noM H W b (.cells C T (0, 0))) :
    ∃ H1 : Hp, H1.le (hpOf W) ∧ Gv Try.prog 58 #[vsl (some (b, 0)) 1 1] H1 (vi 4) :=
  ⟨_, addH_le n.sub k.eq, zero_err ▸ c_foldCheck (l := zeros 1) (ents_blk (addH_at ..) rfl (by simp [maxLen]) (zeros_64 1) (by rw [hC]; kernel_rfl))⟩
theorem ints_same {W0 W : World} {H : Hp} {b : Nat} {C : Array Value} {T m : Nat} {p : Option Loc} {n c : Nat} {l : List Int} (hI : Ints H p n c l) (hC : C.toList = (l.map irow).flatten) (hm : m = l.length) (hx : m ≤ maxLen) (nn : Now W0 noM H W) (k : Kn W0 noM H W b (.cells C T (0, 0))) :
    ∃ H1 : Hp, H1.le (hpOf W) ∧ Gv Try.prog 62 #[vsl p n c, vsl (some (b, 0)) m m] H1 (vb true) :=
  ⟨_, addH_le nn.sub k.eq, decide_eq_true (rfl : l = l) ▸ c_sameInts (hI.mono (le_addH k.off)) (ints_blk (l := l) (addH_at ..) hm hx (by
    rw [hC, List.drop_zero, List.take_of_length_le]
    rw [flat_len (w := 1) (fun r hr => by obtain ⟨y, _, rfl⟩ := List.mem_map.1 hr; rfl), List.length_map, hm]
    exact Nat.le_refl _))⟩
end Go.Proofs.Ytgmgbfpoeclgiaa
namespace Go.Proofs.Ytgmgbfpoeclgiaa
open Go.RowKit
theorem Ents.drop {H : Hp} {p : Option Loc} {n c : Nat} {l : List Ent} (h : Ents H p n c l) (k : Nat) (hk : k ≤ n) :
    ∃ p', Value.slice (ptrAt p (0 + (if (c : Int) = (k : Int) then 0 else (k : Int) * ((9 : Nat) : Int)))) (((n : Int) - (k : Int)) : Int).toNat (((c : Int) - (k : Int)) : Int).toNat = vsl p' (n - k) (c - k) ∧ Ents H p' (n - k) (c - k) (l.drop k) := by
  have e1 : (((n : Int) - (k : Int)) : Int).toNat = n - k := by omega
  have e2 : (((c : Int) - (k : Int)) : Int).toNat = c - k := by omega
  have hn := h.len
  refine ⟨shiftP p ((0 + (if (c : Int) = (k : Int) then 0 else (k : Int) * ((9 : Nat) : Int))).toNat), by rw [e1, e2, ptrAt_shift], Nat.sub_le_sub_right h.1 k, Nat.le_trans (Nat.sub_le _ _) h.2.1, ?_, fun e he => h.2.2.2 e (List.mem_of_mem_drop he)⟩
  rcases Nat.eq_or_lt_of_le hk with h0 | h0
  · subst h0
    rw [List.drop_of_length_le (by omega), Nat.sub_self]
    exact Rows.nil _ _ _
  · rw [if_neg (by have := h.1; omega)]
    have h2 := h.2.2.1.part k n hk (Nat.le_refl _)
    rw [show (0 + (k : Int) * ((9 : Nat) : Int)).toNat = k * 9 by omega]
    rw [← List.map_drop, List.take_of_length_le (by simp; omega)] at h2
    exact h2
theorem sAll_done {s : Sta} {l : List Ent} (h : (sAll s l).2.2 = 0) : StOk s ∧ (∀ e ∈ l, EntOk e) ∧ s.pos + l.length ≤ 50 ∧ sAll s l = (foldS s l, foldA s l, 0) := by
  by_cases h0 : s.err = 0
  · by_cases h1 : entsErr l = 0
    · by_cases h2 : 50 < s.pos + (l.length : Int)
      · rw [sAll_many h0 h1 h2] at h; cases h
      · exact ⟨Sta.err_ok.1 h0, (entsErr_ok.1 h1).2, by omega, sAll_ok h0 h1 h2⟩
    · rw [sAll_ents h0 h1] at h; exact absurd h h1
  · rw [sAll_err h0] at h; exact absurd h h0
theorem sAll_of {s : Sta} {l : List Ent} (hs : StOk s) (hl : ∀ e ∈ l, EntOk e) (hp : s.pos + l.length ≤ 50) : sAll s l = (foldS s l, foldA s l, 0) := sAll_ok (Sta.err_ok.2 hs) (entsErr_ok.2 ⟨by have := hs.pos; omega, hl⟩) (by omega)
/-- in how many goes -/
theorem fold_split {s : Sta} {l : List Ent} (h : (sAll s l).2.2 = 0) {k : Nat} (hk : k ≤ l.length) :
    sAll s (l.take k) = (foldS s (l.take k), foldA s (l.take k), 0) ∧ sAll (foldS s (l.take k)) (l.drop k) = ((sAll s l).1, foldA (foldS s (l.take k)) (l.drop k), 0) ∧ (sAll s l).2.1 = foldA s (l.take k) ++ foldA (foldS s (l.take k)) (l.drop k) ∧ (sAll s l).1.err = 0 := by
  obtain ⟨hs, hl, hp, he⟩ := sAll_done h
  have ht : (l.take k).length = k := by simp; omega
  have hd : (l.drop k).length = l.length - k := by simp
  have hl1 : ∀ e ∈ l.take k, EntOk e := fun e he => hl e (List.mem_of_mem_take he)
  have hl2 : ∀ e ∈ l.drop k, EntOk e := fun e he => hl e (List.mem_of_mem_drop he)
  obtain ⟨o1, q1⟩ := foldS_ok hs hl1 (by rw [ht]; omega)
  rw [ht] at q1
  refine ⟨sAll_of hs hl1 (by rw [ht]; omega), ?_, ?_, ?_⟩
  · rw [sAll_of o1 hl2 (by rw [q1, hd]; omega), he, ← foldS_append, List.take_append_drop]
  · rw [he, ← foldA_append, List.take_append_drop]
  · rw [he]; exact Sta.err_ok.2 (foldS_ok hs hl hp).1
theorem Rows_I {H : Hp} {p : Option Loc} {n c : Nat} {l : List Int} (h : Ints H p n c l) : Rows H p n 1 (l.map irow) := h.2.2
/-- two lists of ints put together, in new memory -/
theorem foldA_le {s : Sta} {l : List Ent} {H : Hp} {p : Option Loc} {n c : Nat} {k : Nat} (h : Ints H p n c (foldA s l)) (hl : l.length ≤ k) : n ≤ k := by rw [h.len, foldA_len]; exact hl
end Go.Proofs.Ytgmgbfpoeclgiaa
