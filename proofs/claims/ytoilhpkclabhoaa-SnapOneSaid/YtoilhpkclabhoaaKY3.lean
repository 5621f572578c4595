/- Symbolic runs of functions: what each leaves to prove is enough for its call. Printed by a program of ours. No conditions. Contracts: the laws of states as bytes. No conditions. -/
import Derived.Test.YtoilhpkclabhoaaKE3
import Derived.Test.YtoilhpkclabhoaaProg
import Derived.Test.YtoilhpkclabhoaaKY2
import Derived.Test.YtoilhpkclabhoaaKL1
import Derived.Laws.Concat
set_option linter.unusedVariables false
set_option linter.unusedSimpArgs false
namespace Go.Proofs.Ytoilhpkclabhoaa
open Go.RowKit
set_option maxRecDepth 100000
set_option maxHeartbeats 4000000
def v_snapBegun : VC :=
(.call 31 [] [] [(0, .i), (1, .i), (2, .i), (3, .i), (4, .i), (5, .i), (6, .p), (7, .n), (8, .n)] (.agg [.int .i64 (.v 0), .int .i64 (.v 1), .int .i64 (.v 2), .int .i64 (.v 3), .int .i64 (.v 4), .int .i64 (.v 5), .slO 6 (.k 0) (.v 7) (.v 8)]) .fresh
(.call 23 [.agg [.int .i64 (.v 0), .int .i64 (.v 1), .int .i64 (.v 2), .int .i64 (.v 3), .int .i64 (.v 4), .int .i64 (.v 5), .slO 6 (.k 0) (.v 7) (.v 8)]] [] [(9, .s), (10, .i)] (.tup [.str 9, .int .i64 (.v 10)]) .same
(.call 25 [.str 9] [] [(11, .i), (12, .i), (13, .i), (14, .i), (15, .i), (16, .i), (17, .p), (18, .n), (19, .n), (20, .i)] (.tup [.agg [.int .i64 (.v 11), .int .i64 (.v 12), .int .i64 (.v 13), .int .i64 (.v 14), .int .i64 (.v 15), .int .i64 (.v 16), .slO 17 (.k 0) (.v 18) (.v 19)], .int .i64 (.v 20)]) .fresh
(.all 0
(.esc (.bop .add 9 (.tmp 20) (.const (Value.string ⟨#[120]⟩))) [.str 9, .c (Value.string ⟨#[120]⟩)] [] [(21, .s)] (some (.str 21)) .same
(.call 25 [.str 21] [] [(22, .i), (23, .i), (24, .i), (25, .i), (26, .i), (27, .i), (28, .p), (29, .n), (30, .n), (31, .i)] (.tup [.agg [.int .i64 (.v 22), .int .i64 (.v 23), .int .i64 (.v 24), .int .i64 (.v 25), .int .i64 (.v 26), .int .i64 (.v 27), .slO 28 (.k 0) (.v 29) (.v 30)], .int .i64 (.v 31)]) .fresh
(.all 1
(.call 23 [.agg [.int .i64 (.k (-1)), .int .i64 (.k 0), .int .i64 (.k 0), .int .i64 (.k 0), .int .i64 (.k 0), .int .i64 (.k 0), .c (Value.slice none 0 0)]] [] [(32, .s), (33, .i)] (.tup [.str 32, .int .i64 (.v 33)]) .same
(.ite (.eq (.v 10) (.k 0))
(.ite (.eq (.v 20) (.k 0))
(.ite (.eq (.v 31) (.k 1))
(.ite (.eq (.v 33) (.k 3))
(.ite (.eq (.slen 9) (.k 34))
(.call 31 [] [] [(34, .i), (35, .i), (36, .i), (37, .i), (38, .i), (39, .i), (40, .p), (41, .n), (42, .n)] (.agg [.int .i64 (.v 34), .int .i64 (.v 35), .int .i64 (.v 36), .int .i64 (.v 37), .int .i64 (.v 38), .int .i64 (.v 39), .slO 40 (.k 0) (.v 41) (.v 42)]) .fresh
(.call 14 [.agg [.int .i64 (.v 11), .int .i64 (.v 12), .int .i64 (.v 13), .int .i64 (.v 14), .int .i64 (.v 15), .int .i64 (.v 16), .slO 17 (.k 0) (.v 18) (.v 19)], .agg [.int .i64 (.v 34), .int .i64 (.v 35), .int .i64 (.v 36), .int .i64 (.v 37), .int .i64 (.v 38), .int .i64 (.v 39), .slO 40 (.k 0) (.v 41) (.v 42)]] [] [(43, .b)] (.bool (.v 43)) .same
(.ret (.bool (.v 43)) [])))
(.ret (.bool (.k false)) []))
(.ret (.bool (.k false)) []))
(.ret (.bool (.k false)) []))
(.ret (.bool (.k false)) []))
(.ret (.bool (.k false)) []))))))))))
theorem x_snapBegun (M : Nat → Prop) (H0 : Hp) (W0 : World) (R : Ending → World → Prop) (hH : H0.le (hpOf W0)) (h :
 (Cl Try.prog W0 M H0 nK 31 #[] fun z W1 W2 => ∃ x0 : Int, ∃ x1 : Int, ∃ x2 : Int, ∃ x3 : Int, ∃ x4 : Int, ∃ x5 : Int, ∃ x6 : Option Loc, ∃ x7 : Nat, ∃ x8 : Nat, z = .returned (Value.agg #[vi x0, vi x1, vi x2, vi x3, vi x4, vi x5, vsl x6 x7 x8]) ∧ Fr W1 W2 H0 fun H1 =>
 (Cl Try.prog W0 M H1 nK 23 #[Value.agg #[vi x0, vi x1, vi x2, vi x3, vi x4, vi x5, vsl x6 x7 x8]] fun z W3 W4 => ∃ x9 : ByteArray, ∃ x10 : Int, z = .returned (Value.tuple #[Value.string x9, vi x10]) ∧ Ext W3 W4 ∧
 (Cl Try.prog W0 M H1 nK 25 #[Value.string x9] fun z W5 W6 => ∃ x11 : Int, ∃ x12 : Int, ∃ x13 : Int, ∃ x14 : Int, ∃ x15 : Int, ∃ x16 : Int, ∃ x17 : Option Loc, ∃ x18 : Nat, ∃ x19 : Nat, ∃ x20 : Int, z = .returned (Value.tuple #[Value.agg #[vi x11, vi x12, vi x13, vi x14, vi x15, vi x16, vsl x17 x18 x19], vi x20]) ∧ Fr W5 W6 H1 fun H2 =>
 (∀ b0 : Nat,
 (Es W0 M H2 nK fun W7 => ∃ x21 : ByteArray, Eo Try.prog (.bop .add 9 (.tmp 20) (.const (Value.string ⟨#[120]⟩))) [Value.string x9, Value.string ⟨#[120]⟩] W7 (.value (Value.string x21)) fun W8 => Ext W7 W8 ∧
 (Cl Try.prog W0 M H2 nK 25 #[Value.string x21] fun z W9 W10 => ∃ x22 : Int, ∃ x23 : Int, ∃ x24 : Int, ∃ x25 : Int, ∃ x26 : Int, ∃ x27 : Int, ∃ x28 : Option Loc, ∃ x29 : Nat, ∃ x30 : Nat, ∃ x31 : Int, z = .returned (Value.tuple #[Value.agg #[vi x22, vi x23, vi x24, vi x25, vi x26, vi x27, vsl x28 x29 x30], vi x31]) ∧ Fr W9 W10 H2 fun H3 =>
 (∀ b1 : Nat,
 (Cl Try.prog W0 M H3 nK 23 #[Value.agg #[vi (-1), vi 0, vi 0, vi 0, vi 0, vi 0, Value.slice none 0 0]] fun z W11 W12 => ∃ x32 : ByteArray, ∃ x33 : Int, z = .returned (Value.tuple #[Value.string x32, vi x33]) ∧ Ext W11 W12 ∧
 ((x10 = 0 →
  ((x20 = 0 →
   ((x31 = 1 →
    ((x33 = 3 →
     (((x9.size : Int) = 34 →
      (Cl Try.prog W0 M H3 nK 31 #[] fun z W13 W14 => ∃ x34 : Int, ∃ x35 : Int, ∃ x36 : Int, ∃ x37 : Int, ∃ x38 : Int, ∃ x39 : Int, ∃ x40 : Option Loc, ∃ x41 : Nat, ∃ x42 : Nat, z = .returned (Value.agg #[vi x34, vi x35, vi x36, vi x37, vi x38, vi x39, vsl x40 x41 x42]) ∧ Fr W13 W14 H3 fun H4 =>
      (Cl Try.prog W0 M H4 nK 14 #[Value.agg #[vi x11, vi x12, vi x13, vi x14, vi x15, vi x16, vsl x17 x18 x19], Value.agg #[vi x34, vi x35, vi x36, vi x37, vi x38, vi x39, vsl x40 x41 x42]] fun z W15 W16 => ∃ x43 : Bool, z = .returned (vb (x43)) ∧ Ext W15 W16 ∧
      Rt R W0 M H4 nK (vb (x43))))) ∧
     (¬ ((x9.size : Int) = 34) →
      Rt R W0 M H3 nK (vb (false))))) ∧
    (¬ (x33 = 3) →
     Rt R W0 M H3 nK (vb (false))))) ∧
   (¬ (x31 = 1) →
    Rt R W0 M H3 nK (vb (false))))) ∧
  (¬ (x20 = 0) →
   Rt R W0 M H3 nK (vb (false))))) ∧
 (¬ (x10 = 0) →
  Rt R W0 M H3 nK (vb (false))))))))))))) :
  Calls Try.prog 26 #[] W0 R :=
  calls_sxA (M := M) (V := v_snapBegun) (hi := {}) (args := []) (nv := 0) (e := (fun _ => .i 0)) Try.func26 hH h (by kernel_rfl) (by kernel_rfl) (by kernel_rfl)
def v_snapOne : VC :=
(.all 0
(.all 1
(.call 23 [.agg [.int .i64 (.v 0), .int .i64 (.v 1), .int .i64 (.v 2), .int .i64 (.v 3), .int .i64 (.v 4), .int .i64 (.v 5), .slO 6 (.k 0) (.v 7) (.v 8)]] [] [(18, .s), (19, .i)] (.tup [.str 18, .int .i64 (.v 19)]) .same
(.call 23 [.agg [.int .i64 (.v 9), .int .i64 (.v 10), .int .i64 (.v 11), .int .i64 (.v 12), .int .i64 (.v 13), .int .i64 (.v 14), .slO 15 (.k 0) (.v 16) (.v 17)]] [] [(20, .s), (21, .i)] (.tup [.str 20, .int .i64 (.v 21)]) .same
(.ite (.eq (.v 19) (.k 0))
(.ite (.eq (.v 21) (.k 0))
(.call 26 [] [] [(22, .b)] (.bool (.v 22)) .same
(.ite (.v 22)
(.esc (.bop .eql 9 (.tmp 28) (.tmp 29)) [.str 18, .str 20] [] [(23, .b)] (some (.bool (.v 23))) .same
(.call 13 [.agg [.int .i64 (.v 0), .int .i64 (.v 1), .int .i64 (.v 2), .int .i64 (.v 3), .int .i64 (.v 4), .int .i64 (.v 5), .slO 6 (.k 0) (.v 7) (.v 8)], .agg [.int .i64 (.v 9), .int .i64 (.v 10), .int .i64 (.v 11), .int .i64 (.v 12), .int .i64 (.v 13), .int .i64 (.v 14), .slO 15 (.k 0) (.v 16) (.v 17)]] [] [(24, .b)] (.bool (.v 24)) .same
(.esc (.bop .eql 4 (.tmp 30) (.tmp 33)) [.bool (.v 23), .bool (.v 24)] [] [(25, .b)] (some (.bool (.v 25))) .same
(.ite (.v 25)
(.esc (.bop .eql 9 (.tmp 37) (.tmp 38)) [.str 18, .str 20] [] [(26, .b)] (some (.bool (.v 26))) .same
(.call 14 [.agg [.int .i64 (.v 0), .int .i64 (.v 1), .int .i64 (.v 2), .int .i64 (.v 3), .int .i64 (.v 4), .int .i64 (.v 5), .slO 6 (.k 0) (.v 7) (.v 8)], .agg [.int .i64 (.v 9), .int .i64 (.v 10), .int .i64 (.v 11), .int .i64 (.v 12), .int .i64 (.v 13), .int .i64 (.v 14), .slO 15 (.k 0) (.v 16) (.v 17)]] [] [(27, .b)] (.bool (.v 27)) .same
(.esc (.bop .eql 4 (.tmp 39) (.tmp 42)) [.bool (.v 26), .bool (.v 27)] [] [(28, .b)] (some (.bool (.v 28))) .same
(.ret (.bool (.v 28)) []))))
(.ret (.bool (.k false)) [])))))
(.ret (.bool (.k false)) [])))
(.call 26 [] [] [(22, .b)] (.bool (.v 22)) .same
(.ret (.bool (.v 22)) [])))
(.call 26 [] [] [(22, .b)] (.bool (.v 22)) .same
(.ret (.bool (.v 22)) [])))))))
theorem x_snapOne (x0 : Int) (x1 : Int) (x2 : Int) (x3 : Int) (x4 : Int) (x5 : Int) (x6 : Option Loc) (x7 : Nat) (x8 : Nat) (x9 : Int) (x10 : Int) (x11 : Int) (x12 : Int) (x13 : Int) (x14 : Int) (x15 : Option Loc) (x16 : Nat) (x17 : Nat) (M : Nat → Prop) (H0 : Hp) (W0 : World) (R : Ending → World → Prop) (hH : H0.le (hpOf W0)) (h :
 (∀ b0 : Nat,
 (∀ b1 : Nat,
 (Cl Try.prog W0 M H0 nK 23 #[Value.agg #[vi x0, vi x1, vi x2, vi x3, vi x4, vi x5, vsl x6 x7 x8]] fun z W1 W2 => ∃ x18 : ByteArray, ∃ x19 : Int, z = .returned (Value.tuple #[Value.string x18, vi x19]) ∧ Ext W1 W2 ∧
 (Cl Try.prog W0 M H0 nK 23 #[Value.agg #[vi x9, vi x10, vi x11, vi x12, vi x13, vi x14, vsl x15 x16 x17]] fun z W3 W4 => ∃ x20 : ByteArray, ∃ x21 : Int, z = .returned (Value.tuple #[Value.string x20, vi x21]) ∧ Ext W3 W4 ∧
 ((x19 = 0 →
  ((x21 = 0 →
   (Cl Try.prog W0 M H0 nK 26 #[] fun z W5 W6 => ∃ x22 : Bool, z = .returned (vb (x22)) ∧ Ext W5 W6 ∧
   ((x22 = true →
    (Es W0 M H0 nK fun W7 => ∃ x23 : Bool, Eo Try.prog (.bop .eql 9 (.tmp 28) (.tmp 29)) [Value.string x18, Value.string x20] W7 (.value (vb (x23))) fun W8 => Ext W7 W8 ∧
    (Cl Try.prog W0 M H0 nK 13 #[Value.agg #[vi x0, vi x1, vi x2, vi x3, vi x4, vi x5, vsl x6 x7 x8], Value.agg #[vi x9, vi x10, vi x11, vi x12, vi x13, vi x14, vsl x15 x16 x17]] fun z W9 W10 => ∃ x24 : Bool, z = .returned (vb (x24)) ∧ Ext W9 W10 ∧
    (Es W0 M H0 nK fun W11 => ∃ x25 : Bool, Eo Try.prog (.bop .eql 4 (.tmp 30) (.tmp 33)) [vb (x23), vb (x24)] W11 (.value (vb (x25))) fun W12 => Ext W11 W12 ∧
    ((x25 = true →
     (Es W0 M H0 nK fun W13 => ∃ x26 : Bool, Eo Try.prog (.bop .eql 9 (.tmp 37) (.tmp 38)) [Value.string x18, Value.string x20] W13 (.value (vb (x26))) fun W14 => Ext W13 W14 ∧
     (Cl Try.prog W0 M H0 nK 14 #[Value.agg #[vi x0, vi x1, vi x2, vi x3, vi x4, vi x5, vsl x6 x7 x8], Value.agg #[vi x9, vi x10, vi x11, vi x12, vi x13, vi x14, vsl x15 x16 x17]] fun z W15 W16 => ∃ x27 : Bool, z = .returned (vb (x27)) ∧ Ext W15 W16 ∧
     (Es W0 M H0 nK fun W17 => ∃ x28 : Bool, Eo Try.prog (.bop .eql 4 (.tmp 39) (.tmp 42)) [vb (x26), vb (x27)] W17 (.value (vb (x28))) fun W18 => Ext W17 W18 ∧
     Rt R W0 M H0 nK (vb (x28)))))) ∧
    (¬ (x25 = true) →
     Rt R W0 M H0 nK (vb (false)))))))) ∧
   (¬ (x22 = true) →
    Rt R W0 M H0 nK (vb (false)))))) ∧
  (¬ (x21 = 0) →
   (Cl Try.prog W0 M H0 nK 26 #[] fun z W5 W6 => ∃ x22 : Bool, z = .returned (vb (x22)) ∧ Ext W5 W6 ∧
   Rt R W0 M H0 nK (vb (x22)))))) ∧
 (¬ (x19 = 0) →
  (Cl Try.prog W0 M H0 nK 26 #[] fun z W5 W6 => ∃ x22 : Bool, z = .returned (vb (x22)) ∧ Ext W5 W6 ∧
  Rt R W0 M H0 nK (vb (x22)))))))))) :
  Calls Try.prog 8 #[Value.agg #[vi x0, vi x1, vi x2, vi x3, vi x4, vi x5, vsl x6 x7 x8], Value.agg #[vi x9, vi x10, vi x11, vi x12, vi x13, vi x14, vsl x15 x16 x17]] W0 R :=
  calls_sxA (M := M) (V := v_snapOne) (hi := {}) (args := [.agg [.int .i64 (.v 0), .int .i64 (.v 1), .int .i64 (.v 2), .int .i64 (.v 3), .int .i64 (.v 4), .int .i64 (.v 5), .slO 6 (.k 0) (.v 7) (.v 8)], .agg [.int .i64 (.v 9), .int .i64 (.v 10), .int .i64 (.v 11), .int .i64 (.v 12), .int .i64 (.v 13), .int .i64 (.v 14), .slO 15 (.k 0) (.v 16) (.v 17)]]) (nv := 18) (e := (upd (upd (upd (upd (upd (upd (upd (upd (upd (upd (upd (upd (upd (upd (upd (upd (upd (upd (fun _ => .i 0) 0 (.i x0)) 1 (.i x1)) 2 (.i x2)) 3 (.i x3)) 4 (.i x4)) 5 (.i x5)) 6 (.p x6)) 7 (.n x7)) 8 (.n x8)) 9 (.i x9)) 10 (.i x10)) 11 (.i x11)) 12 (.i x12)) 13 (.i x13)) 14 (.i x14)) 15 (.p x15)) 16 (.n x16)) 17 (.n x17))) Try.func8 hH h (by kernel_rfl) (by kernel_rfl) (by kernel_rfl)
end Go.Proofs.Ytoilhpkclabhoaa
namespace Go.Proofs.Ytoilhpkclabhoaa
open Go.RowKit

theorem ek_str_add {W : World} (x y : Operand) (a b : List UInt8) (ha : a.length ≤ 1000000) (hb : b.length ≤ 1000000) : (EK.sem (.bop .add 9 x y) [.string (bs a), .string (bs b)]).run Try.prog W = .ok (.value (.string (bs (a ++ b)))) W := by
  have h := run_string_add_lists (P := Try.prog) W a b (by omega) (by omega)
  simp only [EK.sem, eqGuard, List.getD_cons_zero, List.getD_cons_succ, binOp_string_add, Sem.run_bind, Sem.run_pure]
  have h' : (Op.stringOp .add (bs a) (bs b)).run Try.prog W = .ok (.string (bs (a ++ b))) W := h
  simp [h', Result.andThen_ok, Sem.run_pure]
theorem tab0 (D : Hp) (p : Option Loc) : Tab D p 0 0 [] := ⟨Nat.le_refl _, by simp [maxLen], [], Rows.nil _ _ _, .nil⟩
theorem sRead_enc {s : Sta} (h : StOk s) : sRead (encT s) = (s, 0) := by
  unfold sRead
  have := encT_len h
  rw [if_neg (by omega), unT_iff.2 ⟨Sta.err_ok.2 h, rfl⟩]
theorem sWrite_ok {s : Sta} (h : StOk s) : sWrite s = (encT s, 0) := if_pos (Sta.err_ok.2 h)
theorem shop_len : (encT shopS).length = 34 := by decide +kernel
theorem shop_write : sWrite shopS = (encT shopS, 0) := by decide +kernel
theorem shop_read : sRead (encT shopS) = (shopS, 0) := sRead_enc (Sta.err_ok.1 (by decide +kernel))
theorem shop_more : (sRead (encT shopS ++ [120])).2 = 1 := by decide +kernel
theorem bad_write : (sWrite ⟨-1, 0, ⟨0, 0, 0, 0⟩, []⟩).2 = 3 := by decide +kernel
theorem c_snapBegun (H : Hp) : Gv Try.prog 26 #[] H (vb true) := fun W hH => by
  refine x_snapBegun noM H W _ hH ?_
  refine Cl.fresh (c_shop H) ?_
  rintro v W1 W2 D ⟨p, n, c, rfl, hT⟩ hx hD hf nn
  refine ⟨_, _, _, _, _, _, p, n, c, rfl, hx, D, hD, hf, fun H1 h1 hd1 => ?_⟩
  refine Cl.same (c_snapWrite (s := shopS) (hT.mono hd1)) fun _ _ hx => ⟨_, _, rfl, hx, ?_⟩
  rw [shop_write]
  refine Cl.fresh (c_snapRead (l := encT shopS)) ?_
  rw [shop_read]
  rintro v W1 W2 D ⟨p1, n1, c1, rfl, hT1⟩ hx hD hf nn
  refine ⟨_, _, _, _, _, _, p1, n1, c1, _, rfl, hx, D, hD, hf, fun H2 h2 hd2 b0 W3 n3 _ => ?_⟩
  refine ⟨_, _, ek_str_add _ _ (encT shopS) [120] (by rw [shop_len]; omega) (by simp), Ext.refl _, ?_⟩
  refine Cl.fresh (c_snapRead (l := encT shopS ++ [120])) ?_
  rintro v W1 W2 D ⟨p2, n2, c2, rfl, _⟩ hx hD hf nn
  refine ⟨_, _, _, _, _, _, p2, n2, c2, _, rfl, hx, D, hD, hf, fun H3 h3 hd3 b1 => ?_⟩
  refine Cl.same (c_snapWrite (s := ⟨-1, 0, ⟨0, 0, 0, 0⟩, []⟩) (p := none) (n := 0) (c := 0) (tab0 _ _)) fun _ _ hx => ⟨_, _, rfl, hx, fun _ => ⟨fun _ => ⟨fun _ => ⟨fun _ => ⟨fun _ => ?_, fun h => absurd ?_ h⟩, fun h => absurd bad_write h⟩, fun h => absurd shop_more h⟩, fun h => absurd rfl h⟩, fun h => absurd rfl h⟩
  · refine Cl.fresh (c_shop H3) ?_
    rintro v W1 W2 D ⟨p4, n4, c4, rfl, hT4⟩ hx hD hf nn
    refine ⟨_, _, _, _, _, _, p4, n4, c4, rfl, hx, D, hD, hf, fun H4 h4 hd4 => ?_⟩
    refine Cl.same (c_sameOf (s := shopS) (t := shopS) (((hT1.mono hd2).mono h3).mono h4) (hT4.mono hd4)) fun _ _ hx => ⟨_, rfl, hx, Rt.gv' (by rw [decide_eq_true rfl])⟩
  · rw [bs_size, shop_len]; rfl
theorem c_snapOne {H : Hp} {p p' : Option Loc} {n c n' c' : Nat} {s t : Sta} (hT : Tab H p n c s.table) (hT' : Tab H p' n' c' t.table) : Gv Try.prog 8 #[s.val (vsl p n c), t.val (vsl p' n' c')] H (vb true) := fun W hH => by
  refine x_snapOne _ _ _ _ _ _ p n c _ _ _ _ _ _ p' n' c' noM H W _ hH fun b0 b1 => ?_
  refine Cl.same (c_snapWrite hT) fun _ _ hx => ⟨_, _, rfl, hx, ?_⟩
  refine Cl.same (c_snapWrite hT') fun _ _ hx => ⟨_, _, rfl, hx, fun h0 => ⟨fun h1 => ?_, fun _ => ?_⟩, fun _ => ?_⟩
  · have ok : ∀ {s : Sta}, (sWrite s).2 = 0 → StOk s := fun {s} h0 => by
      refine Sta.err_ok.1 ?_
      unfold sWrite at h0
      split at h0
      · assumption
      · exact h0
    have hs := ok h0
    have ht := ok h1
    rw [sWrite_ok hs, sWrite_ok ht]
    have he : decide (encT s = encT t) = decide (s = t) := by
      by_cases h : s = t
      · rw [h]; simp
      · rw [decide_eq_false h, decide_eq_false fun h' => h (enc_inj hs ht h')]
    refine Cl.same (c_snapBegun H) fun _ _ hx => ⟨_, rfl, hx, fun _ W3 n3 _ => ⟨_, _, ek_str_eq _ _ _ _, Ext.refl _, ?_⟩, fun h => absurd rfl h⟩
    refine Cl.same (c_stSame hT hT') fun _ _ hx => ⟨_, rfl, hx, fun W4 n4 _ => ⟨_, _, ek_eq_bool _ _ _ _ _, Ext.refl _, fun _ W5 n5 _ => ⟨_, _, ek_str_eq _ _ _ _, Ext.refl _, ?_⟩, fun h => absurd (by simp [he]) h⟩⟩
    refine Cl.same (c_sameOf hT hT') fun _ _ hx => ⟨_, rfl, hx, fun W4 n4 _ => ⟨_, _, ek_eq_bool _ _ _ _ _, Ext.refl _, Rt.gv' (by simp [he])⟩⟩
  · exact Cl.same (c_snapBegun H) fun _ _ hx => ⟨_, rfl, hx, Rt.gv⟩
  · exact Cl.same (c_snapBegun H) fun _ _ hx => ⟨_, rfl, hx, Rt.gv⟩
end Go.Proofs.Ytoilhpkclabhoaa
