/- Logs, packed, as the document says it, over plain data. No program in sight. No conditions. Symbolic runs of functions: what each leaves to prove is enough for its call. Printed by a program of ours. No conditions. Contracts of package pack, and of what the document says of it. No conditions. -/
import Derived.Test.YtgmgbfpoeclgiaaKF1
import Derived.Test.YtgmgbfpoeclgiaaKE3
import Derived.Test.YtgmgbfpoeclgiaaProg
import Derived.Test.YtgmgbfpoeclgiaaKF3
import Derived.Test.YtgmgbfpoeclgiaaKT1
set_option linter.unusedVariables false
set_option linter.unusedSimpArgs false
namespace Go.Proofs.Ytgmgbfpoeclgiaa

def logErr (s : Sta) (l : List Ent) : Int := if s.err ≠ 0 then s.err else if entsErr l ≠ 0 then entsErr l else if 50 < s.pos + l.length then 2 else 0
structure LogOk (s : Sta) (l : List Ent) : Prop where
  base : StOk s
  ents : ∀ e ∈ l, EntOk e
  len : s.pos + l.length ≤ 50
theorem logErr_ok {s : Sta} {l : List Ent} : logErr s l = 0 ↔ LogOk s l := by
  unfold logErr
  constructor
  · intro h
    by_cases h0 : s.err = 0
    · by_cases h1 : entsErr l = 0
      · rw [if_neg (by omega), if_neg (by omega)] at h
        by_cases h2 : 50 < s.pos + (l.length : Int)
        · rw [if_pos h2] at h; cases h
        · exact ⟨Sta.err_ok.1 h0, (entsErr_ok.1 h1).2, by omega⟩
      · rw [if_neg (by omega), if_pos h1] at h; exact absurd h h1
    · rw [if_pos h0] at h; exact absurd h h0
  · intro h
    have h0 := Sta.err_ok.2 h.base
    have h1 := (entsErr_ok (l := l)).2 ⟨by have := h.base.pos; have := h.len; omega, h.ents⟩
    rw [if_neg (by omega), if_neg (by omega), if_neg (by have := h.len; omega)]
theorem LogOk.low {s : Sta} {l : List Ent} (h : LogOk s l) : l.length ≤ 50 := by have := h.base.pos; have := h.len; omega
def lEnd (s : Sta) (l : List Ent) : Sta × Int := if logErr s l ≠ 0 then (Sta.zero, logErr s l) else (foldS s l, 0)
def lCut (s : Sta) (l : List Ent) (n : Int) : Sta × List Ent × Int :=
  if logErr s l ≠ 0 then (Sta.zero, [], logErr s l) else if n < 0 ∨ (l.length : Int) < n then (Sta.zero, [], 3) else (foldS s (l.take n.toNat), l.drop n.toNat, 0)
def lPut (s : Sta) (l : List Ent) (e : Ent) : Sta × List Ent × Int × Int :=
  if logErr s l ≠ 0 then (Sta.zero, [], 0, logErr s l) else if e.err ≠ 0 then (Sta.zero, [], 0, e.err) else if s.pos + l.length = 50 then (Sta.zero, [], 0, 2)
  else (s, l ++ [e], ((foldS s l).apply e).2.1, 0)
section
variable {s : Sta} {l : List Ent} {e : Ent} {n : Int}
theorem lEnd_bad (h : logErr s l ≠ 0) : lEnd s l = (Sta.zero, logErr s l) := if_pos h
theorem lEnd_ok (h : logErr s l = 0) : lEnd s l = (foldS s l, 0) := if_neg (by omega)
theorem lCut_bad (h : logErr s l ≠ 0) : lCut s l n = (Sta.zero, [], logErr s l) := if_pos h
theorem lCut_rng (h : logErr s l = 0) (h1 : n < 0 ∨ (l.length : Int) < n) : lCut s l n = (Sta.zero, [], 3) := by unfold lCut; rw [if_neg (by omega), if_pos h1]
theorem lCut_ok (h : logErr s l = 0) (h1 : ¬ (n < 0 ∨ (l.length : Int) < n)) : lCut s l n = (foldS s (l.take n.toNat), l.drop n.toNat, 0) := by unfold lCut; rw [if_neg (by omega), if_neg h1]
theorem lPut_bad (h : logErr s l ≠ 0) : lPut s l e = (Sta.zero, [], 0, logErr s l) := if_pos h
theorem lPut_ent (h : logErr s l = 0) (h1 : e.err ≠ 0) : lPut s l e = (Sta.zero, [], 0, e.err) := by unfold lPut; rw [if_neg (by omega), if_pos h1]
theorem lPut_many (h : logErr s l = 0) (h1 : e.err = 0) (h2 : s.pos + (l.length : Int) = 50) : lPut s l e = (Sta.zero, [], 0, 2) := by unfold lPut; rw [if_neg (by omega), if_neg (by omega), if_pos h2]
theorem lPut_ok (h : logErr s l = 0) (h1 : e.err = 0) (h2 : ¬ s.pos + (l.length : Int) = 50) : lPut s l e = (s, l ++ [e], ((foldS s l).apply e).2.1, 0) := by unfold lPut; rw [if_neg (by omega), if_neg (by omega), if_neg h2]
theorem LogOk.cut (h : LogOk s l) {k : Nat} (hk : k ≤ l.length) : LogOk (foldS s (l.take k)) (l.drop k) ∧ (foldS s (l.take k)).pos = s.pos + k ∧ foldS (foldS s (l.take k)) (l.drop k) = foldS s l := by
  have ht : (l.take k).length = k := by simp; omega
  have hd : (l.drop k).length = l.length - k := by simp
  have hp := h.len
  obtain ⟨o1, q1⟩ := foldS_ok h.base (fun e he => h.ents e (List.mem_of_mem_take he)) (by rw [ht]; omega)
  rw [ht] at q1
  refine ⟨⟨o1, fun e he => h.ents e (List.mem_of_mem_drop he), by rw [q1, hd]; omega⟩, q1, ?_⟩
  rw [← foldS_append, List.take_append_drop]
theorem LogOk.put (h : LogOk s l) (he : EntOk e) (hp : ¬ s.pos + (l.length : Int) = 50) : LogOk s (l ++ [e]) := by
  have := h.len
  refine ⟨h.base, fun x hx => ?_, by simp; omega⟩
  rcases List.mem_append.1 hx with hx | hx
  · exact h.ents x hx
  · simp only [List.mem_singleton] at hx; subst hx; exact he
end
end Go.Proofs.Ytgmgbfpoeclgiaa
namespace Go.Proofs.Ytgmgbfpoeclgiaa
open Go.RowKit
set_option maxRecDepth 100000
set_option maxHeartbeats 4000000
def v_packCheck : VC :=
(.all 0
(.call 48 [.agg [.int .i64 (.v 0), .int .i64 (.v 1), .int .i64 (.v 2), .int .i64 (.v 3), .int .i64 (.v 4), .int .i64 (.v 5), .slO 6 (.k 0) (.v 7) (.v 8)]] [] [(12, .i)] (.int .i64 (.v 12)) .same
(.ite (.eq (.v 12) (.k 0))
(.call 58 [.slO 9 (.k 0) (.v 10) (.v 11)] [] [(13, .i)] (.int .i64 (.v 13)) .same
(.ite (.eq (.v 13) (.k 0))
(.chk (.le (.k 0) (.v 10))
(.chk (.rng .i64 (.add (.v 0) (.v 10)))
(.ite (.lt (.k 50) (.add (.v 0) (.v 10)))
(.ret (.int .i64 (.k 2)) [])
(.ret (.int .i64 (.k 0)) []))))
(.ret (.int .i64 (.v 13)) [])))
(.ret (.int .i64 (.v 12)) []))))
theorem x_packCheck (x0 : Int) (x1 : Int) (x2 : Int) (x3 : Int) (x4 : Int) (x5 : Int) (x6 : Option Loc) (x7 : Nat) (x8 : Nat) (x9 : Option Loc) (x10 : Nat) (x11 : Nat) (M : Nat → Prop) (H0 : Hp) (W0 : World) (R : Ending → World → Prop) (hH : H0.le (hpOf W0)) (h :
 (∀ b0 : Nat,
 (Cl Try.prog W0 M H0 nK 48 #[Value.agg #[vi x0, vi x1, vi x2, vi x3, vi x4, vi x5, vsl x6 x7 x8]] fun z W1 W2 => ∃ x12 : Int, z = .returned (vi x12) ∧ Ext W1 W2 ∧
 ((x12 = 0 →
  (Cl Try.prog W0 M H0 nK 58 #[vsl x9 x10 x11] fun z W3 W4 => ∃ x13 : Int, z = .returned (vi x13) ∧ Ext W3 W4 ∧
  ((x13 = 0 →
   (0 ≤ (x10 : Int) ∧ (0 ≤ (x10 : Int) →
   (inKind .i64 (x0 + (x10 : Int)) ∧ (inKind .i64 (x0 + (x10 : Int)) →
   ((50 < (x0 + (x10 : Int)) →
    Rt R W0 M H0 nK (vi 2)) ∧
   (¬ (50 < (x0 + (x10 : Int))) →
    Rt R W0 M H0 nK (vi 0)))))))) ∧
  (¬ (x13 = 0) →
   Rt R W0 M H0 nK (vi x13))))) ∧
 (¬ (x12 = 0) →
  Rt R W0 M H0 nK (vi x12)))))) :
  Calls Try.prog 43 #[Value.agg #[vi x0, vi x1, vi x2, vi x3, vi x4, vi x5, vsl x6 x7 x8, vsl x9 x10 x11]] W0 R :=
  calls_sxA (M := M) (V := v_packCheck) (hi := {}) (args := [.agg [.int .i64 (.v 0), .int .i64 (.v 1), .int .i64 (.v 2), .int .i64 (.v 3), .int .i64 (.v 4), .int .i64 (.v 5), .slO 6 (.k 0) (.v 7) (.v 8), .slO 9 (.k 0) (.v 10) (.v 11)]]) (nv := 12) (e := (upd (upd (upd (upd (upd (upd (upd (upd (upd (upd (upd (upd (fun _ => .i 0) 0 (.i x0)) 1 (.i x1)) 2 (.i x2)) 3 (.i x3)) 4 (.i x4)) 5 (.i x5)) 6 (.p x6)) 7 (.n x7)) 8 (.n x8)) 9 (.p x9)) 10 (.n x10)) 11 (.n x11))) Try.func43 hH h (by kernel_rfl) (by kernel_rfl) (by kernel_rfl)
def v_packEnd : VC :=
(.all 0
(.all 1
(.call 43 [.agg [.int .i64 (.v 0), .int .i64 (.v 1), .int .i64 (.v 2), .int .i64 (.v 3), .int .i64 (.v 4), .int .i64 (.v 5), .slO 6 (.k 0) (.v 7) (.v 8), .slO 9 (.k 0) (.v 10) (.v 11)]] [] [(12, .i)] (.int .i64 (.v 12)) .same
(.ite (.eq (.v 12) (.k 0))
(.call 34 [.agg [.int .i64 (.v 0), .int .i64 (.v 1), .int .i64 (.v 2), .int .i64 (.v 3), .int .i64 (.v 4), .int .i64 (.v 5), .slO 6 (.k 0) (.v 7) (.v 8)], .slO 9 (.k 0) (.v 10) (.v 11)] [] [(13, .i), (14, .i), (15, .i), (16, .i), (17, .i), (18, .i), (19, .p), (20, .n), (21, .n)] (.agg [.int .i64 (.v 13), .int .i64 (.v 14), .int .i64 (.v 15), .int .i64 (.v 16), .int .i64 (.v 17), .int .i64 (.v 18), .slO 19 (.k 0) (.v 20) (.v 21)]) .fresh
(.ret (.tup [.agg [.int .i64 (.v 13), .int .i64 (.v 14), .int .i64 (.v 15), .int .i64 (.v 16), .int .i64 (.v 17), .int .i64 (.v 18), .slO 19 (.k 0) (.v 20) (.v 21)], .int .i64 (.k 0)]) []))
(.ret (.tup [.agg [.int .i64 (.k 0), .int .i64 (.k 0), .int .i64 (.k 0), .int .i64 (.k 0), .int .i64 (.k 0), .int .i64 (.k 0), .c (Value.slice none 0 0)], .int .i64 (.v 12)]) [])))))
theorem x_packEnd (x0 : Int) (x1 : Int) (x2 : Int) (x3 : Int) (x4 : Int) (x5 : Int) (x6 : Option Loc) (x7 : Nat) (x8 : Nat) (x9 : Option Loc) (x10 : Nat) (x11 : Nat) (M : Nat → Prop) (H0 : Hp) (W0 : World) (R : Ending → World → Prop) (hH : H0.le (hpOf W0)) (h :
 (∀ b0 : Nat,
 (∀ b1 : Nat,
 (Cl Try.prog W0 M H0 nK 43 #[Value.agg #[vi x0, vi x1, vi x2, vi x3, vi x4, vi x5, vsl x6 x7 x8, vsl x9 x10 x11]] fun z W1 W2 => ∃ x12 : Int, z = .returned (vi x12) ∧ Ext W1 W2 ∧
 ((x12 = 0 →
  (Cl Try.prog W0 M H0 nK 34 #[Value.agg #[vi x0, vi x1, vi x2, vi x3, vi x4, vi x5, vsl x6 x7 x8], vsl x9 x10 x11] fun z W3 W4 => ∃ x13 : Int, ∃ x14 : Int, ∃ x15 : Int, ∃ x16 : Int, ∃ x17 : Int, ∃ x18 : Int, ∃ x19 : Option Loc, ∃ x20 : Nat, ∃ x21 : Nat, z = .returned (Value.agg #[vi x13, vi x14, vi x15, vi x16, vi x17, vi x18, vsl x19 x20 x21]) ∧ Fr W3 W4 H0 fun H1 =>
  Rt R W0 M H1 nK (Value.tuple #[Value.agg #[vi x13, vi x14, vi x15, vi x16, vi x17, vi x18, vsl x19 x20 x21], vi 0]))) ∧
 (¬ (x12 = 0) →
  Rt R W0 M H0 nK (Value.tuple #[Value.agg #[vi 0, vi 0, vi 0, vi 0, vi 0, vi 0, Value.slice none 0 0], vi x12]))))))) :
  Calls Try.prog 15 #[Value.agg #[vi x0, vi x1, vi x2, vi x3, vi x4, vi x5, vsl x6 x7 x8, vsl x9 x10 x11]] W0 R :=
  calls_sxA (M := M) (V := v_packEnd) (hi := {}) (args := [.agg [.int .i64 (.v 0), .int .i64 (.v 1), .int .i64 (.v 2), .int .i64 (.v 3), .int .i64 (.v 4), .int .i64 (.v 5), .slO 6 (.k 0) (.v 7) (.v 8), .slO 9 (.k 0) (.v 10) (.v 11)]]) (nv := 12) (e := (upd (upd (upd (upd (upd (upd (upd (upd (upd (upd (upd (upd (fun _ => .i 0) 0 (.i x0)) 1 (.i x1)) 2 (.i x2)) 3 (.i x3)) 4 (.i x4)) 5 (.i x5)) 6 (.p x6)) 7 (.n x7)) 8 (.n x8)) 9 (.p x9)) 10 (.n x10)) 11 (.n x11))) Try.func15 hH h (by kernel_rfl) (by kernel_rfl) (by kernel_rfl)
def v_packCut : VC :=
(.all 0
(.all 1
(.call 43 [.agg [.int .i64 (.v 0), .int .i64 (.v 1), .int .i64 (.v 2), .int .i64 (.v 3), .int .i64 (.v 4), .int .i64 (.v 5), .slO 6 (.k 0) (.v 7) (.v 8), .slO 9 (.k 0) (.v 10) (.v 11)]] [] [(13, .i)] (.int .i64 (.v 13)) .same
(.ite (.eq (.v 13) (.k 0))
(.ite (.lt (.v 12) (.k 0))
(.ret (.tup [.agg [.int .i64 (.k 0), .int .i64 (.k 0), .int .i64 (.k 0), .int .i64 (.k 0), .int .i64 (.k 0), .int .i64 (.k 0), .c (Value.slice none 0 0), .c (Value.slice none 0 0)], .int .i64 (.k 3)]) [])
(.chk (.le (.k 0) (.v 10))
(.ite (.lt (.v 10) (.v 12))
(.ret (.tup [.agg [.int .i64 (.k 0), .int .i64 (.k 0), .int .i64 (.k 0), .int .i64 (.k 0), .int .i64 (.k 0), .int .i64 (.k 0), .c (Value.slice none 0 0), .c (Value.slice none 0 0)], .int .i64 (.k 3)]) [])
(.chk (.le (.k 0) (.v 12))
(.chk (.le (.v 12) (.v 11))
(.chk (.le (.v 12) (.v 10))
(.chk (.le (.v 10) (.v 11))
(.call 34 [.agg [.int .i64 (.v 0), .int .i64 (.v 1), .int .i64 (.v 2), .int .i64 (.v 3), .int .i64 (.v 4), .int .i64 (.v 5), .slO 6 (.k 0) (.v 7) (.v 8)], .slO 9 (.k 0) (.v 12) (.v 11)] [] [(14, .i), (15, .i), (16, .i), (17, .i), (18, .i), (19, .i), (20, .p), (21, .n), (22, .n)] (.agg [.int .i64 (.v 14), .int .i64 (.v 15), .int .i64 (.v 16), .int .i64 (.v 17), .int .i64 (.v 18), .int .i64 (.v 19), .slO 20 (.k 0) (.v 21) (.v 22)]) .fresh
(.call 44 [.slO 9 (.add (.k 0) (.skip (.v 11) (.v 12) 9)) (.sub (.v 10) (.v 12)) (.sub (.v 11) (.v 12))] [] [(23, .p), (24, .n), (25, .n)] (.slO 23 (.k 0) (.v 24) (.v 25)) .fresh
(.ret (.tup [.agg [.int .i64 (.v 14), .int .i64 (.v 15), .int .i64 (.v 16), .int .i64 (.v 17), .int .i64 (.v 18), .int .i64 (.v 19), .slO 20 (.k 0) (.v 21) (.v 22), .slO 23 (.k 0) (.v 24) (.v 25)], .int .i64 (.k 0)]) []))))))))))
(.ret (.tup [.agg [.int .i64 (.k 0), .int .i64 (.k 0), .int .i64 (.k 0), .int .i64 (.k 0), .int .i64 (.k 0), .int .i64 (.k 0), .c (Value.slice none 0 0), .c (Value.slice none 0 0)], .int .i64 (.v 13)]) [])))))
theorem x_packCut (x0 : Int) (x1 : Int) (x2 : Int) (x3 : Int) (x4 : Int) (x5 : Int) (x6 : Option Loc) (x7 : Nat) (x8 : Nat) (x9 : Option Loc) (x10 : Nat) (x11 : Nat) (x12 : Int) (M : Nat → Prop) (H0 : Hp) (W0 : World) (R : Ending → World → Prop) (hH : H0.le (hpOf W0)) (h :
 (∀ b0 : Nat,
 (∀ b1 : Nat,
 (Cl Try.prog W0 M H0 nK 43 #[Value.agg #[vi x0, vi x1, vi x2, vi x3, vi x4, vi x5, vsl x6 x7 x8, vsl x9 x10 x11]] fun z W1 W2 => ∃ x13 : Int, z = .returned (vi x13) ∧ Ext W1 W2 ∧
 ((x13 = 0 →
  ((x12 < 0 →
   Rt R W0 M H0 nK (Value.tuple #[Value.agg #[vi 0, vi 0, vi 0, vi 0, vi 0, vi 0, Value.slice none 0 0, Value.slice none 0 0], vi 3])) ∧
  (¬ (x12 < 0) →
   (0 ≤ (x10 : Int) ∧ (0 ≤ (x10 : Int) →
   (((x10 : Int) < x12 →
    Rt R W0 M H0 nK (Value.tuple #[Value.agg #[vi 0, vi 0, vi 0, vi 0, vi 0, vi 0, Value.slice none 0 0, Value.slice none 0 0], vi 3])) ∧
   (¬ ((x10 : Int) < x12) →
    (0 ≤ x12 ∧ (0 ≤ x12 →
    (x12 ≤ (x11 : Int) ∧ (x12 ≤ (x11 : Int) →
    (x12 ≤ (x10 : Int) ∧ (x12 ≤ (x10 : Int) →
    ((x10 : Int) ≤ (x11 : Int) ∧ ((x10 : Int) ≤ (x11 : Int) →
    (Cl Try.prog W0 M H0 nK 34 #[Value.agg #[vi x0, vi x1, vi x2, vi x3, vi x4, vi x5, vsl x6 x7 x8], vsl x9 (x12).toNat x11] fun z W3 W4 => ∃ x14 : Int, ∃ x15 : Int, ∃ x16 : Int, ∃ x17 : Int, ∃ x18 : Int, ∃ x19 : Int, ∃ x20 : Option Loc, ∃ x21 : Nat, ∃ x22 : Nat, z = .returned (Value.agg #[vi x14, vi x15, vi x16, vi x17, vi x18, vi x19, vsl x20 x21 x22]) ∧ Fr W3 W4 H0 fun H1 =>
    (Cl Try.prog W0 M H1 nK 44 #[Value.slice (ptrAt x9 (0 + (if (x11 : Int) = x12 then 0 else x12 * ((9 : Nat) : Int)))) (((x10 : Int) - x12) : Int).toNat (((x11 : Int) - x12) : Int).toNat] fun z W5 W6 => ∃ x23 : Option Loc, ∃ x24 : Nat, ∃ x25 : Nat, z = .returned (vsl x23 x24 x25) ∧ Fr W5 W6 H1 fun H2 =>
    Rt R W0 M H2 nK (Value.tuple #[Value.agg #[vi x14, vi x15, vi x16, vi x17, vi x18, vi x19, vsl x20 x21 x22, vsl x23 x24 x25], vi 0])))))))))))))))))) ∧
 (¬ (x13 = 0) →
  Rt R W0 M H0 nK (Value.tuple #[Value.agg #[vi 0, vi 0, vi 0, vi 0, vi 0, vi 0, Value.slice none 0 0, Value.slice none 0 0], vi x13]))))))) :
  Calls Try.prog 17 #[Value.agg #[vi x0, vi x1, vi x2, vi x3, vi x4, vi x5, vsl x6 x7 x8, vsl x9 x10 x11], vi x12] W0 R :=
  calls_sxA (M := M) (V := v_packCut) (hi := {}) (args := [.agg [.int .i64 (.v 0), .int .i64 (.v 1), .int .i64 (.v 2), .int .i64 (.v 3), .int .i64 (.v 4), .int .i64 (.v 5), .slO 6 (.k 0) (.v 7) (.v 8), .slO 9 (.k 0) (.v 10) (.v 11)], .int .i64 (.v 12)]) (nv := 13) (e := (upd (upd (upd (upd (upd (upd (upd (upd (upd (upd (upd (upd (upd (fun _ => .i 0) 0 (.i x0)) 1 (.i x1)) 2 (.i x2)) 3 (.i x3)) 4 (.i x4)) 5 (.i x5)) 6 (.p x6)) 7 (.n x7)) 8 (.n x8)) 9 (.p x9)) 10 (.n x10)) 11 (.n x11)) 12 (.i x12))) Try.func17 hH h (by kernel_rfl) (by kernel_rfl) (by kernel_rfl)
def v_packPut : VC :=
(.all 0
(.all 1
(.all 2
(.call 43 [.agg [.int .i64 (.v 0), .int .i64 (.v 1), .int .i64 (.v 2), .int .i64 (.v 3), .int .i64 (.v 4), .int .i64 (.v 5), .slO 6 (.k 0) (.v 7) (.v 8), .slO 9 (.k 0) (.v 10) (.v 11)]] [] [(21, .i)] (.int .i64 (.v 21)) .same
(.ite (.eq (.v 21) (.k 0))
(.call 45 [.agg [.int .i64 (.v 12), .int .i64 (.v 13), .int .i64 (.v 14), .int .i64 (.v 15), .int .i64 (.v 16), .int .i64 (.v 17), .int .i64 (.v 18), .int .i64 (.v 19), .int .i64 (.v 20)]] [] [(22, .i)] (.int .i64 (.v 22)) .same
(.ite (.eq (.v 22) (.k 0))
(.chk (.le (.k 0) (.v 10))
(.chk (.rng .i64 (.add (.v 0) (.v 10)))
(.ite (.eq (.add (.v 0) (.v 10)) (.k 50))
(.ret (.tup [.agg [.int .i64 (.k 0), .int .i64 (.k 0), .int .i64 (.k 0), .int .i64 (.k 0), .int .i64 (.k 0), .int .i64 (.k 0), .c (Value.slice none 0 0), .c (Value.slice none 0 0)], .int .i64 (.k 0), .int .i64 (.k 2)]) [])
(.call 34 [.agg [.int .i64 (.v 0), .int .i64 (.v 1), .int .i64 (.v 2), .int .i64 (.v 3), .int .i64 (.v 4), .int .i64 (.v 5), .slO 6 (.k 0) (.v 7) (.v 8)], .slO 9 (.k 0) (.v 10) (.v 11)] [] [(23, .i), (24, .i), (25, .i), (26, .i), (27, .i), (28, .i), (29, .p), (30, .n), (31, .n)] (.agg [.int .i64 (.v 23), .int .i64 (.v 24), .int .i64 (.v 25), .int .i64 (.v 26), .int .i64 (.v 27), .int .i64 (.v 28), .slO 29 (.k 0) (.v 30) (.v 31)]) .fresh
(.call 46 [.agg [.int .i64 (.v 23), .int .i64 (.v 24), .int .i64 (.v 25), .int .i64 (.v 26), .int .i64 (.v 27), .int .i64 (.v 28), .slO 29 (.k 0) (.v 30) (.v 31)], .agg [.int .i64 (.v 12), .int .i64 (.v 13), .int .i64 (.v 14), .int .i64 (.v 15), .int .i64 (.v 16), .int .i64 (.v 17), .int .i64 (.v 18), .int .i64 (.v 19), .int .i64 (.v 20)]] [] [(32, .i), (33, .i), (34, .i), (35, .i), (36, .i), (37, .i), (38, .p), (39, .n), (40, .n), (41, .i), (42, .b)] (.tup [.agg [.int .i64 (.v 32), .int .i64 (.v 33), .int .i64 (.v 34), .int .i64 (.v 35), .int .i64 (.v 36), .int .i64 (.v 37), .slO 38 (.k 0) (.v 39) (.v 40)], .int .i64 (.v 41), .bool (.v 42)]) .fresh
(.all 3
(.call 47 [.agg [.int .i64 (.v 0), .int .i64 (.v 1), .int .i64 (.v 2), .int .i64 (.v 3), .int .i64 (.v 4), .int .i64 (.v 5), .slO 6 (.k 0) (.v 7) (.v 8)]] [] [(43, .i), (44, .i), (45, .i), (46, .i), (47, .i), (48, .i), (49, .p), (50, .n), (51, .n)] (.agg [.int .i64 (.v 43), .int .i64 (.v 44), .int .i64 (.v 45), .int .i64 (.v 46), .int .i64 (.v 47), .int .i64 (.v 48), .slO 49 (.k 0) (.v 50) (.v 51)]) .fresh
(.call 44 [.slO 9 (.k 0) (.v 10) (.v 11)] [] [(52, .p), (53, .n), (54, .n)] (.slO 52 (.k 0) (.v 53) (.v 54)) .fresh
(.all 4
(.esc (.bi .append #[26, 26] 26) [.slO 52 (.k 0) (.v 53) (.v 54), .slK 4 0 1 1] [(4, ⟨[.int .i64 (.v 12), .int .i64 (.v 13), .int .i64 (.v 14), .int .i64 (.v 15), .int .i64 (.v 16), .int .i64 (.v 17), .int .i64 (.v 18), .int .i64 (.v 19), .int .i64 (.v 20)], 43⟩)] [(55, .p), (56, .n), (57, .n)] (some (.slO 55 (.k 0) (.v 56) (.v 57))) .turn
(.ret (.tup [.agg [.int .i64 (.v 43), .int .i64 (.v 44), .int .i64 (.v 45), .int .i64 (.v 46), .int .i64 (.v 47), .int .i64 (.v 48), .slO 49 (.k 0) (.v 50) (.v 51), .slO 55 (.k 0) (.v 56) (.v 57)], .int .i64 (.v 41), .int .i64 (.k 0)]) [])))))))))))
(.ret (.tup [.agg [.int .i64 (.k 0), .int .i64 (.k 0), .int .i64 (.k 0), .int .i64 (.k 0), .int .i64 (.k 0), .int .i64 (.k 0), .c (Value.slice none 0 0), .c (Value.slice none 0 0)], .int .i64 (.k 0), .int .i64 (.v 22)]) [])))
(.ret (.tup [.agg [.int .i64 (.k 0), .int .i64 (.k 0), .int .i64 (.k 0), .int .i64 (.k 0), .int .i64 (.k 0), .int .i64 (.k 0), .c (Value.slice none 0 0), .c (Value.slice none 0 0)], .int .i64 (.k 0), .int .i64 (.v 21)]) []))))))
theorem x_packPut (x0 : Int) (x1 : Int) (x2 : Int) (x3 : Int) (x4 : Int) (x5 : Int) (x6 : Option Loc) (x7 : Nat) (x8 : Nat) (x9 : Option Loc) (x10 : Nat) (x11 : Nat) (x12 : Int) (x13 : Int) (x14 : Int) (x15 : Int) (x16 : Int) (x17 : Int) (x18 : Int) (x19 : Int) (x20 : Int) (M : Nat → Prop) (H0 : Hp) (W0 : World) (R : Ending → World → Prop) (hH : H0.le (hpOf W0)) (h :
 (∀ b0 : Nat,
 (∀ b1 : Nat,
 (∀ b2 : Nat,
 (Cl Try.prog W0 M H0 nK 43 #[Value.agg #[vi x0, vi x1, vi x2, vi x3, vi x4, vi x5, vsl x6 x7 x8, vsl x9 x10 x11]] fun z W1 W2 => ∃ x21 : Int, z = .returned (vi x21) ∧ Ext W1 W2 ∧
 ((x21 = 0 →
  (Cl Try.prog W0 M H0 nK 45 #[Value.agg #[vi x12, vi x13, vi x14, vi x15, vi x16, vi x17, vi x18, vi x19, vi x20]] fun z W3 W4 => ∃ x22 : Int, z = .returned (vi x22) ∧ Ext W3 W4 ∧
  ((x22 = 0 →
   (0 ≤ (x10 : Int) ∧ (0 ≤ (x10 : Int) →
   (inKind .i64 (x0 + (x10 : Int)) ∧ (inKind .i64 (x0 + (x10 : Int)) →
   (((x0 + (x10 : Int)) = 50 →
    Rt R W0 M H0 nK (Value.tuple #[Value.agg #[vi 0, vi 0, vi 0, vi 0, vi 0, vi 0, Value.slice none 0 0, Value.slice none 0 0], vi 0, vi 2])) ∧
   (¬ ((x0 + (x10 : Int)) = 50) →
    (Cl Try.prog W0 M H0 nK 34 #[Value.agg #[vi x0, vi x1, vi x2, vi x3, vi x4, vi x5, vsl x6 x7 x8], vsl x9 x10 x11] fun z W5 W6 => ∃ x23 : Int, ∃ x24 : Int, ∃ x25 : Int, ∃ x26 : Int, ∃ x27 : Int, ∃ x28 : Int, ∃ x29 : Option Loc, ∃ x30 : Nat, ∃ x31 : Nat, z = .returned (Value.agg #[vi x23, vi x24, vi x25, vi x26, vi x27, vi x28, vsl x29 x30 x31]) ∧ Fr W5 W6 H0 fun H1 =>
    (Cl Try.prog W0 M H1 nK 46 #[Value.agg #[vi x23, vi x24, vi x25, vi x26, vi x27, vi x28, vsl x29 x30 x31], Value.agg #[vi x12, vi x13, vi x14, vi x15, vi x16, vi x17, vi x18, vi x19, vi x20]] fun z W7 W8 => ∃ x32 : Int, ∃ x33 : Int, ∃ x34 : Int, ∃ x35 : Int, ∃ x36 : Int, ∃ x37 : Int, ∃ x38 : Option Loc, ∃ x39 : Nat, ∃ x40 : Nat, ∃ x41 : Int, ∃ x42 : Bool, z = .returned (Value.tuple #[Value.agg #[vi x32, vi x33, vi x34, vi x35, vi x36, vi x37, vsl x38 x39 x40], vi x41, vb (x42)]) ∧ Fr W7 W8 H1 fun H2 =>
    (∀ b3 : Nat,
    (Cl Try.prog W0 M H2 nK 47 #[Value.agg #[vi x0, vi x1, vi x2, vi x3, vi x4, vi x5, vsl x6 x7 x8]] fun z W9 W10 => ∃ x43 : Int, ∃ x44 : Int, ∃ x45 : Int, ∃ x46 : Int, ∃ x47 : Int, ∃ x48 : Int, ∃ x49 : Option Loc, ∃ x50 : Nat, ∃ x51 : Nat, z = .returned (Value.agg #[vi x43, vi x44, vi x45, vi x46, vi x47, vi x48, vsl x49 x50 x51]) ∧ Fr W9 W10 H2 fun H3 =>
    (Cl Try.prog W0 M H3 nK 44 #[vsl x9 x10 x11] fun z W11 W12 => ∃ x52 : Option Loc, ∃ x53 : Nat, ∃ x54 : Nat, z = .returned (vsl x52 x53 x54) ∧ Fr W11 W12 H3 fun H4 =>
    (∀ b4 : Nat,
    (Es W0 M H4 (fun W => Kn W0 M H4 W b4 (Obj.cells #[vi x12, vi x13, vi x14, vi x15, vi x16, vi x17, vi x18, vi x19, vi x20] 43 (0, 0)) ∧ True) fun W13 => ∃ x55 : Option Loc, ∃ x56 : Nat, ∃ x57 : Nat, Eo Try.prog (.bi .append #[26, 26] 26) [vsl x52 x53 x54, Value.slice (some ⟨b4, 0, none⟩) 1 1] W13 (.value (vsl x55 x56 x57)) fun W14 => Tn W0 M H4 W13 W14 fun H5 =>
    Rt R W0 M H5 nK (Value.tuple #[Value.agg #[vi x43, vi x44, vi x45, vi x46, vi x47, vi x48, vsl x49 x50 x51, vsl x55 x56 x57], vi x41, vi 0]))))))))))))))) ∧
  (¬ (x22 = 0) →
   Rt R W0 M H0 nK (Value.tuple #[Value.agg #[vi 0, vi 0, vi 0, vi 0, vi 0, vi 0, Value.slice none 0 0, Value.slice none 0 0], vi 0, vi x22]))))) ∧
 (¬ (x21 = 0) →
  Rt R W0 M H0 nK (Value.tuple #[Value.agg #[vi 0, vi 0, vi 0, vi 0, vi 0, vi 0, Value.slice none 0 0, Value.slice none 0 0], vi 0, vi x21])))))))) :
  Calls Try.prog 18 #[Value.agg #[vi x0, vi x1, vi x2, vi x3, vi x4, vi x5, vsl x6 x7 x8, vsl x9 x10 x11], Value.agg #[vi x12, vi x13, vi x14, vi x15, vi x16, vi x17, vi x18, vi x19, vi x20]] W0 R :=
  calls_sxA (M := M) (V := v_packPut) (hi := {}) (args := [.agg [.int .i64 (.v 0), .int .i64 (.v 1), .int .i64 (.v 2), .int .i64 (.v 3), .int .i64 (.v 4), .int .i64 (.v 5), .slO 6 (.k 0) (.v 7) (.v 8), .slO 9 (.k 0) (.v 10) (.v 11)], .agg [.int .i64 (.v 12), .int .i64 (.v 13), .int .i64 (.v 14), .int .i64 (.v 15), .int .i64 (.v 16), .int .i64 (.v 17), .int .i64 (.v 18), .int .i64 (.v 19), .int .i64 (.v 20)]]) (nv := 21) (e := (upd (upd (upd (upd (upd (upd (upd (upd (upd (upd (upd (upd (upd (upd (upd (upd (upd (upd (upd (upd (upd (fun _ => .i 0) 0 (.i x0)) 1 (.i x1)) 2 (.i x2)) 3 (.i x3)) 4 (.i x4)) 5 (.i x5)) 6 (.p x6)) 7 (.n x7)) 8 (.n x8)) 9 (.p x9)) 10 (.n x10)) 11 (.n x11)) 12 (.i x12)) 13 (.i x13)) 14 (.i x14)) 15 (.i x15)) 16 (.i x16)) 17 (.i x17)) 18 (.i x18)) 19 (.i x19)) 20 (.i x20))) Try.func18 hH h (by kernel_rfl) (by kernel_rfl) (by kernel_rfl)
def v_cloneE : VC :=
(.esc (.bop .eql 26 (.tmp 3) (.const (Value.slice none 0 0))) [.slO 0 (.k 0) (.v 1) (.v 2), .c (Value.slice none 0 0)] [] [(3, .b)] (some (.bool (.v 3))) .same
(.ite (.v 3)
(.ret (.c (Value.slice none 0 0)) [])
(.all 0
(.esc (.bi .append #[26, 26] 26) [.slK 0 0 0 0, .slO 0 (.k 0) (.v 1) (.v 2)] [(0, ⟨[], 43⟩)] [(4, .p), (5, .n), (6, .n)] (some (.slO 4 (.k 0) (.v 5) (.v 6))) .turn
(.ret (.slO 4 (.k 0) (.v 5) (.v 6)) [])))))
theorem x_cloneE (x0 : Option Loc) (x1 : Nat) (x2 : Nat) (M : Nat → Prop) (H0 : Hp) (W0 : World) (R : Ending → World → Prop) (hH : H0.le (hpOf W0)) (h :
 (Es W0 M H0 nK fun W1 => ∃ x3 : Bool, Eo Try.prog (.bop .eql 26 (.tmp 3) (.const (Value.slice none 0 0))) [vsl x0 x1 x2, Value.slice none 0 0] W1 (.value (vb (x3))) fun W2 => Ext W1 W2 ∧
 ((x3 = true →
  Rt R W0 M H0 nK (Value.slice none 0 0)) ∧
 (¬ (x3 = true) →
  (∀ b0 : Nat,
  (Es W0 M H0 (fun W => Kn W0 M H0 W b0 (Obj.cells #[] 43 (0, 0)) ∧ True) fun W3 => ∃ x4 : Option Loc, ∃ x5 : Nat, ∃ x6 : Nat, Eo Try.prog (.bi .append #[26, 26] 26) [Value.slice (some ⟨b0, 0, none⟩) 0 0, vsl x0 x1 x2] W3 (.value (vsl x4 x5 x6)) fun W4 => Tn W0 M H0 W3 W4 fun H1 =>
  Rt R W0 M H1 nK (vsl x4 x5 x6))))))) :
  Calls Try.prog 44 #[vsl x0 x1 x2] W0 R :=
  calls_sxA (M := M) (V := v_cloneE) (hi := {}) (args := [.slO 0 (.k 0) (.v 1) (.v 2)]) (nv := 3) (e := (upd (upd (upd (fun _ => .i 0) 0 (.p x0)) 1 (.n x1)) 2 (.n x2))) Try.func44 hH h (by kernel_rfl) (by kernel_rfl) (by kernel_rfl)
end Go.Proofs.Ytgmgbfpoeclgiaa
namespace Go.Proofs.Ytgmgbfpoeclgiaa
open Go.RowKit
abbrev logV (s : Sta) (v w : Value) : Value := .agg #[vi s.pos, vi s.clock, vi s.vals.a, vi s.vals.b, vi s.vals.c, vi s.vals.d, v, w]
section
variable {H : Hp} {p q : Option Loc} {n c m d : Nat} {s : Sta} {l : List Ent}
theorem c_packCheck (hT : Tab H p n c s.table) (hE : Ents H q m d l) : Gv Try.prog 43 #[logV s (vsl p n c) (vsl q m d)] H (vi (logErr s l)) := fun W hH => by
  have hm := hE.len
  unfold logErr
  refine x_packCheck _ _ _ _ _ _ p n c q m d noM H W _ hH fun b0 => ?_
  refine Cl.same (c_stCheck hT) fun _ _ hx => ⟨_, rfl, hx, fun h0 => ?_, fun h0 => Rt.gv' (by rw [if_pos h0])⟩
  rw [if_neg (by omega)]
  refine Cl.same (c_foldCheck hE) fun _ _ hx => ⟨_, rfl, hx, fun h1 => ?_, fun h1 => Rt.gv' (by rw [if_pos h1])⟩
  rw [if_neg (by omega)]
  have hpos := (Sta.err_ok.1 h0).pos
  have h50 := (entsErr_ok.1 h1).1
  exact ⟨by omega, fun _ => ⟨in64 (by omega), fun _ => ⟨fun h2 => Rt.gv' (by rw [if_pos (by omega)]), fun h2 => Rt.gv' (by rw [if_neg (by omega)])⟩⟩⟩
def EndPost (r : Sta × Int) (v : Value) (D : Hp) : Prop := ∃ p n c, v = .tuple #[r.1.val (vsl p n c), vi r.2] ∧ Tab D p n c r.1.table
def LogPost (r : Sta × List Ent × Int) (v : Value) (D : Hp) : Prop := ∃ p n c q m d, v = .tuple #[logV r.1 (vsl p n c) (vsl q m d), vi r.2.2] ∧ Tab D p n c r.1.table ∧ Ents D q m d r.2.1
def PutPost (r : Sta × List Ent × Int × Int) (v : Value) (D : Hp) : Prop := ∃ p n c q m d, v = .tuple #[logV r.1 (vsl p n c) (vsl q m d), vi r.2.2.1, vi r.2.2.2] ∧ Tab D p n c r.1.table ∧ Ents D q m d r.2.1
theorem EndPost.bad (D : Hp) (x : Int) : EndPost (Sta.zero, x) (.tuple #[Sta.zero.val (Value.slice none 0 0), vi x]) D := ⟨none, 0, 0, rfl, Tab.nil _ _⟩
theorem LogPost.bad (D : Hp) (x : Int) : LogPost (Sta.zero, [], x) (.tuple #[logV Sta.zero (Value.slice none 0 0) (Value.slice none 0 0), vi x]) D := ⟨none, 0, 0, none, 0, 0, rfl, Tab.nil _ _, Ents.nil _ _⟩
theorem PutPost.bad (D : Hp) (x y : Int) : PutPost (Sta.zero, [], x, y) (.tuple #[logV Sta.zero (Value.slice none 0 0) (Value.slice none 0 0), vi x, vi y]) D := ⟨none, 0, 0, none, 0, 0, rfl, Tab.nil _ _, Ents.nil _ _⟩
theorem c_packEnd (hT : Tab H p n c s.table) (hE : Ents H q m d l) : Gf Try.prog 15 #[logV s (vsl p n c) (vsl q m d)] H (EndPost (lEnd s l)) := fun W hH => by
  refine x_packEnd _ _ _ _ _ _ p n c q m d noM H W _ hH fun b0 b1 => ?_
  refine Cl.same (c_packCheck hT hE) fun _ _ hx => ⟨_, rfl, hx, fun h0 => ?_, fun h0 => Rt.gfn (by rw [lEnd_bad h0]; exact EndPost.bad _ _)⟩
  have ho := logErr_ok.1 h0
  rw [lEnd_ok h0]
  refine Cl.fresh (c_last hT ho.base hE ho.ents ho.len) ?_
  rintro v W1 W2 D ⟨p1, n1, c1, rfl, hT1⟩ hx hD hf nn
  exact ⟨_, _, _, _, _, _, p1, n1, c1, rfl, hx, D, hD, hf, fun H1 h1 hd1 => Rt.gfn ⟨p1, n1, c1, rfl, hT1.mono (le_newer hd1 (fun b o h => Nat.le_trans nn.mod.size (hf b o h)))⟩⟩
theorem infoEnt : infoIs Try.prog 43 9 72 = true := by kernel_rfl
theorem c_cloneE (hE : Ents H q m d l) (hb : m ≤ 1099511627776) : Gf Try.prog 44 #[vsl q m d] H fun v D => ∃ p' c' g, v = vsl p' m c' ∧ Ow D 43 9 p' m c' (l.map Ent.row) g := fun W hH => by
  refine x_cloneE q m d noM H W _ hH ?_
  intro W1 n1 _
  refine ⟨_, _, ek_nil Try.underlying26 _ _ q m d W1, Ext.refl _, fun h => Rt.gfn ?_, fun h b0 => ?_⟩
  · have hp : q = none := by simpa using h
    subst hp
    have hn : m = 0 := by
      rcases Nat.eq_zero_or_pos m with h0 | h0
      · exact h0
      · obtain ⟨r, _, hat, _⟩ := hE.at h0
        have := hat.isSome
        cases this
    subst hn
    have hl : l = [] := List.length_eq_zero_iff.1 hE.len.symm
    subst hl
    exact ⟨none, 0, none, rfl, Ow.nil _ _ _ _⟩
  · intro W3 n3 _
    obtain ⟨p', c', g, W', H', h1, h2, h3, h4, h5⟩ := ek_clone (P := Try.prog) Try.underlying26 infoEnt (by omega) n3 (some (b0, 0)) hE.2.2.1 (ones_E l) (by omega) (by simp only [maxLen]; omega) 26 (c := d)
    refine ⟨p', m, c', W', h1, H', h2, Rt.gfn ⟨p', c', g, rfl, h3.new (fun b hb => Nat.le_trans n3.mod.size (h4 b hb))⟩⟩
theorem c_packCut (hT : Tab H p n c s.table) (hE : Ents H q m d l) (x : Int) : Gf Try.prog 17 #[logV s (vsl p n c) (vsl q m d), vi x] H (LogPost (lCut s l x)) := fun W hH => by
  have hm := hE.len
  have hcap := hE.1
  refine x_packCut _ _ _ _ _ _ p n c q m d x noM H W _ hH fun b0 b1 => ?_
  refine Cl.same (c_packCheck hT hE) fun _ _ hx => ⟨_, rfl, hx, fun h0 => ?_, fun h0 => Rt.gfn (by rw [lCut_bad h0]; exact LogPost.bad _ _)⟩
  have ho := logErr_ok.1 h0
  refine ⟨fun h1 => Rt.gfn (by rw [lCut_rng h0 (by omega)]; exact LogPost.bad _ _), fun h1 => ⟨by omega, fun _ => ⟨fun h2 => Rt.gfn (by rw [lCut_rng h0 (by omega)]; exact LogPost.bad _ _), fun h2 => ?_⟩⟩⟩
  rw [lCut_ok h0 (by omega)]
  obtain ⟨k, rfl⟩ := Int.eq_ofNat_of_zero_le (show 0 ≤ x by omega)
  rw [Int.toNat_natCast]
  obtain ⟨hc, _, _⟩ := ho.cut (k := k) (by omega)
  refine ⟨by omega, fun _ => ⟨by omega, fun _ => ⟨by omega, fun _ => ⟨by omega, fun _ => ?_⟩⟩⟩⟩
  refine Cl.fresh (c_last hT ho.base (hE.take k (by omega)) (fun e he => ho.ents e (List.mem_of_mem_take he)) (by have := ho.len; rw [List.length_take]; omega)) ?_
  rintro v W1 W2 D ⟨p1, n1, c1, rfl, hT1⟩ hx hD hf nn
  refine ⟨_, _, _, _, _, _, p1, n1, c1, rfl, hx, D, hD, hf, fun H1 h1 hd1 => ?_⟩
  obtain ⟨q', e1, hE'⟩ := (hE.mono h1).drop k (by omega)
  rw [e1]
  refine Cl.fresh (c_cloneE hE' (by have := ho.low; omega)) ?_
  rintro v W3 W4 D2 ⟨p2, c2, g2, rfl, hO⟩ hx hD2 hf2 nn2
  refine ⟨p2, _, c2, rfl, hx, D2, hD2, hf2, fun H2 h2 hd2 => Rt.gfn ⟨p1, n1, c1, p2, _, c2, rfl, ?_, ?_⟩⟩
  · exact hT1.mono (le_newer (Hp.le_trans hd1 h2) (fun b o h => Nat.le_trans nn.mod.size (hf b o h)))
  · exact (Ents.of_ow hO (fun e he => hE.2.2.2 e (List.mem_of_mem_drop he))).mono (le_newer hd2 (fun b o h => Nat.le_trans nn2.mod.size (hf2 b o h)))
theorem ones_e (e : Ent) : ∀ v ∈ e.row, v.oneCell' = true := fun v hv => ones_E [e] e.row (by simp) v hv
theorem c_packPut (hT : Tab H p n c s.table) (hE : Ents H q m d l) {e : Ent} (he64 : e.in64) : Gf Try.prog 18 #[logV s (vsl p n c) (vsl q m d), e.val] H (PutPost (lPut s l e)) := fun W hH => by
  have hm := hE.len
  refine x_packPut _ _ _ _ _ _ p n c q m d _ _ _ _ _ _ _ _ _ noM H W _ hH fun b0 b1 b2 => ?_
  refine Cl.same (c_packCheck hT hE) fun _ _ hx => ⟨_, rfl, hx, fun h0 => ?_, fun h0 => Rt.gfn (by rw [lPut_bad h0]; exact PutPost.bad _ _ _)⟩
  have ho := logErr_ok.1 h0
  have hpos := ho.base.pos
  have hlen := ho.len
  refine Cl.same (c_entCheck e H) fun _ _ hx => ⟨_, rfl, hx, fun h1 => ?_, fun h1 => Rt.gfn (by rw [lPut_ent h0 h1]; exact PutPost.bad _ _ _)⟩
  refine ⟨by omega, fun _ => ⟨in64 (by omega), fun _ => ⟨fun h2 => Rt.gfn (by rw [lPut_many h0 h1 (by omega)]; exact PutPost.bad _ _ _), fun h2 => ?_⟩⟩⟩
  rw [lPut_ok h0 h1 (by omega)]
  obtain ⟨fo, fp⟩ := foldS_ok ho.base ho.ents ho.len
  refine Cl.fresh (c_last hT ho.base hE ho.ents ho.len) ?_
  rintro v W1 W2 D ⟨p1, n1, c1, rfl, hT1⟩ hx hD hf nn
  refine ⟨_, _, _, _, _, _, p1, n1, c1, rfl, hx, D, hD, hf, fun H1 hA hd1 => ?_⟩
  refine Cl.fresh (c_next (hT1.mono hd1) fo (by omega) (Ent.err_ok.1 h1)) ?_
  rintro v W3 W4 D2 ⟨p2, n2, c2, es, g, rfl, _, _⟩ hx hD2 hf2 nn2
  refine ⟨_, _, _, _, _, _, p2, n2, c2, _, _, rfl, hx, D2, hD2, hf2, fun H2 h2 hd2 b3 => ?_⟩
  refine Cl.fresh (c_stOwn ((hT.mono hA).mono h2) (Small.of_ok ho.base.table)) ?_
  rintro v W5 W6 D3 ⟨p3, c3, es3, g3, rfl, hO3, he3⟩ hx hD3 hf3 nn3
  refine ⟨_, _, _, _, _, _, p3, n, c3, rfl, hx, D3, hD3, hf3, fun H3 h3 hd3 => ?_⟩
  have hT3 := hO3.tab
  rw [he3] at hT3
  refine Cl.fresh (c_cloneE (((hE.mono hA).mono h2).mono h3) (by omega)) ?_
  rintro v W7 W8 D4 ⟨p4, c4, g4, rfl, hO4⟩ hx hD4 hf4 nn4
  refine ⟨p4, m, c4, rfl, hx, D4, hD4, hf4, fun H4 h4 hd4 b4 => ?_⟩
  intro W9 n9 k9
  have hO5 := hO4.mono fun b _ o h => hd4 b o h
  have hg4 : ∀ b, g4 = some b → W7.heap.size ≤ b := fun b hb => by
    obtain ⟨o, ho⟩ := hO4.held b hb
    exact hf4 b o ho
  obtain ⟨r1, y1, g1, W10, H5, run1, hu1, oa, hg1, _⟩ := run_append1 (P := Try.prog) Try.underlying26 infoEnt (by omega) n9.sub hO5 (row := e.row) k9.1.eq k9.1.off rfl (ones_e e) (by simp only [maxLen]; omega) (by omega) 26
  have sz := nn4.mod.size
  refine ⟨r1, m + 1, y1, W10, run1, H5, hu1.own hO5 (fun b hb => .inl (by have := hg4 b hb; omega)), Rt.gfn ⟨p3, n, c3, r1, _, y1, rfl, ?_, ?_⟩⟩
  · refine hT3.mono (le_newer (hu1.keep n9.sub (Hp.le_trans hd3 h4) (fun b hb => ?_)) (fun b o h => Nat.le_trans nn3.mod.size (hf3 b o h)))
    exact old_none (Hp.le_trans hd3 nn4.sub) (hg4 b hb)
  · rw [show l.map Ent.row ++ [e.row] = (l ++ [e]).map Ent.row by simp] at oa
    refine Ents.of_ow (oa.new fun b hb => ?_) (fun x hx => ?_)
    · rcases hg1 with h | h
      · have := hg4 b (h ▸ hb); omega
      · rw [h] at hb; simp only [Option.some.injEq] at hb; have := n9.mod.size; omega
    · rcases List.mem_append.1 hx with hx | hx
      · exact hE.2.2.2 x hx
      · simp only [List.mem_singleton] at hx; subst hx; exact he64
end
end Go.Proofs.Ytgmgbfpoeclgiaa
