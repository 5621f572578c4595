/- Logs, packed, as the document says it, over plain data. No program in sight. No conditions. Symbolic runs of functions: what each leaves to prove is enough for its call. Printed by a program of ours. No conditions. Contracts of package pack, and of what the document says of it. No conditions. -/
import Derived.Test.YtfpmcmhihhnfgaaGreatKF1
import Derived.Test.YtfpmcmhihhnfgaaGreatKE3
import Derived.Test.YtfpmcmhihhnfgaaGreatProg
import Derived.Test.YtfpmcmhihhnfgaaGreatKF3
import Derived.Test.YtfpmcmhihhnfgaaGreatKT1
set_option linter.unusedVariables false
set_option linter.unusedSimpArgs false
namespace Go.Proofs.YtfpmcmhihhnfgaaGreat

def logErr (s : Sta) (l : List Ent) : Int := if s.err ≠ 0 then s.err else if entsErr l ≠ 0 then entsErr l else if 50 < s.pos + l.length then 2 else 0
structure LogOk (s : Sta) (l : List Ent) : Prop where
  base : StOk s
  ents : ∀ e ∈ l, EntOk e
  len : s.pos + l.length ≤ 50
theorem logErr_ok {s : Sta} {l : List Ent} : logErr s l = 0 ↔ LogOk s l := by
  unfold logErr
  constructor
  · intro h
    by_cases h0 : s.err = 0
    · by_cases h1 : entsErr l = 0
      · rw [if_neg (by omega), if_neg (by omega)] at h
        by_cases h2 : 50 < s.pos + (l.length : Int)
        · rw [if_pos h2] at h; cases h
        · exact ⟨Sta.err_ok.1 h0, (entsErr_ok.1 h1).2, by omega⟩
      · rw [if_neg (by omega), if_pos h1] at h; exact absurd h h1
    · rw [if_pos h0] at h; exact absurd h h0
  · intro h
    have h0 := Sta.err_ok.2 h.base
    have h1 := (entsErr_ok (l := l)).2 ⟨by have := h.base.pos; have := h.len; omega, h.ents⟩
    rw [if_neg (by omega), if_neg (by omega), if_neg (by have := h.len; omega)]
theorem LogOk.low {s : Sta} {l : List Ent} (h : LogOk s l) : l.length ≤ 50 := by have := h.base.pos; have := h.len; omega
def lEnd (s : Sta) (l : List Ent) : Sta × Int := if logErr s l ≠ 0 then (Sta.zero, logErr s l) else (foldS s l, 0)
def lCut (s : Sta) (l : List Ent) (n : Int) : Sta × List Ent × Int :=
  if logErr s l ≠ 0 then (Sta.zero, [], logErr s l) else if n < 0 ∨ (l.length : Int) < n then (Sta.zero, [], 3) else (foldS s (l.take n.toNat), l.drop n.toNat, 0)
def lPut (s : Sta) (l : List Ent) (e : Ent) : Sta × List Ent × Int × Int :=
  if logErr s l ≠ 0 then (Sta.zero, [], 0, logErr s l) else if e.err ≠ 0 then (Sta.zero, [], 0, e.err) else if s.pos + l.length = 50 then (Sta.zero, [], 0, 2)
  else (s, l ++ [e], ((foldS s l).apply e).2.1, 0)
section
variable {s : Sta} {l : List Ent} {e : Ent} {n : Int}
theorem lEnd_bad (h : logErr s l ≠ 0) : lEnd s l = (Sta.zero, logErr s l) := if_pos h
theorem lEnd_ok (h : logErr s l = 0) : lEnd s l = (foldS s l, 0) := if_neg (by omega)
theorem lCut_bad (h : logErr s l ≠ 0) : lCut s l n = (Sta.zero, [], logErr s l) := if_pos h
theorem lCut_rng (h : logErr s l = 0) (h1 : n < 0 ∨ (l.length : Int) < n) : lCut s l n = (Sta.zero, [], 3) := by unfold lCut; rw [if_neg (by omega), if_pos h1]
theorem lCut_ok (h : logErr s l = 0) (h1 : ¬ (n < 0 ∨ (l.length : Int) < n)) : lCut s l n = (foldS s (l.take n.toNat), l.drop n.toNat, 0) := by unfold lCut; rw [if_neg (by omega), if_neg h1]
theorem lPut_bad (h : logErr s l ≠ 0) : lPut s l e = (Sta.zero, [], 0, logErr s l) := if_pos h
theorem lPut_ent (h : logErr s l = 0) (h1 : e.err ≠ 0) : lPut s l e = (Sta.zero, [], 0, e.err) := by unfold lPut; rw [if_neg (by omega), if_pos h1]
theorem lPut_many (h : logErr s l = 0) (h1 : e.err = 0) (h2 : s.pos + (l.length : Int) = 50) : lPut s l e = (Sta.zero, [], 0, 2) := by unfold lPut; rw [if_neg (by omega), if_neg (by omega), if_pos h2]
theorem lPut_ok (h : logErr s l = 0) (h1 : e.err = 0) (h2 : ¬ s.pos + (l.length : Int) = 50) : lPut s l e = (s, l ++ [e], ((foldS s l).apply e).2.1, 0) := by unfold lPut; rw [if_neg (by omega), if_neg (by omega), if_neg h2]
theorem LogOk.cut (h : LogOk s l) {k : Nat} (hk : k ≤ l.length) : LogOk (foldS s (l.take k)) (l.drop k) ∧ (foldS s (l.take k)).pos = s.pos + k ∧ foldS (foldS s (l.take k)) (l.drop k) = foldS s l := by
  have ht : (l.take k).length = k := by simp; omega
  have hd : (l.drop k).length = l.length - k := by simp
  have hp := h.len
  obtain ⟨o1, q1⟩ := foldS_ok h.base (fun e he => h.ents e (List.mem_of_mem_take he)) (by rw [ht]; omega)
  rw [ht] at q1
  refine ⟨⟨o1, fun e he => h.ents e (List.mem_of_mem_drop he), by rw [q1, hd]; omega⟩, q1, ?_⟩
  rw [← foldS_append, List.take_append_drop]
theorem LogOk.put (h : LogOk s l) (he : EntOk e) (hp : ¬ s.pos + (l.length : Int) = 50) : LogOk s (l ++ [e]) := by
  have := h.len
  refine ⟨h.base, fun x hx => ?_, by simp; omega⟩
  rcases List.mem_append.1 hx with hx | hx
  · exact h.ents x hx
  · simp only [List.mem_singleton] at hx; subst hx; exact he
end
end Go.Proofs.YtfpmcmhihhnfgaaGreat
namespace Go.Proofs.YtfpmcmhihhnfgaaGreat
open Go.RowKit
set_option maxRecDepth 100000
set_option maxHeartbeats 4000000
def v_packCheck : VC :=
(.all 0
(.call 41 [.agg [vI 0, vI 1, vI 2, vI 3, vI 4, vI 5, vS 6]] [] [(12, .i)] (vI 12) .same
(.ite (.eq (.v 12) (.k 0))
(.call 49 [vS 9] [] [(13, .i)] (vI 13) .same
(.ite (.eq (.v 13) (.k 0))
(.chk (.le (.k 0) (.v 10))
(.chk (.rng .i64 (.add (.v 0) (.v 10)))
(.ite (.lt (.k 50) (.add (.v 0) (.v 10)))
(.ret (.int .i64 (.k 2)) [])
(.ret (.int .i64 (.k 0)) []))))
(.ret (vI 13) [])))
(.ret (vI 12) []))))
theorem x_packCheck (x0 x1 x2 x3 x4 x5 : Int) (x6 : Option Loc) (x7 x8 : Nat) (x9 : Option Loc) (x10 x11 : Nat) (M : Nat → Prop) (H0 : Hp) (W0 : World) (R : Ending → World → Prop) (hH : H0.le (hpOf W0)) (h :
 (∀ b0 : Nat,
 (Cl Tryz.prog W0 M H0 nK 41 #[Value.agg #[vi x0, vi x1, vi x2, vi x3, vi x4, vi x5, vsl x6 x7 x8]] fun z W1 W2 => ∃ x12 : Int, z = .returned (vi x12) ∧ Ext W1 W2 ∧
 ((x12 = 0 →
  (Cl Tryz.prog W0 M H0 nK 49 #[vsl x9 x10 x11] fun z W3 W4 => ∃ x13 : Int, z = .returned (vi x13) ∧ Ext W3 W4 ∧
  ((x13 = 0 →
   (0 ≤ (x10 : Int) ∧ (0 ≤ (x10 : Int) →
   (inKind .i64 (x0 + (x10 : Int)) ∧ (inKind .i64 (x0 + (x10 : Int)) →
   ((50 < (x0 + (x10 : Int)) →
    Rt R W0 M H0 nK (vi 2)) ∧
   (¬ (50 < (x0 + (x10 : Int))) →
    Rt R W0 M H0 nK (vi 0)))))))) ∧
  (¬ (x13 = 0) →
   Rt R W0 M H0 nK (vi x13))))) ∧
 (¬ (x12 = 0) →
  Rt R W0 M H0 nK (vi x12)))))) :
  Calls Tryz.prog 30 #[Value.agg #[vi x0, vi x1, vi x2, vi x3, vi x4, vi x5, vsl x6 x7 x8, vsl x9 x10 x11]] W0 R :=
  calls_sxA (M := M) (V := v_packCheck) (hi := {}) (args := [.agg [vI 0, vI 1, vI 2, vI 3, vI 4, vI 5, vS 6, vS 9]]) (nv := 12) (e := (upd (upd (upd (upd (upd (upd (upd (upd (upd (upd (upd (upd (fun _ => .i 0) 0 (.i x0)) 1 (.i x1)) 2 (.i x2)) 3 (.i x3)) 4 (.i x4)) 5 (.i x5)) 6 (.p x6)) 7 (.n x7)) 8 (.n x8)) 9 (.p x9)) 10 (.n x10)) 11 (.n x11))) Tryz.func30 hH h (by kernel_rfl) (by kernel_rfl) (by kernel_rfl)
def v_logErr : VC :=
(.all 0
(.call 17 [.agg [vI 0, vI 1, vI 2, vI 3, vI 4, vI 5, vS 6]] [] [(12, .i)] (vI 12) .same
(.ite (.eq (.v 12) (.k 0))
(.call 37 [vS 9] [] [(13, .i)] (vI 13) .same
(.ite (.eq (.v 13) (.k 0))
(.chk (.le (.k 0) (.v 10))
(.chk (.rng .i64 (.add (.v 0) (.v 10)))
(.ite (.lt (.k 50) (.add (.v 0) (.v 10)))
(.ret (.int .i64 (.k 2)) [])
(.ret (.int .i64 (.k 0)) []))))
(.ret (vI 13) [])))
(.ret (vI 12) []))))
theorem x_logErr (x0 x1 x2 x3 x4 x5 : Int) (x6 : Option Loc) (x7 x8 : Nat) (x9 : Option Loc) (x10 x11 : Nat) (M : Nat → Prop) (H0 : Hp) (W0 : World) (R : Ending → World → Prop) (hH : H0.le (hpOf W0)) (h :
 (∀ b0 : Nat,
 (Cl Tryz.prog W0 M H0 nK 17 #[Value.agg #[vi x0, vi x1, vi x2, vi x3, vi x4, vi x5, vsl x6 x7 x8]] fun z W1 W2 => ∃ x12 : Int, z = .returned (vi x12) ∧ Ext W1 W2 ∧
 ((x12 = 0 →
  (Cl Tryz.prog W0 M H0 nK 37 #[vsl x9 x10 x11] fun z W3 W4 => ∃ x13 : Int, z = .returned (vi x13) ∧ Ext W3 W4 ∧
  ((x13 = 0 →
   (0 ≤ (x10 : Int) ∧ (0 ≤ (x10 : Int) →
   (inKind .i64 (x0 + (x10 : Int)) ∧ (inKind .i64 (x0 + (x10 : Int)) →
   ((50 < (x0 + (x10 : Int)) →
    Rt R W0 M H0 nK (vi 2)) ∧
   (¬ (50 < (x0 + (x10 : Int))) →
    Rt R W0 M H0 nK (vi 0)))))))) ∧
  (¬ (x13 = 0) →
   Rt R W0 M H0 nK (vi x13))))) ∧
 (¬ (x12 = 0) →
  Rt R W0 M H0 nK (vi x12)))))) :
  Calls Tryz.prog 16 #[Value.agg #[vi x0, vi x1, vi x2, vi x3, vi x4, vi x5, vsl x6 x7 x8, vsl x9 x10 x11]] W0 R :=
  calls_sxA (M := M) (V := v_logErr) (hi := {}) (args := [.agg [vI 0, vI 1, vI 2, vI 3, vI 4, vI 5, vS 6, vS 9]]) (nv := 12) (e := (upd (upd (upd (upd (upd (upd (upd (upd (upd (upd (upd (upd (fun _ => .i 0) 0 (.i x0)) 1 (.i x1)) 2 (.i x2)) 3 (.i x3)) 4 (.i x4)) 5 (.i x5)) 6 (.p x6)) 7 (.n x7)) 8 (.n x8)) 9 (.p x9)) 10 (.n x10)) 11 (.n x11))) Tryz.func16 hH h (by kernel_rfl) (by kernel_rfl) (by kernel_rfl)
def v_packEnd : VC :=
(.all 0
(.all 1
(.call 30 [.agg [vI 0, vI 1, vI 2, vI 3, vI 4, vI 5, vS 6, vS 9]] [] [(12, .i)] (vI 12) .same
(.ite (.eq (.v 12) (.k 0))
(.call 31 [.agg [vI 0, vI 1, vI 2, vI 3, vI 4, vI 5, vS 6], vS 9] [] [(13, .i), (14, .i), (15, .i), (16, .i), (17, .i), (18, .i), (19, .p), (20, .n), (21, .n)] (.agg [vI 13, vI 14, vI 15, vI 16, vI 17, vI 18, vS 19]) .fresh
(.ret (.tup [.agg [vI 13, vI 14, vI 15, vI 16, vI 17, vI 18, vS 19], .int .i64 (.k 0)]) []))
(.ret (.tup [.agg [.int .i64 (.k 0), .int .i64 (.k 0), .int .i64 (.k 0), .int .i64 (.k 0), .int .i64 (.k 0), .int .i64 (.k 0), .c (Value.slice none 0 0)], vI 12]) [])))))
theorem x_packEnd (x0 x1 x2 x3 x4 x5 : Int) (x6 : Option Loc) (x7 x8 : Nat) (x9 : Option Loc) (x10 x11 : Nat) (M : Nat → Prop) (H0 : Hp) (W0 : World) (R : Ending → World → Prop) (hH : H0.le (hpOf W0)) (h :
 (∀ b0 : Nat,
 (∀ b1 : Nat,
 (Cl Tryz.prog W0 M H0 nK 30 #[Value.agg #[vi x0, vi x1, vi x2, vi x3, vi x4, vi x5, vsl x6 x7 x8, vsl x9 x10 x11]] fun z W1 W2 => ∃ x12 : Int, z = .returned (vi x12) ∧ Ext W1 W2 ∧
 ((x12 = 0 →
  (Cl Tryz.prog W0 M H0 nK 31 #[Value.agg #[vi x0, vi x1, vi x2, vi x3, vi x4, vi x5, vsl x6 x7 x8], vsl x9 x10 x11] fun z W3 W4 => ∃ (x13 x14 x15 x16 x17 x18 : Int) (x19 : Option Loc) (x20 x21 : Nat), z = .returned (Value.agg #[vi x13, vi x14, vi x15, vi x16, vi x17, vi x18, vsl x19 x20 x21]) ∧ Fr W3 W4 H0 fun H1 =>
  Rt R W0 M H1 nK (Value.tuple #[Value.agg #[vi x13, vi x14, vi x15, vi x16, vi x17, vi x18, vsl x19 x20 x21], vi 0]))) ∧
 (¬ (x12 = 0) →
  Rt R W0 M H0 nK (Value.tuple #[Value.agg #[vi 0, vi 0, vi 0, vi 0, vi 0, vi 0, Value.slice none 0 0], vi x12]))))))) :
  Calls Tryz.prog 11 #[Value.agg #[vi x0, vi x1, vi x2, vi x3, vi x4, vi x5, vsl x6 x7 x8, vsl x9 x10 x11]] W0 R :=
  calls_sxA (M := M) (V := v_packEnd) (hi := {}) (args := [.agg [vI 0, vI 1, vI 2, vI 3, vI 4, vI 5, vS 6, vS 9]]) (nv := 12) (e := (upd (upd (upd (upd (upd (upd (upd (upd (upd (upd (upd (upd (fun _ => .i 0) 0 (.i x0)) 1 (.i x1)) 2 (.i x2)) 3 (.i x3)) 4 (.i x4)) 5 (.i x5)) 6 (.p x6)) 7 (.n x7)) 8 (.n x8)) 9 (.p x9)) 10 (.n x10)) 11 (.n x11))) Tryz.func11 hH h (by kernel_rfl) (by kernel_rfl) (by kernel_rfl)
def v_packCut : VC :=
(.all 0
(.all 1
(.call 30 [.agg [vI 0, vI 1, vI 2, vI 3, vI 4, vI 5, vS 6, vS 9]] [] [(13, .i)] (vI 13) .same
(.ite (.eq (.v 13) (.k 0))
(.ite (.lt (.v 12) (.k 0))
(.ret (.tup [.agg [.int .i64 (.k 0), .int .i64 (.k 0), .int .i64 (.k 0), .int .i64 (.k 0), .int .i64 (.k 0), .int .i64 (.k 0), .c (Value.slice none 0 0), .c (Value.slice none 0 0)], .int .i64 (.k 3)]) [])
(.chk (.le (.k 0) (.v 10))
(.ite (.lt (.v 10) (.v 12))
(.ret (.tup [.agg [.int .i64 (.k 0), .int .i64 (.k 0), .int .i64 (.k 0), .int .i64 (.k 0), .int .i64 (.k 0), .int .i64 (.k 0), .c (Value.slice none 0 0), .c (Value.slice none 0 0)], .int .i64 (.k 3)]) [])
(.chk (.le (.k 0) (.v 12))
(.chk (.le (.v 12) (.v 11))
(.chk (.le (.v 12) (.v 10))
(.chk (.le (.v 10) (.v 11))
(.call 31 [.agg [vI 0, vI 1, vI 2, vI 3, vI 4, vI 5, vS 6], .slO 9 (.k 0) (.v 12) (.v 11)] [] [(14, .i), (15, .i), (16, .i), (17, .i), (18, .i), (19, .i), (20, .p), (21, .n), (22, .n)] (.agg [vI 14, vI 15, vI 16, vI 17, vI 18, vI 19, vS 20]) .fresh
(.call 45 [.slO 9 (.add (.k 0) (.skip (.v 11) (.v 12) 9)) (.sub (.v 10) (.v 12)) (.sub (.v 11) (.v 12))] [] [(23, .p), (24, .n), (25, .n)] (vS 23) .fresh
(.ret (.tup [.agg [vI 14, vI 15, vI 16, vI 17, vI 18, vI 19, vS 20, vS 23], .int .i64 (.k 0)]) []))))))))))
(.ret (.tup [.agg [.int .i64 (.k 0), .int .i64 (.k 0), .int .i64 (.k 0), .int .i64 (.k 0), .int .i64 (.k 0), .int .i64 (.k 0), .c (Value.slice none 0 0), .c (Value.slice none 0 0)], vI 13]) [])))))
theorem x_packCut (x0 x1 x2 x3 x4 x5 : Int) (x6 : Option Loc) (x7 x8 : Nat) (x9 : Option Loc) (x10 x11 : Nat) (x12 : Int) (M : Nat → Prop) (H0 : Hp) (W0 : World) (R : Ending → World → Prop) (hH : H0.le (hpOf W0)) (h :
 (∀ b0 : Nat,
 (∀ b1 : Nat,
 (Cl Tryz.prog W0 M H0 nK 30 #[Value.agg #[vi x0, vi x1, vi x2, vi x3, vi x4, vi x5, vsl x6 x7 x8, vsl x9 x10 x11]] fun z W1 W2 => ∃ x13 : Int, z = .returned (vi x13) ∧ Ext W1 W2 ∧
 ((x13 = 0 →
  ((x12 < 0 →
   Rt R W0 M H0 nK (Value.tuple #[Value.agg #[vi 0, vi 0, vi 0, vi 0, vi 0, vi 0, Value.slice none 0 0, Value.slice none 0 0], vi 3])) ∧
  (¬ (x12 < 0) →
   (0 ≤ (x10 : Int) ∧ (0 ≤ (x10 : Int) →
   (((x10 : Int) < x12 →
    Rt R W0 M H0 nK (Value.tuple #[Value.agg #[vi 0, vi 0, vi 0, vi 0, vi 0, vi 0, Value.slice none 0 0, Value.slice none 0 0], vi 3])) ∧
   (¬ ((x10 : Int) < x12) →
    (0 ≤ x12 ∧ (0 ≤ x12 →
    (x12 ≤ (x11 : Int) ∧ (x12 ≤ (x11 : Int) →
    (x12 ≤ (x10 : Int) ∧ (x12 ≤ (x10 : Int) →
    ((x10 : Int) ≤ (x11 : Int) ∧ ((x10 : Int) ≤ (x11 : Int) →
    (Cl Tryz.prog W0 M H0 nK 31 #[Value.agg #[vi x0, vi x1, vi x2, vi x3, vi x4, vi x5, vsl x6 x7 x8], vsl x9 (x12).toNat x11] fun z W3 W4 => ∃ (x14 x15 x16 x17 x18 x19 : Int) (x20 : Option Loc) (x21 x22 : Nat), z = .returned (Value.agg #[vi x14, vi x15, vi x16, vi x17, vi x18, vi x19, vsl x20 x21 x22]) ∧ Fr W3 W4 H0 fun H1 =>
    (Cl Tryz.prog W0 M H1 nK 45 #[Value.slice (ptrAt x9 (0 + (if (x11 : Int) = x12 then 0 else x12 * ((9 : Nat) : Int)))) (((x10 : Int) - x12) : Int).toNat (((x11 : Int) - x12) : Int).toNat] fun z W5 W6 => ∃ (x23 : Option Loc) (x24 x25 : Nat), z = .returned (vsl x23 x24 x25) ∧ Fr W5 W6 H1 fun H2 =>
    Rt R W0 M H2 nK (Value.tuple #[Value.agg #[vi x14, vi x15, vi x16, vi x17, vi x18, vi x19, vsl x20 x21 x22, vsl x23 x24 x25], vi 0])))))))))))))))))) ∧
 (¬ (x13 = 0) →
  Rt R W0 M H0 nK (Value.tuple #[Value.agg #[vi 0, vi 0, vi 0, vi 0, vi 0, vi 0, Value.slice none 0 0, Value.slice none 0 0], vi x13]))))))) :
  Calls Tryz.prog 29 #[Value.agg #[vi x0, vi x1, vi x2, vi x3, vi x4, vi x5, vsl x6 x7 x8, vsl x9 x10 x11], vi x12] W0 R :=
  calls_sxA (M := M) (V := v_packCut) (hi := {}) (args := [.agg [vI 0, vI 1, vI 2, vI 3, vI 4, vI 5, vS 6, vS 9], vI 12]) (nv := 13) (e := (upd (upd (upd (upd (upd (upd (upd (upd (upd (upd (upd (upd (upd (fun _ => .i 0) 0 (.i x0)) 1 (.i x1)) 2 (.i x2)) 3 (.i x3)) 4 (.i x4)) 5 (.i x5)) 6 (.p x6)) 7 (.n x7)) 8 (.n x8)) 9 (.p x9)) 10 (.n x10)) 11 (.n x11)) 12 (.i x12))) Tryz.func29 hH h (by kernel_rfl) (by kernel_rfl) (by kernel_rfl)
def v_packPut : VC :=
(.all 0
(.all 1
(.all 2
(.call 30 [.agg [vI 0, vI 1, vI 2, vI 3, vI 4, vI 5, vS 6, vS 9]] [] [(21, .i)] (vI 21) .same
(.ite (.eq (.v 21) (.k 0))
(.call 46 [.agg [vI 12, vI 13, vI 14, vI 15, vI 16, vI 17, vI 18, vI 19, vI 20]] [] [(22, .i)] (vI 22) .same
(.ite (.eq (.v 22) (.k 0))
(.chk (.le (.k 0) (.v 10))
(.chk (.rng .i64 (.add (.v 0) (.v 10)))
(.ite (.eq (.add (.v 0) (.v 10)) (.k 50))
(.ret (.tup [.agg [.int .i64 (.k 0), .int .i64 (.k 0), .int .i64 (.k 0), .int .i64 (.k 0), .int .i64 (.k 0), .int .i64 (.k 0), .c (Value.slice none 0 0), .c (Value.slice none 0 0)], .int .i64 (.k 0), .int .i64 (.k 2)]) [])
(.call 31 [.agg [vI 0, vI 1, vI 2, vI 3, vI 4, vI 5, vS 6], vS 9] [] [(23, .i), (24, .i), (25, .i), (26, .i), (27, .i), (28, .i), (29, .p), (30, .n), (31, .n)] (.agg [vI 23, vI 24, vI 25, vI 26, vI 27, vI 28, vS 29]) .fresh
(.call 47 [.agg [vI 23, vI 24, vI 25, vI 26, vI 27, vI 28, vS 29], .agg [vI 12, vI 13, vI 14, vI 15, vI 16, vI 17, vI 18, vI 19, vI 20]] [] [(32, .i), (33, .i), (34, .i), (35, .i), (36, .i), (37, .i), (38, .p), (39, .n), (40, .n), (41, .i), (42, .b)] (.tup [.agg [vI 32, vI 33, vI 34, vI 35, vI 36, vI 37, vS 38], vI 41, .bool (.v 42)]) .fresh
(.all 3
(.call 44 [.agg [vI 0, vI 1, vI 2, vI 3, vI 4, vI 5, vS 6]] [] [(43, .i), (44, .i), (45, .i), (46, .i), (47, .i), (48, .i), (49, .p), (50, .n), (51, .n)] (.agg [vI 43, vI 44, vI 45, vI 46, vI 47, vI 48, vS 49]) .fresh
(.call 45 [vS 9] [] [(52, .p), (53, .n), (54, .n)] (vS 52) .fresh
(.all 4
(.esc (.bi .append #[26, 26] 26) [vS 52, .slK 4 0 1 1] [(4, ⟨[vI 12, vI 13, vI 14, vI 15, vI 16, vI 17, vI 18, vI 19, vI 20], 35⟩)] [(55, .p), (56, .n), (57, .n)] (some (vS 55)) .turn
(.ret (.tup [.agg [vI 43, vI 44, vI 45, vI 46, vI 47, vI 48, vS 49, vS 55], vI 41, .int .i64 (.k 0)]) [])))))))))))
(.ret (.tup [.agg [.int .i64 (.k 0), .int .i64 (.k 0), .int .i64 (.k 0), .int .i64 (.k 0), .int .i64 (.k 0), .int .i64 (.k 0), .c (Value.slice none 0 0), .c (Value.slice none 0 0)], .int .i64 (.k 0), vI 22]) [])))
(.ret (.tup [.agg [.int .i64 (.k 0), .int .i64 (.k 0), .int .i64 (.k 0), .int .i64 (.k 0), .int .i64 (.k 0), .int .i64 (.k 0), .c (Value.slice none 0 0), .c (Value.slice none 0 0)], .int .i64 (.k 0), vI 21]) []))))))
theorem x_packPut (x0 x1 x2 x3 x4 x5 : Int) (x6 : Option Loc) (x7 x8 : Nat) (x9 : Option Loc) (x10 x11 : Nat) (x12 x13 x14 x15 x16 x17 x18 x19 x20 : Int) (M : Nat → Prop) (H0 : Hp) (W0 : World) (R : Ending → World → Prop) (hH : H0.le (hpOf W0)) (h :
 (∀ b0 : Nat,
 (∀ b1 : Nat,
 (∀ b2 : Nat,
 (Cl Tryz.prog W0 M H0 nK 30 #[Value.agg #[vi x0, vi x1, vi x2, vi x3, vi x4, vi x5, vsl x6 x7 x8, vsl x9 x10 x11]] fun z W1 W2 => ∃ x21 : Int, z = .returned (vi x21) ∧ Ext W1 W2 ∧
 ((x21 = 0 →
  (Cl Tryz.prog W0 M H0 nK 46 #[Value.agg #[vi x12, vi x13, vi x14, vi x15, vi x16, vi x17, vi x18, vi x19, vi x20]] fun z W3 W4 => ∃ x22 : Int, z = .returned (vi x22) ∧ Ext W3 W4 ∧
  ((x22 = 0 →
   (0 ≤ (x10 : Int) ∧ (0 ≤ (x10 : Int) →
   (inKind .i64 (x0 + (x10 : Int)) ∧ (inKind .i64 (x0 + (x10 : Int)) →
   (((x0 + (x10 : Int)) = 50 →
    Rt R W0 M H0 nK (Value.tuple #[Value.agg #[vi 0, vi 0, vi 0, vi 0, vi 0, vi 0, Value.slice none 0 0, Value.slice none 0 0], vi 0, vi 2])) ∧
   (¬ ((x0 + (x10 : Int)) = 50) →
    (Cl Tryz.prog W0 M H0 nK 31 #[Value.agg #[vi x0, vi x1, vi x2, vi x3, vi x4, vi x5, vsl x6 x7 x8], vsl x9 x10 x11] fun z W5 W6 => ∃ (x23 x24 x25 x26 x27 x28 : Int) (x29 : Option Loc) (x30 x31 : Nat), z = .returned (Value.agg #[vi x23, vi x24, vi x25, vi x26, vi x27, vi x28, vsl x29 x30 x31]) ∧ Fr W5 W6 H0 fun H1 =>
    (Cl Tryz.prog W0 M H1 nK 47 #[Value.agg #[vi x23, vi x24, vi x25, vi x26, vi x27, vi x28, vsl x29 x30 x31], Value.agg #[vi x12, vi x13, vi x14, vi x15, vi x16, vi x17, vi x18, vi x19, vi x20]] fun z W7 W8 => ∃ (x32 x33 x34 x35 x36 x37 : Int) (x38 : Option Loc) (x39 x40 : Nat) (x41 : Int) (x42 : Bool), z = .returned (Value.tuple #[Value.agg #[vi x32, vi x33, vi x34, vi x35, vi x36, vi x37, vsl x38 x39 x40], vi x41, vb (x42)]) ∧ Fr W7 W8 H1 fun H2 =>
    (∀ b3 : Nat,
    (Cl Tryz.prog W0 M H2 nK 44 #[Value.agg #[vi x0, vi x1, vi x2, vi x3, vi x4, vi x5, vsl x6 x7 x8]] fun z W9 W10 => ∃ (x43 x44 x45 x46 x47 x48 : Int) (x49 : Option Loc) (x50 x51 : Nat), z = .returned (Value.agg #[vi x43, vi x44, vi x45, vi x46, vi x47, vi x48, vsl x49 x50 x51]) ∧ Fr W9 W10 H2 fun H3 =>
    (Cl Tryz.prog W0 M H3 nK 45 #[vsl x9 x10 x11] fun z W11 W12 => ∃ (x52 : Option Loc) (x53 x54 : Nat), z = .returned (vsl x52 x53 x54) ∧ Fr W11 W12 H3 fun H4 =>
    (∀ b4 : Nat,
    (Es W0 M H4 (fun W => Kn W0 M H4 W b4 (Obj.cells #[vi x12, vi x13, vi x14, vi x15, vi x16, vi x17, vi x18, vi x19, vi x20] 35 (0, 0)) ∧ True) fun W13 => ∃ (x55 : Option Loc) (x56 x57 : Nat), Eo Tryz.prog (.bi .append #[26, 26] 26) [vsl x52 x53 x54, Value.slice (some ⟨b4, 0, none⟩) 1 1] W13 (.value (vsl x55 x56 x57)) fun W14 => Tn W0 M H4 W13 W14 fun H5 =>
    Rt R W0 M H5 nK (Value.tuple #[Value.agg #[vi x43, vi x44, vi x45, vi x46, vi x47, vi x48, vsl x49 x50 x51, vsl x55 x56 x57], vi x41, vi 0]))))))))))))))) ∧
  (¬ (x22 = 0) →
   Rt R W0 M H0 nK (Value.tuple #[Value.agg #[vi 0, vi 0, vi 0, vi 0, vi 0, vi 0, Value.slice none 0 0, Value.slice none 0 0], vi 0, vi x22]))))) ∧
 (¬ (x21 = 0) →
  Rt R W0 M H0 nK (Value.tuple #[Value.agg #[vi 0, vi 0, vi 0, vi 0, vi 0, vi 0, Value.slice none 0 0, Value.slice none 0 0], vi 0, vi x21])))))))) :
  Calls Tryz.prog 26 #[Value.agg #[vi x0, vi x1, vi x2, vi x3, vi x4, vi x5, vsl x6 x7 x8, vsl x9 x10 x11], Value.agg #[vi x12, vi x13, vi x14, vi x15, vi x16, vi x17, vi x18, vi x19, vi x20]] W0 R :=
  calls_sxA (M := M) (V := v_packPut) (hi := {}) (args := [.agg [vI 0, vI 1, vI 2, vI 3, vI 4, vI 5, vS 6, vS 9], .agg [vI 12, vI 13, vI 14, vI 15, vI 16, vI 17, vI 18, vI 19, vI 20]]) (nv := 21) (e := (upd (upd (upd (upd (upd (upd (upd (upd (upd (upd (upd (upd (upd (upd (upd (upd (upd (upd (upd (upd (upd (fun _ => .i 0) 0 (.i x0)) 1 (.i x1)) 2 (.i x2)) 3 (.i x3)) 4 (.i x4)) 5 (.i x5)) 6 (.p x6)) 7 (.n x7)) 8 (.n x8)) 9 (.p x9)) 10 (.n x10)) 11 (.n x11)) 12 (.i x12)) 13 (.i x13)) 14 (.i x14)) 15 (.i x15)) 16 (.i x16)) 17 (.i x17)) 18 (.i x18)) 19 (.i x19)) 20 (.i x20))) Tryz.func26 hH h (by kernel_rfl) (by kernel_rfl) (by kernel_rfl)
def v_rPackPut : VC :=
(.all 0
(.all 1
(.all 2
(.call 16 [.agg [vI 0, vI 1, vI 2, vI 3, vI 4, vI 5, vS 6, vS 9]] [] [(21, .i)] (vI 21) .same
(.ite (.eq (.v 21) (.k 0))
(.call 51 [.agg [vI 12, vI 13, vI 14, vI 15, vI 16, vI 17, vI 18, vI 19, vI 20]] [] [(22, .i)] (vI 22) .same
(.ite (.eq (.v 22) (.k 0))
(.chk (.le (.k 0) (.v 10))
(.chk (.rng .i64 (.add (.v 0) (.v 10)))
(.ite (.eq (.add (.v 0) (.v 10)) (.k 50))
(.ret (.tup [.agg [.int .i64 (.k 0), .int .i64 (.k 0), .int .i64 (.k 0), .int .i64 (.k 0), .int .i64 (.k 0), .int .i64 (.k 0), .c (Value.slice none 0 0), .c (Value.slice none 0 0)], .int .i64 (.k 0), .int .i64 (.k 2)]) [])
(.all 3
(.esc (.bi .append #[26, 26] 26) [.slK 3 0 0 0, vS 9] [(3, ⟨[], 35⟩)] [(23, .p), (24, .n), (25, .n)] (some (vS 23)) .turn
(.all 4
(.esc (.bi .append #[26, 26] 26) [vS 23, .slK 4 0 1 1] [(4, ⟨[vI 12, vI 13, vI 14, vI 15, vI 16, vI 17, vI 18, vI 19, vI 20], 35⟩)] [(26, .p), (27, .n), (28, .n)] (some (vS 26)) .turn
(.call 40 [.agg [vI 0, vI 1, vI 2, vI 3, vI 4, vI 5, vS 6], vS 26] [] [(29, .i), (30, .i), (31, .i), (32, .i), (33, .i), (34, .i), (35, .p), (36, .n), (37, .n), (38, .p), (39, .n), (40, .n), (41, .p), (42, .n), (43, .n)] (.tup [.agg [vI 29, vI 30, vI 31, vI 32, vI 33, vI 34, vS 35], vS 38, vS 41]) .fresh
(.all 5
(.chk (.le (.k 0) (.v 39))
(.chk (.rng .i64 (.sub (.v 39) (.k 1)))
(.chk (.idx (.sub (.v 39) (.k 1)) (.v 39))
(.chk (.isp 38)
(.ld 38 (.add (.k 0) (.mul (.sub (.v 39) (.k 1)) (.k 1))) [vI 44] [(44, .i)]
(.call 24 [.agg [vI 0, vI 1, vI 2, vI 3, vI 4, vI 5, vS 6]] [] [(45, .i), (46, .i), (47, .i), (48, .i), (49, .i), (50, .i), (51, .p), (52, .n), (53, .n)] (.agg [vI 45, vI 46, vI 47, vI 48, vI 49, vI 50, vS 51]) .fresh
(.ret (.tup [.agg [vI 45, vI 46, vI 47, vI 48, vI 49, vI 50, vS 51, vS 26], vI 44, .int .i64 (.k 0)]) []))))))))))))))))
(.ret (.tup [.agg [.int .i64 (.k 0), .int .i64 (.k 0), .int .i64 (.k 0), .int .i64 (.k 0), .int .i64 (.k 0), .int .i64 (.k 0), .c (Value.slice none 0 0), .c (Value.slice none 0 0)], .int .i64 (.k 0), vI 22]) [])))
(.ret (.tup [.agg [.int .i64 (.k 0), .int .i64 (.k 0), .int .i64 (.k 0), .int .i64 (.k 0), .int .i64 (.k 0), .int .i64 (.k 0), .c (Value.slice none 0 0), .c (Value.slice none 0 0)], .int .i64 (.k 0), vI 21]) []))))))
theorem x_rPackPut (x0 x1 x2 x3 x4 x5 : Int) (x6 : Option Loc) (x7 x8 : Nat) (x9 : Option Loc) (x10 x11 : Nat) (x12 x13 x14 x15 x16 x17 x18 x19 x20 : Int) (M : Nat → Prop) (H0 : Hp) (W0 : World) (R : Ending → World → Prop) (hH : H0.le (hpOf W0)) (h :
 (∀ b0 : Nat,
 (∀ b1 : Nat,
 (∀ b2 : Nat,
 (Cl Tryz.prog W0 M H0 nK 16 #[Value.agg #[vi x0, vi x1, vi x2, vi x3, vi x4, vi x5, vsl x6 x7 x8, vsl x9 x10 x11]] fun z W1 W2 => ∃ x21 : Int, z = .returned (vi x21) ∧ Ext W1 W2 ∧
 ((x21 = 0 →
  (Cl Tryz.prog W0 M H0 nK 51 #[Value.agg #[vi x12, vi x13, vi x14, vi x15, vi x16, vi x17, vi x18, vi x19, vi x20]] fun z W3 W4 => ∃ x22 : Int, z = .returned (vi x22) ∧ Ext W3 W4 ∧
  ((x22 = 0 →
   (0 ≤ (x10 : Int) ∧ (0 ≤ (x10 : Int) →
   (inKind .i64 (x0 + (x10 : Int)) ∧ (inKind .i64 (x0 + (x10 : Int)) →
   (((x0 + (x10 : Int)) = 50 →
    Rt R W0 M H0 nK (Value.tuple #[Value.agg #[vi 0, vi 0, vi 0, vi 0, vi 0, vi 0, Value.slice none 0 0, Value.slice none 0 0], vi 0, vi 2])) ∧
   (¬ ((x0 + (x10 : Int)) = 50) →
    (∀ b3 : Nat,
    (Es W0 M H0 (fun W => Kn W0 M H0 W b3 (Obj.cells #[] 35 (0, 0)) ∧ True) fun W5 => ∃ (x23 : Option Loc) (x24 x25 : Nat), Eo Tryz.prog (.bi .append #[26, 26] 26) [Value.slice (some ⟨b3, 0, none⟩) 0 0, vsl x9 x10 x11] W5 (.value (vsl x23 x24 x25)) fun W6 => Tn W0 M H0 W5 W6 fun H1 =>
    (∀ b4 : Nat,
    (Es W0 M H1 (fun W => Kn W0 M H1 W b4 (Obj.cells #[vi x12, vi x13, vi x14, vi x15, vi x16, vi x17, vi x18, vi x19, vi x20] 35 (0, 0)) ∧ True) fun W7 => ∃ (x26 : Option Loc) (x27 x28 : Nat), Eo Tryz.prog (.bi .append #[26, 26] 26) [vsl x23 x24 x25, Value.slice (some ⟨b4, 0, none⟩) 1 1] W7 (.value (vsl x26 x27 x28)) fun W8 => Tn W0 M H1 W7 W8 fun H2 =>
    (Cl Tryz.prog W0 M H2 nK 40 #[Value.agg #[vi x0, vi x1, vi x2, vi x3, vi x4, vi x5, vsl x6 x7 x8], vsl x26 x27 x28] fun z W9 W10 => ∃ (x29 x30 x31 x32 x33 x34 : Int) (x35 : Option Loc) (x36 x37 : Nat) (x38 : Option Loc) (x39 x40 : Nat) (x41 : Option Loc) (x42 x43 : Nat), z = .returned (Value.tuple #[Value.agg #[vi x29, vi x30, vi x31, vi x32, vi x33, vi x34, vsl x35 x36 x37], vsl x38 x39 x40, vsl x41 x42 x43]) ∧ Fr W9 W10 H2 fun H3 =>
    (∀ b5 : Nat,
    (0 ≤ (x39 : Int) ∧ (0 ≤ (x39 : Int) →
    (inKind .i64 ((x39 : Int) - 1) ∧ (inKind .i64 ((x39 : Int) - 1) →
    (((0 : Int) ≤ ((x39 : Int) - 1) ∧ ((x39 : Int) - 1) < (x39 : Int)) ∧ (((0 : Int) ≤ ((x39 : Int) - 1) ∧ ((x39 : Int) - 1) < (x39 : Int)) →
    (x38.isSome = true ∧ (x38.isSome = true →
    (∃ x44 : Int, RowAt H3 x38 (0 + (((x39 : Int) - 1) * 1)) [vi x44] ∧
    (Cl Tryz.prog W0 M H3 nK 24 #[Value.agg #[vi x0, vi x1, vi x2, vi x3, vi x4, vi x5, vsl x6 x7 x8]] fun z W11 W12 => ∃ (x45 x46 x47 x48 x49 x50 : Int) (x51 : Option Loc) (x52 x53 : Nat), z = .returned (Value.agg #[vi x45, vi x46, vi x47, vi x48, vi x49, vi x50, vsl x51 x52 x53]) ∧ Fr W11 W12 H3 fun H4 =>
    Rt R W0 M H4 nK (Value.tuple #[Value.agg #[vi x45, vi x46, vi x47, vi x48, vi x49, vi x50, vsl x51 x52 x53, vsl x26 x27 x28], vi x44, vi 0])))))))))))))))))))))))) ∧
  (¬ (x22 = 0) →
   Rt R W0 M H0 nK (Value.tuple #[Value.agg #[vi 0, vi 0, vi 0, vi 0, vi 0, vi 0, Value.slice none 0 0, Value.slice none 0 0], vi 0, vi x22]))))) ∧
 (¬ (x21 = 0) →
  Rt R W0 M H0 nK (Value.tuple #[Value.agg #[vi 0, vi 0, vi 0, vi 0, vi 0, vi 0, Value.slice none 0 0, Value.slice none 0 0], vi 0, vi x21])))))))) :
  Calls Tryz.prog 32 #[Value.agg #[vi x0, vi x1, vi x2, vi x3, vi x4, vi x5, vsl x6 x7 x8, vsl x9 x10 x11], Value.agg #[vi x12, vi x13, vi x14, vi x15, vi x16, vi x17, vi x18, vi x19, vi x20]] W0 R :=
  calls_sxA (M := M) (V := v_rPackPut) (hi := {}) (args := [.agg [vI 0, vI 1, vI 2, vI 3, vI 4, vI 5, vS 6, vS 9], .agg [vI 12, vI 13, vI 14, vI 15, vI 16, vI 17, vI 18, vI 19, vI 20]]) (nv := 21) (e := (upd (upd (upd (upd (upd (upd (upd (upd (upd (upd (upd (upd (upd (upd (upd (upd (upd (upd (upd (upd (upd (fun _ => .i 0) 0 (.i x0)) 1 (.i x1)) 2 (.i x2)) 3 (.i x3)) 4 (.i x4)) 5 (.i x5)) 6 (.p x6)) 7 (.n x7)) 8 (.n x8)) 9 (.p x9)) 10 (.n x10)) 11 (.n x11)) 12 (.i x12)) 13 (.i x13)) 14 (.i x14)) 15 (.i x15)) 16 (.i x16)) 17 (.i x17)) 18 (.i x18)) 19 (.i x19)) 20 (.i x20))) Tryz.func32 hH h (by kernel_rfl) (by kernel_rfl) (by kernel_rfl)
def v_cloneE : VC :=
(.esc (.bop .eql 26 (.tmp 3) (.const (Value.slice none 0 0))) [vS 0, .c (Value.slice none 0 0)] [] [(3, .b)] (some (.bool (.v 3))) .same
(.ite (.v 3)
(.ret (.c (Value.slice none 0 0)) [])
(.all 0
(.esc (.bi .append #[26, 26] 26) [.slK 0 0 0 0, vS 0] [(0, ⟨[], 35⟩)] [(4, .p), (5, .n), (6, .n)] (some (vS 4)) .turn
(.ret (vS 4) [])))))
theorem x_cloneE (x0 : Option Loc) (x1 x2 : Nat) (M : Nat → Prop) (H0 : Hp) (W0 : World) (R : Ending → World → Prop) (hH : H0.le (hpOf W0)) (h :
 (Es W0 M H0 nK fun W1 => ∃ x3 : Bool, Eo Tryz.prog (.bop .eql 26 (.tmp 3) (.const (Value.slice none 0 0))) [vsl x0 x1 x2, Value.slice none 0 0] W1 (.value (vb (x3))) fun W2 => Ext W1 W2 ∧
 ((x3 = true →
  Rt R W0 M H0 nK (Value.slice none 0 0)) ∧
 (¬ (x3 = true) →
  (∀ b0 : Nat,
  (Es W0 M H0 (fun W => Kn W0 M H0 W b0 (Obj.cells #[] 35 (0, 0)) ∧ True) fun W3 => ∃ (x4 : Option Loc) (x5 x6 : Nat), Eo Tryz.prog (.bi .append #[26, 26] 26) [Value.slice (some ⟨b0, 0, none⟩) 0 0, vsl x0 x1 x2] W3 (.value (vsl x4 x5 x6)) fun W4 => Tn W0 M H0 W3 W4 fun H1 =>
  Rt R W0 M H1 nK (vsl x4 x5 x6))))))) :
  Calls Tryz.prog 45 #[vsl x0 x1 x2] W0 R :=
  calls_sxA (M := M) (V := v_cloneE) (hi := {}) (args := [vS 0]) (nv := 3) (e := (upd (upd (upd (fun _ => .i 0) 0 (.p x0)) 1 (.n x1)) 2 (.n x2))) Tryz.func45 hH h (by kernel_rfl) (by kernel_rfl) (by kernel_rfl)
def v_sameEnts : VC :=
(.chk (.le (.k 0) (.v 1))
(.chk (.le (.k 0) (.v 4))
(.ite (.eq (.v 1) (.v 4))
(.loop [(6, .n)] [.n (.k 0)] [.n (.v 6)]
(.ite (.lt (.v 6) (.v 1))
(.chk (.idx (.v 6) (.v 1))
(.chk (.isp 0)
(.ld 0 (.add (.k 0) (.mul (.v 6) (.k 9))) [vI 7, vI 8, vI 9, vI 10, vI 11, vI 12, vI 13, vI 14, vI 15] [(7, .i), (8, .i), (9, .i), (10, .i), (11, .i), (12, .i), (13, .i), (14, .i), (15, .i)]
(.chk (.idx (.v 6) (.v 4))
(.chk (.isp 3)
(.ld 3 (.add (.k 0) (.mul (.v 6) (.k 9))) [vI 16, vI 17, vI 18, vI 19, vI 20, vI 21, vI 22, vI 23, vI 24] [(16, .i), (17, .i), (18, .i), (19, .i), (20, .i), (21, .i), (22, .i), (23, .i), (24, .i)]
(.esc (.bop .neq 35 (.tmp 20) (.tmp 24)) [.agg [vI 7, vI 8, vI 9, vI 10, vI 11, vI 12, vI 13, vI 14, vI 15], .agg [vI 16, vI 17, vI 18, vI 19, vI 20, vI 21, vI 22, vI 23, vI 24]] [] [(25, .b)] (some (.bool (.v 25))) .same
(.ite (.v 25)
(.ret (.bool (.k false)) [])
(.chk (.rng .i64 (.add (.v 6) (.k 1)))
(.chk (.le (.k 0) (.add (.v 6) (.k 1)))
(.back 0 [.n (.add (.v 6) (.k 1))])))))))))))
(.ret (.bool (.k true)) [])))
(.ret (.bool (.k false)) []))))
theorem x_sameEnts (x0 : Option Loc) (x1 x2 : Nat) (x3 : Option Loc) (x4 x5 : Nat) (M : Nat → Prop) (H0 : Hp) (W0 : World) (R : Ending → World → Prop) (hH : H0.le (hpOf W0)) (h :
 (0 ≤ (x1 : Int) ∧ (0 ≤ (x1 : Int) →
 (0 ≤ (x4 : Int) ∧ (0 ≤ (x4 : Int) →
 (((x1 : Int) = (x4 : Int) →
  (∃ (I0 : List Dat → Hp → Prop) (μ0 : List Dat → Nat), I0 [.n 0] H0 ∧ ∀ H1 : Hp, ∀ x6 : Nat, I0 [.n x6] H1 →
   (((x6 : Int) < (x1 : Int) →
    (((0 : Int) ≤ (x6 : Int) ∧ (x6 : Int) < (x1 : Int)) ∧ (((0 : Int) ≤ (x6 : Int) ∧ (x6 : Int) < (x1 : Int)) →
    (x0.isSome = true ∧ (x0.isSome = true →
    (∃ (x7 x8 x9 x10 x11 x12 x13 x14 x15 : Int), RowAt H1 x0 (0 + ((x6 : Int) * 9)) [vi x7, vi x8, vi x9, vi x10, vi x11, vi x12, vi x13, vi x14, vi x15] ∧
    (((0 : Int) ≤ (x6 : Int) ∧ (x6 : Int) < (x4 : Int)) ∧ (((0 : Int) ≤ (x6 : Int) ∧ (x6 : Int) < (x4 : Int)) →
    (x3.isSome = true ∧ (x3.isSome = true →
    (∃ (x16 x17 x18 x19 x20 x21 x22 x23 x24 : Int), RowAt H1 x3 (0 + ((x6 : Int) * 9)) [vi x16, vi x17, vi x18, vi x19, vi x20, vi x21, vi x22, vi x23, vi x24] ∧
    (Es W0 M H1 nK fun W1 => ∃ x25 : Bool, Eo Tryz.prog (.bop .neq 35 (.tmp 20) (.tmp 24)) [Value.agg #[vi x7, vi x8, vi x9, vi x10, vi x11, vi x12, vi x13, vi x14, vi x15], Value.agg #[vi x16, vi x17, vi x18, vi x19, vi x20, vi x21, vi x22, vi x23, vi x24]] W1 (.value (vb (x25))) fun W2 => Ext W1 W2 ∧
    ((x25 = true →
     Rt R W0 M H1 nK (vb (false))) ∧
    (¬ (x25 = true) →
     (inKind .i64 ((x6 : Int) + 1) ∧ (inKind .i64 ((x6 : Int) + 1) →
     (0 ≤ ((x6 : Int) + 1) ∧ (0 ≤ ((x6 : Int) + 1) →
     (I0 [.n (((x6 : Int) + 1) : Int).toNat] H1 ∧ μ0 [.n (((x6 : Int) + 1) : Int).toNat] < μ0 [.n x6]))))))))))))))))))) ∧
   (¬ ((x6 : Int) < (x1 : Int)) →
    Rt R W0 M H1 nK (vb (true)))))) ∧
 (¬ ((x1 : Int) = (x4 : Int)) →
  Rt R W0 M H0 nK (vb (false))))))))) :
  Calls Tryz.prog 54 #[vsl x0 x1 x2, vsl x3 x4 x5] W0 R :=
  calls_sxA (M := M) (V := v_sameEnts) (hi := {loops := [(4, .inv [(5, .nat)] [])]}) (args := [vS 0, vS 3]) (nv := 6) (e := (upd (upd (upd (upd (upd (upd (fun _ => .i 0) 0 (.p x0)) 1 (.n x1)) 2 (.n x2)) 3 (.p x3)) 4 (.n x4)) 5 (.n x5))) Tryz.func54 hH h (by kernel_rfl) (by kernel_rfl) (by kernel_rfl)
def v_sameLogs : VC :=
(.all 0
(.all 1
(.call 35 [.agg [vI 0, vI 1, vI 2, vI 3, vI 4, vI 5, vS 6], .agg [vI 12, vI 13, vI 14, vI 15, vI 16, vI 17, vS 18]] [] [(24, .b)] (.bool (.v 24)) .same
(.ite (.v 24)
(.call 54 [vS 9, vS 21] [] [(25, .b)] (.bool (.v 25)) .same
(.ret (.bool (.v 25)) []))
(.ret (.bool (.k false)) [])))))
theorem x_sameLogs (x0 x1 x2 x3 x4 x5 : Int) (x6 : Option Loc) (x7 x8 : Nat) (x9 : Option Loc) (x10 x11 : Nat) (x12 x13 x14 x15 x16 x17 : Int) (x18 : Option Loc) (x19 x20 : Nat) (x21 : Option Loc) (x22 x23 : Nat) (M : Nat → Prop) (H0 : Hp) (W0 : World) (R : Ending → World → Prop) (hH : H0.le (hpOf W0)) (h :
 (∀ b0 : Nat,
 (∀ b1 : Nat,
 (Cl Tryz.prog W0 M H0 nK 35 #[Value.agg #[vi x0, vi x1, vi x2, vi x3, vi x4, vi x5, vsl x6 x7 x8], Value.agg #[vi x12, vi x13, vi x14, vi x15, vi x16, vi x17, vsl x18 x19 x20]] fun z W1 W2 => ∃ x24 : Bool, z = .returned (vb (x24)) ∧ Ext W1 W2 ∧
 ((x24 = true →
  (Cl Tryz.prog W0 M H0 nK 54 #[vsl x9 x10 x11, vsl x21 x22 x23] fun z W3 W4 => ∃ x25 : Bool, z = .returned (vb (x25)) ∧ Ext W3 W4 ∧
  Rt R W0 M H0 nK (vb (x25)))) ∧
 (¬ (x24 = true) →
  Rt R W0 M H0 nK (vb (false)))))))) :
  Calls Tryz.prog 36 #[Value.agg #[vi x0, vi x1, vi x2, vi x3, vi x4, vi x5, vsl x6 x7 x8, vsl x9 x10 x11], Value.agg #[vi x12, vi x13, vi x14, vi x15, vi x16, vi x17, vsl x18 x19 x20, vsl x21 x22 x23]] W0 R :=
  calls_sxA (M := M) (V := v_sameLogs) (hi := {}) (args := [.agg [vI 0, vI 1, vI 2, vI 3, vI 4, vI 5, vS 6, vS 9], .agg [vI 12, vI 13, vI 14, vI 15, vI 16, vI 17, vS 18, vS 21]]) (nv := 24) (e := (upd (upd (upd (upd (upd (upd (upd (upd (upd (upd (upd (upd (upd (upd (upd (upd (upd (upd (upd (upd (upd (upd (upd (upd (fun _ => .i 0) 0 (.i x0)) 1 (.i x1)) 2 (.i x2)) 3 (.i x3)) 4 (.i x4)) 5 (.i x5)) 6 (.p x6)) 7 (.n x7)) 8 (.n x8)) 9 (.p x9)) 10 (.n x10)) 11 (.n x11)) 12 (.i x12)) 13 (.i x13)) 14 (.i x14)) 15 (.i x15)) 16 (.i x16)) 17 (.i x17)) 18 (.p x18)) 19 (.n x19)) 20 (.n x20)) 21 (.p x21)) 22 (.n x22)) 23 (.n x23))) Tryz.func36 hH h (by kernel_rfl) (by kernel_rfl) (by kernel_rfl)
end Go.Proofs.YtfpmcmhihhnfgaaGreat
namespace Go.Proofs.YtfpmcmhihhnfgaaGreat
open Go.RowKit
abbrev logV (s : Sta) (v w : Value) : Value := .agg #[vi s.pos, vi s.clock, vi s.vals.a, vi s.vals.b, vi s.vals.c, vi s.vals.d, v, w]
section
variable {H : Hp} {p q : Option Loc} {n c m d : Nat} {s : Sta} {l : List Ent}
theorem c_packCheck (hT : Tab H p n c s.table) (hE : Ents H q m d l) : Gv Tryz.prog 30 #[logV s (vsl p n c) (vsl q m d)] H (vi (logErr s l)) := fun W hH => by
  have hm := hE.len
  unfold logErr
  refine x_packCheck _ _ _ _ _ _ p n c q m d noM H W _ hH fun b0 => ?_
  refine Cl.same (c_stCheck hT) fun _ _ hx => ⟨_, rfl, hx, fun h0 => ?_, fun h0 => Rt.gv' (by rw [if_pos h0])⟩
  rw [if_neg (by omega)]
  refine Cl.same (c_foldCheck hE) fun _ _ hx => ⟨_, rfl, hx, fun h1 => ?_, fun h1 => Rt.gv' (by rw [if_pos h1])⟩
  rw [if_neg (by omega)]
  have hpos := (Sta.err_ok.1 h0).pos
  have h50 := (entsErr_ok.1 h1).1
  exact ⟨by omega, fun _ => ⟨in64 (by omega), fun _ => ⟨fun h2 => Rt.gv' (by rw [if_pos (by omega)]), fun h2 => Rt.gv' (by rw [if_neg (by omega)])⟩⟩⟩
theorem c_logErr (hT : Tab H p n c s.table) (hE : Ents H q m d l) : Gv Tryz.prog 16 #[logV s (vsl p n c) (vsl q m d)] H (vi (logErr s l)) := fun W hH => by
  have hm := hE.len
  unfold logErr
  refine x_logErr _ _ _ _ _ _ p n c q m d noM H W _ hH fun b0 => ?_
  refine Cl.same (c_stErr hT) fun _ _ hx => ⟨_, rfl, hx, fun h0 => ?_, fun h0 => Rt.gv' (by rw [if_pos h0])⟩
  rw [if_neg (by omega)]
  refine Cl.same (c_listErr hE) fun _ _ hx => ⟨_, rfl, hx, fun h1 => ?_, fun h1 => Rt.gv' (by rw [if_pos h1])⟩
  rw [if_neg (by omega)]
  have hpos := (Sta.err_ok.1 h0).pos
  have h50 := (entsErr_ok.1 h1).1
  exact ⟨by omega, fun _ => ⟨in64 (by omega), fun _ => ⟨fun h2 => Rt.gv' (by rw [if_pos (by omega)]), fun h2 => Rt.gv' (by rw [if_neg (by omega)])⟩⟩⟩
def EndPost (r : Sta × Int) (v : Value) (D : Hp) : Prop := ∃ p n c, v = .tuple #[r.1.val (vsl p n c), vi r.2] ∧ Tab D p n c r.1.table
def LogPost (r : Sta × List Ent × Int) (v : Value) (D : Hp) : Prop := ∃ p n c q m d, v = .tuple #[logV r.1 (vsl p n c) (vsl q m d), vi r.2.2] ∧ Tab D p n c r.1.table ∧ Ents D q m d r.2.1
def PutPost (r : Sta × List Ent × Int × Int) (v : Value) (D : Hp) : Prop := ∃ p n c q m d, v = .tuple #[logV r.1 (vsl p n c) (vsl q m d), vi r.2.2.1, vi r.2.2.2] ∧ Tab D p n c r.1.table ∧ Ents D q m d r.2.1
theorem EndPost.bad (D : Hp) (x : Int) : EndPost (Sta.zero, x) (.tuple #[Sta.zero.val (Value.slice none 0 0), vi x]) D := ⟨none, 0, 0, rfl, Tab.nil _ _⟩
theorem LogPost.bad (D : Hp) (x : Int) : LogPost (Sta.zero, [], x) (.tuple #[logV Sta.zero (Value.slice none 0 0) (Value.slice none 0 0), vi x]) D := ⟨none, 0, 0, none, 0, 0, rfl, Tab.nil _ _, Ents.nil _ _⟩
theorem PutPost.bad (D : Hp) (x y : Int) : PutPost (Sta.zero, [], x, y) (.tuple #[logV Sta.zero (Value.slice none 0 0) (Value.slice none 0 0), vi x, vi y]) D := ⟨none, 0, 0, none, 0, 0, rfl, Tab.nil _ _, Ents.nil _ _⟩
theorem c_packEnd (hT : Tab H p n c s.table) (hE : Ents H q m d l) : Gf Tryz.prog 11 #[logV s (vsl p n c) (vsl q m d)] H (EndPost (lEnd s l)) := fun W hH => by
  refine x_packEnd _ _ _ _ _ _ p n c q m d noM H W _ hH fun b0 b1 => ?_
  refine Cl.same (c_packCheck hT hE) fun _ _ hx => ⟨_, rfl, hx, fun h0 => ?_, fun h0 => Rt.gfn (by rw [lEnd_bad h0]; exact EndPost.bad _ _)⟩
  have ho := logErr_ok.1 h0
  rw [lEnd_ok h0]
  refine Cl.fresh (c_last hT ho.base hE ho.ents ho.len) ?_
  rintro v W1 W2 D ⟨p1, n1, c1, rfl, hT1⟩ hx hD hf nn
  exact ⟨_, _, _, _, _, _, p1, n1, c1, rfl, hx, D, hD, hf, fun H1 h1 hd1 => Rt.gfn ⟨p1, n1, c1, rfl, hT1.mono (le_newer hd1 (fun b o h => Nat.le_trans nn.mod.size (hf b o h)))⟩⟩
theorem infoEnt : infoIs Tryz.prog 35 9 72 = true := by kernel_rfl
theorem c_cloneE (hE : Ents H q m d l) (hb : m ≤ 1099511627776) : Gf Tryz.prog 45 #[vsl q m d] H fun v D => ∃ p' c' g, v = vsl p' m c' ∧ Ow D 35 9 p' m c' (l.map Ent.row) g := fun W hH => by
  refine x_cloneE q m d noM H W _ hH ?_
  intro W1 n1 _
  refine ⟨_, _, ek_nil Tryz.underlying26 _ _ q m d W1, Ext.refl _, fun h => Rt.gfn ?_, fun h b0 => ?_⟩
  · have hp : q = none := by simpa using h
    subst hp
    have hn : m = 0 := by
      rcases Nat.eq_zero_or_pos m with h0 | h0
      · exact h0
      · obtain ⟨r, _, hat, _⟩ := hE.at h0
        have := hat.isSome
        cases this
    subst hn
    have hl : l = [] := List.length_eq_zero_iff.1 hE.len.symm
    subst hl
    exact ⟨none, 0, none, rfl, Ow.nil _ _ _ _⟩
  · intro W3 n3 _
    obtain ⟨p', c', g, W', H', h1, h2, h3, h4, h5⟩ := ek_clone (P := Tryz.prog) Tryz.underlying26 infoEnt (by omega) n3 (some (b0, 0)) hE.2.2.1 (ones_E l) (by omega) (by simp only [maxLen]; omega) 26 (c := d)
    refine ⟨p', m, c', W', h1, H', h2, Rt.gfn ⟨p', c', g, rfl, h3.new (fun b hb => Nat.le_trans n3.mod.size (h4 b hb))⟩⟩
theorem c_packCut (hT : Tab H p n c s.table) (hE : Ents H q m d l) (x : Int) : Gf Tryz.prog 29 #[logV s (vsl p n c) (vsl q m d), vi x] H (LogPost (lCut s l x)) := fun W hH => by
  have hm := hE.len
  have hcap := hE.1
  refine x_packCut _ _ _ _ _ _ p n c q m d x noM H W _ hH fun b0 b1 => ?_
  refine Cl.same (c_packCheck hT hE) fun _ _ hx => ⟨_, rfl, hx, fun h0 => ?_, fun h0 => Rt.gfn (by rw [lCut_bad h0]; exact LogPost.bad _ _)⟩
  have ho := logErr_ok.1 h0
  refine ⟨fun h1 => Rt.gfn (by rw [lCut_rng h0 (by omega)]; exact LogPost.bad _ _), fun h1 => ⟨by omega, fun _ => ⟨fun h2 => Rt.gfn (by rw [lCut_rng h0 (by omega)]; exact LogPost.bad _ _), fun h2 => ?_⟩⟩⟩
  rw [lCut_ok h0 (by omega)]
  obtain ⟨k, rfl⟩ := Int.eq_ofNat_of_zero_le (show 0 ≤ x by omega)
  rw [Int.toNat_natCast]
  obtain ⟨hc, _, _⟩ := ho.cut (k := k) (by omega)
  refine ⟨by omega, fun _ => ⟨by omega, fun _ => ⟨by omega, fun _ => ⟨by omega, fun _ => ?_⟩⟩⟩⟩
  refine Cl.fresh (c_last hT ho.base (hE.take k (by omega)) (fun e he => ho.ents e (List.mem_of_mem_take he)) (by have := ho.len; rw [List.length_take]; omega)) ?_
  rintro v W1 W2 D ⟨p1, n1, c1, rfl, hT1⟩ hx hD hf nn
  refine ⟨_, _, _, _, _, _, p1, n1, c1, rfl, hx, D, hD, hf, fun H1 h1 hd1 => ?_⟩
  obtain ⟨q', e1, hE'⟩ := (hE.mono h1).drop k (by omega)
  rw [e1]
  refine Cl.fresh (c_cloneE hE' (by have := ho.low; omega)) ?_
  rintro v W3 W4 D2 ⟨p2, c2, g2, rfl, hO⟩ hx hD2 hf2 nn2
  refine ⟨p2, _, c2, rfl, hx, D2, hD2, hf2, fun H2 h2 hd2 => Rt.gfn ⟨p1, n1, c1, p2, _, c2, rfl, ?_, ?_⟩⟩
  · exact hT1.mono (le_newer (Hp.le_trans hd1 h2) (fun b o h => Nat.le_trans nn.mod.size (hf b o h)))
  · exact (Ents.of_ow hO (fun e he => hE.2.2.2 e (List.mem_of_mem_drop he))).mono (le_newer hd2 (fun b o h => Nat.le_trans nn2.mod.size (hf2 b o h)))
theorem ones_e (e : Ent) : ∀ v ∈ e.row, v.oneCell' = true := fun v hv => ones_E [e] e.row (by simp) v hv
theorem c_packPut (hT : Tab H p n c s.table) (hE : Ents H q m d l) {e : Ent} (he64 : e.in64) : Gf Tryz.prog 26 #[logV s (vsl p n c) (vsl q m d), e.val] H (PutPost (lPut s l e)) := fun W hH => by
  have hm := hE.len
  refine x_packPut _ _ _ _ _ _ p n c q m d _ _ _ _ _ _ _ _ _ noM H W _ hH fun b0 b1 b2 => ?_
  refine Cl.same (c_packCheck hT hE) fun _ _ hx => ⟨_, rfl, hx, fun h0 => ?_, fun h0 => Rt.gfn (by rw [lPut_bad h0]; exact PutPost.bad _ _ _)⟩
  have ho := logErr_ok.1 h0
  have hpos := ho.base.pos
  have hlen := ho.len
  refine Cl.same (c_entCheck e H) fun _ _ hx => ⟨_, rfl, hx, fun h1 => ?_, fun h1 => Rt.gfn (by rw [lPut_ent h0 h1]; exact PutPost.bad _ _ _)⟩
  refine ⟨by omega, fun _ => ⟨in64 (by omega), fun _ => ⟨fun h2 => Rt.gfn (by rw [lPut_many h0 h1 (by omega)]; exact PutPost.bad _ _ _), fun h2 => ?_⟩⟩⟩
  rw [lPut_ok h0 h1 (by omega)]
  obtain ⟨fo, fp⟩ := foldS_ok ho.base ho.ents ho.len
  refine Cl.fresh (c_last hT ho.base hE ho.ents ho.len) ?_
  rintro v W1 W2 D ⟨p1, n1, c1, rfl, hT1⟩ hx hD hf nn
  refine ⟨_, _, _, _, _, _, p1, n1, c1, rfl, hx, D, hD, hf, fun H1 hA hd1 => ?_⟩
  refine Cl.fresh (c_next (hT1.mono hd1) fo (by omega) (Ent.err_ok.1 h1)) ?_
  rintro v W3 W4 D2 ⟨p2, n2, c2, es, g, rfl, _, _⟩ hx hD2 hf2 nn2
  refine ⟨_, _, _, _, _, _, p2, n2, c2, _, _, rfl, hx, D2, hD2, hf2, fun H2 h2 hd2 b3 => ?_⟩
  refine Cl.fresh (c_stOwn ((hT.mono hA).mono h2) (Small.of_ok ho.base.table)) ?_
  rintro v W5 W6 D3 ⟨p3, c3, es3, g3, rfl, hO3, he3⟩ hx hD3 hf3 nn3
  refine ⟨_, _, _, _, _, _, p3, n, c3, rfl, hx, D3, hD3, hf3, fun H3 h3 hd3 => ?_⟩
  have hT3 := hO3.tab
  rw [he3] at hT3
  refine Cl.fresh (c_cloneE (((hE.mono hA).mono h2).mono h3) (by omega)) ?_
  rintro v W7 W8 D4 ⟨p4, c4, g4, rfl, hO4⟩ hx hD4 hf4 nn4
  refine ⟨p4, m, c4, rfl, hx, D4, hD4, hf4, fun H4 h4 hd4 b4 => ?_⟩
  intro W9 n9 k9
  have hO5 := hO4.mono fun b _ o h => hd4 b o h
  have hg4 : ∀ b, g4 = some b → W7.heap.size ≤ b := fun b hb => by
    obtain ⟨o, ho⟩ := hO4.held b hb
    exact hf4 b o ho
  obtain ⟨r1, y1, g1, W10, H5, run1, hu1, oa, hg1, _⟩ := run_append1 (P := Tryz.prog) Tryz.underlying26 infoEnt (by omega) n9.sub hO5 (row := e.row) k9.1.eq k9.1.off rfl (ones_e e) (by simp only [maxLen]; omega) (by omega) 26
  have sz := nn4.mod.size
  refine ⟨r1, m + 1, y1, W10, run1, H5, hu1.own hO5 (fun b hb => .inl (by have := hg4 b hb; omega)), Rt.gfn ⟨p3, n, c3, r1, _, y1, rfl, ?_, ?_⟩⟩
  · refine hT3.mono (le_newer (hu1.keep n9.sub (Hp.le_trans hd3 h4) (fun b hb => ?_)) (fun b o h => Nat.le_trans nn3.mod.size (hf3 b o h)))
    exact old_none (Hp.le_trans hd3 nn4.sub) (hg4 b hb)
  · rw [show l.map Ent.row ++ [e.row] = (l ++ [e]).map Ent.row by simp] at oa
    refine Ents.of_ow (oa.new fun b hb => ?_) (fun x hx => ?_)
    · rcases hg1 with h | h
      · have := hg4 b (h ▸ hb); omega
      · rw [h] at hb; simp only [Option.some.injEq] at hb; have := n9.mod.size; omega
    · rcases List.mem_append.1 hx with hx | hx
      · exact hE.2.2.2 x hx
      · simp only [List.mem_singleton] at hx; subst hx; exact he64
theorem c_rPackPut (hT : Tab H p n c s.table) (hE : Ents H q m d l) {e : Ent} (he64 : e.in64) : Gf Tryz.prog 32 #[logV s (vsl p n c) (vsl q m d), e.val] H (PutPost (lPut s l e)) := fun W hH => by
  have hm := hE.len
  refine x_rPackPut _ _ _ _ _ _ p n c q m d _ _ _ _ _ _ _ _ _ noM H W _ hH fun b0 b1 b2 => ?_
  refine Cl.same (c_logErr hT hE) fun _ _ hx => ⟨_, rfl, hx, fun h0 => ?_, fun h0 => Rt.gfn (by rw [lPut_bad h0]; exact PutPost.bad _ _ _)⟩
  have ho := logErr_ok.1 h0
  have hpos := ho.base.pos
  have hlen := ho.len
  refine Cl.same (c_entErr e he64 H) fun _ _ hx => ⟨_, rfl, hx, fun h1 => ?_, fun h1 => Rt.gfn (by rw [lPut_ent h0 h1]; exact PutPost.bad _ _ _)⟩
  refine ⟨by omega, fun _ => ⟨in64 (by omega), fun _ => ⟨fun h2 => Rt.gfn (by rw [lPut_many h0 h1 (by omega)]; exact PutPost.bad _ _ _), fun h2 b3 => ?_⟩⟩⟩
  rw [lPut_ok h0 h1 (by omega)]
  have hol := ho.put (Ent.err_ok.1 h1) (by omega)
  intro W1 n1 _
  obtain ⟨p1, c1, g1, W2, H1, r1, t1, o1, g1n, h01⟩ := ek_clone (P := Tryz.prog) Tryz.underlying26 infoEnt (by omega) n1 (some (b3, 0)) hE.2.2.1 (ones_E _) (by omega) (by simp only [maxLen]; omega) 26 (c := d)
  refine ⟨p1, m, c1, W2, r1, H1, t1, fun b4 => ?_⟩
  have hg1 : ∀ b, g1 = some b → W.heap.size ≤ b := fun b hb => Nat.le_trans n1.mod.size (g1n b hb)
  intro W3 n3 k3
  obtain ⟨p2, c2, g2, W4, H2, r2, u2, o2, hg2, _⟩ := run_append1 (P := Tryz.prog) Tryz.underlying26 infoEnt (by omega) n3.sub o1 (row := e.row) k3.1.eq k3.1.off rfl (ones_e e) (by simp only [maxLen]; omega) (by omega) 26
  have h12 : H.le H2 := u2.keep n3.sub h01 (fun b hb => old_none hH (hg1 b hb))
  rw [show l.map Ent.row ++ [e.row] = (l ++ [e]).map Ent.row by simp] at o2
  have h64 : ∀ x ∈ l ++ [e], x.in64 := fun x hx => by
    rcases List.mem_append.1 hx with hx | hx
    · exact hE.2.2.2 x hx
    · simp only [List.mem_singleton] at hx; subst hx; exact he64
  have hE2 := Ents.of_ow o2 h64
  have hg2' : ∀ b, g2 = some b → W.heap.size ≤ b := fun b hb => by
    rcases hg2 with h | h
    · exact hg1 b (h ▸ hb)
    · rw [h] at hb; simp only [Option.some.injEq] at hb; have := n3.mod.size; omega
  refine ⟨p2, m + 1, c2, W4, r2, H2, u2.own o1 (fun b hb => .inl (hg1 b hb)), ?_⟩
  refine Cl.fresh (c_folded (hT.mono h12) hol.base hE2 hol.ents hol.len) ?_
  rintro v W5 W6 D ⟨p3, n3, c3, pa, ca, ga, pb, cb, gb, rfl, _, ha, _⟩ hx hD hf nn
  have hll : (l ++ [e]).length = m + 1 := by simp; omega
  rw [hll] at ha ⊢
  refine ⟨_, _, _, _, _, _, p3, n3, c3, pa, m + 1, ca, pb, m + 1, cb, rfl, hx, D, hD, hf, fun H3 h3 hd3 b5 => ⟨by omega, fun _ => ⟨in64 (by omega), fun _ => ⟨by omega, fun _ => ?_⟩⟩⟩⟩
  have hI := (Ints.of_ow ha).mono hd3
  obtain ⟨y, hy, hat⟩ := hI.at (k := m) (by omega)
  rw [show (((m + 1 : Nat) : Int) - 1) = (m : Int) by omega]
  rw [foldA_append, List.getElem?_append_right (by rw [foldA_len]; omega), foldA_len, hm, Nat.sub_self] at hy
  simp only [foldA, List.getElem?_cons_zero, Option.some.injEq] at hy
  subst hy
  refine ⟨hat.isSome, fun _ => ⟨_, hat, ?_⟩⟩
  refine Cl.fresh (c_ownState ((hT.mono h12).mono h3) ho.base.table) ?_
  rintro v W7 W8 D4 ⟨p4, n4, c4, rfl, hT4⟩ hx hD4 hf4 nn4
  refine ⟨_, _, _, _, _, _, p4, n4, c4, rfl, hx, D4, hD4, hf4, fun H4 h4 hd4 => Rt.gfn ⟨p4, n4, c4, p2, _, c2, rfl, ?_, ?_⟩⟩
  · exact hT4.mono (le_newer hd4 (fun b o h => Nat.le_trans nn4.mod.size (hf4 b o h)))
  · exact Ents.of_ow ((o2.mono fun b _ o h => h4 b o (h3 b o h)).new hg2') h64
theorem c_sameEnts {q' : Option Loc} {m' d' : Nat} {l' : List Ent} (hE : Ents H q m d l) (hE' : Ents H q' m' d' l') : Gv Tryz.prog 54 #[vsl q m d, vsl q' m' d'] H (vb (decide (l = l'))) := fun W hH => by
  have hn := hE.len
  have hn' := hE'.len
  have h63 := hE.lt63
  refine x_sameEnts q m d q' m' d' noM H W _ hH ⟨by omega, fun _ => ⟨by omega, fun _ => ⟨fun h1 => ?_, fun h1 => Rt.gv' (by rw [decide_eq_false (fun h => h1 (by rw [hn, hn', h]))])⟩⟩⟩
  refine ⟨fun v K => match v with | [.n j] => j ≤ m ∧ H.le K ∧ (l.drop j = l'.drop j ↔ l = l') | _ => False, fun v => match v with | [.n j] => m - j | _ => 0, ⟨by omega, Hp.le_refl H, by simp⟩, fun K j hI => ?_⟩
  obtain ⟨hj, hle, hf⟩ := hI
  have ht : ((j : Int) + 1).toNat = j + 1 := by omega
  refine ⟨fun hlt => ⟨⟨by omega, hlt⟩, fun _ => ?_⟩, fun hge => Rt.gv' ?_⟩
  · obtain ⟨r, hr, hat, _⟩ := (hE.mono hle).at (k := j) (by omega)
    obtain ⟨r', hr', hat', _⟩ := (hE'.mono hle).at (k := j) (by omega)
    rw [drop_cons hr, drop_cons hr', List.cons.injEq] at hf
    refine ⟨hat.isSome, fun _ => ⟨_, _, _, _, _, _, _, _, _, hat, ⟨by omega, by omega⟩, fun _ => ⟨hat'.isSome, fun _ => ⟨_, _, _, _, _, _, _, _, _, hat', fun W1 n1 _ => ?_⟩⟩⟩⟩
    refine ⟨_, _, ek_ne_ent _ _ r r' W1, Ext.refl _, fun h0 => Rt.gv' ?_, fun h0 => ⟨in64 (by omega), fun _ => ⟨by omega, fun _ => ?_⟩⟩⟩
    · rw [decide_eq_false]
      intro hh
      have := (hf.2 hh).1
      simp [this] at h0
    · rw [ht]
      refine ⟨⟨by omega, hle, ?_⟩, by simp only; omega⟩
      rw [← hf]
      have h2 : r = r' := by simpa using h0
      exact ⟨fun h => ⟨h2, h⟩, fun h => h.2⟩
  · rw [decide_eq_true (hf.1 (by rw [List.drop_of_length_le (by omega), List.drop_of_length_le (by omega)]))]
theorem c_sameLogs {p' q' : Option Loc} {n' c' m' d' : Nat} {s' : Sta} {l' : List Ent} (hT : Tab H p n c s.table) (hE : Ents H q m d l) (hT' : Tab H p' n' c' s'.table) (hE' : Ents H q' m' d' l') :
    Gv Tryz.prog 36 #[logV s (vsl p n c) (vsl q m d), logV s' (vsl p' n' c') (vsl q' m' d')] H (vb (decide (s = s' ∧ l = l'))) := fun W hH => by
  refine x_sameLogs _ _ _ _ _ _ p n c q m d _ _ _ _ _ _ p' n' c' q' m' d' noM H W _ hH fun b0 b1 => ?_
  refine Cl.same (c_sameOf hT hT') fun _ _ hx => ⟨_, rfl, hx, fun h => ?_, fun h => Rt.gv' (by rw [decide_eq_false]; intro hh; exact h (decide_eq_true hh.1))⟩
  refine Cl.same (c_sameEnts hE hE') fun _ _ hx => ⟨_, rfl, hx, Rt.gv' (by simp [of_decide_eq_true h])⟩
end
end Go.Proofs.YtfpmcmhihhnfgaaGreat
