/- Entries as plain data, and what the document says of one. No program in sight. No conditions. == and != on ops and entries. No conditions. Symbolic runs of functions: what each leaves to prove is enough for its call. Printed by a program of ours. No conditions. Contracts: what checks an entry. No conditions. -/
import Derived.Test.YtoilhpkclabhoaaKD1
import Derived.Test.YtoilhpkclabhoaaKE3
import Derived.Test.YtoilhpkclabhoaaProg
import Derived.ChangeKeysEq
import Derived.Test.YtoilhpkclabhoaaKS1
import Derived.Test.YtoilhpkclabhoaaKO1
set_option linter.unusedVariables false
set_option linter.unusedSimpArgs false
namespace Go.Proofs.Ytoilhpkclabhoaa

structure Ent where
  kind : Int
  time : Int
  client : Int
  seq : Int
  ack : Int
  op : POp
  deriving DecidableEq
def POp.none : POp := ⟨0, 0, 0, 0⟩
def Ent.zero : Ent := ⟨0, 0, 0, 0, 0, POp.none⟩
def Ent.err (e : Ent) : Int :=
  if e.kind < 1 ∨ 3 < e.kind then 4
  else if e.time < 0 ∨ 999 < e.time ∨ e.client < 1 ∨ 5 < e.client then 3
  else if e.kind = 2 then (if e.seq < 1 ∨ 60 < e.seq ∨ e.ack < 0 ∨ e.seq ≤ e.ack then 3 else e.op.err)
  else if e.seq = 0 ∧ e.ack = 0 ∧ e.op = POp.none then 0 else 1
theorem ent_kind {e : Ent} (h : e.kind < 1 ∨ 3 < e.kind) : e.err = 4 := by unfold Ent.err; rw [if_pos h]
theorem ent_range {e : Ent} (h0 : ¬ (e.kind < 1 ∨ 3 < e.kind)) (h : e.time < 0 ∨ 999 < e.time ∨ e.client < 1 ∨ 5 < e.client) : e.err = 3 := by unfold Ent.err; rw [if_neg h0, if_pos h]
theorem ent_call {e : Ent} (h0 : ¬ (e.kind < 1 ∨ 3 < e.kind)) (h1 : ¬ (e.time < 0 ∨ 999 < e.time ∨ e.client < 1 ∨ 5 < e.client)) (h2 : e.kind = 2) : e.err = if e.seq < 1 ∨ 60 < e.seq ∨ e.ack < 0 ∨ e.seq ≤ e.ack then 3 else e.op.err := by unfold Ent.err; rw [if_neg h0, if_neg h1, if_pos h2]
theorem ent_other {e : Ent} (h0 : ¬ (e.kind < 1 ∨ 3 < e.kind)) (h1 : ¬ (e.time < 0 ∨ 999 < e.time ∨ e.client < 1 ∨ 5 < e.client)) (h2 : ¬ e.kind = 2) : e.err = if e.seq = 0 ∧ e.ack = 0 ∧ e.op = POp.none then 0 else 1 := by unfold Ent.err; rw [if_neg h0, if_neg h1, if_neg h2]
end Go.Proofs.Ytoilhpkclabhoaa
namespace Go.Proofs.Ytoilhpkclabhoaa
open Go.RowKit
set_option maxRecDepth 100000
abbrev POp.vals (x : POp) : Value := .agg #[vi x.kind, vi x.key, vi x.to, vi x.n]
abbrev Ent.val (e : Ent) : Value := .agg #[vi e.kind, vi e.time, vi e.client, vi e.seq, vi e.ack, vi e.op.kind, vi e.op.key, vi e.op.to, vi e.op.n]
theorem partOp (a b c d : Value) : (∀ w, (part 3 #[a, b, c, d] 0).run Try.prog w = .ok a w) ∧ (∀ w, (part 3 #[a, b, c, d] 1).run Try.prog w = .ok b w) ∧ (∀ w, (part 3 #[a, b, c, d] 2).run Try.prog w = .ok c w) ∧ (∀ w, (part 3 #[a, b, c, d] 3).run Try.prog w = .ok d w) :=
  ⟨fun _ => by kernel_rfl, fun _ => by kernel_rfl, fun _ => by kernel_rfl, fun _ => by kernel_rfl⟩
theorem stoodOp : Program.stoodInHeld Try.prog 31 = false := by kernel_rfl
theorem equal_op (x y : POp) (n : Nat) (w : World) : (Op.equalIn (n + 2) 31 x.vals y.vals).run Try.prog w = .ok (decide (x = y)) w := by
  have hf : Try.prog.underlying 31 = some (.struct (Try.prog.fieldsOf 31)) := by simp only [Program.fieldsOf, Try.underlying31]
  rw [run_equalIn_struct (P := Try.prog) w (n + 1) _ _ _ hf stoodOp]
  obtain ⟨x0, x1, x2, x3⟩ := x
  obtain ⟨y0, y1, y2, y3⟩ := y
  have p0 : ∀ (a b c d : Value) (w : World), (part 3 #[a, b, c, d] 0).run Try.prog w = .ok a w := fun a b c d => (partOp a b c d).1
  have p1 : ∀ (a b c d : Value) (w : World), (part 3 #[a, b, c, d] 1).run Try.prog w = .ok b w := fun a b c d => (partOp a b c d).2.1
  have p2 : ∀ (a b c d : Value) (w : World), (part 3 #[a, b, c, d] 2).run Try.prog w = .ok c w := fun a b c d => (partOp a b c d).2.2.1
  have p3 : ∀ (a b c d : Value) (w : World), (part 3 #[a, b, c, d] 3).run Try.prog w = .ok d w := fun a b c d => (partOp a b c d).2.2.2
  have e : ∀ (a b : Int) (w : World), (Op.equalIn (n + 1) 3 (vi a) (vi b)).run Try.prog w = .ok (a == b) w := fun a b w => run_equalIn_int w n _ _ _ a b Try.underlying3
  simp only [Program.fieldsOf, Try.underlying31, Op.eqFields]
  by_cases h0 : x0 = y0 <;> by_cases h1 : x1 = y1 <;> by_cases h2 : x2 = y2 <;> by_cases h3 : x3 = y3 <;> simp [p0, p1, p2, p3, e, h0, h1, h2, h3]
section
variable (a0 a1 a2 a3 a4 a5 a6 a7 a8 : Value) (w : World)
theorem pe0 : (part 3 #[a0, a1, a2, a3, a4, a5, a6, a7, a8] 0).run Try.prog w = .ok a0 w := by kernel_rfl
theorem pe1 : (part 3 #[a0, a1, a2, a3, a4, a5, a6, a7, a8] 1).run Try.prog w = .ok a1 w := by kernel_rfl
theorem pe2 : (part 3 #[a0, a1, a2, a3, a4, a5, a6, a7, a8] 2).run Try.prog w = .ok a2 w := by kernel_rfl
theorem pe3 : (part 3 #[a0, a1, a2, a3, a4, a5, a6, a7, a8] 3).run Try.prog w = .ok a3 w := by kernel_rfl
theorem pe4 : (part 3 #[a0, a1, a2, a3, a4, a5, a6, a7, a8] 4).run Try.prog w = .ok a4 w := by kernel_rfl
theorem pe5 : (part 31 #[a0, a1, a2, a3, a4, a5, a6, a7, a8] 5).run Try.prog w = .ok (.agg #[a5, a6, a7, a8]) w := by kernel_rfl
end
theorem stoodEnt : Program.stoodInHeld Try.prog 33 = false := by kernel_rfl
theorem guardEnt : Program.eqGuardType Try.prog Try.prog.depth 33 = false := by kernel_rfl
theorem equal_ent (x y : Ent) (w : World) : (Op.equalIn 10000 33 x.val y.val).run Try.prog w = .ok (decide (x = y)) w := by
  have hf : Try.prog.underlying 33 = some (.struct (Try.prog.fieldsOf 33)) := by simp only [Program.fieldsOf, Try.underlying33]
  rw [run_equalIn_struct (P := Try.prog) w 9999 _ _ _ hf stoodEnt]
  obtain ⟨x0, x1, x2, x3, x4, xo⟩ := x
  obtain ⟨y0, y1, y2, y3, y4, yo⟩ := y
  have e : ∀ (a b : Int) (w : World), (Op.equalIn 9999 3 (vi a) (vi b)).run Try.prog w = .ok (a == b) w := fun a b w => run_equalIn_int w 9998 _ _ _ a b Try.underlying3
  have eo : ∀ w : World, (Op.equalIn 9999 31 (.agg #[vi xo.kind, vi xo.key, vi xo.to, vi xo.n]) (.agg #[vi yo.kind, vi yo.key, vi yo.to, vi yo.n])).run Try.prog w = .ok (decide (xo = yo)) w := fun w => equal_op xo yo 9997 w
  simp only [Program.fieldsOf, Try.underlying33, Op.eqFields]
  by_cases h0 : x0 = y0 <;> by_cases h1 : x1 = y1 <;> by_cases h2 : x2 = y2 <;> by_cases h3 : x3 = y3 <;> by_cases h4 : x4 = y4 <;> simp [pe0, pe1, pe2, pe3, pe4, pe5, e, eo, h0, h1, h2, h3, h4]
  by_cases h5 : xo = yo
  · rw [if_pos h5, decide_eq_true h5]
  · rw [if_neg h5, decide_eq_false h5]
theorem ek_ne_ent (a b : Operand) (x y : Ent) (w : World) : (EK.sem (.bop .neq 33 a b) [x.val, y.val]).run Try.prog w = .ok (.value (vb (!decide (x = y)))) w := by
  simp [EK.sem, run_eqGuard_agg (P := Try.prog) w .neq 33 a b _ _ guardEnt, run_neq_struct, equal_ent]
end Go.Proofs.Ytoilhpkclabhoaa
namespace Go.Proofs.Ytoilhpkclabhoaa
open Go.RowKit
set_option maxRecDepth 100000
set_option maxHeartbeats 4000000
def v_entCheck : VC :=
(.all 0
(.all 1
(.ite (.lt (.v 0) (.k 1))
(.ret (.int .i64 (.k 4)) [])
(.ite (.lt (.k 3) (.v 0))
(.ret (.int .i64 (.k 4)) [])
(.ite (.lt (.v 1) (.k 0))
(.ret (.int .i64 (.k 3)) [])
(.ite (.lt (.k 999) (.v 1))
(.ret (.int .i64 (.k 3)) [])
(.ite (.lt (.v 2) (.k 1))
(.ret (.int .i64 (.k 3)) [])
(.ite (.lt (.k 5) (.v 2))
(.ret (.int .i64 (.k 3)) [])
(.ite (.eq (.v 0) (.k 2))
(.ite (.lt (.v 3) (.k 1))
(.ret (.int .i64 (.k 3)) [])
(.ite (.lt (.k 60) (.v 3))
(.ret (.int .i64 (.k 3)) [])
(.ite (.lt (.v 4) (.k 0))
(.ret (.int .i64 (.k 3)) [])
(.ite (.le (.v 3) (.v 4))
(.ret (.int .i64 (.k 3)) [])
(.call 69 [.agg [.int .i64 (.v 5), .int .i64 (.v 6), .int .i64 (.v 7), .int .i64 (.v 8)]] [] [(9, .i)] (.int .i64 (.v 9)) .same
(.ret (.int .i64 (.v 9)) []))))))
(.esc (.bop .neq 33 (.tmp 71) (.tmp 72)) [.agg [.int .i64 (.v 0), .int .i64 (.v 1), .int .i64 (.v 2), .int .i64 (.v 3), .int .i64 (.v 4), .int .i64 (.v 5), .int .i64 (.v 6), .int .i64 (.v 7), .int .i64 (.v 8)], .agg [.int .i64 (.v 0), .int .i64 (.v 1), .int .i64 (.v 2), .int .i64 (.k 0), .int .i64 (.k 0), .int .i64 (.k 0), .int .i64 (.k 0), .int .i64 (.k 0), .int .i64 (.k 0)]] [] [(9, .b)] (some (.bool (.v 9))) .same
(.ite (.v 9)
(.ret (.int .i64 (.k 1)) [])
(.ret (.int .i64 (.k 0)) []))))))))))))
theorem x_entCheck (x0 : Int) (x1 : Int) (x2 : Int) (x3 : Int) (x4 : Int) (x5 : Int) (x6 : Int) (x7 : Int) (x8 : Int) (M : Nat → Prop) (H0 : Hp) (W0 : World) (R : Ending → World → Prop) (hH : H0.le (hpOf W0)) (h :
 (∀ b0 : Nat,
 (∀ b1 : Nat,
 ((x0 < 1 →
  Rt R W0 M H0 nK (vi 4)) ∧
 (¬ (x0 < 1) →
  ((3 < x0 →
   Rt R W0 M H0 nK (vi 4)) ∧
  (¬ (3 < x0) →
   ((x1 < 0 →
    Rt R W0 M H0 nK (vi 3)) ∧
   (¬ (x1 < 0) →
    ((999 < x1 →
     Rt R W0 M H0 nK (vi 3)) ∧
    (¬ (999 < x1) →
     ((x2 < 1 →
      Rt R W0 M H0 nK (vi 3)) ∧
     (¬ (x2 < 1) →
      ((5 < x2 →
       Rt R W0 M H0 nK (vi 3)) ∧
      (¬ (5 < x2) →
       ((x0 = 2 →
        ((x3 < 1 →
         Rt R W0 M H0 nK (vi 3)) ∧
        (¬ (x3 < 1) →
         ((60 < x3 →
          Rt R W0 M H0 nK (vi 3)) ∧
         (¬ (60 < x3) →
          ((x4 < 0 →
           Rt R W0 M H0 nK (vi 3)) ∧
          (¬ (x4 < 0) →
           ((x3 ≤ x4 →
            Rt R W0 M H0 nK (vi 3)) ∧
           (¬ (x3 ≤ x4) →
            (Cl Try.prog W0 M H0 nK 69 #[Value.agg #[vi x5, vi x6, vi x7, vi x8]] fun z W1 W2 => ∃ x9 : Int, z = .returned (vi x9) ∧ Ext W1 W2 ∧
            Rt R W0 M H0 nK (vi x9))))))))))) ∧
       (¬ (x0 = 2) →
        (Es W0 M H0 nK fun W1 => ∃ x9 : Bool, Eo Try.prog (.bop .neq 33 (.tmp 71) (.tmp 72)) [Value.agg #[vi x0, vi x1, vi x2, vi x3, vi x4, vi x5, vi x6, vi x7, vi x8], Value.agg #[vi x0, vi x1, vi x2, vi 0, vi 0, vi 0, vi 0, vi 0, vi 0]] W1 (.value (vb (x9))) fun W2 => Ext W1 W2 ∧
        ((x9 = true →
         Rt R W0 M H0 nK (vi 1)) ∧
        (¬ (x9 = true) →
         Rt R W0 M H0 nK (vi 0))))))))))))))))))))) :
  Calls Try.prog 43 #[Value.agg #[vi x0, vi x1, vi x2, vi x3, vi x4, vi x5, vi x6, vi x7, vi x8]] W0 R :=
  calls_sxA (M := M) (V := v_entCheck) (hi := {}) (args := [.agg [.int .i64 (.v 0), .int .i64 (.v 1), .int .i64 (.v 2), .int .i64 (.v 3), .int .i64 (.v 4), .int .i64 (.v 5), .int .i64 (.v 6), .int .i64 (.v 7), .int .i64 (.v 8)]]) (nv := 9) (e := (upd (upd (upd (upd (upd (upd (upd (upd (upd (fun _ => .i 0) 0 (.i x0)) 1 (.i x1)) 2 (.i x2)) 3 (.i x3)) 4 (.i x4)) 5 (.i x5)) 6 (.i x6)) 7 (.i x7)) 8 (.i x8))) Try.func43 hH h (by kernel_rfl) (by kernel_rfl) (by kernel_rfl)
end Go.Proofs.Ytoilhpkclabhoaa
namespace Go.Proofs.Ytoilhpkclabhoaa
open Go.RowKit

theorem c_opCheck (x : POp) (H : Hp) : Gv Try.prog 69 #[x.vals] H (vi x.err) := fun W _ => op_check x.kind x.key x.to x.n W
theorem c_entCheck (e : Ent) (H : Hp) : Gv Try.prog 43 #[e.val] H (vi e.err) := fun W hH => by
  refine x_entCheck _ _ _ _ _ _ _ _ _ noM H W _ hH fun b0 b1 => ?_
  refine ⟨fun h => Rt.gv' (by rw [ent_kind (by omega)]), fun k1 => ⟨fun h => Rt.gv' (by rw [ent_kind (by omega)]), fun k2 => ?_⟩⟩
  have h0 : ¬ (e.kind < 1 ∨ 3 < e.kind) := by omega
  refine ⟨fun h => Rt.gv' (by rw [ent_range h0 (by omega)]), fun k3 => ⟨fun h => Rt.gv' (by rw [ent_range h0 (by omega)]), fun k4 => ⟨fun h => Rt.gv' (by rw [ent_range h0 (by omega)]), fun k5 => ⟨fun h => Rt.gv' (by rw [ent_range h0 (by omega)]), fun k6 => ?_⟩⟩⟩⟩
  have h1 : ¬ (e.time < 0 ∨ 999 < e.time ∨ e.client < 1 ∨ 5 < e.client) := by omega
  refine ⟨fun hc => ?_, fun hc => ?_⟩
  · have no : (e.seq < 1 ∨ 60 < e.seq ∨ e.ack < 0 ∨ e.seq ≤ e.ack) → vi 3 = vi e.err := fun h => by rw [ent_call h0 h1 hc, if_pos h]
    refine ⟨fun h => Rt.gv' (no (by omega)), fun j1 => ⟨fun h => Rt.gv' (no (by omega)), fun j2 => ⟨fun h => Rt.gv' (no (by omega)), fun j3 => ⟨fun h => Rt.gv' (no (by omega)), fun j4 => ?_⟩⟩⟩⟩
    refine Cl.same (c_opCheck e.op H) fun _ _ hx => ⟨_, rfl, hx, Rt.gv' (by rw [ent_call h0 h1 hc, if_neg (by omega)])⟩
  · intro W1 _ _
    refine ⟨_, _, ek_ne_ent _ _ e ⟨e.kind, e.time, e.client, 0, 0, POp.none⟩ _, Ext.refl _, fun h => Rt.gv' ?_, fun h => Rt.gv' ?_⟩
    · simp only [Bool.not_eq_true', decide_eq_false_iff_not] at h
      rw [ent_other h0 h1 hc, if_neg]
      rintro ⟨g1, g2, g3⟩
      exact h (by cases e; simp_all)
    · simp only [Bool.not_eq_true, Bool.not_eq_false', decide_eq_true_eq] at h
      rw [ent_other h0 h1 hc, if_pos]
      rw [h]
      exact ⟨rfl, rfl, rfl⟩
end Go.Proofs.Ytoilhpkclabhoaa
