/- Entries as plain data, and what the document says of one. No program in sight. No conditions. == and != on ops and entries. No conditions. Symbolic runs of functions: what each leaves to prove is enough for its call. Printed by a program of ours. No conditions. Contracts: what checks an entry. No conditions. -/
import Derived.Test.YtfpmcmhihhnfgaaGreatKD1
import Derived.Test.YtfpmcmhihhnfgaaGreatKE3
import Derived.Test.YtfpmcmhihhnfgaaGreatProg
import Derived.ChangeKeysEq
import Derived.Test.YtfpmcmhihhnfgaaGreatKS1
import Derived.Test.YtfpmcmhihhnfgaaGreatKO1
set_option linter.unusedVariables false
set_option linter.unusedSimpArgs false
namespace Go.Proofs.YtfpmcmhihhnfgaaGreat

structure Ent where
  kind : Int
  time : Int
  client : Int
  seq : Int
  ack : Int
  op : POp
  deriving DecidableEq
def POp.none : POp := ⟨0, 0, 0, 0⟩
def Ent.zero : Ent := ⟨0, 0, 0, 0, 0, POp.none⟩
def Ent.err (e : Ent) : Int :=
  if e.kind < 1 ∨ 3 < e.kind then 4
  else if e.time < 0 ∨ 999 < e.time ∨ e.client < 1 ∨ 5 < e.client then 3
  else if e.kind = 2 then (if e.seq < 1 ∨ 60 < e.seq ∨ e.ack < 0 ∨ e.seq ≤ e.ack then 3 else e.op.err)
  else if e.seq = 0 ∧ e.ack = 0 ∧ e.op = POp.none then 0 else 1
theorem ent_kind {e : Ent} (h : e.kind < 1 ∨ 3 < e.kind) : e.err = 4 := by unfold Ent.err; rw [if_pos h]
theorem ent_range {e : Ent} (h0 : ¬ (e.kind < 1 ∨ 3 < e.kind)) (h : e.time < 0 ∨ 999 < e.time ∨ e.client < 1 ∨ 5 < e.client) : e.err = 3 := by unfold Ent.err; rw [if_neg h0, if_pos h]
theorem ent_call {e : Ent} (h0 : ¬ (e.kind < 1 ∨ 3 < e.kind)) (h1 : ¬ (e.time < 0 ∨ 999 < e.time ∨ e.client < 1 ∨ 5 < e.client)) (h2 : e.kind = 2) : e.err = if e.seq < 1 ∨ 60 < e.seq ∨ e.ack < 0 ∨ e.seq ≤ e.ack then 3 else e.op.err := by unfold Ent.err; rw [if_neg h0, if_neg h1, if_pos h2]
theorem ent_other {e : Ent} (h0 : ¬ (e.kind < 1 ∨ 3 < e.kind)) (h1 : ¬ (e.time < 0 ∨ 999 < e.time ∨ e.client < 1 ∨ 5 < e.client)) (h2 : ¬ e.kind = 2) : e.err = if e.seq = 0 ∧ e.ack = 0 ∧ e.op = POp.none then 0 else 1 := by unfold Ent.err; rw [if_neg h0, if_neg h1, if_neg h2]
end Go.Proofs.YtfpmcmhihhnfgaaGreat
namespace Go.Proofs.YtfpmcmhihhnfgaaGreat
open Go.RowKit
set_option maxRecDepth 100000
abbrev POp.vals (x : POp) : Value := .agg #[vi x.kind, vi x.key, vi x.to, vi x.n]
abbrev Ent.val (e : Ent) : Value := .agg #[vi e.kind, vi e.time, vi e.client, vi e.seq, vi e.ack, vi e.op.kind, vi e.op.key, vi e.op.to, vi e.op.n]
theorem partOp (a b c d : Value) : (∀ w, (part 3 #[a, b, c, d] 0).run Tryz.prog w = .ok a w) ∧ (∀ w, (part 3 #[a, b, c, d] 1).run Tryz.prog w = .ok b w) ∧ (∀ w, (part 3 #[a, b, c, d] 2).run Tryz.prog w = .ok c w) ∧ (∀ w, (part 3 #[a, b, c, d] 3).run Tryz.prog w = .ok d w) :=
  ⟨fun _ => by kernel_rfl, fun _ => by kernel_rfl, fun _ => by kernel_rfl, fun _ => by kernel_rfl⟩
theorem stoodOp : Program.stoodInHeld Tryz.prog 33 = false := by kernel_rfl
theorem guardOp : Program.eqGuardType Tryz.prog Tryz.prog.depth 33 = false := by kernel_rfl
theorem equal_op (x y : POp) (n : Nat) (w : World) : (Op.equalIn (n + 2) 33 x.vals y.vals).run Tryz.prog w = .ok (decide (x = y)) w := by
  have hf : Tryz.prog.underlying 33 = some (.struct (Tryz.prog.fieldsOf 33)) := by simp only [Program.fieldsOf, Tryz.underlying33]
  rw [run_equalIn_struct (P := Tryz.prog) w (n + 1) _ _ _ hf stoodOp]
  obtain ⟨x0, x1, x2, x3⟩ := x
  obtain ⟨y0, y1, y2, y3⟩ := y
  have p0 : ∀ (a b c d : Value) (w : World), (part 3 #[a, b, c, d] 0).run Tryz.prog w = .ok a w := fun a b c d => (partOp a b c d).1
  have p1 : ∀ (a b c d : Value) (w : World), (part 3 #[a, b, c, d] 1).run Tryz.prog w = .ok b w := fun a b c d => (partOp a b c d).2.1
  have p2 : ∀ (a b c d : Value) (w : World), (part 3 #[a, b, c, d] 2).run Tryz.prog w = .ok c w := fun a b c d => (partOp a b c d).2.2.1
  have p3 : ∀ (a b c d : Value) (w : World), (part 3 #[a, b, c, d] 3).run Tryz.prog w = .ok d w := fun a b c d => (partOp a b c d).2.2.2
  have e : ∀ (a b : Int) (w : World), (Op.equalIn (n + 1) 3 (vi a) (vi b)).run Tryz.prog w = .ok (a == b) w := fun a b w => run_equalIn_int w n _ _ _ a b Tryz.underlying3
  simp only [Program.fieldsOf, Tryz.underlying33, Op.eqFields]
  by_cases h0 : x0 = y0 <;> by_cases h1 : x1 = y1 <;> by_cases h2 : x2 = y2 <;> by_cases h3 : x3 = y3 <;> simp [p0, p1, p2, p3, e, h0, h1, h2, h3]
theorem ek_ne_op (a b : Operand) (x y : POp) (w : World) : (EK.sem (.bop .neq 33 a b) [x.vals, y.vals]).run Tryz.prog w = .ok (.value (vb (!decide (x = y)))) w := by
  have := equal_op x y 9998 w
  simp [EK.sem, run_eqGuard_agg (P := Tryz.prog) w .neq 33 a b _ _ guardOp, run_neq_struct, this]
section
variable (a0 a1 a2 a3 a4 a5 a6 a7 a8 : Value) (w : World)
theorem pe0 : (part 3 #[a0, a1, a2, a3, a4, a5, a6, a7, a8] 0).run Tryz.prog w = .ok a0 w := by kernel_rfl
theorem pe1 : (part 3 #[a0, a1, a2, a3, a4, a5, a6, a7, a8] 1).run Tryz.prog w = .ok a1 w := by kernel_rfl
theorem pe2 : (part 3 #[a0, a1, a2, a3, a4, a5, a6, a7, a8] 2).run Tryz.prog w = .ok a2 w := by kernel_rfl
theorem pe3 : (part 3 #[a0, a1, a2, a3, a4, a5, a6, a7, a8] 3).run Tryz.prog w = .ok a3 w := by kernel_rfl
theorem pe4 : (part 3 #[a0, a1, a2, a3, a4, a5, a6, a7, a8] 4).run Tryz.prog w = .ok a4 w := by kernel_rfl
theorem pe5 : (part 33 #[a0, a1, a2, a3, a4, a5, a6, a7, a8] 5).run Tryz.prog w = .ok (.agg #[a5, a6, a7, a8]) w := by kernel_rfl
end
theorem stoodEnt : Program.stoodInHeld Tryz.prog 35 = false := by kernel_rfl
theorem guardEnt : Program.eqGuardType Tryz.prog Tryz.prog.depth 35 = false := by kernel_rfl
theorem equal_ent (x y : Ent) (w : World) : (Op.equalIn 10000 35 x.val y.val).run Tryz.prog w = .ok (decide (x = y)) w := by
  have hf : Tryz.prog.underlying 35 = some (.struct (Tryz.prog.fieldsOf 35)) := by simp only [Program.fieldsOf, Tryz.underlying35]
  rw [run_equalIn_struct (P := Tryz.prog) w 9999 _ _ _ hf stoodEnt]
  obtain ⟨x0, x1, x2, x3, x4, xo⟩ := x
  obtain ⟨y0, y1, y2, y3, y4, yo⟩ := y
  have e : ∀ (a b : Int) (w : World), (Op.equalIn 9999 3 (vi a) (vi b)).run Tryz.prog w = .ok (a == b) w := fun a b w => run_equalIn_int w 9998 _ _ _ a b Tryz.underlying3
  have eo : ∀ w : World, (Op.equalIn 9999 33 (.agg #[vi xo.kind, vi xo.key, vi xo.to, vi xo.n]) (.agg #[vi yo.kind, vi yo.key, vi yo.to, vi yo.n])).run Tryz.prog w = .ok (decide (xo = yo)) w := fun w => equal_op xo yo 9997 w
  simp only [Program.fieldsOf, Tryz.underlying35, Op.eqFields]
  by_cases h0 : x0 = y0 <;> by_cases h1 : x1 = y1 <;> by_cases h2 : x2 = y2 <;> by_cases h3 : x3 = y3 <;> by_cases h4 : x4 = y4 <;> simp [pe0, pe1, pe2, pe3, pe4, pe5, e, eo, h0, h1, h2, h3, h4]
  by_cases h5 : xo = yo
  · rw [if_pos h5, decide_eq_true h5]
  · rw [if_neg h5, decide_eq_false h5]
theorem ek_ne_ent (a b : Operand) (x y : Ent) (w : World) : (EK.sem (.bop .neq 35 a b) [x.val, y.val]).run Tryz.prog w = .ok (.value (vb (!decide (x = y)))) w := by
  simp [EK.sem, run_eqGuard_agg (P := Tryz.prog) w .neq 35 a b _ _ guardEnt, run_neq_struct, equal_ent]
end Go.Proofs.YtfpmcmhihhnfgaaGreat
namespace Go.Proofs.YtfpmcmhihhnfgaaGreat
open Go.RowKit
set_option maxRecDepth 100000
set_option maxHeartbeats 4000000
def v_entCheck : VC :=
(.all 0
(.all 1
(.ite (.lt (.v 0) (.k 1))
(.ret (.int .i64 (.k 4)) [])
(.ite (.lt (.k 3) (.v 0))
(.ret (.int .i64 (.k 4)) [])
(.ite (.lt (.v 1) (.k 0))
(.ret (.int .i64 (.k 3)) [])
(.ite (.lt (.k 999) (.v 1))
(.ret (.int .i64 (.k 3)) [])
(.ite (.lt (.v 2) (.k 1))
(.ret (.int .i64 (.k 3)) [])
(.ite (.lt (.k 5) (.v 2))
(.ret (.int .i64 (.k 3)) [])
(.ite (.eq (.v 0) (.k 2))
(.ite (.lt (.v 3) (.k 1))
(.ret (.int .i64 (.k 3)) [])
(.ite (.lt (.k 60) (.v 3))
(.ret (.int .i64 (.k 3)) [])
(.ite (.lt (.v 4) (.k 0))
(.ret (.int .i64 (.k 3)) [])
(.ite (.le (.v 3) (.v 4))
(.ret (.int .i64 (.k 3)) [])
(.call 64 [.agg [vI 5, vI 6, vI 7, vI 8]] [] [(9, .i)] (vI 9) .same
(.ret (vI 9) []))))))
(.esc (.bop .neq 35 (.tmp 71) (.tmp 72)) [.agg [vI 0, vI 1, vI 2, vI 3, vI 4, vI 5, vI 6, vI 7, vI 8], .agg [vI 0, vI 1, vI 2, .int .i64 (.k 0), .int .i64 (.k 0), .int .i64 (.k 0), .int .i64 (.k 0), .int .i64 (.k 0), .int .i64 (.k 0)]] [] [(9, .b)] (some (.bool (.v 9))) .same
(.ite (.v 9)
(.ret (.int .i64 (.k 1)) [])
(.ret (.int .i64 (.k 0)) []))))))))))))
theorem x_entCheck (x0 x1 x2 x3 x4 x5 x6 x7 x8 : Int) (M : Nat → Prop) (H0 : Hp) (W0 : World) (R : Ending → World → Prop) (hH : H0.le (hpOf W0)) (h :
 (∀ b0 : Nat,
 (∀ b1 : Nat,
 ((x0 < 1 →
  Rt R W0 M H0 nK (vi 4)) ∧
 (¬ (x0 < 1) →
  ((3 < x0 →
   Rt R W0 M H0 nK (vi 4)) ∧
  (¬ (3 < x0) →
   ((x1 < 0 →
    Rt R W0 M H0 nK (vi 3)) ∧
   (¬ (x1 < 0) →
    ((999 < x1 →
     Rt R W0 M H0 nK (vi 3)) ∧
    (¬ (999 < x1) →
     ((x2 < 1 →
      Rt R W0 M H0 nK (vi 3)) ∧
     (¬ (x2 < 1) →
      ((5 < x2 →
       Rt R W0 M H0 nK (vi 3)) ∧
      (¬ (5 < x2) →
       ((x0 = 2 →
        ((x3 < 1 →
         Rt R W0 M H0 nK (vi 3)) ∧
        (¬ (x3 < 1) →
         ((60 < x3 →
          Rt R W0 M H0 nK (vi 3)) ∧
         (¬ (60 < x3) →
          ((x4 < 0 →
           Rt R W0 M H0 nK (vi 3)) ∧
          (¬ (x4 < 0) →
           ((x3 ≤ x4 →
            Rt R W0 M H0 nK (vi 3)) ∧
           (¬ (x3 ≤ x4) →
            (Cl Tryz.prog W0 M H0 nK 64 #[Value.agg #[vi x5, vi x6, vi x7, vi x8]] fun z W1 W2 => ∃ x9 : Int, z = .returned (vi x9) ∧ Ext W1 W2 ∧
            Rt R W0 M H0 nK (vi x9))))))))))) ∧
       (¬ (x0 = 2) →
        (Es W0 M H0 nK fun W1 => ∃ x9 : Bool, Eo Tryz.prog (.bop .neq 35 (.tmp 71) (.tmp 72)) [Value.agg #[vi x0, vi x1, vi x2, vi x3, vi x4, vi x5, vi x6, vi x7, vi x8], Value.agg #[vi x0, vi x1, vi x2, vi 0, vi 0, vi 0, vi 0, vi 0, vi 0]] W1 (.value (vb (x9))) fun W2 => Ext W1 W2 ∧
        ((x9 = true →
         Rt R W0 M H0 nK (vi 1)) ∧
        (¬ (x9 = true) →
         Rt R W0 M H0 nK (vi 0))))))))))))))))))))) :
  Calls Tryz.prog 46 #[Value.agg #[vi x0, vi x1, vi x2, vi x3, vi x4, vi x5, vi x6, vi x7, vi x8]] W0 R :=
  calls_sxA (M := M) (V := v_entCheck) (hi := {}) (args := [.agg [vI 0, vI 1, vI 2, vI 3, vI 4, vI 5, vI 6, vI 7, vI 8]]) (nv := 9) (e := (upd (upd (upd (upd (upd (upd (upd (upd (upd (fun _ => .i 0) 0 (.i x0)) 1 (.i x1)) 2 (.i x2)) 3 (.i x3)) 4 (.i x4)) 5 (.i x5)) 6 (.i x6)) 7 (.i x7)) 8 (.i x8))) Tryz.func46 hH h (by kernel_rfl) (by kernel_rfl) (by kernel_rfl)
def v_entErr : VC :=
(.all 0
(.call 33 [vI 0, .int .i64 (.k 1), .int .i64 (.k 3)] [] [(9, .b)] (.bool (.v 9)) .same
(.ite (.v 9)
(.call 33 [vI 1, .int .i64 (.k 0), .int .i64 (.k 999)] [] [(10, .b)] (.bool (.v 10)) .same
(.ite (.v 10)
(.call 33 [vI 2, .int .i64 (.k 1), .int .i64 (.k 5)] [] [(11, .b)] (.bool (.v 11)) .same
(.ite (.v 11)
(.ite (.eq (.v 0) (.k 2))
(.call 33 [vI 3, .int .i64 (.k 1), .int .i64 (.k 60)] [] [(12, .b)] (.bool (.v 12)) .same
(.ite (.v 12)
(.chk (.rng .i64 (.sub (.v 3) (.k 1)))
(.call 33 [vI 4, .int .i64 (.k 0), .int .i64 (.sub (.v 3) (.k 1))] [] [(13, .b)] (.bool (.v 13)) .same
(.ite (.v 13)
(.call 67 [.agg [vI 5, vI 6, vI 7, vI 8]] [] [(14, .i)] (vI 14) .same
(.ret (vI 14) []))
(.ret (.int .i64 (.k 3)) []))))
(.ret (.int .i64 (.k 3)) [])))
(.ite (.eq (.v 3) (.k 0))
(.ite (.eq (.v 4) (.k 0))
(.esc (.bop .neq 33 (.tmp 30) (.tmp 31)) [.agg [vI 5, vI 6, vI 7, vI 8], .agg [.int .i64 (.k 0), .int .i64 (.k 0), .int .i64 (.k 0), .int .i64 (.k 0)]] [] [(12, .b)] (some (.bool (.v 12))) .same
(.ite (.v 12)
(.ret (.int .i64 (.k 1)) [])
(.ret (.int .i64 (.k 0)) [])))
(.ret (.int .i64 (.k 1)) []))
(.ret (.int .i64 (.k 1)) [])))
(.ret (.int .i64 (.k 3)) [])))
(.ret (.int .i64 (.k 3)) [])))
(.ret (.int .i64 (.k 4)) []))))
theorem x_entErr (x0 x1 x2 x3 x4 x5 x6 x7 x8 : Int) (M : Nat → Prop) (H0 : Hp) (W0 : World) (R : Ending → World → Prop) (hH : H0.le (hpOf W0)) (h :
 (∀ b0 : Nat,
 (Cl Tryz.prog W0 M H0 nK 33 #[vi x0, vi 1, vi 3] fun z W1 W2 => ∃ x9 : Bool, z = .returned (vb (x9)) ∧ Ext W1 W2 ∧
 ((x9 = true →
  (Cl Tryz.prog W0 M H0 nK 33 #[vi x1, vi 0, vi 999] fun z W3 W4 => ∃ x10 : Bool, z = .returned (vb (x10)) ∧ Ext W3 W4 ∧
  ((x10 = true →
   (Cl Tryz.prog W0 M H0 nK 33 #[vi x2, vi 1, vi 5] fun z W5 W6 => ∃ x11 : Bool, z = .returned (vb (x11)) ∧ Ext W5 W6 ∧
   ((x11 = true →
    ((x0 = 2 →
     (Cl Tryz.prog W0 M H0 nK 33 #[vi x3, vi 1, vi 60] fun z W7 W8 => ∃ x12 : Bool, z = .returned (vb (x12)) ∧ Ext W7 W8 ∧
     ((x12 = true →
      (inKind .i64 (x3 - 1) ∧ (inKind .i64 (x3 - 1) →
      (Cl Tryz.prog W0 M H0 nK 33 #[vi x4, vi 0, vi (x3 - 1)] fun z W9 W10 => ∃ x13 : Bool, z = .returned (vb (x13)) ∧ Ext W9 W10 ∧
      ((x13 = true →
       (Cl Tryz.prog W0 M H0 nK 67 #[Value.agg #[vi x5, vi x6, vi x7, vi x8]] fun z W11 W12 => ∃ x14 : Int, z = .returned (vi x14) ∧ Ext W11 W12 ∧
       Rt R W0 M H0 nK (vi x14))) ∧
      (¬ (x13 = true) →
       Rt R W0 M H0 nK (vi 3))))))) ∧
     (¬ (x12 = true) →
      Rt R W0 M H0 nK (vi 3))))) ∧
    (¬ (x0 = 2) →
     ((x3 = 0 →
      ((x4 = 0 →
       (Es W0 M H0 nK fun W7 => ∃ x12 : Bool, Eo Tryz.prog (.bop .neq 33 (.tmp 30) (.tmp 31)) [Value.agg #[vi x5, vi x6, vi x7, vi x8], Value.agg #[vi 0, vi 0, vi 0, vi 0]] W7 (.value (vb (x12))) fun W8 => Ext W7 W8 ∧
       ((x12 = true →
        Rt R W0 M H0 nK (vi 1)) ∧
       (¬ (x12 = true) →
        Rt R W0 M H0 nK (vi 0))))) ∧
      (¬ (x4 = 0) →
       Rt R W0 M H0 nK (vi 1)))) ∧
     (¬ (x3 = 0) →
      Rt R W0 M H0 nK (vi 1)))))) ∧
   (¬ (x11 = true) →
    Rt R W0 M H0 nK (vi 3))))) ∧
  (¬ (x10 = true) →
   Rt R W0 M H0 nK (vi 3))))) ∧
 (¬ (x9 = true) →
  Rt R W0 M H0 nK (vi 4)))))) :
  Calls Tryz.prog 51 #[Value.agg #[vi x0, vi x1, vi x2, vi x3, vi x4, vi x5, vi x6, vi x7, vi x8]] W0 R :=
  calls_sxA (M := M) (V := v_entErr) (hi := {}) (args := [.agg [vI 0, vI 1, vI 2, vI 3, vI 4, vI 5, vI 6, vI 7, vI 8]]) (nv := 9) (e := (upd (upd (upd (upd (upd (upd (upd (upd (upd (fun _ => .i 0) 0 (.i x0)) 1 (.i x1)) 2 (.i x2)) 3 (.i x3)) 4 (.i x4)) 5 (.i x5)) 6 (.i x6)) 7 (.i x7)) 8 (.i x8))) Tryz.func51 hH h (by kernel_rfl) (by kernel_rfl) (by kernel_rfl)
end Go.Proofs.YtfpmcmhihhnfgaaGreat
namespace Go.Proofs.YtfpmcmhihhnfgaaGreat
open Go.RowKit

theorem c_opCheck (x : POp) (H : Hp) : Gv Tryz.prog 64 #[x.vals] H (vi x.err) := fun W _ => op_check x.kind x.key x.to x.n W
theorem c_opErr (x : POp) (H : Hp) : Gv Tryz.prog 67 #[x.vals] H (vi x.err) := fun W _ => r_check x.kind x.key x.to x.n W
theorem c_entCheck (e : Ent) (H : Hp) : Gv Tryz.prog 46 #[e.val] H (vi e.err) := fun W hH => by
  refine x_entCheck _ _ _ _ _ _ _ _ _ noM H W _ hH fun b0 b1 => ?_
  refine ⟨fun h => Rt.gv' (by rw [ent_kind (by omega)]), fun k1 => ⟨fun h => Rt.gv' (by rw [ent_kind (by omega)]), fun k2 => ?_⟩⟩
  have h0 : ¬ (e.kind < 1 ∨ 3 < e.kind) := by omega
  refine ⟨fun h => Rt.gv' (by rw [ent_range h0 (by omega)]), fun k3 => ⟨fun h => Rt.gv' (by rw [ent_range h0 (by omega)]), fun k4 => ⟨fun h => Rt.gv' (by rw [ent_range h0 (by omega)]), fun k5 => ⟨fun h => Rt.gv' (by rw [ent_range h0 (by omega)]), fun k6 => ?_⟩⟩⟩⟩
  have h1 : ¬ (e.time < 0 ∨ 999 < e.time ∨ e.client < 1 ∨ 5 < e.client) := by omega
  refine ⟨fun hc => ?_, fun hc => ?_⟩
  · have no : (e.seq < 1 ∨ 60 < e.seq ∨ e.ack < 0 ∨ e.seq ≤ e.ack) → vi 3 = vi e.err := fun h => by rw [ent_call h0 h1 hc, if_pos h]
    refine ⟨fun h => Rt.gv' (no (by omega)), fun j1 => ⟨fun h => Rt.gv' (no (by omega)), fun j2 => ⟨fun h => Rt.gv' (no (by omega)), fun j3 => ⟨fun h => Rt.gv' (no (by omega)), fun j4 => ?_⟩⟩⟩⟩
    refine Cl.same (c_opCheck e.op H) fun _ _ hx => ⟨_, rfl, hx, Rt.gv' (by rw [ent_call h0 h1 hc, if_neg (by omega)])⟩
  · intro W1 _ _
    refine ⟨_, _, ek_ne_ent _ _ e ⟨e.kind, e.time, e.client, 0, 0, POp.none⟩ _, Ext.refl _, fun h => Rt.gv' ?_, fun h => Rt.gv' ?_⟩
    · simp only [Bool.not_eq_true', decide_eq_false_iff_not] at h
      rw [ent_other h0 h1 hc, if_neg]
      rintro ⟨g1, g2, g3⟩
      exact h (by cases e; simp_all)
    · simp only [Bool.not_eq_true, Bool.not_eq_false', decide_eq_true_eq] at h
      rw [ent_other h0 h1 hc, if_pos]
      rw [h]
      exact ⟨rfl, rfl, rfl⟩
theorem c_entErr (e : Ent) (hs : -9223372036854775808 ≤ e.seq ∧ e.seq ≤ 9223372036854775807) (H : Hp) : Gv Tryz.prog 51 #[e.val] H (vi e.err) := fun W hH => by
  refine x_entErr _ _ _ _ _ _ _ _ _ noM H W _ hH fun b0 => ?_
  refine Cl.same (c_within e.kind 1 3 H) fun _ _ hx => ⟨_, rfl, hx, fun k1 => ?_, fun h => Rt.gv' (by simp only [Bool.not_eq_true, inR_not] at h; rw [ent_kind (by omega)])⟩
  rw [inR_iff] at k1
  have h0 : ¬ (e.kind < 1 ∨ 3 < e.kind) := by omega
  refine Cl.same (c_within e.time 0 999 H) fun _ _ hx => ⟨_, rfl, hx, fun k2 => ?_, fun h => Rt.gv' (by simp only [Bool.not_eq_true, inR_not] at h; rw [ent_range h0 (by omega)])⟩
  refine Cl.same (c_within e.client 1 5 H) fun _ _ hx => ⟨_, rfl, hx, fun k3 => ?_, fun h => Rt.gv' (by simp only [Bool.not_eq_true, inR_not] at h; rw [ent_range h0 (by omega)])⟩
  rw [inR_iff] at k2 k3
  have h1 : ¬ (e.time < 0 ∨ 999 < e.time ∨ e.client < 1 ∨ 5 < e.client) := by omega
  refine ⟨fun hc => ?_, fun hc => ?_⟩
  · have no : (e.seq < 1 ∨ 60 < e.seq ∨ e.ack < 0 ∨ e.seq ≤ e.ack) → vi 3 = vi e.err := fun h => by rw [ent_call h0 h1 hc, if_pos h]
    refine Cl.same (c_within e.seq 1 60 H) fun _ _ hx => ⟨_, rfl, hx, fun k4 => ?_, fun h => Rt.gv' (by simp only [Bool.not_eq_true, inR_not] at h; exact no (by omega))⟩
    rw [inR_iff] at k4
    refine ⟨in64 (by omega), fun _ => Cl.same (c_within e.ack 0 (e.seq - 1) H) fun _ _ hx => ⟨_, rfl, hx, fun k5 => ?_, fun h => Rt.gv' (by simp only [Bool.not_eq_true, inR_not] at h; exact no (by omega))⟩⟩
    rw [inR_iff] at k5
    exact Cl.same (c_opErr e.op H) fun _ _ hx => ⟨_, rfl, hx, Rt.gv' (by rw [ent_call h0 h1 hc, if_neg (by omega)])⟩
  · have no : ¬ (e.seq = 0 ∧ e.ack = 0 ∧ e.op = POp.none) → vi 1 = vi e.err := fun h => by rw [ent_other h0 h1 hc, if_neg h]
    refine ⟨fun g1 => ⟨fun g2 => fun W1 _ _ => ?_, fun h => Rt.gv' (no (fun hh => h hh.2.1))⟩, fun h => Rt.gv' (no (fun hh => h hh.1))⟩
    refine ⟨_, _, ek_ne_op _ _ e.op POp.none _, Ext.refl _, fun h => Rt.gv' ?_, fun h => Rt.gv' ?_⟩
    · simp only [Bool.not_eq_true', decide_eq_false_iff_not] at h
      exact no (fun hh => h hh.2.2)
    · simp only [Bool.not_eq_true, Bool.not_eq_false', decide_eq_true_eq] at h
      rw [ent_other h0 h1 hc, if_pos ⟨g1, g2, h⟩]
end Go.Proofs.YtfpmcmhihhnfgaaGreat
