/- Small laws for the walks, over any program: what a call leaves as it was; a map that is made of literals and asked. Contracts of op.within, op.Val, op.Check, op.Vals, and of the references' likes: what each returns; nothing that was there is turned. Contracts of op.Vals (over slices.ContainsFunc) and of the reference's valsFine. Contracts of op.Turn (a map of lists of function literals, gone through by a loop), op.Do. Contracts of op.Turn and op.Do. Contracts of the references' OpError, did, DoOf, and of op.Do. -/
import Derived.WalkKit
import Derived.WalkLawsBesides
import Derived.WalkSpells
import Derived.Outline
import Derived.Lib.Hide
import Derived.RegionTactic
import Derived.ChangeAlike
import Derived.Maps.OwnOps
import Derived.Deep.DeepMust
import Derived.Deep.RegionHeld3
import Derived.BigQuiet
import Derived.Deep.QuietTactic
import Derived.Test.YtoilhpkclabhoaaProg
import Derived.Test.YtoilhpkclabhoaaKD1
set_option linter.unusedVariables false
set_option linter.unusedSimpArgs false
namespace Go.Proofs.Ytoilhpkclabhoaa
open Go.RowKit

/-- only block b has turned, no block is new -/
def Only (w w' : World) (b : Nat) : Prop := w'.heap.size = w.heap.size ∧ w.grownBy w' (some b)
theorem Only.cell {w w' : World} {b : Nat} (h : Only w w' b) : (∀ k o, k ≠ b → w'.cell? ⟨k, o, none⟩ = w.cell? ⟨k, o, none⟩) ∧ (∀ k o, k ≠ b → w'.frozen? ⟨k, o, none⟩ = w.frozen? ⟨k, o, none⟩) := by
  have hb : ∀ k, k ≠ b → w'.heap[k]? = w.heap[k]? := fun k hk => by
    rcases Nat.lt_or_ge k w.heap.size with hlt | hge
    · exact h.2.block k hlt (fun e => hk (by injection e))
    · rw [Array.getElem?_eq_none hge, Array.getElem?_eq_none (by rw [h.1]; exact hge)]
  exact ⟨fun k o hk => World.cell?_of_block (w := w) (hb k hk), fun k o hk => World.frozen?_of_block (w := w) (hb k hk)⟩
theorem Only.heap {w w' : World} {b : Nat} (h : Only w w' b) (k : Nat) (hk : k ≠ b) : w'.heap[k]? = w.heap[k]? := by
  rcases Nat.lt_or_ge k w.heap.size with hlt | hge
  · exact h.2.block k hlt (fun e => hk (by injection e))
  · rw [Array.getElem?_eq_none hge, Array.getElem?_eq_none (by rw [h.1]; exact hge)]
theorem Only.below {B : Nat} {a w w' : World} {b : Nat} (h : Below B a w) (ho : Only w w' b) (hb : B ≤ b) : Below B a w' :=
  h.trans ⟨ho.2.os, ho.2.tape, ho.2.output, ho.2.size, fun k hk => ho.heap k (by omega)⟩
theorem Only.setCell (w : World) (b o : Nat) (v : Value) : Only w (w.setCell ⟨b, o, none⟩ v) b :=
  ⟨by simp, rfl, rfl, rfl, by simp, fun k _ hne => Below.heap_setCell _ _ _ _ (by intro e; exact hne (by rw [e]))⟩
theorem Only.drew {w w' : World} {b : Nat} (h : Only w w' b) : Only w w'.drew b := ⟨h.1, h.2.os, h.2.tape, h.2.output, h.2.size, h.2.block⟩

end Go.Proofs.Ytoilhpkclabhoaa
namespace Go.Proofs.Ytoilhpkclabhoaa
open Go.RowKit

abbrev V4.val (v : V4) : Value := .agg #[.int .i64 v.a, .int .i64 v.b, .int .i64 v.c, .int .i64 v.d]
abbrev V4.cells (v : V4) : Array Value := #[.int .i64 v.a, .int .i64 v.b, .int .i64 v.c, .int .i64 v.d]
abbrev POp.val (x : POp) : Value := .agg #[.int .i64 x.kind, .int .i64 x.key, .int .i64 x.to, .int .i64 x.n]
theorem ret_int {k : IntKind} {a b : Int} (h : a = b) : Ending.returned (.int k a) = .returned (.int k b) := by rw [h]
theorem ret_bool {a b : Bool} (h : a = b) : Ending.returned (.bool a) = .returned (.bool b) := by rw [h]

theorem op_within (n lo hi : Int) (w : World) :
    Calls Try.prog 76 #[.int .i64 n, .int .i64 lo, .int .i64 hi] w fun e w' => e = .returned (.bool (inR n lo hi)) ∧ w = w' := by
  go_enter Try.func76, Try.ntmps76
  go_wp2
  all_goals go_ret
  all_goals exact ⟨ret_bool (by unfold inR; first | (simp_all; done) | (simp_all; omega)), rfl⟩
theorem op_val (n : Int) (w : World) :
    Calls Try.prog 64 #[.int .i64 n] w fun e w' => e = .returned (.bool (inR n 0 999)) ∧ w = w' := by
  go_enter Try.func64, Try.ntmps64
  go_wp2_with (go_at_call 76; refine (op_within _ _ _ _).mono ?_; rintro e w' ⟨rfl, rfl⟩)
  go_ret
  exact ⟨rfl, rfl⟩
theorem op_key (n : Int) (w : World) :
    Calls Try.prog 77 #[.int .i64 n] w fun e w' => e = .returned (.bool (inR n 0 3)) ∧ w = w' := by
  go_enter Try.func77, Try.ntmps77
  go_wp2_with (go_at_call 76; refine (op_within _ _ _ _).mono ?_; rintro e w' ⟨rfl, rfl⟩)
  go_ret
  exact ⟨rfl, rfl⟩
set_option maxHeartbeats 2000000 in
theorem op_check (k key to n : Int) (w : World) :
    Calls Try.prog 69 #[.agg #[.int .i64 k, .int .i64 key, .int .i64 to, .int .i64 n]] w fun e w' => e = .returned (.int .i64 (POp.err ⟨k, key, to, n⟩)) ∧ Below w.heap.size w w' := by
  go_enter Try.func69, Try.ntmps69
  go_wp2_with (first
    | (go_at_call 77; refine (op_key _ _).mono ?_; rintro e w' ⟨rfl, rfl⟩)
    | (go_at_call 76; refine (op_within _ _ _ _).mono ?_; rintro e w' ⟨rfl, rfl⟩)
    | (go_at_call 64; refine (op_val _ _).mono ?_; rintro e w' ⟨rfl, rfl⟩))
  all_goals go_ret
  all_goals refine ⟨ret_int ?_, by repeat (first | exact Below.refl _ _ | refine Below.alloc ?_ (by simp) _)⟩
  all_goals (unfold POp.err; simp only [inR_iff, inR_not, beq_iff_eq, beq_eq_false_iff_ne, Bool.not_eq_true', Bool.not_eq_false'] at *; omega)
end Go.Proofs.Ytoilhpkclabhoaa
namespace Go.Proofs.Ytoilhpkclabhoaa
open Go.RowKit

def V4.at (v : V4) (k : Nat) : Int := if k = 0 then v.a else if k = 1 then v.b else if k = 2 then v.c else v.d
end Go.Proofs.Ytoilhpkclabhoaa
namespace Go.Proofs.Ytoilhpkclabhoaa
open Go.RowKit

/-- block b holds the values -/
def V4.Blk (w : World) (b : Nat) (v : V4) : Prop := w.heap[b]? = some (.cells v.cells 22 (0, 0))
theorem V4.Blk.cell {w : World} {b : Nat} {v : V4} (h : V4.Blk w b v) : w.cell? ⟨b, 0, none⟩ = some (.int .i64 v.a) ∧ w.cell? ⟨b, 1, none⟩ = some (.int .i64 v.b) ∧ w.cell? ⟨b, 2, none⟩ = some (.int .i64 v.c) ∧ w.cell? ⟨b, 3, none⟩ = some (.int .i64 v.d) ∧ ∀ i, w.frozen? ⟨b, i, none⟩ = false := by
  unfold V4.Blk at h
  refine ⟨?_, ?_, ?_, ?_, fun i => ?_⟩ <;> simp [World.cell?, World.frozen?, h]
theorem V4.Blk.at {w : World} {b : Nat} {v : V4} (h : V4.Blk w b v) {k : Int} (h0 : 0 ≤ k) (h3 : k ≤ 3) : w.cell? ⟨b, k.toNat, none⟩ = some (.int .i64 (v.get k)) := by
  unfold V4.Blk at h
  have : k = 0 ∨ k = 1 ∨ k = 2 ∨ k = 3 := by omega
  rcases this with rfl | rfl | rfl | rfl <;> simp [World.cell?, h, V4.get]
theorem V4.Blk.keep {w w' : World} {b : Nat} {v : V4} (h : V4.Blk w b v) (hk : w'.heap[b]? = w.heap[b]?) : V4.Blk w' b v := hk.trans h
end Go.Proofs.Ytoilhpkclabhoaa
namespace Go.Proofs.Ytoilhpkclabhoaa
open Go.RowKit
/-- how the blocks of op.Turn stand in world w: the values u, the op, the result's room, the values v as they were, the steps. -/
structure Tst (w0 w : World) (v u : V4) (xc : Array Value) (R1 R2 R3 : Obj) : Prop where
  fv : V4.Blk w w0.heap.size u
  fx : w.heap[w0.heap.size + 1]? = some (.cells xc 31 (0, 0))
  fr : V4.Blk w (w0.heap.size + 1 + 1) V4.zero
  fw : V4.Blk w (w0.heap.size + 1 + 1 + 1) v
  r1 : w.heap[w0.heap.size + 1 + 1 + 1 + 1 + 1]? = some R1
  r2 : w.heap[w0.heap.size + 1 + 1 + 1 + 1 + 1 + 1]? = some R2
  r3 : w.heap[w0.heap.size + 1 + 1 + 1 + 1 + 1 + 1 + 1]? = some R3
  hz : w0.heap.size + 8 ≤ w.heap.size
  hb : Below w0.heap.size w0 w
theorem Tst.step {w0 w w' : World} {v u u' : V4} {xc : Array Value} {R1 R2 R3 : Obj} (h : Tst w0 w v u xc R1 R2 R3) (ho : Only w w' w0.heap.size) (hu : V4.Blk w' w0.heap.size u') : Tst w0 w' v u' xc R1 R2 R3 :=
  ⟨hu, (ho.heap _ (by omega)).trans h.fx, (ho.heap _ (by omega)).trans h.fr, (ho.heap _ (by omega)).trans h.fw, (ho.heap _ (by omega)).trans h.r1, (ho.heap _ (by omega)).trans h.r2, (ho.heap _ (by omega)).trans h.r3,
    by have := ho.1; have := h.hz; omega, Only.below h.hb ho (Nat.le_refl _)⟩
theorem Tst.below {w0 w w' : World} {v u : V4} {xc : Array Value} {R1 R2 R3 : Obj} (h : Tst w0 w v u xc R1 R2 R3) (hb : Below w.heap.size w w') : Tst w0 w' v u xc R1 R2 R3 := by
  have hz := h.hz
  exact ⟨(hb.block _ (by omega)).trans h.fv, (hb.block _ (by omega)).trans h.fx, (hb.block _ (by omega)).trans h.fr, (hb.block _ (by omega)).trans h.fw, (hb.block _ (by omega)).trans h.r1, (hb.block _ (by omega)).trans h.r2, (hb.block _ (by omega)).trans h.r3,
    Nat.le_trans hz hb.size, h.hb.trans (hb.mono h.hb.size)⟩
theorem Tst.op {w0 w : World} {v u : V4} {a b c d : Value} {R1 R2 R3 : Obj} (h : Tst w0 w v u #[a, b, c, d] R1 R2 R3) :
    w.cell? ⟨w0.heap.size + 1, 0, none⟩ = some a ∧ w.cell? ⟨w0.heap.size + 1, 1, none⟩ = some b ∧ w.cell? ⟨w0.heap.size + 1, 2, none⟩ = some c ∧ w.cell? ⟨w0.heap.size + 1, 3, none⟩ = some d :=
  ⟨cell_of_row _ _ _ _ _ _ h.fx, cell_of_row _ _ _ _ _ _ h.fx, cell_of_row _ _ _ _ _ _ h.fx, cell_of_row _ _ _ _ _ _ h.fx⟩
end Go.Proofs.Ytoilhpkclabhoaa
namespace Go.Proofs.Ytoilhpkclabhoaa
open Go.RowKit
structure Dst (w0 w : World) (v u : V4) (xc : Array Value) : Prop where
  fv : V4.Blk w w0.heap.size u
  fx : w.heap[w0.heap.size + 1]? = some (.cells xc 31 (0, 0))
  fr : V4.Blk w (w0.heap.size + 1 + 1) V4.zero
  fw : V4.Blk w (w0.heap.size + 1 + 1 + 1) v
  hz : w0.heap.size + 4 ≤ w.heap.size
  hb : Below w0.heap.size w0 w
theorem Dst.step {w0 w w' : World} {v u u' : V4} {xc : Array Value} (h : Dst w0 w v u xc) (ho : Only w w' w0.heap.size) (hu : V4.Blk w' w0.heap.size u') : Dst w0 w' v u' xc :=
  ⟨hu, (ho.heap _ (by omega)).trans h.fx, (ho.heap _ (by omega)).trans h.fr, (ho.heap _ (by omega)).trans h.fw,
    by have := ho.1; have := h.hz; omega, Only.below h.hb ho (Nat.le_refl _)⟩
theorem Dst.set {w0 w : World} {v u : V4} {xc : Array Value} (h : Dst w0 w v u xc) {k x : Int} (h0 : 0 ≤ k) (h3 : k ≤ 3) : Dst w0 (w.setCell ⟨w0.heap.size, k.toNat, none⟩ (.int .i64 x)) v (u.set k x) xc := by
  refine h.step (Only.setCell _ _ _ _) ?_
  have hv := h.fv
  unfold V4.Blk at hv ⊢
  have : k = 0 ∨ k = 1 ∨ k = 2 ∨ k = 3 := by omega
  rcases this with rfl | rfl | rfl | rfl <;> simp [World.setCell, Array.getElem?_modify, hv, V4.set]
theorem Dst.drew {w0 w : World} {v u : V4} {xc : Array Value} (h : Dst w0 w v u xc) : Dst w0 w.drew v u xc := ⟨h.fv, h.fx, h.fr, h.fw, h.hz, h.hb.drew⟩
theorem Dst.below {w0 w w' : World} {v u : V4} {xc : Array Value} (h : Dst w0 w v u xc) (hb : Below w.heap.size w w') : Dst w0 w' v u xc := by
  have hz := h.hz
  exact ⟨(hb.block _ (by omega)).trans h.fv, (hb.block _ (by omega)).trans h.fx, (hb.block _ (by omega)).trans h.fr, (hb.block _ (by omega)).trans h.fw,
    Nat.le_trans hz hb.size, h.hb.trans (hb.mono h.hb.size)⟩
theorem Dst.op {w0 w : World} {v u : V4} {a b c d : Value} (h : Dst w0 w v u #[a, b, c, d]) :
    w.cell? ⟨w0.heap.size + 1, 0, none⟩ = some a ∧ w.cell? ⟨w0.heap.size + 1, 1, none⟩ = some b ∧ w.cell? ⟨w0.heap.size + 1, 2, none⟩ = some c ∧ w.cell? ⟨w0.heap.size + 1, 3, none⟩ = some d :=
  ⟨cell_of_row _ _ _ _ _ _ h.fx, cell_of_row _ _ _ _ _ _ h.fx, cell_of_row _ _ _ _ _ _ h.fx, cell_of_row _ _ _ _ _ _ h.fx⟩
end Go.Proofs.Ytoilhpkclabhoaa
