/- Small laws for the walks, over any program: what a call leaves as it was; a map that is made of literals and asked. -/
import Derived.WalkKit
import Derived.WalkLawsBesides
import Derived.WalkSpells
import Derived.Outline
import Derived.Lib.Hide
import Derived.RegionTactic
import Derived.ChangeAlike
import Derived.Maps.OwnOps
import Derived.Deep.DeepMust
import Derived.Deep.RegionHeld3
import Derived.BigQuiet
import Derived.Deep.QuietTactic
namespace Go.Proofs.Ytcnkljeniffmmaa
open Go.RowKit

theorem bcell {W w1 : World} (hb : Below W.heap.size W w1) : (∀ b o, b < W.heap.size → w1.cell? ⟨b, o, none⟩ = W.cell? ⟨b, o, none⟩) ∧ (∀ b o, b < W.heap.size → w1.frozen? ⟨b, o, none⟩ = W.frozen? ⟨b, o, none⟩) :=
  ⟨fun b o h => hb.cell (p := ⟨b, o, none⟩) h, fun b o h => hb.frozen (p := ⟨b, o, none⟩) h⟩
/-- only block b has turned, no block is new -/
def Only (w w' : World) (b : Nat) : Prop := w'.heap.size = w.heap.size ∧ w.grownBy w' (some b)
theorem Only.cell {w w' : World} {b : Nat} (h : Only w w' b) : (∀ k o, k ≠ b → w'.cell? ⟨k, o, none⟩ = w.cell? ⟨k, o, none⟩) ∧ (∀ k o, k ≠ b → w'.frozen? ⟨k, o, none⟩ = w.frozen? ⟨k, o, none⟩) := by
  have hb : ∀ k, k ≠ b → w'.heap[k]? = w.heap[k]? := fun k hk => by
    rcases Nat.lt_or_ge k w.heap.size with hlt | hge
    · exact h.2.block k hlt (fun e => hk (by injection e))
    · rw [Array.getElem?_eq_none hge, Array.getElem?_eq_none (by rw [h.1]; exact hge)]
  exact ⟨fun k o hk => World.cell?_of_block (w := w) (hb k hk), fun k o hk => World.frozen?_of_block (w := w) (hb k hk)⟩
theorem Only.heap {w w' : World} {b : Nat} (h : Only w w' b) (k : Nat) (hk : k ≠ b) : w'.heap[k]? = w.heap[k]? := by
  rcases Nat.lt_or_ge k w.heap.size with hlt | hge
  · exact h.2.block k hlt (fun e => hk (by injection e))
  · rw [Array.getElem?_eq_none hge, Array.getElem?_eq_none (by rw [h.1]; exact hge)]
theorem Only.below {B : Nat} {a w w' : World} {b : Nat} (h : Below B a w) (ho : Only w w' b) (hb : B ≤ b) : Below B a w' :=
  h.trans ⟨ho.2.os, ho.2.tape, ho.2.output, ho.2.size, fun k hk => ho.heap k (by omega)⟩
theorem Only.setCell (w : World) (b o : Nat) (v : Value) : Only w (w.setCell ⟨b, o, none⟩ v) b :=
  ⟨by simp, rfl, rfl, rfl, by simp, fun k _ hne => Below.heap_setCell _ _ _ _ (by intro e; exact hne (by rw [e]))⟩
theorem Only.drew {w w' : World} {b : Nat} (h : Only w w' b) : Only w w'.drew b := ⟨h.1, h.2.os, h.2.tape, h.2.output, h.2.size, h.2.block⟩

theorem heap_alloc_if (w : World) (o : Obj) (k : Nat) : (w.alloc o).heap[k]? = if k = w.heap.size then some o else w.heap[k]? := by
  show (w.heap.push o)[k]? = _
  rw [Array.getElem?_push]
theorem Only.alloc_heap {W w' : World} {o : Obj} {b : Nat} (h : Only (W.alloc o) w' b) (k : Nat) (hk : k ≠ b) (hlt : k < W.heap.size) : w'.heap[k]? = W.heap[k]? :=
  (h.heap k hk).trans ((heap_alloc_if _ _ _).trans (if_neg (by omega)))
theorem Only.alloc_new {W w' : World} {o : Obj} {b : Nat} (h : Only (W.alloc o) w' b) (k : Nat) (hk : k ≠ b) (he : k = W.heap.size) : w'.heap[k]? = some o :=
  (h.heap k hk).trans ((heap_alloc_if _ _ _).trans (if_pos he))
theorem run_checkKey_int {P : Program} (w : World) (K : TypeId) (hK : P.underlying K = some (.int .i64)) (e : Bool) (m : Nat) (n : Int) : (Instr.checkKey e (m + 1) K (.int .i64 n)).run P w = .ok () w := by
  unfold Instr.checkKey
  simp [run_underlying hK]
def found (z : Value) : Option (Nat × Value) → Value
  | some (_, v) => v
  | none => z
theorem lts1 {a b : Nat} (h : a + 1 ≤ b) : a < b ∧ a ≠ b ∧ b ≠ a := by omega
theorem lts2 {a b : Nat} (h : a + 1 + 1 ≤ b) : a < b ∧ a ≠ b ∧ b ≠ a ∧ a + 1 < b ∧ a + 1 ≠ b ∧ b ≠ a + 1 := by omega
theorem lts3 {a b : Nat} (h : a + 1 + 1 + 1 ≤ b) : a < b ∧ a ≠ b ∧ b ≠ a ∧ a + 1 < b ∧ a + 1 ≠ b ∧ b ≠ a + 1 ∧ a + 1 + 1 < b ∧ a + 1 + 1 ≠ b ∧ b ≠ a + 1 + 1 := by omega
theorem lts4 {a b : Nat} (h : a + 1 + 1 + 1 + 1 ≤ b) : a < b ∧ a ≠ b ∧ b ≠ a ∧ a + 1 < b ∧ a + 1 ≠ b ∧ b ≠ a + 1 ∧ a + 1 + 1 < b ∧ a + 1 + 1 ≠ b ∧ b ≠ a + 1 + 1 ∧ a + 1 + 1 + 1 < b ∧ a + 1 + 1 + 1 ≠ b ∧ b ≠ a + 1 + 1 + 1 := by omega
theorem lts5 {a b : Nat} (h : a + 1 + 1 + 1 + 1 + 1 ≤ b) : a < b ∧ a ≠ b ∧ b ≠ a ∧ a + 1 < b ∧ a + 1 ≠ b ∧ b ≠ a + 1 ∧ a + 1 + 1 < b ∧ a + 1 + 1 ≠ b ∧ b ≠ a + 1 + 1 ∧ a + 1 + 1 + 1 < b ∧ a + 1 + 1 + 1 ≠ b ∧ b ≠ a + 1 + 1 + 1 ∧ a + 1 + 1 + 1 + 1 < b ∧ a + 1 + 1 + 1 + 1 ≠ b ∧ b ≠ a + 1 + 1 + 1 + 1 := by omega
theorem lts6 {a b : Nat} (h : a + 1 + 1 + 1 + 1 + 1 + 1 ≤ b) : a < b ∧ a ≠ b ∧ b ≠ a ∧ a + 1 < b ∧ a + 1 ≠ b ∧ b ≠ a + 1 ∧ a + 1 + 1 < b ∧ a + 1 + 1 ≠ b ∧ b ≠ a + 1 + 1 ∧ a + 1 + 1 + 1 < b ∧ a + 1 + 1 + 1 ≠ b ∧ b ≠ a + 1 + 1 + 1 ∧ a + 1 + 1 + 1 + 1 < b ∧ a + 1 + 1 + 1 + 1 ≠ b ∧ b ≠ a + 1 + 1 + 1 + 1 ∧ a + 1 + 1 + 1 + 1 + 1 < b ∧ a + 1 + 1 + 1 + 1 + 1 ≠ b ∧ b ≠ a + 1 + 1 + 1 + 1 + 1 := by omega
theorem lts7 {a b : Nat} (h : a + 1 + 1 + 1 + 1 + 1 + 1 + 1 ≤ b) : a < b ∧ a ≠ b ∧ b ≠ a ∧ a + 1 < b ∧ a + 1 ≠ b ∧ b ≠ a + 1 ∧ a + 1 + 1 < b ∧ a + 1 + 1 ≠ b ∧ b ≠ a + 1 + 1 ∧ a + 1 + 1 + 1 < b ∧ a + 1 + 1 + 1 ≠ b ∧ b ≠ a + 1 + 1 + 1 ∧ a + 1 + 1 + 1 + 1 < b ∧ a + 1 + 1 + 1 + 1 ≠ b ∧ b ≠ a + 1 + 1 + 1 + 1 ∧ a + 1 + 1 + 1 + 1 + 1 < b ∧ a + 1 + 1 + 1 + 1 + 1 ≠ b ∧ b ≠ a + 1 + 1 + 1 + 1 + 1 ∧ a + 1 + 1 + 1 + 1 + 1 + 1 < b ∧ a + 1 + 1 + 1 + 1 + 1 + 1 ≠ b ∧ b ≠ a + 1 + 1 + 1 + 1 + 1 + 1 := by omega
theorem lts8 {a b : Nat} (h : a + 1 + 1 + 1 + 1 + 1 + 1 + 1 + 1 ≤ b) : a < b ∧ a ≠ b ∧ b ≠ a ∧ a + 1 < b ∧ a + 1 ≠ b ∧ b ≠ a + 1 ∧ a + 1 + 1 < b ∧ a + 1 + 1 ≠ b ∧ b ≠ a + 1 + 1 ∧ a + 1 + 1 + 1 < b ∧ a + 1 + 1 + 1 ≠ b ∧ b ≠ a + 1 + 1 + 1 ∧ a + 1 + 1 + 1 + 1 < b ∧ a + 1 + 1 + 1 + 1 ≠ b ∧ b ≠ a + 1 + 1 + 1 + 1 ∧ a + 1 + 1 + 1 + 1 + 1 < b ∧ a + 1 + 1 + 1 + 1 + 1 ≠ b ∧ b ≠ a + 1 + 1 + 1 + 1 + 1 ∧ a + 1 + 1 + 1 + 1 + 1 + 1 < b ∧ a + 1 + 1 + 1 + 1 + 1 + 1 ≠ b ∧ b ≠ a + 1 + 1 + 1 + 1 + 1 + 1 ∧ a + 1 + 1 + 1 + 1 + 1 + 1 + 1 < b ∧ a + 1 + 1 + 1 + 1 + 1 + 1 + 1 ≠ b ∧ b ≠ a + 1 + 1 + 1 + 1 + 1 + 1 + 1 := by omega
/-- what is known of the world, in place of the world as it stands -/
theorem wp_reset {P : Program} {c : Code} {Q : Exit → Act → World → Prop} {a : Act} {w : World} (R : World → Prop) (h0 : R w) (h : ∀ w', R w' → c.wp P Q a w') : c.wp P Q a w := h w h0
theorem wpl_reset {P : Program} {ops : Array Oper} {Q : Exit → Act → World → Prop} {l : List Oper} {a : Act} {w : World} (R : World → Prop) (h0 : R w) (h : ∀ w', R w' → wpList P ops Q l a w') : wpList P ops Q l a w := h w h0
theorem keepCell {w w' : World} {a : Addr} {v : Value} (h : w.cell? a = some v) (hb : Below w.heap.size w w') : w'.cell? a = some v := (hb.cell (block_lt_of_cell h)).trans h
theorem keepBelow {w0 w w' : World} (h : Below w0.heap.size w0 w) (hb : Below w.heap.size w w') : Below w0.heap.size w0 w' := h.trans (hb.mono h.size)
theorem keepCell' {w w' : World} {a : Addr} {v : Value} (hb : Below w.heap.size w w') (h : w.cell? a = some v) : w'.cell? a = some v := keepCell h hb
theorem keepBelow' {w0 w w' : World} (hb : Below w.heap.size w w') (h : Below w0.heap.size w0 w) : Below w0.heap.size w0 w' := keepBelow h hb
theorem loop3 {P : Program} {Q : Exit → Act → World → Prop} {a : Act} {w : World} {c : Code} (h : c.wp P (Exit.then (Code.rounds P c Q 2) Q) a w) : (Code.loop c).wp P Q a w := wp_loop_rounds 3 h
theorem loop2 {P : Program} {Q : Exit → Act → World → Prop} {a : Act} {w : World} {c : Code} (h : c.wp P (Exit.then (Code.rounds P c Q 1) Q) a w) : Code.rounds P c Q 2 a w := h
theorem loop1 {P : Program} {Q : Exit → Act → World → Prop} {a : Act} {w : World} {c : Code} (h : c.wp P (Exit.then (Code.rounds P c Q 0) Q) a w) : Code.rounds P c Q 1 a w := h
/-- m[k] = x, k an int that the map lacks -/
theorem wpList_insert_int {P : Program} (w : World) {ops : Array Oper} {rest : List Oper} {o : Oper} {a : Act} {Q : Exit → Act → World → Prop} (hgd : o.guard = none)
    (T : TypeId) (m k x : Operand) (ho : o.op = .insert T m k x) (K E : TypeId) (hT : P.underlying T = some (.map K E)) (hK : P.underlying K = some (.int .i64))
    (r : Nat) (es : Array MapEntry) (clock : Nat) (hm : a.eval m = .map (some r)) (hr : w.heap[r]? = some (.map es clock)) (n : Int) (hk : a.eval k = .int .i64 n)
    (hfind : Instr.findNow (.int .i64) (.int .i64 n) es.toList 0 = some none)
    (h : ∀ w', w'.heap[r]? = some (.map (es.push ⟨.int .i64 n, a.eval x, clock⟩) (clock + 1)) → Only w w' r → wpList P ops Q rest (a.put o.dst undef) w') : wpList P ops Q (o :: rest) a w := by
  refine wpList_plain hgd fun K' hK' => ?_
  have hlt : r < w.heap.size := by
    rcases Nat.lt_or_ge r w.heap.size with h1 | h1
    · exact h1
    · rw [Array.getElem?_eq_none h1] at hr; cases hr
  have hrun : (Instr.mapUpdate T (.map (some r)) (.int .i64 n) (a.eval x)).run P w = .ok () { w with heap := w.heap.setIfInBounds r (.map (es.push ⟨.int .i64 n, a.eval x, clock⟩) (clock + 1)) } := by
    have hc := run_checkKey_int (P := P) w K hK false 9999 n
    unfold Instr.mapUpdate
    simp [run_underlying hT, getObj, Sem.run, hr, hc, run_underlying hK, Instr.findKey, hfind, setObj]
  unfold Oper.wp execOp
  simp only [ho, Sem.run_bind, Result.andThen_ok, hm, hk, hrun, Sem.run_pure]
  refine hK' _ _ (h _ ?_ ⟨by simp, rfl, rfl, rfl, by simp, fun j hj hne => ?_⟩)
  · simp [hlt]
  · rw [Array.getElem?_setIfInBounds, if_neg (by intro e; exact hne (by rw [e]))]
/-- m[k], k an int -/
theorem wpList_lookup_int {P : Program} (w : World) {ops : Array Oper} {rest : List Oper} {o : Oper} {a : Act} {Q : Exit → Act → World → Prop} (hgd : o.guard = none)
    (T : TypeId) (m k : Operand) (ho : o.op = .lookup T m k false) (K E : TypeId) (hT : P.underlying T = some (.map K E)) (hK : P.underlying K = some (.int .i64))
    (z : Value) (hz : ∀ w, (zeroValue E).run P w = .ok z w)
    (r : Nat) (es : Array MapEntry) (clock : Nat) (hm : a.eval m = .map (some r)) (hr : w.heap[r]? = some (.map es clock)) (n : Int) (hk : a.eval k = .int .i64 n)
    (f : Option (Nat × Value)) (hfind : Instr.findNow (.int .i64) (.int .i64 n) es.toList 0 = some f)
    (h : wpList P ops Q rest (a.put o.dst (found z f)) w) : wpList P ops Q (o :: rest) a w := by
  refine wpList_plain hgd fun K' hK' => ?_
  have hrun : (Instr.lookup T (.map (some r)) (.int .i64 n) false).run P w = .ok (found z f) w := by
    have hc := run_checkKey_int (P := P) w K hK es.isEmpty 9999 n
    unfold Instr.lookup
    cases f with
    | none => simp [run_underlying hT, getObj, Sem.run, hr, hc, run_underlying hK, Instr.findKey, hfind, hz, found]
    | some p => simp [run_underlying hT, getObj, Sem.run, hr, hc, run_underlying hK, Instr.findKey, hfind, found]
  unfold Oper.wp execOp
  simp only [ho, Sem.run_bind, Result.andThen_ok, hm, hk, hrun, Sem.run_pure]
  exact hK' _ _ h
end Go.Proofs.Ytcnkljeniffmmaa
