/- Contracts of op.Turn (a map of lists of function literals, gone through by a loop), op.Do. -/
import Derived.Test.YtcnkljeniffmmaaOpB
namespace Go.Proofs.Ytcnkljeniffmmaa
open Go.RowKit

/-- block b holds the values -/
def V4.Blk (w : World) (b : Nat) (v : V4) : Prop := w.heap[b]? = some (.cells v.cells 22 (0, 0))
theorem V4.Blk.cell {w : World} {b : Nat} {v : V4} (h : V4.Blk w b v) : w.cell? ⟨b, 0, none⟩ = some (.int .i64 v.a) ∧ w.cell? ⟨b, 1, none⟩ = some (.int .i64 v.b) ∧ w.cell? ⟨b, 2, none⟩ = some (.int .i64 v.c) ∧ w.cell? ⟨b, 3, none⟩ = some (.int .i64 v.d) ∧ ∀ i, w.frozen? ⟨b, i, none⟩ = false := by
  unfold V4.Blk at h
  refine ⟨?_, ?_, ?_, ?_, fun i => ?_⟩ <;> simp [World.cell?, World.frozen?, h]
theorem V4.Blk.at {w : World} {b : Nat} {v : V4} (h : V4.Blk w b v) {k : Int} (h0 : 0 ≤ k) (h3 : k ≤ 3) : w.cell? ⟨b, k.toNat, none⟩ = some (.int .i64 (v.get k)) := by
  unfold V4.Blk at h
  have : k = 0 ∨ k = 1 ∨ k = 2 ∨ k = 3 := by omega
  rcases this with rfl | rfl | rfl | rfl <;> simp [World.cell?, h, V4.get]
theorem V4.Blk.keep {w w' : World} {b : Nat} {v : V4} (h : V4.Blk w b v) (hk : w'.heap[b]? = w.heap[b]?) : V4.Blk w' b v := hk.trans h
theorem Turn1 (v : V4) (key n : Int) (b bx : Nat) (w : World) (hv : V4.Blk w b v)
    (hx1 : w.cell? ⟨bx, 1, none⟩ = some (.int .i64 key)) (hx3 : w.cell? ⟨bx, 3, none⟩ = some (.int .i64 n)) (h0 : 0 ≤ key) (h3 : key ≤ 3) :
    Calls Try.prog 64 #[.pointer (some ⟨bx, 0, none⟩), .pointer (some ⟨b, 0, none⟩)] w fun e w' => e = .returned (.tuple #[]) ∧ V4.Blk w' b (v.set key (n)) ∧ Only w w' b := by
  have c0 : w.cell? ⟨b, 0, none⟩ = some (.int .i64 v.a) := by unfold V4.Blk at hv; simp [World.cell?, hv]
  have c1 : w.cell? ⟨b, 1, none⟩ = some (.int .i64 v.b) := by unfold V4.Blk at hv; simp [World.cell?, hv]
  have c2 : w.cell? ⟨b, 2, none⟩ = some (.int .i64 v.c) := by unfold V4.Blk at hv; simp [World.cell?, hv]
  have c3 : w.cell? ⟨b, 3, none⟩ = some (.int .i64 v.d) := by unfold V4.Blk at hv; simp [World.cell?, hv]
  have hf : ∀ i, w.frozen? ⟨b, i, none⟩ = false := fun i => by unfold V4.Blk at hv; simp [World.frozen?, hv]
  have HV := Lib.hid hv
  clear hv
  have : key = 0 ∨ key = 1 ∨ key = 2 ∨ key = 3 := by omega
  rcases this with rfl | rfl | rfl | rfl
  all_goals
    go_enter Try.func64, Try.ntmps64
    go_wp2
    all_goals
      go_end0
      refine ⟨rfl, ?_, ?_⟩
      · have := HV.out
        unfold V4.Blk at this ⊢
        simp [World.setCell, Array.getElem?_modify, this, V4.set]
      · first | exact Only.setCell _ _ _ _ | exact (Only.setCell _ _ _ _).drew | (refine ⟨by simp, rfl, rfl, rfl, by simp, fun k hk hne => Below.heap_setCell _ _ _ _ (by intro e; exact hne (by rw [e]))⟩)

theorem Turn2 (v : V4) (key n : Int) (b bx : Nat) (w : World) (hv : V4.Blk w b v) (hok : (-5000 ≤ v.a ∧ v.a ≤ 5000) ∧ (-5000 ≤ v.b ∧ v.b ≤ 5000) ∧ (-5000 ≤ v.c ∧ v.c ≤ 5000) ∧ (-5000 ≤ v.d ∧ v.d ≤ 5000)) (hn : -5000 ≤ n ∧ n ≤ 5000)
    (hx1 : w.cell? ⟨bx, 1, none⟩ = some (.int .i64 key)) (hx3 : w.cell? ⟨bx, 3, none⟩ = some (.int .i64 n)) (h0 : 0 ≤ key) (h3 : key ≤ 3) :
    Calls Try.prog 65 #[.pointer (some ⟨b, 0, none⟩), .pointer (some ⟨bx, 0, none⟩)] w fun e w' => e = .returned (.tuple #[]) ∧ V4.Blk w' b (v.set key (v.get key + n)) ∧ Only w w' b := by
  have c0 : w.cell? ⟨b, 0, none⟩ = some (.int .i64 v.a) := by unfold V4.Blk at hv; simp [World.cell?, hv]
  have c1 : w.cell? ⟨b, 1, none⟩ = some (.int .i64 v.b) := by unfold V4.Blk at hv; simp [World.cell?, hv]
  have c2 : w.cell? ⟨b, 2, none⟩ = some (.int .i64 v.c) := by unfold V4.Blk at hv; simp [World.cell?, hv]
  have c3 : w.cell? ⟨b, 3, none⟩ = some (.int .i64 v.d) := by unfold V4.Blk at hv; simp [World.cell?, hv]
  have hf : ∀ i, w.frozen? ⟨b, i, none⟩ = false := fun i => by unfold V4.Blk at hv; simp [World.frozen?, hv]
  have HV := Lib.hid hv
  clear hv
  obtain ⟨⟨a1, a2⟩, ⟨b1, b2⟩, ⟨d1, d2⟩, e1, e2⟩ := hok
  obtain ⟨n1, n2⟩ := hn
  have : key = 0 ∨ key = 1 ∨ key = 2 ∨ key = 3 := by omega
  rcases this with rfl | rfl | rfl | rfl
  all_goals
    go_enter Try.func65, Try.ntmps65
    go_wp2
    go_region
    all_goals
      go_end0
      refine ⟨rfl, ?_, ?_⟩
      · have := HV.out
        unfold V4.Blk at this ⊢
        simp [World.setCell, World.drew, Array.getElem?_modify, this, V4.set, V4.get]
      · first | exact Only.setCell _ _ _ _ | exact (Only.setCell _ _ _ _).drew | (refine ⟨by simp, rfl, rfl, rfl, by simp, fun k hk hne => Below.heap_setCell _ _ _ _ (by intro e; exact hne (by rw [e]))⟩)

theorem Turn3 (v : V4) (key n : Int) (b bx : Nat) (w : World) (hv : V4.Blk w b v) (hok : (-5000 ≤ v.a ∧ v.a ≤ 5000) ∧ (-5000 ≤ v.b ∧ v.b ≤ 5000) ∧ (-5000 ≤ v.c ∧ v.c ≤ 5000) ∧ (-5000 ≤ v.d ∧ v.d ≤ 5000)) (hn : -5000 ≤ n ∧ n ≤ 5000)
    (hx1 : w.cell? ⟨bx, 1, none⟩ = some (.int .i64 key)) (hx3 : w.cell? ⟨bx, 3, none⟩ = some (.int .i64 n)) (h0 : 0 ≤ key) (h3 : key ≤ 3) :
    Calls Try.prog 66 #[.pointer (some ⟨b, 0, none⟩), .pointer (some ⟨bx, 0, none⟩)] w fun e w' => e = .returned (.tuple #[]) ∧ V4.Blk w' b (v.set key (v.get key - n)) ∧ Only w w' b := by
  have c0 : w.cell? ⟨b, 0, none⟩ = some (.int .i64 v.a) := by unfold V4.Blk at hv; simp [World.cell?, hv]
  have c1 : w.cell? ⟨b, 1, none⟩ = some (.int .i64 v.b) := by unfold V4.Blk at hv; simp [World.cell?, hv]
  have c2 : w.cell? ⟨b, 2, none⟩ = some (.int .i64 v.c) := by unfold V4.Blk at hv; simp [World.cell?, hv]
  have c3 : w.cell? ⟨b, 3, none⟩ = some (.int .i64 v.d) := by unfold V4.Blk at hv; simp [World.cell?, hv]
  have hf : ∀ i, w.frozen? ⟨b, i, none⟩ = false := fun i => by unfold V4.Blk at hv; simp [World.frozen?, hv]
  have HV := Lib.hid hv
  clear hv
  obtain ⟨⟨a1, a2⟩, ⟨b1, b2⟩, ⟨d1, d2⟩, e1, e2⟩ := hok
  obtain ⟨n1, n2⟩ := hn
  have : key = 0 ∨ key = 1 ∨ key = 2 ∨ key = 3 := by omega
  rcases this with rfl | rfl | rfl | rfl
  all_goals
    go_enter Try.func66, Try.ntmps66
    go_wp2
    go_region
    all_goals
      go_end0
      refine ⟨rfl, ?_, ?_⟩
      · have := HV.out
        unfold V4.Blk at this ⊢
        simp [World.setCell, World.drew, Array.getElem?_modify, this, V4.set, V4.get]
      · first | exact Only.setCell _ _ _ _ | exact (Only.setCell _ _ _ _).drew | (refine ⟨by simp, rfl, rfl, rfl, by simp, fun k hk hne => Below.heap_setCell _ _ _ _ (by intro e; exact hne (by rw [e]))⟩)

theorem Turn4 (v : V4) (key n : Int) (b bx : Nat) (w : World) (hv : V4.Blk w b v) (hok : (-5000 ≤ v.a ∧ v.a ≤ 5000) ∧ (-5000 ≤ v.b ∧ v.b ≤ 5000) ∧ (-5000 ≤ v.c ∧ v.c ≤ 5000) ∧ (-5000 ≤ v.d ∧ v.d ≤ 5000)) (hn : -5000 ≤ n ∧ n ≤ 5000)
    (hx1 : w.cell? ⟨bx, 2, none⟩ = some (.int .i64 key)) (hx3 : w.cell? ⟨bx, 3, none⟩ = some (.int .i64 n)) (h0 : 0 ≤ key) (h3 : key ≤ 3) :
    Calls Try.prog 67 #[.pointer (some ⟨b, 0, none⟩), .pointer (some ⟨bx, 0, none⟩)] w fun e w' => e = .returned (.tuple #[]) ∧ V4.Blk w' b (v.set key (v.get key + n)) ∧ Only w w' b := by
  have c0 : w.cell? ⟨b, 0, none⟩ = some (.int .i64 v.a) := by unfold V4.Blk at hv; simp [World.cell?, hv]
  have c1 : w.cell? ⟨b, 1, none⟩ = some (.int .i64 v.b) := by unfold V4.Blk at hv; simp [World.cell?, hv]
  have c2 : w.cell? ⟨b, 2, none⟩ = some (.int .i64 v.c) := by unfold V4.Blk at hv; simp [World.cell?, hv]
  have c3 : w.cell? ⟨b, 3, none⟩ = some (.int .i64 v.d) := by unfold V4.Blk at hv; simp [World.cell?, hv]
  have hf : ∀ i, w.frozen? ⟨b, i, none⟩ = false := fun i => by unfold V4.Blk at hv; simp [World.frozen?, hv]
  have HV := Lib.hid hv
  clear hv
  obtain ⟨⟨a1, a2⟩, ⟨b1, b2⟩, ⟨d1, d2⟩, e1, e2⟩ := hok
  obtain ⟨n1, n2⟩ := hn
  have : key = 0 ∨ key = 1 ∨ key = 2 ∨ key = 3 := by omega
  rcases this with rfl | rfl | rfl | rfl
  all_goals
    go_enter Try.func67, Try.ntmps67
    go_wp2
    go_region
    all_goals
      go_end0
      refine ⟨rfl, ?_, ?_⟩
      · have := HV.out
        unfold V4.Blk at this ⊢
        simp [World.setCell, World.drew, Array.getElem?_modify, this, V4.set, V4.get]
      · first | exact Only.setCell _ _ _ _ | exact (Only.setCell _ _ _ _).drew | (refine ⟨by simp, rfl, rfl, rfl, by simp, fun k hk hne => Below.heap_setCell _ _ _ _ (by intro e; exact hne (by rw [e]))⟩)
end Go.Proofs.Ytcnkljeniffmmaa
