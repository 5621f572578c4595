/- Contracts of op.Turn and op.Do. -/
import Derived.Test.YtcnkljeniffmmaaOpC
namespace Go.Proofs.Ytcnkljeniffmmaa
open Go.RowKit
theorem zeroE (w : World) : (zeroValue 75).run Try.prog w = .ok (.slice none 0 0) w := by kernel_rfl
abbrev fnv (f : Nat) (a b : Addr) : Value := .func (.func f) #[] #[.pointer (some a), .pointer (some b)]
theorem bs1 (f : Nat) (a b : Addr) (w : World) : (Instr.buildSlice 75 1 #[(0, fnv f a b)]).run Try.prog w = .ok (.slice (some ⟨w.heap.size, 0, none⟩) 1 1) (w.alloc (.cells #[fnv f a b] 1)) := by kernel_rfl
theorem bs2 (f g : Nat) (a b c d : Addr) (w : World) : (Instr.buildSlice 75 2 #[(0, fnv f a b), (1, fnv g c d)]).run Try.prog w = .ok (.slice (some ⟨w.heap.size, 0, none⟩) 2 2) (w.alloc (.cells #[fnv f a b, fnv g c d] 1)) := by kernel_rfl

theorem three {w w1 w2 w3 : World} {A B C D M R1 R2 R3 : Obj} (ho1 : Only ((((((w.alloc A).alloc B).alloc C).alloc D).alloc M).alloc R1) w1 (w.heap.size + 1 + 1 + 1 + 1))
    (ho2 : Only (w1.alloc R2) w2 (w.heap.size + 1 + 1 + 1 + 1)) (ho3 : Only (w2.alloc R3) w3 (w.heap.size + 1 + 1 + 1 + 1)) :
    w3.heap[w.heap.size]? = some A ∧ w3.heap[w.heap.size + 1]? = some B ∧ w3.heap[w.heap.size + 1 + 1]? = some C ∧ w3.heap[w.heap.size + 1 + 1 + 1]? = some D ∧ w3.heap[w.heap.size + 1 + 1 + 1 + 1 + 1]? = some R1 ∧ w3.heap[w.heap.size + 1 + 1 + 1 + 1 + 1 + 1]? = some R2 ∧ w3.heap[w.heap.size + 1 + 1 + 1 + 1 + 1 + 1 + 1]? = some R3 ∧
      w3.heap.size = w.heap.size + 8 ∧ Below w.heap.size w w3 := by
  have hz1 := ho1.1
  have hz2 := ho2.1
  have hz3 := ho3.1
  simp only [World.size_alloc] at hz1 hz2 hz3
  have old : ∀ k, k < w1.heap.size → k ≠ w.heap.size + 1 + 1 + 1 + 1 → w3.heap[k]? = w1.heap[k]? := fun k hk hne =>
    (ho3.alloc_heap _ hne (by omega)).trans (ho2.alloc_heap _ hne (by omega))
  refine ⟨?_, ?_, ?_, ?_, ?_, ?_, ?_, by omega, ?_⟩
  · exact (old _ (by omega) (by omega)).trans ((ho1.heap _ (by omega)).trans ((heap_alloc_if _ _ _).trans ((if_neg (by simp only [World.size_alloc]; omega)).trans ((heap_alloc_if _ _ _).trans ((if_neg (by simp only [World.size_alloc]; omega)).trans ((heap_alloc_if _ _ _).trans ((if_neg (by simp only [World.size_alloc]; omega)).trans ((heap_alloc_if _ _ _).trans ((if_neg (by simp only [World.size_alloc]; omega)).trans ((heap_alloc_if _ _ _).trans ((if_neg (by simp only [World.size_alloc]; omega)).trans ((heap_alloc_if _ _ _).trans (if_pos (by simp only [World.size_alloc]))))))))))))))
  · exact (old _ (by omega) (by omega)).trans ((ho1.heap _ (by omega)).trans ((heap_alloc_if _ _ _).trans ((if_neg (by simp only [World.size_alloc]; omega)).trans ((heap_alloc_if _ _ _).trans ((if_neg (by simp only [World.size_alloc]; omega)).trans ((heap_alloc_if _ _ _).trans ((if_neg (by simp only [World.size_alloc]; omega)).trans ((heap_alloc_if _ _ _).trans ((if_neg (by simp only [World.size_alloc]; omega)).trans ((heap_alloc_if _ _ _).trans (if_pos (by simp only [World.size_alloc]))))))))))))
  · exact (old _ (by omega) (by omega)).trans ((ho1.heap _ (by omega)).trans ((heap_alloc_if _ _ _).trans ((if_neg (by simp only [World.size_alloc]; omega)).trans ((heap_alloc_if _ _ _).trans ((if_neg (by simp only [World.size_alloc]; omega)).trans ((heap_alloc_if _ _ _).trans ((if_neg (by simp only [World.size_alloc]; omega)).trans ((heap_alloc_if _ _ _).trans (if_pos (by simp only [World.size_alloc]))))))))))
  · exact (old _ (by omega) (by omega)).trans ((ho1.heap _ (by omega)).trans ((heap_alloc_if _ _ _).trans ((if_neg (by simp only [World.size_alloc]; omega)).trans ((heap_alloc_if _ _ _).trans ((if_neg (by simp only [World.size_alloc]; omega)).trans ((heap_alloc_if _ _ _).trans (if_pos (by simp only [World.size_alloc]))))))))
  · exact (old _ (by omega) (by omega)).trans ((ho1.heap _ (by omega)).trans ((heap_alloc_if _ _ _).trans (if_pos (by simp only [World.size_alloc]))))
  · exact (ho3.alloc_heap _ (by omega) (by omega)).trans (ho2.alloc_new _ (by omega) (by omega))
  · exact ho3.alloc_new _ (by omega) (by omega)
  · refine Only.below ?_ ho3 (by omega)
    refine Below.alloc ?_ (by omega) _
    refine Only.below ?_ ho2 (by omega)
    refine Below.alloc ?_ (by omega) _
    refine Only.below ?_ ho1 (by omega)
    repeat (first | exact Below.refl _ _ | refine Below.alloc ?_ (by (try simp only [World.size_alloc]); omega) _)
/-- how the blocks of op.Turn stand in world w: the values u, the op, the result's room, the values v as they were, the steps. -/
structure Tst (w0 w : World) (v u : V4) (xc : Array Value) (R1 R2 R3 : Obj) : Prop where
  fv : V4.Blk w w0.heap.size u
  fx : w.heap[w0.heap.size + 1]? = some (.cells xc 24 (0, 0))
  fr : V4.Blk w (w0.heap.size + 1 + 1) V4.zero
  fw : V4.Blk w (w0.heap.size + 1 + 1 + 1) v
  r1 : w.heap[w0.heap.size + 1 + 1 + 1 + 1 + 1]? = some R1
  r2 : w.heap[w0.heap.size + 1 + 1 + 1 + 1 + 1 + 1]? = some R2
  r3 : w.heap[w0.heap.size + 1 + 1 + 1 + 1 + 1 + 1 + 1]? = some R3
  hz : w0.heap.size + 8 ≤ w.heap.size
  hb : Below w0.heap.size w0 w
theorem Tst.step {w0 w w' : World} {v u u' : V4} {xc : Array Value} {R1 R2 R3 : Obj} (h : Tst w0 w v u xc R1 R2 R3) (ho : Only w w' w0.heap.size) (hu : V4.Blk w' w0.heap.size u') : Tst w0 w' v u' xc R1 R2 R3 :=
  ⟨hu, (ho.heap _ (by omega)).trans h.fx, (ho.heap _ (by omega)).trans h.fr, (ho.heap _ (by omega)).trans h.fw, (ho.heap _ (by omega)).trans h.r1, (ho.heap _ (by omega)).trans h.r2, (ho.heap _ (by omega)).trans h.r3,
    by have := ho.1; have := h.hz; omega, Only.below h.hb ho (Nat.le_refl _)⟩
theorem Tst.below {w0 w w' : World} {v u : V4} {xc : Array Value} {R1 R2 R3 : Obj} (h : Tst w0 w v u xc R1 R2 R3) (hb : Below w.heap.size w w') : Tst w0 w' v u xc R1 R2 R3 := by
  have hz := h.hz
  exact ⟨(hb.block _ (by omega)).trans h.fv, (hb.block _ (by omega)).trans h.fx, (hb.block _ (by omega)).trans h.fr, (hb.block _ (by omega)).trans h.fw, (hb.block _ (by omega)).trans h.r1, (hb.block _ (by omega)).trans h.r2, (hb.block _ (by omega)).trans h.r3,
    Nat.le_trans hz hb.size, h.hb.trans (hb.mono h.hb.size)⟩
theorem Tst.op {w0 w : World} {v u : V4} {a b c d : Value} {R1 R2 R3 : Obj} (h : Tst w0 w v u #[a, b, c, d] R1 R2 R3) :
    w.cell? ⟨w0.heap.size + 1, 0, none⟩ = some a ∧ w.cell? ⟨w0.heap.size + 1, 1, none⟩ = some b ∧ w.cell? ⟨w0.heap.size + 1, 2, none⟩ = some c ∧ w.cell? ⟨w0.heap.size + 1, 3, none⟩ = some d :=
  ⟨cell_of_row _ _ _ _ _ _ h.fx, cell_of_row _ _ _ _ _ _ h.fx, cell_of_row _ _ _ _ _ _ h.fx, cell_of_row _ _ _ _ _ _ h.fx⟩
theorem ok_wide {v : V4} (h : v.ok = true) : (-5000 ≤ v.a ∧ v.a ≤ 5000) ∧ (-5000 ≤ v.b ∧ v.b ≤ 5000) ∧ (-5000 ≤ v.c ∧ v.c ≤ 5000) ∧ (-5000 ≤ v.d ∧ v.d ≤ 5000) := by
  have := V4.ok_iff v
  have h := this.1 h
  omega
theorem HM (n : Int) {k : Int} (h : k ≠ 4 → -999 ≤ n ∧ n ≤ 999) (hk : k ≠ 4 := by decide) : -5000 ≤ n ∧ n ≤ 5000 := by have := h hk; omega
theorem err_parts {x : POp} (h : x.err = 0) : (x.kind = 1 ∨ x.kind = 2 ∨ x.kind = 3 ∨ x.kind = 4) ∧ 0 ≤ x.key ∧ x.key ≤ 3 ∧ (x.kind = 3 → 0 ≤ x.to ∧ x.to ≤ 3) ∧ (x.kind ≠ 4 → -999 ≤ x.n ∧ x.n ≤ 999) := by
  unfold POp.err at h
  omega
set_option maxHeartbeats 2000000 in
theorem op_turn1 (v : V4) (key to n : Int) (w : World) (hx : POp.err ⟨1, key, to, n⟩ = 0) (hv : v.ok = true) :
    Calls Try.prog 35 #[v.val, POp.val ⟨1, key, to, n⟩] w fun e w' => e = .returned (.tuple #[(POp.turn ⟨1, key, to, n⟩ v).1.val, .int .i64 (POp.turn ⟨1, key, to, n⟩ v).2]) ∧ Below w.heap.size w w' := by
  obtain ⟨_, hk0, hk3, hto, hn⟩ := err_parts hx
  simp only at hk0 hk3 hto hn
  have HB := Lib.hid (ok_wide hv)
  clear hv
  have HT := Lib.hid hto
  have HN := Lib.hid hn
  clear hto hn hx
  have hmm := @run_makeMap Try.prog
  have h1 := bs1
  have h2 := bs2
  go_enter Try.func35, Try.ntmps35
  go_wp2_with (first
   | (refine wpList_insert_int _ rfl _ _ _ _ rfl _ _ Try.underlying76 Try.underlying3 (w.heap.size + 1 + 1 + 1 + 1) #[] 0 rfl ?_ 1 rfl rfl ?_
      · rw [heap_alloc_if, if_neg (by simp only [World.size_alloc]; omega), heap_alloc_if, if_pos (by simp only [World.size_alloc])]
      intro w1 hm1 ho1
      simp [go_sem] at hm1
      have hc1 := ho1.cell
      have hz1 := ho1.1
      simp only [World.size_alloc] at hz1)
   | (refine wpList_insert_int _ rfl _ _ _ _ rfl _ _ Try.underlying76 Try.underlying3 (w.heap.size + 1 + 1 + 1 + 1) _ _ rfl ((heap_alloc_if _ _ _).trans ((if_neg ?_).trans hm1)) 2 rfl rfl ?_
      · omega
      intro w2 hm2 ho2
      simp [go_sem] at hm2
      have hc2 := ho2.cell
      have hz2 := ho2.1
      simp only [World.size_alloc] at hz2
      clear hm1)
   | (refine wpList_insert_int _ rfl _ _ _ _ rfl _ _ Try.underlying76 Try.underlying3 (w.heap.size + 1 + 1 + 1 + 1) _ _ rfl ((heap_alloc_if _ _ _).trans ((if_neg ?_).trans hm2)) 3 rfl rfl ?_
      · omega
      intro w3 hm3 ho3
      simp [go_sem] at hm3
      have hc3 := ho3.cell
      have hz3 := ho3.1
      simp only [World.size_alloc] at hz3
      clear hm2)
   | (at_lookup
      go_must (
      obtain ⟨f0, f1, f2, f3, f4, f5, f6, hz, hb⟩ := three ho1 ho2 ho3
      clear hc1 hc2 hc3 ho1 ho2 ho3 hz1 hz2 hz3 w1 w2
      have hT := (⟨f0, f1, f2, f3, f4, f5, f6, by omega, hb⟩ : Tst w w3 v v _ _ _ _)
      obtain ⟨x0, x1, x2, x3⟩ := hT.op
      obtain ⟨v0, v1, v2, v3, vf⟩ := hT.fv.cell
      have HS := hT.fr.cell
      have s1 := fun i => cell_of_row _ _ i _ _ _ f4
      have s2 := fun i => cell_of_row _ _ i _ _ _ f5
      have s3 := fun i => cell_of_row _ _ i _ _ _ f6
      clear f0 f1 f2 f3 f4 f5 f6
      refine wpList_lookup_int _ rfl _ _ _ rfl _ _ Try.underlying76 Try.underlying3 _ zeroE (w.heap.size + 1 + 1 + 1 + 1) _ _ rfl hm3 1 rfl _ rfl ?_
      simp only [found]
      clear s2 s3 hm3))
   | (go_at_call 64
      refine (Turn1 v key n _ _ _ hT.fv x1 x3 hk0 hk3).mono ?_
      rintro e w4 ⟨rfl, hB4, ho4⟩
      have hT4 := hT.step ho4 hB4
      have hz4 := ho4.1
      clear x0 x1 x2 x3 v0 v1 v2 v3 vf HS hB4 ho4
      generalize hu : v.set key n = u at hT4
      have HU := Lib.hid hu
      clear hu
      obtain ⟨x0, x1, x2, x3⟩ := hT4.op
      obtain ⟨v0, v1, v2, v3, vf⟩ := hT4.fv.cell
      have HS := hT4.fr.cell
      cases hok : u.ok
      all_goals have HO := Lib.hid hok
      all_goals clear hok)
   | (go_at_call 34
      refine (op_vals u.a u.b u.c u.d _).mono ?_
      rintro e w5 ⟨rfl, hb5⟩
      have hT5 := hT4.below hb5
      have hz5 := hT5.hz
      clear x0 x1 x2 x3 v0 v1 v2 v3 vf HS hb5 hz4
      rw [show V4.ok ⟨u.a, u.b, u.c, u.d⟩ = _ from HO.out]
      obtain ⟨x0, x1, x2, x3⟩ := hT5.op
      obtain ⟨v0, v1, v2, v3, vf⟩ := hT5.fv.cell
      have HW := hT5.fw.cell
      have HS := hT5.fr.cell
      have hg := hT5.fv.at hk0 hk3
      have t3 := fun i => cell_of_row _ _ i _ _ _ hT5.r3)
   | (with_reducible refine loop3 ?_)
   | (with_reducible refine loop2 ?_)
   | (with_reducible refine loop1 ?_))
  all_goals try go_region
  all_goals go_wp2
  · refine bodyPost_ret (v := .tuple #[v.val, .int .i64 (-1)]) (by simp [results, Try.results35, go_sem, HS]) rfl ⟨?_, ?_⟩
    · rw [show POp.turn ⟨1, key, to, n⟩ v = (v, -1) from by simp [POp.turn, HU.out, HO.out]]
    · repeat (first | exact hT5.hb | refine Below.drew ?_ | refine Below.setCell ?_ (by dsimp only; omega) _)
  · refine bodyPost_ret (v := .tuple #[u.val, .int .i64 (u.get key)]) (by simp [results, Try.results35, go_sem, HS]) rfl ⟨?_, ?_⟩
    · rw [show POp.turn ⟨1, key, to, n⟩ v = (u, u.get key) from by simp [POp.turn, HU.out, HO.out]]
    · repeat (first | exact hT5.hb | refine Below.drew ?_ | refine Below.setCell ?_ (by dsimp only; omega) _)
set_option maxHeartbeats 2000000 in
theorem op_turn2 (v : V4) (key to n : Int) (w : World) (hx : POp.err ⟨2, key, to, n⟩ = 0) (hv : v.ok = true) :
    Calls Try.prog 35 #[v.val, POp.val ⟨2, key, to, n⟩] w fun e w' => e = .returned (.tuple #[(POp.turn ⟨2, key, to, n⟩ v).1.val, .int .i64 (POp.turn ⟨2, key, to, n⟩ v).2]) ∧ Below w.heap.size w w' := by
  obtain ⟨_, hk0, hk3, hto, hn⟩ := err_parts hx
  simp only at hk0 hk3 hto hn
  have HB := Lib.hid (ok_wide hv)
  clear hv
  have HT := Lib.hid hto
  have HN := Lib.hid hn
  clear hto hn hx
  have hmm := @run_makeMap Try.prog
  have h1 := bs1
  have h2 := bs2
  go_enter Try.func35, Try.ntmps35
  go_wp2_with (first
   | (refine wpList_insert_int _ rfl _ _ _ _ rfl _ _ Try.underlying76 Try.underlying3 (w.heap.size + 1 + 1 + 1 + 1) #[] 0 rfl ?_ 1 rfl rfl ?_
      · rw [heap_alloc_if, if_neg (by simp only [World.size_alloc]; omega), heap_alloc_if, if_pos (by simp only [World.size_alloc])]
      intro w1 hm1 ho1
      simp [go_sem] at hm1
      have hc1 := ho1.cell
      have hz1 := ho1.1
      simp only [World.size_alloc] at hz1)
   | (refine wpList_insert_int _ rfl _ _ _ _ rfl _ _ Try.underlying76 Try.underlying3 (w.heap.size + 1 + 1 + 1 + 1) _ _ rfl ((heap_alloc_if _ _ _).trans ((if_neg ?_).trans hm1)) 2 rfl rfl ?_
      · omega
      intro w2 hm2 ho2
      simp [go_sem] at hm2
      have hc2 := ho2.cell
      have hz2 := ho2.1
      simp only [World.size_alloc] at hz2
      clear hm1)
   | (refine wpList_insert_int _ rfl _ _ _ _ rfl _ _ Try.underlying76 Try.underlying3 (w.heap.size + 1 + 1 + 1 + 1) _ _ rfl ((heap_alloc_if _ _ _).trans ((if_neg ?_).trans hm2)) 3 rfl rfl ?_
      · omega
      intro w3 hm3 ho3
      simp [go_sem] at hm3
      have hc3 := ho3.cell
      have hz3 := ho3.1
      simp only [World.size_alloc] at hz3
      clear hm2)
   | (at_lookup
      go_must (
      obtain ⟨f0, f1, f2, f3, f4, f5, f6, hz, hb⟩ := three ho1 ho2 ho3
      clear hc1 hc2 hc3 ho1 ho2 ho3 hz1 hz2 hz3 w1 w2
      have hT := (⟨f0, f1, f2, f3, f4, f5, f6, by omega, hb⟩ : Tst w w3 v v _ _ _ _)
      obtain ⟨x0, x1, x2, x3⟩ := hT.op
      obtain ⟨v0, v1, v2, v3, vf⟩ := hT.fv.cell
      have HS := hT.fr.cell
      have s1 := fun i => cell_of_row _ _ i _ _ _ f4
      have s2 := fun i => cell_of_row _ _ i _ _ _ f5
      have s3 := fun i => cell_of_row _ _ i _ _ _ f6
      clear f0 f1 f2 f3 f4 f5 f6
      refine wpList_lookup_int _ rfl _ _ _ rfl _ _ Try.underlying76 Try.underlying3 _ zeroE (w.heap.size + 1 + 1 + 1 + 1) _ _ rfl hm3 2 rfl _ rfl ?_
      simp only [found]
      clear s1 s3 hm3))
   | (go_at_call 65
      refine (Turn2 v key n _ _ _ hT.fv HB.out (HM n HN.out) x1 x3 hk0 hk3).mono ?_
      rintro e w4 ⟨rfl, hB4, ho4⟩
      have hT4 := hT.step ho4 hB4
      have hz4 := ho4.1
      clear x0 x1 x2 x3 v0 v1 v2 v3 vf HS hB4 ho4
      generalize hu : v.set key (v.get key + n) = u at hT4
      have HU := Lib.hid hu
      clear hu
      obtain ⟨x0, x1, x2, x3⟩ := hT4.op
      obtain ⟨v0, v1, v2, v3, vf⟩ := hT4.fv.cell
      have HS := hT4.fr.cell
      cases hok : u.ok
      all_goals have HO := Lib.hid hok
      all_goals clear hok)
   | (go_at_call 34
      refine (op_vals u.a u.b u.c u.d _).mono ?_
      rintro e w5 ⟨rfl, hb5⟩
      have hT5 := hT4.below hb5
      have hz5 := hT5.hz
      clear x0 x1 x2 x3 v0 v1 v2 v3 vf HS hb5 hz4
      rw [show V4.ok ⟨u.a, u.b, u.c, u.d⟩ = _ from HO.out]
      obtain ⟨x0, x1, x2, x3⟩ := hT5.op
      obtain ⟨v0, v1, v2, v3, vf⟩ := hT5.fv.cell
      have HW := hT5.fw.cell
      have HS := hT5.fr.cell
      have hg := hT5.fv.at hk0 hk3
      have t3 := fun i => cell_of_row _ _ i _ _ _ hT5.r3)
   | (with_reducible refine loop3 ?_)
   | (with_reducible refine loop2 ?_)
   | (with_reducible refine loop1 ?_))
  all_goals try go_region
  all_goals go_wp2
  · refine bodyPost_ret (v := .tuple #[v.val, .int .i64 (-1)]) (by simp [results, Try.results35, go_sem, HS]) rfl ⟨?_, ?_⟩
    · rw [show POp.turn ⟨2, key, to, n⟩ v = (v, -1) from by simp [POp.turn, HU.out, HO.out]]
    · repeat (first | exact hT5.hb | refine Below.drew ?_ | refine Below.setCell ?_ (by dsimp only; omega) _)
  · refine bodyPost_ret (v := .tuple #[u.val, .int .i64 (u.get key)]) (by simp [results, Try.results35, go_sem, HS]) rfl ⟨?_, ?_⟩
    · rw [show POp.turn ⟨2, key, to, n⟩ v = (u, u.get key) from by simp [POp.turn, HU.out, HO.out]]
    · repeat (first | exact hT5.hb | refine Below.drew ?_ | refine Below.setCell ?_ (by dsimp only; omega) _)
set_option maxHeartbeats 2000000 in
theorem op_turn3 (v : V4) (key to n : Int) (w : World) (hx : POp.err ⟨3, key, to, n⟩ = 0) (hv : v.ok = true) :
    Calls Try.prog 35 #[v.val, POp.val ⟨3, key, to, n⟩] w fun e w' => e = .returned (.tuple #[(POp.turn ⟨3, key, to, n⟩ v).1.val, .int .i64 (POp.turn ⟨3, key, to, n⟩ v).2]) ∧ Below w.heap.size w w' := by
  obtain ⟨_, hk0, hk3, hto, hn⟩ := err_parts hx
  simp only at hk0 hk3 hto hn
  have HB := Lib.hid (ok_wide hv)
  clear hv
  have HT := Lib.hid hto
  have HN := Lib.hid hn
  clear hto hn hx
  have hmm := @run_makeMap Try.prog
  have h1 := bs1
  have h2 := bs2
  go_enter Try.func35, Try.ntmps35
  go_wp2_with (first
   | (refine wpList_insert_int _ rfl _ _ _ _ rfl _ _ Try.underlying76 Try.underlying3 (w.heap.size + 1 + 1 + 1 + 1) #[] 0 rfl ?_ 1 rfl rfl ?_
      · rw [heap_alloc_if, if_neg (by simp only [World.size_alloc]; omega), heap_alloc_if, if_pos (by simp only [World.size_alloc])]
      intro w1 hm1 ho1
      simp [go_sem] at hm1
      have hc1 := ho1.cell
      have hz1 := ho1.1
      simp only [World.size_alloc] at hz1)
   | (refine wpList_insert_int _ rfl _ _ _ _ rfl _ _ Try.underlying76 Try.underlying3 (w.heap.size + 1 + 1 + 1 + 1) _ _ rfl ((heap_alloc_if _ _ _).trans ((if_neg ?_).trans hm1)) 2 rfl rfl ?_
      · omega
      intro w2 hm2 ho2
      simp [go_sem] at hm2
      have hc2 := ho2.cell
      have hz2 := ho2.1
      simp only [World.size_alloc] at hz2
      clear hm1)
   | (refine wpList_insert_int _ rfl _ _ _ _ rfl _ _ Try.underlying76 Try.underlying3 (w.heap.size + 1 + 1 + 1 + 1) _ _ rfl ((heap_alloc_if _ _ _).trans ((if_neg ?_).trans hm2)) 3 rfl rfl ?_
      · omega
      intro w3 hm3 ho3
      simp [go_sem] at hm3
      have hc3 := ho3.cell
      have hz3 := ho3.1
      simp only [World.size_alloc] at hz3
      clear hm2)
   | (at_lookup
      go_must (
      obtain ⟨f0, f1, f2, f3, f4, f5, f6, hz, hb⟩ := three ho1 ho2 ho3
      clear hc1 hc2 hc3 ho1 ho2 ho3 hz1 hz2 hz3 w1 w2
      have hT := (⟨f0, f1, f2, f3, f4, f5, f6, by omega, hb⟩ : Tst w w3 v v _ _ _ _)
      obtain ⟨x0, x1, x2, x3⟩ := hT.op
      obtain ⟨v0, v1, v2, v3, vf⟩ := hT.fv.cell
      have HS := hT.fr.cell
      have s1 := fun i => cell_of_row _ _ i _ _ _ f4
      have s2 := fun i => cell_of_row _ _ i _ _ _ f5
      have s3 := fun i => cell_of_row _ _ i _ _ _ f6
      clear f0 f1 f2 f3 f4 f5 f6
      refine wpList_lookup_int _ rfl _ _ _ rfl _ _ Try.underlying76 Try.underlying3 _ zeroE (w.heap.size + 1 + 1 + 1 + 1) _ _ rfl hm3 3 rfl _ rfl ?_
      simp only [found]
      clear s1 s2 hm3))
   | (go_at_call 66
      refine (Turn3 v key n _ _ _ hT.fv HB.out (HM n HN.out) x1 x3 hk0 hk3).mono ?_
      rintro e w4 ⟨rfl, hB4, ho4⟩
      have hT4 := hT.step ho4 hB4
      have hz4 := ho4.1
      clear x0 x1 x2 x3 v0 v1 v2 v3 vf HS hB4 ho4
      generalize hu : v.set key (v.get key - n) = u at hT4
      have HU := Lib.hid hu
      clear hu
      obtain ⟨x0, x1, x2, x3⟩ := hT4.op
      obtain ⟨v0, v1, v2, v3, vf⟩ := hT4.fv.cell
      have HS := hT4.fr.cell
      cases hok : u.ok
      all_goals have HO := Lib.hid hok
      all_goals clear hok)
   | (go_at_call 67
      refine (Turn4 u to n _ _ _ hT5.fv (ok_wide HO.out) (HM n HN.out) x2 x3 (HT.out trivial).1 (HT.out trivial).2).mono ?_
      rintro e w6 ⟨rfl, hB4, ho4⟩
      have hT6 := hT5.step ho4 hB4
      have hz6 := ho4.1
      clear x0 x1 x2 x3 v0 v1 v2 v3 vf HS HW hB4 ho4 hg
      generalize hu2 : u.set to (u.get to + n) = u2 at hT6
      have HU2 := Lib.hid hu2
      clear hu2
      obtain ⟨x0, x1, x2, x3⟩ := hT6.op
      obtain ⟨v0, v1, v2, v3, vf⟩ := hT6.fv.cell
      have HS := hT6.fr.cell
      cases hok2 : u2.ok
      all_goals have HO2 := Lib.hid hok2
      all_goals clear hok2)
   | (go_at_call 34
      refine (op_vals u2.a u2.b u2.c u2.d _).mono ?_
      rintro e w7 ⟨rfl, hb7⟩
      have hT7 := hT6.below hb7
      have hz7 := hT7.hz
      clear x0 x1 x2 x3 v0 v1 v2 v3 vf HS hb7 hz6
      rw [show V4.ok ⟨u2.a, u2.b, u2.c, u2.d⟩ = _ from HO2.out]
      obtain ⟨x0, x1, x2, x3⟩ := hT7.op
      obtain ⟨v0, v1, v2, v3, vf⟩ := hT7.fv.cell
      have HW := hT7.fw.cell
      have HS := hT7.fr.cell
      have hg := hT7.fv.at hk0 hk3)
   | (go_at_call 34
      refine (op_vals u.a u.b u.c u.d _).mono ?_
      rintro e w5 ⟨rfl, hb5⟩
      have hT5 := hT4.below hb5
      have hz5 := hT5.hz
      clear x0 x1 x2 x3 v0 v1 v2 v3 vf HS hb5 hz4
      rw [show V4.ok ⟨u.a, u.b, u.c, u.d⟩ = _ from HO.out]
      obtain ⟨x0, x1, x2, x3⟩ := hT5.op
      obtain ⟨v0, v1, v2, v3, vf⟩ := hT5.fv.cell
      have HW := hT5.fw.cell
      have HS := hT5.fr.cell
      have hg := hT5.fv.at hk0 hk3
      have t3 := fun i => cell_of_row _ _ i _ _ _ hT5.r3)
   | (with_reducible refine loop3 ?_)
   | (with_reducible refine loop2 ?_)
   | (with_reducible refine loop1 ?_))
  all_goals try go_region
  all_goals go_wp2
  · refine bodyPost_ret (v := .tuple #[v.val, .int .i64 (-1)]) (by simp [results, Try.results35, go_sem, HS]) rfl ⟨?_, ?_⟩
    · rw [show POp.turn ⟨3, key, to, n⟩ v = (v, -1) from by simp [POp.turn, HU.out, HO.out]]
    · repeat (first | exact hT5.hb | refine Below.drew ?_ | refine Below.setCell ?_ (by dsimp only; omega) _)
  · refine bodyPost_ret (v := .tuple #[v.val, .int .i64 (-1)]) (by simp [results, Try.results35, go_sem, HS]) rfl ⟨?_, ?_⟩
    · rw [show POp.turn ⟨3, key, to, n⟩ v = (v, -1) from by simp [POp.turn, HU.out, HO.out, HU2.out, HO2.out]]
    · repeat (first | exact hT7.hb | refine Below.drew ?_ | refine Below.setCell ?_ (by dsimp only; omega) _)
  · refine bodyPost_ret (v := .tuple #[u2.val, .int .i64 (u2.get key)]) (by simp [results, Try.results35, go_sem, HS]) rfl ⟨?_, ?_⟩
    · rw [show POp.turn ⟨3, key, to, n⟩ v = (u2, u2.get key) from by simp [POp.turn, HU.out, HO.out, HU2.out, HO2.out]]
    · repeat (first | exact hT7.hb | refine Below.drew ?_ | refine Below.setCell ?_ (by dsimp only; omega) _)
set_option maxHeartbeats 2000000 in
theorem op_turn4 (v : V4) (key to n : Int) (w : World) (hx : POp.err ⟨4, key, to, n⟩ = 0) (hv : v.ok = true) :
    Calls Try.prog 35 #[v.val, POp.val ⟨4, key, to, n⟩] w fun e w' => e = .returned (.tuple #[(POp.turn ⟨4, key, to, n⟩ v).1.val, .int .i64 (POp.turn ⟨4, key, to, n⟩ v).2]) ∧ Below w.heap.size w w' := by
  obtain ⟨_, hk0, hk3, hto, hn⟩ := err_parts hx
  simp only at hk0 hk3 hto hn
  have HB := Lib.hid (ok_wide hv)
  clear hv
  have HT := Lib.hid hto
  have HN := Lib.hid hn
  clear hto hn hx
  have hmm := @run_makeMap Try.prog
  have h1 := bs1
  have h2 := bs2
  go_enter Try.func35, Try.ntmps35
  go_wp2_with (first
   | (refine wpList_insert_int _ rfl _ _ _ _ rfl _ _ Try.underlying76 Try.underlying3 (w.heap.size + 1 + 1 + 1 + 1) #[] 0 rfl ?_ 1 rfl rfl ?_
      · rw [heap_alloc_if, if_neg (by simp only [World.size_alloc]; omega), heap_alloc_if, if_pos (by simp only [World.size_alloc])]
      intro w1 hm1 ho1
      simp [go_sem] at hm1
      have hc1 := ho1.cell
      have hz1 := ho1.1
      simp only [World.size_alloc] at hz1)
   | (refine wpList_insert_int _ rfl _ _ _ _ rfl _ _ Try.underlying76 Try.underlying3 (w.heap.size + 1 + 1 + 1 + 1) _ _ rfl ((heap_alloc_if _ _ _).trans ((if_neg ?_).trans hm1)) 2 rfl rfl ?_
      · omega
      intro w2 hm2 ho2
      simp [go_sem] at hm2
      have hc2 := ho2.cell
      have hz2 := ho2.1
      simp only [World.size_alloc] at hz2
      clear hm1)
   | (refine wpList_insert_int _ rfl _ _ _ _ rfl _ _ Try.underlying76 Try.underlying3 (w.heap.size + 1 + 1 + 1 + 1) _ _ rfl ((heap_alloc_if _ _ _).trans ((if_neg ?_).trans hm2)) 3 rfl rfl ?_
      · omega
      intro w3 hm3 ho3
      simp [go_sem] at hm3
      have hc3 := ho3.cell
      have hz3 := ho3.1
      simp only [World.size_alloc] at hz3
      clear hm2)
   | (at_lookup
      go_must (
      obtain ⟨f0, f1, f2, f3, f4, f5, f6, hz, hb⟩ := three ho1 ho2 ho3
      clear hc1 hc2 hc3 ho1 ho2 ho3 hz1 hz2 hz3 w1 w2
      have hT := (⟨f0, f1, f2, f3, f4, f5, f6, by omega, hb⟩ : Tst w w3 v v _ _ _ _)
      obtain ⟨x0, x1, x2, x3⟩ := hT.op
      obtain ⟨v0, v1, v2, v3, vf⟩ := hT.fv.cell
      have HS := hT.fr.cell
      have s1 := fun i => cell_of_row _ _ i _ _ _ f4
      have s2 := fun i => cell_of_row _ _ i _ _ _ f5
      have s3 := fun i => cell_of_row _ _ i _ _ _ f6
      clear f0 f1 f2 f3 f4 f5 f6
      refine wpList_lookup_int _ rfl _ _ _ rfl _ _ Try.underlying76 Try.underlying3 _ zeroE (w.heap.size + 1 + 1 + 1 + 1) _ _ rfl hm3 4 rfl _ rfl ?_
      simp only [found]
      have hg := hT.fv.at hk0 hk3
      clear s1 s2 s3 hm3))
   | (with_reducible refine loop3 ?_)
   | (with_reducible refine loop2 ?_)
   | (with_reducible refine loop1 ?_))
  all_goals try go_region
  all_goals go_wp2
  · refine bodyPost_ret (v := .tuple #[v.val, .int .i64 (v.get key)]) (by simp [results, Try.results35, go_sem, HS]) rfl ⟨?_, ?_⟩
    · rw [show POp.turn ⟨4, key, to, n⟩ v = (v, v.get key) from by simp [POp.turn]]
    · repeat (first | exact hT.hb | refine Below.drew ?_ | refine Below.setCell ?_ (by dsimp only; omega) _)
end Go.Proofs.Ytcnkljeniffmmaa
