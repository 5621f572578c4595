/- Contracts of the references' OpError, did, DoOf, and of op.Do. -/
import Derived.Test.YtcnkljeniffmmaaOpD
namespace Go.Proofs.Ytcnkljeniffmmaa
open Go.RowKit
set_option maxHeartbeats 2000000 in
theorem r_check (k key to n : Int) (w : World) :
    Calls Try.prog 14 #[.agg #[.int .i64 k, .int .i64 key, .int .i64 to, .int .i64 n]] w fun e w' => e = .returned (.int .i64 (POp.err ⟨k, key, to, n⟩)) ∧ Below w.heap.size w w' := by
  go_enter Try.func14, Try.ntmps14
  go_wp2_with (first
    | (go_at_call 41; refine (r_within _ _ _ _).mono ?_; rintro e w' ⟨rfl, rfl⟩))
  all_goals go_ret
  all_goals refine ⟨ret_int ?_, by repeat (first | exact Below.refl _ _ | refine Below.alloc ?_ (by simp) _)⟩
  all_goals (unfold POp.err; simp only [inR_iff, inR_not, beq_iff_eq, beq_eq_false_iff_ne, bne_iff_ne, bne_eq_false_iff_eq, Bool.not_eq_true', Bool.not_eq_false'] at *; omega)

structure Dst (w0 w : World) (v u : V4) (xc : Array Value) : Prop where
  fv : V4.Blk w w0.heap.size u
  fx : w.heap[w0.heap.size + 1]? = some (.cells xc 24 (0, 0))
  fr : V4.Blk w (w0.heap.size + 1 + 1) V4.zero
  fw : V4.Blk w (w0.heap.size + 1 + 1 + 1) v
  hz : w0.heap.size + 4 ≤ w.heap.size
  hb : Below w0.heap.size w0 w
theorem Dst.step {w0 w w' : World} {v u u' : V4} {xc : Array Value} (h : Dst w0 w v u xc) (ho : Only w w' w0.heap.size) (hu : V4.Blk w' w0.heap.size u') : Dst w0 w' v u' xc :=
  ⟨hu, (ho.heap _ (by omega)).trans h.fx, (ho.heap _ (by omega)).trans h.fr, (ho.heap _ (by omega)).trans h.fw,
    by have := ho.1; have := h.hz; omega, Only.below h.hb ho (Nat.le_refl _)⟩
theorem Dst.set {w0 w : World} {v u : V4} {xc : Array Value} (h : Dst w0 w v u xc) {k x : Int} (h0 : 0 ≤ k) (h3 : k ≤ 3) : Dst w0 (w.setCell ⟨w0.heap.size, k.toNat, none⟩ (.int .i64 x)) v (u.set k x) xc := by
  refine h.step (Only.setCell _ _ _ _) ?_
  have hv := h.fv
  unfold V4.Blk at hv ⊢
  have : k = 0 ∨ k = 1 ∨ k = 2 ∨ k = 3 := by omega
  rcases this with rfl | rfl | rfl | rfl <;> simp [World.setCell, Array.getElem?_modify, hv, V4.set]
theorem Dst.drew {w0 w : World} {v u : V4} {xc : Array Value} (h : Dst w0 w v u xc) : Dst w0 w.drew v u xc := ⟨h.fv, h.fx, h.fr, h.fw, h.hz, h.hb.drew⟩
theorem Dst.below {w0 w w' : World} {v u : V4} {xc : Array Value} (h : Dst w0 w v u xc) (hb : Below w.heap.size w w') : Dst w0 w' v u xc := by
  have hz := h.hz
  exact ⟨(hb.block _ (by omega)).trans h.fv, (hb.block _ (by omega)).trans h.fx, (hb.block _ (by omega)).trans h.fr, (hb.block _ (by omega)).trans h.fw,
    Nat.le_trans hz hb.size, h.hb.trans (hb.mono h.hb.size)⟩
theorem Dst.op {w0 w : World} {v u : V4} {a b c d : Value} (h : Dst w0 w v u #[a, b, c, d]) :
    w.cell? ⟨w0.heap.size + 1, 0, none⟩ = some a ∧ w.cell? ⟨w0.heap.size + 1, 1, none⟩ = some b ∧ w.cell? ⟨w0.heap.size + 1, 2, none⟩ = some c ∧ w.cell? ⟨w0.heap.size + 1, 3, none⟩ = some d :=
  ⟨cell_of_row _ _ _ _ _ _ h.fx, cell_of_row _ _ _ _ _ _ h.fx, cell_of_row _ _ _ _ _ _ h.fx, cell_of_row _ _ _ _ _ _ h.fx⟩
theorem Dst.start (w : World) (v : V4) (xc : Array Value) : Dst w ((((w.alloc (.cells v.cells 22)).alloc (.cells xc 24)).alloc (.cells #[.int .i64 0, .int .i64 0, .int .i64 0, .int .i64 0] 22)).alloc (.cells v.cells 22)) v v xc := by
  refine ⟨?_, ?_, ?_, ?_, by simp only [World.size_alloc]; omega, ?_⟩
  · exact (heap_alloc_if _ _ _).trans ((if_neg (by simp only [World.size_alloc]; omega)).trans ((heap_alloc_if _ _ _).trans ((if_neg (by simp only [World.size_alloc]; omega)).trans ((heap_alloc_if _ _ _).trans ((if_neg (by simp only [World.size_alloc]; omega)).trans ((heap_alloc_if _ _ _).trans (if_pos rfl)))))))
  · exact (heap_alloc_if _ _ _).trans ((if_neg (by simp only [World.size_alloc]; omega)).trans ((heap_alloc_if _ _ _).trans ((if_neg (by simp only [World.size_alloc]; omega)).trans ((heap_alloc_if _ _ _).trans (if_pos (by simp only [World.size_alloc]))))))
  · exact (heap_alloc_if _ _ _).trans ((if_neg (by simp only [World.size_alloc]; omega)).trans ((heap_alloc_if _ _ _).trans (if_pos (by simp only [World.size_alloc]))))
  · exact (heap_alloc_if _ _ _).trans (if_pos (by simp only [World.size_alloc]))
  · repeat (first | exact Below.refl _ _ | refine Below.alloc ?_ (by (try simp only [World.size_alloc]); omega) _)
theorem get_wide {v : V4} (h : (-5000 ≤ v.a ∧ v.a ≤ 5000) ∧ (-5000 ≤ v.b ∧ v.b ≤ 5000) ∧ (-5000 ≤ v.c ∧ v.c ≤ 5000) ∧ (-5000 ≤ v.d ∧ v.d ≤ 5000)) (k : Int) : -5000 ≤ v.get k ∧ v.get k ≤ 5000 := by
  unfold V4.get; omega
set_option maxHeartbeats 4000000 in
theorem r_did1 (v : V4) (key to n : Int) (w : World) (hx : POp.err ⟨1, key, to, n⟩ = 0) (hok : v.ok = true) :
    Calls Try.prog 37 #[v.val, POp.val ⟨1, key, to, n⟩] w fun e w' => e = .returned (.tuple #[(POp.turn ⟨1, key, to, n⟩ v).1.val, .int .i64 (POp.turn ⟨1, key, to, n⟩ v).2]) ∧ Below w.heap.size w w' := by
  obtain ⟨_, hk0, hk3, hto, hn⟩ := err_parts hx
  simp only at hk0 hk3 hto hn
  have HOv := Lib.hid hok
  have HT := Lib.hid hto
  have HN := Lib.hid hn
  clear hto hn hx hok
  have hS := Dst.start w v #[.int .i64 1, .int .i64 key, .int .i64 to, .int .i64 n]
  have HD := Lib.hid hS
  clear hS
  have tok : True := trivial
  have tok2 : True := trivial
  have tok3 : True := trivial
  go_enter Try.func37, Try.ntmps37
  go_wp2_with (first
   | (have _t := tok
      ((with_reducible refine wpl_reset (fun w' => Dst w w' v v #[.int .i64 1, .int .i64 key, .int .i64 to, .int .i64 n]) HD.out ?_))
      clear tok
      intro w1 hD
      obtain ⟨⟨b1, b2⟩, ⟨b3, b4⟩, ⟨b5, b6⟩, b7, b8⟩ := ok_wide HOv.out
      have hgb := get_wide (ok_wide HOv.out) key
      obtain ⟨x0, x1, x2, x3⟩ := hD.op
      obtain ⟨v0, v1, v2, v3, vf⟩ := hD.fv.cell
      have hg := hD.fv.at hk0 hk3
      have HW := hD.fw.cell
      have HS := hD.fr.cell
      have hz := hD.hz)
   | (have _t := tok2
      ((with_reducible refine wpl_reset (fun w' => Dst w w' v (v.set key n) #[.int .i64 1, .int .i64 key, .int .i64 to, .int .i64 n]) (hD.set hk0 hk3) ?_))
      clear tok2
      intro w2 hD2
      clear x0 x1 x2 x3 v0 v1 v2 v3 vf hg HW HS hz
      generalize hu : (v.set key n) = u at hD2
      have HU := Lib.hid hu
      clear hu
      obtain ⟨x0, x1, x2, x3⟩ := hD2.op
      obtain ⟨v0, v1, v2, v3, vf⟩ := hD2.fv.cell
      have hg := hD2.fv.at hk0 hk3
      have HW := hD2.fw.cell
      have HS := hD2.fr.cell
      have hz := hD2.hz
      cases hok : u.ok
      all_goals have HOu := Lib.hid hok
      all_goals clear hok)
   | (go_at_call 36
      refine (r_valsFine u.a u.b u.c u.d _).mono ?_
      rintro e w3 ⟨rfl, hb5⟩
      have hD3 := hD2.below hb5
      clear x0 x1 x2 x3 v0 v1 v2 v3 vf hg HW HS hz
      clear hb5
      rw [show V4.ok ⟨u.a, u.b, u.c, u.d⟩ = _ from HOu.out]
      obtain ⟨x0, x1, x2, x3⟩ := hD3.op
      obtain ⟨v0, v1, v2, v3, vf⟩ := hD3.fv.cell
      have hg := hD3.fv.at hk0 hk3
      have HW := hD3.fw.cell
      have HS := hD3.fr.cell
      have hz := hD3.hz))
  all_goals try go_region
  all_goals go_wp2
  · refine bodyPost_ret (v := .tuple #[v.val, .int .i64 (-1)]) (by simp [results, Try.results37, go_sem, HS]) rfl ⟨?_, ?_⟩
    · rw [show POp.turn ⟨1, key, to, n⟩ v = (v, -1) from by simp [POp.turn, HU.out, HOu.out]]
    · repeat (first | exact hD3.hb | refine Below.drew ?_ | refine Below.setCell ?_ (by dsimp only; omega) _)
  · refine bodyPost_ret (v := .tuple #[u.val, .int .i64 (u.get key)]) (by simp [results, Try.results37, go_sem, HS]) rfl ⟨?_, ?_⟩
    · rw [show POp.turn ⟨1, key, to, n⟩ v = (u, u.get key) from by simp [POp.turn, HU.out, HOu.out]]
    · repeat (first | exact hD3.hb | refine Below.drew ?_ | refine Below.setCell ?_ (by dsimp only; omega) _)
set_option maxHeartbeats 4000000 in
theorem r_did2 (v : V4) (key to n : Int) (w : World) (hx : POp.err ⟨2, key, to, n⟩ = 0) (hok : v.ok = true) :
    Calls Try.prog 37 #[v.val, POp.val ⟨2, key, to, n⟩] w fun e w' => e = .returned (.tuple #[(POp.turn ⟨2, key, to, n⟩ v).1.val, .int .i64 (POp.turn ⟨2, key, to, n⟩ v).2]) ∧ Below w.heap.size w w' := by
  obtain ⟨_, hk0, hk3, hto, hn⟩ := err_parts hx
  simp only at hk0 hk3 hto hn
  have HOv := Lib.hid hok
  have HT := Lib.hid hto
  have HN := Lib.hid hn
  clear hto hn hx hok
  have hS := Dst.start w v #[.int .i64 2, .int .i64 key, .int .i64 to, .int .i64 n]
  have HD := Lib.hid hS
  clear hS
  have tok : True := trivial
  have tok2 : True := trivial
  have tok3 : True := trivial
  go_enter Try.func37, Try.ntmps37
  go_wp2_with (first
   | (have _t := tok
      ((with_reducible refine wpl_reset (fun w' => Dst w w' v v #[.int .i64 2, .int .i64 key, .int .i64 to, .int .i64 n]) HD.out ?_))
      clear tok
      intro w1 hD
      have hnn := HM n HN.out
      obtain ⟨⟨b1, b2⟩, ⟨b3, b4⟩, ⟨b5, b6⟩, b7, b8⟩ := ok_wide HOv.out
      have hgb := get_wide (ok_wide HOv.out) key
      obtain ⟨x0, x1, x2, x3⟩ := hD.op
      obtain ⟨v0, v1, v2, v3, vf⟩ := hD.fv.cell
      have hg := hD.fv.at hk0 hk3
      have HW := hD.fw.cell
      have HS := hD.fr.cell
      have hz := hD.hz)
   | (have _t := tok2
      ((with_reducible refine wpl_reset (fun w' => Dst w w' v (v.set key (v.get key + n)) #[.int .i64 2, .int .i64 key, .int .i64 to, .int .i64 n]) ((hD.set hk0 hk3).drew) ?_))
      clear tok2
      intro w2 hD2
      clear x0 x1 x2 x3 v0 v1 v2 v3 vf hg HW HS hz
      generalize hu : (v.set key (v.get key + n)) = u at hD2
      have HU := Lib.hid hu
      clear hu
      obtain ⟨x0, x1, x2, x3⟩ := hD2.op
      obtain ⟨v0, v1, v2, v3, vf⟩ := hD2.fv.cell
      have hg := hD2.fv.at hk0 hk3
      have HW := hD2.fw.cell
      have HS := hD2.fr.cell
      have hz := hD2.hz
      cases hok : u.ok
      all_goals have HOu := Lib.hid hok
      all_goals clear hok)
   | (go_at_call 36
      refine (r_valsFine u.a u.b u.c u.d _).mono ?_
      rintro e w3 ⟨rfl, hb5⟩
      have hD3 := hD2.below hb5
      clear x0 x1 x2 x3 v0 v1 v2 v3 vf hg HW HS hz
      clear hb5
      rw [show V4.ok ⟨u.a, u.b, u.c, u.d⟩ = _ from HOu.out]
      obtain ⟨x0, x1, x2, x3⟩ := hD3.op
      obtain ⟨v0, v1, v2, v3, vf⟩ := hD3.fv.cell
      have hg := hD3.fv.at hk0 hk3
      have HW := hD3.fw.cell
      have HS := hD3.fr.cell
      have hz := hD3.hz))
  all_goals try go_region
  all_goals go_wp2_with (first
   | (have _t := tok2
      ((with_reducible refine wpl_reset (fun w' => Dst w w' v (v.set key (v.get key + n)) #[.int .i64 2, .int .i64 key, .int .i64 to, .int .i64 n]) ((hD.set hk0 hk3).drew) ?_))
      clear tok2
      intro w2 hD2
      clear x0 x1 x2 x3 v0 v1 v2 v3 vf hg HW HS hz
      generalize hu : (v.set key (v.get key + n)) = u at hD2
      have HU := Lib.hid hu
      clear hu
      obtain ⟨x0, x1, x2, x3⟩ := hD2.op
      obtain ⟨v0, v1, v2, v3, vf⟩ := hD2.fv.cell
      have hg := hD2.fv.at hk0 hk3
      have HW := hD2.fw.cell
      have HS := hD2.fr.cell
      have hz := hD2.hz
      cases hok : u.ok
      all_goals have HOu := Lib.hid hok
      all_goals clear hok)
   | (go_at_call 36
      refine (r_valsFine u.a u.b u.c u.d _).mono ?_
      rintro e w3 ⟨rfl, hb5⟩
      have hD3 := hD2.below hb5
      clear x0 x1 x2 x3 v0 v1 v2 v3 vf hg HW HS hz
      clear hb5
      rw [show V4.ok ⟨u.a, u.b, u.c, u.d⟩ = _ from HOu.out]
      obtain ⟨x0, x1, x2, x3⟩ := hD3.op
      obtain ⟨v0, v1, v2, v3, vf⟩ := hD3.fv.cell
      have hg := hD3.fv.at hk0 hk3
      have HW := hD3.fw.cell
      have HS := hD3.fr.cell
      have hz := hD3.hz))
  all_goals try go_region
  all_goals go_wp2
  · refine bodyPost_ret (v := .tuple #[v.val, .int .i64 (-1)]) (by simp [results, Try.results37, go_sem, HS]) rfl ⟨?_, ?_⟩
    · rw [show POp.turn ⟨2, key, to, n⟩ v = (v, -1) from by simp [POp.turn, HU.out, HOu.out]]
    · repeat (first | exact hD3.hb | refine Below.drew ?_ | refine Below.setCell ?_ (by dsimp only; omega) _)
  · refine bodyPost_ret (v := .tuple #[u.val, .int .i64 (u.get key)]) (by simp [results, Try.results37, go_sem, HS]) rfl ⟨?_, ?_⟩
    · rw [show POp.turn ⟨2, key, to, n⟩ v = (u, u.get key) from by simp [POp.turn, HU.out, HOu.out]]
    · repeat (first | exact hD3.hb | refine Below.drew ?_ | refine Below.setCell ?_ (by dsimp only; omega) _)
set_option maxHeartbeats 4000000 in
theorem r_did3 (v : V4) (key to n : Int) (w : World) (hx : POp.err ⟨3, key, to, n⟩ = 0) (hok : v.ok = true) :
    Calls Try.prog 37 #[v.val, POp.val ⟨3, key, to, n⟩] w fun e w' => e = .returned (.tuple #[(POp.turn ⟨3, key, to, n⟩ v).1.val, .int .i64 (POp.turn ⟨3, key, to, n⟩ v).2]) ∧ Below w.heap.size w w' := by
  obtain ⟨_, hk0, hk3, hto, hn⟩ := err_parts hx
  simp only at hk0 hk3 hto hn
  have HOv := Lib.hid hok
  have HT := Lib.hid hto
  have HN := Lib.hid hn
  clear hto hn hx hok
  have hS := Dst.start w v #[.int .i64 3, .int .i64 key, .int .i64 to, .int .i64 n]
  have HD := Lib.hid hS
  clear hS
  have tok : True := trivial
  have tok2 : True := trivial
  have tok3 : True := trivial
  go_enter Try.func37, Try.ntmps37
  go_wp2_with (first
   | (have _t := tok
      ((with_reducible refine wpl_reset (fun w' => Dst w w' v v #[.int .i64 3, .int .i64 key, .int .i64 to, .int .i64 n]) HD.out ?_))
      clear tok
      intro w1 hD
      have hnn := HM n HN.out
      obtain ⟨⟨b1, b2⟩, ⟨b3, b4⟩, ⟨b5, b6⟩, b7, b8⟩ := ok_wide HOv.out
      have hgb := get_wide (ok_wide HOv.out) key
      obtain ⟨x0, x1, x2, x3⟩ := hD.op
      obtain ⟨v0, v1, v2, v3, vf⟩ := hD.fv.cell
      have hg := hD.fv.at hk0 hk3
      have HW := hD.fw.cell
      have HS := hD.fr.cell
      have hz := hD.hz)
   | (have _t := tok2
      ((with_reducible refine wpl_reset (fun w' => Dst w w' v (v.set key (v.get key - n)) #[.int .i64 3, .int .i64 key, .int .i64 to, .int .i64 n]) ((hD.set hk0 hk3).drew) ?_))
      clear tok2
      intro w2 hD2
      clear x0 x1 x2 x3 v0 v1 v2 v3 vf hg HW HS hz
      generalize hu : (v.set key (v.get key - n)) = u at hD2
      have HU := Lib.hid hu
      clear hu
      obtain ⟨x0, x1, x2, x3⟩ := hD2.op
      obtain ⟨v0, v1, v2, v3, vf⟩ := hD2.fv.cell
      have hg := hD2.fv.at hk0 hk3
      have HW := hD2.fw.cell
      have HS := hD2.fr.cell
      have hz := hD2.hz
      cases hok : u.ok
      all_goals have HOu := Lib.hid hok
      all_goals clear hok)
   | (have _t := tok3
      ((with_reducible refine wpl_reset (fun w' => Dst w w' v (u.set to (u.get to + n)) #[.int .i64 3, .int .i64 key, .int .i64 to, .int .i64 n]) ((hD3.set (HT.out trivial).1 (HT.out trivial).2).drew) ?_))
      clear tok3
      intro w4 hD4
      clear x0 x1 x2 x3 v0 v1 v2 v3 vf hg HW HS hz
      generalize hu : (u.set to (u.get to + n)) = u2 at hD4
      have HU2 := Lib.hid hu
      clear hu
      obtain ⟨x0, x1, x2, x3⟩ := hD4.op
      obtain ⟨v0, v1, v2, v3, vf⟩ := hD4.fv.cell
      have hg := hD4.fv.at hk0 hk3
      have HW := hD4.fw.cell
      have HS := hD4.fr.cell
      have hz := hD4.hz
      cases hok : u2.ok
      all_goals have HOu2 := Lib.hid hok
      all_goals clear hok)
   | (go_at_call 36
      refine (r_valsFine u2.a u2.b u2.c u2.d _).mono ?_
      rintro e w5 ⟨rfl, hb5⟩
      have hD5 := hD4.below hb5
      clear x0 x1 x2 x3 v0 v1 v2 v3 vf hg HW HS hz
      clear hb5
      rw [show V4.ok ⟨u2.a, u2.b, u2.c, u2.d⟩ = _ from HOu2.out]
      obtain ⟨x0, x1, x2, x3⟩ := hD5.op
      obtain ⟨v0, v1, v2, v3, vf⟩ := hD5.fv.cell
      have hg := hD5.fv.at hk0 hk3
      have HW := hD5.fw.cell
      have HS := hD5.fr.cell
      have hz := hD5.hz)
   | (go_at_call 36
      refine (r_valsFine u.a u.b u.c u.d _).mono ?_
      rintro e w3 ⟨rfl, hb5⟩
      have hD3 := hD2.below hb5
      clear x0 x1 x2 x3 v0 v1 v2 v3 vf hg HW HS hz
      clear hb5
      rw [show V4.ok ⟨u.a, u.b, u.c, u.d⟩ = _ from HOu.out]
      obtain ⟨x0, x1, x2, x3⟩ := hD3.op
      obtain ⟨v0, v1, v2, v3, vf⟩ := hD3.fv.cell
      have hg := hD3.fv.at hk0 hk3
      have HW := hD3.fw.cell
      have HS := hD3.fr.cell
      have hz := hD3.hz
      obtain ⟨ht0, ht3⟩ := HT.out trivial
      have hgt := hD3.fv.at ht0 ht3
      try (have hgu := get_wide (ok_wide HOu.out) to)))
  all_goals try go_region
  all_goals go_wp2_with (first
   | (have _t := tok2
      ((with_reducible refine wpl_reset (fun w' => Dst w w' v (v.set key (v.get key - n)) #[.int .i64 3, .int .i64 key, .int .i64 to, .int .i64 n]) ((hD.set hk0 hk3).drew) ?_))
      clear tok2
      intro w2 hD2
      clear x0 x1 x2 x3 v0 v1 v2 v3 vf hg HW HS hz
      generalize hu : (v.set key (v.get key - n)) = u at hD2
      have HU := Lib.hid hu
      clear hu
      obtain ⟨x0, x1, x2, x3⟩ := hD2.op
      obtain ⟨v0, v1, v2, v3, vf⟩ := hD2.fv.cell
      have hg := hD2.fv.at hk0 hk3
      have HW := hD2.fw.cell
      have HS := hD2.fr.cell
      have hz := hD2.hz
      cases hok : u.ok
      all_goals have HOu := Lib.hid hok
      all_goals clear hok)
   | (have _t := tok3
      ((with_reducible refine wpl_reset (fun w' => Dst w w' v (u.set to (u.get to + n)) #[.int .i64 3, .int .i64 key, .int .i64 to, .int .i64 n]) ((hD3.set (HT.out trivial).1 (HT.out trivial).2).drew) ?_))
      clear tok3
      intro w4 hD4
      clear x0 x1 x2 x3 v0 v1 v2 v3 vf hg HW HS hz
      generalize hu : (u.set to (u.get to + n)) = u2 at hD4
      have HU2 := Lib.hid hu
      clear hu
      obtain ⟨x0, x1, x2, x3⟩ := hD4.op
      obtain ⟨v0, v1, v2, v3, vf⟩ := hD4.fv.cell
      have hg := hD4.fv.at hk0 hk3
      have HW := hD4.fw.cell
      have HS := hD4.fr.cell
      have hz := hD4.hz
      cases hok : u2.ok
      all_goals have HOu2 := Lib.hid hok
      all_goals clear hok)
   | (go_at_call 36
      refine (r_valsFine u2.a u2.b u2.c u2.d _).mono ?_
      rintro e w5 ⟨rfl, hb5⟩
      have hD5 := hD4.below hb5
      clear x0 x1 x2 x3 v0 v1 v2 v3 vf hg HW HS hz
      clear hb5
      rw [show V4.ok ⟨u2.a, u2.b, u2.c, u2.d⟩ = _ from HOu2.out]
      obtain ⟨x0, x1, x2, x3⟩ := hD5.op
      obtain ⟨v0, v1, v2, v3, vf⟩ := hD5.fv.cell
      have hg := hD5.fv.at hk0 hk3
      have HW := hD5.fw.cell
      have HS := hD5.fr.cell
      have hz := hD5.hz)
   | (go_at_call 36
      refine (r_valsFine u.a u.b u.c u.d _).mono ?_
      rintro e w3 ⟨rfl, hb5⟩
      have hD3 := hD2.below hb5
      clear x0 x1 x2 x3 v0 v1 v2 v3 vf hg HW HS hz
      clear hb5
      rw [show V4.ok ⟨u.a, u.b, u.c, u.d⟩ = _ from HOu.out]
      obtain ⟨x0, x1, x2, x3⟩ := hD3.op
      obtain ⟨v0, v1, v2, v3, vf⟩ := hD3.fv.cell
      have hg := hD3.fv.at hk0 hk3
      have HW := hD3.fw.cell
      have HS := hD3.fr.cell
      have hz := hD3.hz
      obtain ⟨ht0, ht3⟩ := HT.out trivial
      have hgt := hD3.fv.at ht0 ht3
      try (have hgu := get_wide (ok_wide HOu.out) to)))
  all_goals try go_region
  all_goals go_wp2_with (first
   | (have _t := tok2
      ((with_reducible refine wpl_reset (fun w' => Dst w w' v (v.set key (v.get key - n)) #[.int .i64 3, .int .i64 key, .int .i64 to, .int .i64 n]) ((hD.set hk0 hk3).drew) ?_))
      clear tok2
      intro w2 hD2
      clear x0 x1 x2 x3 v0 v1 v2 v3 vf hg HW HS hz
      generalize hu : (v.set key (v.get key - n)) = u at hD2
      have HU := Lib.hid hu
      clear hu
      obtain ⟨x0, x1, x2, x3⟩ := hD2.op
      obtain ⟨v0, v1, v2, v3, vf⟩ := hD2.fv.cell
      have hg := hD2.fv.at hk0 hk3
      have HW := hD2.fw.cell
      have HS := hD2.fr.cell
      have hz := hD2.hz
      cases hok : u.ok
      all_goals have HOu := Lib.hid hok
      all_goals clear hok)
   | (have _t := tok3
      ((with_reducible refine wpl_reset (fun w' => Dst w w' v (u.set to (u.get to + n)) #[.int .i64 3, .int .i64 key, .int .i64 to, .int .i64 n]) ((hD3.set (HT.out trivial).1 (HT.out trivial).2).drew) ?_))
      clear tok3
      intro w4 hD4
      clear x0 x1 x2 x3 v0 v1 v2 v3 vf hg HW HS hz
      generalize hu : (u.set to (u.get to + n)) = u2 at hD4
      have HU2 := Lib.hid hu
      clear hu
      obtain ⟨x0, x1, x2, x3⟩ := hD4.op
      obtain ⟨v0, v1, v2, v3, vf⟩ := hD4.fv.cell
      have hg := hD4.fv.at hk0 hk3
      have HW := hD4.fw.cell
      have HS := hD4.fr.cell
      have hz := hD4.hz
      cases hok : u2.ok
      all_goals have HOu2 := Lib.hid hok
      all_goals clear hok)
   | (go_at_call 36
      refine (r_valsFine u2.a u2.b u2.c u2.d _).mono ?_
      rintro e w5 ⟨rfl, hb5⟩
      have hD5 := hD4.below hb5
      clear x0 x1 x2 x3 v0 v1 v2 v3 vf hg HW HS hz
      clear hb5
      rw [show V4.ok ⟨u2.a, u2.b, u2.c, u2.d⟩ = _ from HOu2.out]
      obtain ⟨x0, x1, x2, x3⟩ := hD5.op
      obtain ⟨v0, v1, v2, v3, vf⟩ := hD5.fv.cell
      have hg := hD5.fv.at hk0 hk3
      have HW := hD5.fw.cell
      have HS := hD5.fr.cell
      have hz := hD5.hz)
   | (go_at_call 36
      refine (r_valsFine u.a u.b u.c u.d _).mono ?_
      rintro e w3 ⟨rfl, hb5⟩
      have hD3 := hD2.below hb5
      clear x0 x1 x2 x3 v0 v1 v2 v3 vf hg HW HS hz
      clear hb5
      rw [show V4.ok ⟨u.a, u.b, u.c, u.d⟩ = _ from HOu.out]
      obtain ⟨x0, x1, x2, x3⟩ := hD3.op
      obtain ⟨v0, v1, v2, v3, vf⟩ := hD3.fv.cell
      have hg := hD3.fv.at hk0 hk3
      have HW := hD3.fw.cell
      have HS := hD3.fr.cell
      have hz := hD3.hz
      obtain ⟨ht0, ht3⟩ := HT.out trivial
      have hgt := hD3.fv.at ht0 ht3
      try (have hgu := get_wide (ok_wide HOu.out) to)))
  all_goals try go_region
  all_goals go_wp2
  · refine bodyPost_ret (v := .tuple #[v.val, .int .i64 (-1)]) (by simp [results, Try.results37, go_sem, HS]) rfl ⟨?_, ?_⟩
    · rw [show POp.turn ⟨3, key, to, n⟩ v = (v, -1) from by simp [POp.turn, HU.out, HOu.out]]
    · repeat (first | exact hD3.hb | refine Below.drew ?_ | refine Below.setCell ?_ (by dsimp only; omega) _)
  · refine bodyPost_ret (v := .tuple #[v.val, .int .i64 (-1)]) (by simp [results, Try.results37, go_sem, HS]) rfl ⟨?_, ?_⟩
    · rw [show POp.turn ⟨3, key, to, n⟩ v = (v, -1) from by simp [POp.turn, HU.out, HOu.out, HU2.out, HOu2.out]]
    · repeat (first | exact hD5.hb | refine Below.drew ?_ | refine Below.setCell ?_ (by dsimp only; omega) _)
  · refine bodyPost_ret (v := .tuple #[u2.val, .int .i64 (u2.get key)]) (by simp [results, Try.results37, go_sem, HS]) rfl ⟨?_, ?_⟩
    · rw [show POp.turn ⟨3, key, to, n⟩ v = (u2, u2.get key) from by simp [POp.turn, HU.out, HOu.out, HU2.out, HOu2.out]]
    · repeat (first | exact hD5.hb | refine Below.drew ?_ | refine Below.setCell ?_ (by dsimp only; omega) _)
set_option maxHeartbeats 4000000 in
theorem r_did4 (v : V4) (key to n : Int) (w : World) (hx : POp.err ⟨4, key, to, n⟩ = 0) (hok : v.ok = true) :
    Calls Try.prog 37 #[v.val, POp.val ⟨4, key, to, n⟩] w fun e w' => e = .returned (.tuple #[(POp.turn ⟨4, key, to, n⟩ v).1.val, .int .i64 (POp.turn ⟨4, key, to, n⟩ v).2]) ∧ Below w.heap.size w w' := by
  obtain ⟨_, hk0, hk3, hto, hn⟩ := err_parts hx
  simp only at hk0 hk3 hto hn
  have HOv := Lib.hid hok
  have HT := Lib.hid hto
  have HN := Lib.hid hn
  clear hto hn hx hok
  have hS := Dst.start w v #[.int .i64 4, .int .i64 key, .int .i64 to, .int .i64 n]
  have HD := Lib.hid hS
  clear hS
  have tok : True := trivial
  have tok2 : True := trivial
  have tok3 : True := trivial
  go_enter Try.func37, Try.ntmps37
  go_wp2_with (first
   | (have _t := tok
      ((with_reducible refine wpl_reset (fun w' => Dst w w' v v #[.int .i64 4, .int .i64 key, .int .i64 to, .int .i64 n]) HD.out ?_))
      clear tok
      intro w1 hD
      obtain ⟨⟨b1, b2⟩, ⟨b3, b4⟩, ⟨b5, b6⟩, b7, b8⟩ := ok_wide HOv.out
      have hgb := get_wide (ok_wide HOv.out) key
      obtain ⟨x0, x1, x2, x3⟩ := hD.op
      obtain ⟨v0, v1, v2, v3, vf⟩ := hD.fv.cell
      have hg := hD.fv.at hk0 hk3
      have HW := hD.fw.cell
      have HS := hD.fr.cell
      have hz := hD.hz)
   | (go_at_call 36
      refine (r_valsFine v.a v.b v.c v.d _).mono ?_
      rintro e w3 ⟨rfl, hb5⟩
      have hD3 := hD.below hb5
      clear x0 x1 x2 x3 v0 v1 v2 v3 vf hg HW HS hz
      clear hb5
      rw [show V4.ok ⟨v.a, v.b, v.c, v.d⟩ = _ from HOv.out]
      obtain ⟨x0, x1, x2, x3⟩ := hD3.op
      obtain ⟨v0, v1, v2, v3, vf⟩ := hD3.fv.cell
      have hg := hD3.fv.at hk0 hk3
      have HW := hD3.fw.cell
      have HS := hD3.fr.cell
      have hz := hD3.hz))
  all_goals try go_region
  all_goals go_wp2
  · refine bodyPost_ret (v := .tuple #[v.val, .int .i64 (v.get key)]) (by simp [results, Try.results37, go_sem, HS]) rfl ⟨?_, ?_⟩
    · rw [show POp.turn ⟨4, key, to, n⟩ v = (v, v.get key) from by simp [POp.turn]]
    · repeat (first | exact hD3.hb | refine Below.drew ?_ | refine Below.setCell ?_ (by dsimp only; omega) _)

theorem r_did (v : V4) (k key to n : Int) (w : World) (hx : POp.err ⟨k, key, to, n⟩ = 0) (hv : v.ok = true) :
    Calls Try.prog 37 #[v.val, POp.val ⟨k, key, to, n⟩] w fun e w' => e = .returned (.tuple #[(POp.turn ⟨k, key, to, n⟩ v).1.val, .int .i64 (POp.turn ⟨k, key, to, n⟩ v).2]) ∧ Below w.heap.size w w' := by
  rcases (err_parts hx).1 with h | h | h | h
  all_goals simp only at h; subst h
  · exact r_did1 v key to n w hx hv
  · exact r_did2 v key to n w hx hv
  · exact r_did3 v key to n w hx hv
  · exact r_did4 v key to n w hx hv
end Go.Proofs.Ytcnkljeniffmmaa
