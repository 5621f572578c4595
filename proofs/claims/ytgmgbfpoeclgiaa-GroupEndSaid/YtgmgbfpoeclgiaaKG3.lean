/- The laws GroupTrue and GroupEnd. No conditions. -/
import Derived.Test.YtgmgbfpoeclgiaaKG2
set_option linter.unusedVariables false
set_option linter.unusedSimpArgs false
namespace Go.Proofs.Ytgmgbfpoeclgiaa
open Go.RowKit
set_option maxRecDepth 100000
section
variable {H : Hp} {g : Grp} {γ : GP}
set_option maxHeartbeats 1000000 in
theorem c_groupTrue (hg : GTab H g γ) {e : Ent} (he : e.in64) (x y : Int) (hx : -9223372036854775808 ≤ x ∧ x ≤ 9223372036854775807) (hy : -9223372036854775808 ≤ y ∧ y ≤ 9223372036854775807) :
    Gv Try.prog 6 #[gVal g γ, e.val, vi x, vi y] H (vb true) := fun W hH => by
  have hm := hg.tail.len
  refine x_groupTrue _ _ _ _ _ _ γ.p γ.n γ.c γ.q γ.m γ.d _ _ _ _ _ _ γ.p0 γ.n0 γ.c0 _ _ _ _ _ _ γ.p1 γ.n1 γ.c1 _ _ _ _ _ _ γ.p2 γ.n2 γ.c2 _ _ _ _ _ _ _ _ _ x y noM H W _ hH fun b0 b1 => ?_
  have beg : ∀ {K : Hp}, Cl Try.prog W noM K nK 20 #[] fun z W3 W4 => ∃ x31 : Bool, z = .returned (vb (x31)) ∧ Ext W3 W4 ∧ Rt (fun z W' => z = .returned (vb true) ∧ Ext W W') W noM K nK (vb (x31)) := fun {K} => Cl.same (c_groupBegun K) fun _ _ hx => ⟨_, rfl, hx, Rt.gv⟩
  refine Cl.same (c_groupCheck hg) fun _ _ hx1 => ⟨_, rfl, hx1, fun e0 => ?_, fun _ => beg⟩
  have ok := gErr_ok.1 e0
  have hlow := ok.log.low
  refine ⟨fun v K => match v with | [.n j] => j ≤ 3 ∧ H.le K | _ => False, fun v => match v with | [.n j] => 3 - j | _ => 0, ⟨by omega, Hp.le_refl H⟩, fun H1 a hI => ?_⟩
  obtain ⟨ha3, hle1⟩ := hI
  refine ⟨fun hlt => ?_, fun hge => ?_⟩
  · refine ⟨fun v K => match v with | [.n j] => j ≤ 3 ∧ H.le K | _ => False, fun v => match v with | [.n j] => 3 - j | _ => 0, ⟨by omega, hle1⟩, fun H2 b hI => ?_⟩
    obtain ⟨hb3, hle2⟩ := hI
    refine ⟨fun hlt2 => ?_, fun hge2 => ?_⟩
    · have nx : inKind .i64 ((b : Int) + 1) ∧ (inKind .i64 ((b : Int) + 1) → (0 ≤ ((b : Int) + 1) ∧ (0 ≤ ((b : Int) + 1) → ((((b : Int) + 1).toNat ≤ 3 ∧ H.le H2) ∧ 3 - ((b : Int) + 1).toNat < 3 - b)))) := ⟨in64 (by omega), fun _ => ⟨by omega, fun _ => ⟨⟨by omega, hle2⟩, by omega⟩⟩⟩
      exact ⟨⟨by omega, by omega⟩, fun _ => ⟨fun ha => ⟨⟨by omega, by omega⟩, fun _ => ⟨fun hb => ⟨fun h1 => ⟨fun h2 => Cl.same (c_sameOf (hg.n0.mono hle2) (hg.n0.mono hle2)) fun _ _ hx => ⟨_, rfl, hx, fun _ => nx, fun h => absurd (decide_eq_true (nodes_same ok (a := 0) (b := 0) h1 h2)) h⟩, fun _ => nx⟩, fun _ => nx⟩, fun hb => ⟨fun h1 => ⟨fun h2 => Cl.same (c_sameOf (hg.n0.mono hle2) (hg.n1.mono hle2)) fun _ _ hx => ⟨_, rfl, hx, fun _ => nx, fun h => absurd (decide_eq_true (nodes_same ok (a := 0) (b := 1) h1 h2)) h⟩, fun _ => nx⟩, fun _ => nx⟩, fun hb => ⟨fun h1 => ⟨fun h2 => Cl.same (c_sameOf (hg.n0.mono hle2) (hg.n2.mono hle2)) fun _ _ hx => ⟨_, rfl, hx, fun _ => nx, fun h => absurd (decide_eq_true (nodes_same ok (a := 0) (b := 2) h1 h2)) h⟩, fun _ => nx⟩, fun _ => nx⟩, trivial⟩⟩, fun ha => ⟨⟨by omega, by omega⟩, fun _ => ⟨fun hb => ⟨fun h1 => ⟨fun h2 => Cl.same (c_sameOf (hg.n1.mono hle2) (hg.n0.mono hle2)) fun _ _ hx => ⟨_, rfl, hx, fun _ => nx, fun h => absurd (decide_eq_true (nodes_same ok (a := 1) (b := 0) h1 h2)) h⟩, fun _ => nx⟩, fun _ => nx⟩, fun hb => ⟨fun h1 => ⟨fun h2 => Cl.same (c_sameOf (hg.n1.mono hle2) (hg.n1.mono hle2)) fun _ _ hx => ⟨_, rfl, hx, fun _ => nx, fun h => absurd (decide_eq_true (nodes_same ok (a := 1) (b := 1) h1 h2)) h⟩, fun _ => nx⟩, fun _ => nx⟩, fun hb => ⟨fun h1 => ⟨fun h2 => Cl.same (c_sameOf (hg.n1.mono hle2) (hg.n2.mono hle2)) fun _ _ hx => ⟨_, rfl, hx, fun _ => nx, fun h => absurd (decide_eq_true (nodes_same ok (a := 1) (b := 2) h1 h2)) h⟩, fun _ => nx⟩, fun _ => nx⟩, trivial⟩⟩, fun ha => ⟨⟨by omega, by omega⟩, fun _ => ⟨fun hb => ⟨fun h1 => ⟨fun h2 => Cl.same (c_sameOf (hg.n2.mono hle2) (hg.n0.mono hle2)) fun _ _ hx => ⟨_, rfl, hx, fun _ => nx, fun h => absurd (decide_eq_true (nodes_same ok (a := 2) (b := 0) h1 h2)) h⟩, fun _ => nx⟩, fun _ => nx⟩, fun hb => ⟨fun h1 => ⟨fun h2 => Cl.same (c_sameOf (hg.n2.mono hle2) (hg.n1.mono hle2)) fun _ _ hx => ⟨_, rfl, hx, fun _ => nx, fun h => absurd (decide_eq_true (nodes_same ok (a := 2) (b := 1) h1 h2)) h⟩, fun _ => nx⟩, fun _ => nx⟩, fun hb => ⟨fun h1 => ⟨fun h2 => Cl.same (c_sameOf (hg.n2.mono hle2) (hg.n2.mono hle2)) fun _ _ hx => ⟨_, rfl, hx, fun _ => nx, fun h => absurd (decide_eq_true (nodes_same ok (a := 2) (b := 2) h1 h2)) h⟩, fun _ => nx⟩, fun _ => nx⟩, trivial⟩⟩, trivial⟩⟩
    · exact ⟨in64 (by omega), fun _ => ⟨by omega, fun _ => ⟨⟨by omega, hle2⟩, by simp only; omega⟩⟩⟩
  · replace hg := hg.mono hle1
    refine Cl.fresh (c_groupPut hg he) ?_
    rintro v W1 W2 D ⟨γ1, rfl, g1⟩ hx1 hD hf nn
    refine ⟨_, _, _, _, _, _, γ1.p, γ1.n, γ1.c, γ1.q, γ1.m, γ1.d, _, _, _, _, _, _, γ1.p0, γ1.n0, γ1.c0, _, _, _, _, _, _, γ1.p1, γ1.n1, γ1.c1, _, _, _, _, _, _, γ1.p2, γ1.n2, γ1.c2, _, _, rfl, hx1, D, hD, hf, fun H2 h2 hd2 c0 => ?_⟩
    replace hg := hg.mono h2
    replace g1 := g1.mono hd2
    obtain ⟨u1, u2⟩ := choose_in x 3 (by omega)
    refine Cl.same (c_choose x 3 (by omega) hx H2) fun _ _ hx => ⟨_, rfl, hx, ?_⟩
    generalize chooseI x 3 = k at u1 u2 ⊢
    obtain ⟨u3, u4⟩ := choose_in y 51 (by omega)
    refine Cl.same (c_choose y 51 (by omega) hy H2) fun _ _ hx => ⟨_, rfl, hx, ?_⟩
    generalize chooseI y 51 = n at u3 u4 ⊢
    obtain ⟨r1, r2⟩ := gRun_fold ok (k := k) (n := n) (by omega) (by omega)
    refine Cl.fresh (c_groupRun hg k n) ?_
    rintro v W1 W2 D ⟨γ2, rfl, g2⟩ hx2 hD hf nn
    refine ⟨_, _, _, _, _, _, γ2.p, γ2.n, γ2.c, γ2.q, γ2.m, γ2.d, _, _, _, _, _, _, γ2.p0, γ2.n0, γ2.c0, _, _, _, _, _, _, γ2.p1, γ2.n1, γ2.c1, _, _, _, _, _, _, γ2.p2, γ2.n2, γ2.c2, _, _, rfl, hx2, D, hD, hf, fun H3 h3 hd3 c1 => ?_⟩
    replace hg := hg.mono h3
    replace g1 := g1.mono h3
    replace g2 := g2.mono hd3
    refine ⟨by omega, fun _ => ⟨in64 (by omega), fun _ => ?_⟩⟩
    obtain ⟨u5, u6⟩ := choose_in y ((γ.m : Int) + 1) (by omega)
    refine Cl.same (c_choose y ((γ.m : Int) + 1) (by omega) hy H3) fun _ _ hx => ⟨_, rfl, hx, ?_⟩
    obtain ⟨j, hj⟩ : ∃ j : Nat, chooseI y ((γ.m : Int) + 1) = j := ⟨(chooseI y ((γ.m : Int) + 1)).toNat, by omega⟩
    rw [hj] at u5 u6 ⊢
    obtain ⟨q1, q2⟩ := gCut_fold ok (k := j) (by omega)
    refine Cl.fresh (c_groupCut hg (j : Int)) ?_
    rintro v W1 W2 D ⟨γ3, rfl, g3⟩ hx3 hD hf nn
    refine ⟨_, _, _, _, _, _, γ3.p, γ3.n, γ3.c, γ3.q, γ3.m, γ3.d, _, _, _, _, _, _, γ3.p0, γ3.n0, γ3.c0, _, _, _, _, _, _, γ3.p1, γ3.n1, γ3.c1, _, _, _, _, _, _, γ3.p2, γ3.n2, γ3.c2, _, rfl, hx3, D, hD, hf, fun H4 h4 hd4 c2 => ?_⟩
    replace g1 := g1.mono h4
    replace g2 := g2.mono h4
    replace g3 := g3.mono hd4
    have er : (gRun g k n).2.2 = 0 := by rw [r1]
    have ec : (gCut g j).2 = 0 := by rw [q1]
    refine ⟨fun ep => ?_, fun _ => ?_⟩
    · refine Cl.same (c_groupCheck g1) fun _ _ hx => ⟨_, rfl, hx, fun _ => ⟨fun _ => ?_, fun h => absurd er h⟩, fun h => absurd (gErr_ok.2 (gPut_ok ok ep)) h⟩
      refine Cl.same (c_groupCheck g2) fun _ _ hx => ⟨_, rfl, hx, fun _ => ⟨fun _ => ?_, fun h => absurd ec h⟩, fun h => absurd (gErr_ok.2 r2) h⟩
      exact Cl.same (c_groupCheck g3) fun _ _ hx => ⟨_, rfl, hx, fun _ => beg, fun h => absurd (gErr_ok.2 q2) h⟩
    · refine ⟨fun _ => ?_, fun h => absurd er h⟩
      refine Cl.same (c_groupCheck g2) fun _ _ hx => ⟨_, rfl, hx, fun _ => ⟨fun _ => ?_, fun h => absurd ec h⟩, fun h => absurd (gErr_ok.2 r2) h⟩
      exact Cl.same (c_groupCheck g3) fun _ _ hx => ⟨_, rfl, hx, fun _ => beg, fun h => absurd (gErr_ok.2 q2) h⟩
theorem c_groupEnd (hg : GTab H g γ) (x : Int) (hx : -9223372036854775808 ≤ x ∧ x ≤ 9223372036854775807) :
    Gv Try.prog 7 #[gVal g γ, vi x] H (vb true) := fun W hH => by
  have hm := hg.tail.len
  refine x_groupEnd _ _ _ _ _ _ γ.p γ.n γ.c γ.q γ.m γ.d _ _ _ _ _ _ γ.p0 γ.n0 γ.c0 _ _ _ _ _ _ γ.p1 γ.n1 γ.c1 _ _ _ _ _ _ γ.p2 γ.n2 γ.c2 x noM H W _ hH fun b0 => ?_
  have beg : ∀ {K : Hp}, Cl Try.prog W noM K nK 20 #[] fun z W3 W4 => ∃ x31 : Bool, z = .returned (vb (x31)) ∧ Ext W3 W4 ∧ Rt (fun z W' => z = .returned (vb true) ∧ Ext W W') W noM K nK (vb (x31)) := fun {K} => Cl.same (c_groupBegun K) fun _ _ hx => ⟨_, rfl, hx, Rt.gv⟩
  refine Cl.fresh (c_packEnd hg.base hg.tail) ?_
  rintro v W1 W2 D ⟨p1, n1, c1, rfl, hT⟩ hx1 hD hf nn
  refine ⟨_, _, _, _, _, _, p1, n1, c1, _, rfl, hx1, D, hD, hf, fun H1 h1 hd1 c0 => ⟨fun e1 => ?_, fun _ => beg⟩⟩
  replace hg := hg.mono h1
  replace hT := hT.mono hd1
  refine Cl.same (c_groupCheck hg) fun _ _ hx0 => ⟨_, rfl, hx0, fun e0 => ?_, fun _ => beg⟩
  have ok := gErr_ok.1 e0
  have hlow := ok.log.low
  have hend := lEnd_ok (logErr_ok.2 ok.log)
  rw [hend] at hT ⊢
  refine ⟨by omega, fun _ => ⟨in64 (by omega), fun _ => ?_⟩⟩
  obtain ⟨u5, u6⟩ := choose_in x ((γ.m : Int) + 1) (by omega)
  refine Cl.same (c_choose x ((γ.m : Int) + 1) (by omega) hx H1) fun _ _ hx => ⟨_, rfl, hx, ?_⟩
  obtain ⟨j, hj⟩ : ∃ j : Nat, chooseI x ((γ.m : Int) + 1) = j := ⟨(chooseI x ((γ.m : Int) + 1)).toNat, by omega⟩
  rw [hj] at u5 u6 ⊢
  obtain ⟨q1, q2⟩ := gCut_fold ok (k := j) (by omega)
  have hfin := (ok.log.cut (k := j) (by omega)).2.2
  refine Cl.fresh (c_groupCut hg (j : Int)) ?_
  rintro v W1 W2 D ⟨γ1, rfl, g1⟩ hx2 hD hf nn
  refine ⟨_, _, _, _, _, _, γ1.p, γ1.n, γ1.c, γ1.q, γ1.m, γ1.d, _, _, _, _, _, _, γ1.p0, γ1.n0, γ1.c0, _, _, _, _, _, _, γ1.p1, γ1.n1, γ1.c1, _, _, _, _, _, _, γ1.p2, γ1.n2, γ1.c2, _, rfl, hx2, D, hD, hf, fun H2 h2 hd2 c1 => ?_⟩
  replace g1 := g1.mono hd2
  replace hT := hT.mono h2
  have ec : (gCut g j).2 = 0 := by rw [q1]
  have hf1 : foldS (gCut g j).1.base (gCut g j).1.tail = foldS g.base g.tail := by rw [q1]; exact hfin
  generalize (gCut g j).1 = G1 at g1 q2 hf1
  refine ⟨fun _ => ?_, fun h => absurd ec h⟩
  obtain ⟨a1, a2, a3⟩ := gRun_end q2 (k := 0) (by omega)
  refine Cl.fresh (c_groupRun g1 0 50) ?_
  rintro v W1 W2 D ⟨γ2, rfl, g2⟩ hx3 hD hf nn
  refine ⟨_, _, _, _, _, _, γ2.p, γ2.n, γ2.c, γ2.q, γ2.m, γ2.d, _, _, _, _, _, _, γ2.p0, γ2.n0, γ2.c0, _, _, _, _, _, _, γ2.p1, γ2.n1, γ2.c1, _, _, _, _, _, _, γ2.p2, γ2.n2, γ2.c2, _, _, rfl, hx3, D, hD, hf, fun H3 h3 hd3 c2 => ⟨fun _ => ?_, fun h => absurd a2 h⟩⟩
  replace g2 := g2.mono hd3
  replace hT := hT.mono h3
  have n0 : (gRun G1 0 50).1.n0 = foldS g.base g.tail := by rw [a1, ← hf1]; rfl
  have hf2 : foldS (gRun G1 0 50).1.base (gRun G1 0 50).1.tail = foldS g.base g.tail := by rw [a1]; exact hf1
  generalize (gRun G1 0 50).1 = G2 at g2 a3 n0 hf2
  refine Cl.same (c_sameOf g2.n0 hT) fun _ _ hx => ⟨_, rfl, hx, fun _ => ?_, fun h => absurd (decide_eq_true n0) h⟩
  obtain ⟨a4, a5, a6⟩ := gRun_end a3 (k := 1) (by omega)
  refine Cl.fresh (c_groupRun g2 1 50) ?_
  rintro v W1 W2 D ⟨γ3, rfl, g3⟩ hx4 hD hf nn
  refine ⟨_, _, _, _, _, _, γ3.p, γ3.n, γ3.c, γ3.q, γ3.m, γ3.d, _, _, _, _, _, _, γ3.p0, γ3.n0, γ3.c0, _, _, _, _, _, _, γ3.p1, γ3.n1, γ3.c1, _, _, _, _, _, _, γ3.p2, γ3.n2, γ3.c2, _, _, rfl, hx4, D, hD, hf, fun H4 h4 hd4 c3 => ⟨fun _ => ?_, fun h => absurd a5 h⟩⟩
  replace g3 := g3.mono hd4
  replace hT := hT.mono h4
  have n1 : (gRun G2 1 50).1.n1 = foldS g.base g.tail := by rw [a4, ← hf2]; rfl
  have hf3 : foldS (gRun G2 1 50).1.base (gRun G2 1 50).1.tail = foldS g.base g.tail := by rw [a4]; exact hf2
  generalize (gRun G2 1 50).1 = G3 at g3 a6 n1 hf3
  refine Cl.same (c_sameOf g3.n1 hT) fun _ _ hx => ⟨_, rfl, hx, fun _ => ?_, fun h => absurd (decide_eq_true n1) h⟩
  obtain ⟨a7, a8, a9⟩ := gRun_end a6 (k := 2) (by omega)
  refine Cl.fresh (c_groupRun g3 2 50) ?_
  rintro v W1 W2 D ⟨γ4, rfl, g4⟩ hx5 hD hf nn
  refine ⟨_, _, _, _, _, _, γ4.p, γ4.n, γ4.c, γ4.q, γ4.m, γ4.d, _, _, _, _, _, _, γ4.p0, γ4.n0, γ4.c0, _, _, _, _, _, _, γ4.p1, γ4.n1, γ4.c1, _, _, _, _, _, _, γ4.p2, γ4.n2, γ4.c2, _, _, rfl, hx5, D, hD, hf, fun H5 h5 hd5 c4 => ⟨fun _ => ?_, fun h => absurd a8 h⟩⟩
  replace g4 := g4.mono hd5
  replace hT := hT.mono h5
  have n2 : (gRun G3 2 50).1.n2 = foldS g.base g.tail := by rw [a7, ← hf3]; rfl
  refine Cl.same (c_sameOf g4.n2 hT) fun _ _ hx => ⟨_, rfl, hx, fun _ => ?_, fun h => absurd (decide_eq_true n2) h⟩
  refine Cl.same (c_groupBegun H5) fun _ _ hx => ⟨_, rfl, hx, fun _ => ?_, fun h => absurd rfl h⟩
  exact Cl.same (c_groupCheck g4) fun _ _ hx => ⟨_, rfl, hx, Rt.gv' (by rw [gErr_ok.2 a9]; rfl)⟩
end
end Go.Proofs.Ytgmgbfpoeclgiaa
