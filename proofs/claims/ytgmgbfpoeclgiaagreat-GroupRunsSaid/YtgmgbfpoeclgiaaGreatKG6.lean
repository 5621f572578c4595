/- The laws GroupTells and GroupRuns. No conditions. -/
import Derived.Test.YtgmgbfpoeclgiaaGreatKG2
import Derived.Test.YtgmgbfpoeclgiaaGreatKG5
set_option linter.unusedVariables false
set_option linter.unusedSimpArgs false
namespace Go.Proofs.YtgmgbfpoeclgiaaGreat
open Go.RowKit
set_option maxRecDepth 100000
section
variable {H : Hp} {g : Grp} {γ : GP}
theorem c_groupTells (hg : GTab H g γ) {e : Ent} (he : e.in64) : Gv Tryz.prog 3 #[gVal g γ, e.val] H (vb true) := fun W hH => by
  refine x_groupTells _ _ _ _ _ _ γ.p γ.n γ.c γ.q γ.m γ.d _ _ _ _ _ _ γ.p0 γ.n0 γ.c0 _ _ _ _ _ _ γ.p1 γ.n1 γ.c1 _ _ _ _ _ _ γ.p2 γ.n2 γ.c2 _ _ _ _ _ _ _ _ _ noM H W _ hH fun b0 b1 => ?_
  refine Cl.fresh (c_groupPut hg he) ?_
  rintro v W1 W2 D ⟨γ1, rfl, g1⟩ hx hD hf nn
  refine ⟨_, _, _, _, _, _, γ1.p, γ1.n, γ1.c, γ1.q, γ1.m, γ1.d, _, _, _, _, _, _, γ1.p0, γ1.n0, γ1.c0, _, _, _, _, _, _, γ1.p1, γ1.n1, γ1.c1, _, _, _, _, _, _, γ1.p2, γ1.n2, γ1.c2, _, _, rfl, hx, D, hD, hf, fun H1 h1 hd1 b2 => ?_⟩
  refine Cl.fresh (c_rGroupPut (hg.mono h1) he) ?_
  rintro v W1 W2 D2 ⟨γ2, rfl, g2⟩ hx hD2 hf2 nn2
  refine ⟨_, _, _, _, _, _, γ2.p, γ2.n, γ2.c, γ2.q, γ2.m, γ2.d, _, _, _, _, _, _, γ2.p0, γ2.n0, γ2.c0, _, _, _, _, _, _, γ2.p1, γ2.n1, γ2.c1, _, _, _, _, _, _, γ2.p2, γ2.n2, γ2.c2, _, _, rfl, hx, D2, hD2, hf2, fun H2 h2 hd2 b3 => ?_⟩
  refine Cl.same (c_groupBegun H2) fun _ _ hx => ⟨_, rfl, hx, fun _ => ?_, fun h => absurd rfl h⟩
  refine Cl.same (c_groupCheck ((hg.mono h1).mono h2)) fun _ _ hx => ⟨_, rfl, hx, ?_⟩
  refine Cl.same (c_groupError ((hg.mono h1).mono h2)) fun _ _ hx => ⟨_, rfl, hx, fun _ => ?_, fun h => absurd rfl h⟩
  exact Cl.same (c_sameGroups ((g1.mono hd1).mono h2) (g2.mono hd2)) fun _ _ hx => ⟨_, rfl, hx, fun _ => ⟨fun _ => Rt.gv' (by simp), fun h => absurd rfl h⟩, fun h => absurd rfl h⟩
theorem c_groupRuns (hg : GTab H g γ) (k x : Int) : Gv Tryz.prog 4 #[gVal g γ, vi k, vi x] H (vb true) := fun W hH => by
  refine x_groupRuns _ _ _ _ _ _ γ.p γ.n γ.c γ.q γ.m γ.d _ _ _ _ _ _ γ.p0 γ.n0 γ.c0 _ _ _ _ _ _ γ.p1 γ.n1 γ.c1 _ _ _ _ _ _ γ.p2 γ.n2 γ.c2 k x noM H W _ hH fun b0 => ?_
  refine Cl.fresh (c_groupRun hg k x) ?_
  rintro v W1 W2 D ⟨γ1, rfl, g1⟩ hx hD hf nn
  refine ⟨_, _, _, _, _, _, γ1.p, γ1.n, γ1.c, γ1.q, γ1.m, γ1.d, _, _, _, _, _, _, γ1.p0, γ1.n0, γ1.c0, _, _, _, _, _, _, γ1.p1, γ1.n1, γ1.c1, _, _, _, _, _, _, γ1.p2, γ1.n2, γ1.c2, _, _, rfl, hx, D, hD, hf, fun H1 h1 hd1 b1 => ?_⟩
  refine Cl.fresh (c_groupCut (hg.mono h1) x) ?_
  rintro v W1 W2 D2 ⟨γ2, rfl, g2⟩ hx hD2 hf2 nn2
  refine ⟨_, _, _, _, _, _, γ2.p, γ2.n, γ2.c, γ2.q, γ2.m, γ2.d, _, _, _, _, _, _, γ2.p0, γ2.n0, γ2.c0, _, _, _, _, _, _, γ2.p1, γ2.n1, γ2.c1, _, _, _, _, _, _, γ2.p2, γ2.n2, γ2.c2, _, rfl, hx, D2, hD2, hf2, fun H2 h2 hd2 b2 => ?_⟩
  refine Cl.fresh (c_rGroupRun ((hg.mono h1).mono h2) k x) ?_
  rintro v W1 W2 D3 ⟨γ3, rfl, g3⟩ hx hD3 hf3 nn3
  refine ⟨_, _, _, _, _, _, γ3.p, γ3.n, γ3.c, γ3.q, γ3.m, γ3.d, _, _, _, _, _, _, γ3.p0, γ3.n0, γ3.c0, _, _, _, _, _, _, γ3.p1, γ3.n1, γ3.c1, _, _, _, _, _, _, γ3.p2, γ3.n2, γ3.c2, _, _, rfl, hx, D3, hD3, hf3, fun H3 h3 hd3 b3 => ?_⟩
  refine Cl.fresh (c_rGroupCut (((hg.mono h1).mono h2).mono h3) x) ?_
  rintro v W1 W2 D4 ⟨γ4, rfl, g4⟩ hx hD4 hf4 nn4
  refine ⟨_, _, _, _, _, _, γ4.p, γ4.n, γ4.c, γ4.q, γ4.m, γ4.d, _, _, _, _, _, _, γ4.p0, γ4.n0, γ4.c0, _, _, _, _, _, _, γ4.p1, γ4.n1, γ4.c1, _, _, _, _, _, _, γ4.p2, γ4.n2, γ4.c2, _, rfl, hx, D4, hD4, hf4, fun H4 h4 hd4 b4 => ?_⟩
  refine Cl.same (c_groupBegun H4) fun _ _ hx => ⟨_, rfl, hx, fun _ => ?_, fun h => absurd rfl h⟩
  refine Cl.same (c_sameGroups ((((g1.mono hd1).mono h2).mono h3).mono h4) ((g3.mono hd3).mono h4)) fun _ _ hx => ⟨_, rfl, hx, fun _ => ⟨fun _ => ⟨fun _ => ?_, fun h => absurd rfl h⟩, fun h => absurd rfl h⟩, fun h => absurd rfl h⟩
  exact Cl.same (c_sameGroups (((g2.mono hd2).mono h3).mono h4) (g4.mono hd4)) fun _ _ hx => ⟨_, rfl, hx, fun _ => Rt.gv' (by simp), fun h => absurd rfl h⟩
end
end Go.Proofs.YtgmgbfpoeclgiaaGreat
