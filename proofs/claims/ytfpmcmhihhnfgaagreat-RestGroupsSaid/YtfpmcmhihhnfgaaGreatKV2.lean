/- The law RestGroups. No conditions. -/
import Derived.Test.YtfpmcmhihhnfgaaGreatKV1
import Derived.Test.YtfpmcmhihhnfgaaGreatKG2
set_option linter.unusedVariables false
set_option linter.unusedSimpArgs false
namespace Go.Proofs.YtfpmcmhihhnfgaaGreat
open Go.RowKit
set_option maxRecDepth 100000
def minus (W : World) (A B : Hp) : Hp := fun b => if W.heap.size ≤ b ∧ (A b).isNone = true then B b else none
theorem minus_le (W : World) (A B : Hp) : (minus W A B).le B := fun b o h => by
  unfold minus at h
  split at h
  · exact h
  · cases h
theorem minus_new {W : World} {A B : Hp} {b : Nat} {o : Obj} (h : minus W A B b = some o) : W.heap.size ≤ b := by
  unfold minus at h
  split at h
  · rename_i h1; exact h1.1
  · cases h
theorem minus_none {W : World} {A B : Hp} {b : Nat} {o : Obj} (h : A b = some o) : minus W A B b = none := by
  unfold minus
  rw [if_neg (fun h1 => by rw [h] at h1; cases h1.2)]
theorem le_minus {W : World} {D A B : Hp} (h : D.le B) (hn : ∀ b o, D b = some o → W.heap.size ≤ b) (ha : ∀ b o, D b = some o → A b = none) : D.le (minus W A B) := fun b o hb => by
  unfold minus
  rw [if_pos ⟨hn b o hb, by rw [ha b o hb]; rfl⟩]
  exact h b o hb
theorem SpI.trans {H D K K' : Hp} (h : SpI H D K) (k : SpI K D K') : SpI H D K' := ⟨k.spl, fun b o ho => (k.dom b o ho).elim fun o' h' => h.dom b o' h', fun b o h0 hH => k.keep b o h0 (h.keep b o h0 hH)⟩
theorem Cl.gs {P : Program} {W0 : World} {H D A : Hp} {kn : World → Prop} {f : Nat} {args : Array Value} {Φ : Ending → World → World → Prop} (hi : SpI A D H) (hc : Gs P f args H D) (hn : ∀ b o, D b = some o → W0.heap.size ≤ b)
    (hk : ∀ W W', (∀ K : Hp → Prop, (∀ H', SpI A D H' → K H') → Tn W0 noM H W W' K) → Φ (.returned (.tuple #[])) W W') : Cl P W0 noM H kn f args Φ := fun W n _ => by
  refine (hc W n.sub).mono fun z W' ⟨hz, H', hm, hs, hd, hS, hkp⟩ => ?_
  subst hz
  refine hk W W' fun K hK => ⟨H', ⟨⟨hm.os, hm.tape, hm.output, hm.size, fun b hb hnb => hm.blk b hb fun ⟨⟨o, h1⟩, h2⟩ => hnb ⟨h2, .inl (hn b o h1)⟩⟩, hs, fun b o hb => .inl (hd b o hb)⟩, hK H' (hi.trans ⟨hS, hd, hkp⟩)⟩
/-- an entry is spoilt -/
theorem ek_spoilE {W0 W : World} {A D K : Hp} {q : Option Loc} {m d i : Nat} {l : List Ent} (hE : Ents D q m d l) (hi : i < m) (hI : SpI A D K) (n : Now W0 noM K W) (hn : ∀ b o, D b = some o → W0.heap.size ≤ b) :
    q.isSome = true ∧ ∃ W', (EK.sem (.storeO 35) [.pointer (ptrAt q (0 + (i : Int) * 9)), .agg #[vi (-1), vi 0, vi 0, vi 0, vi 0, vi 0, vi 0, vi 0, vi 0]]).run Tryz.prog W = .ok .skip W' ∧ Tn W0 noM K W W' fun H' => SpI A D H' := by
  obtain ⟨r, hr, _, hat⟩ := hE.2.2.1.at (k := i) (by omega) (off := 0 + (i : Int) * 9) (by omega)
  rw [List.getElem?_map, Option.map_eq_some_iff] at hr
  obtain ⟨e, _, rfl⟩ := hr
  obtain ⟨ti, z, i1, i2, i3, _⟩ := info_of (show infoIs Tryz.prog 35 9 72 = true by kernel_rfl)
  obtain ⟨W2, K3, b, e1, e2, e3, e4, e5, hd⟩ := ek_spoil (vs := [vi (-1), vi 0, vi 0, vi 0, vi 0, vi 0, vi 0, vi 0, vi 0]) (v := .agg #[vi (-1), vi 0, vi 0, vi 0, vi 0, vi 0, vi 0, vi 0, vi 0]) i1 n.sub hI.spl hat rfl (by simp) rfl (by rw [i3]; rfl) (fun u hu => by
    simp only [List.mem_cons, List.not_mem_nil, or_false] at hu
    rcases hu with rfl | rfl | rfl | rfl | rfl | rfl | rfl | rfl | rfl <;> rfl) (fun k x u hx hu => by
    have hk : k < 9 := (List.getElem?_eq_some_iff.1 hu).1
    have hv : ∃ y, x = vi y := by
      have := List.mem_of_getElem? hx
      simp only [Ent.row, List.mem_cons, List.not_mem_nil, or_false] at this
      rcases this with rfl | rfl | rfl | rfl | rfl | rfl | rfl | rfl | rfl <;> exact ⟨_, rfl⟩
    have hw : ∃ y, u = vi y := by
      have := List.mem_of_getElem? hu
      simp only [List.mem_cons, List.not_mem_nil, or_false] at this
      rcases this with rfl | rfl | rfl | rfl | rfl | rfl | rfl | rfl | rfl <;> exact ⟨_, rfl⟩
    obtain ⟨a, rfl⟩ := hv
    obtain ⟨c, rfl⟩ := hw
    exact .inr (.inl ⟨_, _, _, rfl, rfl⟩))
  refine ⟨hat.isSome, W2, e1, K3, e3.turned (fun b' hb' => by
    simp only [Option.some.injEq] at hb'
    subst hb'
    obtain ⟨o, h1⟩ := e2
    exact ⟨e4, .inl (hn _ o h1)⟩), hI.next n.sub e3 e2 hd e5⟩
theorem isS {D : Hp} {q : Option Loc} {m d : Nat} {l : List Ent} (h : Ents D q m d l) (hm : 0 < m) : q.isSome = true := by
  obtain ⟨r, _, _, hat⟩ := h.2.2.1.at (k := 0) hm (off := 0) (by simp)
  exact hat.isSome
section
variable {H : Hp} {g : Grp} {γ : GP}
set_option maxHeartbeats 2000000 in
theorem c_restGroups (hg : GTab H g γ) {e : Ent} (he : e.in64) (x : Int) (hx64 : -9223372036854775808 ≤ x ∧ x ≤ 9223372036854775807) : Gv Tryz.prog 3 #[gVal g γ, e.val, vi x] H (vb true) := fun W hH => by
  have hm := hg.tail.len
  refine x_restGroups _ _ _ _ _ _ γ.p γ.n γ.c γ.q γ.m γ.d _ _ _ _ _ _ γ.p0 γ.n0 γ.c0 _ _ _ _ _ _ γ.p1 γ.n1 γ.c1 _ _ _ _ _ _ γ.p2 γ.n2 γ.c2 _ _ _ _ _ _ _ _ _ x noM H W _ hH fun b0 b1 => ?_
  refine Cl.same (c_groupError hg) fun _ _ hx => ⟨_, rfl, hx, fun e0 => ?_, fun _ => Cl.same (c_groupBegun H) fun _ _ hx => ⟨_, rfl, hx, Rt.gv⟩⟩
  have ok := gErr_ok.1 e0
  have hlow := ok.log.low
  refine Cl.fresh (c_ownGroup ok hg) ?_
  rintro v W1 W2 D0 ⟨γ0, rfl, g0⟩ hx0 hD0 hf0 nn0
  refine ⟨_, _, _, _, _, _, γ0.p, γ0.n, γ0.c, γ0.q, γ0.m, γ0.d, _, _, _, _, _, _, γ0.p0, γ0.n0, γ0.c0, _, _, _, _, _, _, γ0.p1, γ0.n1, γ0.c1, _, _, _, _, _, _, γ0.p2, γ0.n2, γ0.c2, rfl, hx0, D0, hD0, hf0, fun H1 h1 hd0 b2 => ?_⟩
  obtain ⟨u1, u2⟩ := choose_in x 51 (by omega)
  refine Cl.same (c_choose x 51 (by omega) hx64 H1) fun _ _ hx => ⟨_, rfl, hx, ?_⟩
  generalize chooseI x 51 = k at u1 u2 ⊢
  refine Cl.fresh (c_groupPut (hg.mono h1) he) ?_
  rintro v Wa Wb D1 ⟨γ1, rfl, g1⟩ hx1 hD1 hf1 nn1
  refine ⟨_, _, _, _, _, _, γ1.p, γ1.n, γ1.c, γ1.q, γ1.m, γ1.d, _, _, _, _, _, _, γ1.p0, γ1.n0, γ1.c0, _, _, _, _, _, _, γ1.p1, γ1.n1, γ1.c1, _, _, _, _, _, _, γ1.p2, γ1.n2, γ1.c2, _, _, rfl, hx1, D1, hD1, hf1, fun H2 h2 hd1 b3 => ?_⟩
  refine Cl.fresh (c_groupRun ((hg.mono h1).mono h2) 1 k) ?_
  rintro v Wc Wd D2 ⟨γ2, rfl, g2⟩ hx2 hD2 hf2 nn2
  refine ⟨_, _, _, _, _, _, γ2.p, γ2.n, γ2.c, γ2.q, γ2.m, γ2.d, _, _, _, _, _, _, γ2.p0, γ2.n0, γ2.c0, _, _, _, _, _, _, γ2.p1, γ2.n1, γ2.c1, _, _, _, _, _, _, γ2.p2, γ2.n2, γ2.c2, _, _, rfl, hx2, D2, hD2, hf2, fun H3 h3 hd2 b4 => ⟨by omega, fun _ => ⟨in64 (by omega), fun _ => ?_⟩⟩⟩
  obtain ⟨u5, u6⟩ := choose_in x ((γ.m : Int) + 1) (by omega)
  refine Cl.same (c_choose x ((γ.m : Int) + 1) (by omega) hx64 H3) fun _ _ hx => ⟨_, rfl, hx, ?_⟩
  obtain ⟨j, hj⟩ : ∃ j : Nat, chooseI x ((γ.m : Int) + 1) = j := ⟨(chooseI x ((γ.m : Int) + 1)).toNat, by omega⟩
  rw [hj] at u5 u6 ⊢
  obtain ⟨q1, q2⟩ := gCut_fold ok (k := j) (by omega)
  have ec : (gCut g j).2 = 0 := by rw [q1]
  refine Cl.fresh (c_groupCut (((hg.mono h1).mono h2).mono h3) (j : Int)) ?_
  rintro v We Wf D3 ⟨γ3, rfl, g3⟩ hx3 hD3 hf3 nn3
  refine ⟨_, _, _, _, _, _, γ3.p, γ3.n, γ3.c, γ3.q, γ3.m, γ3.d, _, _, _, _, _, _, γ3.p0, γ3.n0, γ3.c0, _, _, _, _, _, _, γ3.p1, γ3.n1, γ3.c1, _, _, _, _, _, _, γ3.p2, γ3.n2, γ3.c2, _, rfl, hx3, D3, hD3, hf3, fun H4 h4 hd3 b5 => ?_⟩
  have hend := lEnd_ok (logErr_ok.2 ok.log)
  refine Cl.fresh (c_packEnd ((((hg.mono h1).mono h2).mono h3).mono h4).base ((((hg.mono h1).mono h2).mono h3).mono h4).tail) ?_
  rintro v Wg Wh D4 ⟨p4, n4, c4, rfl, hT4⟩ hx4 hD4 hf4 nn4
  have ee : (lEnd g.base g.tail).2 = 0 := by rw [hend]
  refine ⟨_, _, _, _, _, _, p4, n4, c4, _, rfl, hx4, D4, hD4, hf4, fun H5 h5 hd4 b6 b7 => ?_⟩
  have l1 : D1.le (minus W H1 H5) := le_minus (Hp.le_trans hd1 (Hp.le_trans h3 (Hp.le_trans h4 h5))) (fun b o h => Nat.le_trans nn1.mod.size (hf1 b o h)) (fun b o h => old_none nn1.sub (hf1 b o h))
  have l2 : D2.le (minus W H1 H5) := le_minus (Hp.le_trans hd2 (Hp.le_trans h4 h5)) (fun b o h => Nat.le_trans nn2.mod.size (hf2 b o h)) (fun b o h => le_none h2 (old_none nn2.sub (hf2 b o h)))
  have l3 : D3.le (minus W H1 H5) := le_minus (Hp.le_trans hd3 h5) (fun b o h => Nat.le_trans nn3.mod.size (hf3 b o h)) (fun b o h => le_none h2 (le_none h3 (old_none nn3.sub (hf3 b o h))))
  have l4 : D4.le (minus W H1 H5) := le_minus hd4 (fun b o h => Nat.le_trans nn4.mod.size (hf4 b o h)) (fun b o h => le_none h2 (le_none h3 (le_none h4 (old_none nn4.sub (hf4 b o h)))))
  have g15 : H1.le H5 := Hp.le_trans h2 (Hp.le_trans h3 (Hp.le_trans h4 h5))
  have hkeep : ∀ {K : Hp}, SpI H5 (minus W H1 H5) K → H1.le K := fun {K} hI b o hb => hI.keep b o (minus_none hb) (g15 b o hb)
  have hnew : ∀ b o, minus W H1 H5 b = some o → W.heap.size ≤ b := fun b o h => minus_new h
  have hI0 : SpI H5 (minus W H1 H5) H5 := ⟨Spl.of_le (minus_le W H1 H5), fun b o h => ⟨o, h⟩, fun b o _ h => h⟩
  replace g1 := g1.mono l1
  replace g2 := g2.mono l2
  replace g3 := g3.mono l3
  replace hT4 := hT4.mono l4
  generalize minus W H1 H5 = D at *
  clear l1 l2 l3 l4
  have t1 := g1.tail.lt63
  refine ⟨fun v K => match v with | [.n i] => i ≤ γ1.m ∧ SpI H5 D K | _ => False, fun v => match v with | [.n i] => γ1.m - i | _ => 0, ⟨by omega, hI0⟩, fun Ka1 i1 hJ1 => ?_⟩
  obtain ⟨hi1, hJ1⟩ := hJ1
  refine ⟨by omega, fun _ => ⟨fun hlt => ?_, fun _ => ?_⟩⟩
  · refine ⟨⟨by omega, hlt⟩, fun _ => ⟨isS g1.tail (by omega), fun _ W3 n3 _ => ?_⟩⟩
    obtain ⟨_, W4, e1, H', t1, t2⟩ := ek_spoilE g1.tail (i := i1) (by omega) hJ1 n3 hnew
    refine ⟨W4, e1, H', t1, in64 (by omega), fun _ => ⟨by omega, fun _ => ?_⟩⟩
    rw [show ((i1 : Int) + 1).toNat = i1 + 1 by omega]
    exact ⟨⟨by omega, t2⟩, by simp only; omega⟩
  refine Cl.gs hJ1 (c_spoil (s := (gPut g e).1.base) g1.base hJ1.spl) hnew fun _ _ hK => ⟨rfl, hK _ fun H1a hJ1a => ?_⟩
  refine Cl.gs hJ1a (c_spoil (s := (gPut g e).1.n0) g1.n0 hJ1a.spl) hnew fun _ _ hK => ⟨rfl, hK _ fun H1b hJ1b => ?_⟩
  refine Cl.gs hJ1b (c_spoil (s := (gPut g e).1.n1) g1.n1 hJ1b.spl) hnew fun _ _ hK => ⟨rfl, hK _ fun H1c hJ1c => ?_⟩
  refine Cl.gs hJ1c (c_spoil (s := (gPut g e).1.n2) g1.n2 hJ1c.spl) hnew fun _ _ hK => ⟨rfl, hK _ fun H1d hJ1d => ?_⟩
  have t2 := g2.tail.lt63
  refine ⟨fun v K => match v with | [.n i] => i ≤ γ2.m ∧ SpI H5 D K | _ => False, fun v => match v with | [.n i] => γ2.m - i | _ => 0, ⟨by omega, hJ1d⟩, fun Ka2 i2 hJ2 => ?_⟩
  obtain ⟨hi2, hJ2⟩ := hJ2
  refine ⟨by omega, fun _ => ⟨fun hlt => ?_, fun _ => ?_⟩⟩
  · refine ⟨⟨by omega, hlt⟩, fun _ => ⟨isS g2.tail (by omega), fun _ W3 n3 _ => ?_⟩⟩
    obtain ⟨_, W4, e1, H', t1, t2⟩ := ek_spoilE g2.tail (i := i2) (by omega) hJ2 n3 hnew
    refine ⟨W4, e1, H', t1, in64 (by omega), fun _ => ⟨by omega, fun _ => ?_⟩⟩
    rw [show ((i2 : Int) + 1).toNat = i2 + 1 by omega]
    exact ⟨⟨by omega, t2⟩, by simp only; omega⟩
  refine Cl.gs hJ2 (c_spoil (s := (gRun g 1 k).1.base) g2.base hJ2.spl) hnew fun _ _ hK => ⟨rfl, hK _ fun H2a hJ2a => ?_⟩
  refine Cl.gs hJ2a (c_spoil (s := (gRun g 1 k).1.n0) g2.n0 hJ2a.spl) hnew fun _ _ hK => ⟨rfl, hK _ fun H2b hJ2b => ?_⟩
  refine Cl.gs hJ2b (c_spoil (s := (gRun g 1 k).1.n1) g2.n1 hJ2b.spl) hnew fun _ _ hK => ⟨rfl, hK _ fun H2c hJ2c => ?_⟩
  refine Cl.gs hJ2c (c_spoil (s := (gRun g 1 k).1.n2) g2.n2 hJ2c.spl) hnew fun _ _ hK => ⟨rfl, hK _ fun H2d hJ2d => ?_⟩
  have t3 := g3.tail.lt63
  refine ⟨fun v K => match v with | [.n i] => i ≤ γ3.m ∧ SpI H5 D K | _ => False, fun v => match v with | [.n i] => γ3.m - i | _ => 0, ⟨by omega, hJ2d⟩, fun Ka3 i3 hJ3 => ?_⟩
  obtain ⟨hi3, hJ3⟩ := hJ3
  refine ⟨by omega, fun _ => ⟨fun hlt => ?_, fun _ => ?_⟩⟩
  · refine ⟨⟨by omega, hlt⟩, fun _ => ⟨isS g3.tail (by omega), fun _ W3 n3 _ => ?_⟩⟩
    obtain ⟨_, W4, e1, H', t1, t2⟩ := ek_spoilE g3.tail (i := i3) (by omega) hJ3 n3 hnew
    refine ⟨W4, e1, H', t1, in64 (by omega), fun _ => ⟨by omega, fun _ => ?_⟩⟩
    rw [show ((i3 : Int) + 1).toNat = i3 + 1 by omega]
    exact ⟨⟨by omega, t2⟩, by simp only; omega⟩
  refine Cl.gs hJ3 (c_spoil (s := (gCut g j).1.base) g3.base hJ3.spl) hnew fun _ _ hK => ⟨rfl, hK _ fun H3a hJ3a => ?_⟩
  refine Cl.gs hJ3a (c_spoil (s := (gCut g j).1.n0) g3.n0 hJ3a.spl) hnew fun _ _ hK => ⟨rfl, hK _ fun H3b hJ3b => ?_⟩
  refine Cl.gs hJ3b (c_spoil (s := (gCut g j).1.n1) g3.n1 hJ3b.spl) hnew fun _ _ hK => ⟨rfl, hK _ fun H3c hJ3c => ?_⟩
  refine Cl.gs hJ3c (c_spoil (s := (gCut g j).1.n2) g3.n2 hJ3c.spl) hnew fun _ _ hK => ⟨rfl, hK _ fun H3d hJ3d => ?_⟩
  refine Cl.gs hJ3d (c_spoil (s := (lEnd g.base g.tail).1) hT4 hJ3d.spl) hnew fun _ _ hK => ⟨rfl, hK _ fun H6 hJ => ?_⟩
  have k1 := hkeep hJ
  replace hg := (hg.mono h1).mono k1
  replace g0 := (g0.mono hd0).mono k1
  refine Cl.fresh (c_groupPut hg he) ?_
  rintro v Wa Wb D5 ⟨γ5, rfl, g5⟩ hx5 hD5 hf5 nn5
  refine ⟨_, _, _, _, _, _, γ5.p, γ5.n, γ5.c, γ5.q, γ5.m, γ5.d, _, _, _, _, _, _, γ5.p0, γ5.n0, γ5.c0, _, _, _, _, _, _, γ5.p1, γ5.n1, γ5.c1, _, _, _, _, _, _, γ5.p2, γ5.n2, γ5.c2, _, _, rfl, hx5, D5, hD5, hf5, fun H7 h7 hd5 b8 => ?_⟩
  refine Cl.fresh (c_groupRun (hg.mono h7) 1 k) ?_
  rintro v Wa Wb D6 ⟨γ6, rfl, g6⟩ hx6 hD6 hf6 nn6
  refine ⟨_, _, _, _, _, _, γ6.p, γ6.n, γ6.c, γ6.q, γ6.m, γ6.d, _, _, _, _, _, _, γ6.p0, γ6.n0, γ6.c0, _, _, _, _, _, _, γ6.p1, γ6.n1, γ6.c1, _, _, _, _, _, _, γ6.p2, γ6.n2, γ6.c2, _, _, rfl, hx6, D6, hD6, hf6, fun H8 h8 hd6 b9 => ?_⟩
  refine Cl.fresh (c_rGroupPut ((hg.mono h7).mono h8) he) ?_
  rintro v Wa Wb D7 ⟨γ7, rfl, g7⟩ hx7 hD7 hf7 nn7
  refine ⟨_, _, _, _, _, _, γ7.p, γ7.n, γ7.c, γ7.q, γ7.m, γ7.d, _, _, _, _, _, _, γ7.p0, γ7.n0, γ7.c0, _, _, _, _, _, _, γ7.p1, γ7.n1, γ7.c1, _, _, _, _, _, _, γ7.p2, γ7.n2, γ7.c2, _, _, rfl, hx7, D7, hD7, hf7, fun H9 h9 hd7 b10 => ?_⟩
  refine Cl.fresh (c_rGroupRun (((hg.mono h7).mono h8).mono h9) 1 k) ?_
  rintro v Wa Wb D8 ⟨γ8, rfl, g8⟩ hx8 hD8 hf8 nn8
  refine ⟨_, _, _, _, _, _, γ8.p, γ8.n, γ8.c, γ8.q, γ8.m, γ8.d, _, _, _, _, _, _, γ8.p0, γ8.n0, γ8.c0, _, _, _, _, _, _, γ8.p1, γ8.n1, γ8.c1, _, _, _, _, _, _, γ8.p2, γ8.n2, γ8.c2, _, _, rfl, hx8, D8, hD8, hf8, fun H10 h10 hd8 b11 => ?_⟩
  refine Cl.same (c_groupBegun H10) fun _ _ hx => ⟨_, rfl, hx, fun _ => ⟨fun _ => ⟨fun _ => ⟨fun _ => ⟨fun _ => ⟨fun _ => ⟨fun _ => ?_, fun h => absurd ee h⟩, fun h => absurd ec h⟩, fun h => absurd rfl h⟩, fun h => absurd rfl h⟩, fun h => absurd rfl h⟩, fun h => absurd rfl h⟩, fun h => absurd rfl h⟩
  refine Cl.same (c_sameGroups ((((hg.mono h7).mono h8).mono h9).mono h10) ((((g0.mono h7).mono h8).mono h9).mono h10)) fun _ _ hx => ⟨_, rfl, hx, fun _ => ?_, fun h => absurd rfl h⟩
  refine Cl.same (c_sameGroups ((((g5.mono hd5).mono h8).mono h9).mono h10) ((g7.mono hd7).mono h10)) fun _ _ hx => ⟨_, rfl, hx, fun _ => ?_, fun h => absurd rfl h⟩
  exact Cl.same (c_sameGroups (((g6.mono hd6).mono h9).mono h10) (g8.mono hd8)) fun _ _ hx => ⟨_, rfl, hx, Rt.gv⟩
end
end Go.Proofs.YtfpmcmhihhnfgaaGreat
