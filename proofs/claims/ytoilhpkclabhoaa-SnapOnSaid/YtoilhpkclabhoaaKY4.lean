/- Contracts: the law of folding on from a snapshot. No conditions. -/
import Derived.Test.YtoilhpkclabhoaaKY3
import Derived.Test.YtoilhpkclabhoaaKF5
set_option linter.unusedVariables false
set_option linter.unusedSimpArgs false
namespace Go.Proofs.Ytoilhpkclabhoaa
open Go.RowKit

theorem zero_ok : StOk Sta.zero := Sta.err_ok.1 (by decide +kernel)
theorem c_snapOn {H : Hp} {q : Option Loc} {m d : Nat} {l : List Ent} (hE : Ents H q m d l) (x : Int) (hx64 : -9223372036854775808 ≤ x ∧ x ≤ 9223372036854775807) :
    Gv Try.prog 9 #[vsl q m d, vi x] H (vb true) := fun W hH => by
  have hm := hE.len
  have hcap := hE.1
  refine x_snapOn q m d x noM H W _ hH ?_
  refine Cl.same (c_begin H) fun _ _ hx => ⟨_, _, _, _, _, _, none, 0, 0, rfl, hx, noH, noH_le _, fun b o h => (by cases h), fun H1 h1 _ => ?_⟩
  refine Cl.fresh (c_foldAll (s := Sta.zero) (Tab.nil _ _) (hE.mono h1)) ?_
  rintro v W1 W2 D ⟨p1, n1, c1, pa, na, ca, ga, rfl, hT1, ho1⟩ hx1 hD hf nn
  refine ⟨_, _, _, _, _, _, p1, n1, c1, pa, na, ca, _, rfl, hx1, D, hD, hf, fun H2 h2 hd2 b0 => ⟨fun h0 => ?_, fun h0 => ?_⟩⟩
  · have hE2 := (hE.mono h1).mono h2
    obtain ⟨hs, hl, hp, _⟩ := sAll_done h0
    have hp0 : (Sta.zero).pos = 0 := rfl
    refine ⟨by omega, fun _ => ⟨in64 (by omega), fun _ => ?_⟩⟩
    obtain ⟨k1, k2⟩ := choose_in x ((m : Int) + 1) (by omega)
    refine Cl.same (c_choose x ((m : Int) + 1) (by omega) hx64 H2) fun _ _ hx => ⟨_, rfl, hx, ?_⟩
    obtain ⟨k, hk⟩ : ∃ k : Nat, chooseI x ((m : Int) + 1) = k := ⟨(chooseI x ((m : Int) + 1)).toNat, by omega⟩
    rw [hk] at k1 k2 ⊢
    obtain ⟨a1, a2, a3, a4⟩ := fold_split h0 (k := k) (by omega)
    have hl1 : ∀ e ∈ l.take k, EntOk e := fun e he => hl e (List.mem_of_mem_take he)
    have okk : StOk (foldS Sta.zero (l.take k)) := (foldS_ok zero_ok hl1 (by simp only [List.length_take]; omega)).1
    refine ⟨by omega, fun _ => ⟨by omega, fun _ => ?_⟩⟩
    rw [show ((k : Int)).toNat = k by omega]
    refine Cl.same (c_begin H2) fun _ _ hx => ⟨_, _, _, _, _, _, none, 0, 0, rfl, hx, noH, noH_le _, fun b o h => (by cases h), fun H3 h3 _ => ?_⟩
    refine Cl.fresh (c_foldAll (s := Sta.zero) (Tab.nil _ _) ((hE2.mono h3).take k (by omega))) ?_
    rw [a1]
    rintro v W1 W2 D2 ⟨p2, n2, c2, pb, nb, cb, gb, rfl, hT2, ho2⟩ hx2 hD2 hf2 nn2
    refine ⟨_, _, _, _, _, _, p2, n2, c2, pb, nb, cb, _, rfl, hx2, D2, hD2, hf2, fun H4 h4 hd4 b1 => ?_⟩
    refine Cl.same (c_snapWrite (hT2.mono hd4)) fun _ _ hx => ⟨_, _, rfl, hx, ?_⟩
    rw [sWrite_ok okk]
    refine Cl.fresh (c_snapRead (l := encT (foldS Sta.zero (l.take k)))) ?_
    rw [sRead_enc okk]
    rintro v W1 W2 D3 ⟨p3, n3, c3, rfl, hT3⟩ hx3 hD3 hf3 nn3
    refine ⟨_, _, _, _, _, _, p3, n3, c3, _, rfl, hx3, D3, hD3, hf3, fun H5 h5 hd5 b2 => ⟨by omega, fun _ => ⟨by omega, fun _ => ?_⟩⟩⟩
    obtain ⟨q', e1, hE'⟩ := (((hE2.mono h3).mono h4).mono h5).drop k (by omega)
    rw [e1]
    refine Cl.fresh (c_foldAll (hT3.mono hd5) hE') ?_
    rw [a2]
    rintro v W1 W2 D4 ⟨p4, n4, c4, pc, nc, cc, gc, rfl, hT4, ho4⟩ hx4 hD4 hf4 nn4
    refine ⟨_, _, _, _, _, _, p4, n4, c4, pc, nc, cc, _, rfl, hx4, D4, hD4, hf4, fun H6 h6 hd6 b3 => ?_⟩
    refine Cl.same (c_snapBegun H6) fun _ _ hx => ⟨_, rfl, hx, fun _ => ⟨fun _ => ⟨fun _ => ⟨fun _ => ⟨fun _ => ?_, fun h => absurd rfl h⟩, fun h => absurd rfl h⟩, fun h => absurd rfl h⟩, fun h => absurd rfl h⟩, fun h => absurd rfl h⟩
    have g1 : D.le H6 := Hp.le_trans hd2 (Hp.le_trans h3 (Hp.le_trans h4 (Hp.le_trans h5 h6)))
    refine Cl.same (c_sameOf (hT1.mono g1) (hT4.mono hd6)) fun _ _ hx => ⟨_, rfl, hx, fun _ b4 => ?_, fun h => absurd (decide_eq_true rfl) h⟩
    have i2 := ((Ints.of_ow ho2).mono hd4).mono (Hp.le_trans h5 h6)
    have i3 := (Ints.of_ow ho4).mono hd6
    have l2 := foldA_le i2 (k := 50) (by simp; omega)
    have l3 := foldA_le i3 (k := 50) (by simp; omega)
    intro W5 n5 k5
    obtain ⟨p5, c5, g5, W6, H7, r1, t1, o4, g4n, h7⟩ := ek_clone (P := Try.prog) Try.underlying43 infoInt (by omega) n5 (some (b4, 0)) i2.2.2 (ones_I _) (by omega) (by simp only [maxLen]; omega) 43 (c := cb)
    refine ⟨p5, nb, c5, W6, r1, H7, t1, ?_⟩
    intro W7 n7 _
    obtain ⟨ii, z, i10, i11, i12, i13, i14, _⟩ := info_of infoInt
    obtain ⟨p6, c6, g6, W8, H8, r2, u2, o5, g5n, _⟩ := run_append_rows (P := Try.prog) Try.underlying43 i10 i11 i12 i13 i14 (by omega) n7.sub o4 (i3.mono h7).2.2 (ones_I _) (by simp only [maxLen]; omega) (by omega) 43 (c2 := cc)
    have hg5 : ∀ b, g5 = some b → W.heap.size ≤ b ∧ H6 b = none := fun b hb => ⟨Nat.le_trans n5.mod.size (g4n b hb), old_none n5.sub (g4n b hb)⟩
    refine ⟨p6, nb + nc, c6, W8, r2, H8, u2.own o4 (fun b hb => .inl (hg5 b hb).1), ?_⟩
    have h8 : H6.le H8 := u2.keep n7.sub h7 (fun b hb => (hg5 b hb).2)
    rw [← List.map_append, ← a3] at o5
    exact Cl.same (c_sameInts (((Ints.of_ow ho1).mono g1).mono h8) (Ints.of_ow o5)) fun _ _ hx => ⟨_, rfl, hx, Rt.gv' (by rw [decide_eq_true rfl])⟩
  · exact Cl.same (c_snapBegun H2) fun _ _ hx => ⟨_, rfl, hx, Rt.gv⟩
end Go.Proofs.Ytoilhpkclabhoaa
