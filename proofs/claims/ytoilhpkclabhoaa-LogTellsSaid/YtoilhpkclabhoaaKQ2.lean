/- Contracts: entries out of bytes, one behind the other: the program's and the document's. No conditions. Contracts: what the document replays. No conditions. Contracts: the document's replay. No conditions. -/
import Derived.Test.YtoilhpkclabhoaaKQ1
import Derived.Test.YtoilhpkclabhoaaKF1
import Derived.Test.YtoilhpkclabhoaaKY2
import Derived.Laws.Strings2
set_option linter.unusedVariables false
set_option linter.unusedSimpArgs false
namespace Go.Proofs.Ytoilhpkclabhoaa
open Go.RowKit

theorem pE_len {l r : List UInt8} {x : Ent} (h : pE l = some (x, r)) : l.length = (encE x).length + r.length := by
  rw [(pE_enc h).2, List.length_append]
theorem pE_64 {l r : List UInt8} {x : Ent} (h : pE l = some (x, r)) : x.in64 := by
  have hk := Ent.err_ok.1 (pE_enc h).1
  unfold Ent.in64
  by_cases h2 : x.kind = 2
  · have := hk.call h2; omega
  · have := hk.bare h2; omega
theorem repE_more {n : Nat} {l r : List UInt8} {x : Ent} (h : pE l = some (x, r)) : repE (n + 1) l = (x :: (repE n r).1, (repE n r).2) := by simp only [repE, h]
theorem repE_stop {n : Nat} {l : List UInt8} (h : pE l = none) : repE n l = ([], l) := by
  cases n with
  | zero => rfl
  | succ n => simp only [repE, h]
def lRep (l : List UInt8) : List Ent × Int × Int := if 4096 < l.length then ([], 0, 2) else ((repE 50 l).1, (l.length : Int) - (repE 50 l).2.length, 0)
def RepPost (q : List Ent × Int × Int) (v : Value) (D : Hp) : Prop := ∃ p n c, v = .tuple #[vsl p n c, vi q.2.1, vi q.2.2] ∧ Ents D p n c q.1
theorem c_logReplay (l : List UInt8) (H : Hp) : Gf Try.prog 18 #[.string (bs l)] H (RepPost (lRep l)) := fun W hH => by
  refine x_logReplay (bs l) noM H W _ hH ⟨fun h => ?_, fun h => ?_⟩
  · rw [bs_size] at h
    rw [show lRep l = ([], 0, 2) from if_pos (by omega)]
    exact Rt.gf (D := noH) (noH_le _) (fun b o h => by cases h) ⟨none, 0, 0, rfl, Ents.nil _ _⟩
  rw [bs_size] at h
  have hl : lRep l = ((repE 50 l).1, (l.length : Int) - (repE 50 l).2.length, 0) := if_neg (by omega)
  rw [hl]
  refine ⟨fun v K => match v with | [.p p, .n n, .n c, .s s] => ∃ (acc : List Ent) (rest : List UInt8) (g : Option Nat), n ≤ 50 ∧ H.le K ∧ s = bs rest ∧ Ow K 33 9 p n c (acc.map Ent.row) g ∧ (∀ b, g = some b → W.heap.size ≤ b) ∧ (∀ e ∈ acc, e.in64) ∧ rest.length ≤ l.length ∧ repE 50 l = (acc ++ (repE (50 - n) rest).1, (repE (50 - n) rest).2) | _ => False,
    fun v => match v with | [_, .n n, _, _] => 50 - n | _ => 0, ⟨[], l, none, by omega, Hp.le_refl H, rfl, Ow.nil _ _ _ _, fun b h => (by cases h), fun e h => (by cases h), Nat.le_refl _, by simp⟩, fun K p n c s hI => ?_⟩
  obtain ⟨acc, rest, g, hn, hle, rfl, ho, hg, h64, hrl, hf⟩ := hI
  rw [map0] at ho
  refine ⟨by omega, fun _ => ⟨fun hlt => ?_, fun hge => ?_⟩⟩
  · obtain ⟨m, hm⟩ : ∃ m, 50 - n = m + 1 := ⟨50 - n - 1, by omega⟩
    rw [hm] at hf
    refine Cl.fresh (c_logRead rest K) ?_
    rintro v Wa Wb D ⟨e, r, ok, rfl, hp⟩ hx _ _ nn
    refine ⟨_, _, _, _, _, _, _, _, _, _, _, rfl, hx, fun b0 => ⟨fun hok => ?_, fun hok => ?_⟩⟩
    · rw [if_pos hok] at hp
      rw [repE_more hp] at hf
      have hpl := pE_len hp
      intro b1 W5 n5 k5
      obtain ⟨p', c', g', W6, K2, hrun, hu, ho2, hg2, _⟩ := run_append1 Try.underlying38 infoEnt9 (by omega) n5.sub ho (row := e.row) k5.1.eq k5.1.off rfl (fun v hv => by simp only [Ent.row, List.mem_cons, List.not_mem_nil, or_false] at hv; rcases hv with rfl | rfl | rfl | rfl | rfl | rfl | rfl | rfl | rfl <;> rfl) (by simp only [maxLen]; omega) (by omega) 38
      refine ⟨_, _, _, _, hrun, K2, hu.own ho (fun b hb => .inl (hg b hb)), by omega, fun _ => ⟨by omega, fun _ => ?_⟩⟩
      refine ⟨⟨acc ++ [e], r, g', by omega, hu.keep n5.sub hle (fun b hb => old_none hH (hg b hb)), rfl, ?_, fun b hb => ?_, fun x hx => ?_, by omega, ?_⟩, by simp only; omega⟩
      · rw [map0, List.map_append]; exact ho2
      · rcases hg2 with h | h
        · exact hg b (h ▸ hb)
        · rw [h] at hb; simp only [Option.some.injEq] at hb; have := n5.mod.size; omega
      · rcases List.mem_append.1 hx with hx | hx
        · exact h64 x hx
        · rw [List.mem_singleton.1 hx]; exact pE_64 hp
      · rw [show 50 - (n + 1) = m by omega, hf]
        simp
    · rw [if_neg hok] at hp
      rw [repE_stop hp, List.append_nil] at hf
      refine ⟨in64 (by rw [bs_size, bs_size]; omega), fun _ => Rt.gf (newer_le W K) (newer_new W K) ⟨p, n, c, ?_, ?_⟩⟩
      · rw [hf, bs_size, bs_size]
      · rw [hf]; exact Ents.of_ow (ho.new hg) h64
  · have hn0 : 50 - n = 0 := by omega
    replace hf : repE 50 l = (acc, rest) := by
      rw [hf, hn0]
      show (acc ++ [], rest) = _
      rw [List.append_nil]
    refine ⟨in64 (by rw [bs_size, bs_size]; omega), fun _ => Rt.gf (newer_le W K) (newer_new W K) ⟨p, n, c, ?_, ?_⟩⟩
    · rw [hf, bs_size, bs_size]
    · rw [hf]; exact Ents.of_ow (ho.new hg) h64
theorem c_entryBytes (e : Ent) (h0 : e.err = 0) (H : Hp) : Gv Try.prog 17 #[e.val] H (.string (bs (encE e))) := fun W hH => by
  obtain ⟨y1, y2, y3, y4, y5⟩ := Ent.err_ok.1 h0
  refine x_entryBytes _ _ _ _ _ _ _ _ _ noM H W _ hH fun b0 => ?_
  refine Cl.fresh (c_twoBytes e.time (by omega) (by omega) H) ?_
  rintro v W1 W2 D1 ⟨q1, d1, rfl, B1⟩ hx hD hf n1
  refine ⟨q1, 2, d1, rfl, hx, D1, hD, hf, fun H1 le1 hD1 b1 W3 n3 k3 => ?_⟩
  have hk3 := k3.1
  rw [wrap8] at hk3
  obtain ⟨p2, c2, g2, W4, H2, run2, hu2, y2', hg2⟩ := by_appendK (l := [b8 e.kind]) n3.sub hk3.eq hk3.off (B1.mono hD1) (c2 := d1) (by omega) (by simp) 71
  have o2 : ∀ b, g2 = some b → W.heap.size ≤ b := fun b hb => by rw [hg2] at hb; simp only [Option.some.injEq] at hb; have := n3.mod.size; omega
  refine ⟨p2, _, c2, W4, run2, H2, hu2.turned (fun b hb => by cases hb), fun b2 W5 n5 k5 => ?_⟩
  have hk5 := k5.1
  rw [wrap8] at hk5
  obtain ⟨p3, c3, g3, W6, H3, run3, hu3, y3', hg3⟩ := by_append (m := [b8 e.client]) n5.sub y2' hk5.eq hk5.off (by simp) 71
  have o3 := grown_own o2 hg3 n5.mod.size
  refine ⟨p3, _, c3, W6, run3, H3, hu3.own y2' (fun b hb => .inl (o2 b hb)), fun hk => ?_, fun hk => ?_⟩
  · obtain ⟨g1, g2', g3'⟩ := y4 hk
    obtain ⟨r1, r2, r3, r4⟩ := op_rng g3'
    intro b3 W7 n7 k7
    have hk7 := k7.1
    rw [wrap8, wrap8, wrap8, wrap8, wrap8] at hk7
    obtain ⟨p4, c4, g4, W8, H4, run4, hu4, y4', hg4⟩ := by_append (m := [b8 e.seq, b8 e.ack, b8 e.op.kind, b8 e.op.key, b8 e.op.to]) n7.sub y3' hk7.eq hk7.off (by simp) 71
    have o4 := grown_own o3 hg4 n7.mod.size
    refine ⟨p4, _, c4, W8, run4, H4, hu4.own y3' (fun b hb => .inl (o3 b hb)), in64 (by omega), fun _ => ?_⟩
    refine Cl.fresh (c_twoBytes (e.op.n + 999) (by omega) (by omega) H4) ?_
    rintro v W9 W10 D2 ⟨q2, d2, rfl, B2⟩ hx hD hf n9
    refine ⟨q2, 2, d2, rfl, hx, D2, hD, hf, fun H5 le5 hD5 W11 n11 _ => ?_⟩
    obtain ⟨p5, c5, g5, W12, H6, run5, hu5, y5', hg5⟩ := by_appendB n11.sub (y4'.mono le5) (B2.mono hD5) (c2 := d2) (by simp) 71
    refine ⟨p5, _, c5, W12, run5, H6, hu5.own (y4'.mono le5) (fun b hb => .inl (o4 b hb)), fun W13 n13 _ => ⟨_, _, ek_bytes_str y5'.rows n13.sub, Ext.refl _, Rt.gv' ?_⟩⟩
    unfold encE
    rw [if_pos hk, ← List.append_assoc]
  · intro W7 n7 _
    refine ⟨_, _, ek_bytes_str y3'.rows n7.sub, Ext.refl _, Rt.gv' ?_⟩
    unfold encE
    rw [if_neg hk, List.append_nil]
end Go.Proofs.Ytoilhpkclabhoaa
namespace Go.Proofs.Ytoilhpkclabhoaa
open Go.RowKit

theorem ek_cut {W : World} (l : List UInt8) (i j : Nat) (h1 : i ≤ j) (h2 : j ≤ l.length) : (EK.sem (.slice 9 true true false) [.string (bs l), vi i, vi j]).run Try.prog W = .ok (.value (.string (bs ((l.drop i).take (j - i))))) W := by
  have h := run_slice_string (P := Try.prog) W 9 (bs l) .i64 .i64 i j Try.underlying9 (by omega) (by omega) (by rw [bs_size]; omega)
  have e : (bs l).extract i j = bs ((l.drop i).take (j - i)) := by
    unfold bs
    rw [ByteArray.extract_mk]
  simp only [Int.toNat_natCast, e] at h
  simp [EK.sem, Instr.sliceAt, h]
theorem pE_eq (l : List UInt8) : pE l = if (eE l).err = 0 then (if (encE (eE l)).length ≤ l.length ∧ l.take (encE (eE l)).length = encE (eE l) then some (eE l, l.drop (encE (eE l)).length) else none) else none := by
  cases hd : pE l with
  | some q =>
    obtain ⟨x, r⟩ := q
    obtain ⟨rfl, h1, h2⟩ := pE_iff.1 hd
    rw [if_pos h1]
    have h3' : ∀ e, l = encE e ++ r → l.take (encE e).length = encE e ∧ l.drop (encE e).length = r := fun e h => by
      rw [h]
      exact ⟨List.take_left, List.drop_left⟩
    obtain ⟨h3, h4⟩ := h3' _ h2
    rw [if_pos ⟨by rw [pE_len hd]; omega, h3⟩, h4]
  | none =>
    split
    · rename_i h1
      split
      · rename_i h2
        have := (pE_iff (l := l) (x := eE l) (r := l.drop (encE (eE l)).length)).2 ⟨rfl, h1, by conv => lhs; rw [← List.take_append_drop (encE (eE l)).length l, h2.2]⟩
        rw [hd] at this
        cases this
      · rfl
    · rfl
theorem eE_2 {l : List UInt8} (h : (e1 l).1 = 2) : eE l = ⟨(e1 l).1, (e2 (e1 l).2).1, (e1 (e2 (e1 l).2).2).1, (e1 (e1 (e2 (e1 l).2).2).2).1, (e1 (e1 (e1 (e2 (e1 l).2).2).2).2).1, ⟨(e1 (e1 (e1 (e1 (e2 (e1 l).2).2).2).2).2).1, (e1 (e1 (e1 (e1 (e1 (e2 (e1 l).2).2).2).2).2).2).1, (e1 (e1 (e1 (e1 (e1 (e1 (e2 (e1 l).2).2).2).2).2).2).2).1, (e2 (e1 (e1 (e1 (e1 (e1 (e1 (e2 (e1 l).2).2).2).2).2).2).2).2).1 - 999⟩⟩ := by
  unfold eE
  simp only [h, if_true]
theorem eE_1 {l : List UInt8} (h : ¬ (e1 l).1 = 2) : eE l = ⟨(e1 l).1, (e2 (e1 l).2).1, (e1 (e2 (e1 l).2).2).1, 0, 0, ⟨0, 0, 0, 0⟩⟩ := by
  unfold eE
  simp only [if_neg h]
/-- on the way: what has been found, up to where -/
def RepI (W : World) (H : Hp) (l : List UInt8) (v : List Dat) (K : Hp) : Prop := match v with
  | [.p p, .n n, .n c, .n k] => ∃ (acc : List Ent) (g : Option Nat), n ≤ 50 ∧ k ≤ l.length ∧ H.le K ∧ Ow K 33 9 p n c (acc.map Ent.row) g ∧ (∀ b, g = some b → W.heap.size ≤ b) ∧ (∀ e ∈ acc, e.in64) ∧ repE 50 l = (acc ++ (repE (50 - n) (l.drop k)).1, (repE (50 - n) (l.drop k)).2)
  | _ => False
theorem RepI.out {W : World} {H K : Hp} {l : List UInt8} {p : Option Loc} {n c k : Nat} (hI : RepI W H l [.p p, .n n, .n c, .n k] K) (hl : lRep l = ((repE 50 l).1, (l.length : Int) - (repE 50 l).2.length, 0)) (hp : pE (l.drop k) = none ∨ n = 50) {kn : World → Prop} :
    Rt (RGf W (RepPost (lRep l))) W noM K kn (.tuple #[vsl p n c, vi k, vi 0]) := by
  obtain ⟨acc, g, hn, hk, hle, ho, hg, h64, hf⟩ := hI
  replace hf : repE 50 l = (acc, l.drop k) := by
    rcases hp with hp | rfl
    · rw [hf, repE_stop hp]
      show (acc ++ [], _) = _
      rw [List.append_nil]
    · rw [hf]
      show (acc ++ [], l.drop k) = _
      rw [List.append_nil]
  rw [hl, hf]
  refine Rt.gf (newer_le W K) (newer_new W K) ⟨p, n, c, ?_, Ents.of_ow (ho.new hg) h64⟩
  simp only [List.length_drop]
  rw [show ((l.length : Int) - ((l.length - k : Nat) : Int)) = k by omega]
/-- the rest of a round, behind the entry's fields -/
theorem c_round {W : World} {H K : Hp} {l : List UInt8} {p : Option Loc} {n c k : Nat} (hH : H.le (hpOf W)) (hl4 : l.length ≤ 4096) (hl : lRep l = ((repE 50 l).1, (l.length : Int) - (repE 50 l).2.length, 0)) (hI : RepI W H l [.p p, .n n, .n c, .n k] K) (hn50 : n < 50) (h0 : (eE (l.drop k)).err = 0) {x y : Operand} {μ : List Dat → Nat} (hμ : ∀ p n c k, μ [.p p, .n n, .n c, .n k] = 50 - n) :
    inKind .i64 (((bs l).size : Int) - (k : Int)) ∧ (inKind .i64 (((bs l).size : Int) - (k : Int)) →
      ((((bs l).size : Int) - (k : Int)) < ((bs (encE (eE (l.drop k)))).size : Int) → Rt (RGf W (RepPost (lRep l))) W noM K nK (Value.tuple #[vsl p n c, vi (k : Int), vi 0])) ∧
      (¬ (((bs l).size : Int) - (k : Int)) < ((bs (encE (eE (l.drop k)))).size : Int) → inKind .i64 ((k : Int) + ((bs (encE (eE (l.drop k)))).size : Int)) ∧ (inKind .i64 ((k : Int) + ((bs (encE (eE (l.drop k)))).size : Int)) →
        (Es W noM K nK fun W13 => ∃ x14 : ByteArray, Eo Try.prog (.slice 9 true true false) [Value.string (bs l), vi (k : Int), vi ((k : Int) + ((bs (encE (eE (l.drop k)))).size : Int))] W13 (.value (Value.string x14)) fun W14 => Ext W13 W14 ∧
        (Es W noM K nK fun W15 => ∃ x15 : Bool, Eo Try.prog (.bop .neq 9 x y) [Value.string x14, Value.string (bs (encE (eE (l.drop k))))] W15 (.value (vb (x15))) fun W16 => Ext W15 W16 ∧
        ((x15 = true → Rt (RGf W (RepPost (lRep l))) W noM K nK (Value.tuple #[vsl p n c, vi (k : Int), vi 0])) ∧
        (¬ (x15 = true) → (∀ b2 : Nat,
          (Es W noM K (fun W1 => Kn W noM K W1 b2 (Obj.cells (eE (l.drop k)).row.toArray 33 (0, 0)) ∧ True) fun W17 => ∃ x16 : Option Loc, ∃ x17 : Nat, ∃ x18 : Nat, Eo Try.prog (.bi .append #[38, 38] 38) [vsl p n c, Value.slice (some ⟨b2, 0, none⟩) 1 1] W17 (.value (vsl x16 x17 x18)) fun W18 => Tn W noM K W17 W18 fun H2 =>
          (0 ≤ (x17 : Int) ∧ (0 ≤ (x17 : Int) → (0 ≤ (x18 : Int) ∧ (0 ≤ (x18 : Int) →
          (0 ≤ ((k : Int) + ((bs (encE (eE (l.drop k)))).size : Int)) ∧ (0 ≤ ((k : Int) + ((bs (encE (eE (l.drop k)))).size : Int)) →
          (RepI W H l [.p (x16.map fun a => a.shift 0), .n x17, .n x18, .n (((k : Int) + ((bs (encE (eE (l.drop k)))).size : Int)) : Int).toNat] H2 ∧ μ [.p (x16.map fun a => a.shift 0), .n x17, .n x18, .n (((k : Int) + ((bs (encE (eE (l.drop k)))).size : Int)) : Int).toNat] < μ [.p (p.map fun a => a.shift 0), .n n, .n c, .n k])))))))))))))))) := by
  have hpe := pE_eq (l.drop k)
  rw [if_pos h0] at hpe
  generalize hee : eE (l.drop k) = e at *
  have hlen := encE_len (x := e)
  have hI' := hI
  obtain ⟨acc, g, hn, hk, hle, ho, hg, h64, hf⟩ := hI
  have hdl : (l.drop k).length = l.length - k := List.length_drop
  rw [bs_size, bs_size]
  refine ⟨in64 (by omega), fun _ => ⟨fun hs => hI'.out hl (.inl ?_), fun hs => ⟨in64 (by omega), fun _ W13 n13 _ => ?_⟩⟩⟩
  · rw [hpe, if_neg (fun h => by omega)]
  have e1 : ((k : Int) + ((encE e).length : Int)) = ((k + (encE e).length : Nat) : Int) := by omega
  rw [e1]
  refine ⟨_, _, ek_cut l k (k + (encE e).length) (by omega) (by omega), Ext.refl _, fun W15 n15 _ => ⟨_, _, ek_str_ne _ _ _ _, Ext.refl _, fun hx => hI'.out hl (.inl ?_), fun hx b2 W5 n5 k5 => ?_⟩⟩
  · rw [Nat.add_sub_cancel_left] at hx
    rw [hpe, if_neg (fun h => by rw [h.2] at hx; simp at hx)]
  · rw [Nat.add_sub_cancel_left] at hx
    have hx' : (l.drop k).take (encE e).length = encE e := by simpa using hx
    rw [if_pos ⟨by omega, hx'⟩, List.drop_drop] at hpe
    obtain ⟨m, hm⟩ : ∃ m, 50 - n = m + 1 := ⟨50 - n - 1, by omega⟩
    rw [hm, repE_more hpe] at hf
    obtain ⟨p', c', g', W6, K2, hrun, hu, ho2, hg2, _⟩ := run_append1 Try.underlying38 infoEnt9 (by omega) n5.sub ho (row := e.row) k5.1.eq k5.1.off rfl (fun v hv => by simp only [Ent.row, List.mem_cons, List.not_mem_nil, or_false] at hv; rcases hv with rfl | rfl | rfl | rfl | rfl | rfl | rfl | rfl | rfl <;> rfl) (by simp only [maxLen]; omega) (by omega) 38
    refine ⟨_, _, _, _, hrun, K2, hu.own ho (fun b hb => .inl (hg b hb)), by omega, fun _ => ⟨by omega, fun _ => ⟨by omega, fun _ => ?_⟩⟩⟩
    rw [Int.toNat_natCast]
    refine ⟨⟨acc ++ [e], g', by omega, by omega, hu.keep n5.sub hle (fun b hb => old_none hH (hg b hb)), ?_, fun b hb => ?_, fun x hx => ?_, ?_⟩, by rw [hμ, hμ]; omega⟩
    · rw [map0, List.map_append]; exact ho2
    · rcases hg2 with h | h
      · exact hg b (h ▸ hb)
      · rw [h] at hb; simp only [Option.some.injEq] at hb; have := n5.mod.size; omega
    · rcases List.mem_append.1 hx with hx | hx
      · exact h64 x hx
      · rw [List.mem_singleton.1 hx]; exact pE_64 hpe
    · rw [show 50 - (n + 1) = m by omega, hf]
      simp
end Go.Proofs.Ytoilhpkclabhoaa
namespace Go.Proofs.Ytoilhpkclabhoaa
open Go.RowKit

def repMu (v : List Dat) : Nat := match v with
  | [_, .n n, _, _] => 50 - n
  | _ => 0
theorem in_e2 (l : List UInt8) : inKind .i64 ((e2 l).1 - 999) := in64 (by have := e2_rng l; omega)
set_option maxHeartbeats 1000000 in
theorem c_replayOf (l : List UInt8) (H : Hp) : Gf Try.prog 19 #[.string (bs l)] H (RepPost (lRep l)) := fun W hH => by
  refine x_replayOf (bs l) noM H W _ hH ⟨fun h => ?_, fun h => ?_⟩
  · rw [bs_size] at h
    rw [show lRep l = ([], 0, 2) from if_pos (by omega)]
    exact Rt.gf (D := noH) (noH_le _) (fun b o h => by cases h) ⟨none, 0, 0, rfl, Ents.nil _ _⟩
  rw [bs_size] at h
  have hl : lRep l = ((repE 50 l).1, (l.length : Int) - (repE 50 l).2.length, 0) := if_neg (by omega)
  refine ⟨RepI W H l, repMu, ⟨[], none, by omega, by omega, Hp.le_refl H, Ow.nil _ _ _ _, fun b h => (by cases h), fun e h => (by cases h), by simp⟩, fun K p n c k hI => ?_⟩
  rw [map0] at hI
  have hI' := hI
  obtain ⟨acc, g, hn, hk, hle, ho, hg, h64, hf⟩ := hI'
  have hmu : ∀ (p : Option Loc) (n c k : Nat), repMu [.p p, .n n, .n c, .n k] = 50 - n := fun _ _ _ _ => rfl
  refine ⟨by omega, fun _ => ⟨fun hlt => ?_, fun hge => hI.out hl (.inr (by omega))⟩⟩
  refine fun W1 n1 _ => ⟨_, _, ek_from l k hk, Ext.refl _, fun b0 => ?_⟩
  have hc := @c_round W H K l p n c k hH (by omega) hl hI (by omega)
  generalize hld : l.drop k = ld at hc
  have none1 : ¬ (eE ld).err = 0 → pE (l.drop k) = none := fun h0 => by rw [hld, pE_eq, if_neg h0]
  refine Cl.gg c_e1 (fun W k => k.1) ?_
  rintro v W1 W2 C D ⟨rfl, rfl⟩ hb n1 h1 h2
  refine ⟨_, _, rfl, hb.md fun b1 => ?_⟩
  refine Cl.gg c_e2 (fun W k => k.1) ?_
  rintro v W1 W2 C D ⟨rfl, rfl⟩ hb n1 h1 h2
  refine ⟨_, _, rfl, hb.md ?_⟩
  refine Cl.gg c_e1 (fun W k => k.1) ?_
  rintro v W1 W2 C D ⟨rfl, rfl⟩ hb n1 h1 h2
  refine ⟨_, _, rfl, hb.md ⟨fun hk2 => ?_, fun hk2 => ?_⟩⟩
  · have he := eE_2 hk2
    refine Cl.gg c_e1 (fun W k => k.1) ?_
    rintro v W1 W2 C D ⟨rfl, rfl⟩ hb n1 h1 h2
    refine ⟨_, _, rfl, hb.md ?_⟩
    refine Cl.gg c_e1 (fun W k => k.1) ?_
    rintro v W1 W2 C D ⟨rfl, rfl⟩ hb n1 h1 h2
    refine ⟨_, _, rfl, hb.md ?_⟩
    refine Cl.gg c_e1 (fun W k => k.1) ?_
    rintro v W1 W2 C D ⟨rfl, rfl⟩ hb n1 h1 h2
    refine ⟨_, _, rfl, hb.md ?_⟩
    refine Cl.gg c_e1 (fun W k => k.1) ?_
    rintro v W1 W2 C D ⟨rfl, rfl⟩ hb n1 h1 h2
    refine ⟨_, _, rfl, hb.md ?_⟩
    refine Cl.gg c_e1 (fun W k => k.1) ?_
    rintro v W1 W2 C D ⟨rfl, rfl⟩ hb n1 h1 h2
    refine ⟨_, _, rfl, hb.md ?_⟩
    refine Cl.gg c_e2 (fun W k => k.1) ?_
    rintro v W1 W2 C D ⟨rfl, rfl⟩ hb n1 h1 h2
    have hs := e1_rng (e1 (e2 (e1 ld).2).2).2
    refine ⟨_, _, rfl, hb.md ⟨in_e2 _, fun _ => ?_⟩⟩
    refine Cl.same (v := vi (eE ld).err) (by rw [he]; exact c_entErr _ (by simp only; omega) K) fun _ _ hx => ⟨_, rfl, hx, fun h0 => ?_, fun h0 => hI.out hl (.inl (none1 h0))⟩
    refine Cl.same (v := .string (bs (encE (eE ld)))) (by rw [he] at h0 ⊢; exact c_entryBytes _ h0 K) fun _ _ hx => ⟨_, rfl, hx, ?_⟩
    have h := hc h0 (x := .tmp 75) (y := .tmp 76) (μ := repMu) hmu
    rw [he] at h ⊢
    exact h
  · have he := eE_1 hk2
    refine Cl.same (v := vi (eE ld).err) (by rw [he]; exact c_entErr _ (by simp only; omega) K) fun _ _ hx => ⟨_, rfl, hx, fun h0 => ?_, fun h0 => hI.out hl (.inl (none1 h0))⟩
    refine Cl.same (v := .string (bs (encE (eE ld)))) (by rw [he] at h0 ⊢; exact c_entryBytes _ h0 K) fun _ _ hx => ⟨_, rfl, hx, ?_⟩
    have h := hc h0 (x := .tmp 75) (y := .tmp 76) (μ := repMu) hmu
    rw [he] at h ⊢
    exact h
end Go.Proofs.Ytoilhpkclabhoaa
