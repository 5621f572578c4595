/- Contracts: the law of bytes that are cut off. No conditions. -/
import Derived.Test.YtoilhpkclabhoaaKQ3
set_option linter.unusedVariables false
set_option linter.unusedSimpArgs false
namespace Go.Proofs.Ytoilhpkclabhoaa
open Go.RowKit

/-- all of a list, behind one another -/
def encL (l : List Ent) : List UInt8 := l.flatMap encE
theorem encL_at {l : List Ent} {j : Nat} {e : Ent} (h : l[j]? = some e) : encL (l.take (j + 1)) = encL (l.take j) ++ encE e := by
  unfold encL
  rw [take_flat encE h]
theorem encL_len : ∀ l : List Ent, (encL l).length ≤ l.length * 11
  | [] => by simp [encL]
  | e :: l => by
    have h1 := encL_len l
    have h2 := (encE_len (x := e)).2
    unfold encL at h1 ⊢
    rw [List.flatMap_cons, List.length_append, List.length_cons, Nat.succ_mul]
    omega
/-- the beginning of an entry is none -/
theorem pE_part {e : Ent} {t z : List UInt8} (h : e.err = 0) (ht : encE e = t ++ z) (hz : z ≠ []) : pE t = none := by
  cases hp : pE t with
  | none => rfl
  | some q =>
    obtain ⟨x, r⟩ := q
    obtain ⟨h1, h2⟩ := pE_enc hp
    have h3 := enc_pE h1 (r ++ z)
    have h4 := enc_pE h []
    rw [← List.append_assoc, ← h2, ← ht] at h3
    rw [List.append_nil] at h4
    rw [h4] at h3
    simp only [Option.some.injEq, Prod.mk.injEq] at h3
    have := h3.2
    cases r with
    | nil => exact absurd this.symm hz
    | cons a r => cases this
theorem repE_list : ∀ (es : List Ent) (n : Nat) (t : List UInt8), es.length ≤ n → (∀ e ∈ es, e.err = 0) → pE t = none → repE n (encL es ++ t) = (es, t)
  | [], n, t, _, _, ht => repE_stop ht
  | e :: es, 0, t, h, _, _ => by simp at h
  | e :: es, n + 1, t, h, h0, ht => by
    have h1 : encL (e :: es) ++ t = encE e ++ (encL es ++ t) := by unfold encL; rw [List.flatMap_cons, List.append_assoc]
    rw [h1, repE_more (enc_pE (h0 e (List.mem_cons_self ..)) _)]
    rw [repE_list es n t (by simp at h; omega) (fun x hx => h0 x (List.mem_cons_of_mem _ hx)) ht]
/-- bytes cut off: the whole entries that are left -/
theorem lRep_cut {l : List Ent} {cut k : Nat} (hl : l.length ≤ 50) (h0 : ∀ e ∈ l, e.err = 0) (hk : k ≤ l.length) (h1 : (encL (l.take k)).length ≤ cut) (h2 : k < l.length → cut < (encL (l.take (k + 1))).length) (hc : cut ≤ (encL l).length) :
    lRep ((encL l).take cut) = (l.take k, ((encL (l.take k)).length : Int), 0) := by
  have hall := encL_len l
  have key : ∃ t, (encL l).take cut = encL (l.take k) ++ t ∧ pE t = none := by
    rcases Nat.lt_or_ge k l.length with hlt | hge
    · obtain ⟨e, he⟩ : ∃ e, l[k]? = some e := ⟨_, List.getElem?_eq_getElem hlt⟩
      have h3 := h2 hlt
      have h4 := encL_at he
      have h5 : encL l = encL (l.take k) ++ (encE e ++ encL (l.drop (k + 1))) := by
        conv => lhs; rw [← List.take_append_drop (k + 1) l]
        unfold encL
        rw [List.flatMap_append, take_flat encE he, List.append_assoc]
      rw [h4, List.length_append] at h3
      refine ⟨(encE e).take (cut - (encL (l.take k)).length), ?_, pE_part (h0 e (List.mem_of_getElem? he)) (List.take_append_drop (cut - (encL (l.take k)).length) (encE e)).symm ?_⟩
      · rw [h5, List.take_append, List.take_of_length_le h1, List.take_append_of_le_length (by omega)]
      · intro hn
        have := congrArg List.length hn
        rw [List.length_drop] at this
        simp at this
        omega
    · have hk' : k = l.length := by omega
      have : l.take k = l := List.take_of_length_le hge
      rw [this] at h1 ⊢
      exact ⟨[], by rw [List.append_nil, List.take_of_length_le h1], rfl⟩
  obtain ⟨t, ht, hp⟩ := key
  have hlen : ((encL l).take cut).length = cut := by rw [List.length_take]; omega
  unfold lRep
  rw [if_neg (by omega), ht, repE_list (l.take k) 50 t (by rw [List.length_take]; omega) (fun e he => h0 e (List.mem_of_mem_take he)) hp]
  have hln : (((encL (l.take k) ++ t).length : Nat) : Int) - (t.length : Int) = ((encL (l.take k)).length : Int) := by rw [List.length_append]; omega
  rw [show (l.take k, t).2 = t from rfl, hln]
def endsL (l : List Ent) (j : Nat) : List Int := (List.range j).map fun i => ((encL (l.take (i + 1))).length : Int)
theorem endsL_at (l : List Ent) {j i : Nat} (h : i < j) : (endsL l j)[i]? = some ((encL (l.take (i + 1))).length : Int) := by
  unfold endsL
  rw [List.getElem?_map, List.getElem?_range h]
  rfl
theorem endsL_next (l : List Ent) (j : Nat) : endsL l (j + 1) = endsL l j ++ [((encL (l.take (j + 1))).length : Int)] := by
  unfold endsL
  rw [List.range_succ, List.map_append]
  rfl
theorem c_logKept {H : Hp} {q : Option Loc} {m d : Nat} {l : List Ent} (hE : Ents H q m d l) (x : Int) (hx64 : -9223372036854775808 ≤ x ∧ x ≤ 9223372036854775807) : Gv Try.prog 5 #[vsl q m d, vi x] H (vb true) := fun W hH => by
  have hm := hE.len
  have hcap := hE.1
  refine x_logKept q m d x noM H W _ hH ⟨by omega, fun _ => ⟨fun h => ?_, fun h => ?_⟩⟩
  · exact Cl.same (c_logBegun H) fun _ _ hx => ⟨_, rfl, hx, Rt.gv⟩
  have hl50 : l.length ≤ 50 := by omega
  have hall := encL_len l
  refine ⟨fun v K => match v with | [.n j, .s s, .p p, .n n, .n c] => ∃ g, j ≤ m ∧ n = j ∧ H.le K ∧ s = bs (encL (l.take j)) ∧ (∀ e ∈ l.take j, e.err = 0) ∧ Ow K 3 1 p n c ((endsL l j).map irow) g ∧ (∀ b, g = some b → W.heap.size ≤ b) | _ => False, fun v => match v with | .n j :: _ => m - j | _ => 0,
    ⟨none, by omega, rfl, Hp.le_refl _, rfl, fun e h => (by cases h), Ow.nil _ _ _ _, fun b h => by cases h⟩, fun K j s p n c hI => ?_⟩
  obtain ⟨g, hj, rfl, hle, rfl, h0, ho, hg⟩ := hI
  rw [map0] at ho
  have hjl := encL_len (l.take n)
  rw [List.length_take] at hjl
  refine ⟨fun hlt => ?_, fun hge => ?_⟩
  · obtain ⟨e, he, hat, h64⟩ := hE.at (k := n) (by omega)
    have hat' := hat.mono hle
    refine ⟨⟨by omega, hlt⟩, fun _ => ⟨hat'.isSome, fun _ => ⟨_, _, _, _, _, _, _, _, _, hat', ?_⟩⟩⟩
    refine Cl.same (c_logWrite e K) fun _ _ hx => ⟨_, _, rfl, hx, fun hw => ?_, fun hw => ?_⟩
    · have he0 : e.err = 0 := by
        unfold lWrite at hw
        split at hw
        · assumption
        · exact hw
      have hew : lWrite e = (encE e, 0) := if_pos he0
      have hel := (encE_len (x := e)).2
      rw [hew]
      refine fun W3 n3 _ => ⟨_, _, ek_str_add _ _ (encL (l.take n)) (encE e) (by omega) (by omega), Ext.refl _, fun b0 W5 n5 k5 => ?_⟩
      rw [← encL_at he] at k5 ⊢
      obtain ⟨p', c', g', W6, K2, hrun, hu, ho2, hg2, _⟩ := run_append1 Try.underlying43 infoInt (by omega) n5.sub ho (row := irow ((bs (encL (l.take (n + 1)))).size : Int)) k5.1.eq k5.1.off rfl (fun v hv => by simp only [irow, List.mem_singleton] at hv; subst hv; rfl) (by simp only [maxLen]; omega) (by omega) 43
      refine ⟨_, _, _, _, hrun, K2, hu.own ho (fun b hb => .inl (hg b hb)), in64 (by omega), fun _ => ⟨by omega, fun _ => ⟨by omega, fun _ => ⟨by omega, fun _ => ?_⟩⟩⟩⟩
      rw [show ((n : Int) + 1).toNat = n + 1 by omega]
      refine ⟨⟨g', by omega, rfl, hu.keep n5.sub hle (fun b hb => old_none hH (hg b hb)), rfl, fun y hy => ?_, ?_, fun b hb => ?_⟩, by simp only; omega⟩
      · rw [List.take_add_one, he] at hy
        rcases List.mem_append.1 hy with hy | hy
        · exact h0 y hy
        · simp only [Option.toList_some, List.mem_singleton] at hy
          rw [hy]; exact he0
      · rw [map0, endsL_next, List.map_append]
        rw [bs_size] at ho2
        exact ho2
      · rcases hg2 with h | h
        · exact hg b (h ▸ hb)
        · rw [h] at hb; simp only [Option.some.injEq] at hb; have := n5.mod.size; omega
    · exact Cl.same (c_logBegun K) fun _ _ hx => ⟨_, rfl, hx, Rt.gv⟩
  · have hnm : n = l.length := by omega
    have htk : l.take n = l := List.take_of_length_le (by omega)
    rw [htk] at h0
    rw [htk]
    rw [bs_size]
    refine ⟨in64 (by omega), fun _ => ?_⟩
    obtain ⟨k1, k2⟩ := choose_in x (((encL l).length : Int) + 1) (by omega)
    refine Cl.same (c_choose x (((encL l).length : Int) + 1) (by omega) hx64 K) fun _ _ hx => ⟨_, rfl, hx, ?_⟩
    obtain ⟨cut, hcut⟩ : ∃ k : Nat, chooseI x (((encL l).length : Int) + 1) = k := ⟨(chooseI x (((encL l).length : Int) + 1)).toNat, by omega⟩
    rw [hcut] at k1 k2 ⊢
    have hI := Ints.of_ow ho
    refine ⟨fun v K2 => match v with | [.n k, .i w] => k ≤ n ∧ K.le K2 ∧ w = ((encL (l.take k)).length : Int) ∧ (encL (l.take k)).length ≤ cut | _ => False, fun v => match v with | [.n k, _] => n - k | _ => 0,
      ⟨by omega, Hp.le_refl _, by simp [encL], by simp [encL]⟩, fun K2 k w hI2 => ?_⟩
    obtain ⟨hkn, hle2, rfl, hwc⟩ := hI2
    have fin : (k < l.length → cut < (encL (l.take (k + 1))).length) → (Es W noM K2 nK fun W3 => ∃ x12 : ByteArray, Eo Try.prog (.slice 9 false true false) [Value.string (bs (encL l)), vi (cut : Int)] W3 (.value (Value.string x12)) fun W4 => Ext W3 W4 ∧
      (Cl Try.prog W noM K2 nK 18 #[Value.string x12] fun z W5 W6 => ∃ x13 : Option Loc, ∃ x14 : Nat, ∃ x15 : Nat, ∃ x16 : Int, ∃ x17 : Int, z = .returned (Value.tuple #[vsl x13 x14 x15, vi x16, vi x17]) ∧ Fr W5 W6 K2 fun H3 =>
      (Cl Try.prog W noM H3 nK 20 #[] fun z W7 W8 => ∃ x18 : Bool, z = .returned (vb (x18)) ∧ Ext W7 W8 ∧
      ((x18 = true →
       ((x17 = 0 →
        ((x16 = ((encL (l.take k)).length : Int) →
         (0 ≤ (k : Int) ∧ (0 ≤ (k : Int) →
         ((k : Int) ≤ (d : Int) ∧ ((k : Int) ≤ (d : Int) →
         (Cl Try.prog W noM H3 nK 21 #[vsl x13 x14 x15, vsl q k d] fun z W9 W10 => ∃ x19 : Bool, z = .returned (vb (x19)) ∧ Ext W9 W10 ∧
         Rt (fun z W' => z = .returned (vb true) ∧ Ext W W') W noM H3 nK (vb (x19)))))))) ∧
        (¬ (x16 = ((encL (l.take k)).length : Int)) →
         Rt (fun z W' => z = .returned (vb true) ∧ Ext W W') W noM H3 nK (vb (false))))) ∧
       (¬ (x17 = 0) →
        Rt (fun z W' => z = .returned (vb true) ∧ Ext W W') W noM H3 nK (vb (false))))) ∧
      (¬ (x18 = true) →
       Rt (fun z W' => z = .returned (vb true) ∧ Ext W W') W noM H3 nK (vb (false))))))) := fun hs W3 n3 _ => by
      refine ⟨_, _, ek_to (encL l) cut (by omega), Ext.refl _, ?_⟩
      refine Cl.fresh (c_logReplay ((encL l).take cut) K2) ?_
      rw [lRep_cut hl50 h0 (by omega) hwc hs (by omega)]
      rintro v Wa Wb D ⟨p1, m1, c1, rfl, hE1⟩ hx hD hf nn
      refine ⟨p1, m1, c1, _, _, rfl, hx, D, hD, hf, fun H3 le3 hD3 => ?_⟩
      refine Cl.same (c_logBegun H3) fun _ _ hx => ⟨_, rfl, hx, fun _ => ⟨fun _ => ⟨fun _ => ⟨by omega, fun _ => ⟨by omega, fun _ => ?_⟩⟩, fun h => absurd rfl h⟩, fun h => absurd rfl h⟩, fun h => absurd rfl h⟩
      exact Cl.same (c_sameEnts (hE1.mono hD3) ((((hE.mono hle).mono hle2).mono le3).take k (by omega))) fun _ _ hx => ⟨_, rfl, hx, Rt.gv' (by rw [decide_eq_true rfl])⟩
    refine ⟨by omega, fun _ => ⟨fun hlt => ?_, fun hge2 => fin fun hlt => by omega⟩⟩
    obtain ⟨row, hr1, _, hat⟩ := (hI.mono hle2).2.2.at (k := k) (by omega) (off := 0 + (k : Int) * 1) (by omega)
    rw [List.getElem?_map, Option.map_eq_some_iff] at hr1
    obtain ⟨y, hy, rfl⟩ := hr1
    rw [endsL_at l (by omega)] at hy
    simp only [Option.some.injEq] at hy
    subst hy
    refine ⟨⟨by omega, hlt⟩, fun _ => ⟨hat.isSome, fun _ => ⟨_, hat, fun hc => ⟨_, hat, in64 (by omega), fun _ => ⟨by omega, fun _ => ?_⟩⟩, fun hc => fin fun _ => by omega⟩⟩⟩
    rw [show ((k : Int) + 1).toNat = k + 1 by omega]
    exact ⟨⟨by omega, hle2, rfl, by omega⟩, by simp only; omega⟩
end Go.Proofs.Ytoilhpkclabhoaa
