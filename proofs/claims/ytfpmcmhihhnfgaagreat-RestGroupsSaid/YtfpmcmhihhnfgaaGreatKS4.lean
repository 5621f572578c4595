/- Plain laws of tables. No program in sight. No conditions. Contracts of package sess. No conditions. Contracts of package sess: Find, Put. No conditions. Contracts of the document's answer: what finds, drops, puts, is fresh. No conditions. Contracts of the document's answer: Put. No conditions. -/
import Derived.Test.YtfpmcmhihhnfgaaGreatKD1
import Derived.Test.YtfpmcmhihhnfgaaGreatKS3
set_option linter.unusedVariables false
set_option linter.unusedSimpArgs false
namespace Go.Proofs.YtfpmcmhihhnfgaaGreat

abbrev Inc (l : List Ses) : Prop := l.Pairwise fun a b => a.client < b.client
theorem kept_len {a : Int} : ∀ {l : List Rep} {last : Int}, keptOk a last l = true → last ≤ a + 3 → (l.length : Int) ≤ a + 3 - last
  | [], last, _, h => by simp; omega
  | r :: t, last, hk, h => by
    simp only [keptOk, Bool.and_eq_true, decide_eq_true_eq] at hk
    have := kept_len hk.2 (by omega)
    simp only [List.length_cons]
    omega
theorem kept_len3 {s : Ses} (h : s.err = 0) : s.kept.length ≤ 3 := by
  have h1 := Ses.err_ok h
  have := kept_len h1.2.2.2 (by omega)
  omega
/-- a table in order, cut at a client -/
theorem split_at (c : Int) : ∀ (l : List Ses), Inc l → l.take (posT l c) = l.filter (fun x => decide (x.client < c)) ∧ l.drop (posT l c + if hasT l c = true then 1 else 0) = l.filter (fun x => decide (c < x.client)) ∧
    (hasT l c = true → ∃ s, l[posT l c]? = some s ∧ s.client = c ∧ findT l c = s) ∧ dropT l c = l.filter (fun x => decide (x.client < c)) ++ l.filter (fun x => decide (c < x.client)) ∧ (hasT l c = false → findT l c = Ses.zero ∧ dropT l c = l)
  | [], _ => by simp [posT, hasT, dropT, findT]
  | s :: t, h => by
    rw [Inc, List.pairwise_cons] at h
    obtain ⟨i1, i2, i3, i4, i5⟩ := split_at c t h.2
    rcases Int.lt_trichotomy s.client c with hlt | heq | hgt
    · have hp : posT (s :: t) c = posT t c + 1 := by simp [posT, hlt]
      have hh : hasT (s :: t) c = hasT t c := by
        have : s.client ≠ c := by omega
        simp [hasT, this]
      have hf : findT (s :: t) c = findT t c := by
        have : s.client ≠ c := by omega
        simp [findT, this]
      have hng : ¬ c < s.client := by omega
      have hne : s.client ≠ c := by omega
      refine ⟨?_, ?_, fun hx => ?_, ?_, fun hx => ?_⟩
      · rw [hp, List.take_succ_cons, i1]; simp [hlt]
      · rw [hp, hh, show posT t c + 1 + (if hasT t c = true then 1 else 0) = (posT t c + if hasT t c = true then 1 else 0) + 1 by omega, List.drop_succ_cons, i2]; simp [hng]
      · rw [hp, hf]
        rw [hh] at hx
        simpa using i3 hx
      · rw [dropT] at i4
        rw [dropT, List.filter_cons, if_pos (by simpa using hne), i4, List.filter_cons, if_pos (by simpa using hlt), List.filter_cons, if_neg (by simpa using hng)]
        rfl
      · rw [hh] at hx
        obtain ⟨j1, j2⟩ := i5 hx
        refine ⟨by rw [hf, j1], ?_⟩
        rw [dropT] at j2
        rw [dropT, List.filter_cons, if_pos (by simpa using hne), j2]
    · have hall : ∀ x ∈ t, c < x.client := fun x hx => by have := h.1 x hx; omega
      have hz : t.filter (fun x => decide (x.client < c)) = [] := List.filter_eq_nil_iff.2 fun x hx => by have := hall x hx; simp; omega
      have hy : t.filter (fun x => decide (c < x.client)) = t := List.filter_eq_self.2 fun x hx => by have := hall x hx; simpa using this
      have hd : t.filter (fun x => decide (x.client ≠ c)) = t := List.filter_eq_self.2 fun x hx => by have := hall x hx; simp; omega
      have hp : posT (s :: t) c = 0 := by simp [posT, heq, hz]
      have hh : hasT (s :: t) c = true := by simp [hasT, heq]
      have h1 : ¬ s.client < c := by omega
      have h2 : ¬ c < s.client := by omega
      refine ⟨?_, ?_, fun _ => ⟨s, ?_, heq, ?_⟩, ?_, fun hx => (by rw [hh] at hx; cases hx)⟩
      · rw [hp]; simp [h1, hz]
      · rw [hp, hh]; simp [h2, hy]
      · rw [hp]; rfl
      · simp [findT, heq]
      · rw [dropT, List.filter_cons, if_neg (by simpa using heq), hd, List.filter_cons, if_neg (by simpa using h1), hz, List.filter_cons, if_neg (by simpa using h2), hy]
        rfl
    · have hall : ∀ x ∈ t, c < x.client := fun x hx => by have := h.1 x hx; omega
      have hz : t.filter (fun x => decide (x.client < c)) = [] := List.filter_eq_nil_iff.2 fun x hx => by have := hall x hx; simp; omega
      have hy : t.filter (fun x => decide (c < x.client)) = t := List.filter_eq_self.2 fun x hx => by have := hall x hx; simpa using this
      have hd : t.filter (fun x => decide (x.client ≠ c)) = t := List.filter_eq_self.2 fun x hx => by have := hall x hx; simp; omega
      have h1 : ¬ s.client < c := by omega
      have hne : s.client ≠ c := by omega
      have hp : posT (s :: t) c = 0 := by simp [posT, h1, hz]
      have hh : hasT (s :: t) c = false := by
        simp only [hasT, List.any_cons, Bool.or_eq_false_iff, decide_eq_false_iff_not, List.any_eq_false, decide_eq_true_eq]
        exact ⟨hne, fun x hx => by have := hall x hx; omega⟩
      refine ⟨?_, ?_, fun hx => (by rw [hh] at hx; cases hx), ?_, fun _ => ⟨?_, ?_⟩⟩
      · rw [hp]; simp [h1, hz]
      · rw [hp, hh]; simp [hgt, hy]
      · rw [dropT, List.filter_cons, if_pos (by simpa using hne), hd, List.filter_cons, if_neg (by simpa using h1), hz, List.filter_cons, if_pos (by simpa using hgt), hy]
        rfl
      · have : (s :: t).find? (fun x => decide (x.client = c)) = none := List.find?_eq_none.2 fun x hx => by
          rcases List.mem_cons.1 hx with rfl | hx
          · simpa using hne
          · have := hall x hx; simp; omega
        simp [findT, this]
      · rw [dropT, List.filter_cons, if_pos (by simpa using hne), hd]
theorem drop_at {l : List Ses} (h : Inc l) {c : Int} (hh : hasT l c = true) : l.take (posT l c) ++ l.drop (posT l c + 1) = dropT l c := by
  obtain ⟨i1, i2, _, i4, _⟩ := split_at c l h
  rw [hh] at i2
  simp only [if_true] at i2
  rw [i1, i2, i4]
theorem put_has {l : List Ses} (h : Inc l) {s : Ses} (hh : hasT l s.client = true) : (l.take (posT l s.client) ++ l.drop (posT l s.client + 1)).take (posT l s.client) ++ s :: (l.take (posT l s.client) ++ l.drop (posT l s.client + 1)).drop (posT l s.client) = putT l s := by
  obtain ⟨i1, i2, i3, _, _⟩ := split_at s.client l h
  rw [hh] at i2
  simp only [if_true] at i2
  obtain ⟨x, hx, _⟩ := i3 hh
  have hlen : (l.take (posT l s.client)).length = posT l s.client := by
    have := (List.getElem?_eq_some_iff.1 hx).1
    simp; omega
  have e1 : (l.take (posT l s.client) ++ l.drop (posT l s.client + 1)).take (posT l s.client) = l.take (posT l s.client) := by
    conv => lhs; rw [List.take_append, hlen, Nat.sub_self, List.take_zero, List.append_nil, List.take_of_length_le (by omega)]
  have e2 : (l.take (posT l s.client) ++ l.drop (posT l s.client + 1)).drop (posT l s.client) = l.drop (posT l s.client + 1) := by
    conv => lhs; rw [List.drop_append, hlen, Nat.sub_self, List.drop_zero, List.drop_of_length_le (by omega), List.nil_append]
  rw [e1, e2, i1, i2]
  rfl
theorem put_not {l : List Ses} (h : Inc l) {s : Ses} (hh : hasT l s.client = false) : l.take (posT l s.client) ++ s :: l.drop (posT l s.client) = putT l s := by
  obtain ⟨i1, i2, _, _, _⟩ := split_at s.client l h
  rw [hh] at i2
  simp only [Bool.false_eq_true, if_false, Nat.add_zero] at i2
  rw [i1, i2]
  rfl
theorem pos_le (l : List Ses) (c : Int) : posT l c ≤ l.length := List.length_filter_le _ _
theorem pos_lt {l : List Ses} (h : Inc l) {c : Int} (hh : hasT l c = true) : posT l c < l.length := by
  obtain ⟨_, _, i3, _, _⟩ := split_at c l h
  obtain ⟨x, hx, _⟩ := i3 hh
  exact (List.getElem?_eq_some_iff.1 hx).1
theorem put_len {l : List Ses} (h : Inc l) (s : Ses) : (putT l s).length = l.length + (if hasT l s.client = true then 0 else 1) := by
  cases hh : hasT l s.client with
  | true =>
    rw [← put_has h hh]
    have := pos_lt h hh
    simp; omega
  | false =>
    rw [← put_not h hh]
    have := pos_le l s.client
    simp; omega
end Go.Proofs.YtfpmcmhihhnfgaaGreat
namespace Go.Proofs.YtfpmcmhihhnfgaaGreat
open Go.RowKit

theorem OwnTab.fin {W : World} {H Dk : Hp} {p : Option Loc} {n c : Nat} {rows : List (List Value)} {l : List Ses} {g : Option Nat} (ho : Ow H 75 4 p n c rows g) (ha : All2 (SesRow Dk) rows l) (hD : Dk.le H) (hf : ∀ b o, Dk b = some o → W.heap.size ≤ b) (hg : ∀ b, g = some b → Dk b = none) (hn : ∀ b, g = some b → W.heap.size ≤ b) :
    OwnTab (newer W H) p n c l g := ⟨rows, Dk, ho.new hn, le_newer hD hf, hg, ha⟩
theorem OwnTab.nil (D : Hp) (p : Option Loc) : OwnTab D p 0 0 [] none := ⟨[], noH, Ow.nil _ _ _ _, noH_le _, fun b h => (by cases h), .nil⟩
theorem new_turn {W W3 : World} {g g' : Option Nat} (hg : ∀ b, g = some b → W.heap.size ≤ b) (hs : W.heap.size ≤ W3.heap.size) (hg' : g' = g ∨ ∀ b, g' = some b → W3.heap.size ≤ b) : ∀ b, g' = some b → W.heap.size ≤ b := fun b hb => by
  rcases hg' with rfl | h
  · exact hg b hb
  · exact Nat.le_trans hs (h b hb)
theorem fresh_old (l : List Ses) (clock : Int) : (l.filter fun s => !old clock s) = freshT l clock := by
  unfold freshT
  congr 1
  funext s
  unfold old
  by_cases h : s.seen < clock - 20
  · rw [decide_eq_true h, decide_eq_false (by omega)]; rfl
  · rw [decide_eq_false h, decide_eq_true (by omega)]; rfl
/-- what is asked of a table to be cloned -/
structure Small (l : List Ses) : Prop where
  len : l.length ≤ 1099511627776
  one : ∀ s ∈ l, s.kept.length ≤ 8796093022208
theorem Small.of_ok {l : List Ses} (h : TabOk l) : Small l := ⟨by have := h.len; omega, fun s hs => by have := kept_len3 (h.one s hs); omega⟩

end Go.Proofs.YtfpmcmhihhnfgaaGreat
namespace Go.Proofs.YtfpmcmhihhnfgaaGreat
open Go.RowKit

theorem Tab.one {H : Hp} {p : Option Loc} {n c : Nat} {l : List Ses} (h : Tab H p n c l) {k : Nat} {s : Ses} (hs : l[k]? = some s) : Tab H (tailP p c k 4) 1 (c - k) [s] := by
  have hn := h.len
  have hk := (List.getElem?_eq_some_iff.1 hs).1
  obtain ⟨h1, h2, rows, h3, h4⟩ := h
  obtain ⟨row, hr, hrs⟩ := h4.get' hs
  refine ⟨by omega, by omega, [row], ?_, .one hrs⟩
  have := h3.tail (lo := k) (c := c) (by omega) h1
  have h5 := this.take 1 (by omega)
  rw [drop_cons hr] at h5
  exact h5
def Ses.val (s : Ses) (v : Value) : Value := .agg #[vi s.client, vi s.acked, vi s.seen, v]
end Go.Proofs.YtfpmcmhihhnfgaaGreat
namespace Go.Proofs.YtfpmcmhihhnfgaaGreat
open Go.RowKit

theorem rest_turn (W : World) {W1 W' : World} {g g' : Option Nat} {H H' : Hp} (hu : Upd g W1 W' H H') (hH : H.le (hpOf W1)) (hg : g' = g ∨ ∀ b, g' = some b → W1.heap.size ≤ b) : (rest W g H).le (rest W g' H') := fun b o hb => by
  unfold rest at hb ⊢
  split at hb
  · rename_i hh
    have hlt := heap_lt (hH b o hb)
    have hne : g' ≠ some b := fun h => by
      rcases hg with h1 | h1
      · exact hh.2 (h1 ▸ h)
      · have := h1 b h; omega
    rw [if_pos ⟨hh.1, hne⟩, hu.same b hlt hh.2]
    exact hb
  · cases hb
/-- a session of its own is put behind -/
theorem vc_push {W : World} {K : Hp} {p : Option Loc} {n c : Nat} {rows : List (List Value)} {L : List Ses} {g : Option Nat} (ho : Ow K 75 4 p n c rows g) (hg : ∀ b, g = some b → W.heap.size ≤ b) (ha : All2 (SesRow (rest W g K)) rows L) {q : Option Loc} {m d : Nat} {s : Ses} (hk : Kept K q m d s.kept)
    (hb : m ≤ 8796093022208) (hn : n ≤ 1099511627776) {Φ : Option Loc → Nat → Nat → Hp → Prop}
    (next : ∀ p2 c2 g2 rows2 H3, (∀ Hx : Hp, Hx.le K → (∀ b, g = some b → Hx b = none) → Hx.le H3) → Ow H3 75 4 p2 (n + 1) c2 rows2 g2 → (∀ b, g2 = some b → W.heap.size ≤ b) → All2 (SesRow (rest W g2 H3)) rows2 (L ++ [s]) → Φ p2 (n + 1) c2 H3) :
    Cl Tryz.prog W noM K nK 62 #[Value.agg #[vi s.client, vi s.acked, vi s.seen, vsl q m d]] fun z W1 W2 => ∃ x15 : Int, ∃ x16 : Int, ∃ x17 : Int, ∃ x18 : Option Loc, ∃ x19 : Nat, ∃ x20 : Nat, z = .returned (Value.agg #[vi x15, vi x16, vi x17, vsl x18 x19 x20]) ∧ Fr W1 W2 K fun H2 =>
      ∀ b0 : Nat, Es W noM H2 (fun W1 => Kn W noM H2 W1 b0 (Obj.cells #[vi x15, vi x16, vi x17, vsl x18 x19 x20] 75 (0, 0)) ∧ True) fun W3 => ∃ x21 : Option Loc, ∃ x22 : Nat, ∃ x23 : Nat, Eo Tryz.prog (.bi .append #[23, 23] 23) [vsl p n c, Value.slice (some ⟨b0, 0, none⟩) 1 1] W3 (.value (vsl x21 x22 x23)) fun W4 => Tn W noM H2 W3 W4 fun H3 => Φ x21 x22 x23 H3 := by
  refine Cl.fresh (c_ownSes hk hb) ?_
  rintro v W1 W2 D2 ⟨q2, d2, rfl, hq2⟩ hx hD2 hf2 n1
  refine ⟨_, _, _, q2, m, d2, rfl, hx, D2, hD2, hf2, fun H2 h12 hD3 b0 W3 n3 k3 => ?_⟩
  have ho2 : Ow H2 75 4 p n c rows g := ho.mono fun b _ o h => h12 b o h
  obtain ⟨p2, c2, g2, W4, H3, h1, hu, ho3, hg2, _⟩ := run_append1 (P := Tryz.prog) Tryz.underlying23 infoSes (by omega) n3.sub ho2 (row := [vi s.client, vi s.acked, vi s.seen, vsl q2 m d2]) k3.1.eq k3.1.off rfl (fun v hv => by
    simp only [List.mem_cons, List.not_mem_nil, or_false] at hv
    rcases hv with rfl | rfl | rfl | rfl <;> rfl) (by simp only [maxLen]; omega) (by omega) 23
  have hg2' : g2 = g ∨ ∀ b, g2 = some b → W3.heap.size ≤ b := hg2.imp id fun h b hb => by rw [h] at hb; simp only [Option.some.injEq] at hb; omega
  refine ⟨p2, n + 1, c2, W4, h1, H3, hu.own ho2 (fun b hb => .inl (hg b hb)), next p2 c2 g2 _ H3 (fun Hx hx2 hx3 => hu.keep n3.sub (Hp.le_trans hx2 h12) hx3) ho3 (new_turn hg n3.mod.size hg2') ?_⟩
  have hr := rest_turn W hu n3.sub hg2'
  have hD2r : D2.le (rest W g H2) := le_rest hD3 (fun b o h => Nat.le_trans n1.mod.size (hf2 b o h)) (fun b hb => by
    cases hh : D2 b with
    | none => rfl
    | some o => have h1 := hf2 b o hh; have h2 := ho.lt n1.sub b hb; omega)
  exact (ha.mono fun _ _ h => h.mono (Hp.le_trans (rest_mono W g h12) hr)).append (.one ⟨q2, m, d2, rfl, hq2.mono (Hp.le_trans hD2r hr)⟩)
theorem filter_take' (f : Ses → Bool) {l : List Ses} {j : Nat} {s : Ses} (hs : l[j]? = some s) : (l.take (j + 1)).filter f = (l.take j).filter f ++ (if f s = true then [s] else []) := filter_take f hs
/-- the loop of 'without', of 'fresh': those that pass a test, of their own -/
structure Out (W : World) (H K : Hp) (p : Option Loc) (n c : Nat) (L : List Ses) : Prop where
  le : H.le K
  own : ∃ rows g, Ow K 75 4 p n c rows g ∧ (∀ b, g = some b → W.heap.size ≤ b) ∧ All2 (SesRow (rest W g K)) rows L
theorem Out.nil {W : World} (H : Hp) : Out W H H none 0 0 [] := ⟨Hp.le_refl H, [], none, Ow.nil _ _ _ _, fun b h => (by cases h), .nil⟩
theorem Out.fin {W : World} {H K : Hp} {p : Option Loc} {n c : Nat} {L : List Ses} (h : Out W H K p n c L) : ∃ g, OwnTab (newer W K) p n c L g := by
  obtain ⟨rows, g, h1, h2, h3⟩ := h.own
  exact ⟨g, OwnTab.fin h1 h3 (rest_le W g K) (fun b o hb => newer_new W K b o (rest_newer W g K b o hb)) (rest_g W K) h2⟩
theorem Out.len {W : World} {H K : Hp} {p : Option Loc} {n c : Nat} {L : List Ses} (h : Out W H K p n c L) : n = L.length := by
  obtain ⟨rows, g, h1, h2, h3⟩ := h.own
  rw [h1.1, h3.length]
theorem c_without {H : Hp} {p : Option Loc} {n c : Nat} {l : List Ses} (hT : Tab H p n c l) (hs : Small l) (x : Int) : Gf Tryz.prog 43 #[vsl p n c, vi x] H fun v D => ∃ p' n' c' g, v = vsl p' n' c' ∧ OwnTab D p' n' c' (dropT l x) g := fun W hH => by
  have hn := hT.len
  have hsl := hs.len
  refine x_without p n c x noM H W _ hH ⟨fun v K => match v with | [.n k, .p q, .n a, .n d] => k ≤ n ∧ Out W H K q a d (dropT (l.take k) x) | _ => False, fun v => match v with | [.n k, _, _, _] => n - k | _ => 0, ⟨by omega, Out.nil H⟩, fun K j q a d hI => ?_⟩
  rw [map0] at hI
  obtain ⟨hj, hO⟩ := hI
  refine ⟨by omega, fun _ => ⟨fun hlt => ⟨⟨by omega, hlt⟩, fun _ => ?_⟩, fun hge => Rt.gfn ?_⟩⟩
  · obtain ⟨s, q', m, e, hsj, hq, hat, hat1⟩ := (hT.mono hO.le).at' (k := j) (by omega)
    have ht : ((j : Int) + 1).toNat = j + 1 := by omega
    have hal : a ≤ 1099511627776 := by
      have := hO.len
      have h2 : (dropT (l.take j) x).length ≤ (l.take j).length := List.length_filter_le _ _
      rw [List.length_take] at h2
      omega
    refine ⟨hat.isSome, fun _ => ⟨_, hat1, fun h => ?_, fun h => ?_⟩⟩
    · refine ⟨in64 (by omega), fun _ => ⟨by omega, fun _ => ⟨by omega, fun _ => ⟨by omega, fun _ => ?_⟩⟩⟩⟩
      rw [map0, ht]
      refine ⟨⟨by omega, ?_⟩, by simp only; omega⟩
      rw [dropT, filter_take' _ hsj, if_neg (by simpa using h), List.append_nil]
      exact hO
    · refine ⟨_, _, _, q', m, e, hat, ?_⟩
      obtain ⟨hle, rows, g, ho, hg, ha⟩ := hO
      refine vc_push ho hg ha hq (by rw [hq.len]; exact hs.one s (List.mem_of_getElem? hsj)) hal ?_
      intro p2 c2 g2 rows2 H3 hkeep ho3 hg3 ha3
      refine ⟨in64 (by omega), fun _ => ⟨by omega, fun _ => ⟨by omega, fun _ => ⟨by omega, fun _ => ?_⟩⟩⟩⟩
      rw [map0, ht]
      refine ⟨⟨by omega, hkeep H hle (fun b hb => old_none hH (hg b hb)), rows2, g2, ho3, hg3, ?_⟩, by simp only; omega⟩
      rw [dropT, filter_take' _ hsj, if_pos (by simpa using h)]
      exact ha3
  · have e3 : l.take j = l := List.take_of_length_le (by omega)
    rw [e3] at hO
    obtain ⟨g, hg⟩ := hO.fin
    exact ⟨q, a, d, g, rfl, hg⟩
theorem c_rfresh {H : Hp} {p : Option Loc} {n c : Nat} {l : List Ses} (hT : Tab H p n c l) (hs : Small l) {x : Int} (h20 : -4611686018427387904 ≤ x ∧ x ≤ 4611686018427387904) : Gf Tryz.prog 69 #[vsl p n c, vi x] H fun v D => ∃ p' n' c' g, v = vsl p' n' c' ∧ OwnTab D p' n' c' (freshT l x) g := fun W hH => by
  have hn := hT.len
  have hsl := hs.len
  refine x_rfresh p n c x noM H W _ hH ⟨fun v K => match v with | [.n k, .p q, .n a, .n d] => k ≤ n ∧ Out W H K q a d (freshT (l.take k) x) | _ => False, fun v => match v with | [.n k, _, _, _] => n - k | _ => 0, ⟨by omega, Out.nil H⟩, fun K j q a d hI => ?_⟩
  rw [map0] at hI
  obtain ⟨hj, hO⟩ := hI
  refine ⟨by omega, fun _ => ⟨fun hlt => ⟨⟨by omega, hlt⟩, fun _ => ?_⟩, fun hge => Rt.gfn ?_⟩⟩
  · obtain ⟨s, q', m, e, hsj, hq, hat⟩ := (hT.mono hO.le).at (k := j) (by omega)
    have ht : ((j : Int) + 1).toNat = j + 1 := by omega
    have hal : a ≤ 1099511627776 := by
      have := hO.len
      have h2 : (freshT (l.take j) x).length ≤ (l.take j).length := List.length_filter_le _ _
      rw [List.length_take] at h2
      omega
    have h0 := hat (0 + (j : Int) * 4) (by omega)
    refine ⟨h0.1.isSome, fun _ => ⟨by omega, fun _ => ⟨_, h0.2.2.2.1, in64 (by omega), fun _ => ⟨fun h => ?_, fun h => ?_⟩⟩⟩⟩
    · refine ⟨_, _, _, q', m, e, h0.1, ?_⟩
      obtain ⟨hle, rows, g, ho, hg, ha⟩ := hO
      refine vc_push ho hg ha hq (by rw [hq.len]; exact hs.one s (List.mem_of_getElem? hsj)) hal ?_
      intro p2 c2 g2 rows2 H3 hkeep ho3 hg3 ha3
      refine ⟨in64 (by omega), fun _ => ⟨by omega, fun _ => ⟨by omega, fun _ => ⟨by omega, fun _ => ?_⟩⟩⟩⟩
      rw [map0, ht]
      refine ⟨⟨by omega, hkeep H hle (fun b hb => old_none hH (hg b hb)), rows2, g2, ho3, hg3, ?_⟩, by simp only; omega⟩
      rw [freshT, filter_take' _ hsj, if_pos (by simpa using h)]
      exact ha3
    · refine ⟨in64 (by omega), fun _ => ⟨by omega, fun _ => ⟨by omega, fun _ => ⟨by omega, fun _ => ?_⟩⟩⟩⟩
      rw [map0, ht]
      refine ⟨⟨by omega, ?_⟩, by simp only; omega⟩
      rw [freshT, filter_take' _ hsj, if_neg (by simpa using h), List.append_nil]
      exact hO
  · have e3 : l.take j = l := List.take_of_length_le (by omega)
    rw [e3] at hO
    obtain ⟨g, hg⟩ := hO.fin
    exact ⟨q, a, d, g, rfl, hg⟩
theorem ixFrom_spec (x : Int) : ∀ (l : List Ses) (k : Nat), (ixFrom x k l = -1 ∧ hasT l x = false ∧ findT l x = Ses.zero) ∨ ∃ j s, ixFrom x k l = ((k + j : Nat) : Int) ∧ l[j]? = some s ∧ hasT l x = true ∧ findT l x = s
  | [], k => .inl ⟨rfl, rfl, rfl⟩
  | s :: t, k => by
    unfold ixFrom
    split
    · rename_i h
      exact .inr ⟨0, s, by simp, by simp, by simp [hasT, h], by simp [findT, h]⟩
    · rename_i h
      have hh : hasT (s :: t) x = hasT t x := by simp [hasT, h]
      have hf : findT (s :: t) x = findT t x := by simp [findT, h]
      rw [hh, hf]
      rcases ixFrom_spec x t (k + 1) with h1 | ⟨j, u, h1, h2, h3⟩
      · exact .inl h1
      · exact .inr ⟨j + 1, u, by rw [h1]; congr 1; omega, by simpa using h2, h3⟩
end Go.Proofs.YtfpmcmhihhnfgaaGreat
namespace Go.Proofs.YtfpmcmhihhnfgaaGreat
open Go.RowKit

/-- what has been put out before k -/
def putTo (l : List Ses) (s : Ses) (done : Bool) (k : Nat) : List Ses := if done = true then putT (l.take k) s else (l.take k).filter fun x => decide (x.client < s.client)
theorem putT_take {l : List Ses} {s t : Ses} {k : Nat} (ht : l[k]? = some t) (h : s.client ≤ t.client) : putT (l.take (k + 1)) s = putT (l.take k) s ++ (if t.client = s.client then [] else [t]) := by
  unfold putT
  rw [filter_take' _ ht, filter_take' _ ht, if_neg (by simp; omega), List.append_nil, List.append_assoc, List.cons_append]
  congr 3
  by_cases he : t.client = s.client
  · rw [if_neg (by simp; omega), if_pos he]
  · rw [if_pos (by simp; omega), if_neg he]
theorem putT_low {l : List Ses} {s : Ses} (h : ∀ x ∈ l, x.client < s.client) : putT l s = l.filter (fun x => decide (x.client < s.client)) ++ [s] := by
  unfold putT
  congr 1
  rw [List.filter_eq_nil_iff.2 fun x hx => by have := h x hx; simp; omega]
set_option maxHeartbeats 1000000 in
theorem c_putOf {H : Hp} {p : Option Loc} {n c : Nat} {l : List Ses} (hT : Tab H p n c l) {s : Ses} {q0 : Option Loc} {m0 d0 : Nat} (hk : Kept H q0 m0 d0 s.kept) :
    Gf Tryz.prog 71 #[vsl p n c, .agg #[vi s.client, vi s.acked, vi s.seen, vsl q0 m0 d0]] H fun v D => ∃ p' n' c', v = .tuple #[vsl p' n' c', vi (sPut l s).2] ∧ Tab D p' n' c' (sPut l s).1 := fun W hH => by
  have tn : ∀ D : Hp, Tab D none 0 0 [] := fun D => (OwnTab.nil D none).tab
  have hn := hT.len
  refine x_putOf p n c _ _ _ q0 m0 d0 noM H W _ hH fun b0 => ?_
  refine Cl.same (c_tabErr hT) fun _ _ hx => ⟨_, rfl, hx, fun h0 => ?_, fun h0 => Rt.gfn ⟨none, 0, 0, ?_, ?_⟩⟩
  · have hok := tabErr_ok.1 h0
    have hs := Small.of_ok hok
    have hl3 := hok.len
    refine Cl.same (c_oneErr hk) fun _ _ hxo => ⟨_, rfl, hxo, fun he => ?_, fun he => Rt.gfn ⟨none, 0, 0, ?_, ?_⟩⟩
    · have hk3 := kept_len3 he
      have hm0 : m0 ≤ 8796093022208 := by have := hk.len; omega
      refine ⟨fun v K => match v with | [.n k, .b done, .p q, .n a, .n d] => k ≤ n ∧ Out W H K q a d (putTo l s done k) ∧ (done = false → ∀ (j : Nat) (t : Ses), j < k → l[j]? = some t → t.client < s.client) ∧ (done = true → ∀ (j : Nat) (t : Ses), k ≤ j → l[j]? = some t → s.client < t.client) | _ => False,
        fun v => match v with | [.n k, _, _, _, _] => n - k | _ => 0, ⟨by omega, Out.nil H, fun _ j t h => by omega, fun h => by cases h⟩, fun K j done q a d hI => ?_⟩
      rw [map0] at hI
      obtain ⟨hj, hO, hlow, hhigh⟩ := hI
      have hal : a ≤ 4 := by
        have h1 := hO.len
        have h2 : (putTo l s done j).length ≤ (l.take j).length + 1 := by
          unfold putTo
          split
          · have : (putT (l.take j) s).length = ((l.take j).filter fun x => decide (x.client < s.client)).length + (((l.take j).filter fun x => decide (s.client < x.client)).length + 1) := by simp [putT]
            rw [this]
            have h3 : ∀ (L : List Ses), (L.filter fun x => decide (x.client < s.client)).length + (L.filter fun x => decide (s.client < x.client)).length ≤ L.length := by
              intro L
              induction L with
              | nil => simp
              | cons x L ih =>
                simp only [List.filter_cons]
                split <;> split <;> simp only [List.length_cons, decide_eq_true_eq] at * <;> omega
            have := h3 (l.take j)
            omega
          · have := List.length_filter_le (fun x : Ses => decide (x.client < s.client)) (l.take j)
            omega
        rw [List.length_take] at h2
        omega
      refine ⟨by omega, fun _ => ⟨fun hlt => ?_, fun hge => ?_⟩⟩
      · obtain ⟨t, q', m, e, htj, hq, hat, hat1⟩ := (hT.mono hO.le).at' (k := j) (by omega)
        have htn : ((j : Int) + 1).toNat = j + 1 := by omega
        have hmt : m ≤ 8796093022208 := by rw [hq.len]; exact hs.one t (List.mem_of_getElem? htj)
        have hjl := (List.getElem?_eq_some_iff.1 htj).1
        have hlater : ∀ (i : Nat) (u : Ses), j + 1 ≤ i → l[i]? = some u → t.client < u.client := fun i u hi hu => by
          have hil := (List.getElem?_eq_some_iff.1 hu).1
          have := List.pairwise_iff_getElem.1 hok.ord j i hjl hil (by omega)
          rw [(List.getElem?_eq_some_iff.1 htj).2, (List.getElem?_eq_some_iff.1 hu).2] at this
          exact this
        refine ⟨fun hd => ?_, fun hd => ?_⟩
        · -- it has been put
          have hgt := hhigh hd j t (Nat.le_refl _) htj
          subst hd
          have hnx : ∀ (i : Nat) (u : Ses), j + 1 ≤ i → l[i]? = some u → s.client < u.client := fun i u hi hu => hhigh rfl i u (by omega) hu
          refine ⟨⟨by omega, hlt⟩, fun _ => ⟨hat.isSome, fun _ => ⟨_, hat1, fun h => absurd h (by omega), fun h => ⟨_, _, _, q', m, e, hat, ?_⟩⟩⟩⟩
          obtain ⟨hle, rows, g, ho, hg, ha⟩ := hO
          refine vc_push ho hg ha hq hmt (by omega) ?_
          intro p2 c2 g2 rows2 H3 hkeep ho3 hg3 ha3
          refine ⟨in64 (by omega), fun _ => ⟨by omega, fun _ => ⟨by omega, fun _ => ⟨by omega, fun _ => ?_⟩⟩⟩⟩
          rw [map0, htn]
          refine ⟨⟨by omega, ⟨hkeep H hle (fun b hb => old_none hH (hg b hb)), rows2, g2, ho3, hg3, ?_⟩, fun h => (by cases h), fun _ => hnx⟩, by simp only; omega⟩
          simp only [putTo, if_true] at ha3 ⊢
          rw [putT_take htj (by omega), if_neg (by omega)]
          exact ha3
        · have hd' : done = false := by simpa using hd
          subst hd'
          have hlow' := hlow rfl
          refine ⟨⟨by omega, hlt⟩, fun _ => ⟨hat.isSome, fun _ => ⟨_, hat1, fun hge => ?_, fun hls => ⟨_, hat1, fun h => absurd h (by omega), fun h => ⟨_, _, _, q', m, e, hat, ?_⟩⟩⟩⟩⟩
          · -- here it is put
            have hkK : Kept K q0 m0 d0 s.kept := hk.mono hO.le
            have hltake : ∀ x ∈ l.take j, x.client < s.client := fun x hx => by
              obtain ⟨i, hi⟩ := List.mem_iff_getElem?.1 hx
              rw [List.getElem?_take] at hi
              split at hi
              · rename_i hij; exact hlow' i x hij hi
              · cases hi
            obtain ⟨hle, rows, g, ho, hg, ha⟩ := hO
            refine vc_push ho hg ha hkK hm0 (by omega) ?_
            intro p2 c2 g2 rows2 H3 hkeep ho3 hg3 ha3
            have hle3 := hkeep H hle (fun b hb => old_none hH (hg b hb))
            obtain ⟨t3, q3, m3, e3, ht3, hq3, hat3, hat31⟩ := (hT.mono hle3).at' (k := j) (by omega)
            rw [htj] at ht3
            simp only [Option.some.injEq] at ht3
            subst ht3
            have hL : putTo l s false j ++ [s] = putT (l.take j) s := by simp only [putTo, Bool.false_eq_true, if_false]; rw [putT_low hltake]
            rw [hL] at ha3
            refine ⟨_, hat31, fun h => ⟨in64 (by omega), fun _ => ⟨by omega, fun _ => ⟨by omega, fun _ => ⟨by omega, fun _ => ?_⟩⟩⟩⟩, fun h => ⟨_, _, _, q3, m3, e3, hat3, ?_⟩⟩
            · rw [map0, htn]
              refine ⟨⟨by omega, ⟨hle3, rows2, g2, ho3, hg3, ?_⟩, fun h => (by cases h), fun _ i u hi hu => by have := hlater i u hi hu; omega⟩, by simp only; omega⟩
              simp only [putTo, if_true]
              rw [putT_take htj (by omega), if_pos h, List.append_nil]
              exact ha3
            · refine vc_push ho3 hg3 ha3 hq3 (by rw [hq3.len]; exact hs.one t (List.mem_of_getElem? htj)) (by omega) ?_
              intro p4 c4 g4 rows4 H5 hkeep5 ho5 hg5 ha5
              refine ⟨in64 (by omega), fun _ => ⟨by omega, fun _ => ⟨by omega, fun _ => ⟨by omega, fun _ => ?_⟩⟩⟩⟩
              rw [map0, htn]
              refine ⟨⟨by omega, ⟨hkeep5 H hle3 (fun b hb => old_none hH (hg3 b hb)), rows4, g4, ho5, hg5, ?_⟩, fun h => (by cases h), fun _ i u hi hu => by have := hlater i u hi hu; omega⟩, by simp only; omega⟩
              simp only [putTo, if_true]
              rw [putT_take htj (by omega), if_neg h]
              exact ha5
          · -- not yet
            obtain ⟨hle, rows, g, ho, hg, ha⟩ := hO
            refine vc_push ho hg ha hq hmt (by omega) ?_
            intro p2 c2 g2 rows2 H3 hkeep ho3 hg3 ha3
            refine ⟨in64 (by omega), fun _ => ⟨by omega, fun _ => ⟨by omega, fun _ => ⟨by omega, fun _ => ?_⟩⟩⟩⟩
            rw [map0, htn]
            refine ⟨⟨by omega, ⟨hkeep H hle (fun b hb => old_none hH (hg b hb)), rows2, g2, ho3, hg3, ?_⟩, fun _ i u hi hu => ?_, fun h => (by cases h)⟩, by simp only; omega⟩
            · simp only [putTo, Bool.false_eq_true, if_false] at ha3 ⊢
              rw [filter_take' _ htj, if_pos (by simp; omega)]
              exact ha3
            · rcases Nat.eq_or_lt_of_le (Nat.le_of_lt_succ hi) with rfl | h2
              · rw [htj] at hu; simp only [Option.some.injEq] at hu; rw [← hu]; omega
              · exact hlow' i u h2 hu
      · have hjn : j = n := by omega
        have e3 : l.take j = l := List.take_of_length_le (by omega)
        refine ⟨fun hd => ?_, fun hd => ?_⟩
        · subst hd
          have hlen := hO.len
          simp only [putTo, if_true, e3] at hO hlen
          obtain ⟨g, hO2⟩ := hO.fin
          refine ⟨by omega, fun _ => ⟨fun h => Rt.gfn ⟨none, 0, 0, ?_, ?_⟩, fun h => Rt.gfn ⟨q, a, d, ?_, ?_⟩⟩⟩
          · rw [sPut, if_pos h0, if_pos he, if_pos (by omega)]; rfl
          · rw [sPut, if_pos h0, if_pos he, if_pos (by omega)]; exact tn _
          · rw [sPut, if_pos h0, if_pos he, if_neg (by omega)]
          · rw [sPut, if_pos h0, if_pos he, if_neg (by omega)]; exact hO2.tab
        · have hd' : done = false := by simpa using hd
          subst hd'
          have hlow' := hlow rfl
          have hall : ∀ x ∈ l, x.client < s.client := fun x hx => by
            obtain ⟨i, hi⟩ := List.mem_iff_getElem?.1 hx
            exact hlow' i x (by have := (List.getElem?_eq_some_iff.1 hi).1; omega) hi
          have hkK : Kept K q0 m0 d0 s.kept := hk.mono hO.le
          have hlen := hO.len
          obtain ⟨hle, rows, g, ho, hg, ha⟩ := hO
          refine vc_push ho hg ha hkK hm0 (by omega) ?_
          intro p2 c2 g2 rows2 H3 hkeep ho3 hg3 ha3
          have hL : putTo l s false j ++ [s] = putT l s := by simp only [putTo, Bool.false_eq_true, if_false, e3]; rw [putT_low hall]
          have hlen2 : a + 1 = (putT l s).length := by rw [← hL, hlen]; simp
          rw [hL] at ha3
          obtain ⟨g5, hO2⟩ := (Out.mk (hkeep H hle (fun b hb => old_none hH (hg b hb))) ⟨rows2, g2, ho3, hg3, ha3⟩).fin
          refine ⟨by omega, fun _ => ⟨fun h => Rt.gfn ⟨none, 0, 0, ?_, ?_⟩, fun h => Rt.gfn ⟨p2, a + 1, c2, ?_, ?_⟩⟩⟩
          · rw [sPut, if_pos h0, if_pos he, if_pos (by omega)]; rfl
          · rw [sPut, if_pos h0, if_pos he, if_pos (by omega)]; exact tn _
          · rw [sPut, if_pos h0, if_pos he, if_neg (by omega)]
          · rw [sPut, if_pos h0, if_pos he, if_neg (by omega)]; exact hO2.tab
    · rw [sPut, if_pos h0, if_neg he]; rfl
    · rw [sPut, if_pos h0, if_neg he]; exact tn _
  · rw [sPut, if_neg h0]; rfl
  · rw [sPut, if_neg h0]; exact tn _
end Go.Proofs.YtfpmcmhihhnfgaaGreat
