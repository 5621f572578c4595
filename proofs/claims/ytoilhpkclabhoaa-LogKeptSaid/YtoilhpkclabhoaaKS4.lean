/- Plain laws of tables. No program in sight. No conditions. Contracts of package sess. No conditions. Contracts of package sess: Find, Put. No conditions. Contracts of the document's answer: what finds, drops, puts, is fresh. No conditions. Contracts of the document's answer: Put. No conditions. -/
import Derived.Test.YtoilhpkclabhoaaKD1
import Derived.Test.YtoilhpkclabhoaaKS3
set_option linter.unusedVariables false
set_option linter.unusedSimpArgs false
namespace Go.Proofs.Ytoilhpkclabhoaa

abbrev Inc (l : List Ses) : Prop := l.Pairwise fun a b => a.client < b.client
/-- a table in order, cut at a client -/
theorem split_at (c : Int) : ∀ (l : List Ses), Inc l → l.take (posT l c) = l.filter (fun x => decide (x.client < c)) ∧ l.drop (posT l c + if hasT l c = true then 1 else 0) = l.filter (fun x => decide (c < x.client)) ∧
    (hasT l c = true → ∃ s, l[posT l c]? = some s ∧ s.client = c ∧ findT l c = s) ∧ dropT l c = l.filter (fun x => decide (x.client < c)) ++ l.filter (fun x => decide (c < x.client)) ∧ (hasT l c = false → findT l c = Ses.zero ∧ dropT l c = l)
  | [], _ => by simp [posT, hasT, dropT, findT]
  | s :: t, h => by
    rw [Inc, List.pairwise_cons] at h
    obtain ⟨i1, i2, i3, i4, i5⟩ := split_at c t h.2
    rcases Int.lt_trichotomy s.client c with hlt | heq | hgt
    · have hp : posT (s :: t) c = posT t c + 1 := by simp [posT, hlt]
      have hh : hasT (s :: t) c = hasT t c := by
        have : s.client ≠ c := by omega
        simp [hasT, this]
      have hf : findT (s :: t) c = findT t c := by
        have : s.client ≠ c := by omega
        simp [findT, this]
      have hng : ¬ c < s.client := by omega
      have hne : s.client ≠ c := by omega
      refine ⟨?_, ?_, fun hx => ?_, ?_, fun hx => ?_⟩
      · rw [hp, List.take_succ_cons, i1]; simp [hlt]
      · rw [hp, hh, show posT t c + 1 + (if hasT t c = true then 1 else 0) = (posT t c + if hasT t c = true then 1 else 0) + 1 by omega, List.drop_succ_cons, i2]; simp [hng]
      · rw [hp, hf]
        rw [hh] at hx
        simpa using i3 hx
      · rw [dropT] at i4
        rw [dropT, List.filter_cons, if_pos (by simpa using hne), i4, List.filter_cons, if_pos (by simpa using hlt), List.filter_cons, if_neg (by simpa using hng)]
        rfl
      · rw [hh] at hx
        obtain ⟨j1, j2⟩ := i5 hx
        refine ⟨by rw [hf, j1], ?_⟩
        rw [dropT] at j2
        rw [dropT, List.filter_cons, if_pos (by simpa using hne), j2]
    · have hall : ∀ x ∈ t, c < x.client := fun x hx => by have := h.1 x hx; omega
      have hz : t.filter (fun x => decide (x.client < c)) = [] := List.filter_eq_nil_iff.2 fun x hx => by have := hall x hx; simp; omega
      have hy : t.filter (fun x => decide (c < x.client)) = t := List.filter_eq_self.2 fun x hx => by have := hall x hx; simpa using this
      have hd : t.filter (fun x => decide (x.client ≠ c)) = t := List.filter_eq_self.2 fun x hx => by have := hall x hx; simp; omega
      have hp : posT (s :: t) c = 0 := by simp [posT, heq, hz]
      have hh : hasT (s :: t) c = true := by simp [hasT, heq]
      have h1 : ¬ s.client < c := by omega
      have h2 : ¬ c < s.client := by omega
      refine ⟨?_, ?_, fun _ => ⟨s, ?_, heq, ?_⟩, ?_, fun hx => (by rw [hh] at hx; cases hx)⟩
      · rw [hp]; simp [h1, hz]
      · rw [hp, hh]; simp [h2, hy]
      · rw [hp]; rfl
      · simp [findT, heq]
      · rw [dropT, List.filter_cons, if_neg (by simpa using heq), hd, List.filter_cons, if_neg (by simpa using h1), hz, List.filter_cons, if_neg (by simpa using h2), hy]
        rfl
    · have hall : ∀ x ∈ t, c < x.client := fun x hx => by have := h.1 x hx; omega
      have hz : t.filter (fun x => decide (x.client < c)) = [] := List.filter_eq_nil_iff.2 fun x hx => by have := hall x hx; simp; omega
      have hy : t.filter (fun x => decide (c < x.client)) = t := List.filter_eq_self.2 fun x hx => by have := hall x hx; simpa using this
      have hd : t.filter (fun x => decide (x.client ≠ c)) = t := List.filter_eq_self.2 fun x hx => by have := hall x hx; simp; omega
      have h1 : ¬ s.client < c := by omega
      have hne : s.client ≠ c := by omega
      have hp : posT (s :: t) c = 0 := by simp [posT, h1, hz]
      have hh : hasT (s :: t) c = false := by
        simp only [hasT, List.any_cons, Bool.or_eq_false_iff, decide_eq_false_iff_not, List.any_eq_false, decide_eq_true_eq]
        exact ⟨hne, fun x hx => by have := hall x hx; omega⟩
      refine ⟨?_, ?_, fun hx => (by rw [hh] at hx; cases hx), ?_, fun _ => ⟨?_, ?_⟩⟩
      · rw [hp]; simp [h1, hz]
      · rw [hp, hh]; simp [hgt, hy]
      · rw [dropT, List.filter_cons, if_pos (by simpa using hne), hd, List.filter_cons, if_neg (by simpa using h1), hz, List.filter_cons, if_pos (by simpa using hgt), hy]
        rfl
      · have : (s :: t).find? (fun x => decide (x.client = c)) = none := List.find?_eq_none.2 fun x hx => by
          rcases List.mem_cons.1 hx with rfl | hx
          · simpa using hne
          · have := hall x hx; simp; omega
        simp [findT, this]
      · rw [dropT, List.filter_cons, if_pos (by simpa using hne), hd]
theorem put_has {l : List Ses} (h : Inc l) {s : Ses} (hh : hasT l s.client = true) : (l.take (posT l s.client) ++ l.drop (posT l s.client + 1)).take (posT l s.client) ++ s :: (l.take (posT l s.client) ++ l.drop (posT l s.client + 1)).drop (posT l s.client) = putT l s := by
  obtain ⟨i1, i2, i3, _, _⟩ := split_at s.client l h
  rw [hh] at i2
  simp only [if_true] at i2
  obtain ⟨x, hx, _⟩ := i3 hh
  have hlen : (l.take (posT l s.client)).length = posT l s.client := by
    have := (List.getElem?_eq_some_iff.1 hx).1
    simp; omega
  have e1 : (l.take (posT l s.client) ++ l.drop (posT l s.client + 1)).take (posT l s.client) = l.take (posT l s.client) := by
    conv => lhs; rw [List.take_append, hlen, Nat.sub_self, List.take_zero, List.append_nil, List.take_of_length_le (by omega)]
  have e2 : (l.take (posT l s.client) ++ l.drop (posT l s.client + 1)).drop (posT l s.client) = l.drop (posT l s.client + 1) := by
    conv => lhs; rw [List.drop_append, hlen, Nat.sub_self, List.drop_zero, List.drop_of_length_le (by omega), List.nil_append]
  rw [e1, e2, i1, i2]
  rfl
theorem put_not {l : List Ses} (h : Inc l) {s : Ses} (hh : hasT l s.client = false) : l.take (posT l s.client) ++ s :: l.drop (posT l s.client) = putT l s := by
  obtain ⟨i1, i2, _, _, _⟩ := split_at s.client l h
  rw [hh] at i2
  simp only [Bool.false_eq_true, if_false, Nat.add_zero] at i2
  rw [i1, i2]
  rfl
theorem pos_le (l : List Ses) (c : Int) : posT l c ≤ l.length := List.length_filter_le _ _
theorem pos_lt {l : List Ses} (h : Inc l) {c : Int} (hh : hasT l c = true) : posT l c < l.length := by
  obtain ⟨_, _, i3, _, _⟩ := split_at c l h
  obtain ⟨x, hx, _⟩ := i3 hh
  exact (List.getElem?_eq_some_iff.1 hx).1
theorem put_len {l : List Ses} (h : Inc l) (s : Ses) : (putT l s).length = l.length + (if hasT l s.client = true then 0 else 1) := by
  cases hh : hasT l s.client with
  | true =>
    rw [← put_has h hh]
    have := pos_lt h hh
    simp; omega
  | false =>
    rw [← put_not h hh]
    have := pos_le l s.client
    simp; omega
end Go.Proofs.Ytoilhpkclabhoaa
namespace Go.Proofs.Ytoilhpkclabhoaa
open Go.RowKit

theorem OwnTab.fin {W : World} {H Dk : Hp} {p : Option Loc} {n c : Nat} {rows : List (List Value)} {l : List Ses} {g : Option Nat} (ho : Ow H 59 4 p n c rows g) (ha : All2 (SesRow Dk) rows l) (hD : Dk.le H) (hf : ∀ b o, Dk b = some o → W.heap.size ≤ b) (hg : ∀ b, g = some b → Dk b = none) (hn : ∀ b, g = some b → W.heap.size ≤ b) :
    OwnTab (newer W H) p n c l g := ⟨rows, Dk, ho.new hn, le_newer hD hf, hg, ha⟩
theorem OwnTab.nil (D : Hp) (p : Option Loc) : OwnTab D p 0 0 [] none := ⟨[], noH, Ow.nil _ _ _ _, noH_le _, fun b h => (by cases h), .nil⟩
end Go.Proofs.Ytoilhpkclabhoaa
namespace Go.Proofs.Ytoilhpkclabhoaa
open Go.RowKit

theorem Tab.one {H : Hp} {p : Option Loc} {n c : Nat} {l : List Ses} (h : Tab H p n c l) {k : Nat} {s : Ses} (hs : l[k]? = some s) : Tab H (tailP p c k 4) 1 (c - k) [s] := by
  have hn := h.len
  have hk := (List.getElem?_eq_some_iff.1 hs).1
  obtain ⟨h1, h2, rows, h3, h4⟩ := h
  obtain ⟨row, hr, hrs⟩ := h4.get' hs
  refine ⟨by omega, by omega, [row], ?_, .one hrs⟩
  have := h3.tail (lo := k) (c := c) (by omega) h1
  have h5 := this.take 1 (by omega)
  rw [drop_cons hr] at h5
  exact h5
def Ses.val (s : Ses) (v : Value) : Value := .agg #[vi s.client, vi s.acked, vi s.seen, v]
end Go.Proofs.Ytoilhpkclabhoaa
namespace Go.Proofs.Ytoilhpkclabhoaa
open Go.RowKit

/-- the loop of 'without', of 'fresh': those that pass a test, of their own -/
structure Out (W : World) (H K : Hp) (p : Option Loc) (n c : Nat) (L : List Ses) : Prop where
  le : H.le K
  own : ∃ rows g, Ow K 59 4 p n c rows g ∧ (∀ b, g = some b → W.heap.size ≤ b) ∧ All2 (SesRow (rest W g K)) rows L
theorem Out.nil {W : World} (H : Hp) : Out W H H none 0 0 [] := ⟨Hp.le_refl H, [], none, Ow.nil _ _ _ _, fun b h => (by cases h), .nil⟩
theorem Out.fin {W : World} {H K : Hp} {p : Option Loc} {n c : Nat} {L : List Ses} (h : Out W H K p n c L) : ∃ g, OwnTab (newer W K) p n c L g := by
  obtain ⟨rows, g, h1, h2, h3⟩ := h.own
  exact ⟨g, OwnTab.fin h1 h3 (rest_le W g K) (fun b o hb => newer_new W K b o (rest_newer W g K b o hb)) (rest_g W K) h2⟩
theorem Out.len {W : World} {H K : Hp} {p : Option Loc} {n c : Nat} {L : List Ses} (h : Out W H K p n c L) : n = L.length := by
  obtain ⟨rows, g, h1, h2, h3⟩ := h.own
  rw [h1.1, h3.length]
end Go.Proofs.Ytoilhpkclabhoaa
namespace Go.Proofs.Ytoilhpkclabhoaa
open Go.RowKit

end Go.Proofs.Ytoilhpkclabhoaa
