/- Entries folded in two goes. No conditions. (Of FoldL, for seats without its laws.) -/
import Derived.Test.YtoilhpkclabhoaaKF2
set_option linter.unusedVariables false
set_option linter.unusedSimpArgs false
namespace Go.Proofs.Ytoilhpkclabhoaa
open Go.RowKit
theorem Ents.drop {H : Hp} {p : Option Loc} {n c : Nat} {l : List Ent} (h : Ents H p n c l) (k : Nat) (hk : k ≤ n) :
    ∃ p', Value.slice (ptrAt p (0 + (if (c : Int) = (k : Int) then 0 else (k : Int) * ((9 : Nat) : Int)))) (((n : Int) - (k : Int)) : Int).toNat (((c : Int) - (k : Int)) : Int).toNat = vsl p' (n - k) (c - k) ∧ Ents H p' (n - k) (c - k) (l.drop k) := by
  have e1 : (((n : Int) - (k : Int)) : Int).toNat = n - k := by omega
  have e2 : (((c : Int) - (k : Int)) : Int).toNat = c - k := by omega
  have hn := h.len
  refine ⟨shiftP p ((0 + (if (c : Int) = (k : Int) then 0 else (k : Int) * ((9 : Nat) : Int))).toNat), by rw [e1, e2, ptrAt_shift], Nat.sub_le_sub_right h.1 k, Nat.le_trans (Nat.sub_le _ _) h.2.1, ?_, fun e he => h.2.2.2 e (List.mem_of_mem_drop he)⟩
  rcases Nat.eq_or_lt_of_le hk with h0 | h0
  · subst h0
    rw [List.drop_of_length_le (by omega), Nat.sub_self]
    exact Rows.nil _ _ _
  · rw [if_neg (by have := h.1; omega)]
    have h2 := h.2.2.1.part k n hk (Nat.le_refl _)
    rw [show (0 + (k : Int) * ((9 : Nat) : Int)).toNat = k * 9 by omega]
    rw [← List.map_drop, List.take_of_length_le (by simp; omega)] at h2
    exact h2
theorem sAll_done {s : Sta} {l : List Ent} (h : (sAll s l).2.2 = 0) : StOk s ∧ (∀ e ∈ l, EntOk e) ∧ s.pos + l.length ≤ 50 ∧ sAll s l = (foldS s l, foldA s l, 0) := by
  by_cases h0 : s.err = 0
  · by_cases h1 : entsErr l = 0
    · by_cases h2 : 50 < s.pos + (l.length : Int)
      · rw [sAll_many h0 h1 h2] at h; cases h
      · exact ⟨Sta.err_ok.1 h0, (entsErr_ok.1 h1).2, by omega, sAll_ok h0 h1 h2⟩
    · rw [sAll_ents h0 h1] at h; exact absurd h h1
  · rw [sAll_err h0] at h; exact absurd h h0
theorem sAll_of {s : Sta} {l : List Ent} (hs : StOk s) (hl : ∀ e ∈ l, EntOk e) (hp : s.pos + l.length ≤ 50) : sAll s l = (foldS s l, foldA s l, 0) := sAll_ok (Sta.err_ok.2 hs) (entsErr_ok.2 ⟨by have := hs.pos; omega, hl⟩) (by omega)
/-- in how many goes -/
theorem fold_split {s : Sta} {l : List Ent} (h : (sAll s l).2.2 = 0) {k : Nat} (hk : k ≤ l.length) :
    sAll s (l.take k) = (foldS s (l.take k), foldA s (l.take k), 0) ∧ sAll (foldS s (l.take k)) (l.drop k) = ((sAll s l).1, foldA (foldS s (l.take k)) (l.drop k), 0) ∧ (sAll s l).2.1 = foldA s (l.take k) ++ foldA (foldS s (l.take k)) (l.drop k) ∧ (sAll s l).1.err = 0 := by
  obtain ⟨hs, hl, hp, he⟩ := sAll_done h
  have ht : (l.take k).length = k := by simp; omega
  have hd : (l.drop k).length = l.length - k := by simp
  have hl1 : ∀ e ∈ l.take k, EntOk e := fun e he => hl e (List.mem_of_mem_take he)
  have hl2 : ∀ e ∈ l.drop k, EntOk e := fun e he => hl e (List.mem_of_mem_drop he)
  obtain ⟨o1, q1⟩ := foldS_ok hs hl1 (by rw [ht]; omega)
  rw [ht] at q1
  refine ⟨sAll_of hs hl1 (by rw [ht]; omega), ?_, ?_, ?_⟩
  · rw [sAll_of o1 hl2 (by rw [q1, hd]; omega), he, ← foldS_append, List.take_append_drop]
  · rw [he, ← foldA_append, List.take_append_drop]
  · rw [he]; exact Sta.err_ok.2 (foldS_ok hs hl hp).1
/-- two lists of ints put together, in new memory -/
theorem foldA_le {s : Sta} {l : List Ent} {H : Hp} {p : Option Loc} {n c : Nat} {k : Nat} (h : Ints H p n c (foldA s l)) (hl : l.length ≤ k) : n ≤ k := by rw [h.len, foldA_len]; exact hl
end Go.Proofs.Ytoilhpkclabhoaa
