/- Entries one behind the other, as the document says it, over plain data. No program in sight. No conditions. Entries in memory, one behind the other. No conditions. -/
import Derived.Test.YtfpmcmhihhnfgaaGreatKA1
import Derived.Test.YtfpmcmhihhnfgaaGreatKT1
import Derived.Test.YtfpmcmhihhnfgaaGreatKI1
set_option linter.unusedVariables false
set_option linter.unusedSimpArgs false
namespace Go.Proofs.YtfpmcmhihhnfgaaGreat

def foldS : Sta → List Ent → Sta
  | s, [] => s
  | s, e :: l => foldS (s.apply e).1 l
def foldA : Sta → List Ent → List Int
  | _, [] => []
  | s, e :: l => (s.apply e).2.1 :: foldA (s.apply e).1 l
def foldB : Sta → List Ent → List Bool
  | _, [] => []
  | s, e :: l => (s.apply e).2.2 :: foldB (s.apply e).1 l
def badEnt : List Ent → Int
  | [] => 0
  | e :: l => if e.err = 0 then badEnt l else e.err
def entsErr (l : List Ent) : Int := if 50 < l.length then 2 else badEnt l
theorem foldS_append (a b : List Ent) : ∀ s, foldS s (a ++ b) = foldS (foldS s a) b := by
  induction a with
  | nil => intro s; rfl
  | cons e a ih => intro s; exact ih _
theorem foldA_append (a b : List Ent) : ∀ s, foldA s (a ++ b) = foldA s a ++ foldA (foldS s a) b := by
  induction a with
  | nil => intro s; rfl
  | cons e a ih => intro s; simp only [List.cons_append, foldA, ih]; rfl
theorem foldB_append (a b : List Ent) : ∀ s, foldB s (a ++ b) = foldB s a ++ foldB (foldS s a) b := by
  induction a with
  | nil => intro s; rfl
  | cons e a ih => intro s; simp only [List.cons_append, foldB, ih]; rfl
theorem foldA_len : ∀ (l : List Ent) s, (foldA s l).length = l.length
  | [], _ => rfl
  | e :: l, s => by simp [foldA, foldA_len l]
theorem badEnt_ok : ∀ {l : List Ent}, badEnt l = 0 ↔ ∀ e ∈ l, EntOk e
  | [] => by simp [badEnt]
  | e :: l => by
    unfold badEnt
    split
    · rename_i h
      rw [badEnt_ok]
      simp [Ent.err_ok.1 h]
    · rename_i h
      simp only [List.mem_cons, forall_eq_or_imp]
      exact ⟨fun hh => absurd hh h, fun hh => absurd (Ent.err_ok.2 hh.1) h⟩
theorem entsErr_ok {l : List Ent} : entsErr l = 0 ↔ l.length ≤ 50 ∧ ∀ e ∈ l, EntOk e := by
  unfold entsErr
  split
  · constructor
    · intro h; cases h
    · intro h; omega
  · rw [badEnt_ok]
    exact ⟨fun h => ⟨by omega, h⟩, fun h => h.2⟩
theorem foldS_ok : ∀ {l : List Ent} {s : Sta}, StOk s → (∀ e ∈ l, EntOk e) → s.pos + l.length ≤ 50 → StOk (foldS s l) ∧ (foldS s l).pos = s.pos + l.length
  | [], s, h, _, _ => ⟨h, by simp [foldS]⟩
  | e :: l, s, h, hl, hp => by
    simp only [List.length_cons] at hp ⊢
    have hp1 := apply_pos s e
    obtain ⟨h1, h2⟩ := foldS_ok (l := l) (s := (s.apply e).1) (Sta.apply_ok h (hl e (List.mem_cons_self ..)) (by omega)) (fun x hx => hl x (List.mem_cons_of_mem _ hx)) (by omega)
    exact ⟨h1, by rw [foldS, h2, hp1]; omega⟩
theorem take_at {α : Type} {l : List α} {k : Nat} {x : α} (h : l[k]? = some x) : l.take (k + 1) = l.take k ++ [x] := by
  rw [List.take_add_one, h]; rfl
theorem foldS_at {l : List Ent} {k : Nat} {e : Ent} (h : l[k]? = some e) (s : Sta) : foldS s (l.take (k + 1)) = ((foldS s (l.take k)).apply e).1 := by rw [take_at h, foldS_append]; rfl
theorem foldA_at {l : List Ent} {k : Nat} {e : Ent} (h : l[k]? = some e) (s : Sta) : foldA s (l.take (k + 1)) = foldA s (l.take k) ++ [((foldS s (l.take k)).apply e).2.1] := by rw [take_at h, foldA_append]; rfl
theorem foldB_at {l : List Ent} {k : Nat} {e : Ent} (h : l[k]? = some e) (s : Sta) : foldB s (l.take (k + 1)) = foldB s (l.take k) ++ [((foldS s (l.take k)).apply e).2.2] := by rw [take_at h, foldB_append]; rfl
theorem fold_at_ok {l : List Ent} {s : Sta} (h : StOk s) (hl : ∀ e ∈ l, EntOk e) (hp : s.pos + l.length ≤ 50) {k : Nat} (hk : k < l.length) : StOk (foldS s (l.take k)) ∧ (foldS s (l.take k)).pos < 50 := by
  have hlen : (l.take k).length = k := by simp; omega
  obtain ⟨h1, h2⟩ := foldS_ok (l := l.take k) h (fun e he => hl e (List.mem_of_mem_take he)) (by rw [hlen]; omega)
  exact ⟨h1, by rw [h2, hlen]; omega⟩
end Go.Proofs.YtfpmcmhihhnfgaaGreat
namespace Go.Proofs.YtfpmcmhihhnfgaaGreat
open Go.RowKit
open Classical
def Ent.row (e : Ent) : List Value := [vi e.kind, vi e.time, vi e.client, vi e.seq, vi e.ack, vi e.op.kind, vi e.op.key, vi e.op.to, vi e.op.n]
def Ent.in64 (e : Ent) : Prop := -9223372036854775808 ≤ e.seq ∧ e.seq ≤ 9223372036854775807
def Ents (H : Hp) (p : Option Loc) (n c : Nat) (l : List Ent) : Prop := n ≤ c ∧ c ≤ maxLen ∧ Rows H p n 9 (l.map Ent.row) ∧ ∀ e ∈ l, e.in64
section
variable {H K : Hp} {p : Option Loc} {n c : Nat} {l : List Ent}
theorem Ents.mono (h : Ents H p n c l) (hk : H.le K) : Ents K p n c l := ⟨h.1, h.2.1, h.2.2.1.mono hk, h.2.2.2⟩
theorem Ents.len (h : Ents H p n c l) : n = l.length := by simpa using h.2.2.1.len
theorem Ents.lt63 (h : Ents H p n c l) : (n : Int) ≤ 9223372036854775807 := by have := h.1; have := h.2.1; simp only [maxLen] at this; omega
theorem Ents.nil (H : Hp) (p : Option Loc) : Ents H p 0 0 [] := ⟨Nat.le_refl _, by simp [maxLen], Rows.nil _ _ _, fun e h => by simp at h⟩
theorem Ents.at (h : Ents H p n c l) {k : Nat} (hk : k < n) : ∃ e : Ent, l[k]? = some e ∧ RowAt H p (0 + (k : Int) * 9) [vi e.kind, vi e.time, vi e.client, vi e.seq, vi e.ack, vi e.op.kind, vi e.op.key, vi e.op.to, vi e.op.n] ∧ e.in64 := by
  obtain ⟨row, h1, _, h3⟩ := h.2.2.1.at hk (off := 0 + (k : Int) * 9) (by omega)
  rw [List.getElem?_map, Option.map_eq_some_iff] at h1
  obtain ⟨x, hx, rfl⟩ := h1
  exact ⟨x, hx, h3, h.2.2.2 x (List.mem_of_getElem? hx)⟩
theorem ones_E (l : List Ent) : ∀ r ∈ l.map Ent.row, ∀ v ∈ r, v.oneCell' = true := fun r hr v hv => by
  obtain ⟨x, _, rfl⟩ := List.mem_map.1 hr
  simp only [Ent.row, List.mem_cons, List.not_mem_nil, or_false] at hv
  rcases hv with rfl | rfl | rfl | rfl | rfl | rfl | rfl | rfl | rfl <;> rfl
theorem Ents.of_ow {g : Option Nat} (h : Ow H 35 9 p n c (l.map Ent.row) g) (h64 : ∀ e ∈ l, e.in64) : Ents H p n c l := ⟨h.2.2.1, h.2.2.2.1, h.rows, h64⟩
theorem Ents.take (h : Ents H p n c l) (k : Nat) (hk : k ≤ n) : Ents H p k c (l.take k) := ⟨Nat.le_trans hk h.1, h.2.1, by rw [List.map_take]; exact h.2.2.1.take k hk, fun e he => h.2.2.2 e (List.mem_of_mem_take he)⟩
theorem Ow.keep {W W' : World} {H H' : Hp} {g g2 : Option Nat} {e w n c : Nat} {p : Option Loc} {rows : List (List Value)} (h : Ow H e w p n c rows g2) (hu : Upd g W W' H H') (hH : H.le (hpOf W)) (hne : ∀ b, g2 = some b → g ≠ some b) : Ow H' e w p n c rows g2 :=
  h.mono fun b hb o ho => by rw [hu.same b (heap_lt (hH b o ho)) (hne b hb)]; exact ho
def brow (x : Bool) : List Value := [vb x]
def Bools (H : Hp) (p : Option Loc) (n c : Nat) (l : List Bool) : Prop := n ≤ c ∧ c ≤ maxLen ∧ Rows H p n 1 (l.map brow)
theorem Bools.of_ow {l : List Bool} {g : Option Nat} (h : Ow H 4 1 p n c (l.map brow) g) : Bools H p n c l := ⟨h.2.2.1, h.2.2.2.1, h.rows⟩
theorem Bools.mono {l : List Bool} (h : Bools H p n c l) (hk : H.le K) : Bools K p n c l := ⟨h.1, h.2.1, h.2.2.mono hk⟩
theorem Bools.len {l : List Bool} (h : Bools H p n c l) : n = l.length := by simpa using h.2.2.len
theorem Bools.at {l : List Bool} (h : Bools H p n c l) {k : Nat} (hk : k < n) : ∃ x : Bool, l[k]? = some x ∧ RowAt H p (0 + (k : Int) * 1) [vb x] := by
  obtain ⟨row, h1, _, h3⟩ := h.2.2.at hk (off := 0 + (k : Int) * 1) (by omega)
  rw [List.getElem?_map, Option.map_eq_some_iff] at h1
  obtain ⟨x, hx, rfl⟩ := h1
  exact ⟨x, hx, h3⟩
end
end Go.Proofs.YtfpmcmhihhnfgaaGreat
