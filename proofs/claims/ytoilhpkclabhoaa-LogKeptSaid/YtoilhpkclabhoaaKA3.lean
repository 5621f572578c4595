/- Tables whose every array is one's own. No conditions. Tables of one's own: a row is turned, an array of answers is turned. No conditions. -/
import Derived.Test.YtoilhpkclabhoaaKS4
import Derived.Test.YtoilhpkclabhoaaKA1
import Derived.Test.YtoilhpkclabhoaaKE4
set_option linter.unusedVariables false
set_option linter.unusedSimpArgs false
namespace Go.Proofs.Ytoilhpkclabhoaa
open Go.RowKit

/-- a session, and where its answers lie -/
structure Cel where
  s : Ses
  p : Option Loc
  n : Nat
  c : Nat
  k : Option Nat
def Cel.row (a : Cel) : List Value := [vi a.s.client, vi a.s.acked, vi a.s.seen, vsl a.p a.n a.c]
def Cel.own (D : Hp) (a : Cel) : Prop := Ow D 67 2 a.p a.n a.c (a.s.kept.map Rep.row) a.k
def Apart (k j : Option Nat) : Prop := ∀ b, k = some b → j ≠ some b
theorem Apart.symm {k j : Option Nat} (h : Apart k j) : Apart j k := fun b hj hk => h b hk hj
structure OTab (D : Hp) (p : Option Loc) (n c : Nat) (es : List Cel) (g : Option Nat) : Prop where
  own : Ow D 59 4 p n c (es.map Cel.row) g
  one : ∀ a ∈ es, a.own D
  gap : ∀ a ∈ es, Apart g a.k
  two : es.Pairwise fun a b => Apart a.k b.k
theorem Cel.own.kept {D : Hp} {a : Cel} (h : a.own D) : Kept D a.p a.n a.c a.s.kept := Kept.of_ow h
theorem Cel.own.held {D : Hp} {a : Cel} (h : a.own D) : ∀ b, a.k = some b → ∃ o, D b = some o := Ow.held h
theorem Cel.own.mono' {D K : Hp} {a : Cel} (h : a.own D) (hk : ∀ b, a.k = some b → ∀ o, D b = some o → K b = some o) : a.own K := Ow.mono h hk
theorem all2_map (D : Hp) {es : List Cel} (h : ∀ a ∈ es, a.own D) : All2 (SesRow D) (es.map Cel.row) (es.map Cel.s) := by
  induction es with
  | nil => exact .nil
  | cons a l ih => exact .cons _ _ _ _ ⟨a.p, a.n, a.c, rfl, (h a (List.mem_cons_self ..)).kept⟩ (ih fun x hx => h x (List.mem_cons_of_mem _ hx))
theorem OTab.tab {D : Hp} {p : Option Loc} {n c : Nat} {es : List Cel} {g : Option Nat} (h : OTab D p n c es g) : Tab D p n c (es.map Cel.s) := ⟨h.own.2.2.1, h.own.2.2.2.1, _, h.own.rows, all2_map D h.one⟩
theorem OTab.len {D : Hp} {p : Option Loc} {n c : Nat} {es : List Cel} {g : Option Nat} (h : OTab D p n c es g) : n = es.length := by have := h.own.1; simpa using this
theorem OTab.nil (D : Hp) (p : Option Loc) : OTab D p 0 0 [] none := ⟨Ow.nil _ _ _ _, fun a h => by simp at h, fun a h => by simp at h, .nil⟩
theorem OTab.mono {D K : Hp} {p : Option Loc} {n c : Nat} {es : List Cel} {g : Option Nat} (h : OTab D p n c es g) (hk : D.le K) : OTab K p n c es g := ⟨h.own.mono fun b _ o ho => hk b o ho, fun a ha => (h.one a ha).mono' fun b _ o ho => hk b o ho, h.gap, h.two⟩
/-- the blocks of a table -/
def Foot (g : Option Nat) (es : List Cel) : Nat → Prop := fun b => g = some b ∨ ∃ a ∈ es, a.k = some b
theorem OTab.mono' {D K : Hp} {p : Option Loc} {n c : Nat} {es : List Cel} {g : Option Nat} (h : OTab D p n c es g) (hk : ∀ b, Foot g es b → ∀ o, D b = some o → K b = some o) : OTab K p n c es g := ⟨h.own.mono fun b hb => hk b (.inl hb), fun a ha => (h.one a ha).mono' fun b hb => hk b (.inr ⟨a, ha, hb⟩), h.gap, h.two⟩
/-- where the table's own array is turned -/
theorem OTab.upd {W1 W2 : World} {H H' : Hp} {p' : Option Loc} {n' c' : Nat} {es' : List Cel} {g g' : Option Nat} (hH : H.le (hpOf W1)) (hu : Upd g W1 W2 H H') (one : ∀ a ∈ es', a.own H) (gap : ∀ a ∈ es', Apart g a.k) (two : es'.Pairwise fun a b => Apart a.k b.k)
    (ho' : Ow H' 59 4 p' n' c' (es'.map Cel.row) g') (hg' : g' = g ∨ ∀ b, g' = some b → W1.heap.size ≤ b) : OTab H' p' n' c' es' g' := by
  refine ⟨ho', fun a ha => (one a ha).mono' fun b hb o ho => ?_, fun a ha => ?_, two⟩
  · have h1 := heap_lt (hH b o ho)
    rw [hu.same b h1 (fun h => gap a ha b h hb)]
    exact ho
  · rcases hg' with rfl | h
    · exact gap a ha
    · intro b hb hk
      obtain ⟨o, ho⟩ := (one a ha).held b hk
      have h1 := heap_lt (hH b o ho)
      have := h b hb
      omega
end Go.Proofs.Ytoilhpkclabhoaa
namespace Go.Proofs.Ytoilhpkclabhoaa
open Go.RowKit

/-- a table, but for the answers at i -/
structure OTabX (D : Hp) (p : Option Loc) (n c : Nat) (es : List Cel) (g : Option Nat) (i : Nat) : Prop where
  own : Ow D 59 4 p n c (es.map Cel.row) g
  one : ∀ (j : Nat) a, es[j]? = some a → j ≠ i → a.own D
  gap : ∀ (j : Nat) a, es[j]? = some a → j ≠ i → Apart g a.k
  two : ∀ (j l : Nat) a b, es[j]? = some a → es[l]? = some b → j ≠ l → j ≠ i → l ≠ i → Apart a.k b.k
theorem pair_get {es : List Cel} (h : es.Pairwise fun a b => Apart a.k b.k) {j l : Nat} {a b : Cel} (hj : es[j]? = some a) (hl : es[l]? = some b) (hne : j ≠ l) : Apart a.k b.k := by
  obtain ⟨j1, j2⟩ := List.getElem?_eq_some_iff.1 hj
  obtain ⟨l1, l2⟩ := List.getElem?_eq_some_iff.1 hl
  rw [List.pairwise_iff_getElem] at h
  rcases Nat.lt_or_gt_of_ne hne with h1 | h1
  · have := h j l j1 l1 h1; rw [j2, l2] at this; exact this
  · have := h l j l1 j1 h1; rw [j2, l2] at this; exact this.symm
theorem pair_of {es : List Cel} (h : ∀ (j l : Nat) a b, es[j]? = some a → es[l]? = some b → j ≠ l → Apart a.k b.k) : es.Pairwise fun a b => Apart a.k b.k := by
  rw [List.pairwise_iff_getElem]
  intro j l hj hl hlt
  exact h j l _ _ (List.getElem?_eq_getElem hj) (List.getElem?_eq_getElem hl) (by omega)
theorem OTab.x {D : Hp} {p : Option Loc} {n c : Nat} {es : List Cel} {g : Option Nat} (h : OTab D p n c es g) (i : Nat) : OTabX D p n c es g i :=
  ⟨h.own, fun _ a ha _ => h.one a (List.mem_of_getElem? ha), fun _ a ha _ => h.gap a (List.mem_of_getElem? ha), fun _ _ _ _ hj hl hne _ _ => pair_get h.two hj hl hne⟩
theorem RowAt.shift {H : Hp} {p : Option Loc} {off : Int} {cs : List Value} {j : Int} (h : RowAt H p (off + j) cs) (h0 : 0 ≤ off) (hj : 0 ≤ j) : RowAt H (shiftP p off.toNat) j cs := by
  obtain ⟨b, o, h1, C, T, fz, h2, h3⟩ := h
  refine ⟨b, o + off.toNat, by rw [h1]; exact congrArg some (shift_at ..), C, T, fz, h2, fun k hk => ?_⟩
  rw [← h3 k hk]
  congr 1
  omega
/-- a cell of the row at i is written -/
theorem OTabX.store {W : World} {H : Hp} {p : Option Loc} {n c : Nat} {es : List Cel} {g : Option Nat} {i : Nat} (hT : OTabX H p n c es g i) (hH : H.le (hpOf W)) {a a' : Cel} (hi : es[i]? = some a) {t j : Nat} {ti : TypeInfo} (hti : Try.prog.info? t = some ti) (hs : ti.size = 1) {v : Value} (hv : v.cells = #[v]) (hv1 : v.oneCell' = true) (hj : j < 4) (hrow : segRow a.row j [v] = a'.row)
    (hown : a'.own H) (hgap : Apart g a'.k) (htwo : ∀ (l : Nat) b, es[l]? = some b → l ≠ i → Apart a'.k b.k) {off : Int} (hoff : off = (i : Int) * 4 + j) :
    ∃ W' H', (EK.sem (.storeO t) [.pointer (ptrAt p off), v]).run Try.prog W = .ok .skip W' ∧ Upd g W W' H H' ∧ OTab H' p n c (es.set i a') g := by
  have hr : (es.map Cel.row)[i]? = some a.row := by rw [List.getElem?_map, hi]; rfl
  obtain ⟨W', H', h1, h2, h3⟩ := ek_store (P := Try.prog) hti hH hT.own hr (j := j) (vs := [v]) (v := v) (by simpa using hv) (by simpa using hs) (by simp; omega) (by simp) (fun u hu => by simp only [List.mem_singleton] at hu; subst hu; exact hv1) (off := off) (by omega)
  rw [hrow, ← List.map_set] at h3
  have key : ∀ (l : Nat) b, (es.set i a')[l]? = some b → (l = i ∧ b = a') ∨ (l ≠ i ∧ es[l]? = some b) := fun l b hb => by
    by_cases hl : i = l
    · subst hl
      have hlt := (List.getElem?_eq_some_iff.1 hi).1
      rw [List.getElem?_set_self hlt] at hb
      exact .inl ⟨rfl, by simpa using hb.symm⟩
    · rw [List.getElem?_set_ne hl] at hb
      exact .inr ⟨fun h => hl h.symm, hb⟩
  refine ⟨W', H', h1, h2, OTab.upd hH h2 (fun b hb => ?_) (fun b hb => ?_) (pair_of fun l m b d hb hd hne => ?_) h3 (.inl rfl)⟩
  · obtain ⟨l, hl⟩ := List.mem_iff_getElem?.1 hb
    rcases key l b hl with ⟨_, rfl⟩ | ⟨h4, h5⟩
    · exact hown
    · exact hT.one l b h5 h4
  · obtain ⟨l, hl⟩ := List.mem_iff_getElem?.1 hb
    rcases key l b hl with ⟨_, rfl⟩ | ⟨h4, h5⟩
    · exact hgap
    · exact hT.gap l b h5 h4
  · rcases key l b hb with ⟨h4, rfl⟩ | ⟨h4, h5⟩ <;> rcases key m d hd with ⟨h6, rfl⟩ | ⟨h6, h7⟩
    · omega
    · exact htwo m d h7 h6
    · exact (htwo l b h5 h4).symm
    · exact hT.two l m b d h5 h7 hne h4 h6
end Go.Proofs.Ytoilhpkclabhoaa
