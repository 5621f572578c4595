/- Rows in memory: arrays of elements of some cells each; what append, copy, clear and a store do to an array of one's own. Over any program; no program in sight. What append, copy, clear and a store do to an array of one's own. Over any program; no program in sight. More of what is done to an array of one's own: == nil, a store, copy, clear, append of zeros. Over any program; no program in sight. What is new in memory; the size of a type. Over any program; no program in sight. Calls that turn an array of one's own; append of one element that stands in a known block. Over any program; no program in sight. -/
import Derived.Test.YtoilhpkclabhoaaKE3
import Derived.ArgAppend
import Derived.Lib.AppendZerosOnto
set_option linter.unusedVariables false
set_option linter.unusedSimpArgs false
namespace Go.Proofs.Ytoilhpkclabhoaa
open Go.RowKit

/-- n elements of w cells each, from p on -/
structure Rows (H : Hp) (p : Option Loc) (n w : Nat) (rows : List (List Value)) : Prop where
  len : n = rows.length
  wid : ∀ r ∈ rows, r.length = w
  row : ∀ (i : Nat) r, rows[i]? = some r → RowAt H p ((i * w : Nat) : Int) r
theorem RowAt.sub {H : Hp} {p : Option Loc} {off : Int} {cs : List Value} (h : RowAt H p off cs) (h0 : 0 ≤ off) {j : Nat} {v : Value} (hv : cs[j]? = some v) {off' : Int} (ho : off' = off + j) : RowAt H p off' [v] := by
  obtain ⟨b, o, h1, C, T, fz, h2, h3⟩ := h
  refine ⟨b, o, h1, C, T, fz, h2, fun i hi => ?_⟩
  have hi0 : i = 0 := by simpa using hi
  subst hi0
  have hj : j < cs.length := (List.getElem?_eq_some_iff.1 hv).1
  have := h3 j hj
  rw [show o + off'.toNat + 0 = o + off.toNat + j by omega, this, hv]
  rfl
theorem RowAt.isSome {H : Hp} {p : Option Loc} {off : Int} {cs : List Value} (h : RowAt H p off cs) : p.isSome = true := by
  obtain ⟨b, o, h1, _⟩ := h
  rw [h1]; rfl
theorem Rows.mono {H K : Hp} {p : Option Loc} {n w : Nat} {rows : List (List Value)} (h : Rows H p n w rows) (hk : H.le K) : Rows K p n w rows := ⟨h.len, h.wid, fun i r hr => (h.row i r hr).mono hk⟩
theorem Rows.nil (H : Hp) (p : Option Loc) (w : Nat) : Rows H p 0 w [] := ⟨rfl, fun r hr => by simp at hr, fun i r hr => by simp at hr⟩
/-- the element at k -/
theorem Rows.at {H : Hp} {p : Option Loc} {n w : Nat} {rows : List (List Value)} (h : Rows H p n w rows) {k : Nat} (hk : k < n) {off : Int} (ho : off = k * w) : ∃ r, rows[k]? = some r ∧ r.length = w ∧ RowAt H p off r := by
  have hlt : k < rows.length := by rw [← h.len]; exact hk
  refine ⟨rows[k], List.getElem?_eq_getElem hlt, h.wid _ (List.getElem_mem ..), ?_⟩
  have := h.row k _ (List.getElem?_eq_getElem hlt)
  rw [ho]
  simpa using this
def shiftP (p : Option Loc) (k : Nat) : Option Loc := p.map fun a => a.shift k
/-- a part of it -/
theorem Rows.part {H : Hp} {p : Option Loc} {n w : Nat} {rows : List (List Value)} (h : Rows H p n w rows) (lo hi : Nat) (hl : lo ≤ hi) (hn : hi ≤ n) : Rows H (shiftP p (lo * w)) (hi - lo) w ((rows.drop lo).take (hi - lo)) := by
  have hlen := h.len
  refine ⟨by simp; omega, fun r hr => h.wid r (List.mem_of_mem_drop (List.mem_of_mem_take hr)), fun i r hr => ?_⟩
  rw [List.getElem?_take] at hr
  split at hr
  · rw [List.getElem?_drop] at hr
    obtain ⟨b, o, h1, C, T, fz, h2, h3⟩ := h.row _ _ hr
    refine ⟨b, o + lo * w, by rw [h1]; exact congrArg some (shift_at ..), C, T, fz, h2, fun j hj => ?_⟩
    rw [← h3 j hj]
    congr 1
    simp only [Int.toNat_natCast]
    rw [Nat.add_mul]
    omega
  · cases hr
theorem Rows.take {H : Hp} {p : Option Loc} {n w : Nat} {rows : List (List Value)} (h : Rows H p n w rows) (hi : Nat) (hn : hi ≤ n) : Rows H p hi w (rows.take hi) := by
  have hlen := h.len
  refine ⟨by simp; omega, fun r hr => h.wid r (List.mem_of_mem_take hr), fun i r hr => ?_⟩
  rw [List.getElem?_take] at hr
  split at hr
  · exact h.row i r hr
  · cases hr
/-- rows of a block -/
theorem Rows.block {H : Hp} {b o : Nat} {C : Array Value} {T : Nat} {fz : Nat × Nat} (hb : H b = some (.cells C T fz)) {n w : Nat} {rows : List (List Value)} (hn : n = rows.length) (hw : ∀ r ∈ rows, r.length = w) (hc : (C.toList.drop o).take (n * w) = rows.flatten) : Rows H (some (b, o)) n w rows := by
  refine ⟨hn, hw, fun i r hr => ⟨b, o, rfl, C, T, fz, hb, fun j hj => ?_⟩⟩
  have hi : i < rows.length := (List.getElem?_eq_some_iff.1 hr).1
  have hrm : r ∈ rows := List.mem_of_getElem? hr
  have hrw := hw r hrm
  have hfl : rows.flatten[i * w + j]? = r[j]? := by
    clear hc hb hn
    induction rows generalizing i with
    | nil => simp at hr
    | cons a l ih =>
      have ha := hw a (List.mem_cons_self ..)
      cases i with
      | zero =>
        simp only [List.getElem?_cons_zero, Option.some.injEq] at hr
        subst hr
        simp only [List.flatten_cons, Nat.zero_mul, Nat.zero_add]
        rw [List.getElem?_append_left hj]
      | succ i =>
        simp only [List.getElem?_cons_succ] at hr
        simp only [List.flatten_cons]
        rw [List.getElem?_append_right (by rw [ha, Nat.succ_mul]; omega)]
        rw [← ih (fun r hr => hw r (List.mem_cons_of_mem _ hr)) i hr (by simpa using hi) (List.mem_of_getElem? hr)]
        congr 1
        rw [ha, Nat.succ_mul]; omega
  have hlt : i * w + j < n * w := by
    rw [hn]
    have h1 : i * w + w ≤ rows.length * w := by rw [← Nat.succ_mul]; exact Nat.mul_le_mul_right _ hi
    omega
  rw [← hfl, ← hc, List.getElem?_take, if_pos hlt, List.getElem?_drop, Array.getElem?_toList]
  congr 1
  simp only [Int.toNat_natCast]; omega
/-- an array of one's own: block g, nothing else -/
def Ow (H : Hp) (e w : Nat) (p : Option Loc) (n c : Nat) (rows : List (List Value)) (g : Option Nat) : Prop :=
  n = rows.length ∧ (∀ r ∈ rows, r.length = w ∧ ∀ v ∈ r, v.oneCell' = true) ∧ n ≤ c ∧ c ≤ maxLen ∧
  ((c = 0 ∧ g = none) ∨ (∃ (b : Nat) (C : Array Value), p = some ((b : Blk), 0) ∧ g = some b ∧ H b = some (.cells C e (0, 0)) ∧ C.size = c * w ∧ C.toList.take (n * w) = rows.flatten))
theorem flat_len {w : Nat} : ∀ {rows : List (List Value)}, (∀ r ∈ rows, r.length = w) → rows.flatten.length = rows.length * w
  | [], _ => by simp
  | r :: l, h => by
    rw [List.flatten_cons, List.length_append, h r (List.mem_cons_self ..), flat_len (fun r hr => h r (List.mem_cons_of_mem _ hr)), List.length_cons, Nat.succ_mul]
    omega
theorem Ow.rows {H : Hp} {e w n c : Nat} {p : Option Loc} {rows : List (List Value)} {g : Option Nat} (h : Ow H e w p n c rows g) : Rows H p n w rows := by
  obtain ⟨h1, h2, h3, h4, h5⟩ := h
  rcases h5 with ⟨rfl, _⟩ | ⟨b, C, rfl, _, h6, h7, h8⟩
  · have : rows = [] := List.length_eq_zero_iff.1 (by omega)
    subst this
    rw [h1]
    exact Rows.nil H p w
  · exact Rows.block h6 h1 (fun r hr => (h2 r hr).1) (by simpa using h8)
theorem Ow.nil (H : Hp) (e w : Nat) (p : Option Loc) : Ow H e w p 0 0 [] none := ⟨rfl, fun r hr => by simp at hr, Nat.le_refl _, by simp [maxLen], .inl ⟨rfl, rfl⟩⟩
theorem Ow.mono {H K : Hp} {e w n c : Nat} {p : Option Loc} {rows : List (List Value)} {g : Option Nat} (h : Ow H e w p n c rows g) (hk : ∀ b, g = some b → ∀ o, H b = some o → K b = some o) : Ow K e w p n c rows g := by
  obtain ⟨h1, h2, h3, h4, h5⟩ := h
  refine ⟨h1, h2, h3, h4, ?_⟩
  rcases h5 with ⟨rfl, h6⟩ | ⟨b, C, rfl, hg, h6, h7, h8⟩
  · exact .inl ⟨rfl, h6⟩
  · exact .inr ⟨b, C, rfl, hg, hk b hg _ h6, h7, h8⟩
theorem Ow.take {H : Hp} {e w n c : Nat} {p : Option Loc} {rows : List (List Value)} {g : Option Nat} (h : Ow H e w p n c rows g) (m : Nat) (hm : m ≤ n) : Ow H e w p m c (rows.take m) g := by
  obtain ⟨h1, h2, h3, h4, h5⟩ := h
  refine ⟨by simp; omega, fun r hr => h2 r (List.mem_of_mem_take hr), by omega, h4, ?_⟩
  rcases h5 with ⟨rfl, h6⟩ | ⟨b, C, rfl, hg, h6, h7, h8⟩
  · exact .inl ⟨rfl, h6⟩
  · refine .inr ⟨b, C, rfl, hg, h6, h7, ?_⟩
    have hle : m * w ≤ n * w := Nat.mul_le_mul_right _ hm
    have : C.toList.take (m * w) = (C.toList.take (n * w)).take (m * w) := by rw [List.take_take, Nat.min_eq_left hle]
    rw [this, h8]
    have hfl := flat_len (rows := rows.take m) (fun r hr => (h2 r (List.mem_of_mem_take hr)).1)
    have hlm : (rows.take m).length = m := by simp; omega
    rw [hlm] at hfl
    conv => lhs; rw [← List.take_append_drop m rows, List.flatten_append]
    rw [← hfl, List.take_left]
/-- memory that is held fast where block g alone was turned, or new ones came -/
structure Upd (g : Option Nat) (W W' : World) (H H' : Hp) : Prop where
  os : W'.os = W.os
  tape : W'.tape = W.tape
  output : W'.output = W.output
  size : W.heap.size ≤ W'.heap.size
  blk : ∀ b, b < W.heap.size → g ≠ some b → W'.heap[b]? = W.heap[b]?
  sub : H'.le (hpOf W')
  same : ∀ b, b < W.heap.size → g ≠ some b → H' b = H b
  dom : ∀ b o, H' b = some o → (∃ o', H b = some o') ∨ W.heap.size ≤ b
theorem Upd.refl {W : World} {H : Hp} (g : Option Nat) (h : H.le (hpOf W)) : Upd g W W H H := ⟨rfl, rfl, rfl, Nat.le_refl _, fun _ _ _ => rfl, h, fun _ _ _ => rfl, fun b o hb => .inl ⟨o, hb⟩⟩
theorem Upd.turned {W0 : World} {M : Nat → Prop} {g : Option Nat} {W W' : World} {H H' : Hp} (h : Upd g W W' H H') (hg : ∀ b, g = some b → (∃ o, H b = some o) ∧ (W0.heap.size ≤ b ∨ M b)) : Turned W0 M H W H' W' :=
  ⟨⟨h.os, h.tape, h.output, h.size, fun b hb hn => h.blk b hb (fun he => hn (hg b he))⟩, h.sub, h.dom⟩
/-- what lies elsewhere is kept -/
theorem Upd.keep {g : Option Nat} {W W' : World} {H H' K : Hp} (h : Upd g W W' H H') (hH : H.le (hpOf W)) (hk : K.le H) (hg : ∀ b, g = some b → K b = none) : K.le H' := fun b o hb => by
  have h1 := hk b o hb
  have h2 := heap_lt (hH b o h1)
  rw [h.same b h2 (fun he => by rw [hg b he] at hb; cases hb)]
  exact h1
end Go.Proofs.Ytoilhpkclabhoaa
namespace Go.Proofs.Ytoilhpkclabhoaa
open Go.RowKit

theorem flat_drop {w : Nat} : ∀ {rows : List (List Value)} (i : Nat), (∀ r ∈ rows, r.length = w) → (rows.drop i).flatten = rows.flatten.drop (i * w)
  | [], i, _ => by simp
  | r :: l, 0, _ => by simp
  | r :: l, i + 1, h => by
    have hr := h r (List.mem_cons_self ..)
    have h1 : r.drop (i * w + w) = [] := List.drop_of_length_le (by omega)
    rw [List.drop_succ_cons, List.flatten_cons, flat_drop i (fun r hr => h r (List.mem_cons_of_mem _ hr)), List.drop_append, hr, Nat.succ_mul, h1, Nat.add_sub_cancel, List.nil_append]
section
variable {P : Program} {W : World} {H : Hp} {e w n c : Nat} {p : Option Loc} {rows : List (List Value)} {g : Option Nat}
theorem Rows.cells {a : Loc} (h : Rows H (some a) n w rows) (hH : H.le (hpOf W)) (hw : 0 < w) : ∀ (j : Nat) u, rows.flatten[j]? = some u → W.cell? (a.addr.add j) = some u := by
  intro j u hu
  have hj : j < rows.flatten.length := (List.getElem?_eq_some_iff.1 hu).1
  rw [flat_len h.wid] at hj
  have hi : j / w < rows.length := (Nat.div_lt_iff_lt_mul hw).2 hj
  have hrow := h.row (j / w) _ (List.getElem?_eq_getElem hi)
  have hk : j % w < w := Nat.mod_lt _ hw
  have hdm := Nat.div_add_mod j w
  rw [Nat.mul_comm] at hdm
  have hlen := h.wid _ (List.getElem_mem hi)
  obtain ⟨b', o', he, C, T, fz, h2, h3⟩ := hrow
  simp only [Option.some.injEq] at he
  subst he
  have h4 := h3 (j % w) (by omega)
  have h5 := hH _ _ h2
  rw [addr_at, add_at, cell_at h5, ← hu]
  have hf : rows.flatten[j]? = rows[j / w][j % w]? := by
    have h6 := flat_drop (rows := rows) (j / w) h.wid
    have h7 : rows.flatten[j]? = (rows.flatten.drop (j / w * w))[j % w]? := by rw [List.getElem?_drop, hdm]
    rw [h7, ← h6, List.drop_eq_getElem_cons hi, List.flatten_cons, List.getElem?_append_left (by omega)]
  rw [hf, ← h4]
  congr 1
  simp only [Int.toNat_natCast]
  omega
theorem Upd.setRow {b : Nat} {C C' : Array Value} (hH : H.le (hpOf W)) (hb : H b = some (.cells C e (0, 0))) : Upd (some b) W (W.setRow b C') H (addH H b (.cells C' e (0, 0))) := by
  have h1 := hH b _ hb
  have hold : ∀ k, k ≠ b → (W.setRow b C').heap[k]? = W.heap[k]? := fun k hk => setRow_other W b k _ hk
  refine ⟨rfl, rfl, rfl, by simp, fun k _ hk => hold k (fun h => hk (by rw [h])), fun k o hk => ?_, fun k _ hk => ?_, fun k o hk => ?_⟩
  · unfold addH at hk
    split at hk
    · rename_i h
      subst h
      rw [← hk]
      exact setRow_heap W k C _ e _ h1
    · rename_i h
      have := hH k o hk
      simp only [hpOf] at this ⊢
      rw [hold k h, this]
  · unfold addH
    rw [if_neg (fun h => hk (by rw [h]))]
  · unfold addH at hk
    split at hk
    · rename_i h
      subst h
      exact .inl ⟨_, hb⟩
    · exact .inl ⟨o, hk⟩
theorem Upd.made {g : Option Nat} (hH : H.le (hpOf W)) (o : Obj) : Upd g W (W.drew.alloc o) H (addH H W.heap.size o) := by
  have hold : ∀ k, k < W.heap.size → (W.drew.alloc o).heap[k]? = W.heap[k]? := fun k hk => heap_alloc_old W.drew o hk
  refine ⟨rfl, rfl, rfl, by simp, fun k hk _ => hold k hk, fun k q hk => ?_, fun k hk _ => ?_, fun k q hk => ?_⟩
  · unfold addH at hk
    split at hk
    · rename_i h
      subst h
      rw [← hk]
      exact heap_alloc_new W.drew o
    · have := hH k q hk
      have hlt := heap_lt this
      simp only [hpOf] at this ⊢
      rw [hold k hlt, this]
  · unfold addH
    rw [if_neg (by omega)]
  · unfold addH at hk
    split at hk
    · rename_i h
      exact .inr (by omega)
    · exact .inl ⟨q, hk⟩
theorem Ow.made {C : Array Value} (hn : n = rows.length) (hr : ∀ r ∈ rows, r.length = w ∧ ∀ v ∈ r, v.oneCell' = true) (hc : n ≤ c) (hm : c ≤ maxLen) (hs : C.size = c * w) (ht : C.toList.take (n * w) = rows.flatten) (k : Nat) :
    Ow (addH H k (.cells C e (0, 0))) e w (some (k, 0)) n c rows (some k) := ⟨hn, hr, hc, hm, .inr ⟨k, C, rfl, rfl, addH_at .., hs, ht⟩⟩
/-- a piece of an array is written over -/
theorem Ow.write {b : Nat} {C : Array Value} (h : Ow H e w p n c rows g) (hp : p = some ((b : Blk), 0)) (hg : g = some b) (hs : C.size = c * w) {off n' : Nat} {vs : List Value} {rows' : List (List Value)} (hn' : n' = rows'.length)
    (hr : ∀ r ∈ rows', r.length = w ∧ ∀ v ∈ r, v.oneCell' = true) (hc : n' ≤ c) (hfit : off + vs.length ≤ c * w) (ht' : (C.toList.take off ++ vs ++ C.toList.drop (off + vs.length)).take (n' * w) = rows'.flatten) :
    Ow (addH H b (.cells (C.toList.take off ++ vs ++ C.toList.drop (off + vs.length)).toArray e (0, 0))) e w p n' c rows' g := by
  subst hp; subst hg
  refine Ow.made hn' hr hc h.2.2.2.1 ?_ (by simpa using ht') b
  simp only [List.size_toArray, List.length_append, List.length_take, List.length_drop, Array.length_toList]
  omega
end
end Go.Proofs.Ytoilhpkclabhoaa
namespace Go.Proofs.Ytoilhpkclabhoaa
open Go.RowKit

section
variable {P : Program} {W : World} {H : Hp} {e w n c : Nat} {p : Option Loc} {rows : List (List Value)} {g : Option Nat}
theorem seg_take {C : List Value} {N off : Nat} {vs : List Value} (hN : N ≤ C.length) (h : off + vs.length ≤ N) : (C.take off ++ vs ++ C.drop (off + vs.length)).take N = (C.take N).take off ++ vs ++ (C.take N).drop (off + vs.length) := by
  have h1 : (C.take off ++ vs).length = off + vs.length := by simp; omega
  rw [List.take_append, h1, List.take_of_length_le (by omega), List.take_take, Nat.min_eq_left (by omega), List.drop_take]
/-- a segment of the row at i -/
def segRow (r : List Value) (j : Nat) (vs : List Value) : List Value := r.take j ++ vs ++ r.drop (j + vs.length)
theorem flat_set {w : Nat} {rows : List (List Value)} {i j : Nat} {r vs : List Value} (hw : ∀ r ∈ rows, r.length = w) (hr : rows[i]? = some r) (hj : j + vs.length ≤ w) :
    rows.flatten.take (i * w + j) ++ vs ++ rows.flatten.drop (i * w + j + vs.length) = (rows.set i (segRow r j vs)).flatten := by
  have hi := (List.getElem?_eq_some_iff.1 hr).1
  have hrl := hw r (List.mem_of_getElem? hr)
  have hs : rows.set i (segRow r j vs) = rows.take i ++ segRow r j vs :: rows.drop (i + 1) := List.set_eq_take_append_cons_drop .. |>.trans (by rw [if_pos hi])
  have hd : rows.drop i = r :: rows.drop (i + 1) := by
    obtain ⟨h1, h2⟩ := List.getElem?_eq_some_iff.1 hr
    rw [List.drop_eq_getElem_cons h1, h2]
  have e1 : rows.flatten = (rows.take i).flatten ++ (r ++ (rows.drop (i + 1)).flatten) := by
    conv => lhs; rw [← List.take_append_drop i rows, List.flatten_append, hd, List.flatten_cons]
  have hl : (rows.take i).flatten.length = i * w := by rw [flat_len (fun r hr => hw r (List.mem_of_mem_take hr)), List.length_take, Nat.min_eq_left (Nat.le_of_lt hi)]
  rw [hs, List.flatten_append, List.flatten_cons, e1, segRow]
  generalize (rows.take i).flatten = A at *
  generalize (rows.drop (i + 1)).flatten = B at *
  have t1 : (A ++ (r ++ B)).take (i * w + j) = A ++ r.take j := by
    rw [List.take_append, List.take_of_length_le (by omega), hl, Nat.add_sub_cancel_left, List.take_append_of_le_length (by omega)]
  have t2 : (A ++ (r ++ B)).drop (i * w + j + vs.length) = r.drop (j + vs.length) ++ B := by
    rw [List.drop_append, List.drop_of_length_le (by omega), List.nil_append, hl, show i * w + j + vs.length - i * w = j + vs.length by omega, List.drop_append_of_le_length (by omega)]
  rw [t1, t2]
  simp
theorem run_sizeOf {t k : Nat} {i : TypeInfo} (hi : P.info? t = some i) (hk : i.size = k) (w : World) : (sizeOf t).run P w = .ok k w := by
  simp [sizeOf, typeInfo, hi, hk]
/-- a store into the row at i -/
theorem ek_store {t : Nat} {ti : TypeInfo} (hti : P.info? t = some ti) (hH : H.le (hpOf W)) (ho : Ow H e w p n c rows g) {i j : Nat} {r vs : List Value} {v : Value} (hr : rows[i]? = some r) (hv : v.cells = vs.toArray) (hs : ti.size = vs.length) (hj : j + vs.length ≤ w) (hj0 : 0 < vs.length) (h1 : ∀ u ∈ vs, u.oneCell' = true) {off : Int} (hoff : off = ((i * w + j : Nat) : Int)) :
    ∃ W' H', (EK.sem (.storeO t) [.pointer (ptrAt p off), v]).run P W = .ok .skip W' ∧ Upd g W W' H H' ∧ Ow H' e w p n c (rows.set i (segRow r j vs)) g := by
  have hi := (List.getElem?_eq_some_iff.1 hr).1
  obtain ⟨q1, q2, q3, q4, q5⟩ := ho
  have hwid : ∀ r ∈ rows, r.length = w := fun r hr => (q2 r hr).1
  rcases q5 with ⟨rfl, _⟩ | ⟨b, C, rfl, rfl, h6, h7, h8⟩
  · omega
  · have hin : i * w + j + vs.length ≤ n * w := by
      have := Nat.mul_le_mul_right w (Nat.succ_le_of_lt (q1 ▸ hi : i < n))
      rw [Nat.succ_mul] at this
      omega
    have hcap : n * w ≤ c * w := Nat.mul_le_mul_right _ q3
    have hst := run_storeCells_at P b (i * w + j) e vs 0 C W (hH b _ h6) (by rw [h7]; omega) h1
    have hrl := hwid r (List.mem_of_getElem? hr)
    refine ⟨_, _, ?_, Upd.setRow hH h6, Ow.write ⟨q1, q2, q3, q4, .inr ⟨b, C, rfl, rfl, h6, h7, h8⟩⟩ rfl rfl h7 (off := i * w + j) (vs := vs) (by simp [q1]) (fun u hu => ?_) q3 (by omega) ?_⟩
    · simp only [EK.sem, List.getD_cons_zero, List.getD_cons_succ, Instr.storeAt, ptrAt, Option.map_some, addr_add, Nat.zero_add, Instr.sureAddr, Sem.run_bind, Sem.run_pure, Result.andThen_ok, storeVar, run_sizeOf hti hs, hv]
      rw [if_neg (by simp)]
      simp only [Nat.zero_add, hoff, Int.toNat_natCast]
      rw [hst]
      simp only [Result.andThen_ok, Nat.add_zero]
    · rcases List.mem_or_eq_of_mem_set hu with hu | rfl
      · exact q2 u hu
      · refine ⟨by simp [segRow]; omega, fun x hx => ?_⟩
        have hq := (q2 r (List.mem_of_getElem? hr)).2
        simp only [segRow, List.mem_append] at hx
        rcases hx with (hx | hx) | hx
        · exact hq x (List.mem_of_mem_take hx)
        · exact h1 x hx
        · exact hq x (List.mem_of_mem_drop hx)
    · rw [seg_take (by rw [Array.length_toList, h7]; exact hcap) hin, h8]
      exact flat_set hwid hr hj
end
end Go.Proofs.Ytoilhpkclabhoaa
namespace Go.Proofs.Ytoilhpkclabhoaa
open Go.RowKit

/-- what of memory held fast is new -/
def newer (W : World) (H : Hp) : Hp := fun b => if W.heap.size ≤ b then H b else none
/-- .. but for block g -/
def rest (W : World) (g : Option Nat) (H : Hp) : Hp := fun b => if W.heap.size ≤ b ∧ g ≠ some b then H b else none
section
variable {W W1 W' : World} {H H' K D : Hp} {g : Option Nat}
theorem newer_le (W : World) (H : Hp) : (newer W H).le H := fun b o h => by
  unfold newer at h
  split at h
  · exact h
  · cases h
theorem newer_new (W : World) (H : Hp) : ∀ b o, newer W H b = some o → W.heap.size ≤ b := fun b o h => by
  unfold newer at h
  split at h
  · assumption
  · cases h
theorem newer_at {b : Nat} (h : W.heap.size ≤ b) : newer W H b = H b := by unfold newer; rw [if_pos h]
theorem le_newer (hD : D.le H) (hf : ∀ b o, D b = some o → W.heap.size ≤ b) : D.le (newer W H) := fun b o hb => by rw [newer_at (hf b o hb)]; exact hD b o hb
/-- what was there before is not new -/
theorem old_none (hH : H.le (hpOf W)) {b : Nat} (hb : W.heap.size ≤ b) : H b = none := by
  cases hh : H b with
  | none => rfl
  | some o => have := heap_lt (hH b o hh); omega
end
theorem Ow.new {W : World} {H : Hp} {e w n c : Nat} {p : Option Loc} {rows : List (List Value)} {g : Option Nat} (h : Ow H e w p n c rows g) (hg : ∀ b, g = some b → W.heap.size ≤ b) : Ow (newer W H) e w p n c rows g :=
  h.mono fun b hb o ho => by rw [newer_at (hg b hb)]; exact ho
theorem Ow.lt {W : World} {H : Hp} {e w n c : Nat} {p : Option Loc} {rows : List (List Value)} {g : Option Nat} (h : Ow H e w p n c rows g) (hH : H.le (hpOf W)) : ∀ b, g = some b → b < W.heap.size := fun b hb => by
  rcases h.2.2.2.2 with ⟨_, h6⟩ | ⟨b', C, _, h6, h7, _⟩
  · rw [h6] at hb; cases hb
  · rw [h6] at hb; simp only [Option.some.injEq] at hb; subst hb; exact heap_lt (hH _ _ h7)
theorem Ow.held {H : Hp} {e w n c : Nat} {p : Option Loc} {rows : List (List Value)} {g : Option Nat} (h : Ow H e w p n c rows g) : ∀ b, g = some b → ∃ o, H b = some o := fun b hb => by
  rcases h.2.2.2.2 with ⟨_, h6⟩ | ⟨b', C, _, h6, h7, _⟩
  · rw [h6] at hb; cases hb
  · rw [h6] at hb; simp only [Option.some.injEq] at hb; subst hb; exact ⟨_, h7⟩
/-- a type's size -/
def infoIs (P : Program) (t size bytes : Nat) : Bool := match P.info? t with
  | some i => match i.zero with
    | some z => decide (i.size = size) && decide (i.bytes = bytes) && decide (z.cells.size = size) && z.cells.toList.all Value.oneCell'
    | none => false
  | none => false
theorem info_of {P : Program} {t size bytes : Nat} (h : infoIs P t size bytes = true) : ∃ i z, P.info? t = some i ∧ i.zero = some z ∧ i.size = size ∧ i.bytes = bytes ∧ z.cells.size = size ∧ ∀ u ∈ z.cells.toList, u.oneCell' = true := by
  unfold infoIs at h
  split at h
  · rename_i i hi
    split at h
    · rename_i z hz
      simp only [Bool.and_eq_true, decide_eq_true_eq, List.all_eq_true] at h
      exact ⟨i, z, hi, hz, h.1.1.1, h.1.1.2, h.1.2, h.2⟩
    · cases h
  · cases h
end Go.Proofs.Ytoilhpkclabhoaa
namespace Go.Proofs.Ytoilhpkclabhoaa
open Go.RowKit

/-- a call that turns block g alone, of what was there -/
def Gt (P : Program) (f : Nat) (args : Array Value) (H : Hp) (g : Option Nat) (post : Value → Hp → Option Nat → Prop) : Prop := ∀ W, H.le (hpOf W) → Calls P f args W fun z W' => ∃ v H' g', z = .returned v ∧ Upd g W W' H H' ∧ (g' = g ∨ ∀ b, g' = some b → W.heap.size ≤ b) ∧ post v H' g'
theorem Cl.turn {P : Program} {W0 : World} {M : Nat → Prop} {H : Hp} {kn : World → Prop} {f : Nat} {args : Array Value} {Φ : Ending → World → World → Prop} {g : Option Nat} {post : Value → Hp → Option Nat → Prop} (hc : Gt P f args H g post)
    (hk : ∀ v W W' H' g', post v H' g' → Upd g W W' H H' → (g' = g ∨ ∀ b, g' = some b → W.heap.size ≤ b) → Now W0 M H W → Φ (.returned v) W W') : Cl P W0 M H kn f args Φ := fun W n _ => (hc W n.sub).mono fun z W' ⟨v, H', g', hz, h1, h2, h3⟩ => by subst hz; exact hk v W W' H' g' h3 h1 h2 n
/-- what is turned is one's own -/
theorem Upd.own {W0 W W' : World} {g : Option Nat} {H H' : Hp} {M : Nat → Prop} (h : Upd g W W' H H') {e w n c : Nat} {p : Option Loc} {rows : List (List Value)} (ho : Ow H e w p n c rows g) (hg : ∀ b, g = some b → W0.heap.size ≤ b ∨ M b) : Turned W0 M H W H' W' :=
  h.turned fun b hb => ⟨ho.held b hb, hg b hb⟩
end Go.Proofs.Ytoilhpkclabhoaa
