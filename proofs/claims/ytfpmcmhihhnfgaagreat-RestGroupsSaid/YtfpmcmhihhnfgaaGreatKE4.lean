/- Rows in memory: arrays of elements of some cells each; what append, copy, clear and a store do to an array of one's own. Over any program; no program in sight. What append, copy, clear and a store do to an array of one's own. Over any program; no program in sight. More of what is done to an array of one's own: == nil, a store, copy, clear, append of zeros. Over any program; no program in sight. What is new in memory; the size of a type. Over any program; no program in sight. Calls that turn an array of one's own; append of one element that stands in a known block. Over any program; no program in sight. Calls that turn two known blocks, and memory held fast. Over any program; no program in sight. Memory of cells alone; iterators: words for their proofs. Over any program; no program in sight. -/
import Derived.Test.YtfpmcmhihhnfgaaGreatKE3
import Derived.ArgAppend
import Derived.Lib.AppendZerosOnto
import Derived.RangeFuncBound
set_option linter.unusedVariables false
set_option linter.unusedSimpArgs false
namespace Go.Proofs.YtfpmcmhihhnfgaaGreat
open Go.RowKit

/-- n elements of w cells each, from p on -/
structure Rows (H : Hp) (p : Option Loc) (n w : Nat) (rows : List (List Value)) : Prop where
  len : n = rows.length
  wid : ∀ r ∈ rows, r.length = w
  row : ∀ (i : Nat) r, rows[i]? = some r → RowAt H p ((i * w : Nat) : Int) r
theorem RowAt.sub {H : Hp} {p : Option Loc} {off : Int} {cs : List Value} (h : RowAt H p off cs) (h0 : 0 ≤ off) {j : Nat} {v : Value} (hv : cs[j]? = some v) {off' : Int} (ho : off' = off + j) : RowAt H p off' [v] := by
  obtain ⟨b, o, h1, C, T, fz, h2, h3⟩ := h
  refine ⟨b, o, h1, C, T, fz, h2, fun i hi => ?_⟩
  have hi0 : i = 0 := by simpa using hi
  subst hi0
  have hj : j < cs.length := (List.getElem?_eq_some_iff.1 hv).1
  have := h3 j hj
  rw [show o + off'.toNat + 0 = o + off.toNat + j by omega, this.1, hv]
  exact ⟨rfl, this.2⟩
theorem RowAt.isSome {H : Hp} {p : Option Loc} {off : Int} {cs : List Value} (h : RowAt H p off cs) : p.isSome = true := by
  obtain ⟨b, o, h1, _⟩ := h
  rw [h1]; rfl
theorem Rows.mono {H K : Hp} {p : Option Loc} {n w : Nat} {rows : List (List Value)} (h : Rows H p n w rows) (hk : H.le K) : Rows K p n w rows := ⟨h.len, h.wid, fun i r hr => (h.row i r hr).mono hk⟩
theorem Rows.nil (H : Hp) (p : Option Loc) (w : Nat) : Rows H p 0 w [] := ⟨rfl, fun r hr => by simp at hr, fun i r hr => by simp at hr⟩
/-- the element at k -/
theorem Rows.at {H : Hp} {p : Option Loc} {n w : Nat} {rows : List (List Value)} (h : Rows H p n w rows) {k : Nat} (hk : k < n) {off : Int} (ho : off = k * w) : ∃ r, rows[k]? = some r ∧ r.length = w ∧ RowAt H p off r := by
  have hlt : k < rows.length := by rw [← h.len]; exact hk
  refine ⟨rows[k], List.getElem?_eq_getElem hlt, h.wid _ (List.getElem_mem ..), ?_⟩
  have := h.row k _ (List.getElem?_eq_getElem hlt)
  rw [ho]
  simpa using this
def shiftP (p : Option Loc) (k : Nat) : Option Loc := p.map fun a => a.shift k
theorem ptrAt_shift (p : Option Loc) (off : Int) : ptrAt p off = ptrAt (shiftP p off.toNat) 0 := by
  cases p <;> simp [ptrAt, shiftP]
/-- a part of it -/
theorem Rows.part {H : Hp} {p : Option Loc} {n w : Nat} {rows : List (List Value)} (h : Rows H p n w rows) (lo hi : Nat) (hl : lo ≤ hi) (hn : hi ≤ n) : Rows H (shiftP p (lo * w)) (hi - lo) w ((rows.drop lo).take (hi - lo)) := by
  have hlen := h.len
  refine ⟨by simp; omega, fun r hr => h.wid r (List.mem_of_mem_drop (List.mem_of_mem_take hr)), fun i r hr => ?_⟩
  rw [List.getElem?_take] at hr
  split at hr
  · rw [List.getElem?_drop] at hr
    obtain ⟨b, o, h1, C, T, fz, h2, h3⟩ := h.row _ _ hr
    refine ⟨b, o + lo * w, by rw [h1]; exact congrArg some (shift_at ..), C, T, fz, h2, fun j hj => ?_⟩
    have e : o + lo * w + (((i * w : Nat) : Int)).toNat + j = o + ((((lo + i) * w : Nat) : Int)).toNat + j := by
      simp only [Int.toNat_natCast]
      rw [Nat.add_mul]
      omega
    rw [e]
    exact h3 j hj
  · cases hr
theorem Rows.take {H : Hp} {p : Option Loc} {n w : Nat} {rows : List (List Value)} (h : Rows H p n w rows) (hi : Nat) (hn : hi ≤ n) : Rows H p hi w (rows.take hi) := by
  have hlen := h.len
  refine ⟨by simp; omega, fun r hr => h.wid r (List.mem_of_mem_take hr), fun i r hr => ?_⟩
  rw [List.getElem?_take] at hr
  split at hr
  · exact h.row i r hr
  · cases hr
/-- rows of a block -/
theorem Rows.block {H : Hp} {b o : Nat} {C : Array Value} {T : Nat} (hb : H b = some (.cells C T (0, 0))) {n w : Nat} {rows : List (List Value)} (hn : n = rows.length) (hw : ∀ r ∈ rows, r.length = w) (hc : (C.toList.drop o).take (n * w) = rows.flatten) : Rows H (some (b, o)) n w rows := by
  refine ⟨hn, hw, fun i r hr => ⟨b, o, rfl, C, T, (0, 0), hb, fun j hj => ⟨?_, unfz0 _⟩⟩⟩
  have hi : i < rows.length := (List.getElem?_eq_some_iff.1 hr).1
  have hrm : r ∈ rows := List.mem_of_getElem? hr
  have hrw := hw r hrm
  have hfl : rows.flatten[i * w + j]? = r[j]? := by
    clear hc hb hn
    induction rows generalizing i with
    | nil => simp at hr
    | cons a l ih =>
      have ha := hw a (List.mem_cons_self ..)
      cases i with
      | zero =>
        simp only [List.getElem?_cons_zero, Option.some.injEq] at hr
        subst hr
        simp only [List.flatten_cons, Nat.zero_mul, Nat.zero_add]
        rw [List.getElem?_append_left hj]
      | succ i =>
        simp only [List.getElem?_cons_succ] at hr
        simp only [List.flatten_cons]
        rw [List.getElem?_append_right (by rw [ha, Nat.succ_mul]; omega)]
        rw [← ih (fun r hr => hw r (List.mem_cons_of_mem _ hr)) i hr (by simpa using hi) (List.mem_of_getElem? hr)]
        congr 1
        rw [ha, Nat.succ_mul]; omega
  have hlt : i * w + j < n * w := by
    rw [hn]
    have h1 : i * w + w ≤ rows.length * w := by rw [← Nat.succ_mul]; exact Nat.mul_le_mul_right _ hi
    omega
  rw [← hfl, ← hc, List.getElem?_take, if_pos hlt, List.getElem?_drop, Array.getElem?_toList]
  congr 1
  simp only [Int.toNat_natCast]; omega
/-- an array of one's own: block g, nothing else -/
def Ow (H : Hp) (e w : Nat) (p : Option Loc) (n c : Nat) (rows : List (List Value)) (g : Option Nat) : Prop :=
  n = rows.length ∧ (∀ r ∈ rows, r.length = w ∧ ∀ v ∈ r, v.oneCell' = true) ∧ n ≤ c ∧ c ≤ maxLen ∧
  ((c = 0 ∧ g = none) ∨ (∃ (b : Nat) (C : Array Value), p = some ((b : Blk), 0) ∧ g = some b ∧ H b = some (.cells C e (0, 0)) ∧ C.size = c * w ∧ C.toList.take (n * w) = rows.flatten))
theorem flat_len {w : Nat} : ∀ {rows : List (List Value)}, (∀ r ∈ rows, r.length = w) → rows.flatten.length = rows.length * w
  | [], _ => by simp
  | r :: l, h => by
    rw [List.flatten_cons, List.length_append, h r (List.mem_cons_self ..), flat_len (fun r hr => h r (List.mem_cons_of_mem _ hr)), List.length_cons, Nat.succ_mul]
    omega
theorem Ow.rows {H : Hp} {e w n c : Nat} {p : Option Loc} {rows : List (List Value)} {g : Option Nat} (h : Ow H e w p n c rows g) : Rows H p n w rows := by
  obtain ⟨h1, h2, h3, h4, h5⟩ := h
  rcases h5 with ⟨rfl, _⟩ | ⟨b, C, rfl, _, h6, h7, h8⟩
  · have : rows = [] := List.length_eq_zero_iff.1 (by omega)
    subst this
    rw [h1]
    exact Rows.nil H p w
  · exact Rows.block h6 h1 (fun r hr => (h2 r hr).1) (by simpa using h8)
theorem Ow.nil (H : Hp) (e w : Nat) (p : Option Loc) : Ow H e w p 0 0 [] none := ⟨rfl, fun r hr => by simp at hr, Nat.le_refl _, by simp [maxLen], .inl ⟨rfl, rfl⟩⟩
theorem Ow.mono {H K : Hp} {e w n c : Nat} {p : Option Loc} {rows : List (List Value)} {g : Option Nat} (h : Ow H e w p n c rows g) (hk : ∀ b, g = some b → ∀ o, H b = some o → K b = some o) : Ow K e w p n c rows g := by
  obtain ⟨h1, h2, h3, h4, h5⟩ := h
  refine ⟨h1, h2, h3, h4, ?_⟩
  rcases h5 with ⟨rfl, h6⟩ | ⟨b, C, rfl, hg, h6, h7, h8⟩
  · exact .inl ⟨rfl, h6⟩
  · exact .inr ⟨b, C, rfl, hg, hk b hg _ h6, h7, h8⟩
theorem Ow.take {H : Hp} {e w n c : Nat} {p : Option Loc} {rows : List (List Value)} {g : Option Nat} (h : Ow H e w p n c rows g) (m : Nat) (hm : m ≤ n) : Ow H e w p m c (rows.take m) g := by
  obtain ⟨h1, h2, h3, h4, h5⟩ := h
  refine ⟨by simp; omega, fun r hr => h2 r (List.mem_of_mem_take hr), by omega, h4, ?_⟩
  rcases h5 with ⟨rfl, h6⟩ | ⟨b, C, rfl, hg, h6, h7, h8⟩
  · exact .inl ⟨rfl, h6⟩
  · refine .inr ⟨b, C, rfl, hg, h6, h7, ?_⟩
    have hle : m * w ≤ n * w := Nat.mul_le_mul_right _ hm
    have : C.toList.take (m * w) = (C.toList.take (n * w)).take (m * w) := by rw [List.take_take, Nat.min_eq_left hle]
    rw [this, h8]
    have hfl := flat_len (rows := rows.take m) (fun r hr => (h2 r (List.mem_of_mem_take hr)).1)
    have hlm : (rows.take m).length = m := by simp; omega
    rw [hlm] at hfl
    conv => lhs; rw [← List.take_append_drop m rows, List.flatten_append]
    rw [← hfl, List.take_left]
/-- memory that is held fast where block g alone was turned, or new ones came -/
structure Upd (g : Option Nat) (W W' : World) (H H' : Hp) : Prop where
  os : W'.os = W.os
  tape : W'.tape = W.tape
  output : W'.output = W.output
  size : W.heap.size ≤ W'.heap.size
  blk : ∀ b, b < W.heap.size → g ≠ some b → W'.heap[b]? = W.heap[b]?
  sub : H'.le (hpOf W')
  same : ∀ b, b < W.heap.size → g ≠ some b → H' b = H b
  dom : ∀ b o, H' b = some o → (∃ o', H b = some o') ∨ W.heap.size ≤ b
theorem Upd.refl {W : World} {H : Hp} (g : Option Nat) (h : H.le (hpOf W)) : Upd g W W H H := ⟨rfl, rfl, rfl, Nat.le_refl _, fun _ _ _ => rfl, h, fun _ _ _ => rfl, fun b o hb => .inl ⟨o, hb⟩⟩
theorem Upd.turned {W0 : World} {M : Nat → Prop} {g : Option Nat} {W W' : World} {H H' : Hp} (h : Upd g W W' H H') (hg : ∀ b, g = some b → (∃ o, H b = some o) ∧ (W0.heap.size ≤ b ∨ M b)) : Turned W0 M H W H' W' :=
  ⟨⟨h.os, h.tape, h.output, h.size, fun b hb hn => h.blk b hb (fun he => hn (hg b he))⟩, h.sub, h.dom⟩
/-- what lies elsewhere is kept -/
theorem Upd.keep {g : Option Nat} {W W' : World} {H H' K : Hp} (h : Upd g W W' H H') (hH : H.le (hpOf W)) (hk : K.le H) (hg : ∀ b, g = some b → K b = none) : K.le H' := fun b o hb => by
  have h1 := hk b o hb
  have h2 := heap_lt (hH b o h1)
  rw [h.same b h2 (fun he => by rw [hg b he] at hb; cases hb)]
  exact h1
end Go.Proofs.YtfpmcmhihhnfgaaGreat
namespace Go.Proofs.YtfpmcmhihhnfgaaGreat
open Go.RowKit

theorem flat_take {w : Nat} : ∀ {rows : List (List Value)} (i : Nat), (∀ r ∈ rows, r.length = w) → (rows.take i).flatten = rows.flatten.take (i * w)
  | [], i, _ => by simp
  | r :: l, 0, _ => by simp
  | r :: l, i + 1, h => by
    have hr := h r (List.mem_cons_self ..)
    have h1 : r.take (i * w + w) = r := List.take_of_length_le (by omega)
    rw [List.take_succ_cons, List.flatten_cons, List.flatten_cons, flat_take i (fun r hr => h r (List.mem_cons_of_mem _ hr)), List.take_append, hr, Nat.succ_mul, h1, Nat.add_sub_cancel]
theorem flat_drop {w : Nat} : ∀ {rows : List (List Value)} (i : Nat), (∀ r ∈ rows, r.length = w) → (rows.drop i).flatten = rows.flatten.drop (i * w)
  | [], i, _ => by simp
  | r :: l, 0, _ => by simp
  | r :: l, i + 1, h => by
    have hr := h r (List.mem_cons_self ..)
    have h1 : r.drop (i * w + w) = [] := List.drop_of_length_le (by omega)
    rw [List.drop_succ_cons, List.flatten_cons, flat_drop i (fun r hr => h r (List.mem_cons_of_mem _ hr)), List.drop_append, hr, Nat.succ_mul, h1, Nat.add_sub_cancel, List.nil_append]
section
variable {P : Program} {W : World} {H : Hp} {e w n c : Nat} {p : Option Loc} {rows : List (List Value)} {g : Option Nat}
theorem Rows.cells {a : Loc} (h : Rows H (some a) n w rows) (hH : H.le (hpOf W)) (hw : 0 < w) : ∀ (j : Nat) u, rows.flatten[j]? = some u → W.cell? (a.addr.add j) = some u := by
  intro j u hu
  have hj : j < rows.flatten.length := (List.getElem?_eq_some_iff.1 hu).1
  rw [flat_len h.wid] at hj
  have hi : j / w < rows.length := (Nat.div_lt_iff_lt_mul hw).2 hj
  have hrow := h.row (j / w) _ (List.getElem?_eq_getElem hi)
  have hk : j % w < w := Nat.mod_lt _ hw
  have hdm := Nat.div_add_mod j w
  rw [Nat.mul_comm] at hdm
  have hlen := h.wid _ (List.getElem_mem hi)
  obtain ⟨b', o', he, C, T, fz, h2, h3⟩ := hrow
  simp only [Option.some.injEq] at he
  subst he
  have h4 := (h3 (j % w) (by omega)).1
  have h5 := hH _ _ h2
  rw [addr_at, add_at, cell_at h5, ← hu]
  have hf : rows.flatten[j]? = rows[j / w][j % w]? := by
    have h6 := flat_drop (rows := rows) (j / w) h.wid
    have h7 : rows.flatten[j]? = (rows.flatten.drop (j / w * w))[j % w]? := by rw [List.getElem?_drop, hdm]
    rw [h7, ← h6, List.drop_eq_getElem_cons hi, List.flatten_cons, List.getElem?_append_left (by omega)]
  rw [hf, ← h4]
  congr 1
  simp only [Int.toNat_natCast]
  omega
theorem Upd.setRow {b : Nat} {C C' : Array Value} (hH : H.le (hpOf W)) (hb : H b = some (.cells C e (0, 0))) : Upd (some b) W (W.setRow b C') H (addH H b (.cells C' e (0, 0))) := by
  have h1 := hH b _ hb
  have hold : ∀ k, k ≠ b → (W.setRow b C').heap[k]? = W.heap[k]? := fun k hk => setRow_other W b k _ hk
  refine ⟨rfl, rfl, rfl, by simp, fun k _ hk => hold k (fun h => hk (by rw [h])), fun k o hk => ?_, fun k _ hk => ?_, fun k o hk => ?_⟩
  · unfold addH at hk
    split at hk
    · rename_i h
      subst h
      rw [← hk]
      exact setRow_heap W k C _ e _ h1
    · rename_i h
      have := hH k o hk
      simp only [hpOf] at this ⊢
      rw [hold k h, this]
  · unfold addH
    rw [if_neg (fun h => hk (by rw [h]))]
  · unfold addH at hk
    split at hk
    · rename_i h
      subst h
      exact .inl ⟨_, hb⟩
    · exact .inl ⟨o, hk⟩
theorem Upd.made {g : Option Nat} (hH : H.le (hpOf W)) (o : Obj) : Upd g W (W.drew.alloc o) H (addH H W.heap.size o) := by
  have hold : ∀ k, k < W.heap.size → (W.drew.alloc o).heap[k]? = W.heap[k]? := fun k hk => heap_alloc_old W.drew o hk
  refine ⟨rfl, rfl, rfl, by simp, fun k hk _ => hold k hk, fun k q hk => ?_, fun k hk _ => ?_, fun k q hk => ?_⟩
  · unfold addH at hk
    split at hk
    · rename_i h
      subst h
      rw [← hk]
      exact heap_alloc_new W.drew o
    · have := hH k q hk
      have hlt := heap_lt this
      simp only [hpOf] at this ⊢
      rw [hold k hlt, this]
  · unfold addH
    rw [if_neg (by omega)]
  · unfold addH at hk
    split at hk
    · rename_i h
      exact .inr (by omega)
    · exact .inl ⟨q, hk⟩
theorem Ow.made {C : Array Value} (hn : n = rows.length) (hr : ∀ r ∈ rows, r.length = w ∧ ∀ v ∈ r, v.oneCell' = true) (hc : n ≤ c) (hm : c ≤ maxLen) (hs : C.size = c * w) (ht : C.toList.take (n * w) = rows.flatten) (k : Nat) :
    Ow (addH H k (.cells C e (0, 0))) e w (some (k, 0)) n c rows (some k) := ⟨hn, hr, hc, hm, .inr ⟨k, C, rfl, rfl, addH_at .., hs, ht⟩⟩
/-- a piece of an array is written over -/
theorem Ow.write {b : Nat} {C : Array Value} (h : Ow H e w p n c rows g) (hp : p = some ((b : Blk), 0)) (hg : g = some b) (hs : C.size = c * w) {off n' : Nat} {vs : List Value} {rows' : List (List Value)} (hn' : n' = rows'.length)
    (hr : ∀ r ∈ rows', r.length = w ∧ ∀ v ∈ r, v.oneCell' = true) (hc : n' ≤ c) (hfit : off + vs.length ≤ c * w) (ht' : (C.toList.take off ++ vs ++ C.toList.drop (off + vs.length)).take (n' * w) = rows'.flatten) :
    Ow (addH H b (.cells (C.toList.take off ++ vs ++ C.toList.drop (off + vs.length)).toArray e (0, 0))) e w p n' c rows' g := by
  subst hp; subst hg
  refine Ow.made hn' hr hc h.2.2.2.1 ?_ (by simpa using ht') b
  simp only [List.size_toArray, List.length_append, List.length_take, List.length_drop, Array.length_toList]
  omega
theorem bounds_flat (hr : ∀ r ∈ rows, r.length = w ∧ ∀ v ∈ r, v.oneCell' = true) : ∀ u ∈ rows.flatten, u.oneCell' = true := fun u hu => by
  obtain ⟨r, h1, h2⟩ := List.mem_flatten.1 hu
  exact (hr r h1).2 u h2

/-- append of rows -/
theorem run_append_rows {t bytes : Nat} {i : TypeInfo} {z : Value} (ht : P.underlying t = some (.slice e)) (hi : P.info? e = some i) (hz : i.zero = some z) (hs : i.size = w) (hby : i.bytes = bytes) (hzs : z.cells.size = w) (hw : 0 < w)
    (hH : H.le (hpOf W)) (ho : Ow H e w p n c rows g) {p2 : Option Loc} {m c2 : Nat} {news : List (List Value)} (hr : Rows H p2 m w news) (h1 : ∀ r ∈ news, ∀ v ∈ r, v.oneCell' = true) (h63 : n + m ≤ maxLen) (hb : (n + m) * bytes ≤ 140737488355328) (ty : Nat) :
    ∃ p' c' g' W' H', (EK.sem (.bi .append #[t, t] ty) [vsl p n c, vsl p2 m c2]).run P W = .ok (.value (vsl p' (n + m) c')) W' ∧ Upd g W W' H H' ∧ Ow H' e w p' (n + m) c' (rows ++ news) g' ∧ (g' = g ∨ g' = some W.heap.size) ∧ (n + m ≤ c → p' = p ∧ c' = c ∧ g' = g) := by
  have hrows : ∀ r ∈ rows ++ news, r.length = w ∧ ∀ v ∈ r, v.oneCell' = true := fun r hr' => by
    rcases List.mem_append.1 hr' with h | h
    · exact ho.2.1 r h
    · exact ⟨hr.wid r h, h1 r h⟩
  have hflat : ∀ u ∈ news.flatten, u.oneCell' = true := bounds_flat (w := w) (fun r h => ⟨hr.wid r h, h1 r h⟩)
  have hln : news.flatten.length = m * w := by rw [flat_len hr.wid, ← hr.len]
  have hlr : rows.flatten.length = n * w := by rw [flat_len (fun r h => (ho.2.1 r h).1), ← ho.1]
  have hlen : n + m = (rows ++ news).length := by rw [List.length_append, ← ho.1, ← hr.len]
  have hsmall : n + m ≤ 9223372036854775807 := by simp only [maxLen] at h63; omega
  have hsem : ∀ (v v2 : Value), (EK.sem (.bi .append #[t, t] ty) [v, v2]).run P W = ((Builtin.append_ #[t, t] ty #[v, v2]).run P W).andThen fun v w => .ok (.value v) w := fun v v2 => by
    simp [EK.sem, builtin]
  by_cases hm : m = 0
  · subst hm
    have hnn : news = [] := List.length_eq_zero_iff.1 hr.len.symm
    subst hnn
    refine ⟨p, c, g, W, H, ?_, Upd.refl g hH, by simpa using ho, .inl rfl, fun _ => ⟨rfl, rfl, rfl⟩⟩
    rw [hsem]
    have hcap : n + 0 ≤ c := ho.2.2.1
    cases p <;> cases p2 <;> simp [vsl, Builtin.append_, ptrAt, run_underlying ht, sizeOf, typeInfo, hi, Builtin.lenOf, Builtin.firstCells, loadCells, loadCellsFrom, ho.2.2.1, storeCells]
  · -- there is something
    obtain ⟨r0, hr0, _, hat⟩ := hr.at (k := 0) (by omega) (off := 0) (by simp)
    obtain ⟨b2, o2, rfl, _⟩ := hat
    have hnews := hr.cells hH hw
    by_cases hroom : n + m ≤ c
    · obtain ⟨q1, q2, q3, q4, q5⟩ := ho
      rcases q5 with ⟨rfl, _⟩ | ⟨b, C, rfl, rfl, h6, h7, h8⟩
      · omega
      · have hmul : (n + m) * w ≤ c * w := Nat.mul_le_mul_right _ hroom
        rw [Nat.add_mul] at hmul
        have hrun := run_append_room (P := P) W t ty e i ht hi b n c C (hH b _ h6) ⟨b2, o2, none⟩ m c2 news.flatten (by rw [hln, hs]) hnews hflat hroom (by rw [hs, hln, h7]; exact hmul)
        refine ⟨_, _, some b, _, _, ?_, Upd.setRow hH h6, Ow.write ⟨q1, q2, q3, q4, .inr ⟨b, C, rfl, rfl, h6, h7, h8⟩⟩ rfl rfl h7 (off := n * w) (vs := news.flatten) hlen hrows hroom (by rw [hln]; exact hmul) ?_, .inl rfl, fun _ => ⟨rfl, rfl, rfl⟩⟩
        · rw [hsem]
          simp only [vsl, ptrAt, Option.map_some, Int.toNat_zero, add0, addr_at, hrun, Result.andThen_ok, hs]
        · rw [h8, List.flatten_append, ← List.flatten_append, Nat.add_mul, ← hlr, ← hln, ← List.length_append, ← List.flatten_append, List.take_left]
    · -- a new block
      have hge := grownCap_ge W (n + m) c e
      have hcm : grownCap W (n + m) c e ≤ maxLen := grownCap_le_maxLen W (n + m) c e h63
      have fin : ∀ (old : Nat), Ow (addH H W.heap.size (.cells (rows.flatten.toArray ++ news.flatten.toArray ++ Builtin.zeroCells z.cells (grownCap W (n + m) c e - (n + m))) e)) e w (some (W.heap.size, 0)) (n + m) (grownCap W (n + m) c e) (rows ++ news) (some W.heap.size) := fun _ => by
        refine Ow.made hlen hrows hge hcm ?_ ?_ _
        · simp only [Array.size_append, List.size_toArray, size_zeroCells, hzs, hlr, hln, ← Nat.add_mul]
          congr 1
          omega
        · simp only [Array.toList_append, List.append_assoc]
          rw [← List.append_assoc, ← List.flatten_append]
          have : (n + m) * w = (rows ++ news).flatten.length := by rw [List.flatten_append, List.length_append, hlr, hln, Nat.add_mul]
          rw [this]
          exact List.take_left
      refine ⟨_, _, some W.heap.size, _, _, ?_, Upd.made hH _, fin 0, .inr rfl, fun h => absurd h hroom⟩
      rw [hsem]
      cases p with
      | none =>
        obtain ⟨q1, q2, q3, q4, q5⟩ := ho
        rcases q5 with ⟨rfl, _⟩ | ⟨b, C, h, _⟩
        · have hn0 : n = 0 := by omega
          subst hn0
          have hrn : rows = [] := List.length_eq_zero_iff.1 q1.symm
          subst hrn
          have hrun := run_append_nil (P := P) W t ty e i z ht hi hz ⟨b2, o2, none⟩ m c2 news.flatten (by rw [hln, hs]) hnews (by omega) (by omega) (by rw [hby]; simp only [Nat.zero_add] at hb; omega)
          simp only [vsl, ptrAt, Option.map_some, Option.map_none, Int.toNat_zero, add0, addr_at, hrun, Result.andThen_ok]
          simp
        · cases h
      | some a =>
        have holds : ∀ (j : Nat) u, rows.flatten[j]? = some u → W.cell? (a.addr.add j) = some u := ho.rows.cells hH hw
        have hrun := run_append_grow (P := P) W t ty e i z ht hi hz a.addr n c rows.flatten (by rw [hlr, hs]) holds ⟨b2, o2, none⟩ m c2 news.flatten (by rw [hln, hs]) hnews (by omega) (by omega) (growslice_fits (by omega) (by rw [hby]; exact hb))
        simp only [vsl, ptrAt, Option.map_some, Int.toNat_zero, add0, addr_at, hrun, Result.andThen_ok]
end
end Go.Proofs.YtfpmcmhihhnfgaaGreat
namespace Go.Proofs.YtfpmcmhihhnfgaaGreat
open Go.RowKit

section
variable {P : Program} {W : World} {H : Hp} {e w n c : Nat} {p : Option Loc} {rows : List (List Value)} {g : Option Nat}
theorem run_nil_in {t e : Nat} (ht : P.underlying t = some (.slice e)) (d : Nat) (b : Option Addr) (n c : Nat) (w : World) : (Op.equalIn (d + 1) t (.slice b n c) (.slice none 0 0)).run P w = .ok b.isNone w := by
  cases b <;> simp only [Op.equalIn, Sem.run_bind, run_underlying ht, Result.andThen_ok, Sem.run_pure] <;> rfl
theorem ek_nil {t e : Nat} (ht : P.underlying t = some (.slice e)) (x y : Operand) (p : Option Loc) (n c : Nat) (w : World) : (EK.sem (.bop .eql t x y) [vsl p n c, Value.slice none 0 0]).run P w = .ok (.value (vb p.isNone)) w := by
  have h := run_nil_in ht 9999 (ptrAt p 0) n c w
  have hb : (binOp .eql t (vsl p n c) (.slice none 0 0)).run P w = .ok (vb p.isNone) w := by
    unfold binOp
    simp only [Op.equal, Op.maxDepth, Sem.run_bind]
    show ((Op.equalIn (9999 + 1) t (vsl p n c) (.slice none 0 0)).run P w).andThen _ = _
    rw [h]
    cases p <;> rfl
  have hg : (eqGuard .eql t x y (vsl p n c) (.slice none 0 0)).run P w = .ok () w := by
    simp [eqGuard]
  simp only [EK.sem, List.getD_cons_zero, List.getD_cons_succ, Sem.run_bind, hg, Result.andThen_ok, hb, Sem.run_pure]
theorem seg_take {C : List Value} {N off : Nat} {vs : List Value} (hN : N ≤ C.length) (h : off + vs.length ≤ N) : (C.take off ++ vs ++ C.drop (off + vs.length)).take N = (C.take N).take off ++ vs ++ (C.take N).drop (off + vs.length) := by
  have h1 : (C.take off ++ vs).length = off + vs.length := by simp; omega
  rw [List.take_append, h1, List.take_of_length_le (by omega), List.take_take, Nat.min_eq_left (by omega), List.drop_take]
/-- a segment of the row at i -/
def segRow (r : List Value) (j : Nat) (vs : List Value) : List Value := r.take j ++ vs ++ r.drop (j + vs.length)
theorem flat_set {w : Nat} {rows : List (List Value)} {i j : Nat} {r vs : List Value} (hw : ∀ r ∈ rows, r.length = w) (hr : rows[i]? = some r) (hj : j + vs.length ≤ w) :
    rows.flatten.take (i * w + j) ++ vs ++ rows.flatten.drop (i * w + j + vs.length) = (rows.set i (segRow r j vs)).flatten := by
  have hi := (List.getElem?_eq_some_iff.1 hr).1
  have hrl := hw r (List.mem_of_getElem? hr)
  have hs : rows.set i (segRow r j vs) = rows.take i ++ segRow r j vs :: rows.drop (i + 1) := List.set_eq_take_append_cons_drop .. |>.trans (by rw [if_pos hi])
  have hd : rows.drop i = r :: rows.drop (i + 1) := by
    obtain ⟨h1, h2⟩ := List.getElem?_eq_some_iff.1 hr
    rw [List.drop_eq_getElem_cons h1, h2]
  have e1 : rows.flatten = (rows.take i).flatten ++ (r ++ (rows.drop (i + 1)).flatten) := by
    conv => lhs; rw [← List.take_append_drop i rows, List.flatten_append, hd, List.flatten_cons]
  have hl : (rows.take i).flatten.length = i * w := by rw [flat_len (fun r hr => hw r (List.mem_of_mem_take hr)), List.length_take, Nat.min_eq_left (Nat.le_of_lt hi)]
  rw [hs, List.flatten_append, List.flatten_cons, e1, segRow]
  generalize (rows.take i).flatten = A at *
  generalize (rows.drop (i + 1)).flatten = B at *
  have t1 : (A ++ (r ++ B)).take (i * w + j) = A ++ r.take j := by
    rw [List.take_append, List.take_of_length_le (by omega), hl, Nat.add_sub_cancel_left, List.take_append_of_le_length (by omega)]
  have t2 : (A ++ (r ++ B)).drop (i * w + j + vs.length) = r.drop (j + vs.length) ++ B := by
    rw [List.drop_append, List.drop_of_length_le (by omega), List.nil_append, hl, show i * w + j + vs.length - i * w = j + vs.length by omega, List.drop_append_of_le_length (by omega)]
  rw [t1, t2]
  simp
theorem run_sizeOf {t k : Nat} {i : TypeInfo} (hi : P.info? t = some i) (hk : i.size = k) (w : World) : (sizeOf t).run P w = .ok k w := by
  simp [sizeOf, typeInfo, hi, hk]
/-- a store into the row at i -/
theorem ek_store {t : Nat} {ti : TypeInfo} (hti : P.info? t = some ti) (hH : H.le (hpOf W)) (ho : Ow H e w p n c rows g) {i j : Nat} {r vs : List Value} {v : Value} (hr : rows[i]? = some r) (hv : v.cells = vs.toArray) (hs : ti.size = vs.length) (hj : j + vs.length ≤ w) (hj0 : 0 < vs.length) (h1 : ∀ u ∈ vs, u.oneCell' = true) {off : Int} (hoff : off = ((i * w + j : Nat) : Int)) :
    ∃ W' H', (EK.sem (.storeO t) [.pointer (ptrAt p off), v]).run P W = .ok .skip W' ∧ Upd g W W' H H' ∧ Ow H' e w p n c (rows.set i (segRow r j vs)) g := by
  have hi := (List.getElem?_eq_some_iff.1 hr).1
  obtain ⟨q1, q2, q3, q4, q5⟩ := ho
  have hwid : ∀ r ∈ rows, r.length = w := fun r hr => (q2 r hr).1
  rcases q5 with ⟨rfl, _⟩ | ⟨b, C, rfl, rfl, h6, h7, h8⟩
  · omega
  · have hin : i * w + j + vs.length ≤ n * w := by
      have := Nat.mul_le_mul_right w (Nat.succ_le_of_lt (q1 ▸ hi : i < n))
      rw [Nat.succ_mul] at this
      omega
    have hcap : n * w ≤ c * w := Nat.mul_le_mul_right _ q3
    have hst := run_storeCells_at P b (i * w + j) e vs 0 C W (hH b _ h6) (by rw [h7]; omega) h1
    have hrl := hwid r (List.mem_of_getElem? hr)
    refine ⟨_, _, ?_, Upd.setRow hH h6, Ow.write ⟨q1, q2, q3, q4, .inr ⟨b, C, rfl, rfl, h6, h7, h8⟩⟩ rfl rfl h7 (off := i * w + j) (vs := vs) (by simp [q1]) (fun u hu => ?_) q3 (by omega) ?_⟩
    · simp only [EK.sem, List.getD_cons_zero, List.getD_cons_succ, Instr.storeAt, ptrAt, Option.map_some, addr_add, Nat.zero_add, Instr.sureAddr, Sem.run_bind, Sem.run_pure, Result.andThen_ok, storeVar, run_sizeOf hti hs, hv]
      rw [if_neg (by simp)]
      simp only [Nat.zero_add, hoff, Int.toNat_natCast]
      rw [hst]
      simp only [Result.andThen_ok, Nat.add_zero]
    · rcases List.mem_or_eq_of_mem_set hu with hu | rfl
      · exact q2 u hu
      · refine ⟨by simp [segRow]; omega, fun x hx => ?_⟩
        have hq := (q2 r (List.mem_of_getElem? hr)).2
        simp only [segRow, List.mem_append] at hx
        rcases hx with (hx | hx) | hx
        · exact hq x (List.mem_of_mem_take hx)
        · exact h1 x hx
        · exact hq x (List.mem_of_mem_drop hx)
    · rw [seg_take (by rw [Array.length_toList, h7]; exact hcap) hin, h8]
      exact flat_set hwid hr hj
/-- copy of rows to the place k -/
theorem ek_copy {t : Nat} {ti : TypeInfo} (ht : P.underlying t = some (.slice e)) (hti : P.info? e = some ti) (hs : ti.size = w) (hw : 0 < w) (hH : H.le (hpOf W)) (ho : Ow H e w p n c rows g) {p2 : Option Loc} {m sl c2 dl dc k : Nat} {news : List (List Value)} (hr : Rows H p2 m w news)
    (h1 : ∀ r ∈ news, ∀ v ∈ r, v.oneCell' = true) (hm : 0 < m) (hdl : Nat.min sl dl = m) (hk : k + m ≤ n) {off : Int} (hoff : off = ((k * w : Nat) : Int)) (ty : Nat) :
    ∃ W' H', (EK.sem (.bi .copy #[t, t] ty) [.slice (ptrAt p off) dl dc, vsl p2 sl c2]).run P W = .ok (.value (vi m)) W' ∧ Upd g W W' H H' ∧ Ow H' e w p n c (rows.take k ++ news ++ rows.drop (k + m)) g := by
  obtain ⟨q1, q2, q3, q4, q5⟩ := ho
  have hwid : ∀ r ∈ rows, r.length = w := fun r hr => (q2 r hr).1
  have hln : news.flatten.length = m * w := by rw [flat_len hr.wid, ← hr.len]
  have hflat : ∀ u ∈ news.flatten, u.oneCell' = true := bounds_flat (w := w) (fun r h => ⟨hr.wid r h, h1 r h⟩)
  obtain ⟨r0, hr0, _, hat⟩ := hr.at (k := 0) (by omega) (off := 0) (by simp)
  obtain ⟨b2, o2, rfl, _⟩ := hat
  have hnews := hr.cells hH hw
  have hkm : (k + m) * w ≤ n * w := Nat.mul_le_mul_right _ hk
  have hcap : n * w ≤ c * w := Nat.mul_le_mul_right _ q3
  rw [Nat.add_mul] at hkm
  rcases q5 with ⟨rfl, _⟩ | ⟨b, C, rfl, rfl, h6, h7, h8⟩
  · omega
  · have hst := run_storeCells_at P b (k * w) e news.flatten 0 C W (hH b _ h6) (by rw [h7, hln]; omega) hflat
    have hfc := run_firstCells_some (P := P) W w m ⟨b2, o2, none⟩ sl c2 news.flatten hln hnews
    simp only [Nat.add_zero] at hst
    refine ⟨W.setRow b (C.toList.take (k * w) ++ news.flatten ++ C.toList.drop (k * w + news.flatten.length)).toArray, _, ?_, Upd.setRow hH h6, Ow.write ⟨q1, q2, q3, q4, .inr ⟨b, C, rfl, rfl, h6, h7, h8⟩⟩ rfl rfl h7 (off := k * w) (vs := news.flatten) ?_ (fun u hu => ?_) q3 (by rw [hln]; omega) ?_⟩
    · have hmin : Nat.min sl dl = m := hdl
      have ho2 : off.toNat = k * w := by rw [hoff]; exact Int.toNat_natCast _
      generalize W.setRow b (C.toList.take (k * w) ++ news.flatten ++ C.toList.drop (k * w + news.flatten.length)).toArray = W1 at hst
      simp [EK.sem, builtin, Builtin.copy_, vsl, ptrAt, run_underlying ht, Builtin.lenOf, run_sizeOf hti hs, hmin, hfc, ho2, add_at, hst, goInt, vi]
    · simp only [List.length_append, List.length_take, List.length_drop, ← q1, ← hr.len]; omega
    · simp only [List.mem_append] at hu
      rcases hu with (hu | hu) | hu
      · exact q2 u (List.mem_of_mem_take hu)
      · exact ⟨hr.wid u hu, h1 u hu⟩
      · exact q2 u (List.mem_of_mem_drop hu)
    · rw [seg_take (by rw [Array.length_toList, h7]; exact hcap) (by rw [hln]; omega), h8, List.flatten_append, List.flatten_append, flat_take k hwid, flat_drop (k + m) hwid, hln, Nat.add_mul]
/-- copy of rows to the place k, to the end and beyond it -/
theorem ek_copyX {t : Nat} {ti : TypeInfo} (ht : P.underlying t = some (.slice e)) (hti : P.info? e = some ti) (hs : ti.size = w) (hw : 0 < w) (hH : H.le (hpOf W)) (ho : Ow H e w p n c rows g) {p2 : Option Loc} {m sl c2 dl dc k : Nat} {news : List (List Value)} (hr : Rows H p2 m w news)
    (h1 : ∀ r ∈ news, ∀ v ∈ r, v.oneCell' = true) (hm : 0 < m) (hdl : Nat.min sl dl = m) (hkn : k ≤ n) (hn : n ≤ k + m) (hk : k + m ≤ c) {off : Int} (hoff : off = ((k * w : Nat) : Int)) (ty : Nat) :
    ∃ W' H', (EK.sem (.bi .copy #[t, t] ty) [.slice (ptrAt p off) dl dc, vsl p2 sl c2]).run P W = .ok (.value (vi m)) W' ∧ Upd g W W' H H' ∧ Ow H' e w p (k + m) c (rows.take k ++ news) g := by
  obtain ⟨q1, q2, q3, q4, q5⟩ := ho
  have hwid : ∀ r ∈ rows, r.length = w := fun r hr => (q2 r hr).1
  have hln : news.flatten.length = m * w := by rw [flat_len hr.wid, ← hr.len]
  have hflat : ∀ u ∈ news.flatten, u.oneCell' = true := bounds_flat (w := w) (fun r h => ⟨hr.wid r h, h1 r h⟩)
  obtain ⟨r0, hr0, _, hat⟩ := hr.at (k := 0) (by omega) (off := 0) (by simp)
  obtain ⟨b2, o2, rfl, _⟩ := hat
  have hnews := hr.cells hH hw
  have hkm : (k + m) * w ≤ c * w := Nat.mul_le_mul_right _ hk
  have hkw : k * w ≤ n * w := Nat.mul_le_mul_right _ hkn
  have hcap : n * w ≤ c * w := Nat.mul_le_mul_right _ q3
  rw [Nat.add_mul] at hkm
  rcases q5 with ⟨rfl, _⟩ | ⟨b, C, rfl, rfl, h6, h7, h8⟩
  · omega
  · have hst := run_storeCells_at P b (k * w) e news.flatten 0 C W (hH b _ h6) (by rw [h7, hln]; omega) hflat
    have hfc := run_firstCells_some (P := P) W w m ⟨b2, o2, none⟩ sl c2 news.flatten hln hnews
    simp only [Nat.add_zero] at hst
    refine ⟨W.setRow b (C.toList.take (k * w) ++ news.flatten ++ C.toList.drop (k * w + news.flatten.length)).toArray, _, ?_, Upd.setRow hH h6, Ow.write ⟨q1, q2, q3, q4, .inr ⟨b, C, rfl, rfl, h6, h7, h8⟩⟩ rfl rfl h7 (off := k * w) (vs := news.flatten) ?_ (fun u hu => ?_) hk (by rw [hln]; omega) ?_⟩
    · have hmin : Nat.min sl dl = m := hdl
      have ho2 : off.toNat = k * w := by rw [hoff]; exact Int.toNat_natCast _
      generalize W.setRow b (C.toList.take (k * w) ++ news.flatten ++ C.toList.drop (k * w + news.flatten.length)).toArray = W1 at hst
      simp [EK.sem, builtin, Builtin.copy_, vsl, ptrAt, run_underlying ht, Builtin.lenOf, run_sizeOf hti hs, hmin, hfc, ho2, add_at, hst, goInt, vi]
    · simp only [List.length_append, List.length_take, ← q1, ← hr.len]; omega
    · simp only [List.mem_append] at hu
      rcases hu with hu | hu
      · exact q2 u (List.mem_of_mem_take hu)
      · exact ⟨hr.wid u hu, h1 u hu⟩
    · have hl2 : (C.toList.take (k * w) ++ news.flatten).length = (k + m) * w := by rw [List.length_append, List.length_take, Array.length_toList, h7, hln, Nat.add_mul]; omega
      rw [← hl2, List.take_left, List.flatten_append, flat_take k hwid, ← h8, List.take_take, Nat.min_eq_left hkw]
/-- what lies behind an array's elements is cleared -/
theorem ek_clear {t : Nat} {ti : TypeInfo} {z : Value} (ht : P.underlying t = some (.slice e)) (hti : P.info? e = some ti) (hz : ti.zero = some z) (hzs : z.cells.size = w) (hz1 : ∀ u ∈ z.cells.toList, u.oneCell' = true) (hH : H.le (hpOf W)) (ho : Ow H e w p n c rows g) {m dc : Nat} (hk : n + m ≤ c)
    {off : Int} (hoff : 0 < m → off = ((n * w : Nat) : Int)) (ty : Nat) :
    ∃ W' H', (EK.sem (.bi .clear #[t] ty) [.slice (ptrAt p off) m dc]).run P W = .ok (.value (.tuple #[])) W' ∧ Upd g W W' H H' ∧ Ow H' e w p n c rows g := by
  rcases Nat.eq_zero_or_pos m with rfl | hlt
  · refine ⟨W, H, ?_, Upd.refl g hH, ho⟩
    cases p <;> simp [EK.sem, builtin, Builtin.clear_, ptrAt, run_underlying ht]
  · have ho' := ho
    obtain ⟨q1, q2, q3, q4, q5⟩ := ho
    rcases q5 with ⟨rfl, _⟩ | ⟨b, C, rfl, rfl, h6, h7, h8⟩
    · omega
    · have hzl : (Builtin.zeroCells z.cells m).toList.length = m * w := by rw [Array.length_toList, size_zeroCells, hzs]
      have hz2 : ∀ u ∈ (Builtin.zeroCells z.cells m).toList, u.oneCell' = true := fun u hu => by
        simp only [Builtin.zeroCells, Array.toList_map, List.mem_map] at hu
        obtain ⟨i, hi, rfl⟩ := hu
        rw [hzs] at hi
        have hiw : i < m * w := by simpa using hi
        have hw0 : 0 < w := by
          rcases Nat.eq_zero_or_pos w with h | h
          · rw [h, Nat.mul_zero] at hiw; omega
          · exact h
        have : i % z.cells.size < z.cells.size := Nat.mod_lt _ (by omega)
        refine hz1 _ ?_
        rw [getElem!_pos z.cells _ this]
        exact Array.mem_toList_iff.2 (Array.getElem_mem this)
      have hkm : (n + m) * w ≤ c * w := Nat.mul_le_mul_right _ hk
      rw [Nat.add_mul] at hkm
      have hst := run_storeCells_at P b (n * w) e (Builtin.zeroCells z.cells m).toList 0 C W (hH b _ h6) (by rw [h7, hzl]; omega) hz2
      refine ⟨_, _, ?_, Upd.setRow hH h6, Ow.write ho' rfl rfl h7 (off := n * w) (vs := (Builtin.zeroCells z.cells m).toList) q1 q2 q3 (by rw [hzl]; omega) ?_⟩
      · obtain ⟨q, hq⟩ : ∃ q, m = q + 1 := ⟨m - 1, by omega⟩
        rw [hoff hlt]
        rw [hq] at hst ⊢
        simp only [EK.sem, builtin, Builtin.clear_, ptrAt, Option.map_some, Int.toNat_natCast, addr_add, Nat.zero_add]
        simp [run_underlying ht, zeroValue, typeInfo, hti, hz]
        rw [hst]
        simp
      · have hkl : (C.toList.take (n * w)).length = n * w := by rw [List.length_take, Array.length_toList, h7]; omega
        rw [List.append_assoc, List.take_append_of_le_length (by omega), List.take_take, Nat.min_self, ← h8]
end
end Go.Proofs.YtfpmcmhihhnfgaaGreat
namespace Go.Proofs.YtfpmcmhihhnfgaaGreat
open Go.RowKit

/-- what of memory held fast is new -/
def newer (W : World) (H : Hp) : Hp := fun b => if W.heap.size ≤ b then H b else none
/-- .. but for block g -/
def rest (W : World) (g : Option Nat) (H : Hp) : Hp := fun b => if W.heap.size ≤ b ∧ g ≠ some b then H b else none
section
variable {W W1 W' : World} {H H' K D : Hp} {g : Option Nat}
theorem newer_le (W : World) (H : Hp) : (newer W H).le H := fun b o h => by
  unfold newer at h
  split at h
  · exact h
  · cases h
theorem newer_new (W : World) (H : Hp) : ∀ b o, newer W H b = some o → W.heap.size ≤ b := fun b o h => by
  unfold newer at h
  split at h
  · assumption
  · cases h
theorem newer_at {b : Nat} (h : W.heap.size ≤ b) : newer W H b = H b := by unfold newer; rw [if_pos h]
theorem rest_le (W : World) (g : Option Nat) (H : Hp) : (rest W g H).le H := fun b o h => by
  unfold rest at h
  split at h
  · exact h
  · cases h
theorem rest_newer (W : World) (g : Option Nat) (H : Hp) : (rest W g H).le (newer W H) := fun b o h => by
  unfold rest at h
  split at h
  · rename_i hh; rw [newer_at hh.1]; exact h
  · cases h
theorem rest_g (W : World) (H : Hp) : ∀ b, g = some b → rest W g H b = none := fun b h => by
  unfold rest
  rw [if_neg (fun hh => hh.2 h)]
theorem rest_mono (W : World) (g : Option Nat) (h : H.le K) : (rest W g H).le (rest W g K) := fun b o hb => by
  unfold rest at hb ⊢
  split at hb
  · rename_i hh; rw [if_pos hh]; exact h b o hb
  · cases hb
theorem rest_upd (W : World) (hu : Upd g W1 W' H H') (hH : H.le (hpOf W1)) : (rest W g H).le (rest W g H') := fun b o hb => by
  unfold rest at hb ⊢
  split at hb
  · rename_i hh
    rw [if_pos hh, hu.same b (heap_lt (hH b o hb)) hh.2]
    exact hb
  · cases hb
theorem le_rest (hD : D.le H) (hf : ∀ b o, D b = some o → W.heap.size ≤ b) (hg : ∀ b, g = some b → D b = none) : D.le (rest W g H) := fun b o hb => by
  unfold rest
  rw [if_pos ⟨hf b o hb, fun h => by rw [hg b h] at hb; cases hb⟩]
  exact hD b o hb
theorem le_newer (hD : D.le H) (hf : ∀ b o, D b = some o → W.heap.size ≤ b) : D.le (newer W H) := fun b o hb => by rw [newer_at (hf b o hb)]; exact hD b o hb
/-- what was there before is not new -/
theorem old_none (hH : H.le (hpOf W)) {b : Nat} (hb : W.heap.size ≤ b) : H b = none := by
  cases hh : H b with
  | none => rfl
  | some o => have := heap_lt (hH b o hh); omega
end
theorem Rt.gfn {W0 : World} {H : Hp} {kn : World → Prop} {v : Value} {post : Value → Hp → Prop} (hp : post v (newer W0 H)) :
    Rt (fun z W' => ∃ v D, z = .returned v ∧ Ext W0 W' ∧ D.le (hpOf W') ∧ (∀ b o, D b = some o → W0.heap.size ≤ b) ∧ post v D) W0 noM H kn v := Rt.gf (newer_le W0 H) (newer_new W0 H) hp
theorem Ow.new {W : World} {H : Hp} {e w n c : Nat} {p : Option Loc} {rows : List (List Value)} {g : Option Nat} (h : Ow H e w p n c rows g) (hg : ∀ b, g = some b → W.heap.size ≤ b) : Ow (newer W H) e w p n c rows g :=
  h.mono fun b hb o ho => by rw [newer_at (hg b hb)]; exact ho
theorem Ow.lt {W : World} {H : Hp} {e w n c : Nat} {p : Option Loc} {rows : List (List Value)} {g : Option Nat} (h : Ow H e w p n c rows g) (hH : H.le (hpOf W)) : ∀ b, g = some b → b < W.heap.size := fun b hb => by
  rcases h.2.2.2.2 with ⟨_, h6⟩ | ⟨b', C, _, h6, h7, _⟩
  · rw [h6] at hb; cases hb
  · rw [h6] at hb; simp only [Option.some.injEq] at hb; subst hb; exact heap_lt (hH _ _ h7)
theorem Ow.held {H : Hp} {e w n c : Nat} {p : Option Loc} {rows : List (List Value)} {g : Option Nat} (h : Ow H e w p n c rows g) : ∀ b, g = some b → ∃ o, H b = some o := fun b hb => by
  rcases h.2.2.2.2 with ⟨_, h6⟩ | ⟨b', C, _, h6, h7, _⟩
  · rw [h6] at hb; cases hb
  · rw [h6] at hb; simp only [Option.some.injEq] at hb; subst hb; exact ⟨_, h7⟩
/-- a type's size -/
def infoIs (P : Program) (t size bytes : Nat) : Bool := match P.info? t with
  | some i => match i.zero with
    | some z => decide (i.size = size) && decide (i.bytes = bytes) && decide (z.cells.size = size) && z.cells.toList.all Value.oneCell'
    | none => false
  | none => false
theorem info_of {P : Program} {t size bytes : Nat} (h : infoIs P t size bytes = true) : ∃ i z, P.info? t = some i ∧ i.zero = some z ∧ i.size = size ∧ i.bytes = bytes ∧ z.cells.size = size ∧ ∀ u ∈ z.cells.toList, u.oneCell' = true := by
  unfold infoIs at h
  split at h
  · rename_i i hi
    split at h
    · rename_i z hz
      simp only [Bool.and_eq_true, decide_eq_true_eq, List.all_eq_true] at h
      exact ⟨i, z, hi, hz, h.1.1.1, h.1.1.2, h.1.2, h.2⟩
    · cases h
  · cases h
/-- append to nothing: an array of one's own -/
theorem ek_clone {P : Program} {t e w bytes : Nat} (ht : P.underlying t = some (.slice e)) (hi : infoIs P e w bytes = true) (hw : 0 < w) {W W0 : World} {H : Hp} (hn : Now W0 noM H W) (p0 : Option Loc) {p : Option Loc} {n c : Nat} {rows : List (List Value)} (hr : Rows H p n w rows)
    (h1 : ∀ r ∈ rows, ∀ v ∈ r, v.oneCell' = true) (hb : n * bytes ≤ 140737488355328) (h63 : n ≤ maxLen) (ty : Nat) :
    ∃ p' c' g W' H', (EK.sem (.bi .append #[t, t] ty) [vsl p0 0 0, vsl p n c]).run P W = .ok (.value (vsl p' n c')) W' ∧ Turned W0 noM H W H' W' ∧ Ow H' e w p' n c' rows g ∧ (∀ b, g = some b → W.heap.size ≤ b) ∧ H.le H' := by
  obtain ⟨i, z, i1, i2, i3, i4, i5, _⟩ := info_of hi
  obtain ⟨p', c', g, W', H', h2, h3, h4, h5, _⟩ := run_append_rows ht i1 i2 i3 i4 i5 hw hn.sub (Ow.nil H e w p0) hr h1 (by omega) (by rw [Nat.zero_add]; exact hb) ty (c2 := c)
  rw [Nat.zero_add] at h2 h4
  refine ⟨p', c', g, W', H', h2, h3.turned (fun b hb => by cases hb), h4, fun b hb => ?_, h3.keep hn.sub (Hp.le_refl H) (fun b hb => by cases hb)⟩
  rcases h5 with h5 | h5
  · rw [h5] at hb; cases hb
  · rw [h5] at hb; simp only [Option.some.injEq] at hb; omega
end Go.Proofs.YtfpmcmhihhnfgaaGreat
namespace Go.Proofs.YtfpmcmhihhnfgaaGreat
open Go.RowKit

theorem map0 (p : Option Loc) : (p.map fun a => a.shift 0) = p := by cases p <;> simp [Loc.shift]
/-- a call that turns block g alone, of what was there -/
def Gt (P : Program) (f : Nat) (args : Array Value) (H : Hp) (g : Option Nat) (post : Value → Hp → Option Nat → Prop) : Prop := ∀ W, H.le (hpOf W) → Calls P f args W fun z W' => ∃ v H' g', z = .returned v ∧ Upd g W W' H H' ∧ (g' = g ∨ ∀ b, g' = some b → W.heap.size ≤ b) ∧ post v H' g'
theorem Cl.turn {P : Program} {W0 : World} {M : Nat → Prop} {H : Hp} {kn : World → Prop} {f : Nat} {args : Array Value} {Φ : Ending → World → World → Prop} {g : Option Nat} {post : Value → Hp → Option Nat → Prop} (hc : Gt P f args H g post)
    (hk : ∀ v W W' H' g', post v H' g' → Upd g W W' H H' → (g' = g ∨ ∀ b, g' = some b → W.heap.size ≤ b) → Now W0 M H W → Φ (.returned v) W W') : Cl P W0 M H kn f args Φ := fun W n _ => (hc W n.sub).mono fun z W' ⟨v, H', g', hz, h1, h2, h3⟩ => by subst hz; exact hk v W W' H' g' h3 h1 h2 n
/-- what is held behind such a call: of the old, block g; and what is new -/
def merge (W : World) (g : Option Nat) (H K : Hp) : Hp := fun b => if b < W.heap.size ∧ g ≠ some b then H b else K b
theorem Upd.of_now {W0 W : World} {g : Option Nat} {H K : Hp} (hH : H.le (hpOf W0)) (hg : ∀ b, g = some b → ∃ o, H b = some o) (n : Now W0 (fun b => g = some b) K W) : Upd g W0 W H (merge W0 g H K) := by
  refine ⟨n.mod.os, n.mod.tape, n.mod.output, n.mod.size, fun b hb hg => n.mod.blk b hb hg, fun b o hb => ?_, fun b hb hg => ?_, fun b o hb => ?_⟩
  · unfold merge at hb
    split at hb
    · rename_i h
      have := hH b o hb
      simp only [hpOf] at this ⊢
      rw [n.mod.blk b h.1 h.2, this]
    · exact n.sub b o hb
  · unfold merge; rw [if_pos ⟨hb, hg⟩]
  · unfold merge at hb
    split at hb
    · exact .inl ⟨o, hb⟩
    · rename_i h
      rcases Nat.lt_or_ge b W0.heap.size with h1 | h1
      · have h2 : g = some b := Classical.byContradiction fun h3 => h ⟨h1, h3⟩
        exact .inl (hg b h2)
      · exact .inr h1
theorem Rt.gt {W0 : World} {g : Option Nat} {H K : Hp} {kn : World → Prop} {v : Value} {post : Value → Hp → Option Nat → Prop} (hH : H.le (hpOf W0)) (hg : ∀ b, g = some b → ∃ o, H b = some o) (g' : Option Nat) (hg' : g' = g ∨ ∀ b, g' = some b → W0.heap.size ≤ b) (hp : post v (merge W0 g H K) g') :
    Rt (fun z W' => ∃ v H' g', z = .returned v ∧ Upd g W0 W' H H' ∧ (g' = g ∨ ∀ b, g' = some b → W0.heap.size ≤ b) ∧ post v H' g') W0 (fun b => g = some b) K kn v := fun _ n _ => ⟨v, _, g', rfl, Upd.of_now hH hg n, hg', hp⟩
theorem Ow.merge {W0 : World} {g g' : Option Nat} {H K : Hp} {e w n c : Nat} {p : Option Loc} {rows : List (List Value)} (h : Ow K e w p n c rows g') (hg' : g' = g ∨ ∀ b, g' = some b → W0.heap.size ≤ b) : Ow (merge W0 g H K) e w p n c rows g' :=
  h.mono fun b hb o ho => by
    unfold Go.Proofs.YtfpmcmhihhnfgaaGreat.merge
    rw [if_neg (fun hh => ?_)]
    · exact ho
    · rcases hg' with h1 | h1
      · exact hh.2 (h1 ▸ hb)
      · have := h1 b hb; omega
/-- what is turned is one's own -/
theorem Upd.own {W0 W W' : World} {g : Option Nat} {H H' : Hp} {M : Nat → Prop} (h : Upd g W W' H H') {e w n c : Nat} {p : Option Loc} {rows : List (List Value)} (ho : Ow H e w p n c rows g) (hg : ∀ b, g = some b → W0.heap.size ≤ b ∨ M b) : Turned W0 M H W H' W' :=
  h.turned fun b hb => ⟨ho.held b hb, hg b hb⟩
/-- one row, in a known block, put behind -/
theorem run_append1 {P : Program} {t e w bytes : Nat} (ht : P.underlying t = some (.slice e)) (hi : infoIs P e w bytes = true) (hw : 0 < w) {W : World} {H : Hp} (hH : H.le (hpOf W)) {p : Option Loc} {n c : Nat} {rows : List (List Value)} {g : Option Nat} (ho : Ow H e w p n c rows g)
    {b : Nat} {row : List Value} (hk : W.heap[b]? = some (.cells row.toArray e (0, 0))) (hn : H b = none) (hl : row.length = w) (h1 : ∀ v ∈ row, v.oneCell' = true) (h63 : n + 1 ≤ maxLen) (hb : (n + 1) * bytes ≤ 140737488355328) (ty : Nat) :
    ∃ p' c' g' W' H', (EK.sem (.bi .append #[t, t] ty) [vsl p n c, .slice (some ⟨b, 0, none⟩) 1 1]).run P W = .ok (.value (vsl p' (n + 1) c')) W' ∧ Upd g W W' H H' ∧ Ow H' e w p' (n + 1) c' (rows ++ [row]) g' ∧ (g' = g ∨ g' = some W.heap.size) ∧ (n + 1 ≤ c → p' = p ∧ c' = c ∧ g' = g) := by
  obtain ⟨i, z, i1, i2, i3, i4, i5, _⟩ := info_of hi
  have hne : ∀ k, g = some k → k ≠ b := fun k hk2 he => by
    obtain ⟨o, h⟩ := ho.held k hk2
    rw [he, hn] at h; cases h
  have hbl := heap_lt hk
  have hle := addH_le hH hk
  have ho2 : Ow (addH H b (.cells row.toArray e (0, 0))) e w p n c rows g := ho.mono fun k _ o h => le_addH hn k o h
  have hr : Rows (addH H b (.cells row.toArray e (0, 0))) (some (b, 0)) 1 w [row] := Rows.block (addH_at ..) rfl (fun r hr => by simp only [List.mem_singleton] at hr; subst hr; exact hl) (by simp [← hl])
  obtain ⟨p', c', g', W', H', h2, h3, h4, h5, h6⟩ := run_append_rows ht i1 i2 i3 i4 i5 hw hle ho2 hr (fun r hr => by simp only [List.mem_singleton] at hr; subst hr; exact h1) h63 hb ty (c2 := 1)
  have hg' : ∀ k, g' = some k → k ≠ b := fun k hk2 => by
    rcases h5 with h5 | h5
    · exact hne k (h5 ▸ hk2)
    · rw [h5] at hk2; simp only [Option.some.injEq] at hk2; omega
  refine ⟨p', c', g', W', fun k => if k = b then none else H' k, h2, ⟨h3.os, h3.tape, h3.output, h3.size, h3.blk, fun k o hk2 => ?_, fun k hk2 hg => ?_, fun k o hk2 => ?_⟩, h4.mono fun k hk2 o ho => ?_, h5, h6⟩
  · split at hk2
    · cases hk2
    · exact h3.sub k o hk2
  · split
    · rename_i he; rw [he, hn]
    · rename_i he
      rw [h3.same k hk2 hg]
      unfold addH
      rw [if_neg he]
  · split at hk2
    · cases hk2
    · rename_i he
      rcases h3.dom k o hk2 with ⟨o', h⟩ | h
      · unfold addH at h
        rw [if_neg he] at h
        exact .inl ⟨o', h⟩
      · exact .inr h
  · rw [if_neg (hg' k hk2)]; exact ho
/-- a slice by three numbers -/
theorem ek_slice3 {P : Program} {t e w : Nat} (ht : P.underlying t = some (.slice e)) {ti : TypeInfo} (hi : P.info? e = some ti) (hs : ti.size = w) (p : Option Loc) (n c lo hi' mx : Nat) (h1 : lo ≤ hi') (h2 : hi' ≤ mx) (h3 : mx ≤ c) (W : World) :
    ∃ p', (EK.sem (.slice t true true true) [vsl p n c, vi lo, vi hi', vi mx]).run P W = .ok (.value (vsl p' (hi' - lo) (mx - lo))) W := by
  refine ⟨if mx = lo then p else shiftP p (lo * w), ?_⟩
  have hb : (Instr.sliceBounds true n c (some (vi lo)) (some (vi hi')) (some (vi mx))).run P W = .ok (lo, hi', mx) W := by
    simp only [Instr.sliceBounds, vi, Sem.run_bind, Sem.run_pure]
    rw [run_bound _ _ _ _ _ (by omega) (by omega)]
    simp only [Result.andThen_ok, Int.toNat_natCast]
    rw [run_bound _ _ _ _ _ (by omega) (by omega)]
    simp only [Result.andThen_ok, Int.toNat_natCast]
    rw [run_bound _ _ _ _ _ (by omega) (by omega)]
    simp only [Result.andThen_ok, Int.toNat_natCast]
  simp only [EK.sem, List.getD_cons_zero, List.drop_succ_cons, List.drop_zero, if_true, List.getElem?_cons_zero]
  simp only [Instr.sliceAt, Instr.slice, vsl, Sem.run_bind, run_underlying ht, Result.andThen_ok, hb, run_sizeOf hi hs, Sem.run_pure]
  by_cases hm : mx = lo
  · simp [hm]
  · simp only [hm, if_false]
    cases p <;> simp [ptrAt, shiftP]
/-- the capacity of a slice -/
theorem ek_cap {P : Program} {t e : Nat} (ht : P.underlying t = some (.slice e)) (ty : Nat) (p : Option Loc) (n c : Nat) (W : World) : (EK.sem (.bi .cap #[t] ty) [vsl p n c]).run P W = .ok (.value (vi c)) W := by
  simp [EK.sem, builtin, Builtin.cap_, vsl, run_underlying ht, goInt, vi]
/-- a slice from lo on -/
def tailP (p : Option Loc) (c lo w : Nat) : Option Loc := if c = lo then p else shiftP p (lo * w)
theorem slice_tail (p : Option Loc) (c lo n w : Nat) : Value.slice (ptrAt p (0 + (if (c : Int) = (lo : Int) then 0 else (lo : Int) * ((w : Nat) : Int)))) (((n : Int) - (lo : Int)) : Int).toNat (((c : Int) - (lo : Int)) : Int).toNat = vsl (tailP p c lo w) (n - lo) (c - lo) := by
  have e1 : (((n : Int) - (lo : Int)) : Int).toNat = n - lo := by omega
  have e2 : (((c : Int) - (lo : Int)) : Int).toNat = c - lo := by omega
  rw [e1, e2]
  unfold tailP
  by_cases h : c = lo
  · rw [if_pos h, if_pos (by omega), Int.add_zero]
  · rw [if_neg h, if_neg (by omega), ptrAt_shift, Int.zero_add, ← Int.natCast_mul, Int.toNat_natCast]
theorem Rows.tail {H : Hp} {p : Option Loc} {n w : Nat} {rows : List (List Value)} (h : Rows H p n w rows) {lo c : Nat} (hl : lo ≤ n) (hc : n ≤ c) : Rows H (tailP p c lo w) (n - lo) w (rows.drop lo) := by
  unfold tailP
  have hlen := h.len
  by_cases hcl : c = lo
  · have : n - lo = 0 := by omega
    rw [this, List.drop_of_length_le (by omega)]
    exact Rows.nil _ _ _
  · rw [if_neg hcl]
    have := h.part lo n hl (Nat.le_refl n)
    rw [List.take_of_length_le (by simp; omega)] at this
    exact this
/-- append of zeros, where there is no room -/
theorem ek_zeros {P : Program} {t tn e w bytes : Nat} {kq kn : IntKind} (ht : P.underlying t = some (.slice e)) (htn : P.underlying tn = some (.int kn)) (hi : infoIs P e w bytes = true) (hw : 0 < w) {W : World} {H : Hp} (hH : H.le (hpOf W)) {p : Option Loc} {n c : Nat} {rows : List (List Value)} {g : Option Nat} (ho : Ow H e w p n c rows g)
    {k : Nat} (hk : 0 < k) (hc : c < n + k) (h63 : n + k ≤ maxLen) (hb : (n + k) * bytes ≤ 140737488355328) (ty : Nat) :
    ∃ c' zr W' H', (EK.sem (.bi .append #[t, tn] ty) [vsl p n c, .int kq k]).run P W = .ok (.value (vsl (some (W.heap.size, 0)) (n + k) c')) W' ∧ Upd g W W' H H' ∧ H.le H' ∧ Ow H' e w (some (W.heap.size, 0)) (n + k) c' (rows ++ List.replicate k zr) (some W.heap.size) := by
  obtain ⟨i, z, i1, i2, i3, i4, i5, i6⟩ := info_of hi
  have hwid : ∀ r ∈ rows, r.length = w := fun r hr => (ho.2.1 r hr).1
  have hlr : rows.flatten.length = n * w := by rw [flat_len hwid, ← ho.1]
  have hold : (Builtin.firstCells i.size n (vsl p n c)).run P W.drew = .ok rows.flatten.toArray W.drew := by
    cases p with
    | none =>
      obtain ⟨q1, q2, q3, q4, q5⟩ := ho
      rcases q5 with ⟨rfl, _⟩ | ⟨b, C, h, _⟩
      · have : rows = [] := List.length_eq_zero_iff.1 (by omega)
        subst this
        simp [vsl, ptrAt, Builtin.firstCells]
      · cases h
    | some a =>
      exact run_firstCells_some (P := P) W.drew i.size n a.addr n c rows.flatten (by rw [hlr, i3]) (fun j v hj => ho.rows.cells hH hw j v hj)
  have hsmall : n + k ≤ 9223372036854775807 := by simp only [maxLen] at h63; omega
  have hkb : k * i.bytes ≤ (n + k) * bytes := by rw [i4, Nat.add_mul]; omega
  have hrun := Lib.run_append_grow_zeros (P := P) W t tn ty e i z kq kn ht htn i1 i2 (ptrAt p 0) n c rows.flatten hold k hk (by omega) hc (by omega) (by omega) (growslice_fits hc (by rw [i4]; exact hb))
  have hge := grownCap_ge W (n + k) c e
  have hcm : grownCap W (n + k) c e ≤ maxLen := grownCap_le_maxLen W (n + k) c e h63
  have hzr : (Builtin.zeroCells z.cells k).toList = (List.replicate k z.cells.toList).flatten := by
    have hz0 : 0 < z.cells.size := by omega
    apply List.ext_getElem?
    intro j
    simp only [Builtin.zeroCells, Array.toList_map, Array.toList_range, List.getElem?_map]
    rcases Nat.lt_or_ge j (k * z.cells.size) with hj | hj
    · rw [List.getElem?_range hj]
      have hm : j % z.cells.size < z.cells.size := Nat.mod_lt _ hz0
      have hfl : ∀ (m : Nat) (l : List Value), 0 < l.length → ∀ j, j < m * l.length → (List.replicate m l).flatten[j]? = l[j % l.length]? := by
        intro m l hl
        induction m with
        | zero => intro j hj; omega
        | succ m ih =>
          intro j hj
          rw [List.replicate_succ, List.flatten_cons]
          rcases Nat.lt_or_ge j l.length with h | h
          · rw [List.getElem?_append_left h, Nat.mod_eq_of_lt h]
          · rw [List.getElem?_append_right h, ih (j - l.length) (by rw [Nat.succ_mul] at hj; omega), Nat.mod_eq_sub_mod h]
      rw [hfl k z.cells.toList (by simpa using hz0) j (by simpa using hj)]
      simp only [Option.map_some, Array.length_toList]
      rw [getElem!_pos z.cells _ hm, Array.getElem?_toList, Array.getElem?_eq_getElem hm]
    · rw [List.getElem?_eq_none (by simpa using hj), List.getElem?_eq_none (by simp; exact hj)]
      rfl
  generalize hC : rows.flatten.toArray ++ Builtin.zeroCells z.cells k ++ Builtin.zeroCells z.cells (grownCap W (n + k) c e - (n + k)) = C at hrun
  refine ⟨grownCap W (n + k) c e, z.cells.toList, W.drew.alloc (.cells C e), addH H W.heap.size (.cells C e), ?_, Upd.made hH _, ?_, Ow.made (by simp [ho.1]) (fun r hr => ?_) hge hcm ?_ ?_ _⟩
  · simp only [EK.sem, builtin]
    simp [vsl, hrun]
    rfl
  · refine le_addH ?_
    cases hh : H W.heap.size with
    | none => rfl
    | some o => have := heap_lt (hH _ o hh); omega
  · rcases List.mem_append.1 hr with hr | hr
    · exact ho.2.1 r hr
    · rw [List.mem_replicate] at hr
      rw [hr.2]
      exact ⟨by simpa using i5, i6⟩
  · rw [← hC]
    simp only [Array.size_append, List.size_toArray, size_zeroCells, i5, hlr, ← Nat.add_mul]
    congr 1
    omega
  · rw [← hC]
    have hww : ∀ r ∈ rows ++ List.replicate k z.cells.toList, r.length = w := fun r hr => by
      rcases List.mem_append.1 hr with hr | hr
      · exact hwid r hr
      · rw [List.mem_replicate] at hr; rw [hr.2]; simpa using i5
    have hl2 : (n + k) * w = (rows.flatten ++ (List.replicate k z.cells.toList).flatten).length := by
      rw [← List.flatten_append, flat_len hww]
      simp [ho.1]
    rw [List.flatten_append, hl2, Array.toList_append, Array.toList_append, hzr]
    exact List.take_left
/-- memory but for a block -/
def less (b : Nat) (H : Hp) : Hp := fun k => if k = b then none else H k
theorem less_ow {b : Nat} {H : Hp} {e w n c : Nat} {p : Option Loc} {rows : List (List Value)} {g : Option Nat} (h : Ow H e w p n c rows g) (hg : g ≠ some b) : Ow (less b H) e w p n c rows g :=
  h.mono fun k hk o ho => by unfold less; rw [if_neg (fun he => hg (by rw [hk, he]))]; exact ho
theorem Upd.less {g : Option Nat} {W W' : World} {H H' : Hp} {b : Nat} {o : Obj} (h3 : Upd g W W' (addH H b o) H') (hn : H b = none) (hbl : b < W.heap.size) : Upd g W W' H (less b H') := by
  refine ⟨h3.os, h3.tape, h3.output, h3.size, h3.blk, fun k o hk2 => ?_, fun k hk2 hg => ?_, fun k o hk2 => ?_⟩
  · unfold Go.Proofs.YtfpmcmhihhnfgaaGreat.less at hk2
    split at hk2
    · cases hk2
    · exact h3.sub k o hk2
  · unfold Go.Proofs.YtfpmcmhihhnfgaaGreat.less
    split
    · rename_i he; rw [he, hn]
    · rename_i he
      rw [h3.same k hk2 hg]
      unfold addH
      rw [if_neg he]
  · unfold Go.Proofs.YtfpmcmhihhnfgaaGreat.less at hk2
    split at hk2
    · cases hk2
    · rename_i he
      rcases h3.dom k o hk2 with ⟨o', h⟩ | h
      · unfold addH at h
        rw [if_neg he] at h
        exact .inl ⟨o', h⟩
      · exact .inr h
/-- a call that turns an array of one's own, and looks at a known block -/
theorem Cl.turnK {P : Program} {W0 : World} {M : Nat → Prop} {H : Hp} {kn : World → Prop} {f : Nat} {args : Array Value} {Φ : Ending → World → World → Prop} {g : Option Nat} {post : Value → Hp → Option Nat → Prop} {b : Nat} {o : Obj} (hb : ∀ W, kn W → Kn W0 M H W b o) (hc : H b = none → Gt P f args (addH H b o) g post)
    (hk : ∀ v W W' H' g', post v H' g' → Upd g W W' H (less b H') → (g' = g ∨ ∀ b, g' = some b → W.heap.size ≤ b) → Now W0 M H W → H b = none → b < W.heap.size → Φ (.returned v) W W') : Cl P W0 M H kn f args Φ := fun W n k => by
  have h1 := hb W k
  have hlt := heap_lt h1.eq
  refine (hc h1.off W (addH_le n.sub h1.eq)).mono fun z W' ⟨v, H', g', hz, h2, h3, h4⟩ => ?_
  subst hz
  exact hk v W W' H' g' h4 (h2.less h1.off hlt) h3 n h1.off hlt
end Go.Proofs.YtfpmcmhihhnfgaaGreat
namespace Go.Proofs.YtfpmcmhihhnfgaaGreat
open Go.RowKit
open Classical

/-- a call that turns blocks b0 and b1, and, of memory held fast, Mb -/
def Gb (P : Program) (f : Nat) (args : Array Value) (H : Hp) (Mb : Nat → Prop) (b0 b1 : Nat) (C0 : Array Value) (T0 : Nat) (C1 : Array Value) (T1 : Nat) (post : Value → Array Value → Array Value → Hp → Prop) : Prop :=
  ∀ W, H.le (hpOf W) → W.heap[b0]? = some (.cells C0 T0 (0, 0)) → W.heap[b1]? = some (.cells C1 T1 (0, 0)) → b0 ≠ b1 → H b0 = none → H b1 = none → Calls P f args W fun z W' => ∃ v D0 D1 H', z = .returned v ∧ W'.heap[b0]? = some (.cells D0 T0 (0, 0)) ∧ W'.heap[b1]? = some (.cells D1 T1 (0, 0)) ∧
    Mod (fun b => b = b0 ∨ b = b1 ∨ Mb b) W W' ∧ H'.le (hpOf W') ∧ (∀ b o, H' b = some o → (∃ o', H b = some o') ∨ W.heap.size ≤ b) ∧ post v D0 D1 H'
theorem Cl.both {P : Program} {W0 : World} {M : Nat → Prop} {H : Hp} {kn : World → Prop} {f : Nat} {args : Array Value} {Φ : Ending → World → World → Prop} {Mb : Nat → Prop} {b0 b1 : Nat} {C0 C1 : Array Value} {T0 T1 : Nat} {post : Value → Array Value → Array Value → Hp → Prop}
    (hc : Gb P f args H Mb b0 b1 C0 T0 C1 T1 post) (hMb : ∀ b, Mb b → (∃ o, H b = some o) ∧ (W0.heap.size ≤ b ∨ M b)) (hkn : ∀ W, kn W → Kn W0 M H W b0 (.cells C0 T0 (0, 0)) ∧ Kn W0 M H W b1 (.cells C1 T1 (0, 0))) (hne : ∀ W, kn W → b0 ≠ b1)
    (hk : ∀ v W W' D0 D1 H', post v D0 D1 H' → Now W0 M H W → (∀ b o, H' b = some o → (∃ o', H b = some o') ∨ W.heap.size ≤ b) → (∀ K : Hp → Prop, K H' → Bt W0 M H [(b0, .cells D0 T0 (0, 0)), (b1, .cells D1 T1 (0, 0))] W W' K) → Φ (.returned v) W W') : Cl P W0 M H kn f args Φ := fun W n k => by
  obtain ⟨k0, k1⟩ := hkn W k
  have hne := hne W k
  refine (hc W n.sub k0.eq k1.eq hne k0.off k1.off).mono fun z W' ⟨v, D0, D1, H', hz, e0, e1, hm, hs, hd, hp⟩ => ?_
  subst hz
  refine hk v W W' D0 D1 H' hp n hd fun K hK => ?_
  have s0 := setRow_heap W b0 C0 D0 T0 _ k0.eq
  have o0 : ∀ b, b ≠ b0 → (W.setRow b0 D0).heap[b]? = W.heap[b]? := fun b hb => setRow_other W b0 b _ hb
  have k1' : (W.setRow b0 D0).heap[b1]? = some (.cells C1 T1 (0, 0)) := by rw [o0 b1 (fun h => hne h.symm)]; exact k1.eq
  have s1 := setRow_heap (W.setRow b0 D0) b1 C1 D1 T1 _ k1'
  have o1 : ∀ b, b ≠ b1 → ((W.setRow b0 D0).setRow b1 D1).heap[b]? = (W.setRow b0 D0).heap[b]? := fun b hb => setRow_other _ b1 b _ hb
  have w0 : ((W.setRow b0 D0).setRow b1 D1).heap[b0]? = some (.cells D0 T0 (0, 0)) := by rw [o1 b0 hne, s0]
  have ww : ∀ b, b ≠ b0 → b ≠ b1 → ((W.setRow b0 D0).setRow b1 D1).heap[b]? = W.heap[b]? := fun b h0 h1 => by rw [o1 b h1, o0 b h0]
  have hsz : ((W.setRow b0 D0).setRow b1 D1).heap.size = W.heap.size := by simp
  refine ⟨(W.setRow b0 D0).setRow b1 D1, H', ⟨rfl, rfl, rfl, by rw [hsz]; exact Nat.le_refl _, fun b _ hb => ?_⟩, ?_, ⟨⟨hm.os, hm.tape, hm.output, by rw [hsz]; exact hm.size, fun b hb hnb => ?_⟩, hs, fun b o hb => ?_⟩, hK⟩
  · refine ww b (fun h => hb ⟨_, List.mem_cons_self .., h.symm⟩) (fun h => hb ⟨_, List.mem_cons_of_mem _ (List.mem_cons_self ..), h.symm⟩)
  · intro p hp
    simp only [List.mem_cons, List.not_mem_nil, or_false] at hp
    rcases hp with rfl | rfl
    · exact w0
    · exact s1
  · rw [hsz] at hb
    by_cases h0 : b = b0
    · rw [h0, w0, e0]
    · by_cases h1 : b = b1
      · rw [h1, e1]; exact s1.symm
      · rw [ww b h0 h1]
        refine hm.blk b hb fun h => ?_
        rcases h with h | h | h
        · exact h0 h
        · exact h1 h
        · exact hnb (hMb b h)
  · rw [hsz]; exact hd b o hb
/-- of the old, but for Mb, as it was; all else as it is -/
noncomputable def mergeM (W : World) (Mb : Nat → Prop) (H K : Hp) : Hp := fun b => if b < W.heap.size ∧ ¬ Mb b then H b else K b
theorem Ow.mergeM {W0 : World} {Mb : Nat → Prop} {g : Option Nat} {H K : Hp} {e w n c : Nat} {p : Option Loc} {rows : List (List Value)} (h : Ow K e w p n c rows g) (hg : ∀ b, g = some b → Mb b ∨ W0.heap.size ≤ b) : Ow (mergeM W0 Mb H K) e w p n c rows g :=
  h.mono fun b hb o ho => by
    unfold Go.Proofs.YtfpmcmhihhnfgaaGreat.mergeM
    rw [if_neg (fun hh => ?_)]
    · exact ho
    · rcases hg b hb with h1 | h1
      · exact hh.2 h1
      · omega
theorem Rt.gb {W0 : World} {Mb : Nat → Prop} {b0 b1 : Nat} {H K : Hp} {kn : World → Prop} {v : Value} {C0 C1 : Array Value} {T0 T1 : Nat} {post : Value → Array Value → Array Value → Hp → Prop} (hH : H.le (hpOf W0)) (h0 : H b0 = none) (h1 : H b1 = none) (hMb : ∀ b, Mb b → ∃ o, H b = some o)
    (hkn : ∀ W, kn W → W.heap[b0]? = some (.cells C0 T0 (0, 0)) ∧ W.heap[b1]? = some (.cells C1 T1 (0, 0))) (hp : post v C0 C1 (mergeM W0 Mb H K)) :
    Rt (fun z W' => ∃ v D0 D1 H', z = .returned v ∧ W'.heap[b0]? = some (.cells D0 T0 (0, 0)) ∧ W'.heap[b1]? = some (.cells D1 T1 (0, 0)) ∧
      Mod (fun b => b = b0 ∨ b = b1 ∨ Mb b) W0 W' ∧ H'.le (hpOf W') ∧ (∀ b o, H' b = some o → (∃ o', H b = some o') ∨ W0.heap.size ≤ b) ∧ post v D0 D1 H') W0 (fun b => b = b0 ∨ b = b1 ∨ Mb b) K kn v := fun W n k => by
  obtain ⟨k0, k1⟩ := hkn W k
  refine ⟨v, C0, C1, _, rfl, k0, k1, n.mod, fun b o hb => ?_, fun b o hb => ?_, hp⟩
  · unfold mergeM at hb
    split at hb
    · rename_i h
      have h2 := hH b o hb
      simp only [hpOf] at h2 ⊢
      rw [n.mod.blk b h.1 (fun hh => ?_), h2]
      rcases hh with hh | hh | hh
      · rw [hh, h0] at hb; cases hb
      · rw [hh, h1] at hb; cases hb
      · exact h.2 hh
    · exact n.sub b o hb
  · unfold mergeM at hb
    split at hb
    · exact .inl ⟨o, hb⟩
    · rename_i h
      rcases Nat.lt_or_ge b W0.heap.size with h2 | h2
      · exact .inl (hMb b (Classical.byContradiction fun h3 => h ⟨h2, h3⟩))
      · exact .inr h2
end Go.Proofs.YtfpmcmhihhnfgaaGreat
namespace Go.Proofs.YtfpmcmhihhnfgaaGreat
open Go.RowKit
open Classical
theorem RowAt.cells {H : Hp} {p : Option Loc} {off : Int} {cs : List Value} (h : RowAt H p off cs) : RowAt H.cells p off cs := by
  obtain ⟨b, o, h1, C, T, fz, h2, h3⟩ := h
  exact ⟨b, o, h1, C, T, fz, by unfold Hp.cells; rw [h2], h3⟩
theorem Rows.cells' {H : Hp} {p : Option Loc} {n w : Nat} {rows : List (List Value)} (h : Rows H p n w rows) : Rows H.cells p n w rows := ⟨h.len, h.wid, fun i r hr => (h.row i r hr).cells⟩
theorem Hp.cells_none {H : Hp} {b : Nat} (h : H b = none) : H.cells b = none := by unfold Hp.cells; rw [h]
theorem le_none {H K : Hp} (h : H.le K) {b : Nat} (hb : K b = none) : H b = none := by
  cases hh : H b with
  | none => rfl
  | some o => rw [h b o hh] at hb; cases hb
/-- a round of the caller's: what the iterator held, and what the caller holds now -/
theorem yl_round {P : Program} {l : Nat} {args : Array Value} {W0 V : World} {M : Nat → Prop} {H HJ D B : Hp} {FT : Nat → Prop} {K : Hp → Prop} {J : Hp → (Nat → Prop) → Prop} (hn : Now W0 M H V)
    (hy : YieldAt (Fw none) 0 P l args V fun z V' => z = .returned (.bool true) ∧ ∃ HJ' FT', J HJ' FT' ∧ HJ'.le (hpOf V') ∧ Mod FT V V' ∧ (∀ b, FT' b → (FT b ∨ V.heap.size ≤ b) ∧ D b = none) ∧ (∀ b, FT' b → ∃ o, HJ' b = some o) ∧ (∀ b o, HJ' b = some o → (∃ q, HJ b = some q) ∨ (∃ q, D b = some q) ∨ V.heap.size ≤ b))
    (hJ : HJ.le H) (hD : D.le H) (hB : B.le H) (hF : ∀ b, FT b → (∃ o, HJ b = some o) ∧ (W0.heap.size ≤ b ∨ M b) ∧ B b = none)
    (hk : ∀ (V' : World) (HJ' : Hp) (FT' : Nat → Prop) (K' : Hp), J HJ' FT' → HJ'.le K' → B.le K' → (∀ b, FT' b → (FT b ∨ V.heap.size ≤ b) ∧ D b = none ∧ ∃ o, HJ' b = some o) → (∀ b, HJ b = none → D b = none → b < V.heap.size → HJ' b = none) → V.heap.size ≤ V'.heap.size → K K') :
    YieldAt (Fw none) 0 P l args V fun z V' => z = .returned (.bool true) ∧ ∃ H', Turned W0 M H V H' V' ∧ K H' := by
  refine YieldAt.mono hy fun z V' ⟨hz, HJ', FT', h1, h2, h3, h4, h5, h6⟩ => ⟨hz, restr V' (fun b => (∃ o, HJ' b = some o) ∨ ∃ o, B b = some o), ⟨⟨h3.os, h3.tape, h3.output, h3.size, fun b hb hnb => h3.blk b hb fun hf => hnb ?_⟩, restr_le _ _, fun b o hb => ?_⟩, hk V' HJ' FT' _ h1 (fun b o hb => ?_) (fun b o hb => ?_) (fun b hb => ⟨(h4 b hb).1, (h4 b hb).2, h5 b hb⟩) (fun b a1 a2 a3 => ?_) h3.size⟩
  · obtain ⟨⟨o, ho⟩, hm, _⟩ := hF b hf
    exact ⟨⟨o, hJ b o ho⟩, hm⟩
  · have hS : (∃ o, HJ' b = some o) ∨ ∃ o, B b = some o := Classical.byContradiction fun hn => by rw [restr_off hn] at hb; cases hb
    rcases hS with ⟨o, h⟩ | ⟨o, h⟩
    · rcases h6 b o h with ⟨q, h⟩ | ⟨q, h⟩ | h
      · exact .inl ⟨q, hJ b q h⟩
      · exact .inl ⟨q, hD b q h⟩
      · exact .inr h
    · exact .inl ⟨o, hB b o h⟩
  · rw [restr_at (.inl ⟨o, hb⟩)]; exact h2 b o hb
  · rw [restr_at (.inr ⟨o, hb⟩)]
    have e1 := hn.sub b o (hB b o hb)
    simp only [hpOf] at e1
    rw [h3.blk b (heap_lt e1) (fun hf => by rw [(hF b hf).2.2] at hb; cases hb), e1]
  · cases hh : HJ' b with
    | none => rfl
    | some o =>
      rcases h6 b o hh with ⟨q, h⟩ | ⟨q, h⟩ | h
      · rw [a1] at h; cases h
      · rw [a2] at h; cases h
      · omega
end Go.Proofs.YtfpmcmhihhnfgaaGreat
