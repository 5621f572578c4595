/- Which entries did an op: over plain data. No program in sight. No conditions. Plain laws of what was done: the values come of the ops alone; a number is done twice only by two sessions. No program in sight. No conditions. Symbolic runs of functions: what each leaves to prove is enough for its call. Printed by a program of ours. No conditions. Contract: the entries by which an op was done, as a loop takes them. No conditions. Contracts of package trace, and of what the document says of it. No conditions. -/
import Derived.Test.YtgmgbfpoeclgiaaKF1
import Derived.Test.YtgmgbfpoeclgiaaKE3
import Derived.Test.YtgmgbfpoeclgiaaProg
import Derived.Test.YtgmgbfpoeclgiaaKF2
import Derived.Test.YtgmgbfpoeclgiaaKF3
import Derived.Test.YtgmgbfpoeclgiaaKE4
import Derived.Test.YtgmgbfpoeclgiaaKT1
set_option linter.unusedVariables false
set_option linter.unusedSimpArgs false
namespace Go.Proofs.Ytgmgbfpoeclgiaa

/-- the places of what says yes -/
def picks : Nat → List Bool → List Nat
  | _, [] => []
  | k, b :: l => if b = true then k :: picks (k + 1) l else picks (k + 1) l
theorem picks_append : ∀ (a b : List Bool) (k : Nat), picks k (a ++ b) = picks k a ++ picks (k + a.length) b
  | [], b, k => by simp [picks]
  | x :: a, b, k => by
    simp only [List.cons_append, picks, List.length_cons]
    rw [picks_append a b (k + 1), show k + 1 + a.length = k + (a.length + 1) by omega]
    split <;> rfl
theorem picks_at {b : List Bool} {k : Nat} {x : Bool} (h : b[k]? = some x) : picks 0 (b.take (k + 1)) = picks 0 (b.take k) ++ if x = true then [k] else [] := by
  rw [take_at h, picks_append, Nat.zero_add, List.length_take, Nat.min_eq_left (by have := (List.getElem?_eq_some_iff.1 h).1; omega)]
  cases x <;> rfl
theorem picks_get {b : List Bool} {k : Nat} (h : b[k]? = some true) : (picks 0 b)[(picks 0 (b.take k)).length]? = some k := by
  have hlt := (List.getElem?_eq_some_iff.1 h).1
  conv => lhs; rw [← List.take_append_drop (k + 1) b, picks_append, picks_at h]
  simp
theorem mem_picks : ∀ {b : List Bool} {k j : Nat}, j ∈ picks k b ↔ k ≤ j ∧ b[j - k]? = some true
  | [], k, j => by simp [picks]
  | x :: b, k, j => by
    unfold picks
    split
    · rename_i hx
      rw [List.mem_cons, mem_picks]
      constructor
      · rintro (rfl | ⟨h1, h2⟩)
        · simp [hx]
        · refine ⟨by omega, ?_⟩
          rw [show j - k = (j - (k + 1)) + 1 by omega]; simpa using h2
      · rintro ⟨h1, h2⟩
        rcases Nat.eq_or_lt_of_le h1 with h3 | h3
        · exact .inl h3.symm
        · refine .inr ⟨h3, ?_⟩
          rw [show j - k = (j - (k + 1)) + 1 by omega] at h2; simpa using h2
    · rename_i hx
      rw [mem_picks]
      constructor
      · rintro ⟨h1, h2⟩
        refine ⟨by omega, ?_⟩
        rw [show j - k = (j - (k + 1)) + 1 by omega]; simpa using h2
      · rintro ⟨h1, h2⟩
        rcases Nat.eq_or_lt_of_le h1 with h3 | h3
        · subst h3
          simp only [Nat.sub_self, List.getElem?_cons_zero, Option.some.injEq] at h2
          exact absurd h2 hx
        · refine ⟨h3, ?_⟩
          rw [show j - k = (j - (k + 1)) + 1 by omega] at h2; simpa using h2
def doneL (l : List Ent) : List Bool := foldB Sta.zero l
theorem doneL_len (l : List Ent) : (doneL l).length = l.length := foldB_len l _
/-- the ops of entries at places -/
def opsAt (l : List Ent) (is : List Nat) : List POp := is.filterMap fun i => (l[i]?).map Ent.op
theorem opsAt_snoc {l : List Ent} {is : List Nat} {i : Nat} {e : Ent} (h : l[i]? = some e) : opsAt l (is ++ [i]) = opsAt l is ++ [e.op] := by simp [opsAt, List.filterMap_append, h]
def isCall (l : List Ent) (c q : Int) (i : Nat) : Bool := match l[i]? with
  | some e => decide (e.client = c ∧ e.seq = q)
  | none => false
def manyAt (l : List Ent) (c q : Int) (is : List Nat) : Nat := (is.filter (isCall l c q)).length
theorem manyAt_snoc {l : List Ent} {c q : Int} {is : List Nat} {i : Nat} {e : Ent} (h : l[i]? = some e) : manyAt l c q (is ++ [i]) = manyAt l c q is + if e.client = c ∧ e.seq = q then 1 else 0 := by
  unfold manyAt
  rw [List.filter_append, List.length_append]
  congr 1
  simp only [List.filter_cons, isCall, h, List.filter_nil]
  by_cases hh : e.client = c ∧ e.seq = q
  · simp [hh]
  · simp [hh]
theorem manyAt_le (l : List Ent) (c q : Int) (is : List Nat) : manyAt l c q is ≤ is.length := List.length_filter_le _ _
theorem picks_len : ∀ (b : List Bool) (k : Nat), (picks k b).length ≤ b.length
  | [], k => by simp [picks]
  | x :: b, k => by
    have := picks_len b (k + 1)
    unfold picks
    split <;> simp <;> omega
def tOnce (l : List Ent) (c q : Int) : Int × Int := if entsErr l ≠ 0 then (0, entsErr l) else if c < 1 ∨ 5 < c ∨ q < 1 ∨ 60 < q then (0, 3) else ((manyAt l c q (picks 0 (doneL l)) : Nat), 0)
theorem zero_ok : StOk Sta.zero := Sta.err_ok.1 (by decide)
end Go.Proofs.Ytgmgbfpoeclgiaa
namespace Go.Proofs.Ytgmgbfpoeclgiaa

theorem foldB_get {l : List Ent} {i : Nat} {e : Ent} (h : l[i]? = some e) (s : Sta) : (foldB s l)[i]? = some ((foldS s (l.take i)).apply e).2.2 := by
  have hlt := (List.getElem?_eq_some_iff.1 h).1
  have hn : (l.take i).length = i := by rw [List.length_take]; omega
  conv => lhs; rw [← List.take_append_drop (i + 1) l, foldB_append, foldB_at h]
  rw [List.append_assoc, List.getElem?_append_right (by rw [foldB_len, hn]; omega), foldB_len, hn, Nat.sub_self]
  rfl
/-! a number's answer is told -/
theorem told_ack {x : Ses} {q ck a : Int} (h : q ≤ x.acked ∨ hasK x.kept q = true) : q ≤ (x.ack ck a).acked ∨ hasK (x.ack ck a).kept q = true := by
  simp only [Ses.ack]
  rcases h with h | h
  · left; omega
  · by_cases h1 : q ≤ max x.acked a
    · exact .inl h1
    · right
      obtain ⟨r, h2, h3⟩ := hasK_iff.1 h
      exact hasK_iff.2 ⟨r, List.mem_filter.2 ⟨h2, by simp only [decide_eq_true_eq]; omega⟩, h3⟩
/-! the values come of the ops alone -/
theorem opsAt_append (l : List Ent) (a b : List Nat) : opsAt l (a ++ b) = opsAt l a ++ opsAt l b := by simp [opsAt, List.filterMap_append]
theorem next_pick (d : List Bool) : ∀ n i, n = d.length - i → i ≤ d.length → ∃ j, i ≤ j ∧ j ≤ d.length ∧ (j = d.length ∨ d[j]? = some true) ∧ picks 0 (d.take j) = picks 0 (d.take i) ∧ ∀ m, i ≤ m → m < j → d[m]? = some false
  | 0, i, hn, hi => ⟨i, Nat.le_refl _, hi, .inl (by omega), rfl, fun m h1 h2 => by omega⟩
  | n + 1, i, hn, hi => by
    have hd := List.getElem?_eq_getElem (l := d) (i := i) (by omega)
    cases hx : d[i] with
    | true => exact ⟨i, Nat.le_refl _, hi, .inr (by rw [hd, hx]), rfl, fun m h1 h2 => by omega⟩
    | false =>
      rw [hx] at hd
      obtain ⟨j, h1, h2, h3, h4, h5⟩ := next_pick d n (i + 1) (by omega) (by omega)
      refine ⟨j, by omega, h2, h3, by rw [h4, picks_at hd]; simp, fun m h6 h7 => ?_⟩
      by_cases h8 : m = i
      · subst h8; exact hd
      · exact h5 m (by omega) h7
theorem vals_quiet {l : List Ent} (hl : ∀ e ∈ l, EntOk e) {a : Nat} : ∀ n, a + n ≤ l.length → (∀ m, a ≤ m → m < a + n → (doneL l)[m]? = some false) → (foldS Sta.zero (l.take (a + n))).vals = (foldS Sta.zero (l.take a)).vals
  | 0, _, _ => rfl
  | n + 1, hn, hq => by
    have he := List.getElem?_eq_getElem (l := l) (i := a + n) (by omega)
    rw [show a + (n + 1) = (a + n) + 1 by omega, foldS_at he, ← vals_quiet hl n (by omega) fun m h1 h2 => hq m h1 (by omega)]
    have h1 := hq (a + n) (by omega) (by omega)
    unfold doneL at h1
    rw [foldB_get he] at h1
    exact (apply_vals (hl _ (List.mem_of_getElem? he))).1 (by simpa using h1)
/-- so far: j ops done one behind the other make these values -/
def ValsAt (l : List Ent) (j : Nat) (v : V4) : Prop := ∃ i, i ≤ l.length ∧ (opsAt l (picks 0 ((doneL l).take i))).length = j ∧ v = (foldS Sta.zero (l.take i)).vals ∧ (i = l.length ∨ (doneL l)[i]? = some true)
theorem ValsAt.from {l : List Ent} (hl : ∀ e ∈ l, EntOk e) {i j : Nat} {v : V4} (hi : i ≤ l.length) (h1 : (opsAt l (picks 0 ((doneL l).take i))).length = j) (h2 : v = (foldS Sta.zero (l.take i)).vals) : ValsAt l j v := by
  have hd := doneL_len l
  obtain ⟨k, k1, k2, k3, k4, k5⟩ := next_pick (doneL l) _ i rfl (by omega)
  refine ⟨k, by omega, by rw [k4]; exact h1, ?_, by rw [← hd]; exact k3⟩
  have := vals_quiet hl (a := i) (k - i) (by omega) fun m m1 m2 => k5 m m1 (by omega)
  rw [h2, ← this]
  congr 3
  omega
theorem ValsAt.zero {l : List Ent} (hl : ∀ e ∈ l, EntOk e) : ValsAt l 0 V4.zero := ValsAt.from hl (i := 0) (Nat.zero_le _) rfl rfl
theorem ValsAt.end {l : List Ent} {j : Nat} {v : V4} (h : ValsAt l j v) (hj : (opsAt l (picks 0 (doneL l))).length ≤ j) : v = (foldS Sta.zero l).vals := by
  obtain ⟨i, h1, h2, h3, h4⟩ := h
  rcases h4 with h4 | h4
  · subst h4; rw [h3, List.take_length]
  · exfalso
    have hlt := (List.getElem?_eq_some_iff.1 h4).1
    rw [doneL_len] at hlt
    have he := List.getElem?_eq_getElem (l := l) (i := i) hlt
    have h5 : opsAt l (picks 0 (doneL l)) = (opsAt l (picks 0 ((doneL l).take i)) ++ [l[i].op]) ++ opsAt l (picks (0 + ((doneL l).take (i + 1)).length) ((doneL l).drop (i + 1))) := by
      rw [← opsAt_snoc he, ← opsAt_append]
      congr 1
      conv => lhs; rw [← List.take_append_drop (i + 1) (doneL l), picks_append, picks_at h4]
      rfl
    rw [h5] at hj
    simp only [List.length_append, List.length_cons, List.length_nil] at hj
    omega
theorem ValsAt.step {l : List Ent} (hl : ∀ e ∈ l, EntOk e) (h50 : l.length ≤ 50) {j : Nat} {v : V4} {x : POp} (h : ValsAt l j v) (hj : (opsAt l (picks 0 (doneL l)))[j]? = some x) : v.ok = true ∧ x.err = 0 ∧ ValsAt l (j + 1) (x.turn v).1 := by
  obtain ⟨i, h1, h2, h3, h4⟩ := h
  rcases h4 with h4 | h4
  · exfalso
    have hlt := (List.getElem?_eq_some_iff.1 hj).1
    subst h4
    rw [List.take_of_length_le (by rw [doneL_len]; omega)] at h2
    omega
  · have hlt := (List.getElem?_eq_some_iff.1 h4).1
    rw [doneL_len] at hlt
    have he := List.getElem?_eq_getElem (l := l) (i := i) hlt
    have h5 : opsAt l (picks 0 (doneL l)) = opsAt l (picks 0 ((doneL l).take i)) ++ ([l[i].op] ++ opsAt l (picks (0 + ((doneL l).take (i + 1)).length) ((doneL l).drop (i + 1)))) := by
      rw [← List.append_assoc, ← opsAt_snoc he, ← opsAt_append]
      congr 1
      conv => lhs; rw [← List.take_append_drop (i + 1) (doneL l), picks_append, picks_at h4]
      rfl
    rw [h5, List.getElem?_append_right (by omega), h2, Nat.sub_self] at hj
    simp only [List.cons_append, List.getElem?_cons_zero, Option.some.injEq] at hj
    subst hj
    have hee := hl _ (List.mem_of_getElem? he)
    have hok := (fold_at_ok zero_ok hl (show (Sta.zero).pos + (l.length : Int) ≤ 50 by show (0 : Int) + _ ≤ 50; omega) hlt).1
    have hd : ((foldS Sta.zero (l.take i)).apply l[i]).2.2 = true := by
      unfold doneL at h4
      rw [foldB_get he] at h4
      simpa using h4
    obtain ⟨k2, w2, _⟩ := (apply_vals (s := foldS Sta.zero (l.take i)) hee).2 hd
    refine ⟨by rw [h3]; exact hok.vals, (hee.call k2).2.2, ValsAt.from hl (i := i + 1) (by omega) ?_ ?_⟩
    · rw [picks_at h4, if_pos rfl, opsAt_snoc he, List.length_append, h2]; rfl
    · rw [foldS_at he, w2, h3]
end Go.Proofs.Ytgmgbfpoeclgiaa
namespace Go.Proofs.Ytgmgbfpoeclgiaa
open Go.RowKit
set_option maxRecDepth 100000
set_option maxHeartbeats 4000000
def v_those : VC :=
(.all 0
(.ret (.func 85 [] [.ptrK 0 0]) [(0, ⟨[.slO 0 (.k 0) (.v 1) (.v 2)], 26⟩)]))
theorem x_those (x0 : Option Loc) (x1 : Nat) (x2 : Nat) (M : Nat → Prop) (H0 : Hp) (W0 : World) (R : Ending → World → Prop) (hH : H0.le (hpOf W0)) (h :
 (∀ b0 : Nat,
 Rt R W0 M H0 (fun W => Kn W0 M H0 W b0 (Obj.cells #[vsl x0 x1 x2] 26 (0, 0)) ∧ True) (Value.func (.func 85) #[] #[Value.pointer (some ⟨b0, 0, none⟩)]))) :
  Calls Try.prog 63 #[vsl x0 x1 x2] W0 R :=
  calls_sxA (M := M) (V := v_those) (hi := {funs := [(63, 85, 1)]}) (args := [.slO 0 (.k 0) (.v 1) (.v 2)]) (nv := 3) (e := (upd (upd (upd (fun _ => .i 0) 0 (.p x0)) 1 (.n x1)) 2 (.n x2))) Try.func63 hH h (by kernel_rfl) (by kernel_rfl) (by kernel_rfl)
def v_those1 : VC :=
(.all 0
(.ld 1 (.k 0) [.slO 2 (.k 0) (.v 3) (.v 4)] [(2, .p), (3, .n), (4, .n)]
(.call 28 [] [] [(5, .i), (6, .i), (7, .i), (8, .i), (9, .i), (10, .i), (11, .p), (12, .n), (13, .n)] (.agg [.int .i64 (.v 5), .int .i64 (.v 6), .int .i64 (.v 7), .int .i64 (.v 8), .int .i64 (.v 9), .int .i64 (.v 10), .slO 11 (.k 0) (.v 12) (.v 13)]) .fresh
(.call 59 [.agg [.int .i64 (.v 5), .int .i64 (.v 6), .int .i64 (.v 7), .int .i64 (.v 8), .int .i64 (.v 9), .int .i64 (.v 10), .slO 11 (.k 0) (.v 12) (.v 13)], .slO 2 (.k 0) (.v 3) (.v 4)] [] [(14, .p), (15, .p)] (.func 80 [] [.ptrO 14 (.k 0), .ptrO 15 (.k 0)]) .fresh
(.rf 80 [.ptrO 14 (.k 0), .ptrO 15 (.k 0)] [] [] [] [(16, .i), (17, .i), (18, .i), (19, .i), (20, .i), (21, .i), (22, .i), (23, .p), (24, .n), (25, .n), (26, .i), (27, .b)] [.int .i64 (.v 16), .agg [.int .i64 (.v 17), .int .i64 (.v 18), .int .i64 (.v 19), .int .i64 (.v 20), .int .i64 (.v 21), .int .i64 (.v 22), .slO 23 (.k 0) (.v 24) (.v 25), .int .i64 (.v 26), .bool (.v 27)]]
(.all 1
(.ite (.v 27)
(.ld 1 (.k 0) [.slO 28 (.k 0) (.v 29) (.v 30)] [(28, .p), (29, .n), (30, .n)]
(.chk (.idx (.v 16) (.v 29))
(.chk (.isp 28)
(.ld 28 (.add (.k 0) (.mul (.v 16) (.k 9))) [.int .i64 (.v 31), .int .i64 (.v 32), .int .i64 (.v 33), .int .i64 (.v 34), .int .i64 (.v 35), .int .i64 (.v 36), .int .i64 (.v 37), .int .i64 (.v 38), .int .i64 (.v 39)] [(31, .i), (32, .i), (33, .i), (34, .i), (35, .i), (36, .i), (37, .i), (38, .i), (39, .i)]
(.yld 0 [.int .i64 (.v 16), .agg [.int .i64 (.v 31), .int .i64 (.v 32), .int .i64 (.v 33), .int .i64 (.v 34), .int .i64 (.v 35), .int .i64 (.v 36), .int .i64 (.v 37), .int .i64 (.v 38), .int .i64 (.v 39)]] []
(.back 0 []))))))
(.back 0 [])))
(.ret (.tup []) []))))))
theorem x_those1 (x0 : Nat) (x1 : Option Loc) (M : Nat → Prop) (H0 : Hp) (W0 : World) (R : Ending → World → Prop) (hH : H0.le (hpOf W0)) (h :
 (∀ b0 : Nat,
 (∃ x2 : Option Loc, ∃ x3 : Nat, ∃ x4 : Nat, RowAt H0 x1 0 [vsl x2 x3 x4] ∧
 (Cl Try.prog W0 M H0 nK 28 #[] fun z W1 W2 => ∃ x5 : Int, ∃ x6 : Int, ∃ x7 : Int, ∃ x8 : Int, ∃ x9 : Int, ∃ x10 : Int, ∃ x11 : Option Loc, ∃ x12 : Nat, ∃ x13 : Nat, z = .returned (Value.agg #[vi x5, vi x6, vi x7, vi x8, vi x9, vi x10, vsl x11 x12 x13]) ∧ Fr W1 W2 H0 fun H1 =>
 (Cl Try.prog W0 M H1 nK 59 #[Value.agg #[vi x5, vi x6, vi x7, vi x8, vi x9, vi x10, vsl x11 x12 x13], vsl x2 x3 x4] fun z W3 W4 => ∃ x14 : Option Loc, ∃ x15 : Option Loc, z = .returned (Value.func (.func 80) #[] #[Value.pointer (ptrAt x14 0), Value.pointer (ptrAt x15 0)]) ∧ Fr W3 W4 H1 fun H2 =>
 (∃ (own : Nat → Prop) (N : Nat) (item : Nat → List Value → Hp → Prop) (I0 : List Dat → Nat → Hp → (Nat → Prop) → Prop) (Hi Ha : Hp) (Ta : Nat → Prop), RfIn Try.prog W0 M 80 [Value.pointer (ptrAt x14 0), Value.pointer (ptrAt x15 0)] H2 own N item I0 [] Hi Ha Ta ∧
 (∀ (k : Nat) (vals : List Value) (Wr : World) (Mr : Nat → Prop) (Ha : Hp) (Ta : Nat → Prop) (D H3 : Hp), k < N → W0.heap.size ≤ Wr.heap.size → item k vals D → (∀ b, Ta b → Mr b ∧ D b = none) → Ha.le H3 → D.le H3 → I0 [] k Ha Ta → ∃ x16 : Int, ∃ x17 : Int, ∃ x18 : Int, ∃ x19 : Int, ∃ x20 : Int, ∃ x21 : Int, ∃ x22 : Int, ∃ x23 : Option Loc, ∃ x24 : Nat, ∃ x25 : Nat, ∃ x26 : Int, ∃ x27 : Bool, vals = [vi x16, Value.agg #[vi x17, vi x18, vi x19, vi x20, vi x21, vi x22, vsl x23 x24 x25, vi x26, vb (x27)]] ∧
  (∀ b1 : Nat,
  ((x27 = true →
   (∃ x28 : Option Loc, ∃ x29 : Nat, ∃ x30 : Nat, RowAt H3 x1 0 [vsl x28 x29 x30] ∧
   (((0 : Int) ≤ x16 ∧ x16 < (x29 : Int)) ∧ (((0 : Int) ≤ x16 ∧ x16 < (x29 : Int)) →
   (x28.isSome = true ∧ (x28.isSome = true →
   (∃ x31 : Int, ∃ x32 : Int, ∃ x33 : Int, ∃ x34 : Int, ∃ x35 : Int, ∃ x36 : Int, ∃ x37 : Int, ∃ x38 : Int, ∃ x39 : Int, RowAt H3 x28 (0 + (x16 * 9)) [vi x31, vi x32, vi x33, vi x34, vi x35, vi x36, vi x37, vi x38, vi x39] ∧
   (Yl Try.prog Wr Mr H3 nK x0 [vi x16, Value.agg #[vi x31, vi x32, vi x33, vi x34, vi x35, vi x36, vi x37, vi x38, vi x39]] fun H4 =>
   (∃ (T2 : Nat → Prop) (K2 : Hp), K2.le H4 ∧ I0 [] (k + 1) K2 T2 ∧ (∀ b o, K2 b = some o → (∃ q, Ha b = some q) ∨ (∃ q, D b = some q) ∨ Wr.heap.size ≤ b) ∧ ∀ b, T2 b → (Ta b ∨ Wr.heap.size ≤ b) ∧ (∃ o, K2 b = some o) ∧ D b = none))))))))) ∧
  (¬ (x27 = true) →
   (∃ (T2 : Nat → Prop) (K2 : Hp), K2.le H3 ∧ I0 [] (k + 1) K2 T2 ∧ (∀ b o, K2 b = some o → (∃ q, Ha b = some q) ∨ (∃ q, D b = some q) ∨ Wr.heap.size ≤ b) ∧ ∀ b, T2 b → (Ta b ∨ Wr.heap.size ≤ b) ∧ (∃ o, K2 b = some o) ∧ D b = none))))) ∧
 (∀ (H3 : Hp) (Ta : Nat → Prop), I0 [] N H3 Ta →
  Rt R W0 M H3 nK (Value.tuple #[])))))))) :
  Calls Try.prog 85 #[Value.func (.yield x0) #[] #[], Value.pointer (ptrAt x1 0)] W0 R :=
  calls_sxA (M := M) (V := v_those1) (hi := {loops := [(2, .iter [(false, [.int .i64]), (true, [.int .i64, .int .i64, .int .i64, .int .i64, .int .i64, .int .i64, .sl, .int .i64, .bool])] [])], funs := [(59, 80, 2)]}) (args := [.yl 0, .ptrO 1 (.k 0)]) (nv := 2) (e := (upd (upd (fun _ => .i 0) 0 (.n x0)) 1 (.p x1))) Try.func85 hH h (by kernel_rfl) (by kernel_rfl) (by kernel_rfl)
def v_traceOnce : VC :=
(.all 0
(.all 1
(.call 58 [.slO 0 (.k 0) (.v 1) (.v 2)] [] [(5, .i)] (.int .i64 (.v 5)) .same
(.ite (.eq (.v 5) (.k 0))
(.ite (.lt (.v 3) (.k 1))
(.ret (.tup [.int .i64 (.k 0), .int .i64 (.k 3)]) [])
(.ite (.lt (.k 5) (.v 3))
(.ret (.tup [.int .i64 (.k 0), .int .i64 (.k 3)]) [])
(.ite (.lt (.v 4) (.k 1))
(.ret (.tup [.int .i64 (.k 0), .int .i64 (.k 3)]) [])
(.ite (.lt (.k 60) (.v 4))
(.ret (.tup [.int .i64 (.k 0), .int .i64 (.k 3)]) [])
(.all 2
(.call 63 [.slO 0 (.k 0) (.v 1) (.v 2)] [] [(6, .p)] (.func 85 [] [.ptrO 6 (.k 0)]) .fresh
(.rf 85 [.ptrO 6 (.k 0)] [(7, .i)] [.i (.k 0)] [.i (.v 7)] [(8, .i), (9, .i), (10, .i), (11, .i), (12, .i), (13, .i), (14, .i), (15, .i), (16, .i), (17, .i)] [.int .i64 (.v 8), .agg [.int .i64 (.v 9), .int .i64 (.v 10), .int .i64 (.v 11), .int .i64 (.v 12), .int .i64 (.v 13), .int .i64 (.v 14), .int .i64 (.v 15), .int .i64 (.v 16), .int .i64 (.v 17)]]
(.all 3
(.ite (.eq (.v 11) (.v 3))
(.ite (.eq (.v 12) (.v 4))
(.chk (.rng .i64 (.add (.v 7) (.k 1)))
(.back 0 [.i (.add (.v 7) (.k 1))]))
(.back 0 [.i (.v 7)]))
(.back 0 [.i (.v 7)])))
(.ret (.tup [.int .i64 (.v 7), .int .i64 (.k 0)]) []))))))))
(.ret (.tup [.int .i64 (.k 0), .int .i64 (.v 5)]) [])))))
theorem x_traceOnce (x0 : Option Loc) (x1 : Nat) (x2 : Nat) (x3 : Int) (x4 : Int) (M : Nat → Prop) (H0 : Hp) (W0 : World) (R : Ending → World → Prop) (hH : H0.le (hpOf W0)) (h :
 (∀ b0 : Nat,
 (∀ b1 : Nat,
 (Cl Try.prog W0 M H0 nK 58 #[vsl x0 x1 x2] fun z W1 W2 => ∃ x5 : Int, z = .returned (vi x5) ∧ Ext W1 W2 ∧
 ((x5 = 0 →
  ((x3 < 1 →
   Rt R W0 M H0 nK (Value.tuple #[vi 0, vi 3])) ∧
  (¬ (x3 < 1) →
   ((5 < x3 →
    Rt R W0 M H0 nK (Value.tuple #[vi 0, vi 3])) ∧
   (¬ (5 < x3) →
    ((x4 < 1 →
     Rt R W0 M H0 nK (Value.tuple #[vi 0, vi 3])) ∧
    (¬ (x4 < 1) →
     ((60 < x4 →
      Rt R W0 M H0 nK (Value.tuple #[vi 0, vi 3])) ∧
     (¬ (60 < x4) →
      (∀ b2 : Nat,
      (Cl Try.prog W0 M H0 nK 63 #[vsl x0 x1 x2] fun z W3 W4 => ∃ x6 : Option Loc, z = .returned (Value.func (.func 85) #[] #[Value.pointer (ptrAt x6 0)]) ∧ Fr W3 W4 H0 fun H1 =>
      (∃ (own : Nat → Prop) (N : Nat) (item : Nat → List Value → Hp → Prop) (I0 : List Dat → Nat → Hp → (Nat → Prop) → Prop) (Hi Ha : Hp) (Ta : Nat → Prop), RfIn Try.prog W0 M 85 [Value.pointer (ptrAt x6 0)] H1 own N item I0 [.i 0] Hi Ha Ta ∧
      (∀ (k : Nat) (vals : List Value) (Wr : World) (Mr : Nat → Prop) (Ha : Hp) (Ta : Nat → Prop) (D H2 : Hp), k < N → W0.heap.size ≤ Wr.heap.size → item k vals D → (∀ b, Ta b → Mr b ∧ D b = none) → Ha.le H2 → D.le H2 → ∀ x7 : Int, I0 [.i x7] k Ha Ta → ∃ x8 : Int, ∃ x9 : Int, ∃ x10 : Int, ∃ x11 : Int, ∃ x12 : Int, ∃ x13 : Int, ∃ x14 : Int, ∃ x15 : Int, ∃ x16 : Int, ∃ x17 : Int, vals = [vi x8, Value.agg #[vi x9, vi x10, vi x11, vi x12, vi x13, vi x14, vi x15, vi x16, vi x17]] ∧
       (∀ b3 : Nat,
       ((x11 = x3 →
        ((x12 = x4 →
         (inKind .i64 (x7 + 1) ∧ (inKind .i64 (x7 + 1) →
         (∃ (T2 : Nat → Prop) (K2 : Hp), K2.le H2 ∧ I0 [.i (x7 + 1)] (k + 1) K2 T2 ∧ (∀ b o, K2 b = some o → (∃ q, Ha b = some q) ∨ (∃ q, D b = some q) ∨ Wr.heap.size ≤ b) ∧ ∀ b, T2 b → (Ta b ∨ Wr.heap.size ≤ b) ∧ (∃ o, K2 b = some o) ∧ D b = none)))) ∧
        (¬ (x12 = x4) →
         (∃ (T2 : Nat → Prop) (K2 : Hp), K2.le H2 ∧ I0 [.i x7] (k + 1) K2 T2 ∧ (∀ b o, K2 b = some o → (∃ q, Ha b = some q) ∨ (∃ q, D b = some q) ∨ Wr.heap.size ≤ b) ∧ ∀ b, T2 b → (Ta b ∨ Wr.heap.size ≤ b) ∧ (∃ o, K2 b = some o) ∧ D b = none)))) ∧
       (¬ (x11 = x3) →
        (∃ (T2 : Nat → Prop) (K2 : Hp), K2.le H2 ∧ I0 [.i x7] (k + 1) K2 T2 ∧ (∀ b o, K2 b = some o → (∃ q, Ha b = some q) ∨ (∃ q, D b = some q) ∨ Wr.heap.size ≤ b) ∧ ∀ b, T2 b → (Ta b ∨ Wr.heap.size ≤ b) ∧ (∃ o, K2 b = some o) ∧ D b = none))))) ∧
      (∀ (H2 : Hp) (Ta : Nat → Prop), ∀ x7 : Int, I0 [.i x7] N H2 Ta →
       Rt R W0 M H2 nK (Value.tuple #[vi x7, vi 0])))))))))))))) ∧
 (¬ (x5 = 0) →
  Rt R W0 M H0 nK (Value.tuple #[vi 0, vi x5]))))))) :
  Calls Try.prog 31 #[vsl x0 x1 x2, vi x3, vi x4] W0 R :=
  calls_sxA (M := M) (V := v_traceOnce) (hi := {loops := [(8, .iter [(false, [.int .i64]), (true, [.int .i64, .int .i64, .int .i64, .int .i64, .int .i64, .int .i64, .int .i64, .int .i64, .int .i64])] [(9, [.pt (.int .i64)])])], funs := [(63, 85, 1)]}) (args := [.slO 0 (.k 0) (.v 1) (.v 2), .int .i64 (.v 3), .int .i64 (.v 4)]) (nv := 5) (e := (upd (upd (upd (upd (upd (fun _ => .i 0) 0 (.p x0)) 1 (.n x1)) 2 (.n x2)) 3 (.i x3)) 4 (.i x4))) Try.func31 hH h (by kernel_rfl) (by kernel_rfl) (by kernel_rfl)
end Go.Proofs.Ytgmgbfpoeclgiaa
namespace Go.Proofs.Ytgmgbfpoeclgiaa
open Go.RowKit
def ThoseIt (l : List Ent) (k : Nat) (vals : List Value) (_ : Hp) : Prop := ∃ (i : Nat) (e : Ent), (picks 0 (doneL l))[k]? = some i ∧ l[i]? = some e ∧ vals = [vi (i : Int), e.val]
theorem doneL_at {l : List Ent} {k : Nat} {e : Ent} (h : l[k]? = some e) : (doneL l)[k]? = some ((foldS Sta.zero (l.take k)).apply e).2.2 := by
  have hlt := (List.getElem?_eq_some_iff.1 h).1
  have h1 : doneL l = foldB Sta.zero (l.take (k + 1)) ++ foldB (foldS Sta.zero (l.take (k + 1))) (l.drop (k + 1)) := by rw [← foldB_append, List.take_append_drop]; rfl
  rw [h1, foldB_at h, List.append_assoc, List.getElem?_append_right (by rw [foldB_len, List.length_take]; omega), foldB_len, List.length_take, Nat.min_eq_left (by omega), Nat.sub_self]
  rfl
theorem noH_cells : noH.cells = noH := rfl
theorem c_those (q : Option Loc) (m d : Nat) (H : Hp) : Gf Try.prog 63 #[vsl q m d] H fun v D => ∃ b : Nat, v = .func (.func 85) #[] #[.pointer (ptrAt (some (b, 0)) 0)] ∧ D b = some (.cells #[vsl q m d] 26 (0, 0)) := fun W hH => by
  refine x_those q m d noM H W _ hH fun b0 => ?_
  exact Rt.one (b := b0) (fun W k => k.1) fun D hD => ⟨b0, rfl, hD⟩
theorem it_those {Hi : Hp} {x1 q : Option Loc} {m d : Nat} {l : List Ent} (hl : ∀ e ∈ l, EntOk e) (hp : l.length ≤ 50) (hx1 : RowAt Hi x1 0 [vsl q m d]) (hE : Ents Hi q m d l) :
    Iter Try.prog 85 [.pointer (ptrAt x1 0)] Hi (fun _ => False) (picks 0 (doneL l)).length (ThoseIt l) := by
  intro yl J hround W HJ FT hHi hHJ hJ0 _ hFT
  have hm := hE.len
  have hMF : ∀ b, FT b → Hi b = none := fun b hb => (hFT b hb).1
  refine x_those1 yl x1 (fun b => False ∨ FT b) (both2 Hi HJ) W _ (both2_le hHi hHJ) fun b0 => ⟨q, m, d, hx1.mono (both2_l _ _), ?_⟩
  refine Cl.same (c_begin _) fun _ _ hx => ⟨_, _, _, _, _, _, none, 0, 0, rfl, Fr.none hx fun H1 h1 => ?_⟩
  refine Cl.fresh (c_steps Sta.zero none 0 0 q m d H1) ?_
  rintro v W3 W4 D2 ⟨a0, a1, rfl, hne, e0, e1⟩ hx2 hD2 hf2 nn2
  refine ⟨some (a1, 0), some (a0, 0), rfl, hx2, D2, hD2, hf2, fun H2 h12 hd2 => ?_⟩
  have hi1 : Hi.le H1 := Hp.le_trans (both2_l _ _) h1
  have hj1 : HJ.le H1 := Hp.le_trans (both2_r hHi hHJ) h1
  have hdj : D2.le (both2 Hi D2) := fun j o hj => by
    unfold both2
    rw [old_none (Hp.le_trans hi1 nn2.sub) (hf2 j o hj)]; exact hj
  have hb2 : (both2 Hi D2).le H2 := fun j o hj => by
    unfold both2 at hj
    split at hj
    · rename_i o' ho'
      simp only [Option.some.injEq] at hj; subst hj; exact h12 j _ (hi1 j _ ho')
    · exact hd2 j o hj
  have hsz := nn2.mod.size
  refine ⟨fun k => k = a0, l.length, StepIt Sta.zero l a0, fun v k K T => match v with
      | [] => ∃ HJ', J (picks 0 ((doneL l).take k)).length HJ' T ∧ Hp.le HJ' K ∧ Hi.le K ∧ ∀ b, T b → (∃ o, HJ' b = some o) ∧ Hi b = none
      | _ => False, both2 Hi D2, both2 Hi HJ, FT, ⟨?_, hb2, Hp.le_trans h1 h12, fun b hb => ?_, fun b hb => ?_, ?_⟩, ?_, ?_⟩
  · exact it_of (n := 0) (c := 0) (p := none) zero_ok hl (show (0 : Int) + (l.length : Int) ≤ 50 by omega) hE (Tab.nil _ _) (Hp.le_trans hi1 nn2.sub) hf2 hne e0 e1 (both2_l _ _) hdj
  · subst hb
    refine ⟨?_, ⟨_, hdj _ _ e0⟩, .inl (Nat.le_trans hsz (hf2 b _ e0))⟩
    cases hh : both2 Hi HJ b with
    | none => rfl
    | some o => have h3 := heap_lt (nn2.sub b o (h1 b o hh)); have h4 := hf2 b _ e0; omega
  · obtain ⟨f1, o, f2⟩ := hFT b hb
    refine ⟨?_, ⟨o, both2_r hHi hHJ b o f2⟩, .inr (.inr hb)⟩
    unfold both2
    rw [f1]
    cases hh : D2 b with
    | none => rfl
    | some o' => have h3 := heap_lt (hHJ b o f2); have h4 := hf2 b o' hh; omega
  · exact ⟨HJ, hJ0, both2_r hHi hHJ, both2_l _ _, fun b hb => ⟨(hFT b hb).2, (hFT b hb).1⟩⟩
  · intro k vals Wr Mr Ha Ta D H3 hk hsz3 ⟨hfD, e, pt, nt, ct, he, hv, hTt⟩ hTa hHa hDa ⟨HJ', hJ, hJa, hia, hF⟩
    have hat := doneL_at he
    refine ⟨_, _, _, _, _, _, _, pt, nt, ct, _, _, hv, fun b1 => ⟨fun hd => ?_, fun hd => ?_⟩⟩
    · rw [hd] at hat
      have hget := picks_get hat
      have hlt := (List.getElem?_eq_some_iff.1 hget).1
      obtain ⟨e', he', hrow, _⟩ := (hE.mono (Hp.le_trans hia hHa)).at (k := k) (by omega)
      rw [he, Option.some.injEq] at he'
      subst he'
      refine ⟨q, m, d, hx1.mono (Hp.le_trans hia hHa), ⟨by omega, by omega⟩, fun _ => ⟨hrow.isSome, fun _ => ⟨_, _, _, _, _, _, _, _, _, hrow, ?_⟩⟩⟩
      intro V nV _
      refine yl_round (J := J ((picks 0 ((doneL l).take k)).length + 1)) (HJ := HJ') (FT := Ta) (D := noH) (B := Hi) nV (hround _ HJ' Ta V _ noH hlt hJ (Hp.le_trans (Hp.le_trans hJa hHa) nV.sub) ⟨k, e, hget, he, rfl⟩ (noH_le _) noH_cells (fun _ _ => rfl)) (Hp.le_trans hJa hHa) (noH_le _) (Hp.le_trans hia hHa) (fun b hb => ⟨(hF b hb).1, .inr (hTa b hb).1, (hF b hb).2⟩) ?_
      intro V' HJ2 FT2 K2 hJ2 hJK2 hBK2 hF2 hJn2 hV
      classical
      obtain ⟨K4, hK4a, hK4b⟩ : ∃ K4 : Hp, (∀ j, ((∃ o, HJ2 j = some o) ∨ ∃ o, Hi j = some o) → K4 j = K2 j) ∧ ∀ j, ¬ ((∃ o, HJ2 j = some o) ∨ ∃ o, Hi j = some o) → K4 j = none :=
        ⟨fun j => if (∃ o, HJ2 j = some o) ∨ ∃ o, Hi j = some o then K2 j else none, fun j h => if_pos h, fun j h => if_neg h⟩
      refine ⟨FT2, K4, fun j o hj => ?_, ⟨HJ2, ?_, fun j o hj => ?_, fun j o hj => ?_, fun j hj => ⟨(hF2 j hj).2.2, ?_⟩⟩, fun j o hj => ?_, fun j hj => ⟨?_, ?_, ?_⟩⟩
      · by_cases h : (∃ o, HJ2 j = some o) ∨ ∃ o, Hi j = some o
        · rw [hK4a j h] at hj; exact hj
        · rw [hK4b j h] at hj; cases hj
      · rw [picks_at hat, if_pos rfl, List.length_append]; exact hJ2
      · rw [hK4a j (.inl ⟨o, hj⟩)]; exact hJK2 j o hj
      · rw [hK4a j (.inr ⟨o, hj⟩)]; exact hBK2 j o hj
      · rcases (hF2 j hj).1 with h | h
        · exact (hF j h).2
        · exact old_none (Hp.le_trans (Hp.le_trans hia hHa) nV.sub) h
      · by_cases h : (∃ o, HJ2 j = some o) ∨ ∃ o, Hi j = some o
        · rcases h with ⟨o', h⟩ | ⟨o', h⟩
          · by_cases h5 : V.heap.size ≤ j
            · exact .inr (.inr (Nat.le_trans nV.mod.size h5))
            · cases h6 : HJ' j with
              | none => rw [hJn2 j h6 rfl (by omega)] at h; cases h
              | some o'' => exact .inl ⟨o'', hJa j o'' h6⟩
          · exact .inl ⟨o', hia j o' h⟩
        · rw [hK4b j h] at hj; cases hj
      · exact (hF2 j hj).1.imp id (fun h => Nat.le_trans nV.mod.size h)
      · obtain ⟨o, ho⟩ := (hF2 j hj).2.2
        exact ⟨o, by rw [hK4a j (.inl ⟨o, ho⟩)]; exact hJK2 j o ho⟩
      · rcases (hF2 j hj).1 with h | h
        · exact (hTa j h).2
        · exact old_none (Hp.le_trans hDa nV.sub) h
    · have hd' : ((foldS Sta.zero (l.take k)).apply e).2.2 = false := by simpa using hd
      rw [hd'] at hat
      refine ⟨Ta, Ha, hHa, ⟨HJ', ?_, hJa, hia, hF⟩, fun j o hj => .inl ⟨o, hj⟩, fun j hj => ⟨.inl hj, ?_, (hTa j hj).2⟩⟩
      · rw [picks_at hat, if_neg (by simp), List.append_nil]; exact hJ
      · obtain ⟨o, ho⟩ := (hF j hj).1
        exact ⟨o, hJa j o ho⟩
  · intro H3 Ta ⟨HJ', hJ, hJa, hia, hF⟩
    rw [List.take_of_length_le (by rw [doneL_len]; exact Nat.le_refl _)] at hJ
    exact fun W' n' _ => ⟨⟨_, rfl⟩, HJ', Ta, hJ, Hp.le_trans hJa n'.sub, n'.mod⟩
end Go.Proofs.Ytgmgbfpoeclgiaa
namespace Go.Proofs.Ytgmgbfpoeclgiaa
open Go.RowKit
set_option maxRecDepth 100000
def orow (x : POp) : List Value := [vi x.kind, vi x.key, vi x.to, vi x.n]
def Ops (H : Hp) (p : Option Loc) (n c : Nat) (l : List POp) : Prop := n ≤ c ∧ c ≤ maxLen ∧ Rows H p n 4 (l.map orow)
theorem Ops.of_ow {H : Hp} {p : Option Loc} {n c : Nat} {l : List POp} {g : Option Nat} (h : Ow H 41 4 p n c (l.map orow) g) : Ops H p n c l := ⟨h.2.2.1, h.2.2.2.1, h.rows⟩
theorem Ops.mono {H K : Hp} {p : Option Loc} {n c : Nat} {l : List POp} (h : Ops H p n c l) (hk : H.le K) : Ops K p n c l := ⟨h.1, h.2.1, h.2.2.mono hk⟩
theorem Ops.len {H : Hp} {p : Option Loc} {n c : Nat} {l : List POp} (h : Ops H p n c l) : n = l.length := by simpa using h.2.2.len
theorem Ops.at {H : Hp} {p : Option Loc} {n c : Nat} {l : List POp} (h : Ops H p n c l) {k : Nat} (hk : k < n) : ∃ x : POp, l[k]? = some x ∧ RowAt H p (0 + (k : Int) * 4) [vi x.kind, vi x.key, vi x.to, vi x.n] := by
  obtain ⟨row, h1, _, h3⟩ := h.2.2.at hk (off := 0 + (k : Int) * 4) (by omega)
  rw [List.getElem?_map, Option.map_eq_some_iff] at h1
  obtain ⟨x, hx, rfl⟩ := h1
  exact ⟨x, hx, h3⟩
theorem Ops.nil (H : Hp) (p : Option Loc) : Ops H p 0 0 [] := ⟨Nat.le_refl _, by simp [maxLen], Rows.nil _ _ _⟩
theorem Bools.nil (H : Hp) (p : Option Loc) : Bools H p 0 0 [] := ⟨Nat.le_refl _, by simp [maxLen], Rows.nil _ _ _⟩
section
variable {H : Hp} {p q : Option Loc} {n c m d : Nat} {l : List Ent}
theorem tOnce_bad {x y : Int} (h : entsErr l ≠ 0) : tOnce l x y = (0, entsErr l) := if_pos h
theorem tOnce_rng {x y : Int} (h : entsErr l = 0) (h1 : x < 1 ∨ 5 < x ∨ y < 1 ∨ 60 < y) : tOnce l x y = (0, 3) := by unfold tOnce; rw [if_neg (by omega), if_pos h1]
theorem tOnce_ok {x y : Int} (h : entsErr l = 0) (h1 : ¬ (x < 1 ∨ 5 < x ∨ y < 1 ∨ 60 < y)) : tOnce l x y = (((manyAt l x y (picks 0 (doneL l)) : Nat) : Int), 0) := by unfold tOnce; rw [if_neg (by omega), if_neg h1]
theorem c_traceOnce (hE : Ents H q m d l) (x y : Int) : Gv Try.prog 31 #[vsl q m d, vi x, vi y] H (.tuple #[vi (tOnce l x y).1, vi (tOnce l x y).2]) := fun W hH => by
  have hm := hE.len
  refine x_traceOnce q m d x y noM H W _ hH fun b0 b1 => ?_
  refine Cl.same (c_foldCheck hE) fun _ _ hx => ⟨_, rfl, hx, fun h0 => ?_, fun h0 => Rt.gv' (by rw [tOnce_bad h0])⟩
  refine ⟨fun h1 => Rt.gv' (by rw [tOnce_rng h0 (by omega)]), fun h1 => ⟨fun h2 => Rt.gv' (by rw [tOnce_rng h0 (by omega)]), fun h2 => ⟨fun h3 => Rt.gv' (by rw [tOnce_rng h0 (by omega)]), fun h3 => ⟨fun h4 => Rt.gv' (by rw [tOnce_rng h0 (by omega)]), fun h4 b2 => ?_⟩⟩⟩⟩
  rw [tOnce_ok h0 (by omega)]
  obtain ⟨h50, hl⟩ := entsErr_ok.1 h0
  refine Cl.fresh (c_those q m d H) ?_
  rintro v W5 W6 D2 ⟨b, rfl, hb⟩ hx2 hD2 hf2 nn2
  refine ⟨some (b, 0), rfl, hx2, D2, hD2, hf2, fun H2 hh2 hd2 => ?_⟩
  have hpl := picks_len (doneL l) 0
  rw [doneL_len] at hpl
  refine ⟨fun _ => False, (picks 0 (doneL l)).length, ThoseIt l, fun v k K T => match v with
      | [.i z] => z = ((manyAt l x y ((picks 0 (doneL l)).take k) : Nat) : Int)
      | _ => False, H2, noH, noT, ⟨it_those hl h50 ⟨b, 0, rfl, _, _, _, hd2 b _ hb, fun j hj => ?_⟩ (hE.mono hh2), Hp.le_refl _, noH_le _, fun j hj => hj.elim, fun j hj => hj.elim, ?_⟩, ?_, ?_⟩
  · simp only [List.length_singleton] at hj
    obtain rfl : j = 0 := by omega
    rfl
  · rfl
  · intro k vals Wr Mr Ha Ta D3 H3 hk hsz3 ⟨i, e, hget, he, hv⟩ hTa hHa hDa z hI
    have hI : z = ((manyAt l x y ((picks 0 (doneL l)).take k) : Nat) : Int) := hI
    have hle := manyAt_le l x y ((picks 0 (doneL l)).take k)
    rw [List.length_take] at hle
    have hs : manyAt l x y ((picks 0 (doneL l)).take (k + 1)) = manyAt l x y ((picks 0 (doneL l)).take k) + if e.client = x ∧ e.seq = y then 1 else 0 := by rw [take_at hget, manyAt_snoc he]
    refine ⟨_, _, _, _, _, _, _, _, _, _, hv, fun b3 => ⟨fun g1 => ⟨fun g2 => ⟨in64 (by omega), fun _ => ⟨noT, noH, noH_le _, ?_, fun j o hj => (by cases hj), fun j hj => hj.elim⟩⟩, fun g2 => ⟨noT, noH, noH_le _, ?_, fun j o hj => (by cases hj), fun j hj => hj.elim⟩⟩, fun g1 => ⟨noT, noH, noH_le _, ?_, fun j o hj => (by cases hj), fun j hj => hj.elim⟩⟩⟩
    · show z + 1 = _
      rw [hs, if_pos ⟨g1, g2⟩]; omega
    · show z = _
      rw [hs, if_neg (fun h => g2 h.2)]; omega
    · show z = _
      rw [hs, if_neg (fun h => g1 h.1)]; omega
  · intro H3 Ta z hI
    have hI : z = ((manyAt l x y ((picks 0 (doneL l)).take (picks 0 (doneL l)).length) : Nat) : Int) := hI
    rw [List.take_length] at hI
    exact Rt.gv' (by rw [hI])
/-! the document -/
end
end Go.Proofs.Ytgmgbfpoeclgiaa
