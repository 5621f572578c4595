/- Which entries did an op: over plain data. No program in sight. No conditions. Plain laws of what was done: the values come of the ops alone; a number is done twice only by two sessions. No program in sight. No conditions. Symbolic runs of functions: what each leaves to prove is enough for its call. Printed by a program of ours. No conditions. Contract: the entries by which an op was done, as a loop takes them. No conditions. Contracts of package trace, and of what the document says of it. No conditions. -/
import Derived.Test.YtdihdcielchodaaKF1
import Derived.Test.YtdihdcielchodaaKE3
import Derived.Test.YtdihdcielchodaaProg
import Derived.Test.YtdihdcielchodaaKF2
import Derived.Test.YtdihdcielchodaaKF3
import Derived.Test.YtdihdcielchodaaKE4
import Derived.Test.YtdihdcielchodaaKT1
set_option linter.unusedVariables false
set_option linter.unusedSimpArgs false
namespace Go.Proofs.Ytdihdcielchodaa

/-- the places of what says yes -/
def picks : Nat → List Bool → List Nat
  | _, [] => []
  | k, b :: l => if b = true then k :: picks (k + 1) l else picks (k + 1) l
theorem picks_append : ∀ (a b : List Bool) (k : Nat), picks k (a ++ b) = picks k a ++ picks (k + a.length) b
  | [], b, k => by simp [picks]
  | x :: a, b, k => by
    simp only [List.cons_append, picks, List.length_cons]
    rw [picks_append a b (k + 1), show k + 1 + a.length = k + (a.length + 1) by omega]
    split <;> rfl
theorem picks_at {b : List Bool} {k : Nat} {x : Bool} (h : b[k]? = some x) : picks 0 (b.take (k + 1)) = picks 0 (b.take k) ++ if x = true then [k] else [] := by
  rw [take_at h, picks_append, Nat.zero_add, List.length_take, Nat.min_eq_left (by have := (List.getElem?_eq_some_iff.1 h).1; omega)]
  cases x <;> rfl
theorem picks_get {b : List Bool} {k : Nat} (h : b[k]? = some true) : (picks 0 b)[(picks 0 (b.take k)).length]? = some k := by
  have hlt := (List.getElem?_eq_some_iff.1 h).1
  conv => lhs; rw [← List.take_append_drop (k + 1) b, picks_append, picks_at h]
  simp
theorem mem_picks : ∀ {b : List Bool} {k j : Nat}, j ∈ picks k b ↔ k ≤ j ∧ b[j - k]? = some true
  | [], k, j => by simp [picks]
  | x :: b, k, j => by
    unfold picks
    split
    · rename_i hx
      rw [List.mem_cons, mem_picks]
      constructor
      · rintro (rfl | ⟨h1, h2⟩)
        · simp [hx]
        · refine ⟨by omega, ?_⟩
          rw [show j - k = (j - (k + 1)) + 1 by omega]; simpa using h2
      · rintro ⟨h1, h2⟩
        rcases Nat.eq_or_lt_of_le h1 with h3 | h3
        · exact .inl h3.symm
        · refine .inr ⟨h3, ?_⟩
          rw [show j - k = (j - (k + 1)) + 1 by omega] at h2; simpa using h2
    · rename_i hx
      rw [mem_picks]
      constructor
      · rintro ⟨h1, h2⟩
        refine ⟨by omega, ?_⟩
        rw [show j - k = (j - (k + 1)) + 1 by omega]; simpa using h2
      · rintro ⟨h1, h2⟩
        rcases Nat.eq_or_lt_of_le h1 with h3 | h3
        · subst h3
          simp only [Nat.sub_self, List.getElem?_cons_zero, Option.some.injEq] at h2
          exact absurd h2 hx
        · refine ⟨h3, ?_⟩
          rw [show j - k = (j - (k + 1)) + 1 by omega] at h2; simpa using h2
/-- a list of yes at just these places -/
def marked (m : Nat) (is : List Nat) : List Bool := (List.range m).map fun j => decide (j ∈ is)
theorem marked_set {m i : Nat} {is : List Nat} (hi : i < m) : (marked m is).set i true = marked m (is ++ [i]) := by
  apply List.ext_getElem?
  intro j
  rw [List.getElem?_set]
  simp only [marked, List.length_map, List.length_range, List.getElem?_map, List.mem_append, List.mem_singleton]
  by_cases hj : j < m
  · rw [List.getElem?_range hj]
    by_cases h : i = j
    · subst h; simp [hi]
    · rw [if_neg h]
      have h2 : ¬ j = i := fun hh => h hh.symm
      simp [h2]
  · rw [List.getElem?_eq_none (by simp; omega)]
    split
    · rename_i h; exact absurd (h ▸ hi) hj
    · rfl
theorem marked_all (b : List Bool) : marked b.length (picks 0 b) = b := by
  apply List.ext_getElem?
  intro j
  simp only [marked, List.getElem?_map]
  by_cases hj : j < b.length
  · rw [List.getElem?_range hj, List.getElem?_eq_getElem hj]
    simp only [Option.map_some, Option.some.injEq, mem_picks, Nat.zero_le, true_and, Nat.sub_zero, List.getElem?_eq_getElem hj]
    cases b[j] <;> simp
  · rw [List.getElem?_eq_none (by simp; omega), List.getElem?_eq_none (by omega)]; rfl
theorem marked_none (m : Nat) : marked m [] = List.replicate m false := by
  apply List.ext_getElem?
  intro j
  simp only [marked, List.getElem?_map, List.getElem?_replicate]
  by_cases hj : j < m
  · rw [List.getElem?_range hj]; simp [hj]
  · rw [List.getElem?_eq_none (by simp; omega), if_neg hj]; rfl
def doneL (l : List Ent) : List Bool := foldB Sta.zero l
theorem doneL_len (l : List Ent) : (doneL l).length = l.length := foldB_len l _
/-- the ops of entries at places -/
def opsAt (l : List Ent) (is : List Nat) : List POp := is.filterMap fun i => (l[i]?).map Ent.op
theorem opsAt_snoc {l : List Ent} {is : List Nat} {i : Nat} {e : Ent} (h : l[i]? = some e) : opsAt l (is ++ [i]) = opsAt l is ++ [e.op] := by simp [opsAt, List.filterMap_append, h]
def isCall (l : List Ent) (c q : Int) (i : Nat) : Bool := match l[i]? with
  | some e => decide (e.client = c ∧ e.seq = q)
  | none => false
def manyAt (l : List Ent) (c q : Int) (is : List Nat) : Nat := (is.filter (isCall l c q)).length
theorem manyAt_snoc {l : List Ent} {c q : Int} {is : List Nat} {i : Nat} {e : Ent} (h : l[i]? = some e) : manyAt l c q (is ++ [i]) = manyAt l c q is + if e.client = c ∧ e.seq = q then 1 else 0 := by
  unfold manyAt
  rw [List.filter_append, List.length_append]
  congr 1
  simp only [List.filter_cons, isCall, h, List.filter_nil]
  by_cases hh : e.client = c ∧ e.seq = q
  · simp [hh]
  · simp [hh]
theorem manyAt_le (l : List Ent) (c q : Int) (is : List Nat) : manyAt l c q is ≤ is.length := List.length_filter_le _ _
theorem picks_len : ∀ (b : List Bool) (k : Nat), (picks k b).length ≤ b.length
  | [], k => by simp [picks]
  | x :: b, k => by
    have := picks_len b (k + 1)
    unfold picks
    split <;> simp <;> omega
/-- what the document answers -/
def tDone (l : List Ent) : List Bool × Int := if entsErr l ≠ 0 then ([], entsErr l) else (doneL l, 0)
def tOps (l : List Ent) : List POp × Int := if entsErr l ≠ 0 then ([], entsErr l) else (opsAt l (picks 0 (doneL l)), 0)
def tOnce (l : List Ent) (c q : Int) : Int × Int := if entsErr l ≠ 0 then (0, entsErr l) else if c < 1 ∨ 5 < c ∨ q < 1 ∨ 60 < q then (0, 3) else ((manyAt l c q (picks 0 (doneL l)) : Nat), 0)
theorem zero_ok : StOk Sta.zero := Sta.err_ok.1 (by decide)
end Go.Proofs.Ytdihdcielchodaa
namespace Go.Proofs.Ytdihdcielchodaa

theorem foldB_get {l : List Ent} {i : Nat} {e : Ent} (h : l[i]? = some e) (s : Sta) : (foldB s l)[i]? = some ((foldS s (l.take i)).apply e).2.2 := by
  have hlt := (List.getElem?_eq_some_iff.1 h).1
  have hn : (l.take i).length = i := by rw [List.length_take]; omega
  conv => lhs; rw [← List.take_append_drop (i + 1) l, foldB_append, foldB_at h]
  rw [List.append_assoc, List.getElem?_append_right (by rw [foldB_len, hn]; omega), foldB_len, hn, Nat.sub_self]
  rfl
/-! a number's answer is told -/
def Told (c q : Int) (l : List Ses) : Prop := ∀ x ∈ l, x.client = c → q ≤ x.acked ∨ hasK x.kept q = true
theorem told_ack {x : Ses} {q ck a : Int} (h : q ≤ x.acked ∨ hasK x.kept q = true) : q ≤ (x.ack ck a).acked ∨ hasK (x.ack ck a).kept q = true := by
  simp only [Ses.ack]
  rcases h with h | h
  · left; omega
  · by_cases h1 : q ≤ max x.acked a
    · exact .inl h1
    · right
      obtain ⟨r, h2, h3⟩ := hasK_iff.1 h
      exact hasK_iff.2 ⟨r, List.mem_filter.2 ⟨h2, by simp only [decide_eq_true_eq]; omega⟩, h3⟩
theorem told_put {c q : Int} {l : List Ses} {x : Ses} (h : Told c q l) (hx : x.client = c → q ≤ x.acked ∨ hasK x.kept q = true) : Told c q (putT l x) := fun y hy hc => by
  rcases mem_put hy with rfl | ⟨h1, _⟩
  · exact hx hc
  · exact h y h1 hc
theorem told_keep {s : Sta} {e : Ent} {c q : Int} (hs : StOk s) (h : Told c q s.table) (hno : ¬ (e.kind = 1 ∧ e.client = c)) : Told c q (s.apply e).1.table := by
  have hT : TabOk (s.tick e.time).table := hs.table.fresh _
  have h1 : Told c q (s.tick e.time).table := fun x hx hc => h x (List.mem_filter.1 hx).1 hc
  unfold Sta.apply
  generalize s.tick e.time = u at hT h1
  unfold Sta.does
  by_cases k1 : e.kind = 1
  · rw [if_pos k1]
    have hc : e.client ≠ c := fun hh => hno ⟨k1, hh⟩
    by_cases k2 : hasT u.table e.client = true
    · rw [if_pos k2]
      obtain ⟨_, m2⟩ := find_mem hT.ord k2
      exact told_put h1 fun hh => absurd (m2.symm.trans hh) hc
    · rw [if_neg k2]
      by_cases k3 : u.table.length = 3
      · rw [if_pos k3]; exact h1
      · rw [if_neg k3]; exact told_put h1 fun hh => absurd hh hc
  · rw [if_neg k1]
    by_cases k2 : hasT u.table e.client = true
    · rw [if_pos k2]
      by_cases k3 : e.kind = 3
      · rw [if_pos k3]; exact fun x hx hc => h1 x (List.mem_filter.1 hx).1 hc
      · rw [if_neg k3]
        obtain ⟨m1, m2⟩ := find_mem hT.ord k2
        have ha : ((findT u.table e.client).ack u.clock e.ack).client = c → q ≤ ((findT u.table e.client).ack u.clock e.ack).acked ∨ hasK ((findT u.table e.client).ack u.clock e.ack).kept q = true := fun hh => told_ack (h1 _ m1 hh)
        generalize (findT u.table e.client).ack u.clock e.ack = x at ha
        unfold Sta.calls
        split
        · exact told_put h1 ha
        · split
          · exact told_put h1 ha
          · split
            · exact told_put h1 ha
            · refine told_put h1 fun hh => ?_
              rcases ha hh with h | h
              · exact .inl h
              · right
                obtain ⟨r, h2, h3⟩ := hasK_iff.1 h
                by_cases h4 : r.seq = e.seq
                · exact hasK_iff.2 ⟨_, mem_put_selfK _ _, by simp only; omega⟩
                · exact hasK_iff.2 ⟨r, mem_put_otherK h2 h4, h3⟩
    · rw [if_neg k2]; exact h1
theorem told_done {s : Sta} {e : Ent} (hs : StOk s) (hd : (s.apply e).2.2 = true) : Told e.client e.seq (s.apply e).1.table := by
  have hT : TabOk (s.tick e.time).table := hs.table.fresh _
  obtain ⟨_, _, hh, d1, d2, d3, d4⟩ := apply_done hd
  obtain ⟨m1, m2⟩ := find_mem hT.ord hh
  rw [d4]
  intro y hy hc
  rcases mem_put hy with rfl | ⟨_, h2⟩
  · exact .inr (hasK_iff.2 ⟨_, mem_put_selfK _ _, rfl⟩)
  · exact absurd (hc.trans m2.symm) h2
theorem told_not {s : Sta} {e : Ent} (hs : StOk s) (h : Told e.client e.seq s.table) : (s.apply e).2.2 ≠ true := fun hd => by
  have hT : TabOk (s.tick e.time).table := hs.table.fresh _
  obtain ⟨_, _, hh, d1, d2, d3, d4⟩ := apply_done hd
  obtain ⟨m1, m2⟩ := find_mem hT.ord hh
  rcases told_ack (ck := max s.clock e.time) (a := e.ack) (h _ (List.mem_filter.1 m1).1 m2) with h1 | h1
  · omega
  · rw [d2] at h1; cases h1
theorem life {l : List Ent} (hl : ∀ e ∈ l, EntOk e) (h50 : l.length ≤ 50) {i k : Nat} {a b : Ent} (hik : i < k) (hi : (doneL l)[i]? = some true) (hk : (doneL l)[k]? = some true) (ha : l[i]? = some a) (hb : l[k]? = some b)
    (hc : a.client = b.client) (hq : a.seq = b.seq) : ∃ n e, i < n ∧ n < k ∧ l[n]? = some e ∧ e.kind = 1 ∧ e.client = b.client := by
  apply Classical.byContradiction
  intro hno
  have hkl := (List.getElem?_eq_some_iff.1 hb).1
  have hp : (Sta.zero).pos + (l.length : Int) ≤ 50 := by show (0 : Int) + _ ≤ 50; omega
  have hok : ∀ n, n < l.length → StOk (foldS Sta.zero (l.take n)) := fun n hn => (fold_at_ok zero_ok hl hp hn).1
  have step : ∀ n, i + 1 + n ≤ k → Told b.client b.seq (foldS Sta.zero (l.take (i + 1 + n))).table := by
    intro n
    induction n with
    | zero =>
      intro _
      rw [Nat.add_zero, foldS_at ha, ← hc, ← hq]
      refine told_done (hok i (by omega)) ?_
      unfold doneL at hi
      rw [foldB_get ha] at hi
      simpa using hi
    | succ n ih =>
      intro hn
      have he := List.getElem?_eq_getElem (l := l) (i := i + 1 + n) (by omega)
      rw [show i + 1 + (n + 1) = (i + 1 + n) + 1 by omega, foldS_at he]
      exact told_keep (hok _ (by omega)) (ih (by omega)) fun hh => hno ⟨_, _, by omega, by omega, he, hh.1, hh.2⟩
  have h1 := step (k - (i + 1)) (by omega)
  rw [show i + 1 + (k - (i + 1)) = k by omega] at h1
  unfold doneL at hk
  rw [foldB_get hb] at hk
  exact told_not (hok k hkl) h1 (by simpa using hk)
/-! the values come of the ops alone -/
theorem opsAt_append (l : List Ent) (a b : List Nat) : opsAt l (a ++ b) = opsAt l a ++ opsAt l b := by simp [opsAt, List.filterMap_append]
theorem next_pick (d : List Bool) : ∀ n i, n = d.length - i → i ≤ d.length → ∃ j, i ≤ j ∧ j ≤ d.length ∧ (j = d.length ∨ d[j]? = some true) ∧ picks 0 (d.take j) = picks 0 (d.take i) ∧ ∀ m, i ≤ m → m < j → d[m]? = some false
  | 0, i, hn, hi => ⟨i, Nat.le_refl _, hi, .inl (by omega), rfl, fun m h1 h2 => by omega⟩
  | n + 1, i, hn, hi => by
    have hd := List.getElem?_eq_getElem (l := d) (i := i) (by omega)
    cases hx : d[i] with
    | true => exact ⟨i, Nat.le_refl _, hi, .inr (by rw [hd, hx]), rfl, fun m h1 h2 => by omega⟩
    | false =>
      rw [hx] at hd
      obtain ⟨j, h1, h2, h3, h4, h5⟩ := next_pick d n (i + 1) (by omega) (by omega)
      refine ⟨j, by omega, h2, h3, by rw [h4, picks_at hd]; simp, fun m h6 h7 => ?_⟩
      by_cases h8 : m = i
      · subst h8; exact hd
      · exact h5 m (by omega) h7
theorem vals_quiet {l : List Ent} (hl : ∀ e ∈ l, EntOk e) {a : Nat} : ∀ n, a + n ≤ l.length → (∀ m, a ≤ m → m < a + n → (doneL l)[m]? = some false) → (foldS Sta.zero (l.take (a + n))).vals = (foldS Sta.zero (l.take a)).vals
  | 0, _, _ => rfl
  | n + 1, hn, hq => by
    have he := List.getElem?_eq_getElem (l := l) (i := a + n) (by omega)
    rw [show a + (n + 1) = (a + n) + 1 by omega, foldS_at he, ← vals_quiet hl n (by omega) fun m h1 h2 => hq m h1 (by omega)]
    have h1 := hq (a + n) (by omega) (by omega)
    unfold doneL at h1
    rw [foldB_get he] at h1
    exact (apply_vals (hl _ (List.mem_of_getElem? he))).1 (by simpa using h1)
/-- so far: j ops done one behind the other make these values -/
def ValsAt (l : List Ent) (j : Nat) (v : V4) : Prop := ∃ i, i ≤ l.length ∧ (opsAt l (picks 0 ((doneL l).take i))).length = j ∧ v = (foldS Sta.zero (l.take i)).vals ∧ (i = l.length ∨ (doneL l)[i]? = some true)
theorem ValsAt.from {l : List Ent} (hl : ∀ e ∈ l, EntOk e) {i j : Nat} {v : V4} (hi : i ≤ l.length) (h1 : (opsAt l (picks 0 ((doneL l).take i))).length = j) (h2 : v = (foldS Sta.zero (l.take i)).vals) : ValsAt l j v := by
  have hd := doneL_len l
  obtain ⟨k, k1, k2, k3, k4, k5⟩ := next_pick (doneL l) _ i rfl (by omega)
  refine ⟨k, by omega, by rw [k4]; exact h1, ?_, by rw [← hd]; exact k3⟩
  have := vals_quiet hl (a := i) (k - i) (by omega) fun m m1 m2 => k5 m m1 (by omega)
  rw [h2, ← this]
  congr 3
  omega
theorem ValsAt.zero {l : List Ent} (hl : ∀ e ∈ l, EntOk e) : ValsAt l 0 V4.zero := ValsAt.from hl (i := 0) (Nat.zero_le _) rfl rfl
theorem ValsAt.end {l : List Ent} {j : Nat} {v : V4} (h : ValsAt l j v) (hj : (opsAt l (picks 0 (doneL l))).length ≤ j) : v = (foldS Sta.zero l).vals := by
  obtain ⟨i, h1, h2, h3, h4⟩ := h
  rcases h4 with h4 | h4
  · subst h4; rw [h3, List.take_length]
  · exfalso
    have hlt := (List.getElem?_eq_some_iff.1 h4).1
    rw [doneL_len] at hlt
    have he := List.getElem?_eq_getElem (l := l) (i := i) hlt
    have h5 : opsAt l (picks 0 (doneL l)) = (opsAt l (picks 0 ((doneL l).take i)) ++ [l[i].op]) ++ opsAt l (picks (0 + ((doneL l).take (i + 1)).length) ((doneL l).drop (i + 1))) := by
      rw [← opsAt_snoc he, ← opsAt_append]
      congr 1
      conv => lhs; rw [← List.take_append_drop (i + 1) (doneL l), picks_append, picks_at h4]
      rfl
    rw [h5] at hj
    simp only [List.length_append, List.length_cons, List.length_nil] at hj
    omega
theorem ValsAt.step {l : List Ent} (hl : ∀ e ∈ l, EntOk e) (h50 : l.length ≤ 50) {j : Nat} {v : V4} {x : POp} (h : ValsAt l j v) (hj : (opsAt l (picks 0 (doneL l)))[j]? = some x) : v.ok = true ∧ x.err = 0 ∧ ValsAt l (j + 1) (x.turn v).1 := by
  obtain ⟨i, h1, h2, h3, h4⟩ := h
  rcases h4 with h4 | h4
  · exfalso
    have hlt := (List.getElem?_eq_some_iff.1 hj).1
    subst h4
    rw [List.take_of_length_le (by rw [doneL_len]; omega)] at h2
    omega
  · have hlt := (List.getElem?_eq_some_iff.1 h4).1
    rw [doneL_len] at hlt
    have he := List.getElem?_eq_getElem (l := l) (i := i) hlt
    have h5 : opsAt l (picks 0 (doneL l)) = opsAt l (picks 0 ((doneL l).take i)) ++ ([l[i].op] ++ opsAt l (picks (0 + ((doneL l).take (i + 1)).length) ((doneL l).drop (i + 1)))) := by
      rw [← List.append_assoc, ← opsAt_snoc he, ← opsAt_append]
      congr 1
      conv => lhs; rw [← List.take_append_drop (i + 1) (doneL l), picks_append, picks_at h4]
      rfl
    rw [h5, List.getElem?_append_right (by omega), h2, Nat.sub_self] at hj
    simp only [List.cons_append, List.getElem?_cons_zero, Option.some.injEq] at hj
    subst hj
    have hee := hl _ (List.mem_of_getElem? he)
    have hok := (fold_at_ok zero_ok hl (show (Sta.zero).pos + (l.length : Int) ≤ 50 by show (0 : Int) + _ ≤ 50; omega) hlt).1
    have hd : ((foldS Sta.zero (l.take i)).apply l[i]).2.2 = true := by
      unfold doneL at h4
      rw [foldB_get he] at h4
      simpa using h4
    obtain ⟨k2, w2, _⟩ := (apply_vals (s := foldS Sta.zero (l.take i)) hee).2 hd
    refine ⟨by rw [h3]; exact hok.vals, (hee.call k2).2.2, ValsAt.from hl (i := i + 1) (by omega) ?_ ?_⟩
    · rw [picks_at h4, if_pos rfl, opsAt_snoc he, List.length_append, h2]; rfl
    · rw [foldS_at he, w2, h3]
end Go.Proofs.Ytdihdcielchodaa
namespace Go.Proofs.Ytdihdcielchodaa
open Go.RowKit
set_option maxRecDepth 100000
set_option maxHeartbeats 4000000
def v_those : VC :=
(.all 0
(.ret (.func 82 [] [.ptrK 0 0]) [(0, ⟨[.slO 0 (.k 0) (.v 1) (.v 2)], 26⟩)]))
theorem x_those (x0 : Option Loc) (x1 : Nat) (x2 : Nat) (M : Nat → Prop) (H0 : Hp) (W0 : World) (R : Ending → World → Prop) (hH : H0.le (hpOf W0)) (h :
 (∀ b0 : Nat,
 Rt R W0 M H0 (fun W => Kn W0 M H0 W b0 (Obj.cells #[vsl x0 x1 x2] 26 (0, 0)) ∧ True) (Value.func (.func 82) #[] #[Value.pointer (some ⟨b0, 0, none⟩)]))) :
  Calls Try.prog 57 #[vsl x0 x1 x2] W0 R :=
  calls_sxA (M := M) (V := v_those) (hi := {funs := [(57, 82, 1)]}) (args := [.slO 0 (.k 0) (.v 1) (.v 2)]) (nv := 3) (e := (upd (upd (upd (fun _ => .i 0) 0 (.p x0)) 1 (.n x1)) 2 (.n x2))) Try.func57 hH h (by kernel_rfl) (by kernel_rfl) (by kernel_rfl)
def v_those1 : VC :=
(.all 0
(.ld 1 (.k 0) [.slO 2 (.k 0) (.v 3) (.v 4)] [(2, .p), (3, .n), (4, .n)]
(.call 32 [] [] [(5, .i), (6, .i), (7, .i), (8, .i), (9, .i), (10, .i), (11, .p), (12, .n), (13, .n)] (.agg [.int .i64 (.v 5), .int .i64 (.v 6), .int .i64 (.v 7), .int .i64 (.v 8), .int .i64 (.v 9), .int .i64 (.v 10), .slO 11 (.k 0) (.v 12) (.v 13)]) .fresh
(.call 45 [.agg [.int .i64 (.v 5), .int .i64 (.v 6), .int .i64 (.v 7), .int .i64 (.v 8), .int .i64 (.v 9), .int .i64 (.v 10), .slO 11 (.k 0) (.v 12) (.v 13)], .slO 2 (.k 0) (.v 3) (.v 4)] [] [(14, .p), (15, .p)] (.func 69 [] [.ptrO 14 (.k 0), .ptrO 15 (.k 0)]) .fresh
(.rf 69 [.ptrO 14 (.k 0), .ptrO 15 (.k 0)] [] [] [] [(16, .i), (17, .i), (18, .i), (19, .i), (20, .i), (21, .i), (22, .i), (23, .p), (24, .n), (25, .n), (26, .i), (27, .b)] [.int .i64 (.v 16), .agg [.int .i64 (.v 17), .int .i64 (.v 18), .int .i64 (.v 19), .int .i64 (.v 20), .int .i64 (.v 21), .int .i64 (.v 22), .slO 23 (.k 0) (.v 24) (.v 25), .int .i64 (.v 26), .bool (.v 27)]]
(.all 1
(.ite (.v 27)
(.ld 1 (.k 0) [.slO 28 (.k 0) (.v 29) (.v 30)] [(28, .p), (29, .n), (30, .n)]
(.chk (.idx (.v 16) (.v 29))
(.chk (.isp 28)
(.ld 28 (.add (.k 0) (.mul (.v 16) (.k 9))) [.int .i64 (.v 31), .int .i64 (.v 32), .int .i64 (.v 33), .int .i64 (.v 34), .int .i64 (.v 35), .int .i64 (.v 36), .int .i64 (.v 37), .int .i64 (.v 38), .int .i64 (.v 39)] [(31, .i), (32, .i), (33, .i), (34, .i), (35, .i), (36, .i), (37, .i), (38, .i), (39, .i)]
(.yld 0 [.int .i64 (.v 16), .agg [.int .i64 (.v 31), .int .i64 (.v 32), .int .i64 (.v 33), .int .i64 (.v 34), .int .i64 (.v 35), .int .i64 (.v 36), .int .i64 (.v 37), .int .i64 (.v 38), .int .i64 (.v 39)]] []
(.back 0 []))))))
(.back 0 [])))
(.ret (.tup []) []))))))
theorem x_those1 (x0 : Nat) (x1 : Option Loc) (M : Nat → Prop) (H0 : Hp) (W0 : World) (R : Ending → World → Prop) (hH : H0.le (hpOf W0)) (h :
 (∀ b0 : Nat,
 (∃ x2 : Option Loc, ∃ x3 : Nat, ∃ x4 : Nat, RowAt H0 x1 0 [vsl x2 x3 x4] ∧
 (Cl Try.prog W0 M H0 nK 32 #[] fun z W1 W2 => ∃ x5 : Int, ∃ x6 : Int, ∃ x7 : Int, ∃ x8 : Int, ∃ x9 : Int, ∃ x10 : Int, ∃ x11 : Option Loc, ∃ x12 : Nat, ∃ x13 : Nat, z = .returned (Value.agg #[vi x5, vi x6, vi x7, vi x8, vi x9, vi x10, vsl x11 x12 x13]) ∧ Fr W1 W2 H0 fun H1 =>
 (Cl Try.prog W0 M H1 nK 45 #[Value.agg #[vi x5, vi x6, vi x7, vi x8, vi x9, vi x10, vsl x11 x12 x13], vsl x2 x3 x4] fun z W3 W4 => ∃ x14 : Option Loc, ∃ x15 : Option Loc, z = .returned (Value.func (.func 69) #[] #[Value.pointer (ptrAt x14 0), Value.pointer (ptrAt x15 0)]) ∧ Fr W3 W4 H1 fun H2 =>
 (∃ (own : Nat → Prop) (N : Nat) (item : Nat → List Value → Hp → Prop) (I0 : List Dat → Nat → Hp → (Nat → Prop) → Prop) (Hi Ha : Hp) (Ta : Nat → Prop), RfIn Try.prog W0 M 69 [Value.pointer (ptrAt x14 0), Value.pointer (ptrAt x15 0)] H2 own N item I0 [] Hi Ha Ta ∧
 (∀ (k : Nat) (vals : List Value) (Wr : World) (Mr : Nat → Prop) (Ha : Hp) (Ta : Nat → Prop) (D H3 : Hp), k < N → W0.heap.size ≤ Wr.heap.size → item k vals D → (∀ b, Ta b → Mr b ∧ D b = none) → Ha.le H3 → D.le H3 → I0 [] k Ha Ta → ∃ x16 : Int, ∃ x17 : Int, ∃ x18 : Int, ∃ x19 : Int, ∃ x20 : Int, ∃ x21 : Int, ∃ x22 : Int, ∃ x23 : Option Loc, ∃ x24 : Nat, ∃ x25 : Nat, ∃ x26 : Int, ∃ x27 : Bool, vals = [vi x16, Value.agg #[vi x17, vi x18, vi x19, vi x20, vi x21, vi x22, vsl x23 x24 x25, vi x26, vb (x27)]] ∧
  (∀ b1 : Nat,
  ((x27 = true →
   (∃ x28 : Option Loc, ∃ x29 : Nat, ∃ x30 : Nat, RowAt H3 x1 0 [vsl x28 x29 x30] ∧
   (((0 : Int) ≤ x16 ∧ x16 < (x29 : Int)) ∧ (((0 : Int) ≤ x16 ∧ x16 < (x29 : Int)) →
   (x28.isSome = true ∧ (x28.isSome = true →
   (∃ x31 : Int, ∃ x32 : Int, ∃ x33 : Int, ∃ x34 : Int, ∃ x35 : Int, ∃ x36 : Int, ∃ x37 : Int, ∃ x38 : Int, ∃ x39 : Int, RowAt H3 x28 (0 + (x16 * 9)) [vi x31, vi x32, vi x33, vi x34, vi x35, vi x36, vi x37, vi x38, vi x39] ∧
   (Yl Try.prog Wr Mr H3 nK x0 [vi x16, Value.agg #[vi x31, vi x32, vi x33, vi x34, vi x35, vi x36, vi x37, vi x38, vi x39]] fun H4 =>
   (∃ (T2 : Nat → Prop) (K2 : Hp), K2.le H4 ∧ I0 [] (k + 1) K2 T2 ∧ (∀ b o, K2 b = some o → (∃ q, Ha b = some q) ∨ (∃ q, D b = some q) ∨ Wr.heap.size ≤ b) ∧ ∀ b, T2 b → (Ta b ∨ Wr.heap.size ≤ b) ∧ (∃ o, K2 b = some o) ∧ D b = none))))))))) ∧
  (¬ (x27 = true) →
   (∃ (T2 : Nat → Prop) (K2 : Hp), K2.le H3 ∧ I0 [] (k + 1) K2 T2 ∧ (∀ b o, K2 b = some o → (∃ q, Ha b = some q) ∨ (∃ q, D b = some q) ∨ Wr.heap.size ≤ b) ∧ ∀ b, T2 b → (Ta b ∨ Wr.heap.size ≤ b) ∧ (∃ o, K2 b = some o) ∧ D b = none))))) ∧
 (∀ (H3 : Hp) (Ta : Nat → Prop), I0 [] N H3 Ta →
  Rt R W0 M H3 nK (Value.tuple #[])))))))) :
  Calls Try.prog 82 #[Value.func (.yield x0) #[] #[], Value.pointer (ptrAt x1 0)] W0 R :=
  calls_sxA (M := M) (V := v_those1) (hi := {loops := [(2, .iter [(false, [.int .i64]), (true, [.int .i64, .int .i64, .int .i64, .int .i64, .int .i64, .int .i64, .sl, .int .i64, .bool])] [])], funs := [(45, 69, 2)]}) (args := [.yl 0, .ptrO 1 (.k 0)]) (nv := 2) (e := (upd (upd (fun _ => .i 0) 0 (.n x0)) 1 (.p x1))) Try.func82 hH h (by kernel_rfl) (by kernel_rfl) (by kernel_rfl)
def v_traceDone : VC :=
(.call 17 [.slO 0 (.k 0) (.v 1) (.v 2)] [] [(3, .i)] (.int .i64 (.v 3)) .same
(.ite (.eq (.v 3) (.k 0))
(.chk (.le (.k 0) (.v 1))
(.esc (.mkSlice 39) [.int .i64 (.v 1), .int .i64 (.v 1)] [] [(4, .p), (5, .n), (6, .n)] (some (.slO 4 (.k 0) (.v 5) (.v 6))) .fresh
(.all 0
(.call 57 [.slO 0 (.k 0) (.v 1) (.v 2)] [] [(7, .p)] (.func 82 [] [.ptrO 7 (.k 0)]) .fresh
(.chk (.le (.k 0) (.v 5))
(.chk (.le (.k 0) (.v 6))
(.rf 82 [.ptrO 7 (.k 0)] [(8, .p), (9, .n), (10, .n)] [.p 4 (.k 0), .n (.v 5), .n (.v 6)] [.p 8 (.k 0), .n (.v 9), .n (.v 10)] [(11, .i), (12, .i), (13, .i), (14, .i), (15, .i), (16, .i), (17, .i), (18, .i), (19, .i), (20, .i)] [.int .i64 (.v 11), .agg [.int .i64 (.v 12), .int .i64 (.v 13), .int .i64 (.v 14), .int .i64 (.v 15), .int .i64 (.v 16), .int .i64 (.v 17), .int .i64 (.v 18), .int .i64 (.v 19), .int .i64 (.v 20)]]
(.chk (.idx (.v 11) (.v 9))
(.chk (.isp 8)
(.esc (.storeO 4) [.ptrO 8 (.add (.k 0) (.mul (.v 11) (.k 1))), .bool (.k true)] [] [] none .turn
(.chk (.le (.k 0) (.v 9))
(.chk (.le (.k 0) (.v 10))
(.back 0 [.p 8 (.k 0), .n (.v 9), .n (.v 10)]))))))
(.ret (.tup [.slO 8 (.k 0) (.v 9) (.v 10), .int .i64 (.k 0)]) []))))))))
(.ret (.tup [.c (Value.slice none 0 0), .int .i64 (.v 3)]) [])))
theorem x_traceDone (x0 : Option Loc) (x1 : Nat) (x2 : Nat) (M : Nat → Prop) (H0 : Hp) (W0 : World) (R : Ending → World → Prop) (hH : H0.le (hpOf W0)) (h :
 (Cl Try.prog W0 M H0 nK 17 #[vsl x0 x1 x2] fun z W1 W2 => ∃ x3 : Int, z = .returned (vi x3) ∧ Ext W1 W2 ∧
 ((x3 = 0 →
  (0 ≤ (x1 : Int) ∧ (0 ≤ (x1 : Int) →
  (Es W0 M H0 nK fun W3 => ∃ x4 : Option Loc, ∃ x5 : Nat, ∃ x6 : Nat, Eo Try.prog (.mkSlice 39) [vi (x1 : Int), vi (x1 : Int)] W3 (.value (vsl x4 x5 x6)) fun W4 => Fr W3 W4 H0 fun H1 =>
  (∀ b0 : Nat,
  (Cl Try.prog W0 M H1 nK 57 #[vsl x0 x1 x2] fun z W5 W6 => ∃ x7 : Option Loc, z = .returned (Value.func (.func 82) #[] #[Value.pointer (ptrAt x7 0)]) ∧ Fr W5 W6 H1 fun H2 =>
  (0 ≤ (x5 : Int) ∧ (0 ≤ (x5 : Int) →
  (0 ≤ (x6 : Int) ∧ (0 ≤ (x6 : Int) →
  (∃ (own : Nat → Prop) (N : Nat) (item : Nat → List Value → Hp → Prop) (I0 : List Dat → Nat → Hp → (Nat → Prop) → Prop) (Hi Ha : Hp) (Ta : Nat → Prop), RfIn Try.prog W0 M 82 [Value.pointer (ptrAt x7 0)] H2 own N item I0 [.p (x4.map fun a => a.shift 0), .n x5, .n x6] Hi Ha Ta ∧
  (∀ (k : Nat) (vals : List Value) (Wr : World) (Mr : Nat → Prop) (Ha : Hp) (Ta : Nat → Prop) (D H3 : Hp), k < N → W0.heap.size ≤ Wr.heap.size → item k vals D → (∀ b, Ta b → Mr b ∧ D b = none) → Ha.le H3 → D.le H3 → ∀ x8 : Option Loc, ∀ x9 : Nat, ∀ x10 : Nat, I0 [.p (x8.map fun a => a.shift 0), .n x9, .n x10] k Ha Ta → ∃ x11 : Int, ∃ x12 : Int, ∃ x13 : Int, ∃ x14 : Int, ∃ x15 : Int, ∃ x16 : Int, ∃ x17 : Int, ∃ x18 : Int, ∃ x19 : Int, ∃ x20 : Int, vals = [vi x11, Value.agg #[vi x12, vi x13, vi x14, vi x15, vi x16, vi x17, vi x18, vi x19, vi x20]] ∧
   (((0 : Int) ≤ x11 ∧ x11 < (x9 : Int)) ∧ (((0 : Int) ≤ x11 ∧ x11 < (x9 : Int)) →
   (x8.isSome = true ∧ (x8.isSome = true →
   (Es Wr Mr H3 nK fun W7 => Eo Try.prog (.storeO 4) [Value.pointer (ptrAt x8 (0 + (x11 * 1))), vb (true)] W7 (.skip) fun W8 => Tn Wr Mr H3 W7 W8 fun H4 =>
   (0 ≤ (x9 : Int) ∧ (0 ≤ (x9 : Int) →
   (0 ≤ (x10 : Int) ∧ (0 ≤ (x10 : Int) →
   (∃ (T2 : Nat → Prop) (K2 : Hp), K2.le H4 ∧ I0 [.p (x8.map fun a => a.shift 0), .n x9, .n x10] (k + 1) K2 T2 ∧ (∀ b o, K2 b = some o → (∃ q, Ha b = some q) ∨ (∃ q, D b = some q) ∨ Wr.heap.size ≤ b) ∧ ∀ b, T2 b → (Ta b ∨ Wr.heap.size ≤ b) ∧ (∃ o, K2 b = some o) ∧ D b = none))))))))))) ∧
  (∀ (H3 : Hp) (Ta : Nat → Prop), ∀ x8 : Option Loc, ∀ x9 : Nat, ∀ x10 : Nat, I0 [.p (x8.map fun a => a.shift 0), .n x9, .n x10] N H3 Ta →
   Rt R W0 M H3 nK (Value.tuple #[vsl x8 x9 x10, vi 0]))))))))))))) ∧
 (¬ (x3 = 0) →
  Rt R W0 M H0 nK (Value.tuple #[Value.slice none 0 0, vi x3]))))) :
  Calls Try.prog 23 #[vsl x0 x1 x2] W0 R :=
  calls_sxA (M := M) (V := v_traceDone) (hi := {loops := [(6, .iter [(false, [.int .i64]), (true, [.int .i64, .int .i64, .int .i64, .int .i64, .int .i64, .int .i64, .int .i64, .int .i64, .int .i64])] [(5, [.pt .sl])])], funs := [(57, 82, 1)]}) (args := [.slO 0 (.k 0) (.v 1) (.v 2)]) (nv := 3) (e := (upd (upd (upd (fun _ => .i 0) 0 (.p x0)) 1 (.n x1)) 2 (.n x2))) Try.func23 hH h (by kernel_rfl) (by kernel_rfl) (by kernel_rfl)
def v_traceOps : VC :=
(.call 17 [.slO 0 (.k 0) (.v 1) (.v 2)] [] [(3, .i)] (.int .i64 (.v 3)) .same
(.ite (.eq (.v 3) (.k 0))
(.all 0
(.call 57 [.slO 0 (.k 0) (.v 1) (.v 2)] [] [(4, .p)] (.func 82 [] [.ptrO 4 (.k 0)]) .fresh
(.rf 82 [.ptrO 4 (.k 0)] [(5, .p), (6, .n), (7, .n)] [.pn, .n (.k 0), .n (.k 0)] [.p 5 (.k 0), .n (.v 6), .n (.v 7)] [(8, .i), (9, .i), (10, .i), (11, .i), (12, .i), (13, .i), (14, .i), (15, .i), (16, .i), (17, .i)] [.int .i64 (.v 8), .agg [.int .i64 (.v 9), .int .i64 (.v 10), .int .i64 (.v 11), .int .i64 (.v 12), .int .i64 (.v 13), .int .i64 (.v 14), .int .i64 (.v 15), .int .i64 (.v 16), .int .i64 (.v 17)]]
(.all 1
(.all 2
(.esc (.bi .append #[42, 42] 42) [.slO 5 (.k 0) (.v 6) (.v 7), .slK 2 0 1 1] [(2, ⟨[.int .i64 (.v 14), .int .i64 (.v 15), .int .i64 (.v 16), .int .i64 (.v 17)], 52⟩)] [(18, .p), (19, .n), (20, .n)] (some (.slO 18 (.k 0) (.v 19) (.v 20))) .turn
(.chk (.le (.k 0) (.v 19))
(.chk (.le (.k 0) (.v 20))
(.back 0 [.p 18 (.k 0), .n (.v 19), .n (.v 20)]))))))
(.ret (.tup [.slO 5 (.k 0) (.v 6) (.v 7), .int .i64 (.k 0)]) []))))
(.ret (.tup [.c (Value.slice none 0 0), .int .i64 (.v 3)]) [])))
theorem x_traceOps (x0 : Option Loc) (x1 : Nat) (x2 : Nat) (M : Nat → Prop) (H0 : Hp) (W0 : World) (R : Ending → World → Prop) (hH : H0.le (hpOf W0)) (h :
 (Cl Try.prog W0 M H0 nK 17 #[vsl x0 x1 x2] fun z W1 W2 => ∃ x3 : Int, z = .returned (vi x3) ∧ Ext W1 W2 ∧
 ((x3 = 0 →
  (∀ b0 : Nat,
  (Cl Try.prog W0 M H0 nK 57 #[vsl x0 x1 x2] fun z W3 W4 => ∃ x4 : Option Loc, z = .returned (Value.func (.func 82) #[] #[Value.pointer (ptrAt x4 0)]) ∧ Fr W3 W4 H0 fun H1 =>
  (∃ (own : Nat → Prop) (N : Nat) (item : Nat → List Value → Hp → Prop) (I0 : List Dat → Nat → Hp → (Nat → Prop) → Prop) (Hi Ha : Hp) (Ta : Nat → Prop), RfIn Try.prog W0 M 82 [Value.pointer (ptrAt x4 0)] H1 own N item I0 [.p none, .n 0, .n 0] Hi Ha Ta ∧
  (∀ (k : Nat) (vals : List Value) (Wr : World) (Mr : Nat → Prop) (Ha : Hp) (Ta : Nat → Prop) (D H2 : Hp), k < N → W0.heap.size ≤ Wr.heap.size → item k vals D → (∀ b, Ta b → Mr b ∧ D b = none) → Ha.le H2 → D.le H2 → ∀ x5 : Option Loc, ∀ x6 : Nat, ∀ x7 : Nat, I0 [.p (x5.map fun a => a.shift 0), .n x6, .n x7] k Ha Ta → ∃ x8 : Int, ∃ x9 : Int, ∃ x10 : Int, ∃ x11 : Int, ∃ x12 : Int, ∃ x13 : Int, ∃ x14 : Int, ∃ x15 : Int, ∃ x16 : Int, ∃ x17 : Int, vals = [vi x8, Value.agg #[vi x9, vi x10, vi x11, vi x12, vi x13, vi x14, vi x15, vi x16, vi x17]] ∧
   (∀ b1 : Nat,
   (∀ b2 : Nat,
   (Es Wr Mr H2 (fun W => Kn Wr Mr H2 W b2 (Obj.cells #[vi x14, vi x15, vi x16, vi x17] 52 (0, 0)) ∧ True) fun W5 => ∃ x18 : Option Loc, ∃ x19 : Nat, ∃ x20 : Nat, Eo Try.prog (.bi .append #[42, 42] 42) [vsl x5 x6 x7, Value.slice (some ⟨b2, 0, none⟩) 1 1] W5 (.value (vsl x18 x19 x20)) fun W6 => Tn Wr Mr H2 W5 W6 fun H3 =>
   (0 ≤ (x19 : Int) ∧ (0 ≤ (x19 : Int) →
   (0 ≤ (x20 : Int) ∧ (0 ≤ (x20 : Int) →
   (∃ (T2 : Nat → Prop) (K2 : Hp), K2.le H3 ∧ I0 [.p (x18.map fun a => a.shift 0), .n x19, .n x20] (k + 1) K2 T2 ∧ (∀ b o, K2 b = some o → (∃ q, Ha b = some q) ∨ (∃ q, D b = some q) ∨ Wr.heap.size ≤ b) ∧ ∀ b, T2 b → (Ta b ∨ Wr.heap.size ≤ b) ∧ (∃ o, K2 b = some o) ∧ D b = none))))))))) ∧
  (∀ (H2 : Hp) (Ta : Nat → Prop), ∀ x5 : Option Loc, ∀ x6 : Nat, ∀ x7 : Nat, I0 [.p (x5.map fun a => a.shift 0), .n x6, .n x7] N H2 Ta →
   Rt R W0 M H2 nK (Value.tuple #[vsl x5 x6 x7, vi 0])))))) ∧
 (¬ (x3 = 0) →
  Rt R W0 M H0 nK (Value.tuple #[Value.slice none 0 0, vi x3]))))) :
  Calls Try.prog 24 #[vsl x0 x1 x2] W0 R :=
  calls_sxA (M := M) (V := v_traceOps) (hi := {loops := [(6, .iter [(false, [.int .i64]), (true, [.int .i64, .int .i64, .int .i64, .int .i64, .int .i64, .int .i64, .int .i64, .int .i64, .int .i64])] [(5, [.pt .sl])])], funs := [(57, 82, 1)]}) (args := [.slO 0 (.k 0) (.v 1) (.v 2)]) (nv := 3) (e := (upd (upd (upd (fun _ => .i 0) 0 (.p x0)) 1 (.n x1)) 2 (.n x2))) Try.func24 hH h (by kernel_rfl) (by kernel_rfl) (by kernel_rfl)
def v_traceOnce : VC :=
(.all 0
(.all 1
(.call 17 [.slO 0 (.k 0) (.v 1) (.v 2)] [] [(5, .i)] (.int .i64 (.v 5)) .same
(.ite (.eq (.v 5) (.k 0))
(.ite (.lt (.v 3) (.k 1))
(.ret (.tup [.int .i64 (.k 0), .int .i64 (.k 3)]) [])
(.ite (.lt (.k 5) (.v 3))
(.ret (.tup [.int .i64 (.k 0), .int .i64 (.k 3)]) [])
(.ite (.lt (.v 4) (.k 1))
(.ret (.tup [.int .i64 (.k 0), .int .i64 (.k 3)]) [])
(.ite (.lt (.k 60) (.v 4))
(.ret (.tup [.int .i64 (.k 0), .int .i64 (.k 3)]) [])
(.all 2
(.call 57 [.slO 0 (.k 0) (.v 1) (.v 2)] [] [(6, .p)] (.func 82 [] [.ptrO 6 (.k 0)]) .fresh
(.rf 82 [.ptrO 6 (.k 0)] [(7, .i)] [.i (.k 0)] [.i (.v 7)] [(8, .i), (9, .i), (10, .i), (11, .i), (12, .i), (13, .i), (14, .i), (15, .i), (16, .i), (17, .i)] [.int .i64 (.v 8), .agg [.int .i64 (.v 9), .int .i64 (.v 10), .int .i64 (.v 11), .int .i64 (.v 12), .int .i64 (.v 13), .int .i64 (.v 14), .int .i64 (.v 15), .int .i64 (.v 16), .int .i64 (.v 17)]]
(.all 3
(.ite (.eq (.v 11) (.v 3))
(.ite (.eq (.v 12) (.v 4))
(.chk (.rng .i64 (.add (.v 7) (.k 1)))
(.back 0 [.i (.add (.v 7) (.k 1))]))
(.back 0 [.i (.v 7)]))
(.back 0 [.i (.v 7)])))
(.ret (.tup [.int .i64 (.v 7), .int .i64 (.k 0)]) []))))))))
(.ret (.tup [.int .i64 (.k 0), .int .i64 (.v 5)]) [])))))
theorem x_traceOnce (x0 : Option Loc) (x1 : Nat) (x2 : Nat) (x3 : Int) (x4 : Int) (M : Nat → Prop) (H0 : Hp) (W0 : World) (R : Ending → World → Prop) (hH : H0.le (hpOf W0)) (h :
 (∀ b0 : Nat,
 (∀ b1 : Nat,
 (Cl Try.prog W0 M H0 nK 17 #[vsl x0 x1 x2] fun z W1 W2 => ∃ x5 : Int, z = .returned (vi x5) ∧ Ext W1 W2 ∧
 ((x5 = 0 →
  ((x3 < 1 →
   Rt R W0 M H0 nK (Value.tuple #[vi 0, vi 3])) ∧
  (¬ (x3 < 1) →
   ((5 < x3 →
    Rt R W0 M H0 nK (Value.tuple #[vi 0, vi 3])) ∧
   (¬ (5 < x3) →
    ((x4 < 1 →
     Rt R W0 M H0 nK (Value.tuple #[vi 0, vi 3])) ∧
    (¬ (x4 < 1) →
     ((60 < x4 →
      Rt R W0 M H0 nK (Value.tuple #[vi 0, vi 3])) ∧
     (¬ (60 < x4) →
      (∀ b2 : Nat,
      (Cl Try.prog W0 M H0 nK 57 #[vsl x0 x1 x2] fun z W3 W4 => ∃ x6 : Option Loc, z = .returned (Value.func (.func 82) #[] #[Value.pointer (ptrAt x6 0)]) ∧ Fr W3 W4 H0 fun H1 =>
      (∃ (own : Nat → Prop) (N : Nat) (item : Nat → List Value → Hp → Prop) (I0 : List Dat → Nat → Hp → (Nat → Prop) → Prop) (Hi Ha : Hp) (Ta : Nat → Prop), RfIn Try.prog W0 M 82 [Value.pointer (ptrAt x6 0)] H1 own N item I0 [.i 0] Hi Ha Ta ∧
      (∀ (k : Nat) (vals : List Value) (Wr : World) (Mr : Nat → Prop) (Ha : Hp) (Ta : Nat → Prop) (D H2 : Hp), k < N → W0.heap.size ≤ Wr.heap.size → item k vals D → (∀ b, Ta b → Mr b ∧ D b = none) → Ha.le H2 → D.le H2 → ∀ x7 : Int, I0 [.i x7] k Ha Ta → ∃ x8 : Int, ∃ x9 : Int, ∃ x10 : Int, ∃ x11 : Int, ∃ x12 : Int, ∃ x13 : Int, ∃ x14 : Int, ∃ x15 : Int, ∃ x16 : Int, ∃ x17 : Int, vals = [vi x8, Value.agg #[vi x9, vi x10, vi x11, vi x12, vi x13, vi x14, vi x15, vi x16, vi x17]] ∧
       (∀ b3 : Nat,
       ((x11 = x3 →
        ((x12 = x4 →
         (inKind .i64 (x7 + 1) ∧ (inKind .i64 (x7 + 1) →
         (∃ (T2 : Nat → Prop) (K2 : Hp), K2.le H2 ∧ I0 [.i (x7 + 1)] (k + 1) K2 T2 ∧ (∀ b o, K2 b = some o → (∃ q, Ha b = some q) ∨ (∃ q, D b = some q) ∨ Wr.heap.size ≤ b) ∧ ∀ b, T2 b → (Ta b ∨ Wr.heap.size ≤ b) ∧ (∃ o, K2 b = some o) ∧ D b = none)))) ∧
        (¬ (x12 = x4) →
         (∃ (T2 : Nat → Prop) (K2 : Hp), K2.le H2 ∧ I0 [.i x7] (k + 1) K2 T2 ∧ (∀ b o, K2 b = some o → (∃ q, Ha b = some q) ∨ (∃ q, D b = some q) ∨ Wr.heap.size ≤ b) ∧ ∀ b, T2 b → (Ta b ∨ Wr.heap.size ≤ b) ∧ (∃ o, K2 b = some o) ∧ D b = none)))) ∧
       (¬ (x11 = x3) →
        (∃ (T2 : Nat → Prop) (K2 : Hp), K2.le H2 ∧ I0 [.i x7] (k + 1) K2 T2 ∧ (∀ b o, K2 b = some o → (∃ q, Ha b = some q) ∨ (∃ q, D b = some q) ∨ Wr.heap.size ≤ b) ∧ ∀ b, T2 b → (Ta b ∨ Wr.heap.size ≤ b) ∧ (∃ o, K2 b = some o) ∧ D b = none))))) ∧
      (∀ (H2 : Hp) (Ta : Nat → Prop), ∀ x7 : Int, I0 [.i x7] N H2 Ta →
       Rt R W0 M H2 nK (Value.tuple #[vi x7, vi 0])))))))))))))) ∧
 (¬ (x5 = 0) →
  Rt R W0 M H0 nK (Value.tuple #[vi 0, vi x5]))))))) :
  Calls Try.prog 30 #[vsl x0 x1 x2, vi x3, vi x4] W0 R :=
  calls_sxA (M := M) (V := v_traceOnce) (hi := {loops := [(8, .iter [(false, [.int .i64]), (true, [.int .i64, .int .i64, .int .i64, .int .i64, .int .i64, .int .i64, .int .i64, .int .i64, .int .i64])] [(9, [.pt (.int .i64)])])], funs := [(57, 82, 1)]}) (args := [.slO 0 (.k 0) (.v 1) (.v 2), .int .i64 (.v 3), .int .i64 (.v 4)]) (nv := 5) (e := (upd (upd (upd (upd (upd (fun _ => .i 0) 0 (.p x0)) 1 (.n x1)) 2 (.n x2)) 3 (.i x3)) 4 (.i x4))) Try.func30 hH h (by kernel_rfl) (by kernel_rfl) (by kernel_rfl)
def v_doneOf : VC :=
(.call 18 [.slO 0 (.k 0) (.v 1) (.v 2)] [] [(3, .i)] (.int .i64 (.v 3)) .same
(.ite (.eq (.v 3) (.k 0))
(.call 47 [.agg [.int .i64 (.k 0), .int .i64 (.k 0), .int .i64 (.k 0), .int .i64 (.k 0), .int .i64 (.k 0), .int .i64 (.k 0), .c (Value.slice none 0 0)], .slO 0 (.k 0) (.v 1) (.v 2)] [] [(4, .i), (5, .i), (6, .i), (7, .i), (8, .i), (9, .i), (10, .p), (11, .n), (12, .n), (13, .p), (14, .n), (15, .n), (16, .p), (17, .n), (18, .n)] (.tup [.agg [.int .i64 (.v 4), .int .i64 (.v 5), .int .i64 (.v 6), .int .i64 (.v 7), .int .i64 (.v 8), .int .i64 (.v 9), .slO 10 (.k 0) (.v 11) (.v 12)], .slO 13 (.k 0) (.v 14) (.v 15), .slO 16 (.k 0) (.v 17) (.v 18)]) .fresh
(.all 0
(.ret (.tup [.slO 16 (.k 0) (.v 17) (.v 18), .int .i64 (.k 0)]) [])))
(.ret (.tup [.c (Value.slice none 0 0), .int .i64 (.v 3)]) [])))
theorem x_doneOf (x0 : Option Loc) (x1 : Nat) (x2 : Nat) (M : Nat → Prop) (H0 : Hp) (W0 : World) (R : Ending → World → Prop) (hH : H0.le (hpOf W0)) (h :
 (Cl Try.prog W0 M H0 nK 18 #[vsl x0 x1 x2] fun z W1 W2 => ∃ x3 : Int, z = .returned (vi x3) ∧ Ext W1 W2 ∧
 ((x3 = 0 →
  (Cl Try.prog W0 M H0 nK 47 #[Value.agg #[vi 0, vi 0, vi 0, vi 0, vi 0, vi 0, Value.slice none 0 0], vsl x0 x1 x2] fun z W3 W4 => ∃ x4 : Int, ∃ x5 : Int, ∃ x6 : Int, ∃ x7 : Int, ∃ x8 : Int, ∃ x9 : Int, ∃ x10 : Option Loc, ∃ x11 : Nat, ∃ x12 : Nat, ∃ x13 : Option Loc, ∃ x14 : Nat, ∃ x15 : Nat, ∃ x16 : Option Loc, ∃ x17 : Nat, ∃ x18 : Nat, z = .returned (Value.tuple #[Value.agg #[vi x4, vi x5, vi x6, vi x7, vi x8, vi x9, vsl x10 x11 x12], vsl x13 x14 x15, vsl x16 x17 x18]) ∧ Fr W3 W4 H0 fun H1 =>
  (∀ b0 : Nat,
  Rt R W0 M H1 nK (Value.tuple #[vsl x16 x17 x18, vi 0])))) ∧
 (¬ (x3 = 0) →
  Rt R W0 M H0 nK (Value.tuple #[Value.slice none 0 0, vi x3]))))) :
  Calls Try.prog 25 #[vsl x0 x1 x2] W0 R :=
  calls_sxA (M := M) (V := v_doneOf) (hi := {}) (args := [.slO 0 (.k 0) (.v 1) (.v 2)]) (nv := 3) (e := (upd (upd (upd (fun _ => .i 0) 0 (.p x0)) 1 (.n x1)) 2 (.n x2))) Try.func25 hH h (by kernel_rfl) (by kernel_rfl) (by kernel_rfl)
def v_opsOf : VC :=
(.call 25 [.slO 0 (.k 0) (.v 1) (.v 2)] [] [(3, .p), (4, .n), (5, .n), (6, .i)] (.tup [.slO 3 (.k 0) (.v 4) (.v 5), .int .i64 (.v 6)]) .fresh
(.ite (.eq (.v 6) (.k 0))
(.loop [(7, .n), (8, .p), (9, .n), (10, .n)] [.n (.k 0), .pn, .n (.k 0), .n (.k 0)] [.n (.v 7), .p 8 (.k 0), .n (.v 9), .n (.v 10)]
(.chk (.le (.k 0) (.v 1))
(.ite (.lt (.v 7) (.v 1))
(.chk (.idx (.v 7) (.v 4))
(.chk (.isp 3)
(.ld 3 (.add (.k 0) (.mul (.v 7) (.k 1))) [.bool (.v 11)] [(11, .b)]
(.ite (.v 11)
(.chk (.idx (.v 7) (.v 1))
(.chk (.isp 0)
(.chk (.le (.k 0) (.add (.k 0) (.mul (.v 7) (.k 9))))
(.ld 0 (.add (.add (.k 0) (.mul (.v 7) (.k 9))) (.k 5)) [.int .i64 (.v 12), .int .i64 (.v 13), .int .i64 (.v 14), .int .i64 (.v 15)] [(12, .i), (13, .i), (14, .i), (15, .i)]
(.all 0
(.esc (.bi .append #[42, 42] 42) [.slO 8 (.k 0) (.v 9) (.v 10), .slK 0 0 1 1] [(0, ⟨[.int .i64 (.v 12), .int .i64 (.v 13), .int .i64 (.v 14), .int .i64 (.v 15)], 52⟩)] [(16, .p), (17, .n), (18, .n)] (some (.slO 16 (.k 0) (.v 17) (.v 18))) .turn
(.chk (.rng .i64 (.add (.v 7) (.k 1)))
(.chk (.le (.k 0) (.add (.v 7) (.k 1)))
(.chk (.le (.k 0) (.v 17))
(.chk (.le (.k 0) (.v 18))
(.back 0 [.n (.add (.v 7) (.k 1)), .p 16 (.k 0), .n (.v 17), .n (.v 18)])))))))))))
(.chk (.rng .i64 (.add (.v 7) (.k 1)))
(.chk (.le (.k 0) (.add (.v 7) (.k 1)))
(.chk (.le (.k 0) (.v 9))
(.chk (.le (.k 0) (.v 10))
(.back 0 [.n (.add (.v 7) (.k 1)), .p 8 (.k 0), .n (.v 9), .n (.v 10)])))))))))
(.ret (.tup [.slO 8 (.k 0) (.v 9) (.v 10), .int .i64 (.k 0)]) []))))
(.ret (.tup [.c (Value.slice none 0 0), .int .i64 (.v 6)]) [])))
theorem x_opsOf (x0 : Option Loc) (x1 : Nat) (x2 : Nat) (M : Nat → Prop) (H0 : Hp) (W0 : World) (R : Ending → World → Prop) (hH : H0.le (hpOf W0)) (h :
 (Cl Try.prog W0 M H0 nK 25 #[vsl x0 x1 x2] fun z W1 W2 => ∃ x3 : Option Loc, ∃ x4 : Nat, ∃ x5 : Nat, ∃ x6 : Int, z = .returned (Value.tuple #[vsl x3 x4 x5, vi x6]) ∧ Fr W1 W2 H0 fun H1 =>
 ((x6 = 0 →
  (∃ (I0 : List Dat → Hp → Prop) (μ0 : List Dat → Nat), I0 [.n 0, .p none, .n 0, .n 0] H1 ∧ ∀ H2 : Hp, ∀ x7 : Nat, ∀ x8 : Option Loc, ∀ x9 : Nat, ∀ x10 : Nat, I0 [.n x7, .p (x8.map fun a => a.shift 0), .n x9, .n x10] H2 →
   (0 ≤ (x1 : Int) ∧ (0 ≤ (x1 : Int) →
   (((x7 : Int) < (x1 : Int) →
    (((0 : Int) ≤ (x7 : Int) ∧ (x7 : Int) < (x4 : Int)) ∧ (((0 : Int) ≤ (x7 : Int) ∧ (x7 : Int) < (x4 : Int)) →
    (x3.isSome = true ∧ (x3.isSome = true →
    (∃ x11 : Bool, RowAt H2 x3 (0 + ((x7 : Int) * 1)) [vb (x11)] ∧
    ((x11 = true →
     (((0 : Int) ≤ (x7 : Int) ∧ (x7 : Int) < (x1 : Int)) ∧ (((0 : Int) ≤ (x7 : Int) ∧ (x7 : Int) < (x1 : Int)) →
     (x0.isSome = true ∧ (x0.isSome = true →
     (0 ≤ (0 + ((x7 : Int) * 9)) ∧ (0 ≤ (0 + ((x7 : Int) * 9)) →
     (∃ x12 : Int, ∃ x13 : Int, ∃ x14 : Int, ∃ x15 : Int, RowAt H2 x0 ((0 + ((x7 : Int) * 9)) + 5) [vi x12, vi x13, vi x14, vi x15] ∧
     (∀ b0 : Nat,
     (Es W0 M H2 (fun W => Kn W0 M H2 W b0 (Obj.cells #[vi x12, vi x13, vi x14, vi x15] 52 (0, 0)) ∧ True) fun W3 => ∃ x16 : Option Loc, ∃ x17 : Nat, ∃ x18 : Nat, Eo Try.prog (.bi .append #[42, 42] 42) [vsl x8 x9 x10, Value.slice (some ⟨b0, 0, none⟩) 1 1] W3 (.value (vsl x16 x17 x18)) fun W4 => Tn W0 M H2 W3 W4 fun H3 =>
     (inKind .i64 ((x7 : Int) + 1) ∧ (inKind .i64 ((x7 : Int) + 1) →
     (0 ≤ ((x7 : Int) + 1) ∧ (0 ≤ ((x7 : Int) + 1) →
     (0 ≤ (x17 : Int) ∧ (0 ≤ (x17 : Int) →
     (0 ≤ (x18 : Int) ∧ (0 ≤ (x18 : Int) →
     (I0 [.n (((x7 : Int) + 1) : Int).toNat, .p (x16.map fun a => a.shift 0), .n x17, .n x18] H3 ∧ μ0 [.n (((x7 : Int) + 1) : Int).toNat, .p (x16.map fun a => a.shift 0), .n x17, .n x18] < μ0 [.n x7, .p (x8.map fun a => a.shift 0), .n x9, .n x10]))))))))))))))))))) ∧
    (¬ (x11 = true) →
     (inKind .i64 ((x7 : Int) + 1) ∧ (inKind .i64 ((x7 : Int) + 1) →
     (0 ≤ ((x7 : Int) + 1) ∧ (0 ≤ ((x7 : Int) + 1) →
     (0 ≤ (x9 : Int) ∧ (0 ≤ (x9 : Int) →
     (0 ≤ (x10 : Int) ∧ (0 ≤ (x10 : Int) →
     (I0 [.n (((x7 : Int) + 1) : Int).toNat, .p (x8.map fun a => a.shift 0), .n x9, .n x10] H2 ∧ μ0 [.n (((x7 : Int) + 1) : Int).toNat, .p (x8.map fun a => a.shift 0), .n x9, .n x10] < μ0 [.n x7, .p (x8.map fun a => a.shift 0), .n x9, .n x10]))))))))))))))))) ∧
   (¬ ((x7 : Int) < (x1 : Int)) →
    Rt R W0 M H2 nK (Value.tuple #[vsl x8 x9 x10, vi 0]))))))) ∧
 (¬ (x6 = 0) →
  Rt R W0 M H1 nK (Value.tuple #[Value.slice none 0 0, vi x6]))))) :
  Calls Try.prog 26 #[vsl x0 x1 x2] W0 R :=
  calls_sxA (M := M) (V := v_opsOf) (hi := {loops := [(6, .inv [(7, .nat), (6, .pt .sl)] [])]}) (args := [.slO 0 (.k 0) (.v 1) (.v 2)]) (nv := 3) (e := (upd (upd (upd (fun _ => .i 0) 0 (.p x0)) 1 (.n x1)) 2 (.n x2))) Try.func26 hH h (by kernel_rfl) (by kernel_rfl) (by kernel_rfl)
def v_onceOf : VC :=
(.call 25 [.slO 0 (.k 0) (.v 1) (.v 2)] [] [(5, .p), (6, .n), (7, .n), (8, .i)] (.tup [.slO 5 (.k 0) (.v 6) (.v 7), .int .i64 (.v 8)]) .fresh
(.ite (.eq (.v 8) (.k 0))
(.call 59 [.int .i64 (.v 3), .int .i64 (.k 1), .int .i64 (.k 5)] [] [(9, .b)] (.bool (.v 9)) .same
(.ite (.v 9)
(.call 59 [.int .i64 (.v 4), .int .i64 (.k 1), .int .i64 (.k 60)] [] [(10, .b)] (.bool (.v 10)) .same
(.ite (.v 10)
(.loop [(11, .n), (12, .i)] [.n (.k 0), .i (.k 0)] [.n (.v 11), .i (.v 12)]
(.chk (.le (.k 0) (.v 1))
(.ite (.lt (.v 11) (.v 1))
(.chk (.idx (.v 11) (.v 6))
(.chk (.isp 5)
(.ld 5 (.add (.k 0) (.mul (.v 11) (.k 1))) [.bool (.v 13)] [(13, .b)]
(.ite (.v 13)
(.chk (.idx (.v 11) (.v 1))
(.chk (.isp 0)
(.chk (.le (.k 0) (.add (.k 0) (.mul (.v 11) (.k 9))))
(.ld 0 (.add (.add (.k 0) (.mul (.v 11) (.k 9))) (.k 2)) [.int .i64 (.v 14)] [(14, .i)]
(.ite (.eq (.v 14) (.v 3))
(.ld 0 (.add (.add (.k 0) (.mul (.v 11) (.k 9))) (.k 3)) [.int .i64 (.v 15)] [(15, .i)]
(.ite (.eq (.v 15) (.v 4))
(.chk (.rng .i64 (.add (.v 12) (.k 1)))
(.chk (.rng .i64 (.add (.v 11) (.k 1)))
(.chk (.le (.k 0) (.add (.v 11) (.k 1)))
(.back 0 [.n (.add (.v 11) (.k 1)), .i (.add (.v 12) (.k 1))]))))
(.chk (.rng .i64 (.add (.v 11) (.k 1)))
(.chk (.le (.k 0) (.add (.v 11) (.k 1)))
(.back 0 [.n (.add (.v 11) (.k 1)), .i (.v 12)])))))
(.chk (.rng .i64 (.add (.v 11) (.k 1)))
(.chk (.le (.k 0) (.add (.v 11) (.k 1)))
(.back 0 [.n (.add (.v 11) (.k 1)), .i (.v 12)]))))))))
(.chk (.rng .i64 (.add (.v 11) (.k 1)))
(.chk (.le (.k 0) (.add (.v 11) (.k 1)))
(.back 0 [.n (.add (.v 11) (.k 1)), .i (.v 12)])))))))
(.ret (.tup [.int .i64 (.v 12), .int .i64 (.k 0)]) []))))
(.ret (.tup [.int .i64 (.k 0), .int .i64 (.k 3)]) [])))
(.ret (.tup [.int .i64 (.k 0), .int .i64 (.k 3)]) [])))
(.ret (.tup [.int .i64 (.k 0), .int .i64 (.v 8)]) [])))
theorem x_onceOf (x0 : Option Loc) (x1 : Nat) (x2 : Nat) (x3 : Int) (x4 : Int) (M : Nat → Prop) (H0 : Hp) (W0 : World) (R : Ending → World → Prop) (hH : H0.le (hpOf W0)) (h :
 (Cl Try.prog W0 M H0 nK 25 #[vsl x0 x1 x2] fun z W1 W2 => ∃ x5 : Option Loc, ∃ x6 : Nat, ∃ x7 : Nat, ∃ x8 : Int, z = .returned (Value.tuple #[vsl x5 x6 x7, vi x8]) ∧ Fr W1 W2 H0 fun H1 =>
 ((x8 = 0 →
  (Cl Try.prog W0 M H1 nK 59 #[vi x3, vi 1, vi 5] fun z W3 W4 => ∃ x9 : Bool, z = .returned (vb (x9)) ∧ Ext W3 W4 ∧
  ((x9 = true →
   (Cl Try.prog W0 M H1 nK 59 #[vi x4, vi 1, vi 60] fun z W5 W6 => ∃ x10 : Bool, z = .returned (vb (x10)) ∧ Ext W5 W6 ∧
   ((x10 = true →
    (∃ (I0 : List Dat → Hp → Prop) (μ0 : List Dat → Nat), I0 [.n 0, .i 0] H1 ∧ ∀ H2 : Hp, ∀ x11 : Nat, ∀ x12 : Int, I0 [.n x11, .i x12] H2 →
     (0 ≤ (x1 : Int) ∧ (0 ≤ (x1 : Int) →
     (((x11 : Int) < (x1 : Int) →
      (((0 : Int) ≤ (x11 : Int) ∧ (x11 : Int) < (x6 : Int)) ∧ (((0 : Int) ≤ (x11 : Int) ∧ (x11 : Int) < (x6 : Int)) →
      (x5.isSome = true ∧ (x5.isSome = true →
      (∃ x13 : Bool, RowAt H2 x5 (0 + ((x11 : Int) * 1)) [vb (x13)] ∧
      ((x13 = true →
       (((0 : Int) ≤ (x11 : Int) ∧ (x11 : Int) < (x1 : Int)) ∧ (((0 : Int) ≤ (x11 : Int) ∧ (x11 : Int) < (x1 : Int)) →
       (x0.isSome = true ∧ (x0.isSome = true →
       (0 ≤ (0 + ((x11 : Int) * 9)) ∧ (0 ≤ (0 + ((x11 : Int) * 9)) →
       (∃ x14 : Int, RowAt H2 x0 ((0 + ((x11 : Int) * 9)) + 2) [vi x14] ∧
       ((x14 = x3 →
        (∃ x15 : Int, RowAt H2 x0 ((0 + ((x11 : Int) * 9)) + 3) [vi x15] ∧
        ((x15 = x4 →
         (inKind .i64 (x12 + 1) ∧ (inKind .i64 (x12 + 1) →
         (inKind .i64 ((x11 : Int) + 1) ∧ (inKind .i64 ((x11 : Int) + 1) →
         (0 ≤ ((x11 : Int) + 1) ∧ (0 ≤ ((x11 : Int) + 1) →
         (I0 [.n (((x11 : Int) + 1) : Int).toNat, .i (x12 + 1)] H2 ∧ μ0 [.n (((x11 : Int) + 1) : Int).toNat, .i (x12 + 1)] < μ0 [.n x11, .i x12])))))))) ∧
        (¬ (x15 = x4) →
         (inKind .i64 ((x11 : Int) + 1) ∧ (inKind .i64 ((x11 : Int) + 1) →
         (0 ≤ ((x11 : Int) + 1) ∧ (0 ≤ ((x11 : Int) + 1) →
         (I0 [.n (((x11 : Int) + 1) : Int).toNat, .i x12] H2 ∧ μ0 [.n (((x11 : Int) + 1) : Int).toNat, .i x12] < μ0 [.n x11, .i x12]))))))))) ∧
       (¬ (x14 = x3) →
        (inKind .i64 ((x11 : Int) + 1) ∧ (inKind .i64 ((x11 : Int) + 1) →
        (0 ≤ ((x11 : Int) + 1) ∧ (0 ≤ ((x11 : Int) + 1) →
        (I0 [.n (((x11 : Int) + 1) : Int).toNat, .i x12] H2 ∧ μ0 [.n (((x11 : Int) + 1) : Int).toNat, .i x12] < μ0 [.n x11, .i x12]))))))))))))))) ∧
      (¬ (x13 = true) →
       (inKind .i64 ((x11 : Int) + 1) ∧ (inKind .i64 ((x11 : Int) + 1) →
       (0 ≤ ((x11 : Int) + 1) ∧ (0 ≤ ((x11 : Int) + 1) →
       (I0 [.n (((x11 : Int) + 1) : Int).toNat, .i x12] H2 ∧ μ0 [.n (((x11 : Int) + 1) : Int).toNat, .i x12] < μ0 [.n x11, .i x12]))))))))))))) ∧
     (¬ ((x11 : Int) < (x1 : Int)) →
      Rt R W0 M H2 nK (Value.tuple #[vi x12, vi 0]))))))) ∧
   (¬ (x10 = true) →
    Rt R W0 M H1 nK (Value.tuple #[vi 0, vi 3]))))) ∧
  (¬ (x9 = true) →
   Rt R W0 M H1 nK (Value.tuple #[vi 0, vi 3]))))) ∧
 (¬ (x8 = 0) →
  Rt R W0 M H1 nK (Value.tuple #[vi 0, vi x8]))))) :
  Calls Try.prog 31 #[vsl x0 x1 x2, vi x3, vi x4] W0 R :=
  calls_sxA (M := M) (V := v_onceOf) (hi := {loops := [(8, .inv [(11, .nat), (10, .pt (.int .i64))] [])]}) (args := [.slO 0 (.k 0) (.v 1) (.v 2), .int .i64 (.v 3), .int .i64 (.v 4)]) (nv := 5) (e := (upd (upd (upd (upd (upd (fun _ => .i 0) 0 (.p x0)) 1 (.n x1)) 2 (.n x2)) 3 (.i x3)) 4 (.i x4))) Try.func31 hH h (by kernel_rfl) (by kernel_rfl) (by kernel_rfl)
def v_sameBools : VC :=
(.chk (.le (.k 0) (.v 1))
(.chk (.le (.k 0) (.v 4))
(.ite (.eq (.v 1) (.v 4))
(.loop [(6, .n)] [.n (.k 0)] [.n (.v 6)]
(.ite (.lt (.v 6) (.v 1))
(.chk (.idx (.v 6) (.v 1))
(.chk (.isp 0)
(.ld 0 (.add (.k 0) (.mul (.v 6) (.k 1))) [.bool (.v 7)] [(7, .b)]
(.chk (.idx (.v 6) (.v 4))
(.chk (.isp 3)
(.ld 3 (.add (.k 0) (.mul (.v 6) (.k 1))) [.bool (.v 8)] [(8, .b)]
(.esc (.bop .neq 4 (.tmp 20) (.tmp 24)) [.bool (.v 7), .bool (.v 8)] [] [(9, .b)] (some (.bool (.v 9))) .same
(.ite (.v 9)
(.ret (.bool (.k false)) [])
(.chk (.rng .i64 (.add (.v 6) (.k 1)))
(.chk (.le (.k 0) (.add (.v 6) (.k 1)))
(.back 0 [.n (.add (.v 6) (.k 1))])))))))))))
(.ret (.bool (.k true)) [])))
(.ret (.bool (.k false)) []))))
theorem x_sameBools (x0 : Option Loc) (x1 : Nat) (x2 : Nat) (x3 : Option Loc) (x4 : Nat) (x5 : Nat) (M : Nat → Prop) (H0 : Hp) (W0 : World) (R : Ending → World → Prop) (hH : H0.le (hpOf W0)) (h :
 (0 ≤ (x1 : Int) ∧ (0 ≤ (x1 : Int) →
 (0 ≤ (x4 : Int) ∧ (0 ≤ (x4 : Int) →
 (((x1 : Int) = (x4 : Int) →
  (∃ (I0 : List Dat → Hp → Prop) (μ0 : List Dat → Nat), I0 [.n 0] H0 ∧ ∀ H1 : Hp, ∀ x6 : Nat, I0 [.n x6] H1 →
   (((x6 : Int) < (x1 : Int) →
    (((0 : Int) ≤ (x6 : Int) ∧ (x6 : Int) < (x1 : Int)) ∧ (((0 : Int) ≤ (x6 : Int) ∧ (x6 : Int) < (x1 : Int)) →
    (x0.isSome = true ∧ (x0.isSome = true →
    (∃ x7 : Bool, RowAt H1 x0 (0 + ((x6 : Int) * 1)) [vb (x7)] ∧
    (((0 : Int) ≤ (x6 : Int) ∧ (x6 : Int) < (x4 : Int)) ∧ (((0 : Int) ≤ (x6 : Int) ∧ (x6 : Int) < (x4 : Int)) →
    (x3.isSome = true ∧ (x3.isSome = true →
    (∃ x8 : Bool, RowAt H1 x3 (0 + ((x6 : Int) * 1)) [vb (x8)] ∧
    (Es W0 M H1 nK fun W1 => ∃ x9 : Bool, Eo Try.prog (.bop .neq 4 (.tmp 20) (.tmp 24)) [vb (x7), vb (x8)] W1 (.value (vb (x9))) fun W2 => Ext W1 W2 ∧
    ((x9 = true →
     Rt R W0 M H1 nK (vb (false))) ∧
    (¬ (x9 = true) →
     (inKind .i64 ((x6 : Int) + 1) ∧ (inKind .i64 ((x6 : Int) + 1) →
     (0 ≤ ((x6 : Int) + 1) ∧ (0 ≤ ((x6 : Int) + 1) →
     (I0 [.n (((x6 : Int) + 1) : Int).toNat] H1 ∧ μ0 [.n (((x6 : Int) + 1) : Int).toNat] < μ0 [.n x6]))))))))))))))))))) ∧
   (¬ ((x6 : Int) < (x1 : Int)) →
    Rt R W0 M H1 nK (vb (true)))))) ∧
 (¬ ((x1 : Int) = (x4 : Int)) →
  Rt R W0 M H0 nK (vb (false))))))))) :
  Calls Try.prog 28 #[vsl x0 x1 x2, vsl x3 x4 x5] W0 R :=
  calls_sxA (M := M) (V := v_sameBools) (hi := {loops := [(4, .inv [(5, .nat)] [])]}) (args := [.slO 0 (.k 0) (.v 1) (.v 2), .slO 3 (.k 0) (.v 4) (.v 5)]) (nv := 6) (e := (upd (upd (upd (upd (upd (upd (fun _ => .i 0) 0 (.p x0)) 1 (.n x1)) 2 (.n x2)) 3 (.p x3)) 4 (.n x4)) 5 (.n x5))) Try.func28 hH h (by kernel_rfl) (by kernel_rfl) (by kernel_rfl)
def v_sameOps : VC :=
(.chk (.le (.k 0) (.v 1))
(.chk (.le (.k 0) (.v 4))
(.ite (.eq (.v 1) (.v 4))
(.loop [(6, .n)] [.n (.k 0)] [.n (.v 6)]
(.ite (.lt (.v 6) (.v 1))
(.chk (.idx (.v 6) (.v 1))
(.chk (.isp 0)
(.ld 0 (.add (.k 0) (.mul (.v 6) (.k 4))) [.int .i64 (.v 7), .int .i64 (.v 8), .int .i64 (.v 9), .int .i64 (.v 10)] [(7, .i), (8, .i), (9, .i), (10, .i)]
(.chk (.idx (.v 6) (.v 4))
(.chk (.isp 3)
(.ld 3 (.add (.k 0) (.mul (.v 6) (.k 4))) [.int .i64 (.v 11), .int .i64 (.v 12), .int .i64 (.v 13), .int .i64 (.v 14)] [(11, .i), (12, .i), (13, .i), (14, .i)]
(.esc (.bop .neq 52 (.tmp 20) (.tmp 24)) [.agg [.int .i64 (.v 7), .int .i64 (.v 8), .int .i64 (.v 9), .int .i64 (.v 10)], .agg [.int .i64 (.v 11), .int .i64 (.v 12), .int .i64 (.v 13), .int .i64 (.v 14)]] [] [(15, .b)] (some (.bool (.v 15))) .same
(.ite (.v 15)
(.ret (.bool (.k false)) [])
(.chk (.rng .i64 (.add (.v 6) (.k 1)))
(.chk (.le (.k 0) (.add (.v 6) (.k 1)))
(.back 0 [.n (.add (.v 6) (.k 1))])))))))))))
(.ret (.bool (.k true)) [])))
(.ret (.bool (.k false)) []))))
theorem x_sameOps (x0 : Option Loc) (x1 : Nat) (x2 : Nat) (x3 : Option Loc) (x4 : Nat) (x5 : Nat) (M : Nat → Prop) (H0 : Hp) (W0 : World) (R : Ending → World → Prop) (hH : H0.le (hpOf W0)) (h :
 (0 ≤ (x1 : Int) ∧ (0 ≤ (x1 : Int) →
 (0 ≤ (x4 : Int) ∧ (0 ≤ (x4 : Int) →
 (((x1 : Int) = (x4 : Int) →
  (∃ (I0 : List Dat → Hp → Prop) (μ0 : List Dat → Nat), I0 [.n 0] H0 ∧ ∀ H1 : Hp, ∀ x6 : Nat, I0 [.n x6] H1 →
   (((x6 : Int) < (x1 : Int) →
    (((0 : Int) ≤ (x6 : Int) ∧ (x6 : Int) < (x1 : Int)) ∧ (((0 : Int) ≤ (x6 : Int) ∧ (x6 : Int) < (x1 : Int)) →
    (x0.isSome = true ∧ (x0.isSome = true →
    (∃ x7 : Int, ∃ x8 : Int, ∃ x9 : Int, ∃ x10 : Int, RowAt H1 x0 (0 + ((x6 : Int) * 4)) [vi x7, vi x8, vi x9, vi x10] ∧
    (((0 : Int) ≤ (x6 : Int) ∧ (x6 : Int) < (x4 : Int)) ∧ (((0 : Int) ≤ (x6 : Int) ∧ (x6 : Int) < (x4 : Int)) →
    (x3.isSome = true ∧ (x3.isSome = true →
    (∃ x11 : Int, ∃ x12 : Int, ∃ x13 : Int, ∃ x14 : Int, RowAt H1 x3 (0 + ((x6 : Int) * 4)) [vi x11, vi x12, vi x13, vi x14] ∧
    (Es W0 M H1 nK fun W1 => ∃ x15 : Bool, Eo Try.prog (.bop .neq 52 (.tmp 20) (.tmp 24)) [Value.agg #[vi x7, vi x8, vi x9, vi x10], Value.agg #[vi x11, vi x12, vi x13, vi x14]] W1 (.value (vb (x15))) fun W2 => Ext W1 W2 ∧
    ((x15 = true →
     Rt R W0 M H1 nK (vb (false))) ∧
    (¬ (x15 = true) →
     (inKind .i64 ((x6 : Int) + 1) ∧ (inKind .i64 ((x6 : Int) + 1) →
     (0 ≤ ((x6 : Int) + 1) ∧ (0 ≤ ((x6 : Int) + 1) →
     (I0 [.n (((x6 : Int) + 1) : Int).toNat] H1 ∧ μ0 [.n (((x6 : Int) + 1) : Int).toNat] < μ0 [.n x6]))))))))))))))))))) ∧
   (¬ ((x6 : Int) < (x1 : Int)) →
    Rt R W0 M H1 nK (vb (true)))))) ∧
 (¬ ((x1 : Int) = (x4 : Int)) →
  Rt R W0 M H0 nK (vb (false))))))))) :
  Calls Try.prog 29 #[vsl x0 x1 x2, vsl x3 x4 x5] W0 R :=
  calls_sxA (M := M) (V := v_sameOps) (hi := {loops := [(4, .inv [(5, .nat)] [])]}) (args := [.slO 0 (.k 0) (.v 1) (.v 2), .slO 3 (.k 0) (.v 4) (.v 5)]) (nv := 6) (e := (upd (upd (upd (upd (upd (upd (fun _ => .i 0) 0 (.p x0)) 1 (.n x1)) 2 (.n x2)) 3 (.p x3)) 4 (.n x4)) 5 (.n x5))) Try.func29 hH h (by kernel_rfl) (by kernel_rfl) (by kernel_rfl)
end Go.Proofs.Ytdihdcielchodaa
namespace Go.Proofs.Ytdihdcielchodaa
open Go.RowKit
def ThoseIt (l : List Ent) (k : Nat) (vals : List Value) (_ : Hp) : Prop := ∃ (i : Nat) (e : Ent), (picks 0 (doneL l))[k]? = some i ∧ l[i]? = some e ∧ vals = [vi (i : Int), e.val]
theorem doneL_at {l : List Ent} {k : Nat} {e : Ent} (h : l[k]? = some e) : (doneL l)[k]? = some ((foldS Sta.zero (l.take k)).apply e).2.2 := by
  have hlt := (List.getElem?_eq_some_iff.1 h).1
  have h1 : doneL l = foldB Sta.zero (l.take (k + 1)) ++ foldB (foldS Sta.zero (l.take (k + 1))) (l.drop (k + 1)) := by rw [← foldB_append, List.take_append_drop]; rfl
  rw [h1, foldB_at h, List.append_assoc, List.getElem?_append_right (by rw [foldB_len, List.length_take]; omega), foldB_len, List.length_take, Nat.min_eq_left (by omega), Nat.sub_self]
  rfl
theorem noH_cells : noH.cells = noH := rfl
theorem c_those (q : Option Loc) (m d : Nat) (H : Hp) : Gf Try.prog 57 #[vsl q m d] H fun v D => ∃ b : Nat, v = .func (.func 82) #[] #[.pointer (ptrAt (some (b, 0)) 0)] ∧ D b = some (.cells #[vsl q m d] 26 (0, 0)) := fun W hH => by
  refine x_those q m d noM H W _ hH fun b0 => ?_
  exact Rt.one (b := b0) (fun W k => k.1) fun D hD => ⟨b0, rfl, hD⟩
theorem it_those {Hi : Hp} {x1 q : Option Loc} {m d : Nat} {l : List Ent} (hl : ∀ e ∈ l, EntOk e) (hp : l.length ≤ 50) (hx1 : RowAt Hi x1 0 [vsl q m d]) (hE : Ents Hi q m d l) :
    Iter Try.prog 82 [.pointer (ptrAt x1 0)] Hi (fun _ => False) (picks 0 (doneL l)).length (ThoseIt l) := by
  intro yl J hround W HJ FT hHi hHJ hJ0 _ hFT
  have hm := hE.len
  have hMF : ∀ b, FT b → Hi b = none := fun b hb => (hFT b hb).1
  refine x_those1 yl x1 (fun b => False ∨ FT b) (both2 Hi HJ) W _ (both2_le hHi hHJ) fun b0 => ⟨q, m, d, hx1.mono (both2_l _ _), ?_⟩
  refine Cl.same (c_begin _) fun _ _ hx => ⟨_, _, _, _, _, _, none, 0, 0, rfl, Fr.none hx fun H1 h1 => ?_⟩
  refine Cl.fresh (c_steps Sta.zero none 0 0 q m d H1) ?_
  rintro v W3 W4 D2 ⟨a0, a1, rfl, hne, e0, e1⟩ hx2 hD2 hf2 nn2
  refine ⟨some (a1, 0), some (a0, 0), rfl, hx2, D2, hD2, hf2, fun H2 h12 hd2 => ?_⟩
  have hi1 : Hi.le H1 := Hp.le_trans (both2_l _ _) h1
  have hj1 : HJ.le H1 := Hp.le_trans (both2_r hHi hHJ) h1
  have hdj : D2.le (both2 Hi D2) := fun j o hj => by
    unfold both2
    rw [old_none (Hp.le_trans hi1 nn2.sub) (hf2 j o hj)]; exact hj
  have hb2 : (both2 Hi D2).le H2 := fun j o hj => by
    unfold both2 at hj
    split at hj
    · rename_i o' ho'
      simp only [Option.some.injEq] at hj; subst hj; exact h12 j _ (hi1 j _ ho')
    · exact hd2 j o hj
  have hsz := nn2.mod.size
  refine ⟨fun k => k = a0, l.length, StepIt Sta.zero l a0, fun v k K T => match v with
      | [] => ∃ HJ', J (picks 0 ((doneL l).take k)).length HJ' T ∧ Hp.le HJ' K ∧ Hi.le K ∧ ∀ b, T b → (∃ o, HJ' b = some o) ∧ Hi b = none
      | _ => False, both2 Hi D2, both2 Hi HJ, FT, ⟨?_, hb2, Hp.le_trans h1 h12, fun b hb => ?_, fun b hb => ?_, ?_⟩, ?_, ?_⟩
  · exact it_of (n := 0) (c := 0) (p := none) zero_ok hl (show (0 : Int) + (l.length : Int) ≤ 50 by omega) hE (Tab.nil _ _) (Hp.le_trans hi1 nn2.sub) hf2 hne e0 e1 (both2_l _ _) hdj
  · subst hb
    refine ⟨?_, ⟨_, hdj _ _ e0⟩, .inl (Nat.le_trans hsz (hf2 b _ e0))⟩
    cases hh : both2 Hi HJ b with
    | none => rfl
    | some o => have h3 := heap_lt (nn2.sub b o (h1 b o hh)); have h4 := hf2 b _ e0; omega
  · obtain ⟨f1, o, f2⟩ := hFT b hb
    refine ⟨?_, ⟨o, both2_r hHi hHJ b o f2⟩, .inr (.inr hb)⟩
    unfold both2
    rw [f1]
    cases hh : D2 b with
    | none => rfl
    | some o' => have h3 := heap_lt (hHJ b o f2); have h4 := hf2 b o' hh; omega
  · exact ⟨HJ, hJ0, both2_r hHi hHJ, both2_l _ _, fun b hb => ⟨(hFT b hb).2, (hFT b hb).1⟩⟩
  · intro k vals Wr Mr Ha Ta D H3 hk hsz3 ⟨hfD, e, pt, nt, ct, he, hv, hTt⟩ hTa hHa hDa ⟨HJ', hJ, hJa, hia, hF⟩
    have hat := doneL_at he
    refine ⟨_, _, _, _, _, _, _, pt, nt, ct, _, _, hv, fun b1 => ⟨fun hd => ?_, fun hd => ?_⟩⟩
    · rw [hd] at hat
      have hget := picks_get hat
      have hlt := (List.getElem?_eq_some_iff.1 hget).1
      obtain ⟨e', he', hrow, _⟩ := (hE.mono (Hp.le_trans hia hHa)).at (k := k) (by omega)
      rw [he, Option.some.injEq] at he'
      subst he'
      refine ⟨q, m, d, hx1.mono (Hp.le_trans hia hHa), ⟨by omega, by omega⟩, fun _ => ⟨hrow.isSome, fun _ => ⟨_, _, _, _, _, _, _, _, _, hrow, ?_⟩⟩⟩
      intro V nV _
      refine yl_round (J := J ((picks 0 ((doneL l).take k)).length + 1)) (HJ := HJ') (FT := Ta) (D := noH) (B := Hi) nV (hround _ HJ' Ta V _ noH hlt hJ (Hp.le_trans (Hp.le_trans hJa hHa) nV.sub) ⟨k, e, hget, he, rfl⟩ (noH_le _) noH_cells (fun _ _ => rfl)) (Hp.le_trans hJa hHa) (noH_le _) (Hp.le_trans hia hHa) (fun b hb => ⟨(hF b hb).1, .inr (hTa b hb).1, (hF b hb).2⟩) ?_
      intro V' HJ2 FT2 K2 hJ2 hJK2 hBK2 hF2 hJn2 hV
      classical
      obtain ⟨K4, hK4a, hK4b⟩ : ∃ K4 : Hp, (∀ j, ((∃ o, HJ2 j = some o) ∨ ∃ o, Hi j = some o) → K4 j = K2 j) ∧ ∀ j, ¬ ((∃ o, HJ2 j = some o) ∨ ∃ o, Hi j = some o) → K4 j = none :=
        ⟨fun j => if (∃ o, HJ2 j = some o) ∨ ∃ o, Hi j = some o then K2 j else none, fun j h => if_pos h, fun j h => if_neg h⟩
      refine ⟨FT2, K4, fun j o hj => ?_, ⟨HJ2, ?_, fun j o hj => ?_, fun j o hj => ?_, fun j hj => ⟨(hF2 j hj).2.2, ?_⟩⟩, fun j o hj => ?_, fun j hj => ⟨?_, ?_, ?_⟩⟩
      · by_cases h : (∃ o, HJ2 j = some o) ∨ ∃ o, Hi j = some o
        · rw [hK4a j h] at hj; exact hj
        · rw [hK4b j h] at hj; cases hj
      · rw [picks_at hat, if_pos rfl, List.length_append]; exact hJ2
      · rw [hK4a j (.inl ⟨o, hj⟩)]; exact hJK2 j o hj
      · rw [hK4a j (.inr ⟨o, hj⟩)]; exact hBK2 j o hj
      · rcases (hF2 j hj).1 with h | h
        · exact (hF j h).2
        · exact old_none (Hp.le_trans (Hp.le_trans hia hHa) nV.sub) h
      · by_cases h : (∃ o, HJ2 j = some o) ∨ ∃ o, Hi j = some o
        · rcases h with ⟨o', h⟩ | ⟨o', h⟩
          · by_cases h5 : V.heap.size ≤ j
            · exact .inr (.inr (Nat.le_trans nV.mod.size h5))
            · cases h6 : HJ' j with
              | none => rw [hJn2 j h6 rfl (by omega)] at h; cases h
              | some o'' => exact .inl ⟨o'', hJa j o'' h6⟩
          · exact .inl ⟨o', hia j o' h⟩
        · rw [hK4b j h] at hj; cases hj
      · exact (hF2 j hj).1.imp id (fun h => Nat.le_trans nV.mod.size h)
      · obtain ⟨o, ho⟩ := (hF2 j hj).2.2
        exact ⟨o, by rw [hK4a j (.inl ⟨o, ho⟩)]; exact hJK2 j o ho⟩
      · rcases (hF2 j hj).1 with h | h
        · exact (hTa j h).2
        · exact old_none (Hp.le_trans hDa nV.sub) h
    · have hd' : ((foldS Sta.zero (l.take k)).apply e).2.2 = false := by simpa using hd
      rw [hd'] at hat
      refine ⟨Ta, Ha, hHa, ⟨HJ', ?_, hJa, hia, hF⟩, fun j o hj => .inl ⟨o, hj⟩, fun j hj => ⟨.inl hj, ?_, (hTa j hj).2⟩⟩
      · rw [picks_at hat, if_neg (by simp), List.append_nil]; exact hJ
      · obtain ⟨o, ho⟩ := (hF j hj).1
        exact ⟨o, hJa j o ho⟩
  · intro H3 Ta ⟨HJ', hJ, hJa, hia, hF⟩
    rw [List.take_of_length_le (by rw [doneL_len]; exact Nat.le_refl _)] at hJ
    exact fun W' n' _ => ⟨⟨_, rfl⟩, HJ', Ta, hJ, Hp.le_trans hJa n'.sub, n'.mod⟩
end Go.Proofs.Ytdihdcielchodaa
namespace Go.Proofs.Ytdihdcielchodaa
open Go.RowKit
set_option maxRecDepth 100000
def orow (x : POp) : List Value := [vi x.kind, vi x.key, vi x.to, vi x.n]
def Ops (H : Hp) (p : Option Loc) (n c : Nat) (l : List POp) : Prop := n ≤ c ∧ c ≤ maxLen ∧ Rows H p n 4 (l.map orow)
theorem Ops.of_ow {H : Hp} {p : Option Loc} {n c : Nat} {l : List POp} {g : Option Nat} (h : Ow H 52 4 p n c (l.map orow) g) : Ops H p n c l := ⟨h.2.2.1, h.2.2.2.1, h.rows⟩
theorem Ops.mono {H K : Hp} {p : Option Loc} {n c : Nat} {l : List POp} (h : Ops H p n c l) (hk : H.le K) : Ops K p n c l := ⟨h.1, h.2.1, h.2.2.mono hk⟩
theorem Ops.len {H : Hp} {p : Option Loc} {n c : Nat} {l : List POp} (h : Ops H p n c l) : n = l.length := by simpa using h.2.2.len
theorem Ops.at {H : Hp} {p : Option Loc} {n c : Nat} {l : List POp} (h : Ops H p n c l) {k : Nat} (hk : k < n) : ∃ x : POp, l[k]? = some x ∧ RowAt H p (0 + (k : Int) * 4) [vi x.kind, vi x.key, vi x.to, vi x.n] := by
  obtain ⟨row, h1, _, h3⟩ := h.2.2.at hk (off := 0 + (k : Int) * 4) (by omega)
  rw [List.getElem?_map, Option.map_eq_some_iff] at h1
  obtain ⟨x, hx, rfl⟩ := h1
  exact ⟨x, hx, h3⟩
theorem Ops.nil (H : Hp) (p : Option Loc) : Ops H p 0 0 [] := ⟨Nat.le_refl _, by simp [maxLen], Rows.nil _ _ _⟩
theorem Bools.nil (H : Hp) (p : Option Loc) : Bools H p 0 0 [] := ⟨Nat.le_refl _, by simp [maxLen], Rows.nil _ _ _⟩
theorem infoOp : infoIs Try.prog 52 4 32 = true := by kernel_rfl
theorem ones_o (x : POp) : ∀ v ∈ orow x, v.oneCell' = true := fun v hv => by
  simp only [orow, List.mem_cons, List.not_mem_nil, or_false] at hv
  rcases hv with rfl | rfl | rfl | rfl <;> rfl
def DonePost (r : List Bool × Int) (v : Value) (D : Hp) : Prop := ∃ p n c, v = .tuple #[vsl p n c, vi r.2] ∧ Bools D p n c r.1
def OpsPost (r : List POp × Int) (v : Value) (D : Hp) : Prop := ∃ p n c, v = .tuple #[vsl p n c, vi r.2] ∧ Ops D p n c r.1
section
variable {H : Hp} {p q : Option Loc} {n c m d : Nat} {l : List Ent}
theorem tDone_bad (h : entsErr l ≠ 0) : tDone l = ([], entsErr l) := if_pos h
theorem tDone_ok (h : entsErr l = 0) : tDone l = (doneL l, 0) := if_neg (by omega)
theorem tOps_bad (h : entsErr l ≠ 0) : tOps l = ([], entsErr l) := if_pos h
theorem tOps_ok (h : entsErr l = 0) : tOps l = (opsAt l (picks 0 (doneL l)), 0) := if_neg (by omega)
theorem tOnce_bad {x y : Int} (h : entsErr l ≠ 0) : tOnce l x y = (0, entsErr l) := if_pos h
theorem tOnce_rng {x y : Int} (h : entsErr l = 0) (h1 : x < 1 ∨ 5 < x ∨ y < 1 ∨ 60 < y) : tOnce l x y = (0, 3) := by unfold tOnce; rw [if_neg (by omega), if_pos h1]
theorem tOnce_ok {x y : Int} (h : entsErr l = 0) (h1 : ¬ (x < 1 ∨ 5 < x ∨ y < 1 ∨ 60 < y)) : tOnce l x y = (((manyAt l x y (picks 0 (doneL l)) : Nat) : Int), 0) := by unfold tOnce; rw [if_neg (by omega), if_neg h1]
theorem seg1 (x y : Value) : segRow [x] 0 [y] = [y] := rfl
theorem c_traceDone (hE : Ents H q m d l) : Gf Try.prog 23 #[vsl q m d] H (DonePost (tDone l)) := fun W hH => by
  have hm := hE.len
  refine x_traceDone q m d noM H W _ hH ?_
  refine Cl.same (c_foldCheck hE) fun _ _ hx => ⟨_, rfl, hx, fun h0 => ⟨by omega, fun _ => ?_⟩, fun h0 => Rt.gfn (by rw [tDone_bad h0]; exact ⟨none, 0, 0, rfl, Bools.nil _ _⟩)⟩
  obtain ⟨h50, hl⟩ := entsErr_ok.1 h0
  rw [tDone_ok h0]
  intro W3 n3 _
  obtain ⟨ti, z, i1, i2, i3, i4, i5, i6⟩ := info_of infoBool
  obtain ⟨W4, hr, hx, D, hD, hf, g, hO, hg⟩ := ek_make1 (P := Try.prog) (z := vb false) Try.underlying39 (by kernel_rfl) i1 (by omega) rfl (n := m) (by omega) W3
  refine ⟨_, m, m, W4, hr, hx, D, hD, hf, fun H1 h1 hd1 b0 => ?_⟩
  refine Cl.fresh (c_those q m d H1) ?_
  rintro v W5 W6 D2 ⟨b, rfl, hb⟩ hx2 hD2 hf2 nn2
  refine ⟨some (b, 0), rfl, hx2, D2, hD2, hf2, fun H2 h2 hd2 => ⟨by omega, fun _ => ⟨by omega, fun _ => ?_⟩⟩⟩
  have hgW : ∀ j, g = some j → W.heap.size ≤ j := fun j hj => Nat.le_trans n3.mod.size (hg j hj)
  have hdj : D2.le (both2 H D2) := fun j o hj => by
    unfold both2
    rw [old_none (Hp.le_trans h1 nn2.sub) (hf2 j o hj)]; exact hj
  refine ⟨fun _ => False, (picks 0 (doneL l)).length, ThoseIt l, fun v k K T => match v with
      | [.p pb, .n nb, .n cb] => nb = m ∧ ∃ g, Ow K 4 1 pb m cb ((marked m ((picks 0 (doneL l)).take k)).map brow) g ∧ ∀ b, g = some b → W.heap.size ≤ b ∧ T b
      | _ => False, both2 H D2, D, fun j => g = some j, ⟨it_those hl h50 ⟨b, 0, rfl, _, _, _, hdj b _ hb, fun j hj => ?_⟩ (hE.mono (both2_l _ _)), fun j o hj => ?_, Hp.le_trans hd1 h2, fun j hj => hj.elim, fun j hj => ?_, ?_⟩, ?_, ?_⟩
  · simp only [List.length_singleton] at hj
    obtain rfl : j = 0 := by omega
    rfl
  · unfold both2 at hj
    split at hj
    · rename_i o' ho'
      simp only [Option.some.injEq] at hj; subst hj; exact h2 j _ (h1 j _ ho')
    · exact hd2 j o hj
  · have hlt := hO.lt (Hp.le_trans hd1 nn2.sub) j hj
    refine ⟨?_, hO.held j hj, .inl (hgW j hj)⟩
    unfold both2
    rw [old_none hH (hgW j hj)]
    cases hh : D2 j with
    | none => rfl
    | some o => have := hf2 j o hh; omega
  · rw [map0]
    refine ⟨rfl, g, ?_, fun j hj => ⟨hgW j hj, hj⟩⟩
    rw [List.take_zero, marked_none, List.map_replicate]
    exact hO
  · intro k vals Wr Mr Ha Ta D3 H3 hk hsz3 ⟨i, e, hget, he, hv⟩ hTa hHa hDa pb nb cb hI
    rw [map0] at hI
    obtain ⟨hnb, g3, hO3, hg3⟩ := hI
    subst nb
    have him := (List.getElem?_eq_some_iff.1 he).1
    have hO4 := hO3.mono fun b _ o h => hHa b o h
    obtain ⟨row, hrow, _, hat⟩ := hO4.rows.at (k := i) (by omega) (off := 0 + (i : Int) * 1) (by omega)
    refine ⟨_, _, _, _, _, _, _, _, _, _, hv, ⟨by omega, by omega⟩, fun _ => ⟨hat.isSome, fun _ => ?_⟩⟩
    intro W7 n7 _
    have hrow' := hrow
    rw [List.getElem?_map, Option.map_eq_some_iff] at hrow'
    obtain ⟨bx, _, rfl⟩ := hrow'
    obtain ⟨W8, H4, hrun, hu, hO5⟩ := ek_store (P := Try.prog) (t := 4) i1 n7.sub hO4 (i := i) (j := 0) (vs := [vb true]) (v := vb true) hrow rfl i3 (by simp) (by simp) (fun u hu => by simp only [List.mem_singleton] at hu; subst hu; rfl) (off := 0 + (i : Int) * 1) (by omega)
    refine ⟨W8, hrun, H4, hu.own hO4 (fun b hb => .inr (hTa b (hg3 b hb).2).1), by omega, fun _ => ⟨by omega, fun _ => ?_⟩⟩
    classical
    obtain ⟨K2, hKg, hKd⟩ : ∃ K2 : Hp, (∀ j, g3 = some j → K2 j = H4 j) ∧ ∀ j, g3 ≠ some j → K2 j = none := ⟨fun j => if g3 = some j then H4 j else none, fun j h => if_pos h, fun j h => if_neg h⟩
    refine ⟨fun b => g3 = some b, K2, fun j o hj => ?_, ?_, fun j o hj => ?_, fun j hj => ⟨.inl (hg3 j hj).2, ?_, (hTa j (hg3 j hj).2).2⟩⟩
    · by_cases h : g3 = some j
      · rw [hKg j h] at hj; exact hj
      · rw [hKd j h] at hj; cases hj
    · rw [map0]
      refine ⟨rfl, g3, ?_, fun j hj => ⟨(hg3 j hj).1, hj⟩⟩
      rw [take_at hget, ← marked_set (by omega), List.map_set]
      exact hO5.mono fun j hj o ho => by rw [hKg j hj]; exact ho
    · by_cases h : g3 = some j
      · exact .inl (hO3.held j h)
      · rw [hKd j h] at hj; cases hj
    · obtain ⟨o, ho⟩ := hO5.held j hj
      exact ⟨o, by rw [hKg j hj]; exact ho⟩
  · intro H3 Ta pb nb cb hI
    rw [map0] at hI
    obtain ⟨rfl, g3, hO3, hg3⟩ := hI
    rw [List.take_length, hm, ← doneL_len, marked_all] at hO3
    refine Rt.gfn ⟨pb, _, cb, rfl, ?_⟩
    rw [hm, ← doneL_len]
    exact Bools.of_ow (hO3.new fun b hb => (hg3 b hb).1)
theorem opsAt_le (is : List Nat) : (opsAt l is).length ≤ is.length := List.length_filterMap_le _ _
theorem c_traceOps (hE : Ents H q m d l) : Gf Try.prog 24 #[vsl q m d] H (OpsPost (tOps l)) := fun W hH => by
  have hm := hE.len
  refine x_traceOps q m d noM H W _ hH ?_
  refine Cl.same (c_foldCheck hE) fun _ _ hx => ⟨_, rfl, hx, fun h0 b0 => ?_, fun h0 => Rt.gfn (by rw [tOps_bad h0]; exact ⟨none, 0, 0, rfl, Ops.nil _ _⟩)⟩
  obtain ⟨h50, hl⟩ := entsErr_ok.1 h0
  rw [tOps_ok h0]
  refine Cl.fresh (c_those q m d H) ?_
  rintro v W5 W6 D2 ⟨b, rfl, hb⟩ hx2 hD2 hf2 nn2
  refine ⟨some (b, 0), rfl, hx2, D2, hD2, hf2, fun H2 h2 hd2 => ?_⟩
  have hpl := picks_len (doneL l) 0
  rw [doneL_len] at hpl
  refine ⟨fun _ => False, (picks 0 (doneL l)).length, ThoseIt l, fun v k K T => match v with
      | [.p pb, .n nb, .n cb] => ∃ g, Ow K 52 4 pb nb cb ((opsAt l ((picks 0 (doneL l)).take k)).map orow) g ∧ ∀ b, g = some b → W.heap.size ≤ b ∧ T b
      | _ => False, H2, noH, noT, ⟨it_those hl h50 ⟨b, 0, rfl, _, _, _, hd2 b _ hb, fun j hj => ?_⟩ (hE.mono h2), Hp.le_refl _, noH_le _, fun j hj => hj.elim, fun j hj => hj.elim, ?_⟩, ?_, ?_⟩
  · simp only [List.length_singleton] at hj
    obtain rfl : j = 0 := by omega
    rfl
  · exact ⟨none, Ow.nil _ _ _ _, fun b h => by cases h⟩
  · intro k vals Wr Mr Ha Ta D3 H3 hk hsz3 ⟨i, e, hget, he, hv⟩ hTa hHa hDa pb nb cb hI
    rw [map0] at hI
    obtain ⟨g3, hO3, hg3⟩ := hI
    have hO4 := hO3.mono fun b _ o h => hHa b o h
    have hnb : nb ≤ 50 := by
      have h1 := hO3.1
      rw [List.length_map] at h1
      have h2 := opsAt_le (l := l) ((picks 0 (doneL l)).take k)
      rw [List.length_take] at h2
      omega
    refine ⟨_, _, _, _, _, _, _, _, _, _, hv, fun b1 b2 => ?_⟩
    intro W7 n7 k7
    obtain ⟨r1, y1, g1, W8, H4, run1, hu1, oa4, hg1, _⟩ := run_append1 (P := Try.prog) Try.underlying42 infoOp (by omega) n7.sub hO4 (row := orow e.op) k7.1.eq k7.1.off rfl (ones_o e.op) (by simp only [maxLen]; omega) (by omega) 42
    refine ⟨r1, nb + 1, y1, W8, run1, H4, hu1.own hO4 (fun b hb => .inr (hTa b (hg3 b hb).2).1), by omega, fun _ => ⟨by omega, fun _ => ?_⟩⟩
    have hDg : ∀ b, g1 = some b → D3 b = none := fun b hb => by
      rcases hg1 with h | h
      · exact (hTa b (hg3 b (h ▸ hb)).2).2
      · rw [h] at hb; simp only [Option.some.injEq] at hb; exact old_none (Hp.le_trans hDa n7.sub) (by omega)
    have hnew : ∀ b, g1 = some b → (g3 = some b) ∨ Wr.heap.size ≤ b := fun b hb => by
      rcases hg1 with h | h
      · exact .inl (h ▸ hb)
      · rw [h] at hb; simp only [Option.some.injEq] at hb; have := n7.mod.size; exact .inr (by omega)
    classical
    obtain ⟨K2, hKg, hKd⟩ : ∃ K2 : Hp, (∀ j, g1 = some j → K2 j = H4 j) ∧ ∀ j, g1 ≠ some j → K2 j = none := ⟨fun j => if g1 = some j then H4 j else none, fun j h => if_pos h, fun j h => if_neg h⟩
    refine ⟨fun b => g1 = some b, K2, fun j o hj => ?_, ?_, fun j o hj => ?_, fun j hj => ⟨?_, ?_, hDg j hj⟩⟩
    · by_cases h : g1 = some j
      · rw [hKg j h] at hj; exact hj
      · rw [hKd j h] at hj; cases hj
    · rw [map0]
      refine ⟨g1, ?_, fun j hj => ⟨?_, hj⟩⟩
      · rw [take_at hget, opsAt_snoc he, List.map_append]
        exact oa4.mono fun j hj o ho => by rw [hKg j hj]; exact ho
      · rcases hnew j hj with h | h
        · exact (hg3 j h).1
        · omega
    · by_cases h : g1 = some j
      · rcases hnew j h with h | h
        · exact .inl (hO3.held j h)
        · exact .inr (.inr h)
      · rw [hKd j h] at hj; cases hj
    · rcases hnew j hj with h | h
      · exact .inl (hg3 j h).2
      · exact .inr h
    · obtain ⟨o, ho⟩ := oa4.held j hj
      exact ⟨o, by rw [hKg j hj]; exact ho⟩
  · intro H3 Ta pb nb cb hI
    rw [map0] at hI
    obtain ⟨g3, hO3, hg3⟩ := hI
    rw [List.take_length] at hO3
    exact Rt.gfn ⟨pb, _, cb, rfl, Ops.of_ow (hO3.new fun b hb => (hg3 b hb).1)⟩
theorem c_traceOnce (hE : Ents H q m d l) (x y : Int) : Gv Try.prog 30 #[vsl q m d, vi x, vi y] H (.tuple #[vi (tOnce l x y).1, vi (tOnce l x y).2]) := fun W hH => by
  have hm := hE.len
  refine x_traceOnce q m d x y noM H W _ hH fun b0 b1 => ?_
  refine Cl.same (c_foldCheck hE) fun _ _ hx => ⟨_, rfl, hx, fun h0 => ?_, fun h0 => Rt.gv' (by rw [tOnce_bad h0])⟩
  refine ⟨fun h1 => Rt.gv' (by rw [tOnce_rng h0 (by omega)]), fun h1 => ⟨fun h2 => Rt.gv' (by rw [tOnce_rng h0 (by omega)]), fun h2 => ⟨fun h3 => Rt.gv' (by rw [tOnce_rng h0 (by omega)]), fun h3 => ⟨fun h4 => Rt.gv' (by rw [tOnce_rng h0 (by omega)]), fun h4 b2 => ?_⟩⟩⟩⟩
  rw [tOnce_ok h0 (by omega)]
  obtain ⟨h50, hl⟩ := entsErr_ok.1 h0
  refine Cl.fresh (c_those q m d H) ?_
  rintro v W5 W6 D2 ⟨b, rfl, hb⟩ hx2 hD2 hf2 nn2
  refine ⟨some (b, 0), rfl, hx2, D2, hD2, hf2, fun H2 hh2 hd2 => ?_⟩
  have hpl := picks_len (doneL l) 0
  rw [doneL_len] at hpl
  refine ⟨fun _ => False, (picks 0 (doneL l)).length, ThoseIt l, fun v k K T => match v with
      | [.i z] => z = ((manyAt l x y ((picks 0 (doneL l)).take k) : Nat) : Int)
      | _ => False, H2, noH, noT, ⟨it_those hl h50 ⟨b, 0, rfl, _, _, _, hd2 b _ hb, fun j hj => ?_⟩ (hE.mono hh2), Hp.le_refl _, noH_le _, fun j hj => hj.elim, fun j hj => hj.elim, ?_⟩, ?_, ?_⟩
  · simp only [List.length_singleton] at hj
    obtain rfl : j = 0 := by omega
    rfl
  · rfl
  · intro k vals Wr Mr Ha Ta D3 H3 hk hsz3 ⟨i, e, hget, he, hv⟩ hTa hHa hDa z hI
    have hI : z = ((manyAt l x y ((picks 0 (doneL l)).take k) : Nat) : Int) := hI
    have hle := manyAt_le l x y ((picks 0 (doneL l)).take k)
    rw [List.length_take] at hle
    have hs : manyAt l x y ((picks 0 (doneL l)).take (k + 1)) = manyAt l x y ((picks 0 (doneL l)).take k) + if e.client = x ∧ e.seq = y then 1 else 0 := by rw [take_at hget, manyAt_snoc he]
    refine ⟨_, _, _, _, _, _, _, _, _, _, hv, fun b3 => ⟨fun g1 => ⟨fun g2 => ⟨in64 (by omega), fun _ => ⟨noT, noH, noH_le _, ?_, fun j o hj => (by cases hj), fun j hj => hj.elim⟩⟩, fun g2 => ⟨noT, noH, noH_le _, ?_, fun j o hj => (by cases hj), fun j hj => hj.elim⟩⟩, fun g1 => ⟨noT, noH, noH_le _, ?_, fun j o hj => (by cases hj), fun j hj => hj.elim⟩⟩⟩
    · show z + 1 = _
      rw [hs, if_pos ⟨g1, g2⟩]; omega
    · show z = _
      rw [hs, if_neg (fun h => g2 h.2)]; omega
    · show z = _
      rw [hs, if_neg (fun h => g1 h.1)]; omega
  · intro H3 Ta z hI
    have hI : z = ((manyAt l x y ((picks 0 (doneL l)).take (picks 0 (doneL l)).length) : Nat) : Int) := hI
    rw [List.take_length] at hI
    exact Rt.gv' (by rw [hI])
/-! the document -/
theorem zero_val : Sta.zero.val (vsl none 0 0) = .agg #[vi 0, vi 0, vi 0, vi 0, vi 0, vi 0, Value.slice none 0 0] := rfl
theorem c_doneOf (hE : Ents H q m d l) : Gf Try.prog 25 #[vsl q m d] H (DonePost (tDone l)) := fun W hH => by
  refine x_doneOf q m d noM H W _ hH ?_
  refine Cl.same (c_listErr hE) fun _ _ hx => ⟨_, rfl, hx, fun h0 => ?_, fun h0 => Rt.gfn (by rw [tDone_bad h0]; exact ⟨none, 0, 0, rfl, Bools.nil _ _⟩)⟩
  obtain ⟨h50, hl⟩ := entsErr_ok.1 h0
  rw [tDone_ok h0]
  have hp : Sta.zero.pos + (l.length : Int) ≤ 50 := by show (0 : Int) + _ ≤ 50; omega
  have hc := c_folded (s := Sta.zero) (p := none) (n := 0) (c := 0) (Tab.nil H none) zero_ok hE hl hp
  rw [zero_val] at hc
  refine Cl.fresh hc ?_
  rintro v W1 W2 D ⟨p1, n1, c1, pa, ca, ga, pb, cb, gb, hv, _, _, hb⟩ hx hD hf nn
  unfold doneL
  generalize foldS Sta.zero l = fs at hv
  subst hv
  refine ⟨_, _, _, _, _, _, p1, n1, c1, pa, _, ca, pb, _, cb, rfl, hx, D, hD, hf, fun H1 h1 hd1 b2 => Rt.gfn ⟨pb, _, cb, rfl, ?_⟩⟩
  exact (Bools.of_ow hb).mono (le_newer hd1 (fun b o h => Nat.le_trans nn.mod.size (hf b o h)))
theorem c_opsOf (hE : Ents H q m d l) : Gf Try.prog 26 #[vsl q m d] H (OpsPost (tOps l)) := fun W hH => by
  have hm := hE.len
  have h63 := hE.lt63
  refine x_opsOf q m d noM H W _ hH ?_
  refine Cl.fresh (c_doneOf hE) ?_
  rintro v W1 W2 D ⟨pb, nb, cb, rfl, hB⟩ hx hD hf nn
  refine ⟨pb, nb, cb, _, rfl, hx, D, hD, hf, fun H1 h1 hd1 => ⟨fun h0 => ?_, fun h0 => Rt.gfn ?_⟩⟩
  · have h00 : entsErr l = 0 := by
      by_cases hh : entsErr l = 0
      · exact hh
      · rw [tDone_bad hh] at h0; exact h0
    obtain ⟨h50, hl⟩ := entsErr_ok.1 h00
    rw [tDone_ok h00] at hB
    rw [tOps_ok h00]
    have hnb := hB.len
    rw [doneL_len] at hnb
    have hB1 := hB.mono hd1
    refine ⟨fun v K => match v with
        | [.n j, .p po, .n no, .n co] => j ≤ m ∧ H1.le K ∧ ∃ g, Ow K 52 4 po no co ((opsAt l (picks 0 ((doneL l).take j))).map orow) g ∧ ∀ b, g = some b → W.heap.size ≤ b ∧ H1 b = none
        | _ => False, fun v => match v with | [.n j, _, _, _] => m - j | _ => 0, ⟨by omega, Hp.le_refl _, none, Ow.nil _ _ _ _, fun b h => by cases h⟩, ?_⟩
    intro K j po no co hI
    rw [map0] at hI
    obtain ⟨hj, hle, g3, hO3, hg3⟩ := hI
    have ht : ((j : Int) + 1).toNat = j + 1 := by omega
    have hno : no ≤ 50 := by
      have h1 := hO3.1
      rw [List.length_map] at h1
      have h2 := opsAt_le (l := l) (picks 0 ((doneL l).take j))
      have h3 := picks_len ((doneL l).take j) 0
      rw [List.length_take] at h3
      omega
    refine ⟨by omega, fun _ => ⟨fun hlt => ⟨⟨by omega, by omega⟩, fun _ => ?_⟩, fun hge => ?_⟩⟩
    · obtain ⟨bx, hbx0, hat⟩ := (hB1.mono hle).at (k := j) (by omega)
      have hbx : (doneL l)[j]? = some bx := hbx0
      obtain ⟨e, he, hrow, _⟩ := (((hE.mono h1).mono hle)).at (k := j) (by omega)
      refine ⟨hat.isSome, fun _ => ⟨bx, hat, fun hd => ⟨⟨by omega, hlt⟩, fun _ => ⟨hrow.isSome, fun _ => ⟨by omega, fun _ => ⟨e.op.kind, e.op.key, e.op.to, e.op.n, ?_, fun b1 => ?_⟩⟩⟩⟩, fun hd => ?_⟩⟩
      · have h2 : RowAt K q (0 + (j : Int) * 9) ([vi e.kind, vi e.time, vi e.client, vi e.seq, vi e.ack] ++ [vi e.op.kind, vi e.op.key, vi e.op.to, vi e.op.n]) := hrow
        obtain ⟨b, o, r1, C, T, fz, r2, r3⟩ := h2
        refine ⟨b, o, r1, C, T, fz, r2, fun i hi => ?_⟩
        simp only [List.length_cons, List.length_nil] at hi
        have := r3 (5 + i) (by simp; omega)
        rw [List.getElem?_append_right (by simp)] at this
        simp only [List.length_cons, List.length_nil] at this
        rw [show 5 + i - (0 + 1 + 1 + 1 + 1 + 1) = i by omega] at this
        rw [← this]
        congr 1
        omega
      · subst hd
        intro W7 n7 k7
        obtain ⟨r1, y1, g1, W8, H4, run1, hu1, oa4, hg1, _⟩ := run_append1 (P := Try.prog) Try.underlying42 infoOp (by omega) n7.sub hO3 (row := orow e.op) k7.1.eq k7.1.off rfl (ones_o e.op) (by simp only [maxLen]; omega) (by omega) 42
        refine ⟨r1, no + 1, y1, W8, run1, H4, hu1.own hO3 (fun b hb => .inl (hg3 b hb).1), in64 (by omega), fun _ => ⟨by omega, fun _ => ⟨by omega, fun _ => ⟨by omega, fun _ => ?_⟩⟩⟩⟩
        rw [map0, ht]
        refine ⟨⟨by omega, hu1.keep n7.sub hle (fun b hb => (hg3 b hb).2), g1, ?_, fun b hb => ?_⟩, by simp only; omega⟩
        · rw [picks_at hbx, if_pos rfl, opsAt_snoc he, List.map_append]; exact oa4
        · rcases hg1 with h | h
          · exact hg3 b (h ▸ hb)
          · rw [h] at hb; simp only [Option.some.injEq] at hb
            exact ⟨by have := n7.mod.size; omega, old_none (Hp.le_trans hle n7.sub) (by omega)⟩
      · have hd' : bx = false := by simpa using hd
        subst hd'
        refine ⟨in64 (by omega), fun _ => ⟨by omega, fun _ => ⟨by omega, fun _ => ⟨by omega, fun _ => ?_⟩⟩⟩⟩
        rw [map0, ht]
        refine ⟨⟨by omega, hle, g3, ?_, hg3⟩, by simp only; omega⟩
        rw [picks_at hbx, if_neg (by simp), List.append_nil]; exact hO3
    · rw [List.take_of_length_le (by rw [doneL_len]; omega)] at hO3
      exact Rt.gfn ⟨po, _, co, rfl, Ops.of_ow (hO3.new fun b hb => (hg3 b hb).1)⟩
  · have h00 : entsErr l ≠ 0 := fun hh => by rw [tDone_ok hh] at h0; exact h0 rfl
    rw [tDone_bad h00, tOps_bad h00]
    exact ⟨none, 0, 0, rfl, Ops.nil _ _⟩
theorem c_onceOf (hE : Ents H q m d l) (x y : Int) : Gv Try.prog 31 #[vsl q m d, vi x, vi y] H (.tuple #[vi (tOnce l x y).1, vi (tOnce l x y).2]) := fun W hH => by
  have hm := hE.len
  have h63 := hE.lt63
  refine x_onceOf q m d x y noM H W _ hH ?_
  refine Cl.fresh (c_doneOf hE) ?_
  rintro v W1 W2 D ⟨pb, nb, cb, rfl, hB⟩ hx hD hf nn
  refine ⟨pb, nb, cb, _, rfl, hx, D, hD, hf, fun H1 h1 hd1 => ⟨fun h0 => ?_, fun h0 => Rt.gv' ?_⟩⟩
  · have h00 : entsErr l = 0 := by
      by_cases hh : entsErr l = 0
      · exact hh
      · rw [tDone_bad hh] at h0; exact h0
    obtain ⟨h50, hl⟩ := entsErr_ok.1 h00
    rw [tDone_ok h00] at hB
    have hnb := hB.len
    rw [doneL_len] at hnb
    have hB1 := hB.mono hd1
    refine Cl.same (c_within x 1 5 H1) fun _ _ hx => ⟨_, rfl, hx, fun g1 => ?_, fun g1 => Rt.gv' (by rw [tOnce_rng h00 (by simp [inR] at g1; omega)])⟩
    refine Cl.same (c_within y 1 60 H1) fun _ _ hx => ⟨_, rfl, hx, fun g2 => ?_, fun g2 => Rt.gv' (by rw [tOnce_rng h00 (by simp [inR] at g2; omega)])⟩
    rw [tOnce_ok h00 (by simp [inR] at g1 g2; omega)]
    refine ⟨fun v K => match v with
        | [.n j, .i z] => j ≤ m ∧ H1.le K ∧ z = ((manyAt l x y (picks 0 ((doneL l).take j)) : Nat) : Int)
        | _ => False, fun v => match v with | [.n j, _] => m - j | _ => 0, ⟨by omega, Hp.le_refl _, rfl⟩, ?_⟩
    rintro K j z ⟨hj, hle, hz0⟩
    have hz : z = ((manyAt l x y (picks 0 ((doneL l).take j)) : Nat) : Int) := hz0
    have ht : ((j : Int) + 1).toNat = j + 1 := by omega
    have hml : manyAt l x y (picks 0 ((doneL l).take j)) ≤ 50 := by
      have h2 := manyAt_le l x y (picks 0 ((doneL l).take j))
      have h3 := picks_len ((doneL l).take j) 0
      rw [List.length_take] at h3
      omega
    refine ⟨by omega, fun _ => ⟨fun hlt => ⟨⟨by omega, by omega⟩, fun _ => ?_⟩, fun hge => ?_⟩⟩
    · obtain ⟨bx, hbx0, hat⟩ := (hB1.mono hle).at (k := j) (by omega)
      have hbx : (doneL l)[j]? = some bx := hbx0
      obtain ⟨e, he, hrow, _⟩ := (((hE.mono h1).mono hle)).at (k := j) (by omega)
      have hcl := hrow.sub (by omega) (j := 2) (v := vi e.client) rfl (off' := (0 + (j : Int) * 9) + 2) (by omega)
      have hsq := hrow.sub (by omega) (j := 3) (v := vi e.seq) rfl (off' := (0 + (j : Int) * 9) + 3) (by omega)
      refine ⟨hat.isSome, fun _ => ⟨bx, hat, fun hd => ⟨⟨by omega, hlt⟩, fun _ => ⟨hrow.isSome, fun _ => ⟨by omega, fun _ => ⟨_, hcl, fun q1 => ⟨_, hsq, fun q2 => ⟨in64 (by omega), fun _ => ⟨in64 (by omega), fun _ => ⟨by omega, fun _ => ?_⟩⟩⟩, fun q2 => ⟨in64 (by omega), fun _ => ⟨by omega, fun _ => ?_⟩⟩⟩, fun q1 => ⟨in64 (by omega), fun _ => ⟨by omega, fun _ => ?_⟩⟩⟩⟩⟩⟩, fun hd => ⟨in64 (by omega), fun _ => ⟨by omega, fun _ => ?_⟩⟩⟩⟩
      · subst hd
        rw [ht]
        refine ⟨⟨by omega, hle, ?_⟩, by simp only; omega⟩
        rw [picks_at hbx, if_pos rfl, manyAt_snoc he, if_pos ⟨q1, q2⟩]; omega
      · subst hd
        rw [ht]
        refine ⟨⟨by omega, hle, ?_⟩, by simp only; omega⟩
        rw [picks_at hbx, if_pos rfl, manyAt_snoc he, if_neg (fun h => q2 h.2)]; omega
      · subst hd
        rw [ht]
        refine ⟨⟨by omega, hle, ?_⟩, by simp only; omega⟩
        rw [picks_at hbx, if_pos rfl, manyAt_snoc he, if_neg (fun h => q1 h.1)]; omega
      · have hd' : bx = false := by simpa using hd
        subst hd'
        rw [ht]
        refine ⟨⟨by omega, hle, ?_⟩, by simp only; omega⟩
        rw [picks_at hbx, if_neg (by simp), List.append_nil]; exact hz
    · rw [List.take_of_length_le (by rw [doneL_len]; omega)] at hz
      exact Rt.gv' (by rw [hz])
  · have h00 : entsErr l ≠ 0 := fun hh => by rw [tDone_ok hh] at h0; exact h0 rfl
    rw [tDone_bad h00, tOnce_bad h00]
theorem c_sameBools {p' : Option Loc} {n' c' : Nat} {b b' : List Bool} (hE : Bools H p n c b) (hE' : Bools H p' n' c' b') : Gv Try.prog 28 #[vsl p n c, vsl p' n' c'] H (vb (decide (b = b'))) := fun W hH => by
  have hn := hE.len
  have hn' := hE'.len
  have h63 : (n : Int) ≤ 9223372036854775807 := by have := hE.1; have := hE.2.1; simp only [maxLen] at this; omega
  refine x_sameBools p n c p' n' c' noM H W _ hH ⟨by omega, fun _ => ⟨by omega, fun _ => ⟨fun h1 => ?_, fun h1 => Rt.gv' (by rw [decide_eq_false (fun h => h1 (by rw [hn, hn', h]))])⟩⟩⟩
  refine ⟨fun v K => match v with | [.n j] => j ≤ n ∧ H.le K ∧ (b.drop j = b'.drop j ↔ b = b') | _ => False, fun v => match v with | [.n j] => n - j | _ => 0, ⟨by omega, Hp.le_refl H, by simp⟩, fun K j hI => ?_⟩
  obtain ⟨hj, hle, hf⟩ := hI
  have ht : ((j : Int) + 1).toNat = j + 1 := by omega
  refine ⟨fun hlt => ⟨⟨by omega, hlt⟩, fun _ => ?_⟩, fun hge => Rt.gv' ?_⟩
  · obtain ⟨r, hr, hat⟩ := (hE.mono hle).at (k := j) (by omega)
    obtain ⟨r', hr', hat'⟩ := (hE'.mono hle).at (k := j) (by omega)
    rw [drop_cons hr, drop_cons hr', List.cons.injEq] at hf
    refine ⟨hat.isSome, fun _ => ⟨_, hat, ⟨by omega, by omega⟩, fun _ => ⟨hat'.isSome, fun _ => ⟨_, hat', fun W1 n1 _ => ?_⟩⟩⟩⟩
    refine ⟨_, _, ek_ne_bool _ _ r r' W1, Ext.refl _, fun h0 => Rt.gv' ?_, fun h0 => ⟨in64 (by omega), fun _ => ⟨by omega, fun _ => ?_⟩⟩⟩
    · rw [decide_eq_false]
      intro hh
      have := (hf.2 hh).1
      simp [this] at h0
    · rw [ht]
      refine ⟨⟨by omega, hle, ?_⟩, by simp only; omega⟩
      rw [← hf]
      have h2 : r = r' := by simpa using h0
      exact ⟨fun h => ⟨h2, h⟩, fun h => h.2⟩
  · rw [decide_eq_true (hf.1 (by rw [List.drop_of_length_le (by omega), List.drop_of_length_le (by omega)]))]
theorem c_sameOps {p' : Option Loc} {n' c' : Nat} {b b' : List POp} (hE : Ops H p n c b) (hE' : Ops H p' n' c' b') : Gv Try.prog 29 #[vsl p n c, vsl p' n' c'] H (vb (decide (b = b'))) := fun W hH => by
  have hn := hE.len
  have hn' := hE'.len
  have h63 : (n : Int) ≤ 9223372036854775807 := by have := hE.1; have := hE.2.1; simp only [maxLen] at this; omega
  refine x_sameOps p n c p' n' c' noM H W _ hH ⟨by omega, fun _ => ⟨by omega, fun _ => ⟨fun h1 => ?_, fun h1 => Rt.gv' (by rw [decide_eq_false (fun h => h1 (by rw [hn, hn', h]))])⟩⟩⟩
  refine ⟨fun v K => match v with | [.n j] => j ≤ n ∧ H.le K ∧ (b.drop j = b'.drop j ↔ b = b') | _ => False, fun v => match v with | [.n j] => n - j | _ => 0, ⟨by omega, Hp.le_refl H, by simp⟩, fun K j hI => ?_⟩
  obtain ⟨hj, hle, hf⟩ := hI
  have ht : ((j : Int) + 1).toNat = j + 1 := by omega
  refine ⟨fun hlt => ⟨⟨by omega, hlt⟩, fun _ => ?_⟩, fun hge => Rt.gv' ?_⟩
  · obtain ⟨r, hr, hat⟩ := (hE.mono hle).at (k := j) (by omega)
    obtain ⟨r', hr', hat'⟩ := (hE'.mono hle).at (k := j) (by omega)
    rw [drop_cons hr, drop_cons hr', List.cons.injEq] at hf
    refine ⟨hat.isSome, fun _ => ⟨_, _, _, _, hat, ⟨by omega, by omega⟩, fun _ => ⟨hat'.isSome, fun _ => ⟨_, _, _, _, hat', fun W1 n1 _ => ?_⟩⟩⟩⟩
    refine ⟨_, _, ek_ne_op _ _ r r' W1, Ext.refl _, fun h0 => Rt.gv' ?_, fun h0 => ⟨in64 (by omega), fun _ => ⟨by omega, fun _ => ?_⟩⟩⟩
    · rw [decide_eq_false]
      intro hh
      have := (hf.2 hh).1
      simp [this] at h0
    · rw [ht]
      refine ⟨⟨by omega, hle, ?_⟩, by simp only; omega⟩
      rw [← hf]
      have h2 : r = r' := by simpa using h0
      exact ⟨fun h => ⟨h2, h⟩, fun h => h.2⟩
  · rw [decide_eq_true (hf.1 (by rw [List.drop_of_length_le (by omega), List.drop_of_length_le (by omega)]))]
end
end Go.Proofs.Ytdihdcielchodaa
