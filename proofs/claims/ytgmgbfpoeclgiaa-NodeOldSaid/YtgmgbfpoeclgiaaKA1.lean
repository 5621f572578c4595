/- Plain laws of kept answers. No program in sight. No conditions. Applying, as the document says it, over plain data. No program in sight. No conditions. Plain laws of applying: what comes is right, what comes again, what is kept. No program in sight. No conditions. -/
import Derived.Test.YtgmgbfpoeclgiaaKS4
import Derived.Test.YtgmgbfpoeclgiaaKU1
import Derived.Test.YtgmgbfpoeclgiaaKT1
set_option linter.unusedVariables false
set_option linter.unusedSimpArgs false
namespace Go.Proofs.Ytgmgbfpoeclgiaa

def Rep.zero : Rep := ⟨0, 0⟩
/-- how many come before a number -/
def posK (l : List Rep) (c : Int) : Nat := (l.filter fun s => decide (s.seq < c)).length
def hasK (l : List Rep) (c : Int) : Bool := l.any fun s => decide (s.seq = c)
def findK (l : List Rep) (c : Int) : Rep := (l.find? fun s => decide (s.seq = c)).getD Rep.zero
def putK (l : List Rep) (s : Rep) : List Rep := (l.filter fun x => decide (x.seq < s.seq)) ++ s :: l.filter fun x => decide (s.seq < x.seq)
def dropK (l : List Rep) (c : Int) : List Rep := l.filter fun x => decide (x.seq ≠ c)
abbrev IncK (l : List Rep) : Prop := l.Pairwise fun a b => a.seq < b.seq
/-- a table in order, cut at a seq -/
theorem split_atK (c : Int) : ∀ (l : List Rep), IncK l → l.take (posK l c) = l.filter (fun x => decide (x.seq < c)) ∧ l.drop (posK l c + if hasK l c = true then 1 else 0) = l.filter (fun x => decide (c < x.seq)) ∧
    (hasK l c = true → ∃ s, l[posK l c]? = some s ∧ s.seq = c ∧ findK l c = s) ∧ dropK l c = l.filter (fun x => decide (x.seq < c)) ++ l.filter (fun x => decide (c < x.seq)) ∧ (hasK l c = false → findK l c = Rep.zero ∧ dropK l c = l)
  | [], _ => by simp [posK, hasK, dropK, findK]
  | s :: t, h => by
    rw [IncK, List.pairwise_cons] at h
    obtain ⟨i1, i2, i3, i4, i5⟩ := split_atK c t h.2
    rcases Int.lt_trichotomy s.seq c with hlt | heq | hgt
    · have hp : posK (s :: t) c = posK t c + 1 := by simp [posK, hlt]
      have hh : hasK (s :: t) c = hasK t c := by
        have : s.seq ≠ c := by omega
        simp [hasK, this]
      have hf : findK (s :: t) c = findK t c := by
        have : s.seq ≠ c := by omega
        simp [findK, this]
      have hng : ¬ c < s.seq := by omega
      have hne : s.seq ≠ c := by omega
      refine ⟨?_, ?_, fun hx => ?_, ?_, fun hx => ?_⟩
      · rw [hp, List.take_succ_cons, i1]; simp [hlt]
      · rw [hp, hh, show posK t c + 1 + (if hasK t c = true then 1 else 0) = (posK t c + if hasK t c = true then 1 else 0) + 1 by omega, List.drop_succ_cons, i2]; simp [hng]
      · rw [hp, hf]
        rw [hh] at hx
        simpa using i3 hx
      · rw [dropK] at i4
        rw [dropK, List.filter_cons, if_pos (by simpa using hne), i4, List.filter_cons, if_pos (by simpa using hlt), List.filter_cons, if_neg (by simpa using hng)]
        rfl
      · rw [hh] at hx
        obtain ⟨j1, j2⟩ := i5 hx
        refine ⟨by rw [hf, j1], ?_⟩
        rw [dropK] at j2
        rw [dropK, List.filter_cons, if_pos (by simpa using hne), j2]
    · have hall : ∀ x ∈ t, c < x.seq := fun x hx => by have := h.1 x hx; omega
      have hz : t.filter (fun x => decide (x.seq < c)) = [] := List.filter_eq_nil_iff.2 fun x hx => by have := hall x hx; simp; omega
      have hy : t.filter (fun x => decide (c < x.seq)) = t := List.filter_eq_self.2 fun x hx => by have := hall x hx; simpa using this
      have hd : t.filter (fun x => decide (x.seq ≠ c)) = t := List.filter_eq_self.2 fun x hx => by have := hall x hx; simp; omega
      have hp : posK (s :: t) c = 0 := by simp [posK, heq, hz]
      have hh : hasK (s :: t) c = true := by simp [hasK, heq]
      have h1 : ¬ s.seq < c := by omega
      have h2 : ¬ c < s.seq := by omega
      refine ⟨?_, ?_, fun _ => ⟨s, ?_, heq, ?_⟩, ?_, fun hx => (by rw [hh] at hx; cases hx)⟩
      · rw [hp]; simp [h1, hz]
      · rw [hp, hh]; simp [h2, hy]
      · rw [hp]; rfl
      · simp [findK, heq]
      · rw [dropK, List.filter_cons, if_neg (by simpa using heq), hd, List.filter_cons, if_neg (by simpa using h1), hz, List.filter_cons, if_neg (by simpa using h2), hy]
        rfl
    · have hall : ∀ x ∈ t, c < x.seq := fun x hx => by have := h.1 x hx; omega
      have hz : t.filter (fun x => decide (x.seq < c)) = [] := List.filter_eq_nil_iff.2 fun x hx => by have := hall x hx; simp; omega
      have hy : t.filter (fun x => decide (c < x.seq)) = t := List.filter_eq_self.2 fun x hx => by have := hall x hx; simpa using this
      have hd : t.filter (fun x => decide (x.seq ≠ c)) = t := List.filter_eq_self.2 fun x hx => by have := hall x hx; simp; omega
      have h1 : ¬ s.seq < c := by omega
      have hne : s.seq ≠ c := by omega
      have hp : posK (s :: t) c = 0 := by simp [posK, h1, hz]
      have hh : hasK (s :: t) c = false := by
        simp only [hasK, List.any_cons, Bool.or_eq_false_iff, decide_eq_false_iff_not, List.any_eq_false, decide_eq_true_eq]
        exact ⟨hne, fun x hx => by have := hall x hx; omega⟩
      refine ⟨?_, ?_, fun hx => (by rw [hh] at hx; cases hx), ?_, fun _ => ⟨?_, ?_⟩⟩
      · rw [hp]; simp [h1, hz]
      · rw [hp, hh]; simp [hgt, hy]
      · rw [dropK, List.filter_cons, if_pos (by simpa using hne), hd, List.filter_cons, if_neg (by simpa using h1), hz, List.filter_cons, if_pos (by simpa using hgt), hy]
        rfl
      · have : (s :: t).find? (fun x => decide (x.seq = c)) = none := List.find?_eq_none.2 fun x hx => by
          rcases List.mem_cons.1 hx with rfl | hx
          · simpa using hne
          · have := hall x hx; simp; omega
        simp [findK, this]
      · rw [dropK, List.filter_cons, if_pos (by simpa using hne), hd]
theorem drop_atK {l : List Rep} (h : IncK l) {c : Int} (hh : hasK l c = true) : l.take (posK l c) ++ l.drop (posK l c + 1) = dropK l c := by
  obtain ⟨i1, i2, _, i4, _⟩ := split_atK c l h
  rw [hh] at i2
  simp only [if_true] at i2
  rw [i1, i2, i4]
theorem put_hasK {l : List Rep} (h : IncK l) {s : Rep} (hh : hasK l s.seq = true) : (l.take (posK l s.seq) ++ l.drop (posK l s.seq + 1)).take (posK l s.seq) ++ s :: (l.take (posK l s.seq) ++ l.drop (posK l s.seq + 1)).drop (posK l s.seq) = putK l s := by
  obtain ⟨i1, i2, i3, _, _⟩ := split_atK s.seq l h
  rw [hh] at i2
  simp only [if_true] at i2
  obtain ⟨x, hx, _⟩ := i3 hh
  have hlen : (l.take (posK l s.seq)).length = posK l s.seq := by
    have := (List.getElem?_eq_some_iff.1 hx).1
    simp; omega
  have e1 : (l.take (posK l s.seq) ++ l.drop (posK l s.seq + 1)).take (posK l s.seq) = l.take (posK l s.seq) := by
    conv => lhs; rw [List.take_append, hlen, Nat.sub_self, List.take_zero, List.append_nil, List.take_of_length_le (by omega)]
  have e2 : (l.take (posK l s.seq) ++ l.drop (posK l s.seq + 1)).drop (posK l s.seq) = l.drop (posK l s.seq + 1) := by
    conv => lhs; rw [List.drop_append, hlen, Nat.sub_self, List.drop_zero, List.drop_of_length_le (by omega), List.nil_append]
  rw [e1, e2, i1, i2]
  rfl
theorem put_notK {l : List Rep} (h : IncK l) {s : Rep} (hh : hasK l s.seq = false) : l.take (posK l s.seq) ++ s :: l.drop (posK l s.seq) = putK l s := by
  obtain ⟨i1, i2, _, _, _⟩ := split_atK s.seq l h
  rw [hh] at i2
  simp only [Bool.false_eq_true, if_false, Nat.add_zero] at i2
  rw [i1, i2]
  rfl
theorem pos_leK (l : List Rep) (c : Int) : posK l c ≤ l.length := List.length_filter_le _ _
theorem pos_ltK {l : List Rep} (h : IncK l) {c : Int} (hh : hasK l c = true) : posK l c < l.length := by
  obtain ⟨_, _, i3, _, _⟩ := split_atK c l h
  obtain ⟨x, hx, _⟩ := i3 hh
  exact (List.getElem?_eq_some_iff.1 hx).1
theorem put_lenK {l : List Rep} (h : IncK l) (s : Rep) : (putK l s).length = l.length + (if hasK l s.seq = true then 0 else 1) := by
  cases hh : hasK l s.seq with
  | true =>
    rw [← put_hasK h hh]
    have := pos_ltK h hh
    simp; omega
  | false =>
    rw [← put_notK h hh]
    have := pos_leK l s.seq
    simp; omega
end Go.Proofs.Ytgmgbfpoeclgiaa
namespace Go.Proofs.Ytgmgbfpoeclgiaa

/-- one more, at a time; sessions that are left -/
def Sta.tick (s : Sta) (t : Int) : Sta := ⟨s.pos + 1, max s.clock t, s.vals, freshT s.table (max s.clock t)⟩
/-- a call of a session: seen, acknowledged -/
def Ses.ack (x : Ses) (clock a : Int) : Ses := ⟨x.client, max x.acked a, clock, x.kept.filter fun r => decide (max x.acked a < r.seq)⟩
/-- a call of a session that is there; the answer; was an op done? -/
def Sta.calls (s : Sta) (x : Ses) (e : Ent) : Sta × Int × Bool :=
  if e.seq ≤ x.acked then ({ s with table := putT s.table x }, -4, false)
  else if hasK x.kept e.seq = true then ({ s with table := putT s.table x }, (findK x.kept e.seq).val, false)
  else if x.acked + 3 < e.seq then ({ s with table := putT s.table x }, -5, false)
  else ({ s with vals := (e.op.turn s.vals).1, table := putT s.table { x with kept := putK x.kept ⟨e.seq, (e.op.turn s.vals).2⟩ } }, (e.op.turn s.vals).2, true)
def Sta.does (t : Sta) (e : Ent) : Sta × Int × Bool :=
  if e.kind = 1 then
    (if hasT t.table e.client = true then ({ t with table := putT t.table { findT t.table e.client with seen := t.clock } }, 0, false)
     else if t.table.length = 3 then (t, -2, false)
     else ({ t with table := putT t.table ⟨e.client, 0, t.clock, []⟩ }, 0, false))
  else if hasT t.table e.client = true then
    (if e.kind = 3 then ({ t with table := dropT t.table e.client }, 0, false)
     else t.calls ((findT t.table e.client).ack t.clock e.ack) e)
  else (t, -3, false)
/-- an entry is applied; the answer; was an op done? -/
def Sta.apply (s : Sta) (e : Ent) : Sta × Int × Bool := (s.tick e.time).does e
def sOne (s : Sta) (e : Ent) : Sta × Int × Bool × Int :=
  if s.err ≠ 0 then (Sta.zero, 0, false, s.err) else if e.err ≠ 0 then (Sta.zero, 0, false, e.err) else if s.pos = 50 then (Sta.zero, 0, false, 2)
  else ((s.apply e).1, (s.apply e).2.1, (s.apply e).2.2, 0)
/-- a right entry -/
structure EntOk (e : Ent) : Prop where
  kind : 1 ≤ e.kind ∧ e.kind ≤ 3
  time : 0 ≤ e.time ∧ e.time ≤ 999
  client : 1 ≤ e.client ∧ e.client ≤ 5
  call : e.kind = 2 → (1 ≤ e.seq ∧ e.seq ≤ 60) ∧ (0 ≤ e.ack ∧ e.ack < e.seq) ∧ e.op.err = 0
  bare : e.kind ≠ 2 → e.seq = 0 ∧ e.ack = 0 ∧ e.op = POp.none
theorem Ent.err_ok {e : Ent} : e.err = 0 ↔ EntOk e := by
  constructor
  · intro h
    by_cases h0 : e.kind < 1 ∨ 3 < e.kind
    · rw [ent_kind h0] at h; cases h
    by_cases h1 : e.time < 0 ∨ 999 < e.time ∨ e.client < 1 ∨ 5 < e.client
    · rw [ent_range h0 h1] at h; cases h
    by_cases h2 : e.kind = 2
    · rw [ent_call h0 h1 h2] at h
      split at h
      · cases h
      · exact ⟨by omega, by omega, by omega, fun _ => ⟨by omega, by omega, h⟩, fun h3 => absurd h2 h3⟩
    · rw [ent_other h0 h1 h2] at h
      split at h
      · rename_i h4
        exact ⟨by omega, by omega, by omega, fun h3 => absurd h3 h2, fun _ => h4⟩
      · cases h
  · intro h
    have a1 := h.kind; have a2 := h.time; have a3 := h.client
    have h0 : ¬ (e.kind < 1 ∨ 3 < e.kind) := by omega
    have h1 : ¬ (e.time < 0 ∨ 999 < e.time ∨ e.client < 1 ∨ 5 < e.client) := by omega
    by_cases h2 : e.kind = 2
    · obtain ⟨b1, b2, b3⟩ := h.call h2
      rw [ent_call h0 h1 h2, if_neg (by omega), b3]
    · rw [ent_other h0 h1 h2, if_pos (h.bare h2)]
/-! what is kept of a right table -/
theorem TabOk.inc {l : List Ses} (h : TabOk l) : Inc l := h.ord
theorem fresh_inc {l : List Ses} (h : Inc l) (t : Int) : Inc (freshT l t) := h.filter _
theorem TabOk.fresh {l : List Ses} (h : TabOk l) (t : Int) : TabOk (freshT l t) :=
  ⟨Nat.le_trans (List.length_filter_le _ _) h.len, fun s hs => h.one s ((List.mem_filter.1 hs).1), fresh_inc h.ord t⟩
theorem TabOk.drop {l : List Ses} (h : TabOk l) (c : Int) : TabOk (dropT l c) :=
  ⟨Nat.le_trans (List.length_filter_le _ _) h.len, fun s hs => h.one s ((List.mem_filter.1 hs).1), h.ord.filter _⟩
theorem mem_put {l : List Ses} {s x : Ses} (h : x ∈ putT l s) : x = s ∨ (x ∈ l ∧ x.client ≠ s.client) := by
  unfold putT at h
  rcases List.mem_append.1 h with h | h
  · rw [List.mem_filter] at h
    exact .inr ⟨h.1, by have := of_decide_eq_true h.2; omega⟩
  · rcases List.mem_cons.1 h with h | h
    · exact .inl h
    · rw [List.mem_filter] at h
      exact .inr ⟨h.1, by have := of_decide_eq_true h.2; omega⟩
theorem put_inc {l : List Ses} (h : Inc l) (s : Ses) : Inc (putT l s) := by
  unfold putT
  rw [Inc, List.pairwise_append, List.pairwise_cons]
  refine ⟨h.filter _, ⟨fun x hx => ?_, h.filter _⟩, fun x hx y hy => ?_⟩
  · rw [List.mem_filter] at hx
    exact of_decide_eq_true hx.2
  · rw [List.mem_filter] at hx
    have h1 := of_decide_eq_true hx.2
    rcases List.mem_cons.1 hy with rfl | hy
    · exact h1
    · rw [List.mem_filter] at hy
      have h2 := of_decide_eq_true hy.2
      omega
theorem TabOk.put {l : List Ses} (h : TabOk l) {s : Ses} (hs : s.err = 0) (hl : hasT l s.client = true ∨ l.length < 3) : TabOk (putT l s) := by
  refine ⟨?_, fun x hx => ?_, put_inc h.ord s⟩
  · rw [put_len h.ord]
    have := h.len
    rcases hl with hl | hl
    · rw [if_pos hl]; omega
    · split <;> omega
  · rcases mem_put hx with rfl | ⟨hx, _⟩
    · exact hs
    · exact h.one x hx
theorem find_mem {l : List Ses} (h : Inc l) {c : Int} (hh : hasT l c = true) : findT l c ∈ l ∧ (findT l c).client = c := by
  obtain ⟨_, _, i3, _, _⟩ := split_at c l h
  obtain ⟨s, h1, h2, h3⟩ := i3 hh
  rw [h3]
  exact ⟨List.mem_of_getElem? h1, h2⟩
/-! kept answers -/
theorem keptOk_iff {a : Int} : ∀ {l : List Rep} {last : Int}, keptOk a last l = true ↔ (∀ r ∈ l, last < r.seq ∧ r.seq ≤ a + 3 ∧ r.seq ≤ 60 ∧ -1 ≤ r.val ∧ r.val ≤ 999) ∧ IncK l
  | [], last => by simp [keptOk]
  | r :: t, last => by
    simp only [keptOk, Bool.and_eq_true, decide_eq_true_eq, keptOk_iff (l := t), List.mem_cons, forall_eq_or_imp, IncK, List.pairwise_cons]
    constructor
    · rintro ⟨h1, h2, h3⟩
      exact ⟨⟨h1, fun x hx => by have := h2 x hx; omega⟩, fun x hx => (h2 x hx).1, h3⟩
    · rintro ⟨⟨h1, h2⟩, h3, h4⟩
      exact ⟨h1, fun x hx => by have := h2 x hx; have := h3 x hx; omega, h4⟩
theorem ses_err_iff {s : Ses} : s.err = 0 ↔ (1 ≤ s.client ∧ s.client ≤ 5) ∧ (0 ≤ s.acked ∧ s.acked ≤ 60) ∧ (0 ≤ s.seen ∧ s.seen ≤ 999) ∧ keptOk s.acked s.acked s.kept = true := by
  refine ⟨Ses.err_ok, fun ⟨h1, h2, h3, h4⟩ => ?_⟩
  unfold Ses.err
  rw [if_neg (by omega), if_pos h4]
theorem mem_putK {l : List Rep} {s x : Rep} (h : x ∈ putK l s) : x = s ∨ (x ∈ l ∧ x.seq ≠ s.seq) := by
  unfold putK at h
  rcases List.mem_append.1 h with h | h
  · rw [List.mem_filter] at h
    exact .inr ⟨h.1, by have := of_decide_eq_true h.2; omega⟩
  · rcases List.mem_cons.1 h with h | h
    · exact .inl h
    · rw [List.mem_filter] at h
      exact .inr ⟨h.1, by have := of_decide_eq_true h.2; omega⟩
theorem put_incK {l : List Rep} (h : IncK l) (s : Rep) : IncK (putK l s) := by
  unfold putK
  rw [IncK, List.pairwise_append, List.pairwise_cons]
  refine ⟨h.filter _, ⟨fun x hx => ?_, h.filter _⟩, fun x hx y hy => ?_⟩
  · rw [List.mem_filter] at hx
    exact of_decide_eq_true hx.2
  · rw [List.mem_filter] at hx
    have h1 := of_decide_eq_true hx.2
    rcases List.mem_cons.1 hy with rfl | hy
    · exact h1
    · rw [List.mem_filter] at hy
      have h2 := of_decide_eq_true hy.2
      omega
theorem ack_ok {x : Ses} (h : x.err = 0) {clock a : Int} (hc : 0 ≤ clock ∧ clock ≤ 999) (ha : a ≤ 60) : (x.ack clock a).err = 0 := by
  obtain ⟨h1, h2, h3, h4⟩ := ses_err_iff.1 h
  obtain ⟨h5, h6⟩ := keptOk_iff.1 h4
  refine ses_err_iff.2 ⟨h1, by simp only [Ses.ack]; omega, hc, keptOk_iff.2 ⟨fun r hr => ?_, h6.filter _⟩⟩
  simp only [Ses.ack] at hr ⊢
  rw [List.mem_filter] at hr
  have := h5 r hr.1
  have := of_decide_eq_true hr.2
  omega
theorem turn_ok {x : POp} {v : V4} (hv : v.ok = true) : (x.turn v).1.ok = true ∧ -1 ≤ (x.turn v).2 ∧ (x.turn v).2 ≤ 999 := by
  have get : ∀ (u : V4) k, u.ok = true → -1 ≤ u.get k ∧ u.get k ≤ 999 := fun u k h => by
    rw [V4.ok_iff] at h
    unfold V4.get
    split
    · omega
    · split
      · omega
      · split <;> omega
  unfold POp.turn
  repeat' split
  all_goals first | exact ⟨by assumption, get _ _ (by assumption)⟩ | exact ⟨hv, Int.le_refl (-1), (by omega : (-1 : Int) ≤ 999)⟩ | exact ⟨hv, get _ _ hv⟩
theorem Sta.tick_ok {s : Sta} (h : StOk s) {t : Int} (ht : 0 ≤ t ∧ t ≤ 999) (hp : s.pos < 50) : StOk (s.tick t) := by
  have h1 := h.pos; have h2 := h.clock
  refine ⟨by simp only [Sta.tick]; omega, by simp only [Sta.tick]; omega, h.vals, h.table.fresh _, fun x hx => ?_⟩
  simp only [Sta.tick, freshT] at hx ⊢
  rw [List.mem_filter] at hx
  have := h.seen x hx.1
  have := of_decide_eq_true hx.2
  omega
theorem Sta.does_ok {t : Sta} {e : Ent} (h : StOk t) (he : EntOk e) : StOk (t.does e).1 := by
  have hck := h.clock
  have ht := h.table
  have mk : ∀ (v : V4) (l : List Ses), v.ok = true → TabOk l → (∀ x ∈ l, t.clock - 20 ≤ x.seen ∧ x.seen ≤ t.clock) → StOk ⟨t.pos, t.clock, v, l⟩ := fun v l hv hl hs => ⟨h.pos, hck, hv, hl, hs⟩
  have pt : ∀ (x : Ses), x.seen = t.clock → x.err = 0 → (hasT t.table x.client = true ∨ t.table.length < 3) → TabOk (putT t.table x) ∧ ∀ y ∈ putT t.table x, t.clock - 20 ≤ y.seen ∧ y.seen ≤ t.clock := fun x hx hxe hl => ⟨ht.put hxe hl, fun y hy => by
    rcases mem_put hy with rfl | ⟨hy, _⟩
    · omega
    · exact h.seen y hy⟩
  unfold Sta.does
  by_cases k1 : e.kind = 1
  · rw [if_pos k1]
    by_cases k2 : hasT t.table e.client = true
    · rw [if_pos k2]
      obtain ⟨m1, m2⟩ := find_mem ht.ord k2
      have m3 := ht.one _ m1
      obtain ⟨p1, p2⟩ := pt { findT t.table e.client with seen := t.clock } rfl (by
        obtain ⟨q1, q2, q3, q4⟩ := ses_err_iff.1 m3
        exact ses_err_iff.2 ⟨q1, q2, hck, q4⟩) (.inl (by simp only [m2]; exact k2))
      exact mk _ _ h.vals p1 p2
    · rw [if_neg k2]
      by_cases k3 : t.table.length = 3
      · rw [if_pos k3]; exact h
      · rw [if_neg k3]
        obtain ⟨p1, p2⟩ := pt ⟨e.client, 0, t.clock, []⟩ rfl (ses_err_iff.2 ⟨he.client, by simp only; omega, hck, rfl⟩) (.inr (by have := ht.len; omega))
        exact mk _ _ h.vals p1 p2
  · rw [if_neg k1]
    by_cases k2 : hasT t.table e.client = true
    · rw [if_pos k2]
      obtain ⟨m1, m2⟩ := find_mem ht.ord k2
      have m3 := ht.one _ m1
      by_cases k3 : e.kind = 3
      · rw [if_pos k3]; exact mk _ _ h.vals (ht.drop _) (fun x hx => h.seen x (List.mem_filter.1 hx).1)
      · rw [if_neg k3]
        have hk2 : e.kind = 2 := by have := he.kind; omega
        obtain ⟨b1, b2, b3⟩ := he.call hk2
        have ha : ((findT t.table e.client).ack t.clock e.ack).err = 0 := ack_ok m3 hck (by omega)
        have hcl : ((findT t.table e.client).ack t.clock e.ack).client = e.client := m2
        have hsn : ((findT t.table e.client).ack t.clock e.ack).seen = t.clock := rfl
        generalize (findT t.table e.client).ack t.clock e.ack = x at ha hcl hsn ⊢
        obtain ⟨p1, p2⟩ := pt _ hsn ha (.inl (by rw [hcl]; exact k2))
        unfold Sta.calls
        by_cases c1 : e.seq ≤ x.acked
        · rw [if_pos c1]; exact mk _ _ h.vals p1 p2
        · rw [if_neg c1]
          by_cases c2 : hasK x.kept e.seq = true
          · rw [if_pos c2]; exact mk _ _ h.vals p1 p2
          · rw [if_neg c2]
            by_cases c3 : x.acked + 3 < e.seq
            · rw [if_pos c3]; exact mk _ _ h.vals p1 p2
            · rw [if_neg c3]
              have htn := turn_ok (x := e.op) h.vals
              obtain ⟨p3, p4⟩ := pt { x with kept := putK x.kept ⟨e.seq, (e.op.turn t.vals).2⟩ } hsn (by
                obtain ⟨q1, q2, q3, q4⟩ := ses_err_iff.1 ha
                obtain ⟨q5, q6⟩ := keptOk_iff.1 q4
                refine ses_err_iff.2 ⟨q1, q2, q3, keptOk_iff.2 ⟨fun r hr => ?_, put_incK q6 _⟩⟩
                rcases mem_putK hr with rfl | ⟨hr, _⟩
                · simp only; omega
                · exact q5 r hr) (.inl (by simp only [hcl]; exact k2))
              exact mk _ _ htn.1 p3 p4
    · rw [if_neg k2]; exact h
theorem Sta.apply_ok {s : Sta} {e : Ent} (h : StOk s) (he : EntOk e) (hp : s.pos < 50) : StOk (s.apply e).1 := Sta.does_ok (Sta.tick_ok h he.time hp) he
end Go.Proofs.Ytgmgbfpoeclgiaa
namespace Go.Proofs.Ytgmgbfpoeclgiaa

theorem has_iff {l : List Ses} {c : Int} : hasT l c = true ↔ ∃ x ∈ l, x.client = c := by simp [hasT]
theorem hasK_iff {l : List Rep} {c : Int} : hasK l c = true ↔ ∃ x ∈ l, x.seq = c := by simp [hasK]
theorem find_of {l : List Ses} (h : Inc l) {x : Ses} (hx : x ∈ l) : hasT l x.client = true ∧ findT l x.client = x := by
  have h1 : hasT l x.client = true := has_iff.2 ⟨x, hx, rfl⟩
  refine ⟨h1, ?_⟩
  obtain ⟨m1, m2⟩ := find_mem h h1
  obtain ⟨i, hi⟩ := List.mem_iff_getElem?.1 hx
  obtain ⟨j, hj⟩ := List.mem_iff_getElem?.1 m1
  obtain ⟨hi1, hi2⟩ := List.getElem?_eq_some_iff.1 hi
  obtain ⟨hj1, hj2⟩ := List.getElem?_eq_some_iff.1 hj
  rw [Inc, List.pairwise_iff_getElem] at h
  rcases Nat.lt_trichotomy i j with hij | hij | hij
  · have := h i j hi1 hj1 hij; rw [hi2, hj2] at this; omega
  · subst hij; exact hj2.symm.trans hi2
  · have := h j i hj1 hi1 hij; rw [hi2, hj2] at this; omega
theorem find_ofK {l : List Rep} (h : IncK l) {x : Rep} (hx : x ∈ l) : hasK l x.seq = true ∧ findK l x.seq = x := by
  have h1 : hasK l x.seq = true := hasK_iff.2 ⟨x, hx, rfl⟩
  refine ⟨h1, ?_⟩
  obtain ⟨_, _, i3, _, _⟩ := split_atK x.seq l h
  obtain ⟨y, h2, h3, h4⟩ := i3 h1
  rw [h4]
  have m1 := List.mem_of_getElem? h2
  obtain ⟨i, hi⟩ := List.mem_iff_getElem?.1 hx
  obtain ⟨j, hj⟩ := List.mem_iff_getElem?.1 m1
  obtain ⟨hi1, hi2⟩ := List.getElem?_eq_some_iff.1 hi
  obtain ⟨hj1, hj2⟩ := List.getElem?_eq_some_iff.1 hj
  rw [IncK, List.pairwise_iff_getElem] at h
  rcases Nat.lt_trichotomy i j with hij | hij | hij
  · have := h i j hi1 hj1 hij; rw [hi2, hj2] at this; omega
  · subst hij; exact hj2.symm.trans hi2
  · have := h j i hj1 hi1 hij; rw [hi2, hj2] at this; omega
theorem mem_put_self (l : List Ses) (s : Ses) : s ∈ putT l s := by unfold putT; simp
theorem mem_put_other {l : List Ses} {s x : Ses} (hx : x ∈ l) (hc : x.client ≠ s.client) : x ∈ putT l s := by
  unfold putT
  rcases Int.lt_or_gt_of_ne hc with h | h
  · exact List.mem_append_left _ (List.mem_filter.2 ⟨hx, by simpa using h⟩)
  · exact List.mem_append_right _ (List.mem_cons_of_mem _ (List.mem_filter.2 ⟨hx, by simpa using h⟩))
theorem mem_put_selfK (l : List Rep) (s : Rep) : s ∈ putK l s := by unfold putK; simp
theorem mem_put_otherK {l : List Rep} {s x : Rep} (hx : x ∈ l) (hc : x.seq ≠ s.seq) : x ∈ putK l s := by
  unfold putK
  rcases Int.lt_or_gt_of_ne hc with h | h
  · exact List.mem_append_left _ (List.mem_filter.2 ⟨hx, by simpa using h⟩)
  · exact List.mem_append_right _ (List.mem_cons_of_mem _ (List.mem_filter.2 ⟨hx, by simpa using h⟩))
theorem put_put (l : List Ses) {s t : Ses} (h : s.client = t.client) : putT (putT l s) t = putT l t := by
  unfold putT
  have h1 : ¬ s.client < t.client := by omega
  have h2 : ¬ t.client < s.client := by omega
  simp only [List.filter_append, List.filter_cons, decide_eq_true_eq, List.filter_filter, ← h, Bool.and_self]
  have e1 : l.filter (fun x => decide (x.client < s.client) && decide (s.client < x.client)) = [] := List.filter_eq_nil_iff.2 fun x _ => by simp; omega
  have e2 : l.filter (fun x => decide (s.client < x.client) && decide (x.client < s.client)) = [] := List.filter_eq_nil_iff.2 fun x _ => by simp; omega
  simp [e1, e2]
theorem fresh_all {l : List Ses} {t : Int} (h : ∀ x ∈ l, t - 20 ≤ x.seen) : freshT l t = l := List.filter_eq_self.2 fun x hx => by simpa using h x hx
theorem filter_allK {l : List Rep} {a : Int} (h : ∀ r ∈ l, a < r.seq) : (l.filter fun r => decide (a < r.seq)) = l := List.filter_eq_self.2 fun x hx => by simpa using h x hx
/-- a session at rest: called again, it is as it was -/
theorem ack_self {x : Ses} {clock a : Int} (h1 : x.seen = clock) (h2 : a ≤ x.acked) (h3 : ∀ r ∈ x.kept, x.acked < r.seq) : x.ack clock a = x := by
  have e : max x.acked a = x.acked := by omega
  unfold Ses.ack
  rw [e, filter_allK h3, ← h1]
theorem StOk.tick {s : Sta} (h : StOk s) {t : Int} (ht : t ≤ s.clock) : s.tick t = ⟨s.pos + 1, s.clock, s.vals, s.table⟩ := by
  have e : max s.clock t = s.clock := by omega
  unfold Sta.tick
  rw [e, fresh_all fun x hx => (h.seen x hx).1]
theorem apply_pos (s : Sta) (e : Ent) : (s.apply e).1.pos = s.pos + 1 := by
  unfold Sta.apply Sta.does Sta.calls Sta.tick
  repeat' split
  all_goals rfl
theorem apply_clock (s : Sta) (e : Ent) : (s.apply e).1.clock = max s.clock e.time := by
  unfold Sta.apply Sta.does Sta.calls Sta.tick
  repeat' split
  all_goals rfl
/-- the values are turned by an op that is done, alone -/
theorem apply_vals {s : Sta} {e : Ent} (he : EntOk e) : ((s.apply e).2.2 = false → (s.apply e).1.vals = s.vals) ∧ ((s.apply e).2.2 = true → e.kind = 2 ∧ (s.apply e).1.vals = (e.op.turn s.vals).1 ∧ (s.apply e).2.1 = (e.op.turn s.vals).2) := by
  have hk := he.kind
  unfold Sta.apply Sta.does Sta.calls Sta.tick
  repeat' split
  all_goals first | exact ⟨fun _ => rfl, fun h => (by cases h)⟩ | exact ⟨fun h => (by cases h), fun _ => ⟨by omega, rfl, rfl⟩⟩
/-- what a call is by which an op was done -/
theorem apply_done {s : Sta} {e : Ent} (hd : (s.apply e).2.2 = true) : e.kind ≠ 1 ∧ e.kind ≠ 3 ∧ hasT (s.tick e.time).table e.client = true ∧
    (let x := (findT (s.tick e.time).table e.client).ack (max s.clock e.time) e.ack
     x.acked < e.seq ∧ hasK x.kept e.seq = false ∧ e.seq ≤ x.acked + 3 ∧ s.apply e = (⟨s.pos + 1, max s.clock e.time, (e.op.turn s.vals).1, putT (s.tick e.time).table { x with kept := putK x.kept ⟨e.seq, (e.op.turn s.vals).2⟩ }⟩, (e.op.turn s.vals).2, true)) := by
  unfold Sta.apply Sta.does at hd ⊢
  by_cases h1 : e.kind = 1
  · rw [if_pos h1] at hd
    split at hd
    · cases hd
    · split at hd <;> cases hd
  rw [if_neg h1] at hd ⊢
  split at hd
  · rename_i h2
    rw [if_pos h2]
    by_cases h3 : e.kind = 3
    · rw [if_pos h3] at hd; cases hd
    rw [if_neg h3] at hd ⊢
    refine ⟨h1, h3, h2, ?_⟩
    unfold Sta.calls at hd ⊢
    split at hd
    · cases hd
    · rename_i h4
      split at hd
      · cases hd
      · rename_i h5
        split at hd
        · cases hd
        · rename_i h6
          refine ⟨by simp only [Sta.tick] at h4 ⊢; omega, by simpa [Sta.tick] using h5, by simp only [Sta.tick] at h6 ⊢; omega, ?_⟩
          rw [if_neg h4, if_neg h5, if_neg h6]
          rfl
  · cases hd
theorem ack_low {x : Ses} {clock a : Int} : ∀ r ∈ (x.ack clock a).kept, (x.ack clock a).acked < r.seq := fun r hr => by
  simp only [Ses.ack] at hr ⊢
  rw [List.mem_filter] at hr
  simpa using hr.2
theorem ack_inc {x : Ses} (h : x.err = 0) {clock a : Int} : IncK (x.ack clock a).kept := by
  have h4 := (ses_err_iff.1 h).2.2.2
  exact (keptOk_iff.1 h4).2.filter _
/-- a call that comes again at once -/
theorem apply_again {s : Sta} {e : Ent} (hs : StOk s) (he : EntOk e) (hk : e.kind = 2) (hp : s.pos < 50) {t : Int} (ht : t ≤ (s.apply e).1.clock) :
    ((s.apply e).1.apply { e with time := t }).2.2 = false ∧ ((s.apply e).1.apply { e with time := t }).2.1 = (s.apply e).2.1 ∧ ((s.apply e).1.apply { e with time := t }).1.vals = (s.apply e).1.vals ∧
    ((s.apply e).1.apply { e with time := t }).1.table = (s.apply e).1.table := by
  have hok := Sta.apply_ok hs he hp
  have htick := hok.tick ht
  have hap : (s.apply e).1.apply { e with time := t } = (⟨(s.apply e).1.pos + 1, (s.apply e).1.clock, (s.apply e).1.vals, (s.apply e).1.table⟩ : Sta).does { e with time := t } := by
    rw [Sta.apply, htick]
  rw [hap]
  have hck := apply_clock s e
  have hT : TabOk (s.tick e.time).table := hs.table.fresh _
  unfold Sta.apply at hck ⊢
  generalize hu : s.tick e.time = u at hck hT ⊢
  have hcl : u.clock = max s.clock e.time := by rw [← hu]; rfl
  unfold Sta.does at hck ⊢
  simp only [hk, show ¬ ((2 : Int) = 1) by decide, show ¬ ((2 : Int) = 3) by decide, if_false] at hck ⊢
  by_cases hh : hasT u.table e.client = true
  · simp only [if_pos hh] at hck ⊢
    obtain ⟨m1, m2⟩ := find_mem hT.ord hh
    generalize hx : (findT u.table e.client).ack u.clock e.ack = x at hck ⊢
    have hxc : x.client = e.client := by rw [← hx]; exact m2
    have hxs : x.seen = u.clock := by rw [← hx]; rfl
    have hxa : e.ack ≤ x.acked := by rw [← hx]; simp only [Ses.ack]; omega
    have hxl : ∀ r ∈ x.kept, x.acked < r.seq := by rw [← hx]; exact ack_low
    have hxi : IncK x.kept := by rw [← hx]; exact ack_inc (hT.one _ m1)
    have again : ∀ (z : Ses) (v : V4) (p : Int), z.client = e.client → z.seen = u.clock → z.acked = x.acked → (∀ r ∈ z.kept, z.acked < r.seq) →
        hasT (putT u.table z) e.client = true ∧ (findT (putT u.table z) e.client).ack u.clock e.ack = z ∧ putT (putT u.table z) z = putT u.table z := fun z v p h1 h2 h3 h4 => by
      obtain ⟨f1, f2⟩ := find_of (put_inc hT.ord z) (mem_put_self u.table z)
      rw [h1] at f1 f2
      exact ⟨f1, by rw [f2, ack_self h2 (by omega) h4], put_put _ rfl⟩
    unfold Sta.calls at hck ⊢
    by_cases c1 : e.seq ≤ x.acked
    · obtain ⟨a1, a2, a3⟩ := again x u.vals 0 hxc hxs rfl hxl
      simp only [if_pos c1, a1, if_true, a2, a3]
      exact ⟨trivial, trivial, trivial, trivial⟩
    · by_cases c2 : hasK x.kept e.seq = true
      · obtain ⟨a1, a2, a3⟩ := again x u.vals 0 hxc hxs rfl hxl
        simp only [if_neg c1, if_pos c2, a1, if_true, a2, a3]
        exact ⟨trivial, trivial, trivial, trivial⟩
      · by_cases c3 : x.acked + 3 < e.seq
        · obtain ⟨a1, a2, a3⟩ := again x u.vals 0 hxc hxs rfl hxl
          simp only [if_neg c1, if_neg c2, if_pos c3, a1, if_true, a2, a3]
          exact ⟨trivial, trivial, trivial, trivial⟩
        · have hlow : ∀ r ∈ putK x.kept ⟨e.seq, (e.op.turn u.vals).2⟩, x.acked < r.seq := fun r hr => by
            rcases mem_putK hr with rfl | ⟨hr, _⟩
            · simp only; omega
            · exact hxl r hr
          obtain ⟨a1, a2, a3⟩ := again { x with kept := putK x.kept ⟨e.seq, (e.op.turn u.vals).2⟩ } u.vals 0 hxc hxs rfl hlow
          obtain ⟨f1, f2⟩ := find_ofK (put_incK hxi ⟨e.seq, (e.op.turn u.vals).2⟩) (mem_put_selfK _ _)
          simp only [if_neg c1, if_neg c2, if_neg c3, a1, if_true, a2, a3] at f1 f2 ⊢
          simp only [f1, if_true, f2]
          exact ⟨trivial, trivial, trivial, trivial⟩
  · simp only [if_neg hh]
    exact ⟨trivial, trivial, trivial, trivial⟩
/-- a session that lives through an entry of others, or of its own -/
theorem apply_lives {s : Sta} {e : Ent} (hs : StOk s) {x : Ses} (hx : x ∈ s.table) {r : Rep} (hr : r ∈ x.kept) (hl : x.acked < r.seq) (hseen : (max s.clock e.time) - 20 ≤ x.seen) (hno : ¬ (e.client = x.client ∧ (e.kind = 3 ∨ r.seq ≤ e.ack))) :
    ∃ y ∈ (s.apply e).1.table, y.client = x.client ∧ r ∈ y.kept ∧ y.acked < r.seq ∧ (max s.clock e.time) - 20 ≤ y.seen := by
  have hT : TabOk (s.tick e.time).table := hs.table.fresh _
  have hxu : x ∈ (s.tick e.time).table := List.mem_filter.2 ⟨hx, by simpa using hseen⟩
  have hcl : (s.tick e.time).clock = max s.clock e.time := rfl
  unfold Sta.apply
  generalize s.tick e.time = u at hT hxu hcl
  obtain ⟨f1, f2⟩ := find_of hT.ord hxu
  have stay : ∀ z : Ses, z.client ≠ x.client → x ∈ putT u.table z := fun z hz => mem_put_other hxu (fun h => hz h.symm)
  by_cases hc : e.client = x.client
  · rw [← hc] at f1 f2
    unfold Sta.does
    by_cases hk1 : e.kind = 1
    · simp only [if_pos hk1, f1, if_true, f2]
      exact ⟨_, mem_put_self _ _, rfl, hr, hl, by simp only; omega⟩
    · simp only [if_neg hk1, f1, if_true, f2]
      split
      · rename_i h3; exact absurd ⟨hc, .inl h3⟩ hno
      · have ha : e.ack < r.seq := by
          by_cases h : r.seq ≤ e.ack
          · exact absurd ⟨hc, .inr h⟩ hno
          · omega
        have hr2 : r ∈ (x.ack u.clock e.ack).kept := List.mem_filter.2 ⟨hr, by simp; omega⟩
        have hl2 : (x.ack u.clock e.ack).acked < r.seq := by simp only [Ses.ack]; omega
        have hs2 : max s.clock e.time - 20 ≤ (x.ack u.clock e.ack).seen := by simp only [Ses.ack]; omega
        unfold Sta.calls
        split
        · exact ⟨_, mem_put_self _ _, rfl, hr2, hl2, hs2⟩
        · split
          · exact ⟨_, mem_put_self _ _, rfl, hr2, hl2, hs2⟩
          · rename_i c2
            split
            · exact ⟨_, mem_put_self _ _, rfl, hr2, hl2, hs2⟩
            · refine ⟨_, mem_put_self _ _, rfl, mem_put_otherK hr2 fun h => ?_, hl2, hs2⟩
              simp only at h
              exact c2 (hasK_iff.2 ⟨r, hr2, h⟩)
  · have out : ∀ l : List Ses, x ∈ l → ∃ y ∈ l, y.client = x.client ∧ r ∈ y.kept ∧ y.acked < r.seq ∧ max s.clock e.time - 20 ≤ y.seen := fun l h => ⟨x, h, rfl, hr, hl, hseen⟩
    unfold Sta.does
    split
    · split
      · rename_i h1 h2
        obtain ⟨m1, m2⟩ := find_mem hT.ord h2
        exact out _ (stay _ (by simp only [m2]; exact hc))
      · split
        · exact out _ hxu
        · exact out _ (stay _ hc)
    · split
      · rename_i h1 h2
        obtain ⟨m1, m2⟩ := find_mem hT.ord h2
        split
        · exact out _ (List.mem_filter.2 ⟨hxu, by simpa using fun h => hc h.symm⟩)
        · have hcc : ((findT u.table e.client).ack u.clock e.ack).client ≠ x.client := by
            show (findT u.table e.client).client ≠ x.client
            rw [m2]; exact hc
          unfold Sta.calls
          split
          · exact out _ (stay _ hcc)
          · split
            · exact out _ (stay _ hcc)
            · split
              · exact out _ (stay _ hcc)
              · exact out _ (stay _ hcc)
      · exact out _ hxu
/-- a kept answer is told -/
theorem apply_told {s : Sta} {e : Ent} (hs : StOk s) (hk : e.kind = 2) {x : Ses} (hx : x ∈ s.table) (hc : x.client = e.client) {r : Rep} (hr : r ∈ x.kept) (hq : r.seq = e.seq) (hl : x.acked < r.seq) (ha : e.ack < e.seq) (ht : e.time ≤ s.clock) :
    (s.apply e).2.2 = false ∧ (s.apply e).2.1 = r.val ∧ (s.apply e).1.vals = s.vals := by
  unfold Sta.apply
  rw [hs.tick ht]
  obtain ⟨f1, f2⟩ := find_of hs.table.ord hx
  rw [hc] at f1 f2
  unfold Sta.does
  simp only [hk, show ¬ ((2 : Int) = 1) by decide, show ¬ ((2 : Int) = 3) by decide, if_false, f1, if_true, f2]
  have hr2 : r ∈ (x.ack s.clock e.ack).kept := List.mem_filter.2 ⟨hr, by simp; omega⟩
  have hl2 : ¬ e.seq ≤ (x.ack s.clock e.ack).acked := by simp only [Ses.ack]; omega
  obtain ⟨g1, g2⟩ := find_ofK (ack_inc (hs.table.one x hx)) hr2
  rw [hq] at g1 g2
  unfold Sta.calls
  simp only [if_neg hl2, g1, if_true, g2]
  exact ⟨trivial, trivial, trivial⟩
/-- an answer is kept as long as it is not acknowledged, and its session lives -/
theorem apply_kept {s : Sta} {e o : Ent} (hs : StOk s) (he : EntOk e) (hp : s.pos < 50) (hd : (s.apply e).2.2 = true) (ho : EntOk o) (hp2 : (s.apply e).1.pos < 50) (hno : ¬ (o.client = e.client ∧ (o.kind = 3 ∨ e.seq ≤ o.ack)))
    (hl : ((s.apply e).1.apply o).1.clock ≤ (s.apply e).1.clock + 20) : (((s.apply e).1.apply o).1.apply { e with time := 0 }).2.2 = false ∧ (((s.apply e).1.apply o).1.apply { e with time := 0 }).2.1 = (s.apply e).2.1 ∧
    (((s.apply e).1.apply o).1.apply { e with time := 0 }).1.vals = ((s.apply e).1.apply o).1.vals := by
  have hx1 := Sta.apply_ok hs he hp
  have hy1 := Sta.apply_ok hx1 ho hp2
  obtain ⟨k1, k3, hh, d1, d2, d3, d4⟩ := apply_done hd
  have hk2 : e.kind = 2 := by have := he.kind; omega
  obtain ⟨b1, b2, b3⟩ := he.call hk2
  rw [apply_clock] at hl
  have hm : ∃ x ∈ (s.apply e).1.table, x.client = e.client ∧ (⟨e.seq, (s.apply e).2.1⟩ : Rep) ∈ x.kept ∧ x.acked < e.seq ∧ x.seen = (s.apply e).1.clock := by
    have hT : TabOk (s.tick e.time).table := hs.table.fresh _
    obtain ⟨m1, m2⟩ := find_mem hT.ord hh
    rw [d4]
    exact ⟨_, mem_put_self _ _, m2, mem_put_selfK _ _, d1, rfl⟩
  obtain ⟨x, hx, hxc, hxr, hxl, hxs⟩ := hm
  obtain ⟨y, hy, hyc, hyr, hyl, hys⟩ := apply_lives (e := o) hx1 hx hxr hxl (by omega) (fun h => hno ⟨by rw [h.1, hxc], h.2⟩)
  have hck : (0 : Int) ≤ ((s.apply e).1.apply o).1.clock := hy1.clock.1
  have := apply_told (e := { e with time := 0 }) hy1 hk2 hy (by rw [hyc, hxc]) hyr rfl hyl b2.2 hck
  exact this
end Go.Proofs.Ytgmgbfpoeclgiaa
