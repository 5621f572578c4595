/- Plain laws of kept answers. No program in sight. No conditions. Applying, as the document says it, over plain data. No program in sight. No conditions. Plain laws of applying: what comes is right, what comes again, what is kept. No program in sight. No conditions. -/
import Derived.Test.YtfpmcmhihhnfgaaGreatKS4
import Derived.Test.YtfpmcmhihhnfgaaGreatKU1
import Derived.Test.YtfpmcmhihhnfgaaGreatKT1
set_option linter.unusedVariables false
set_option linter.unusedSimpArgs false
namespace Go.Proofs.YtfpmcmhihhnfgaaGreat

def Rep.zero : Rep := ⟨0, 0⟩
/-- how many come before a number -/
def posK (l : List Rep) (c : Int) : Nat := (l.filter fun s => decide (s.seq < c)).length
def hasK (l : List Rep) (c : Int) : Bool := l.any fun s => decide (s.seq = c)
def findK (l : List Rep) (c : Int) : Rep := (l.find? fun s => decide (s.seq = c)).getD Rep.zero
def putK (l : List Rep) (s : Rep) : List Rep := (l.filter fun x => decide (x.seq < s.seq)) ++ s :: l.filter fun x => decide (s.seq < x.seq)
def dropK (l : List Rep) (c : Int) : List Rep := l.filter fun x => decide (x.seq ≠ c)
abbrev IncK (l : List Rep) : Prop := l.Pairwise fun a b => a.seq < b.seq
/-- a table in order, cut at a seq -/
theorem split_atK (c : Int) : ∀ (l : List Rep), IncK l → l.take (posK l c) = l.filter (fun x => decide (x.seq < c)) ∧ l.drop (posK l c + if hasK l c = true then 1 else 0) = l.filter (fun x => decide (c < x.seq)) ∧
    (hasK l c = true → ∃ s, l[posK l c]? = some s ∧ s.seq = c ∧ findK l c = s) ∧ dropK l c = l.filter (fun x => decide (x.seq < c)) ++ l.filter (fun x => decide (c < x.seq)) ∧ (hasK l c = false → findK l c = Rep.zero ∧ dropK l c = l)
  | [], _ => by simp [posK, hasK, dropK, findK]
  | s :: t, h => by
    rw [IncK, List.pairwise_cons] at h
    obtain ⟨i1, i2, i3, i4, i5⟩ := split_atK c t h.2
    rcases Int.lt_trichotomy s.seq c with hlt | heq | hgt
    · have hp : posK (s :: t) c = posK t c + 1 := by simp [posK, hlt]
      have hh : hasK (s :: t) c = hasK t c := by
        have : s.seq ≠ c := by omega
        simp [hasK, this]
      have hf : findK (s :: t) c = findK t c := by
        have : s.seq ≠ c := by omega
        simp [findK, this]
      have hng : ¬ c < s.seq := by omega
      have hne : s.seq ≠ c := by omega
      refine ⟨?_, ?_, fun hx => ?_, ?_, fun hx => ?_⟩
      · rw [hp, List.take_succ_cons, i1]; simp [hlt]
      · rw [hp, hh, show posK t c + 1 + (if hasK t c = true then 1 else 0) = (posK t c + if hasK t c = true then 1 else 0) + 1 by omega, List.drop_succ_cons, i2]; simp [hng]
      · rw [hp, hf]
        rw [hh] at hx
        simpa using i3 hx
      · rw [dropK] at i4
        rw [dropK, List.filter_cons, if_pos (by simpa using hne), i4, List.filter_cons, if_pos (by simpa using hlt), List.filter_cons, if_neg (by simpa using hng)]
        rfl
      · rw [hh] at hx
        obtain ⟨j1, j2⟩ := i5 hx
        refine ⟨by rw [hf, j1], ?_⟩
        rw [dropK] at j2
        rw [dropK, List.filter_cons, if_pos (by simpa using hne), j2]
    · have hall : ∀ x ∈ t, c < x.seq := fun x hx => by have := h.1 x hx; omega
      have hz : t.filter (fun x => decide (x.seq < c)) = [] := List.filter_eq_nil_iff.2 fun x hx => by have := hall x hx; simp; omega
      have hy : t.filter (fun x => decide (c < x.seq)) = t := List.filter_eq_self.2 fun x hx => by have := hall x hx; simpa using this
      have hd : t.filter (fun x => decide (x.seq ≠ c)) = t := List.filter_eq_self.2 fun x hx => by have := hall x hx; simp; omega
      have hp : posK (s :: t) c = 0 := by simp [posK, heq, hz]
      have hh : hasK (s :: t) c = true := by simp [hasK, heq]
      have h1 : ¬ s.seq < c := by omega
      have h2 : ¬ c < s.seq := by omega
      refine ⟨?_, ?_, fun _ => ⟨s, ?_, heq, ?_⟩, ?_, fun hx => (by rw [hh] at hx; cases hx)⟩
      · rw [hp]; simp [h1, hz]
      · rw [hp, hh]; simp [h2, hy]
      · rw [hp]; rfl
      · simp [findK, heq]
      · rw [dropK, List.filter_cons, if_neg (by simpa using heq), hd, List.filter_cons, if_neg (by simpa using h1), hz, List.filter_cons, if_neg (by simpa using h2), hy]
        rfl
    · have hall : ∀ x ∈ t, c < x.seq := fun x hx => by have := h.1 x hx; omega
      have hz : t.filter (fun x => decide (x.seq < c)) = [] := List.filter_eq_nil_iff.2 fun x hx => by have := hall x hx; simp; omega
      have hy : t.filter (fun x => decide (c < x.seq)) = t := List.filter_eq_self.2 fun x hx => by have := hall x hx; simpa using this
      have hd : t.filter (fun x => decide (x.seq ≠ c)) = t := List.filter_eq_self.2 fun x hx => by have := hall x hx; simp; omega
      have h1 : ¬ s.seq < c := by omega
      have hne : s.seq ≠ c := by omega
      have hp : posK (s :: t) c = 0 := by simp [posK, h1, hz]
      have hh : hasK (s :: t) c = false := by
        simp only [hasK, List.any_cons, Bool.or_eq_false_iff, decide_eq_false_iff_not, List.any_eq_false, decide_eq_true_eq]
        exact ⟨hne, fun x hx => by have := hall x hx; omega⟩
      refine ⟨?_, ?_, fun hx => (by rw [hh] at hx; cases hx), ?_, fun _ => ⟨?_, ?_⟩⟩
      · rw [hp]; simp [h1, hz]
      · rw [hp, hh]; simp [hgt, hy]
      · rw [dropK, List.filter_cons, if_pos (by simpa using hne), hd, List.filter_cons, if_neg (by simpa using h1), hz, List.filter_cons, if_pos (by simpa using hgt), hy]
        rfl
      · have : (s :: t).find? (fun x => decide (x.seq = c)) = none := List.find?_eq_none.2 fun x hx => by
          rcases List.mem_cons.1 hx with rfl | hx
          · simpa using hne
          · have := hall x hx; simp; omega
        simp [findK, this]
      · rw [dropK, List.filter_cons, if_pos (by simpa using hne), hd]
theorem put_notK {l : List Rep} (h : IncK l) {s : Rep} (hh : hasK l s.seq = false) : l.take (posK l s.seq) ++ s :: l.drop (posK l s.seq) = putK l s := by
  obtain ⟨i1, i2, _, _, _⟩ := split_atK s.seq l h
  rw [hh] at i2
  simp only [Bool.false_eq_true, if_false, Nat.add_zero] at i2
  rw [i1, i2]
  rfl
theorem pos_leK (l : List Rep) (c : Int) : posK l c ≤ l.length := List.length_filter_le _ _
theorem pos_ltK {l : List Rep} (h : IncK l) {c : Int} (hh : hasK l c = true) : posK l c < l.length := by
  obtain ⟨_, _, i3, _, _⟩ := split_atK c l h
  obtain ⟨x, hx, _⟩ := i3 hh
  exact (List.getElem?_eq_some_iff.1 hx).1
end Go.Proofs.YtfpmcmhihhnfgaaGreat
namespace Go.Proofs.YtfpmcmhihhnfgaaGreat

/-- one more, at a time; sessions that are left -/
def Sta.tick (s : Sta) (t : Int) : Sta := ⟨s.pos + 1, max s.clock t, s.vals, freshT s.table (max s.clock t)⟩
/-- a call of a session: seen, acknowledged -/
def Ses.ack (x : Ses) (clock a : Int) : Ses := ⟨x.client, max x.acked a, clock, x.kept.filter fun r => decide (max x.acked a < r.seq)⟩
/-- a call of a session that is there; the answer; was an op done? -/
def Sta.calls (s : Sta) (x : Ses) (e : Ent) : Sta × Int × Bool :=
  if e.seq ≤ x.acked then ({ s with table := putT s.table x }, -4, false)
  else if hasK x.kept e.seq = true then ({ s with table := putT s.table x }, (findK x.kept e.seq).val, false)
  else if x.acked + 3 < e.seq then ({ s with table := putT s.table x }, -5, false)
  else ({ s with vals := (e.op.turn s.vals).1, table := putT s.table { x with kept := putK x.kept ⟨e.seq, (e.op.turn s.vals).2⟩ } }, (e.op.turn s.vals).2, true)
def Sta.does (t : Sta) (e : Ent) : Sta × Int × Bool :=
  if e.kind = 1 then
    (if hasT t.table e.client = true then ({ t with table := putT t.table { findT t.table e.client with seen := t.clock } }, 0, false)
     else if t.table.length = 3 then (t, -2, false)
     else ({ t with table := putT t.table ⟨e.client, 0, t.clock, []⟩ }, 0, false))
  else if hasT t.table e.client = true then
    (if e.kind = 3 then ({ t with table := dropT t.table e.client }, 0, false)
     else t.calls ((findT t.table e.client).ack t.clock e.ack) e)
  else (t, -3, false)
/-- an entry is applied; the answer; was an op done? -/
def Sta.apply (s : Sta) (e : Ent) : Sta × Int × Bool := (s.tick e.time).does e
/-- a right entry -/
structure EntOk (e : Ent) : Prop where
  kind : 1 ≤ e.kind ∧ e.kind ≤ 3
  time : 0 ≤ e.time ∧ e.time ≤ 999
  client : 1 ≤ e.client ∧ e.client ≤ 5
  call : e.kind = 2 → (1 ≤ e.seq ∧ e.seq ≤ 60) ∧ (0 ≤ e.ack ∧ e.ack < e.seq) ∧ e.op.err = 0
  bare : e.kind ≠ 2 → e.seq = 0 ∧ e.ack = 0 ∧ e.op = POp.none
theorem Ent.err_ok {e : Ent} : e.err = 0 ↔ EntOk e := by
  constructor
  · intro h
    by_cases h0 : e.kind < 1 ∨ 3 < e.kind
    · rw [ent_kind h0] at h; cases h
    by_cases h1 : e.time < 0 ∨ 999 < e.time ∨ e.client < 1 ∨ 5 < e.client
    · rw [ent_range h0 h1] at h; cases h
    by_cases h2 : e.kind = 2
    · rw [ent_call h0 h1 h2] at h
      split at h
      · cases h
      · exact ⟨by omega, by omega, by omega, fun _ => ⟨by omega, by omega, h⟩, fun h3 => absurd h2 h3⟩
    · rw [ent_other h0 h1 h2] at h
      split at h
      · rename_i h4
        exact ⟨by omega, by omega, by omega, fun h3 => absurd h3 h2, fun _ => h4⟩
      · cases h
  · intro h
    have a1 := h.kind; have a2 := h.time; have a3 := h.client
    have h0 : ¬ (e.kind < 1 ∨ 3 < e.kind) := by omega
    have h1 : ¬ (e.time < 0 ∨ 999 < e.time ∨ e.client < 1 ∨ 5 < e.client) := by omega
    by_cases h2 : e.kind = 2
    · obtain ⟨b1, b2, b3⟩ := h.call h2
      rw [ent_call h0 h1 h2, if_neg (by omega), b3]
    · rw [ent_other h0 h1 h2, if_pos (h.bare h2)]
/-! what is kept of a right table -/
theorem fresh_inc {l : List Ses} (h : Inc l) (t : Int) : Inc (freshT l t) := h.filter _
theorem TabOk.fresh {l : List Ses} (h : TabOk l) (t : Int) : TabOk (freshT l t) :=
  ⟨Nat.le_trans (List.length_filter_le _ _) h.len, fun s hs => h.one s ((List.mem_filter.1 hs).1), fresh_inc h.ord t⟩
theorem TabOk.drop {l : List Ses} (h : TabOk l) (c : Int) : TabOk (dropT l c) :=
  ⟨Nat.le_trans (List.length_filter_le _ _) h.len, fun s hs => h.one s ((List.mem_filter.1 hs).1), h.ord.filter _⟩
theorem mem_put {l : List Ses} {s x : Ses} (h : x ∈ putT l s) : x = s ∨ (x ∈ l ∧ x.client ≠ s.client) := by
  unfold putT at h
  rcases List.mem_append.1 h with h | h
  · rw [List.mem_filter] at h
    exact .inr ⟨h.1, by have := of_decide_eq_true h.2; omega⟩
  · rcases List.mem_cons.1 h with h | h
    · exact .inl h
    · rw [List.mem_filter] at h
      exact .inr ⟨h.1, by have := of_decide_eq_true h.2; omega⟩
theorem put_inc {l : List Ses} (h : Inc l) (s : Ses) : Inc (putT l s) := by
  unfold putT
  rw [Inc, List.pairwise_append, List.pairwise_cons]
  refine ⟨h.filter _, ⟨fun x hx => ?_, h.filter _⟩, fun x hx y hy => ?_⟩
  · rw [List.mem_filter] at hx
    exact of_decide_eq_true hx.2
  · rw [List.mem_filter] at hx
    have h1 := of_decide_eq_true hx.2
    rcases List.mem_cons.1 hy with rfl | hy
    · exact h1
    · rw [List.mem_filter] at hy
      have h2 := of_decide_eq_true hy.2
      omega
theorem TabOk.put {l : List Ses} (h : TabOk l) {s : Ses} (hs : s.err = 0) (hl : hasT l s.client = true ∨ l.length < 3) : TabOk (putT l s) := by
  refine ⟨?_, fun x hx => ?_, put_inc h.ord s⟩
  · rw [put_len h.ord]
    have := h.len
    rcases hl with hl | hl
    · rw [if_pos hl]; omega
    · split <;> omega
  · rcases mem_put hx with rfl | ⟨hx, _⟩
    · exact hs
    · exact h.one x hx
theorem find_mem {l : List Ses} (h : Inc l) {c : Int} (hh : hasT l c = true) : findT l c ∈ l ∧ (findT l c).client = c := by
  obtain ⟨_, _, i3, _, _⟩ := split_at c l h
  obtain ⟨s, h1, h2, h3⟩ := i3 hh
  rw [h3]
  exact ⟨List.mem_of_getElem? h1, h2⟩
/-! kept answers -/
theorem keptOk_iff {a : Int} : ∀ {l : List Rep} {last : Int}, keptOk a last l = true ↔ (∀ r ∈ l, last < r.seq ∧ r.seq ≤ a + 3 ∧ r.seq ≤ 60 ∧ -1 ≤ r.val ∧ r.val ≤ 999) ∧ IncK l
  | [], last => by simp [keptOk]
  | r :: t, last => by
    simp only [keptOk, Bool.and_eq_true, decide_eq_true_eq, keptOk_iff (l := t), List.mem_cons, forall_eq_or_imp, IncK, List.pairwise_cons]
    constructor
    · rintro ⟨h1, h2, h3⟩
      exact ⟨⟨h1, fun x hx => by have := h2 x hx; omega⟩, fun x hx => (h2 x hx).1, h3⟩
    · rintro ⟨⟨h1, h2⟩, h3, h4⟩
      exact ⟨h1, fun x hx => by have := h2 x hx; have := h3 x hx; omega, h4⟩
theorem ses_err_iff {s : Ses} : s.err = 0 ↔ (1 ≤ s.client ∧ s.client ≤ 5) ∧ (0 ≤ s.acked ∧ s.acked ≤ 60) ∧ (0 ≤ s.seen ∧ s.seen ≤ 999) ∧ keptOk s.acked s.acked s.kept = true := by
  refine ⟨Ses.err_ok, fun ⟨h1, h2, h3, h4⟩ => ?_⟩
  unfold Ses.err
  rw [if_neg (by omega), if_pos h4]
theorem mem_putK {l : List Rep} {s x : Rep} (h : x ∈ putK l s) : x = s ∨ (x ∈ l ∧ x.seq ≠ s.seq) := by
  unfold putK at h
  rcases List.mem_append.1 h with h | h
  · rw [List.mem_filter] at h
    exact .inr ⟨h.1, by have := of_decide_eq_true h.2; omega⟩
  · rcases List.mem_cons.1 h with h | h
    · exact .inl h
    · rw [List.mem_filter] at h
      exact .inr ⟨h.1, by have := of_decide_eq_true h.2; omega⟩
theorem put_incK {l : List Rep} (h : IncK l) (s : Rep) : IncK (putK l s) := by
  unfold putK
  rw [IncK, List.pairwise_append, List.pairwise_cons]
  refine ⟨h.filter _, ⟨fun x hx => ?_, h.filter _⟩, fun x hx y hy => ?_⟩
  · rw [List.mem_filter] at hx
    exact of_decide_eq_true hx.2
  · rw [List.mem_filter] at hx
    have h1 := of_decide_eq_true hx.2
    rcases List.mem_cons.1 hy with rfl | hy
    · exact h1
    · rw [List.mem_filter] at hy
      have h2 := of_decide_eq_true hy.2
      omega
theorem ack_ok {x : Ses} (h : x.err = 0) {clock a : Int} (hc : 0 ≤ clock ∧ clock ≤ 999) (ha : a ≤ 60) : (x.ack clock a).err = 0 := by
  obtain ⟨h1, h2, h3, h4⟩ := ses_err_iff.1 h
  obtain ⟨h5, h6⟩ := keptOk_iff.1 h4
  refine ses_err_iff.2 ⟨h1, by simp only [Ses.ack]; omega, hc, keptOk_iff.2 ⟨fun r hr => ?_, h6.filter _⟩⟩
  simp only [Ses.ack] at hr ⊢
  rw [List.mem_filter] at hr
  have := h5 r hr.1
  have := of_decide_eq_true hr.2
  omega
theorem turn_ok {x : POp} {v : V4} (hv : v.ok = true) : (x.turn v).1.ok = true ∧ -1 ≤ (x.turn v).2 ∧ (x.turn v).2 ≤ 999 := by
  have get : ∀ (u : V4) k, u.ok = true → -1 ≤ u.get k ∧ u.get k ≤ 999 := fun u k h => by
    rw [V4.ok_iff] at h
    unfold V4.get
    split
    · omega
    · split
      · omega
      · split <;> omega
  unfold POp.turn
  repeat' split
  all_goals first | exact ⟨by assumption, get _ _ (by assumption)⟩ | exact ⟨hv, Int.le_refl (-1), (by omega : (-1 : Int) ≤ 999)⟩ | exact ⟨hv, get _ _ hv⟩
theorem Sta.tick_ok {s : Sta} (h : StOk s) {t : Int} (ht : 0 ≤ t ∧ t ≤ 999) (hp : s.pos < 50) : StOk (s.tick t) := by
  have h1 := h.pos; have h2 := h.clock
  refine ⟨by simp only [Sta.tick]; omega, by simp only [Sta.tick]; omega, h.vals, h.table.fresh _, fun x hx => ?_⟩
  simp only [Sta.tick, freshT] at hx ⊢
  rw [List.mem_filter] at hx
  have := h.seen x hx.1
  have := of_decide_eq_true hx.2
  omega
theorem Sta.does_ok {t : Sta} {e : Ent} (h : StOk t) (he : EntOk e) : StOk (t.does e).1 := by
  have hck := h.clock
  have ht := h.table
  have mk : ∀ (v : V4) (l : List Ses), v.ok = true → TabOk l → (∀ x ∈ l, t.clock - 20 ≤ x.seen ∧ x.seen ≤ t.clock) → StOk ⟨t.pos, t.clock, v, l⟩ := fun v l hv hl hs => ⟨h.pos, hck, hv, hl, hs⟩
  have pt : ∀ (x : Ses), x.seen = t.clock → x.err = 0 → (hasT t.table x.client = true ∨ t.table.length < 3) → TabOk (putT t.table x) ∧ ∀ y ∈ putT t.table x, t.clock - 20 ≤ y.seen ∧ y.seen ≤ t.clock := fun x hx hxe hl => ⟨ht.put hxe hl, fun y hy => by
    rcases mem_put hy with rfl | ⟨hy, _⟩
    · omega
    · exact h.seen y hy⟩
  unfold Sta.does
  by_cases k1 : e.kind = 1
  · rw [if_pos k1]
    by_cases k2 : hasT t.table e.client = true
    · rw [if_pos k2]
      obtain ⟨m1, m2⟩ := find_mem ht.ord k2
      have m3 := ht.one _ m1
      obtain ⟨p1, p2⟩ := pt { findT t.table e.client with seen := t.clock } rfl (by
        obtain ⟨q1, q2, q3, q4⟩ := ses_err_iff.1 m3
        exact ses_err_iff.2 ⟨q1, q2, hck, q4⟩) (.inl (by simp only [m2]; exact k2))
      exact mk _ _ h.vals p1 p2
    · rw [if_neg k2]
      by_cases k3 : t.table.length = 3
      · rw [if_pos k3]; exact h
      · rw [if_neg k3]
        obtain ⟨p1, p2⟩ := pt ⟨e.client, 0, t.clock, []⟩ rfl (ses_err_iff.2 ⟨he.client, by simp only; omega, hck, rfl⟩) (.inr (by have := ht.len; omega))
        exact mk _ _ h.vals p1 p2
  · rw [if_neg k1]
    by_cases k2 : hasT t.table e.client = true
    · rw [if_pos k2]
      obtain ⟨m1, m2⟩ := find_mem ht.ord k2
      have m3 := ht.one _ m1
      by_cases k3 : e.kind = 3
      · rw [if_pos k3]; exact mk _ _ h.vals (ht.drop _) (fun x hx => h.seen x (List.mem_filter.1 hx).1)
      · rw [if_neg k3]
        have hk2 : e.kind = 2 := by have := he.kind; omega
        obtain ⟨b1, b2, b3⟩ := he.call hk2
        have ha : ((findT t.table e.client).ack t.clock e.ack).err = 0 := ack_ok m3 hck (by omega)
        have hcl : ((findT t.table e.client).ack t.clock e.ack).client = e.client := m2
        have hsn : ((findT t.table e.client).ack t.clock e.ack).seen = t.clock := rfl
        generalize (findT t.table e.client).ack t.clock e.ack = x at ha hcl hsn ⊢
        obtain ⟨p1, p2⟩ := pt _ hsn ha (.inl (by rw [hcl]; exact k2))
        unfold Sta.calls
        by_cases c1 : e.seq ≤ x.acked
        · rw [if_pos c1]; exact mk _ _ h.vals p1 p2
        · rw [if_neg c1]
          by_cases c2 : hasK x.kept e.seq = true
          · rw [if_pos c2]; exact mk _ _ h.vals p1 p2
          · rw [if_neg c2]
            by_cases c3 : x.acked + 3 < e.seq
            · rw [if_pos c3]; exact mk _ _ h.vals p1 p2
            · rw [if_neg c3]
              have htn := turn_ok (x := e.op) h.vals
              obtain ⟨p3, p4⟩ := pt { x with kept := putK x.kept ⟨e.seq, (e.op.turn t.vals).2⟩ } hsn (by
                obtain ⟨q1, q2, q3, q4⟩ := ses_err_iff.1 ha
                obtain ⟨q5, q6⟩ := keptOk_iff.1 q4
                refine ses_err_iff.2 ⟨q1, q2, q3, keptOk_iff.2 ⟨fun r hr => ?_, put_incK q6 _⟩⟩
                rcases mem_putK hr with rfl | ⟨hr, _⟩
                · simp only; omega
                · exact q5 r hr) (.inl (by simp only [hcl]; exact k2))
              exact mk _ _ htn.1 p3 p4
    · rw [if_neg k2]; exact h
theorem Sta.apply_ok {s : Sta} {e : Ent} (h : StOk s) (he : EntOk e) (hp : s.pos < 50) : StOk (s.apply e).1 := Sta.does_ok (Sta.tick_ok h he.time hp) he
end Go.Proofs.YtfpmcmhihhnfgaaGreat
namespace Go.Proofs.YtfpmcmhihhnfgaaGreat

theorem fresh_all {l : List Ses} {t : Int} (h : ∀ x ∈ l, t - 20 ≤ x.seen) : freshT l t = l := List.filter_eq_self.2 fun x hx => by simpa using h x hx
theorem StOk.tick {s : Sta} (h : StOk s) {t : Int} (ht : t ≤ s.clock) : s.tick t = ⟨s.pos + 1, s.clock, s.vals, s.table⟩ := by
  have e : max s.clock t = s.clock := by omega
  unfold Sta.tick
  rw [e, fresh_all fun x hx => (h.seen x hx).1]
theorem apply_pos (s : Sta) (e : Ent) : (s.apply e).1.pos = s.pos + 1 := by
  unfold Sta.apply Sta.does Sta.calls Sta.tick
  repeat' split
  all_goals rfl
theorem ack_inc {x : Ses} (h : x.err = 0) {clock a : Int} : IncK (x.ack clock a).kept := by
  have h4 := (ses_err_iff.1 h).2.2.2
  exact (keptOk_iff.1 h4).2.filter _
end Go.Proofs.YtfpmcmhihhnfgaaGreat
