/- Plain laws of kept answers. No program in sight. No conditions. Applying, as the document says it, over plain data. No program in sight. No conditions. Plain laws of applying: what comes is right, what comes again, what is kept. No program in sight. No conditions. -/
import Derived.Test.YtoilhpkclabhoaaKS4
import Derived.Test.YtoilhpkclabhoaaKU1
import Derived.Test.YtoilhpkclabhoaaKT1
set_option linter.unusedVariables false
set_option linter.unusedSimpArgs false
namespace Go.Proofs.Ytoilhpkclabhoaa

def Rep.zero : Rep := ⟨0, 0⟩
def hasK (l : List Rep) (c : Int) : Bool := l.any fun s => decide (s.seq = c)
def findK (l : List Rep) (c : Int) : Rep := (l.find? fun s => decide (s.seq = c)).getD Rep.zero
def putK (l : List Rep) (s : Rep) : List Rep := (l.filter fun x => decide (x.seq < s.seq)) ++ s :: l.filter fun x => decide (s.seq < x.seq)
end Go.Proofs.Ytoilhpkclabhoaa
namespace Go.Proofs.Ytoilhpkclabhoaa

/-- one more, at a time; sessions that are left -/
def Sta.tick (s : Sta) (t : Int) : Sta := ⟨s.pos + 1, max s.clock t, s.vals, freshT s.table (max s.clock t)⟩
/-- a call of a session: seen, acknowledged -/
def Ses.ack (x : Ses) (clock a : Int) : Ses := ⟨x.client, max x.acked a, clock, x.kept.filter fun r => decide (max x.acked a < r.seq)⟩
/-- a call of a session that is there; the answer; was an op done? -/
def Sta.calls (s : Sta) (x : Ses) (e : Ent) : Sta × Int × Bool :=
  if e.seq ≤ x.acked then ({ s with table := putT s.table x }, -4, false)
  else if hasK x.kept e.seq = true then ({ s with table := putT s.table x }, (findK x.kept e.seq).val, false)
  else if x.acked + 3 < e.seq then ({ s with table := putT s.table x }, -5, false)
  else ({ s with vals := (e.op.turn s.vals).1, table := putT s.table { x with kept := putK x.kept ⟨e.seq, (e.op.turn s.vals).2⟩ } }, (e.op.turn s.vals).2, true)
def Sta.does (t : Sta) (e : Ent) : Sta × Int × Bool :=
  if e.kind = 1 then
    (if hasT t.table e.client = true then ({ t with table := putT t.table { findT t.table e.client with seen := t.clock } }, 0, false)
     else if t.table.length = 3 then (t, -2, false)
     else ({ t with table := putT t.table ⟨e.client, 0, t.clock, []⟩ }, 0, false))
  else if hasT t.table e.client = true then
    (if e.kind = 3 then ({ t with table := dropT t.table e.client }, 0, false)
     else t.calls ((findT t.table e.client).ack t.clock e.ack) e)
  else (t, -3, false)
/-- an entry is applied; the answer; was an op done? -/
def Sta.apply (s : Sta) (e : Ent) : Sta × Int × Bool := (s.tick e.time).does e
/-- a right entry -/
structure EntOk (e : Ent) : Prop where
  kind : 1 ≤ e.kind ∧ e.kind ≤ 3
  time : 0 ≤ e.time ∧ e.time ≤ 999
  client : 1 ≤ e.client ∧ e.client ≤ 5
  call : e.kind = 2 → (1 ≤ e.seq ∧ e.seq ≤ 60) ∧ (0 ≤ e.ack ∧ e.ack < e.seq) ∧ e.op.err = 0
  bare : e.kind ≠ 2 → e.seq = 0 ∧ e.ack = 0 ∧ e.op = POp.none
theorem Ent.err_ok {e : Ent} : e.err = 0 ↔ EntOk e := by
  constructor
  · intro h
    by_cases h0 : e.kind < 1 ∨ 3 < e.kind
    · rw [ent_kind h0] at h; cases h
    by_cases h1 : e.time < 0 ∨ 999 < e.time ∨ e.client < 1 ∨ 5 < e.client
    · rw [ent_range h0 h1] at h; cases h
    by_cases h2 : e.kind = 2
    · rw [ent_call h0 h1 h2] at h
      split at h
      · cases h
      · exact ⟨by omega, by omega, by omega, fun _ => ⟨by omega, by omega, h⟩, fun h3 => absurd h2 h3⟩
    · rw [ent_other h0 h1 h2] at h
      split at h
      · rename_i h4
        exact ⟨by omega, by omega, by omega, fun h3 => absurd h3 h2, fun _ => h4⟩
      · cases h
  · intro h
    have a1 := h.kind; have a2 := h.time; have a3 := h.client
    have h0 : ¬ (e.kind < 1 ∨ 3 < e.kind) := by omega
    have h1 : ¬ (e.time < 0 ∨ 999 < e.time ∨ e.client < 1 ∨ 5 < e.client) := by omega
    by_cases h2 : e.kind = 2
    · obtain ⟨b1, b2, b3⟩ := h.call h2
      rw [ent_call h0 h1 h2, if_neg (by omega), b3]
    · rw [ent_other h0 h1 h2, if_pos (h.bare h2)]
/-! what is kept of a right table -/
theorem fresh_inc {l : List Ses} (h : Inc l) (t : Int) : Inc (freshT l t) := h.filter _
theorem TabOk.fresh {l : List Ses} (h : TabOk l) (t : Int) : TabOk (freshT l t) :=
  ⟨Nat.le_trans (List.length_filter_le _ _) h.len, fun s hs => h.one s ((List.mem_filter.1 hs).1), fresh_inc h.ord t⟩
theorem TabOk.drop {l : List Ses} (h : TabOk l) (c : Int) : TabOk (dropT l c) :=
  ⟨Nat.le_trans (List.length_filter_le _ _) h.len, fun s hs => h.one s ((List.mem_filter.1 hs).1), h.ord.filter _⟩
theorem mem_put {l : List Ses} {s x : Ses} (h : x ∈ putT l s) : x = s ∨ (x ∈ l ∧ x.client ≠ s.client) := by
  unfold putT at h
  rcases List.mem_append.1 h with h | h
  · rw [List.mem_filter] at h
    exact .inr ⟨h.1, by have := of_decide_eq_true h.2; omega⟩
  · rcases List.mem_cons.1 h with h | h
    · exact .inl h
    · rw [List.mem_filter] at h
      exact .inr ⟨h.1, by have := of_decide_eq_true h.2; omega⟩
theorem put_inc {l : List Ses} (h : Inc l) (s : Ses) : Inc (putT l s) := by
  unfold putT
  rw [Inc, List.pairwise_append, List.pairwise_cons]
  refine ⟨h.filter _, ⟨fun x hx => ?_, h.filter _⟩, fun x hx y hy => ?_⟩
  · rw [List.mem_filter] at hx
    exact of_decide_eq_true hx.2
  · rw [List.mem_filter] at hx
    have h1 := of_decide_eq_true hx.2
    rcases List.mem_cons.1 hy with rfl | hy
    · exact h1
    · rw [List.mem_filter] at hy
      have h2 := of_decide_eq_true hy.2
      omega
theorem TabOk.put {l : List Ses} (h : TabOk l) {s : Ses} (hs : s.err = 0) (hl : hasT l s.client = true ∨ l.length < 3) : TabOk (putT l s) := by
  refine ⟨?_, fun x hx => ?_, put_inc h.ord s⟩
  · rw [put_len h.ord]
    have := h.len
    rcases hl with hl | hl
    · rw [if_pos hl]; omega
    · split <;> omega
  · rcases mem_put hx with rfl | ⟨hx, _⟩
    · exact hs
    · exact h.one x hx
/-! kept answers -/
end Go.Proofs.Ytoilhpkclabhoaa
namespace Go.Proofs.Ytoilhpkclabhoaa

theorem fresh_all {l : List Ses} {t : Int} (h : ∀ x ∈ l, t - 20 ≤ x.seen) : freshT l t = l := List.filter_eq_self.2 fun x hx => by simpa using h x hx
theorem StOk.tick {s : Sta} (h : StOk s) {t : Int} (ht : t ≤ s.clock) : s.tick t = ⟨s.pos + 1, s.clock, s.vals, s.table⟩ := by
  have e : max s.clock t = s.clock := by omega
  unfold Sta.tick
  rw [e, fresh_all fun x hx => (h.seen x hx).1]
end Go.Proofs.Ytoilhpkclabhoaa
