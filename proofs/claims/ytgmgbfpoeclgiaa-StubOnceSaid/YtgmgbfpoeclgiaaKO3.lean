/- A client that calls again and again, of one session that lives: each number whose answer has come was done once, and none twice. No program in sight. No conditions. Symbolic runs of functions: what each leaves to prove is enough for its call. Printed by a program of ours. No conditions. portagelaw.StubOnce: a client calls again and again. No conditions. -/
import Derived.Test.YtgmgbfpoeclgiaaKX1
import Derived.Test.YtgmgbfpoeclgiaaKT2
import Derived.Test.YtgmgbfpoeclgiaaKE3
import Derived.Test.YtgmgbfpoeclgiaaProg
import Derived.Test.YtgmgbfpoeclgiaaKF3
import Derived.Test.YtgmgbfpoeclgiaaKP1
import Derived.Test.YtgmgbfpoeclgiaaKT3
set_option linter.unusedVariables false
set_option linter.unusedSimpArgs false
namespace Go.Proofs.Ytgmgbfpoeclgiaa
def oneX : POp := ⟨2, 1, 0, 1⟩
def many (l : List Ent) (q : Int) : Nat := manyAt l 1 q (picks 0 (doneL l))
def sumMany (l : List Ent) : Nat → Nat
  | 0 => 0
  | n + 1 => sumMany l n + many l ((n : Int) + 1)
/-- a number's answer is told by a session -/
def T1 (x : Ses) (q : Int) : Prop := q ≤ x.acked ∨ hasK x.kept q = true
/-- a call that was sent -/
structure Sent (s : Stb) (e : Ent) : Prop where
  kind : e.kind = 2
  time : e.time = 0
  client : e.client = 1
  seq : 1 ≤ e.seq ∧ e.seq < s.next
  ack : 0 ≤ e.ack ∧ e.ack < e.seq
  op : e.op = oneX
  came : ∀ j : Int, 1 ≤ j → j ≤ e.ack → j ∈ s.came
structure Lives (l : List Ent) (s : Stb) (x : Ses) : Prop where
  ok : ∀ e ∈ l, EntOk e
  stub : StbOk s
  client : s.client = 1
  clock : (foldS Sta.zero l).clock = 0
  table : (foldS Sta.zero l).table = [x]
  xc : x.client = 1
  xs : x.seen = 0
  once : ∀ q : Int, 1 ≤ q → (T1 x q → many l q = 1) ∧ (¬ T1 x q → many l q = 0)
  came : ∀ q ∈ s.came, T1 x q
  acked : ∀ j : Int, 1 ≤ j → j ≤ x.acked → j ∈ s.came
  kept : ∀ q : Int, hasK x.kept q = true → q < s.next
  vals : (foldS Sta.zero l).vals = ⟨0, ((sumMany l (s.next - 1).toNat : Nat) : Int), 0, 0⟩
theorem many_snoc (l : List Ent) (e : Ent) (q : Int) : many (l ++ [e]) q = many l q + if ((foldS Sta.zero l).apply e).2.2 = true ∧ e.client = 1 ∧ e.seq = q then 1 else 0 := by
  have hd : doneL (l ++ [e]) = doneL l ++ [((foldS Sta.zero l).apply e).2.2] := by unfold doneL; rw [foldB_append]; rfl
  have hpre : manyAt (l ++ [e]) 1 q (picks 0 (doneL l)) = manyAt l 1 q (picks 0 (doneL l)) := by
    unfold manyAt
    congr 1
    apply List.filter_congr
    intro i hi
    have h1 := (mem_picks.1 hi).2
    rw [Nat.sub_zero] at h1
    have h2 := (List.getElem?_eq_some_iff.1 h1).1
    rw [doneL_len] at h2
    unfold isCall
    rw [List.getElem?_append_left h2]
  unfold many
  rw [hd, picks_append, Nat.zero_add, doneL_len]
  cases hb : ((foldS Sta.zero l).apply e).2.2 with
  | false => simp [picks, hpre]
  | true =>
    have h1 : picks l.length [true] = [l.length] := by simp [picks]
    rw [h1, manyAt_snoc (e := e) (by simp), hpre]
    simp
theorem sum_le {l : List Ent} (h : ∀ q : Int, 1 ≤ q → many l q ≤ 1) : ∀ n, sumMany l n ≤ n
  | 0 => Nat.le_refl _
  | n + 1 => by
    have h1 := sum_le h n
    have h2 := h ((n : Int) + 1) (by omega)
    simp only [sumMany]
    omega
theorem sum_eq {l l' : List Ent} (h : ∀ q : Int, 1 ≤ q → many l' q = many l q) : ∀ n, sumMany l' n = sumMany l n
  | 0 => rfl
  | n + 1 => by simp only [sumMany]; rw [sum_eq h n, h _ (by omega)]
theorem sum_one {l l' : List Ent} {q0 : Int} (h : ∀ q : Int, 1 ≤ q → many l' q = many l q + if q0 = q then 1 else 0) (h0 : 1 ≤ q0) : ∀ n : Nat, sumMany l' n = sumMany l n + if q0 ≤ (n : Int) then 1 else 0
  | 0 => by rw [if_neg (by omega)]; rfl
  | n + 1 => by
    simp only [sumMany]
    rw [sum_one h h0 n, h _ (by omega)]
    by_cases h1 : q0 = (n : Int) + 1
    · rw [if_pos h1, if_neg (by omega), if_pos (by omega)]; omega
    · by_cases h2 : q0 ≤ (n : Int)
      · rw [if_neg h1, if_pos h2, if_pos (by omega)]; omega
      · rw [if_neg h1, if_neg h2, if_neg (by omega)]; omega
theorem apply_sent {S : Sta} {x : Ses} {s : Stb} {e : Ent} (hck : S.clock = 0) (ht : S.table = [x]) (hc : x.client = 1) (hs : x.seen = 0) (he : Sent s e) :
    S.apply e = Sta.calls ⟨S.pos + 1, 0, S.vals, [x]⟩ (x.ack 0 e.ack) e := by
  have htick : S.tick e.time = ⟨S.pos + 1, 0, S.vals, [x]⟩ := by
    unfold Sta.tick
    rw [hck, he.time, ht]
    simp [freshT, hs]
  unfold Sta.apply
  rw [htick]
  unfold Sta.does
  have h1 : ¬ e.kind = 1 := by rw [he.kind]; decide
  have h3 : ¬ e.kind = 3 := by rw [he.kind]; decide
  have hh : hasT [x] e.client = true := by simp [hasT, hc, he.client]
  have hf : findT [x] e.client = x := by simp [findT, hc, he.client]
  simp only [if_neg h1, if_neg h3, hh, if_true, hf]
theorem put_one {x y : Ses} (h : x.client = y.client) : putT [x] y = [y] := by simp [putT, h]
theorem Sent.ok {s : Stb} {e : Ent} (h : Sent s e) (hs : StbOk s) : EntOk e := by
  have h1 := h.kind; have h2 := h.time; have h3 := h.client; have h4 := h.seq; have h5 := h.ack; have h6 := hs.next
  refine ⟨by omega, by omega, by omega, fun _ => ⟨by omega, by omega, ?_⟩, fun hh => absurd h1 hh⟩
  rw [h.op]; decide
theorem turn_one {V : Int} (h : 0 ≤ V ∧ V ≤ 998) : oneX.turn ⟨0, V, 0, 0⟩ = (⟨0, V + 1, 0, 0⟩, V + 1) := by
  have h1 : (V4.mk 0 (V + 1) 0 0).ok = true := by rw [V4.ok_iff]; simp only; omega
  simp only [POp.turn, oneX, V4.set, V4.get, show ¬ ((2 : Int) = 1) by decide, show ¬ ((1 : Int) = 0) by decide, if_true, if_false, h1]
theorem Lives.sent {l : List Ent} {s : Stb} {x : Ses} {e : Ent} (h : Lives l s x) (he : Sent s e) :
    ∃ y, Lives (l ++ [e]) s y ∧ (-1 ≤ ((foldS Sta.zero l).apply e).2.1 → T1 y e.seq) := by
  have hap := apply_sent h.clock h.table h.xc h.xs he
  have hS : foldS Sta.zero (l ++ [e]) = ((foldS Sta.zero l).apply e).1 := by rw [foldS_append]; rfl
  have hmany := many_snoc l e
  have hok : ∀ z ∈ l ++ [e], EntOk z := fun z hz => by
    rcases List.mem_append.1 hz with h1 | h1
    · exact h.ok z h1
    · simp only [List.mem_singleton] at h1; subst h1; exact he.ok h.stub
  have k1 : ∀ q : Int, hasK (x.ack 0 e.ack).kept q = true → hasK x.kept q = true := fun q hq => by
    obtain ⟨r, h1, h2⟩ := hasK_iff.1 hq
    exact hasK_iff.2 ⟨r, (List.mem_filter.1 h1).1, h2⟩
  have tq : ∀ q : Int, 1 ≤ q → (T1 (x.ack 0 e.ack) q ↔ T1 x q) := fun q h1 => by
    constructor
    · rintro (h2 | h2)
      · have h3 : q ≤ max x.acked e.ack := h2
        by_cases h4 : q ≤ x.acked
        · exact .inl h4
        · exact h.came q (he.came q h1 (by omega))
      · exact .inr (k1 q h2)
    · exact told_ack
  have ak : ∀ j : Int, 1 ≤ j → j ≤ (x.ack 0 e.ack).acked → j ∈ s.came := fun j h1 h2 => by
    have h3 : j ≤ max x.acked e.ack := h2
    by_cases h4 : j ≤ x.acked
    · exact h.acked j h1 h4
    · exact he.came j h1 (by omega)
  have hx1 : (x.ack 0 e.ack).client = 1 := h.xc
  have hx2 : (x.ack 0 e.ack).seen = 0 := rfl
  have hcp : ∀ q ∈ s.came, 1 ≤ q := fun q hq => by have := h.stub.came q hq; omega
  rw [hap] at hmany hS ⊢
  generalize x.ack 0 e.ack = z at k1 tq ak hx1 hx2 hmany hS
  unfold Sta.calls at hmany hS ⊢
  have hp : putT [x] z = [z] := put_one (h.xc.trans hx1.symm)
  have stay : (∀ q, many (l ++ [e]) q = many l q) → foldS Sta.zero (l ++ [e]) = ⟨(foldS Sta.zero l).pos + 1, 0, (foldS Sta.zero l).vals, [z]⟩ → Lives (l ++ [e]) s z := fun m1 m2 =>
    ⟨hok, h.stub, h.client, by rw [m2], by rw [m2], hx1, hx2, fun q hq => by rw [m1, tq q hq]; exact h.once q hq, fun q hq => (tq q (hcp q hq)).2 (h.came q hq), ak, fun q hq => h.kept q (k1 q hq), by
      rw [m2, sum_eq (fun q _ => m1 q)]; exact h.vals⟩
  by_cases c1 : e.seq ≤ z.acked
  · rw [if_pos c1] at hmany hS ⊢
    exact ⟨z, stay (fun q => by rw [hmany]; simp) (by rw [hS]; simp only [hp]), fun hh => .inl c1⟩
  · rw [if_neg c1] at hmany hS ⊢
    by_cases c2 : hasK z.kept e.seq = true
    · rw [if_pos c2] at hmany hS ⊢
      exact ⟨z, stay (fun q => by rw [hmany]; simp) (by rw [hS]; simp only [hp]), fun hh => .inr c2⟩
    · rw [if_neg c2] at hmany hS ⊢
      by_cases c3 : z.acked + 3 < e.seq
      · rw [if_pos c3] at hmany hS ⊢
        exact ⟨z, stay (fun q => by rw [hmany]; simp) (by rw [hS]; simp only [hp]), fun hh => absurd hh (by simp)⟩
      · rw [if_neg c3] at hmany hS ⊢
        have hno : ¬ T1 x e.seq := fun hh => by
          rcases (tq e.seq he.seq.1).2 hh with h1 | h1
          · exact c1 h1
          · exact c2 h1
        have hle := sum_le (l := l) (fun q hq => by
          by_cases ht : T1 x q
          · rw [(h.once q hq).1 ht]; exact Nat.le_refl _
          · rw [(h.once q hq).2 ht]; omega) (s.next - 1).toNat
        have hnx := h.stub.next
        have hV := h.vals
        have htn := turn_one (V := ((sumMany l (s.next - 1).toNat : Nat) : Int)) (by omega)
        rw [← hV, ← he.op] at htn
        simp only [htn] at hS hmany ⊢
        have hp2 : putT [x] { z with kept := putK z.kept ⟨e.seq, ((sumMany l (s.next - 1).toNat : Nat) : Int) + 1⟩ } = [{ z with kept := putK z.kept ⟨e.seq, ((sumMany l (s.next - 1).toNat : Nat) : Int) + 1⟩ }] := put_one (h.xc.trans hx1.symm)
        rw [hp2] at hS
        have m1 : ∀ q, many (l ++ [e]) q = many l q + if e.seq = q then 1 else 0 := fun q => by rw [hmany]; simp [he.client]
        have kk : ∀ q : Int, hasK (putK z.kept ⟨e.seq, ((sumMany l (s.next - 1).toNat : Nat) : Int) + 1⟩) q = true ↔ hasK z.kept q = true ∨ q = e.seq := fun q => by
          constructor
          · intro hh
            obtain ⟨r, h1, h2⟩ := hasK_iff.1 hh
            rcases mem_putK h1 with rfl | ⟨h3, _⟩
            · exact .inr h2.symm
            · exact .inl (hasK_iff.2 ⟨r, h3, h2⟩)
          · rintro (hh | hh)
            · obtain ⟨r, h1, h2⟩ := hasK_iff.1 hh
              by_cases h4 : r.seq = e.seq
              · exact hasK_iff.2 ⟨_, mem_put_selfK _ _, by simp only; omega⟩
              · exact hasK_iff.2 ⟨r, mem_put_otherK h1 h4, h2⟩
            · exact hasK_iff.2 ⟨_, mem_put_selfK _ _, hh.symm⟩
        have tt : ∀ q : Int, T1 { z with kept := putK z.kept ⟨e.seq, ((sumMany l (s.next - 1).toNat : Nat) : Int) + 1⟩ } q ↔ T1 z q ∨ q = e.seq := fun q => by
          unfold T1
          rw [kk]
          exact or_assoc.symm
        refine ⟨{ z with kept := putK z.kept ⟨e.seq, ((sumMany l (s.next - 1).toNat : Nat) : Int) + 1⟩ }, ⟨hok, h.stub, h.client, by rw [hS], by rw [hS], hx1, hx2, fun q hq => ?_, fun q hq => (tt q).2 (.inl ((tq q (hcp q hq)).2 (h.came q hq))), ak, fun q hq => ?_, ?_⟩, fun _ => (tt _).2 (.inr rfl)⟩
        · rw [m1, tt, tq q hq]
          by_cases hqe : e.seq = q
          · subst hqe
            rw [if_pos rfl, (h.once _ hq).2 hno]
            exact ⟨fun _ => rfl, fun hh => absurd (.inr rfl) hh⟩
          · rw [if_neg hqe]
            exact ⟨fun hh => (h.once q hq).1 (hh.resolve_right fun h1 => hqe h1.symm), fun hh => (h.once q hq).2 fun h1 => hh (.inl h1)⟩
        · rcases (kk q).1 hq with h1 | h1
          · exact h.kept q (k1 q h1)
          · subst h1; exact he.seq.2
        · rw [hS, sum_one (fun q _ => m1 q) he.seq.1, if_pos (by have := he.seq; omega)]
          simp
theorem Lives.not_next {l : List Ent} {s : Stb} {x : Ses} (h : Lives l s x) : many l s.next = 0 := by
  have hn := h.stub.next
  refine (h.once s.next hn.1).2 ?_
  rintro (h1 | h1)
  · have := h.stub.came _ (h.acked s.next hn.1 h1); omega
  · have := h.kept _ h1; omega
theorem Lives.next {l : List Ent} {s : Stb} {x : Ses} (h : Lives l s x) (hn : s.next ≤ 60) : Lives l { s with next := s.next + 1 } x := by
  have h0 := h.stub.next
  have h1 := h.not_next
  refine ⟨h.ok, ⟨h.stub.client, by simp only; omega, fun q hq => ?_, h.stub.ord⟩, h.client, h.clock, h.table, h.xc, h.xs, h.once, h.came, h.acked, fun q hq => ?_, ?_⟩
  · have := h.stub.came q hq; simp only; omega
  · have := h.kept q hq; simp only; omega
  · rw [h.vals]
    have e1 : (s.next + 1 - 1).toNat = (s.next - 1).toNat + 1 := by omega
    simp only [e1, sumMany]
    rw [show (((s.next - 1).toNat : Nat) : Int) + 1 = s.next by omega, h1]; rfl
theorem Lives.put {l : List Ent} {s : Stb} {x : Ses} (h : Lives l s x) {q : Int} (h1 : 1 ≤ q) (h2 : q < s.next) (ht : T1 x q) : Lives l { s with came := putI s.came q } x := by
  refine ⟨h.ok, ⟨h.stub.client, h.stub.next, fun y hy => ?_, putI_sorted h.stub.ord q⟩, h.client, h.clock, h.table, h.xc, h.xs, h.once, fun y hy => ?_, fun j a b => (putI_mem _ _ _).2 (.inr (h.acked j a b)), h.kept, h.vals⟩
  · rcases (putI_mem _ _ _).1 hy with rfl | h3
    · simp only; omega
    · exact h.stub.came y h3
  · rcases (putI_mem _ _ _).1 hy with rfl | h3
    · exact ht
    · exact h.came y h3
theorem Sent.next {s : Stb} {e : Ent} (h : Sent s e) : Sent { s with next := s.next + 1 } e := ⟨h.kind, h.time, h.client, ⟨h.seq.1, by have := h.seq.2; simp only; omega⟩, h.ack, h.op, h.came⟩
theorem Sent.put {s : Stb} {e : Ent} (h : Sent s e) (q : Int) : Sent { s with came := putI s.came q } e := ⟨h.kind, h.time, h.client, h.seq, h.ack, h.op, fun j a b => (putI_mem _ _ _).2 (.inr (h.came j a b))⟩
def openE : Ent := ⟨1, 0, 1, 0, 0, ⟨0, 0, 0, 0⟩⟩
theorem open_s : foldS Sta.zero [openE] = ⟨1, 0, ⟨0, 0, 0, 0⟩, [⟨1, 0, 0, []⟩]⟩ := by decide +kernel
theorem open_d : doneL [openE] = [false] := by decide +kernel
theorem Lives.begin : Lives [openE] ⟨1, 1, []⟩ ⟨1, 0, 0, []⟩ := by
  have hm : ∀ q, many [openE] q = 0 := fun q => by unfold many; rw [open_d]; rfl
  refine ⟨fun e he => ?_, ⟨by decide, by decide, fun x hx => (by cases hx), List.Pairwise.nil⟩, rfl, by rw [open_s], by rw [open_s], rfl, rfl, fun q hq => ⟨fun h => ?_, fun _ => hm q⟩, fun q hq => (by cases hq), fun j h1 h2 => ?_, fun q hq => (by cases hq), by rw [open_s]; rfl⟩
  · simp only [List.mem_singleton] at he
    subst he
    exact Ent.err_ok.1 (by decide)
  · rcases h with h | h
    · simp only at h; omega
    · cases h
  · simp only at h2; omega
/-- a call as a right client makes it -/
theorem sent_call {s : Stb} (h : StbOk s) (hc : s.client = 1) {q : Int} (h1 : 1 ≤ q) (h2 : q < s.next) : Sent s (s.call 0 q oneX) := by
  have hm : ∀ j : Int, 1 ≤ j → j ≤ ((ackF 0 s.came : Nat) : Int) → j ∈ s.came := fun j a b => by
    have := ackF_mem s.came 0 (j - 1).toNat (by omega) (by omega)
    rw [show (((j - 1).toNat : Nat) : Int) + 1 = j by omega] at this
    exact this
  refine ⟨rfl, rfl, hc, ⟨h1, h2⟩, ?_, rfl, fun j a b => ?_⟩
  · simp only [Stb.call]; split <;> omega
  · simp only [Stb.call] at b
    exact hm j a (by split at b <;> omega)
theorem sent_next {s : Stb} (h : StbOk s) (hc : s.client = 1) : Sent { s with next := s.next + 1 } (s.call 0 s.next oneX) := by
  have hn := h.next
  have hm : ∀ j : Int, 1 ≤ j → j ≤ ((ackF 0 s.came : Nat) : Int) → j ∈ s.came := fun j a b => by
    have := ackF_mem s.came 0 (j - 1).toNat (by omega) (by omega)
    rw [show (((j - 1).toNat : Nat) : Int) + 1 = j by omega] at this
    exact this
  refine ⟨rfl, rfl, hc, ⟨hn.1, by simp only [Stb.call]; omega⟩, ?_, rfl, fun j a b => ?_⟩
  · simp only [Stb.call]; split <;> omega
  · simp only [Stb.call] at b
    exact hm j a (by split at b <;> omega)
end Go.Proofs.Ytgmgbfpoeclgiaa
namespace Go.Proofs.Ytgmgbfpoeclgiaa
open Go.RowKit
set_option maxRecDepth 100000
set_option maxHeartbeats 4000000
def v_stubOnce : VC :=
(.call 24 [.int .i64 (.k 0), .int .i64 (.k 1)] [] [(3, .i), (4, .i), (5, .i), (6, .i), (7, .i), (8, .i), (9, .i), (10, .i), (11, .i)] (.agg [.int .i64 (.v 3), .int .i64 (.v 4), .int .i64 (.v 5), .int .i64 (.v 6), .int .i64 (.v 7), .int .i64 (.v 8), .int .i64 (.v 9), .int .i64 (.v 10), .int .i64 (.v 11)]) .same
(.hold 12 [.int .i64 (.v 3), .int .i64 (.v 4), .int .i64 (.v 5), .int .i64 (.v 6), .int .i64 (.v 7), .int .i64 (.v 8), .int .i64 (.v 9), .int .i64 (.v 10), .int .i64 (.v 11)] 43
(.all 0
(.loop [(13, .n), (14, .p), (15, .n), (16, .n), (17, .p), (18, .n), (19, .n), (20, .i), (21, .i), (22, .p), (23, .n), (24, .n)] [.n (.k 0), .pn, .n (.k 0), .n (.k 0), .p 12 (.k 0), .n (.k 1), .n (.k 1), .i (.k 1), .i (.k 1), .pn, .n (.k 0), .n (.k 0)] [.n (.v 13), .p 14 (.k 0), .n (.v 15), .n (.v 16), .p 17 (.k 0), .n (.v 18), .n (.v 19), .i (.v 20), .i (.v 21), .p 22 (.k 0), .n (.v 23), .n (.v 24)]
(.chk (.le (.k 0) (.v 1))
(.ite (.lt (.v 13) (.v 1))
(.ite (.lt (.v 13) (.k 30))
(.all 1
(.chk (.idx (.v 13) (.v 1))
(.chk (.isp 0)
(.ld 0 (.add (.k 0) (.mul (.v 13) (.k 1))) [.int .i64 (.v 25)] [(25, .i)]
(.call 16 [.int .i64 (.v 25), .int .i64 (.k 4)] [] [(26, .i)] (.int .i64 (.v 26)) .same
(.ite (.eq (.v 26) (.k 0))
(.call 25 [.agg [.int .i64 (.v 20), .int .i64 (.v 21), .slO 22 (.k 0) (.v 23) (.v 24)], .int .i64 (.k 0), .agg [.int .i64 (.k 2), .int .i64 (.k 1), .int .i64 (.k 0), .int .i64 (.k 1)]] [] [(27, .i), (28, .i), (29, .p), (30, .n), (31, .n), (32, .i), (33, .i), (34, .i), (35, .i), (36, .i), (37, .i), (38, .i), (39, .i), (40, .i), (41, .i)] (.tup [.agg [.int .i64 (.v 27), .int .i64 (.v 28), .slO 29 (.k 0) (.v 30) (.v 31)], .agg [.int .i64 (.v 32), .int .i64 (.v 33), .int .i64 (.v 34), .int .i64 (.v 35), .int .i64 (.v 36), .int .i64 (.v 37), .int .i64 (.v 38), .int .i64 (.v 39), .int .i64 (.v 40)], .int .i64 (.v 41)]) .fresh
(.all 2
(.all 3
(.ite (.eq (.v 41) (.k 0))
(.all 4
(.esc (.bi .append #[26, 26] 26) [.slO 14 (.k 0) (.v 15) (.v 16), .slK 4 0 1 1] [(4, ⟨[.int .i64 (.v 32), .int .i64 (.v 33), .int .i64 (.v 34), .int .i64 (.v 35), .int .i64 (.v 36), .int .i64 (.v 37), .int .i64 (.v 38), .int .i64 (.v 39), .int .i64 (.v 40)], 43⟩)] [(42, .p), (43, .n), (44, .n)] (some (.slO 42 (.k 0) (.v 43) (.v 44))) .turn
(.chk (.rng .i64 (.add (.v 13) (.k 1)))
(.chk (.le (.k 0) (.add (.v 13) (.k 1)))
(.chk (.le (.k 0) (.v 43))
(.chk (.le (.k 0) (.v 44))
(.chk (.le (.k 0) (.v 18))
(.chk (.le (.k 0) (.v 19))
(.chk (.le (.k 0) (.v 30))
(.chk (.le (.k 0) (.v 31))
(.back 0 [.n (.add (.v 13) (.k 1)), .p 42 (.k 0), .n (.v 43), .n (.v 44), .p 17 (.k 0), .n (.v 18), .n (.v 19), .i (.v 27), .i (.v 28), .p 29 (.k 0), .n (.v 30), .n (.v 31)])))))))))))
(.chk (.rng .i64 (.add (.v 13) (.k 1)))
(.chk (.le (.k 0) (.add (.v 13) (.k 1)))
(.chk (.le (.k 0) (.v 15))
(.chk (.le (.k 0) (.v 16))
(.chk (.le (.k 0) (.v 18))
(.chk (.le (.k 0) (.v 19))
(.chk (.le (.k 0) (.v 23))
(.chk (.le (.k 0) (.v 24))
(.back 0 [.n (.add (.v 13) (.k 1)), .p 14 (.k 0), .n (.v 15), .n (.v 16), .p 17 (.k 0), .n (.v 18), .n (.v 19), .i (.v 20), .i (.v 21), .p 22 (.k 0), .n (.v 23), .n (.v 24)])))))))))))))
(.ite (.eq (.v 26) (.k 1))
(.ld 0 (.add (.k 0) (.mul (.v 13) (.k 1))) [.int .i64 (.v 27)] [(27, .i)]
(.esc (.bop .quo 3 (.tmp 128) (.const (Value.int .i64 4))) [.int .i64 (.v 27), .int .i64 (.k 4)] [] [(28, .i)] (some (.int .i64 (.v 28))) .same
(.call 16 [.int .i64 (.v 28), .int .i64 (.k 9)] [] [(29, .i)] (.int .i64 (.v 29)) .same
(.chk (.rng .i64 (.add (.k 1) (.v 29)))
(.call 26 [.agg [.int .i64 (.v 20), .int .i64 (.v 21), .slO 22 (.k 0) (.v 23) (.v 24)], .int .i64 (.k 0), .int .i64 (.add (.k 1) (.v 29)), .agg [.int .i64 (.k 2), .int .i64 (.k 1), .int .i64 (.k 0), .int .i64 (.k 1)]] [] [(30, .i), (31, .i), (32, .i), (33, .i), (34, .i), (35, .i), (36, .i), (37, .i), (38, .i), (39, .i)] (.tup [.agg [.int .i64 (.v 30), .int .i64 (.v 31), .int .i64 (.v 32), .int .i64 (.v 33), .int .i64 (.v 34), .int .i64 (.v 35), .int .i64 (.v 36), .int .i64 (.v 37), .int .i64 (.v 38)], .int .i64 (.v 39)]) .same
(.all 2
(.ite (.eq (.v 39) (.k 0))
(.all 3
(.esc (.bi .append #[26, 26] 26) [.slO 14 (.k 0) (.v 15) (.v 16), .slK 3 0 1 1] [(3, ⟨[.int .i64 (.v 30), .int .i64 (.v 31), .int .i64 (.v 32), .int .i64 (.v 33), .int .i64 (.v 34), .int .i64 (.v 35), .int .i64 (.v 36), .int .i64 (.v 37), .int .i64 (.v 38)], 43⟩)] [(40, .p), (41, .n), (42, .n)] (some (.slO 40 (.k 0) (.v 41) (.v 42))) .turn
(.chk (.rng .i64 (.add (.v 13) (.k 1)))
(.chk (.le (.k 0) (.add (.v 13) (.k 1)))
(.chk (.le (.k 0) (.v 41))
(.chk (.le (.k 0) (.v 42))
(.chk (.le (.k 0) (.v 18))
(.chk (.le (.k 0) (.v 19))
(.chk (.le (.k 0) (.v 23))
(.chk (.le (.k 0) (.v 24))
(.back 0 [.n (.add (.v 13) (.k 1)), .p 40 (.k 0), .n (.v 41), .n (.v 42), .p 17 (.k 0), .n (.v 18), .n (.v 19), .i (.v 20), .i (.v 21), .p 22 (.k 0), .n (.v 23), .n (.v 24)])))))))))))
(.chk (.rng .i64 (.add (.v 13) (.k 1)))
(.chk (.le (.k 0) (.add (.v 13) (.k 1)))
(.chk (.le (.k 0) (.v 15))
(.chk (.le (.k 0) (.v 16))
(.chk (.le (.k 0) (.v 18))
(.chk (.le (.k 0) (.v 19))
(.chk (.le (.k 0) (.v 23))
(.chk (.le (.k 0) (.v 24))
(.back 0 [.n (.add (.v 13) (.k 1)), .p 14 (.k 0), .n (.v 15), .n (.v 16), .p 17 (.k 0), .n (.v 18), .n (.v 19), .i (.v 20), .i (.v 21), .p 22 (.k 0), .n (.v 23), .n (.v 24)]))))))))))))))))
(.chk (.le (.k 0) (.v 15))
(.ite (.eq (.v 15) (.k 0))
(.chk (.rng .i64 (.add (.v 13) (.k 1)))
(.chk (.le (.k 0) (.add (.v 13) (.k 1)))
(.chk (.le (.k 0) (.v 16))
(.chk (.le (.k 0) (.v 18))
(.chk (.le (.k 0) (.v 19))
(.chk (.le (.k 0) (.v 23))
(.chk (.le (.k 0) (.v 24))
(.back 0 [.n (.add (.v 13) (.k 1)), .p 14 (.k 0), .n (.v 15), .n (.v 16), .p 17 (.k 0), .n (.v 18), .n (.v 19), .i (.v 20), .i (.v 21), .p 22 (.k 0), .n (.v 23), .n (.v 24)]))))))))
(.ld 0 (.add (.k 0) (.mul (.v 13) (.k 1))) [.int .i64 (.v 27)] [(27, .i)]
(.esc (.bop .quo 3 (.tmp 55) (.const (Value.int .i64 4))) [.int .i64 (.v 27), .int .i64 (.k 4)] [] [(28, .i)] (some (.int .i64 (.v 28))) .same
(.call 16 [.int .i64 (.v 28), .int .i64 (.v 15)] [] [(29, .i)] (.int .i64 (.v 29)) .same
(.chk (.idx (.v 29) (.v 15))
(.chk (.isp 14)
(.ld 14 (.add (.k 0) (.mul (.v 29) (.k 9))) [.int .i64 (.v 30), .int .i64 (.v 31), .int .i64 (.v 32), .int .i64 (.v 33), .int .i64 (.v 34), .int .i64 (.v 35), .int .i64 (.v 36), .int .i64 (.v 37), .int .i64 (.v 38)] [(30, .i), (31, .i), (32, .i), (33, .i), (34, .i), (35, .i), (36, .i), (37, .i), (38, .i)]
(.all 2
(.call 28 [] [] [(39, .i), (40, .i), (41, .i), (42, .i), (43, .i), (44, .i), (45, .p), (46, .n), (47, .n)] (.agg [.int .i64 (.v 39), .int .i64 (.v 40), .int .i64 (.v 41), .int .i64 (.v 42), .int .i64 (.v 43), .int .i64 (.v 44), .slO 45 (.k 0) (.v 46) (.v 47)]) .fresh
(.all 3
(.esc (.bi .append #[26, 26] 26) [.slK 3 0 0 0, .slO 17 (.k 0) (.v 18) (.v 19)] [(3, ⟨[], 43⟩)] [(48, .p), (49, .n), (50, .n)] (some (.slO 48 (.k 0) (.v 49) (.v 50))) .turn
(.all 4
(.esc (.bi .append #[26, 26] 26) [.slO 48 (.k 0) (.v 49) (.v 50), .slK 4 0 1 1] [(4, ⟨[.int .i64 (.v 30), .int .i64 (.v 31), .int .i64 (.v 32), .int .i64 (.v 33), .int .i64 (.v 34), .int .i64 (.v 35), .int .i64 (.v 36), .int .i64 (.v 37), .int .i64 (.v 38)], 43⟩)] [(51, .p), (52, .n), (53, .n)] (some (.slO 51 (.k 0) (.v 52) (.v 53))) .turn
(.call 27 [.agg [.int .i64 (.v 39), .int .i64 (.v 40), .int .i64 (.v 41), .int .i64 (.v 42), .int .i64 (.v 43), .int .i64 (.v 44), .slO 45 (.k 0) (.v 46) (.v 47)], .slO 51 (.k 0) (.v 52) (.v 53)] [] [(54, .i), (55, .i), (56, .i), (57, .i), (58, .i), (59, .i), (60, .p), (61, .n), (62, .n), (63, .p), (64, .n), (65, .n), (66, .i)] (.tup [.agg [.int .i64 (.v 54), .int .i64 (.v 55), .int .i64 (.v 56), .int .i64 (.v 57), .int .i64 (.v 58), .int .i64 (.v 59), .slO 60 (.k 0) (.v 61) (.v 62)], .slO 63 (.k 0) (.v 64) (.v 65), .int .i64 (.v 66)]) .fresh
(.all 5
(.ite (.eq (.v 66) (.k 0))
(.chk (.le (.k 0) (.v 64))
(.chk (.le (.k 0) (.v 18))
(.chk (.rng .i64 (.add (.v 18) (.k 1)))
(.ite (.eq (.v 64) (.add (.v 18) (.k 1)))
(.all 6
(.esc (.bi .append #[26, 26] 26) [.slO 17 (.k 0) (.v 18) (.v 19), .slK 6 0 1 1] [(6, ⟨[.int .i64 (.v 30), .int .i64 (.v 31), .int .i64 (.v 32), .int .i64 (.v 33), .int .i64 (.v 34), .int .i64 (.v 35), .int .i64 (.v 36), .int .i64 (.v 37), .int .i64 (.v 38)], 43⟩)] [(67, .p), (68, .n), (69, .n)] (some (.slO 67 (.k 0) (.v 68) (.v 69))) .turn
(.chk (.le (.k 0) (.v 68))
(.chk (.rng .i64 (.sub (.v 68) (.k 1)))
(.chk (.idx (.sub (.v 68) (.k 1)) (.v 64))
(.chk (.isp 63)
(.ld 63 (.add (.k 0) (.mul (.sub (.v 68) (.k 1)) (.k 1))) [.int .i64 (.v 70)] [(70, .i)]
(.ite (.lt (.v 70) (.k (-1)))
(.chk (.rng .i64 (.add (.v 13) (.k 1)))
(.chk (.le (.k 0) (.add (.v 13) (.k 1)))
(.chk (.le (.k 0) (.v 16))
(.chk (.le (.k 0) (.v 69))
(.chk (.le (.k 0) (.v 23))
(.chk (.le (.k 0) (.v 24))
(.back 0 [.n (.add (.v 13) (.k 1)), .p 14 (.k 0), .n (.v 15), .n (.v 16), .p 67 (.k 0), .n (.v 68), .n (.v 69), .i (.v 20), .i (.v 21), .p 22 (.k 0), .n (.v 23), .n (.v 24)])))))))
(.call 29 [.agg [.int .i64 (.v 20), .int .i64 (.v 21), .slO 22 (.k 0) (.v 23) (.v 24)], .int .i64 (.v 33)] [] [(71, .i), (72, .i), (73, .p), (74, .n), (75, .n), (76, .i)] (.tup [.agg [.int .i64 (.v 71), .int .i64 (.v 72), .slO 73 (.k 0) (.v 74) (.v 75)], .int .i64 (.v 76)]) .fresh
(.all 7
(.ite (.eq (.v 76) (.k 0))
(.chk (.rng .i64 (.add (.v 13) (.k 1)))
(.chk (.le (.k 0) (.add (.v 13) (.k 1)))
(.chk (.le (.k 0) (.v 16))
(.chk (.le (.k 0) (.v 69))
(.chk (.le (.k 0) (.v 74))
(.chk (.le (.k 0) (.v 75))
(.back 0 [.n (.add (.v 13) (.k 1)), .p 14 (.k 0), .n (.v 15), .n (.v 16), .p 67 (.k 0), .n (.v 68), .n (.v 69), .i (.v 71), .i (.v 72), .p 73 (.k 0), .n (.v 74), .n (.v 75)])))))))
(.chk (.rng .i64 (.add (.v 13) (.k 1)))
(.chk (.le (.k 0) (.add (.v 13) (.k 1)))
(.chk (.le (.k 0) (.v 16))
(.chk (.le (.k 0) (.v 69))
(.chk (.le (.k 0) (.v 23))
(.chk (.le (.k 0) (.v 24))
(.back 0 [.n (.add (.v 13) (.k 1)), .p 14 (.k 0), .n (.v 15), .n (.v 16), .p 67 (.k 0), .n (.v 68), .n (.v 69), .i (.v 20), .i (.v 21), .p 22 (.k 0), .n (.v 23), .n (.v 24)]))))))))))))))))))
(.ret (.bool (.k false)) [])))))
(.ret (.bool (.k false)) [])))))))))))))))))))))))))
(.call 28 [] [] [(25, .i), (26, .i), (27, .i), (28, .i), (29, .i), (30, .i), (31, .p), (32, .n), (33, .n)] (.agg [.int .i64 (.v 25), .int .i64 (.v 26), .int .i64 (.v 27), .int .i64 (.v 28), .int .i64 (.v 29), .int .i64 (.v 30), .slO 31 (.k 0) (.v 32) (.v 33)]) .fresh
(.call 27 [.agg [.int .i64 (.v 25), .int .i64 (.v 26), .int .i64 (.v 27), .int .i64 (.v 28), .int .i64 (.v 29), .int .i64 (.v 30), .slO 31 (.k 0) (.v 32) (.v 33)], .slO 17 (.k 0) (.v 18) (.v 19)] [] [(34, .i), (35, .i), (36, .i), (37, .i), (38, .i), (39, .i), (40, .p), (41, .n), (42, .n), (43, .p), (44, .n), (45, .n), (46, .i)] (.tup [.agg [.int .i64 (.v 34), .int .i64 (.v 35), .int .i64 (.v 36), .int .i64 (.v 37), .int .i64 (.v 38), .int .i64 (.v 39), .slO 40 (.k 0) (.v 41) (.v 42)], .slO 43 (.k 0) (.v 44) (.v 45), .int .i64 (.v 46)]) .fresh
(.all 1
(.ite (.eq (.v 46) (.k 0))
(.ite (.lt (.k 60) (.v 21))
(.call 30 [] [] [(47, .b)] (.bool (.v 47)) .same
(.ret (.bool (.v 47)) []))
(.loop [(47, .n), (48, .i)] [.n (.k 1), .i (.k 0)] [.n (.v 47), .i (.v 48)]
(.ite (.lt (.v 47) (.v 21))
(.call 31 [.slO 17 (.k 0) (.v 18) (.v 19), .int .i64 (.k 1), .int .i64 (.v 47)] [] [(49, .i), (50, .i)] (.tup [.int .i64 (.v 49), .int .i64 (.v 50)]) .same
(.ite (.eq (.v 50) (.k 0))
(.ite (.lt (.k 1) (.v 49))
(.ret (.bool (.k false)) [])
(.chk (.rng .i64 (.add (.v 48) (.v 49)))
(.chk (.rng .i64 (.add (.v 47) (.k 1)))
(.chk (.le (.k 0) (.add (.v 47) (.k 1)))
(.back 0 [.n (.add (.v 47) (.k 1)), .i (.add (.v 48) (.v 49))])))))
(.ret (.bool (.k false)) [])))
(.loop [(49, .n)] [.n (.k 0)] [.n (.v 49)]
(.chk (.le (.k 0) (.v 23))
(.ite (.lt (.v 49) (.v 23))
(.chk (.idx (.v 49) (.v 23))
(.chk (.isp 22)
(.ld 22 (.add (.k 0) (.mul (.v 49) (.k 1))) [.int .i64 (.v 50)] [(50, .i)]
(.call 31 [.slO 17 (.k 0) (.v 18) (.v 19), .int .i64 (.k 1), .int .i64 (.v 50)] [] [(51, .i), (52, .i)] (.tup [.int .i64 (.v 51), .int .i64 (.v 52)]) .same
(.ite (.eq (.v 52) (.k 0))
(.ite (.eq (.v 51) (.k 1))
(.chk (.rng .i64 (.add (.v 49) (.k 1)))
(.chk (.le (.k 0) (.add (.v 49) (.k 1)))
(.back 0 [.n (.add (.v 49) (.k 1))])))
(.ret (.bool (.k false)) []))
(.ret (.bool (.k false)) []))))))
(.call 30 [] [] [(50, .b)] (.bool (.v 50)) .same
(.ite (.v 50)
(.ret (.bool (.eq (.v 37) (.v 48))) [])
(.ret (.bool (.k false)) [])))))))))
(.call 30 [] [] [(47, .b)] (.bool (.v 47)) .same
(.ret (.bool (.v 47)) [])))))))
(.call 28 [] [] [(25, .i), (26, .i), (27, .i), (28, .i), (29, .i), (30, .i), (31, .p), (32, .n), (33, .n)] (.agg [.int .i64 (.v 25), .int .i64 (.v 26), .int .i64 (.v 27), .int .i64 (.v 28), .int .i64 (.v 29), .int .i64 (.v 30), .slO 31 (.k 0) (.v 32) (.v 33)]) .fresh
(.call 27 [.agg [.int .i64 (.v 25), .int .i64 (.v 26), .int .i64 (.v 27), .int .i64 (.v 28), .int .i64 (.v 29), .int .i64 (.v 30), .slO 31 (.k 0) (.v 32) (.v 33)], .slO 17 (.k 0) (.v 18) (.v 19)] [] [(34, .i), (35, .i), (36, .i), (37, .i), (38, .i), (39, .i), (40, .p), (41, .n), (42, .n), (43, .p), (44, .n), (45, .n), (46, .i)] (.tup [.agg [.int .i64 (.v 34), .int .i64 (.v 35), .int .i64 (.v 36), .int .i64 (.v 37), .int .i64 (.v 38), .int .i64 (.v 39), .slO 40 (.k 0) (.v 41) (.v 42)], .slO 43 (.k 0) (.v 44) (.v 45), .int .i64 (.v 46)]) .fresh
(.all 1
(.ite (.eq (.v 46) (.k 0))
(.ite (.lt (.k 60) (.v 21))
(.call 30 [] [] [(47, .b)] (.bool (.v 47)) .same
(.ret (.bool (.v 47)) []))
(.loop [(47, .n), (48, .i)] [.n (.k 1), .i (.k 0)] [.n (.v 47), .i (.v 48)]
(.ite (.lt (.v 47) (.v 21))
(.call 31 [.slO 17 (.k 0) (.v 18) (.v 19), .int .i64 (.k 1), .int .i64 (.v 47)] [] [(49, .i), (50, .i)] (.tup [.int .i64 (.v 49), .int .i64 (.v 50)]) .same
(.ite (.eq (.v 50) (.k 0))
(.ite (.lt (.k 1) (.v 49))
(.ret (.bool (.k false)) [])
(.chk (.rng .i64 (.add (.v 48) (.v 49)))
(.chk (.rng .i64 (.add (.v 47) (.k 1)))
(.chk (.le (.k 0) (.add (.v 47) (.k 1)))
(.back 0 [.n (.add (.v 47) (.k 1)), .i (.add (.v 48) (.v 49))])))))
(.ret (.bool (.k false)) [])))
(.loop [(49, .n)] [.n (.k 0)] [.n (.v 49)]
(.chk (.le (.k 0) (.v 23))
(.ite (.lt (.v 49) (.v 23))
(.chk (.idx (.v 49) (.v 23))
(.chk (.isp 22)
(.ld 22 (.add (.k 0) (.mul (.v 49) (.k 1))) [.int .i64 (.v 50)] [(50, .i)]
(.call 31 [.slO 17 (.k 0) (.v 18) (.v 19), .int .i64 (.k 1), .int .i64 (.v 50)] [] [(51, .i), (52, .i)] (.tup [.int .i64 (.v 51), .int .i64 (.v 52)]) .same
(.ite (.eq (.v 52) (.k 0))
(.ite (.eq (.v 51) (.k 1))
(.chk (.rng .i64 (.add (.v 49) (.k 1)))
(.chk (.le (.k 0) (.add (.v 49) (.k 1)))
(.back 0 [.n (.add (.v 49) (.k 1))])))
(.ret (.bool (.k false)) []))
(.ret (.bool (.k false)) []))))))
(.call 30 [] [] [(50, .b)] (.bool (.v 50)) .same
(.ite (.v 50)
(.ret (.bool (.eq (.v 37) (.v 48))) [])
(.ret (.bool (.k false)) [])))))))))
(.call 30 [] [] [(47, .b)] (.bool (.v 47)) .same
(.ret (.bool (.v 47)) []))))))))))))
theorem x_stubOnce (x0 : Option Loc) (x1 : Nat) (x2 : Nat) (M : Nat → Prop) (H0 : Hp) (W0 : World) (R : Ending → World → Prop) (hH : H0.le (hpOf W0)) (h :
 (Cl Try.prog W0 M H0 nK 24 #[vi 0, vi 1] fun z W1 W2 => ∃ x3 : Int, ∃ x4 : Int, ∃ x5 : Int, ∃ x6 : Int, ∃ x7 : Int, ∃ x8 : Int, ∃ x9 : Int, ∃ x10 : Int, ∃ x11 : Int, z = .returned (Value.agg #[vi x3, vi x4, vi x5, vi x6, vi x7, vi x8, vi x9, vi x10, vi x11]) ∧ Ext W1 W2 ∧
 (∀ x12 : Option Loc, ∀ H1 : Hp, (∃ b : Nat, x12 = some ((b : Blk), 0) ∧ W0.heap.size ≤ b ∧ H0 b = none ∧ H1 b = some (Obj.cells #[vi x3, vi x4, vi x5, vi x6, vi x7, vi x8, vi x9, vi x10, vi x11] 43 (0, 0))) → H0.le H1 →
 (∀ b0 : Nat,
 (∃ (I0 : List Dat → Hp → Prop) (μ0 : List Dat → Nat), I0 [.n 0, .p none, .n 0, .n 0, .p (x12.map fun a => a.shift 0), .n 1, .n 1, .i 1, .i 1, .p none, .n 0, .n 0] H1 ∧ ∀ H2 : Hp, ∀ x13 : Nat, ∀ x14 : Option Loc, ∀ x15 : Nat, ∀ x16 : Nat, ∀ x17 : Option Loc, ∀ x18 : Nat, ∀ x19 : Nat, ∀ x20 : Int, ∀ x21 : Int, ∀ x22 : Option Loc, ∀ x23 : Nat, ∀ x24 : Nat, I0 [.n x13, .p (x14.map fun a => a.shift 0), .n x15, .n x16, .p (x17.map fun a => a.shift 0), .n x18, .n x19, .i x20, .i x21, .p (x22.map fun a => a.shift 0), .n x23, .n x24] H2 →
  (0 ≤ (x1 : Int) ∧ (0 ≤ (x1 : Int) →
  (((x13 : Int) < (x1 : Int) →
   (((x13 : Int) < 30 →
    (∀ b1 : Nat,
    (((0 : Int) ≤ (x13 : Int) ∧ (x13 : Int) < (x1 : Int)) ∧ (((0 : Int) ≤ (x13 : Int) ∧ (x13 : Int) < (x1 : Int)) →
    (x0.isSome = true ∧ (x0.isSome = true →
    (∃ x25 : Int, RowAt H2 x0 (0 + ((x13 : Int) * 1)) [vi x25] ∧
    (Cl Try.prog W0 M H2 nK 16 #[vi x25, vi 4] fun z W3 W4 => ∃ x26 : Int, z = .returned (vi x26) ∧ Ext W3 W4 ∧
    ((x26 = 0 →
     (Cl Try.prog W0 M H2 nK 25 #[Value.agg #[vi x20, vi x21, vsl x22 x23 x24], vi 0, Value.agg #[vi 2, vi 1, vi 0, vi 1]] fun z W5 W6 => ∃ x27 : Int, ∃ x28 : Int, ∃ x29 : Option Loc, ∃ x30 : Nat, ∃ x31 : Nat, ∃ x32 : Int, ∃ x33 : Int, ∃ x34 : Int, ∃ x35 : Int, ∃ x36 : Int, ∃ x37 : Int, ∃ x38 : Int, ∃ x39 : Int, ∃ x40 : Int, ∃ x41 : Int, z = .returned (Value.tuple #[Value.agg #[vi x27, vi x28, vsl x29 x30 x31], Value.agg #[vi x32, vi x33, vi x34, vi x35, vi x36, vi x37, vi x38, vi x39, vi x40], vi x41]) ∧ Fr W5 W6 H2 fun H3 =>
     (∀ b2 : Nat,
     (∀ b3 : Nat,
     ((x41 = 0 →
      (∀ b4 : Nat,
      (Es W0 M H3 (fun W => Kn W0 M H3 W b4 (Obj.cells #[vi x32, vi x33, vi x34, vi x35, vi x36, vi x37, vi x38, vi x39, vi x40] 43 (0, 0)) ∧ True) fun W7 => ∃ x42 : Option Loc, ∃ x43 : Nat, ∃ x44 : Nat, Eo Try.prog (.bi .append #[26, 26] 26) [vsl x14 x15 x16, Value.slice (some ⟨b4, 0, none⟩) 1 1] W7 (.value (vsl x42 x43 x44)) fun W8 => Tn W0 M H3 W7 W8 fun H4 =>
      (inKind .i64 ((x13 : Int) + 1) ∧ (inKind .i64 ((x13 : Int) + 1) →
      (0 ≤ ((x13 : Int) + 1) ∧ (0 ≤ ((x13 : Int) + 1) →
      (0 ≤ (x43 : Int) ∧ (0 ≤ (x43 : Int) →
      (0 ≤ (x44 : Int) ∧ (0 ≤ (x44 : Int) →
      (0 ≤ (x18 : Int) ∧ (0 ≤ (x18 : Int) →
      (0 ≤ (x19 : Int) ∧ (0 ≤ (x19 : Int) →
      (0 ≤ (x30 : Int) ∧ (0 ≤ (x30 : Int) →
      (0 ≤ (x31 : Int) ∧ (0 ≤ (x31 : Int) →
      (I0 [.n (((x13 : Int) + 1) : Int).toNat, .p (x42.map fun a => a.shift 0), .n x43, .n x44, .p (x17.map fun a => a.shift 0), .n x18, .n x19, .i x27, .i x28, .p (x29.map fun a => a.shift 0), .n x30, .n x31] H4 ∧ μ0 [.n (((x13 : Int) + 1) : Int).toNat, .p (x42.map fun a => a.shift 0), .n x43, .n x44, .p (x17.map fun a => a.shift 0), .n x18, .n x19, .i x27, .i x28, .p (x29.map fun a => a.shift 0), .n x30, .n x31] < μ0 [.n x13, .p (x14.map fun a => a.shift 0), .n x15, .n x16, .p (x17.map fun a => a.shift 0), .n x18, .n x19, .i x20, .i x21, .p (x22.map fun a => a.shift 0), .n x23, .n x24])))))))))))))))))))) ∧
     (¬ (x41 = 0) →
      (inKind .i64 ((x13 : Int) + 1) ∧ (inKind .i64 ((x13 : Int) + 1) →
      (0 ≤ ((x13 : Int) + 1) ∧ (0 ≤ ((x13 : Int) + 1) →
      (0 ≤ (x15 : Int) ∧ (0 ≤ (x15 : Int) →
      (0 ≤ (x16 : Int) ∧ (0 ≤ (x16 : Int) →
      (0 ≤ (x18 : Int) ∧ (0 ≤ (x18 : Int) →
      (0 ≤ (x19 : Int) ∧ (0 ≤ (x19 : Int) →
      (0 ≤ (x23 : Int) ∧ (0 ≤ (x23 : Int) →
      (0 ≤ (x24 : Int) ∧ (0 ≤ (x24 : Int) →
      (I0 [.n (((x13 : Int) + 1) : Int).toNat, .p (x14.map fun a => a.shift 0), .n x15, .n x16, .p (x17.map fun a => a.shift 0), .n x18, .n x19, .i x20, .i x21, .p (x22.map fun a => a.shift 0), .n x23, .n x24] H3 ∧ μ0 [.n (((x13 : Int) + 1) : Int).toNat, .p (x14.map fun a => a.shift 0), .n x15, .n x16, .p (x17.map fun a => a.shift 0), .n x18, .n x19, .i x20, .i x21, .p (x22.map fun a => a.shift 0), .n x23, .n x24] < μ0 [.n x13, .p (x14.map fun a => a.shift 0), .n x15, .n x16, .p (x17.map fun a => a.shift 0), .n x18, .n x19, .i x20, .i x21, .p (x22.map fun a => a.shift 0), .n x23, .n x24]))))))))))))))))))))))) ∧
    (¬ (x26 = 0) →
     ((x26 = 1 →
      (∃ x27 : Int, RowAt H2 x0 (0 + ((x13 : Int) * 1)) [vi x27] ∧
      (Es W0 M H2 nK fun W5 => ∃ x28 : Int, Eo Try.prog (.bop .quo 3 (.tmp 128) (.const (Value.int .i64 4))) [vi x27, vi 4] W5 (.value (vi x28)) fun W6 => Ext W5 W6 ∧
      (Cl Try.prog W0 M H2 nK 16 #[vi x28, vi 9] fun z W7 W8 => ∃ x29 : Int, z = .returned (vi x29) ∧ Ext W7 W8 ∧
      (inKind .i64 (1 + x29) ∧ (inKind .i64 (1 + x29) →
      (Cl Try.prog W0 M H2 nK 26 #[Value.agg #[vi x20, vi x21, vsl x22 x23 x24], vi 0, vi (1 + x29), Value.agg #[vi 2, vi 1, vi 0, vi 1]] fun z W9 W10 => ∃ x30 : Int, ∃ x31 : Int, ∃ x32 : Int, ∃ x33 : Int, ∃ x34 : Int, ∃ x35 : Int, ∃ x36 : Int, ∃ x37 : Int, ∃ x38 : Int, ∃ x39 : Int, z = .returned (Value.tuple #[Value.agg #[vi x30, vi x31, vi x32, vi x33, vi x34, vi x35, vi x36, vi x37, vi x38], vi x39]) ∧ Ext W9 W10 ∧
      (∀ b2 : Nat,
      ((x39 = 0 →
       (∀ b3 : Nat,
       (Es W0 M H2 (fun W => Kn W0 M H2 W b3 (Obj.cells #[vi x30, vi x31, vi x32, vi x33, vi x34, vi x35, vi x36, vi x37, vi x38] 43 (0, 0)) ∧ True) fun W11 => ∃ x40 : Option Loc, ∃ x41 : Nat, ∃ x42 : Nat, Eo Try.prog (.bi .append #[26, 26] 26) [vsl x14 x15 x16, Value.slice (some ⟨b3, 0, none⟩) 1 1] W11 (.value (vsl x40 x41 x42)) fun W12 => Tn W0 M H2 W11 W12 fun H3 =>
       (inKind .i64 ((x13 : Int) + 1) ∧ (inKind .i64 ((x13 : Int) + 1) →
       (0 ≤ ((x13 : Int) + 1) ∧ (0 ≤ ((x13 : Int) + 1) →
       (0 ≤ (x41 : Int) ∧ (0 ≤ (x41 : Int) →
       (0 ≤ (x42 : Int) ∧ (0 ≤ (x42 : Int) →
       (0 ≤ (x18 : Int) ∧ (0 ≤ (x18 : Int) →
       (0 ≤ (x19 : Int) ∧ (0 ≤ (x19 : Int) →
       (0 ≤ (x23 : Int) ∧ (0 ≤ (x23 : Int) →
       (0 ≤ (x24 : Int) ∧ (0 ≤ (x24 : Int) →
       (I0 [.n (((x13 : Int) + 1) : Int).toNat, .p (x40.map fun a => a.shift 0), .n x41, .n x42, .p (x17.map fun a => a.shift 0), .n x18, .n x19, .i x20, .i x21, .p (x22.map fun a => a.shift 0), .n x23, .n x24] H3 ∧ μ0 [.n (((x13 : Int) + 1) : Int).toNat, .p (x40.map fun a => a.shift 0), .n x41, .n x42, .p (x17.map fun a => a.shift 0), .n x18, .n x19, .i x20, .i x21, .p (x22.map fun a => a.shift 0), .n x23, .n x24] < μ0 [.n x13, .p (x14.map fun a => a.shift 0), .n x15, .n x16, .p (x17.map fun a => a.shift 0), .n x18, .n x19, .i x20, .i x21, .p (x22.map fun a => a.shift 0), .n x23, .n x24])))))))))))))))))))) ∧
      (¬ (x39 = 0) →
       (inKind .i64 ((x13 : Int) + 1) ∧ (inKind .i64 ((x13 : Int) + 1) →
       (0 ≤ ((x13 : Int) + 1) ∧ (0 ≤ ((x13 : Int) + 1) →
       (0 ≤ (x15 : Int) ∧ (0 ≤ (x15 : Int) →
       (0 ≤ (x16 : Int) ∧ (0 ≤ (x16 : Int) →
       (0 ≤ (x18 : Int) ∧ (0 ≤ (x18 : Int) →
       (0 ≤ (x19 : Int) ∧ (0 ≤ (x19 : Int) →
       (0 ≤ (x23 : Int) ∧ (0 ≤ (x23 : Int) →
       (0 ≤ (x24 : Int) ∧ (0 ≤ (x24 : Int) →
       (I0 [.n (((x13 : Int) + 1) : Int).toNat, .p (x14.map fun a => a.shift 0), .n x15, .n x16, .p (x17.map fun a => a.shift 0), .n x18, .n x19, .i x20, .i x21, .p (x22.map fun a => a.shift 0), .n x23, .n x24] H2 ∧ μ0 [.n (((x13 : Int) + 1) : Int).toNat, .p (x14.map fun a => a.shift 0), .n x15, .n x16, .p (x17.map fun a => a.shift 0), .n x18, .n x19, .i x20, .i x21, .p (x22.map fun a => a.shift 0), .n x23, .n x24] < μ0 [.n x13, .p (x14.map fun a => a.shift 0), .n x15, .n x16, .p (x17.map fun a => a.shift 0), .n x18, .n x19, .i x20, .i x21, .p (x22.map fun a => a.shift 0), .n x23, .n x24]))))))))))))))))))))))))))) ∧
     (¬ (x26 = 1) →
      (0 ≤ (x15 : Int) ∧ (0 ≤ (x15 : Int) →
      (((x15 : Int) = 0 →
       (inKind .i64 ((x13 : Int) + 1) ∧ (inKind .i64 ((x13 : Int) + 1) →
       (0 ≤ ((x13 : Int) + 1) ∧ (0 ≤ ((x13 : Int) + 1) →
       (0 ≤ (x16 : Int) ∧ (0 ≤ (x16 : Int) →
       (0 ≤ (x18 : Int) ∧ (0 ≤ (x18 : Int) →
       (0 ≤ (x19 : Int) ∧ (0 ≤ (x19 : Int) →
       (0 ≤ (x23 : Int) ∧ (0 ≤ (x23 : Int) →
       (0 ≤ (x24 : Int) ∧ (0 ≤ (x24 : Int) →
       (I0 [.n (((x13 : Int) + 1) : Int).toNat, .p (x14.map fun a => a.shift 0), .n x15, .n x16, .p (x17.map fun a => a.shift 0), .n x18, .n x19, .i x20, .i x21, .p (x22.map fun a => a.shift 0), .n x23, .n x24] H2 ∧ μ0 [.n (((x13 : Int) + 1) : Int).toNat, .p (x14.map fun a => a.shift 0), .n x15, .n x16, .p (x17.map fun a => a.shift 0), .n x18, .n x19, .i x20, .i x21, .p (x22.map fun a => a.shift 0), .n x23, .n x24] < μ0 [.n x13, .p (x14.map fun a => a.shift 0), .n x15, .n x16, .p (x17.map fun a => a.shift 0), .n x18, .n x19, .i x20, .i x21, .p (x22.map fun a => a.shift 0), .n x23, .n x24])))))))))))))))) ∧
      (¬ ((x15 : Int) = 0) →
       (∃ x27 : Int, RowAt H2 x0 (0 + ((x13 : Int) * 1)) [vi x27] ∧
       (Es W0 M H2 nK fun W5 => ∃ x28 : Int, Eo Try.prog (.bop .quo 3 (.tmp 55) (.const (Value.int .i64 4))) [vi x27, vi 4] W5 (.value (vi x28)) fun W6 => Ext W5 W6 ∧
       (Cl Try.prog W0 M H2 nK 16 #[vi x28, vi (x15 : Int)] fun z W7 W8 => ∃ x29 : Int, z = .returned (vi x29) ∧ Ext W7 W8 ∧
       (((0 : Int) ≤ x29 ∧ x29 < (x15 : Int)) ∧ (((0 : Int) ≤ x29 ∧ x29 < (x15 : Int)) →
       (x14.isSome = true ∧ (x14.isSome = true →
       (∃ x30 : Int, ∃ x31 : Int, ∃ x32 : Int, ∃ x33 : Int, ∃ x34 : Int, ∃ x35 : Int, ∃ x36 : Int, ∃ x37 : Int, ∃ x38 : Int, RowAt H2 x14 (0 + (x29 * 9)) [vi x30, vi x31, vi x32, vi x33, vi x34, vi x35, vi x36, vi x37, vi x38] ∧
       (∀ b2 : Nat,
       (Cl Try.prog W0 M H2 nK 28 #[] fun z W9 W10 => ∃ x39 : Int, ∃ x40 : Int, ∃ x41 : Int, ∃ x42 : Int, ∃ x43 : Int, ∃ x44 : Int, ∃ x45 : Option Loc, ∃ x46 : Nat, ∃ x47 : Nat, z = .returned (Value.agg #[vi x39, vi x40, vi x41, vi x42, vi x43, vi x44, vsl x45 x46 x47]) ∧ Fr W9 W10 H2 fun H3 =>
       (∀ b3 : Nat,
       (Es W0 M H3 (fun W => Kn W0 M H3 W b3 (Obj.cells #[] 43 (0, 0)) ∧ True) fun W11 => ∃ x48 : Option Loc, ∃ x49 : Nat, ∃ x50 : Nat, Eo Try.prog (.bi .append #[26, 26] 26) [Value.slice (some ⟨b3, 0, none⟩) 0 0, vsl x17 x18 x19] W11 (.value (vsl x48 x49 x50)) fun W12 => Tn W0 M H3 W11 W12 fun H4 =>
       (∀ b4 : Nat,
       (Es W0 M H4 (fun W => Kn W0 M H4 W b4 (Obj.cells #[vi x30, vi x31, vi x32, vi x33, vi x34, vi x35, vi x36, vi x37, vi x38] 43 (0, 0)) ∧ True) fun W13 => ∃ x51 : Option Loc, ∃ x52 : Nat, ∃ x53 : Nat, Eo Try.prog (.bi .append #[26, 26] 26) [vsl x48 x49 x50, Value.slice (some ⟨b4, 0, none⟩) 1 1] W13 (.value (vsl x51 x52 x53)) fun W14 => Tn W0 M H4 W13 W14 fun H5 =>
       (Cl Try.prog W0 M H5 nK 27 #[Value.agg #[vi x39, vi x40, vi x41, vi x42, vi x43, vi x44, vsl x45 x46 x47], vsl x51 x52 x53] fun z W15 W16 => ∃ x54 : Int, ∃ x55 : Int, ∃ x56 : Int, ∃ x57 : Int, ∃ x58 : Int, ∃ x59 : Int, ∃ x60 : Option Loc, ∃ x61 : Nat, ∃ x62 : Nat, ∃ x63 : Option Loc, ∃ x64 : Nat, ∃ x65 : Nat, ∃ x66 : Int, z = .returned (Value.tuple #[Value.agg #[vi x54, vi x55, vi x56, vi x57, vi x58, vi x59, vsl x60 x61 x62], vsl x63 x64 x65, vi x66]) ∧ Fr W15 W16 H5 fun H6 =>
       (∀ b5 : Nat,
       ((x66 = 0 →
        (0 ≤ (x64 : Int) ∧ (0 ≤ (x64 : Int) →
        (0 ≤ (x18 : Int) ∧ (0 ≤ (x18 : Int) →
        (inKind .i64 ((x18 : Int) + 1) ∧ (inKind .i64 ((x18 : Int) + 1) →
        (((x64 : Int) = ((x18 : Int) + 1) →
         (∀ b6 : Nat,
         (Es W0 M H6 (fun W => Kn W0 M H6 W b6 (Obj.cells #[vi x30, vi x31, vi x32, vi x33, vi x34, vi x35, vi x36, vi x37, vi x38] 43 (0, 0)) ∧ True) fun W17 => ∃ x67 : Option Loc, ∃ x68 : Nat, ∃ x69 : Nat, Eo Try.prog (.bi .append #[26, 26] 26) [vsl x17 x18 x19, Value.slice (some ⟨b6, 0, none⟩) 1 1] W17 (.value (vsl x67 x68 x69)) fun W18 => Tn W0 M H6 W17 W18 fun H7 =>
         (0 ≤ (x68 : Int) ∧ (0 ≤ (x68 : Int) →
         (inKind .i64 ((x68 : Int) - 1) ∧ (inKind .i64 ((x68 : Int) - 1) →
         (((0 : Int) ≤ ((x68 : Int) - 1) ∧ ((x68 : Int) - 1) < (x64 : Int)) ∧ (((0 : Int) ≤ ((x68 : Int) - 1) ∧ ((x68 : Int) - 1) < (x64 : Int)) →
         (x63.isSome = true ∧ (x63.isSome = true →
         (∃ x70 : Int, RowAt H7 x63 (0 + (((x68 : Int) - 1) * 1)) [vi x70] ∧
         ((x70 < (-1) →
          (inKind .i64 ((x13 : Int) + 1) ∧ (inKind .i64 ((x13 : Int) + 1) →
          (0 ≤ ((x13 : Int) + 1) ∧ (0 ≤ ((x13 : Int) + 1) →
          (0 ≤ (x16 : Int) ∧ (0 ≤ (x16 : Int) →
          (0 ≤ (x69 : Int) ∧ (0 ≤ (x69 : Int) →
          (0 ≤ (x23 : Int) ∧ (0 ≤ (x23 : Int) →
          (0 ≤ (x24 : Int) ∧ (0 ≤ (x24 : Int) →
          (I0 [.n (((x13 : Int) + 1) : Int).toNat, .p (x14.map fun a => a.shift 0), .n x15, .n x16, .p (x67.map fun a => a.shift 0), .n x68, .n x69, .i x20, .i x21, .p (x22.map fun a => a.shift 0), .n x23, .n x24] H7 ∧ μ0 [.n (((x13 : Int) + 1) : Int).toNat, .p (x14.map fun a => a.shift 0), .n x15, .n x16, .p (x67.map fun a => a.shift 0), .n x68, .n x69, .i x20, .i x21, .p (x22.map fun a => a.shift 0), .n x23, .n x24] < μ0 [.n x13, .p (x14.map fun a => a.shift 0), .n x15, .n x16, .p (x17.map fun a => a.shift 0), .n x18, .n x19, .i x20, .i x21, .p (x22.map fun a => a.shift 0), .n x23, .n x24])))))))))))))) ∧
         (¬ (x70 < (-1)) →
          (Cl Try.prog W0 M H7 nK 29 #[Value.agg #[vi x20, vi x21, vsl x22 x23 x24], vi x33] fun z W19 W20 => ∃ x71 : Int, ∃ x72 : Int, ∃ x73 : Option Loc, ∃ x74 : Nat, ∃ x75 : Nat, ∃ x76 : Int, z = .returned (Value.tuple #[Value.agg #[vi x71, vi x72, vsl x73 x74 x75], vi x76]) ∧ Fr W19 W20 H7 fun H8 =>
          (∀ b7 : Nat,
          ((x76 = 0 →
           (inKind .i64 ((x13 : Int) + 1) ∧ (inKind .i64 ((x13 : Int) + 1) →
           (0 ≤ ((x13 : Int) + 1) ∧ (0 ≤ ((x13 : Int) + 1) →
           (0 ≤ (x16 : Int) ∧ (0 ≤ (x16 : Int) →
           (0 ≤ (x69 : Int) ∧ (0 ≤ (x69 : Int) →
           (0 ≤ (x74 : Int) ∧ (0 ≤ (x74 : Int) →
           (0 ≤ (x75 : Int) ∧ (0 ≤ (x75 : Int) →
           (I0 [.n (((x13 : Int) + 1) : Int).toNat, .p (x14.map fun a => a.shift 0), .n x15, .n x16, .p (x67.map fun a => a.shift 0), .n x68, .n x69, .i x71, .i x72, .p (x73.map fun a => a.shift 0), .n x74, .n x75] H8 ∧ μ0 [.n (((x13 : Int) + 1) : Int).toNat, .p (x14.map fun a => a.shift 0), .n x15, .n x16, .p (x67.map fun a => a.shift 0), .n x68, .n x69, .i x71, .i x72, .p (x73.map fun a => a.shift 0), .n x74, .n x75] < μ0 [.n x13, .p (x14.map fun a => a.shift 0), .n x15, .n x16, .p (x17.map fun a => a.shift 0), .n x18, .n x19, .i x20, .i x21, .p (x22.map fun a => a.shift 0), .n x23, .n x24])))))))))))))) ∧
          (¬ (x76 = 0) →
           (inKind .i64 ((x13 : Int) + 1) ∧ (inKind .i64 ((x13 : Int) + 1) →
           (0 ≤ ((x13 : Int) + 1) ∧ (0 ≤ ((x13 : Int) + 1) →
           (0 ≤ (x16 : Int) ∧ (0 ≤ (x16 : Int) →
           (0 ≤ (x69 : Int) ∧ (0 ≤ (x69 : Int) →
           (0 ≤ (x23 : Int) ∧ (0 ≤ (x23 : Int) →
           (0 ≤ (x24 : Int) ∧ (0 ≤ (x24 : Int) →
           (I0 [.n (((x13 : Int) + 1) : Int).toNat, .p (x14.map fun a => a.shift 0), .n x15, .n x16, .p (x67.map fun a => a.shift 0), .n x68, .n x69, .i x20, .i x21, .p (x22.map fun a => a.shift 0), .n x23, .n x24] H8 ∧ μ0 [.n (((x13 : Int) + 1) : Int).toNat, .p (x14.map fun a => a.shift 0), .n x15, .n x16, .p (x67.map fun a => a.shift 0), .n x68, .n x69, .i x20, .i x21, .p (x22.map fun a => a.shift 0), .n x23, .n x24] < μ0 [.n x13, .p (x14.map fun a => a.shift 0), .n x15, .n x16, .p (x17.map fun a => a.shift 0), .n x18, .n x19, .i x20, .i x21, .p (x22.map fun a => a.shift 0), .n x23, .n x24]))))))))))))))))))))))))))))))) ∧
        (¬ ((x64 : Int) = ((x18 : Int) + 1)) →
         Rt R W0 M H6 nK (vb (false))))))))))) ∧
       (¬ (x66 = 0) →
        Rt R W0 M H6 nK (vb (false)))))))))))))))))))))))))))))))))))) ∧
   (¬ ((x13 : Int) < 30) →
    (Cl Try.prog W0 M H2 nK 28 #[] fun z W3 W4 => ∃ x25 : Int, ∃ x26 : Int, ∃ x27 : Int, ∃ x28 : Int, ∃ x29 : Int, ∃ x30 : Int, ∃ x31 : Option Loc, ∃ x32 : Nat, ∃ x33 : Nat, z = .returned (Value.agg #[vi x25, vi x26, vi x27, vi x28, vi x29, vi x30, vsl x31 x32 x33]) ∧ Fr W3 W4 H2 fun H3 =>
    (Cl Try.prog W0 M H3 nK 27 #[Value.agg #[vi x25, vi x26, vi x27, vi x28, vi x29, vi x30, vsl x31 x32 x33], vsl x17 x18 x19] fun z W5 W6 => ∃ x34 : Int, ∃ x35 : Int, ∃ x36 : Int, ∃ x37 : Int, ∃ x38 : Int, ∃ x39 : Int, ∃ x40 : Option Loc, ∃ x41 : Nat, ∃ x42 : Nat, ∃ x43 : Option Loc, ∃ x44 : Nat, ∃ x45 : Nat, ∃ x46 : Int, z = .returned (Value.tuple #[Value.agg #[vi x34, vi x35, vi x36, vi x37, vi x38, vi x39, vsl x40 x41 x42], vsl x43 x44 x45, vi x46]) ∧ Fr W5 W6 H3 fun H4 =>
    (∀ b1 : Nat,
    ((x46 = 0 →
     ((60 < x21 →
      (Cl Try.prog W0 M H4 nK 30 #[] fun z W7 W8 => ∃ x47 : Bool, z = .returned (vb (x47)) ∧ Ext W7 W8 ∧
      Rt R W0 M H4 nK (vb (x47)))) ∧
     (¬ (60 < x21) →
      (∃ (I1 : List Dat → Hp → Prop) (μ1 : List Dat → Nat), I1 [.n 1, .i 0] H4 ∧ ∀ H5 : Hp, ∀ x47 : Nat, ∀ x48 : Int, I1 [.n x47, .i x48] H5 →
       (((x47 : Int) < x21 →
        (Cl Try.prog W0 M H5 nK 31 #[vsl x17 x18 x19, vi 1, vi (x47 : Int)] fun z W7 W8 => ∃ x49 : Int, ∃ x50 : Int, z = .returned (Value.tuple #[vi x49, vi x50]) ∧ Ext W7 W8 ∧
        ((x50 = 0 →
         ((1 < x49 →
          Rt R W0 M H5 nK (vb (false))) ∧
         (¬ (1 < x49) →
          (inKind .i64 (x48 + x49) ∧ (inKind .i64 (x48 + x49) →
          (inKind .i64 ((x47 : Int) + 1) ∧ (inKind .i64 ((x47 : Int) + 1) →
          (0 ≤ ((x47 : Int) + 1) ∧ (0 ≤ ((x47 : Int) + 1) →
          (I1 [.n (((x47 : Int) + 1) : Int).toNat, .i (x48 + x49)] H5 ∧ μ1 [.n (((x47 : Int) + 1) : Int).toNat, .i (x48 + x49)] < μ1 [.n x47, .i x48])))))))))) ∧
        (¬ (x50 = 0) →
         Rt R W0 M H5 nK (vb (false)))))) ∧
       (¬ ((x47 : Int) < x21) →
        (∃ (I2 : List Dat → Hp → Prop) (μ2 : List Dat → Nat), I2 [.n 0] H5 ∧ ∀ H6 : Hp, ∀ x49 : Nat, I2 [.n x49] H6 →
         (0 ≤ (x23 : Int) ∧ (0 ≤ (x23 : Int) →
         (((x49 : Int) < (x23 : Int) →
          (((0 : Int) ≤ (x49 : Int) ∧ (x49 : Int) < (x23 : Int)) ∧ (((0 : Int) ≤ (x49 : Int) ∧ (x49 : Int) < (x23 : Int)) →
          (x22.isSome = true ∧ (x22.isSome = true →
          (∃ x50 : Int, RowAt H6 x22 (0 + ((x49 : Int) * 1)) [vi x50] ∧
          (Cl Try.prog W0 M H6 nK 31 #[vsl x17 x18 x19, vi 1, vi x50] fun z W7 W8 => ∃ x51 : Int, ∃ x52 : Int, z = .returned (Value.tuple #[vi x51, vi x52]) ∧ Ext W7 W8 ∧
          ((x52 = 0 →
           ((x51 = 1 →
            (inKind .i64 ((x49 : Int) + 1) ∧ (inKind .i64 ((x49 : Int) + 1) →
            (0 ≤ ((x49 : Int) + 1) ∧ (0 ≤ ((x49 : Int) + 1) →
            (I2 [.n (((x49 : Int) + 1) : Int).toNat] H6 ∧ μ2 [.n (((x49 : Int) + 1) : Int).toNat] < μ2 [.n x49])))))) ∧
           (¬ (x51 = 1) →
            Rt R W0 M H6 nK (vb (false))))) ∧
          (¬ (x52 = 0) →
           Rt R W0 M H6 nK (vb (false))))))))))) ∧
         (¬ ((x49 : Int) < (x23 : Int)) →
          (Cl Try.prog W0 M H6 nK 30 #[] fun z W7 W8 => ∃ x50 : Bool, z = .returned (vb (x50)) ∧ Ext W7 W8 ∧
          ((x50 = true →
           Rt R W0 M H6 nK (vb (decide (x37 = x48)))) ∧
          (¬ (x50 = true) →
           Rt R W0 M H6 nK (vb (false)))))))))))))))) ∧
    (¬ (x46 = 0) →
     (Cl Try.prog W0 M H4 nK 30 #[] fun z W7 W8 => ∃ x47 : Bool, z = .returned (vb (x47)) ∧ Ext W7 W8 ∧
     Rt R W0 M H4 nK (vb (x47))))))))))) ∧
  (¬ ((x13 : Int) < (x1 : Int)) →
   (Cl Try.prog W0 M H2 nK 28 #[] fun z W3 W4 => ∃ x25 : Int, ∃ x26 : Int, ∃ x27 : Int, ∃ x28 : Int, ∃ x29 : Int, ∃ x30 : Int, ∃ x31 : Option Loc, ∃ x32 : Nat, ∃ x33 : Nat, z = .returned (Value.agg #[vi x25, vi x26, vi x27, vi x28, vi x29, vi x30, vsl x31 x32 x33]) ∧ Fr W3 W4 H2 fun H3 =>
   (Cl Try.prog W0 M H3 nK 27 #[Value.agg #[vi x25, vi x26, vi x27, vi x28, vi x29, vi x30, vsl x31 x32 x33], vsl x17 x18 x19] fun z W5 W6 => ∃ x34 : Int, ∃ x35 : Int, ∃ x36 : Int, ∃ x37 : Int, ∃ x38 : Int, ∃ x39 : Int, ∃ x40 : Option Loc, ∃ x41 : Nat, ∃ x42 : Nat, ∃ x43 : Option Loc, ∃ x44 : Nat, ∃ x45 : Nat, ∃ x46 : Int, z = .returned (Value.tuple #[Value.agg #[vi x34, vi x35, vi x36, vi x37, vi x38, vi x39, vsl x40 x41 x42], vsl x43 x44 x45, vi x46]) ∧ Fr W5 W6 H3 fun H4 =>
   (∀ b1 : Nat,
   ((x46 = 0 →
    ((60 < x21 →
     (Cl Try.prog W0 M H4 nK 30 #[] fun z W7 W8 => ∃ x47 : Bool, z = .returned (vb (x47)) ∧ Ext W7 W8 ∧
     Rt R W0 M H4 nK (vb (x47)))) ∧
    (¬ (60 < x21) →
     (∃ (I1 : List Dat → Hp → Prop) (μ1 : List Dat → Nat), I1 [.n 1, .i 0] H4 ∧ ∀ H5 : Hp, ∀ x47 : Nat, ∀ x48 : Int, I1 [.n x47, .i x48] H5 →
      (((x47 : Int) < x21 →
       (Cl Try.prog W0 M H5 nK 31 #[vsl x17 x18 x19, vi 1, vi (x47 : Int)] fun z W7 W8 => ∃ x49 : Int, ∃ x50 : Int, z = .returned (Value.tuple #[vi x49, vi x50]) ∧ Ext W7 W8 ∧
       ((x50 = 0 →
        ((1 < x49 →
         Rt R W0 M H5 nK (vb (false))) ∧
        (¬ (1 < x49) →
         (inKind .i64 (x48 + x49) ∧ (inKind .i64 (x48 + x49) →
         (inKind .i64 ((x47 : Int) + 1) ∧ (inKind .i64 ((x47 : Int) + 1) →
         (0 ≤ ((x47 : Int) + 1) ∧ (0 ≤ ((x47 : Int) + 1) →
         (I1 [.n (((x47 : Int) + 1) : Int).toNat, .i (x48 + x49)] H5 ∧ μ1 [.n (((x47 : Int) + 1) : Int).toNat, .i (x48 + x49)] < μ1 [.n x47, .i x48])))))))))) ∧
       (¬ (x50 = 0) →
        Rt R W0 M H5 nK (vb (false)))))) ∧
      (¬ ((x47 : Int) < x21) →
       (∃ (I2 : List Dat → Hp → Prop) (μ2 : List Dat → Nat), I2 [.n 0] H5 ∧ ∀ H6 : Hp, ∀ x49 : Nat, I2 [.n x49] H6 →
        (0 ≤ (x23 : Int) ∧ (0 ≤ (x23 : Int) →
        (((x49 : Int) < (x23 : Int) →
         (((0 : Int) ≤ (x49 : Int) ∧ (x49 : Int) < (x23 : Int)) ∧ (((0 : Int) ≤ (x49 : Int) ∧ (x49 : Int) < (x23 : Int)) →
         (x22.isSome = true ∧ (x22.isSome = true →
         (∃ x50 : Int, RowAt H6 x22 (0 + ((x49 : Int) * 1)) [vi x50] ∧
         (Cl Try.prog W0 M H6 nK 31 #[vsl x17 x18 x19, vi 1, vi x50] fun z W7 W8 => ∃ x51 : Int, ∃ x52 : Int, z = .returned (Value.tuple #[vi x51, vi x52]) ∧ Ext W7 W8 ∧
         ((x52 = 0 →
          ((x51 = 1 →
           (inKind .i64 ((x49 : Int) + 1) ∧ (inKind .i64 ((x49 : Int) + 1) →
           (0 ≤ ((x49 : Int) + 1) ∧ (0 ≤ ((x49 : Int) + 1) →
           (I2 [.n (((x49 : Int) + 1) : Int).toNat] H6 ∧ μ2 [.n (((x49 : Int) + 1) : Int).toNat] < μ2 [.n x49])))))) ∧
          (¬ (x51 = 1) →
           Rt R W0 M H6 nK (vb (false))))) ∧
         (¬ (x52 = 0) →
          Rt R W0 M H6 nK (vb (false))))))))))) ∧
        (¬ ((x49 : Int) < (x23 : Int)) →
         (Cl Try.prog W0 M H6 nK 30 #[] fun z W7 W8 => ∃ x50 : Bool, z = .returned (vb (x50)) ∧ Ext W7 W8 ∧
         ((x50 = true →
          Rt R W0 M H6 nK (vb (decide (x37 = x48)))) ∧
         (¬ (x50 = true) →
          Rt R W0 M H6 nK (vb (false)))))))))))))))) ∧
   (¬ (x46 = 0) →
    (Cl Try.prog W0 M H4 nK 30 #[] fun z W7 W8 => ∃ x47 : Bool, z = .returned (vb (x47)) ∧ Ext W7 W8 ∧
    Rt R W0 M H4 nK (vb (x47))))))))))))))))) :
  Calls Try.prog 8 #[vsl x0 x1 x2] W0 R :=
  calls_sxA (M := M) (V := v_stubOnce) (hi := {holds := [(1, 1)], loops := [(5, .inv [(6, .nat), (5, .pt .sl), (3, .pt .sl)] [(4, [.pt (.int .i64), .pt (.int .i64), .pt .sl])]), (33, .inv [(23, .nat), (22, .pt (.int .i64))] []), (40, .inv [(26, .nat)] [])]}) (args := [.slO 0 (.k 0) (.v 1) (.v 2)]) (nv := 3) (e := (upd (upd (upd (fun _ => .i 0) 0 (.p x0)) 1 (.n x1)) 2 (.n x2))) Try.func8 hH h (by kernel_rfl) (by kernel_rfl) (by kernel_rfl)
end Go.Proofs.Ytgmgbfpoeclgiaa
namespace Go.Proofs.Ytgmgbfpoeclgiaa
open Go.RowKit
set_option maxRecDepth 100000
theorem ek_quo4 (x y : Operand) (a : Int) (ha : -9223372036854775808 ≤ a ∧ a ≤ 9223372036854775807) (w : World) : ∃ q, (EK.sem (.bop .quo 3 x y) [vi a, vi 4]).run Try.prog w = .ok (.value (vi q)) w ∧ -9223372036854775808 ≤ q ∧ q ≤ 9223372036854775807 := by
  have hq : -9223372036854775808 ≤ Int.tdiv a 4 ∧ Int.tdiv a 4 ≤ 9223372036854775807 := by
    rcases Int.le_total 0 a with h | h
    · rw [Int.tdiv_eq_ediv_of_nonneg h]; omega
    · have e : Int.tdiv a 4 = -(Int.tdiv (-a) 4) := by rw [Int.neg_tdiv]; omega
      rw [e, Int.tdiv_eq_ediv_of_nonneg (by omega)]; omega
  refine ⟨Int.tdiv a 4, ?_, hq⟩
  simp [EK.sem, eqGuard, binOp, Op.intDiv]
  rw [IntKind.wrap_i64]
  omega
theorem EntOk.in64 {e : Ent} (h : EntOk e) : e.in64 := by
  have h1 := h.kind
  by_cases h2 : e.kind = 2
  · have := (h.call h2).1
    exact ⟨by omega, by omega⟩
  · have := (h.bare h2).1
    exact ⟨by omega, by omega⟩
/-- a round of calls, as it stands -/
def RI (W : World) (H K : Hp) (j : Nat) (pS : Option Loc) (nS cS : Nat) (pL : Option Loc) (nL cL : Nat) (a b : Int) (pC : Option Loc) (nC cC : Nat) : Prop :=
  ∃ (l sent : List Ent) (s : Stb) (x : Ses) (gS gL : Option Nat) (Dt : Hp), j ≤ 30 ∧ H.le K ∧ a = s.client ∧ b = s.next ∧ Lives l s x ∧ s.next ≤ (j : Int) + 1 ∧ l.length ≤ j + 1 ∧ sent.length ≤ j ∧ (∀ e ∈ sent, Sent s e) ∧
    Ow K 43 9 pS nS cS (sent.map Ent.row) gS ∧ Ow K 43 9 pL nL cL (l.map Ent.row) gL ∧ Apart gL gS ∧ (∀ b, gS = some b → W.heap.size ≤ b ∧ H b = none) ∧ (∀ b, gL = some b → W.heap.size ≤ b ∧ H b = none) ∧
    Hp.le Dt K ∧ Ints Dt pC nC cC s.came ∧ (∀ b, gS = some b → Dt b = none) ∧ (∀ b, gL = some b → Dt b = none)
theorem Lives.all {l : List Ent} {s : Stb} {x : Ses} (h : Lives l s x) (hl : l.length ≤ 50) : sAll Sta.zero l = (foldS Sta.zero l, foldA Sta.zero l, 0) :=
  sAll_of zero_ok h.ok (by show (0 : Int) + _ ≤ 50; omega)
theorem Lives.errs {l : List Ent} {s : Stb} {x : Ses} (h : Lives l s x) (hl : l.length ≤ 50) : entsErr l = 0 := entsErr_ok.2 ⟨hl, h.ok⟩
theorem Lives.tells {l : List Ent} {s : Stb} {x : Ses} (h : Lives l s x) (hl : l.length ≤ 50) {q : Int} (h1 : 1 ≤ q) (h2 : q < s.next) : tOnce l 1 q = (((many l q : Nat) : Int), 0) := by
  have := h.stub.next
  unfold tOnce
  rw [if_neg (by rw [h.errs hl]; simp), if_neg (by omega)]
  rfl
theorem open_row {H0 H1 : Hp} {W : World} {b : Nat} {x : Option Loc} (hx : x = some ((b : Blk), 0)) (h : H1 b = some (.cells #[vi 1, vi 0, vi 1, vi 0, vi 0, vi 0, vi 0, vi 0, vi 0] 43 (0, 0))) : Ow H1 43 9 x 1 1 ([openE].map Ent.row) (some b) :=
  ⟨rfl, fun r hr => by
    simp only [List.map_cons, List.map_nil, List.mem_singleton] at hr
    subst hr
    exact ⟨rfl, ones_e openE⟩, Nat.le_refl _, by simp [maxLen], .inr ⟨b, _, hx, rfl, h, rfl, rfl⟩⟩
theorem next_ok {s : Stb} {x : POp} (h : (s.doNext 0 x).2.2 = 0) (ok : StbOk s) : s.doNext 0 x = ({ s with next := s.next + 1 }, s.call 0 s.next x, 0) := by
  unfold Stb.doNext at h ⊢
  by_cases h0 : s.err = 0
  · rw [if_pos h0] at h ⊢
    by_cases h1 : (s.call 0 s.next x).err = 0
    · rw [if_pos h1]
    · rw [if_neg h1] at h; exact absurd h h1
  · rw [if_neg h0] at h; exact absurd h h0
theorem again_ok {s : Stb} {q : Int} {x : POp} (h : (s.doAgain 0 q x).2 = 0) : (1 ≤ q ∧ q < s.next) ∧ (s.doAgain 0 q x).1 = s.call 0 q x := by
  unfold Stb.doAgain Stb.doCall at h ⊢
  by_cases h0 : s.err = 0
  · rw [if_pos h0] at h ⊢
    by_cases h1 : q < 1 ∨ s.next ≤ q ∨ q ∈ s.came
    · rw [if_pos h1] at h; cases h
    · rw [if_neg h1] at h ⊢
      by_cases h2 : (s.call 0 q x).err = 0
      · rw [if_pos h2]; exact ⟨by omega, rfl⟩
      · rw [if_neg h2] at h; exact absurd h h2
  · rw [if_neg h0] at h; exact absurd h h0
theorem StbOk.err0 {s : Stb} (h : StbOk s) : s.err = 0 := by
  have h1 := h.client; have h2 := h.next
  exact stb_ok (by omega) ((cameOk_iff _ _ _).2 ⟨h.came, h.ord⟩)
theorem came_of {s : Stb} (h : StbOk s) {q : Int} (h1 : 1 ≤ q) (h2 : q < s.next) : s.doCame q = ({ s with came := putI s.came q }, 0) := by
  unfold Stb.doCame
  rw [if_pos h.err0, if_neg (by omega)]
/-- a call is put behind those that were sent -/
theorem fresh_none {D : Hp} {W : World} {b : Nat} (hf : ∀ b o, D b = some o → W.heap.size ≤ b) (hb : b < W.heap.size) : D b = none := by
  cases h : D b with
  | none => rfl
  | some o => have := hf b o h; omega
theorem push_sent {W W7 W8 : World} {H K H4 Dt : Hp} {gS gL g1 : Option Nat} {pS pL : Option Loc} {nS cS nL cL : Nat} {rowsL rowsS : List (List Value)} (n7 : Now W noM K W7) (hle : H.le K)
    (oS : Ow K 43 9 pS nS cS rowsS gS) (oL : Ow K 43 9 pL nL cL rowsL gL) (hap : Apart gL gS) (nS1 : ∀ b, gS = some b → W.heap.size ≤ b ∧ H b = none) (hDt : Dt.le K) (dS : ∀ b, gS = some b → Dt b = none)
    (hu : Upd gS W7 W8 K H4) (hg1 : g1 = gS ∨ g1 = some W7.heap.size) :
    H.le H4 ∧ Ow H4 43 9 pL nL cL rowsL gL ∧ Apart gL g1 ∧ (∀ b, g1 = some b → W.heap.size ≤ b ∧ H b = none) ∧ Dt.le H4 ∧ (∀ b, g1 = some b → Dt b = none) := by
  refine ⟨hu.keep n7.sub hle (fun b hb => (nS1 b hb).2), oL.keep hu n7.sub hap, fun b hb hh => ?_, fun b hb => ?_, hu.keep n7.sub hDt dS, fun b hb => ?_⟩
  · rcases hg1 with h | h
    · exact hap b hb (h ▸ hh)
    · rw [h] at hh
      simp only [Option.some.injEq] at hh
      have := oL.lt n7.sub b hb
      omega
  · rcases hg1 with h | h
    · exact nS1 b (h ▸ hb)
    · rw [h] at hb
      simp only [Option.some.injEq] at hb
      exact ⟨by have := n7.mod.size; omega, old_none (Hp.le_trans hle n7.sub) (by omega)⟩
  · rcases hg1 with h | h
    · exact dS b (h ▸ hb)
    · rw [h] at hb
      simp only [Option.some.injEq] at hb
      exact old_none (Hp.le_trans hDt n7.sub) (by omega)
theorem RI.stay {W : World} {H K K' : Hp} {j : Nat} {pS : Option Loc} {nS cS : Nat} {pL : Option Loc} {nL cL : Nat} {a b : Int} {pC : Option Loc} {nC cC : Nat} (h : RI W H K j pS nS cS pL nL cL a b pC nC cC) (hk : K.le K') (hj : j < 30) : RI W H K' (j + 1) pS nS cS pL nL cL a b pC nC cC := by
  obtain ⟨l, sent, s, x, gS, gL, Dt, hj0, hle, ha, hb, hv, hnx, hll, hsl, hsent, oS, oL, hap, nS1, nL1, hDt, hC, dS, dL⟩ := h
  exact ⟨l, sent, s, x, gS, gL, Dt, by omega, Hp.le_trans hle hk, ha, hb, hv, by omega, by omega, by omega, hsent, oS.mono fun b _ o h => hk b o h, oL.mono fun b _ o h => hk b o h, hap, nS1, nL1, Hp.le_trans hDt hk, hC, dS, dL⟩
theorem foldA_last (l : List Ent) (e : Ent) (s : Sta) : (foldA s (l ++ [e]))[l.length]? = some ((foldS s l).apply e).2.1 := by
  rw [foldA_append, List.getElem?_append_right (by rw [foldA_len]; exact Nat.le_refl _), foldA_len, Nat.sub_self]
  rfl
section
variable {H : Hp} {p : Option Loc} {n c : Nat} {picks : List Int}
set_option maxHeartbeats 4000000 in
theorem c_stubOnce (hP : Ints H p n c picks) (h64 : ∀ z ∈ picks, -9223372036854775808 ≤ z ∧ z ≤ 9223372036854775807) : Gv Try.prog 8 #[vsl p n c] H (vb true) := fun W hH => by
  have hn := hP.len
  refine x_stubOnce p n c noM H W _ hH ?_
  refine Cl.same (c_lopen 0 1 H) fun _ _ hx => ⟨_, _, _, _, _, _, _, _, _, rfl, hx, fun x12 H1 hxb h01 b0 => ?_⟩
  obtain ⟨bl, hxl, hbl, hbn, hbc⟩ := hxb
  refine ⟨fun v K => match v with
      | [.n j, .p pS, .n nS, .n cS, .p pL, .n nL, .n cL, .i a, .i b, .p pC, .n nC, .n cC] => RI W H K j pS nS cS pL nL cL a b pC nC cC
      | _ => False, fun v => match v with | .n j :: _ => 30 - j | _ => 0, ?_, ?_⟩
  · rw [map0]
    exact ⟨[openE], [], ⟨1, 1, []⟩, ⟨1, 0, 0, []⟩, none, some bl, noH, by omega, h01, rfl, rfl, Lives.begin, by decide, by simp, by simp, fun e he => (by cases he), Ow.nil _ _ _ _, open_row (W := W) (H0 := H) hxl hbc, fun b h => (by intro hh; cases hh), fun b h => (by cases h),
      fun b h => (by simp only [Option.some.injEq] at h; subst h; exact ⟨hbl, hbn⟩), noH_le _, Ints.nil _ _, fun b h => (by cases h), fun b h => rfl⟩
  intro K j pS nS cS pL nL cL a b pC nC cC hI
  simp only [map0] at hI ⊢
  have hI0 : RI W H K j pS nS cS pL nL cL a b pC nC cC := hI
  obtain ⟨l, sent, s, x, gS, gL, Dt, hj, hle, rfl, rfl, hv, hnx, hll, hsl, hsent, oS, oL, hap, nS1, nL1, hDt, hC, dS, dL⟩ := hI
  have ht : ((j : Int) + 1).toNat = j + 1 := by omega
  have hnS : nS = sent.length := by have := oS.1; simpa using this
  have hnL : nL = l.length := by have := oL.1; simpa using this
  have h64l : ∀ e ∈ l, e.in64 := fun e he => (hv.ok e he).in64
  simp only [ht]
  refine ⟨by omega, fun _ => ⟨fun hjn => ⟨fun hj30 b1 => ?_, fun hj30 => ?_⟩, fun hjn => ?_⟩⟩
  · obtain ⟨z, hz, hat⟩ := (hP.mono hle).at (k := j) (by omega)
    have hz64 := h64 z (List.mem_of_getElem? hz)
    refine ⟨⟨by omega, by omega⟩, fun _ => ⟨hat.isSome, fun _ => ⟨z, hat, ?_⟩⟩⟩
    refine Cl.same (c_choose z 4 (by omega) hz64 K) fun _ _ hx => ⟨_, rfl, hx, fun r0 => ?_, fun r0 => ⟨fun r1 => ?_, fun r1 => ?_⟩⟩
    · -- the next call
      refine Cl.fresh (c_stuNext (s := s) (hC.mono hDt) 0 oneX) ?_
      rintro v W1 W2 D ⟨p', n', c', rfl, hC'⟩ hx hD hf nn
      refine ⟨_, _, p', n', c', _, _, _, _, _, _, _, _, _, _, rfl, hx, D, hD, hf, fun H3 h3 hd3 b2 b3 => ⟨fun e0 => ?_, fun e0 => ⟨in64 (by omega), fun _ => ⟨by omega, fun _ => ⟨by omega, fun _ => ⟨by omega, fun _ => ⟨by omega, fun _ => ⟨by omega, fun _ => ⟨by omega, fun _ => ⟨by omega, fun _ => ⟨hI0.stay h3 (by omega), by omega⟩⟩⟩⟩⟩⟩⟩⟩⟩⟩⟩
      have enx := next_ok e0 hv.stub
      rw [enx] at hC' ⊢
      intro b4 W7 n7 k7
      have oS3 := oS.mono fun b _ o h => h3 b o h
      have oL3 := oL.mono fun b _ o h => h3 b o h
      obtain ⟨r1, y1, g1, W8, H4, run1, hu1, oS', hg1, _⟩ := run_append1 (P := Try.prog) Try.underlying26 infoEnt (by omega) n7.sub oS3 (row := (s.call 0 s.next oneX).row) k7.1.eq k7.1.off rfl (ones_e _) (by simp only [maxLen]; omega) (by omega) 26
      have hDS : ∀ b, gS = some b → D b = none := fun b hb => fresh_none hf (oS.lt nn.sub b hb)
      have hDL : ∀ b, gL = some b → D b = none := fun b hb => fresh_none hf (oL.lt nn.sub b hb)
      obtain ⟨q1, q2, q3, q4, q5, q6⟩ := push_sent n7 (Hp.le_trans hle h3) oS3 oL3 hap nS1 hd3 hDS hu1 hg1
      refine ⟨r1, nS + 1, y1, W8, run1, H4, hu1.own oS3 (fun b hb => .inl (nS1 b hb).1), ⟨in64 (by omega), fun _ => ⟨by omega, fun _ => ⟨by omega, fun _ => ⟨by omega, fun _ => ⟨by omega, fun _ => ⟨by omega, fun _ => ⟨by omega, fun _ => ⟨by omega, fun _ => ?_⟩⟩⟩⟩⟩⟩⟩⟩⟩
      refine ⟨⟨l, sent ++ [s.call 0 s.next oneX], { s with next := s.next + 1 }, x, g1, gL, D, by omega, q1, rfl, rfl, hv.next (by omega), by simp only; omega, by omega, by simp; omega, fun e he => ?_, by rw [List.map_append]; exact oS', q2, q3, q4, nL1, q5, hC', q6, hDL⟩, by omega⟩
      rcases List.mem_append.1 he with he | he
      · exact (hsent e he).next
      · simp only [List.mem_singleton] at he
        subst he
        exact sent_next hv.stub hv.client
    · -- a call again
      refine ⟨z, hat, fun W5 n5 _ => ?_⟩
      obtain ⟨y, hy, y1, y2⟩ := ek_quo4 (.tmp 128) (.const (Value.int .i64 4)) z hz64 W5
      refine ⟨y, W5, ?_, Ext.refl _, ?_⟩
      · exact hy
      obtain ⟨u1, u2⟩ := choose_in y 9 (by omega)
      refine Cl.same (c_choose y 9 (by omega) ⟨y1, y2⟩ K) fun _ _ hx => ⟨_, rfl, hx, in64 (by omega), fun _ => ?_⟩
      refine Cl.same (c_stuAgain (s := s) (hC.mono hDt) 0 (1 + chooseI y 9) oneX) fun _ _ hx => ⟨_, _, _, _, _, _, _, _, _, _, rfl, hx, fun b2 => ⟨fun e0 => ?_, fun e0 => ⟨in64 (by omega), fun _ => ⟨by omega, fun _ => ⟨by omega, fun _ => ⟨by omega, fun _ => ⟨by omega, fun _ => ⟨by omega, fun _ => ⟨by omega, fun _ => ⟨by omega, fun _ => ⟨hI0.stay (Hp.le_refl _) (by omega), by omega⟩⟩⟩⟩⟩⟩⟩⟩⟩⟩⟩
      obtain ⟨hq, he1⟩ := again_ok e0
      rw [he1]
      intro b3 W11 n11 k11
      obtain ⟨r1, c1, g1, W8, H4, run1, hu1, oS', hg1, _⟩ := run_append1 (P := Try.prog) Try.underlying26 infoEnt (by omega) n11.sub oS (row := (s.call 0 (1 + chooseI y 9) oneX).row) k11.1.eq k11.1.off rfl (ones_e _) (by simp only [maxLen]; omega) (by omega) 26
      obtain ⟨q1, q2, q3, q4, q5, q6⟩ := push_sent n11 hle oS oL hap nS1 hDt dS hu1 hg1
      refine ⟨r1, nS + 1, c1, W8, run1, H4, hu1.own oS (fun b hb => .inl (nS1 b hb).1), ⟨in64 (by omega), fun _ => ⟨by omega, fun _ => ⟨by omega, fun _ => ⟨by omega, fun _ => ⟨by omega, fun _ => ⟨by omega, fun _ => ⟨by omega, fun _ => ⟨by omega, fun _ => ?_⟩⟩⟩⟩⟩⟩⟩⟩⟩
      refine ⟨⟨l, sent ++ [s.call 0 (1 + chooseI y 9) oneX], s, x, g1, gL, Dt, by omega, q1, rfl, rfl, hv, by omega, by omega, by simp; omega, fun e he => ?_, by rw [List.map_append]; exact oS', q2, q3, q4, nL1, q5, hC, q6, dL⟩, by omega⟩
      rcases List.mem_append.1 he with he | he
      · exact hsent e he
      · simp only [List.mem_singleton] at he
        subst he
        exact sent_call hv.stub hv.client hq.1 hq.2
    · -- a call comes
      refine ⟨by omega, fun _ => ⟨fun hz0 => ⟨in64 (by omega), fun _ => ⟨by omega, fun _ => ⟨by omega, fun _ => ⟨by omega, fun _ => ⟨by omega, fun _ => ⟨by omega, fun _ => ⟨by omega, fun _ => ⟨hI0.stay (Hp.le_refl _) (by omega), by omega⟩⟩⟩⟩⟩⟩⟩⟩, fun hz0 => ⟨z, hat, fun W5 n5 _ => ?_⟩⟩⟩
      obtain ⟨y, hy, y1, y2⟩ := ek_quo4 (.tmp 55) (.const (Value.int .i64 4)) z hz64 W5
      refine ⟨y, W5, ?_, Ext.refl _, ?_⟩
      · exact hy
      obtain ⟨u1, u2⟩ := choose_in y (nS : Int) (by omega)
      refine Cl.same (c_choose y (nS : Int) (by omega) ⟨y1, y2⟩ K) fun _ _ hx => ⟨_, rfl, hx, ?_⟩
      obtain ⟨i, hi⟩ : ∃ i : Nat, chooseI y (nS : Int) = i := ⟨(chooseI y (nS : Int)).toNat, by omega⟩
      rw [hi] at u1 u2 ⊢
      obtain ⟨row, hrow0, _, hrow⟩ := oS.rows.at (k := i) (by omega) (off := 0 + (i : Int) * 9) (by omega)
      rw [List.getElem?_map] at hrow0
      obtain ⟨e, he, rfl⟩ := Option.map_eq_some_iff.1 hrow0
      have hes := hsent e (List.mem_of_getElem? he)
      obtain ⟨y', hv', htold⟩ := hv.sent hes
      refine ⟨⟨by omega, by omega⟩, fun _ => ⟨hrow.isSome, fun _ => ⟨_, _, _, _, _, _, _, _, _, hrow, fun b2 => ?_⟩⟩⟩
      refine Cl.same (c_begin K) fun _ _ hx => ⟨_, _, _, _, _, _, none, 0, 0, rfl, Fr.none hx fun H3 h3 b3 => ?_⟩
      intro W11 n11 k11
      have oS3 := oS.mono fun b _ o h => h3 b o h
      have oL3 := oL.mono fun b _ o h => h3 b o h
      obtain ⟨p1, c1, g1, W12, H4, r1, t1, o1, g1n, h34⟩ := ek_clone (P := Try.prog) Try.underlying26 infoEnt (by omega) n11 (some (b3, 0)) oL3.rows (ones_E l) (by omega) (by simp only [maxLen]; omega) 26 (c := cL)
      refine ⟨p1, nL, c1, W12, r1, H4, t1, fun b4 => ?_⟩
      intro W13 n13 k13
      obtain ⟨p2, c2, g2, W14, H5, r2, hu2, o2, hg2, _⟩ := run_append1 (P := Try.prog) Try.underlying26 infoEnt (by omega) n13.sub o1 (row := e.row) k13.1.eq k13.1.off rfl (ones_e e) (by simp only [maxLen]; omega) (by omega) 26
      have hg1W : ∀ b, g1 = some b → W.heap.size ≤ b := fun b hb => Nat.le_trans n11.mod.size (g1n b hb)
      refine ⟨p2, nL + 1, c2, W14, r2, H5, hu2.own o1 (fun b hb => .inl (hg1W b hb)), ?_⟩
      have oL4 := oL3.mono fun b _ o h => h34 b o h
      have oS4 := oS3.mono fun b _ o h => h34 b o h
      have oL5 := oL4.keep hu2 n13.sub (fun b hb hh => by have h1 := g1n b hh; have h2 := oL3.lt n11.sub b hb; omega)
      have oS5 := oS4.keep hu2 n13.sub (fun b hb hh => by have h1 := g1n b hh; have h2 := oS3.lt n11.sub b hb; omega)
      have hH5 : H.le H5 := hu2.keep n13.sub (Hp.le_trans (Hp.le_trans hle h3) h34) (fun b hb => old_none (Hp.le_trans (Hp.le_trans hle h3) n11.sub) (g1n b hb))
      have hDt5 : Dt.le H5 := hu2.keep n13.sub (Hp.le_trans (Hp.le_trans hDt h3) h34) (fun b hb => old_none (Hp.le_trans (Hp.le_trans hDt h3) n11.sub) (g1n b hb))
      rw [show l.map Ent.row ++ [e.row] = (l ++ [e]).map Ent.row by simp] at o2
      have hEn : Ents H5 p2 (nL + 1) c2 (l ++ [e]) := Ents.of_ow o2 (fun z hz => (hv'.ok z hz).in64)
      have cf := c_foldAll (s := Sta.zero) (p := none) (n := 0) (c := 0) (Tab.nil H5 none) hEn
      rw [hv'.all (by simp; omega)] at cf
      refine Cl.fresh cf ?_
      rintro v W15 W16 D ⟨pt, nt, ct, pa, na, ca, ga, rfl, _, hA⟩ hx hD hf nn
      have hIA := Ints.of_ow hA
      have hna := hIA.len
      simp only [foldA_len, List.length_append, List.length_cons, List.length_nil] at hna
      refine ⟨_, _, _, _, _, _, pt, nt, ct, pa, na, ca, _, rfl, hx, D, hD, hf, fun H6 h56 hd6 b5 => ⟨fun _ => ⟨by omega, fun _ => ⟨by omega, fun _ => ⟨in64 (by omega), fun _ => ⟨fun _ b6 => ?_, fun h => absurd (by omega) h⟩⟩⟩⟩, fun h => absurd rfl h⟩⟩
      intro W17 n17 k17
      have oL6 := oL5.mono fun b _ o h => h56 b o h
      have oS6 := oS5.mono fun b _ o h => h56 b o h
      obtain ⟨p7, c7, g7, W18, H7, r7, hu7, o7, hg7, _⟩ := run_append1 (P := Try.prog) Try.underlying26 infoEnt (by omega) n17.sub oL6 (row := e.row) k17.1.eq k17.1.off rfl (ones_e e) (by simp only [maxLen]; omega) (by omega) 26
      obtain ⟨q1, q2, q3, q4, q5, q6⟩ := push_sent n17 (Hp.le_trans hH5 h56) oL6 oS6 hap.symm nL1 (Hp.le_trans hDt5 h56) dL hu7 hg7
      have hD7 : D.le H7 := hu7.keep n17.sub hd6 (fun b hb => fresh_none hf (oL5.lt nn.sub b hb))
      rw [show l.map Ent.row ++ [e.row] = (l ++ [e]).map Ent.row by simp] at o7
      refine ⟨p7, nL + 1, c7, W18, r7, H7, hu7.own oL6 (fun b hb => .inl (nL1 b hb).1), by omega, fun _ => ⟨in64 (by omega), fun _ => ⟨⟨by omega, by omega⟩, fun _ => ?_⟩⟩⟩
      obtain ⟨ans, hans, hat7⟩ := (hIA.mono hD7).at (k := nL) (by omega)
      have hans' : ans = ((foldS Sta.zero l).apply e).2.1 := by
        have h1 := foldA_last l e Sta.zero
        rw [← hnL] at h1
        have h2 : (foldA Sta.zero (l ++ [e]))[nL]? = some ans := hans
        rw [h1] at h2
        simpa using h2.symm
      rw [show (0 : Int) + (((nL + 1 : Nat) : Int) - 1) * 1 = 0 + (nL : Int) * 1 by omega]
      refine ⟨hat7.isSome, fun _ => ⟨ans, hat7, fun hlow => ⟨in64 (by omega), fun _ => ⟨by omega, fun _ => ⟨by omega, fun _ => ⟨by omega, fun _ => ⟨by omega, fun _ => ⟨by omega, fun _ => ?_⟩⟩⟩⟩⟩⟩, fun hlow => ?_⟩⟩
      · exact ⟨⟨l ++ [e], sent, s, y', gS, g7, Dt, by omega, q1, rfl, rfl, hv', by omega, by simp; omega, by omega, hsent, q2, o7, q3.symm, nS1, q4, q5, hC, dS, q6⟩, by omega⟩
      · have cc := c_stuCame (s := s) (hC.mono q5) e.seq
        rw [came_of hv.stub hes.seq.1 hes.seq.2] at cc
        refine Cl.fresh cc ?_
        rintro v W19 W20 D8 ⟨p', n', c', rfl, hC'⟩ hx8 hD8 hf8 nn8
        refine ⟨_, _, p', n', c', _, rfl, hx8, D8, hD8, hf8, fun H8 h78 hd8 b7 => ⟨fun _ => ⟨in64 (by omega), fun _ => ⟨by omega, fun _ => ⟨by omega, fun _ => ⟨by omega, fun _ => ⟨by omega, fun _ => ⟨by omega, fun _ => ?_⟩⟩⟩⟩⟩⟩, fun h => absurd rfl h⟩⟩
        refine ⟨⟨l ++ [e], sent, { s with came := putI s.came e.seq }, y', gS, g7, D8, by omega, Hp.le_trans q1 h78, rfl, rfl, hv'.put hes.seq.1 hes.seq.2 (htold (by omega)), by simp only; omega, by simp; omega, by omega, fun z hz => (hsent z hz).put _, q2.mono fun b _ o h => h78 b o h, o7.mono fun b _ o h => h78 b o h, q3.symm, nS1, q4, hd8, hC', fun b hb => fresh_none hf8 (q2.lt nn8.sub b hb), fun b hb => fresh_none hf8 (o7.lt nn8.sub b hb)⟩, by omega⟩
  all_goals
    refine Cl.same (c_begin K) fun _ _ hx => ⟨_, _, _, _, _, _, none, 0, 0, rfl, Fr.none hx fun H3 h3 => ?_⟩
    have hEl : Ents H3 pL nL cL l := (Ents.of_ow oL h64l).mono h3
    have cf := c_foldAll (s := Sta.zero) (p := none) (n := 0) (c := 0) (Tab.nil H3 none) hEl
    rw [hv.all (by omega)] at cf
    refine Cl.fresh cf ?_
    rintro v W1 W2 D ⟨pt, nt, ct, pa, na, ca, ga, rfl, _, _⟩ hx hD hf nn
    refine ⟨_, _, _, _, _, _, pt, nt, ct, pa, na, ca, _, rfl, hx, D, hD, hf, fun H4 h4 hd4 b1 => ⟨fun _ => ⟨fun h60 => absurd h60 (by omega), fun _ => ?_⟩, fun h => absurd rfl h⟩⟩
    have hone : ∀ q : Int, 1 ≤ q → many l q ≤ 1 := fun q hq => by
      by_cases ht : T1 x q
      · rw [(hv.once q hq).1 ht]; exact Nat.le_refl _
      · rw [(hv.once q hq).2 ht]; omega
    have hsb := hv.stub.next
    refine ⟨fun v K' => match v with | [.n q, .i d] => 1 ≤ q ∧ (q : Int) ≤ s.next ∧ H4.le K' ∧ d = ((sumMany l (q - 1) : Nat) : Int) | _ => False, fun v => match v with | [.n q, _] => s.next.toNat - q | _ => 0, ⟨by omega, by omega, Hp.le_refl _, rfl⟩, ?_⟩
    rintro K5 q d ⟨q1, q2, h5, hd⟩
    refine ⟨fun hlt => ?_, fun hge => ?_⟩
    · have ct := c_traceOnce ((hEl.mono h4).mono h5) 1 (q : Int)
      rw [hv.tells (by omega) (by omega) hlt] at ct
      have hq1 := hone (q : Int) (by omega)
      have hsum := sum_le hone (q - 1)
      refine Cl.same ct fun _ _ hx => ⟨_, _, rfl, hx, fun _ => ⟨fun h1 => absurd h1 (by dsimp only; omega), fun _ => ⟨in64 (by dsimp only; omega), fun _ => ⟨in64 (by omega), fun _ => ⟨by omega, fun _ => ?_⟩⟩⟩⟩, fun h => absurd rfl h⟩
      refine ⟨⟨by omega, by omega, h5, ?_⟩, by simp only; omega⟩
      have e1 : ((q : Int) + 1).toNat - 1 = (q - 1) + 1 := by omega
      rw [e1, sumMany, hd, show (((q - 1 : Nat) : Int) + 1) = (q : Int) by omega]
      dsimp only
      omega
    · refine ⟨fun v K' => match v with | [.n i] => i ≤ nC ∧ K5.le K' | _ => False, fun v => match v with | [.n i] => nC - i | _ => 0, ⟨by omega, Hp.le_refl _⟩, ?_⟩
      rintro K6 i ⟨i1, h6⟩
      refine ⟨by omega, fun _ => ⟨fun hlt => ?_, fun hge2 => ?_⟩⟩
      · obtain ⟨w, hw, hat⟩ := ((((hC.mono hDt).mono h3).mono h4).mono h5 |>.mono h6).at (k := i) (by omega)
        have hwm := List.mem_of_getElem? hw
        have hwr := hv.stub.came w hwm
        have ct := c_traceOnce (((hEl.mono h4).mono h5).mono h6) 1 w
        rw [hv.tells (by omega) (by omega) hwr.2] at ct
        have h1 := (hv.once w (by omega)).1 (hv.came w hwm)
        have hCc := hC.1
        have hCm := hC.2.1
        simp only [maxLen] at hCm
        refine ⟨⟨by omega, by omega⟩, fun _ => ⟨hat.isSome, fun _ => ⟨w, hat, Cl.same ct fun _ _ hx => ⟨_, _, rfl, hx, fun _ => ⟨fun _ => ⟨in64 (by omega), fun _ => ⟨by omega, fun _ => ?_⟩⟩, fun h => absurd (by dsimp only; omega) h⟩, fun h => absurd rfl h⟩⟩⟩⟩
        exact ⟨⟨by omega, h6⟩, by simp only; omega⟩
      · refine Cl.same (c_stubBegun K6) fun _ _ hx => ⟨_, rfl, hx, fun _ => Rt.gv' ?_, fun h => absurd rfl h⟩
        rw [decide_eq_true]
        show (foldS Sta.zero l).vals.b = d
        rw [hv.vals, hd]
        show ((sumMany l (s.next - 1).toNat : Nat) : Int) = _
        rw [show (s.next - 1).toNat = q - 1 by omega]
end
end Go.Proofs.Ytgmgbfpoeclgiaa
