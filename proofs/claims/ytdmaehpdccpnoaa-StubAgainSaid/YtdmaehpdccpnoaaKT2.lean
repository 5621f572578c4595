/- Clients as plain data, and what the document says of them. No program in sight. No conditions. Symbolic runs of functions: what each leaves to prove is enough for its call. Printed by a program of ours. No conditions. Contract: slices.Insert of ints. No conditions. Symbolic runs of functions: what each leaves to prove is enough for its call. Printed by a program of ours. No conditions. Contracts: clients: what checks, what is acknowledged; lists of ints. No conditions. Contracts: clients: the next call, a call that was, an answer that came. No conditions. -/
import Derived.Test.YtdmaehpdccpnoaaKT1
import Derived.Test.YtdmaehpdccpnoaaKE3
import Derived.Test.YtdmaehpdccpnoaaProg
import Derived.Test.YtdmaehpdccpnoaaKS2
import Derived.Test.YtdmaehpdccpnoaaKE4
import Derived.Lib.Overlaps
import Derived.Test.YtdmaehpdccpnoaaKS4
set_option linter.unusedVariables false
set_option linter.unusedSimpArgs false
namespace Go.Proofs.Ytdmaehpdccpnoaa

structure Stb where
  client : Int
  next : Int
  came : List Int
  deriving DecidableEq
def Stb.zero : Stb := ⟨0, 0, []⟩
def cameOk (next : Int) : Int → List Int → Bool
  | _, [] => true
  | last, n :: t => decide (last < n ∧ n < next) && cameOk next n t
def Stb.err (s : Stb) : Int := if s.client < 1 ∨ 5 < s.client ∨ s.next < 1 ∨ 61 < s.next then 3 else if cameOk s.next 0 s.came = true then 0 else 1
theorem cameOk_iff (next : Int) : ∀ (l : List Int) (last : Int), cameOk next last l = true ↔ (∀ x ∈ l, last < x ∧ x < next) ∧ l.Pairwise fun a b => a < b
  | [], last => by simp [cameOk]
  | n :: t, last => by
    simp only [cameOk, Bool.and_eq_true, decide_eq_true_eq, cameOk_iff next t n, List.mem_cons, forall_eq_or_imp, List.pairwise_cons]
    constructor
    · rintro ⟨h1, h2, h3⟩
      exact ⟨⟨h1, fun x hx => by have := h2 x hx; omega⟩, fun x hx => (h2 x hx).1, h3⟩
    · rintro ⟨⟨h1, h2⟩, h3, h4⟩
      exact ⟨h1, fun x hx => ⟨h3 x hx, (h2 x hx).2⟩, h4⟩
structure StbOk (s : Stb) : Prop where
  client : 1 ≤ s.client ∧ s.client ≤ 5
  next : 1 ≤ s.next ∧ s.next ≤ 61
  came : ∀ x ∈ s.came, 0 < x ∧ x < s.next
  ord : s.came.Pairwise fun a b => a < b
theorem Stb.err_ok {s : Stb} (h : s.err = 0) : StbOk s := by
  unfold Stb.err at h
  split at h
  · cases h
  · split at h
    · rename_i h1 h2
      obtain ⟨h3, h4⟩ := (cameOk_iff _ _ _).1 h2
      exact ⟨by omega, by omega, h3, h4⟩
    · cases h
theorem stb_range {s : Stb} (h : s.client < 1 ∨ 5 < s.client ∨ s.next < 1 ∨ 61 < s.next) : s.err = 3 := by unfold Stb.err; rw [if_pos h]
theorem stb_form {s : Stb} (h : ¬ (s.client < 1 ∨ 5 < s.client ∨ s.next < 1 ∨ 61 < s.next)) (h2 : cameOk s.next 0 s.came = false) : s.err = 1 := by unfold Stb.err; rw [if_neg h, if_neg (by simp [h2])]
theorem stb_ok {s : Stb} (h : ¬ (s.client < 1 ∨ 5 < s.client ∨ s.next < 1 ∨ 61 < s.next)) (h2 : cameOk s.next 0 s.came = true) : s.err = 0 := by unfold Stb.err; rw [if_neg h, if_pos h2]
/-- up to which number all have come -/
def ackF : Nat → List Int → Nat
  | k, [] => k
  | k, n :: t => if n = (k : Int) + 1 then ackF (k + 1) t else k
theorem ackF_le : ∀ (l : List Int) (k : Nat), k ≤ ackF k l ∧ ackF k l ≤ k + l.length
  | [], k => by simp [ackF]
  | n :: t, k => by
    unfold ackF
    split
    · have := ackF_le t (k + 1)
      simp only [List.length_cons]
      omega
    · simp only [List.length_cons]; omega
theorem ackF_mem : ∀ (l : List Int) (k m : Nat), k ≤ m → m < ackF k l → ((m : Int) + 1) ∈ l
  | [], k, m, h1, h2 => by simp [ackF] at h2; omega
  | n :: t, k, m, h1, h2 => by
    unfold ackF at h2
    split at h2
    · rename_i h
      rcases Nat.eq_or_lt_of_le h1 with rfl | h3
      · rw [h]; exact List.mem_cons_self ..
      · exact List.mem_cons_of_mem _ (ackF_mem t (k + 1) m h3 h2)
    · omega
theorem ackF_not : ∀ (l : List Int) (k : Nat), (∀ x ∈ l, (k : Int) < x) → (l.Pairwise fun a b => a < b) → ((ackF k l : Nat) : Int) + 1 ∉ l
  | [], k, _, _ => by simp
  | n :: t, k, h1, h2 => by
    rw [List.pairwise_cons] at h2
    have hn := h1 n (List.mem_cons_self ..)
    unfold ackF
    split
    · rename_i h
      intro hm
      rcases List.mem_cons.1 hm with h3 | h3
      · have := (ackF_le t (k + 1)).1
        omega
      · exact ackF_not t (k + 1) (fun x hx => by have := h2.1 x hx; omega) h2.2 h3
    · rename_i h
      intro hm
      rcases List.mem_cons.1 hm with h3 | h3
      · omega
      · have := h2.1 _ h3; omega
theorem ack_lt {s : Stb} (h : StbOk s) : ((ackF 0 s.came : Nat) : Int) ≤ s.next - 1 := by
  rcases Nat.eq_zero_or_pos (ackF 0 s.came) with h0 | h0
  · rw [h0]; have := h.next; omega
  · have := h.came _ (ackF_mem s.came 0 (ackF 0 s.came - 1) (by omega) (by omega))
    omega
theorem incl_len : ∀ (l : List Int) (a b : Int), (∀ x ∈ l, a < x ∧ x < b) → (l.Pairwise fun a b => a < b) → (l.length : Int) ≤ (if a < b then b - a - 1 else 0)
  | [], a, b, _, _ => by simp; split <;> omega
  | n :: t, a, b, h1, h2 => by
    rw [List.pairwise_cons] at h2
    have hn := h1 n (List.mem_cons_self ..)
    have := incl_len t n b (fun x hx => ⟨h2.1 x hx, (h1 x (List.mem_cons_of_mem _ hx)).2⟩) h2.2
    rw [if_pos hn.2] at this
    rw [if_pos (by omega)]
    simp only [List.length_cons]
    omega
theorem came_len {s : Stb} (h : StbOk s) : s.came.length ≤ 60 := by
  have := incl_len s.came 0 s.next h.came h.ord
  have := h.next
  split at * <;> omega
/-- a call by a number -/
def Stb.call (s : Stb) (time seq : Int) (x : POp) : Ent := ⟨2, time, s.client, seq, (if seq - 1 < ((ackF 0 s.came : Nat) : Int) then seq - 1 else ((ackF 0 s.came : Nat) : Int)), x⟩
def Stb.doCall (s : Stb) (time seq : Int) (x : POp) : Ent × Int := if (s.call time seq x).err = 0 then (s.call time seq x, 0) else (Ent.zero, (s.call time seq x).err)
def Stb.doNext (s : Stb) (time : Int) (x : POp) : Stb × Ent × Int :=
  if s.err = 0 then (if (s.call time s.next x).err = 0 then ({ s with next := s.next + 1 }, s.call time s.next x, 0) else (Stb.zero, Ent.zero, (s.call time s.next x).err)) else (Stb.zero, Ent.zero, s.err)
def Stb.doAgain (s : Stb) (time seq : Int) (x : POp) : Ent × Int :=
  if s.err = 0 then (if seq < 1 ∨ s.next ≤ seq ∨ seq ∈ s.came then (Ent.zero, 5) else s.doCall time seq x) else (Ent.zero, s.err)
def putI (l : List Int) (x : Int) : List Int := (l.filter fun y => decide (y < x)) ++ x :: l.filter fun y => decide (x < y)
def Stb.doCame (s : Stb) (seq : Int) : Stb × Int :=
  if s.err = 0 then (if seq < 1 ∨ s.next ≤ seq then (Stb.zero, 5) else ({ s with came := putI s.came seq }, 0)) else (Stb.zero, s.err)
theorem sorted_ext : ∀ {l m : List Int}, (l.Pairwise fun a b => a < b) → (m.Pairwise fun a b => a < b) → (∀ x, x ∈ l ↔ x ∈ m) → l = m
  | [], [], _, _, _ => rfl
  | [], b :: m, _, _, h => by have := (h b).2 (List.mem_cons_self ..); simp at this
  | a :: l, [], _, _, h => by have := (h a).1 (List.mem_cons_self ..); simp at this
  | a :: l, b :: m, hl, hm, h => by
    rw [List.pairwise_cons] at hl hm
    have ha := (h a).1 (List.mem_cons_self ..)
    have hb := (h b).2 (List.mem_cons_self ..)
    have hab : a = b := by
      rcases List.mem_cons.1 ha with h1 | h1
      · exact h1
      · rcases List.mem_cons.1 hb with h2 | h2
        · exact h2.symm
        · have := hm.1 a h1; have := hl.1 b h2; omega
    subst hab
    congr 1
    refine sorted_ext hl.2 hm.2 fun x => ⟨fun hx => ?_, fun hx => ?_⟩
    · rcases List.mem_cons.1 ((h x).1 (List.mem_cons_of_mem _ hx)) with rfl | h1
      · have := hl.1 x hx; omega
      · exact h1
    · rcases List.mem_cons.1 ((h x).2 (List.mem_cons_of_mem _ hx)) with rfl | h1
      · have := hm.1 x hx; omega
      · exact h1
theorem putI_sorted {l : List Int} (h : l.Pairwise fun a b => a < b) (x : Int) : (putI l x).Pairwise fun a b => a < b := by
  unfold putI
  rw [List.pairwise_append, List.pairwise_cons]
  refine ⟨h.filter _, ⟨fun a ha => by simpa using (List.mem_filter.1 ha).2, h.filter _⟩, fun a ha b hb => ?_⟩
  have h1 : a < x := by simpa using (List.mem_filter.1 ha).2
  rcases List.mem_cons.1 hb with rfl | hb
  · exact h1
  · have : x < b := by simpa using (List.mem_filter.1 hb).2
    omega
theorem putI_mem (l : List Int) (x y : Int) : y ∈ putI l x ↔ y = x ∨ y ∈ l := by
  unfold putI
  simp only [List.mem_append, List.mem_cons, List.mem_filter, decide_eq_true_eq]
  constructor
  · rintro (⟨h, _⟩ | rfl | ⟨h, _⟩)
    · exact .inr h
    · exact .inl rfl
    · exact .inr h
  · rintro (rfl | h)
    · exact .inr (.inl rfl)
    · rcases Int.lt_trichotomy y x with h1 | h1 | h1
      · exact .inl ⟨h, h1⟩
      · exact .inr (.inl h1)
      · exact .inr (.inr ⟨h, h1⟩)
theorem putI_has {l : List Int} (h : l.Pairwise fun a b => a < b) {x : Int} (hx : x ∈ l) : putI l x = l :=
  sorted_ext (putI_sorted h x) h fun y => by rw [putI_mem]; exact ⟨fun hy => hy.elim (fun e => e ▸ hx) id, .inr⟩
/-- those up to k that pass a test -/
def upL (f : Int → Bool) : Nat → List Int
  | 0 => []
  | k + 1 => upL f k ++ (if f ((k : Int) + 1) = true then [(k : Int) + 1] else [])
theorem upL_mem (f : Int → Bool) : ∀ (k : Nat) (x : Int), x ∈ upL f k ↔ 1 ≤ x ∧ x ≤ k ∧ f x = true
  | 0, x => by simp [upL]; omega
  | k + 1, x => by
    simp only [upL, List.mem_append, upL_mem f k x]
    constructor
    · rintro (⟨h1, h2, h3⟩ | h)
      · exact ⟨h1, by omega, h3⟩
      · split at h
        · rename_i hf
          simp only [List.mem_singleton] at h
          subst h
          exact ⟨by omega, by omega, hf⟩
        · simp at h
    · rintro ⟨h1, h2, h3⟩
      by_cases h : x = (k : Int) + 1
      · subst h
        exact .inr (by rw [if_pos h3]; simp)
      · exact .inl ⟨h1, by omega, h3⟩
theorem upL_sorted (f : Int → Bool) : ∀ k : Nat, (upL f k).Pairwise fun a b => a < b
  | 0 => List.Pairwise.nil
  | k + 1 => by
    simp only [upL, List.pairwise_append]
    refine ⟨upL_sorted f k, by split <;> simp, fun a ha b hb => ?_⟩
    have := ((upL_mem f k a).1 ha).2.1
    split at hb
    · simp only [List.mem_singleton] at hb; omega
    · simp at hb
theorem upL_put {s : Stb} (h : StbOk s) {x : Int} (h1 : 1 ≤ x) (h2 : x < s.next) {k : Nat} (hk : (k : Int) = s.next - 1) : upL (fun n => decide (n = x) || decide (n ∈ s.came)) k = putI s.came x :=
  sorted_ext (upL_sorted _ k) (putI_sorted h.ord x) fun y => by
    rw [upL_mem, putI_mem]
    simp only [Bool.or_eq_true, decide_eq_true_eq]
    constructor
    · rintro ⟨_, _, h3⟩; exact h3
    · rintro (rfl | h3)
      · exact ⟨by omega, by omega, .inl rfl⟩
      · have := h.came y h3
        exact ⟨by omega, by omega, .inr h3⟩
/-- how many are smaller -/
def posI (l : List Int) (x : Int) : Nat := (l.filter fun y => decide (y < x)).length
theorem split_I (x : Int) : ∀ (l : List Int), (l.Pairwise fun a b => a < b) → l.take (posI l x) = l.filter (fun y => decide (y < x)) ∧ (x ∉ l → l.drop (posI l x) = l.filter fun y => decide (x < y))
  | [], _ => by simp [posI]
  | a :: t, h => by
    rw [List.pairwise_cons] at h
    obtain ⟨h1, h2⟩ := split_I x t h.2
    by_cases ha : a < x
    · have e1 : (a :: t).filter (fun y => decide (y < x)) = a :: t.filter (fun y => decide (y < x)) := List.filter_cons_of_pos (by simpa using ha)
      have e2 : (a :: t).filter (fun y => decide (x < y)) = t.filter (fun y => decide (x < y)) := List.filter_cons_of_neg (by simp; omega)
      have e3 : posI (a :: t) x = posI t x + 1 := by unfold posI; rw [e1]; rfl
      rw [e1, e2, e3, List.take_succ_cons, List.drop_succ_cons, h1]
      exact ⟨rfl, fun hx => h2 (fun hh => hx (List.mem_cons_of_mem _ hh))⟩
    · have e1 : (a :: t).filter (fun y => decide (y < x)) = [] := by
        rw [List.filter_eq_nil_iff]
        intro y hy
        rcases List.mem_cons.1 hy with rfl | hy
        · simpa using ha
        · have := h.1 y hy; simp only [decide_eq_true_eq]; omega
      have e3 : posI (a :: t) x = 0 := by unfold posI; rw [e1]; rfl
      rw [e1, e3, List.take_zero, List.drop_zero]
      refine ⟨rfl, fun hx => ?_⟩
      symm
      rw [List.filter_eq_self]
      intro y hy
      have hne : a ≠ x := fun hh => hx (hh ▸ List.mem_cons_self ..)
      rcases List.mem_cons.1 hy with rfl | hy
      · simp only [decide_eq_true_eq]; omega
      · have := h.1 y hy; simp only [decide_eq_true_eq]; omega
theorem putI_not {l : List Int} (h : l.Pairwise fun a b => a < b) {x : Int} (hx : x ∉ l) : l.take (posI l x) ++ x :: l.drop (posI l x) = putI l x := by
  obtain ⟨h1, h2⟩ := split_I x l h
  rw [h1, h2 hx]
  rfl
theorem posI_le (l : List Int) (x : Int) : posI l x ≤ l.length := List.length_filter_le _ _
end Go.Proofs.Ytdmaehpdccpnoaa
namespace Go.Proofs.Ytdmaehpdccpnoaa
open Go.RowKit
set_option maxRecDepth 100000
set_option maxHeartbeats 4000000
def v_stuNext : VC :=
(.all 0
(.all 1
(.all 2
(.all 3
(.call 28 [.agg [.int .i64 (.v 0), .int .i64 (.v 1), .slO 2 (.k 0) (.v 3) (.v 4)]] [] [(10, .i)] (.int .i64 (.v 10)) .same
(.ite (.eq (.v 10) (.k 0))
(.call 64 [.agg [.int .i64 (.v 0), .int .i64 (.v 1), .slO 2 (.k 0) (.v 3) (.v 4)], .int .i64 (.v 5), .int .i64 (.v 1), .agg [.int .i64 (.v 6), .int .i64 (.v 7), .int .i64 (.v 8), .int .i64 (.v 9)]] [] [(11, .i), (12, .i), (13, .i), (14, .i), (15, .i), (16, .i), (17, .i), (18, .i), (19, .i), (20, .i)] (.tup [.agg [.int .i64 (.v 11), .int .i64 (.v 12), .int .i64 (.v 13), .int .i64 (.v 14), .int .i64 (.v 15), .int .i64 (.v 16), .int .i64 (.v 17), .int .i64 (.v 18), .int .i64 (.v 19)], .int .i64 (.v 20)]) .same
(.all 4
(.ite (.eq (.v 20) (.k 0))
(.call 65 [.slO 2 (.k 0) (.v 3) (.v 4)] [] [(21, .p), (22, .n), (23, .n)] (.slO 21 (.k 0) (.v 22) (.v 23)) .fresh
(.chk (.rng .i64 (.add (.v 1) (.k 1)))
(.ret (.tup [.agg [.int .i64 (.v 0), .int .i64 (.add (.v 1) (.k 1)), .slO 21 (.k 0) (.v 22) (.v 23)], .agg [.int .i64 (.v 11), .int .i64 (.v 12), .int .i64 (.v 13), .int .i64 (.v 14), .int .i64 (.v 15), .int .i64 (.v 16), .int .i64 (.v 17), .int .i64 (.v 18), .int .i64 (.v 19)], .int .i64 (.k 0)]) [])))
(.ret (.tup [.agg [.int .i64 (.k 0), .int .i64 (.k 0), .c (Value.slice none 0 0)], .agg [.int .i64 (.k 0), .int .i64 (.k 0), .int .i64 (.k 0), .int .i64 (.k 0), .int .i64 (.k 0), .int .i64 (.k 0), .int .i64 (.k 0), .int .i64 (.k 0), .int .i64 (.k 0)], .int .i64 (.v 20)]) []))))
(.ret (.tup [.agg [.int .i64 (.k 0), .int .i64 (.k 0), .c (Value.slice none 0 0)], .agg [.int .i64 (.k 0), .int .i64 (.k 0), .int .i64 (.k 0), .int .i64 (.k 0), .int .i64 (.k 0), .int .i64 (.k 0), .int .i64 (.k 0), .int .i64 (.k 0), .int .i64 (.k 0)], .int .i64 (.v 10)]) [])))))))
theorem x_stuNext (x0 : Int) (x1 : Int) (x2 : Option Loc) (x3 : Nat) (x4 : Nat) (x5 : Int) (x6 : Int) (x7 : Int) (x8 : Int) (x9 : Int) (M : Nat → Prop) (H0 : Hp) (W0 : World) (R : Ending → World → Prop) (hH : H0.le (hpOf W0)) (h :
 (∀ b0 : Nat,
 (∀ b1 : Nat,
 (∀ b2 : Nat,
 (∀ b3 : Nat,
 (Cl Try.prog W0 M H0 nK 28 #[Value.agg #[vi x0, vi x1, vsl x2 x3 x4]] fun z W1 W2 => ∃ x10 : Int, z = .returned (vi x10) ∧ Ext W1 W2 ∧
 ((x10 = 0 →
  (Cl Try.prog W0 M H0 nK 64 #[Value.agg #[vi x0, vi x1, vsl x2 x3 x4], vi x5, vi x1, Value.agg #[vi x6, vi x7, vi x8, vi x9]] fun z W3 W4 => ∃ x11 : Int, ∃ x12 : Int, ∃ x13 : Int, ∃ x14 : Int, ∃ x15 : Int, ∃ x16 : Int, ∃ x17 : Int, ∃ x18 : Int, ∃ x19 : Int, ∃ x20 : Int, z = .returned (Value.tuple #[Value.agg #[vi x11, vi x12, vi x13, vi x14, vi x15, vi x16, vi x17, vi x18, vi x19], vi x20]) ∧ Ext W3 W4 ∧
  (∀ b4 : Nat,
  ((x20 = 0 →
   (Cl Try.prog W0 M H0 nK 65 #[vsl x2 x3 x4] fun z W5 W6 => ∃ x21 : Option Loc, ∃ x22 : Nat, ∃ x23 : Nat, z = .returned (vsl x21 x22 x23) ∧ Fr W5 W6 H0 fun H1 =>
   (inKind .i64 (x1 + 1) ∧ (inKind .i64 (x1 + 1) →
   Rt R W0 M H1 nK (Value.tuple #[Value.agg #[vi x0, vi (x1 + 1), vsl x21 x22 x23], Value.agg #[vi x11, vi x12, vi x13, vi x14, vi x15, vi x16, vi x17, vi x18, vi x19], vi 0]))))) ∧
  (¬ (x20 = 0) →
   Rt R W0 M H0 nK (Value.tuple #[Value.agg #[vi 0, vi 0, Value.slice none 0 0], Value.agg #[vi 0, vi 0, vi 0, vi 0, vi 0, vi 0, vi 0, vi 0, vi 0], vi x20])))))) ∧
 (¬ (x10 = 0) →
  Rt R W0 M H0 nK (Value.tuple #[Value.agg #[vi 0, vi 0, Value.slice none 0 0], Value.agg #[vi 0, vi 0, vi 0, vi 0, vi 0, vi 0, vi 0, vi 0, vi 0], vi x10]))))))))) :
  Calls Try.prog 25 #[Value.agg #[vi x0, vi x1, vsl x2 x3 x4], vi x5, Value.agg #[vi x6, vi x7, vi x8, vi x9]] W0 R :=
  calls_sxA (M := M) (V := v_stuNext) (hi := {}) (args := [.agg [.int .i64 (.v 0), .int .i64 (.v 1), .slO 2 (.k 0) (.v 3) (.v 4)], .int .i64 (.v 5), .agg [.int .i64 (.v 6), .int .i64 (.v 7), .int .i64 (.v 8), .int .i64 (.v 9)]]) (nv := 10) (e := (upd (upd (upd (upd (upd (upd (upd (upd (upd (upd (fun _ => .i 0) 0 (.i x0)) 1 (.i x1)) 2 (.p x2)) 3 (.n x3)) 4 (.n x4)) 5 (.i x5)) 6 (.i x6)) 7 (.i x7)) 8 (.i x8)) 9 (.i x9))) Try.func25 hH h (by kernel_rfl) (by kernel_rfl) (by kernel_rfl)
def v_nextOf : VC :=
(.all 0
(.all 1
(.all 2
(.all 3
(.call 29 [.agg [.int .i64 (.v 0), .int .i64 (.v 1), .slO 2 (.k 0) (.v 3) (.v 4)]] [] [(10, .i)] (.int .i64 (.v 10)) .same
(.ite (.eq (.v 10) (.k 0))
(.call 66 [.agg [.int .i64 (.v 0), .int .i64 (.v 1), .slO 2 (.k 0) (.v 3) (.v 4)]] [] [(11, .i)] (.int .i64 (.v 11)) .same
(.all 4
(.call 17 [.agg [.int .i64 (.k 2), .int .i64 (.v 5), .int .i64 (.v 0), .int .i64 (.v 1), .int .i64 (.v 11), .int .i64 (.v 6), .int .i64 (.v 7), .int .i64 (.v 8), .int .i64 (.v 9)]] [] [(12, .i)] (.int .i64 (.v 12)) .same
(.ite (.eq (.v 12) (.k 0))
(.chk (.rng .i64 (.add (.v 1) (.k 1)))
(.all 5
(.esc (.bi .append #[45, 45] 45) [.slK 5 0 0 0, .slO 2 (.k 0) (.v 3) (.v 4)] [(5, ⟨[], 3⟩)] [(13, .p), (14, .n), (15, .n)] (some (.slO 13 (.k 0) (.v 14) (.v 15))) .turn
(.ret (.tup [.agg [.int .i64 (.v 0), .int .i64 (.add (.v 1) (.k 1)), .slO 13 (.k 0) (.v 14) (.v 15)], .agg [.int .i64 (.k 2), .int .i64 (.v 5), .int .i64 (.v 0), .int .i64 (.v 1), .int .i64 (.v 11), .int .i64 (.v 6), .int .i64 (.v 7), .int .i64 (.v 8), .int .i64 (.v 9)], .int .i64 (.k 0)]) []))))
(.ret (.tup [.agg [.int .i64 (.k 0), .int .i64 (.k 0), .c (Value.slice none 0 0)], .agg [.int .i64 (.k 0), .int .i64 (.k 0), .int .i64 (.k 0), .int .i64 (.k 0), .int .i64 (.k 0), .int .i64 (.k 0), .int .i64 (.k 0), .int .i64 (.k 0), .int .i64 (.k 0)], .int .i64 (.v 12)]) [])))))
(.ret (.tup [.agg [.int .i64 (.k 0), .int .i64 (.k 0), .c (Value.slice none 0 0)], .agg [.int .i64 (.k 0), .int .i64 (.k 0), .int .i64 (.k 0), .int .i64 (.k 0), .int .i64 (.k 0), .int .i64 (.k 0), .int .i64 (.k 0), .int .i64 (.k 0), .int .i64 (.k 0)], .int .i64 (.v 10)]) [])))))))
theorem x_nextOf (x0 : Int) (x1 : Int) (x2 : Option Loc) (x3 : Nat) (x4 : Nat) (x5 : Int) (x6 : Int) (x7 : Int) (x8 : Int) (x9 : Int) (M : Nat → Prop) (H0 : Hp) (W0 : World) (R : Ending → World → Prop) (hH : H0.le (hpOf W0)) (h :
 (∀ b0 : Nat,
 (∀ b1 : Nat,
 (∀ b2 : Nat,
 (∀ b3 : Nat,
 (Cl Try.prog W0 M H0 nK 29 #[Value.agg #[vi x0, vi x1, vsl x2 x3 x4]] fun z W1 W2 => ∃ x10 : Int, z = .returned (vi x10) ∧ Ext W1 W2 ∧
 ((x10 = 0 →
  (Cl Try.prog W0 M H0 nK 66 #[Value.agg #[vi x0, vi x1, vsl x2 x3 x4]] fun z W3 W4 => ∃ x11 : Int, z = .returned (vi x11) ∧ Ext W3 W4 ∧
  (∀ b4 : Nat,
  (Cl Try.prog W0 M H0 nK 17 #[Value.agg #[vi 2, vi x5, vi x0, vi x1, vi x11, vi x6, vi x7, vi x8, vi x9]] fun z W5 W6 => ∃ x12 : Int, z = .returned (vi x12) ∧ Ext W5 W6 ∧
  ((x12 = 0 →
   (inKind .i64 (x1 + 1) ∧ (inKind .i64 (x1 + 1) →
   (∀ b5 : Nat,
   (Es W0 M H0 (fun W => Kn W0 M H0 W b5 (Obj.cells #[] 3 (0, 0)) ∧ True) fun W7 => ∃ x13 : Option Loc, ∃ x14 : Nat, ∃ x15 : Nat, Eo Try.prog (.bi .append #[45, 45] 45) [Value.slice (some ⟨b5, 0, none⟩) 0 0, vsl x2 x3 x4] W7 (.value (vsl x13 x14 x15)) fun W8 => Tn W0 M H0 W7 W8 fun H1 =>
   Rt R W0 M H1 nK (Value.tuple #[Value.agg #[vi x0, vi (x1 + 1), vsl x13 x14 x15], Value.agg #[vi 2, vi x5, vi x0, vi x1, vi x11, vi x6, vi x7, vi x8, vi x9], vi 0])))))) ∧
  (¬ (x12 = 0) →
   Rt R W0 M H0 nK (Value.tuple #[Value.agg #[vi 0, vi 0, Value.slice none 0 0], Value.agg #[vi 0, vi 0, vi 0, vi 0, vi 0, vi 0, vi 0, vi 0, vi 0], vi x12]))))))) ∧
 (¬ (x10 = 0) →
  Rt R W0 M H0 nK (Value.tuple #[Value.agg #[vi 0, vi 0, Value.slice none 0 0], Value.agg #[vi 0, vi 0, vi 0, vi 0, vi 0, vi 0, vi 0, vi 0, vi 0], vi x10]))))))))) :
  Calls Try.prog 26 #[Value.agg #[vi x0, vi x1, vsl x2 x3 x4], vi x5, Value.agg #[vi x6, vi x7, vi x8, vi x9]] W0 R :=
  calls_sxA (M := M) (V := v_nextOf) (hi := {}) (args := [.agg [.int .i64 (.v 0), .int .i64 (.v 1), .slO 2 (.k 0) (.v 3) (.v 4)], .int .i64 (.v 5), .agg [.int .i64 (.v 6), .int .i64 (.v 7), .int .i64 (.v 8), .int .i64 (.v 9)]]) (nv := 10) (e := (upd (upd (upd (upd (upd (upd (upd (upd (upd (upd (fun _ => .i 0) 0 (.i x0)) 1 (.i x1)) 2 (.p x2)) 3 (.n x3)) 4 (.n x4)) 5 (.i x5)) 6 (.i x6)) 7 (.i x7)) 8 (.i x8)) 9 (.i x9))) Try.func26 hH h (by kernel_rfl) (by kernel_rfl) (by kernel_rfl)
def v_stuAgain : VC :=
(.all 0
(.all 1
(.all 2
(.call 28 [.agg [.int .i64 (.v 0), .int .i64 (.v 1), .slO 2 (.k 0) (.v 3) (.v 4)]] [] [(11, .i)] (.int .i64 (.v 11)) .same
(.ite (.eq (.v 11) (.k 0))
(.ite (.lt (.v 6) (.k 1))
(.ret (.tup [.agg [.int .i64 (.k 0), .int .i64 (.k 0), .int .i64 (.k 0), .int .i64 (.k 0), .int .i64 (.k 0), .int .i64 (.k 0), .int .i64 (.k 0), .int .i64 (.k 0), .int .i64 (.k 0)], .int .i64 (.k 5)]) [])
(.ite (.le (.v 1) (.v 6))
(.ret (.tup [.agg [.int .i64 (.k 0), .int .i64 (.k 0), .int .i64 (.k 0), .int .i64 (.k 0), .int .i64 (.k 0), .int .i64 (.k 0), .int .i64 (.k 0), .int .i64 (.k 0), .int .i64 (.k 0)], .int .i64 (.k 5)]) [])
(.call 68 [.slO 2 (.k 0) (.v 3) (.v 4), .int .i64 (.v 6)] [] [(12, .b)] (.bool (.v 12)) .same
(.ite (.v 12)
(.ret (.tup [.agg [.int .i64 (.k 0), .int .i64 (.k 0), .int .i64 (.k 0), .int .i64 (.k 0), .int .i64 (.k 0), .int .i64 (.k 0), .int .i64 (.k 0), .int .i64 (.k 0), .int .i64 (.k 0)], .int .i64 (.k 5)]) [])
(.call 64 [.agg [.int .i64 (.v 0), .int .i64 (.v 1), .slO 2 (.k 0) (.v 3) (.v 4)], .int .i64 (.v 5), .int .i64 (.v 6), .agg [.int .i64 (.v 7), .int .i64 (.v 8), .int .i64 (.v 9), .int .i64 (.v 10)]] [] [(13, .i), (14, .i), (15, .i), (16, .i), (17, .i), (18, .i), (19, .i), (20, .i), (21, .i), (22, .i)] (.tup [.agg [.int .i64 (.v 13), .int .i64 (.v 14), .int .i64 (.v 15), .int .i64 (.v 16), .int .i64 (.v 17), .int .i64 (.v 18), .int .i64 (.v 19), .int .i64 (.v 20), .int .i64 (.v 21)], .int .i64 (.v 22)]) .same
(.ret (.tup [.agg [.int .i64 (.v 13), .int .i64 (.v 14), .int .i64 (.v 15), .int .i64 (.v 16), .int .i64 (.v 17), .int .i64 (.v 18), .int .i64 (.v 19), .int .i64 (.v 20), .int .i64 (.v 21)], .int .i64 (.v 22)]) []))))))
(.ret (.tup [.agg [.int .i64 (.k 0), .int .i64 (.k 0), .int .i64 (.k 0), .int .i64 (.k 0), .int .i64 (.k 0), .int .i64 (.k 0), .int .i64 (.k 0), .int .i64 (.k 0), .int .i64 (.k 0)], .int .i64 (.v 11)]) []))))))
theorem x_stuAgain (x0 : Int) (x1 : Int) (x2 : Option Loc) (x3 : Nat) (x4 : Nat) (x5 : Int) (x6 : Int) (x7 : Int) (x8 : Int) (x9 : Int) (x10 : Int) (M : Nat → Prop) (H0 : Hp) (W0 : World) (R : Ending → World → Prop) (hH : H0.le (hpOf W0)) (h :
 (∀ b0 : Nat,
 (∀ b1 : Nat,
 (∀ b2 : Nat,
 (Cl Try.prog W0 M H0 nK 28 #[Value.agg #[vi x0, vi x1, vsl x2 x3 x4]] fun z W1 W2 => ∃ x11 : Int, z = .returned (vi x11) ∧ Ext W1 W2 ∧
 ((x11 = 0 →
  ((x6 < 1 →
   Rt R W0 M H0 nK (Value.tuple #[Value.agg #[vi 0, vi 0, vi 0, vi 0, vi 0, vi 0, vi 0, vi 0, vi 0], vi 5])) ∧
  (¬ (x6 < 1) →
   ((x1 ≤ x6 →
    Rt R W0 M H0 nK (Value.tuple #[Value.agg #[vi 0, vi 0, vi 0, vi 0, vi 0, vi 0, vi 0, vi 0, vi 0], vi 5])) ∧
   (¬ (x1 ≤ x6) →
    (Cl Try.prog W0 M H0 nK 68 #[vsl x2 x3 x4, vi x6] fun z W3 W4 => ∃ x12 : Bool, z = .returned (vb (x12)) ∧ Ext W3 W4 ∧
    ((x12 = true →
     Rt R W0 M H0 nK (Value.tuple #[Value.agg #[vi 0, vi 0, vi 0, vi 0, vi 0, vi 0, vi 0, vi 0, vi 0], vi 5])) ∧
    (¬ (x12 = true) →
     (Cl Try.prog W0 M H0 nK 64 #[Value.agg #[vi x0, vi x1, vsl x2 x3 x4], vi x5, vi x6, Value.agg #[vi x7, vi x8, vi x9, vi x10]] fun z W5 W6 => ∃ x13 : Int, ∃ x14 : Int, ∃ x15 : Int, ∃ x16 : Int, ∃ x17 : Int, ∃ x18 : Int, ∃ x19 : Int, ∃ x20 : Int, ∃ x21 : Int, ∃ x22 : Int, z = .returned (Value.tuple #[Value.agg #[vi x13, vi x14, vi x15, vi x16, vi x17, vi x18, vi x19, vi x20, vi x21], vi x22]) ∧ Ext W5 W6 ∧
     Rt R W0 M H0 nK (Value.tuple #[Value.agg #[vi x13, vi x14, vi x15, vi x16, vi x17, vi x18, vi x19, vi x20, vi x21], vi x22])))))))))) ∧
 (¬ (x11 = 0) →
  Rt R W0 M H0 nK (Value.tuple #[Value.agg #[vi 0, vi 0, vi 0, vi 0, vi 0, vi 0, vi 0, vi 0, vi 0], vi x11])))))))) :
  Calls Try.prog 31 #[Value.agg #[vi x0, vi x1, vsl x2 x3 x4], vi x5, vi x6, Value.agg #[vi x7, vi x8, vi x9, vi x10]] W0 R :=
  calls_sxA (M := M) (V := v_stuAgain) (hi := {}) (args := [.agg [.int .i64 (.v 0), .int .i64 (.v 1), .slO 2 (.k 0) (.v 3) (.v 4)], .int .i64 (.v 5), .int .i64 (.v 6), .agg [.int .i64 (.v 7), .int .i64 (.v 8), .int .i64 (.v 9), .int .i64 (.v 10)]]) (nv := 11) (e := (upd (upd (upd (upd (upd (upd (upd (upd (upd (upd (upd (fun _ => .i 0) 0 (.i x0)) 1 (.i x1)) 2 (.p x2)) 3 (.n x3)) 4 (.n x4)) 5 (.i x5)) 6 (.i x6)) 7 (.i x7)) 8 (.i x8)) 9 (.i x9)) 10 (.i x10))) Try.func31 hH h (by kernel_rfl) (by kernel_rfl) (by kernel_rfl)
def v_againOf : VC :=
(.all 0
(.all 1
(.all 2
(.call 29 [.agg [.int .i64 (.v 0), .int .i64 (.v 1), .slO 2 (.k 0) (.v 3) (.v 4)]] [] [(11, .i)] (.int .i64 (.v 11)) .same
(.ite (.eq (.v 11) (.k 0))
(.chk (.rng .i64 (.sub (.v 1) (.k 1)))
(.call 53 [.int .i64 (.v 6), .int .i64 (.k 1), .int .i64 (.sub (.v 1) (.k 1))] [] [(12, .b)] (.bool (.v 12)) .same
(.ite (.v 12)
(.call 71 [.agg [.int .i64 (.v 0), .int .i64 (.v 1), .slO 2 (.k 0) (.v 3) (.v 4)], .int .i64 (.v 6)] [] [(13, .b)] (.bool (.v 13)) .same
(.ite (.v 13)
(.ret (.tup [.agg [.int .i64 (.k 0), .int .i64 (.k 0), .int .i64 (.k 0), .int .i64 (.k 0), .int .i64 (.k 0), .int .i64 (.k 0), .int .i64 (.k 0), .int .i64 (.k 0), .int .i64 (.k 0)], .int .i64 (.k 5)]) [])
(.chk (.rng .i64 (.sub (.v 6) (.k 1)))
(.call 66 [.agg [.int .i64 (.v 0), .int .i64 (.v 1), .slO 2 (.k 0) (.v 3) (.v 4)]] [] [(14, .i)] (.int .i64 (.v 14)) .same
(.all 3
(.call 17 [.agg [.int .i64 (.k 2), .int .i64 (.v 5), .int .i64 (.v 0), .int .i64 (.v 6), .int .i64 (.mn (.v 14) (.sub (.v 6) (.k 1))), .int .i64 (.v 7), .int .i64 (.v 8), .int .i64 (.v 9), .int .i64 (.v 10)]] [] [(15, .i)] (.int .i64 (.v 15)) .same
(.ite (.eq (.v 15) (.k 0))
(.ret (.tup [.agg [.int .i64 (.k 2), .int .i64 (.v 5), .int .i64 (.v 0), .int .i64 (.v 6), .int .i64 (.mn (.v 14) (.sub (.v 6) (.k 1))), .int .i64 (.v 7), .int .i64 (.v 8), .int .i64 (.v 9), .int .i64 (.v 10)], .int .i64 (.k 0)]) [])
(.ret (.tup [.agg [.int .i64 (.k 0), .int .i64 (.k 0), .int .i64 (.k 0), .int .i64 (.k 0), .int .i64 (.k 0), .int .i64 (.k 0), .int .i64 (.k 0), .int .i64 (.k 0), .int .i64 (.k 0)], .int .i64 (.v 15)]) []))))))))
(.ret (.tup [.agg [.int .i64 (.k 0), .int .i64 (.k 0), .int .i64 (.k 0), .int .i64 (.k 0), .int .i64 (.k 0), .int .i64 (.k 0), .int .i64 (.k 0), .int .i64 (.k 0), .int .i64 (.k 0)], .int .i64 (.k 5)]) []))))
(.ret (.tup [.agg [.int .i64 (.k 0), .int .i64 (.k 0), .int .i64 (.k 0), .int .i64 (.k 0), .int .i64 (.k 0), .int .i64 (.k 0), .int .i64 (.k 0), .int .i64 (.k 0), .int .i64 (.k 0)], .int .i64 (.v 11)]) []))))))
theorem x_againOf (x0 : Int) (x1 : Int) (x2 : Option Loc) (x3 : Nat) (x4 : Nat) (x5 : Int) (x6 : Int) (x7 : Int) (x8 : Int) (x9 : Int) (x10 : Int) (M : Nat → Prop) (H0 : Hp) (W0 : World) (R : Ending → World → Prop) (hH : H0.le (hpOf W0)) (h :
 (∀ b0 : Nat,
 (∀ b1 : Nat,
 (∀ b2 : Nat,
 (Cl Try.prog W0 M H0 nK 29 #[Value.agg #[vi x0, vi x1, vsl x2 x3 x4]] fun z W1 W2 => ∃ x11 : Int, z = .returned (vi x11) ∧ Ext W1 W2 ∧
 ((x11 = 0 →
  (inKind .i64 (x1 - 1) ∧ (inKind .i64 (x1 - 1) →
  (Cl Try.prog W0 M H0 nK 53 #[vi x6, vi 1, vi (x1 - 1)] fun z W3 W4 => ∃ x12 : Bool, z = .returned (vb (x12)) ∧ Ext W3 W4 ∧
  ((x12 = true →
   (Cl Try.prog W0 M H0 nK 71 #[Value.agg #[vi x0, vi x1, vsl x2 x3 x4], vi x6] fun z W5 W6 => ∃ x13 : Bool, z = .returned (vb (x13)) ∧ Ext W5 W6 ∧
   ((x13 = true →
    Rt R W0 M H0 nK (Value.tuple #[Value.agg #[vi 0, vi 0, vi 0, vi 0, vi 0, vi 0, vi 0, vi 0, vi 0], vi 5])) ∧
   (¬ (x13 = true) →
    (inKind .i64 (x6 - 1) ∧ (inKind .i64 (x6 - 1) →
    (Cl Try.prog W0 M H0 nK 66 #[Value.agg #[vi x0, vi x1, vsl x2 x3 x4]] fun z W7 W8 => ∃ x14 : Int, z = .returned (vi x14) ∧ Ext W7 W8 ∧
    (∀ b3 : Nat,
    (Cl Try.prog W0 M H0 nK 17 #[Value.agg #[vi 2, vi x5, vi x0, vi x6, vi (if (x6 - 1) < x14 then (x6 - 1) else x14), vi x7, vi x8, vi x9, vi x10]] fun z W9 W10 => ∃ x15 : Int, z = .returned (vi x15) ∧ Ext W9 W10 ∧
    ((x15 = 0 →
     Rt R W0 M H0 nK (Value.tuple #[Value.agg #[vi 2, vi x5, vi x0, vi x6, vi (if (x6 - 1) < x14 then (x6 - 1) else x14), vi x7, vi x8, vi x9, vi x10], vi 0])) ∧
    (¬ (x15 = 0) →
     Rt R W0 M H0 nK (Value.tuple #[Value.agg #[vi 0, vi 0, vi 0, vi 0, vi 0, vi 0, vi 0, vi 0, vi 0], vi x15])))))))))))) ∧
  (¬ (x12 = true) →
   Rt R W0 M H0 nK (Value.tuple #[Value.agg #[vi 0, vi 0, vi 0, vi 0, vi 0, vi 0, vi 0, vi 0, vi 0], vi 5]))))))) ∧
 (¬ (x11 = 0) →
  Rt R W0 M H0 nK (Value.tuple #[Value.agg #[vi 0, vi 0, vi 0, vi 0, vi 0, vi 0, vi 0, vi 0, vi 0], vi x11])))))))) :
  Calls Try.prog 33 #[Value.agg #[vi x0, vi x1, vsl x2 x3 x4], vi x5, vi x6, Value.agg #[vi x7, vi x8, vi x9, vi x10]] W0 R :=
  calls_sxA (M := M) (V := v_againOf) (hi := {}) (args := [.agg [.int .i64 (.v 0), .int .i64 (.v 1), .slO 2 (.k 0) (.v 3) (.v 4)], .int .i64 (.v 5), .int .i64 (.v 6), .agg [.int .i64 (.v 7), .int .i64 (.v 8), .int .i64 (.v 9), .int .i64 (.v 10)]]) (nv := 11) (e := (upd (upd (upd (upd (upd (upd (upd (upd (upd (upd (upd (fun _ => .i 0) 0 (.i x0)) 1 (.i x1)) 2 (.p x2)) 3 (.n x3)) 4 (.n x4)) 5 (.i x5)) 6 (.i x6)) 7 (.i x7)) 8 (.i x8)) 9 (.i x9)) 10 (.i x10))) Try.func33 hH h (by kernel_rfl) (by kernel_rfl) (by kernel_rfl)
def v_stuCame : VC :=
(.all 0
(.all 1
(.call 28 [.agg [.int .i64 (.v 0), .int .i64 (.v 1), .slO 2 (.k 0) (.v 3) (.v 4)]] [] [(6, .i)] (.int .i64 (.v 6)) .same
(.ite (.eq (.v 6) (.k 0))
(.ite (.lt (.v 5) (.k 1))
(.ret (.tup [.agg [.int .i64 (.k 0), .int .i64 (.k 0), .c (Value.slice none 0 0)], .int .i64 (.k 5)]) [])
(.ite (.le (.v 1) (.v 5))
(.ret (.tup [.agg [.int .i64 (.k 0), .int .i64 (.k 0), .c (Value.slice none 0 0)], .int .i64 (.k 5)]) [])
(.call 65 [.slO 2 (.k 0) (.v 3) (.v 4)] [] [(7, .p), (8, .n), (9, .n)] (.slO 7 (.k 0) (.v 8) (.v 9)) .fresh
(.call 69 [.slO 7 (.k 0) (.v 8) (.v 9), .int .i64 (.v 5)] [] [(10, .i), (11, .b)] (.tup [.int .i64 (.v 10), .bool (.v 11)]) .same
(.ite (.v 11)
(.ret (.tup [.agg [.int .i64 (.v 0), .int .i64 (.v 1), .slO 7 (.k 0) (.v 8) (.v 9)], .int .i64 (.k 0)]) [])
(.all 2
(.call 70 [.slO 7 (.k 0) (.v 8) (.v 9), .int .i64 (.v 10), .slK 2 0 1 1] [(2, ⟨[.int .i64 (.v 5)], 3⟩)] [(12, .p), (13, .n), (14, .n)] (.slO 12 (.k 0) (.v 13) (.v 14)) .turn
(.ret (.tup [.agg [.int .i64 (.v 0), .int .i64 (.v 1), .slO 12 (.k 0) (.v 13) (.v 14)], .int .i64 (.k 0)]) []))))))))
(.ret (.tup [.agg [.int .i64 (.k 0), .int .i64 (.k 0), .c (Value.slice none 0 0)], .int .i64 (.v 6)]) [])))))
theorem x_stuCame (x0 : Int) (x1 : Int) (x2 : Option Loc) (x3 : Nat) (x4 : Nat) (x5 : Int) (M : Nat → Prop) (H0 : Hp) (W0 : World) (R : Ending → World → Prop) (hH : H0.le (hpOf W0)) (h :
 (∀ b0 : Nat,
 (∀ b1 : Nat,
 (Cl Try.prog W0 M H0 nK 28 #[Value.agg #[vi x0, vi x1, vsl x2 x3 x4]] fun z W1 W2 => ∃ x6 : Int, z = .returned (vi x6) ∧ Ext W1 W2 ∧
 ((x6 = 0 →
  ((x5 < 1 →
   Rt R W0 M H0 nK (Value.tuple #[Value.agg #[vi 0, vi 0, Value.slice none 0 0], vi 5])) ∧
  (¬ (x5 < 1) →
   ((x1 ≤ x5 →
    Rt R W0 M H0 nK (Value.tuple #[Value.agg #[vi 0, vi 0, Value.slice none 0 0], vi 5])) ∧
   (¬ (x1 ≤ x5) →
    (Cl Try.prog W0 M H0 nK 65 #[vsl x2 x3 x4] fun z W3 W4 => ∃ x7 : Option Loc, ∃ x8 : Nat, ∃ x9 : Nat, z = .returned (vsl x7 x8 x9) ∧ Fr W3 W4 H0 fun H1 =>
    (Cl Try.prog W0 M H1 nK 69 #[vsl x7 x8 x9, vi x5] fun z W5 W6 => ∃ x10 : Int, ∃ x11 : Bool, z = .returned (Value.tuple #[vi x10, vb (x11)]) ∧ Ext W5 W6 ∧
    ((x11 = true →
     Rt R W0 M H1 nK (Value.tuple #[Value.agg #[vi x0, vi x1, vsl x7 x8 x9], vi 0])) ∧
    (¬ (x11 = true) →
     (∀ b2 : Nat,
     (Cl Try.prog W0 M H1 (fun W => Kn W0 M H1 W b2 (Obj.cells #[vi x5] 3 (0, 0)) ∧ True) 70 #[vsl x7 x8 x9, vi x10, Value.slice (some ⟨b2, 0, none⟩) 1 1] fun z W7 W8 => ∃ x12 : Option Loc, ∃ x13 : Nat, ∃ x14 : Nat, z = .returned (vsl x12 x13 x14) ∧ Tn W0 M H1 W7 W8 fun H2 =>
     Rt R W0 M H2 nK (Value.tuple #[Value.agg #[vi x0, vi x1, vsl x12 x13 x14], vi 0])))))))))))) ∧
 (¬ (x6 = 0) →
  Rt R W0 M H0 nK (Value.tuple #[Value.agg #[vi 0, vi 0, Value.slice none 0 0], vi x6]))))))) :
  Calls Try.prog 32 #[Value.agg #[vi x0, vi x1, vsl x2 x3 x4], vi x5] W0 R :=
  calls_sxA (M := M) (V := v_stuCame) (hi := {turns := [70]}) (args := [.agg [.int .i64 (.v 0), .int .i64 (.v 1), .slO 2 (.k 0) (.v 3) (.v 4)], .int .i64 (.v 5)]) (nv := 6) (e := (upd (upd (upd (upd (upd (upd (fun _ => .i 0) 0 (.i x0)) 1 (.i x1)) 2 (.p x2)) 3 (.n x3)) 4 (.n x4)) 5 (.i x5))) Try.func32 hH h (by kernel_rfl) (by kernel_rfl) (by kernel_rfl)
def v_cameOf : VC :=
(.all 0
(.all 1
(.call 29 [.agg [.int .i64 (.v 0), .int .i64 (.v 1), .slO 2 (.k 0) (.v 3) (.v 4)]] [] [(6, .i)] (.int .i64 (.v 6)) .same
(.ite (.eq (.v 6) (.k 0))
(.chk (.rng .i64 (.sub (.v 1) (.k 1)))
(.call 53 [.int .i64 (.v 5), .int .i64 (.k 1), .int .i64 (.sub (.v 1) (.k 1))] [] [(7, .b)] (.bool (.v 7)) .same
(.ite (.v 7)
(.all 2
(.loop [(8, .n), (9, .i), (10, .i), (11, .p), (12, .n), (13, .n)] [.n (.k 1), .i (.v 0), .i (.v 1), .pn, .n (.k 0), .n (.k 0)] [.n (.v 8), .i (.v 9), .i (.v 10), .p 11 (.k 0), .n (.v 12), .n (.v 13)]
(.ite (.lt (.v 8) (.v 1))
(.ite (.eq (.v 8) (.v 5))
(.all 3
(.esc (.bi .append #[45, 45] 45) [.slO 11 (.k 0) (.v 12) (.v 13), .slK 3 0 1 1] [(3, ⟨[.int .i64 (.v 8)], 3⟩)] [(14, .p), (15, .n), (16, .n)] (some (.slO 14 (.k 0) (.v 15) (.v 16))) .turn
(.chk (.rng .i64 (.add (.v 8) (.k 1)))
(.chk (.le (.k 0) (.add (.v 8) (.k 1)))
(.chk (.le (.k 0) (.v 15))
(.chk (.le (.k 0) (.v 16))
(.back 0 [.n (.add (.v 8) (.k 1)), .i (.v 9), .i (.v 10), .p 14 (.k 0), .n (.v 15), .n (.v 16)])))))))
(.call 71 [.agg [.int .i64 (.v 0), .int .i64 (.v 1), .slO 2 (.k 0) (.v 3) (.v 4)], .int .i64 (.v 8)] [] [(14, .b)] (.bool (.v 14)) .same
(.ite (.v 14)
(.all 3
(.esc (.bi .append #[45, 45] 45) [.slO 11 (.k 0) (.v 12) (.v 13), .slK 3 0 1 1] [(3, ⟨[.int .i64 (.v 8)], 3⟩)] [(15, .p), (16, .n), (17, .n)] (some (.slO 15 (.k 0) (.v 16) (.v 17))) .turn
(.chk (.rng .i64 (.add (.v 8) (.k 1)))
(.chk (.le (.k 0) (.add (.v 8) (.k 1)))
(.chk (.le (.k 0) (.v 16))
(.chk (.le (.k 0) (.v 17))
(.back 0 [.n (.add (.v 8) (.k 1)), .i (.v 9), .i (.v 10), .p 15 (.k 0), .n (.v 16), .n (.v 17)])))))))
(.chk (.rng .i64 (.add (.v 8) (.k 1)))
(.chk (.le (.k 0) (.add (.v 8) (.k 1)))
(.chk (.le (.k 0) (.v 12))
(.chk (.le (.k 0) (.v 13))
(.back 0 [.n (.add (.v 8) (.k 1)), .i (.v 9), .i (.v 10), .p 11 (.k 0), .n (.v 12), .n (.v 13)]))))))))
(.ret (.tup [.agg [.int .i64 (.v 9), .int .i64 (.v 10), .slO 11 (.k 0) (.v 12) (.v 13)], .int .i64 (.k 0)]) []))))
(.ret (.tup [.agg [.int .i64 (.k 0), .int .i64 (.k 0), .c (Value.slice none 0 0)], .int .i64 (.k 5)]) []))))
(.ret (.tup [.agg [.int .i64 (.k 0), .int .i64 (.k 0), .c (Value.slice none 0 0)], .int .i64 (.v 6)]) [])))))
theorem x_cameOf (x0 : Int) (x1 : Int) (x2 : Option Loc) (x3 : Nat) (x4 : Nat) (x5 : Int) (M : Nat → Prop) (H0 : Hp) (W0 : World) (R : Ending → World → Prop) (hH : H0.le (hpOf W0)) (h :
 (∀ b0 : Nat,
 (∀ b1 : Nat,
 (Cl Try.prog W0 M H0 nK 29 #[Value.agg #[vi x0, vi x1, vsl x2 x3 x4]] fun z W1 W2 => ∃ x6 : Int, z = .returned (vi x6) ∧ Ext W1 W2 ∧
 ((x6 = 0 →
  (inKind .i64 (x1 - 1) ∧ (inKind .i64 (x1 - 1) →
  (Cl Try.prog W0 M H0 nK 53 #[vi x5, vi 1, vi (x1 - 1)] fun z W3 W4 => ∃ x7 : Bool, z = .returned (vb (x7)) ∧ Ext W3 W4 ∧
  ((x7 = true →
   (∀ b2 : Nat,
   (∃ (I0 : List Dat → Hp → Prop) (μ0 : List Dat → Nat), I0 [.n 1, .i x0, .i x1, .p none, .n 0, .n 0] H0 ∧ ∀ H1 : Hp, ∀ x8 : Nat, ∀ x9 : Int, ∀ x10 : Int, ∀ x11 : Option Loc, ∀ x12 : Nat, ∀ x13 : Nat, I0 [.n x8, .i x9, .i x10, .p (x11.map fun a => a.shift 0), .n x12, .n x13] H1 →
    (((x8 : Int) < x1 →
     (((x8 : Int) = x5 →
      (∀ b3 : Nat,
      (Es W0 M H1 (fun W => Kn W0 M H1 W b3 (Obj.cells #[vi (x8 : Int)] 3 (0, 0)) ∧ True) fun W5 => ∃ x14 : Option Loc, ∃ x15 : Nat, ∃ x16 : Nat, Eo Try.prog (.bi .append #[45, 45] 45) [vsl x11 x12 x13, Value.slice (some ⟨b3, 0, none⟩) 1 1] W5 (.value (vsl x14 x15 x16)) fun W6 => Tn W0 M H1 W5 W6 fun H2 =>
      (inKind .i64 ((x8 : Int) + 1) ∧ (inKind .i64 ((x8 : Int) + 1) →
      (0 ≤ ((x8 : Int) + 1) ∧ (0 ≤ ((x8 : Int) + 1) →
      (0 ≤ (x15 : Int) ∧ (0 ≤ (x15 : Int) →
      (0 ≤ (x16 : Int) ∧ (0 ≤ (x16 : Int) →
      (I0 [.n (((x8 : Int) + 1) : Int).toNat, .i x9, .i x10, .p (x14.map fun a => a.shift 0), .n x15, .n x16] H2 ∧ μ0 [.n (((x8 : Int) + 1) : Int).toNat, .i x9, .i x10, .p (x14.map fun a => a.shift 0), .n x15, .n x16] < μ0 [.n x8, .i x9, .i x10, .p (x11.map fun a => a.shift 0), .n x12, .n x13])))))))))))) ∧
     (¬ ((x8 : Int) = x5) →
      (Cl Try.prog W0 M H1 nK 71 #[Value.agg #[vi x0, vi x1, vsl x2 x3 x4], vi (x8 : Int)] fun z W5 W6 => ∃ x14 : Bool, z = .returned (vb (x14)) ∧ Ext W5 W6 ∧
      ((x14 = true →
       (∀ b3 : Nat,
       (Es W0 M H1 (fun W => Kn W0 M H1 W b3 (Obj.cells #[vi (x8 : Int)] 3 (0, 0)) ∧ True) fun W7 => ∃ x15 : Option Loc, ∃ x16 : Nat, ∃ x17 : Nat, Eo Try.prog (.bi .append #[45, 45] 45) [vsl x11 x12 x13, Value.slice (some ⟨b3, 0, none⟩) 1 1] W7 (.value (vsl x15 x16 x17)) fun W8 => Tn W0 M H1 W7 W8 fun H2 =>
       (inKind .i64 ((x8 : Int) + 1) ∧ (inKind .i64 ((x8 : Int) + 1) →
       (0 ≤ ((x8 : Int) + 1) ∧ (0 ≤ ((x8 : Int) + 1) →
       (0 ≤ (x16 : Int) ∧ (0 ≤ (x16 : Int) →
       (0 ≤ (x17 : Int) ∧ (0 ≤ (x17 : Int) →
       (I0 [.n (((x8 : Int) + 1) : Int).toNat, .i x9, .i x10, .p (x15.map fun a => a.shift 0), .n x16, .n x17] H2 ∧ μ0 [.n (((x8 : Int) + 1) : Int).toNat, .i x9, .i x10, .p (x15.map fun a => a.shift 0), .n x16, .n x17] < μ0 [.n x8, .i x9, .i x10, .p (x11.map fun a => a.shift 0), .n x12, .n x13])))))))))))) ∧
      (¬ (x14 = true) →
       (inKind .i64 ((x8 : Int) + 1) ∧ (inKind .i64 ((x8 : Int) + 1) →
       (0 ≤ ((x8 : Int) + 1) ∧ (0 ≤ ((x8 : Int) + 1) →
       (0 ≤ (x12 : Int) ∧ (0 ≤ (x12 : Int) →
       (0 ≤ (x13 : Int) ∧ (0 ≤ (x13 : Int) →
       (I0 [.n (((x8 : Int) + 1) : Int).toNat, .i x9, .i x10, .p (x11.map fun a => a.shift 0), .n x12, .n x13] H1 ∧ μ0 [.n (((x8 : Int) + 1) : Int).toNat, .i x9, .i x10, .p (x11.map fun a => a.shift 0), .n x12, .n x13] < μ0 [.n x8, .i x9, .i x10, .p (x11.map fun a => a.shift 0), .n x12, .n x13]))))))))))))))) ∧
    (¬ ((x8 : Int) < x1) →
     Rt R W0 M H1 nK (Value.tuple #[Value.agg #[vi x9, vi x10, vsl x11 x12 x13], vi 0])))))) ∧
  (¬ (x7 = true) →
   Rt R W0 M H0 nK (Value.tuple #[Value.agg #[vi 0, vi 0, Value.slice none 0 0], vi 5]))))))) ∧
 (¬ (x6 = 0) →
  Rt R W0 M H0 nK (Value.tuple #[Value.agg #[vi 0, vi 0, Value.slice none 0 0], vi x6]))))))) :
  Calls Try.prog 34 #[Value.agg #[vi x0, vi x1, vsl x2 x3 x4], vi x5] W0 R :=
  calls_sxA (M := M) (V := v_cameOf) (hi := {loops := [(8, .inv [(8, .nat)] [(7, [.pt (.int .i64), .pt (.int .i64), .pt .sl])])]}) (args := [.agg [.int .i64 (.v 0), .int .i64 (.v 1), .slO 2 (.k 0) (.v 3) (.v 4)], .int .i64 (.v 5)]) (nv := 6) (e := (upd (upd (upd (upd (upd (upd (fun _ => .i 0) 0 (.i x0)) 1 (.i x1)) 2 (.p x2)) 3 (.n x3)) 4 (.n x4)) 5 (.i x5))) Try.func34 hH h (by kernel_rfl) (by kernel_rfl) (by kernel_rfl)
def v_insI : VC :=
(.chk (.le (.k 0) (.v 3))
(.chk (.le (.v 3) (.v 1))
(.chk (.le (.v 1) (.v 2))
(.chk (.le (.k 0) (.v 5))
(.ite (.eq (.v 5) (.k 0))
(.ret (.slO 0 (.k 0) (.v 1) (.v 2)) [])
(.chk (.le (.k 0) (.v 1))
(.ite (.eq (.v 3) (.v 1))
(.esc (.bi .append #[45, 45] 45) [.slO 0 (.k 0) (.v 1) (.v 2), .slO 4 (.k 0) (.v 5) (.v 6)] [] [(7, .p), (8, .n), (9, .n)] (some (.slO 7 (.k 0) (.v 8) (.v 9))) .turn
(.ret (.slO 7 (.k 0) (.v 8) (.v 9)) []))
(.chk (.rng .i64 (.add (.v 1) (.v 5)))
(.esc (.bi .cap #[45] 3) [.slO 0 (.k 0) (.v 1) (.v 2)] [] [(7, .i)] (some (.int .i64 (.v 7))) .same
(.ite (.lt (.v 7) (.add (.v 1) (.v 5)))
(.chk (.le (.v 3) (.v 2))
(.chk (.rng .i64 (.sub (.add (.v 1) (.v 5)) (.v 3)))
(.esc (.bi .append #[45, 3] 45) [.slO 0 (.k 0) (.v 3) (.v 2), .int .i64 (.sub (.add (.v 1) (.v 5)) (.v 3))] [] [(8, .p), (9, .n), (10, .n)] (some (.slO 8 (.k 0) (.v 9) (.v 10))) .turn
(.chk (.le (.v 3) (.v 9))
(.chk (.le (.v 9) (.v 10))
(.esc (.bi .copy #[45, 45] 3) [.slO 8 (.add (.k 0) (.skip (.v 10) (.v 3) 1)) (.sub (.v 9) (.v 3)) (.sub (.v 10) (.v 3)), .slO 4 (.k 0) (.v 5) (.v 6)] [] [(11, .i)] (some (.int .i64 (.v 11))) .turn
(.chk (.rng .i64 (.add (.v 3) (.v 5)))
(.chk (.le (.k 0) (.add (.v 3) (.v 5)))
(.chk (.le (.add (.v 3) (.v 5)) (.v 9))
(.esc (.bi .copy #[45, 45] 3) [.slO 8 (.add (.k 0) (.skip (.v 10) (.add (.v 3) (.v 5)) 1)) (.sub (.v 9) (.add (.v 3) (.v 5))) (.sub (.v 10) (.add (.v 3) (.v 5))), .slO 0 (.add (.k 0) (.skip (.v 2) (.v 3) 1)) (.sub (.v 1) (.v 3)) (.sub (.v 2) (.v 3))] [] [(12, .i)] (some (.int .i64 (.v 12))) .turn
(.ret (.slO 8 (.k 0) (.v 9) (.v 10)) [])))))))))))
(.chk (.le (.k 0) (.add (.v 1) (.v 5)))
(.chk (.le (.add (.v 1) (.v 5)) (.v 2))
(.chk (.rng .i64 (.add (.v 3) (.v 5)))
(.chk (.le (.k 0) (.add (.v 3) (.v 5)))
(.chk (.le (.add (.v 3) (.v 5)) (.add (.v 1) (.v 5)))
(.esc (.ext 110) [.slO 4 (.k 0) (.v 5) (.v 6), .slO 0 (.add (.k 0) (.skip (.v 2) (.add (.v 3) (.v 5)) 1)) (.sub (.add (.v 1) (.v 5)) (.add (.v 3) (.v 5))) (.sub (.v 2) (.add (.v 3) (.v 5)))] [] [(8, .b)] (some (.bool (.v 8))) .same
(.ite (.v 8)
(.chk (.le (.v 1) (.add (.v 1) (.v 5)))
(.esc (.bi .copy #[45, 45] 3) [.slO 0 (.add (.k 0) (.skip (.v 2) (.v 1) 1)) (.sub (.add (.v 1) (.v 5)) (.v 1)) (.sub (.v 2) (.v 1)), .slO 4 (.k 0) (.v 5) (.v 6)] [] [(9, .i)] (some (.int .i64 (.v 9))) .turn
(.chk (.le (.v 3) (.add (.v 1) (.v 5)))
(.call 111 [.slO 0 (.add (.k 0) (.skip (.v 2) (.v 3) 1)) (.sub (.add (.v 1) (.v 5)) (.v 3)) (.sub (.v 2) (.v 3)), .int .i64 (.v 5)] [] [] (.tup []) .same
(.ret (.slO 0 (.k 0) (.add (.v 1) (.v 5)) (.v 2)) [])))))
(.chk (.le (.v 3) (.add (.v 1) (.v 5)))
(.esc (.bi .copy #[45, 45] 3) [.slO 0 (.add (.k 0) (.skip (.v 2) (.add (.v 3) (.v 5)) 1)) (.sub (.add (.v 1) (.v 5)) (.add (.v 3) (.v 5))) (.sub (.v 2) (.add (.v 3) (.v 5))), .slO 0 (.add (.k 0) (.skip (.v 2) (.v 3) 1)) (.sub (.add (.v 1) (.v 5)) (.v 3)) (.sub (.v 2) (.v 3))] [] [(9, .i)] (some (.int .i64 (.v 9))) .turn
(.esc (.bi .copy #[45, 45] 3) [.slO 0 (.add (.k 0) (.skip (.v 2) (.v 3) 1)) (.sub (.add (.v 1) (.v 5)) (.v 3)) (.sub (.v 2) (.v 3)), .slO 4 (.k 0) (.v 5) (.v 6)] [] [(10, .i)] (some (.int .i64 (.v 10))) .turn
(.ret (.slO 0 (.k 0) (.add (.v 1) (.v 5)) (.v 2)) [])))))))))))))))))))))
theorem x_insI (x0 : Option Loc) (x1 : Nat) (x2 : Nat) (x3 : Int) (x4 : Option Loc) (x5 : Nat) (x6 : Nat) (M : Nat → Prop) (H0 : Hp) (W0 : World) (R : Ending → World → Prop) (hH : H0.le (hpOf W0)) (h :
 (0 ≤ x3 ∧ (0 ≤ x3 →
 (x3 ≤ (x1 : Int) ∧ (x3 ≤ (x1 : Int) →
 ((x1 : Int) ≤ (x2 : Int) ∧ ((x1 : Int) ≤ (x2 : Int) →
 (0 ≤ (x5 : Int) ∧ (0 ≤ (x5 : Int) →
 (((x5 : Int) = 0 →
  Rt R W0 M H0 nK (vsl x0 x1 x2)) ∧
 (¬ ((x5 : Int) = 0) →
  (0 ≤ (x1 : Int) ∧ (0 ≤ (x1 : Int) →
  ((x3 = (x1 : Int) →
   (Es W0 M H0 nK fun W1 => ∃ x7 : Option Loc, ∃ x8 : Nat, ∃ x9 : Nat, Eo Try.prog (.bi .append #[45, 45] 45) [vsl x0 x1 x2, vsl x4 x5 x6] W1 (.value (vsl x7 x8 x9)) fun W2 => Tn W0 M H0 W1 W2 fun H1 =>
   Rt R W0 M H1 nK (vsl x7 x8 x9))) ∧
  (¬ (x3 = (x1 : Int)) →
   (inKind .i64 ((x1 : Int) + (x5 : Int)) ∧ (inKind .i64 ((x1 : Int) + (x5 : Int)) →
   (Es W0 M H0 nK fun W1 => ∃ x7 : Int, Eo Try.prog (.bi .cap #[45] 3) [vsl x0 x1 x2] W1 (.value (vi x7)) fun W2 => Ext W1 W2 ∧
   ((x7 < ((x1 : Int) + (x5 : Int)) →
    (x3 ≤ (x2 : Int) ∧ (x3 ≤ (x2 : Int) →
    (inKind .i64 (((x1 : Int) + (x5 : Int)) - x3) ∧ (inKind .i64 (((x1 : Int) + (x5 : Int)) - x3) →
    (Es W0 M H0 nK fun W3 => ∃ x8 : Option Loc, ∃ x9 : Nat, ∃ x10 : Nat, Eo Try.prog (.bi .append #[45, 3] 45) [vsl x0 (x3).toNat x2, vi (((x1 : Int) + (x5 : Int)) - x3)] W3 (.value (vsl x8 x9 x10)) fun W4 => Tn W0 M H0 W3 W4 fun H1 =>
    (x3 ≤ (x9 : Int) ∧ (x3 ≤ (x9 : Int) →
    ((x9 : Int) ≤ (x10 : Int) ∧ ((x9 : Int) ≤ (x10 : Int) →
    (Es W0 M H1 nK fun W5 => ∃ x11 : Int, Eo Try.prog (.bi .copy #[45, 45] 3) [Value.slice (ptrAt x8 (0 + (if (x10 : Int) = x3 then 0 else x3 * ((1 : Nat) : Int)))) (((x9 : Int) - x3) : Int).toNat (((x10 : Int) - x3) : Int).toNat, vsl x4 x5 x6] W5 (.value (vi x11)) fun W6 => Tn W0 M H1 W5 W6 fun H2 =>
    (inKind .i64 (x3 + (x5 : Int)) ∧ (inKind .i64 (x3 + (x5 : Int)) →
    (0 ≤ (x3 + (x5 : Int)) ∧ (0 ≤ (x3 + (x5 : Int)) →
    ((x3 + (x5 : Int)) ≤ (x9 : Int) ∧ ((x3 + (x5 : Int)) ≤ (x9 : Int) →
    (Es W0 M H2 nK fun W7 => ∃ x12 : Int, Eo Try.prog (.bi .copy #[45, 45] 3) [Value.slice (ptrAt x8 (0 + (if (x10 : Int) = (x3 + (x5 : Int)) then 0 else (x3 + (x5 : Int)) * ((1 : Nat) : Int)))) (((x9 : Int) - (x3 + (x5 : Int))) : Int).toNat (((x10 : Int) - (x3 + (x5 : Int))) : Int).toNat, Value.slice (ptrAt x0 (0 + (if (x2 : Int) = x3 then 0 else x3 * ((1 : Nat) : Int)))) (((x1 : Int) - x3) : Int).toNat (((x2 : Int) - x3) : Int).toNat] W7 (.value (vi x12)) fun W8 => Tn W0 M H2 W7 W8 fun H3 =>
    Rt R W0 M H3 nK (vsl x8 x9 x10))))))))))))))))))) ∧
   (¬ (x7 < ((x1 : Int) + (x5 : Int))) →
    (0 ≤ ((x1 : Int) + (x5 : Int)) ∧ (0 ≤ ((x1 : Int) + (x5 : Int)) →
    (((x1 : Int) + (x5 : Int)) ≤ (x2 : Int) ∧ (((x1 : Int) + (x5 : Int)) ≤ (x2 : Int) →
    (inKind .i64 (x3 + (x5 : Int)) ∧ (inKind .i64 (x3 + (x5 : Int)) →
    (0 ≤ (x3 + (x5 : Int)) ∧ (0 ≤ (x3 + (x5 : Int)) →
    ((x3 + (x5 : Int)) ≤ ((x1 : Int) + (x5 : Int)) ∧ ((x3 + (x5 : Int)) ≤ ((x1 : Int) + (x5 : Int)) →
    (Es W0 M H0 nK fun W3 => ∃ x8 : Bool, Eo Try.prog (.ext 110) [vsl x4 x5 x6, Value.slice (ptrAt x0 (0 + (if (x2 : Int) = (x3 + (x5 : Int)) then 0 else (x3 + (x5 : Int)) * ((1 : Nat) : Int)))) ((((x1 : Int) + (x5 : Int)) - (x3 + (x5 : Int))) : Int).toNat (((x2 : Int) - (x3 + (x5 : Int))) : Int).toNat] W3 (.value (vb (x8))) fun W4 => Ext W3 W4 ∧
    ((x8 = true →
     ((x1 : Int) ≤ ((x1 : Int) + (x5 : Int)) ∧ ((x1 : Int) ≤ ((x1 : Int) + (x5 : Int)) →
     (Es W0 M H0 nK fun W5 => ∃ x9 : Int, Eo Try.prog (.bi .copy #[45, 45] 3) [Value.slice (ptrAt x0 (0 + (if (x2 : Int) = (x1 : Int) then 0 else (x1 : Int) * ((1 : Nat) : Int)))) ((((x1 : Int) + (x5 : Int)) - (x1 : Int)) : Int).toNat (((x2 : Int) - (x1 : Int)) : Int).toNat, vsl x4 x5 x6] W5 (.value (vi x9)) fun W6 => Tn W0 M H0 W5 W6 fun H1 =>
     (x3 ≤ ((x1 : Int) + (x5 : Int)) ∧ (x3 ≤ ((x1 : Int) + (x5 : Int)) →
     (Cl Try.prog W0 M H1 nK 111 #[Value.slice (ptrAt x0 (0 + (if (x2 : Int) = x3 then 0 else x3 * ((1 : Nat) : Int)))) ((((x1 : Int) + (x5 : Int)) - x3) : Int).toNat (((x2 : Int) - x3) : Int).toNat, vi (x5 : Int)] fun z W7 W8 => z = .returned (Value.tuple #[]) ∧ Ext W7 W8 ∧
     Rt R W0 M H1 nK (vsl x0 (((x1 : Int) + (x5 : Int)) : Int).toNat x2)))))))) ∧
    (¬ (x8 = true) →
     (x3 ≤ ((x1 : Int) + (x5 : Int)) ∧ (x3 ≤ ((x1 : Int) + (x5 : Int)) →
     (Es W0 M H0 nK fun W5 => ∃ x9 : Int, Eo Try.prog (.bi .copy #[45, 45] 3) [Value.slice (ptrAt x0 (0 + (if (x2 : Int) = (x3 + (x5 : Int)) then 0 else (x3 + (x5 : Int)) * ((1 : Nat) : Int)))) ((((x1 : Int) + (x5 : Int)) - (x3 + (x5 : Int))) : Int).toNat (((x2 : Int) - (x3 + (x5 : Int))) : Int).toNat, Value.slice (ptrAt x0 (0 + (if (x2 : Int) = x3 then 0 else x3 * ((1 : Nat) : Int)))) ((((x1 : Int) + (x5 : Int)) - x3) : Int).toNat (((x2 : Int) - x3) : Int).toNat] W5 (.value (vi x9)) fun W6 => Tn W0 M H0 W5 W6 fun H1 =>
     (Es W0 M H1 nK fun W7 => ∃ x10 : Int, Eo Try.prog (.bi .copy #[45, 45] 3) [Value.slice (ptrAt x0 (0 + (if (x2 : Int) = x3 then 0 else x3 * ((1 : Nat) : Int)))) ((((x1 : Int) + (x5 : Int)) - x3) : Int).toNat (((x2 : Int) - x3) : Int).toNat, vsl x4 x5 x6] W7 (.value (vi x10)) fun W8 => Tn W0 M H1 W7 W8 fun H2 =>
     Rt R W0 M H2 nK (vsl x0 (((x1 : Int) + (x5 : Int)) : Int).toNat x2)))))))))))))))))))))))))))))))))))))) :
  Calls Try.prog 70 #[vsl x0 x1 x2, vi x3, vsl x4 x5 x6] W0 R :=
  calls_sxA (M := M) (V := v_insI) (hi := {}) (args := [.slO 0 (.k 0) (.v 1) (.v 2), .int .i64 (.v 3), .slO 4 (.k 0) (.v 5) (.v 6)]) (nv := 7) (e := (upd (upd (upd (upd (upd (upd (upd (fun _ => .i 0) 0 (.p x0)) 1 (.n x1)) 2 (.n x2)) 3 (.i x3)) 4 (.p x4)) 5 (.n x5)) 6 (.n x6))) Try.func70 hH h (by kernel_rfl) (by kernel_rfl) (by kernel_rfl)
end Go.Proofs.Ytdmaehpdccpnoaa
namespace Go.Proofs.Ytdmaehpdccpnoaa
open Go.RowKit

theorem infoInt : infoIs Try.prog 3 1 8 = true := by kernel_rfl
theorem ek_overlapsI {W : World} {a b o la ca : Nat} {R C : Array Value} {T T' : Nat} (hne : a ≠ b) (ha : W.heap[a]? = some (.cells R T (0, 0))) (hb : W.heap[b]? = some (.cells C T' (0, 0))) (hC : C.size ≠ 0) :
    (EK.sem (.ext 110) [vsl (some (a, 0)) 1 1, vsl (some (b, o)) la ca]).run Try.prog W = .ok (.value (vb false)) W := by
  show (callFunc 110 #[vsl (some (a, 0)) 1 1, vsl (some (b, o)) la ca]).run Try.prog W = _
  have hsz : ∀ w, (Go.sizeOf 3).run Try.prog w = .ok 1 w := fun w => by
    obtain ⟨ti, z, i1, i2, i3, _⟩ := info_of infoInt
    exact run_sizeOf i1 i3 w
  rw [run_callFunc_extern Try.func110 (by kernel_rfl) (by kernel_rfl) (by kernel_rfl) (e := Extern.SlicesOverlaps.overlaps #[45, 45] #[4]) (by kernel_rfl)]
  have := Lib.run_overlaps_apart W 45 4 3 Try.underlying45 1 hsz ⟨a, 0, none⟩ ⟨b, o, none⟩ 1 1 la ca hne T T' R.size C.size (by simp [World.shape?, ha]) (by simp [World.shape?, hb]) hC (by simp [World.frozen?, ha]) (by simp [World.frozen?, ha])
  have e1 : vsl (some (a, 0)) 1 1 = .slice (some ⟨a, 0, none⟩) 1 1 := rfl
  have e2 : vsl (some (b, o)) la ca = .slice (some ⟨b, o, none⟩) la ca := rfl
  rw [e1, e2, this]
  rfl
theorem c_insertI {H : Hp} {p : Option Loc} {n c : Nat} {rows : List (List Value)} {g : Option Nat} (ho : Ow H 3 1 p n c rows g) {i : Nat} (hi : i ≤ n) {vb : Nat} {row : List Value} (hv : H vb = some (.cells row.toArray 3 (0, 0))) (hl : row.length = 1) (h1 : ∀ v ∈ row, v.oneCell' = true) (hne : g ≠ some vb) (hb : n ≤ 1099511627776) :
    Gt Try.prog 70 #[vsl p n c, vi i, vsl (some (vb, 0)) 1 1] H g fun v H' g' => ∃ p' n' c', v = vsl p' n' c' ∧ Ow H' 3 1 p' n' c' (rows.take i ++ row :: rows.drop i) g' := fun W hH => by
  have hn := ho.1
  have hc := ho.2.2.1
  have h63 := ho.2.2.2.1
  have hmx : maxLen = 9223372036854775807 := rfl
  obtain ⟨ti, z, i1, i2, i3, i4, i5, i6⟩ := info_of infoInt
  have hone : ∀ r ∈ rows, ∀ v ∈ r, v.oneCell' = true := fun r hr => (ho.2.1 r hr).2
  have hrow1 : ∀ K : Hp, K vb = some (.cells row.toArray 3 (0, 0)) → Rows K (some (vb, 0)) 1 1 [row] := fun K hK => Rows.block hK rfl (fun r hr => by simp only [List.mem_singleton] at hr; subst hr; exact hl) (by simp [List.take_of_length_le (show row.length ≤ 1 by omega)])
  have hone1 : ∀ r ∈ [row], ∀ v ∈ r, v.oneCell' = true := fun r hr => by simp only [List.mem_singleton] at hr; subst hr; exact h1
  refine x_insI p n c i (some (vb, 0)) 1 1 (fun b => g = some b) H W _ hH ⟨by omega, fun _ => ⟨by omega, fun _ => ⟨by omega, fun _ => ⟨by omega, fun _ => ⟨fun h => absurd h (by omega), fun _ => ⟨by omega, fun _ => ⟨fun hin => ?_, fun hin => ⟨in64 (by omega), fun _ => ?_⟩⟩⟩⟩⟩⟩⟩⟩
  · -- behind all
    have hin' : i = n := by omega
    intro W1 n1 _
    obtain ⟨p', c', g', W', H', h2, h3, h4, h5, h6⟩ := run_append_rows (P := Try.prog) Try.underlying45 i1 i2 i3 i4 i5 (by omega) n1.sub ho (hrow1 H hv) hone1 (by omega) (by omega) 45 (c2 := 1)
    refine ⟨p', n + 1, c', W', h2, H', h3.own ho (fun b hb => .inr hb), Rt.gt hH ho.held g' ?_ ⟨p', n + 1, c', rfl, ?_⟩⟩
    · exact h5.imp id (fun h b hb => by rw [h] at hb; simp only [Option.some.injEq] at hb; rw [← hb]; exact n1.mod.size)
    · rw [hin', List.take_of_length_le (by omega), List.drop_of_length_le (by omega)]
      exact h4.merge (h5.imp id (fun h b hb => by rw [h] at hb; simp only [Option.some.injEq] at hb; rw [← hb]; exact n1.mod.size))
  · intro W1 n1 _
    refine ⟨c, W1, ek_cap (P := Try.prog) Try.underlying45 _ p n c W1, Ext.refl _, fun hcap => ⟨by omega, fun _ => ⟨in64 (by omega), fun _ => ?_⟩⟩, fun hcap => ⟨by omega, fun _ => ⟨by omega, fun _ => ⟨in64 (by omega), fun _ => ⟨by omega, fun _ => ⟨by omega, fun _ => ?_⟩⟩⟩⟩⟩⟩
    · -- a new array
      intro W3 n3 _
      have ek : ((n : Int) + ((1 : Nat) : Int) - (i : Int)) = ((n + 1 - i : Nat) : Int) := by omega
      rw [ek]
      obtain ⟨c', zr, W4, H1, h2, h3, h4, h5⟩ := ek_zeros (P := Try.prog) (tn := 3) (kq := .i64) Try.underlying45 Try.underlying3 infoInt (by omega) n3.sub (ho.take i hi) (k := n + 1 - i) (by omega) (by omega) (by omega) (by omega) 45
      have eit : ((i : Int)).toNat = i := by omega
      rw [eit]
      refine ⟨some (W3.heap.size, 0), i + (n + 1 - i), c', W4, h2, H1, h3.turned (fun b hb => ⟨ho.held b hb, .inr hb⟩), by omega, fun _ => ⟨by have := h5.2.2.1; omega, fun _ => ?_⟩⟩
      have hnew : W.heap.size ≤ W3.heap.size := n3.mod.size
      have hln : i + (n + 1 - i) = n + 1 := by omega
      rw [hln] at h5 ⊢
      have hc'n := h5.2.2.1
      have hlr1 := h5.1
      intro W5 n5 _
      rw [slice_tail]
      have et : tailP (some (W3.heap.size, 0)) c' i 1 = shiftP (some (W3.heap.size, 0)) (i * 1) := by unfold tailP; rw [if_neg (by omega)]
      obtain ⟨W6, H2, h7, h8, h9⟩ := ek_copy (P := Try.prog) Try.underlying45 i1 i3 (by omega) n5.sub h5 (hrow1 H1 (h4 _ _ hv)) hone1 (m := 1) (sl := 1) (c2 := 1) (dl := n + 1 - i) (dc := c' - i) (k := i) (by omega) (by simp [Nat.min_def]; omega) (by omega) (off := ((i * 1 : Nat) : Int)) rfl 3
      have ev1 : vsl (tailP (some (W3.heap.size, 0)) c' i 1) (n + 1 - i) (c' - i) = .slice (ptrAt (some (W3.heap.size, 0)) ((i * 1 : Nat) : Int)) (n + 1 - i) (c' - i) := by rw [et, ptrAt_shift, Int.toNat_natCast]
      rw [ev1]
      refine ⟨1, W6, h7, H2, h8.turned (fun b hb => ⟨h5.held b hb, .inl (by simp only [Option.some.injEq] at hb; rw [← hb]; exact hnew)⟩), in64 (by omega), fun _ => ⟨by omega, fun _ => ⟨by omega, fun _ => ?_⟩⟩⟩
      intro W7 n7 _
      have e11 : ((i : Int) + ((1 : Nat) : Int)) = ((i + 1 : Nat) : Int) := by omega
      rw [e11, slice_tail, slice_tail]
      have et2 : tailP (some (W3.heap.size, 0)) c' (i + 1) 1 = shiftP (some (W3.heap.size, 0)) ((i + 1) * 1) := by unfold tailP; rw [if_neg (by omega)]
      have ev2 : vsl (tailP (some (W3.heap.size, 0)) c' (i + 1) 1) (n + 1 - (i + 1)) (c' - (i + 1)) = .slice (ptrAt (some (W3.heap.size, 0)) (((i + 1) * 1 : Nat) : Int)) (n + 1 - (i + 1)) (c' - (i + 1)) := by rw [et2, ptrAt_shift, Int.toNat_natCast]
      -- what was there is still read
      have hgs : ∀ b, some W3.heap.size = some b → H b = none := fun b hb => by simp only [Option.some.injEq] at hb; rw [← hb]; exact old_none hH hnew
      have hH2 : H.le H2 := h8.keep n5.sub h4 hgs
      have hsrc : Rows H2 (tailP p c i 1) (n - i) 1 (rows.drop i) := (ho.rows.tail hi hc).mono hH2
      obtain ⟨W8, H3, ha, hb', hc'⟩ := ek_copy (P := Try.prog) Try.underlying45 i1 i3 (by omega) n7.sub h9 hsrc (fun r hr => hone r (List.mem_of_mem_drop hr)) (m := n - i) (sl := n - i) (c2 := c - i) (dl := n + 1 - (i + 1)) (dc := c' - (i + 1)) (k := i + 1) (by omega) (by simp) (by omega) (off := (((i + 1) * 1 : Nat) : Int)) rfl 3
      rw [ev2]
      refine ⟨_, W8, ha, H3, hb'.turned (fun b hb => ⟨h9.held b hb, .inl (by simp only [Option.some.injEq] at hb; rw [← hb]; exact hnew)⟩), Rt.gt hH ho.held (some W3.heap.size) (.inr (fun b hb => by simp only [Option.some.injEq] at hb; rw [← hb]; exact hnew)) ⟨_, n + 1, c', rfl, ?_⟩⟩
      have hfin := hc'.merge (g := g) (W0 := W) (H := H) (.inr (fun b hb => by simp only [Option.some.injEq] at hb; rw [← hb]; exact hnew))
      have heq : ∀ A : List (List Value), A.length = n + 1 → A.take i = rows.take i → (A.take i ++ [row] ++ A.drop (i + 1)).take (i + 1) ++ rows.drop i ++ (A.take i ++ [row] ++ A.drop (i + 1)).drop (i + 1 + (n - i)) = rows.take i ++ row :: rows.drop i := fun A hA hA2 => by
        have t1 : (A.take i ++ [row]).length = i + 1 := by simp; omega
        have t2 : (A.take i ++ [row] ++ A.drop (i + 1)).take (i + 1) = A.take i ++ [row] := by rw [← t1, List.take_left]
        have t3 : (A.take i ++ [row] ++ A.drop (i + 1)).drop (i + 1 + (n - i)) = [] := List.drop_of_length_le (by simp only [List.length_append, List.length_drop, t1]; omega)
        rw [t2, t3, hA2]
        simp
      rw [heq _ (by simp; omega) (by rw [List.take_append_of_le_length (by simp; omega), List.take_take, Nat.min_self])] at hfin
      exact hfin
    · -- in place
      intro W3 n3 _
      have hcn : n + 1 ≤ c := by omega
      obtain ⟨q1, q2, q3, q4, q5⟩ := id ho
      rcases q5 with ⟨rfl, _⟩ | ⟨b, C, rfl, rfl, q6, q7, q8⟩
      · omega
      have ebn : ((n : Int) + ((1 : Nat) : Int)) = ((n + 1 : Nat) : Int) := by omega
      have ei1 : ((i : Int) + ((1 : Nat) : Int)) = ((i + 1 : Nat) : Int) := by omega
      rw [ebn, ei1, slice_tail, slice_tail, slice_tail]
      have et : ∀ k, k < c → ∀ a d, vsl (tailP (some (b, 0)) c k 1) a d = .slice (ptrAt (some (b, 0)) ((k * 1 : Nat) : Int)) a d := fun k hk a d => by unfold tailP; rw [if_neg (by omega), ptrAt_shift, Int.toNat_natCast]
      have hbv : vb ≠ b := fun h => hne (by rw [h])
      have ep : tailP (some (b, 0)) c (i + 1) 1 = some ((b : Blk), (if c = i + 1 then 0 else (i + 1) * 1)) := by
        unfold tailP shiftP
        split
        · rfl
        · simp [shift_at]
      refine ⟨false, W3, by rw [ep]; exact ek_overlapsI hbv (n3.sub _ _ hv) (n3.sub _ _ q6) (by omega), Ext.refl _, fun h => (by cases h), fun _ => ⟨by omega, fun _ => ?_⟩⟩
      intro W5 n5 _
      have hsrc : Rows H (tailP (some (b, 0)) c i 1) (n - i) 1 (rows.drop i) := ho.rows.tail hi hc
      rw [et (i + 1) (by omega)]
      obtain ⟨W6, H2, h7, h8, h9⟩ := ek_copyX (P := Try.prog) Try.underlying45 i1 i3 (by omega) n5.sub ho hsrc (fun r hr => hone r (List.mem_of_mem_drop hr)) (m := n - i) (sl := n + 1 - i) (c2 := c - i) (dl := n + 1 - (i + 1)) (dc := c - (i + 1)) (k := i + 1) (by omega) (by simp [Nat.min_def]; omega) (by omega) (by omega) (by omega) (off := (((i + 1) * 1 : Nat) : Int)) rfl 3
      refine ⟨_, W6, h7, H2, h8.own ho (fun b hb => .inr hb), ?_⟩
      intro W7 n7 _
      rw [et i (by omega)]
      have hv2 : H2 vb = some (.cells row.toArray 3 (0, 0)) := by
        rw [h8.same vb (heap_lt (n5.sub _ _ hv)) (fun h => hbv (by simpa using h.symm))]
        exact hv
      rw [show i + 1 + (n - i) = n + 1 by omega] at h9
      obtain ⟨W8, H3, ha, hb', hc'⟩ := ek_copy (P := Try.prog) Try.underlying45 i1 i3 (by omega) n7.sub h9 (hrow1 H2 hv2) hone1 (m := 1) (sl := 1) (c2 := 1) (dl := n + 1 - i) (dc := c - i) (k := i) (by omega) (by simp [Nat.min_def]; omega) (by omega) (off := ((i * 1 : Nat) : Int)) rfl 3
      have en : (((n + 1 : Nat) : Int)).toNat = n + 1 := by omega
      rw [en]
      refine ⟨_, W8, ha, H3, hb'.own h9 (fun b hb => .inr hb), Rt.gt hH ho.held _ (.inl rfl) ⟨_, n + 1, c, rfl, ?_⟩⟩
      have hfin := hc'.merge (g := some b) (W0 := W) (H := H) (.inl rfl)
      have heq : (rows.take (i + 1) ++ rows.drop i).take i ++ [row] ++ (rows.take (i + 1) ++ rows.drop i).drop (i + 1) = rows.take i ++ row :: rows.drop i := by
        have t1 : (rows.take (i + 1)).length = i + 1 := by simp; omega
        rw [List.take_append_of_le_length (by omega), List.take_take, Nat.min_eq_left (by omega), List.drop_append, List.drop_of_length_le (by omega), t1, Nat.sub_self]
        simp
      rw [heq] at hfin
      exact hfin
end Go.Proofs.Ytdmaehpdccpnoaa
namespace Go.Proofs.Ytdmaehpdccpnoaa
open Go.RowKit
set_option maxRecDepth 100000
set_option maxHeartbeats 4000000
def v_stuCheck : VC :=
(.all 0
(.ite (.lt (.v 0) (.k 1))
(.ret (.int .i64 (.k 3)) [])
(.ite (.lt (.k 5) (.v 0))
(.ret (.int .i64 (.k 3)) [])
(.ite (.lt (.v 1) (.k 1))
(.ret (.int .i64 (.k 3)) [])
(.ite (.lt (.k 61) (.v 1))
(.ret (.int .i64 (.k 3)) [])
(.chk (.le (.k 0) (.v 3))
(.loop [(5, .i), (6, .i)] [.i (.k 0), .i (.k 0)] [.i (.v 5), .i (.v 6)]
(.ite (.lt (.v 5) (.v 3))
(.chk (.idx (.v 5) (.v 3))
(.chk (.isp 2)
(.ld 2 (.add (.k 0) (.mul (.v 5) (.k 1))) [.int .i64 (.v 7)] [(7, .i)]
(.ite (.le (.v 7) (.v 6))
(.ret (.int .i64 (.k 1)) [])
(.ite (.le (.v 1) (.v 7))
(.ret (.int .i64 (.k 1)) [])
(.chk (.rng .i64 (.add (.v 5) (.k 1)))
(.back 0 [.i (.add (.v 5) (.k 1)), .i (.v 7)])))))))
(.ret (.int .i64 (.k 0)) [])))))))))
theorem x_stuCheck (x0 : Int) (x1 : Int) (x2 : Option Loc) (x3 : Nat) (x4 : Nat) (M : Nat → Prop) (H0 : Hp) (W0 : World) (R : Ending → World → Prop) (hH : H0.le (hpOf W0)) (h :
 (∀ b0 : Nat,
 ((x0 < 1 →
  Rt R W0 M H0 nK (vi 3)) ∧
 (¬ (x0 < 1) →
  ((5 < x0 →
   Rt R W0 M H0 nK (vi 3)) ∧
  (¬ (5 < x0) →
   ((x1 < 1 →
    Rt R W0 M H0 nK (vi 3)) ∧
   (¬ (x1 < 1) →
    ((61 < x1 →
     Rt R W0 M H0 nK (vi 3)) ∧
    (¬ (61 < x1) →
     (0 ≤ (x3 : Int) ∧ (0 ≤ (x3 : Int) →
     (∃ (I0 : List Dat → Hp → Prop) (μ0 : List Dat → Nat), I0 [.i 0, .i 0] H0 ∧ ∀ H1 : Hp, ∀ x5 : Int, ∀ x6 : Int, I0 [.i x5, .i x6] H1 →
      ((x5 < (x3 : Int) →
       (((0 : Int) ≤ x5 ∧ x5 < (x3 : Int)) ∧ (((0 : Int) ≤ x5 ∧ x5 < (x3 : Int)) →
       (x2.isSome = true ∧ (x2.isSome = true →
       (∃ x7 : Int, RowAt H1 x2 (0 + (x5 * 1)) [vi x7] ∧
       ((x7 ≤ x6 →
        Rt R W0 M H1 nK (vi 1)) ∧
       (¬ (x7 ≤ x6) →
        ((x1 ≤ x7 →
         Rt R W0 M H1 nK (vi 1)) ∧
        (¬ (x1 ≤ x7) →
         (inKind .i64 (x5 + 1) ∧ (inKind .i64 (x5 + 1) →
         (I0 [.i (x5 + 1), .i x7] H1 ∧ μ0 [.i (x5 + 1), .i x7] < μ0 [.i x5, .i x6]))))))))))))) ∧
      (¬ (x5 < (x3 : Int)) →
       Rt R W0 M H1 nK (vi 0)))))))))))))))) :
  Calls Try.prog 28 #[Value.agg #[vi x0, vi x1, vsl x2 x3 x4]] W0 R :=
  calls_sxA (M := M) (V := v_stuCheck) (hi := {loops := [(5, .inv [(27, .pt (.int .i64)), (3, .pt (.int .i64))] [])]}) (args := [.agg [.int .i64 (.v 0), .int .i64 (.v 1), .slO 2 (.k 0) (.v 3) (.v 4)]]) (nv := 5) (e := (upd (upd (upd (upd (upd (fun _ => .i 0) 0 (.i x0)) 1 (.i x1)) 2 (.p x2)) 3 (.n x3)) 4 (.n x4))) Try.func28 hH h (by kernel_rfl) (by kernel_rfl) (by kernel_rfl)
def v_stuErr : VC :=
(.all 0
(.call 53 [.int .i64 (.v 0), .int .i64 (.k 1), .int .i64 (.k 5)] [] [(5, .b)] (.bool (.v 5)) .same
(.ite (.v 5)
(.call 53 [.int .i64 (.v 1), .int .i64 (.k 1), .int .i64 (.k 61)] [] [(6, .b)] (.bool (.v 6)) .same
(.ite (.v 6)
(.loop [(7, .n)] [.n (.k 0)] [.n (.v 7)]
(.chk (.le (.k 0) (.v 3))
(.ite (.lt (.v 7) (.v 3))
(.chk (.idx (.v 7) (.v 3))
(.chk (.isp 2)
(.ld 2 (.add (.k 0) (.mul (.v 7) (.k 1))) [.int .i64 (.v 8)] [(8, .i)]
(.chk (.rng .i64 (.sub (.v 1) (.k 1)))
(.call 53 [.int .i64 (.v 8), .int .i64 (.k 1), .int .i64 (.sub (.v 1) (.k 1))] [] [(9, .b)] (.bool (.v 9)) .same
(.ite (.v 9)
(.ite (.lt (.k 0) (.v 7))
(.chk (.rng .i64 (.sub (.v 7) (.k 1)))
(.chk (.idx (.sub (.v 7) (.k 1)) (.v 3))
(.ld 2 (.add (.k 0) (.mul (.sub (.v 7) (.k 1)) (.k 1))) [.int .i64 (.v 10)] [(10, .i)]
(.ld 2 (.add (.k 0) (.mul (.v 7) (.k 1))) [.int .i64 (.v 11)] [(11, .i)]
(.ite (.le (.v 11) (.v 10))
(.ret (.int .i64 (.k 1)) [])
(.chk (.rng .i64 (.add (.v 7) (.k 1)))
(.chk (.le (.k 0) (.add (.v 7) (.k 1)))
(.back 0 [.n (.add (.v 7) (.k 1))]))))))))
(.chk (.rng .i64 (.add (.v 7) (.k 1)))
(.chk (.le (.k 0) (.add (.v 7) (.k 1)))
(.back 0 [.n (.add (.v 7) (.k 1))]))))
(.ret (.int .i64 (.k 1)) [])))))))
(.ret (.int .i64 (.k 0)) []))))
(.ret (.int .i64 (.k 3)) [])))
(.ret (.int .i64 (.k 3)) []))))
theorem x_stuErr (x0 : Int) (x1 : Int) (x2 : Option Loc) (x3 : Nat) (x4 : Nat) (M : Nat → Prop) (H0 : Hp) (W0 : World) (R : Ending → World → Prop) (hH : H0.le (hpOf W0)) (h :
 (∀ b0 : Nat,
 (Cl Try.prog W0 M H0 nK 53 #[vi x0, vi 1, vi 5] fun z W1 W2 => ∃ x5 : Bool, z = .returned (vb (x5)) ∧ Ext W1 W2 ∧
 ((x5 = true →
  (Cl Try.prog W0 M H0 nK 53 #[vi x1, vi 1, vi 61] fun z W3 W4 => ∃ x6 : Bool, z = .returned (vb (x6)) ∧ Ext W3 W4 ∧
  ((x6 = true →
   (∃ (I0 : List Dat → Hp → Prop) (μ0 : List Dat → Nat), I0 [.n 0] H0 ∧ ∀ H1 : Hp, ∀ x7 : Nat, I0 [.n x7] H1 →
    (0 ≤ (x3 : Int) ∧ (0 ≤ (x3 : Int) →
    (((x7 : Int) < (x3 : Int) →
     (((0 : Int) ≤ (x7 : Int) ∧ (x7 : Int) < (x3 : Int)) ∧ (((0 : Int) ≤ (x7 : Int) ∧ (x7 : Int) < (x3 : Int)) →
     (x2.isSome = true ∧ (x2.isSome = true →
     (∃ x8 : Int, RowAt H1 x2 (0 + ((x7 : Int) * 1)) [vi x8] ∧
     (inKind .i64 (x1 - 1) ∧ (inKind .i64 (x1 - 1) →
     (Cl Try.prog W0 M H1 nK 53 #[vi x8, vi 1, vi (x1 - 1)] fun z W5 W6 => ∃ x9 : Bool, z = .returned (vb (x9)) ∧ Ext W5 W6 ∧
     ((x9 = true →
      ((0 < (x7 : Int) →
       (inKind .i64 ((x7 : Int) - 1) ∧ (inKind .i64 ((x7 : Int) - 1) →
       (((0 : Int) ≤ ((x7 : Int) - 1) ∧ ((x7 : Int) - 1) < (x3 : Int)) ∧ (((0 : Int) ≤ ((x7 : Int) - 1) ∧ ((x7 : Int) - 1) < (x3 : Int)) →
       (∃ x10 : Int, RowAt H1 x2 (0 + (((x7 : Int) - 1) * 1)) [vi x10] ∧
       (∃ x11 : Int, RowAt H1 x2 (0 + ((x7 : Int) * 1)) [vi x11] ∧
       ((x11 ≤ x10 →
        Rt R W0 M H1 nK (vi 1)) ∧
       (¬ (x11 ≤ x10) →
        (inKind .i64 ((x7 : Int) + 1) ∧ (inKind .i64 ((x7 : Int) + 1) →
        (0 ≤ ((x7 : Int) + 1) ∧ (0 ≤ ((x7 : Int) + 1) →
        (I0 [.n (((x7 : Int) + 1) : Int).toNat] H1 ∧ μ0 [.n (((x7 : Int) + 1) : Int).toNat] < μ0 [.n x7])))))))))))))) ∧
      (¬ (0 < (x7 : Int)) →
       (inKind .i64 ((x7 : Int) + 1) ∧ (inKind .i64 ((x7 : Int) + 1) →
       (0 ≤ ((x7 : Int) + 1) ∧ (0 ≤ ((x7 : Int) + 1) →
       (I0 [.n (((x7 : Int) + 1) : Int).toNat] H1 ∧ μ0 [.n (((x7 : Int) + 1) : Int).toNat] < μ0 [.n x7])))))))) ∧
     (¬ (x9 = true) →
      Rt R W0 M H1 nK (vi 1)))))))))))) ∧
    (¬ ((x7 : Int) < (x3 : Int)) →
     Rt R W0 M H1 nK (vi 0))))))) ∧
  (¬ (x6 = true) →
   Rt R W0 M H0 nK (vi 3))))) ∧
 (¬ (x5 = true) →
  Rt R W0 M H0 nK (vi 3)))))) :
  Calls Try.prog 29 #[Value.agg #[vi x0, vi x1, vsl x2 x3 x4]] W0 R :=
  calls_sxA (M := M) (V := v_stuErr) (hi := {loops := [(4, .inv [(3, .nat)] [])]}) (args := [.agg [.int .i64 (.v 0), .int .i64 (.v 1), .slO 2 (.k 0) (.v 3) (.v 4)]]) (nv := 5) (e := (upd (upd (upd (upd (upd (fun _ => .i 0) 0 (.i x0)) 1 (.i x1)) 2 (.p x2)) 3 (.n x3)) 4 (.n x4))) Try.func29 hH h (by kernel_rfl) (by kernel_rfl) (by kernel_rfl)
def v_stuAck : VC :=
(.all 0
(.chk (.le (.k 0) (.v 3))
(.loop [(5, .i)] [.i (.k 0)] [.i (.v 5)]
(.ite (.lt (.v 5) (.v 3))
(.chk (.idx (.v 5) (.v 3))
(.chk (.isp 2)
(.ld 2 (.add (.k 0) (.mul (.v 5) (.k 1))) [.int .i64 (.v 6)] [(6, .i)]
(.chk (.rng .i64 (.add (.v 5) (.k 1)))
(.ite (.eq (.v 6) (.add (.v 5) (.k 1)))
(.back 0 [.i (.add (.v 5) (.k 1))])
(.ret (.int .i64 (.v 5)) []))))))
(.ret (.int .i64 (.v 3)) [])))))
theorem x_stuAck (x0 : Int) (x1 : Int) (x2 : Option Loc) (x3 : Nat) (x4 : Nat) (M : Nat → Prop) (H0 : Hp) (W0 : World) (R : Ending → World → Prop) (hH : H0.le (hpOf W0)) (h :
 (∀ b0 : Nat,
 (0 ≤ (x3 : Int) ∧ (0 ≤ (x3 : Int) →
 (∃ (I0 : List Dat → Hp → Prop) (μ0 : List Dat → Nat), I0 [.i 0] H0 ∧ ∀ H1 : Hp, ∀ x5 : Int, I0 [.i x5] H1 →
  ((x5 < (x3 : Int) →
   (((0 : Int) ≤ x5 ∧ x5 < (x3 : Int)) ∧ (((0 : Int) ≤ x5 ∧ x5 < (x3 : Int)) →
   (x2.isSome = true ∧ (x2.isSome = true →
   (∃ x6 : Int, RowAt H1 x2 (0 + (x5 * 1)) [vi x6] ∧
   (inKind .i64 (x5 + 1) ∧ (inKind .i64 (x5 + 1) →
   ((x6 = (x5 + 1) →
    (I0 [.i (x5 + 1)] H1 ∧ μ0 [.i (x5 + 1)] < μ0 [.i x5])) ∧
   (¬ (x6 = (x5 + 1)) →
    Rt R W0 M H1 nK (vi x5))))))))))) ∧
  (¬ (x5 < (x3 : Int)) →
   Rt R W0 M H1 nK (vi (x3 : Int))))))))) :
  Calls Try.prog 106 #[Value.agg #[vi x0, vi x1, vsl x2 x3 x4]] W0 R :=
  calls_sxA (M := M) (V := v_stuAck) (hi := {loops := [(2, .inv [(8, .pt (.int .i64))] [])]}) (args := [.agg [.int .i64 (.v 0), .int .i64 (.v 1), .slO 2 (.k 0) (.v 3) (.v 4)]]) (nv := 5) (e := (upd (upd (upd (upd (upd (fun _ => .i 0) 0 (.i x0)) 1 (.i x1)) 2 (.p x2)) 3 (.n x3)) 4 (.n x4))) Try.func106 hH h (by kernel_rfl) (by kernel_rfl) (by kernel_rfl)
def v_came : VC :=
(.all 0
(.loop [(6, .n)] [.n (.k 0)] [.n (.v 6)]
(.chk (.le (.k 0) (.v 3))
(.ite (.lt (.v 6) (.v 3))
(.chk (.idx (.v 6) (.v 3))
(.chk (.isp 2)
(.ld 2 (.add (.k 0) (.mul (.v 6) (.k 1))) [.int .i64 (.v 7)] [(7, .i)]
(.ite (.eq (.v 7) (.v 5))
(.ret (.bool (.k true)) [])
(.chk (.rng .i64 (.add (.v 6) (.k 1)))
(.chk (.le (.k 0) (.add (.v 6) (.k 1)))
(.back 0 [.n (.add (.v 6) (.k 1))])))))))
(.ret (.bool (.k false)) [])))))
theorem x_came (x0 : Int) (x1 : Int) (x2 : Option Loc) (x3 : Nat) (x4 : Nat) (x5 : Int) (M : Nat → Prop) (H0 : Hp) (W0 : World) (R : Ending → World → Prop) (hH : H0.le (hpOf W0)) (h :
 (∀ b0 : Nat,
 (∃ (I0 : List Dat → Hp → Prop) (μ0 : List Dat → Nat), I0 [.n 0] H0 ∧ ∀ H1 : Hp, ∀ x6 : Nat, I0 [.n x6] H1 →
  (0 ≤ (x3 : Int) ∧ (0 ≤ (x3 : Int) →
  (((x6 : Int) < (x3 : Int) →
   (((0 : Int) ≤ (x6 : Int) ∧ (x6 : Int) < (x3 : Int)) ∧ (((0 : Int) ≤ (x6 : Int) ∧ (x6 : Int) < (x3 : Int)) →
   (x2.isSome = true ∧ (x2.isSome = true →
   (∃ x7 : Int, RowAt H1 x2 (0 + ((x6 : Int) * 1)) [vi x7] ∧
   ((x7 = x5 →
    Rt R W0 M H1 nK (vb (true))) ∧
   (¬ (x7 = x5) →
    (inKind .i64 ((x6 : Int) + 1) ∧ (inKind .i64 ((x6 : Int) + 1) →
    (0 ≤ ((x6 : Int) + 1) ∧ (0 ≤ ((x6 : Int) + 1) →
    (I0 [.n (((x6 : Int) + 1) : Int).toNat] H1 ∧ μ0 [.n (((x6 : Int) + 1) : Int).toNat] < μ0 [.n x6]))))))))))))) ∧
  (¬ ((x6 : Int) < (x3 : Int)) →
   Rt R W0 M H1 nK (vb (false))))))))) :
  Calls Try.prog 71 #[Value.agg #[vi x0, vi x1, vsl x2 x3 x4], vi x5] W0 R :=
  calls_sxA (M := M) (V := v_came) (hi := {loops := [(2, .inv [(5, .nat)] [])]}) (args := [.agg [.int .i64 (.v 0), .int .i64 (.v 1), .slO 2 (.k 0) (.v 3) (.v 4)], .int .i64 (.v 5)]) (nv := 6) (e := (upd (upd (upd (upd (upd (upd (fun _ => .i 0) 0 (.i x0)) 1 (.i x1)) 2 (.p x2)) 3 (.n x3)) 4 (.n x4)) 5 (.i x5))) Try.func71 hH h (by kernel_rfl) (by kernel_rfl) (by kernel_rfl)
def v_rack : VC :=
(.all 0
(.loop [(5, .n)] [.n (.k 0)] [.n (.v 5)]
(.chk (.rng .i64 (.add (.v 5) (.k 1)))
(.call 71 [.agg [.int .i64 (.v 0), .int .i64 (.v 1), .slO 2 (.k 0) (.v 3) (.v 4)], .int .i64 (.add (.v 5) (.k 1))] [] [(6, .b)] (.bool (.v 6)) .same
(.ite (.v 6)
(.chk (.le (.k 0) (.add (.v 5) (.k 1)))
(.back 0 [.n (.add (.v 5) (.k 1))]))
(.ret (.int .i64 (.v 5)) []))))))
theorem x_rack (x0 : Int) (x1 : Int) (x2 : Option Loc) (x3 : Nat) (x4 : Nat) (M : Nat → Prop) (H0 : Hp) (W0 : World) (R : Ending → World → Prop) (hH : H0.le (hpOf W0)) (h :
 (∀ b0 : Nat,
 (∃ (I0 : List Dat → Hp → Prop) (μ0 : List Dat → Nat), I0 [.n 0] H0 ∧ ∀ H1 : Hp, ∀ x5 : Nat, I0 [.n x5] H1 →
  (inKind .i64 ((x5 : Int) + 1) ∧ (inKind .i64 ((x5 : Int) + 1) →
  (Cl Try.prog W0 M H1 nK 71 #[Value.agg #[vi x0, vi x1, vsl x2 x3 x4], vi ((x5 : Int) + 1)] fun z W1 W2 => ∃ x6 : Bool, z = .returned (vb (x6)) ∧ Ext W1 W2 ∧
  ((x6 = true →
   (0 ≤ ((x5 : Int) + 1) ∧ (0 ≤ ((x5 : Int) + 1) →
   (I0 [.n (((x5 : Int) + 1) : Int).toNat] H1 ∧ μ0 [.n (((x5 : Int) + 1) : Int).toNat] < μ0 [.n x5])))) ∧
  (¬ (x6 = true) →
   Rt R W0 M H1 nK (vi (x5 : Int)))))))))) :
  Calls Try.prog 66 #[Value.agg #[vi x0, vi x1, vsl x2 x3 x4]] W0 R :=
  calls_sxA (M := M) (V := v_rack) (hi := {loops := [(2, .inv [(3, .nat)] [])]}) (args := [.agg [.int .i64 (.v 0), .int .i64 (.v 1), .slO 2 (.k 0) (.v 3) (.v 4)]]) (nv := 5) (e := (upd (upd (upd (upd (upd (fun _ => .i 0) 0 (.i x0)) 1 (.i x1)) 2 (.p x2)) 3 (.n x3)) 4 (.n x4))) Try.func66 hH h (by kernel_rfl) (by kernel_rfl) (by kernel_rfl)
def v_stuCall : VC :=
(.all 0
(.all 1
(.all 2
(.chk (.rng .i64 (.sub (.v 6) (.k 1)))
(.call 106 [.agg [.int .i64 (.v 0), .int .i64 (.v 1), .slO 2 (.k 0) (.v 3) (.v 4)]] [] [(11, .i)] (.int .i64 (.v 11)) .same
(.all 3
(.call 16 [.agg [.int .i64 (.k 2), .int .i64 (.v 5), .int .i64 (.v 0), .int .i64 (.v 6), .int .i64 (.mn (.v 11) (.sub (.v 6) (.k 1))), .int .i64 (.v 7), .int .i64 (.v 8), .int .i64 (.v 9), .int .i64 (.v 10)]] [] [(12, .i)] (.int .i64 (.v 12)) .same
(.ite (.eq (.v 12) (.k 0))
(.ret (.tup [.agg [.int .i64 (.k 2), .int .i64 (.v 5), .int .i64 (.v 0), .int .i64 (.v 6), .int .i64 (.mn (.v 11) (.sub (.v 6) (.k 1))), .int .i64 (.v 7), .int .i64 (.v 8), .int .i64 (.v 9), .int .i64 (.v 10)], .int .i64 (.k 0)]) [])
(.ret (.tup [.agg [.int .i64 (.k 0), .int .i64 (.k 0), .int .i64 (.k 0), .int .i64 (.k 0), .int .i64 (.k 0), .int .i64 (.k 0), .int .i64 (.k 0), .int .i64 (.k 0), .int .i64 (.k 0)], .int .i64 (.v 12)]) [])))))))))
theorem x_stuCall (x0 : Int) (x1 : Int) (x2 : Option Loc) (x3 : Nat) (x4 : Nat) (x5 : Int) (x6 : Int) (x7 : Int) (x8 : Int) (x9 : Int) (x10 : Int) (M : Nat → Prop) (H0 : Hp) (W0 : World) (R : Ending → World → Prop) (hH : H0.le (hpOf W0)) (h :
 (∀ b0 : Nat,
 (∀ b1 : Nat,
 (∀ b2 : Nat,
 (inKind .i64 (x6 - 1) ∧ (inKind .i64 (x6 - 1) →
 (Cl Try.prog W0 M H0 nK 106 #[Value.agg #[vi x0, vi x1, vsl x2 x3 x4]] fun z W1 W2 => ∃ x11 : Int, z = .returned (vi x11) ∧ Ext W1 W2 ∧
 (∀ b3 : Nat,
 (Cl Try.prog W0 M H0 nK 16 #[Value.agg #[vi 2, vi x5, vi x0, vi x6, vi (if (x6 - 1) < x11 then (x6 - 1) else x11), vi x7, vi x8, vi x9, vi x10]] fun z W3 W4 => ∃ x12 : Int, z = .returned (vi x12) ∧ Ext W3 W4 ∧
 ((x12 = 0 →
  Rt R W0 M H0 nK (Value.tuple #[Value.agg #[vi 2, vi x5, vi x0, vi x6, vi (if (x6 - 1) < x11 then (x6 - 1) else x11), vi x7, vi x8, vi x9, vi x10], vi 0])) ∧
 (¬ (x12 = 0) →
  Rt R W0 M H0 nK (Value.tuple #[Value.agg #[vi 0, vi 0, vi 0, vi 0, vi 0, vi 0, vi 0, vi 0, vi 0], vi x12])))))))))))) :
  Calls Try.prog 64 #[Value.agg #[vi x0, vi x1, vsl x2 x3 x4], vi x5, vi x6, Value.agg #[vi x7, vi x8, vi x9, vi x10]] W0 R :=
  calls_sxA (M := M) (V := v_stuCall) (hi := {}) (args := [.agg [.int .i64 (.v 0), .int .i64 (.v 1), .slO 2 (.k 0) (.v 3) (.v 4)], .int .i64 (.v 5), .int .i64 (.v 6), .agg [.int .i64 (.v 7), .int .i64 (.v 8), .int .i64 (.v 9), .int .i64 (.v 10)]]) (nv := 11) (e := (upd (upd (upd (upd (upd (upd (upd (upd (upd (upd (upd (fun _ => .i 0) 0 (.i x0)) 1 (.i x1)) 2 (.p x2)) 3 (.n x3)) 4 (.n x4)) 5 (.i x5)) 6 (.i x6)) 7 (.i x7)) 8 (.i x8)) 9 (.i x9)) 10 (.i x10))) Try.func64 hH h (by kernel_rfl) (by kernel_rfl) (by kernel_rfl)
def v_sameInts : VC :=
(.chk (.le (.k 0) (.v 1))
(.chk (.le (.k 0) (.v 4))
(.ite (.eq (.v 1) (.v 4))
(.loop [(6, .n)] [.n (.k 0)] [.n (.v 6)]
(.ite (.lt (.v 6) (.v 1))
(.chk (.idx (.v 6) (.v 1))
(.chk (.isp 0)
(.ld 0 (.add (.k 0) (.mul (.v 6) (.k 1))) [.int .i64 (.v 7)] [(7, .i)]
(.chk (.idx (.v 6) (.v 4))
(.chk (.isp 3)
(.ld 3 (.add (.k 0) (.mul (.v 6) (.k 1))) [.int .i64 (.v 8)] [(8, .i)]
(.ite (.eq (.v 7) (.v 8))
(.chk (.rng .i64 (.add (.v 6) (.k 1)))
(.chk (.le (.k 0) (.add (.v 6) (.k 1)))
(.back 0 [.n (.add (.v 6) (.k 1))])))
(.ret (.bool (.k false)) []))))))))
(.ret (.bool (.k true)) [])))
(.ret (.bool (.k false)) []))))
theorem x_sameInts (x0 : Option Loc) (x1 : Nat) (x2 : Nat) (x3 : Option Loc) (x4 : Nat) (x5 : Nat) (M : Nat → Prop) (H0 : Hp) (W0 : World) (R : Ending → World → Prop) (hH : H0.le (hpOf W0)) (h :
 (0 ≤ (x1 : Int) ∧ (0 ≤ (x1 : Int) →
 (0 ≤ (x4 : Int) ∧ (0 ≤ (x4 : Int) →
 (((x1 : Int) = (x4 : Int) →
  (∃ (I0 : List Dat → Hp → Prop) (μ0 : List Dat → Nat), I0 [.n 0] H0 ∧ ∀ H1 : Hp, ∀ x6 : Nat, I0 [.n x6] H1 →
   (((x6 : Int) < (x1 : Int) →
    (((0 : Int) ≤ (x6 : Int) ∧ (x6 : Int) < (x1 : Int)) ∧ (((0 : Int) ≤ (x6 : Int) ∧ (x6 : Int) < (x1 : Int)) →
    (x0.isSome = true ∧ (x0.isSome = true →
    (∃ x7 : Int, RowAt H1 x0 (0 + ((x6 : Int) * 1)) [vi x7] ∧
    (((0 : Int) ≤ (x6 : Int) ∧ (x6 : Int) < (x4 : Int)) ∧ (((0 : Int) ≤ (x6 : Int) ∧ (x6 : Int) < (x4 : Int)) →
    (x3.isSome = true ∧ (x3.isSome = true →
    (∃ x8 : Int, RowAt H1 x3 (0 + ((x6 : Int) * 1)) [vi x8] ∧
    ((x7 = x8 →
     (inKind .i64 ((x6 : Int) + 1) ∧ (inKind .i64 ((x6 : Int) + 1) →
     (0 ≤ ((x6 : Int) + 1) ∧ (0 ≤ ((x6 : Int) + 1) →
     (I0 [.n (((x6 : Int) + 1) : Int).toNat] H1 ∧ μ0 [.n (((x6 : Int) + 1) : Int).toNat] < μ0 [.n x6])))))) ∧
    (¬ (x7 = x8) →
     Rt R W0 M H1 nK (vb (false))))))))))))))) ∧
   (¬ ((x6 : Int) < (x1 : Int)) →
    Rt R W0 M H1 nK (vb (true)))))) ∧
 (¬ ((x1 : Int) = (x4 : Int)) →
  Rt R W0 M H0 nK (vb (false))))))))) :
  Calls Try.prog 67 #[vsl x0 x1 x2, vsl x3 x4 x5] W0 R :=
  calls_sxA (M := M) (V := v_sameInts) (hi := {loops := [(4, .inv [(5, .nat)] [])]}) (args := [.slO 0 (.k 0) (.v 1) (.v 2), .slO 3 (.k 0) (.v 4) (.v 5)]) (nv := 6) (e := (upd (upd (upd (upd (upd (upd (fun _ => .i 0) 0 (.p x0)) 1 (.n x1)) 2 (.n x2)) 3 (.p x3)) 4 (.n x4)) 5 (.n x5))) Try.func67 hH h (by kernel_rfl) (by kernel_rfl) (by kernel_rfl)
def v_sameStubs : VC :=
(.all 0
(.all 1
(.ite (.eq (.v 0) (.v 5))
(.ite (.eq (.v 1) (.v 6))
(.call 67 [.slO 2 (.k 0) (.v 3) (.v 4), .slO 7 (.k 0) (.v 8) (.v 9)] [] [(10, .b)] (.bool (.v 10)) .same
(.ret (.bool (.v 10)) []))
(.ret (.bool (.k false)) []))
(.ret (.bool (.k false)) []))))
theorem x_sameStubs (x0 : Int) (x1 : Int) (x2 : Option Loc) (x3 : Nat) (x4 : Nat) (x5 : Int) (x6 : Int) (x7 : Option Loc) (x8 : Nat) (x9 : Nat) (M : Nat → Prop) (H0 : Hp) (W0 : World) (R : Ending → World → Prop) (hH : H0.le (hpOf W0)) (h :
 (∀ b0 : Nat,
 (∀ b1 : Nat,
 ((x0 = x5 →
  ((x1 = x6 →
   (Cl Try.prog W0 M H0 nK 67 #[vsl x2 x3 x4, vsl x7 x8 x9] fun z W1 W2 => ∃ x10 : Bool, z = .returned (vb (x10)) ∧ Ext W1 W2 ∧
   Rt R W0 M H0 nK (vb (x10)))) ∧
  (¬ (x1 = x6) →
   Rt R W0 M H0 nK (vb (false))))) ∧
 (¬ (x0 = x5) →
  Rt R W0 M H0 nK (vb (false))))))) :
  Calls Try.prog 30 #[Value.agg #[vi x0, vi x1, vsl x2 x3 x4], Value.agg #[vi x5, vi x6, vsl x7 x8 x9]] W0 R :=
  calls_sxA (M := M) (V := v_sameStubs) (hi := {}) (args := [.agg [.int .i64 (.v 0), .int .i64 (.v 1), .slO 2 (.k 0) (.v 3) (.v 4)], .agg [.int .i64 (.v 5), .int .i64 (.v 6), .slO 7 (.k 0) (.v 8) (.v 9)]]) (nv := 10) (e := (upd (upd (upd (upd (upd (upd (upd (upd (upd (upd (fun _ => .i 0) 0 (.i x0)) 1 (.i x1)) 2 (.p x2)) 3 (.n x3)) 4 (.n x4)) 5 (.i x5)) 6 (.i x6)) 7 (.p x7)) 8 (.n x8)) 9 (.n x9))) Try.func30 hH h (by kernel_rfl) (by kernel_rfl) (by kernel_rfl)
def v_cloneI : VC :=
(.esc (.bop .eql 45 (.tmp 3) (.const (Value.slice none 0 0))) [.slO 0 (.k 0) (.v 1) (.v 2), .c (Value.slice none 0 0)] [] [(3, .b)] (some (.bool (.v 3))) .same
(.ite (.v 3)
(.ret (.c (Value.slice none 0 0)) [])
(.all 0
(.esc (.bi .append #[45, 45] 45) [.slK 0 0 0 0, .slO 0 (.k 0) (.v 1) (.v 2)] [(0, ⟨[], 3⟩)] [(4, .p), (5, .n), (6, .n)] (some (.slO 4 (.k 0) (.v 5) (.v 6))) .turn
(.ret (.slO 4 (.k 0) (.v 5) (.v 6)) [])))))
theorem x_cloneI (x0 : Option Loc) (x1 : Nat) (x2 : Nat) (M : Nat → Prop) (H0 : Hp) (W0 : World) (R : Ending → World → Prop) (hH : H0.le (hpOf W0)) (h :
 (Es W0 M H0 nK fun W1 => ∃ x3 : Bool, Eo Try.prog (.bop .eql 45 (.tmp 3) (.const (Value.slice none 0 0))) [vsl x0 x1 x2, Value.slice none 0 0] W1 (.value (vb (x3))) fun W2 => Ext W1 W2 ∧
 ((x3 = true →
  Rt R W0 M H0 nK (Value.slice none 0 0)) ∧
 (¬ (x3 = true) →
  (∀ b0 : Nat,
  (Es W0 M H0 (fun W => Kn W0 M H0 W b0 (Obj.cells #[] 3 (0, 0)) ∧ True) fun W3 => ∃ x4 : Option Loc, ∃ x5 : Nat, ∃ x6 : Nat, Eo Try.prog (.bi .append #[45, 45] 45) [Value.slice (some ⟨b0, 0, none⟩) 0 0, vsl x0 x1 x2] W3 (.value (vsl x4 x5 x6)) fun W4 => Tn W0 M H0 W3 W4 fun H1 =>
  Rt R W0 M H1 nK (vsl x4 x5 x6))))))) :
  Calls Try.prog 65 #[vsl x0 x1 x2] W0 R :=
  calls_sxA (M := M) (V := v_cloneI) (hi := {}) (args := [.slO 0 (.k 0) (.v 1) (.v 2)]) (nv := 3) (e := (upd (upd (upd (fun _ => .i 0) 0 (.p x0)) 1 (.n x1)) 2 (.n x2))) Try.func65 hH h (by kernel_rfl) (by kernel_rfl) (by kernel_rfl)
def v_containsI : VC :=
(.call 107 [.slO 0 (.k 0) (.v 1) (.v 2), .int .i64 (.v 3)] [] [(4, .i)] (.int .i64 (.v 4)) .same
(.ret (.bool (.le (.k 0) (.v 4))) []))
theorem x_containsI (x0 : Option Loc) (x1 : Nat) (x2 : Nat) (x3 : Int) (M : Nat → Prop) (H0 : Hp) (W0 : World) (R : Ending → World → Prop) (hH : H0.le (hpOf W0)) (h :
 (Cl Try.prog W0 M H0 nK 107 #[vsl x0 x1 x2, vi x3] fun z W1 W2 => ∃ x4 : Int, z = .returned (vi x4) ∧ Ext W1 W2 ∧
 Rt R W0 M H0 nK (vb (decide (0 ≤ x4))))) :
  Calls Try.prog 68 #[vsl x0 x1 x2, vi x3] W0 R :=
  calls_sxA (M := M) (V := v_containsI) (hi := {}) (args := [.slO 0 (.k 0) (.v 1) (.v 2), .int .i64 (.v 3)]) (nv := 4) (e := (upd (upd (upd (upd (fun _ => .i 0) 0 (.p x0)) 1 (.n x1)) 2 (.n x2)) 3 (.i x3))) Try.func68 hH h (by kernel_rfl) (by kernel_rfl) (by kernel_rfl)
def v_indexI : VC :=
(.chk (.le (.k 0) (.v 1))
(.loop [(4, .i)] [.i (.k 0)] [.i (.v 4)]
(.ite (.lt (.v 4) (.v 1))
(.chk (.idx (.v 4) (.v 1))
(.chk (.isp 0)
(.ld 0 (.add (.k 0) (.mul (.v 4) (.k 1))) [.int .i64 (.v 5)] [(5, .i)]
(.ite (.eq (.v 3) (.v 5))
(.ret (.int .i64 (.v 4)) [])
(.chk (.rng .i64 (.add (.v 4) (.k 1)))
(.back 0 [.i (.add (.v 4) (.k 1))]))))))
(.ret (.int .i64 (.k (-1))) []))))
theorem x_indexI (x0 : Option Loc) (x1 : Nat) (x2 : Nat) (x3 : Int) (M : Nat → Prop) (H0 : Hp) (W0 : World) (R : Ending → World → Prop) (hH : H0.le (hpOf W0)) (h :
 (0 ≤ (x1 : Int) ∧ (0 ≤ (x1 : Int) →
 (∃ (I0 : List Dat → Hp → Prop) (μ0 : List Dat → Nat), I0 [.i 0] H0 ∧ ∀ H1 : Hp, ∀ x4 : Int, I0 [.i x4] H1 →
  ((x4 < (x1 : Int) →
   (((0 : Int) ≤ x4 ∧ x4 < (x1 : Int)) ∧ (((0 : Int) ≤ x4 ∧ x4 < (x1 : Int)) →
   (x0.isSome = true ∧ (x0.isSome = true →
   (∃ x5 : Int, RowAt H1 x0 (0 + (x4 * 1)) [vi x5] ∧
   ((x3 = x5 →
    Rt R W0 M H1 nK (vi x4)) ∧
   (¬ (x3 = x5) →
    (inKind .i64 (x4 + 1) ∧ (inKind .i64 (x4 + 1) →
    (I0 [.i (x4 + 1)] H1 ∧ μ0 [.i (x4 + 1)] < μ0 [.i x4]))))))))))) ∧
  (¬ (x4 < (x1 : Int)) →
   Rt R W0 M H1 nK (vi (-1)))))))) :
  Calls Try.prog 107 #[vsl x0 x1 x2, vi x3] W0 R :=
  calls_sxA (M := M) (V := v_indexI) (hi := {loops := [(2, .inv [(8, .pt (.int .i64))] [])]}) (args := [.slO 0 (.k 0) (.v 1) (.v 2), .int .i64 (.v 3)]) (nv := 4) (e := (upd (upd (upd (upd (fun _ => .i 0) 0 (.p x0)) 1 (.n x1)) 2 (.n x2)) 3 (.i x3))) Try.func107 hH h (by kernel_rfl) (by kernel_rfl) (by kernel_rfl)
def v_bsI : VC :=
(.chk (.le (.k 0) (.v 1))
(.loop [(4, .n), (5, .n)] [.n (.k 0), .n (.v 1)] [.n (.v 4), .n (.v 5)]
(.ite (.lt (.v 4) (.v 5))
(.chk (.rng .i64 (.add (.v 4) (.v 5)))
(.esc (.bop .shr 148 (.tmp 19) (.const (Value.int .u64 1))) [.int .u64 (.wrap .u64 (.add (.v 4) (.v 5))), .int .u64 (.k 1)] [] [(6, .i)] (some (.int .u64 (.v 6))) .same
(.chk (.rng .i64 (.v 6))
(.chk (.idx (.v 6) (.v 1))
(.chk (.isp 0)
(.ld 0 (.add (.k 0) (.mul (.v 6) (.k 1))) [.int .i64 (.v 7)] [(7, .i)]
(.call 108 [.int .i64 (.v 7), .int .i64 (.v 3)] [] [(8, .b)] (.bool (.v 8)) .same
(.ite (.v 8)
(.chk (.rng .i64 (.add (.v 6) (.k 1)))
(.chk (.le (.k 0) (.add (.v 6) (.k 1)))
(.chk (.le (.k 0) (.v 5))
(.back 0 [.n (.add (.v 6) (.k 1)), .n (.v 5)]))))
(.chk (.le (.k 0) (.v 4))
(.chk (.le (.k 0) (.v 6))
(.back 0 [.n (.v 4), .n (.v 6)])))))))))))
(.ite (.lt (.v 4) (.v 1))
(.chk (.idx (.v 4) (.v 1))
(.chk (.isp 0)
(.ld 0 (.add (.k 0) (.mul (.v 4) (.k 1))) [.int .i64 (.v 6)] [(6, .i)]
(.ite (.eq (.v 6) (.v 3))
(.ret (.tup [.int .i64 (.v 4), .bool (.k true)]) [])
(.ld 0 (.add (.k 0) (.mul (.v 4) (.k 1))) [.int .i64 (.v 7)] [(7, .i)]
(.call 109 [.int .i64 (.v 7)] [] [(8, .b)] (.bool (.v 8)) .same
(.ite (.v 8)
(.call 109 [.int .i64 (.v 3)] [] [(9, .b)] (.bool (.v 9)) .same
(.ret (.tup [.int .i64 (.v 4), .bool (.v 9)]) []))
(.ret (.tup [.int .i64 (.v 4), .bool (.k false)]) []))))))))
(.ret (.tup [.int .i64 (.v 4), .bool (.k false)]) [])))))
theorem x_bsI (x0 : Option Loc) (x1 : Nat) (x2 : Nat) (x3 : Int) (M : Nat → Prop) (H0 : Hp) (W0 : World) (R : Ending → World → Prop) (hH : H0.le (hpOf W0)) (h :
 (0 ≤ (x1 : Int) ∧ (0 ≤ (x1 : Int) →
 (∃ (I0 : List Dat → Hp → Prop) (μ0 : List Dat → Nat), I0 [.n 0, .n x1] H0 ∧ ∀ H1 : Hp, ∀ x4 : Nat, ∀ x5 : Nat, I0 [.n x4, .n x5] H1 →
  (((x4 : Int) < (x5 : Int) →
   (inKind .i64 ((x4 : Int) + (x5 : Int)) ∧ (inKind .i64 ((x4 : Int) + (x5 : Int)) →
   (Es W0 M H1 nK fun W1 => ∃ x6 : Int, Eo Try.prog (.bop .shr 148 (.tmp 19) (.const (Value.int .u64 1))) [Value.int .u64 (IntKind.wrap .u64 ((x4 : Int) + (x5 : Int))), Value.int .u64 1] W1 (.value (Value.int .u64 x6)) fun W2 => Ext W1 W2 ∧
   (inKind .i64 x6 ∧ (inKind .i64 x6 →
   (((0 : Int) ≤ x6 ∧ x6 < (x1 : Int)) ∧ (((0 : Int) ≤ x6 ∧ x6 < (x1 : Int)) →
   (x0.isSome = true ∧ (x0.isSome = true →
   (∃ x7 : Int, RowAt H1 x0 (0 + (x6 * 1)) [vi x7] ∧
   (Cl Try.prog W0 M H1 nK 108 #[vi x7, vi x3] fun z W3 W4 => ∃ x8 : Bool, z = .returned (vb (x8)) ∧ Ext W3 W4 ∧
   ((x8 = true →
    (inKind .i64 (x6 + 1) ∧ (inKind .i64 (x6 + 1) →
    (0 ≤ (x6 + 1) ∧ (0 ≤ (x6 + 1) →
    (0 ≤ (x5 : Int) ∧ (0 ≤ (x5 : Int) →
    (I0 [.n ((x6 + 1) : Int).toNat, .n x5] H1 ∧ μ0 [.n ((x6 + 1) : Int).toNat, .n x5] < μ0 [.n x4, .n x5])))))))) ∧
   (¬ (x8 = true) →
    (0 ≤ (x4 : Int) ∧ (0 ≤ (x4 : Int) →
    (0 ≤ x6 ∧ (0 ≤ x6 →
    (I0 [.n x4, .n (x6).toNat] H1 ∧ μ0 [.n x4, .n (x6).toNat] < μ0 [.n x4, .n x5]))))))))))))))))))) ∧
  (¬ ((x4 : Int) < (x5 : Int)) →
   (((x4 : Int) < (x1 : Int) →
    (((0 : Int) ≤ (x4 : Int) ∧ (x4 : Int) < (x1 : Int)) ∧ (((0 : Int) ≤ (x4 : Int) ∧ (x4 : Int) < (x1 : Int)) →
    (x0.isSome = true ∧ (x0.isSome = true →
    (∃ x6 : Int, RowAt H1 x0 (0 + ((x4 : Int) * 1)) [vi x6] ∧
    ((x6 = x3 →
     Rt R W0 M H1 nK (Value.tuple #[vi (x4 : Int), vb (true)])) ∧
    (¬ (x6 = x3) →
     (∃ x7 : Int, RowAt H1 x0 (0 + ((x4 : Int) * 1)) [vi x7] ∧
     (Cl Try.prog W0 M H1 nK 109 #[vi x7] fun z W1 W2 => ∃ x8 : Bool, z = .returned (vb (x8)) ∧ Ext W1 W2 ∧
     ((x8 = true →
      (Cl Try.prog W0 M H1 nK 109 #[vi x3] fun z W3 W4 => ∃ x9 : Bool, z = .returned (vb (x9)) ∧ Ext W3 W4 ∧
      Rt R W0 M H1 nK (Value.tuple #[vi (x4 : Int), vb (x9)]))) ∧
     (¬ (x8 = true) →
      Rt R W0 M H1 nK (Value.tuple #[vi (x4 : Int), vb (false)]))))))))))))) ∧
   (¬ ((x4 : Int) < (x1 : Int)) →
    Rt R W0 M H1 nK (Value.tuple #[vi (x4 : Int), vb (false)]))))))))) :
  Calls Try.prog 69 #[vsl x0 x1 x2, vi x3] W0 R :=
  calls_sxA (M := M) (V := v_bsI) (hi := {loops := [(3, .inv [(7, .nat), (8, .nat)] [])]}) (args := [.slO 0 (.k 0) (.v 1) (.v 2), .int .i64 (.v 3)]) (nv := 4) (e := (upd (upd (upd (upd (fun _ => .i 0) 0 (.p x0)) 1 (.n x1)) 2 (.n x2)) 3 (.i x3))) Try.func69 hH h (by kernel_rfl) (by kernel_rfl) (by kernel_rfl)
def v_lessI : VC :=
(.call 123 [.int .i64 (.v 0)] [] [(2, .b)] (.bool (.v 2)) .same
(.ite (.v 2)
(.call 123 [.int .i64 (.v 1)] [] [(3, .b)] (.bool (.v 3)) .same
(.ite (.v 3)
(.ret (.bool (.lt (.v 0) (.v 1))) [])
(.ret (.bool (.k true)) [])))
(.ret (.bool (.lt (.v 0) (.v 1))) [])))
theorem x_lessI (x0 : Int) (x1 : Int) (M : Nat → Prop) (H0 : Hp) (W0 : World) (R : Ending → World → Prop) (hH : H0.le (hpOf W0)) (h :
 (Cl Try.prog W0 M H0 nK 123 #[vi x0] fun z W1 W2 => ∃ x2 : Bool, z = .returned (vb (x2)) ∧ Ext W1 W2 ∧
 ((x2 = true →
  (Cl Try.prog W0 M H0 nK 123 #[vi x1] fun z W3 W4 => ∃ x3 : Bool, z = .returned (vb (x3)) ∧ Ext W3 W4 ∧
  ((x3 = true →
   Rt R W0 M H0 nK (vb (decide (x0 < x1)))) ∧
  (¬ (x3 = true) →
   Rt R W0 M H0 nK (vb (true)))))) ∧
 (¬ (x2 = true) →
  Rt R W0 M H0 nK (vb (decide (x0 < x1))))))) :
  Calls Try.prog 108 #[vi x0, vi x1] W0 R :=
  calls_sxA (M := M) (V := v_lessI) (hi := {}) (args := [.int .i64 (.v 0), .int .i64 (.v 1)]) (nv := 2) (e := (upd (upd (fun _ => .i 0) 0 (.i x0)) 1 (.i x1))) Try.func108 hH h (by kernel_rfl) (by kernel_rfl) (by kernel_rfl)
def v_nanI : VC :=
(.ret (.bool (.not (.eq (.v 0) (.v 0)))) [])
theorem x_nanI (x0 : Int) (M : Nat → Prop) (H0 : Hp) (W0 : World) (R : Ending → World → Prop) (hH : H0.le (hpOf W0)) (h :
 Rt R W0 M H0 nK (vb ((!decide (x0 = x0))))) :
  Calls Try.prog 109 #[vi x0] W0 R :=
  calls_sxA (M := M) (V := v_nanI) (hi := {}) (args := [.int .i64 (.v 0)]) (nv := 1) (e := (upd (fun _ => .i 0) 0 (.i x0))) Try.func109 hH h (by kernel_rfl) (by kernel_rfl) (by kernel_rfl)
def v_nanC : VC :=
(.ret (.bool (.not (.eq (.v 0) (.v 0)))) [])
theorem x_nanC (x0 : Int) (M : Nat → Prop) (H0 : Hp) (W0 : World) (R : Ending → World → Prop) (hH : H0.le (hpOf W0)) (h :
 Rt R W0 M H0 nK (vb ((!decide (x0 = x0))))) :
  Calls Try.prog 123 #[vi x0] W0 R :=
  calls_sxA (M := M) (V := v_nanC) (hi := {}) (args := [.int .i64 (.v 0)]) (nv := 1) (e := (upd (fun _ => .i 0) 0 (.i x0))) Try.func123 hH h (by kernel_rfl) (by kernel_rfl) (by kernel_rfl)
end Go.Proofs.Ytdmaehpdccpnoaa
namespace Go.Proofs.Ytdmaehpdccpnoaa
open Go.RowKit

def irow (x : Int) : List Value := [vi x]
def Ints (H : Hp) (p : Option Loc) (n c : Nat) (l : List Int) : Prop := n ≤ c ∧ c ≤ maxLen ∧ Rows H p n 1 (l.map irow)
section
variable {H K : Hp} {p p' : Option Loc} {n c n' c' : Nat} {l m : List Int}
theorem Ints.mono (h : Ints H p n c l) (hk : H.le K) : Ints K p n c l := ⟨h.1, h.2.1, h.2.2.mono hk⟩
theorem Ints.len (h : Ints H p n c l) : n = l.length := by simpa using h.2.2.len
theorem Ints.lt63 (h : Ints H p n c l) : (n : Int) ≤ 9223372036854775807 := by have := h.1; have := h.2.1; simp only [maxLen] at this; omega
theorem Ints.nil (H : Hp) (p : Option Loc) : Ints H p 0 0 [] := ⟨Nat.le_refl _, by simp [maxLen], Rows.nil _ _ _⟩
theorem Ints.at (h : Ints H p n c l) {k : Nat} (hk : k < n) : ∃ x : Int, l[k]? = some x ∧ RowAt H p (0 + (k : Int) * 1) [vi x] := by
  obtain ⟨row, h1, _, h3⟩ := h.2.2.at hk (off := 0 + (k : Int) * 1) (by omega)
  rw [List.getElem?_map, Option.map_eq_some_iff] at h1
  obtain ⟨x, hx, rfl⟩ := h1
  exact ⟨x, hx, h3⟩
theorem ones_I (l : List Int) : ∀ r ∈ l.map irow, ∀ v ∈ r, v.oneCell' = true := fun r hr v hv => by
  obtain ⟨x, _, rfl⟩ := List.mem_map.1 hr
  simp only [irow, List.mem_singleton] at hv
  subst hv
  rfl
theorem Ints.of_ow {g : Option Nat} (h : Ow H 3 1 p n c (l.map irow) g) : Ints H p n c l := ⟨h.2.2.1, h.2.2.2.1, h.rows⟩
theorem c_stuCheck {s : Stb} (hk : Ints H p n c s.came) : Gv Try.prog 28 #[.agg #[vi s.client, vi s.next, vsl p n c]] H (vi s.err) := fun W hH => by
  have hn := hk.len
  have h63 := hk.lt63
  refine x_stuCheck _ _ p n c noM H W _ hH fun b0 => ⟨fun h => Rt.gv' (by rw [stb_range (by omega)]), fun k1 => ⟨fun h => Rt.gv' (by rw [stb_range (by omega)]), fun k2 => ⟨fun h => Rt.gv' (by rw [stb_range (by omega)]), fun k3 => ⟨fun h => Rt.gv' (by rw [stb_range (by omega)]), fun k4 => ⟨by omega, fun _ => ?_⟩⟩⟩⟩⟩
  have h0 : ¬ (s.client < 1 ∨ 5 < s.client ∨ s.next < 1 ∨ 61 < s.next) := by omega
  refine ⟨fun v K => match v with | [.i k, .i a] => ∃ j : Nat, k = j ∧ j ≤ n ∧ H.le K ∧ cameOk s.next a (s.came.drop j) = cameOk s.next 0 s.came | _ => False, fun v => match v with | [.i k, _] => n - k.toNat | _ => 0, ⟨0, rfl, by omega, Hp.le_refl H, by simp⟩, fun K k a hI => ?_⟩
  obtain ⟨j, rfl, hj, hle, hf⟩ := hI
  refine ⟨fun hlt => ⟨⟨by omega, hlt⟩, fun _ => ?_⟩, fun hge => Rt.gv' ?_⟩
  · obtain ⟨x, hx, hat⟩ := (hk.mono hle).at (k := j) (by omega)
    rw [drop_cons hx, cameOk] at hf
    have no : ¬ (a < x ∧ x < s.next) → vi 1 = vi s.err := fun h => by
      rw [decide_eq_false h, Bool.false_and] at hf
      rw [stb_form h0 hf.symm]
    refine ⟨hat.isSome, fun _ => ⟨x, hat, fun h => Rt.gv' (no (by omega)), fun h1 => ⟨fun h => Rt.gv' (no (by omega)), fun h2 => ⟨in64 (by omega), fun _ => ⟨⟨j + 1, by omega, by omega, hle, ?_⟩, by simp only; omega⟩⟩⟩⟩⟩
    rw [← hf, decide_eq_true (by omega), Bool.true_and]
  · rw [stb_ok h0]
    rw [← hf, List.drop_of_length_le (by omega)]
    rfl
def lastI (l : List Int) : Nat → Int
  | 0 => 0
  | j + 1 => l.getD j 0
theorem c_stuErr {s : Stb} (hk : Ints H p n c s.came) : Gv Try.prog 29 #[.agg #[vi s.client, vi s.next, vsl p n c]] H (vi s.err) := fun W hH => by
  have hn := hk.len
  have h63 := hk.lt63
  refine x_stuErr _ _ p n c noM H W _ hH fun b0 => ?_
  refine Cl.same (c_within s.client 1 5 H) fun _ _ hx => ⟨_, rfl, hx, fun k1 => ?_, fun h => Rt.gv' (by simp only [Bool.not_eq_true, inR_not] at h; rw [stb_range (by omega)])⟩
  refine Cl.same (c_within s.next 1 61 H) fun _ _ hx => ⟨_, rfl, hx, fun k2 => ?_, fun h => Rt.gv' (by simp only [Bool.not_eq_true, inR_not] at h; rw [stb_range (by omega)])⟩
  rw [inR_iff] at k1 k2
  have h0 : ¬ (s.client < 1 ∨ 5 < s.client ∨ s.next < 1 ∨ 61 < s.next) := by omega
  refine ⟨fun v K => match v with | [.n j] => j ≤ n ∧ H.le K ∧ 0 ≤ lastI s.came j ∧ cameOk s.next (lastI s.came j) (s.came.drop j) = cameOk s.next 0 s.came | _ => False, fun v => match v with | [.n j] => n - j | _ => 0, ⟨by omega, Hp.le_refl H, by simp [lastI], by simp [lastI]⟩, fun K j hI => ⟨by omega, fun _ => ?_⟩⟩
  obtain ⟨hj, hle, hla, hf⟩ := hI
  have ht : ((j : Int) + 1).toNat = j + 1 := by omega
  refine ⟨fun hlt => ⟨⟨by omega, hlt⟩, fun _ => ?_⟩, fun hge => Rt.gv' ?_⟩
  · obtain ⟨x, hx, hat⟩ := (hk.mono hle).at (k := j) (by omega)
    have hl1 : lastI s.came (j + 1) = x := by simp [lastI, List.getD, hx]
    rw [drop_cons hx, cameOk] at hf
    have no : ¬ (lastI s.came j < x ∧ x < s.next) → vi 1 = vi s.err := fun h => by
      rw [decide_eq_false h, Bool.false_and] at hf
      rw [stb_form h0 hf.symm]
    refine ⟨hat.isSome, fun _ => ⟨x, hat, in64 (by omega), fun _ => ?_⟩⟩
    refine Cl.same (c_within x 1 (s.next - 1) K) fun _ _ hxx => ⟨_, rfl, hxx, fun h1 => ?_, fun h => Rt.gv' (no (by simp only [Bool.not_eq_true, inR_not] at h; omega))⟩
    rw [inR_iff] at h1
    refine ⟨fun hpos => ⟨in64 (by omega), fun _ => ⟨by omega, fun _ => ?_⟩⟩, fun hz => ⟨in64 (by omega), fun _ => ⟨by omega, fun _ => ?_⟩⟩⟩
    · obtain ⟨y, hy, haty⟩ := (hk.mono hle).at (k := j - 1) (by omega)
      have hl0 : lastI s.came j = y := by
        obtain ⟨i, rfl⟩ : ∃ i, j = i + 1 := ⟨j - 1, by omega⟩
        simp only [Nat.add_sub_cancel] at hy
        simp [lastI, List.getD, hy]
      rw [hl0] at no hf hla
      rw [show ((j - 1 : Nat) : Int) = (j : Int) - 1 by omega] at haty
      refine ⟨y, haty, x, hat, fun h => Rt.gv' (no (by omega)), fun h => ⟨in64 (by omega), fun _ => ⟨by omega, fun _ => ?_⟩⟩⟩
      rw [ht]
      refine ⟨⟨by omega, hle, by rw [hl1]; omega, ?_⟩, by simp only; omega⟩
      rw [hl1, ← hf, decide_eq_true (by omega), Bool.true_and]
    · rw [ht]
      have hj0 : j = 0 := by omega
      subst hj0
      refine ⟨⟨by omega, hle, by rw [hl1]; omega, ?_⟩, by simp only; omega⟩
      rw [hl1, ← hf, decide_eq_true (by simp only [lastI]; omega), Bool.true_and]
  · rw [stb_ok h0]
    rw [← hf, List.drop_of_length_le (by omega)]
    rfl
theorem c_stuAck {s : Stb} (hk : Ints H p n c s.came) : Gv Try.prog 106 #[.agg #[vi s.client, vi s.next, vsl p n c]] H (vi ((ackF 0 s.came : Nat) : Int)) := fun W hH => by
  have hn := hk.len
  have h63 := hk.lt63
  refine x_stuAck _ _ p n c noM H W _ hH fun b0 => ⟨by omega, fun _ => ?_⟩
  refine ⟨fun v K => match v with | [.i k] => ∃ j : Nat, k = j ∧ j ≤ n ∧ H.le K ∧ ackF j (s.came.drop j) = ackF 0 s.came | _ => False, fun v => match v with | [.i k] => n - k.toNat | _ => 0, ⟨0, rfl, by omega, Hp.le_refl H, by simp⟩, fun K k hI => ?_⟩
  obtain ⟨j, rfl, hj, hle, hf⟩ := hI
  refine ⟨fun hlt => ⟨⟨by omega, hlt⟩, fun _ => ?_⟩, fun hge => Rt.gv' ?_⟩
  · obtain ⟨x, hx, hat⟩ := (hk.mono hle).at (k := j) (by omega)
    rw [drop_cons hx, ackF] at hf
    refine ⟨hat.isSome, fun _ => ⟨x, hat, in64 (by omega), fun _ => ⟨fun h => ⟨⟨j + 1, by omega, by omega, hle, ?_⟩, by simp only; omega⟩, fun h => Rt.gv' ?_⟩⟩⟩
    · rw [← hf, if_pos h]
    · rw [← hf, if_neg h]
  · rw [← hf, List.drop_of_length_le (by omega)]
    simp only [ackF]
    congr 1
    omega
theorem c_came {s : Stb} (hk : Ints H p n c s.came) (x : Int) : Gv Try.prog 71 #[.agg #[vi s.client, vi s.next, vsl p n c], vi x] H (vb (decide (x ∈ s.came))) := fun W hH => by
  have hn := hk.len
  have h63 := hk.lt63
  refine x_came _ _ p n c x noM H W _ hH fun b0 => ?_
  refine ⟨fun v K => match v with | [.n j] => j ≤ n ∧ H.le K ∧ (x ∈ s.came.drop j ↔ x ∈ s.came) | _ => False, fun v => match v with | [.n j] => n - j | _ => 0, ⟨by omega, Hp.le_refl H, by simp⟩, fun K j hI => ⟨by omega, fun _ => ?_⟩⟩
  obtain ⟨hj, hle, hf⟩ := hI
  have ht : ((j : Int) + 1).toNat = j + 1 := by omega
  refine ⟨fun hlt => ⟨⟨by omega, hlt⟩, fun _ => ?_⟩, fun hge => Rt.gv' ?_⟩
  · obtain ⟨y, hy, hat⟩ := (hk.mono hle).at (k := j) (by omega)
    rw [drop_cons hy, List.mem_cons] at hf
    refine ⟨hat.isSome, fun _ => ⟨y, hat, fun h => Rt.gv' ?_, fun h => ⟨in64 (by omega), fun _ => ⟨by omega, fun _ => ?_⟩⟩⟩⟩
    · rw [decide_eq_true (hf.1 (.inl h.symm))]
    · rw [ht]
      refine ⟨⟨by omega, hle, ?_⟩, by simp only; omega⟩
      rw [← hf]
      exact ⟨.inr, fun hh => hh.resolve_left (fun e => h e.symm)⟩
  · rw [decide_eq_false]
    rw [← hf, List.drop_of_length_le (by omega)]
    simp
theorem c_rack {s : Stb} (hk : Ints H p n c s.came) (ho : StbOk s) : Gv Try.prog 66 #[.agg #[vi s.client, vi s.next, vsl p n c]] H (vi ((ackF 0 s.came : Nat) : Int)) := fun W hH => by
  have hl := (ackF_le s.came 0).2
  have hl2 := came_len ho
  refine x_rack _ _ p n c noM H W _ hH fun b0 => ?_
  refine ⟨fun v K => match v with | [.n j] => j ≤ ackF 0 s.came ∧ H.le K | _ => False, fun v => match v with | [.n j] => ackF 0 s.came - j | _ => 0, ⟨by omega, Hp.le_refl H⟩, fun K j hI => ⟨in64 (by omega), fun _ => ?_⟩⟩
  obtain ⟨hj, hle⟩ := hI
  refine Cl.same (c_came (hk.mono hle) _) fun _ _ hx => ⟨_, rfl, hx, fun h => ⟨by omega, fun _ => ?_⟩, fun h => Rt.gv' ?_⟩
  · have ht : ((j : Int) + 1).toNat = j + 1 := by omega
    rw [ht]
    have hm := of_decide_eq_true h
    have hne : j ≠ ackF 0 s.came := fun he => ackF_not s.came 0 (fun x hx => (ho.came x hx).1) ho.ord (he ▸ hm)
    exact ⟨⟨by omega, hle⟩, by simp only; omega⟩
  · have hm : ¬ ((j : Int) + 1 ∈ s.came) := fun hh => h (decide_eq_true hh)
    have : j = ackF 0 s.came := by
      rcases Nat.eq_or_lt_of_le hj with h1 | h1
      · exact h1
      · exact absurd (ackF_mem s.came 0 j (Nat.zero_le _) h1) hm
    rw [this]
theorem c_stuCall {s : Stb} (hk : Ints H p n c s.came) (time seq : Int) (hs : 0 ≤ seq ∧ seq ≤ 9223372036854775807) (x : POp) :
    Gv Try.prog 64 #[.agg #[vi s.client, vi s.next, vsl p n c], vi time, vi seq, x.vals] H (.tuple #[(s.doCall time seq x).1.val, vi (s.doCall time seq x).2]) := fun W hH => by
  refine x_stuCall _ _ p n c _ _ _ _ _ _ noM H W _ hH fun b0 b1 b2 => ⟨in64 (by omega), fun _ => ?_⟩
  refine Cl.same (c_stuAck hk) fun _ _ hx => ⟨_, rfl, hx, fun b3 => ?_⟩
  refine Cl.same (c_entCheck (s.call time seq x) H) fun _ _ hx => ⟨_, rfl, hx, fun h => Rt.gv' ?_, fun h => Rt.gv' ?_⟩
  · rw [show s.doCall time seq x = (s.call time seq x, 0) from if_pos h]; rfl
  · rw [show s.doCall time seq x = (Ent.zero, (s.call time seq x).err) from if_neg h]; rfl
theorem c_sameInts (hk : Ints H p n c l) (hk' : Ints H p' n' c' m) : Gv Try.prog 67 #[vsl p n c, vsl p' n' c'] H (vb (decide (l = m))) := fun W hH => by
  have hn := hk.len
  have hn' := hk'.len
  have h63 := hk.lt63
  refine x_sameInts p n c p' n' c' noM H W _ hH ⟨by omega, fun _ => ⟨by omega, fun _ => ⟨fun h1 => ?_, fun h1 => Rt.gv' (by rw [decide_eq_false (fun h => h1 (by rw [hn, hn', h]))])⟩⟩⟩
  refine ⟨fun v K => match v with | [.n j] => j ≤ n ∧ H.le K ∧ (l.drop j = m.drop j ↔ l = m) | _ => False, fun v => match v with | [.n j] => n - j | _ => 0, ⟨by omega, Hp.le_refl H, by simp⟩, fun K j hI => ?_⟩
  obtain ⟨hj, hle, hf⟩ := hI
  have ht : ((j : Int) + 1).toNat = j + 1 := by omega
  refine ⟨fun hlt => ⟨⟨by omega, hlt⟩, fun _ => ?_⟩, fun hge => Rt.gv' ?_⟩
  · obtain ⟨r, hr, hat⟩ := (hk.mono hle).at (k := j) (by omega)
    obtain ⟨r', hr', hat'⟩ := (hk'.mono hle).at (k := j) (by omega)
    rw [drop_cons hr, drop_cons hr', List.cons.injEq] at hf
    refine ⟨hat.isSome, fun _ => ⟨_, hat, ⟨by omega, by omega⟩, fun _ => ⟨hat'.isSome, fun _ => ⟨_, hat', fun h0 => ⟨in64 (by omega), fun _ => ⟨by omega, fun _ => ?_⟩⟩, fun h0 => Rt.gv' ?_⟩⟩⟩⟩
    · rw [ht]
      refine ⟨⟨by omega, hle, ?_⟩, by simp only; omega⟩
      rw [← hf]
      exact ⟨fun h => ⟨h0, h⟩, fun h => h.2⟩
    · rw [decide_eq_false]
      exact fun hh => h0 (hf.2 hh).1
  · rw [decide_eq_true (hf.1 (by rw [List.drop_of_length_le (by omega), List.drop_of_length_le (by omega)]))]
theorem Stb.eq_iff (s t : Stb) : s = t ↔ s.client = t.client ∧ s.next = t.next ∧ s.came = t.came := by cases s; cases t; simp
theorem c_sameStubs {s t : Stb} (hk : Ints H p n c s.came) (hk' : Ints H p' n' c' t.came) : Gv Try.prog 30 #[.agg #[vi s.client, vi s.next, vsl p n c], .agg #[vi t.client, vi t.next, vsl p' n' c']] H (vb (decide (s = t))) := fun W hH => by
  refine x_sameStubs _ _ p n c _ _ p' n' c' noM H W _ hH fun b0 b1 => ⟨fun h1 => ⟨fun h2 => ?_, fun h => Rt.gv' (by rw [decide_eq_false (fun hh => h ((Stb.eq_iff s t).1 hh).2.1)])⟩, fun h => Rt.gv' (by rw [decide_eq_false (fun hh => h ((Stb.eq_iff s t).1 hh).1)])⟩
  refine Cl.same (c_sameInts hk hk') fun _ _ hx => ⟨_, rfl, hx, Rt.gv' ?_⟩
  simp only [Stb.eq_iff, h1, h2, true_and]
theorem c_cloneI (hk : Ints H p n c l) (hb : n ≤ 1099511627776) : Gf Try.prog 65 #[vsl p n c] H fun v D => ∃ p' c' g, v = vsl p' n c' ∧ Ow D 3 1 p' n c' (l.map irow) g := fun W hH => by
  refine x_cloneI p n c noM H W _ hH ?_
  intro W1 n1 _
  refine ⟨_, _, ek_nil Try.underlying45 _ _ p n c W1, Ext.refl _, fun h => Rt.gfn ?_, fun h b0 => ?_⟩
  · have hp : p = none := by simpa using h
    subst hp
    have hn : n = 0 := by
      rcases Nat.eq_zero_or_pos n with h0 | h0
      · exact h0
      · obtain ⟨r, _, hat⟩ := hk.at h0
        have := hat.isSome
        cases this
    subst hn
    have hl : l = [] := List.length_eq_zero_iff.1 hk.len.symm
    subst hl
    exact ⟨none, 0, none, rfl, Ow.nil _ _ _ _⟩
  · intro W3 n3 _
    obtain ⟨p', c', g, W', H', h1, h2, h3, h4, h5⟩ := ek_clone (P := Try.prog) Try.underlying45 infoInt (by omega) n3 (some (b0, 0)) hk.2.2 (ones_I l) (by omega) (by simp only [maxLen]; omega) 45 (c := c)
    refine ⟨p', n, c', W', h1, H', h2, Rt.gfn ⟨p', c', g, rfl, h3.new (fun b hb => Nat.le_trans n3.mod.size (h4 b hb))⟩⟩
def ixI (x : Int) : Nat → List Int → Int
  | _, [] => -1
  | k, y :: t => if x = y then k else ixI x (k + 1) t
theorem ixI_mem (x : Int) : ∀ (l : List Int) (k : Nat), decide (0 ≤ ixI x k l) = decide (x ∈ l)
  | [], k => by simp [ixI]
  | y :: t, k => by
    unfold ixI
    split
    · rename_i h; simp [h]
    · rename_i h; rw [ixI_mem x t (k + 1)]; simp [h]
theorem c_indexI (hk : Ints H p n c l) (x : Int) : Gv Try.prog 107 #[vsl p n c, vi x] H (vi (ixI x 0 l)) := fun W hH => by
  have hn := hk.len
  have h63 := hk.lt63
  refine x_indexI p n c x noM H W _ hH ⟨by omega, fun _ => ⟨fun v K => match v with | [.i k] => ∃ j : Nat, k = j ∧ j ≤ n ∧ H.le K ∧ ixI x j (l.drop j) = ixI x 0 l | _ => False, fun v => match v with | [.i k] => n - k.toNat | _ => 0, ⟨0, rfl, by omega, Hp.le_refl H, by simp⟩, fun K k hI => ?_⟩⟩
  obtain ⟨j, rfl, hj, hle, hf⟩ := hI
  refine ⟨fun hlt => ⟨⟨by omega, hlt⟩, fun _ => ?_⟩, fun hge => Rt.gv' ?_⟩
  · obtain ⟨y, hy, hat⟩ := (hk.mono hle).at (k := j) (by omega)
    rw [drop_cons hy, ixI] at hf
    refine ⟨hat.isSome, fun _ => ⟨y, hat, fun h => Rt.gv' (by rw [← hf, if_pos h]), fun h => ⟨in64 (by omega), fun _ => ⟨⟨j + 1, by omega, by omega, hle, by rw [← hf, if_neg h]⟩, by simp only; omega⟩⟩⟩⟩
  · rw [← hf, List.drop_of_length_le (by omega)]; rfl
theorem c_containsI (hk : Ints H p n c l) (x : Int) : Gv Try.prog 68 #[vsl p n c, vi x] H (vb (decide (x ∈ l))) := fun W hH => by
  refine x_containsI p n c x noM H W _ hH ?_
  exact Cl.same (c_indexI hk x) fun _ _ hx => ⟨_, rfl, hx, Rt.gv' (by rw [ixI_mem])⟩
theorem c_nanC (a : Int) (H : Hp) : Gv Try.prog 123 #[vi a] H (vb false) := fun W hH => x_nanC a noM H W _ hH (Rt.gv' (by simp))
theorem c_nanI (a : Int) (H : Hp) : Gv Try.prog 109 #[vi a] H (vb false) := fun W hH => x_nanI a noM H W _ hH (Rt.gv' (by simp))
theorem c_lessI (a b : Int) (H : Hp) : Gv Try.prog 108 #[vi a, vi b] H (vb (decide (a < b))) := fun W hH => by
  refine x_lessI a b noM H W _ hH ?_
  exact Cl.same (c_nanC a H) fun _ _ hx => ⟨_, rfl, hx, fun h => (by cases h), fun _ => Rt.gv⟩
theorem c_bsI (hk : Ints H p n c l) (ho : l.Pairwise fun a b => a < b) (hs : n ≤ 4611686018427387903) (x : Int) :
    Gv Try.prog 69 #[vsl p n c, vi x] H (.tuple #[vi (posI l x), vb (decide (x ∈ l))]) := fun W hH => by
  have hn := hk.len
  have hpw := List.pairwise_iff_getElem.1 ho
  refine x_bsI p n c x noM H W _ hH ⟨by omega, fun _ => ?_⟩
  refine ⟨fun v K => match v with | [.n i, .n j] => i ≤ j ∧ j ≤ n ∧ H.le K ∧ (∀ (k : Nat) (s : Int), k < i → l[k]? = some s → s < x) ∧ (∀ (k : Nat) (s : Int), j ≤ k → l[k]? = some s → x ≤ s) | _ => False,
    fun v => match v with | [.n i, .n j] => j - i | _ => 0, ⟨by omega, by omega, Hp.le_refl H, fun k s hk => by omega, fun k s hk hks => by have := (List.getElem?_eq_some_iff.1 hks).1; omega⟩, fun K i j hI => ?_⟩
  obtain ⟨hij, hj, hle, h1, h2⟩ := hI
  refine ⟨fun hlt => ⟨in64 (by omega), fun _ => ?_⟩, fun hge => ?_⟩
  · intro W1 _ _
    refine ⟨_, _, ek_shr _ _ _ (by omega) (by omega) W1, Ext.refl _, in64 (by omega), fun _ => ⟨⟨by omega, by omega⟩, fun _ => ?_⟩⟩
    obtain ⟨m, hm⟩ : ∃ m : Nat, ((i : Int) + j) / 2 = m := ⟨(((i : Int) + j) / 2).toNat, by omega⟩
    rw [hm]
    have hmi : i ≤ m ∧ m < j := by omega
    obtain ⟨s, hs, hat⟩ := (hk.mono hle).at (k := m) (by omega)
    refine ⟨hat.isSome, fun _ => ⟨_, hat, ?_⟩⟩
    have hml : m < l.length := by omega
    have hsm := (List.getElem?_eq_some_iff.1 hs).2
    refine Cl.same (c_lessI s x K) fun _ _ hx => ⟨_, rfl, hx, fun h0 => ⟨in64 (by omega), fun _ => ⟨by omega, fun _ => ⟨by omega, fun _ => ?_⟩⟩⟩, fun h0 => ⟨by omega, fun _ => ⟨by omega, fun _ => ?_⟩⟩⟩
    · have hlt := of_decide_eq_true h0
      rw [show ((m : Int) + 1).toNat = m + 1 by omega]
      refine ⟨⟨by omega, by omega, hle, fun k t hk hkt => ?_, h2⟩, by simp only; omega⟩
      rcases Nat.eq_or_lt_of_le (Nat.le_of_lt_succ hk) with rfl | hk'
      · rw [hs] at hkt; simp only [Option.some.injEq] at hkt; rw [← hkt]; exact hlt
      · have hkl : k < l.length := by omega
        have h5 := hpw k m hkl hml hk'
        rw [hsm, (List.getElem?_eq_some_iff.1 hkt).2] at h5
        omega
    · have hge : ¬ s < x := fun hh => h0 (decide_eq_true hh)
      rw [show ((m : Int)).toNat = m by omega]
      refine ⟨⟨by omega, by omega, hle, h1, fun k t hk hkt => ?_⟩, by simp only; omega⟩
      rcases Nat.eq_or_lt_of_le hk with rfl | hk'
      · rw [hs] at hkt; simp only [Option.some.injEq] at hkt; rw [← hkt]; omega
      · have hkl : k < l.length := (List.getElem?_eq_some_iff.1 hkt).1
        have h5 := hpw m k hml hkl hk'
        rw [hsm, (List.getElem?_eq_some_iff.1 hkt).2] at h5
        omega
  · have hij2 : i = j := by omega
    subst hij2
    have e1 : posI l x = i := by
      have ht : l.take i = l.filter fun y => decide (y < x) := by
        rw [← List.take_append_drop i l, List.filter_append]
        have a1 : (l.take i).filter (fun y => decide (y < x)) = l.take i := by
          rw [List.filter_eq_self]
          intro y hy
          obtain ⟨k, hk2, rfl⟩ := List.mem_iff_getElem.1 hy
          have hkl : k < l.length := by simp at hk2; omega
          have := h1 k l[k] (by simp at hk2; omega) (List.getElem?_eq_getElem hkl)
          simpa using this
        have a2 : (l.drop i).filter (fun y => decide (y < x)) = [] := by
          rw [List.filter_eq_nil_iff]
          intro y hy
          obtain ⟨k, hk2, rfl⟩ := List.mem_iff_getElem.1 hy
          have hkl : i + k < l.length := by simp at hk2; omega
          have := h2 (i + k) l[i + k] (by omega) (List.getElem?_eq_getElem hkl)
          simp only [List.getElem_drop, decide_eq_true_eq]
          omega
        rw [a1, a2, List.append_nil, List.take_append_drop]
      unfold posI
      rw [← ht, List.length_take]
      omega
    have e2 : x ∈ l ↔ l[i]? = some x := by
      constructor
      · intro hm
        obtain ⟨k, hkl, hkx⟩ := List.mem_iff_getElem.1 hm
        rcases Nat.lt_trichotomy k i with h3 | h3 | h3
        · have := h1 k x h3 (by rw [List.getElem?_eq_getElem hkl, hkx]); omega
        · subst h3; rw [List.getElem?_eq_getElem hkl, hkx]
        · have hil : i < l.length := by omega
          have h4 := hpw i k hil hkl h3
          have h5 := h2 i l[i] (Nat.le_refl _) (List.getElem?_eq_getElem hil)
          omega
      · exact List.mem_of_getElem?
    refine ⟨fun hlt => ⟨⟨by omega, hlt⟩, fun _ => ?_⟩, fun hge2 => Rt.gv' ?_⟩
    · obtain ⟨s, hs, hat⟩ := (hk.mono hle).at (k := i) (by omega)
      refine ⟨hat.isSome, fun _ => ⟨_, hat, fun h => Rt.gv' ?_, fun h => ⟨_, hat, ?_⟩⟩⟩
      · rw [e1, decide_eq_true (e2.2 (by rw [hs, h]))]
      · refine Cl.same (c_nanI s K) fun _ _ hx => ⟨_, rfl, hx, fun h => (by cases h), fun _ => Rt.gv' ?_⟩
        rw [e1, decide_eq_false (fun hh => h (by rw [hs] at e2; simpa using e2.1 hh))]
    · rw [e1, decide_eq_false (fun hh => by have := (List.getElem?_eq_some_iff.1 (e2.1 hh)).1; omega)]
end
end Go.Proofs.Ytdmaehpdccpnoaa
namespace Go.Proofs.Ytdmaehpdccpnoaa
open Go.RowKit

abbrev Stb.val (s : Stb) (v : Value) : Value := .agg #[vi s.client, vi s.next, v]
section
variable {H : Hp} {p : Option Loc} {n c : Nat}
theorem fin_I {W : World} {K : Hp} {p : Option Loc} {n c : Nat} {l : List Int} {g : Option Nat} (ho : Ow K 3 1 p n c (l.map irow) g) (hg : ∀ b, g = some b → W.heap.size ≤ b) : Ints (newer W K) p n c l := Ints.of_ow (ho.new hg)
theorem call_ok {s : Stb} {time seq : Int} {x : POp} (h : (s.call time seq x).err = 0) : s.doCall time seq x = (s.call time seq x, 0) := if_pos h
theorem call_no {s : Stb} {time seq : Int} {x : POp} (h : ¬ (s.call time seq x).err = 0) : s.doCall time seq x = (Ent.zero, (s.call time seq x).err) := if_neg h
theorem c_stuNext {s : Stb} (hk : Ints H p n c s.came) (time : Int) (x : POp) :
    Gf Try.prog 25 #[s.val (vsl p n c), vi time, x.vals] H fun v D => ∃ p' n' c', v = .tuple #[(s.doNext time x).1.val (vsl p' n' c'), (s.doNext time x).2.1.val, vi (s.doNext time x).2.2] ∧ Ints D p' n' c' (s.doNext time x).1.came := fun W hH => by
  refine x_stuNext _ _ p n c _ _ _ _ _ noM H W _ hH fun b0 b1 b2 b3 => ?_
  refine Cl.same (c_stuCheck hk) fun _ _ hx => ⟨_, rfl, hx, fun h0 => ?_, fun h0 => Rt.gfn ⟨none, 0, 0, ?_, Ints.of_ow (g := none) ?_⟩⟩
  · have ok := Stb.err_ok h0
    have hnx := ok.next
    refine Cl.same (c_stuCall hk time s.next (by omega) x) fun _ _ hx => ?_
    by_cases he : (s.call time s.next x).err = 0
    · rw [call_ok he]
      have hd : s.doNext time x = ({ s with next := s.next + 1 }, s.call time s.next x, 0) := by unfold Stb.doNext; rw [if_pos h0, if_pos he]
      refine ⟨_, _, _, _, _, _, _, _, _, _, rfl, hx, fun b4 => ⟨fun _ => ?_, fun h => absurd rfl h⟩⟩
      refine Cl.fresh (c_cloneI hk (by rw [hk.len]; have := came_len ok; omega)) ?_
      rintro v W1 W2 D ⟨p', c', g, rfl, ho⟩ hx2 hD hf n1
      refine ⟨p', n, c', rfl, hx2, D, hD, hf, fun H1 h01 hD1 => ⟨in64 (by omega), fun _ => Rt.gf hD1 (fun b o h => Nat.le_trans n1.mod.size (hf b o h)) ⟨p', n, c', ?_, ?_⟩⟩⟩
      · rw [hd]
      · rw [hd]; exact Ints.of_ow ho
    · rw [call_no he]
      have hd : s.doNext time x = (Stb.zero, Ent.zero, (s.call time s.next x).err) := by unfold Stb.doNext; rw [if_pos h0, if_neg he]
      refine ⟨_, _, _, _, _, _, _, _, _, _, rfl, hx, fun b4 => ⟨fun h => absurd h he, fun _ => Rt.gfn ⟨none, 0, 0, ?_, ?_⟩⟩⟩
      · rw [hd]; rfl
      · rw [hd]; exact Ints.nil _ _
  · have hd : s.doNext time x = (Stb.zero, Ent.zero, s.err) := by unfold Stb.doNext; rw [if_neg h0]
    rw [hd]; rfl
  · have hd : s.doNext time x = (Stb.zero, Ent.zero, s.err) := by unfold Stb.doNext; rw [if_neg h0]
    rw [hd]; exact Ow.nil _ _ _ _
theorem call_next {s : Stb} (ok : StbOk s) (time : Int) (x : POp) : s.call time s.next x = ⟨2, time, s.client, s.next, ((ackF 0 s.came : Nat) : Int), x⟩ := by
  have := ack_lt ok
  unfold Stb.call
  rw [if_neg (by omega)]
theorem c_nextOf {s : Stb} (hk : Ints H p n c s.came) (time : Int) (x : POp) :
    Gf Try.prog 26 #[s.val (vsl p n c), vi time, x.vals] H fun v D => ∃ p' n' c', v = .tuple #[(s.doNext time x).1.val (vsl p' n' c'), (s.doNext time x).2.1.val, vi (s.doNext time x).2.2] ∧ Ints D p' n' c' (s.doNext time x).1.came := fun W hH => by
  refine x_nextOf _ _ p n c _ _ _ _ _ noM H W _ hH fun b0 b1 b2 b3 => ?_
  refine Cl.same (c_stuErr hk) fun _ _ hx => ⟨_, rfl, hx, fun h0 => ?_, fun h0 => Rt.gfn ⟨none, 0, 0, ?_, Ints.of_ow (g := none) ?_⟩⟩
  · have ok := Stb.err_ok h0
    have hnx := ok.next
    have hcl := call_next ok time x
    refine Cl.same (c_rack hk ok) fun _ _ hx => ⟨_, rfl, hx, fun b4 => ?_⟩
    refine Cl.same (c_entErr (s.call time s.next x) (by rw [hcl]; simp only; omega) H |> fun h => by rw [hcl] at h; exact h) fun _ _ hx => ⟨_, rfl, hx, fun he => ?_, fun he => ?_⟩
    · rw [← hcl] at he
      have hd : s.doNext time x = ({ s with next := s.next + 1 }, s.call time s.next x, 0) := by unfold Stb.doNext; rw [if_pos h0, if_pos he]
      refine ⟨in64 (by omega), fun _ b5 W3 n3 _ => ?_⟩
      have hl := came_len ok
      have hkl := hk.len
      obtain ⟨p', c', g, W', H', h1, h2, h3, h4, h5⟩ := ek_clone (P := Try.prog) Try.underlying45 infoInt (by omega) n3 (some (b5, 0)) hk.2.2 (ones_I _) (by omega) (by simp only [maxLen]; omega) 45 (c := c)
      refine ⟨p', n, c', W', h1, H', h2, Rt.gfn ⟨p', n, c', ?_, ?_⟩⟩
      · rw [hd, hcl]
      · rw [hd]; exact fin_I h3 (fun b hb => Nat.le_trans n3.mod.size (h4 b hb))
    · rw [← hcl] at he
      have hd : s.doNext time x = (Stb.zero, Ent.zero, (s.call time s.next x).err) := by unfold Stb.doNext; rw [if_pos h0, if_neg he]
      refine Rt.gfn ⟨none, 0, 0, ?_, ?_⟩
      · rw [hd, hcl]; rfl
      · rw [hd]; exact Ints.nil _ _
  · have hd : s.doNext time x = (Stb.zero, Ent.zero, s.err) := by unfold Stb.doNext; rw [if_neg h0]
    rw [hd]; rfl
  · have hd : s.doNext time x = (Stb.zero, Ent.zero, s.err) := by unfold Stb.doNext; rw [if_neg h0]
    rw [hd]; exact Ow.nil _ _ _ _
theorem again_err {s : Stb} (h : ¬ s.err = 0) (time seq : Int) (x : POp) : s.doAgain time seq x = (Ent.zero, s.err) := if_neg h
theorem again_none {s : Stb} (h : s.err = 0) {time seq : Int} {x : POp} (h2 : seq < 1 ∨ s.next ≤ seq ∨ seq ∈ s.came) : s.doAgain time seq x = (Ent.zero, 5) := by unfold Stb.doAgain; rw [if_pos h, if_pos h2]
theorem again_call {s : Stb} (h : s.err = 0) {time seq : Int} {x : POp} (h2 : ¬ (seq < 1 ∨ s.next ≤ seq ∨ seq ∈ s.came)) : s.doAgain time seq x = s.doCall time seq x := by unfold Stb.doAgain; rw [if_pos h, if_neg h2]
theorem c_stuAgain {s : Stb} (hk : Ints H p n c s.came) (time seq : Int) (x : POp) :
    Gv Try.prog 31 #[s.val (vsl p n c), vi time, vi seq, x.vals] H (.tuple #[(s.doAgain time seq x).1.val, vi (s.doAgain time seq x).2]) := fun W hH => by
  refine x_stuAgain _ _ p n c _ _ _ _ _ _ noM H W _ hH fun b0 b1 b2 => ?_
  refine Cl.same (c_stuCheck hk) fun _ _ hx => ⟨_, rfl, hx, fun h0 => ?_, fun h0 => Rt.gv' (by rw [again_err h0]; rfl)⟩
  have ok := Stb.err_ok h0
  have hnx := ok.next
  refine ⟨fun h => Rt.gv' (by rw [again_none h0 (.inl h)]; rfl), fun h1 => ⟨fun h => Rt.gv' (by rw [again_none h0 (.inr (.inl h))]; rfl), fun h2 => ?_⟩⟩
  refine Cl.same (c_containsI hk seq) fun _ _ hx => ⟨_, rfl, hx, fun h => Rt.gv' (by rw [again_none h0 (.inr (.inr (of_decide_eq_true h)))]; rfl), fun h => ?_⟩
  have hno : ¬ (seq < 1 ∨ s.next ≤ seq ∨ seq ∈ s.came) := by
    rintro (h3 | h3 | h3)
    · exact h1 h3
    · exact h2 h3
    · exact h (decide_eq_true h3)
  refine Cl.same (c_stuCall hk time seq (by omega) x) fun _ _ hx => ⟨_, _, _, _, _, _, _, _, _, _, rfl, hx, Rt.gv' (by rw [again_call h0 hno])⟩
theorem c_againOf {s : Stb} (hk : Ints H p n c s.came) (time seq : Int) (x : POp) :
    Gv Try.prog 33 #[s.val (vsl p n c), vi time, vi seq, x.vals] H (.tuple #[(s.doAgain time seq x).1.val, vi (s.doAgain time seq x).2]) := fun W hH => by
  refine x_againOf _ _ p n c _ _ _ _ _ _ noM H W _ hH fun b0 b1 b2 => ?_
  refine Cl.same (c_stuErr hk) fun _ _ hx => ⟨_, rfl, hx, fun h0 => ?_, fun h0 => Rt.gv' (by rw [again_err h0]; rfl)⟩
  have ok := Stb.err_ok h0
  have hnx := ok.next
  refine ⟨in64 (by omega), fun _ => ?_⟩
  refine Cl.same (c_within seq 1 (s.next - 1) H) fun _ _ hx => ⟨_, rfl, hx, fun h1 => ?_, fun h => Rt.gv' (by
    simp only [Bool.not_eq_true, inR_not] at h
    rw [again_none h0 (by omega)]; rfl)⟩
  rw [inR_iff] at h1
  refine Cl.same (c_came hk seq) fun _ _ hx => ⟨_, rfl, hx, fun h => Rt.gv' (by rw [again_none h0 (.inr (.inr (of_decide_eq_true h)))]; rfl), fun h => ⟨in64 (by omega), fun _ => ?_⟩⟩
  have hno : ¬ (seq < 1 ∨ s.next ≤ seq ∨ seq ∈ s.came) := by
    rintro (h3 | h3 | h3)
    · omega
    · omega
    · exact h (decide_eq_true h3)
  refine Cl.same (c_rack hk ok) fun _ _ hx => ⟨_, rfl, hx, fun b3 => ?_⟩
  refine Cl.same (c_entErr (s.call time seq x) (by simp only [Stb.call]; omega) H) fun _ _ hx => ⟨_, rfl, hx, fun h => Rt.gv' ?_, fun h => Rt.gv' ?_⟩
  · rw [again_call h0 hno, call_ok h]; rfl
  · rw [again_call h0 hno, call_no h]; rfl
theorem came_err {s : Stb} (h : ¬ s.err = 0) (seq : Int) : s.doCame seq = (Stb.zero, s.err) := if_neg h
theorem came_none {s : Stb} (h : s.err = 0) {seq : Int} (h2 : seq < 1 ∨ s.next ≤ seq) : s.doCame seq = (Stb.zero, 5) := by unfold Stb.doCame; rw [if_pos h, if_pos h2]
theorem came_put {s : Stb} (h : s.err = 0) {seq : Int} (h2 : ¬ (seq < 1 ∨ s.next ≤ seq)) : s.doCame seq = ({ s with came := putI s.came seq }, 0) := by unfold Stb.doCame; rw [if_pos h, if_neg h2]
theorem c_stuCame {s : Stb} (hk : Ints H p n c s.came) (seq : Int) :
    Gf Try.prog 32 #[s.val (vsl p n c), vi seq] H fun v D => ∃ p' n' c', v = .tuple #[(s.doCame seq).1.val (vsl p' n' c'), vi (s.doCame seq).2] ∧ Ints D p' n' c' (s.doCame seq).1.came := fun W hH => by
  refine x_stuCame _ _ p n c _ noM H W _ hH fun b0 b1 => ?_
  refine Cl.same (c_stuCheck hk) fun _ _ hx => ⟨_, rfl, hx, fun h0 => ?_, fun h0 => Rt.gfn ⟨none, 0, 0, by rw [came_err h0]; rfl, by rw [came_err h0]; exact Ints.nil _ _⟩⟩
  have ok := Stb.err_ok h0
  have hnx := ok.next
  have hl := came_len ok
  have hkl := hk.len
  refine ⟨fun h => Rt.gfn ⟨none, 0, 0, by rw [came_none h0 (.inl h)]; rfl, by rw [came_none h0 (.inl h)]; exact Ints.nil _ _⟩, fun h1 => ⟨fun h => Rt.gfn ⟨none, 0, 0, by rw [came_none h0 (.inr h)]; rfl, by rw [came_none h0 (.inr h)]; exact Ints.nil _ _⟩, fun h2 => ?_⟩⟩
  have hd := came_put h0 (seq := seq) (by omega)
  refine Cl.fresh (c_cloneI hk (by omega)) ?_
  rintro v W1 W2 D ⟨p', c', g, rfl, ho⟩ hx hD hf n1
  refine ⟨p', n, c', rfl, hx, D, hD, hf, fun H1 h01 hD1 => ?_⟩
  have ho1 : Ow H1 3 1 p' n c' (s.came.map irow) g := ho.mono fun b _ o h => hD1 b o h
  have hg0 : ∀ b, g = some b → W.heap.size ≤ b := fun b hb => by
    obtain ⟨o, h⟩ := ho.held b hb
    exact Nat.le_trans n1.mod.size (hf b o h)
  refine Cl.same (c_bsI (Ints.of_ow ho1) ok.ord (by omega) seq) fun _ _ hx => ⟨_, _, rfl, hx, fun h => Rt.gfn ⟨p', n, c', by rw [hd], ?_⟩, fun h b2 => ?_⟩
  · rw [hd, show putI s.came seq = s.came from putI_has ok.ord (of_decide_eq_true h)]
    exact fin_I ho1 hg0
  · have hnm : seq ∉ s.came := fun hh => h (decide_eq_true hh)
    have hpl := posI_le s.came seq
    have hc := fun hb0 : H1 b2 = none => c_insertI (H := addH H1 b2 (.cells #[vi seq] 3 (0, 0))) (g := g) (p := p') (n := n) (c := c') (rows := s.came.map irow) (ho1.mono fun b _ o h => le_addH hb0 b o h) (i := posI s.came seq) (by omega) (vb := b2) (row := [vi seq]) (addH_at ..) rfl (fun v hv => by simp only [List.mem_singleton] at hv; subst hv; rfl) (fun h => by
      obtain ⟨o, h2⟩ := ho1.held b2 h
      rw [hb0] at h2; cases h2) (by omega)
    refine Cl.turnK (g := g) (b := b2) (o := .cells #[vi seq] 3 (0, 0)) (fun _ k => k.1) hc ?_
    rintro v W3 W4 H' g' ⟨p2, n2, c2, rfl, ho'⟩ hu hg' n3 hb0 hlt
    have hgb : g' ≠ some b2 := fun h => by
      rcases hg' with h1 | h1
      · obtain ⟨o, h2⟩ := ho1.held b2 (h1 ▸ h)
        rw [hb0] at h2; cases h2
      · have := h1 b2 h; omega
    have ho2 := less_ow ho' hgb
    have hrows : (s.came.map irow).take (posI s.came seq) ++ [vi seq] :: (s.came.map irow).drop (posI s.came seq) = (putI s.came seq).map irow := by
      rw [← putI_not ok.ord hnm, List.map_append, List.map_cons, List.map_take, List.map_drop]
      rfl
    rw [hrows] at ho2
    exact ⟨p2, n2, c2, rfl, less b2 H', hu.own ho1 (fun b hb => .inl (hg0 b hb)), Rt.gfn ⟨p2, n2, c2, by rw [hd], by rw [hd]; exact fin_I ho2 (new_turn hg0 n3.mod.size hg')⟩⟩
theorem c_cameOf {s : Stb} (hk : Ints H p n c s.came) (seq : Int) :
    Gf Try.prog 34 #[s.val (vsl p n c), vi seq] H fun v D => ∃ p' n' c', v = .tuple #[(s.doCame seq).1.val (vsl p' n' c'), vi (s.doCame seq).2] ∧ Ints D p' n' c' (s.doCame seq).1.came := fun W hH => by
  refine x_cameOf _ _ p n c _ noM H W _ hH fun b0 b1 => ?_
  refine Cl.same (c_stuErr hk) fun _ _ hx => ⟨_, rfl, hx, fun h0 => ?_, fun h0 => Rt.gfn ⟨none, 0, 0, by rw [came_err h0]; rfl, by rw [came_err h0]; exact Ints.nil _ _⟩⟩
  have ok := Stb.err_ok h0
  have hnx := ok.next
  have hl := came_len ok
  have hkl := hk.len
  refine ⟨in64 (by omega), fun _ => ?_⟩
  refine Cl.same (c_within seq 1 (s.next - 1) H) fun _ _ hx => ⟨_, rfl, hx, fun h1 b2 => ?_, fun h => ?_⟩
  case refine_2 =>
    simp only [Bool.not_eq_true, inR_not] at h
    refine Rt.gfn ⟨none, 0, 0, by rw [came_none h0 (by omega)]; rfl, by rw [came_none h0 (by omega)]; exact Ints.nil _ _⟩
  rw [inR_iff] at h1
  have hd := came_put h0 (seq := seq) (by omega)
  refine ⟨fun v K => match v with | [.n k, .i a, .i b, .p q, .n m, .n d] => 1 ≤ k ∧ (k : Int) ≤ s.next ∧ a = s.client ∧ b = s.next ∧ H.le K ∧ ∃ g, Ow K 3 1 q m d ((upL (fun n => decide (n = seq) || decide (n ∈ s.came)) (k - 1)).map irow) g ∧ (∀ b, g = some b → W.heap.size ≤ b) | _ => False,
    fun v => match v with | [.n k, _, _, _, _, _] => s.next.toNat - k | _ => 0, ⟨by omega, by omega, rfl, rfl, Hp.le_refl H, none, Ow.nil _ _ _ _, fun b h => (by cases h)⟩, fun K k a b q m d hI => ?_⟩
  rw [map0] at hI
  obtain ⟨hk1, hk2, rfl, rfl, hle, g, ho, hg⟩ := hI
  have hm : m ≤ 60 := by
    have h2 := ho.1
    rw [List.length_map] at h2
    have h3 := incl_len (upL (fun n => decide (n = seq) || decide (n ∈ s.came)) (k - 1)) 0 61 (fun y hy => by have := (upL_mem _ _ _).1 hy; omega) (upL_sorted _ _)
    rw [if_pos (by omega)] at h3
    omega
  have ht : ((k : Int) + 1).toNat = k + 1 := by omega
  have hstep : upL (fun n => decide (n = seq) || decide (n ∈ s.came)) (k + 1 - 1) = upL (fun n => decide (n = seq) || decide (n ∈ s.came)) (k - 1) ++ (if (decide ((k : Int) = seq) || decide ((k : Int) ∈ s.came)) = true then [(k : Int)] else []) := by
    obtain ⟨j, rfl⟩ : ∃ j, k = j + 1 := ⟨k - 1, by omega⟩
    rw [Nat.add_sub_cancel, Nat.add_sub_cancel]
    simp only [upL]
    rw [show ((j + 1 : Nat) : Int) = (j : Int) + 1 by omega]
  have push : (decide ((k : Int) = seq) || decide ((k : Int) ∈ s.came)) = true → (k : Int) < s.next → ∀ b3 : Nat, Es W noM K (fun W1 => Kn W noM K W1 b3 (Obj.cells #[vi (k : Int)] 3 (0, 0)) ∧ True) fun W5 => ∃ x14 : Option Loc, ∃ x15 : Nat, ∃ x16 : Nat, Eo Try.prog (.bi .append #[45, 45] 45) [vsl q m d, Value.slice (some ⟨b3, 0, none⟩) 1 1] W5 (.value (vsl x14 x15 x16)) fun W6 => Tn W noM K W5 W6 fun H2 =>
      (1 ≤ k + 1 ∧ ((k + 1 : Nat) : Int) ≤ s.next ∧ s.client = s.client ∧ s.next = s.next ∧ H.le H2 ∧ ∃ g, Ow H2 3 1 x14 x15 x16 ((upL (fun n => decide (n = seq) || decide (n ∈ s.came)) (k + 1 - 1)).map irow) g ∧ (∀ b, g = some b → W.heap.size ≤ b)) := fun hf hlt b3 W5 n5 k5 => by
    obtain ⟨p2, c2, g2, W6, H3, h1, hu, ho3, hg2, _⟩ := run_append1 (P := Try.prog) Try.underlying45 infoInt (by omega) n5.sub ho (row := [vi (k : Int)]) k5.1.eq k5.1.off rfl (fun v hv => by simp only [List.mem_singleton] at hv; subst hv; rfl) (by simp only [maxLen]; omega) (by omega) 45
    have hg2' : g2 = g ∨ ∀ b, g2 = some b → W5.heap.size ≤ b := hg2.imp id fun h b hb => by rw [h] at hb; simp only [Option.some.injEq] at hb; omega
    refine ⟨p2, m + 1, c2, W6, h1, H3, hu.own ho (fun b hb => .inl (hg b hb)), by omega, by omega, rfl, rfl, hu.keep n5.sub hle (fun b hb => old_none hH (hg b hb)), g2, ?_, new_turn hg n5.mod.size hg2'⟩
    rw [hstep, if_pos hf, List.map_append]
    exact ho3
  refine ⟨fun hlt => ⟨fun he => ?_, fun hne => ?_⟩, fun hge => Rt.gfn ⟨q, m, d, ?_, ?_⟩⟩
  · intro b3 W5 n5 k5
    obtain ⟨x14, x15, x16, W6, h1, H2, h2, h3⟩ := push (by rw [decide_eq_true he]; rfl) hlt b3 W5 n5 k5
    refine ⟨x14, x15, x16, W6, h1, H2, h2, in64 (by omega), fun _ => ⟨by omega, fun _ => ⟨by omega, fun _ => ⟨by omega, fun _ => ?_⟩⟩⟩⟩
    rw [map0, ht]
    exact ⟨h3, by simp only; omega⟩
  · refine Cl.same (c_came (hk.mono hle) _) fun _ _ hx => ⟨_, rfl, hx, fun h => ?_, fun h => ⟨in64 (by omega), fun _ => ⟨by omega, fun _ => ⟨by omega, fun _ => ⟨by omega, fun _ => ?_⟩⟩⟩⟩⟩
    · intro b3 W5 n5 k5
      obtain ⟨x14, x15, x16, W6, h1, H2, h2, h3⟩ := push (by rw [h, Bool.or_true]) hlt b3 W5 n5 k5
      refine ⟨x14, x15, x16, W6, h1, H2, h2, in64 (by omega), fun _ => ⟨by omega, fun _ => ⟨by omega, fun _ => ⟨by omega, fun _ => ?_⟩⟩⟩⟩
      rw [map0, ht]
      exact ⟨h3, by simp only; omega⟩
    · rw [map0, ht]
      refine ⟨⟨by omega, by omega, rfl, rfl, hle, g, ?_, hg⟩, by simp only; omega⟩
      rw [hstep, if_neg (by rw [decide_eq_false hne, Bool.false_or]; exact h), List.append_nil]
      exact ho
  · rw [hd]
  · rw [hd]
    have := upL_put ok (x := seq) (by omega) (by omega) (k := k - 1) (by omega)
    rw [this] at ho
    exact fin_I ho hg
end
end Go.Proofs.Ytdmaehpdccpnoaa
