/- Clients as plain data, and what the document says of them. No program in sight. No conditions. Symbolic runs of functions: what each leaves to prove is enough for its call. Printed by a program of ours. No conditions. Contract: slices.Insert of ints. No conditions. Symbolic runs of functions: what each leaves to prove is enough for its call. Printed by a program of ours. No conditions. Contracts: clients: what checks, what is acknowledged; lists of ints. No conditions. Contracts: clients: the next call, a call that was, an answer that came. No conditions. -/
import Derived.Test.YtgmgbfpoeclgiaaKT1
import Derived.Test.YtgmgbfpoeclgiaaKE3
import Derived.Test.YtgmgbfpoeclgiaaProg
import Derived.Test.YtgmgbfpoeclgiaaKI1
import Derived.Test.YtgmgbfpoeclgiaaKS2
import Derived.Test.YtgmgbfpoeclgiaaKE4
import Derived.Lib.Overlaps
import Derived.Test.YtgmgbfpoeclgiaaKS4
set_option linter.unusedVariables false
set_option linter.unusedSimpArgs false
namespace Go.Proofs.Ytgmgbfpoeclgiaa

structure Stb where
  client : Int
  next : Int
  came : List Int
  deriving DecidableEq
def Stb.zero : Stb := ⟨0, 0, []⟩
def cameOk (next : Int) : Int → List Int → Bool
  | _, [] => true
  | last, n :: t => decide (last < n ∧ n < next) && cameOk next n t
def Stb.err (s : Stb) : Int := if s.client < 1 ∨ 5 < s.client ∨ s.next < 1 ∨ 61 < s.next then 3 else if cameOk s.next 0 s.came = true then 0 else 1
theorem cameOk_iff (next : Int) : ∀ (l : List Int) (last : Int), cameOk next last l = true ↔ (∀ x ∈ l, last < x ∧ x < next) ∧ l.Pairwise fun a b => a < b
  | [], last => by simp [cameOk]
  | n :: t, last => by
    simp only [cameOk, Bool.and_eq_true, decide_eq_true_eq, cameOk_iff next t n, List.mem_cons, forall_eq_or_imp, List.pairwise_cons]
    constructor
    · rintro ⟨h1, h2, h3⟩
      exact ⟨⟨h1, fun x hx => by have := h2 x hx; omega⟩, fun x hx => (h2 x hx).1, h3⟩
    · rintro ⟨⟨h1, h2⟩, h3, h4⟩
      exact ⟨h1, fun x hx => ⟨h3 x hx, (h2 x hx).2⟩, h4⟩
structure StbOk (s : Stb) : Prop where
  client : 1 ≤ s.client ∧ s.client ≤ 5
  next : 1 ≤ s.next ∧ s.next ≤ 61
  came : ∀ x ∈ s.came, 0 < x ∧ x < s.next
  ord : s.came.Pairwise fun a b => a < b
theorem Stb.err_ok {s : Stb} (h : s.err = 0) : StbOk s := by
  unfold Stb.err at h
  split at h
  · cases h
  · split at h
    · rename_i h1 h2
      obtain ⟨h3, h4⟩ := (cameOk_iff _ _ _).1 h2
      exact ⟨by omega, by omega, h3, h4⟩
    · cases h
theorem stb_range {s : Stb} (h : s.client < 1 ∨ 5 < s.client ∨ s.next < 1 ∨ 61 < s.next) : s.err = 3 := by unfold Stb.err; rw [if_pos h]
theorem stb_form {s : Stb} (h : ¬ (s.client < 1 ∨ 5 < s.client ∨ s.next < 1 ∨ 61 < s.next)) (h2 : cameOk s.next 0 s.came = false) : s.err = 1 := by unfold Stb.err; rw [if_neg h, if_neg (by simp [h2])]
theorem stb_ok {s : Stb} (h : ¬ (s.client < 1 ∨ 5 < s.client ∨ s.next < 1 ∨ 61 < s.next)) (h2 : cameOk s.next 0 s.came = true) : s.err = 0 := by unfold Stb.err; rw [if_neg h, if_pos h2]
/-- up to which number all have come -/
def ackF : Nat → List Int → Nat
  | k, [] => k
  | k, n :: t => if n = (k : Int) + 1 then ackF (k + 1) t else k
theorem ackF_mem : ∀ (l : List Int) (k m : Nat), k ≤ m → m < ackF k l → ((m : Int) + 1) ∈ l
  | [], k, m, h1, h2 => by simp [ackF] at h2; omega
  | n :: t, k, m, h1, h2 => by
    unfold ackF at h2
    split at h2
    · rename_i h
      rcases Nat.eq_or_lt_of_le h1 with rfl | h3
      · rw [h]; exact List.mem_cons_self ..
      · exact List.mem_cons_of_mem _ (ackF_mem t (k + 1) m h3 h2)
    · omega
theorem incl_len : ∀ (l : List Int) (a b : Int), (∀ x ∈ l, a < x ∧ x < b) → (l.Pairwise fun a b => a < b) → (l.length : Int) ≤ (if a < b then b - a - 1 else 0)
  | [], a, b, _, _ => by simp; split <;> omega
  | n :: t, a, b, h1, h2 => by
    rw [List.pairwise_cons] at h2
    have hn := h1 n (List.mem_cons_self ..)
    have := incl_len t n b (fun x hx => ⟨h2.1 x hx, (h1 x (List.mem_cons_of_mem _ hx)).2⟩) h2.2
    rw [if_pos hn.2] at this
    rw [if_pos (by omega)]
    simp only [List.length_cons]
    omega
theorem came_len {s : Stb} (h : StbOk s) : s.came.length ≤ 60 := by
  have := incl_len s.came 0 s.next h.came h.ord
  have := h.next
  split at * <;> omega
/-- a call by a number -/
def Stb.call (s : Stb) (time seq : Int) (x : POp) : Ent := ⟨2, time, s.client, seq, (if seq - 1 < ((ackF 0 s.came : Nat) : Int) then seq - 1 else ((ackF 0 s.came : Nat) : Int)), x⟩
def Stb.doCall (s : Stb) (time seq : Int) (x : POp) : Ent × Int := if (s.call time seq x).err = 0 then (s.call time seq x, 0) else (Ent.zero, (s.call time seq x).err)
def Stb.doNext (s : Stb) (time : Int) (x : POp) : Stb × Ent × Int :=
  if s.err = 0 then (if (s.call time s.next x).err = 0 then ({ s with next := s.next + 1 }, s.call time s.next x, 0) else (Stb.zero, Ent.zero, (s.call time s.next x).err)) else (Stb.zero, Ent.zero, s.err)
def Stb.doAgain (s : Stb) (time seq : Int) (x : POp) : Ent × Int :=
  if s.err = 0 then (if seq < 1 ∨ s.next ≤ seq ∨ seq ∈ s.came then (Ent.zero, 5) else s.doCall time seq x) else (Ent.zero, s.err)
def putI (l : List Int) (x : Int) : List Int := (l.filter fun y => decide (y < x)) ++ x :: l.filter fun y => decide (x < y)
def Stb.doCame (s : Stb) (seq : Int) : Stb × Int :=
  if s.err = 0 then (if seq < 1 ∨ s.next ≤ seq then (Stb.zero, 5) else ({ s with came := putI s.came seq }, 0)) else (Stb.zero, s.err)
theorem sorted_ext : ∀ {l m : List Int}, (l.Pairwise fun a b => a < b) → (m.Pairwise fun a b => a < b) → (∀ x, x ∈ l ↔ x ∈ m) → l = m
  | [], [], _, _, _ => rfl
  | [], b :: m, _, _, h => by have := (h b).2 (List.mem_cons_self ..); simp at this
  | a :: l, [], _, _, h => by have := (h a).1 (List.mem_cons_self ..); simp at this
  | a :: l, b :: m, hl, hm, h => by
    rw [List.pairwise_cons] at hl hm
    have ha := (h a).1 (List.mem_cons_self ..)
    have hb := (h b).2 (List.mem_cons_self ..)
    have hab : a = b := by
      rcases List.mem_cons.1 ha with h1 | h1
      · exact h1
      · rcases List.mem_cons.1 hb with h2 | h2
        · exact h2.symm
        · have := hm.1 a h1; have := hl.1 b h2; omega
    subst hab
    congr 1
    refine sorted_ext hl.2 hm.2 fun x => ⟨fun hx => ?_, fun hx => ?_⟩
    · rcases List.mem_cons.1 ((h x).1 (List.mem_cons_of_mem _ hx)) with rfl | h1
      · have := hl.1 x hx; omega
      · exact h1
    · rcases List.mem_cons.1 ((h x).2 (List.mem_cons_of_mem _ hx)) with rfl | h1
      · have := hm.1 x hx; omega
      · exact h1
theorem putI_sorted {l : List Int} (h : l.Pairwise fun a b => a < b) (x : Int) : (putI l x).Pairwise fun a b => a < b := by
  unfold putI
  rw [List.pairwise_append, List.pairwise_cons]
  refine ⟨h.filter _, ⟨fun a ha => by simpa using (List.mem_filter.1 ha).2, h.filter _⟩, fun a ha b hb => ?_⟩
  have h1 : a < x := by simpa using (List.mem_filter.1 ha).2
  rcases List.mem_cons.1 hb with rfl | hb
  · exact h1
  · have : x < b := by simpa using (List.mem_filter.1 hb).2
    omega
theorem putI_mem (l : List Int) (x y : Int) : y ∈ putI l x ↔ y = x ∨ y ∈ l := by
  unfold putI
  simp only [List.mem_append, List.mem_cons, List.mem_filter, decide_eq_true_eq]
  constructor
  · rintro (⟨h, _⟩ | rfl | ⟨h, _⟩)
    · exact .inr h
    · exact .inl rfl
    · exact .inr h
  · rintro (rfl | h)
    · exact .inr (.inl rfl)
    · rcases Int.lt_trichotomy y x with h1 | h1 | h1
      · exact .inl ⟨h, h1⟩
      · exact .inr (.inl h1)
      · exact .inr (.inr ⟨h, h1⟩)
theorem putI_has {l : List Int} (h : l.Pairwise fun a b => a < b) {x : Int} (hx : x ∈ l) : putI l x = l :=
  sorted_ext (putI_sorted h x) h fun y => by rw [putI_mem]; exact ⟨fun hy => hy.elim (fun e => e ▸ hx) id, .inr⟩
/-- how many are smaller -/
def posI (l : List Int) (x : Int) : Nat := (l.filter fun y => decide (y < x)).length
theorem split_I (x : Int) : ∀ (l : List Int), (l.Pairwise fun a b => a < b) → l.take (posI l x) = l.filter (fun y => decide (y < x)) ∧ (x ∉ l → l.drop (posI l x) = l.filter fun y => decide (x < y))
  | [], _ => by simp [posI]
  | a :: t, h => by
    rw [List.pairwise_cons] at h
    obtain ⟨h1, h2⟩ := split_I x t h.2
    by_cases ha : a < x
    · have e1 : (a :: t).filter (fun y => decide (y < x)) = a :: t.filter (fun y => decide (y < x)) := List.filter_cons_of_pos (by simpa using ha)
      have e2 : (a :: t).filter (fun y => decide (x < y)) = t.filter (fun y => decide (x < y)) := List.filter_cons_of_neg (by simp; omega)
      have e3 : posI (a :: t) x = posI t x + 1 := by unfold posI; rw [e1]; rfl
      rw [e1, e2, e3, List.take_succ_cons, List.drop_succ_cons, h1]
      exact ⟨rfl, fun hx => h2 (fun hh => hx (List.mem_cons_of_mem _ hh))⟩
    · have e1 : (a :: t).filter (fun y => decide (y < x)) = [] := by
        rw [List.filter_eq_nil_iff]
        intro y hy
        rcases List.mem_cons.1 hy with rfl | hy
        · simpa using ha
        · have := h.1 y hy; simp only [decide_eq_true_eq]; omega
      have e3 : posI (a :: t) x = 0 := by unfold posI; rw [e1]; rfl
      rw [e1, e3, List.take_zero, List.drop_zero]
      refine ⟨rfl, fun hx => ?_⟩
      symm
      rw [List.filter_eq_self]
      intro y hy
      have hne : a ≠ x := fun hh => hx (hh ▸ List.mem_cons_self ..)
      rcases List.mem_cons.1 hy with rfl | hy
      · simp only [decide_eq_true_eq]; omega
      · have := h.1 y hy; simp only [decide_eq_true_eq]; omega
theorem putI_not {l : List Int} (h : l.Pairwise fun a b => a < b) {x : Int} (hx : x ∉ l) : l.take (posI l x) ++ x :: l.drop (posI l x) = putI l x := by
  obtain ⟨h1, h2⟩ := split_I x l h
  rw [h1, h2 hx]
  rfl
theorem posI_le (l : List Int) (x : Int) : posI l x ≤ l.length := List.length_filter_le _ _
end Go.Proofs.Ytgmgbfpoeclgiaa
namespace Go.Proofs.Ytgmgbfpoeclgiaa
open Go.RowKit
set_option maxRecDepth 100000
set_option maxHeartbeats 4000000
def v_stuNext : VC :=
(.all 0
(.all 1
(.all 2
(.all 3
(.call 54 [.agg [.int .i64 (.v 0), .int .i64 (.v 1), .slO 2 (.k 0) (.v 3) (.v 4)]] [] [(10, .i)] (.int .i64 (.v 10)) .same
(.ite (.eq (.v 10) (.k 0))
(.call 55 [.agg [.int .i64 (.v 0), .int .i64 (.v 1), .slO 2 (.k 0) (.v 3) (.v 4)], .int .i64 (.v 5), .int .i64 (.v 1), .agg [.int .i64 (.v 6), .int .i64 (.v 7), .int .i64 (.v 8), .int .i64 (.v 9)]] [] [(11, .i), (12, .i), (13, .i), (14, .i), (15, .i), (16, .i), (17, .i), (18, .i), (19, .i), (20, .i)] (.tup [.agg [.int .i64 (.v 11), .int .i64 (.v 12), .int .i64 (.v 13), .int .i64 (.v 14), .int .i64 (.v 15), .int .i64 (.v 16), .int .i64 (.v 17), .int .i64 (.v 18), .int .i64 (.v 19)], .int .i64 (.v 20)]) .same
(.all 4
(.ite (.eq (.v 20) (.k 0))
(.call 56 [.slO 2 (.k 0) (.v 3) (.v 4)] [] [(21, .p), (22, .n), (23, .n)] (.slO 21 (.k 0) (.v 22) (.v 23)) .fresh
(.chk (.rng .i64 (.add (.v 1) (.k 1)))
(.ret (.tup [.agg [.int .i64 (.v 0), .int .i64 (.add (.v 1) (.k 1)), .slO 21 (.k 0) (.v 22) (.v 23)], .agg [.int .i64 (.v 11), .int .i64 (.v 12), .int .i64 (.v 13), .int .i64 (.v 14), .int .i64 (.v 15), .int .i64 (.v 16), .int .i64 (.v 17), .int .i64 (.v 18), .int .i64 (.v 19)], .int .i64 (.k 0)]) [])))
(.ret (.tup [.agg [.int .i64 (.k 0), .int .i64 (.k 0), .c (Value.slice none 0 0)], .agg [.int .i64 (.k 0), .int .i64 (.k 0), .int .i64 (.k 0), .int .i64 (.k 0), .int .i64 (.k 0), .int .i64 (.k 0), .int .i64 (.k 0), .int .i64 (.k 0), .int .i64 (.k 0)], .int .i64 (.v 20)]) []))))
(.ret (.tup [.agg [.int .i64 (.k 0), .int .i64 (.k 0), .c (Value.slice none 0 0)], .agg [.int .i64 (.k 0), .int .i64 (.k 0), .int .i64 (.k 0), .int .i64 (.k 0), .int .i64 (.k 0), .int .i64 (.k 0), .int .i64 (.k 0), .int .i64 (.k 0), .int .i64 (.k 0)], .int .i64 (.v 10)]) [])))))))
theorem x_stuNext (x0 : Int) (x1 : Int) (x2 : Option Loc) (x3 : Nat) (x4 : Nat) (x5 : Int) (x6 : Int) (x7 : Int) (x8 : Int) (x9 : Int) (M : Nat → Prop) (H0 : Hp) (W0 : World) (R : Ending → World → Prop) (hH : H0.le (hpOf W0)) (h :
 (∀ b0 : Nat,
 (∀ b1 : Nat,
 (∀ b2 : Nat,
 (∀ b3 : Nat,
 (Cl Try.prog W0 M H0 nK 54 #[Value.agg #[vi x0, vi x1, vsl x2 x3 x4]] fun z W1 W2 => ∃ x10 : Int, z = .returned (vi x10) ∧ Ext W1 W2 ∧
 ((x10 = 0 →
  (Cl Try.prog W0 M H0 nK 55 #[Value.agg #[vi x0, vi x1, vsl x2 x3 x4], vi x5, vi x1, Value.agg #[vi x6, vi x7, vi x8, vi x9]] fun z W3 W4 => ∃ x11 : Int, ∃ x12 : Int, ∃ x13 : Int, ∃ x14 : Int, ∃ x15 : Int, ∃ x16 : Int, ∃ x17 : Int, ∃ x18 : Int, ∃ x19 : Int, ∃ x20 : Int, z = .returned (Value.tuple #[Value.agg #[vi x11, vi x12, vi x13, vi x14, vi x15, vi x16, vi x17, vi x18, vi x19], vi x20]) ∧ Ext W3 W4 ∧
  (∀ b4 : Nat,
  ((x20 = 0 →
   (Cl Try.prog W0 M H0 nK 56 #[vsl x2 x3 x4] fun z W5 W6 => ∃ x21 : Option Loc, ∃ x22 : Nat, ∃ x23 : Nat, z = .returned (vsl x21 x22 x23) ∧ Fr W5 W6 H0 fun H1 =>
   (inKind .i64 (x1 + 1) ∧ (inKind .i64 (x1 + 1) →
   Rt R W0 M H1 nK (Value.tuple #[Value.agg #[vi x0, vi (x1 + 1), vsl x21 x22 x23], Value.agg #[vi x11, vi x12, vi x13, vi x14, vi x15, vi x16, vi x17, vi x18, vi x19], vi 0]))))) ∧
  (¬ (x20 = 0) →
   Rt R W0 M H0 nK (Value.tuple #[Value.agg #[vi 0, vi 0, Value.slice none 0 0], Value.agg #[vi 0, vi 0, vi 0, vi 0, vi 0, vi 0, vi 0, vi 0, vi 0], vi x20])))))) ∧
 (¬ (x10 = 0) →
  Rt R W0 M H0 nK (Value.tuple #[Value.agg #[vi 0, vi 0, Value.slice none 0 0], Value.agg #[vi 0, vi 0, vi 0, vi 0, vi 0, vi 0, vi 0, vi 0, vi 0], vi x10]))))))))) :
  Calls Try.prog 25 #[Value.agg #[vi x0, vi x1, vsl x2 x3 x4], vi x5, Value.agg #[vi x6, vi x7, vi x8, vi x9]] W0 R :=
  calls_sxA (M := M) (V := v_stuNext) (hi := {}) (args := [.agg [.int .i64 (.v 0), .int .i64 (.v 1), .slO 2 (.k 0) (.v 3) (.v 4)], .int .i64 (.v 5), .agg [.int .i64 (.v 6), .int .i64 (.v 7), .int .i64 (.v 8), .int .i64 (.v 9)]]) (nv := 10) (e := (upd (upd (upd (upd (upd (upd (upd (upd (upd (upd (fun _ => .i 0) 0 (.i x0)) 1 (.i x1)) 2 (.p x2)) 3 (.n x3)) 4 (.n x4)) 5 (.i x5)) 6 (.i x6)) 7 (.i x7)) 8 (.i x8)) 9 (.i x9))) Try.func25 hH h (by kernel_rfl) (by kernel_rfl) (by kernel_rfl)
def v_stuAgain : VC :=
(.all 0
(.all 1
(.all 2
(.call 54 [.agg [.int .i64 (.v 0), .int .i64 (.v 1), .slO 2 (.k 0) (.v 3) (.v 4)]] [] [(11, .i)] (.int .i64 (.v 11)) .same
(.ite (.eq (.v 11) (.k 0))
(.ite (.lt (.v 6) (.k 1))
(.ret (.tup [.agg [.int .i64 (.k 0), .int .i64 (.k 0), .int .i64 (.k 0), .int .i64 (.k 0), .int .i64 (.k 0), .int .i64 (.k 0), .int .i64 (.k 0), .int .i64 (.k 0), .int .i64 (.k 0)], .int .i64 (.k 5)]) [])
(.ite (.le (.v 1) (.v 6))
(.ret (.tup [.agg [.int .i64 (.k 0), .int .i64 (.k 0), .int .i64 (.k 0), .int .i64 (.k 0), .int .i64 (.k 0), .int .i64 (.k 0), .int .i64 (.k 0), .int .i64 (.k 0), .int .i64 (.k 0)], .int .i64 (.k 5)]) [])
(.call 57 [.slO 2 (.k 0) (.v 3) (.v 4), .int .i64 (.v 6)] [] [(12, .b)] (.bool (.v 12)) .same
(.ite (.v 12)
(.ret (.tup [.agg [.int .i64 (.k 0), .int .i64 (.k 0), .int .i64 (.k 0), .int .i64 (.k 0), .int .i64 (.k 0), .int .i64 (.k 0), .int .i64 (.k 0), .int .i64 (.k 0), .int .i64 (.k 0)], .int .i64 (.k 5)]) [])
(.call 55 [.agg [.int .i64 (.v 0), .int .i64 (.v 1), .slO 2 (.k 0) (.v 3) (.v 4)], .int .i64 (.v 5), .int .i64 (.v 6), .agg [.int .i64 (.v 7), .int .i64 (.v 8), .int .i64 (.v 9), .int .i64 (.v 10)]] [] [(13, .i), (14, .i), (15, .i), (16, .i), (17, .i), (18, .i), (19, .i), (20, .i), (21, .i), (22, .i)] (.tup [.agg [.int .i64 (.v 13), .int .i64 (.v 14), .int .i64 (.v 15), .int .i64 (.v 16), .int .i64 (.v 17), .int .i64 (.v 18), .int .i64 (.v 19), .int .i64 (.v 20), .int .i64 (.v 21)], .int .i64 (.v 22)]) .same
(.ret (.tup [.agg [.int .i64 (.v 13), .int .i64 (.v 14), .int .i64 (.v 15), .int .i64 (.v 16), .int .i64 (.v 17), .int .i64 (.v 18), .int .i64 (.v 19), .int .i64 (.v 20), .int .i64 (.v 21)], .int .i64 (.v 22)]) []))))))
(.ret (.tup [.agg [.int .i64 (.k 0), .int .i64 (.k 0), .int .i64 (.k 0), .int .i64 (.k 0), .int .i64 (.k 0), .int .i64 (.k 0), .int .i64 (.k 0), .int .i64 (.k 0), .int .i64 (.k 0)], .int .i64 (.v 11)]) []))))))
theorem x_stuAgain (x0 : Int) (x1 : Int) (x2 : Option Loc) (x3 : Nat) (x4 : Nat) (x5 : Int) (x6 : Int) (x7 : Int) (x8 : Int) (x9 : Int) (x10 : Int) (M : Nat → Prop) (H0 : Hp) (W0 : World) (R : Ending → World → Prop) (hH : H0.le (hpOf W0)) (h :
 (∀ b0 : Nat,
 (∀ b1 : Nat,
 (∀ b2 : Nat,
 (Cl Try.prog W0 M H0 nK 54 #[Value.agg #[vi x0, vi x1, vsl x2 x3 x4]] fun z W1 W2 => ∃ x11 : Int, z = .returned (vi x11) ∧ Ext W1 W2 ∧
 ((x11 = 0 →
  ((x6 < 1 →
   Rt R W0 M H0 nK (Value.tuple #[Value.agg #[vi 0, vi 0, vi 0, vi 0, vi 0, vi 0, vi 0, vi 0, vi 0], vi 5])) ∧
  (¬ (x6 < 1) →
   ((x1 ≤ x6 →
    Rt R W0 M H0 nK (Value.tuple #[Value.agg #[vi 0, vi 0, vi 0, vi 0, vi 0, vi 0, vi 0, vi 0, vi 0], vi 5])) ∧
   (¬ (x1 ≤ x6) →
    (Cl Try.prog W0 M H0 nK 57 #[vsl x2 x3 x4, vi x6] fun z W3 W4 => ∃ x12 : Bool, z = .returned (vb (x12)) ∧ Ext W3 W4 ∧
    ((x12 = true →
     Rt R W0 M H0 nK (Value.tuple #[Value.agg #[vi 0, vi 0, vi 0, vi 0, vi 0, vi 0, vi 0, vi 0, vi 0], vi 5])) ∧
    (¬ (x12 = true) →
     (Cl Try.prog W0 M H0 nK 55 #[Value.agg #[vi x0, vi x1, vsl x2 x3 x4], vi x5, vi x6, Value.agg #[vi x7, vi x8, vi x9, vi x10]] fun z W5 W6 => ∃ x13 : Int, ∃ x14 : Int, ∃ x15 : Int, ∃ x16 : Int, ∃ x17 : Int, ∃ x18 : Int, ∃ x19 : Int, ∃ x20 : Int, ∃ x21 : Int, ∃ x22 : Int, z = .returned (Value.tuple #[Value.agg #[vi x13, vi x14, vi x15, vi x16, vi x17, vi x18, vi x19, vi x20, vi x21], vi x22]) ∧ Ext W5 W6 ∧
     Rt R W0 M H0 nK (Value.tuple #[Value.agg #[vi x13, vi x14, vi x15, vi x16, vi x17, vi x18, vi x19, vi x20, vi x21], vi x22])))))))))) ∧
 (¬ (x11 = 0) →
  Rt R W0 M H0 nK (Value.tuple #[Value.agg #[vi 0, vi 0, vi 0, vi 0, vi 0, vi 0, vi 0, vi 0, vi 0], vi x11])))))))) :
  Calls Try.prog 26 #[Value.agg #[vi x0, vi x1, vsl x2 x3 x4], vi x5, vi x6, Value.agg #[vi x7, vi x8, vi x9, vi x10]] W0 R :=
  calls_sxA (M := M) (V := v_stuAgain) (hi := {}) (args := [.agg [.int .i64 (.v 0), .int .i64 (.v 1), .slO 2 (.k 0) (.v 3) (.v 4)], .int .i64 (.v 5), .int .i64 (.v 6), .agg [.int .i64 (.v 7), .int .i64 (.v 8), .int .i64 (.v 9), .int .i64 (.v 10)]]) (nv := 11) (e := (upd (upd (upd (upd (upd (upd (upd (upd (upd (upd (upd (fun _ => .i 0) 0 (.i x0)) 1 (.i x1)) 2 (.p x2)) 3 (.n x3)) 4 (.n x4)) 5 (.i x5)) 6 (.i x6)) 7 (.i x7)) 8 (.i x8)) 9 (.i x9)) 10 (.i x10))) Try.func26 hH h (by kernel_rfl) (by kernel_rfl) (by kernel_rfl)
def v_stuCame : VC :=
(.all 0
(.all 1
(.call 54 [.agg [.int .i64 (.v 0), .int .i64 (.v 1), .slO 2 (.k 0) (.v 3) (.v 4)]] [] [(6, .i)] (.int .i64 (.v 6)) .same
(.ite (.eq (.v 6) (.k 0))
(.ite (.lt (.v 5) (.k 1))
(.ret (.tup [.agg [.int .i64 (.k 0), .int .i64 (.k 0), .c (Value.slice none 0 0)], .int .i64 (.k 5)]) [])
(.ite (.le (.v 1) (.v 5))
(.ret (.tup [.agg [.int .i64 (.k 0), .int .i64 (.k 0), .c (Value.slice none 0 0)], .int .i64 (.k 5)]) [])
(.call 56 [.slO 2 (.k 0) (.v 3) (.v 4)] [] [(7, .p), (8, .n), (9, .n)] (.slO 7 (.k 0) (.v 8) (.v 9)) .fresh
(.call 60 [.slO 7 (.k 0) (.v 8) (.v 9), .int .i64 (.v 5)] [] [(10, .i), (11, .b)] (.tup [.int .i64 (.v 10), .bool (.v 11)]) .same
(.ite (.v 11)
(.ret (.tup [.agg [.int .i64 (.v 0), .int .i64 (.v 1), .slO 7 (.k 0) (.v 8) (.v 9)], .int .i64 (.k 0)]) [])
(.all 2
(.call 61 [.slO 7 (.k 0) (.v 8) (.v 9), .int .i64 (.v 10), .slK 2 0 1 1] [(2, ⟨[.int .i64 (.v 5)], 3⟩)] [(12, .p), (13, .n), (14, .n)] (.slO 12 (.k 0) (.v 13) (.v 14)) .turn
(.ret (.tup [.agg [.int .i64 (.v 0), .int .i64 (.v 1), .slO 12 (.k 0) (.v 13) (.v 14)], .int .i64 (.k 0)]) []))))))))
(.ret (.tup [.agg [.int .i64 (.k 0), .int .i64 (.k 0), .c (Value.slice none 0 0)], .int .i64 (.v 6)]) [])))))
theorem x_stuCame (x0 : Int) (x1 : Int) (x2 : Option Loc) (x3 : Nat) (x4 : Nat) (x5 : Int) (M : Nat → Prop) (H0 : Hp) (W0 : World) (R : Ending → World → Prop) (hH : H0.le (hpOf W0)) (h :
 (∀ b0 : Nat,
 (∀ b1 : Nat,
 (Cl Try.prog W0 M H0 nK 54 #[Value.agg #[vi x0, vi x1, vsl x2 x3 x4]] fun z W1 W2 => ∃ x6 : Int, z = .returned (vi x6) ∧ Ext W1 W2 ∧
 ((x6 = 0 →
  ((x5 < 1 →
   Rt R W0 M H0 nK (Value.tuple #[Value.agg #[vi 0, vi 0, Value.slice none 0 0], vi 5])) ∧
  (¬ (x5 < 1) →
   ((x1 ≤ x5 →
    Rt R W0 M H0 nK (Value.tuple #[Value.agg #[vi 0, vi 0, Value.slice none 0 0], vi 5])) ∧
   (¬ (x1 ≤ x5) →
    (Cl Try.prog W0 M H0 nK 56 #[vsl x2 x3 x4] fun z W3 W4 => ∃ x7 : Option Loc, ∃ x8 : Nat, ∃ x9 : Nat, z = .returned (vsl x7 x8 x9) ∧ Fr W3 W4 H0 fun H1 =>
    (Cl Try.prog W0 M H1 nK 60 #[vsl x7 x8 x9, vi x5] fun z W5 W6 => ∃ x10 : Int, ∃ x11 : Bool, z = .returned (Value.tuple #[vi x10, vb (x11)]) ∧ Ext W5 W6 ∧
    ((x11 = true →
     Rt R W0 M H1 nK (Value.tuple #[Value.agg #[vi x0, vi x1, vsl x7 x8 x9], vi 0])) ∧
    (¬ (x11 = true) →
     (∀ b2 : Nat,
     (Cl Try.prog W0 M H1 (fun W => Kn W0 M H1 W b2 (Obj.cells #[vi x5] 3 (0, 0)) ∧ True) 61 #[vsl x7 x8 x9, vi x10, Value.slice (some ⟨b2, 0, none⟩) 1 1] fun z W7 W8 => ∃ x12 : Option Loc, ∃ x13 : Nat, ∃ x14 : Nat, z = .returned (vsl x12 x13 x14) ∧ Tn W0 M H1 W7 W8 fun H2 =>
     Rt R W0 M H2 nK (Value.tuple #[Value.agg #[vi x0, vi x1, vsl x12 x13 x14], vi 0])))))))))))) ∧
 (¬ (x6 = 0) →
  Rt R W0 M H0 nK (Value.tuple #[Value.agg #[vi 0, vi 0, Value.slice none 0 0], vi x6]))))))) :
  Calls Try.prog 29 #[Value.agg #[vi x0, vi x1, vsl x2 x3 x4], vi x5] W0 R :=
  calls_sxA (M := M) (V := v_stuCame) (hi := {turns := [61]}) (args := [.agg [.int .i64 (.v 0), .int .i64 (.v 1), .slO 2 (.k 0) (.v 3) (.v 4)], .int .i64 (.v 5)]) (nv := 6) (e := (upd (upd (upd (upd (upd (upd (fun _ => .i 0) 0 (.i x0)) 1 (.i x1)) 2 (.p x2)) 3 (.n x3)) 4 (.n x4)) 5 (.i x5))) Try.func29 hH h (by kernel_rfl) (by kernel_rfl) (by kernel_rfl)
def v_insI : VC :=
(.chk (.le (.k 0) (.v 3))
(.chk (.le (.v 3) (.v 1))
(.chk (.le (.v 1) (.v 2))
(.chk (.le (.k 0) (.v 5))
(.ite (.eq (.v 5) (.k 0))
(.ret (.slO 0 (.k 0) (.v 1) (.v 2)) [])
(.chk (.le (.k 0) (.v 1))
(.ite (.eq (.v 3) (.v 1))
(.esc (.bi .append #[60, 60] 60) [.slO 0 (.k 0) (.v 1) (.v 2), .slO 4 (.k 0) (.v 5) (.v 6)] [] [(7, .p), (8, .n), (9, .n)] (some (.slO 7 (.k 0) (.v 8) (.v 9))) .turn
(.ret (.slO 7 (.k 0) (.v 8) (.v 9)) []))
(.chk (.rng .i64 (.add (.v 1) (.v 5)))
(.esc (.bi .cap #[60] 3) [.slO 0 (.k 0) (.v 1) (.v 2)] [] [(7, .i)] (some (.int .i64 (.v 7))) .same
(.ite (.lt (.v 7) (.add (.v 1) (.v 5)))
(.chk (.le (.v 3) (.v 2))
(.chk (.rng .i64 (.sub (.add (.v 1) (.v 5)) (.v 3)))
(.esc (.bi .append #[60, 3] 60) [.slO 0 (.k 0) (.v 3) (.v 2), .int .i64 (.sub (.add (.v 1) (.v 5)) (.v 3))] [] [(8, .p), (9, .n), (10, .n)] (some (.slO 8 (.k 0) (.v 9) (.v 10))) .turn
(.chk (.le (.v 3) (.v 9))
(.chk (.le (.v 9) (.v 10))
(.esc (.bi .copy #[60, 60] 3) [.slO 8 (.add (.k 0) (.skip (.v 10) (.v 3) 1)) (.sub (.v 9) (.v 3)) (.sub (.v 10) (.v 3)), .slO 4 (.k 0) (.v 5) (.v 6)] [] [(11, .i)] (some (.int .i64 (.v 11))) .turn
(.chk (.rng .i64 (.add (.v 3) (.v 5)))
(.chk (.le (.k 0) (.add (.v 3) (.v 5)))
(.chk (.le (.add (.v 3) (.v 5)) (.v 9))
(.esc (.bi .copy #[60, 60] 3) [.slO 8 (.add (.k 0) (.skip (.v 10) (.add (.v 3) (.v 5)) 1)) (.sub (.v 9) (.add (.v 3) (.v 5))) (.sub (.v 10) (.add (.v 3) (.v 5))), .slO 0 (.add (.k 0) (.skip (.v 2) (.v 3) 1)) (.sub (.v 1) (.v 3)) (.sub (.v 2) (.v 3))] [] [(12, .i)] (some (.int .i64 (.v 12))) .turn
(.ret (.slO 8 (.k 0) (.v 9) (.v 10)) [])))))))))))
(.chk (.le (.k 0) (.add (.v 1) (.v 5)))
(.chk (.le (.add (.v 1) (.v 5)) (.v 2))
(.chk (.rng .i64 (.add (.v 3) (.v 5)))
(.chk (.le (.k 0) (.add (.v 3) (.v 5)))
(.chk (.le (.add (.v 3) (.v 5)) (.add (.v 1) (.v 5)))
(.esc (.ext 83) [.slO 4 (.k 0) (.v 5) (.v 6), .slO 0 (.add (.k 0) (.skip (.v 2) (.add (.v 3) (.v 5)) 1)) (.sub (.add (.v 1) (.v 5)) (.add (.v 3) (.v 5))) (.sub (.v 2) (.add (.v 3) (.v 5)))] [] [(8, .b)] (some (.bool (.v 8))) .same
(.ite (.v 8)
(.chk (.le (.v 1) (.add (.v 1) (.v 5)))
(.esc (.bi .copy #[60, 60] 3) [.slO 0 (.add (.k 0) (.skip (.v 2) (.v 1) 1)) (.sub (.add (.v 1) (.v 5)) (.v 1)) (.sub (.v 2) (.v 1)), .slO 4 (.k 0) (.v 5) (.v 6)] [] [(9, .i)] (some (.int .i64 (.v 9))) .turn
(.chk (.le (.v 3) (.add (.v 1) (.v 5)))
(.call 84 [.slO 0 (.add (.k 0) (.skip (.v 2) (.v 3) 1)) (.sub (.add (.v 1) (.v 5)) (.v 3)) (.sub (.v 2) (.v 3)), .int .i64 (.v 5)] [] [] (.tup []) .same
(.ret (.slO 0 (.k 0) (.add (.v 1) (.v 5)) (.v 2)) [])))))
(.chk (.le (.v 3) (.add (.v 1) (.v 5)))
(.esc (.bi .copy #[60, 60] 3) [.slO 0 (.add (.k 0) (.skip (.v 2) (.add (.v 3) (.v 5)) 1)) (.sub (.add (.v 1) (.v 5)) (.add (.v 3) (.v 5))) (.sub (.v 2) (.add (.v 3) (.v 5))), .slO 0 (.add (.k 0) (.skip (.v 2) (.v 3) 1)) (.sub (.add (.v 1) (.v 5)) (.v 3)) (.sub (.v 2) (.v 3))] [] [(9, .i)] (some (.int .i64 (.v 9))) .turn
(.esc (.bi .copy #[60, 60] 3) [.slO 0 (.add (.k 0) (.skip (.v 2) (.v 3) 1)) (.sub (.add (.v 1) (.v 5)) (.v 3)) (.sub (.v 2) (.v 3)), .slO 4 (.k 0) (.v 5) (.v 6)] [] [(10, .i)] (some (.int .i64 (.v 10))) .turn
(.ret (.slO 0 (.k 0) (.add (.v 1) (.v 5)) (.v 2)) [])))))))))))))))))))))
theorem x_insI (x0 : Option Loc) (x1 : Nat) (x2 : Nat) (x3 : Int) (x4 : Option Loc) (x5 : Nat) (x6 : Nat) (M : Nat → Prop) (H0 : Hp) (W0 : World) (R : Ending → World → Prop) (hH : H0.le (hpOf W0)) (h :
 (0 ≤ x3 ∧ (0 ≤ x3 →
 (x3 ≤ (x1 : Int) ∧ (x3 ≤ (x1 : Int) →
 ((x1 : Int) ≤ (x2 : Int) ∧ ((x1 : Int) ≤ (x2 : Int) →
 (0 ≤ (x5 : Int) ∧ (0 ≤ (x5 : Int) →
 (((x5 : Int) = 0 →
  Rt R W0 M H0 nK (vsl x0 x1 x2)) ∧
 (¬ ((x5 : Int) = 0) →
  (0 ≤ (x1 : Int) ∧ (0 ≤ (x1 : Int) →
  ((x3 = (x1 : Int) →
   (Es W0 M H0 nK fun W1 => ∃ x7 : Option Loc, ∃ x8 : Nat, ∃ x9 : Nat, Eo Try.prog (.bi .append #[60, 60] 60) [vsl x0 x1 x2, vsl x4 x5 x6] W1 (.value (vsl x7 x8 x9)) fun W2 => Tn W0 M H0 W1 W2 fun H1 =>
   Rt R W0 M H1 nK (vsl x7 x8 x9))) ∧
  (¬ (x3 = (x1 : Int)) →
   (inKind .i64 ((x1 : Int) + (x5 : Int)) ∧ (inKind .i64 ((x1 : Int) + (x5 : Int)) →
   (Es W0 M H0 nK fun W1 => ∃ x7 : Int, Eo Try.prog (.bi .cap #[60] 3) [vsl x0 x1 x2] W1 (.value (vi x7)) fun W2 => Ext W1 W2 ∧
   ((x7 < ((x1 : Int) + (x5 : Int)) →
    (x3 ≤ (x2 : Int) ∧ (x3 ≤ (x2 : Int) →
    (inKind .i64 (((x1 : Int) + (x5 : Int)) - x3) ∧ (inKind .i64 (((x1 : Int) + (x5 : Int)) - x3) →
    (Es W0 M H0 nK fun W3 => ∃ x8 : Option Loc, ∃ x9 : Nat, ∃ x10 : Nat, Eo Try.prog (.bi .append #[60, 3] 60) [vsl x0 (x3).toNat x2, vi (((x1 : Int) + (x5 : Int)) - x3)] W3 (.value (vsl x8 x9 x10)) fun W4 => Tn W0 M H0 W3 W4 fun H1 =>
    (x3 ≤ (x9 : Int) ∧ (x3 ≤ (x9 : Int) →
    ((x9 : Int) ≤ (x10 : Int) ∧ ((x9 : Int) ≤ (x10 : Int) →
    (Es W0 M H1 nK fun W5 => ∃ x11 : Int, Eo Try.prog (.bi .copy #[60, 60] 3) [Value.slice (ptrAt x8 (0 + (if (x10 : Int) = x3 then 0 else x3 * ((1 : Nat) : Int)))) (((x9 : Int) - x3) : Int).toNat (((x10 : Int) - x3) : Int).toNat, vsl x4 x5 x6] W5 (.value (vi x11)) fun W6 => Tn W0 M H1 W5 W6 fun H2 =>
    (inKind .i64 (x3 + (x5 : Int)) ∧ (inKind .i64 (x3 + (x5 : Int)) →
    (0 ≤ (x3 + (x5 : Int)) ∧ (0 ≤ (x3 + (x5 : Int)) →
    ((x3 + (x5 : Int)) ≤ (x9 : Int) ∧ ((x3 + (x5 : Int)) ≤ (x9 : Int) →
    (Es W0 M H2 nK fun W7 => ∃ x12 : Int, Eo Try.prog (.bi .copy #[60, 60] 3) [Value.slice (ptrAt x8 (0 + (if (x10 : Int) = (x3 + (x5 : Int)) then 0 else (x3 + (x5 : Int)) * ((1 : Nat) : Int)))) (((x9 : Int) - (x3 + (x5 : Int))) : Int).toNat (((x10 : Int) - (x3 + (x5 : Int))) : Int).toNat, Value.slice (ptrAt x0 (0 + (if (x2 : Int) = x3 then 0 else x3 * ((1 : Nat) : Int)))) (((x1 : Int) - x3) : Int).toNat (((x2 : Int) - x3) : Int).toNat] W7 (.value (vi x12)) fun W8 => Tn W0 M H2 W7 W8 fun H3 =>
    Rt R W0 M H3 nK (vsl x8 x9 x10))))))))))))))))))) ∧
   (¬ (x7 < ((x1 : Int) + (x5 : Int))) →
    (0 ≤ ((x1 : Int) + (x5 : Int)) ∧ (0 ≤ ((x1 : Int) + (x5 : Int)) →
    (((x1 : Int) + (x5 : Int)) ≤ (x2 : Int) ∧ (((x1 : Int) + (x5 : Int)) ≤ (x2 : Int) →
    (inKind .i64 (x3 + (x5 : Int)) ∧ (inKind .i64 (x3 + (x5 : Int)) →
    (0 ≤ (x3 + (x5 : Int)) ∧ (0 ≤ (x3 + (x5 : Int)) →
    ((x3 + (x5 : Int)) ≤ ((x1 : Int) + (x5 : Int)) ∧ ((x3 + (x5 : Int)) ≤ ((x1 : Int) + (x5 : Int)) →
    (Es W0 M H0 nK fun W3 => ∃ x8 : Bool, Eo Try.prog (.ext 83) [vsl x4 x5 x6, Value.slice (ptrAt x0 (0 + (if (x2 : Int) = (x3 + (x5 : Int)) then 0 else (x3 + (x5 : Int)) * ((1 : Nat) : Int)))) ((((x1 : Int) + (x5 : Int)) - (x3 + (x5 : Int))) : Int).toNat (((x2 : Int) - (x3 + (x5 : Int))) : Int).toNat] W3 (.value (vb (x8))) fun W4 => Ext W3 W4 ∧
    ((x8 = true →
     ((x1 : Int) ≤ ((x1 : Int) + (x5 : Int)) ∧ ((x1 : Int) ≤ ((x1 : Int) + (x5 : Int)) →
     (Es W0 M H0 nK fun W5 => ∃ x9 : Int, Eo Try.prog (.bi .copy #[60, 60] 3) [Value.slice (ptrAt x0 (0 + (if (x2 : Int) = (x1 : Int) then 0 else (x1 : Int) * ((1 : Nat) : Int)))) ((((x1 : Int) + (x5 : Int)) - (x1 : Int)) : Int).toNat (((x2 : Int) - (x1 : Int)) : Int).toNat, vsl x4 x5 x6] W5 (.value (vi x9)) fun W6 => Tn W0 M H0 W5 W6 fun H1 =>
     (x3 ≤ ((x1 : Int) + (x5 : Int)) ∧ (x3 ≤ ((x1 : Int) + (x5 : Int)) →
     (Cl Try.prog W0 M H1 nK 84 #[Value.slice (ptrAt x0 (0 + (if (x2 : Int) = x3 then 0 else x3 * ((1 : Nat) : Int)))) ((((x1 : Int) + (x5 : Int)) - x3) : Int).toNat (((x2 : Int) - x3) : Int).toNat, vi (x5 : Int)] fun z W7 W8 => z = .returned (Value.tuple #[]) ∧ Ext W7 W8 ∧
     Rt R W0 M H1 nK (vsl x0 (((x1 : Int) + (x5 : Int)) : Int).toNat x2)))))))) ∧
    (¬ (x8 = true) →
     (x3 ≤ ((x1 : Int) + (x5 : Int)) ∧ (x3 ≤ ((x1 : Int) + (x5 : Int)) →
     (Es W0 M H0 nK fun W5 => ∃ x9 : Int, Eo Try.prog (.bi .copy #[60, 60] 3) [Value.slice (ptrAt x0 (0 + (if (x2 : Int) = (x3 + (x5 : Int)) then 0 else (x3 + (x5 : Int)) * ((1 : Nat) : Int)))) ((((x1 : Int) + (x5 : Int)) - (x3 + (x5 : Int))) : Int).toNat (((x2 : Int) - (x3 + (x5 : Int))) : Int).toNat, Value.slice (ptrAt x0 (0 + (if (x2 : Int) = x3 then 0 else x3 * ((1 : Nat) : Int)))) ((((x1 : Int) + (x5 : Int)) - x3) : Int).toNat (((x2 : Int) - x3) : Int).toNat] W5 (.value (vi x9)) fun W6 => Tn W0 M H0 W5 W6 fun H1 =>
     (Es W0 M H1 nK fun W7 => ∃ x10 : Int, Eo Try.prog (.bi .copy #[60, 60] 3) [Value.slice (ptrAt x0 (0 + (if (x2 : Int) = x3 then 0 else x3 * ((1 : Nat) : Int)))) ((((x1 : Int) + (x5 : Int)) - x3) : Int).toNat (((x2 : Int) - x3) : Int).toNat, vsl x4 x5 x6] W7 (.value (vi x10)) fun W8 => Tn W0 M H1 W7 W8 fun H2 =>
     Rt R W0 M H2 nK (vsl x0 (((x1 : Int) + (x5 : Int)) : Int).toNat x2)))))))))))))))))))))))))))))))))))))) :
  Calls Try.prog 61 #[vsl x0 x1 x2, vi x3, vsl x4 x5 x6] W0 R :=
  calls_sxA (M := M) (V := v_insI) (hi := {}) (args := [.slO 0 (.k 0) (.v 1) (.v 2), .int .i64 (.v 3), .slO 4 (.k 0) (.v 5) (.v 6)]) (nv := 7) (e := (upd (upd (upd (upd (upd (upd (upd (fun _ => .i 0) 0 (.p x0)) 1 (.n x1)) 2 (.n x2)) 3 (.i x3)) 4 (.p x4)) 5 (.n x5)) 6 (.n x6))) Try.func61 hH h (by kernel_rfl) (by kernel_rfl) (by kernel_rfl)
end Go.Proofs.Ytgmgbfpoeclgiaa
namespace Go.Proofs.Ytgmgbfpoeclgiaa
open Go.RowKit

theorem ek_overlapsI {W : World} {a b o la ca : Nat} {R C : Array Value} {T T' : Nat} (hne : a ≠ b) (ha : W.heap[a]? = some (.cells R T (0, 0))) (hb : W.heap[b]? = some (.cells C T' (0, 0))) (hC : C.size ≠ 0) :
    (EK.sem (.ext 83) [vsl (some (a, 0)) 1 1, vsl (some (b, o)) la ca]).run Try.prog W = .ok (.value (vb false)) W := by
  show (callFunc 83 #[vsl (some (a, 0)) 1 1, vsl (some (b, o)) la ca]).run Try.prog W = _
  have hsz : ∀ w, (Go.sizeOf 3).run Try.prog w = .ok 1 w := fun w => by
    obtain ⟨ti, z, i1, i2, i3, _⟩ := info_of infoInt
    exact run_sizeOf i1 i3 w
  rw [run_callFunc_extern Try.func83 (by kernel_rfl) (by kernel_rfl) (by kernel_rfl) (e := Extern.SlicesOverlaps.overlaps #[60, 60] #[4]) (by kernel_rfl)]
  have := Lib.run_overlaps_apart W 60 4 3 Try.underlying60 1 hsz ⟨a, 0, none⟩ ⟨b, o, none⟩ 1 1 la ca hne T T' R.size C.size (by simp [World.shape?, ha]) (by simp [World.shape?, hb]) hC (by simp [World.frozen?, ha]) (by simp [World.frozen?, ha])
  have e1 : vsl (some (a, 0)) 1 1 = .slice (some ⟨a, 0, none⟩) 1 1 := rfl
  have e2 : vsl (some (b, o)) la ca = .slice (some ⟨b, o, none⟩) la ca := rfl
  rw [e1, e2, this]
  rfl
theorem c_insertI {H : Hp} {p : Option Loc} {n c : Nat} {rows : List (List Value)} {g : Option Nat} (ho : Ow H 3 1 p n c rows g) {i : Nat} (hi : i ≤ n) {vb : Nat} {row : List Value} (hv : H vb = some (.cells row.toArray 3 (0, 0))) (hl : row.length = 1) (h1 : ∀ v ∈ row, v.oneCell' = true) (hne : g ≠ some vb) (hb : n ≤ 1099511627776) :
    Gt Try.prog 61 #[vsl p n c, vi i, vsl (some (vb, 0)) 1 1] H g fun v H' g' => ∃ p' n' c', v = vsl p' n' c' ∧ Ow H' 3 1 p' n' c' (rows.take i ++ row :: rows.drop i) g' := fun W hH => by
  have hn := ho.1
  have hc := ho.2.2.1
  have h63 := ho.2.2.2.1
  have hmx : maxLen = 9223372036854775807 := rfl
  obtain ⟨ti, z, i1, i2, i3, i4, i5, i6⟩ := info_of infoInt
  have hone : ∀ r ∈ rows, ∀ v ∈ r, v.oneCell' = true := fun r hr => (ho.2.1 r hr).2
  have hrow1 : ∀ K : Hp, K vb = some (.cells row.toArray 3 (0, 0)) → Rows K (some (vb, 0)) 1 1 [row] := fun K hK => Rows.block hK rfl (fun r hr => by simp only [List.mem_singleton] at hr; subst hr; exact hl) (by simp [List.take_of_length_le (show row.length ≤ 1 by omega)])
  have hone1 : ∀ r ∈ [row], ∀ v ∈ r, v.oneCell' = true := fun r hr => by simp only [List.mem_singleton] at hr; subst hr; exact h1
  refine x_insI p n c i (some (vb, 0)) 1 1 (fun b => g = some b) H W _ hH ⟨by omega, fun _ => ⟨by omega, fun _ => ⟨by omega, fun _ => ⟨by omega, fun _ => ⟨fun h => absurd h (by omega), fun _ => ⟨by omega, fun _ => ⟨fun hin => ?_, fun hin => ⟨in64 (by omega), fun _ => ?_⟩⟩⟩⟩⟩⟩⟩⟩
  · -- behind all
    have hin' : i = n := by omega
    intro W1 n1 _
    obtain ⟨p', c', g', W', H', h2, h3, h4, h5, h6⟩ := run_append_rows (P := Try.prog) Try.underlying60 i1 i2 i3 i4 i5 (by omega) n1.sub ho (hrow1 H hv) hone1 (by omega) (by omega) 60 (c2 := 1)
    refine ⟨p', n + 1, c', W', h2, H', h3.own ho (fun b hb => .inr hb), Rt.gt hH ho.held g' ?_ ⟨p', n + 1, c', rfl, ?_⟩⟩
    · exact h5.imp id (fun h b hb => by rw [h] at hb; simp only [Option.some.injEq] at hb; rw [← hb]; exact n1.mod.size)
    · rw [hin', List.take_of_length_le (by omega), List.drop_of_length_le (by omega)]
      exact h4.merge (h5.imp id (fun h b hb => by rw [h] at hb; simp only [Option.some.injEq] at hb; rw [← hb]; exact n1.mod.size))
  · intro W1 n1 _
    refine ⟨c, W1, ek_cap (P := Try.prog) Try.underlying60 _ p n c W1, Ext.refl _, fun hcap => ⟨by omega, fun _ => ⟨in64 (by omega), fun _ => ?_⟩⟩, fun hcap => ⟨by omega, fun _ => ⟨by omega, fun _ => ⟨in64 (by omega), fun _ => ⟨by omega, fun _ => ⟨by omega, fun _ => ?_⟩⟩⟩⟩⟩⟩
    · -- a new array
      intro W3 n3 _
      have ek : ((n : Int) + ((1 : Nat) : Int) - (i : Int)) = ((n + 1 - i : Nat) : Int) := by omega
      rw [ek]
      obtain ⟨c', zr, W4, H1, h2, h3, h4, h5⟩ := ek_zeros (P := Try.prog) (tn := 3) (kq := .i64) Try.underlying60 Try.underlying3 infoInt (by omega) n3.sub (ho.take i hi) (k := n + 1 - i) (by omega) (by omega) (by omega) (by omega) 60
      have eit : ((i : Int)).toNat = i := by omega
      rw [eit]
      refine ⟨some (W3.heap.size, 0), i + (n + 1 - i), c', W4, h2, H1, h3.turned (fun b hb => ⟨ho.held b hb, .inr hb⟩), by omega, fun _ => ⟨by have := h5.2.2.1; omega, fun _ => ?_⟩⟩
      have hnew : W.heap.size ≤ W3.heap.size := n3.mod.size
      have hln : i + (n + 1 - i) = n + 1 := by omega
      rw [hln] at h5 ⊢
      have hc'n := h5.2.2.1
      have hlr1 := h5.1
      intro W5 n5 _
      rw [slice_tail]
      have et : tailP (some (W3.heap.size, 0)) c' i 1 = shiftP (some (W3.heap.size, 0)) (i * 1) := by unfold tailP; rw [if_neg (by omega)]
      obtain ⟨W6, H2, h7, h8, h9⟩ := ek_copy (P := Try.prog) Try.underlying60 i1 i3 (by omega) n5.sub h5 (hrow1 H1 (h4 _ _ hv)) hone1 (m := 1) (sl := 1) (c2 := 1) (dl := n + 1 - i) (dc := c' - i) (k := i) (by omega) (by simp [Nat.min_def]; omega) (by omega) (off := ((i * 1 : Nat) : Int)) rfl 3
      have ev1 : vsl (tailP (some (W3.heap.size, 0)) c' i 1) (n + 1 - i) (c' - i) = .slice (ptrAt (some (W3.heap.size, 0)) ((i * 1 : Nat) : Int)) (n + 1 - i) (c' - i) := by rw [et, ptrAt_shift, Int.toNat_natCast]
      rw [ev1]
      refine ⟨1, W6, h7, H2, h8.turned (fun b hb => ⟨h5.held b hb, .inl (by simp only [Option.some.injEq] at hb; rw [← hb]; exact hnew)⟩), in64 (by omega), fun _ => ⟨by omega, fun _ => ⟨by omega, fun _ => ?_⟩⟩⟩
      intro W7 n7 _
      have e11 : ((i : Int) + ((1 : Nat) : Int)) = ((i + 1 : Nat) : Int) := by omega
      rw [e11, slice_tail, slice_tail]
      have et2 : tailP (some (W3.heap.size, 0)) c' (i + 1) 1 = shiftP (some (W3.heap.size, 0)) ((i + 1) * 1) := by unfold tailP; rw [if_neg (by omega)]
      have ev2 : vsl (tailP (some (W3.heap.size, 0)) c' (i + 1) 1) (n + 1 - (i + 1)) (c' - (i + 1)) = .slice (ptrAt (some (W3.heap.size, 0)) (((i + 1) * 1 : Nat) : Int)) (n + 1 - (i + 1)) (c' - (i + 1)) := by rw [et2, ptrAt_shift, Int.toNat_natCast]
      -- what was there is still read
      have hgs : ∀ b, some W3.heap.size = some b → H b = none := fun b hb => by simp only [Option.some.injEq] at hb; rw [← hb]; exact old_none hH hnew
      have hH2 : H.le H2 := h8.keep n5.sub h4 hgs
      have hsrc : Rows H2 (tailP p c i 1) (n - i) 1 (rows.drop i) := (ho.rows.tail hi hc).mono hH2
      obtain ⟨W8, H3, ha, hb', hc'⟩ := ek_copy (P := Try.prog) Try.underlying60 i1 i3 (by omega) n7.sub h9 hsrc (fun r hr => hone r (List.mem_of_mem_drop hr)) (m := n - i) (sl := n - i) (c2 := c - i) (dl := n + 1 - (i + 1)) (dc := c' - (i + 1)) (k := i + 1) (by omega) (by simp) (by omega) (off := (((i + 1) * 1 : Nat) : Int)) rfl 3
      rw [ev2]
      refine ⟨_, W8, ha, H3, hb'.turned (fun b hb => ⟨h9.held b hb, .inl (by simp only [Option.some.injEq] at hb; rw [← hb]; exact hnew)⟩), Rt.gt hH ho.held (some W3.heap.size) (.inr (fun b hb => by simp only [Option.some.injEq] at hb; rw [← hb]; exact hnew)) ⟨_, n + 1, c', rfl, ?_⟩⟩
      have hfin := hc'.merge (g := g) (W0 := W) (H := H) (.inr (fun b hb => by simp only [Option.some.injEq] at hb; rw [← hb]; exact hnew))
      have heq : ∀ A : List (List Value), A.length = n + 1 → A.take i = rows.take i → (A.take i ++ [row] ++ A.drop (i + 1)).take (i + 1) ++ rows.drop i ++ (A.take i ++ [row] ++ A.drop (i + 1)).drop (i + 1 + (n - i)) = rows.take i ++ row :: rows.drop i := fun A hA hA2 => by
        have t1 : (A.take i ++ [row]).length = i + 1 := by simp; omega
        have t2 : (A.take i ++ [row] ++ A.drop (i + 1)).take (i + 1) = A.take i ++ [row] := by rw [← t1, List.take_left]
        have t3 : (A.take i ++ [row] ++ A.drop (i + 1)).drop (i + 1 + (n - i)) = [] := List.drop_of_length_le (by simp only [List.length_append, List.length_drop, t1]; omega)
        rw [t2, t3, hA2]
        simp
      rw [heq _ (by simp; omega) (by rw [List.take_append_of_le_length (by simp; omega), List.take_take, Nat.min_self])] at hfin
      exact hfin
    · -- in place
      intro W3 n3 _
      have hcn : n + 1 ≤ c := by omega
      obtain ⟨q1, q2, q3, q4, q5⟩ := id ho
      rcases q5 with ⟨rfl, _⟩ | ⟨b, C, rfl, rfl, q6, q7, q8⟩
      · omega
      have ebn : ((n : Int) + ((1 : Nat) : Int)) = ((n + 1 : Nat) : Int) := by omega
      have ei1 : ((i : Int) + ((1 : Nat) : Int)) = ((i + 1 : Nat) : Int) := by omega
      rw [ebn, ei1, slice_tail, slice_tail, slice_tail]
      have et : ∀ k, k < c → ∀ a d, vsl (tailP (some (b, 0)) c k 1) a d = .slice (ptrAt (some (b, 0)) ((k * 1 : Nat) : Int)) a d := fun k hk a d => by unfold tailP; rw [if_neg (by omega), ptrAt_shift, Int.toNat_natCast]
      have hbv : vb ≠ b := fun h => hne (by rw [h])
      have ep : tailP (some (b, 0)) c (i + 1) 1 = some ((b : Blk), (if c = i + 1 then 0 else (i + 1) * 1)) := by
        unfold tailP shiftP
        split
        · rfl
        · simp [shift_at]
      refine ⟨false, W3, by rw [ep]; exact ek_overlapsI hbv (n3.sub _ _ hv) (n3.sub _ _ q6) (by omega), Ext.refl _, fun h => (by cases h), fun _ => ⟨by omega, fun _ => ?_⟩⟩
      intro W5 n5 _
      have hsrc : Rows H (tailP (some (b, 0)) c i 1) (n - i) 1 (rows.drop i) := ho.rows.tail hi hc
      rw [et (i + 1) (by omega)]
      obtain ⟨W6, H2, h7, h8, h9⟩ := ek_copyX (P := Try.prog) Try.underlying60 i1 i3 (by omega) n5.sub ho hsrc (fun r hr => hone r (List.mem_of_mem_drop hr)) (m := n - i) (sl := n + 1 - i) (c2 := c - i) (dl := n + 1 - (i + 1)) (dc := c - (i + 1)) (k := i + 1) (by omega) (by simp [Nat.min_def]; omega) (by omega) (by omega) (by omega) (off := (((i + 1) * 1 : Nat) : Int)) rfl 3
      refine ⟨_, W6, h7, H2, h8.own ho (fun b hb => .inr hb), ?_⟩
      intro W7 n7 _
      rw [et i (by omega)]
      have hv2 : H2 vb = some (.cells row.toArray 3 (0, 0)) := by
        rw [h8.same vb (heap_lt (n5.sub _ _ hv)) (fun h => hbv (by simpa using h.symm))]
        exact hv
      rw [show i + 1 + (n - i) = n + 1 by omega] at h9
      obtain ⟨W8, H3, ha, hb', hc'⟩ := ek_copy (P := Try.prog) Try.underlying60 i1 i3 (by omega) n7.sub h9 (hrow1 H2 hv2) hone1 (m := 1) (sl := 1) (c2 := 1) (dl := n + 1 - i) (dc := c - i) (k := i) (by omega) (by simp [Nat.min_def]; omega) (by omega) (off := ((i * 1 : Nat) : Int)) rfl 3
      have en : (((n + 1 : Nat) : Int)).toNat = n + 1 := by omega
      rw [en]
      refine ⟨_, W8, ha, H3, hb'.own h9 (fun b hb => .inr hb), Rt.gt hH ho.held _ (.inl rfl) ⟨_, n + 1, c, rfl, ?_⟩⟩
      have hfin := hc'.merge (g := some b) (W0 := W) (H := H) (.inl rfl)
      have heq : (rows.take (i + 1) ++ rows.drop i).take i ++ [row] ++ (rows.take (i + 1) ++ rows.drop i).drop (i + 1) = rows.take i ++ row :: rows.drop i := by
        have t1 : (rows.take (i + 1)).length = i + 1 := by simp; omega
        rw [List.take_append_of_le_length (by omega), List.take_take, Nat.min_eq_left (by omega), List.drop_append, List.drop_of_length_le (by omega), t1, Nat.sub_self]
        simp
      rw [heq] at hfin
      exact hfin
end Go.Proofs.Ytgmgbfpoeclgiaa
namespace Go.Proofs.Ytgmgbfpoeclgiaa
open Go.RowKit
set_option maxRecDepth 100000
set_option maxHeartbeats 4000000
def v_stuCheck : VC :=
(.all 0
(.ite (.lt (.v 0) (.k 1))
(.ret (.int .i64 (.k 3)) [])
(.ite (.lt (.k 5) (.v 0))
(.ret (.int .i64 (.k 3)) [])
(.ite (.lt (.v 1) (.k 1))
(.ret (.int .i64 (.k 3)) [])
(.ite (.lt (.k 61) (.v 1))
(.ret (.int .i64 (.k 3)) [])
(.chk (.le (.k 0) (.v 3))
(.loop [(5, .i), (6, .i)] [.i (.k 0), .i (.k 0)] [.i (.v 5), .i (.v 6)]
(.ite (.lt (.v 5) (.v 3))
(.chk (.idx (.v 5) (.v 3))
(.chk (.isp 2)
(.ld 2 (.add (.k 0) (.mul (.v 5) (.k 1))) [.int .i64 (.v 7)] [(7, .i)]
(.ite (.le (.v 7) (.v 6))
(.ret (.int .i64 (.k 1)) [])
(.ite (.le (.v 1) (.v 7))
(.ret (.int .i64 (.k 1)) [])
(.chk (.rng .i64 (.add (.v 5) (.k 1)))
(.back 0 [.i (.add (.v 5) (.k 1)), .i (.v 7)])))))))
(.ret (.int .i64 (.k 0)) [])))))))))
theorem x_stuCheck (x0 : Int) (x1 : Int) (x2 : Option Loc) (x3 : Nat) (x4 : Nat) (M : Nat → Prop) (H0 : Hp) (W0 : World) (R : Ending → World → Prop) (hH : H0.le (hpOf W0)) (h :
 (∀ b0 : Nat,
 ((x0 < 1 →
  Rt R W0 M H0 nK (vi 3)) ∧
 (¬ (x0 < 1) →
  ((5 < x0 →
   Rt R W0 M H0 nK (vi 3)) ∧
  (¬ (5 < x0) →
   ((x1 < 1 →
    Rt R W0 M H0 nK (vi 3)) ∧
   (¬ (x1 < 1) →
    ((61 < x1 →
     Rt R W0 M H0 nK (vi 3)) ∧
    (¬ (61 < x1) →
     (0 ≤ (x3 : Int) ∧ (0 ≤ (x3 : Int) →
     (∃ (I0 : List Dat → Hp → Prop) (μ0 : List Dat → Nat), I0 [.i 0, .i 0] H0 ∧ ∀ H1 : Hp, ∀ x5 : Int, ∀ x6 : Int, I0 [.i x5, .i x6] H1 →
      ((x5 < (x3 : Int) →
       (((0 : Int) ≤ x5 ∧ x5 < (x3 : Int)) ∧ (((0 : Int) ≤ x5 ∧ x5 < (x3 : Int)) →
       (x2.isSome = true ∧ (x2.isSome = true →
       (∃ x7 : Int, RowAt H1 x2 (0 + (x5 * 1)) [vi x7] ∧
       ((x7 ≤ x6 →
        Rt R W0 M H1 nK (vi 1)) ∧
       (¬ (x7 ≤ x6) →
        ((x1 ≤ x7 →
         Rt R W0 M H1 nK (vi 1)) ∧
        (¬ (x1 ≤ x7) →
         (inKind .i64 (x5 + 1) ∧ (inKind .i64 (x5 + 1) →
         (I0 [.i (x5 + 1), .i x7] H1 ∧ μ0 [.i (x5 + 1), .i x7] < μ0 [.i x5, .i x6]))))))))))))) ∧
      (¬ (x5 < (x3 : Int)) →
       Rt R W0 M H1 nK (vi 0)))))))))))))))) :
  Calls Try.prog 54 #[Value.agg #[vi x0, vi x1, vsl x2 x3 x4]] W0 R :=
  calls_sxA (M := M) (V := v_stuCheck) (hi := {loops := [(5, .inv [(27, .pt (.int .i64)), (3, .pt (.int .i64))] [])]}) (args := [.agg [.int .i64 (.v 0), .int .i64 (.v 1), .slO 2 (.k 0) (.v 3) (.v 4)]]) (nv := 5) (e := (upd (upd (upd (upd (upd (fun _ => .i 0) 0 (.i x0)) 1 (.i x1)) 2 (.p x2)) 3 (.n x3)) 4 (.n x4))) Try.func54 hH h (by kernel_rfl) (by kernel_rfl) (by kernel_rfl)
def v_stuAck : VC :=
(.all 0
(.chk (.le (.k 0) (.v 3))
(.loop [(5, .i)] [.i (.k 0)] [.i (.v 5)]
(.ite (.lt (.v 5) (.v 3))
(.chk (.idx (.v 5) (.v 3))
(.chk (.isp 2)
(.ld 2 (.add (.k 0) (.mul (.v 5) (.k 1))) [.int .i64 (.v 6)] [(6, .i)]
(.chk (.rng .i64 (.add (.v 5) (.k 1)))
(.ite (.eq (.v 6) (.add (.v 5) (.k 1)))
(.back 0 [.i (.add (.v 5) (.k 1))])
(.ret (.int .i64 (.v 5)) []))))))
(.ret (.int .i64 (.v 3)) [])))))
theorem x_stuAck (x0 : Int) (x1 : Int) (x2 : Option Loc) (x3 : Nat) (x4 : Nat) (M : Nat → Prop) (H0 : Hp) (W0 : World) (R : Ending → World → Prop) (hH : H0.le (hpOf W0)) (h :
 (∀ b0 : Nat,
 (0 ≤ (x3 : Int) ∧ (0 ≤ (x3 : Int) →
 (∃ (I0 : List Dat → Hp → Prop) (μ0 : List Dat → Nat), I0 [.i 0] H0 ∧ ∀ H1 : Hp, ∀ x5 : Int, I0 [.i x5] H1 →
  ((x5 < (x3 : Int) →
   (((0 : Int) ≤ x5 ∧ x5 < (x3 : Int)) ∧ (((0 : Int) ≤ x5 ∧ x5 < (x3 : Int)) →
   (x2.isSome = true ∧ (x2.isSome = true →
   (∃ x6 : Int, RowAt H1 x2 (0 + (x5 * 1)) [vi x6] ∧
   (inKind .i64 (x5 + 1) ∧ (inKind .i64 (x5 + 1) →
   ((x6 = (x5 + 1) →
    (I0 [.i (x5 + 1)] H1 ∧ μ0 [.i (x5 + 1)] < μ0 [.i x5])) ∧
   (¬ (x6 = (x5 + 1)) →
    Rt R W0 M H1 nK (vi x5))))))))))) ∧
  (¬ (x5 < (x3 : Int)) →
   Rt R W0 M H1 nK (vi (x3 : Int))))))))) :
  Calls Try.prog 78 #[Value.agg #[vi x0, vi x1, vsl x2 x3 x4]] W0 R :=
  calls_sxA (M := M) (V := v_stuAck) (hi := {loops := [(2, .inv [(8, .pt (.int .i64))] [])]}) (args := [.agg [.int .i64 (.v 0), .int .i64 (.v 1), .slO 2 (.k 0) (.v 3) (.v 4)]]) (nv := 5) (e := (upd (upd (upd (upd (upd (fun _ => .i 0) 0 (.i x0)) 1 (.i x1)) 2 (.p x2)) 3 (.n x3)) 4 (.n x4))) Try.func78 hH h (by kernel_rfl) (by kernel_rfl) (by kernel_rfl)
def v_stuCall : VC :=
(.all 0
(.all 1
(.all 2
(.chk (.rng .i64 (.sub (.v 6) (.k 1)))
(.call 78 [.agg [.int .i64 (.v 0), .int .i64 (.v 1), .slO 2 (.k 0) (.v 3) (.v 4)]] [] [(11, .i)] (.int .i64 (.v 11)) .same
(.all 3
(.call 45 [.agg [.int .i64 (.k 2), .int .i64 (.v 5), .int .i64 (.v 0), .int .i64 (.v 6), .int .i64 (.mn (.v 11) (.sub (.v 6) (.k 1))), .int .i64 (.v 7), .int .i64 (.v 8), .int .i64 (.v 9), .int .i64 (.v 10)]] [] [(12, .i)] (.int .i64 (.v 12)) .same
(.ite (.eq (.v 12) (.k 0))
(.ret (.tup [.agg [.int .i64 (.k 2), .int .i64 (.v 5), .int .i64 (.v 0), .int .i64 (.v 6), .int .i64 (.mn (.v 11) (.sub (.v 6) (.k 1))), .int .i64 (.v 7), .int .i64 (.v 8), .int .i64 (.v 9), .int .i64 (.v 10)], .int .i64 (.k 0)]) [])
(.ret (.tup [.agg [.int .i64 (.k 0), .int .i64 (.k 0), .int .i64 (.k 0), .int .i64 (.k 0), .int .i64 (.k 0), .int .i64 (.k 0), .int .i64 (.k 0), .int .i64 (.k 0), .int .i64 (.k 0)], .int .i64 (.v 12)]) [])))))))))
theorem x_stuCall (x0 : Int) (x1 : Int) (x2 : Option Loc) (x3 : Nat) (x4 : Nat) (x5 : Int) (x6 : Int) (x7 : Int) (x8 : Int) (x9 : Int) (x10 : Int) (M : Nat → Prop) (H0 : Hp) (W0 : World) (R : Ending → World → Prop) (hH : H0.le (hpOf W0)) (h :
 (∀ b0 : Nat,
 (∀ b1 : Nat,
 (∀ b2 : Nat,
 (inKind .i64 (x6 - 1) ∧ (inKind .i64 (x6 - 1) →
 (Cl Try.prog W0 M H0 nK 78 #[Value.agg #[vi x0, vi x1, vsl x2 x3 x4]] fun z W1 W2 => ∃ x11 : Int, z = .returned (vi x11) ∧ Ext W1 W2 ∧
 (∀ b3 : Nat,
 (Cl Try.prog W0 M H0 nK 45 #[Value.agg #[vi 2, vi x5, vi x0, vi x6, vi (if (x6 - 1) < x11 then (x6 - 1) else x11), vi x7, vi x8, vi x9, vi x10]] fun z W3 W4 => ∃ x12 : Int, z = .returned (vi x12) ∧ Ext W3 W4 ∧
 ((x12 = 0 →
  Rt R W0 M H0 nK (Value.tuple #[Value.agg #[vi 2, vi x5, vi x0, vi x6, vi (if (x6 - 1) < x11 then (x6 - 1) else x11), vi x7, vi x8, vi x9, vi x10], vi 0])) ∧
 (¬ (x12 = 0) →
  Rt R W0 M H0 nK (Value.tuple #[Value.agg #[vi 0, vi 0, vi 0, vi 0, vi 0, vi 0, vi 0, vi 0, vi 0], vi x12])))))))))))) :
  Calls Try.prog 55 #[Value.agg #[vi x0, vi x1, vsl x2 x3 x4], vi x5, vi x6, Value.agg #[vi x7, vi x8, vi x9, vi x10]] W0 R :=
  calls_sxA (M := M) (V := v_stuCall) (hi := {}) (args := [.agg [.int .i64 (.v 0), .int .i64 (.v 1), .slO 2 (.k 0) (.v 3) (.v 4)], .int .i64 (.v 5), .int .i64 (.v 6), .agg [.int .i64 (.v 7), .int .i64 (.v 8), .int .i64 (.v 9), .int .i64 (.v 10)]]) (nv := 11) (e := (upd (upd (upd (upd (upd (upd (upd (upd (upd (upd (upd (fun _ => .i 0) 0 (.i x0)) 1 (.i x1)) 2 (.p x2)) 3 (.n x3)) 4 (.n x4)) 5 (.i x5)) 6 (.i x6)) 7 (.i x7)) 8 (.i x8)) 9 (.i x9)) 10 (.i x10))) Try.func55 hH h (by kernel_rfl) (by kernel_rfl) (by kernel_rfl)
def v_bsI : VC :=
(.chk (.le (.k 0) (.v 1))
(.loop [(4, .n), (5, .n)] [.n (.k 0), .n (.v 1)] [.n (.v 4), .n (.v 5)]
(.ite (.lt (.v 4) (.v 5))
(.chk (.rng .i64 (.add (.v 4) (.v 5)))
(.esc (.bop .shr 134 (.tmp 19) (.const (Value.int .u64 1))) [.int .u64 (.wrap .u64 (.add (.v 4) (.v 5))), .int .u64 (.k 1)] [] [(6, .i)] (some (.int .u64 (.v 6))) .same
(.chk (.rng .i64 (.v 6))
(.chk (.idx (.v 6) (.v 1))
(.chk (.isp 0)
(.ld 0 (.add (.k 0) (.mul (.v 6) (.k 1))) [.int .i64 (.v 7)] [(7, .i)]
(.call 81 [.int .i64 (.v 7), .int .i64 (.v 3)] [] [(8, .b)] (.bool (.v 8)) .same
(.ite (.v 8)
(.chk (.rng .i64 (.add (.v 6) (.k 1)))
(.chk (.le (.k 0) (.add (.v 6) (.k 1)))
(.chk (.le (.k 0) (.v 5))
(.back 0 [.n (.add (.v 6) (.k 1)), .n (.v 5)]))))
(.chk (.le (.k 0) (.v 4))
(.chk (.le (.k 0) (.v 6))
(.back 0 [.n (.v 4), .n (.v 6)])))))))))))
(.ite (.lt (.v 4) (.v 1))
(.chk (.idx (.v 4) (.v 1))
(.chk (.isp 0)
(.ld 0 (.add (.k 0) (.mul (.v 4) (.k 1))) [.int .i64 (.v 6)] [(6, .i)]
(.ite (.eq (.v 6) (.v 3))
(.ret (.tup [.int .i64 (.v 4), .bool (.k true)]) [])
(.ld 0 (.add (.k 0) (.mul (.v 4) (.k 1))) [.int .i64 (.v 7)] [(7, .i)]
(.call 82 [.int .i64 (.v 7)] [] [(8, .b)] (.bool (.v 8)) .same
(.ite (.v 8)
(.call 82 [.int .i64 (.v 3)] [] [(9, .b)] (.bool (.v 9)) .same
(.ret (.tup [.int .i64 (.v 4), .bool (.v 9)]) []))
(.ret (.tup [.int .i64 (.v 4), .bool (.k false)]) []))))))))
(.ret (.tup [.int .i64 (.v 4), .bool (.k false)]) [])))))
theorem x_bsI (x0 : Option Loc) (x1 : Nat) (x2 : Nat) (x3 : Int) (M : Nat → Prop) (H0 : Hp) (W0 : World) (R : Ending → World → Prop) (hH : H0.le (hpOf W0)) (h :
 (0 ≤ (x1 : Int) ∧ (0 ≤ (x1 : Int) →
 (∃ (I0 : List Dat → Hp → Prop) (μ0 : List Dat → Nat), I0 [.n 0, .n x1] H0 ∧ ∀ H1 : Hp, ∀ x4 : Nat, ∀ x5 : Nat, I0 [.n x4, .n x5] H1 →
  (((x4 : Int) < (x5 : Int) →
   (inKind .i64 ((x4 : Int) + (x5 : Int)) ∧ (inKind .i64 ((x4 : Int) + (x5 : Int)) →
   (Es W0 M H1 nK fun W1 => ∃ x6 : Int, Eo Try.prog (.bop .shr 134 (.tmp 19) (.const (Value.int .u64 1))) [Value.int .u64 (IntKind.wrap .u64 ((x4 : Int) + (x5 : Int))), Value.int .u64 1] W1 (.value (Value.int .u64 x6)) fun W2 => Ext W1 W2 ∧
   (inKind .i64 x6 ∧ (inKind .i64 x6 →
   (((0 : Int) ≤ x6 ∧ x6 < (x1 : Int)) ∧ (((0 : Int) ≤ x6 ∧ x6 < (x1 : Int)) →
   (x0.isSome = true ∧ (x0.isSome = true →
   (∃ x7 : Int, RowAt H1 x0 (0 + (x6 * 1)) [vi x7] ∧
   (Cl Try.prog W0 M H1 nK 81 #[vi x7, vi x3] fun z W3 W4 => ∃ x8 : Bool, z = .returned (vb (x8)) ∧ Ext W3 W4 ∧
   ((x8 = true →
    (inKind .i64 (x6 + 1) ∧ (inKind .i64 (x6 + 1) →
    (0 ≤ (x6 + 1) ∧ (0 ≤ (x6 + 1) →
    (0 ≤ (x5 : Int) ∧ (0 ≤ (x5 : Int) →
    (I0 [.n ((x6 + 1) : Int).toNat, .n x5] H1 ∧ μ0 [.n ((x6 + 1) : Int).toNat, .n x5] < μ0 [.n x4, .n x5])))))))) ∧
   (¬ (x8 = true) →
    (0 ≤ (x4 : Int) ∧ (0 ≤ (x4 : Int) →
    (0 ≤ x6 ∧ (0 ≤ x6 →
    (I0 [.n x4, .n (x6).toNat] H1 ∧ μ0 [.n x4, .n (x6).toNat] < μ0 [.n x4, .n x5]))))))))))))))))))) ∧
  (¬ ((x4 : Int) < (x5 : Int)) →
   (((x4 : Int) < (x1 : Int) →
    (((0 : Int) ≤ (x4 : Int) ∧ (x4 : Int) < (x1 : Int)) ∧ (((0 : Int) ≤ (x4 : Int) ∧ (x4 : Int) < (x1 : Int)) →
    (x0.isSome = true ∧ (x0.isSome = true →
    (∃ x6 : Int, RowAt H1 x0 (0 + ((x4 : Int) * 1)) [vi x6] ∧
    ((x6 = x3 →
     Rt R W0 M H1 nK (Value.tuple #[vi (x4 : Int), vb (true)])) ∧
    (¬ (x6 = x3) →
     (∃ x7 : Int, RowAt H1 x0 (0 + ((x4 : Int) * 1)) [vi x7] ∧
     (Cl Try.prog W0 M H1 nK 82 #[vi x7] fun z W1 W2 => ∃ x8 : Bool, z = .returned (vb (x8)) ∧ Ext W1 W2 ∧
     ((x8 = true →
      (Cl Try.prog W0 M H1 nK 82 #[vi x3] fun z W3 W4 => ∃ x9 : Bool, z = .returned (vb (x9)) ∧ Ext W3 W4 ∧
      Rt R W0 M H1 nK (Value.tuple #[vi (x4 : Int), vb (x9)]))) ∧
     (¬ (x8 = true) →
      Rt R W0 M H1 nK (Value.tuple #[vi (x4 : Int), vb (false)]))))))))))))) ∧
   (¬ ((x4 : Int) < (x1 : Int)) →
    Rt R W0 M H1 nK (Value.tuple #[vi (x4 : Int), vb (false)]))))))))) :
  Calls Try.prog 60 #[vsl x0 x1 x2, vi x3] W0 R :=
  calls_sxA (M := M) (V := v_bsI) (hi := {loops := [(3, .inv [(7, .nat), (8, .nat)] [])]}) (args := [.slO 0 (.k 0) (.v 1) (.v 2), .int .i64 (.v 3)]) (nv := 4) (e := (upd (upd (upd (upd (fun _ => .i 0) 0 (.p x0)) 1 (.n x1)) 2 (.n x2)) 3 (.i x3))) Try.func60 hH h (by kernel_rfl) (by kernel_rfl) (by kernel_rfl)
def v_lessI : VC :=
(.call 111 [.int .i64 (.v 0)] [] [(2, .b)] (.bool (.v 2)) .same
(.ite (.v 2)
(.call 111 [.int .i64 (.v 1)] [] [(3, .b)] (.bool (.v 3)) .same
(.ite (.v 3)
(.ret (.bool (.lt (.v 0) (.v 1))) [])
(.ret (.bool (.k true)) [])))
(.ret (.bool (.lt (.v 0) (.v 1))) [])))
theorem x_lessI (x0 : Int) (x1 : Int) (M : Nat → Prop) (H0 : Hp) (W0 : World) (R : Ending → World → Prop) (hH : H0.le (hpOf W0)) (h :
 (Cl Try.prog W0 M H0 nK 111 #[vi x0] fun z W1 W2 => ∃ x2 : Bool, z = .returned (vb (x2)) ∧ Ext W1 W2 ∧
 ((x2 = true →
  (Cl Try.prog W0 M H0 nK 111 #[vi x1] fun z W3 W4 => ∃ x3 : Bool, z = .returned (vb (x3)) ∧ Ext W3 W4 ∧
  ((x3 = true →
   Rt R W0 M H0 nK (vb (decide (x0 < x1)))) ∧
  (¬ (x3 = true) →
   Rt R W0 M H0 nK (vb (true)))))) ∧
 (¬ (x2 = true) →
  Rt R W0 M H0 nK (vb (decide (x0 < x1))))))) :
  Calls Try.prog 81 #[vi x0, vi x1] W0 R :=
  calls_sxA (M := M) (V := v_lessI) (hi := {}) (args := [.int .i64 (.v 0), .int .i64 (.v 1)]) (nv := 2) (e := (upd (upd (fun _ => .i 0) 0 (.i x0)) 1 (.i x1))) Try.func81 hH h (by kernel_rfl) (by kernel_rfl) (by kernel_rfl)
def v_nanI : VC :=
(.ret (.bool (.not (.eq (.v 0) (.v 0)))) [])
theorem x_nanI (x0 : Int) (M : Nat → Prop) (H0 : Hp) (W0 : World) (R : Ending → World → Prop) (hH : H0.le (hpOf W0)) (h :
 Rt R W0 M H0 nK (vb ((!decide (x0 = x0))))) :
  Calls Try.prog 82 #[vi x0] W0 R :=
  calls_sxA (M := M) (V := v_nanI) (hi := {}) (args := [.int .i64 (.v 0)]) (nv := 1) (e := (upd (fun _ => .i 0) 0 (.i x0))) Try.func82 hH h (by kernel_rfl) (by kernel_rfl) (by kernel_rfl)
def v_nanC : VC :=
(.ret (.bool (.not (.eq (.v 0) (.v 0)))) [])
theorem x_nanC (x0 : Int) (M : Nat → Prop) (H0 : Hp) (W0 : World) (R : Ending → World → Prop) (hH : H0.le (hpOf W0)) (h :
 Rt R W0 M H0 nK (vb ((!decide (x0 = x0))))) :
  Calls Try.prog 111 #[vi x0] W0 R :=
  calls_sxA (M := M) (V := v_nanC) (hi := {}) (args := [.int .i64 (.v 0)]) (nv := 1) (e := (upd (fun _ => .i 0) 0 (.i x0))) Try.func111 hH h (by kernel_rfl) (by kernel_rfl) (by kernel_rfl)
end Go.Proofs.Ytgmgbfpoeclgiaa
namespace Go.Proofs.Ytgmgbfpoeclgiaa
open Go.RowKit

section
variable {H K : Hp} {p p' : Option Loc} {n c n' c' : Nat} {l m : List Int}
theorem c_stuCheck {s : Stb} (hk : Ints H p n c s.came) : Gv Try.prog 54 #[.agg #[vi s.client, vi s.next, vsl p n c]] H (vi s.err) := fun W hH => by
  have hn := hk.len
  have h63 := hk.lt63
  refine x_stuCheck _ _ p n c noM H W _ hH fun b0 => ⟨fun h => Rt.gv' (by rw [stb_range (by omega)]), fun k1 => ⟨fun h => Rt.gv' (by rw [stb_range (by omega)]), fun k2 => ⟨fun h => Rt.gv' (by rw [stb_range (by omega)]), fun k3 => ⟨fun h => Rt.gv' (by rw [stb_range (by omega)]), fun k4 => ⟨by omega, fun _ => ?_⟩⟩⟩⟩⟩
  have h0 : ¬ (s.client < 1 ∨ 5 < s.client ∨ s.next < 1 ∨ 61 < s.next) := by omega
  refine ⟨fun v K => match v with | [.i k, .i a] => ∃ j : Nat, k = j ∧ j ≤ n ∧ H.le K ∧ cameOk s.next a (s.came.drop j) = cameOk s.next 0 s.came | _ => False, fun v => match v with | [.i k, _] => n - k.toNat | _ => 0, ⟨0, rfl, by omega, Hp.le_refl H, by simp⟩, fun K k a hI => ?_⟩
  obtain ⟨j, rfl, hj, hle, hf⟩ := hI
  refine ⟨fun hlt => ⟨⟨by omega, hlt⟩, fun _ => ?_⟩, fun hge => Rt.gv' ?_⟩
  · obtain ⟨x, hx, hat⟩ := (hk.mono hle).at (k := j) (by omega)
    rw [drop_cons hx, cameOk] at hf
    have no : ¬ (a < x ∧ x < s.next) → vi 1 = vi s.err := fun h => by
      rw [decide_eq_false h, Bool.false_and] at hf
      rw [stb_form h0 hf.symm]
    refine ⟨hat.isSome, fun _ => ⟨x, hat, fun h => Rt.gv' (no (by omega)), fun h1 => ⟨fun h => Rt.gv' (no (by omega)), fun h2 => ⟨in64 (by omega), fun _ => ⟨⟨j + 1, by omega, by omega, hle, ?_⟩, by simp only; omega⟩⟩⟩⟩⟩
    rw [← hf, decide_eq_true (by omega), Bool.true_and]
  · rw [stb_ok h0]
    rw [← hf, List.drop_of_length_le (by omega)]
    rfl
theorem c_stuAck {s : Stb} (hk : Ints H p n c s.came) : Gv Try.prog 78 #[.agg #[vi s.client, vi s.next, vsl p n c]] H (vi ((ackF 0 s.came : Nat) : Int)) := fun W hH => by
  have hn := hk.len
  have h63 := hk.lt63
  refine x_stuAck _ _ p n c noM H W _ hH fun b0 => ⟨by omega, fun _ => ?_⟩
  refine ⟨fun v K => match v with | [.i k] => ∃ j : Nat, k = j ∧ j ≤ n ∧ H.le K ∧ ackF j (s.came.drop j) = ackF 0 s.came | _ => False, fun v => match v with | [.i k] => n - k.toNat | _ => 0, ⟨0, rfl, by omega, Hp.le_refl H, by simp⟩, fun K k hI => ?_⟩
  obtain ⟨j, rfl, hj, hle, hf⟩ := hI
  refine ⟨fun hlt => ⟨⟨by omega, hlt⟩, fun _ => ?_⟩, fun hge => Rt.gv' ?_⟩
  · obtain ⟨x, hx, hat⟩ := (hk.mono hle).at (k := j) (by omega)
    rw [drop_cons hx, ackF] at hf
    refine ⟨hat.isSome, fun _ => ⟨x, hat, in64 (by omega), fun _ => ⟨fun h => ⟨⟨j + 1, by omega, by omega, hle, ?_⟩, by simp only; omega⟩, fun h => Rt.gv' ?_⟩⟩⟩
    · rw [← hf, if_pos h]
    · rw [← hf, if_neg h]
  · rw [← hf, List.drop_of_length_le (by omega)]
    simp only [ackF]
    congr 1
    omega
theorem c_stuCall {s : Stb} (hk : Ints H p n c s.came) (time seq : Int) (hs : 0 ≤ seq ∧ seq ≤ 9223372036854775807) (x : POp) :
    Gv Try.prog 55 #[.agg #[vi s.client, vi s.next, vsl p n c], vi time, vi seq, x.vals] H (.tuple #[(s.doCall time seq x).1.val, vi (s.doCall time seq x).2]) := fun W hH => by
  refine x_stuCall _ _ p n c _ _ _ _ _ _ noM H W _ hH fun b0 b1 b2 => ⟨in64 (by omega), fun _ => ?_⟩
  refine Cl.same (c_stuAck hk) fun _ _ hx => ⟨_, rfl, hx, fun b3 => ?_⟩
  refine Cl.same (c_entCheck (s.call time seq x) H) fun _ _ hx => ⟨_, rfl, hx, fun h => Rt.gv' ?_, fun h => Rt.gv' ?_⟩
  · rw [show s.doCall time seq x = (s.call time seq x, 0) from if_pos h]; rfl
  · rw [show s.doCall time seq x = (Ent.zero, (s.call time seq x).err) from if_neg h]; rfl
theorem c_nanC (a : Int) (H : Hp) : Gv Try.prog 111 #[vi a] H (vb false) := fun W hH => x_nanC a noM H W _ hH (Rt.gv' (by simp))
theorem c_nanI (a : Int) (H : Hp) : Gv Try.prog 82 #[vi a] H (vb false) := fun W hH => x_nanI a noM H W _ hH (Rt.gv' (by simp))
theorem c_lessI (a b : Int) (H : Hp) : Gv Try.prog 81 #[vi a, vi b] H (vb (decide (a < b))) := fun W hH => by
  refine x_lessI a b noM H W _ hH ?_
  exact Cl.same (c_nanC a H) fun _ _ hx => ⟨_, rfl, hx, fun h => (by cases h), fun _ => Rt.gv⟩
theorem c_bsI (hk : Ints H p n c l) (ho : l.Pairwise fun a b => a < b) (hs : n ≤ 4611686018427387903) (x : Int) :
    Gv Try.prog 60 #[vsl p n c, vi x] H (.tuple #[vi (posI l x), vb (decide (x ∈ l))]) := fun W hH => by
  have hn := hk.len
  have hpw := List.pairwise_iff_getElem.1 ho
  refine x_bsI p n c x noM H W _ hH ⟨by omega, fun _ => ?_⟩
  refine ⟨fun v K => match v with | [.n i, .n j] => i ≤ j ∧ j ≤ n ∧ H.le K ∧ (∀ (k : Nat) (s : Int), k < i → l[k]? = some s → s < x) ∧ (∀ (k : Nat) (s : Int), j ≤ k → l[k]? = some s → x ≤ s) | _ => False,
    fun v => match v with | [.n i, .n j] => j - i | _ => 0, ⟨by omega, by omega, Hp.le_refl H, fun k s hk => by omega, fun k s hk hks => by have := (List.getElem?_eq_some_iff.1 hks).1; omega⟩, fun K i j hI => ?_⟩
  obtain ⟨hij, hj, hle, h1, h2⟩ := hI
  refine ⟨fun hlt => ⟨in64 (by omega), fun _ => ?_⟩, fun hge => ?_⟩
  · intro W1 _ _
    refine ⟨_, _, ek_shr _ _ _ (by omega) (by omega) W1, Ext.refl _, in64 (by omega), fun _ => ⟨⟨by omega, by omega⟩, fun _ => ?_⟩⟩
    obtain ⟨m, hm⟩ : ∃ m : Nat, ((i : Int) + j) / 2 = m := ⟨(((i : Int) + j) / 2).toNat, by omega⟩
    rw [hm]
    have hmi : i ≤ m ∧ m < j := by omega
    obtain ⟨s, hs, hat⟩ := (hk.mono hle).at (k := m) (by omega)
    refine ⟨hat.isSome, fun _ => ⟨_, hat, ?_⟩⟩
    have hml : m < l.length := by omega
    have hsm := (List.getElem?_eq_some_iff.1 hs).2
    refine Cl.same (c_lessI s x K) fun _ _ hx => ⟨_, rfl, hx, fun h0 => ⟨in64 (by omega), fun _ => ⟨by omega, fun _ => ⟨by omega, fun _ => ?_⟩⟩⟩, fun h0 => ⟨by omega, fun _ => ⟨by omega, fun _ => ?_⟩⟩⟩
    · have hlt := of_decide_eq_true h0
      rw [show ((m : Int) + 1).toNat = m + 1 by omega]
      refine ⟨⟨by omega, by omega, hle, fun k t hk hkt => ?_, h2⟩, by simp only; omega⟩
      rcases Nat.eq_or_lt_of_le (Nat.le_of_lt_succ hk) with rfl | hk'
      · rw [hs] at hkt; simp only [Option.some.injEq] at hkt; rw [← hkt]; exact hlt
      · have hkl : k < l.length := by omega
        have h5 := hpw k m hkl hml hk'
        rw [hsm, (List.getElem?_eq_some_iff.1 hkt).2] at h5
        omega
    · have hge : ¬ s < x := fun hh => h0 (decide_eq_true hh)
      rw [show ((m : Int)).toNat = m by omega]
      refine ⟨⟨by omega, by omega, hle, h1, fun k t hk hkt => ?_⟩, by simp only; omega⟩
      rcases Nat.eq_or_lt_of_le hk with rfl | hk'
      · rw [hs] at hkt; simp only [Option.some.injEq] at hkt; rw [← hkt]; omega
      · have hkl : k < l.length := (List.getElem?_eq_some_iff.1 hkt).1
        have h5 := hpw m k hml hkl hk'
        rw [hsm, (List.getElem?_eq_some_iff.1 hkt).2] at h5
        omega
  · have hij2 : i = j := by omega
    subst hij2
    have e1 : posI l x = i := by
      have ht : l.take i = l.filter fun y => decide (y < x) := by
        rw [← List.take_append_drop i l, List.filter_append]
        have a1 : (l.take i).filter (fun y => decide (y < x)) = l.take i := by
          rw [List.filter_eq_self]
          intro y hy
          obtain ⟨k, hk2, rfl⟩ := List.mem_iff_getElem.1 hy
          have hkl : k < l.length := by simp at hk2; omega
          have := h1 k l[k] (by simp at hk2; omega) (List.getElem?_eq_getElem hkl)
          simpa using this
        have a2 : (l.drop i).filter (fun y => decide (y < x)) = [] := by
          rw [List.filter_eq_nil_iff]
          intro y hy
          obtain ⟨k, hk2, rfl⟩ := List.mem_iff_getElem.1 hy
          have hkl : i + k < l.length := by simp at hk2; omega
          have := h2 (i + k) l[i + k] (by omega) (List.getElem?_eq_getElem hkl)
          simp only [List.getElem_drop, decide_eq_true_eq]
          omega
        rw [a1, a2, List.append_nil, List.take_append_drop]
      unfold posI
      rw [← ht, List.length_take]
      omega
    have e2 : x ∈ l ↔ l[i]? = some x := by
      constructor
      · intro hm
        obtain ⟨k, hkl, hkx⟩ := List.mem_iff_getElem.1 hm
        rcases Nat.lt_trichotomy k i with h3 | h3 | h3
        · have := h1 k x h3 (by rw [List.getElem?_eq_getElem hkl, hkx]); omega
        · subst h3; rw [List.getElem?_eq_getElem hkl, hkx]
        · have hil : i < l.length := by omega
          have h4 := hpw i k hil hkl h3
          have h5 := h2 i l[i] (Nat.le_refl _) (List.getElem?_eq_getElem hil)
          omega
      · exact List.mem_of_getElem?
    refine ⟨fun hlt => ⟨⟨by omega, hlt⟩, fun _ => ?_⟩, fun hge2 => Rt.gv' ?_⟩
    · obtain ⟨s, hs, hat⟩ := (hk.mono hle).at (k := i) (by omega)
      refine ⟨hat.isSome, fun _ => ⟨_, hat, fun h => Rt.gv' ?_, fun h => ⟨_, hat, ?_⟩⟩⟩
      · rw [e1, decide_eq_true (e2.2 (by rw [hs, h]))]
      · refine Cl.same (c_nanI s K) fun _ _ hx => ⟨_, rfl, hx, fun h => (by cases h), fun _ => Rt.gv' ?_⟩
        rw [e1, decide_eq_false (fun hh => h (by rw [hs] at e2; simpa using e2.1 hh))]
    · rw [e1, decide_eq_false (fun hh => by have := (List.getElem?_eq_some_iff.1 (e2.1 hh)).1; omega)]
end
end Go.Proofs.Ytgmgbfpoeclgiaa
namespace Go.Proofs.Ytgmgbfpoeclgiaa
open Go.RowKit

abbrev Stb.val (s : Stb) (v : Value) : Value := .agg #[vi s.client, vi s.next, v]
section
variable {H : Hp} {p : Option Loc} {n c : Nat}
theorem fin_I {W : World} {K : Hp} {p : Option Loc} {n c : Nat} {l : List Int} {g : Option Nat} (ho : Ow K 3 1 p n c (l.map irow) g) (hg : ∀ b, g = some b → W.heap.size ≤ b) : Ints (newer W K) p n c l := Ints.of_ow (ho.new hg)
theorem call_ok {s : Stb} {time seq : Int} {x : POp} (h : (s.call time seq x).err = 0) : s.doCall time seq x = (s.call time seq x, 0) := if_pos h
theorem call_no {s : Stb} {time seq : Int} {x : POp} (h : ¬ (s.call time seq x).err = 0) : s.doCall time seq x = (Ent.zero, (s.call time seq x).err) := if_neg h
theorem c_stuNext {s : Stb} (hk : Ints H p n c s.came) (time : Int) (x : POp) :
    Gf Try.prog 25 #[s.val (vsl p n c), vi time, x.vals] H fun v D => ∃ p' n' c', v = .tuple #[(s.doNext time x).1.val (vsl p' n' c'), (s.doNext time x).2.1.val, vi (s.doNext time x).2.2] ∧ Ints D p' n' c' (s.doNext time x).1.came := fun W hH => by
  refine x_stuNext _ _ p n c _ _ _ _ _ noM H W _ hH fun b0 b1 b2 b3 => ?_
  refine Cl.same (c_stuCheck hk) fun _ _ hx => ⟨_, rfl, hx, fun h0 => ?_, fun h0 => Rt.gfn ⟨none, 0, 0, ?_, Ints.of_ow (g := none) ?_⟩⟩
  · have ok := Stb.err_ok h0
    have hnx := ok.next
    refine Cl.same (c_stuCall hk time s.next (by omega) x) fun _ _ hx => ?_
    by_cases he : (s.call time s.next x).err = 0
    · rw [call_ok he]
      have hd : s.doNext time x = ({ s with next := s.next + 1 }, s.call time s.next x, 0) := by unfold Stb.doNext; rw [if_pos h0, if_pos he]
      refine ⟨_, _, _, _, _, _, _, _, _, _, rfl, hx, fun b4 => ⟨fun _ => ?_, fun h => absurd rfl h⟩⟩
      refine Cl.fresh (c_cloneI hk (by rw [hk.len]; have := came_len ok; omega)) ?_
      rintro v W1 W2 D ⟨p', c', g, rfl, ho⟩ hx2 hD hf n1
      refine ⟨p', n, c', rfl, hx2, D, hD, hf, fun H1 h01 hD1 => ⟨in64 (by omega), fun _ => Rt.gf hD1 (fun b o h => Nat.le_trans n1.mod.size (hf b o h)) ⟨p', n, c', ?_, ?_⟩⟩⟩
      · rw [hd]
      · rw [hd]; exact Ints.of_ow ho
    · rw [call_no he]
      have hd : s.doNext time x = (Stb.zero, Ent.zero, (s.call time s.next x).err) := by unfold Stb.doNext; rw [if_pos h0, if_neg he]
      refine ⟨_, _, _, _, _, _, _, _, _, _, rfl, hx, fun b4 => ⟨fun h => absurd h he, fun _ => Rt.gfn ⟨none, 0, 0, ?_, ?_⟩⟩⟩
      · rw [hd]; rfl
      · rw [hd]; exact Ints.nil _ _
  · have hd : s.doNext time x = (Stb.zero, Ent.zero, s.err) := by unfold Stb.doNext; rw [if_neg h0]
    rw [hd]; rfl
  · have hd : s.doNext time x = (Stb.zero, Ent.zero, s.err) := by unfold Stb.doNext; rw [if_neg h0]
    rw [hd]; exact Ow.nil _ _ _ _
theorem again_err {s : Stb} (h : ¬ s.err = 0) (time seq : Int) (x : POp) : s.doAgain time seq x = (Ent.zero, s.err) := if_neg h
theorem again_none {s : Stb} (h : s.err = 0) {time seq : Int} {x : POp} (h2 : seq < 1 ∨ s.next ≤ seq ∨ seq ∈ s.came) : s.doAgain time seq x = (Ent.zero, 5) := by unfold Stb.doAgain; rw [if_pos h, if_pos h2]
theorem again_call {s : Stb} (h : s.err = 0) {time seq : Int} {x : POp} (h2 : ¬ (seq < 1 ∨ s.next ≤ seq ∨ seq ∈ s.came)) : s.doAgain time seq x = s.doCall time seq x := by unfold Stb.doAgain; rw [if_pos h, if_neg h2]
theorem c_stuAgain {s : Stb} (hk : Ints H p n c s.came) (time seq : Int) (x : POp) :
    Gv Try.prog 26 #[s.val (vsl p n c), vi time, vi seq, x.vals] H (.tuple #[(s.doAgain time seq x).1.val, vi (s.doAgain time seq x).2]) := fun W hH => by
  refine x_stuAgain _ _ p n c _ _ _ _ _ _ noM H W _ hH fun b0 b1 b2 => ?_
  refine Cl.same (c_stuCheck hk) fun _ _ hx => ⟨_, rfl, hx, fun h0 => ?_, fun h0 => Rt.gv' (by rw [again_err h0]; rfl)⟩
  have ok := Stb.err_ok h0
  have hnx := ok.next
  refine ⟨fun h => Rt.gv' (by rw [again_none h0 (.inl h)]; rfl), fun h1 => ⟨fun h => Rt.gv' (by rw [again_none h0 (.inr (.inl h))]; rfl), fun h2 => ?_⟩⟩
  refine Cl.same (c_containsI hk seq) fun _ _ hx => ⟨_, rfl, hx, fun h => Rt.gv' (by rw [again_none h0 (.inr (.inr (of_decide_eq_true h)))]; rfl), fun h => ?_⟩
  have hno : ¬ (seq < 1 ∨ s.next ≤ seq ∨ seq ∈ s.came) := by
    rintro (h3 | h3 | h3)
    · exact h1 h3
    · exact h2 h3
    · exact h (decide_eq_true h3)
  refine Cl.same (c_stuCall hk time seq (by omega) x) fun _ _ hx => ⟨_, _, _, _, _, _, _, _, _, _, rfl, hx, Rt.gv' (by rw [again_call h0 hno])⟩
theorem came_err {s : Stb} (h : ¬ s.err = 0) (seq : Int) : s.doCame seq = (Stb.zero, s.err) := if_neg h
theorem came_none {s : Stb} (h : s.err = 0) {seq : Int} (h2 : seq < 1 ∨ s.next ≤ seq) : s.doCame seq = (Stb.zero, 5) := by unfold Stb.doCame; rw [if_pos h, if_pos h2]
theorem came_put {s : Stb} (h : s.err = 0) {seq : Int} (h2 : ¬ (seq < 1 ∨ s.next ≤ seq)) : s.doCame seq = ({ s with came := putI s.came seq }, 0) := by unfold Stb.doCame; rw [if_pos h, if_neg h2]
theorem c_stuCame {s : Stb} (hk : Ints H p n c s.came) (seq : Int) :
    Gf Try.prog 29 #[s.val (vsl p n c), vi seq] H fun v D => ∃ p' n' c', v = .tuple #[(s.doCame seq).1.val (vsl p' n' c'), vi (s.doCame seq).2] ∧ Ints D p' n' c' (s.doCame seq).1.came := fun W hH => by
  refine x_stuCame _ _ p n c _ noM H W _ hH fun b0 b1 => ?_
  refine Cl.same (c_stuCheck hk) fun _ _ hx => ⟨_, rfl, hx, fun h0 => ?_, fun h0 => Rt.gfn ⟨none, 0, 0, by rw [came_err h0]; rfl, by rw [came_err h0]; exact Ints.nil _ _⟩⟩
  have ok := Stb.err_ok h0
  have hnx := ok.next
  have hl := came_len ok
  have hkl := hk.len
  refine ⟨fun h => Rt.gfn ⟨none, 0, 0, by rw [came_none h0 (.inl h)]; rfl, by rw [came_none h0 (.inl h)]; exact Ints.nil _ _⟩, fun h1 => ⟨fun h => Rt.gfn ⟨none, 0, 0, by rw [came_none h0 (.inr h)]; rfl, by rw [came_none h0 (.inr h)]; exact Ints.nil _ _⟩, fun h2 => ?_⟩⟩
  have hd := came_put h0 (seq := seq) (by omega)
  refine Cl.fresh (c_cloneI hk (by omega)) ?_
  rintro v W1 W2 D ⟨p', c', g, rfl, ho⟩ hx hD hf n1
  refine ⟨p', n, c', rfl, hx, D, hD, hf, fun H1 h01 hD1 => ?_⟩
  have ho1 : Ow H1 3 1 p' n c' (s.came.map irow) g := ho.mono fun b _ o h => hD1 b o h
  have hg0 : ∀ b, g = some b → W.heap.size ≤ b := fun b hb => by
    obtain ⟨o, h⟩ := ho.held b hb
    exact Nat.le_trans n1.mod.size (hf b o h)
  refine Cl.same (c_bsI (Ints.of_ow ho1) ok.ord (by omega) seq) fun _ _ hx => ⟨_, _, rfl, hx, fun h => Rt.gfn ⟨p', n, c', by rw [hd], ?_⟩, fun h b2 => ?_⟩
  · rw [hd, show putI s.came seq = s.came from putI_has ok.ord (of_decide_eq_true h)]
    exact fin_I ho1 hg0
  · have hnm : seq ∉ s.came := fun hh => h (decide_eq_true hh)
    have hpl := posI_le s.came seq
    have hc := fun hb0 : H1 b2 = none => c_insertI (H := addH H1 b2 (.cells #[vi seq] 3 (0, 0))) (g := g) (p := p') (n := n) (c := c') (rows := s.came.map irow) (ho1.mono fun b _ o h => le_addH hb0 b o h) (i := posI s.came seq) (by omega) (vb := b2) (row := [vi seq]) (addH_at ..) rfl (fun v hv => by simp only [List.mem_singleton] at hv; subst hv; rfl) (fun h => by
      obtain ⟨o, h2⟩ := ho1.held b2 h
      rw [hb0] at h2; cases h2) (by omega)
    refine Cl.turnK (g := g) (b := b2) (o := .cells #[vi seq] 3 (0, 0)) (fun _ k => k.1) hc ?_
    rintro v W3 W4 H' g' ⟨p2, n2, c2, rfl, ho'⟩ hu hg' n3 hb0 hlt
    have hgb : g' ≠ some b2 := fun h => by
      rcases hg' with h1 | h1
      · obtain ⟨o, h2⟩ := ho1.held b2 (h1 ▸ h)
        rw [hb0] at h2; cases h2
      · have := h1 b2 h; omega
    have ho2 := less_ow ho' hgb
    have hrows : (s.came.map irow).take (posI s.came seq) ++ [vi seq] :: (s.came.map irow).drop (posI s.came seq) = (putI s.came seq).map irow := by
      rw [← putI_not ok.ord hnm, List.map_append, List.map_cons, List.map_take, List.map_drop]
      rfl
    rw [hrows] at ho2
    exact ⟨p2, n2, c2, rfl, less b2 H', hu.own ho1 (fun b hb => .inl (hg0 b hb)), Rt.gfn ⟨p2, n2, c2, by rw [hd], by rw [hd]; exact fin_I ho2 (new_turn hg0 n3.mod.size hg')⟩⟩
end
end Go.Proofs.Ytgmgbfpoeclgiaa
