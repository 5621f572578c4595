/- Bytes and strings: what conversions, slices of strings, shifts and appends of bytes do. No conditions. States as bytes: plain data. What is written is read as it was, and nothing else is. No conditions. Symbolic runs of functions: what each leaves to prove is enough for its call. Printed by a program of ours. No conditions. Contracts: what reads a state out of bytes. No conditions. Contracts: Read of a state: a deferred closure catches what is thrown. No conditions. -/
import Derived.Test.YtoilhpkclabhoaaKE4
import Derived.Test.YtoilhpkclabhoaaKD1
import Derived.Test.YtoilhpkclabhoaaProg
import Derived.WalkKit
import Derived.Laws.IdiomStrings
import Derived.Laws.Strings3
import Derived.Test.YtoilhpkclabhoaaKU1
import Derived.Test.YtoilhpkclabhoaaKS4
import Derived.Test.YtoilhpkclabhoaaKE3
import Derived.Test.YtoilhpkclabhoaaKS2
import Derived.RecoverIn
set_option linter.unusedVariables false
set_option linter.unusedSimpArgs false
namespace Go.Proofs.Ytoilhpkclabhoaa
open Go.RowKit

theorem infoByte : infoIs Try.prog 5 1 1 = true := by kernel_rfl
def yrow (b : UInt8) : List Value := [.int .u8 (b.toNat : Int)]
def bs (l : List UInt8) : ByteArray := ⟨l.toArray⟩
theorem data_len (s : ByteArray) : s.data.toList.length = s.size := Array.length_toList ..
theorem bs_size (l : List UInt8) : (bs l).size = l.length := by simp [bs, ByteArray.size]
/-- a number's lowest byte -/
def b8 (n : Int) : UInt8 := UInt8.ofNat (n % 256).toNat
theorem b8_nat (n : Int) : ((b8 n).toNat : Int) = n % 256 := by
  unfold b8
  have h0 : 0 ≤ n % 256 := Int.emod_nonneg _ (by omega)
  have h1 : n % 256 < 256 := Int.emod_lt_of_pos _ (by omega)
  rw [UInt8.toNat_ofNat']
  omega
theorem wrap8 (n : Int) : IntKind.wrap .u8 n = ((b8 n).toNat : Int) := by
  rw [b8_nat]
  simp [IntKind.wrap, IntKind.bits, IntKind.signed]
theorem b8_toNat (b : UInt8) : b8 (b.toNat : Int) = b := by
  apply UInt8.toNat_inj.1
  have := b8_nat (b.toNat : Int)
  have h := b.toNat_lt
  omega
theorem b8_mod (n m : Int) (h : n % 256 = m % 256) : b8 n = b8 m := by unfold b8; rw [h]
theorem ones_b (l : List UInt8) : ∀ r ∈ l.map yrow, ∀ v ∈ r, v.oneCell' = true := fun r hr v hv => by
  obtain ⟨x, _, rfl⟩ := List.mem_map.1 hr
  simp only [yrow, List.mem_singleton] at hv
  subst hv
  rfl
theorem brows_wid (l : List UInt8) : ∀ r ∈ l.map yrow, r.length = 1 ∧ ∀ v ∈ r, v.oneCell' = true := fun r hr => ⟨by
  obtain ⟨x, _, rfl⟩ := List.mem_map.1 hr
  rfl, ones_b l r hr⟩
theorem flat_b (l : List UInt8) : (l.map yrow).flatten = l.map fun b => Value.int .u8 (b.toNat : Int) := by
  induction l with
  | nil => rfl
  | cons b l ih => simp only [List.map_cons, List.flatten_cons, ih]; rfl
/-- an array of bytes of one's own -/
abbrev By (H : Hp) (p : Option Loc) (n c : Nat) (l : List UInt8) (g : Option Nat) : Prop := Ow H 5 1 p n c (l.map yrow) g
abbrev Bs (H : Hp) (p : Option Loc) (n : Nat) (l : List UInt8) : Prop := Rows H p n 1 (l.map yrow)
section
variable {H : Hp} {W : World} {p : Option Loc} {n c : Nat} {l : List UInt8} {g : Option Nat}
theorem Bs.len (h : Bs H p n l) : n = l.length := by simpa using Rows.len h
theorem Bs.at {k : Nat} (h : Bs H p n l) (hk : k < n) : ∃ b : UInt8, l[k]? = some b ∧ RowAt H p (0 + (k : Int) * 1) [.int .u8 (b.toNat : Int)] := by
  obtain ⟨row, h1, _, h3⟩ := Rows.at h hk (off := 0 + (k : Int) * 1) (by omega)
  rw [List.getElem?_map, Option.map_eq_some_iff] at h1
  obtain ⟨b, hb, rfl⟩ := h1
  exact ⟨b, hb, h3⟩
theorem ek_bytes_str (h : Bs H p n l) (hH : H.le (hpOf W)) : (EK.sem (.conv 71 9) [vsl p n c]).run Try.prog W = .ok (.value (.string (bs l))) W := by
  have hn := Bs.len h
  have hrun : (convert 71 9 (vsl p n c)).run Try.prog W = .ok (.string (bs l)) W := by
    cases p with
    | none =>
      have : l = [] := by
        cases l with
        | nil => rfl
        | cons b l =>
          obtain ⟨b', _, h3⟩ := Bs.at h (k := 0) (by simp at hn; omega)
          cases h3.isSome
      subst this
      simp only [List.length_nil] at hn
      subst hn
      simp only [vsl, ptrAt, Option.map_none]
      rw [run_convert_bytes_string (e := 5) W _ _ _ _ _ Try.underlying71 Try.underlying5 Try.underlying9]
      rfl
    | some a =>
      have := run_convert_bytes_back (P := Try.prog) W 71 9 5 a.addr c l Try.underlying71 Try.underlying5 Try.underlying9 (fun j hj => Rows.cells h hH (by omega) j _ (by rw [flat_b]; simp [hj]))
      rw [hn]
      simpa [vsl, ptrAt, bs] using this
  simp only [EK.sem, List.getD_cons_zero, Sem.run_bind, hrun, Result.andThen_ok, Sem.run_pure]
theorem ek_str_bytes (s : ByteArray) : ∃ W' c, (EK.sem (.conv 9 71) [.string s]).run Try.prog W = .ok (.value (vsl (some (W.heap.size, 0)) s.size c)) W' ∧ Ext W W' ∧ s.size ≤ c ∧
    ∃ D : Hp, D.le (hpOf W') ∧ (∀ b o, D b = some o → W.heap.size ≤ b) ∧ Bs D (some (W.heap.size, 0)) s.size s.data.toList := by
  have hrun := run_bytes_of_string (P := Try.prog) W 9 71 5 s Try.underlying9 Try.underlying71 Try.underlying5
  refine ⟨W.drew.alloc (.cells (bytesRow s (grownCap W s.size 0 5)) 5 ((bytesRow s (grownCap W s.size 0 5)).size, (bytesRow s (grownCap W s.size 0 5)).size + 1)), grownCap W s.size 0 5, ?_, ?_, grownCap_ge W s.size 0 5, ?_⟩
  · simp only [EK.sem, List.getD_cons_zero, Sem.run_bind, hrun, Result.andThen_ok, Sem.run_pure]
    rfl
  · exact (Below.drew (Below.refl _ W)).alloc (Nat.le_refl _) _
  · refine ⟨addH noH W.heap.size (.cells (bytesRow s (grownCap W s.size 0 5)) 5 ((bytesRow s (grownCap W s.size 0 5)).size, (bytesRow s (grownCap W s.size 0 5)).size + 1)), addH_le (noH_le _) (heap_alloc_new W.drew _), fun b o hb => ?_, Rows.block (addH_at ..) (by rw [List.length_map, data_len]) (fun r hr => (brows_wid _ r hr).1) ?_⟩
    · unfold addH at hb
      split at hb
      · omega
      · cases hb
    · rw [flat_b, List.drop_zero, Nat.mul_one]
      unfold bytesRow
      have e1 : (s.data.map fun b => Value.int .u8 (b.toNat : Int)).toList.length = s.size := by rw [Array.length_toList, Array.size_map]; rfl
      rw [Array.toList_append, List.take_append_of_le_length (by rw [e1]; exact Nat.le_refl _), List.take_of_length_le (by rw [e1]; exact Nat.le_refl _)]
      simp
theorem ek_str_from (s : ByteArray) (i : Nat) (hi : i ≤ s.size) : (EK.sem (.slice 9 true false false) [.string s, vi i]).run Try.prog W = .ok (.value (.string (s.extract i s.size))) W := by
  have := run_slice_string_from_if (P := Try.prog) W 9 s .i64 i Try.underlying9
  rw [if_pos (by omega)] at this
  simp only [Int.toNat_natCast] at this
  simp [EK.sem, Instr.sliceAt, this]
theorem ek_str_to (s : ByteArray) (i : Nat) (hi : i ≤ s.size) : (EK.sem (.slice 9 false true false) [.string s, vi i]).run Try.prog W = .ok (.value (.string (s.extract 0 i))) W := by
  have := run_slice_string_to_if (P := Try.prog) W 9 s .i64 i Try.underlying9
  rw [if_pos (by omega)] at this
  simp only [Int.toNat_natCast] at this
  simp [EK.sem, Instr.sliceAt, this]
theorem bs_from (l : List UInt8) (i : Nat) : (bs l).extract i (bs l).size = bs (l.drop i) := by
  unfold bs
  rw [ByteArray.extract_mk]
  congr 2
  exact List.take_of_length_le (by simp [ByteArray.size])
theorem bs_to (l : List UInt8) (i : Nat) : (bs l).extract 0 i = bs (l.take i) := by
  unfold bs
  rw [ByteArray.extract_mk]
  simp
theorem ek_from (l : List UInt8) (i : Nat) (hi : i ≤ l.length) : (EK.sem (.slice 9 true false false) [.string (bs l), vi i]).run Try.prog W = .ok (.value (.string (bs (l.drop i)))) W := by
  rw [ek_str_from _ _ (by rw [bs_size]; exact hi), bs_from]
theorem ek_to (l : List UInt8) (i : Nat) (hi : i ≤ l.length) : (EK.sem (.slice 9 false true false) [.string (bs l), vi i]).run Try.prog W = .ok (.value (.string (bs (l.take i)))) W := by
  rw [ek_str_to _ _ (by rw [bs_size]; exact hi), bs_to]
theorem beq_bs (a b : List UInt8) : ((bs a).toList == (bs b).toList) = decide (a = b) := by
  unfold bs
  rw [ByteArray.toList_mk, ByteArray.toList_mk]
  by_cases h : a = b <;> simp [h]
theorem ek_str_ne (x y : Operand) (a b : List UInt8) : (EK.sem (.bop .neq 9 x y) [.string (bs a), .string (bs b)]).run Try.prog W = .ok (.value (vb (!decide (a = b)))) W := by
  simp [EK.sem, eqGuard, binOp_string_eql, binOp_string_neq, beq_bs]
theorem ek_bshr (k : Nat) (hk : k ≤ 1) (x y : Operand) (a : Int) : (EK.sem (.bop .shr 3 x y) [vi a, vi (8 * (k : Int))]).run Try.prog W = .ok (.value (vi (if k = 0 then a else a / 256))) W := by
  have hn : min (8 * (k : Int)).toNat (IntKind.bits .i64) = 8 * k := by
    have : IntKind.bits .i64 = 64 := rfl
    omega
  have hneg : ¬ (8 * (k : Int) < 0) := by omega
  simp only [EK.sem, List.getD_cons_zero, List.getD_cons_succ, eqGuard, binOp, Op.shift, hneg, if_false, hn, Sem.run_bind, Sem.run_pure, Result.andThen_ok]
  rcases Nat.le_one_iff_eq_zero_or_eq_one.1 hk with rfl | rfl
  · simp
  · simp [Int.fdiv_eq_ediv_of_nonneg]
theorem ek_bshl (x y : Operand) (a : Int) (h0 : 0 ≤ a) (h1 : a ≤ 65535) : (EK.sem (.bop .shl 3 x y) [vi a, .int .u64 8]).run Try.prog W = .ok (.value (vi (256 * a))) W := by
  have hn : min 8 (IntKind.bits .i64) = 8 := rfl
  simp only [EK.sem, List.getD_cons_zero, List.getD_cons_succ, eqGuard, binOp, Op.shift]
  simp
  rw [hn, IntKind.wrap_i64]
  omega
theorem ek_bor (x y : Operand) (a : Int) (b : UInt8) (h0 : 0 ≤ a) (h1 : a ≤ 65535) : (EK.sem (.bop .or 3 x y) [vi (256 * a), vi (b.toNat : Int)]).run Try.prog W = .ok (.value (vi (256 * a + b.toNat))) W := by
  obtain ⟨m, rfl⟩ : ∃ m : Nat, a = m := ⟨a.toNat, by omega⟩
  have hb := b.toNat_lt
  have key : (BitVec.ofInt 64 (256 * (m : Int)) ||| BitVec.ofInt 64 ((b.toNat : Nat) : Int)).toNat = 256 * m + b.toNat := by
    rw [BitVec.toNat_or, BitVec.toNat_ofInt, BitVec.toNat_ofInt]
    have e1 : ((256 * (m : Int)) % ((2 ^ 64 : Nat) : Int)).toNat = 256 * m := by omega
    have e2 : (((b.toNat : Nat) : Int) % ((2 ^ 64 : Nat) : Int)).toNat = b.toNat := by omega
    rw [e1, e2, show 256 * m = 2 ^ 8 * m by omega, Nat.two_pow_add_eq_or_of_lt (by omega)]
  have hrun : (binOp .or 3 (vi (256 * (m : Int))) (vi (b.toNat : Int))).run Try.prog W = .ok (vi (256 * (m : Int) + b.toNat)) W := by
    show Result.ok (Value.int .i64 (IntKind.wrap .i64 (((BitVec.ofInt 64 (256 * (m : Int)) ||| BitVec.ofInt 64 ((b.toNat : Nat) : Int)).toNat : Nat) : Int))) W = _
    have e : IntKind.wrap .i64 ((256 * m + b.toNat : Nat) : Int) = 256 * (m : Int) + b.toNat := by rw [IntKind.wrap_i64]; omega
    rw [key, e]
  simp only [EK.sem, List.getD_cons_zero, List.getD_cons_succ]
  simp [eqGuard]
  rw [hrun]
  rfl
/-- bytes out of a known block, put behind -/
theorem by_append (hH : H.le (hpOf W)) (ho : By H p n c l g) {b : Nat} {m : List UInt8} (hk : W.heap[b]? = some (.cells (m.map fun x => Value.int .u8 (x.toNat : Int)).toArray 5 (0, 0))) (hn : H b = none) (h63 : n + m.length ≤ 70368744177664) (ty : Nat) :
    ∃ p' c' g' W' H', (EK.sem (.bi .append #[71, 71] ty) [vsl p n c, .slice (some ⟨b, 0, none⟩) m.length m.length]).run Try.prog W = .ok (.value (vsl p' (n + m.length) c')) W' ∧ Upd g W W' H H' ∧ By H' p' (n + m.length) c' (l ++ m) g' ∧ (g' = g ∨ g' = some W.heap.size) := by
  obtain ⟨i, z, i1, i2, i3, i4, i5, _⟩ := info_of infoByte
  have hne : ∀ k, g = some k → k ≠ b := fun k hk2 he => by
    obtain ⟨o, h⟩ := ho.held k hk2
    rw [he, hn] at h; cases h
  have hbl := heap_lt hk
  have hle := addH_le hH hk
  have ho2 : By (addH H b (.cells (m.map fun x => Value.int .u8 (x.toNat : Int)).toArray 5 (0, 0))) p n c l g := ho.mono fun k _ o h => le_addH hn k o h
  have hr : Bs (addH H b (.cells (m.map fun x => Value.int .u8 (x.toNat : Int)).toArray 5 (0, 0))) (some (b, 0)) m.length m := Rows.block (addH_at ..) (by simp) (fun r hr => (brows_wid _ r hr).1) (by rw [flat_b, List.drop_zero, List.take_of_length_le (by simp)])
  obtain ⟨p', c', g', W', H', h2, h3, h4, h5, _⟩ := run_append_rows Try.underlying71 i1 i2 i3 i4 i5 (by omega) hle ho2 hr (ones_b m) (by simp only [maxLen]; omega) (by omega) ty (c2 := m.length)
  have hg' : ∀ k, g' = some k → k ≠ b := fun k hk2 => by
    rcases h5 with h5 | h5
    · exact hne k (h5 ▸ hk2)
    · rw [h5] at hk2; simp only [Option.some.injEq] at hk2; omega
  rw [← List.map_append] at h4
  exact ⟨p', c', g', W', _, h2, h3.less hn hbl, less_ow h4 (fun h => hg' b h rfl), h5⟩
end
end Go.Proofs.Ytoilhpkclabhoaa
namespace Go.Proofs.Ytoilhpkclabhoaa

def be2 (n : Int) : List UInt8 := [b8 (n / 256), b8 n]
def encR (r : Rep) : List UInt8 := [b8 r.seq] ++ be2 (r.val + 1)
def encS (x : Ses) : List UInt8 := [b8 x.client] ++ [b8 x.acked] ++ be2 x.seen ++ [b8 (x.kept.length : Int)] ++ x.kept.flatMap encR
def encT (s : Sta) : List UInt8 := [b8 s.pos] ++ be2 s.clock ++ be2 s.vals.a ++ be2 s.vals.b ++ be2 s.vals.c ++ be2 s.vals.d ++ [b8 (s.table.length : Int)] ++ s.table.flatMap encS
def w2 (a b : UInt8) : Int := 256 * (a.toNat : Int) + b.toNat
/-- reading: none: it ends too early -/
def pR : List UInt8 → Option (Rep × List UInt8)
  | a :: b :: c :: l => some (⟨a.toNat, w2 b c - 1⟩, l)
  | _ => none
def pN {α : Type} (p : List UInt8 → Option (α × List UInt8)) : Nat → List UInt8 → Option (List α × List UInt8)
  | 0, l => some ([], l)
  | n + 1, l => match p l with
    | none => none
    | some (x, l) => match pN p n l with
      | none => none
      | some (xs, l) => some (x :: xs, l)
def pK : List UInt8 → Option (List Rep × List UInt8)
  | [] => none
  | n :: l => pN pR n.toNat l
def pS : List UInt8 → Option (Ses × List UInt8)
  | c :: a :: s1 :: s0 :: l => match pK l with
    | none => none
    | some (k, l) => some (⟨c.toNat, a.toNat, w2 s1 s0, k⟩, l)
  | _ => none
def pL : List UInt8 → Option (List Ses × List UInt8)
  | [] => none
  | n :: l => pN pS n.toNat l
def pT : List UInt8 → Option (Sta × List UInt8)
  | p :: c1 :: c0 :: a1 :: a0 :: b1 :: b0 :: e1 :: e0 :: d1 :: d0 :: l => match pL l with
    | none => none
    | some (t, l) => some (⟨p.toNat, w2 c1 c0, ⟨w2 a1 a0, w2 b1 b0, w2 e1 e0, w2 d1 d0⟩, t⟩, l)
  | _ => none
def unT (l : List UInt8) : Option Sta := match pT l with
  | some (s, []) => if s.err = 0 then some s else none
  | _ => none

theorem b8_id {n : Int} (h0 : 0 ≤ n) (h1 : n ≤ 255) : ((b8 n).toNat : Int) = n := by rw [b8_nat]; omega
theorem w2_id {n : Int} (h0 : 0 ≤ n) (h1 : n ≤ 65535) : w2 (b8 (n / 256)) (b8 n) = n := by unfold w2; rw [b8_nat, b8_nat]; omega
theorem be2_w2 (a b : UInt8) : be2 (w2 a b) = [a, b] := by
  have ha := a.toNat_lt
  have hb := b.toNat_lt
  unfold be2 w2
  have e1 : (256 * (a.toNat : Int) + b.toNat) / 256 = a.toNat := by omega
  rw [e1, b8_toNat, b8_mod _ (b.toNat : Int) (by omega), b8_toNat]
/-- what is read was written -/
theorem pR_enc {l r : List UInt8} {x : Rep} (h : pR l = some (x, r)) : l = encR x ++ r := by
  unfold pR at h
  split at h
  · simp only [Option.some.injEq, Prod.mk.injEq] at h
    obtain ⟨rfl, rfl⟩ := h
    simp only [encR, b8_toNat]
    rw [show ∀ n : Int, n - 1 + 1 = n from fun n => by omega, be2_w2]
    rfl
  · cases h
theorem pN_enc {α : Type} {p : List UInt8 → Option (α × List UInt8)} {e : α → List UInt8} (hp : ∀ l x r, p l = some (x, r) → l = e x ++ r) : ∀ {n : Nat} {l r : List UInt8} {xs : List α}, pN p n l = some (xs, r) → xs.length = n ∧ l = xs.flatMap e ++ r
  | 0, l, r, xs, h => by
    simp only [pN, Option.some.injEq, Prod.mk.injEq] at h
    obtain ⟨rfl, rfl⟩ := h
    exact ⟨rfl, rfl⟩
  | n + 1, l, r, xs, h => by
    simp only [pN] at h
    split at h
    · cases h
    · rename_i x l1 h1
      split at h
      · cases h
      · rename_i ys l2 h2
        simp only [Option.some.injEq, Prod.mk.injEq] at h
        obtain ⟨rfl, rfl⟩ := h
        obtain ⟨h3, h4⟩ := pN_enc hp h2
        refine ⟨by simp [h3], ?_⟩
        rw [hp _ _ _ h1, h4, List.flatMap_cons, List.append_assoc]
theorem pK_enc {l r : List UInt8} {k : List Rep} (h : pK l = some (k, r)) : l = b8 (k.length : Int) :: k.flatMap encR ++ r := by
  cases l with
  | nil => cases h
  | cons n l =>
    obtain ⟨h1, h2⟩ := pN_enc (fun _ _ _ => pR_enc) (show pN pR n.toNat l = some (k, r) from h)
    rw [h1, b8_toNat, h2]
    rfl
theorem pS_enc {l r : List UInt8} {x : Ses} (h : pS l = some (x, r)) : l = encS x ++ r := by
  unfold pS at h
  split at h
  · split at h
    · cases h
    · rename_i k l2 hk
      simp only [Option.some.injEq, Prod.mk.injEq] at h
      obtain ⟨rfl, rfl⟩ := h
      rw [pK_enc hk]
      simp only [encS, b8_toNat, be2_w2]
      simp
  · cases h
theorem pL_enc {l r : List UInt8} {t : List Ses} (h : pL l = some (t, r)) : l = b8 (t.length : Int) :: t.flatMap encS ++ r := by
  cases l with
  | nil => cases h
  | cons n l =>
    obtain ⟨h1, h2⟩ := pN_enc (fun _ _ _ => pS_enc) (show pN pS n.toNat l = some (t, r) from h)
    rw [h1, b8_toNat, h2]
    rfl
theorem pT_enc {l r : List UInt8} {s : Sta} (h : pT l = some (s, r)) : l = encT s ++ r := by
  unfold pT at h
  split at h
  · split at h
    · cases h
    · rename_i t l2 hk
      simp only [Option.some.injEq, Prod.mk.injEq] at h
      obtain ⟨rfl, rfl⟩ := h
      rw [pL_enc hk]
      simp only [encT, b8_toNat, be2_w2]
      simp
  · cases h
/-- a right one is read as it was -/
theorem kept_range {a : Int} : ∀ {l : List Rep} {last : Int}, keptOk a last l = true → 0 ≤ last → ∀ r ∈ l, (0 ≤ r.seq ∧ r.seq ≤ 60) ∧ -1 ≤ r.val ∧ r.val ≤ 999
  | [], _, _, _, r, hr => by cases hr
  | x :: t, last, h, h0, r, hr => by
    simp only [keptOk, Bool.and_eq_true, decide_eq_true_eq] at h
    rcases List.mem_cons.1 hr with rfl | hr
    · omega
    · exact kept_range h.2 (by omega) r hr
theorem enc_pR {x : Rep} (h : (0 ≤ x.seq ∧ x.seq ≤ 60) ∧ -1 ≤ x.val ∧ x.val ≤ 999) (r : List UInt8) : pR (encR x ++ r) = some (x, r) := by
  simp only [encR, be2, List.cons_append, List.nil_append, pR]
  rw [b8_id (by omega) (by omega), w2_id (by omega) (by omega)]
  cases x
  simp only [Option.some.injEq, Prod.mk.injEq, and_true, Rep.mk.injEq, true_and]
  omega
theorem enc_pN {α : Type} {p : List UInt8 → Option (α × List UInt8)} {e : α → List UInt8} : ∀ {xs : List α}, (∀ x ∈ xs, ∀ r, p (e x ++ r) = some (x, r)) → ∀ r, pN p xs.length (xs.flatMap e ++ r) = some (xs, r)
  | [], _, r => rfl
  | x :: xs, h, r => by
    rw [List.flatMap_cons, List.append_assoc]
    simp only [List.length_cons, pN]
    rw [h x (List.mem_cons_self ..)]
    simp only
    rw [enc_pN (fun y hy => h y (List.mem_cons_of_mem _ hy))]
theorem enc_pS {x : Ses} (h : x.err = 0) (r : List UInt8) : pS (encS x ++ r) = some (x, r) := by
  obtain ⟨h1, h2, h3, h4⟩ := Ses.err_ok h
  have h5 := kept_len3 h
  have e1 : ((b8 (x.kept.length : Int)).toNat : Int) = x.kept.length := b8_id (by omega) (by omega)
  have e2 : (b8 (x.kept.length : Int)).toNat = x.kept.length := by omega
  simp only [encS, be2, List.cons_append, List.nil_append, List.append_assoc, pS, pK, e2]
  rw [enc_pN (fun y hy r => enc_pR (kept_range h4 (by omega) y hy) r)]
  simp only
  rw [b8_id (by omega) (by omega), b8_id (by omega) (by omega), w2_id (by omega) (by omega)]
theorem enc_pT {s : Sta} (h : StOk s) (r : List UInt8) : pT (encT s ++ r) = some (s, r) := by
  have h1 := h.pos
  have h2 := h.clock
  have h3 := (V4.ok_iff _).1 h.vals
  have h4 := h.table.len
  have e1 : ((b8 (s.table.length : Int)).toNat : Int) = s.table.length := b8_id (by omega) (by omega)
  have e2 : (b8 (s.table.length : Int)).toNat = s.table.length := by omega
  simp only [encT, be2, List.cons_append, List.nil_append, List.append_assoc, pT, pL, e2]
  rw [enc_pN (fun y hy r => enc_pS (h.table.one y hy) r)]
  simp only
  rw [b8_id (by omega) (by omega), w2_id (by omega) (by omega), w2_id (by omega) (by omega), w2_id (by omega) (by omega), w2_id (by omega) (by omega), w2_id (by omega) (by omega)]
theorem unT_iff {l : List UInt8} {s : Sta} : unT l = some s ↔ s.err = 0 ∧ l = encT s := by
  unfold unT
  constructor
  · intro h
    split at h
    · rename_i t ht
      split at h
      · rename_i he
        simp only [Option.some.injEq] at h
        subst h
        exact ⟨he, by simpa using pT_enc ht⟩
      · cases h
    · cases h
  · rintro ⟨h, rfl⟩
    have := enc_pT (Sta.err_ok.1 h) []
    rw [List.append_nil] at this
    rw [this]
    simp only
    rw [if_pos h]
theorem flat_len3 {α : Type} {e : α → List UInt8} {m : Nat} : ∀ {xs : List α}, (∀ x ∈ xs, (e x).length ≤ m) → (xs.flatMap e).length ≤ xs.length * m
  | [], _ => by simp
  | x :: xs, h => by
    rw [List.flatMap_cons, List.length_append, List.length_cons, Nat.succ_mul]
    have := h x (List.mem_cons_self ..)
    have := flat_len3 (fun y hy => h y (List.mem_cons_of_mem _ hy))
    omega
theorem encS_len {x : Ses} (h : x.err = 0) : (encS x).length ≤ 14 := by
  have h5 := kept_len3 h
  have := flat_len3 (e := encR) (m := 3) (xs := x.kept) (fun y _ => by simp [encR, be2])
  simp only [encS, be2, List.length_append, List.length_cons, List.length_nil]
  omega
theorem encT_len {s : Sta} (h : StOk s) : (encT s).length ≤ 54 := by
  have h4 := h.table.len
  have := flat_len3 (e := encS) (m := 14) (xs := s.table) (fun y hy => encS_len (h.table.one y hy))
  simp only [encT, be2, List.length_append, List.length_cons, List.length_nil]
  omega
/-- Write, Read -/
def sWrite (s : Sta) : List UInt8 × Int := if s.err = 0 then (encT s, 0) else ([], s.err)
def sRead (l : List UInt8) : Sta × Int := if 4096 < l.length then (Sta.zero, 2) else match unT l with
  | some s => (s, 0)
  | none => (Sta.zero, 1)
/-- reading where what is not there is 0 -/
def e1 : List UInt8 → Int × List UInt8
  | [] => (0, [])
  | b :: l => (b.toNat, l)
def e2 (l : List UInt8) : Int × List UInt8 := (256 * (e1 l).1 + (e1 (e1 l).2).1, (e1 (e1 l).2).2)
def eN {α : Type} (p : List UInt8 → α × List UInt8) : Nat → List UInt8 → List α × List UInt8
  | 0, l => ([], l)
  | n + 1, l => ((p l).1 :: (eN p n (p l).2).1, (eN p n (p l).2).2)
end Go.Proofs.Ytoilhpkclabhoaa
namespace Go.Proofs.Ytoilhpkclabhoaa
open Go.RowKit
set_option maxRecDepth 100000
set_option maxHeartbeats 4000000
def v_put : VC :=
(.chk (.le (.k 0) (.v 2))
(.chk (.le (.k 0) (.v 5))
(.chk (.le (.k 0) (.v 6))
(.loop [(7, .n), (8, .p), (9, .n), (10, .n)] [.n (.k 0), .p 4 (.k 0), .n (.v 5), .n (.v 6)] [.n (.v 7), .p 8 (.k 0), .n (.v 9), .n (.v 10)]
(.ite (.lt (.v 7) (.v 2))
(.chk (.idx (.v 7) (.v 2))
(.chk (.isp 1)
(.ld 1 (.add (.k 0) (.mul (.v 7) (.k 1))) [.int .i64 (.v 11)] [(11, .i)]
(.chk (.rng .i64 (.sub (.v 0) (.k 1)))
(.chk (.le (.k 0) (.v 9))
(.chk (.le (.k 0) (.v 10))
(.loop [(12, .i), (13, .p), (14, .n), (15, .n)] [.i (.sub (.v 0) (.k 1)), .p 8 (.k 0), .n (.v 9), .n (.v 10)] [.i (.v 12), .p 13 (.k 0), .n (.v 14), .n (.v 15)]
(.ite (.le (.k 0) (.v 12))
(.chk (.rng .i64 (.mul (.k 8) (.v 12)))
(.esc (.bop .shr 3 (.tmp 26) (.tmp 28)) [.int .i64 (.v 11), .int .i64 (.mul (.k 8) (.v 12))] [] [(16, .i)] (some (.int .i64 (.v 16))) .same
(.all 1
(.esc (.bi .append #[71, 71] 71) [.slO 13 (.k 0) (.v 14) (.v 15), .slK 1 0 1 1] [(1, ⟨[.int .u8 (.wrap .u8 (.v 16))], 5⟩)] [(17, .p), (18, .n), (19, .n)] (some (.slO 17 (.k 0) (.v 18) (.v 19))) .turn
(.chk (.rng .i64 (.sub (.v 12) (.k 1)))
(.chk (.le (.k 0) (.v 18))
(.chk (.le (.k 0) (.v 19))
(.back 0 [.i (.sub (.v 12) (.k 1)), .p 17 (.k 0), .n (.v 18), .n (.v 19)]))))))))
(.chk (.rng .i64 (.add (.v 7) (.k 1)))
(.chk (.le (.k 0) (.add (.v 7) (.k 1)))
(.chk (.le (.k 0) (.v 14))
(.chk (.le (.k 0) (.v 15))
(.back 1 [.n (.add (.v 7) (.k 1)), .p 13 (.k 0), .n (.v 14), .n (.v 15)])))))))))))))
(.ret (.tup []) [(0, ⟨[.slO 8 (.k 0) (.v 9) (.v 10)], 91⟩)]))))))
theorem x_put (x0 : Int) (x1 : Option Loc) (x2 : Nat) (x3 : Nat) (x4 : Option Loc) (x5 : Nat) (x6 : Nat) (b0 : Nat) (M : Nat → Prop) (H0 : Hp) (W0 : World) (R : Ending → World → Prop) (hH : H0.le (hpOf W0)) (h0 : W0.heap[b0]? = some (Obj.cells #[vsl x4 x5 x6] 91 (0, 0)) ∧ M b0 ∧ H0 b0 = none) (h :
 (0 ≤ (x2 : Int) ∧ (0 ≤ (x2 : Int) →
 (0 ≤ (x5 : Int) ∧ (0 ≤ (x5 : Int) →
 (0 ≤ (x6 : Int) ∧ (0 ≤ (x6 : Int) →
 (∃ (I0 : List Dat → Hp → Prop) (μ0 : List Dat → Nat), I0 [.n 0, .p (x4.map fun a => a.shift 0), .n x5, .n x6] H0 ∧ ∀ H1 : Hp, ∀ x7 : Nat, ∀ x8 : Option Loc, ∀ x9 : Nat, ∀ x10 : Nat, I0 [.n x7, .p (x8.map fun a => a.shift 0), .n x9, .n x10] H1 →
  (((x7 : Int) < (x2 : Int) →
   (((0 : Int) ≤ (x7 : Int) ∧ (x7 : Int) < (x2 : Int)) ∧ (((0 : Int) ≤ (x7 : Int) ∧ (x7 : Int) < (x2 : Int)) →
   (x1.isSome = true ∧ (x1.isSome = true →
   (∃ x11 : Int, RowAt H1 x1 (0 + ((x7 : Int) * 1)) [vi x11] ∧
   (inKind .i64 (x0 - 1) ∧ (inKind .i64 (x0 - 1) →
   (0 ≤ (x9 : Int) ∧ (0 ≤ (x9 : Int) →
   (0 ≤ (x10 : Int) ∧ (0 ≤ (x10 : Int) →
   (∃ (I1 : List Dat → Hp → Prop) (μ1 : List Dat → Nat), I1 [.i (x0 - 1), .p (x8.map fun a => a.shift 0), .n x9, .n x10] H1 ∧ ∀ H2 : Hp, ∀ x12 : Int, ∀ x13 : Option Loc, ∀ x14 : Nat, ∀ x15 : Nat, I1 [.i x12, .p (x13.map fun a => a.shift 0), .n x14, .n x15] H2 →
    ((0 ≤ x12 →
     (inKind .i64 (8 * x12) ∧ (inKind .i64 (8 * x12) →
     (Es W0 M H2 nK fun W1 => ∃ x16 : Int, Eo Try.prog (.bop .shr 3 (.tmp 26) (.tmp 28)) [vi x11, vi (8 * x12)] W1 (.value (vi x16)) fun W2 => Ext W1 W2 ∧
     (∀ b1 : Nat,
     (Es W0 M H2 (fun W => Kn W0 M H2 W b1 (Obj.cells #[Value.int .u8 (IntKind.wrap .u8 x16)] 5 (0, 0)) ∧ True) fun W3 => ∃ x17 : Option Loc, ∃ x18 : Nat, ∃ x19 : Nat, Eo Try.prog (.bi .append #[71, 71] 71) [vsl x13 x14 x15, Value.slice (some ⟨b1, 0, none⟩) 1 1] W3 (.value (vsl x17 x18 x19)) fun W4 => Tn W0 M H2 W3 W4 fun H3 =>
     (inKind .i64 (x12 - 1) ∧ (inKind .i64 (x12 - 1) →
     (0 ≤ (x18 : Int) ∧ (0 ≤ (x18 : Int) →
     (0 ≤ (x19 : Int) ∧ (0 ≤ (x19 : Int) →
     (I1 [.i (x12 - 1), .p (x17.map fun a => a.shift 0), .n x18, .n x19] H3 ∧ μ1 [.i (x12 - 1), .p (x17.map fun a => a.shift 0), .n x18, .n x19] < μ1 [.i x12, .p (x13.map fun a => a.shift 0), .n x14, .n x15]))))))))))))) ∧
    (¬ (0 ≤ x12) →
     (inKind .i64 ((x7 : Int) + 1) ∧ (inKind .i64 ((x7 : Int) + 1) →
     (0 ≤ ((x7 : Int) + 1) ∧ (0 ≤ ((x7 : Int) + 1) →
     (0 ≤ (x14 : Int) ∧ (0 ≤ (x14 : Int) →
     (0 ≤ (x15 : Int) ∧ (0 ≤ (x15 : Int) →
     (I0 [.n (((x7 : Int) + 1) : Int).toNat, .p (x13.map fun a => a.shift 0), .n x14, .n x15] H2 ∧ μ0 [.n (((x7 : Int) + 1) : Int).toNat, .p (x13.map fun a => a.shift 0), .n x14, .n x15] < μ0 [.n x7, .p (x8.map fun a => a.shift 0), .n x9, .n x10])))))))))))))))))))))))) ∧
  (¬ ((x7 : Int) < (x2 : Int)) →
   Rt R W0 M H1 (fun W => Kn W0 M H1 W b0 (Obj.cells #[vsl x8 x9 x10] 91 (0, 0)) ∧ True) (Value.tuple #[]))))))))))) :
  Calls Try.prog 53 #[Value.pointer (some ⟨b0, 0, none⟩), vi x0, vsl x1 x2 x3] W0 R :=
  calls_sxC (M := M) (V := v_put) (hi := {loops := [(1, .inv [(11, .nat)] [(0, [.pt .sl])]), (4, .inv [(8, .pt (.int .i64))] [(0, [.pt .sl])])]}) (o0 := ⟨[.slO 4 (.k 0) (.v 5) (.v 6)], 91⟩) (args := [.ptrK 0 0, .int .i64 (.v 0), .slO 1 (.k 0) (.v 2) (.v 3)]) (nv := 7) (e := (upd (upd (upd (upd (upd (upd (upd (fun _ => .i 0) 0 (.i x0)) 1 (.p x1)) 2 (.n x2)) 3 (.n x3)) 4 (.p x4)) 5 (.n x5)) 6 (.n x6))) Try.func53 hH h0 h (by kernel_rfl) (by kernel_rfl) (by kernel_rfl) (by kernel_rfl)
def v_snapWrite : VC :=
(.all 0
(.call 11 [.agg [.int .i64 (.v 0), .int .i64 (.v 1), .int .i64 (.v 2), .int .i64 (.v 3), .int .i64 (.v 4), .int .i64 (.v 5), .slO 6 (.k 0) (.v 7) (.v 8)]] [] [(9, .i)] (.int .i64 (.v 9)) .same
(.ite (.eq (.v 9) (.k 0))
(.all 1
(.all 2
(.call 53 [.ptrK 1 0, .int .i64 (.k 1), .slK 2 0 1 1] [(1, ⟨[.c (Value.slice none 0 0)], 91⟩), (2, ⟨[.int .i64 (.v 0)], 3⟩)] [(10, .p), (11, .n), (12, .n)] (.tup []) (.both [(1, ⟨[.slO 10 (.k 0) (.v 11) (.v 12)], 91⟩)])
(.all 3
(.call 53 [.ptrK 1 0, .int .i64 (.k 2), .slK 3 0 1 1] [(1, ⟨[.slO 10 (.k 0) (.v 11) (.v 12)], 91⟩), (3, ⟨[.int .i64 (.v 1)], 3⟩)] [(13, .p), (14, .n), (15, .n)] (.tup []) (.both [(1, ⟨[.slO 13 (.k 0) (.v 14) (.v 15)], 91⟩)])
(.call 53 [.ptrK 1 0, .int .i64 (.k 2), .slK 0 2 4 4] [(1, ⟨[.slO 13 (.k 0) (.v 14) (.v 15)], 91⟩), (0, ⟨[.int .i64 (.v 0), .int .i64 (.v 1), .int .i64 (.v 2), .int .i64 (.v 3), .int .i64 (.v 4), .int .i64 (.v 5), .slO 6 (.k 0) (.v 7) (.v 8)], 25⟩)] [(16, .p), (17, .n), (18, .n)] (.tup []) (.both [(1, ⟨[.slO 16 (.k 0) (.v 17) (.v 18)], 91⟩)])
(.chk (.le (.k 0) (.v 7))
(.all 4
(.call 53 [.ptrK 1 0, .int .i64 (.k 1), .slK 4 0 1 1] [(1, ⟨[.slO 16 (.k 0) (.v 17) (.v 18)], 91⟩), (4, ⟨[.int .i64 (.v 7)], 3⟩)] [(19, .p), (20, .n), (21, .n)] (.tup []) (.both [(1, ⟨[.slO 19 (.k 0) (.v 20) (.v 21)], 91⟩)])
(.chk (.le (.k 0) (.v 20))
(.chk (.le (.k 0) (.v 21))
(.loop [(22, .n), (23, .p), (24, .n), (25, .n)] [.n (.k 0), .p 19 (.k 0), .n (.v 20), .n (.v 21)] [.n (.v 22), .p 23 (.k 0), .n (.v 24), .n (.v 25)]
(.ite (.lt (.v 22) (.v 7))
(.chk (.idx (.v 22) (.v 7))
(.chk (.isp 6)
(.ld 6 (.add (.k 0) (.mul (.v 22) (.k 4))) [.int .i64 (.v 26), .int .i64 (.v 27), .int .i64 (.v 28), .slO 29 (.k 0) (.v 30) (.v 31)] [(26, .i), (27, .i), (28, .i), (29, .p), (30, .n), (31, .n)]
(.all 5
(.all 6
(.call 53 [.ptrK 1 0, .int .i64 (.k 1), .slK 6 0 2 2] [(1, ⟨[.slO 23 (.k 0) (.v 24) (.v 25)], 91⟩), (6, ⟨[.int .i64 (.v 26), .int .i64 (.v 27)], 3⟩)] [(32, .p), (33, .n), (34, .n)] (.tup []) (.both [(1, ⟨[.slO 32 (.k 0) (.v 33) (.v 34)], 91⟩)])
(.all 7
(.call 53 [.ptrK 1 0, .int .i64 (.k 2), .slK 7 0 1 1] [(1, ⟨[.slO 32 (.k 0) (.v 33) (.v 34)], 91⟩), (7, ⟨[.int .i64 (.v 28)], 3⟩)] [(35, .p), (36, .n), (37, .n)] (.tup []) (.both [(1, ⟨[.slO 35 (.k 0) (.v 36) (.v 37)], 91⟩)])
(.chk (.le (.k 0) (.v 30))
(.all 8
(.call 53 [.ptrK 1 0, .int .i64 (.k 1), .slK 8 0 1 1] [(1, ⟨[.slO 35 (.k 0) (.v 36) (.v 37)], 91⟩), (8, ⟨[.int .i64 (.v 30)], 3⟩)] [(38, .p), (39, .n), (40, .n)] (.tup []) (.both [(1, ⟨[.slO 38 (.k 0) (.v 39) (.v 40)], 91⟩)])
(.chk (.le (.k 0) (.v 39))
(.chk (.le (.k 0) (.v 40))
(.loop [(41, .n), (42, .p), (43, .n), (44, .n)] [.n (.k 0), .p 38 (.k 0), .n (.v 39), .n (.v 40)] [.n (.v 41), .p 42 (.k 0), .n (.v 43), .n (.v 44)]
(.ite (.lt (.v 41) (.v 30))
(.chk (.idx (.v 41) (.v 30))
(.chk (.isp 29)
(.ld 29 (.add (.k 0) (.mul (.v 41) (.k 2))) [.int .i64 (.v 45), .int .i64 (.v 46)] [(45, .i), (46, .i)]
(.all 9
(.all 10
(.call 53 [.ptrK 1 0, .int .i64 (.k 1), .slK 10 0 1 1] [(1, ⟨[.slO 42 (.k 0) (.v 43) (.v 44)], 91⟩), (10, ⟨[.int .i64 (.v 45)], 3⟩)] [(47, .p), (48, .n), (49, .n)] (.tup []) (.both [(1, ⟨[.slO 47 (.k 0) (.v 48) (.v 49)], 91⟩)])
(.chk (.rng .i64 (.add (.v 46) (.k 1)))
(.all 11
(.call 53 [.ptrK 1 0, .int .i64 (.k 2), .slK 11 0 1 1] [(1, ⟨[.slO 47 (.k 0) (.v 48) (.v 49)], 91⟩), (11, ⟨[.int .i64 (.add (.v 46) (.k 1))], 3⟩)] [(50, .p), (51, .n), (52, .n)] (.tup []) (.both [(1, ⟨[.slO 50 (.k 0) (.v 51) (.v 52)], 91⟩)])
(.chk (.rng .i64 (.add (.v 41) (.k 1)))
(.chk (.le (.k 0) (.add (.v 41) (.k 1)))
(.chk (.le (.k 0) (.v 51))
(.chk (.le (.k 0) (.v 52))
(.back 0 [.n (.add (.v 41) (.k 1)), .p 50 (.k 0), .n (.v 51), .n (.v 52)]))))))))))))))
(.chk (.rng .i64 (.add (.v 22) (.k 1)))
(.chk (.le (.k 0) (.add (.v 22) (.k 1)))
(.chk (.le (.k 0) (.v 43))
(.chk (.le (.k 0) (.v 44))
(.back 1 [.n (.add (.v 22) (.k 1)), .p 42 (.k 0), .n (.v 43), .n (.v 44)]))))))))))))))))))))
(.esc (.conv 71 9) [.slO 23 (.k 0) (.v 24) (.v 25)] [] [(26, .s)] (some (.str 26)) .same
(.ret (.tup [.str 26, .int .i64 (.k 0)]) [])))))))))))))))
(.ret (.tup [.c (Value.string ⟨#[]⟩), .int .i64 (.v 9)]) []))))
theorem x_snapWrite (x0 : Int) (x1 : Int) (x2 : Int) (x3 : Int) (x4 : Int) (x5 : Int) (x6 : Option Loc) (x7 : Nat) (x8 : Nat) (M : Nat → Prop) (H0 : Hp) (W0 : World) (R : Ending → World → Prop) (hH : H0.le (hpOf W0)) (h :
 (∀ b0 : Nat,
 (Cl Try.prog W0 M H0 nK 11 #[Value.agg #[vi x0, vi x1, vi x2, vi x3, vi x4, vi x5, vsl x6 x7 x8]] fun z W1 W2 => ∃ x9 : Int, z = .returned (vi x9) ∧ Ext W1 W2 ∧
 ((x9 = 0 →
  (∀ b1 : Nat,
  (∀ b2 : Nat,
  (Cl Try.prog W0 M H0 (fun W => Kn W0 M H0 W b1 (Obj.cells #[Value.slice none 0 0] 91 (0, 0)) ∧ Kn W0 M H0 W b2 (Obj.cells #[vi x0] 3 (0, 0)) ∧ True) 53 #[Value.pointer (some ⟨b1, 0, none⟩), vi 1, Value.slice (some ⟨b2, 0, none⟩) 1 1] fun z W3 W4 => ∃ x10 : Option Loc, ∃ x11 : Nat, ∃ x12 : Nat, z = .returned (Value.tuple #[]) ∧ Bt W0 M H0 [(b1, Obj.cells #[vsl x10 x11 x12] 91 (0, 0))] W3 W4 fun H1 =>
  (∀ b3 : Nat,
  (Cl Try.prog W0 M H1 (fun W => Kn W0 M H1 W b1 (Obj.cells #[vsl x10 x11 x12] 91 (0, 0)) ∧ Kn W0 M H1 W b3 (Obj.cells #[vi x1] 3 (0, 0)) ∧ True) 53 #[Value.pointer (some ⟨b1, 0, none⟩), vi 2, Value.slice (some ⟨b3, 0, none⟩) 1 1] fun z W5 W6 => ∃ x13 : Option Loc, ∃ x14 : Nat, ∃ x15 : Nat, z = .returned (Value.tuple #[]) ∧ Bt W0 M H1 [(b1, Obj.cells #[vsl x13 x14 x15] 91 (0, 0))] W5 W6 fun H2 =>
  (Cl Try.prog W0 M H2 (fun W => Kn W0 M H2 W b1 (Obj.cells #[vsl x13 x14 x15] 91 (0, 0)) ∧ Kn W0 M H2 W b0 (Obj.cells #[vi x0, vi x1, vi x2, vi x3, vi x4, vi x5, vsl x6 x7 x8] 25 (0, 0)) ∧ True) 53 #[Value.pointer (some ⟨b1, 0, none⟩), vi 2, Value.slice (some ⟨b0, 2, none⟩) 4 4] fun z W7 W8 => ∃ x16 : Option Loc, ∃ x17 : Nat, ∃ x18 : Nat, z = .returned (Value.tuple #[]) ∧ Bt W0 M H2 [(b1, Obj.cells #[vsl x16 x17 x18] 91 (0, 0))] W7 W8 fun H3 =>
  (0 ≤ (x7 : Int) ∧ (0 ≤ (x7 : Int) →
  (∀ b4 : Nat,
  (Cl Try.prog W0 M H3 (fun W => Kn W0 M H3 W b1 (Obj.cells #[vsl x16 x17 x18] 91 (0, 0)) ∧ Kn W0 M H3 W b4 (Obj.cells #[vi (x7 : Int)] 3 (0, 0)) ∧ True) 53 #[Value.pointer (some ⟨b1, 0, none⟩), vi 1, Value.slice (some ⟨b4, 0, none⟩) 1 1] fun z W9 W10 => ∃ x19 : Option Loc, ∃ x20 : Nat, ∃ x21 : Nat, z = .returned (Value.tuple #[]) ∧ Bt W0 M H3 [(b1, Obj.cells #[vsl x19 x20 x21] 91 (0, 0))] W9 W10 fun H4 =>
  (0 ≤ (x20 : Int) ∧ (0 ≤ (x20 : Int) →
  (0 ≤ (x21 : Int) ∧ (0 ≤ (x21 : Int) →
  (∃ (I0 : List Dat → Hp → Prop) (μ0 : List Dat → Nat), I0 [.n 0, .p (x19.map fun a => a.shift 0), .n x20, .n x21] H4 ∧ ∀ H5 : Hp, ∀ x22 : Nat, ∀ x23 : Option Loc, ∀ x24 : Nat, ∀ x25 : Nat, I0 [.n x22, .p (x23.map fun a => a.shift 0), .n x24, .n x25] H5 →
   (((x22 : Int) < (x7 : Int) →
    (((0 : Int) ≤ (x22 : Int) ∧ (x22 : Int) < (x7 : Int)) ∧ (((0 : Int) ≤ (x22 : Int) ∧ (x22 : Int) < (x7 : Int)) →
    (x6.isSome = true ∧ (x6.isSome = true →
    (∃ x26 : Int, ∃ x27 : Int, ∃ x28 : Int, ∃ x29 : Option Loc, ∃ x30 : Nat, ∃ x31 : Nat, RowAt H5 x6 (0 + ((x22 : Int) * 4)) [vi x26, vi x27, vi x28, vsl x29 x30 x31] ∧
    (∀ b5 : Nat,
    (∀ b6 : Nat,
    (Cl Try.prog W0 M H5 (fun W => Kn W0 M H5 W b1 (Obj.cells #[vsl x23 x24 x25] 91 (0, 0)) ∧ Kn W0 M H5 W b6 (Obj.cells #[vi x26, vi x27] 3 (0, 0)) ∧ True) 53 #[Value.pointer (some ⟨b1, 0, none⟩), vi 1, Value.slice (some ⟨b6, 0, none⟩) 2 2] fun z W11 W12 => ∃ x32 : Option Loc, ∃ x33 : Nat, ∃ x34 : Nat, z = .returned (Value.tuple #[]) ∧ Bt W0 M H5 [(b1, Obj.cells #[vsl x32 x33 x34] 91 (0, 0))] W11 W12 fun H6 =>
    (∀ b7 : Nat,
    (Cl Try.prog W0 M H6 (fun W => Kn W0 M H6 W b1 (Obj.cells #[vsl x32 x33 x34] 91 (0, 0)) ∧ Kn W0 M H6 W b7 (Obj.cells #[vi x28] 3 (0, 0)) ∧ True) 53 #[Value.pointer (some ⟨b1, 0, none⟩), vi 2, Value.slice (some ⟨b7, 0, none⟩) 1 1] fun z W13 W14 => ∃ x35 : Option Loc, ∃ x36 : Nat, ∃ x37 : Nat, z = .returned (Value.tuple #[]) ∧ Bt W0 M H6 [(b1, Obj.cells #[vsl x35 x36 x37] 91 (0, 0))] W13 W14 fun H7 =>
    (0 ≤ (x30 : Int) ∧ (0 ≤ (x30 : Int) →
    (∀ b8 : Nat,
    (Cl Try.prog W0 M H7 (fun W => Kn W0 M H7 W b1 (Obj.cells #[vsl x35 x36 x37] 91 (0, 0)) ∧ Kn W0 M H7 W b8 (Obj.cells #[vi (x30 : Int)] 3 (0, 0)) ∧ True) 53 #[Value.pointer (some ⟨b1, 0, none⟩), vi 1, Value.slice (some ⟨b8, 0, none⟩) 1 1] fun z W15 W16 => ∃ x38 : Option Loc, ∃ x39 : Nat, ∃ x40 : Nat, z = .returned (Value.tuple #[]) ∧ Bt W0 M H7 [(b1, Obj.cells #[vsl x38 x39 x40] 91 (0, 0))] W15 W16 fun H8 =>
    (0 ≤ (x39 : Int) ∧ (0 ≤ (x39 : Int) →
    (0 ≤ (x40 : Int) ∧ (0 ≤ (x40 : Int) →
    (∃ (I1 : List Dat → Hp → Prop) (μ1 : List Dat → Nat), I1 [.n 0, .p (x38.map fun a => a.shift 0), .n x39, .n x40] H8 ∧ ∀ H9 : Hp, ∀ x41 : Nat, ∀ x42 : Option Loc, ∀ x43 : Nat, ∀ x44 : Nat, I1 [.n x41, .p (x42.map fun a => a.shift 0), .n x43, .n x44] H9 →
     (((x41 : Int) < (x30 : Int) →
      (((0 : Int) ≤ (x41 : Int) ∧ (x41 : Int) < (x30 : Int)) ∧ (((0 : Int) ≤ (x41 : Int) ∧ (x41 : Int) < (x30 : Int)) →
      (x29.isSome = true ∧ (x29.isSome = true →
      (∃ x45 : Int, ∃ x46 : Int, RowAt H9 x29 (0 + ((x41 : Int) * 2)) [vi x45, vi x46] ∧
      (∀ b9 : Nat,
      (∀ b10 : Nat,
      (Cl Try.prog W0 M H9 (fun W => Kn W0 M H9 W b1 (Obj.cells #[vsl x42 x43 x44] 91 (0, 0)) ∧ Kn W0 M H9 W b10 (Obj.cells #[vi x45] 3 (0, 0)) ∧ True) 53 #[Value.pointer (some ⟨b1, 0, none⟩), vi 1, Value.slice (some ⟨b10, 0, none⟩) 1 1] fun z W17 W18 => ∃ x47 : Option Loc, ∃ x48 : Nat, ∃ x49 : Nat, z = .returned (Value.tuple #[]) ∧ Bt W0 M H9 [(b1, Obj.cells #[vsl x47 x48 x49] 91 (0, 0))] W17 W18 fun H10 =>
      (inKind .i64 (x46 + 1) ∧ (inKind .i64 (x46 + 1) →
      (∀ b11 : Nat,
      (Cl Try.prog W0 M H10 (fun W => Kn W0 M H10 W b1 (Obj.cells #[vsl x47 x48 x49] 91 (0, 0)) ∧ Kn W0 M H10 W b11 (Obj.cells #[vi (x46 + 1)] 3 (0, 0)) ∧ True) 53 #[Value.pointer (some ⟨b1, 0, none⟩), vi 2, Value.slice (some ⟨b11, 0, none⟩) 1 1] fun z W19 W20 => ∃ x50 : Option Loc, ∃ x51 : Nat, ∃ x52 : Nat, z = .returned (Value.tuple #[]) ∧ Bt W0 M H10 [(b1, Obj.cells #[vsl x50 x51 x52] 91 (0, 0))] W19 W20 fun H11 =>
      (inKind .i64 ((x41 : Int) + 1) ∧ (inKind .i64 ((x41 : Int) + 1) →
      (0 ≤ ((x41 : Int) + 1) ∧ (0 ≤ ((x41 : Int) + 1) →
      (0 ≤ (x51 : Int) ∧ (0 ≤ (x51 : Int) →
      (0 ≤ (x52 : Int) ∧ (0 ≤ (x52 : Int) →
      (I1 [.n (((x41 : Int) + 1) : Int).toNat, .p (x50.map fun a => a.shift 0), .n x51, .n x52] H11 ∧ μ1 [.n (((x41 : Int) + 1) : Int).toNat, .p (x50.map fun a => a.shift 0), .n x51, .n x52] < μ1 [.n x41, .p (x42.map fun a => a.shift 0), .n x43, .n x44])))))))))))))))))))))) ∧
     (¬ ((x41 : Int) < (x30 : Int)) →
      (inKind .i64 ((x22 : Int) + 1) ∧ (inKind .i64 ((x22 : Int) + 1) →
      (0 ≤ ((x22 : Int) + 1) ∧ (0 ≤ ((x22 : Int) + 1) →
      (0 ≤ (x43 : Int) ∧ (0 ≤ (x43 : Int) →
      (0 ≤ (x44 : Int) ∧ (0 ≤ (x44 : Int) →
      (I0 [.n (((x22 : Int) + 1) : Int).toNat, .p (x42.map fun a => a.shift 0), .n x43, .n x44] H9 ∧ μ0 [.n (((x22 : Int) + 1) : Int).toNat, .p (x42.map fun a => a.shift 0), .n x43, .n x44] < μ0 [.n x22, .p (x23.map fun a => a.shift 0), .n x24, .n x25]))))))))))))))))))))))))))))))) ∧
   (¬ ((x22 : Int) < (x7 : Int)) →
    (Es W0 M H5 nK fun W11 => ∃ x26 : ByteArray, Eo Try.prog (.conv 71 9) [vsl x23 x24 x25] W11 (.value (Value.string x26)) fun W12 => Ext W11 W12 ∧
    Rt R W0 M H5 nK (Value.tuple #[Value.string x26, vi 0])))))))))))))))))))) ∧
 (¬ (x9 = 0) →
  Rt R W0 M H0 nK (Value.tuple #[Value.string ⟨#[]⟩, vi x9])))))) :
  Calls Try.prog 23 #[Value.agg #[vi x0, vi x1, vi x2, vi x3, vi x4, vi x5, vsl x6 x7 x8]] W0 R :=
  calls_sxA (M := M) (V := v_snapWrite) (hi := {loops := [(10, .inv [(40, .nat)] [(5, [.pt .sl])]), (16, .inv [(65, .nat)] [(5, [.pt .sl])])], mods := [(53, [0])], turns := [53]}) (args := [.agg [.int .i64 (.v 0), .int .i64 (.v 1), .int .i64 (.v 2), .int .i64 (.v 3), .int .i64 (.v 4), .int .i64 (.v 5), .slO 6 (.k 0) (.v 7) (.v 8)]]) (nv := 9) (e := (upd (upd (upd (upd (upd (upd (upd (upd (upd (fun _ => .i 0) 0 (.i x0)) 1 (.i x1)) 2 (.i x2)) 3 (.i x3)) 4 (.i x4)) 5 (.i x5)) 6 (.p x6)) 7 (.n x7)) 8 (.n x8))) Try.func23 hH h (by kernel_rfl) (by kernel_rfl) (by kernel_rfl)
def v_get : VC :=
(.ite (.lt (.slen 0) (.v 1))
(.esc (.mkIface 100) [.agg []] [] [(2, .v)] (some (.o 2)) .fresh
(.pnc (.o 2) [] none []))
(.esc (.slice 9 false true false) [.str 0, .int .i64 (.v 1)] [] [(2, .s)] (some (.str 2)) .same
(.esc (.conv 9 71) [.str 2] [] [(3, .p), (4, .n), (5, .n)] (some (.slO 3 (.k 0) (.v 4) (.v 5))) .fresh
(.chk (.le (.k 0) (.v 4))
(.loop [(6, .n), (7, .i)] [.n (.k 0), .i (.k 0)] [.n (.v 6), .i (.v 7)]
(.ite (.lt (.v 6) (.v 4))
(.chk (.idx (.v 6) (.v 4))
(.chk (.isp 3)
(.ld 3 (.add (.k 0) (.mul (.v 6) (.k 1))) [.int .u8 (.v 8)] [(8, .i)]
(.esc (.bop .shl 3 (.tmp 29) (.const (Value.int .u64 8))) [.int .i64 (.v 7), .int .u64 (.k 8)] [] [(9, .i)] (some (.int .i64 (.v 9))) .same
(.chk (.rng .i64 (.v 8))
(.esc (.bop .or 3 (.tmp 30) (.tmp 32)) [.int .i64 (.v 9), .int .i64 (.v 8)] [] [(10, .i)] (some (.int .i64 (.v 10))) .same
(.chk (.rng .i64 (.add (.v 6) (.k 1)))
(.chk (.le (.k 0) (.add (.v 6) (.k 1)))
(.back 0 [.n (.add (.v 6) (.k 1)), .i (.v 10)])))))))))
(.esc (.slice 9 true false false) [.str 0, .int .i64 (.v 1)] [] [(8, .s)] (some (.str 8)) .same
(.ret (.int .i64 (.v 7)) [(0, ⟨[.str 8], 95⟩)]))))))))
theorem x_get (x0 : ByteArray) (x1 : Int) (b0 : Nat) (M : Nat → Prop) (H0 : Hp) (W0 : World) (R : Ending → World → Prop) (hH : H0.le (hpOf W0)) (h0 : W0.heap[b0]? = some (Obj.cells #[Value.string x0] 95 (0, 0)) ∧ M b0 ∧ H0 b0 = none) (h :
 (((x0.size : Int) < x1 →
  (Es W0 M H0 nK fun W1 => ∃ x2 : Value, Eo Try.prog (.mkIface 100) [Value.agg #[]] W1 (.value (x2)) fun W2 => Fr W1 W2 H0 fun H1 =>
  (∀ W, Now W0 M H1 W → nK W → (∃ t u, x2 = .iface t u) ∧ Dr Try.prog R none [] (.panicking [{ v := x2, recovered := false }]) W))) ∧
 (¬ ((x0.size : Int) < x1) →
  (Es W0 M H0 nK fun W1 => ∃ x2 : ByteArray, Eo Try.prog (.slice 9 false true false) [Value.string x0, vi x1] W1 (.value (Value.string x2)) fun W2 => Ext W1 W2 ∧
  (Es W0 M H0 nK fun W3 => ∃ x3 : Option Loc, ∃ x4 : Nat, ∃ x5 : Nat, Eo Try.prog (.conv 9 71) [Value.string x2] W3 (.value (vsl x3 x4 x5)) fun W4 => Fr W3 W4 H0 fun H1 =>
  (0 ≤ (x4 : Int) ∧ (0 ≤ (x4 : Int) →
  (∃ (I0 : List Dat → Hp → Prop) (μ0 : List Dat → Nat), I0 [.n 0, .i 0] H1 ∧ ∀ H2 : Hp, ∀ x6 : Nat, ∀ x7 : Int, I0 [.n x6, .i x7] H2 →
   (((x6 : Int) < (x4 : Int) →
    (((0 : Int) ≤ (x6 : Int) ∧ (x6 : Int) < (x4 : Int)) ∧ (((0 : Int) ≤ (x6 : Int) ∧ (x6 : Int) < (x4 : Int)) →
    (x3.isSome = true ∧ (x3.isSome = true →
    (∃ x8 : Int, RowAt H2 x3 (0 + ((x6 : Int) * 1)) [Value.int .u8 x8] ∧
    (Es W0 M H2 nK fun W5 => ∃ x9 : Int, Eo Try.prog (.bop .shl 3 (.tmp 29) (.const (Value.int .u64 8))) [vi x7, Value.int .u64 8] W5 (.value (vi x9)) fun W6 => Ext W5 W6 ∧
    (inKind .i64 x8 ∧ (inKind .i64 x8 →
    (Es W0 M H2 nK fun W7 => ∃ x10 : Int, Eo Try.prog (.bop .or 3 (.tmp 30) (.tmp 32)) [vi x9, vi x8] W7 (.value (vi x10)) fun W8 => Ext W7 W8 ∧
    (inKind .i64 ((x6 : Int) + 1) ∧ (inKind .i64 ((x6 : Int) + 1) →
    (0 ≤ ((x6 : Int) + 1) ∧ (0 ≤ ((x6 : Int) + 1) →
    (I0 [.n (((x6 : Int) + 1) : Int).toNat, .i x10] H2 ∧ μ0 [.n (((x6 : Int) + 1) : Int).toNat, .i x10] < μ0 [.n x6, .i x7]))))))))))))))) ∧
   (¬ ((x6 : Int) < (x4 : Int)) →
    (Es W0 M H2 nK fun W5 => ∃ x8 : ByteArray, Eo Try.prog (.slice 9 true false false) [Value.string x0, vi x1] W5 (.value (Value.string x8)) fun W6 => Ext W5 W6 ∧
    Rt R W0 M H2 (fun W => Kn W0 M H2 W b0 (Obj.cells #[Value.string x8] 95 (0, 0)) ∧ True) (vi x7)))))))))))) :
  Calls Try.prog 55 #[Value.pointer (some ⟨b0, 0, none⟩), vi x1] W0 R :=
  calls_sxC (M := M) (V := v_get) (hi := {pn := true, loops := [(5, .inv [(25, .nat), (5, .pt (.int .i64))] [])]}) (o0 := ⟨[.str 0], 95⟩) (args := [.ptrK 0 0, .int .i64 (.v 1)]) (nv := 2) (e := (upd (upd (fun _ => .i 0) 0 (.s x0)) 1 (.i x1))) Try.func55 hH h0 h (by kernel_rfl) (by kernel_rfl) (by kernel_rfl) (by kernel_rfl)
def v_reply : VC :=
(.all 1
(.callp 55 [.ptrK 0 0, .int .i64 (.k 1)] [(0, ⟨[.str 0], 95⟩)] [(1, .i), (2, .s)] (.int .i64 (.v 1)) (.mods [(0, ⟨[.str 2], 95⟩)]) none []
(.callp 55 [.ptrK 0 0, .int .i64 (.k 2)] [(0, ⟨[.str 2], 95⟩)] [(3, .i), (4, .s)] (.int .i64 (.v 3)) (.mods [(0, ⟨[.str 4], 95⟩)]) none []
(.chk (.rng .i64 (.sub (.v 3) (.k 1)))
(.ret (.agg [.int .i64 (.v 1), .int .i64 (.sub (.v 3) (.k 1))]) [(0, ⟨[.str 4], 95⟩)])))))
theorem x_reply (x0 : ByteArray) (b0 : Nat) (M : Nat → Prop) (H0 : Hp) (W0 : World) (R : Ending → World → Prop) (hH : H0.le (hpOf W0)) (h0 : W0.heap[b0]? = some (Obj.cells #[Value.string x0] 95 (0, 0)) ∧ M b0 ∧ H0 b0 = none) (h :
 (∀ b1 : Nat,
 (Clp Try.prog W0 M H0 (fun W => Kn W0 M H0 W b0 (Obj.cells #[Value.string x0] 95 (0, 0)) ∧ True) 55 #[Value.pointer (some ⟨b0, 0, none⟩), vi 1] (fun z W1 W2 => ∃ x1 : Int, ∃ x2 : ByteArray, z = .returned (vi x1) ∧ Md [(b0, Obj.cells #[Value.string x2] 95 (0, 0))] W1 W2 (
 (Clp Try.prog W0 M H0 (fun W => Kn W0 M H0 W b0 (Obj.cells #[Value.string x2] 95 (0, 0)) ∧ True) 55 #[Value.pointer (some ⟨b0, 0, none⟩), vi 2] (fun z W3 W4 => ∃ x3 : Int, ∃ x4 : ByteArray, z = .returned (vi x3) ∧ Md [(b0, Obj.cells #[Value.string x4] 95 (0, 0))] W3 W4 (
 (inKind .i64 (x3 - 1) ∧ (inKind .i64 (x3 - 1) →
 Rt R W0 M H0 (fun W => Kn W0 M H0 W b0 (Obj.cells #[Value.string x4] 95 (0, 0)) ∧ True) (Value.agg #[vi x1, vi (x3 - 1)]))))) fun ps W => Dr Try.prog R none [] (.panicking ps) W))) fun ps W => Dr Try.prog R none [] (.panicking ps) W))) :
  Calls Try.prog 71 #[Value.pointer (some ⟨b0, 0, none⟩)] W0 R :=
  calls_sxC (M := M) (V := v_reply) (hi := {pn := true, pans := [55], mods := [(55, [0])]}) (o0 := ⟨[.str 0], 95⟩) (args := [.ptrK 0 0]) (nv := 1) (e := (upd (fun _ => .i 0) 0 (.s x0))) Try.func71 hH h0 h (by kernel_rfl) (by kernel_rfl) (by kernel_rfl) (by kernel_rfl)
def v_listR : VC :=
(.callp 55 [.ptrK 0 0, .int .i64 (.k 1)] [(0, ⟨[.str 0], 95⟩)] [(1, .i), (2, .s)] (.int .i64 (.v 1)) (.mods [(0, ⟨[.str 2], 95⟩)]) none []
(.loop [(3, .n), (4, .p), (5, .n), (6, .n), (7, .s)] [.n (.k 0), .pn, .n (.k 0), .n (.k 0), .s 2] [.n (.v 3), .p 4 (.k 0), .n (.v 5), .n (.v 6), .s 7]
(.ite (.lt (.v 3) (.v 1))
(.callp 71 [.ptrK 0 0] [(0, ⟨[.str 7], 95⟩)] [(8, .i), (9, .i), (10, .s)] (.agg [.int .i64 (.v 8), .int .i64 (.v 9)]) (.mods [(0, ⟨[.str 10], 95⟩)]) none []
(.all 1
(.esc (.bi .append #[57, 57] 57) [.slO 4 (.k 0) (.v 5) (.v 6), .slK 1 0 1 1] [(1, ⟨[.int .i64 (.v 8), .int .i64 (.v 9)], 67⟩)] [(11, .p), (12, .n), (13, .n)] (some (.slO 11 (.k 0) (.v 12) (.v 13))) .turn
(.chk (.rng .i64 (.add (.v 3) (.k 1)))
(.chk (.le (.k 0) (.add (.v 3) (.k 1)))
(.chk (.le (.k 0) (.v 12))
(.chk (.le (.k 0) (.v 13))
(.back 0 [.n (.add (.v 3) (.k 1)), .p 11 (.k 0), .n (.v 12), .n (.v 13), .s 10]))))))))
(.ret (.slO 4 (.k 0) (.v 5) (.v 6)) [(0, ⟨[.str 7], 95⟩)]))))
theorem x_listR (x0 : ByteArray) (b0 : Nat) (M : Nat → Prop) (H0 : Hp) (W0 : World) (R : Ending → World → Prop) (hH : H0.le (hpOf W0)) (h0 : W0.heap[b0]? = some (Obj.cells #[Value.string x0] 95 (0, 0)) ∧ M b0 ∧ H0 b0 = none) (h :
 (Clp Try.prog W0 M H0 (fun W => Kn W0 M H0 W b0 (Obj.cells #[Value.string x0] 95 (0, 0)) ∧ True) 55 #[Value.pointer (some ⟨b0, 0, none⟩), vi 1] (fun z W1 W2 => ∃ x1 : Int, ∃ x2 : ByteArray, z = .returned (vi x1) ∧ Md [(b0, Obj.cells #[Value.string x2] 95 (0, 0))] W1 W2 (
 (∃ (I0 : List Dat → Hp → Prop) (μ0 : List Dat → Nat), I0 [.n 0, .p none, .n 0, .n 0, .s x2] H0 ∧ ∀ H1 : Hp, ∀ x3 : Nat, ∀ x4 : Option Loc, ∀ x5 : Nat, ∀ x6 : Nat, ∀ x7 : ByteArray, I0 [.n x3, .p (x4.map fun a => a.shift 0), .n x5, .n x6, .s x7] H1 →
  (((x3 : Int) < x1 →
   (Clp Try.prog W0 M H1 (fun W => Kn W0 M H1 W b0 (Obj.cells #[Value.string x7] 95 (0, 0)) ∧ True) 71 #[Value.pointer (some ⟨b0, 0, none⟩)] (fun z W3 W4 => ∃ x8 : Int, ∃ x9 : Int, ∃ x10 : ByteArray, z = .returned (Value.agg #[vi x8, vi x9]) ∧ Md [(b0, Obj.cells #[Value.string x10] 95 (0, 0))] W3 W4 (
   (∀ b1 : Nat,
   (Es W0 M H1 (fun W => Kn W0 M H1 W b1 (Obj.cells #[vi x8, vi x9] 67 (0, 0)) ∧ True) fun W5 => ∃ x11 : Option Loc, ∃ x12 : Nat, ∃ x13 : Nat, Eo Try.prog (.bi .append #[57, 57] 57) [vsl x4 x5 x6, Value.slice (some ⟨b1, 0, none⟩) 1 1] W5 (.value (vsl x11 x12 x13)) fun W6 => Tn W0 M H1 W5 W6 fun H2 =>
   (inKind .i64 ((x3 : Int) + 1) ∧ (inKind .i64 ((x3 : Int) + 1) →
   (0 ≤ ((x3 : Int) + 1) ∧ (0 ≤ ((x3 : Int) + 1) →
   (0 ≤ (x12 : Int) ∧ (0 ≤ (x12 : Int) →
   (0 ≤ (x13 : Int) ∧ (0 ≤ (x13 : Int) →
   (I0 [.n (((x3 : Int) + 1) : Int).toNat, .p (x11.map fun a => a.shift 0), .n x12, .n x13, .s x10] H2 ∧ μ0 [.n (((x3 : Int) + 1) : Int).toNat, .p (x11.map fun a => a.shift 0), .n x12, .n x13, .s x10] < μ0 [.n x3, .p (x4.map fun a => a.shift 0), .n x5, .n x6, .s x7]))))))))))))) fun ps W => Dr Try.prog R none [] (.panicking ps) W)) ∧
  (¬ ((x3 : Int) < x1) →
   Rt R W0 M H1 (fun W => Kn W0 M H1 W b0 (Obj.cells #[Value.string x7] 95 (0, 0)) ∧ True) (vsl x4 x5 x6)))))) fun ps W => Dr Try.prog R none [] (.panicking ps) W)) :
  Calls Try.prog 70 #[Value.pointer (some ⟨b0, 0, none⟩), Value.func (.func 71) #[] #[]] W0 R :=
  calls_sxC (M := M) (V := v_listR) (hi := {pn := true, pans := [55, 71], mods := [(55, [0]), (71, [0])], loops := [(3, .inv [(8, .nat), (5, .pt .sl)] [(0, [.pt .str])])]}) (o0 := ⟨[.str 0], 95⟩) (args := [.ptrK 0 0, .func 71 [] []]) (nv := 1) (e := (upd (fun _ => .i 0) 0 (.s x0))) Try.func70 hH h0 h (by kernel_rfl) (by kernel_rfl) (by kernel_rfl) (by kernel_rfl)
def v_session : VC :=
(.all 1
(.callp 55 [.ptrK 0 0, .int .i64 (.k 1)] [(0, ⟨[.str 0], 95⟩)] [(1, .i), (2, .s)] (.int .i64 (.v 1)) (.mods [(0, ⟨[.str 2], 95⟩)]) none []
(.callp 55 [.ptrK 0 0, .int .i64 (.k 1)] [(0, ⟨[.str 2], 95⟩)] [(3, .i), (4, .s)] (.int .i64 (.v 3)) (.mods [(0, ⟨[.str 4], 95⟩)]) none []
(.callp 55 [.ptrK 0 0, .int .i64 (.k 2)] [(0, ⟨[.str 4], 95⟩)] [(5, .i), (6, .s)] (.int .i64 (.v 5)) (.mods [(0, ⟨[.str 6], 95⟩)]) none []
(.callp 70 [.ptrK 0 0, .func 71 [] []] [(0, ⟨[.str 6], 95⟩)] [(7, .p), (8, .n), (9, .n), (10, .s)] (.slO 7 (.k 0) (.v 8) (.v 9)) (.both [(0, ⟨[.str 10], 95⟩)]) none []
(.ret (.agg [.int .i64 (.v 1), .int .i64 (.v 3), .int .i64 (.v 5), .slO 7 (.k 0) (.v 8) (.v 9)]) [(0, ⟨[.str 10], 95⟩)]))))))
theorem x_session (x0 : ByteArray) (b0 : Nat) (M : Nat → Prop) (H0 : Hp) (W0 : World) (R : Ending → World → Prop) (hH : H0.le (hpOf W0)) (h0 : W0.heap[b0]? = some (Obj.cells #[Value.string x0] 95 (0, 0)) ∧ M b0 ∧ H0 b0 = none) (h :
 (∀ b1 : Nat,
 (Clp Try.prog W0 M H0 (fun W => Kn W0 M H0 W b0 (Obj.cells #[Value.string x0] 95 (0, 0)) ∧ True) 55 #[Value.pointer (some ⟨b0, 0, none⟩), vi 1] (fun z W1 W2 => ∃ x1 : Int, ∃ x2 : ByteArray, z = .returned (vi x1) ∧ Md [(b0, Obj.cells #[Value.string x2] 95 (0, 0))] W1 W2 (
 (Clp Try.prog W0 M H0 (fun W => Kn W0 M H0 W b0 (Obj.cells #[Value.string x2] 95 (0, 0)) ∧ True) 55 #[Value.pointer (some ⟨b0, 0, none⟩), vi 1] (fun z W3 W4 => ∃ x3 : Int, ∃ x4 : ByteArray, z = .returned (vi x3) ∧ Md [(b0, Obj.cells #[Value.string x4] 95 (0, 0))] W3 W4 (
 (Clp Try.prog W0 M H0 (fun W => Kn W0 M H0 W b0 (Obj.cells #[Value.string x4] 95 (0, 0)) ∧ True) 55 #[Value.pointer (some ⟨b0, 0, none⟩), vi 2] (fun z W5 W6 => ∃ x5 : Int, ∃ x6 : ByteArray, z = .returned (vi x5) ∧ Md [(b0, Obj.cells #[Value.string x6] 95 (0, 0))] W5 W6 (
 (Clp Try.prog W0 M H0 (fun W => Kn W0 M H0 W b0 (Obj.cells #[Value.string x6] 95 (0, 0)) ∧ True) 70 #[Value.pointer (some ⟨b0, 0, none⟩), Value.func (.func 71) #[] #[]] (fun z W7 W8 => ∃ x7 : Option Loc, ∃ x8 : Nat, ∃ x9 : Nat, ∃ x10 : ByteArray, z = .returned (vsl x7 x8 x9) ∧ Bt W0 M H0 [(b0, Obj.cells #[Value.string x10] 95 (0, 0))] W7 W8 fun H1 =>
 Rt R W0 M H1 (fun W => Kn W0 M H1 W b0 (Obj.cells #[Value.string x10] 95 (0, 0)) ∧ True) (Value.agg #[vi x1, vi x3, vi x5, vsl x7 x8 x9])) fun ps W => Dr Try.prog R none [] (.panicking ps) W))) fun ps W => Dr Try.prog R none [] (.panicking ps) W))) fun ps W => Dr Try.prog R none [] (.panicking ps) W))) fun ps W => Dr Try.prog R none [] (.panicking ps) W))) :
  Calls Try.prog 57 #[Value.pointer (some ⟨b0, 0, none⟩)] W0 R :=
  calls_sxC (M := M) (V := v_session) (hi := {pn := true, pans := [55, 70], mods := [(55, [0]), (70, [0])], turns := [70]}) (o0 := ⟨[.str 0], 95⟩) (args := [.ptrK 0 0]) (nv := 1) (e := (upd (fun _ => .i 0) 0 (.s x0))) Try.func57 hH h0 h (by kernel_rfl) (by kernel_rfl) (by kernel_rfl) (by kernel_rfl)
def v_listS : VC :=
(.callp 55 [.ptrK 0 0, .int .i64 (.k 1)] [(0, ⟨[.str 0], 95⟩)] [(1, .i), (2, .s)] (.int .i64 (.v 1)) (.mods [(0, ⟨[.str 2], 95⟩)]) none []
(.loop [(3, .n), (4, .p), (5, .n), (6, .n), (7, .s)] [.n (.k 0), .pn, .n (.k 0), .n (.k 0), .s 2] [.n (.v 3), .p 4 (.k 0), .n (.v 5), .n (.v 6), .s 7]
(.ite (.lt (.v 3) (.v 1))
(.callp 57 [.ptrK 0 0] [(0, ⟨[.str 7], 95⟩)] [(8, .i), (9, .i), (10, .i), (11, .p), (12, .n), (13, .n), (14, .s)] (.agg [.int .i64 (.v 8), .int .i64 (.v 9), .int .i64 (.v 10), .slO 11 (.k 0) (.v 12) (.v 13)]) (.both [(0, ⟨[.str 14], 95⟩)]) none []
(.all 1
(.esc (.bi .append #[23, 23] 23) [.slO 4 (.k 0) (.v 5) (.v 6), .slK 1 0 1 1] [(1, ⟨[.int .i64 (.v 8), .int .i64 (.v 9), .int .i64 (.v 10), .slO 11 (.k 0) (.v 12) (.v 13)], 59⟩)] [(15, .p), (16, .n), (17, .n)] (some (.slO 15 (.k 0) (.v 16) (.v 17))) .turn
(.chk (.rng .i64 (.add (.v 3) (.k 1)))
(.chk (.le (.k 0) (.add (.v 3) (.k 1)))
(.chk (.le (.k 0) (.v 16))
(.chk (.le (.k 0) (.v 17))
(.back 0 [.n (.add (.v 3) (.k 1)), .p 15 (.k 0), .n (.v 16), .n (.v 17), .s 14]))))))))
(.ret (.slO 4 (.k 0) (.v 5) (.v 6)) [(0, ⟨[.str 7], 95⟩)]))))
theorem x_listS (x0 : ByteArray) (b0 : Nat) (M : Nat → Prop) (H0 : Hp) (W0 : World) (R : Ending → World → Prop) (hH : H0.le (hpOf W0)) (h0 : W0.heap[b0]? = some (Obj.cells #[Value.string x0] 95 (0, 0)) ∧ M b0 ∧ H0 b0 = none) (h :
 (Clp Try.prog W0 M H0 (fun W => Kn W0 M H0 W b0 (Obj.cells #[Value.string x0] 95 (0, 0)) ∧ True) 55 #[Value.pointer (some ⟨b0, 0, none⟩), vi 1] (fun z W1 W2 => ∃ x1 : Int, ∃ x2 : ByteArray, z = .returned (vi x1) ∧ Md [(b0, Obj.cells #[Value.string x2] 95 (0, 0))] W1 W2 (
 (∃ (I0 : List Dat → Hp → Prop) (μ0 : List Dat → Nat), I0 [.n 0, .p none, .n 0, .n 0, .s x2] H0 ∧ ∀ H1 : Hp, ∀ x3 : Nat, ∀ x4 : Option Loc, ∀ x5 : Nat, ∀ x6 : Nat, ∀ x7 : ByteArray, I0 [.n x3, .p (x4.map fun a => a.shift 0), .n x5, .n x6, .s x7] H1 →
  (((x3 : Int) < x1 →
   (Clp Try.prog W0 M H1 (fun W => Kn W0 M H1 W b0 (Obj.cells #[Value.string x7] 95 (0, 0)) ∧ True) 57 #[Value.pointer (some ⟨b0, 0, none⟩)] (fun z W3 W4 => ∃ x8 : Int, ∃ x9 : Int, ∃ x10 : Int, ∃ x11 : Option Loc, ∃ x12 : Nat, ∃ x13 : Nat, ∃ x14 : ByteArray, z = .returned (Value.agg #[vi x8, vi x9, vi x10, vsl x11 x12 x13]) ∧ Bt W0 M H1 [(b0, Obj.cells #[Value.string x14] 95 (0, 0))] W3 W4 fun H2 =>
   (∀ b1 : Nat,
   (Es W0 M H2 (fun W => Kn W0 M H2 W b1 (Obj.cells #[vi x8, vi x9, vi x10, vsl x11 x12 x13] 59 (0, 0)) ∧ True) fun W5 => ∃ x15 : Option Loc, ∃ x16 : Nat, ∃ x17 : Nat, Eo Try.prog (.bi .append #[23, 23] 23) [vsl x4 x5 x6, Value.slice (some ⟨b1, 0, none⟩) 1 1] W5 (.value (vsl x15 x16 x17)) fun W6 => Tn W0 M H2 W5 W6 fun H3 =>
   (inKind .i64 ((x3 : Int) + 1) ∧ (inKind .i64 ((x3 : Int) + 1) →
   (0 ≤ ((x3 : Int) + 1) ∧ (0 ≤ ((x3 : Int) + 1) →
   (0 ≤ (x16 : Int) ∧ (0 ≤ (x16 : Int) →
   (0 ≤ (x17 : Int) ∧ (0 ≤ (x17 : Int) →
   (I0 [.n (((x3 : Int) + 1) : Int).toNat, .p (x15.map fun a => a.shift 0), .n x16, .n x17, .s x14] H3 ∧ μ0 [.n (((x3 : Int) + 1) : Int).toNat, .p (x15.map fun a => a.shift 0), .n x16, .n x17, .s x14] < μ0 [.n x3, .p (x4.map fun a => a.shift 0), .n x5, .n x6, .s x7])))))))))))) fun ps W => Dr Try.prog R none [] (.panicking ps) W)) ∧
  (¬ ((x3 : Int) < x1) →
   Rt R W0 M H1 (fun W => Kn W0 M H1 W b0 (Obj.cells #[Value.string x7] 95 (0, 0)) ∧ True) (vsl x4 x5 x6)))))) fun ps W => Dr Try.prog R none [] (.panicking ps) W)) :
  Calls Try.prog 56 #[Value.pointer (some ⟨b0, 0, none⟩), Value.func (.func 57) #[] #[]] W0 R :=
  calls_sxC (M := M) (V := v_listS) (hi := {pn := true, pans := [55, 57], mods := [(55, [0]), (57, [0])], turns := [57], loops := [(3, .inv [(8, .nat), (5, .pt .sl)] [(0, [.pt .str])])]}) (o0 := ⟨[.str 0], 95⟩) (args := [.ptrK 0 0, .func 57 [] []]) (nv := 1) (e := (upd (fun _ => .i 0) 0 (.s x0))) Try.func56 hH h0 h (by kernel_rfl) (by kernel_rfl) (by kernel_rfl) (by kernel_rfl)
def v_snapRead : VC :=
(.all 0
(.all 1
(.ite (.lt (.k 4096) (.slen 0))
(.ret (.tup [.agg [.int .i64 (.k 0), .int .i64 (.k 0), .int .i64 (.k 0), .int .i64 (.k 0), .int .i64 (.k 0), .int .i64 (.k 0), .c (Value.slice none 0 0)], .int .i64 (.k 2)]) [])
(.all 2
(.callp 55 [.ptrK 2 0, .int .i64 (.k 1)] [(2, ⟨[.str 0], 95⟩), (0, ⟨[.int .i64 (.k 0), .int .i64 (.k 0), .int .i64 (.k 0), .int .i64 (.k 0), .int .i64 (.k 0), .int .i64 (.k 0), .c (Value.slice none 0 0)], 25⟩), (1, ⟨[.int .i64 (.k 0)], 27⟩)] [(1, .i), (2, .s)] (.int .i64 (.v 1)) (.mods [(2, ⟨[.str 2], 95⟩)]) (some (54, [0, 1])) [(0, 25), (1, 27)]
(.callp 55 [.ptrK 2 0, .int .i64 (.k 2)] [(2, ⟨[.str 2], 95⟩), (0, ⟨[.int .i64 (.v 1), .int .i64 (.k 0), .int .i64 (.k 0), .int .i64 (.k 0), .int .i64 (.k 0), .int .i64 (.k 0), .c (Value.slice none 0 0)], 25⟩), (1, ⟨[.int .i64 (.k 0)], 27⟩)] [(3, .i), (4, .s)] (.int .i64 (.v 3)) (.mods [(2, ⟨[.str 4], 95⟩)]) (some (54, [0, 1])) [(0, 25), (1, 27)]
(.callp 55 [.ptrK 2 0, .int .i64 (.k 2)] [(2, ⟨[.str 4], 95⟩), (0, ⟨[.int .i64 (.v 1), .int .i64 (.v 3), .int .i64 (.k 0), .int .i64 (.k 0), .int .i64 (.k 0), .int .i64 (.k 0), .c (Value.slice none 0 0)], 25⟩), (1, ⟨[.int .i64 (.k 0)], 27⟩)] [(5, .i), (6, .s)] (.int .i64 (.v 5)) (.mods [(2, ⟨[.str 6], 95⟩)]) (some (54, [0, 1])) [(0, 25), (1, 27)]
(.callp 55 [.ptrK 2 0, .int .i64 (.k 2)] [(2, ⟨[.str 6], 95⟩), (0, ⟨[.int .i64 (.v 1), .int .i64 (.v 3), .int .i64 (.v 5), .int .i64 (.k 0), .int .i64 (.k 0), .int .i64 (.k 0), .c (Value.slice none 0 0)], 25⟩), (1, ⟨[.int .i64 (.k 0)], 27⟩)] [(7, .i), (8, .s)] (.int .i64 (.v 7)) (.mods [(2, ⟨[.str 8], 95⟩)]) (some (54, [0, 1])) [(0, 25), (1, 27)]
(.callp 55 [.ptrK 2 0, .int .i64 (.k 2)] [(2, ⟨[.str 8], 95⟩), (0, ⟨[.int .i64 (.v 1), .int .i64 (.v 3), .int .i64 (.v 5), .int .i64 (.v 7), .int .i64 (.k 0), .int .i64 (.k 0), .c (Value.slice none 0 0)], 25⟩), (1, ⟨[.int .i64 (.k 0)], 27⟩)] [(9, .i), (10, .s)] (.int .i64 (.v 9)) (.mods [(2, ⟨[.str 10], 95⟩)]) (some (54, [0, 1])) [(0, 25), (1, 27)]
(.callp 55 [.ptrK 2 0, .int .i64 (.k 2)] [(2, ⟨[.str 10], 95⟩), (0, ⟨[.int .i64 (.v 1), .int .i64 (.v 3), .int .i64 (.v 5), .int .i64 (.v 7), .int .i64 (.v 9), .int .i64 (.k 0), .c (Value.slice none 0 0)], 25⟩), (1, ⟨[.int .i64 (.k 0)], 27⟩)] [(11, .i), (12, .s)] (.int .i64 (.v 11)) (.mods [(2, ⟨[.str 12], 95⟩)]) (some (54, [0, 1])) [(0, 25), (1, 27)]
(.callp 56 [.ptrK 2 0, .func 57 [] []] [(2, ⟨[.str 12], 95⟩), (0, ⟨[.int .i64 (.v 1), .int .i64 (.v 3), .int .i64 (.v 5), .int .i64 (.v 7), .int .i64 (.v 9), .int .i64 (.v 11), .c (Value.slice none 0 0)], 25⟩), (1, ⟨[.int .i64 (.k 0)], 27⟩)] [(13, .p), (14, .n), (15, .n), (16, .s)] (.slO 13 (.k 0) (.v 14) (.v 15)) (.both [(2, ⟨[.str 16], 95⟩)]) (some (54, [0, 1])) [(0, 25), (1, 27)]
(.esc (.bop .neq 9 (.tmp 35) (.const (Value.string ⟨#[]⟩))) [.str 16, .c (Value.string ⟨#[]⟩)] [] [(17, .b)] (some (.bool (.v 17))) .same
(.ite (.v 17)
(.esc (.mkIface 100) [.agg []] [] [(18, .v)] (some (.o 18)) .fresh
(.pnc (.o 18) [(0, ⟨[.int .i64 (.v 1), .int .i64 (.v 3), .int .i64 (.v 5), .int .i64 (.v 7), .int .i64 (.v 9), .int .i64 (.v 11), .slO 13 (.k 0) (.v 14) (.v 15)], 25⟩), (1, ⟨[.int .i64 (.k 0)], 27⟩)] (some (54, [0, 1])) [(0, 25), (1, 27)]))
(.call 11 [.agg [.int .i64 (.v 1), .int .i64 (.v 3), .int .i64 (.v 5), .int .i64 (.v 7), .int .i64 (.v 9), .int .i64 (.v 11), .slO 13 (.k 0) (.v 14) (.v 15)]] [] [(18, .i)] (.int .i64 (.v 18)) .same
(.ite (.eq (.v 18) (.k 0))
(.door [(0, ⟨[.int .i64 (.v 1), .int .i64 (.v 3), .int .i64 (.v 5), .int .i64 (.v 7), .int .i64 (.v 9), .int .i64 (.v 11), .slO 13 (.k 0) (.v 14) (.v 15)], 25⟩), (1, ⟨[.int .i64 (.k 0)], 27⟩)] (some (54, [0, 1])) [(0, 25), (1, 27)])
(.esc (.mkIface 100) [.agg []] [] [(19, .v)] (some (.o 19)) .fresh
(.pnc (.o 19) [(0, ⟨[.int .i64 (.v 1), .int .i64 (.v 3), .int .i64 (.v 5), .int .i64 (.v 7), .int .i64 (.v 9), .int .i64 (.v 11), .slO 13 (.k 0) (.v 14) (.v 15)], 25⟩), (1, ⟨[.int .i64 (.k 0)], 27⟩)] (some (54, [0, 1])) [(0, 25), (1, 27)])))))))))))))))))
theorem x_snapRead (x0 : ByteArray) (M : Nat → Prop) (H0 : Hp) (W0 : World) (R : Ending → World → Prop) (hH : H0.le (hpOf W0)) (h :
 (∀ b0 : Nat,
 (∀ b1 : Nat,
 ((4096 < (x0.size : Int) →
  Rt R W0 M H0 nK (Value.tuple #[Value.agg #[vi 0, vi 0, vi 0, vi 0, vi 0, vi 0, Value.slice none 0 0], vi 2])) ∧
 (¬ (4096 < (x0.size : Int)) →
  (∀ b2 : Nat,
  (Clp Try.prog W0 M H0 (fun W => Kn W0 M H0 W b2 (Obj.cells #[Value.string x0] 95 (0, 0)) ∧ Kn W0 M H0 W b0 (Obj.cells #[vi 0, vi 0, vi 0, vi 0, vi 0, vi 0, Value.slice none 0 0] 25 (0, 0)) ∧ Kn W0 M H0 W b1 (Obj.cells #[vi 0] 27 (0, 0)) ∧ True) 55 #[Value.pointer (some ⟨b2, 0, none⟩), vi 1] (fun z W1 W2 => ∃ x1 : Int, ∃ x2 : ByteArray, z = .returned (vi x1) ∧ Md [(b2, Obj.cells #[Value.string x2] 95 (0, 0))] W1 W2 (
  (Clp Try.prog W0 M H0 (fun W => Kn W0 M H0 W b2 (Obj.cells #[Value.string x2] 95 (0, 0)) ∧ Kn W0 M H0 W b0 (Obj.cells #[vi x1, vi 0, vi 0, vi 0, vi 0, vi 0, Value.slice none 0 0] 25 (0, 0)) ∧ Kn W0 M H0 W b1 (Obj.cells #[vi 0] 27 (0, 0)) ∧ True) 55 #[Value.pointer (some ⟨b2, 0, none⟩), vi 2] (fun z W3 W4 => ∃ x3 : Int, ∃ x4 : ByteArray, z = .returned (vi x3) ∧ Md [(b2, Obj.cells #[Value.string x4] 95 (0, 0))] W3 W4 (
  (Clp Try.prog W0 M H0 (fun W => Kn W0 M H0 W b2 (Obj.cells #[Value.string x4] 95 (0, 0)) ∧ Kn W0 M H0 W b0 (Obj.cells #[vi x1, vi x3, vi 0, vi 0, vi 0, vi 0, Value.slice none 0 0] 25 (0, 0)) ∧ Kn W0 M H0 W b1 (Obj.cells #[vi 0] 27 (0, 0)) ∧ True) 55 #[Value.pointer (some ⟨b2, 0, none⟩), vi 2] (fun z W5 W6 => ∃ x5 : Int, ∃ x6 : ByteArray, z = .returned (vi x5) ∧ Md [(b2, Obj.cells #[Value.string x6] 95 (0, 0))] W5 W6 (
  (Clp Try.prog W0 M H0 (fun W => Kn W0 M H0 W b2 (Obj.cells #[Value.string x6] 95 (0, 0)) ∧ Kn W0 M H0 W b0 (Obj.cells #[vi x1, vi x3, vi x5, vi 0, vi 0, vi 0, Value.slice none 0 0] 25 (0, 0)) ∧ Kn W0 M H0 W b1 (Obj.cells #[vi 0] 27 (0, 0)) ∧ True) 55 #[Value.pointer (some ⟨b2, 0, none⟩), vi 2] (fun z W7 W8 => ∃ x7 : Int, ∃ x8 : ByteArray, z = .returned (vi x7) ∧ Md [(b2, Obj.cells #[Value.string x8] 95 (0, 0))] W7 W8 (
  (Clp Try.prog W0 M H0 (fun W => Kn W0 M H0 W b2 (Obj.cells #[Value.string x8] 95 (0, 0)) ∧ Kn W0 M H0 W b0 (Obj.cells #[vi x1, vi x3, vi x5, vi x7, vi 0, vi 0, Value.slice none 0 0] 25 (0, 0)) ∧ Kn W0 M H0 W b1 (Obj.cells #[vi 0] 27 (0, 0)) ∧ True) 55 #[Value.pointer (some ⟨b2, 0, none⟩), vi 2] (fun z W9 W10 => ∃ x9 : Int, ∃ x10 : ByteArray, z = .returned (vi x9) ∧ Md [(b2, Obj.cells #[Value.string x10] 95 (0, 0))] W9 W10 (
  (Clp Try.prog W0 M H0 (fun W => Kn W0 M H0 W b2 (Obj.cells #[Value.string x10] 95 (0, 0)) ∧ Kn W0 M H0 W b0 (Obj.cells #[vi x1, vi x3, vi x5, vi x7, vi x9, vi 0, Value.slice none 0 0] 25 (0, 0)) ∧ Kn W0 M H0 W b1 (Obj.cells #[vi 0] 27 (0, 0)) ∧ True) 55 #[Value.pointer (some ⟨b2, 0, none⟩), vi 2] (fun z W11 W12 => ∃ x11 : Int, ∃ x12 : ByteArray, z = .returned (vi x11) ∧ Md [(b2, Obj.cells #[Value.string x12] 95 (0, 0))] W11 W12 (
  (Clp Try.prog W0 M H0 (fun W => Kn W0 M H0 W b2 (Obj.cells #[Value.string x12] 95 (0, 0)) ∧ Kn W0 M H0 W b0 (Obj.cells #[vi x1, vi x3, vi x5, vi x7, vi x9, vi x11, Value.slice none 0 0] 25 (0, 0)) ∧ Kn W0 M H0 W b1 (Obj.cells #[vi 0] 27 (0, 0)) ∧ True) 56 #[Value.pointer (some ⟨b2, 0, none⟩), Value.func (.func 57) #[] #[]] (fun z W13 W14 => ∃ x13 : Option Loc, ∃ x14 : Nat, ∃ x15 : Nat, ∃ x16 : ByteArray, z = .returned (vsl x13 x14 x15) ∧ Bt W0 M H0 [(b2, Obj.cells #[Value.string x16] 95 (0, 0))] W13 W14 fun H1 =>
  (Es W0 M H1 nK fun W15 => ∃ x17 : Bool, Eo Try.prog (.bop .neq 9 (.tmp 35) (.const (Value.string ⟨#[]⟩))) [Value.string x16, Value.string ⟨#[]⟩] W15 (.value (vb (x17))) fun W16 => Ext W15 W16 ∧
  ((x17 = true →
   (Es W0 M H1 nK fun W17 => ∃ x18 : Value, Eo Try.prog (.mkIface 100) [Value.agg #[]] W17 (.value (x18)) fun W18 => Fr W17 W18 H1 fun H2 =>
   (∀ W, Now W0 M H2 W → (fun W => Kn W0 M H2 W b0 (Obj.cells #[vi x1, vi x3, vi x5, vi x7, vi x9, vi x11, vsl x13 x14 x15] 25 (0, 0)) ∧ Kn W0 M H2 W b1 (Obj.cells #[vi 0] 27 (0, 0)) ∧ True) W → (∃ t u, x18 = .iface t u) ∧ Dr Try.prog R (some (54, [b0, b1])) [(b0, 25), (b1, 27)] (.panicking [{ v := x18, recovered := false }]) W))) ∧
  (¬ (x17 = true) →
   (Cl Try.prog W0 M H1 nK 11 #[Value.agg #[vi x1, vi x3, vi x5, vi x7, vi x9, vi x11, vsl x13 x14 x15]] fun z W17 W18 => ∃ x18 : Int, z = .returned (vi x18) ∧ Ext W17 W18 ∧
   ((x18 = 0 →
    (∀ W, Now W0 M H1 W → (fun W => Kn W0 M H1 W b0 (Obj.cells #[vi x1, vi x3, vi x5, vi x7, vi x9, vi x11, vsl x13 x14 x15] 25 (0, 0)) ∧ Kn W0 M H1 W b1 (Obj.cells #[vi 0] 27 (0, 0)) ∧ True) W → Dr Try.prog R (some (54, [b0, b1])) [(b0, 25), (b1, 27)] .returning W)) ∧
   (¬ (x18 = 0) →
    (Es W0 M H1 nK fun W19 => ∃ x19 : Value, Eo Try.prog (.mkIface 100) [Value.agg #[]] W19 (.value (x19)) fun W20 => Fr W19 W20 H1 fun H2 =>
    (∀ W, Now W0 M H2 W → (fun W => Kn W0 M H2 W b0 (Obj.cells #[vi x1, vi x3, vi x5, vi x7, vi x9, vi x11, vsl x13 x14 x15] 25 (0, 0)) ∧ Kn W0 M H2 W b1 (Obj.cells #[vi 0] 27 (0, 0)) ∧ True) W → (∃ t u, x19 = .iface t u) ∧ Dr Try.prog R (some (54, [b0, b1])) [(b0, 25), (b1, 27)] (.panicking [{ v := x19, recovered := false }]) W))))))))) fun ps W => Dr Try.prog R (some (54, [b0, b1])) [(b0, 25), (b1, 27)] (.panicking ps) W))) fun ps W => Dr Try.prog R (some (54, [b0, b1])) [(b0, 25), (b1, 27)] (.panicking ps) W))) fun ps W => Dr Try.prog R (some (54, [b0, b1])) [(b0, 25), (b1, 27)] (.panicking ps) W))) fun ps W => Dr Try.prog R (some (54, [b0, b1])) [(b0, 25), (b1, 27)] (.panicking ps) W))) fun ps W => Dr Try.prog R (some (54, [b0, b1])) [(b0, 25), (b1, 27)] (.panicking ps) W))) fun ps W => Dr Try.prog R (some (54, [b0, b1])) [(b0, 25), (b1, 27)] (.panicking ps) W))) fun ps W => Dr Try.prog R (some (54, [b0, b1])) [(b0, 25), (b1, 27)] (.panicking ps) W))))))) :
  Calls Try.prog 25 #[Value.string x0] W0 R :=
  calls_sxA (M := M) (V := v_snapRead) (hi := {pn := true, res := [(2, 0, 25), (3, 1, 27)], pans := [55, 56], mods := [(55, [0]), (56, [0])], turns := [56], loops := [(8, .unroll 5)]}) (args := [.str 0]) (nv := 1) (e := (upd (fun _ => .i 0) 0 (.s x0))) Try.func25 hH h (by kernel_rfl) (by kernel_rfl) (by kernel_rfl)
end Go.Proofs.Ytoilhpkclabhoaa
namespace Go.Proofs.Ytoilhpkclabhoaa
open Go.RowKit

/-- a number out of bytes -/
def val : List UInt8 → Int
  | [] => 0
  | b :: l => valF b.toNat l
where valF (n : Int) : List UInt8 → Int
  | [] => n
  | b :: l => valF (256 * n + b.toNat) l
theorem valF_app (l : List UInt8) (b : UInt8) : ∀ n, val.valF n (l ++ [b]) = 256 * val.valF n l + b.toNat := by
  induction l with
  | nil => intro n; rfl
  | cons a l ih => intro n; exact ih _
theorem val_app (l : List UInt8) (b : UInt8) : val (l ++ [b]) = 256 * val l + b.toNat := by
  cases l with
  | nil => simp [val, val.valF]
  | cons a l => exact valF_app l b _
theorem ek_short (W : World) : (EK.sem (.mkIface 100) [Value.agg #[]]).run Try.prog W = .ok (.value (.iface 100 (.agg #[]))) W := by
  have hu := Try.underlying100
  simp only [EK.sem, List.getD_cons_zero, Instr.makeInterface, Sem.run_bind, run_underlying hu, Result.andThen_ok, Sem.run_pure]
abbrev gl (l : List UInt8) : Array Value := #[.string (bs l)]
theorem Fr.of {W W' : World} {H D : Hp} {K : Hp → Prop} (hx : Ext W W') (hD : D.le (hpOf W')) (hf : ∀ b o, D b = some o → W.heap.size ≤ b) (hK : ∀ H' : Hp, H.le H' → D.le H' → K H') : Fr W W' H K := ⟨hx, D, hD, hf, hK⟩
section
variable {H : Hp} {b0 : Nat} {l : List UInt8}
theorem c_get (k : Nat) (hk : k ≤ 2) : Gg Try.prog 55 #[.pointer (some ⟨b0, 0, none⟩), vi k] H b0 95 (gl l) (fun v C _ => k ≤ l.length ∧ C = gl (l.drop k) ∧ v = vi (val (l.take k))) (l.length < k) := fun W hH h0 hn => by
  refine x_get (bs l) k b0 (fun b => b = b0) H W _ hH ⟨h0, rfl, hn⟩ ⟨fun hlt => ?_, fun hge => ?_⟩
  · rw [bs_size] at hlt
    intro W1 n1 _
    refine ⟨_, _, ek_short W1, Fr.of (D := noH) (Ext.refl _) (noH_le _) (fun b o h => by cases h) fun H1 le1 _ W2 n2 _ => ⟨⟨_, _, rfl⟩, n2.mod, .inr ⟨by omega, _, rfl, _, _, rfl⟩⟩⟩
  · rw [bs_size] at hge
    have hkl : k ≤ l.length := by omega
    intro W1 n1 _
    refine ⟨_, _, ek_to l k hkl, Ext.refl _, fun W2 n2 _ => ?_⟩
    obtain ⟨W3, c, hrun, hx, hc, D, hD, hf, hB⟩ := ek_str_bytes (W := W2) (bs (l.take k))
    refine ⟨_, _, _, _, hrun, Fr.of hx hD hf fun H1 le1 hD1 => ?_⟩
    rw [bs_size, List.length_take, Nat.min_eq_left hkl] at hB ⊢
    replace hB : Bs D (some (W2.heap.size, 0)) k (l.take k) := hB
    refine ⟨by omega, fun _ => ⟨fun v K => match v with | [.n j, .i n] => j ≤ k ∧ H1.le K ∧ n = val ((l.take k).take j) | _ => False, fun v => match v with | [.n j, _] => k - j | _ => 0, ⟨by omega, Hp.le_refl _, by simp [val]⟩, fun K j n hI => ?_⟩⟩
    obtain ⟨hj, hle, rfl⟩ := hI
    refine ⟨fun hlt => ?_, fun hge2 => ?_⟩
    · obtain ⟨b, hb, hat⟩ := Bs.at (hB.mono (Hp.le_trans hD1 hle)) (k := j) (by omega)
      have hv : 0 ≤ val ((l.take k).take j) ∧ val ((l.take k).take j) ≤ 255 := by
        have hj1 : j = 0 ∨ j = 1 := by omega
        rcases hj1 with rfl | rfl
        · simp [val]
        · cases hh : l.take k with
          | nil => simp [val]
          | cons a t =>
            have := a.toNat_lt
            simp only [List.take_succ_cons, List.take_zero, val, val.valF]
            omega
      have hs : (l.take k).take (j + 1) = (l.take k).take j ++ [b] := by
        rw [List.take_add_one, hb]
        rfl
      refine ⟨⟨by omega, hlt⟩, fun _ => ⟨rfl, fun _ => ⟨_, hat, fun W4 n4 _ => ⟨_, _, ek_bshl _ _ _ hv.1 (by omega), Ext.refl _, in64 (by have := b.toNat_lt; omega), fun _ W5 n5 _ => ⟨_, _, ek_bor _ _ _ b hv.1 (by omega), Ext.refl _, in64 (by omega), fun _ => ⟨by omega, fun _ => ⟨⟨by omega, hle, ?_⟩, by simp only; omega⟩⟩⟩⟩⟩⟩⟩
      rw [show ((j : Int) + 1).toNat = j + 1 by omega, hs, val_app]
    · have hjk : j = k := by omega
      subst hjk
      intro W4 n4 _
      refine ⟨_, _, ek_from l j hkl, Ext.refl _, Rt.gg (fun W kk => kk.1.eq) ⟨hkl, rfl, ?_⟩⟩
      rw [List.take_take, Nat.min_self]
theorem c_get1 : Gg Try.prog 55 #[.pointer (some ⟨b0, 0, none⟩), vi 1] H b0 95 (gl l) (fun v C _ => ∃ b r, l = b :: r ∧ C = gl r ∧ v = vi (b.toNat : Int)) (l.length < 1) := fun W hH h0 hn => by
  refine (c_get (l := l) 1 (by omega) W hH h0 hn).mono fun z W' ⟨hm, hz⟩ => ⟨hm, hz.imp (fun ⟨v, C, D, h1, h2, h3, h4, h5, h6, h7⟩ => ⟨v, C, D, h1, h2, h3, h4, ?_⟩) id⟩
  cases l with
  | nil => simp at h5
  | cons b r => exact ⟨b, r, rfl, h6, h7⟩
theorem c_get2 : Gg Try.prog 55 #[.pointer (some ⟨b0, 0, none⟩), vi 2] H b0 95 (gl l) (fun v C _ => ∃ a b r, l = a :: b :: r ∧ C = gl r ∧ v = vi (w2 a b)) (l.length < 2) := fun W hH h0 hn => by
  refine (c_get (l := l) 2 (by omega) W hH h0 hn).mono fun z W' ⟨hm, hz⟩ => ⟨hm, hz.imp (fun ⟨v, C, D, h1, h2, h3, h4, h5, h6, h7⟩ => ⟨v, C, D, h1, h2, h3, h4, ?_⟩) id⟩
  match l, h5 with
  | a :: b :: r, _ => exact ⟨a, b, r, rfl, h6, h7⟩
  | [a], h5 => simp at h5
  | [], h5 => simp at h5
theorem pR_none {l : List UInt8} (h : l.length < 3) : pR l = none := by
  match l, h with
  | [], _ => rfl
  | [a], _ => rfl
  | [a, b], _ => rfl
  | a :: b :: c :: l, h => simp only [List.length_cons] at h; omega
theorem c_reply : Gg Try.prog 71 #[.pointer (some ⟨b0, 0, none⟩)] H b0 95 (gl l) (fun v C _ => ∃ x r, pR l = some (x, r) ∧ C = gl r ∧ v = .agg #[vi x.seq, vi x.val]) (pR l = none) := fun W hH h0 hn => by
  refine x_reply (bs l) b0 (fun b => b = b0) H W _ hH ⟨h0, rfl, hn⟩ fun b1 => ?_
  refine Clp.gg c_get1 (fun W k => k.1) ?_ (fun ps W W' hp ho hm n _ => RGg.out (pR_none (by omega)) ho hm n)
  rintro v W1 W2 C D ⟨a, r, rfl, rfl, rfl⟩ hb n h1 h2
  refine ⟨_, _, rfl, hb.md ?_⟩
  refine Clp.gg c_get2 (fun W k => k.1) ?_ (fun ps W W' hp ho hm n _ => RGg.out (pR_none (by simp only [List.length_cons]; omega)) ho hm n)
  rintro v W1 W2 C D ⟨b, c, r, rfl, rfl, rfl⟩ hb n h1 h2
  have hc := b.toNat_lt
  have hd := c.toNat_lt
  refine ⟨_, _, rfl, hb.md ⟨in64 (by unfold w2; omega), fun _ => Rt.gg (fun W k => k.1.eq) ⟨⟨a.toNat, w2 b c - 1⟩, r, rfl, rfl, rfl⟩⟩⟩
theorem pN_more {α : Type} {p : List UInt8 → Option (α × List UInt8)} {n : Nat} {l r : List UInt8} {x : α} (h : p l = some (x, r)) : pN p (n + 1) l = (pN p n r).map fun q => (x :: q.1, q.2) := by
  simp only [pN, h]
  cases pN p n r <;> rfl
theorem pN_stop {α : Type} {p : List UInt8 → Option (α × List UInt8)} {n : Nat} {l : List UInt8} (h : p l = none) : pN p (n + 1) l = none := by simp only [pN, h]
theorem c_listR : Gg Try.prog 70 #[.pointer (some ⟨b0, 0, none⟩), .func (.func 71) #[] #[]] H b0 95 (gl l) (fun v C D => ∃ k r p n c, pK l = some (k, r) ∧ C = gl r ∧ v = vsl p n c ∧ Kept D p n c k) (pK l = none) := fun W hH h0 hn => by
  refine x_listR (bs l) b0 (fun b => b = b0) H W _ hH ⟨h0, rfl, hn⟩ ?_
  refine Clp.gg c_get1 (fun W k => k.1) ?_ (fun ps W W' hp ho hm n _ => RGg.out (by cases l with | nil => rfl | cons a l => simp at hp) ho hm n)
  rintro v W1 W2 C D ⟨N, l1, rfl, rfl, rfl⟩ hb n0 h1 h2
  have hN := N.toNat_lt
  refine ⟨_, _, rfl, hb.md ?_⟩
  refine ⟨fun v K => match v with | [.n j, .p p, .n n, .n c, .s s] => ∃ (acc : List Rep) (rest : List UInt8) (g : Option Nat), j ≤ N.toNat ∧ n = j ∧ H.le K ∧ s = bs rest ∧ Ow K 67 2 p n c (acc.map Rep.row) g ∧ (∀ b, g = some b → W.heap.size ≤ b) ∧ pK (N :: l1) = (pN pR (N.toNat - j) rest).map fun q => (acc ++ q.1, q.2) | _ => False,
    fun v => match v with | [.n j, _, _, _, _] => N.toNat - j | _ => 0, ⟨[], l1, none, by omega, rfl, Hp.le_refl H, rfl, Ow.nil _ _ _ _, fun b h => (by cases h), ?_⟩, fun K j p n c s hI => ?_⟩
  · simp [pK]
  obtain ⟨acc, rest, g, hj, rfl, hle, rfl, ho, hg, hf⟩ := hI
  rw [map0] at ho
  have hal : n = acc.length := by simpa using ho.1
  refine ⟨fun hlt => ?_, fun hge => ?_⟩
  · obtain ⟨m, hm⟩ : ∃ m, N.toNat - n = m + 1 := ⟨N.toNat - n - 1, by omega⟩
    rw [hm] at hf
    refine Clp.gg c_reply (fun W k => k.1) ?_ (fun ps W W' hp ho hm n _ => RGg.out (by rw [hf, pN_stop hp]; rfl) ho hm n)
    rintro v W3 W4 C D2 ⟨x, r, hx, rfl, rfl⟩ hb2 n2 h3 h4
    rw [pN_more hx] at hf
    refine ⟨_, _, _, rfl, hb2.md fun b1 W5 n5 k5 => ?_⟩
    obtain ⟨p', c', g', W6, K2, hrun, hu, ho2, hg2, _⟩ := run_append1 Try.underlying57 infoRep (by omega) n5.sub ho (row := x.row) k5.1.eq k5.1.off rfl (fun v hv => by simp only [Rep.row, List.mem_cons, List.not_mem_nil, or_false] at hv; rcases hv with rfl | rfl <;> rfl) (by simp only [maxLen]; omega) (by omega) 57
    refine ⟨_, _, _, _, hrun, K2, hu.own ho (fun b hb => .inl (hg b hb)), in64 (by omega), fun _ => ⟨by omega, fun _ => ⟨by omega, fun _ => ⟨by omega, fun _ => ?_⟩⟩⟩⟩
    refine ⟨⟨acc ++ [x], r, g', by omega, by omega, hu.keep n5.sub hle (fun b hb => old_none hH (hg b hb)), rfl, ?_, fun b hb => ?_, ?_⟩, by simp only; omega⟩
    · rw [map0, List.map_append]; exact ho2
    · rcases hg2 with h | h
      · exact hg b (h ▸ hb)
      · rw [h] at hb; simp only [Option.some.injEq] at hb; have := n5.mod.size; omega
    · rw [show N.toNat - ((n : Int) + 1).toNat = m by omega, hf]
      cases pN pR m r <;> simp
  · have : N.toNat - n = 0 := by omega
    rw [this] at hf
    exact Rt.gg (fun W k => k.1.eq) ⟨acc, rest, p, n, c, by rw [hf]; simp [pN], rfl, rfl, Kept.of_ow (ho.new hg)⟩
theorem pS_none {l : List UInt8} (h : l.length < 4) : pS l = none := by
  match l, h with
  | [], _ => rfl
  | [a], _ => rfl
  | [a, b], _ => rfl
  | [a, b, c], _ => rfl
  | a :: b :: c :: d :: l, h => simp only [List.length_cons] at h; omega
theorem c_session : Gg Try.prog 57 #[.pointer (some ⟨b0, 0, none⟩)] H b0 95 (gl l) (fun v C D => ∃ x r q m d, pS l = some (x, r) ∧ C = gl r ∧ v = .agg #[vi x.client, vi x.acked, vi x.seen, vsl q m d] ∧ Kept D q m d x.kept) (pS l = none) := fun W hH h0 hn => by
  refine x_session (bs l) b0 (fun b => b = b0) H W _ hH ⟨h0, rfl, hn⟩ fun b1 => ?_
  refine Clp.gg c_get1 (fun W k => k.1) ?_ (fun ps W W' hp ho hm n _ => RGg.out (pS_none (by omega)) ho hm n)
  rintro v W1 W2 C D ⟨a, r, rfl, rfl, rfl⟩ hb n h1 h2
  refine ⟨_, _, rfl, hb.md ?_⟩
  refine Clp.gg c_get1 (fun W k => k.1) ?_ (fun ps W W' hp ho hm n _ => RGg.out (pS_none (by simp only [List.length_cons]; omega)) ho hm n)
  rintro v W1 W2 C D ⟨b, r, rfl, rfl, rfl⟩ hb n h1 h2
  refine ⟨_, _, rfl, hb.md ?_⟩
  refine Clp.gg c_get2 (fun W k => k.1) ?_ (fun ps W W' hp ho hm n _ => RGg.out (pS_none (by simp only [List.length_cons]; omega)) ho hm n)
  rintro v W1 W2 C D ⟨s1, s0, r, rfl, rfl, rfl⟩ hb n h1 h2
  refine ⟨_, _, rfl, hb.md ?_⟩
  refine Clp.gg c_listR (fun W k => k.1) ?_ (fun ps W W' hp ho hm n _ => RGg.out (by simp only [pS, hp]) ho hm n)
  rintro v W1 W2 C D ⟨k, r2, p, m, c, hk, rfl, rfl, hK⟩ hb n h1 h2
  refine ⟨_, _, _, _, rfl, hb.bt n h1 h2 fun H1 le1 hD1 => Rt.gg (fun W k => k.1.eq) ⟨⟨a.toNat, b.toNat, w2 s1 s0, k⟩, r2, p, m, c, by simp only [pS, hk], rfl, rfl, hK.mono (le_newer hD1 fun b o h => Nat.le_trans n.mod.size (hb.fresh b o h))⟩⟩
theorem c_listS : Gg Try.prog 56 #[.pointer (some ⟨b0, 0, none⟩), .func (.func 57) #[] #[]] H b0 95 (gl l) (fun v C D => ∃ t r p n c, pL l = some (t, r) ∧ C = gl r ∧ v = vsl p n c ∧ Tab D p n c t) (pL l = none) := fun W hH h0 hn => by
  refine x_listS (bs l) b0 (fun b => b = b0) H W _ hH ⟨h0, rfl, hn⟩ ?_
  refine Clp.gg c_get1 (fun W k => k.1) ?_ (fun ps W W' hp ho hm n _ => RGg.out (by cases l with | nil => rfl | cons a l => simp at hp) ho hm n)
  rintro v W1 W2 C D ⟨N, l1, rfl, rfl, rfl⟩ hb n0 h1 h2
  have hN := N.toNat_lt
  refine ⟨_, _, rfl, hb.md ?_⟩
  refine ⟨fun v K => match v with | [.n j, .p p, .n n, .n c, .s s] => ∃ (acc : List Ses) (rows : List (List Value)) (rest : List UInt8) (g : Option Nat), j ≤ N.toNat ∧ n = j ∧ H.le K ∧ s = bs rest ∧ Ow K 59 4 p n c rows g ∧ All2 (SesRow (Go.Proofs.Ytoilhpkclabhoaa.rest W g K)) rows acc ∧ (∀ b, g = some b → W.heap.size ≤ b) ∧ pL (N :: l1) = (pN pS (N.toNat - j) rest).map fun q => (acc ++ q.1, q.2) | _ => False,
    fun v => match v with | [.n j, _, _, _, _] => N.toNat - j | _ => 0, ⟨[], [], l1, none, by omega, rfl, Hp.le_refl H, rfl, Ow.nil _ _ _ _, .nil, fun b h => (by cases h), ?_⟩, fun K j p n c s hI => ?_⟩
  · simp [pL]
  obtain ⟨acc, rows, rest, g, hj, rfl, hle, rfl, ho, ha, hg, hf⟩ := hI
  rw [map0] at ho
  refine ⟨fun hlt => ?_, fun hge => ?_⟩
  · obtain ⟨m, hm⟩ : ∃ m, N.toNat - n = m + 1 := ⟨N.toNat - n - 1, by omega⟩
    rw [hm] at hf
    refine Clp.gg c_session (fun W k => k.1) ?_ (fun ps W W' hp ho hm n _ => RGg.out (by rw [hf, pN_stop hp]; rfl) ho hm n)
    rintro v W3 W4 C D2 ⟨x, r, q, k, d, hx, rfl, rfl, hK⟩ hb2 n2 h3 h4
    rw [pN_more hx] at hf
    refine ⟨_, _, _, _, _, _, _, rfl, hb2.bt n2 h3 h4 fun K1 le1 hD1 b1 W5 n5 k5 => ?_⟩
    have ho1 : Ow K1 59 4 p n c rows g := ho.mono fun b _ o h => le1 b o h
    have hgD : ∀ b, g = some b → D2 b = none := fun b hb => by
      cases hh : D2 b with
      | none => rfl
      | some o =>
        have := hb2.fresh b o hh
        have := ho.lt n2.sub b hb
        omega
    have hK1 : Kept (Go.Proofs.Ytoilhpkclabhoaa.rest W g K1) q k d x.kept := hK.mono (le_rest hD1 (fun b o h => Nat.le_trans n2.mod.size (hb2.fresh b o h)) hgD)
    obtain ⟨p', c', g', W6, K2, hrun, hu, ho2, hg2, _⟩ := run_append1 Try.underlying23 infoSes (by omega) n5.sub ho1 (row := [vi x.client, vi x.acked, vi x.seen, vsl q k d]) k5.1.eq k5.1.off rfl (fun v hv => by simp only [List.mem_cons, List.not_mem_nil, or_false] at hv; rcases hv with rfl | rfl | rfl | rfl <;> rfl) (by simp only [maxLen]; omega) (by omega) 23
    refine ⟨_, _, _, _, hrun, K2, hu.own ho1 (fun b hb => .inl (hg b hb)), in64 (by omega), fun _ => ⟨by omega, fun _ => ⟨by omega, fun _ => ⟨by omega, fun _ => ?_⟩⟩⟩⟩
    have hst : (Go.Proofs.Ytoilhpkclabhoaa.rest W g K1).le (Go.Proofs.Ytoilhpkclabhoaa.rest W g' K2) := fun b o hb => by
      have h6 := rest_upd W hu n5.sub b o hb
      have hlt : b < W5.heap.size := heap_lt (n5.sub b o (rest_le _ _ _ b o hb))
      unfold Go.Proofs.Ytoilhpkclabhoaa.rest at h6 ⊢
      split at h6
      · rename_i h7
        have hne : g' ≠ some b := fun h8 => by
          rcases hg2 with h9 | h9
          · exact h7.2 (h9 ▸ h8)
          · rw [h9] at h8; simp only [Option.some.injEq] at h8; omega
        rw [if_pos ⟨h7.1, hne⟩]
        exact h6
      · cases h6
    refine ⟨⟨acc ++ [x], rows ++ [[vi x.client, vi x.acked, vi x.seen, vsl q k d]], r, g', by omega, by omega, hu.keep n5.sub (Hp.le_trans hle le1) (fun b hb => old_none hH (hg b hb)), rfl, ?_, ?_, fun b hb => ?_, ?_⟩, by simp only; omega⟩
    · rw [map0]; exact ho2
    · refine All2.append ((ha.mono fun _ _ h => h.mono (rest_mono W g le1)).mono fun _ _ h => h.mono hst) (.one ⟨q, k, d, rfl, hK1.mono hst⟩)
    · rcases hg2 with h | h
      · exact hg b (h ▸ hb)
      · rw [h] at hb; simp only [Option.some.injEq] at hb; have := n5.mod.size; omega
    · rw [show N.toNat - ((n : Int) + 1).toNat = m by omega, hf]
      cases pN pS m r <;> simp
  · have : N.toNat - n = 0 := by omega
    rw [this] at hf
    exact Rt.gg (fun W k => k.1.eq) ⟨acc, rest, p, n, c, by rw [hf]; simp [pN], rfl, rfl, (ho.new hg).2.2.1, (ho.new hg).2.2.2.1, rows, (ho.new hg).rows, ha.mono fun _ _ h => h.mono (rest_newer W g K)⟩
end
end Go.Proofs.Ytoilhpkclabhoaa
namespace Go.Proofs.Ytoilhpkclabhoaa
open Go.RowKit

theorem d_idle (p q : Addr) (W : World) : CallsDIn (Fw none) 0 Try.prog 54 #[.pointer (some p), .pointer (some q)] .returning W fun x u' W' => (∃ v, x = .returned v) ∧ u' = .returning ∧ W' = W := by
  refine callsDIn_of_wpSIn Try.func54 rfl trivial fun c₀ cs hu => ?_
  have hne : ∀ w : World, (binOp BinOp.neq 20 .nilIface .nilIface).run Try.prog w = .ok (.bool false) w := fun _ => by kernel_rfl
  apply wpSIn_seq
  apply wpSIn_region
  simp [wpOpsSIn, go_sem, recoverD, hu, Try.ntmps54, Exit.thenS, hne]
  refine wpSIn_cond (t := false) (by simp [Act.eval, Array.replicate]) ?_
  simp only [Bool.false_eq_true, if_false]
  refine wpSIn_of_wpIn rfl (wpIn_skip ?_)
  cases c₀
  simp_all [bodyPostS, results, Try.results54]
theorem run_store_row {P : Program} {t e b : Nat} {ti : TypeInfo} {W : World} {C : Array Value} {vs : List Value} {v : Value} (hti : P.info? t = some ti) (hs : ti.size = vs.length) (hb : W.heap[b]? = some (.cells C e (0, 0))) (hC : C.size = vs.length) (h1 : ∀ u ∈ vs, u.oneCell' = true) (hv : v.cells = vs.toArray) (h0 : 0 < vs.length) :
    (Instr.storeAt t (.pointer (some ⟨b, 0, none⟩)) v).run P W = .ok () (W.setRow b vs.toArray) := by
  have hst := run_storeCells_at P b 0 e vs 0 C W hb (by omega) h1
  simp only [Nat.add_zero, List.take_zero, List.nil_append, Nat.zero_add] at hst
  rw [List.drop_of_length_le (by rw [Array.length_toList]; omega), List.append_nil] at hst
  simp only [Instr.storeAt, Instr.sureAddr, Sem.run_bind, Sem.run_pure, Result.andThen_ok, storeVar, run_sizeOf hti hs, hv]
  rw [if_neg (by simp)]
  exact hst
theorem d_catch (b0 b1 : Nat) (t u : _) (W : World) {C : Array Value} {z : Value} (h0 : W.heap[b0]? = some (.cells C 25 (0, 0))) (hC : C.size = 7) (h1 : W.heap[b1]? = some (.cells #[z] 27 (0, 0))) (hne0 : b0 ≠ b1) :
    CallsDIn (Fw none) 0 Try.prog 54 #[.pointer (some ⟨b0, 0, none⟩), .pointer (some ⟨b1, 0, none⟩)] (.panicking [{ v := .iface t u, recovered := false }]) W fun x u' W' => (∃ v, x = .returned v) ∧ settle u' = .returning ∧ W' = (W.setRow b0 #[vi 0, vi 0, vi 0, vi 0, vi 0, vi 0, .slice none 0 0]).setRow b1 #[vi 1] := by
  refine callsDIn_of_wpSIn Try.func54 rfl trivial fun c₀ cs hu => ?_
  have hne : ∀ w : World, (binOp BinOp.neq 20 (.iface t u) .nilIface).run Try.prog w = .ok (.bool true) w := fun _ => by kernel_rfl
  apply wpSIn_seq
  apply wpSIn_region
  simp [wpOpsSIn, go_sem, recoverD, hu, Try.ntmps54, Exit.thenS, hne]
  refine wpSIn_cond (t := true) (by simp [Act.eval, Array.replicate]) ?_
  simp only [if_true]
  obtain ⟨ti, z0, i1, i2, i3, _⟩ := info_of (show infoIs Try.prog 25 7 72 = true by kernel_rfl)
  obtain ⟨tj, z1, j1, j2, j3, _⟩ := info_of (show infoIs Try.prog 27 1 8 = true by kernel_rfl)
  have hs0 := run_store_row (P := Try.prog) (vs := [vi 0, vi 0, vi 0, vi 0, vi 0, vi 0, .slice none 0 0]) (v := .agg #[vi 0, vi 0, vi 0, vi 0, vi 0, vi 0, .slice none 0 0]) i1 i3 h0 hC (fun u hu => by
    simp only [List.mem_cons, List.not_mem_nil, or_false] at hu
    rcases hu with rfl | rfl | rfl | rfl | rfl | rfl | rfl <;> rfl) rfl (by simp)
  have h1' : (W.setRow b0 #[vi 0, vi 0, vi 0, vi 0, vi 0, vi 0, .slice none 0 0]).heap[b1]? = some (.cells #[z] 27 (0, 0)) := by rw [setRow_other _ _ _ _ (fun h => hne0 h.symm)]; exact h1
  have hs1 := run_store_row (P := Try.prog) (vs := [vi 1]) (v := vi 1) j1 j3 h1' (by simp) (fun u hu => by simp only [List.mem_singleton] at hu; subst hu; rfl) rfl (by simp)
  apply wpSIn_region
  have hb : ∀ w : World, (Instr.build 25 #[]).run Try.prog w = .ok (.agg #[vi 0, vi 0, vi 0, vi 0, vi 0, vi 0, .slice none 0 0]) w := fun _ => by kernel_rfl
  show wpOpsSIn _ _ _ _ _ [0, 1, 2] _ _ _
  simp [wpOpsSIn, execOp, hb, hs0, hs1, Act.eval, Act.put, bodyPostS, results, Try.results54, Oper.semAt, Region.wanted, yielded, Oper.uponIn, Oper.about]
  simp [settle]
abbrev RGf (W0 : World) (post : Value → Hp → Prop) : Ending → World → Prop := fun z W' => ∃ v D, z = .returned v ∧ Ext W0 W' ∧ D.le (hpOf W') ∧ (∀ b o, D b = some o → W0.heap.size ≤ b) ∧ post v D
theorem ext_set {W0 W : World} {b : Nat} {C : Array Value} (h : Ext W0 W) (hb : W0.heap.size ≤ b) : Ext W0 (W.setRow b C) :=
  ⟨h.os, h.tape, h.output, by simpa using h.size, fun k hk => by rw [setRow_other _ _ _ _ (by omega)]; exact h.block k hk⟩
theorem pT_none {l : List UInt8} (h : l.length < 11) : pT l = none := by
  unfold pT
  split
  · simp only [List.length_cons] at h; omega
  · rfl
theorem unT_none {l : List UInt8} (h : pT l = none) : unT l = none := by unfold unT; rw [h]
def postT (s : Sta) (e : Int) (v : Value) (D : Hp) : Prop := ∃ p n c, v = .tuple #[s.val (vsl p n c), vi e] ∧ Tab D p n c s.table
theorem loads {P : Program} {W : World} {b0 b1 t0 t1 : Nat} {cs : List Value} {z : Value} (s0 : sizeT P t0 = some cs.length) (s1 : sizeT P t1 = some 1) (a0 : isAggT P t0 = true) (a1 : isAggT P t1 = false) (h0 : W.heap[b0]? = some (.cells cs.toArray t0 (0, 0))) (h1 : W.heap[b1]? = some (.cells #[z] t1 (0, 0))) :
    (resC [(b0, t0), (b1, t1)]).run P W = .ok (.tuple #[.agg cs.toArray, z]) W := by
  have e0 := run_loadVar_at (P := P) s0 (w := W) (b := b0) (off := 0) h0 (cs := cs) (fun j hj => by simp) rfl (v := .agg cs.toArray) (by rw [if_pos a0])
  have e1 := run_loadVar_at (P := P) s1 (w := W) (b := b1) (off := 0) h1 (cs := [z]) (fun j hj => by
    have : j = 0 := by simpa using hj
    subst this; rfl) rfl (v := z) (by rw [a1]; rfl)
  simp only [resC, List.mapM_cons, List.mapM_nil, Sem.run_bind, e0, e1, Result.andThen_ok, Sem.run_pure]
theorem c_snapRead {H : Hp} {l : List UInt8} : Gf Try.prog 25 #[.string (bs l)] H (postT (sRead l).1 (sRead l).2) := fun W hH => by
  refine x_snapRead (bs l) noM H W (RGf W (postT (sRead l).1 (sRead l).2)) hH fun b0 b1 => ⟨fun h => ?_, fun h b2 => ?_⟩
  · rw [bs_size] at h
    have e : sRead l = (Sta.zero, 2) := if_pos (by omega)
    rw [e]
    exact Rt.gf (D := noH) (noH_le _) (fun b o h => by cases h) ⟨none, 0, 0, rfl, Nat.le_refl _, by simp [maxLen], [], Rows.nil _ _ _, .nil⟩
  rw [bs_size] at h
  have hs : unT l = none → sRead l = (Sta.zero, 1) := fun hu => by unfold sRead; rw [if_neg (by omega), hu]
  have out : ∀ {ps : List PanicEntry} {W' : World} {C : Array Value}, unT l = none → PanOk ps → Ext W W' → W'.heap[b0]? = some (.cells C 25 (0, 0)) → C.size = 7 → W'.heap[b1]? = some (.cells #[vi 0] 27 (0, 0)) → W.heap.size ≤ b0 → W.heap.size ≤ b1 →
      Dr Try.prog (RGf W (postT (sRead l).1 (sRead l).2)) (some (54, [b0, b1])) [(b0, 25), (b1, 27)] (.panicking ps) W' := by
    rintro ps W' C hu ⟨t, u, rfl⟩ hx h0 hC h1 g0 g1
    have hne : b0 ≠ b1 := fun he => by
      rw [he, h1] at h0
      simp at h0
    refine CallsDIn.mono (d_catch b0 b1 t u W' h0 hC h1 hne) fun x u' W2 ⟨k1, k2, k3⟩ => ⟨k1, k2, ?_⟩
    subst k3
    have e0 : (W'.setRow b0 #[vi 0, vi 0, vi 0, vi 0, vi 0, vi 0, .slice none 0 0]).heap[b0]? = some (.cells #[vi 0, vi 0, vi 0, vi 0, vi 0, vi 0, .slice none 0 0] 25 (0, 0)) := setRow_heap _ _ _ _ _ _ h0
    have e1 : (W'.setRow b0 #[vi 0, vi 0, vi 0, vi 0, vi 0, vi 0, .slice none 0 0]).heap[b1]? = some (.cells #[vi 0] 27 (0, 0)) := by rw [setRow_other _ _ _ _ (fun h => hne h.symm)]; exact h1
    refine ⟨_, loads (cs := [vi 0, vi 0, vi 0, vi 0, vi 0, vi 0, .slice none 0 0]) (z := vi 1) (by kernel_rfl) (by kernel_rfl) (by kernel_rfl) (by kernel_rfl) ?_ (setRow_heap _ _ _ _ _ _ e1), _, noH, rfl, ext_set (ext_set hx g0) g1, noH_le _, fun b o h => (by cases h), ?_⟩
    · rw [setRow_other _ _ _ _ hne]; exact e0
    · rw [hs hu]
      exact ⟨none, 0, 0, rfl, Nat.le_refl _, by simp [maxLen], [], Rows.nil _ _ _, .nil⟩
  have thr : ∀ {H1 : Hp} {C : Array Value} {l2 : List UInt8} {ps : List PanicEntry} {W1 W' : World}, unT l = none → PanOk ps → Mod (fun b => b = b2) W1 W' → Now W noM H1 W1 → C.size = 7 →
      (Kn W noM H1 W1 b2 (.cells (gl l2) 95 (0, 0)) ∧ Kn W noM H1 W1 b0 (.cells C 25 (0, 0)) ∧ Kn W noM H1 W1 b1 (.cells #[vi 0] 27 (0, 0)) ∧ True) →
      Dr Try.prog (RGf W (postT (sRead l).1 (sRead l).2)) (some (54, [b0, b1])) [(b0, 25), (b1, 27)] (.panicking ps) W' := by
    rintro H1 C l2 ps W1 W' hu ho hm n hC ⟨k2, k0, k1, _⟩
    have o2 : W.heap.size ≤ b2 := k2.own.resolve_right fun h => h
    have o0 : W.heap.size ≤ b0 := k0.own.resolve_right fun h => h
    have o1 : W.heap.size ≤ b1 := k1.own.resolve_right fun h => h
    have n02 : b0 ≠ b2 := fun he => by
      have e := k0.eq
      rw [he, k2.eq] at e
      simp at e
    have n12 : b1 ≠ b2 := fun he => by
      have e := k1.eq
      rw [he, k2.eq] at e
      simp at e
    have hx := n.ext
    refine out hu ho ⟨hm.os.trans hx.os, hm.tape.trans hx.tape, hm.output.trans hx.output, Nat.le_trans hx.size hm.size, fun b hb => ?_⟩ ((hm.blk b0 (heap_lt k0.eq) n02).trans k0.eq) hC ((hm.blk b1 (heap_lt k1.eq) n12).trans k1.eq) o0 o1
    rw [hm.blk b (by have := hx.size; omega) (by omega), hx.block b hb]
  refine Clp.gg c_get1 (fun W k => k.1) ?_ (fun ps W W' hp ho hm n k => thr (unT_none (pT_none (by omega))) ho hm n rfl k)
  rintro v W1 W2 C D ⟨x0, r, rfl, rfl, rfl⟩ hb n h1 h2
  refine ⟨_, _, rfl, hb.md ?_⟩
  refine Clp.gg c_get2 (fun W k => k.1) ?_ (fun ps W W' hp ho hm n k => thr (unT_none (pT_none (by simp only [List.length_cons]; omega))) ho hm n rfl k)
  rintro v W1 W2 C D ⟨x1, x2, r, rfl, rfl, rfl⟩ hb n h1 h2
  refine ⟨_, _, rfl, hb.md ?_⟩
  refine Clp.gg c_get2 (fun W k => k.1) ?_ (fun ps W W' hp ho hm n k => thr (unT_none (pT_none (by simp only [List.length_cons]; omega))) ho hm n rfl k)
  rintro v W1 W2 C D ⟨x3, x4, r, rfl, rfl, rfl⟩ hb n h1 h2
  refine ⟨_, _, rfl, hb.md ?_⟩
  refine Clp.gg c_get2 (fun W k => k.1) ?_ (fun ps W W' hp ho hm n k => thr (unT_none (pT_none (by simp only [List.length_cons]; omega))) ho hm n rfl k)
  rintro v W1 W2 C D ⟨x5, x6, r, rfl, rfl, rfl⟩ hb n h1 h2
  refine ⟨_, _, rfl, hb.md ?_⟩
  refine Clp.gg c_get2 (fun W k => k.1) ?_ (fun ps W W' hp ho hm n k => thr (unT_none (pT_none (by simp only [List.length_cons]; omega))) ho hm n rfl k)
  rintro v W1 W2 C D ⟨x7, x8, r, rfl, rfl, rfl⟩ hb n h1 h2
  refine ⟨_, _, rfl, hb.md ?_⟩
  refine Clp.gg c_get2 (fun W k => k.1) ?_ (fun ps W W' hp ho hm n k => thr (unT_none (pT_none (by simp only [List.length_cons]; omega))) ho hm n rfl k)
  rintro v W1 W2 C D ⟨x9, x10, r, rfl, rfl, rfl⟩ hb n h1 h2
  refine ⟨_, _, rfl, hb.md ?_⟩
  refine Clp.gg c_listS (fun W k => k.1) ?_ (fun ps W W' hp ho hm n k => thr (unT_none (by simp only [pT, hp])) ho hm n rfl k)
  rintro v W1 W2 C D ⟨t, r2, p, m, c, hk, rfl, rfl, hT⟩ hb n h1 h2
  have hp : pT (x0 :: x1 :: x2 :: x3 :: x4 :: x5 :: x6 :: x7 :: x8 :: x9 :: x10 :: r) = some (⟨x0.toNat, w2 x1 x2, ⟨w2 x3 x4, w2 x5 x6, w2 x7 x8, w2 x9 x10⟩, t⟩, r2) := by simp only [pT, hk]
  refine ⟨_, _, _, _, rfl, hb.bt n h1 h2 fun H1 le1 hD1 => ?_⟩
  have hf : ∀ b o, D b = some o → W.heap.size ≤ b := fun b o h => Nat.le_trans n.mod.size (hb.fresh b o h)
  have last : ∀ {H2 : Hp} {W3 : World}, unT (x0 :: x1 :: x2 :: x3 :: x4 :: x5 :: x6 :: x7 :: x8 :: x9 :: x10 :: r) = none → Now W noM H2 W3 → (Kn W noM H2 W3 b0 (.cells #[vi x0.toNat, vi (w2 x1 x2), vi (w2 x3 x4), vi (w2 x5 x6), vi (w2 x7 x8), vi (w2 x9 x10), vsl p m c] 25 (0, 0)) ∧ Kn W noM H2 W3 b1 (.cells #[vi 0] 27 (0, 0)) ∧ True) →
      (∃ t u, Value.iface 100 (.agg #[]) = .iface t u) ∧ Dr Try.prog (RGf W (postT (sRead (x0 :: x1 :: x2 :: x3 :: x4 :: x5 :: x6 :: x7 :: x8 :: x9 :: x10 :: r)).1 (sRead (x0 :: x1 :: x2 :: x3 :: x4 :: x5 :: x6 :: x7 :: x8 :: x9 :: x10 :: r)).2)) (some (54, [b0, b1])) [(b0, 25), (b1, 27)] (.panicking [{ v := Value.iface 100 (.agg #[]), recovered := false }]) W3 := fun hu n3 ⟨k0, k1, _⟩ =>
    ⟨⟨_, _, rfl⟩, out hu ⟨_, _, rfl⟩ n3.ext k0.eq rfl k1.eq (k0.own.resolve_right fun h => h) (k1.own.resolve_right fun h => h)⟩
  intro W3 n3 _
  refine ⟨_, _, ek_str_ne _ _ r2 [] , Ext.refl _, fun h3 => ?_, fun h3 => ?_⟩
  · have hr : r2 ≠ [] := fun he => by rw [he] at h3; simp at h3
    intro W4 n4 _
    refine ⟨_, _, ek_short W4, Fr.of (D := noH) (Ext.refl _) (noH_le _) (fun b o h => by cases h) fun H2 le2 _ W5 n5 k5 => last ?_ n5 k5⟩
    unfold unT
    rw [hp]
    cases r2 with
    | nil => exact absurd rfl hr
    | cons a r2 => rfl
  · have hr : r2 = [] := by
      cases r2 with
      | nil => rfl
      | cons a r2 => exact absurd rfl h3
    subst hr
    refine Cl.same (c_stCheck (s := ⟨x0.toNat, w2 x1 x2, ⟨w2 x3 x4, w2 x5 x6, w2 x7 x8, w2 x9 x10⟩, t⟩) (hT.mono hD1)) fun _ _ hx => ⟨_, rfl, hx, fun h4 => ?_, fun h4 => ?_⟩
    · intro W5 n5 ⟨k0, k1, _⟩
      have hu : unT (x0 :: x1 :: x2 :: x3 :: x4 :: x5 :: x6 :: x7 :: x8 :: x9 :: x10 :: r) = some ⟨x0.toNat, w2 x1 x2, ⟨w2 x3 x4, w2 x5 x6, w2 x7 x8, w2 x9 x10⟩, t⟩ := by
        unfold unT
        rw [hp]
        simp only
        rw [if_pos h4]
      have hsr : sRead (x0 :: x1 :: x2 :: x3 :: x4 :: x5 :: x6 :: x7 :: x8 :: x9 :: x10 :: r) = (⟨x0.toNat, w2 x1 x2, ⟨w2 x3 x4, w2 x5 x6, w2 x7 x8, w2 x9 x10⟩, t⟩, 0) := by
        unfold sRead
        rw [if_neg (by omega), hu]
      refine CallsDIn.mono (d_idle ⟨b0, 0, none⟩ ⟨b1, 0, none⟩ W5) fun x u' W6 ⟨q1, q2, q3⟩ => ⟨q1, by rw [q2]; rfl, ?_⟩
      subst q3
      refine ⟨_, loads (cs := [vi x0.toNat, vi (w2 x1 x2), vi (w2 x3 x4), vi (w2 x5 x6), vi (w2 x7 x8), vi (w2 x9 x10), vsl p m c]) (z := vi 0) (by kernel_rfl) (by kernel_rfl) (by kernel_rfl) (by kernel_rfl) k0.eq k1.eq, _, newer W H1, rfl, n5.ext, Hp.le_trans (newer_le W H1) n5.sub, newer_new W H1, ?_⟩
      rw [hsr]
      exact ⟨p, m, c, rfl, hT.mono (le_newer hD1 hf)⟩
    · intro W4 n4 _
      refine ⟨_, _, ek_short W4, Fr.of (D := noH) (Ext.refl _) (noH_le _) (fun b o h => by cases h) fun H2 le2 _ W5 n5 k5 => last ?_ n5 k5⟩
      unfold unT
      rw [hp]
      simp only
      rw [if_neg h4]
end Go.Proofs.Ytoilhpkclabhoaa
