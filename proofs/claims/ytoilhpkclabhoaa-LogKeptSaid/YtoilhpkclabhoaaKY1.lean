/- Bytes and strings: what conversions, slices of strings, shifts and appends of bytes do. No conditions. States as bytes: plain data. What is written is read as it was, and nothing else is. No conditions. Symbolic runs of functions: what each leaves to prove is enough for its call. Printed by a program of ours. No conditions. Contracts: what reads a state out of bytes. No conditions. Contracts: Read of a state: a deferred closure catches what is thrown. No conditions. -/
import Derived.Test.YtoilhpkclabhoaaKE4
import Derived.Test.YtoilhpkclabhoaaKD1
import Derived.Test.YtoilhpkclabhoaaProg
import Derived.WalkKit
import Derived.Laws.IdiomStrings
import Derived.Laws.Strings3
import Derived.Test.YtoilhpkclabhoaaKU1
import Derived.Test.YtoilhpkclabhoaaKS4
import Derived.Test.YtoilhpkclabhoaaKE3
import Derived.Test.YtoilhpkclabhoaaKS2
import Derived.RecoverIn
set_option linter.unusedVariables false
set_option linter.unusedSimpArgs false
namespace Go.Proofs.Ytoilhpkclabhoaa
open Go.RowKit

theorem infoByte : infoIs Try.prog 5 1 1 = true := by kernel_rfl
def yrow (b : UInt8) : List Value := [.int .u8 (b.toNat : Int)]
def bs (l : List UInt8) : ByteArray := ⟨l.toArray⟩
theorem data_len (s : ByteArray) : s.data.toList.length = s.size := Array.length_toList ..
theorem bs_size (l : List UInt8) : (bs l).size = l.length := by simp [bs, ByteArray.size]
/-- a number's lowest byte -/
def b8 (n : Int) : UInt8 := UInt8.ofNat (n % 256).toNat
theorem b8_nat (n : Int) : ((b8 n).toNat : Int) = n % 256 := by
  unfold b8
  have h0 : 0 ≤ n % 256 := Int.emod_nonneg _ (by omega)
  have h1 : n % 256 < 256 := Int.emod_lt_of_pos _ (by omega)
  rw [UInt8.toNat_ofNat']
  omega
theorem wrap8 (n : Int) : IntKind.wrap .u8 n = ((b8 n).toNat : Int) := by
  rw [b8_nat]
  simp [IntKind.wrap, IntKind.bits, IntKind.signed]
theorem b8_toNat (b : UInt8) : b8 (b.toNat : Int) = b := by
  apply UInt8.toNat_inj.1
  have := b8_nat (b.toNat : Int)
  have h := b.toNat_lt
  omega
theorem b8_mod (n m : Int) (h : n % 256 = m % 256) : b8 n = b8 m := by unfold b8; rw [h]
theorem ones_b (l : List UInt8) : ∀ r ∈ l.map yrow, ∀ v ∈ r, v.oneCell' = true := fun r hr v hv => by
  obtain ⟨x, _, rfl⟩ := List.mem_map.1 hr
  simp only [yrow, List.mem_singleton] at hv
  subst hv
  rfl
theorem brows_wid (l : List UInt8) : ∀ r ∈ l.map yrow, r.length = 1 ∧ ∀ v ∈ r, v.oneCell' = true := fun r hr => ⟨by
  obtain ⟨x, _, rfl⟩ := List.mem_map.1 hr
  rfl, ones_b l r hr⟩
theorem flat_b (l : List UInt8) : (l.map yrow).flatten = l.map fun b => Value.int .u8 (b.toNat : Int) := by
  induction l with
  | nil => rfl
  | cons b l ih => simp only [List.map_cons, List.flatten_cons, ih]; rfl
/-- an array of bytes of one's own -/
abbrev By (H : Hp) (p : Option Loc) (n c : Nat) (l : List UInt8) (g : Option Nat) : Prop := Ow H 5 1 p n c (l.map yrow) g
abbrev Bs (H : Hp) (p : Option Loc) (n : Nat) (l : List UInt8) : Prop := Rows H p n 1 (l.map yrow)
section
variable {H : Hp} {W : World} {p : Option Loc} {n c : Nat} {l : List UInt8} {g : Option Nat}
theorem Bs.len (h : Bs H p n l) : n = l.length := by simpa using Rows.len h
theorem Bs.at {k : Nat} (h : Bs H p n l) (hk : k < n) : ∃ b : UInt8, l[k]? = some b ∧ RowAt H p (0 + (k : Int) * 1) [.int .u8 (b.toNat : Int)] := by
  obtain ⟨row, h1, _, h3⟩ := Rows.at h hk (off := 0 + (k : Int) * 1) (by omega)
  rw [List.getElem?_map, Option.map_eq_some_iff] at h1
  obtain ⟨b, hb, rfl⟩ := h1
  exact ⟨b, hb, h3⟩
theorem ek_bytes_str (h : Bs H p n l) (hH : H.le (hpOf W)) : (EK.sem (.conv 71 9) [vsl p n c]).run Try.prog W = .ok (.value (.string (bs l))) W := by
  have hn := Bs.len h
  have hrun : (convert 71 9 (vsl p n c)).run Try.prog W = .ok (.string (bs l)) W := by
    cases p with
    | none =>
      have : l = [] := by
        cases l with
        | nil => rfl
        | cons b l =>
          obtain ⟨b', _, h3⟩ := Bs.at h (k := 0) (by simp at hn; omega)
          cases h3.isSome
      subst this
      simp only [List.length_nil] at hn
      subst hn
      simp only [vsl, ptrAt, Option.map_none]
      rw [run_convert_bytes_string (e := 5) W _ _ _ _ _ Try.underlying71 Try.underlying5 Try.underlying9]
      rfl
    | some a =>
      have := run_convert_bytes_back (P := Try.prog) W 71 9 5 a.addr c l Try.underlying71 Try.underlying5 Try.underlying9 (fun j hj => Rows.cells h hH (by omega) j _ (by rw [flat_b]; simp [hj]))
      rw [hn]
      simpa [vsl, ptrAt, bs] using this
  simp only [EK.sem, List.getD_cons_zero, Sem.run_bind, hrun, Result.andThen_ok, Sem.run_pure]
theorem ek_str_bytes (s : ByteArray) : ∃ W' c, (EK.sem (.conv 9 71) [.string s]).run Try.prog W = .ok (.value (vsl (some (W.heap.size, 0)) s.size c)) W' ∧ Ext W W' ∧ s.size ≤ c ∧
    ∃ D : Hp, D.le (hpOf W') ∧ (∀ b o, D b = some o → W.heap.size ≤ b) ∧ Bs D (some (W.heap.size, 0)) s.size s.data.toList := by
  have hrun := run_bytes_of_string (P := Try.prog) W 9 71 5 s Try.underlying9 Try.underlying71 Try.underlying5
  refine ⟨W.drew.alloc (.cells (bytesRow s (grownCap W s.size 0 5)) 5 ((bytesRow s (grownCap W s.size 0 5)).size, (bytesRow s (grownCap W s.size 0 5)).size + 1)), grownCap W s.size 0 5, ?_, ?_, grownCap_ge W s.size 0 5, ?_⟩
  · simp only [EK.sem, List.getD_cons_zero, Sem.run_bind, hrun, Result.andThen_ok, Sem.run_pure]
    rfl
  · exact (Below.drew (Below.refl _ W)).alloc (Nat.le_refl _) _
  · refine ⟨addH noH W.heap.size (.cells (bytesRow s (grownCap W s.size 0 5)) 5 ((bytesRow s (grownCap W s.size 0 5)).size, (bytesRow s (grownCap W s.size 0 5)).size + 1)), addH_le (noH_le _) (heap_alloc_new W.drew _), fun b o hb => ?_, Rows.block (addH_at ..) (by rw [List.length_map, data_len]) (fun r hr => (brows_wid _ r hr).1) ?_⟩
    · unfold addH at hb
      split at hb
      · omega
      · cases hb
    · rw [flat_b, List.drop_zero, Nat.mul_one]
      unfold bytesRow
      have e1 : (s.data.map fun b => Value.int .u8 (b.toNat : Int)).toList.length = s.size := by rw [Array.length_toList, Array.size_map]; rfl
      rw [Array.toList_append, List.take_append_of_le_length (by rw [e1]; exact Nat.le_refl _), List.take_of_length_le (by rw [e1]; exact Nat.le_refl _)]
      simp
theorem ek_str_from (s : ByteArray) (i : Nat) (hi : i ≤ s.size) : (EK.sem (.slice 9 true false false) [.string s, vi i]).run Try.prog W = .ok (.value (.string (s.extract i s.size))) W := by
  have := run_slice_string_from_if (P := Try.prog) W 9 s .i64 i Try.underlying9
  rw [if_pos (by omega)] at this
  simp only [Int.toNat_natCast] at this
  simp [EK.sem, Instr.sliceAt, this]
theorem ek_str_to (s : ByteArray) (i : Nat) (hi : i ≤ s.size) : (EK.sem (.slice 9 false true false) [.string s, vi i]).run Try.prog W = .ok (.value (.string (s.extract 0 i))) W := by
  have := run_slice_string_to_if (P := Try.prog) W 9 s .i64 i Try.underlying9
  rw [if_pos (by omega)] at this
  simp only [Int.toNat_natCast] at this
  simp [EK.sem, Instr.sliceAt, this]
theorem bs_from (l : List UInt8) (i : Nat) : (bs l).extract i (bs l).size = bs (l.drop i) := by
  unfold bs
  rw [ByteArray.extract_mk]
  congr 2
  exact List.take_of_length_le (by simp [ByteArray.size])
theorem bs_to (l : List UInt8) (i : Nat) : (bs l).extract 0 i = bs (l.take i) := by
  unfold bs
  rw [ByteArray.extract_mk]
  simp
theorem ek_from (l : List UInt8) (i : Nat) (hi : i ≤ l.length) : (EK.sem (.slice 9 true false false) [.string (bs l), vi i]).run Try.prog W = .ok (.value (.string (bs (l.drop i)))) W := by
  rw [ek_str_from _ _ (by rw [bs_size]; exact hi), bs_from]
theorem ek_to (l : List UInt8) (i : Nat) (hi : i ≤ l.length) : (EK.sem (.slice 9 false true false) [.string (bs l), vi i]).run Try.prog W = .ok (.value (.string (bs (l.take i)))) W := by
  rw [ek_str_to _ _ (by rw [bs_size]; exact hi), bs_to]
theorem ek_idx0 (b : UInt8) (l : List UInt8) : (EK.sem (.idx 9) [.string (bs (b :: l)), vi 0]).run Try.prog W = .ok (.value (.int .u8 (b.toNat : Int))) W := by
  have := run_index_string (P := Try.prog) W 9 (bs (b :: l)) .i64 0 Try.underlying9
  rw [dif_pos (by rw [bs_size]; simp)] at this
  simp only [EK.sem, List.getD_cons_zero, List.getD_cons_succ, Sem.run_bind, this, Result.andThen_ok, Sem.run_pure]
  rfl
theorem beq_bs (a b : List UInt8) : ((bs a).toList == (bs b).toList) = decide (a = b) := by
  unfold bs
  rw [ByteArray.toList_mk, ByteArray.toList_mk]
  by_cases h : a = b <;> simp [h]
theorem ek_str_eq (x y : Operand) (a b : List UInt8) : (EK.sem (.bop .eql 9 x y) [.string (bs a), .string (bs b)]).run Try.prog W = .ok (.value (vb (decide (a = b)))) W := by
  simp [EK.sem, eqGuard, binOp_string_eql, binOp_string_neq, beq_bs]
theorem ek_bshr (k : Nat) (hk : k ≤ 1) (x y : Operand) (a : Int) : (EK.sem (.bop .shr 3 x y) [vi a, vi (8 * (k : Int))]).run Try.prog W = .ok (.value (vi (if k = 0 then a else a / 256))) W := by
  have hn : min (8 * (k : Int)).toNat (IntKind.bits .i64) = 8 * k := by
    have : IntKind.bits .i64 = 64 := rfl
    omega
  have hneg : ¬ (8 * (k : Int) < 0) := by omega
  simp only [EK.sem, List.getD_cons_zero, List.getD_cons_succ, eqGuard, binOp, Op.shift, hneg, if_false, hn, Sem.run_bind, Sem.run_pure, Result.andThen_ok]
  rcases Nat.le_one_iff_eq_zero_or_eq_one.1 hk with rfl | rfl
  · simp
  · simp [Int.fdiv_eq_ediv_of_nonneg]
theorem ek_bshl (x y : Operand) (a : Int) (h0 : 0 ≤ a) (h1 : a ≤ 65535) : (EK.sem (.bop .shl 3 x y) [vi a, .int .u64 8]).run Try.prog W = .ok (.value (vi (256 * a))) W := by
  have hn : min 8 (IntKind.bits .i64) = 8 := rfl
  simp only [EK.sem, List.getD_cons_zero, List.getD_cons_succ, eqGuard, binOp, Op.shift]
  simp
  rw [hn, IntKind.wrap_i64]
  omega
theorem ek_bor (x y : Operand) (a : Int) (b : UInt8) (h0 : 0 ≤ a) (h1 : a ≤ 65535) : (EK.sem (.bop .or 3 x y) [vi (256 * a), vi (b.toNat : Int)]).run Try.prog W = .ok (.value (vi (256 * a + b.toNat))) W := by
  obtain ⟨m, rfl⟩ : ∃ m : Nat, a = m := ⟨a.toNat, by omega⟩
  have hb := b.toNat_lt
  have key : (BitVec.ofInt 64 (256 * (m : Int)) ||| BitVec.ofInt 64 ((b.toNat : Nat) : Int)).toNat = 256 * m + b.toNat := by
    rw [BitVec.toNat_or, BitVec.toNat_ofInt, BitVec.toNat_ofInt]
    have e1 : ((256 * (m : Int)) % ((2 ^ 64 : Nat) : Int)).toNat = 256 * m := by omega
    have e2 : (((b.toNat : Nat) : Int) % ((2 ^ 64 : Nat) : Int)).toNat = b.toNat := by omega
    rw [e1, e2, show 256 * m = 2 ^ 8 * m by omega, Nat.two_pow_add_eq_or_of_lt (by omega)]
  have hrun : (binOp .or 3 (vi (256 * (m : Int))) (vi (b.toNat : Int))).run Try.prog W = .ok (vi (256 * (m : Int) + b.toNat)) W := by
    show Result.ok (Value.int .i64 (IntKind.wrap .i64 (((BitVec.ofInt 64 (256 * (m : Int)) ||| BitVec.ofInt 64 ((b.toNat : Nat) : Int)).toNat : Nat) : Int))) W = _
    have e : IntKind.wrap .i64 ((256 * m + b.toNat : Nat) : Int) = 256 * (m : Int) + b.toNat := by rw [IntKind.wrap_i64]; omega
    rw [key, e]
  simp only [EK.sem, List.getD_cons_zero, List.getD_cons_succ]
  simp [eqGuard]
  rw [hrun]
  rfl
/-- bytes out of a known block, put behind -/
theorem by_append (hH : H.le (hpOf W)) (ho : By H p n c l g) {b : Nat} {m : List UInt8} (hk : W.heap[b]? = some (.cells (m.map fun x => Value.int .u8 (x.toNat : Int)).toArray 5 (0, 0))) (hn : H b = none) (h63 : n + m.length ≤ 70368744177664) (ty : Nat) :
    ∃ p' c' g' W' H', (EK.sem (.bi .append #[71, 71] ty) [vsl p n c, .slice (some ⟨b, 0, none⟩) m.length m.length]).run Try.prog W = .ok (.value (vsl p' (n + m.length) c')) W' ∧ Upd g W W' H H' ∧ By H' p' (n + m.length) c' (l ++ m) g' ∧ (g' = g ∨ g' = some W.heap.size) := by
  obtain ⟨i, z, i1, i2, i3, i4, i5, _⟩ := info_of infoByte
  have hne : ∀ k, g = some k → k ≠ b := fun k hk2 he => by
    obtain ⟨o, h⟩ := ho.held k hk2
    rw [he, hn] at h; cases h
  have hbl := heap_lt hk
  have hle := addH_le hH hk
  have ho2 : By (addH H b (.cells (m.map fun x => Value.int .u8 (x.toNat : Int)).toArray 5 (0, 0))) p n c l g := ho.mono fun k _ o h => le_addH hn k o h
  have hr : Bs (addH H b (.cells (m.map fun x => Value.int .u8 (x.toNat : Int)).toArray 5 (0, 0))) (some (b, 0)) m.length m := Rows.block (addH_at ..) (by simp) (fun r hr => (brows_wid _ r hr).1) (by rw [flat_b, List.drop_zero, List.take_of_length_le (by simp)])
  obtain ⟨p', c', g', W', H', h2, h3, h4, h5, _⟩ := run_append_rows Try.underlying71 i1 i2 i3 i4 i5 (by omega) hle ho2 hr (ones_b m) (by simp only [maxLen]; omega) (by omega) ty (c2 := m.length)
  have hg' : ∀ k, g' = some k → k ≠ b := fun k hk2 => by
    rcases h5 with h5 | h5
    · exact hne k (h5 ▸ hk2)
    · rw [h5] at hk2; simp only [Option.some.injEq] at hk2; omega
  rw [← List.map_append] at h4
  exact ⟨p', c', g', W', _, h2, h3.less hn hbl, less_ow h4 (fun h => hg' b h rfl), h5⟩
end
end Go.Proofs.Ytoilhpkclabhoaa
namespace Go.Proofs.Ytoilhpkclabhoaa

def be2 (n : Int) : List UInt8 := [b8 (n / 256), b8 n]
def w2 (a b : UInt8) : Int := 256 * (a.toNat : Int) + b.toNat
theorem b8_id {n : Int} (h0 : 0 ≤ n) (h1 : n ≤ 255) : ((b8 n).toNat : Int) = n := by rw [b8_nat]; omega
theorem w2_id {n : Int} (h0 : 0 ≤ n) (h1 : n ≤ 65535) : w2 (b8 (n / 256)) (b8 n) = n := by unfold w2; rw [b8_nat, b8_nat]; omega
theorem be2_w2 (a b : UInt8) : be2 (w2 a b) = [a, b] := by
  have ha := a.toNat_lt
  have hb := b.toNat_lt
  unfold be2 w2
  have e1 : (256 * (a.toNat : Int) + b.toNat) / 256 = a.toNat := by omega
  rw [e1, b8_toNat, b8_mod _ (b.toNat : Int) (by omega), b8_toNat]
theorem flat_len3 {α : Type} {e : α → List UInt8} {m : Nat} : ∀ {xs : List α}, (∀ x ∈ xs, (e x).length ≤ m) → (xs.flatMap e).length ≤ xs.length * m
  | [], _ => by simp
  | x :: xs, h => by
    rw [List.flatMap_cons, List.length_append, List.length_cons, Nat.succ_mul]
    have := h x (List.mem_cons_self ..)
    have := flat_len3 (fun y hy => h y (List.mem_cons_of_mem _ hy))
    omega
/-- reading where what is not there is 0 -/
def e1 : List UInt8 → Int × List UInt8
  | [] => (0, [])
  | b :: l => (b.toNat, l)
def e2 (l : List UInt8) : Int × List UInt8 := (256 * (e1 l).1 + (e1 (e1 l).2).1, (e1 (e1 l).2).2)
def eN {α : Type} (p : List UInt8 → α × List UInt8) : Nat → List UInt8 → List α × List UInt8
  | 0, l => ([], l)
  | n + 1, l => ((p l).1 :: (eN p n (p l).2).1, (eN p n (p l).2).2)
end Go.Proofs.Ytoilhpkclabhoaa
namespace Go.Proofs.Ytoilhpkclabhoaa
open Go.RowKit
set_option maxRecDepth 100000
set_option maxHeartbeats 4000000
def v_put : VC :=
(.chk (.le (.k 0) (.v 2))
(.chk (.le (.k 0) (.v 5))
(.chk (.le (.k 0) (.v 6))
(.loop [(7, .n), (8, .p), (9, .n), (10, .n)] [.n (.k 0), .p 4 (.k 0), .n (.v 5), .n (.v 6)] [.n (.v 7), .p 8 (.k 0), .n (.v 9), .n (.v 10)]
(.ite (.lt (.v 7) (.v 2))
(.chk (.idx (.v 7) (.v 2))
(.chk (.isp 1)
(.ld 1 (.add (.k 0) (.mul (.v 7) (.k 1))) [.int .i64 (.v 11)] [(11, .i)]
(.chk (.rng .i64 (.sub (.v 0) (.k 1)))
(.chk (.le (.k 0) (.v 9))
(.chk (.le (.k 0) (.v 10))
(.loop [(12, .i), (13, .p), (14, .n), (15, .n)] [.i (.sub (.v 0) (.k 1)), .p 8 (.k 0), .n (.v 9), .n (.v 10)] [.i (.v 12), .p 13 (.k 0), .n (.v 14), .n (.v 15)]
(.ite (.le (.k 0) (.v 12))
(.chk (.rng .i64 (.mul (.k 8) (.v 12)))
(.esc (.bop .shr 3 (.tmp 26) (.tmp 28)) [.int .i64 (.v 11), .int .i64 (.mul (.k 8) (.v 12))] [] [(16, .i)] (some (.int .i64 (.v 16))) .same
(.all 1
(.esc (.bi .append #[71, 71] 71) [.slO 13 (.k 0) (.v 14) (.v 15), .slK 1 0 1 1] [(1, ⟨[.int .u8 (.wrap .u8 (.v 16))], 5⟩)] [(17, .p), (18, .n), (19, .n)] (some (.slO 17 (.k 0) (.v 18) (.v 19))) .turn
(.chk (.rng .i64 (.sub (.v 12) (.k 1)))
(.chk (.le (.k 0) (.v 18))
(.chk (.le (.k 0) (.v 19))
(.back 0 [.i (.sub (.v 12) (.k 1)), .p 17 (.k 0), .n (.v 18), .n (.v 19)]))))))))
(.chk (.rng .i64 (.add (.v 7) (.k 1)))
(.chk (.le (.k 0) (.add (.v 7) (.k 1)))
(.chk (.le (.k 0) (.v 14))
(.chk (.le (.k 0) (.v 15))
(.back 1 [.n (.add (.v 7) (.k 1)), .p 13 (.k 0), .n (.v 14), .n (.v 15)])))))))))))))
(.ret (.tup []) [(0, ⟨[.slO 8 (.k 0) (.v 9) (.v 10)], 91⟩)]))))))
theorem x_put (x0 : Int) (x1 : Option Loc) (x2 : Nat) (x3 : Nat) (x4 : Option Loc) (x5 : Nat) (x6 : Nat) (b0 : Nat) (M : Nat → Prop) (H0 : Hp) (W0 : World) (R : Ending → World → Prop) (hH : H0.le (hpOf W0)) (h0 : W0.heap[b0]? = some (Obj.cells #[vsl x4 x5 x6] 91 (0, 0)) ∧ M b0 ∧ H0 b0 = none) (h :
 (0 ≤ (x2 : Int) ∧ (0 ≤ (x2 : Int) →
 (0 ≤ (x5 : Int) ∧ (0 ≤ (x5 : Int) →
 (0 ≤ (x6 : Int) ∧ (0 ≤ (x6 : Int) →
 (∃ (I0 : List Dat → Hp → Prop) (μ0 : List Dat → Nat), I0 [.n 0, .p (x4.map fun a => a.shift 0), .n x5, .n x6] H0 ∧ ∀ H1 : Hp, ∀ x7 : Nat, ∀ x8 : Option Loc, ∀ x9 : Nat, ∀ x10 : Nat, I0 [.n x7, .p (x8.map fun a => a.shift 0), .n x9, .n x10] H1 →
  (((x7 : Int) < (x2 : Int) →
   (((0 : Int) ≤ (x7 : Int) ∧ (x7 : Int) < (x2 : Int)) ∧ (((0 : Int) ≤ (x7 : Int) ∧ (x7 : Int) < (x2 : Int)) →
   (x1.isSome = true ∧ (x1.isSome = true →
   (∃ x11 : Int, RowAt H1 x1 (0 + ((x7 : Int) * 1)) [vi x11] ∧
   (inKind .i64 (x0 - 1) ∧ (inKind .i64 (x0 - 1) →
   (0 ≤ (x9 : Int) ∧ (0 ≤ (x9 : Int) →
   (0 ≤ (x10 : Int) ∧ (0 ≤ (x10 : Int) →
   (∃ (I1 : List Dat → Hp → Prop) (μ1 : List Dat → Nat), I1 [.i (x0 - 1), .p (x8.map fun a => a.shift 0), .n x9, .n x10] H1 ∧ ∀ H2 : Hp, ∀ x12 : Int, ∀ x13 : Option Loc, ∀ x14 : Nat, ∀ x15 : Nat, I1 [.i x12, .p (x13.map fun a => a.shift 0), .n x14, .n x15] H2 →
    ((0 ≤ x12 →
     (inKind .i64 (8 * x12) ∧ (inKind .i64 (8 * x12) →
     (Es W0 M H2 nK fun W1 => ∃ x16 : Int, Eo Try.prog (.bop .shr 3 (.tmp 26) (.tmp 28)) [vi x11, vi (8 * x12)] W1 (.value (vi x16)) fun W2 => Ext W1 W2 ∧
     (∀ b1 : Nat,
     (Es W0 M H2 (fun W => Kn W0 M H2 W b1 (Obj.cells #[Value.int .u8 (IntKind.wrap .u8 x16)] 5 (0, 0)) ∧ True) fun W3 => ∃ x17 : Option Loc, ∃ x18 : Nat, ∃ x19 : Nat, Eo Try.prog (.bi .append #[71, 71] 71) [vsl x13 x14 x15, Value.slice (some ⟨b1, 0, none⟩) 1 1] W3 (.value (vsl x17 x18 x19)) fun W4 => Tn W0 M H2 W3 W4 fun H3 =>
     (inKind .i64 (x12 - 1) ∧ (inKind .i64 (x12 - 1) →
     (0 ≤ (x18 : Int) ∧ (0 ≤ (x18 : Int) →
     (0 ≤ (x19 : Int) ∧ (0 ≤ (x19 : Int) →
     (I1 [.i (x12 - 1), .p (x17.map fun a => a.shift 0), .n x18, .n x19] H3 ∧ μ1 [.i (x12 - 1), .p (x17.map fun a => a.shift 0), .n x18, .n x19] < μ1 [.i x12, .p (x13.map fun a => a.shift 0), .n x14, .n x15]))))))))))))) ∧
    (¬ (0 ≤ x12) →
     (inKind .i64 ((x7 : Int) + 1) ∧ (inKind .i64 ((x7 : Int) + 1) →
     (0 ≤ ((x7 : Int) + 1) ∧ (0 ≤ ((x7 : Int) + 1) →
     (0 ≤ (x14 : Int) ∧ (0 ≤ (x14 : Int) →
     (0 ≤ (x15 : Int) ∧ (0 ≤ (x15 : Int) →
     (I0 [.n (((x7 : Int) + 1) : Int).toNat, .p (x13.map fun a => a.shift 0), .n x14, .n x15] H2 ∧ μ0 [.n (((x7 : Int) + 1) : Int).toNat, .p (x13.map fun a => a.shift 0), .n x14, .n x15] < μ0 [.n x7, .p (x8.map fun a => a.shift 0), .n x9, .n x10])))))))))))))))))))))))) ∧
  (¬ ((x7 : Int) < (x2 : Int)) →
   Rt R W0 M H1 (fun W => Kn W0 M H1 W b0 (Obj.cells #[vsl x8 x9 x10] 91 (0, 0)) ∧ True) (Value.tuple #[]))))))))))) :
  Calls Try.prog 53 #[Value.pointer (some ⟨b0, 0, none⟩), vi x0, vsl x1 x2 x3] W0 R :=
  calls_sxC (M := M) (V := v_put) (hi := {loops := [(1, .inv [(11, .nat)] [(0, [.pt .sl])]), (4, .inv [(8, .pt (.int .i64))] [(0, [.pt .sl])])]}) (o0 := ⟨[.slO 4 (.k 0) (.v 5) (.v 6)], 91⟩) (args := [.ptrK 0 0, .int .i64 (.v 0), .slO 1 (.k 0) (.v 2) (.v 3)]) (nv := 7) (e := (upd (upd (upd (upd (upd (upd (upd (fun _ => .i 0) 0 (.i x0)) 1 (.p x1)) 2 (.n x2)) 3 (.n x3)) 4 (.p x4)) 5 (.n x5)) 6 (.n x6))) Try.func53 hH h0 h (by kernel_rfl) (by kernel_rfl) (by kernel_rfl) (by kernel_rfl)
end Go.Proofs.Ytoilhpkclabhoaa
namespace Go.Proofs.Ytoilhpkclabhoaa
open Go.RowKit

/-- a number out of bytes -/
def val : List UInt8 → Int
  | [] => 0
  | b :: l => valF b.toNat l
where valF (n : Int) : List UInt8 → Int
  | [] => n
  | b :: l => valF (256 * n + b.toNat) l
theorem valF_app (l : List UInt8) (b : UInt8) : ∀ n, val.valF n (l ++ [b]) = 256 * val.valF n l + b.toNat := by
  induction l with
  | nil => intro n; rfl
  | cons a l ih => intro n; exact ih _
theorem val_app (l : List UInt8) (b : UInt8) : val (l ++ [b]) = 256 * val l + b.toNat := by
  cases l with
  | nil => simp [val, val.valF]
  | cons a l => exact valF_app l b _
theorem Fr.of {W W' : World} {H D : Hp} {K : Hp → Prop} (hx : Ext W W') (hD : D.le (hpOf W')) (hf : ∀ b o, D b = some o → W.heap.size ≤ b) (hK : ∀ H' : Hp, H.le H' → D.le H' → K H') : Fr W W' H K := ⟨hx, D, hD, hf, hK⟩
section
variable {H : Hp} {b0 : Nat} {l : List UInt8}
end
end Go.Proofs.Ytoilhpkclabhoaa
namespace Go.Proofs.Ytoilhpkclabhoaa
open Go.RowKit

abbrev RGf (W0 : World) (post : Value → Hp → Prop) : Ending → World → Prop := fun z W' => ∃ v D, z = .returned v ∧ Ext W0 W' ∧ D.le (hpOf W') ∧ (∀ b o, D b = some o → W0.heap.size ≤ b) ∧ post v D
end Go.Proofs.Ytoilhpkclabhoaa
