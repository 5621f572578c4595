/- Symbolic runs of functions: what each leaves to prove is enough for its call. Printed by a program of ours. No conditions. What must be in any case, of folding; entries that a law is shown. No conditions. Contracts: FoldTells, FoldSplit. No conditions. -/
import Derived.Test.YtgmgbfpoeclgiaaKE3
import Derived.Test.YtgmgbfpoeclgiaaProg
import Derived.Test.YtgmgbfpoeclgiaaKF2
import Derived.Test.YtgmgbfpoeclgiaaKL1
set_option linter.unusedVariables false
set_option linter.unusedSimpArgs false
namespace Go.Proofs.Ytgmgbfpoeclgiaa
open Go.RowKit
set_option maxRecDepth 100000
set_option maxHeartbeats 4000000
(.call 24 [.int .i64 (.k 1), .int .i64 (.k 1)] [] [(0, .i), (1, .i), (2, .i), (3, .i), (4, .i), (5, .i), (6, .i), (7, .i), (8, .i)] (.agg [.int .i64 (.v 0), .int .i64 (.v 1), .int .i64 (.v 2), .int .i64 (.v 3), .int .i64 (.v 4), .int .i64 (.v 5), .int .i64 (.v 6), .int .i64 (.v 7), .int .i64 (.v 8)]) .same
(.call 51 [.int .i64 (.k 5)] [] [(9, .i), (10, .i), (11, .i), (12, .i)] (.agg [.int .i64 (.v 9), .int .i64 (.v 10), .int .i64 (.v 11), .int .i64 (.v 12)]) .same
(.call 50 [.int .i64 (.k 2), .int .i64 (.k 1), .int .i64 (.k 1), .int .i64 (.k 0), .agg [.int .i64 (.v 9), .int .i64 (.v 10), .int .i64 (.v 11), .int .i64 (.v 12)]] [] [(13, .i), (14, .i), (15, .i), (16, .i), (17, .i), (18, .i), (19, .i), (20, .i), (21, .i)] (.agg [.int .i64 (.v 13), .int .i64 (.v 14), .int .i64 (.v 15), .int .i64 (.v 16), .int .i64 (.v 17), .int .i64 (.v 18), .int .i64 (.v 19), .int .i64 (.v 20), .int .i64 (.v 21)]) .same
(.call 51 [.int .i64 (.k 5)] [] [(22, .i), (23, .i), (24, .i), (25, .i)] (.agg [.int .i64 (.v 22), .int .i64 (.v 23), .int .i64 (.v 24), .int .i64 (.v 25)]) .same
(.call 50 [.int .i64 (.k 3), .int .i64 (.k 1), .int .i64 (.k 1), .int .i64 (.k 0), .agg [.int .i64 (.v 22), .int .i64 (.v 23), .int .i64 (.v 24), .int .i64 (.v 25)]] [] [(26, .i), (27, .i), (28, .i), (29, .i), (30, .i), (31, .i), (32, .i), (33, .i), (34, .i)] (.agg [.int .i64 (.v 26), .int .i64 (.v 27), .int .i64 (.v 28), .int .i64 (.v 29), .int .i64 (.v 30), .int .i64 (.v 31), .int .i64 (.v 32), .int .i64 (.v 33), .int .i64 (.v 34)]) .same
(.call 51 [.int .i64 (.k 7)] [] [(35, .i), (36, .i), (37, .i), (38, .i)] (.agg [.int .i64 (.v 35), .int .i64 (.v 36), .int .i64 (.v 37), .int .i64 (.v 38)]) .same
(.call 50 [.int .i64 (.k 4), .int .i64 (.k 2), .int .i64 (.k 1), .int .i64 (.k 0), .agg [.int .i64 (.v 35), .int .i64 (.v 36), .int .i64 (.v 37), .int .i64 (.v 38)]] [] [(39, .i), (40, .i), (41, .i), (42, .i), (43, .i), (44, .i), (45, .i), (46, .i), (47, .i)] (.agg [.int .i64 (.v 39), .int .i64 (.v 40), .int .i64 (.v 41), .int .i64 (.v 42), .int .i64 (.v 43), .int .i64 (.v 44), .int .i64 (.v 45), .int .i64 (.v 46), .int .i64 (.v 47)]) .same
(.call 24 [.int .i64 (.k 4), .int .i64 (.k 2)] [] [(48, .i), (49, .i), (50, .i), (51, .i), (52, .i), (53, .i), (54, .i), (55, .i), (56, .i)] (.agg [.int .i64 (.v 48), .int .i64 (.v 49), .int .i64 (.v 50), .int .i64 (.v 51), .int .i64 (.v 52), .int .i64 (.v 53), .int .i64 (.v 54), .int .i64 (.v 55), .int .i64 (.v 56)]) .same
(.call 50 [.int .i64 (.k 5), .int .i64 (.k 1), .int .i64 (.k 2), .int .i64 (.k 1), .agg [.int .i64 (.k 3), .int .i64 (.k 0), .int .i64 (.k 1), .int .i64 (.k 2)]] [] [(57, .i), (58, .i), (59, .i), (60, .i), (61, .i), (62, .i), (63, .i), (64, .i), (65, .i)] (.agg [.int .i64 (.v 57), .int .i64 (.v 58), .int .i64 (.v 59), .int .i64 (.v 60), .int .i64 (.v 61), .int .i64 (.v 62), .int .i64 (.v 63), .int .i64 (.v 64), .int .i64 (.v 65)]) .same
(.call 51 [.int .i64 (.k 5)] [] [(66, .i), (67, .i), (68, .i), (69, .i)] (.agg [.int .i64 (.v 66), .int .i64 (.v 67), .int .i64 (.v 68), .int .i64 (.v 69)]) .same
(.call 50 [.int .i64 (.k 6), .int .i64 (.k 1), .int .i64 (.k 1), .int .i64 (.k 0), .agg [.int .i64 (.v 66), .int .i64 (.v 67), .int .i64 (.v 68), .int .i64 (.v 69)]] [] [(70, .i), (71, .i), (72, .i), (73, .i), (74, .i), (75, .i), (76, .i), (77, .i), (78, .i)] (.agg [.int .i64 (.v 70), .int .i64 (.v 71), .int .i64 (.v 72), .int .i64 (.v 73), .int .i64 (.v 74), .int .i64 (.v 75), .int .i64 (.v 76), .int .i64 (.v 77), .int .i64 (.v 78)]) .same
(.call 51 [.int .i64 (.k 1)] [] [(79, .i), (80, .i), (81, .i), (82, .i)] (.agg [.int .i64 (.v 79), .int .i64 (.v 80), .int .i64 (.v 81), .int .i64 (.v 82)]) .same
(.call 50 [.int .i64 (.k 40), .int .i64 (.k 1), .int .i64 (.k 2), .int .i64 (.k 1), .agg [.int .i64 (.v 79), .int .i64 (.v 80), .int .i64 (.v 81), .int .i64 (.v 82)]] [] [(83, .i), (84, .i), (85, .i), (86, .i), (87, .i), (88, .i), (89, .i), (90, .i), (91, .i)] (.agg [.int .i64 (.v 83), .int .i64 (.v 84), .int .i64 (.v 85), .int .i64 (.v 86), .int .i64 (.v 87), .int .i64 (.v 88), .int .i64 (.v 89), .int .i64 (.v 90), .int .i64 (.v 91)]) .same
(.call 24 [.int .i64 (.k 41), .int .i64 (.k 1)] [] [(92, .i), (93, .i), (94, .i), (95, .i), (96, .i), (97, .i), (98, .i), (99, .i), (100, .i)] (.agg [.int .i64 (.v 92), .int .i64 (.v 93), .int .i64 (.v 94), .int .i64 (.v 95), .int .i64 (.v 96), .int .i64 (.v 97), .int .i64 (.v 98), .int .i64 (.v 99), .int .i64 (.v 100)]) .same
(.call 51 [.int .i64 (.k 9)] [] [(101, .i), (102, .i), (103, .i), (104, .i)] (.agg [.int .i64 (.v 101), .int .i64 (.v 102), .int .i64 (.v 103), .int .i64 (.v 104)]) .same
(.call 50 [.int .i64 (.k 42), .int .i64 (.k 1), .int .i64 (.k 1), .int .i64 (.k 0), .agg [.int .i64 (.v 101), .int .i64 (.v 102), .int .i64 (.v 103), .int .i64 (.v 104)]] [] [(105, .i), (106, .i), (107, .i), (108, .i), (109, .i), (110, .i), (111, .i), (112, .i), (113, .i)] (.agg [.int .i64 (.v 105), .int .i64 (.v 106), .int .i64 (.v 107), .int .i64 (.v 108), .int .i64 (.v 109), .int .i64 (.v 110), .int .i64 (.v 111), .int .i64 (.v 112), .int .i64 (.v 113)]) .same
(.all 0
(.ret (.slK 0 0 10 10) [(0, ⟨[.int .i64 (.v 0), .int .i64 (.v 1), .int .i64 (.v 2), .int .i64 (.v 3), .int .i64 (.v 4), .int .i64 (.v 5), .int .i64 (.v 6), .int .i64 (.v 7), .int .i64 (.v 8), .int .i64 (.v 13), .int .i64 (.v 14), .int .i64 (.v 15), .int .i64 (.v 16), .int .i64 (.v 17), .int .i64 (.v 18), .int .i64 (.v 19), .int .i64 (.v 20), .int .i64 (.v 21), .int .i64 (.v 26), .int .i64 (.v 27), .int .i64 (.v 28), .int .i64 (.v 29), .int .i64 (.v 30), .int .i64 (.v 31), .int .i64 (.v 32), .int .i64 (.v 33), .int .i64 (.v 34), .int .i64 (.v 39), .int .i64 (.v 40), .int .i64 (.v 41), .int .i64 (.v 42), .int .i64 (.v 43), .int .i64 (.v 44), .int .i64 (.v 45), .int .i64 (.v 46), .int .i64 (.v 47), .int .i64 (.v 48), .int .i64 (.v 49), .int .i64 (.v 50), .int .i64 (.v 51), .int .i64 (.v 52), .int .i64 (.v 53), .int .i64 (.v 54), .int .i64 (.v 55), .int .i64 (.v 56), .int .i64 (.v 57), .int .i64 (.v 58), .int .i64 (.v 59), .int .i64 (.v 60), .int .i64 (.v 61), .int .i64 (.v 62), .int .i64 (.v 63), .int .i64 (.v 64), .int .i64 (.v 65), .int .i64 (.v 70), .int .i64 (.v 71), .int .i64 (.v 72), .int .i64 (.v 73), .int .i64 (.v 74), .int .i64 (.v 75), .int .i64 (.v 76), .int .i64 (.v 77), .int .i64 (.v 78), .int .i64 (.v 83), .int .i64 (.v 84), .int .i64 (.v 85), .int .i64 (.v 86), .int .i64 (.v 87), .int .i64 (.v 88), .int .i64 (.v 89), .int .i64 (.v 90), .int .i64 (.v 91), .int .i64 (.v 92), .int .i64 (.v 93), .int .i64 (.v 94), .int .i64 (.v 95), .int .i64 (.v 96), .int .i64 (.v 97), .int .i64 (.v 98), .int .i64 (.v 99), .int .i64 (.v 100), .int .i64 (.v 105), .int .i64 (.v 106), .int .i64 (.v 107), .int .i64 (.v 108), .int .i64 (.v 109), .int .i64 (.v 110), .int .i64 (.v 111), .int .i64 (.v 112), .int .i64 (.v 113)], 43⟩)]))))))))))))))))))
end Go.Proofs.Ytgmgbfpoeclgiaa
namespace Go.Proofs.Ytgmgbfpoeclgiaa
open Go.RowKit
set_option maxRecDepth 100000
/-- what comes stands in one new block -/
theorem Rt.one {W0 : World} {H : Hp} {v : Value} {post : Value → Hp → Prop} {b : Nat} {o : Obj} {kn : World → Prop} (hk : ∀ W, kn W → Kn W0 noM H W b o) (hp : ∀ D : Hp, D b = some o → post v D) :
    Rt (fun z W' => ∃ v D, z = .returned v ∧ Ext W0 W' ∧ D.le (hpOf W') ∧ (∀ b o, D b = some o → W0.heap.size ≤ b) ∧ post v D) W0 noM H kn v := fun W n k => by
  have hk := hk W k
  refine ⟨v, addH noH b o, rfl, n.ext, addH_le (noH_le _) hk.eq, fun j q hj => ?_, hp _ (addH_at ..)⟩
  unfold addH at hj
  split at hj
  · rename_i h; subst h; exact hk.own.resolve_right (fun h => h)
  · cases hj
instance (e : Ent) : Decidable e.in64 := by unfold Ent.in64; infer_instance
theorem Fr.none {W W' : World} {H : Hp} {K : Hp → Prop} (hx : Ext W W') (hk : ∀ H' : Hp, H.le H' → K H') : Fr W W' H K := ⟨hx, noH, noH_le _, (fun b o h => by cases h), fun H' h _ => hk H' h⟩
theorem Cl.held {P : Program} {W0 : World} {H : Hp} {kn : World → Prop} {f : Nat} {args : Array Value} {v : Value} {Φ : Ending → World → World → Prop} {b : Nat} {o : Obj} (hk : ∀ W, kn W → Kn W0 noM H W b o) (hc : Gv P f args (addH H b o) v) (hp : ∀ W W', Ext W W' → Φ (.returned v) W W') : Cl P W0 noM H kn f args Φ :=
  Cl.sameK (fun W n k => ⟨addH H b o, addH_le n.sub (hk W k).eq, hc⟩) hp
end Go.Proofs.Ytgmgbfpoeclgiaa
namespace Go.Proofs.Ytgmgbfpoeclgiaa
open Go.RowKit
theorem Ents.drop {H : Hp} {p : Option Loc} {n c : Nat} {l : List Ent} (h : Ents H p n c l) (k : Nat) (hk : k ≤ n) :
    ∃ p', Value.slice (ptrAt p (0 + (if (c : Int) = (k : Int) then 0 else (k : Int) * ((9 : Nat) : Int)))) (((n : Int) - (k : Int)) : Int).toNat (((c : Int) - (k : Int)) : Int).toNat = vsl p' (n - k) (c - k) ∧ Ents H p' (n - k) (c - k) (l.drop k) := by
  have e1 : (((n : Int) - (k : Int)) : Int).toNat = n - k := by omega
  have e2 : (((c : Int) - (k : Int)) : Int).toNat = c - k := by omega
  have hn := h.len
  refine ⟨shiftP p ((0 + (if (c : Int) = (k : Int) then 0 else (k : Int) * ((9 : Nat) : Int))).toNat), by rw [e1, e2, ptrAt_shift], Nat.sub_le_sub_right h.1 k, Nat.le_trans (Nat.sub_le _ _) h.2.1, ?_, fun e he => h.2.2.2 e (List.mem_of_mem_drop he)⟩
  rcases Nat.eq_or_lt_of_le hk with h0 | h0
  · subst h0
    rw [List.drop_of_length_le (by omega), Nat.sub_self]
    exact Rows.nil _ _ _
  · rw [if_neg (by have := h.1; omega)]
    have h2 := h.2.2.1.part k n hk (Nat.le_refl _)
    rw [show (0 + (k : Int) * ((9 : Nat) : Int)).toNat = k * 9 by omega]
    rw [← List.map_drop, List.take_of_length_le (by simp; omega)] at h2
    exact h2
end Go.Proofs.Ytgmgbfpoeclgiaa
