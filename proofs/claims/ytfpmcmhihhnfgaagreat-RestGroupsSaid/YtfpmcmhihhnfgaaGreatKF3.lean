/- Symbolic runs of functions: what each leaves to prove is enough for its call. Printed by a program of ours. No conditions. What must be in any case, of folding; entries that a law is shown. No conditions. Contracts: FoldTells, FoldSplit. No conditions. -/
import Derived.Test.YtfpmcmhihhnfgaaGreatKE3
import Derived.Test.YtfpmcmhihhnfgaaGreatProg
import Derived.Test.YtfpmcmhihhnfgaaGreatKF2
import Derived.Test.YtfpmcmhihhnfgaaGreatKL1
set_option linter.unusedVariables false
set_option linter.unusedSimpArgs false
namespace Go.Proofs.YtfpmcmhihhnfgaaGreat
open Go.RowKit
set_option maxRecDepth 100000
set_option maxHeartbeats 4000000
end Go.Proofs.YtfpmcmhihhnfgaaGreat
namespace Go.Proofs.YtfpmcmhihhnfgaaGreat
open Go.RowKit
set_option maxRecDepth 100000
/-- what comes stands in one new block -/
theorem Rt.one {W0 : World} {H : Hp} {v : Value} {post : Value → Hp → Prop} {b : Nat} {o : Obj} {kn : World → Prop} (hk : ∀ W, kn W → Kn W0 noM H W b o) (hp : ∀ D : Hp, D b = some o → post v D) :
    Rt (fun z W' => ∃ v D, z = .returned v ∧ Ext W0 W' ∧ D.le (hpOf W') ∧ (∀ b o, D b = some o → W0.heap.size ≤ b) ∧ post v D) W0 noM H kn v := fun W n k => by
  have hk := hk W k
  refine ⟨v, addH noH b o, rfl, n.ext, addH_le (noH_le _) hk.eq, fun j q hj => ?_, hp _ (addH_at ..)⟩
  unfold addH at hj
  split at hj
  · rename_i h; subst h; exact hk.own.resolve_right (fun h => h)
  · cases hj
instance (e : Ent) : Decidable e.in64 := by unfold Ent.in64; infer_instance
theorem Fr.none {W W' : World} {H : Hp} {K : Hp → Prop} (hx : Ext W W') (hk : ∀ H' : Hp, H.le H' → K H') : Fr W W' H K := ⟨hx, noH, noH_le _, (fun b o h => by cases h), fun H' h _ => hk H' h⟩
theorem Cl.held {P : Program} {W0 : World} {H : Hp} {kn : World → Prop} {f : Nat} {args : Array Value} {v : Value} {Φ : Ending → World → World → Prop} {b : Nat} {o : Obj} (hk : ∀ W, kn W → Kn W0 noM H W b o) (hc : Gv P f args (addH H b o) v) (hp : ∀ W W', Ext W W' → Φ (.returned v) W W') : Cl P W0 noM H kn f args Φ :=
  Cl.sameK (fun W n k => ⟨addH H b o, addH_le n.sub (hk W k).eq, hc⟩) hp
end Go.Proofs.YtfpmcmhihhnfgaaGreat
namespace Go.Proofs.YtfpmcmhihhnfgaaGreat
open Go.RowKit
theorem Ents.drop {H : Hp} {p : Option Loc} {n c : Nat} {l : List Ent} (h : Ents H p n c l) (k : Nat) (hk : k ≤ n) :
    ∃ p', Value.slice (ptrAt p (0 + (if (c : Int) = (k : Int) then 0 else (k : Int) * ((9 : Nat) : Int)))) (((n : Int) - (k : Int)) : Int).toNat (((c : Int) - (k : Int)) : Int).toNat = vsl p' (n - k) (c - k) ∧ Ents H p' (n - k) (c - k) (l.drop k) := by
  have e1 : (((n : Int) - (k : Int)) : Int).toNat = n - k := by omega
  have e2 : (((c : Int) - (k : Int)) : Int).toNat = c - k := by omega
  have hn := h.len
  refine ⟨shiftP p ((0 + (if (c : Int) = (k : Int) then 0 else (k : Int) * ((9 : Nat) : Int))).toNat), by rw [e1, e2, ptrAt_shift], Nat.sub_le_sub_right h.1 k, Nat.le_trans (Nat.sub_le _ _) h.2.1, ?_, fun e he => h.2.2.2 e (List.mem_of_mem_drop he)⟩
  rcases Nat.eq_or_lt_of_le hk with h0 | h0
  · subst h0
    rw [List.drop_of_length_le (by omega), Nat.sub_self]
    exact Rows.nil _ _ _
  · rw [if_neg (by have := h.1; omega)]
    have h2 := h.2.2.1.part k n hk (Nat.le_refl _)
    rw [show (0 + (k : Int) * ((9 : Nat) : Int)).toNat = k * 9 by omega]
    rw [← List.map_drop, List.take_of_length_le (by simp; omega)] at h2
    exact h2
end Go.Proofs.YtfpmcmhihhnfgaaGreat
