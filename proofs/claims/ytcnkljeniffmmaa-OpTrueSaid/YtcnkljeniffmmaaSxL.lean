/- A symbolic run of a function's code: regions, tests, blocks, loops; a whole function. Over any program; no program in sight. -/
import Derived.Test.YtcnkljeniffmmaaSxK
namespace Go.Proofs.Ytcnkljeniffmmaa
open Go.RowKit

section
variable {P : Program} {W0 : World} {M : Nat → Prop} {R : Ending → World → Prop} {hi : Hints} {X : List (Nat × Obj)}

theorem guard_yes {S : St} {ops : List Oper} {o : Oper} (h : guardOf ops S o = .yes) (y : Nat → Option Bool) : Region.wanted o y = true := by
  unfold guardOf at h
  split at h
  · rename_i hg; simp [Region.wanted, hg]
  · split at h
    · split at h <;> cases h
    · cases h
theorem slot_of {S : St} {ρ : Nat → Nat} {e : Env} {a : Act} (hr : TmRel ρ e S.tm a) {d : Nat} {v : SV} (h : (S.tm[d]?).join = some v) : a.tmps[d]? = some (v.den ρ e) := by
  refine hr.2 d v ?_
  cases hh : S.tm[d]? with
  | none => rw [hh] at h; cases h
  | some q => rw [hh] at h; simp only [Option.join_some] at h; rw [h]
theorem guard_no {S : St} {ρ : Nat → Nat} {e : Env} {a : Act} (hr : TmRel ρ e S.tm a) {ops : Array Oper} {o : Oper} (h : guardOf ops.toList S o = .no) : Region.wanted o (yielded ops a.tmps) = false := by
  unfold guardOf at h
  split at h
  · cases h
  · rename_i j want hg
    split at h
    · rename_i d hd
      split at h
      · cases h
      · rename_i hu
        have := slot_of hr hu
        simp only [Array.getElem?_toList] at hd
        simp only [Region.wanted, hg, yielded, hd, Option.bind_some, this, SV.den, Go.undef]
        cases want <;> rfl
      · cases h
    · cases h
theorem guard_br {S : St} {ρ : Nat → Nat} {e : Env} {a : Act} (hr : TmRel ρ e S.tm a) {ops : Array Oper} {o : Oper} {c : Sb} {want : Bool} (h : guardOf ops.toList S o = .br c want) : Region.wanted o (yielded ops a.tmps) = (c.den e == want) := by
  unfold guardOf at h
  split at h
  · cases h
  · rename_i j want' hg
    split at h
    · rename_i d hd
      split at h
      · rename_i c' hu
        simp only [Gd.br.injEq] at h
        obtain ⟨rfl, rfl⟩ := h
        have := slot_of hr hu
        simp only [Array.getElem?_toList] at hd
        simp only [Region.wanted, hg, yielded, hd, Option.bind_some, this, SV.den]
        rfl
      · cases h
      · cases h
    · cases h
theorem exOps_ok {L : List (List Dat → Hp → Prop)} {B : Base} {rid : Nat} {ops : Array Oper} {K : St → VC} {Q : Exit → Act → World → Prop} : ∀ {l : List (Oper × Nat)} {S : St} {ρ : Nat → Nat} {e : Env} {H : Hp} {a : Act} {W : World},
    (exOps P hi rid ops.toList l S K).den P W0 M R ρ e H L → Rel W0 M S ρ e X H a W → Agr B S ρ e → Goes P W0 M R X L B S.dp K (Q .normal) → wpList P ops Q (l.map (·.1)) a W
  | [], S, ρ, e, H, a, W, h, hr, hb, hk => hk S ρ e H a W rfl hb h hr
  | (o, ix) :: r, S, ρ, e, H, a, W, h, hr, hb, hk => by
    have hgo : Goes P W0 M R X L B S.dp (fun S => exOps P hi rid ops.toList r S K) (wpList P ops Q (r.map (·.1))) := fun S' ρ' e' H' a' W' hd hb' h' hr' => exOps_ok h' hr' hb' (hd ▸ hk)
    simp only [List.map_cons, wpList]
    simp only [exOps] at h
    split at h
    · rename_i hg
      rw [if_pos (guard_yes hg _)]
      exact .inl (oneOp_ok h hr hb hgo)
    · rename_i hg
      rw [guard_no hr.tm hg, if_neg Bool.false_ne_true]
      exact hgo _ _ _ _ _ _ (by rw [put_dp]) (hb.put _ _) h (hr.put _ _)
    · rename_i c want hg
      rw [guard_br hr.tm hg]
      obtain ⟨S', h1, h2, h5⟩ := branch_out h hr
      have hw : (if want then c else Sb.not c).den e = (c.den e == want) := by
        cases want <;> simp [Sb.den]
      rw [hw] at h5
      rcases h5 with ⟨h5, h6⟩ | ⟨h5, h6⟩
      · rw [h5, if_pos rfl]
        exact .inl (oneOp_ok h6 h1 (hb.sim h2) (h2.1 ▸ hgo))
      · rw [h5, if_neg Bool.false_ne_true]
        exact hgo _ _ _ _ _ _ (by rw [put_dp, h2.1]) ((hb.sim h2).put _ _) h6 (h1.put _ _)
    · exact h.elim

def Xt.toExit : Xt → Exit
  | .normal => .normal
  | .ret => .ret
  | .exit i => .exit i
/-- what code leaves to what comes behind it -/
def GoesX (P : Program) (W0 : World) (M : Nat → Prop) (R : Ending → World → Prop) (L : List (List Dat → Hp → Prop)) (B : Base) (K : Xt → St → VC) (Q : Exit → Act → World → Prop) : Prop :=
  ∀ (x : Xt) (S : St) (ρ : Nat → Nat) (e : Env) (H : Hp) (L' : List (List Dat → Hp → Prop)) (a : Act) (W : World), (∃ pre, L' = pre ++ L) → L'.length = S.dp → Agr B S ρ e → (K x S).den P W0 M R ρ e H L' → Rel W0 M S ρ e [] H a W → Q x.toExit a W
theorem GoesX.more {L L' : List (List Dat → Hp → Prop)} {B : Base} {K : Xt → St → VC} {Q : Exit → Act → World → Prop} (h : GoesX P W0 M R L B K Q) (hp : ∃ pre, L' = pre ++ L) : GoesX P W0 M R L' B K Q := by
  obtain ⟨pre, rfl⟩ := hp
  intro x S ρ e H L2 a W ⟨pre2, hp2⟩ hl hb hd hr
  exact h x S ρ e H L2 a W ⟨pre2 ++ pre, by rw [hp2, List.append_assoc]⟩ hl hb hd hr

/-- a loop by what holds at its head, with a number that goes down -/
theorem wp_loop_ix {c : Code} {Q : Exit → Act → World → Prop} {a : Act} {w : World} (I : Nat → Act → World → Prop) (h₀ : ∃ n, I n a w)
    (round : ∀ n a w, I n a w → c.wp P (Exit.then (fun a' w' => ∃ m, m < n ∧ I m a' w') Q) a w) : (Code.loop c).wp P Q a w := by
  have least : ∀ (p : Nat → Prop), (∃ n, p n) → ∃ n, p n ∧ ∀ m, p m → n ≤ m := by
    intro p ⟨n, hn⟩
    induction n using Nat.strongRecOn with
    | _ n ih =>
      by_cases h : ∃ m, m < n ∧ p m
      · obtain ⟨m, hm, hp⟩ := h
        exact ih m hm hp
      · exact ⟨n, hn, fun m hm => by
          rcases Nat.lt_or_ge m n with h1 | h1
          · exact (h ⟨m, h1, hm⟩).elim
          · exact h1⟩
  have hμ : ∀ (a : Act) (w : World), ∃ n, (∃ n, I n a w) → (I n a w ∧ ∀ m, I m a w → n ≤ m) := fun a w => by
    by_cases h : ∃ n, I n a w
    · obtain ⟨n, hn⟩ := least (fun n => I n a w) h
      exact ⟨n, fun _ => hn⟩
    · exact ⟨0, fun h' => (h h').elim⟩
  refine wp_loop (fun a w => ∃ n, I n a w) (fun a w => Classical.choose (hμ a w)) h₀ (fun a w hI => ?_)
  have h1 := Classical.choose_spec (hμ a w) hI
  refine wp_mono (round _ a w h1.1) (fun x a' w' hq => ?_)
  cases x with
  | normal =>
    obtain ⟨m, hm, hI'⟩ := hq
    refine ⟨⟨m, hI'⟩, ?_⟩
    have h2 := Classical.choose_spec (hμ a' w') ⟨m, hI'⟩
    exact Nat.lt_of_le_of_lt (h2.2 m hI') hm
  | _ => exact hq
end
end Go.Proofs.Ytcnkljeniffmmaa
