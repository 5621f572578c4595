/- A symbolic run of a function's code: each operation does what the run says. Over any program; no program in sight. -/
import Derived.Test.YtcnkljeniffmmaaSxB
namespace Go.Proofs.Ytcnkljeniffmmaa
open Go.RowKit

/-- the frame's slots, as far as they are known -/
def TmRel (ρ : Nat → Nat) (e : Env) (tm : List (Option SV)) (a : Act) : Prop :=
  a.tmps.size = tm.length ∧ ∀ (t : Nat) (v : SV), tm[t]? = some (some v) → a.tmps[t]? = some (v.den ρ e)
/-- memory, as far as it is known; X: blocks that are made ahead -/
structure At (W0 : World) (M : Nat → Prop) (ρ : Nat → Nat) (e : Env) (h : List (Option SObj)) (X : List (Nat × Obj)) (H : Hp) (W : World) : Prop where
  kn : ∀ k o, h[k]? = some (some o) → W.heap[ρ k]? = some (o.den ρ e)
  inj : ∀ k j o o', h[k]? = some (some o) → h[j]? = some (some o') → ρ k = ρ j → k = j
  old : ∀ k o, h[k]? = some (some o) → W0.heap.size ≤ ρ k ∨ M (ρ k)
  dis : ∀ k o, h[k]? = some (some o) → H (ρ k) = none
  sub : H.le (hpOf W)
  mod : Mod M W0 W
  xk : ∀ p ∈ X, W.heap[p.1]? = some p.2
  xo : ∀ p ∈ X, W0.heap.size ≤ p.1
  xd : ∀ p ∈ X, H p.1 = none
  xr : ∀ p ∈ X, ∀ k o, h[k]? = some (some o) → ρ k ≠ p.1
structure Rel (W0 : World) (M : Nat → Prop) (S : St) (ρ : Nat → Nat) (e : Env) (X : List (Nat × Obj)) (H : Hp) (a : Act) (W : World) : Prop where
  tm : TmRel ρ e S.tm a
  df : a.defers = []
  mem : At W0 M ρ e S.h X H W
  pc : ∀ p ∈ S.pc, p.1.den e = p.2

/-- the frame and the tests, as far as they are known -/
structure RelT (S : St) (ρ : Nat → Nat) (e : Env) (a : Act) : Prop where
  tm : TmRel ρ e S.tm a
  pc : ∀ p ∈ S.pc, p.1.den e = p.2
theorem Rel.toT {W0 : World} {M : Nat → Prop} {S : St} {ρ : Nat → Nat} {e : Env} {X : List (Nat × Obj)} {H : Hp} {a : Act} {W : World} (h : Rel W0 M S ρ e X H a W) : RelT S ρ e a := ⟨h.tm, h.pc⟩
theorem Sb.prop_iff (e : Env) : ∀ c : Sb, c.prop e ↔ c.den e = true
  | .k b => Iff.rfl
  | .v i => Iff.rfl
  | .lt a b => by simp [Sb.prop, Sb.den]
  | .le a b => by simp [Sb.prop, Sb.den]
  | .eq a b => by simp [Sb.prop, Sb.den]
  | .not a => by simp [Sb.prop, Sb.den, Sb.prop_iff e a]
  | .beq a b => by simp [Sb.prop, Sb.den]
  | .rng kd a => by simp [Sb.prop, Sb.den]
  | .idx a n => by simp [Sb.prop, Sb.den]
  | .isp i => Iff.rfl

theorem ofLeaf_den (ρ : Nat → Nat) (e : Env) (v : Value) : (ofLeaf v).den ρ e = v := by
  cases v <;> rfl
theorem ofLeafs_den (ρ : Nat → Nat) (e : Env) (l : List Value) : SV.dens ρ e (l.map ofLeaf) = l := by
  induction l with
  | nil => rfl
  | cons a l ih => simp only [List.map_cons, SV.dens, ofLeaf_den, ih]
theorem ofVal_den (ρ : Nat → Nat) (e : Env) (v : Value) : (ofVal v).den ρ e = v := by
  cases v <;> first | rfl | simp [ofVal, SV.den, ofLeafs_den]

section
variable {W0 : World} {M : Nat → Prop} {S : St} {ρ : Nat → Nat} {e : Env} {X : List (Nat × Obj)} {H : Hp} {a : Act} {W : World}

theorem ev_ok (hr : TmRel ρ e S.tm a) {x : Operand} {v : SV} (h : ev S x = some v) : a.eval x = v.den ρ e := by
  cases x with
  | tmp t =>
    simp only [ev] at h
    have ht : S.tm[t]? = some (some v) := by
      cases hh : S.tm[t]? with
      | none => rw [hh] at h; cases h
      | some q => rw [hh] at h; simp only [Option.join_some] at h; rw [h]
    have := hr.2 t v ht
    simp only [Act.eval, Array.getD_eq_getD_getElem?, this, Option.getD_some]
  | const c =>
    simp only [ev, Option.some.injEq] at h
    subst h
    simp only [Act.eval, ofVal_den]
  | global g => simp only [ev] at h; cases h
  | func f =>
    simp only [ev, Option.some.injEq] at h
    subst h
    rfl
theorem evs_ok (hr : TmRel ρ e S.tm a) : ∀ {l : List Operand} {vs : List SV}, evs S l = some vs → l.map a.eval = SV.dens ρ e vs
  | [], vs, h => by simp only [evs, Option.some.injEq] at h; subst h; rfl
  | x :: r, vs, h => by
    simp only [evs] at h
    cases hx : ev S x with
    | none => simp [hx] at h
    | some v =>
      cases hs : evs S r with
      | none => simp [hx, hs] at h
      | some ws =>
        simp only [hx, hs, Option.some.injEq] at h
        subst h
        simp only [List.map_cons, SV.dens, ev_ok hr hx, evs_ok hr hs]
theorem evPs_ok (hr : TmRel ρ e S.tm a) : ∀ {l : List (Nat × Operand)} {vs : List (Nat × SV)}, evPs S l = some vs → l.map (fun p => (p.1, a.eval p.2)) = vs.map fun p => (p.1, p.2.den ρ e)
  | [], vs, h => by simp only [evPs, Option.some.injEq] at h; subst h; rfl
  | (i, x) :: r, vs, h => by
    simp only [evPs] at h
    cases hx : ev S x with
    | none => simp [hx] at h
    | some v =>
      cases hs : evPs S r with
      | none => simp [hx, hs] at h
      | some ws =>
        simp only [hx, hs, Option.some.injEq] at h
        subst h
        simp only [List.map_cons, ev_ok hr hx, evPs_ok hr hs]

theorem lit_ok {c : Sb} {b : Bool} (h : c.lit = some b) : c.den e = b := by
  unfold Sb.lit at h
  split at h <;> simp only [Option.some.injEq, reduceCtorEq] at h <;> subst h <;> rfl
theorem eqNum_ok {c : Sb} {b : Bool} {x : Sx} {i : Int} (h : eqNum c b = some (x, i)) (hc : c.den e = b) : x.den e = i := by
  unfold eqNum at h
  split at h
  · simp only [Option.some.injEq, Prod.mk.injEq] at h
    obtain ⟨rfl, rfl⟩ := h
    exact of_decide_eq_true hc
  · cases h
theorem eqNum_true {c : Sb} {x : Sx} {i : Int} (h : eqNum c true = some (x, i)) : c = .eq x (.k i) := by
  unfold eqNum at h
  split at h
  · simp only [Option.some.injEq, Prod.mk.injEq] at h
    obtain ⟨rfl, rfl⟩ := h
    rfl
  · cases h
theorem look_ok : ∀ {pc : List (Sb × Bool)}, (∀ p ∈ pc, p.1.den e = p.2) → ∀ {c : Sb} {b : Bool}, look pc c = some b → c.den e = b
  | [], _, c, b, h => by simp [look] at h
  | p :: r, hp, c, b, h => by
    have hr : ∀ p ∈ r, p.1.den e = p.2 := fun p hp' => hp p (List.mem_cons_of_mem _ hp')
    have hd : p.1.den e = p.2 := hp p (List.mem_cons_self ..)
    simp only [look] at h
    split at h
    · rename_i hdc
      simp only [Option.some.injEq] at h
      subst hdc; subst h; exact hd
    · split at h
      · rename_i x i y j h1 h2
        split at h
        · rename_i hxy
          subst hxy
          simp only [Option.some.injEq] at h
          subst h
          have := eqNum_ok h1 hd
          rw [eqNum_true h2]
          simp only [Sb.den, Sx.den, this]
        · exact look_ok hr h
      · exact look_ok hr h
theorem dec_ok {pc : List (Sb × Bool)} (hp : ∀ p ∈ pc, p.1.den e = p.2) : ∀ {c : Sb} {b : Bool}, dec pc c = some b → c.den e = b
  | .not a, b, h => by
    simp only [dec, Option.map_eq_some_iff] at h
    obtain ⟨b', h', rfl⟩ := h
    simp only [Sb.den, dec_ok hp h']
  | .k _, b, h | .v _, b, h | .lt _ _, b, h | .le _ _, b, h | .eq _ _, b, h | .beq _ _, b, h | .rng _ _, b, h | .idx _ _, b, h | .isp _, b, h => by
    simp only [dec] at h
    split at h
    · rename_i hl
      simp only [Option.some.injEq] at h
      subst h; exact lit_ok hl
    · exact look_ok hp h
theorem numL_ok : ∀ {pc : List (Sb × Bool)}, (∀ p ∈ pc, p.1.den e = p.2) → ∀ {x : Sx} {n : Int}, numL pc x = some n → x.den e = n
  | [], _, x, n, h => by simp [numL] at h
  | p :: r, hp, x, n, h => by
    have hr : ∀ p ∈ r, p.1.den e = p.2 := fun q hq => hp q (List.mem_cons_of_mem _ hq)
    have hd := hp p (List.mem_cons_self ..)
    simp only [numL] at h
    split at h
    · rename_i y i hy
      split at h
      · rename_i hxy
        subst hxy
        simp only [Option.some.injEq] at h
        subst h
        exact eqNum_ok hy hd
      · exact numL_ok hr h
    · exact numL_ok hr h
theorem num_ok {pc : List (Sb × Bool)} (hp : ∀ p ∈ pc, p.1.den e = p.2) {x : Sx} {n : Int} (h : num pc x = some n) : x.den e = n := by
  unfold num at h
  split at h
  · simp only [Option.some.injEq] at h; subst h; rfl
  · exact numL_ok hp h
theorem idxOf_ok (hr : RelT S ρ e a) {v : SV} {x : Sx} (h : idxOf S v = some x) : ∃ k, v.den ρ e = .int k (x.den e) := by
  unfold idxOf at h
  split at h
  · rename_i k b
    split at h
    · rename_i n hn
      simp only [Option.some.injEq] at h
      subst h
      exact ⟨k, by simp only [SV.den, num_ok hr.pc hn, Sx.den]⟩
    · simp only [Option.some.injEq] at h
      subst h
      exact ⟨k, rfl⟩
  · cases h
end
end Go.Proofs.Ytcnkljeniffmmaa
