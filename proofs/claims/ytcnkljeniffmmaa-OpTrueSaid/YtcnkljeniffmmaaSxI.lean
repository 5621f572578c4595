/- A symbolic run of a function's code: names and blocks that are new. Over any program; no program in sight. -/
import Derived.Test.YtcnkljeniffmmaaSxH
namespace Go.Proofs.Ytcnkljeniffmmaa
open Go.RowKit

theorem Sx.den_congr {n : Nat} {e e' : Env} (h : ∀ i, i < n → e' i = e i) : ∀ x : Sx, x.lt n = true → x.den e' = x.den e
  | .k _, _ => rfl
  | .v i, hx => by simp only [Sx.lt, decide_eq_true_eq] at hx; simp only [Sx.den, h i hx]
  | .slen i, hx => by simp only [Sx.lt, decide_eq_true_eq] at hx; simp only [Sx.den, h i hx]
  | .add a b, hx | .sub a b, hx | .mul a b, hx | .mn a b, hx | .mx a b, hx | .skip a b _, hx => by
    simp only [Sx.lt, Bool.and_eq_true] at hx
    simp only [Sx.den, Sx.den_congr h a hx.1, Sx.den_congr h b hx.2]
  | .wrap _ a, hx => by
    simp only [Sx.lt] at hx
    simp only [Sx.den, Sx.den_congr h a hx]
theorem Sb.den_congr {n : Nat} {e e' : Env} (h : ∀ i, i < n → e' i = e i) : ∀ x : Sb, x.fits n = true → x.den e' = x.den e
  | .k _, _ => rfl
  | .v i, hx => by simp only [Sb.fits, decide_eq_true_eq] at hx; simp only [Sb.den, h i hx]
  | .isp i, hx => by simp only [Sb.fits, decide_eq_true_eq] at hx; simp only [Sb.den, h i hx]
  | .lt a b, hx | .le a b, hx | .eq a b, hx | .idx a b, hx => by
    simp only [Sb.fits, Bool.and_eq_true] at hx
    simp only [Sb.den, Sx.den_congr h a hx.1, Sx.den_congr h b hx.2]
  | .not a, hx => by
    simp only [Sb.fits] at hx
    simp only [Sb.den, Sb.den_congr h a hx]
  | .beq a b, hx => by
    simp only [Sb.fits, Bool.and_eq_true] at hx
    simp only [Sb.den, Sb.den_congr h a hx.1, Sb.den_congr h b hx.2]
  | .rng _ a, hx => by
    simp only [Sb.fits] at hx
    simp only [Sb.den, Sx.den_congr h a hx]
mutual
theorem SV.den_congr {n m : Nat} {e e' : Env} {ρ ρ' : Nat → Nat} (h : ∀ i, i < n → e' i = e i) (hk : ∀ k, k < m → ρ' k = ρ k) : ∀ v : SV, v.lt n m = true → v.den ρ' e' = v.den ρ e
  | .undef, _ => rfl
  | .c _, _ => rfl
  | .int _ x, hx => by simp only [SV.lt] at hx; simp only [SV.den, Sx.den_congr h x hx]
  | .bool x, hx => by simp only [SV.lt] at hx; simp only [SV.den, Sb.den_congr h x hx]
  | .str i, hx => by simp only [SV.lt, decide_eq_true_eq] at hx; simp only [SV.den, h i hx]
  | .o i, hx => by simp only [SV.lt, decide_eq_true_eq] at hx; simp only [SV.den, h i hx]
  | .ptrK k _, hx => by simp only [SV.lt, decide_eq_true_eq] at hx; simp only [SV.den, hk k hx]
  | .slK k _ _ _, hx => by simp only [SV.lt, decide_eq_true_eq] at hx; simp only [SV.den, hk k hx]
  | .ptrO i off, hx => by
    simp only [SV.lt, Bool.and_eq_true, decide_eq_true_eq] at hx
    simp only [SV.den, h i hx.1, Sx.den_congr h off hx.2]
  | .slO i off len cap, hx => by
    simp only [SV.lt, Bool.and_eq_true, decide_eq_true_eq] at hx
    simp only [SV.den, h i hx.1.1.1, Sx.den_congr h off hx.1.1.2, Sx.den_congr h len hx.1.2, Sx.den_congr h cap hx.2]
  | .agg cs, hx => by simp only [SV.lt] at hx; simp only [SV.den, SV.dens_congr h hk cs hx]
  | .tup cs, hx => by simp only [SV.lt] at hx; simp only [SV.den, SV.dens_congr h hk cs hx]
  | .func _ a b, hx => by
    simp only [SV.lt, Bool.and_eq_true] at hx
    simp only [SV.den, SV.dens_congr h hk a hx.1, SV.dens_congr h hk b hx.2]
theorem SV.dens_congr {n m : Nat} {e e' : Env} {ρ ρ' : Nat → Nat} (h : ∀ i, i < n → e' i = e i) (hk : ∀ k, k < m → ρ' k = ρ k) : ∀ l : List SV, SV.lts n m l = true → SV.dens ρ' e' l = SV.dens ρ e l
  | [], _ => rfl
  | v :: r, hx => by
    simp only [SV.lts, Bool.and_eq_true] at hx
    simp only [SV.dens, SV.den_congr h hk v hx.1, SV.dens_congr h hk r hx.2]
end
theorem tmFits_get {n m : Nat} : ∀ {tm : List (Option SV)}, tmFits n m tm = true → ∀ {t : Nat} {v : SV}, tm[t]? = some (some v) → v.lt n m = true
  | [], _, t, v, h => by simp at h
  | none :: r, hf, t, v, h => by
    simp only [tmFits] at hf
    cases t with
    | zero => simp at h
    | succ t => exact tmFits_get hf (by simpa using h)
  | some u :: r, hf, t, v, h => by
    simp only [tmFits, Bool.and_eq_true] at hf
    cases t with
    | zero => simp at h; rw [← h]; exact hf.1
    | succ t => exact tmFits_get hf.2 (by simpa using h)
theorem hFits_get {n m : Nat} : ∀ {h : List (Option SObj)}, hFits n m h = true → ∀ {t : Nat} {o : SObj}, h[t]? = some (some o) → SV.lts n m o.cs = true
  | [], _, t, v, h => by simp at h
  | none :: r, hf, t, v, h => by
    simp only [hFits] at hf
    cases t with
    | zero => simp at h
    | succ t => exact hFits_get hf (by simpa using h)
  | some u :: r, hf, t, v, h => by
    simp only [hFits, Bool.and_eq_true] at hf
    cases t with
    | zero => simp at h; rw [← h]; exact hf.1
    | succ t => exact hFits_get hf.2 (by simpa using h)
theorem pcFits_get {n : Nat} : ∀ {pc : List (Sb × Bool)}, pcFits n pc = true → ∀ p ∈ pc, p.1.fits n = true
  | [], _, p, h => by simp at h
  | q :: r, hf, p, h => by
    simp only [pcFits, Bool.and_eq_true] at hf
    rcases List.mem_cons.1 h with rfl | h
    · exact hf.1
    · exact pcFits_get hf.2 p h

section
variable {W0 : World} {M : Nat → Prop} {S : St} {ρ ρ' : Nat → Nat} {e e' : Env} {X : List (Nat × Obj)} {H : Hp} {a : Act} {W : World}
theorem obj_congr {n m : Nat} (h : ∀ i, i < n → e' i = e i) (hk : ∀ k, k < m → ρ' k = ρ k) {o : SObj} (hx : SV.lts n m o.cs = true) : o.den ρ' e' = o.den ρ e := by
  simp only [SObj.den, SV.dens_congr h hk _ hx]
theorem lt_len {h : List (Option SObj)} {k : Nat} {o : SObj} (hk : h[k]? = some (some o)) : k < h.length := by
  rcases Nat.lt_or_ge k h.length with hh | hh
  · exact hh
  · rw [List.getElem?_eq_none hh] at hk; cases hk
/-- what is known stays known under new names -/
theorem Rel.congr (hr : Rel W0 M S ρ e X H a W) (hf : S.fits = true) (h : ∀ i, i < S.nv → e' i = e i) (hk : ∀ k, k < S.h.length → ρ' k = ρ k) : Rel W0 M S ρ' e' X H a W := by
  simp only [St.fits, Bool.and_eq_true] at hf
  obtain ⟨⟨f1, f2⟩, f3⟩ := hf
  refine ⟨⟨hr.tm.1, fun t v ht => ?_⟩, hr.df, ⟨fun k o ho => ?_, fun k j o o' ho ho' he => ?_, fun k o ho => ?_, fun k o ho => ?_, hr.mem.sub, hr.mem.mod, hr.mem.xk, hr.mem.xo, hr.mem.xd, fun p hp k o ho => ?_⟩, fun p hp => ?_⟩
  · rw [SV.den_congr h hk v (tmFits_get f1 ht)]; exact hr.tm.2 t v ht
  · rw [hk k (lt_len ho), obj_congr h hk (hFits_get f2 ho)]; exact hr.mem.kn k o ho
  · rw [hk k (lt_len ho), hk j (lt_len ho')] at he; exact hr.mem.inj k j o o' ho ho' he
  · rw [hk k (lt_len ho)]; exact hr.mem.old k o ho
  · rw [hk k (lt_len ho)]; exact hr.mem.dis k o ho
  · rw [hk k (lt_len ho)]; exact hr.mem.xr p hp k o ho
  · rw [Sb.den_congr h p.1 (pcFits_get f3 p hp)]; exact hr.pc p hp

/-- e' comes of e by new names -/
inductive UpdRel : Env → List (Nat × Pk) → Env → Prop where
  | nil (e : Env) : UpdRel e [] e
  | cons (e e' : Env) (i : Nat) (k : Pk) (d : Dat) (r : List (Nat × Pk)) (hk : (match k, d with
      | .i, .i _ | .n, .n _ | .b, .b _ | .p, .p _ | .s, .s _ | .v, .v _ => True
      | _, _ => False)) (h : UpdRel (upd e i d) r e') : UpdRel e ((i, k) :: r) e'
theorem exL_out : ∀ {fr : List (Nat × Pk)} {e : Env} {K : Env → Prop}, exL e K fr → ∃ e', UpdRel e fr e' ∧ K e'
  | [], e, K, h => ⟨e, .nil e, h⟩
  | (i, .i) :: r, e, K, h | (i, .n) :: r, e, K, h | (i, .b) :: r, e, K, h | (i, .p) :: r, e, K, h | (i, .s) :: r, e, K, h | (i, .v) :: r, e, K, h => by
    obtain ⟨x, hx⟩ := h
    obtain ⟨e', hu, hk⟩ := exL_out hx
    exact ⟨e', .cons _ _ _ _ _ _ trivial hu, hk⟩
theorem allL_out {fr : List (Nat × Pk)} {e e' : Env} (hu : UpdRel e fr e') : ∀ {K : Env → Prop}, allL e K fr → K e' := by
  induction hu with
  | nil e => exact fun h => h
  | cons e e' i k d r hk h ih =>
    intro K hh
    cases k <;> cases d <;> first | exact hk.elim | exact ih (hh _)
theorem UpdRel.old {n : Nat} {fr : List (Nat × Pk)} {e e' : Env} (hu : UpdRel e fr e') : frFits n fr = true → ∀ i, i < n → e' i = e i := by
  induction hu with
  | nil e => exact fun _ _ _ => rfl
  | cons e e' j k d r hk h ih =>
    intro hf i hi
    simp only [frFits, Bool.and_eq_true, decide_eq_true_eq] at hf
    rw [ih hf.2 i hi]
    unfold upd
    rw [if_neg (by omega)]
theorem UpdRel.app {fr fr2 : List (Nat × Pk)} {e e' : Env} (hu : UpdRel e (fr ++ fr2) e') : ∃ e1, UpdRel e fr e1 ∧ UpdRel e1 fr2 e' := by
  induction fr generalizing e with
  | nil => exact ⟨e, .nil e, hu⟩
  | cons p r ih =>
    cases hu with
    | cons _ _ i k d _ hk h =>
      obtain ⟨e1, h1, h2⟩ := ih h
      exact ⟨e1, .cons _ _ _ _ _ _ hk h1, h2⟩
theorem frFits_app {n : Nat} : ∀ {fr fr2 : List (Nat × Pk)}, frFits n fr = true → frFits n fr2 = true → frFits n (fr ++ fr2) = true
  | [], _, _, h => h
  | p :: r, fr2, h, h2 => by
    simp only [frFits, Bool.and_eq_true, List.cons_append] at h ⊢
    exact ⟨h.1, frFits_app h.2 h2⟩
end
end Go.Proofs.Ytcnkljeniffmmaa
