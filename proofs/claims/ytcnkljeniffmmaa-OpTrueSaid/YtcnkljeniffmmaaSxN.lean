/- A symbolic run of a function's code: a whole function. Over any program; no program in sight. -/
import Derived.Test.YtcnkljeniffmmaaSxM
import Derived.LoopN
namespace Go.Proofs.Ytcnkljeniffmmaa
open Go.RowKit

theorem headTms_rel {ρ : Nat → Nat} {e : Env} {a : Act} : ∀ (ts : List Nat) (vs : List SV) (tm : List (Option SV)), TmRel ρ e tm a → (∀ (i t : Nat) (v : SV), ts[i]? = some t → vs[i]? = some v → a.tmps[t]? = some (v.den ρ e)) → TmRel ρ e (headTms tm ts vs) a
  | [], _, tm, h, _ => by simpa [headTms] using h
  | t :: ts, [], tm, h, _ => by simpa [headTms] using h
  | t :: ts, v :: vs, tm, h, hv => by
    rw [headTms]
    refine headTms_rel ts vs _ ⟨by simp [h.1], fun t' v' ht => ?_⟩ (fun i t' v' h1 h2 => hv (i + 1) t' v' (by simpa using h1) (by simpa using h2))
    rw [List.getElem?_set] at ht
    split at ht
    · rename_i hh
      subst hh
      split at ht
      · simp only [Option.some.injEq] at ht
        subst ht
        exact hv 0 _ _ rfl rfl
      · cases ht
    · exact h.2 t' v' ht
theorem headTms_keep : ∀ (ts : List Nat) (vs : List SV) (tm : List (Option SV)) {t : Nat} {v : SV}, (headTms tm ts vs)[t]? = some (some v) → (∃ i : Nat, ts[i]? = some t ∧ vs[i]? = some v) ∨ tm[t]? = some (some v)
  | [], _, tm, t, v, h => .inr (by simpa [headTms] using h)
  | t0 :: ts, [], tm, t, v, h => .inr (by simpa [headTms] using h)
  | t0 :: ts, v0 :: vs, tm, t, v, h => by
    rw [headTms] at h
    rcases headTms_keep ts vs _ h with ⟨i, h1, h2⟩ | h1
    · exact .inl ⟨i + 1, by simpa using h1, by simpa using h2⟩
    · rw [List.getElem?_set] at h1
      split at h1
      · rename_i hh
        split at h1
        · simp only [Option.some.injEq] at h1
          exact .inl ⟨0, by simp [hh], by simp [h1]⟩
        · cases h1
      · exact .inr h1
theorem headTms_len : ∀ (ts : List Nat) (vs : List SV) (tm : List (Option SV)), (headTms tm ts vs).length = tm.length
  | [], _, tm => by simp [headTms]
  | t :: ts, [], tm => by simp [headTms]
  | t :: ts, v :: vs, tm => by rw [headTms, headTms_len]; simp
theorem getTms_get {S : St} : ∀ {ts : List Nat} {vs : List SV}, getTms S ts = some vs → ts.length = vs.length ∧ ∀ {i t : Nat} {v : SV}, ts[i]? = some t → vs[i]? = some v → S.tm[t]? = some (some v)
  | [], vs, h => by
    simp only [getTms, Option.some.injEq] at h
    subst h
    exact ⟨rfl, fun h => by simp at h⟩
  | t0 :: ts, vs, h => by
    simp only [getTms] at h
    split at h
    · rename_i v ws hv hw
      simp only [Option.some.injEq] at h
      subst h
      obtain ⟨h1, h2⟩ := getTms_get hw
      refine ⟨by simp [h1], fun {i t v'} ht hv' => ?_⟩
      cases i with
      | zero =>
        simp only [List.getElem?_cons_zero, Option.some.injEq] at ht hv'
        subst ht; subst hv'
        cases hh : S.tm[t0]? with
        | none => rw [hh] at hv; cases hv
        | some q => rw [hh] at hv; simp only [Option.join_some] at hv; rw [hv]
      | succ i => exact h2 (by simpa using ht) (by simpa using hv')
    · cases h
theorem headBlks_len : ∀ (bl : List (Nat × List Pq)) (vs : List SV) (h : List (Option SObj)), (headBlks h bl vs).length = h.length
  | [], _, h => by simp [headBlks]
  | (k, q) :: r, vs, h => by
    rw [headBlks, headBlks_len]
    split <;> simp
theorem headBlks_cases : ∀ {bl : List (Nat × List Pq)} {h : List (Option SObj)} {vs : List SV} {k : Nat} {o' : SObj}, (headBlks h bl vs)[k]? = some (some o') → ∃ o, h[k]? = some (some o) ∧ o'.ty = o.ty ∧
    ((o' = o ∧ k ∉ bl.map (·.1)) ∨ ∃ pre q post, bl = pre ++ (k, q) :: post ∧ o'.cs = (vs.drop ((pre.map fun p => p.2.length).sum)).take q.length)
  | [], h, vs, k, o', ho => ⟨o', by simpa [headBlks] using ho, rfl, .inl ⟨rfl, by simp⟩⟩
  | (k0, q0) :: r, h, vs, k, o', ho => by
    rw [headBlks] at ho
    obtain ⟨o, h1, h2, h3⟩ := headBlks_cases ho
    rcases h3 with ⟨rfl, h3⟩ | ⟨pre, q, post, rfl, h3⟩
    · by_cases hk : k0 = k
      · subst hk
        split at h1
        · rename_i o0 ho0
          have hh : h[k0]? = some (some o0) := by
            cases hx : h[k0]? with
            | none => rw [hx] at ho0; cases ho0
            | some x => rw [hx] at ho0; simp only [Option.join_some] at ho0; rw [ho0]
          rw [List.getElem?_set, if_pos rfl, if_pos (lt_len hh)] at h1
          simp only [Option.some.injEq] at h1
          subst h1
          exact ⟨o0, hh, rfl, .inr ⟨[], q0, r, rfl, by simp⟩⟩
        · rename_i hn
          rw [h1] at hn
          simp at hn
      · have hh : h[k]? = some (some o') := by
          split at h1
          · rwa [List.getElem?_set, if_neg hk] at h1
          · exact h1
        exact ⟨o', hh, rfl, .inl ⟨rfl, by simp only [List.map_cons, List.mem_cons, not_or]; exact ⟨fun h => hk h.symm, h3⟩⟩⟩
    · have hh : ∃ o2, h[k]? = some (some o2) ∧ o2.ty = o.ty := by
        split at h1
        · rename_i o0 ho0
          rw [List.getElem?_set] at h1
          split at h1
          · rename_i hk
            subst hk
            split at h1
            · simp only [Option.some.injEq] at h1
              subst h1
              refine ⟨o0, ?_, rfl⟩
              cases hx : h[k0]? with
              | none => rw [hx] at ho0; cases ho0
              | some x => rw [hx] at ho0; simp only [Option.join_some] at ho0; rw [ho0]
            · cases h1
          · exact ⟨o, h1, rfl⟩
        · exact ⟨o, h1, rfl⟩
      obtain ⟨o2, hh, ht⟩ := hh
      refine ⟨o2, hh, h2.trans ht.symm, .inr ⟨(k0, q0) :: pre, q, post, rfl, ?_⟩⟩
      rw [h3, List.drop_drop]
      simp
theorem getBlks_get {S : St} : ∀ {bl : List (Nat × List Pq)} {vs : List SV}, getBlks S bl = some vs → ∀ (pre : List (Nat × List Pq)) (k : Nat) (q : List Pq) (post : List (Nat × List Pq)), bl = pre ++ (k, q) :: post → ∀ o, S.h[k]? = some (some o) → o.cs = (vs.drop ((pre.map fun p => p.2.length).sum)).take q.length
  | [], vs, h, pre, k, q, post, hp, o, ho => by simp at hp
  | (k0, q0) :: r, vs, h, pre, k, q, post, hp, o, ho => by
    simp only [getBlks] at h
    split at h
    · rename_i o0 l ho0 hl
      split at h
      · rename_i hlen
        simp only [Option.some.injEq] at h
        subst h
        cases pre with
        | nil =>
          simp only [List.nil_append, List.cons.injEq, Prod.mk.injEq] at hp
          obtain ⟨⟨rfl, rfl⟩, rfl⟩ := hp
          rw [ho] at ho0
          simp only [Option.join_some, Option.some.injEq] at ho0
          subst ho0
          simp [← hlen]
        | cons p pre =>
          simp only [List.cons_append, List.cons.injEq] at hp
          obtain ⟨rfl, hp⟩ := hp
          have := getBlks_get hl pre k q post hp o ho
          rw [this]
          simp only [List.map_cons, List.sum_cons]
          rw [← hlen, ← List.drop_drop, List.drop_left]
      · cases h
    · cases h

section
variable {P : Program} {W0 : World} {M : Nat → Prop} {R : Ending → World → Prop} {hi : Hints}
/-- at the loop's head -/
theorem mkHead {S S2 : St} {ρ ρ2 : Nat → Nat} {e e2 : Env} {H2 : Hp} {a2 : Act} {W2 : World} {ts wr : List Nat} {bl : List (Nat × List Pq)} {pq : List Pq} {n dp : Nat} {tv bv : List SV} {vals : List SD}
    (hf : S.fits = true) (hpc : ∀ p ∈ S.pc, p.1.den e = p.2) (hr : Rel W0 M S2 ρ2 e2 [] H2 a2 W2) (htv : getTms S2 ts = some tv) (hbv : getBlks S2 bl = some bv) (hn : n = ts.length)
    (hsd : sdsOf pq (tv ++ bv) = some vals) (hnat : ∀ c ∈ natsL pq (tv ++ bv), c.den e2 = true) (he : ∀ i, i < S.nv → e2 i = e i) (hk : ∀ k, k < S.h.length → ρ2 k = ρ k)
    (hlen : S.tm.length = S2.tm.length) (hts : ∀ (t : Nat) (v : SV), (forget S.tm (wr ++ ts))[t]? = some (some v) → ∃ w, S2.tm[t]? = some (some w) ∧ ∀ ρ e, v.den ρ e = w.den ρ e)
    (hos : ∀ (k : Nat) (o : SObj), S.h[k]? = some (some o) → ∃ w, S2.h[k]? = some (some w) ∧ o.ty = w.ty ∧ (k ∈ bl.map (·.1) ∨ ∀ ρ e, SV.dens ρ e o.cs = SV.dens ρ e w.cs)) :
    ∃ e', UpdRel e (mkQ S.nv pq).2.1 e' ∧ Rel W0 M { S with tm := headTms (forget S.tm (wr ++ ts)) ts ((mkQ S.nv pq).1.take n), h := headBlks S.h bl ((mkQ S.nv pq).1.drop n), nv := (mkQ S.nv pq).2.2.2, dp := dp } ρ e' [] H2 a2 W2 ∧
      (mkQ S.nv pq).2.2.1.map (SD.den ρ e') = vals.map (SD.den ρ2 e2) := by
  obtain ⟨e', h1, h2, h3⟩ := head_in ρ2 e2 ρ pq (tv ++ bv) vals S.nv e hsd hnat
  have hold := h1.old (mkQ_fits pq S.nv S.nv (Nat.le_refl _))
  have hee : ∀ i, i < S.nv → e' i = e2 i := fun i hi => (hold i hi).trans (he i hi).symm
  have hkk : ∀ k, k < S.h.length → ρ k = ρ2 k := fun k h => (hk k h).symm
  obtain ⟨l1, l2⟩ := getTms_get htv
  simp only [St.fits, Bool.and_eq_true] at hf
  obtain ⟨⟨f1, f2⟩, f3⟩ := hf
  have htl : (tv ++ bv).take n = tv := by rw [hn, l1]; simp
  have hbl : (tv ++ bv).drop n = bv := by rw [hn, l1]; simp
  have htake : SV.dens ρ e' ((mkQ S.nv pq).1.take n) = SV.dens ρ2 e2 tv := by rw [dens_take, h3, ← dens_take, htl]
  have hdrop : SV.dens ρ e' ((mkQ S.nv pq).1.drop n) = SV.dens ρ2 e2 bv := by rw [dens_drop, h3, ← dens_drop, hbl]
  have hh : ∀ {k : Nat} {o' : SObj}, (headBlks S.h bl ((mkQ S.nv pq).1.drop n))[k]? = some (some o') → ∃ w, S2.h[k]? = some (some w) ∧ k < S.h.length ∧ o'.den ρ e' = w.den ρ2 e2 := fun {k o'} ho => by
    obtain ⟨o, c1, c2, c3⟩ := headBlks_cases ho
    obtain ⟨w, w1, w2, w3⟩ := hos k o c1
    refine ⟨w, w1, lt_len c1, ?_⟩
    have hcs : SV.dens ρ e' o'.cs = SV.dens ρ2 e2 w.cs := by
      rcases c3 with ⟨rfl, hnb⟩ | ⟨pre, q, post, hp, c3⟩
      · have h4 := w3.resolve_left hnb
        rw [SV.dens_congr hee hkk _ (hFits_get f2 c1)]
        exact h4 ρ2 e2
      · rw [c3, dens_take, dens_drop, hdrop, ← dens_drop, ← dens_take, getBlks_get hbv pre k q post hp w w1]
    simp only [SObj.den, hcs, c2, w2]
  refine ⟨e', h1, ⟨?_, hr.df, ⟨fun k o ho => ?_, fun k j o o' ho ho' hj => ?_, fun k o ho => ?_, fun k o ho => ?_, hr.mem.sub, hr.mem.mod, fun p hp => by simp at hp, fun p hp => by simp at hp, fun p hp => by simp at hp, fun p hp => by simp at hp⟩, fun p hp => ?_⟩, h2⟩
  · refine headTms_rel _ _ _ ⟨by rw [forget_get.1, hlen]; exact hr.tm.1, fun t v ht => ?_⟩ (fun i t v hi hv => ?_)
    · obtain ⟨w, w1, w2⟩ := hts t v ht
      rw [SV.den_congr hee hkk v (tmFits_get f1 (forget_get.2 ht).1), w2 ρ2 e2]
      exact hr.tm.2 t w w1
    · have hlt : i < tv.length := by
        have := (List.getElem?_eq_some_iff.1 hi).1
        omega
      have hvw : v.den ρ e' = (tv[i]).den ρ2 e2 := by
        have := congrArg (fun l => l[i]?) htake
        simp only [dens_get, hv, Option.map_some, List.getElem?_eq_getElem hlt, Option.some.injEq] at this
        exact this
      rw [hvw]
      exact hr.tm.2 t _ (l2 hi (List.getElem?_eq_getElem hlt))
  · obtain ⟨w, w1, w2, w3⟩ := hh ho
    rw [hkk k w2, w3]
    exact hr.mem.kn k w w1
  · obtain ⟨w, w1, w2, w3⟩ := hh ho
    obtain ⟨u, u1, u2, u3⟩ := hh ho'
    rw [hkk k w2, hkk j u2] at hj
    exact hr.mem.inj _ _ _ _ w1 u1 hj
  · obtain ⟨w, w1, w2, w3⟩ := hh ho
    rw [hkk k w2]; exact hr.mem.old _ _ w1
  · obtain ⟨w, w1, w2, w3⟩ := hh ho
    rw [hkk k w2]; exact hr.mem.dis _ _ w1
  · rw [Sb.den_congr hold p.1 (pcFits_get f3 p hp)]
    exact hpc p hp
end
end Go.Proofs.Ytcnkljeniffmmaa
