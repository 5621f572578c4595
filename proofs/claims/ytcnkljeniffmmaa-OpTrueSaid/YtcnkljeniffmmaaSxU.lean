/- A symbolic run of a function's code: drawn regions: whatever order is drawn. Over any program; no program in sight. -/
import Derived.Test.YtcnkljeniffmmaaSxT
namespace Go.Proofs.Ytcnkljeniffmmaa
open Go.RowKit

section
variable {P : Program} {W0 : World} {M : Nat → Prop} {R : Ending → World → Prop} {hi : Hints} {L : List (List Dat → Hp → Prop)} {B : Base} {dp : Nat} {ops : Array Oper} {bef : List Nat} {fuel : Nat} {listed : Array Bool} {r : List (Oper × Nat)} {S S' : St} {D : List Pd} {Xi : List Ah} {a : Act} {W : World} {ρ ρ' : Nat → Nat} {e e' : Env} {H H' : Hp} {o : Oper} {ix rid : Nat} {Q : Exit → Act → World → Prop}

theorem down_set (h : Inv P W0 M B dp ops fuel listed r S D Xi a W ρ e H) {i : Nat} {oi : Oper} (ho : ops[i]? = some oi) (hp : ∀ q ∈ directPreds oi, listed[q]? = some true) :
    ∀ (j : Nat) (o : Oper), (listed.setIfInBounds i true)[j]? = some true → ops[j]? = some o → ∀ q ∈ directPreds o, (listed.setIfInBounds i true)[q]? = some true := by
  intro j o hj hoj q hq
  rw [set_listed (h.lt ho)] at hj ⊢
  split
  · rfl
  · split at hj
    · rename_i hij
      subst hij
      rw [ho] at hoj
      simp only [Option.some.injEq] at hoj
      subst hoj
      exact hp q hq
    · exact h.down j o hj hoj q hq
theorem un_set {i : Nat} (hi : i < listed.size) (j : Nat) : (listed.setIfInBounds i true)[j]? = some false ↔ j ≠ i ∧ listed[j]? = some false := by
  rw [set_listed hi]
  split
  · rename_i hij
    simp [hij]
  · rename_i hij
    exact ⟨fun hh => ⟨fun h => hij h.symm, hh⟩, fun hh => hh.2⟩
theorem aprt_of {listed : Array Bool} {d : Pd} {o : Oper} (hd : listed[d.ix]? = some false) (hp : ∀ q ∈ directPreds o, listed[q]? = some true) (h : d.ix ∈ directPreds o ∨ Oper.apart ops d.o o = true) : Oper.apart ops d.o o = true := by
  rcases h with h | h
  · rw [hp _ h] at hd; cases hd
  · exact h

theorem gets_congr {f g : Operand → Value} {post : Value → World → Prop} (he : execOp f o = execOp g o) (h : Gets P f o W post) : Gets P g o W post := by
  unfold Gets at *
  rw [← he]
  exact h
/-- what was put off is done -/
theorem exec_d (hf : Fine ops bef) (h : Inv P W0 M B dp ops (fuel + 1) listed r S D Xi a W ρ e H) {d : Pd} (hd : d ∈ D) (hp : ∀ q ∈ directPreds d.o, listed[q]? = some true) {next : Act → World → Prop}
    (hn : ∀ D' a', Inv P W0 M B dp ops fuel (listed.setIfInBounds d.ix true) r S D' Xi a' W ρ e H → next a' W) : wpOp P ops Q d.ix next a W := by
  have ho := h.dops d hd
  have hlt := h.lt ho
  obtain ⟨D1, D2, rfl⟩ := List.append_of_mem hd
  have hapd := h.apd
  rw [List.pairwise_append, List.pairwise_cons] at hapd
  have hin2 : ∀ d2 ∈ D2, d2 ∈ D1 ++ d :: D2 := fun d2 h2 => List.mem_append_right _ (List.mem_cons_of_mem _ h2)
  have hap : ∀ d2 ∈ D2, (∀ t, d2.o.dst = some t → t ∉ d.o.looksAt ops) ∧ (∀ t, d2.o.dst = some t → d.o.dst ≠ some t) ∧ (∀ t, d.o.dst = some t → t ∉ d2.o.looksAt ops) := fun d2 h2 =>
    Oper.apart_spec (aprt_of (h.du (hin2 d2 h2)) hp (hapd.2.1.1 d2 h2))
  have hsel : ∀ d' ∈ D1 ++ d :: D2, ∀ cs b, d'.o.op ≠ .select cs b := fun d' hd cs b => hf.sel _ _ cs b (h.dops d' hd)
  have hpend := PdL.at h.pdl
  unfold Pend at hpend
  rw [puts_exec (ops := ops) (hsel d hd) a (fun d2 h2 => (hap d2 h2).1), puts_wanted (ops := ops) a (fun d2 h2 => (hap d2 h2).1)] at hpend
  have hputs : puts (D1 ++ D2) (a.put d.o.dst d.v) = puts (D1 ++ d :: D2) a := by
    rw [puts_app, puts_app, puts, puts_put d.v a (fun d2 h2 => (hap d2 h2).2.1)]
  have hsub : ∀ d' ∈ D1 ++ D2, d' ∈ D1 ++ d :: D2 := fun d' hd' => by
    rw [List.mem_append] at hd' ⊢
    exact hd'.imp id (List.mem_cons_of_mem _)
  have hnd := h.dnd
  rw [List.map_append, List.map_cons, List.nodup_append, List.nodup_cons] at hnd
  have hne : ∀ d' ∈ D1 ++ D2, d'.ix ≠ d.ix := fun d' hd' he => by
    rcases List.mem_append.1 hd' with hh | hh
    · exact hnd.2.2 d'.ix (List.mem_map.2 ⟨d', hh, rfl⟩) d.ix (List.mem_cons_self ..) he
    · exact hnd.2.1.1 (List.mem_map.2 ⟨d', hh, he⟩)
  have hpw : ∀ {r : Pd → Pd → Prop}, (D1 ++ d :: D2).Pairwise r → (D1 ++ D2).Pairwise r := fun {r} hh => by
    rw [List.pairwise_append, List.pairwise_cons] at hh
    rw [List.pairwise_append]
    exact ⟨hh.1, hh.2.1.2, fun x hx y hy => hh.2.2 x hx y (List.mem_cons_of_mem _ hy)⟩
  have hinv : Inv P W0 M B dp ops fuel (listed.setIfInBounds d.ix true) r S (D1 ++ D2) Xi (a.put d.o.dst d.v) W ρ e H := by
    refine ⟨by simp [h.sz], ?_, h.rops, h.rnd, fun d' hd' => h.dops d' (hsub d' hd'), ?_, fun d' hd' => h.disj d' (hsub d' hd'), fun i => ?_, h.xr, h.xnd, h.xbd, h.xal, down_set h ho hp, by rw [hputs]; exact h.rel,
      PdL.mid (fun d2 h2 => hsel d2 (hin2 d2 h2)) (fun d2 h2 => (hap d2 h2).2.2) (fun d2 h2 => (hap d2 h2).2.1) h.pdl, fun d' hd' => h.hold d' (hsub d' hd'), fun d' hd' => h.tag d' (hsub d' hd'), fun d' hd' => h.apr d' (hsub d' hd'), hpw h.apd, hpw h.prd,
      fun d' hd' => h.prr d' (hsub d' hd'), h.al, fun x hx => ?_, h.agr, h.dp⟩
    · have := h.cnt
      simp only [List.length_append, List.length_cons] at this ⊢
      omega
    · rw [List.map_append, List.nodup_append]
      exact ⟨hnd.1, hnd.2.1.2, fun u hu v hv => hnd.2.2 u hu v (List.mem_cons_of_mem _ hv)⟩
    · rw [un_set hlt, h.un i]
      constructor
      · rintro ⟨hi, ⟨d', hd', he⟩ | hr⟩
        · refine .inl ⟨d', ?_, he⟩
          rw [List.mem_append, List.mem_cons] at hd'
          rw [List.mem_append]
          rcases hd' with hh | rfl | hh
          · exact .inl hh
          · exact (hi he.symm).elim
          · exact .inr hh
        · exact .inr hr
      · rintro (⟨d', hd', he⟩ | ⟨⟨p, hp', he⟩, hx⟩)
        · exact ⟨fun hh => hne d' hd' (he.trans hh), .inl ⟨d', hsub d' hd', he⟩⟩
        · exact ⟨fun hh => h.disj d hd p hp' (hh.symm.trans he.symm), .inr ⟨⟨p, hp', he⟩, hx⟩⟩
    · obtain ⟨g1, g2⟩ := h.ah x hx
      rw [hputs]
      refine ⟨g1, fun t ht hlt' => g2 t ht ?_⟩
      cases hdd : d.o.dst <;> simpa [Act.put, hdd] using hlt'
  have hnx := hn _ _ hinv
  unfold wpOp
  simp only [ho]
  rcases hpend with ⟨hw, hrun⟩ | ⟨hw, hv⟩
  · rw [if_pos hw]
    refine .inl ?_
    unfold Oper.wp
    rw [hrun W (h.hold d hd)]
    exact hnx
  · rw [hw, if_neg Bool.false_ne_true, ← hv]
    exact hnx

/-- a block is made ahead -/
theorem exec_ahead (hf : Fine ops bef) (h : Inv P W0 M B dp ops (fuel + 1) listed r S D Xi a W ρ e H) {i : Nat} (hi' : (o, i) ∈ r) (hxi : ∀ x ∈ Xi, x.ix ≠ i) (hp : ∀ q ∈ directPreds o, listed[q]? = some true) (hal : isAlloc o.op = true) (hg : o.guard = none)
    {S1 : St} (h1 : Inv P W0 M B dp ops (fuel + 1) listed r S1 D Xi a W ρ e H) (hnew : isNew (step P S1 o) = true) {next : Act → World → Prop}
    (hn : ∀ Xi' a' W', Inv P W0 M B dp ops fuel (listed.setIfInBounds i true) r S D Xi' a' W' ρ e H → next a' W') : wpOp P ops Q i next a W := by
  have ho := h.rops _ hi'
  have hlt := h.lt ho
  have hdl : ∀ d ∈ D, (∀ t, d.o.dst = some t → t ∉ o.looksAt ops) ∧ (∀ t, d.o.dst = some t → o.dst ≠ some t) ∧ (∀ t, o.dst = some t → t ∉ d.o.looksAt ops) := fun d hd =>
    Oper.apart_spec (aprt_of (h.du hd) hp (h.apr d hd _ hi'))
  have hsel : ∀ d ∈ D, ∀ cs b, d.o.op ≠ .select cs b := fun d hd cs b => hf.sel _ _ cs b (h.dops d hd)
  have hso : ∀ cs b, o.op ≠ .select cs b := fun cs b => hf.sel _ _ cs b ho
  rcases isAlloc_step (P := P) (S := S1) hal with hst | ⟨cs, t, len, hst⟩
  · rw [hst] at hnew; cases hnew
  have hs := fun w => step_ok (P := P) (W := w) (o := o) h1.rel.toT
  simp only [hst] at hs
  have hs' : ∀ w, (execOp (puts D a).eval o).run P w = _ := hs
  have hrun := hs' W
  rw [puts_exec (ops := ops) hso a (fun d hd => (hdl d hd).1)] at hrun
  have hu : listed[i]? = some false := h.pu hi' hxi
  have hputs : ∀ v, puts D (a.put o.dst v) = (puts D a).put o.dst v := fun v => puts_put v a (fun d hd => (hdl d hd).2.1)
  have hinv : ∀ (vf : Nat → Value), (∀ w, (execOp (puts D a).eval o).run P w = .ok (.value (vf w.heap.size)) (w.alloc (.cells (SV.dens ρ e cs).toArray t (0, 0)))) →
      Inv P W0 M B dp ops fuel (listed.setIfInBounds i true) r S D (⟨i, o, W.heap.size, .cells (SV.dens ρ e cs).toArray t (0, 0), vf⟩ :: Xi) (a.put o.dst (vf W.heap.size)) (W.alloc (.cells (SV.dens ρ e cs).toArray t (0, 0))) ρ e H := fun vf hvf => by
    refine ⟨by simp [h.sz], ?_, h.rops, h.rnd, h.dops, h.dnd, h.disj, fun j => ?_, fun x hx => ?_, ?_, ?_, fun x hx => ?_, down_set h ho hp, ?_, PdL.put _ hsel (fun d hd => (hdl d hd).2.2) (fun d hd => (hdl d hd).2.1) h.pdl, fun d hd => ?_, h.tag, h.apr, h.apd, h.prd, h.prr, h.al, fun x hx => ?_, h.agr, h.dp⟩
    · have := h.cnt; simp only [List.length_cons]; omega
    · rw [un_set hlt, h.un j]
      constructor
      · rintro ⟨hj, hh | ⟨hh, hx⟩⟩
        · exact .inl hh
        · refine .inr ⟨hh, fun x hxm => ?_⟩
          rcases List.mem_cons.1 hxm with rfl | hxm
          · exact fun h => hj h.symm
          · exact hx x hxm
      · rintro (⟨d, hd, he⟩ | ⟨hh, hx⟩)
        · exact ⟨fun hj => h.disj d hd _ hi' (he.trans hj), .inl ⟨d, hd, he⟩⟩
        · exact ⟨fun hj => hx _ (List.mem_cons_self ..) hj.symm, .inr ⟨hh, fun x hxm => hx x (List.mem_cons_of_mem _ hxm)⟩⟩
    · rcases List.mem_cons.1 hx with rfl | hx
      · exact hi'
      · exact h.xr x hx
    · simp only [List.map_cons, List.nodup_cons]
      refine ⟨fun hm => ?_, h.xnd⟩
      obtain ⟨x, hx, he⟩ := List.mem_map.1 hm
      exact hxi x hx he
    · simp only [List.map_cons, List.nodup_cons]
      refine ⟨fun hm => ?_, h.xbd⟩
      obtain ⟨x, hx, he⟩ := List.mem_map.1 hm
      have := heap_lt (h.rel.mem.xk (x.b, x.obj) (List.mem_map.2 ⟨x, hx, rfl⟩))
      simp only at this
      omega
    · rcases List.mem_cons.1 hx with rfl | hx
      · exact ⟨hal, hg⟩
      · exact h.xal x hx
    · rw [hputs]
      exact h.rel.ahead (fun t' ht' u => h.al _ hi' hal t' ht' u) _
    · have := h.hold d hd
      cases hnd : d.need with
      | none => trivial
      | some q =>
        rw [hnd] at this
        simp only [holds] at this ⊢
        rw [Below.heap_alloc _ _ _ (heap_lt this)]
        exact this
    · rw [hputs]
      rcases List.mem_cons.1 hx with rfl | hx
      · have hown : ∀ t', o.dst = some t' → t' ∉ o.looksAt ops := fun t' ht' hm => ((hf.alloc ho ho hal).2.2 t' ht' hm).1 rfl
        refine ⟨fun w => ?_, fun t' ht' hlt' => ?_⟩
        · rw [execOp_put (ops := ops) o hso _ _ _ hown]
          exact hvf w
        · have ht2 : o.dst = some t' := ht'
          simp only [Act.put, ht2] at hlt' ⊢
          rw [Array.getElem?_setIfInBounds, if_pos rfl, if_pos (by simpa [puts_size] using hlt')]
      · obtain ⟨g1, g2⟩ := ah_put hf h ho hu (vf W.heap.size) hx
        refine ⟨g1, fun t' ht' hlt' => g2 t' ht' ?_⟩
        cases hdd : o.dst <;> simpa [Act.put, hdd] using hlt'
  unfold wpOp
  simp only [ho]
  have hw : Region.wanted o (yielded ops a.tmps) = true := by simp [Region.wanted, hg]
  rw [if_pos hw]
  refine .inl ?_
  unfold Oper.wp
  rw [hrun]
  cases len with
  | none => exact hn _ _ _ (hinv (fun b => .pointer (some ⟨b, 0, none⟩)) hs')
  | some n => exact hn _ _ _ (hinv (fun b => .slice (some ⟨b, 0, none⟩) n n) hs')

/-- the next one that does something is done -/
theorem exec_head (hf : Fine ops bef) {K : St → VC} (h : Inv P W0 M B dp ops (fuel + 1) listed ((o, ix) :: r) S D Xi a W ρ e H) (hp : ∀ q ∈ directPreds o, listed[q]? = some true) (hw : Region.wanted o (yielded ops (puts D a).tmps) = true) (hxi : ∀ x ∈ Xi, x.ix ≠ ix)
    (hnp : isPure (step P S o) = false) (hd : (drawStep P hi rid ops bef o ix r S K).den P W0 M R ρ e H L) {next : Act → World → Prop}
    (hn : ∀ S' ρ' e' H' a' W', Inv P W0 M B dp ops fuel (listed.setIfInBounds ix true) r S' D Xi a' W' ρ' e' H' → (K S').den P W0 M R ρ' e' H' L → next a' W') : wpOp P ops Q ix next a W := by
  have hin : (o, ix) ∈ (o, ix) :: r := List.mem_cons_self ..
  have ho := h.rops _ hin
  have hlt := h.lt ho
  have hu : listed[ix]? = some false := h.pu hin hxi
  have hdl : ∀ d ∈ D, (∀ t, d.o.dst = some t → t ∉ o.looksAt ops) ∧ (∀ t, d.o.dst = some t → o.dst ≠ some t) ∧ (∀ t, o.dst = some t → t ∉ d.o.looksAt ops) := fun d hd =>
    Oper.apart_spec (aprt_of (h.du hd) hp (h.apr d hd _ hin))
  have hsel : ∀ d ∈ D, ∀ cs b, d.o.op ≠ .select cs b := fun d hd cs b => hf.sel _ _ cs b (h.dops d hd)
  have hso : ∀ cs b, o.op ≠ .select cs b := fun cs b => hf.sel _ _ cs b ho
  have hputs : ∀ v, puts D (a.put o.dst v) = (puts D a).put o.dst v := fun v => puts_put v a (fun d hd => (hdl d hd).2.1)
  have hrn := h.rnd
  simp only [List.map_cons, List.nodup_cons] at hrn
  obtain ⟨_, hone, hll⟩ := draw_out hnp hd
  have hg := oneOp_gets hone h.rel
  replace hg := gets_congr (puts_exec (ops := ops) hso a (fun d hd => (hdl d hd).1)) hg
  rw [puts_wanted (ops := ops) a (fun d hd => (hdl d hd).1)] at hw
  unfold wpOp
  simp only [ho]
  rw [if_pos hw]
  refine .inl (Gets.wp (post := fun v W' => ∃ S' ρ' e' H', Aft P W0 M R (Xi.map fun x => (x.b, x.obj)) L S ρ e H W K o.dst (puts D a) (touch P hi rid ix S o ρ H) (turned P hi rid ix S o) v W' S' ρ' e' H') hg (fun v W' hpost => ?_))
  obtain ⟨S', ρ', e', H', ha⟩ := hpost
  have hnot : ∀ d ∈ D, ∀ tg, (d.ix, tg) ∈ S.ll → ((∀ b, touch P hi rid ix S o ρ H b → (∃ k, (∃ ob : SObj, S.h[k]? = some (some ob)) ∧ ρ k = b ∧ tg ≠ some k) ∨ ((∃ q, H b = some q) ∧ tg ≠ none)) ∧ (turned P hi rid ix S o → tg ≠ none)) := fun d hd tg hm => by
    rcases hll _ hm with hb | hb
    · have := hf.before h.down (Array.getElem?_eq_some_iff.1 (h.dops d hd)).1 _ _ ho hp hb
      rw [h.du hd] at this; cases this
    · exact hb
  refine hn S' ρ' e' H' _ _ ⟨by simp [h.sz], ?_, fun p hp => h.rops p (List.mem_cons_of_mem _ hp), hrn.2, h.dops, h.dnd, fun d hd p hp => h.disj d hd p (List.mem_cons_of_mem _ hp), fun i => ?_, fun x hx => ?_, h.xnd, h.xbd, h.xal, down_set h ho hp, by rw [hputs]; exact ha.rel, PdL.put _ hsel (fun d hd => (hdl d hd).2.2) (fun d hd => (hdl d hd).2.1) h.pdl, fun d hd => ?_, fun d hd => ?_, fun d hd p hp => h.apr d hd p (List.mem_cons_of_mem _ hp), h.apd, h.prd, fun d hd => ⟨(h.prr d hd).1, fun p hp => (h.prr d hd).2 p (List.mem_cons_of_mem _ hp)⟩, fun p hp' hal t ht' u => ?_, fun x hx => ?_, h.agr.trans ha.agr, ha.dp.trans h.dp⟩ ha.den
  · have := h.cnt; simp only [List.length_cons] at this ⊢; omega
  · rw [un_set hlt, h.un i]
    constructor
    · rintro ⟨hj, hh | ⟨⟨p, hp', he⟩, hx⟩⟩
      · exact .inl hh
      · rcases List.mem_cons.1 hp' with rfl | hp'
        · exact (hj he.symm).elim
        · exact .inr ⟨⟨p, hp', he⟩, hx⟩
    · rintro (⟨d, hd, he⟩ | ⟨⟨p, hp', he⟩, hx⟩)
      · exact ⟨fun hj => h.disj d hd _ hin (he.trans hj), .inl ⟨d, hd, he⟩⟩
      · exact ⟨fun hj => hrn.1 (List.mem_map.2 ⟨p, hp', he.trans hj⟩), .inr ⟨⟨p, List.mem_cons_of_mem _ hp', he⟩, hx⟩⟩
  · rcases List.mem_cons.1 (h.xr x hx) with he | hm
    · exact (hxi x hx (congrArg Prod.snd he)).elim
    · exact hm
  · have h0 := h.hold d hd
    have ht := h.tag d hd
    cases hnd : d.need with
    | none => trivial
    | some q =>
      obtain ⟨b, ob⟩ := q
      rw [hnd] at h0 ht
      refine ha.keep b ob h0 (fun htc => ?_)
      rcases ht with ⟨k, hk1, hk2, ok, hk3⟩ | ⟨hk1, hk2⟩
      · rcases (hnot d hd _ hk1).1 b htc with ⟨k', ⟨ob', hk4⟩, hk5, hk6⟩ | ⟨⟨q, hq⟩, _⟩
        · exact hk6 (congrArg some (h.rel.mem.inj _ _ _ _ hk3 hk4 (hk2.symm.trans hk5.symm)))
        · rw [hk2, h.rel.mem.dis _ _ hk3] at hq; cases hq
      · rcases (hnot d hd _ hk1).1 b htc with ⟨k', ⟨ob', hk4⟩, hk5, hk6⟩ | ⟨_, hk6⟩
        · rw [← hk5, h.rel.mem.dis _ _ hk4] at hk2; cases hk2
        · exact hk6 rfl
  · exact (h.tag d hd).mono ha.ll ha.kn ha.agr.r (fun hm => ha.hle (fun ht => (hnot d hd _ hm).2 ht rfl))
  · have hne : o.dst ≠ some t := fun he => by
      rcases (hf.alloc ho (h.rops p (List.mem_cons_of_mem _ hp')) hal).2.1 with h1 | h1
      · exact hrn.1 (List.mem_map.2 ⟨p, hp', h1.symm⟩)
      · exact h1 (he.trans ht'.symm)
    rw [ha.tm t hne]
    exact h.al p (List.mem_cons_of_mem _ hp') hal t ht' u
  · rw [hputs]
    obtain ⟨g1, g2⟩ := ah_put hf h ho hu v hx
    refine ⟨g1, fun t' ht' hlt' => g2 t' ht' ?_⟩
    cases hdd : o.dst <;> simpa [Act.put, hdd] using hlt'

/-- the oldest of those put off may come up -/
theorem oldest (hf : Fine ops bef) (h : Inv P W0 M B dp ops fuel listed r S D Xi a W ρ e H) (hd : D ≠ []) (hr : Region.ready .any ops listed = []) : False := by
  obtain ⟨D', d, rfl⟩ : ∃ D' d, D = D' ++ [d] := ⟨D.dropLast, D.getLast hd, (List.dropLast_concat_getLast hd).symm⟩
  have hm : d ∈ D' ++ [d] := by simp
  have : d.ix ∈ Region.ready .any ops listed := (ready_iff h.sz).2 ⟨h.du hm, d.o, h.dops d hm, fun q hq => h.not_un (hf.rng _ _ (h.dops d hm) q hq) (fun hu => by
    rcases (h.un q).1 hu with ⟨d', hd', he⟩ | ⟨⟨p, hp, he⟩, _⟩
    · rcases List.mem_append.1 hd' with h1 | h1
      · have := h.prd
        rw [List.pairwise_append] at this
        exact this.2.2 d' h1 d (by simp) (he ▸ hq)
      · simp only [List.mem_singleton] at h1
        subst h1
        exact (h.prr d' hm).1 (he ▸ hq)
    · exact (h.prr d hm).2 p hp (he ▸ hq))⟩
  rw [hr] at this
  cases this

theorem draw_ok (hf : Fine ops bef) {K : St → VC} (hk : Goes P W0 M R [] L B dp K (Q .normal)) : ∀ (fuel : Nat) (listed : Array Bool) (r : List (Oper × Nat)) (S : St) (D : List Pd) (Xi : List Ah) (a : Act) (W : World) (ρ : Nat → Nat) (e : Env) (H : Hp),
    Inv P W0 M B dp ops fuel listed r S D Xi a W ρ e H → (exOpsD P hi rid ops bef r S K).den P W0 M R ρ e H L → wpAny P .any ops Q fuel listed a W := by
  have fin : ∀ {fuel : Nat} {listed : Array Bool} {a : Act} {W : World} {S D Xi ρ e H}, Inv P W0 M B dp ops fuel listed [] S D Xi a W ρ e H → (K S).den P W0 M R ρ e H L → D = [] → Q .normal a W := fun {fuel listed a W S D Xi ρ e H} h hd he => by
    subst he
    have hX : Xi = [] := by
      cases Xi with
      | nil => rfl
      | cons x Xi => have := h.xr x (List.mem_cons_self ..); simp at this
    subst hX
    exact hk S ρ e H a W h.dp h.agr hd h.rel
  intro fuel
  induction fuel with
  | zero =>
    intro listed r S D Xi a W ρ e H h hd
    refine norm hf (wpAny P .any ops Q 0 listed a W) (fun S D Xi ρ e H h hd => ?_) (fun o ix r S D Xi ρ e H S1 h _ _ _ _ hx _ _ => ?_) r S D Xi ρ e H h hd
    · have hD : D = [] := by
        have hX : Xi = [] := by
          cases Xi with
          | nil => rfl
          | cons x Xi => have := h.xr x (List.mem_cons_self ..); simp at this
        have := h.cnt
        rw [hX] at this
        simp only [List.length_nil] at this
        exact List.length_eq_zero_iff.1 (by omega)
      refine ⟨?_, fin h hd hD⟩
      cases hr : Region.ready .any ops listed with
      | nil => rfl
      | cons j l =>
        have : j ∈ Region.ready .any ops listed := by rw [hr]; exact List.mem_cons_self ..
        have := ((ready_iff h.sz).1 this).1
        rcases (h.un j).1 this with ⟨d, hd, _⟩ | ⟨⟨p, hp, _⟩, _⟩
        · rw [hD] at hd; simp at hd
        · simp at hp
    · exfalso
      have h1 := sub_len (l := Xi.map (·.ix)) (m := r.map (·.2)) h.xnd (fun y hy => by
        obtain ⟨x, hxm, rfl⟩ := List.mem_map.1 hy
        rcases List.mem_cons.1 (h.xr x hxm) with he | hm
        · exact (hx x hxm (congrArg Prod.snd he)).elim
        · exact List.mem_map.2 ⟨_, hm, rfl⟩)
      have h2 := h.cnt
      simp only [List.length_map, List.length_cons] at h1 h2
      omega
  | succ fuel ih =>
    intro listed r S D Xi a W ρ e H h hd
    refine ⟨fun hr => ?_, fun i hi' => ?_⟩
    · refine norm hf (Q .normal a W) (fun S D Xi ρ e H h hd => ?_) (fun o ix r S D Xi ρ e H S1 h _ _ hr1 _ hx _ _ => ?_) r S D Xi ρ e H h hd
      · by_cases hD : D = []
        · exact fin h hd hD
        · exact (oldest hf h hD hr).elim
      · exfalso
        by_cases hD : D = []
        · subst hD
          have hin : (o, ix) ∈ (o, ix) :: r := List.mem_cons_self ..
          have : ix ∈ Region.ready .any ops listed := (ready_iff h.sz).2 ⟨h.pu hin hx, o, h.rops _ hin, fun q hq => h.not_un (hf.rng _ _ (h.rops _ hin) q hq) (fun hu => by
            rcases (h.un q).1 hu with ⟨d, hd, _⟩ | ⟨⟨p, hp, he⟩, _⟩
            · simp at hd
            · unfold ready1 at hr1
              rw [List.all_eq_true] at hr1
              have := hr1 q hq
              rw [Bool.not_eq_true', List.contains_eq_mem, decide_eq_false_iff_not] at this
              exact this (List.mem_map.2 ⟨p, hp, he⟩))⟩
          rw [hr] at this
          cases this
        · exact oldest hf h hD hr
    · obtain ⟨hiu, oi, hoi, hip⟩ := (ready_iff h.sz).1 hi'
      refine norm hf (wpOp P ops Q i (wpAny P .any ops Q fuel (listed.setIfInBounds i true)) a W) (fun S D Xi ρ e H h hd => ?_) (fun o ix r S D Xi ρ e H S1 h hd h1 hr1 hw hx hnp hd1 => ?_) r S D Xi ρ e H h hd
      · rcases (h.un i).1 hiu with ⟨d, hdm, rfl⟩ | ⟨⟨p, hp, _⟩, _⟩
        · rw [h.dops d hdm] at hoi
          simp only [Option.some.injEq] at hoi
          subst hoi
          exact exec_d hf h hdm hip (fun D' a' h' => ih _ _ _ _ _ _ _ _ _ _ h' hd)
        · simp at hp
      · rcases (h.un i).1 hiu with ⟨d, hdm, rfl⟩ | ⟨⟨p, hp, he⟩, hxi⟩
        · rw [h.dops d hdm] at hoi
          simp only [Option.some.injEq] at hoi
          subst hoi
          exact exec_d hf h hdm hip (fun D' a' h' => ih _ _ _ _ _ _ _ _ _ _ h' hd)
        · obtain ⟨op, j⟩ := p
          simp only at he
          subst he
          have hop := h.rops _ hp
          simp only at hop
          rw [hop] at hoi
          simp only [Option.some.injEq] at hoi
          subst hoi
          rcases List.mem_cons.1 hp with hh | hh
          · simp only [Prod.mk.injEq] at hh
            obtain ⟨rfl, rfl⟩ := hh
            exact exec_head hf h1 hip hw hx hnp hd1 (fun S' ρ' e' H' a' W' h' hd' => ih _ _ _ _ _ _ _ _ _ _ h' hd')
          · obtain ⟨hah, _, _⟩ := draw_out hnp hd1
            unfold aheadAll at hah
            rw [List.all_eq_true] at hah
            have h2 := hah _ hh
            simp only [Bool.or_eq_true, Bool.and_eq_true] at h2
            rcases h2 with h2 | ⟨⟨h2, h3⟩, h4⟩
            · have h5 := hf.before h.down (Array.getElem?_eq_some_iff.1 (h.rops _ (List.mem_cons_self ..))).1 _ _ hop hip h2
              rw [h.pu (List.mem_cons_self ..) hx] at h5
              cases h5
            · exact exec_ahead hf h hp hxi hip h2 (by simpa using h3) h1 h4 (fun Xi' a' W' h' => ih _ _ _ _ _ _ _ _ _ _ h' hd)
theorem forgetT_none : ∀ {l : List Nat} {tm : List (Option SV)} {t : Nat}, t ∈ l → ∀ v, (forgetT tm l)[t]? ≠ some (some v) := by
  have keep : ∀ {l : List Nat} {tm : List (Option SV)} {t : Nat} {v : SV}, (forgetT tm l)[t]? = some (some v) → tm[t]? = some (some v) := by
    intro l
    induction l with
    | nil => exact fun h => h
    | cons k l ih =>
      intro tm t v h
      have := ih (tm := tm.set k none) h
      rw [List.getElem?_set] at this
      split at this
      · split at this <;> cases this
      · exact this
  intro l
  induction l with
  | nil => intro tm t h; simp at h
  | cons k l ih =>
    intro tm t h v hv
    rcases List.mem_cons.1 h with rfl | h
    · have := keep (l := l) (tm := tm.set t none) hv
      rw [List.getElem?_set] at this
      split at this
      · split at this <;> cases this
      · rename_i hh; exact hh rfl
    · exact ih (tm := tm.set k none) h v hv
theorem forgetT_rel {l : List Nat} : ∀ {tm : List (Option SV)}, TmRel ρ e tm a → TmRel ρ e (forgetT tm l) a := by
  induction l with
  | nil => exact fun h => h
  | cons k l ih =>
    intro tm h
    refine ih (tm := tm.set k none) ⟨by simp [h.1], fun t v ht => ?_⟩
    rw [List.getElem?_set] at ht
    split at ht
    · split at ht <;> cases ht
    · exact h.2 t v ht
/-- A DRAWN REGION: what one order leaves to prove is enough for all. -/
theorem exDraw_ok {id : Nat} {K : St → VC} (h : (exDraw P hi id ops S K).den P W0 M R ρ e H L) (hr : Rel W0 M S ρ e [] H a W) (hb : Agr B S ρ e) (hk : Goes P W0 M R [] L B S.dp K (Q .normal)) : (Code.region id ops true).wp P Q a W := by
  unfold exDraw at h
  dsimp only at h
  split at h
  · rename_i hc
    simp only [Bool.and_eq_true, decide_eq_true_eq, List.all_eq_true, List.mem_range, List.contains_iff_mem] at hc
    obtain ⟨⟨⟨⟨⟨⟨⟨hm, c1⟩, c2⟩, c3⟩, c4⟩, c5⟩, c6⟩, c7⟩ := hc
    have hsl : ∀ (j : Nat) (o : Oper) (cs : Array SelectCase) (b : Bool), ops[j]? = some o → o.op ≠ .select cs b := fun j o cs b ho hs => by
      have := (List.all_eq_true.1 c3) o (by rw [Array.mem_toList_iff]; exact Array.mem_of_getElem? ho)
      rw [hs] at this
      cases this
    have hf : Fine ops (befL ops.toList) := ⟨hsl, c1, c2, fun j o ho q hq => c4 o (by rw [Array.mem_toList_iff]; exact Array.mem_of_getElem? ho) q hq⟩
    refine wp_region_any hm (draw_ok hf (dp := S.dp) (B := B) (W0 := W0) (M := M) (R := R) (L := L) hk _ _ _ _ [] [] _ _ ρ e H ?_ h)
    have hlen : (canon ops.size ops.toList.zipIdx).length = ops.size := c5
    have hmem : ∀ {p : Oper × Nat}, p ∈ (canon ops.size ops.toList.zipIdx).filterMap (fun p => ops[p.2]?.map fun o => (o, p.2)) → ops[p.2]? = some p.1 := fun {p} hp => by
      obtain ⟨q, _, hq⟩ := List.mem_filterMap.1 hp
      simp only [Option.map_eq_some_iff] at hq
      obtain ⟨o, ho, rfl⟩ := hq
      exact ho
    have hix : ((canon ops.size ops.toList.zipIdx).filterMap (fun p => ops[p.2]?.map fun o => (o, p.2))).map (·.2) = (canon ops.size ops.toList.zipIdx).map (·.2) := by
      have : ∀ l : List (Oper × Nat), (∀ p ∈ l, ∃ o, ops[p.2]? = some o) → (l.filterMap (fun p => ops[p.2]?.map fun o => (o, p.2))).map (·.2) = l.map (·.2) := fun l => by
        induction l with
        | nil => exact fun _ => rfl
        | cons p l ih =>
          intro hl
          obtain ⟨o, ho⟩ := hl p (List.mem_cons_self ..)
          rw [List.filterMap_cons]
          simp only [ho, Option.map_some, List.map_cons]
          rw [ih (fun p hp => hl p (List.mem_cons_of_mem _ hp))]
      refine this _ (fun p hp => ?_)
      have := c7 p hp
      split at this
      · rename_i o ho; exact ⟨o, ho⟩
      · cases this
    have hnd : ((canon ops.size ops.toList.zipIdx).map (·.2)).Nodup := by
      have key : ∀ (l : List Nat) (n : Nat), l.length = n → (∀ i, i < n → i ∈ l) → l.Nodup := by
        intro l n hl hall
        refine Classical.byContradiction (fun hnn => ?_)
        have hd : ∃ (x : Nat) (l' : List Nat), x ∈ l' ∧ l.length = l'.length + 1 ∧ ∀ y ∈ l, y ∈ l' := by
          clear hl hall
          induction l with
          | nil => exact (hnn List.nodup_nil).elim
          | cons x l ih =>
            by_cases hx : x ∈ l
            · exact ⟨x, l, hx, rfl, fun y hy => by
                rcases List.mem_cons.1 hy with rfl | hy
                · exact hx
                · exact hy⟩
            · have hl' : ¬ l.Nodup := fun h => hnn (List.nodup_cons.2 ⟨hx, h⟩)
              obtain ⟨z, l', h1, h2, h3⟩ := ih hl'
              exact ⟨z, x :: l', List.mem_cons_of_mem _ h1, by simp [h2], fun y hy => by
                rcases List.mem_cons.1 hy with rfl | hy
                · exact List.mem_cons_self ..
                · exact List.mem_cons_of_mem _ (h3 y hy)⟩
        obtain ⟨x, l', _, h2, h3⟩ := hd
        have := sub_len (l := List.range n) (m := l') List.nodup_range (fun y hy => h3 y (hall y (List.mem_range.1 hy)))
        rw [List.length_range] at this
        omega
      exact key _ ops.size (by rw [List.length_map, hlen]) c6
    have hall : ∀ i, i < ops.size → ∃ p ∈ (canon ops.size ops.toList.zipIdx).filterMap (fun p => ops[p.2]?.map fun o => (o, p.2)), p.2 = i := fun i hi => by
      have h1 := c6 i hi
      rw [← hix] at h1
      obtain ⟨p, hp, he⟩ := List.mem_map.1 h1
      exact ⟨p, hp, he⟩
    refine ⟨by simp, ?_, fun p hp => hmem hp, by rw [hix]; exact hnd, fun d hd => by simp at hd, by simp, fun d hd => by simp at hd, fun i => ?_, fun x hx => by simp at hx, by simp, by simp, fun x hx => by simp at hx, fun j o hj => ?_, ?_, trivial, fun d hd => by simp at hd, fun d hd => by simp at hd, fun d hd => by simp at hd, List.Pairwise.nil, List.Pairwise.nil, fun d hd => by simp at hd, fun p hp ha t ht v => ?_, fun x hx => by simp at hx, ⟨hb.n, hb.m, hb.e, hb.r⟩, rfl⟩
    · have := congrArg List.length hix
      simp only [List.length_map] at this
      simp only [List.length_nil]
      omega
    · rw [Array.getElem?_replicate]
      constructor
      · intro hh
        split at hh
        · rename_i hlt
          exact .inr ⟨hall i hlt, fun x hx => by simp at hx⟩
        · cases hh
      · rintro (⟨d, hd, _⟩ | ⟨⟨p, hp, rfl⟩, _⟩)
        · simp at hd
        · rw [if_pos (Array.getElem?_eq_some_iff.1 (hmem hp)).1]
    · rw [Array.getElem?_replicate] at hj
      split at hj <;> simp at hj
    · exact Rel.drew ⟨forgetT_rel hr.tm, hr.df, hr.mem, hr.pc⟩
    · refine forgetT_none (List.mem_filterMap.2 ⟨p.1, ?_, ?_⟩) v
      · rw [Array.mem_toList_iff]; exact Array.mem_of_getElem? (hmem hp)
      · rw [if_pos ha]; exact ht
  · exact h.elim
end
end Go.Proofs.Ytcnkljeniffmmaa
