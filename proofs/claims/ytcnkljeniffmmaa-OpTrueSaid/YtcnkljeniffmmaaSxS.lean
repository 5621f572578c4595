/- A symbolic run of a function's code: drawn regions: what holds on the way. Over any program; no program in sight. -/
import Derived.Test.YtcnkljeniffmmaaSxR
namespace Go.Proofs.Ytcnkljeniffmmaa
open Go.RowKit

/-- what is asked of a drawn region -/
structure Fine (ops : Array Oper) (bef : List Nat) : Prop where
  sel : ∀ (j : Nat) (o : Oper) (cs : Array SelectCase) (b : Bool), ops[j]? = some o → o.op ≠ .select cs b
  bfr : befOk ops.toList bef = true
  all : allocsOk ops bef = true
  rng : ∀ (j : Nat) (o : Oper), ops[j]? = some o → ∀ q ∈ directPreds o, q < ops.size
theorem zip_mem {α : Type} {l : List α} {j : Nat} {x : α} (h : l[j]? = some x) : (x, j) ∈ l.zipIdx := by
  rw [List.mem_zipIdx_iff_getElem?]
  exact h
theorem Fine.alloc {ops : Array Oper} {bef : List Nat} (hf : Fine ops bef) {i j : Nat} {x y : Oper} (hx : ops[i]? = some x) (hy : ops[j]? = some y) (ha : isAlloc y.op = true) :
    (∃ t, y.dst = some t) ∧ (i = j ∨ x.dst ≠ y.dst) ∧ ∀ t, x.dst = some t → t ∈ y.looksAt ops → i ≠ j ∧ ordB bef i j = true := by
  have h := hf.all
  unfold allocsOk at h
  rw [List.all_eq_true] at h
  have h1 := h (y, j) (zip_mem (by rw [Array.getElem?_toList]; exact hy))
  simp only [ha, Bool.not_true, Bool.false_or, Bool.and_eq_true, List.all_eq_true] at h1
  obtain ⟨h1, h2⟩ := h1
  have h3 := h2 (x, i) (zip_mem (by rw [Array.getElem?_toList]; exact hx))
  simp only [Bool.or_eq_true, decide_eq_true_eq] at h3
  refine ⟨Option.isSome_iff_exists.1 h1, h3.1, fun t ht hm => ?_⟩
  have h4 := h3.2
  simp only [ht, Bool.or_eq_true, Bool.not_eq_true', Bool.and_eq_true, decide_eq_true_eq] at h4
  rcases h4 with h4 | h4
  · rw [List.contains_iff_mem.2 hm] at h4; cases h4
  · exact h4
theorem Fine.before {ops : Array Oper} {bef : List Nat} (hf : Fine ops bef) {listed : Array Bool} (down : ∀ (j : Nat) (o : Oper), listed[j]? = some true → ops[j]? = some o → ∀ q ∈ directPreds o, listed[q]? = some true) {i : Nat} (hi : i < ops.size) :
    ∀ (j : Nat) (o : Oper), ops[j]? = some o → (∀ q ∈ directPreds o, listed[q]? = some true) → ordB bef i j = true → listed[i]? = some true := by
  intro j
  induction j using Nat.strongRecOn with
  | _ j ih =>
    intro o ho hp hb
    have h := hf.bfr
    unfold befOk at h
    rw [List.all_eq_true] at h
    have h1 := h (o, j) (zip_mem (by rw [Array.getElem?_toList]; exact ho))
    rw [List.all_eq_true] at h1
    have h2 := h1 i (by simp [hi])
    simp only [hb, Bool.not_true, Bool.false_or, List.any_eq_true, Bool.and_eq_true, decide_eq_true_eq, Bool.or_eq_true] at h2
    obtain ⟨q, hq, hlt, h3⟩ := h2
    rcases h3 with rfl | h3
    · exact hp q hq
    · have hqs := hf.rng j o ho q hq
      obtain ⟨oq, hoq⟩ : ∃ oq, ops[q]? = some oq := ⟨_, Array.getElem?_eq_getElem hqs⟩
      exact ih q hlt oq hoq (down q oq (hp q hq) hoq) h3
theorem set_listed {listed : Array Bool} {i j : Nat} (hi : i < listed.size) : (listed.setIfInBounds i true)[j]? = if i = j then some true else listed[j]? := by
  rw [Array.getElem?_setIfInBounds]
  split
  · rename_i h; subst h; simp [hi]
  · rfl
theorem ready_iff {ops : Array Oper} {listed : Array Bool} (hz : listed.size = ops.size) {j : Nat} : j ∈ Region.ready .any ops listed ↔ listed[j]? = some false ∧ ∃ o, ops[j]? = some o ∧ ∀ q ∈ directPreds o, listed[q]? = some true := by
  rw [mem_ready]
  have hg : ∀ (q : Nat), listed.getD q false = true ↔ listed[q]? = some true := fun q => by
    rw [Array.getD_eq_getD_getElem?]
    cases listed[q]? <;> simp
  constructor
  · rintro ⟨h0, o, ho, h⟩
    have hj : j < listed.size := by rw [hz]; exact (Array.getElem?_eq_some_iff.1 ho).1
    refine ⟨?_, o, ho, fun q hq => ?_⟩
    · rw [Array.getD_eq_getD_getElem?, Array.getElem?_eq_getElem hj] at h0
      rw [Array.getElem?_eq_getElem hj]
      simpa using h0
    · unfold directPreds at hq
      rw [List.mem_filterMap] at hq
      obtain ⟨ed, he, hq⟩ := hq
      split at hq
      · rename_i hb
        simp only [Option.some.injEq] at hq
        subst hq
        exact (hg _).1 (h ed (by simpa using he) hb)
      · cases hq
  · rintro ⟨h0, o, ho, h⟩
    refine ⟨?_, o, ho, fun ed he hb => ?_⟩
    · rw [Array.getD_eq_getD_getElem?, h0]; rfl
    · refine (hg _).2 (h _ ?_)
      unfold directPreds
      rw [List.mem_filterMap]
      exact ⟨ed, by simpa using he, by rw [if_pos hb]⟩

structure Inv (P : Program) (W0 : World) (M : Nat → Prop) (B : Base) (dp : Nat) (ops : Array Oper) (fuel : Nat) (listed : Array Bool) (r : List (Oper × Nat)) (S : St) (D : List Pd) (Xi : List Ah) (a : Act) (W : World) (ρ : Nat → Nat) (e : Env) (H : Hp) : Prop where
  sz : listed.size = ops.size
  cnt : D.length + r.length ≤ fuel + Xi.length
  rops : ∀ p ∈ r, ops[p.2]? = some p.1
  rnd : (r.map (·.2)).Nodup
  dops : ∀ d ∈ D, ops[d.ix]? = some d.o
  dnd : (D.map (·.ix)).Nodup
  disj : ∀ d ∈ D, ∀ p ∈ r, d.ix ≠ p.2
  un : ∀ i : Nat, listed[i]? = some false ↔ (∃ d ∈ D, d.ix = i) ∨ ((∃ p ∈ r, p.2 = i) ∧ ∀ x ∈ Xi, x.ix ≠ i)
  xr : ∀ x ∈ Xi, (x.o, x.ix) ∈ r
  xnd : (Xi.map (·.ix)).Nodup
  xbd : (Xi.map (·.b)).Nodup
  xal : ∀ x ∈ Xi, isAlloc x.o.op = true ∧ x.o.guard = none
  down : ∀ (j : Nat) (o : Oper), listed[j]? = some true → ops[j]? = some o → ∀ q ∈ directPreds o, listed[q]? = some true
  rel : Rel W0 M S ρ e (Xi.map fun x => (x.b, x.obj)) H (puts D a) W
  pdl : PdL P ops D a
  hold : ∀ d ∈ D, holds d.need W
  tag : ∀ d ∈ D, TagOk S ρ H d.ix d.need
  apr : ∀ d ∈ D, ∀ p ∈ r, d.ix ∈ directPreds p.1 ∨ Oper.apart ops d.o p.1 = true
  apd : D.Pairwise fun n d => d.ix ∈ directPreds n.o ∨ Oper.apart ops d.o n.o = true
  prd : D.Pairwise fun n d => n.ix ∉ directPreds d.o
  prr : ∀ d ∈ D, d.ix ∉ directPreds d.o ∧ ∀ p ∈ r, p.2 ∉ directPreds d.o
  al : ∀ p ∈ r, isAlloc p.1.op = true → ∀ t, p.1.dst = some t → ∀ v, S.tm[t]? ≠ some (some v)
  ah : ∀ x ∈ Xi, (∀ w, (execOp (puts D a).eval x.o).run P w = .ok (.value (x.vf w.heap.size)) (w.alloc x.obj)) ∧ ∀ t, x.o.dst = some t → t < a.tmps.size → (puts D a).tmps[t]? = some (x.vf x.b)
  agr : Agr B S ρ e
  dp : S.dp = dp

theorem sub_len {l m : List Nat} (hl : l.Nodup) (h : ∀ x ∈ l, x ∈ m) : l.length ≤ m.length := by
  induction l generalizing m with
  | nil => simp
  | cons a l ih =>
    have ha := h a (List.mem_cons_self ..)
    have hn : ∀ x ∈ l, x ∈ m.erase a := fun x hx => by
      have hne : x ≠ a := fun hh => (List.nodup_cons.1 hl).1 (hh ▸ hx)
      exact (List.mem_erase_of_ne hne).2 (h x (List.mem_cons_of_mem _ hx))
    have := ih (List.nodup_cons.1 hl).2 hn
    rw [List.length_erase_of_mem ha] at this
    have : 0 < m.length := List.length_pos_of_mem ha
    simp only [List.length_cons]
    omega

section
variable {P : Program} {W0 : World} {M : Nat → Prop} {R : Ending → World → Prop} {L : List (List Dat → Hp → Prop)} {B : Base} {dp : Nat} {ops : Array Oper} {bef : List Nat} {fuel : Nat} {listed : Array Bool} {r : List (Oper × Nat)} {S S' : St} {D : List Pd} {Xi : List Ah} {a : Act} {W : World} {ρ ρ' : Nat → Nat} {e e' : Env} {H H' : Hp} {o : Oper} {ix : Nat}

theorem mem_ix {r : List (Oper × Nat)} {p : Oper × Nat} (h : p ∈ r) : p.2 ∈ r.map (·.2) := List.mem_map.2 ⟨p, h, rfl⟩
theorem Inv.lt (h : Inv P W0 M B dp ops fuel listed r S D Xi a W ρ e H) {i : Nat} {o : Oper} (ho : ops[i]? = some o) : i < listed.size := by
  rw [h.sz]; exact (Array.getElem?_eq_some_iff.1 ho).1
theorem Inv.not_un (h : Inv P W0 M B dp ops fuel listed r S D Xi a W ρ e H) {i : Nat} (hi : i < ops.size) (hn : listed[i]? ≠ some false) : listed[i]? = some true := by
  rw [← h.sz] at hi
  rw [Array.getElem?_eq_getElem hi] at hn ⊢
  cases hh : listed[i] with
  | true => rfl
  | false => rw [hh] at hn; exact (hn rfl).elim
theorem Inv.xl (h : Inv P W0 M B dp ops fuel listed r S D Xi a W ρ e H) {x : Ah} (hx : x ∈ Xi) : listed[x.ix]? = some true := by
  have hr := h.xr x hx
  refine h.not_un (Array.getElem?_eq_some_iff.1 (h.rops _ hr)).1 (fun hu => ?_)
  rcases (h.un _).1 hu with ⟨d, hd, he⟩ | ⟨_, hn⟩
  · exact h.disj d hd _ hr he
  · exact hn x hx rfl
theorem Inv.du (h : Inv P W0 M B dp ops fuel listed r S D Xi a W ρ e H) {d : Pd} (hd : d ∈ D) : listed[d.ix]? = some false := (h.un _).2 (.inl ⟨d, hd, rfl⟩)
theorem Inv.pu (h : Inv P W0 M B dp ops fuel listed r S D Xi a W ρ e H) {p : Oper × Nat} (hp : p ∈ r) (hx : ∀ x ∈ Xi, x.ix ≠ p.2) : listed[p.2]? = some false := (h.un _).2 (.inr ⟨⟨p, hp, rfl⟩, hx⟩)
/-- an op that is not listed does not touch what is made ahead -/
theorem Inv.clear (hf : Fine ops bef) (h : Inv P W0 M B dp ops fuel listed r S D Xi a W ρ e H) {i : Nat} {o : Oper} (ho : ops[i]? = some o) (hu : listed[i]? = some false) {x : Ah} (hx : x ∈ Xi) :
    (∀ t, o.dst = some t → t ∉ x.o.looksAt ops) ∧ o.dst ≠ x.o.dst := by
  have hr := h.xr x hx
  have hl := h.xl hx
  obtain ⟨_, h2, h3⟩ := hf.alloc ho (h.rops _ hr) (h.xal x hx).1
  refine ⟨fun t ht hm => ?_, ?_⟩
  · have := hf.before h.down (Array.getElem?_eq_some_iff.1 ho).1 _ _ (h.rops _ hr) (h.down _ _ hl (h.rops _ hr)) (h3 t ht hm).2
    rw [hu] at this; cases this
  · rcases h2 with h2 | h2
    · rw [h2, hl] at hu; cases hu
    · exact h2
theorem ah_put (hf : Fine ops bef) (h : Inv P W0 M B dp ops fuel listed r S D Xi a W ρ e H) {i : Nat} {o : Oper} (ho : ops[i]? = some o) (hu : listed[i]? = some false) (v : Value) {x : Ah} (hx : x ∈ Xi) :
    (∀ w, (execOp ((puts D a).put o.dst v).eval x.o).run P w = .ok (.value (x.vf w.heap.size)) (w.alloc x.obj)) ∧ ∀ t, x.o.dst = some t → t < a.tmps.size → ((puts D a).put o.dst v).tmps[t]? = some (x.vf x.b) := by
  obtain ⟨h1, h2⟩ := h.clear hf ho hu hx
  obtain ⟨g1, g2⟩ := h.ah x hx
  refine ⟨fun w => ?_, fun t ht hlt => ?_⟩
  · rw [execOp_put (ops := ops) x.o (fun cs b => hf.sel _ _ cs b (h.rops _ (h.xr x hx))) _ _ _ h1]
    exact g1 w
  · have := g2 t ht hlt
    cases hd : o.dst with
    | none => exact this
    | some t' =>
      have hne : t' ≠ t := fun hh => h2 (by rw [hd, ht, hh])
      simp only [Act.put]
      rw [Array.getElem?_setIfInBounds_ne hne]
      exact this

theorem Inv.sim (h : Inv P W0 M B dp ops fuel listed r S D Xi a W ρ e H) (hs : Sim S S') (hr : Rel W0 M S' ρ e (Xi.map fun x => (x.b, x.obj)) H (puts D a) W) : Inv P W0 M B dp ops fuel listed r S' D Xi a W ρ e H :=
  { h with rel := hr, tag := fun d hd => by
            have := h.tag d hd
            cases hn : d.need with
            | none => trivial
            | some q => rw [hn] at this; simp only [TagOk] at this ⊢; rw [hs.2.2.2.2, hs.2.2.1]; exact this
           al := fun p hp ha t ht v => by rw [hs.2.1]; exact h.al p hp ha t ht v
           agr := h.agr.sim hs, dp := hs.1.trans h.dp }
theorem Inv.ll (h : Inv P W0 M B dp ops fuel listed r S D Xi a W ρ e H) (q : Nat × Option Nat) : Inv P W0 M B dp ops fuel listed r { S with ll := q :: S.ll } D Xi a W ρ e H :=
  { h with rel := ⟨h.rel.tm, h.rel.df, h.rel.mem, h.rel.pc⟩
           tag := fun d hd => by
            have := h.tag d hd
            cases hn : d.need with
            | none => trivial
            | some q =>
              rw [hn] at this
              rcases this with ⟨k, h1, h2⟩ | ⟨h1, h2⟩
              · exact .inl ⟨k, List.mem_cons_of_mem _ h1, h2⟩
              · exact .inr ⟨List.mem_cons_of_mem _ h1, h2⟩
           agr := ⟨h.agr.n, h.agr.m, h.agr.e, h.agr.r⟩ }
theorem TagOk.mono {ix : Nat} {n : Option (Nat × Obj)} (h : TagOk S ρ H ix n) (hll : S'.ll = S.ll) (hkn : ∀ (k : Nat) (o : SObj), S.h[k]? = some (some o) → ∃ o' : SObj, S'.h[k]? = some (some o')) (hr : ∀ k, k < S.h.length → ρ' k = ρ k) (hH : (ix, none) ∈ S.ll → H.le H') : TagOk S' ρ' H' ix n := by
  cases n with
  | none => trivial
  | some q =>
    rcases h with ⟨k, h1, h2, ob, h3⟩ | ⟨h1, h2⟩
    · exact .inl ⟨k, by rw [hll]; exact h1, by rw [hr k (lt_len h3)]; exact h2, hkn k ob h3⟩
    · exact .inr ⟨by rw [hll]; exact h1, hH h1 _ _ h2⟩
/-- an operation is put off -/
theorem Inv.push (hf : Fine ops bef) {K : St → VC} (h : Inv P W0 M B dp ops fuel listed ((o, ix) :: r) S D Xi a W ρ e H) (hx : ∀ x ∈ Xi, x.ix ≠ ix) (hr1 : ready1 ((o, ix) :: r) o = true) (hap : slotApart ops o ix r = true)
    {v : Value} {need : Option (Nat × Obj)} (hp : Pend P ops ⟨ix, o, v, need⟩ (puts D a)) (hh : holds need W) (ht : TagOk S ρ H ix need)
    (ha : Aft P W0 M R (Xi.map fun x => (x.b, x.obj)) L S ρ e H W K o.dst (puts D a) (fun _ => False) False v W S' ρ' e' H') :
    Inv P W0 M B dp ops fuel listed r S' (⟨ix, o, v, need⟩ :: D) Xi a W ρ' e' H' := by
  have hin : (o, ix) ∈ (o, ix) :: r := List.mem_cons_self ..
  have ho := h.rops _ hin
  have hu : listed[ix]? = some false := h.pu hin hx
  have hrn := h.rnd
  simp only [List.map_cons, List.nodup_cons] at hrn
  have hr2 : ∀ q ∈ directPreds o, q ≠ ix ∧ ∀ p ∈ r, p.2 ≠ q := fun q hq => by
    unfold ready1 at hr1
    rw [List.all_eq_true] at hr1
    have := hr1 q hq
    simp only [List.map_cons, Bool.not_eq_true', List.contains_eq_mem, List.mem_cons, List.mem_map, decide_eq_false_iff_not, not_or, not_exists, not_and] at this
    exact ⟨this.1, fun p hp => this.2 p hp⟩
  refine ⟨h.sz, ?_, fun p hp => h.rops p (List.mem_cons_of_mem _ hp), hrn.2, ?_, ?_, ?_, fun i => ?_, fun x hx' => ?_, h.xnd, h.xbd, h.xal, h.down, ha.rel, ⟨hp, h.pdl⟩, ?_, ?_, ?_, ?_, ?_, ?_, ?_, fun x hx' => ah_put hf h ho hu v hx', h.agr.trans ha.agr, ha.dp.trans h.dp⟩
  · have := h.cnt; simp only [List.length_cons] at this ⊢; omega
  · intro d hd
    rcases List.mem_cons.1 hd with rfl | hd
    · exact ho
    · exact h.dops d hd
  · simp only [List.map_cons, List.nodup_cons]
    refine ⟨fun hm => ?_, h.dnd⟩
    obtain ⟨d, hd, he⟩ := List.mem_map.1 hm
    exact h.disj d hd _ hin he
  · intro d hd p hp'
    rcases List.mem_cons.1 hd with rfl | hd
    · exact fun he => hrn.1 (List.mem_map.2 ⟨p, hp', he.symm⟩)
    · exact h.disj d hd p (List.mem_cons_of_mem _ hp')
  · rw [h.un i]
    constructor
    · rintro (⟨d, hd, he⟩ | ⟨⟨p, hp', he⟩, hn⟩)
      · exact .inl ⟨d, List.mem_cons_of_mem _ hd, he⟩
      · rcases List.mem_cons.1 hp' with rfl | hp'
        · exact .inl ⟨_, List.mem_cons_self .., he⟩
        · exact .inr ⟨⟨p, hp', he⟩, hn⟩
    · rintro (⟨d, hd, he⟩ | ⟨⟨p, hp', he⟩, hn⟩)
      · rcases List.mem_cons.1 hd with rfl | hd
        · exact .inr ⟨⟨_, hin, he⟩, fun x hx' he' => hx x hx' (he'.trans he.symm)⟩
        · exact .inl ⟨d, hd, he⟩
      · exact .inr ⟨⟨p, List.mem_cons_of_mem _ hp', he⟩, hn⟩
  · rcases List.mem_cons.1 (h.xr x hx') with he | hm
    · exact (hx x hx' (congrArg Prod.snd he)).elim
    · exact hm
  · intro d hd
    rcases List.mem_cons.1 hd with rfl | hd
    · exact hh
    · exact h.hold d hd
  · intro d hd
    rcases List.mem_cons.1 hd with rfl | hd
    · exact ht.mono ha.ll ha.kn ha.agr.r (fun _ => ha.hle (fun h => h))
    · exact (h.tag d hd).mono ha.ll ha.kn ha.agr.r (fun _ => ha.hle (fun h => h))
  · intro d hd p hp'
    rcases List.mem_cons.1 hd with rfl | hd
    · unfold slotApart at hap
      rw [List.all_eq_true] at hap
      have := hap p hp'
      simp only [Bool.or_eq_true, List.contains_iff_mem] at this
      exact this
    · exact h.apr d hd p (List.mem_cons_of_mem _ hp')
  · rw [List.pairwise_cons]
    exact ⟨fun d hd => h.apr d hd _ hin, h.apd⟩
  · rw [List.pairwise_cons]
    exact ⟨fun d hd => (h.prr d hd).2 _ hin, h.prd⟩
  · intro d hd
    rcases List.mem_cons.1 hd with rfl | hd
    · exact ⟨fun hq => (hr2 _ hq).1 rfl, fun p hp' hq => (hr2 _ hq).2 p hp' rfl⟩
    · exact ⟨(h.prr d hd).1, fun p hp' => (h.prr d hd).2 p (List.mem_cons_of_mem _ hp')⟩
  · intro p hp' hal t ht' u
    have hne : o.dst ≠ some t := fun he => by
      rcases (hf.alloc ho (h.rops p (List.mem_cons_of_mem _ hp')) hal).2.1 with h1 | h1
      · exact hrn.1 (List.mem_map.2 ⟨p, hp', h1.symm⟩)
      · exact h1 (he.trans ht'.symm)
    rw [ha.tm t hne]
    exact h.al p (List.mem_cons_of_mem _ hp') hal t ht' u
end
end Go.Proofs.Ytcnkljeniffmmaa
