/- A symbolic run of a function's code: drawn regions. Over any program; no program in sight. -/
import Derived.Test.YtcnkljeniffmmaaSxS
namespace Go.Proofs.Ytcnkljeniffmmaa
open Go.RowKit

section
variable {P : Program} {W0 : World} {M : Nat → Prop} {R : Ending → World → Prop} {hi : Hints} {L : List (List Dat → Hp → Prop)} {B : Base} {dp : Nat} {ops : Array Oper} {bef : List Nat} {fuel : Nat} {listed : Array Bool} {r : List (Oper × Nat)} {S S' : St} {D : List Pd} {Xi : List Ah} {a : Act} {W : World} {ρ ρ' : Nat → Nat} {e e' : Env} {H H' : Hp} {o : Oper} {ix rid : Nat} {Q : Exit → Act → World → Prop}

theorem isAlloc_step (h : isAlloc o.op = true) : step P S o = .bad ∨ ∃ cs t len, step P S o = .new cs t len := by
  unfold isAlloc at h
  split at h
  · rename_i t hop
    simp only [step, hop]
    split
    · exact .inr ⟨_, _, _, rfl⟩
    · exact .inl rfl
  · rename_i t x hop
    simp only [step, hop]
    split
    · exact .inr ⟨_, _, _, rfl⟩
    · exact .inl rfl
  · rename_i t n ps hop
    simp only [step, hop]
    split
    · split
      · split
        · split
          · exact .inr ⟨_, _, _, rfl⟩
          · exact .inl rfl
        · exact .inl rfl
      · exact .inl rfl
    · exact .inl rfl
  · cases h
theorem Rel.have {X : List (Nat × Obj)} (hr : Rel W0 M S ρ e X H a W) (d : Option Nat) (v : SV) (h : ∀ t, d = some t → t < a.tmps.size → a.tmps[t]? = some (v.den ρ e)) : Rel W0 M (S.put d v) ρ e X H a W := by
  cases d with
  | none => exact hr
  | some t =>
    refine ⟨⟨by simp [St.put, hr.tm.1], fun t' u ht => ?_⟩, hr.df, hr.mem, hr.pc⟩
    simp only [St.put] at ht
    rw [List.getElem?_set] at ht
    split at ht
    · rename_i he
      subst he
      split at ht
      · rename_i hlt
        simp only [Option.some.injEq] at ht
        subst ht
        exact h t rfl (by rw [hr.tm.1]; exact hlt)
      · cases ht
    · exact hr.tm.2 t' u ht
/-- a block that was made ahead is taken -/
theorem Inv.took (hf : Fine ops bef) {K : St → VC} (h : Inv P W0 M B dp ops fuel listed ((o, ix) :: r) S D Xi a W ρ e H) {x : Ah} (hx : x ∈ Xi) (hxi : x.ix = ix) (hd : (oneOp P hi rid ix S o K).den P W0 M R ρ e H L) :
    ∃ S' ρ' Xi', Inv P W0 M B dp ops fuel listed r S' D Xi' a W ρ' e H ∧ (K S').den P W0 M R ρ' e H L := by
  have hin : (o, ix) ∈ (o, ix) :: r := List.mem_cons_self ..
  have hrn := h.rnd
  simp only [List.map_cons, List.nodup_cons] at hrn
  have hxo : x.o = o := by
    rcases List.mem_cons.1 (h.xr x hx) with he | hm
    · exact congrArg Prod.fst he
    · exact (hrn.1 (List.mem_map.2 ⟨_, hm, hxi⟩)).elim
  have hal := (h.xal x hx).1
  rw [hxo] at hal
  obtain ⟨X1, X2, rfl⟩ := List.append_of_mem hx
  obtain ⟨g1, g2⟩ := h.ah x hx
  rw [hxo] at g1 g2
  rcases isAlloc_step (P := P) (S := S) hal with hst | ⟨cs, t, len, hst⟩
  · unfold oneOp at hd
    rw [hst] at hd
    exact hd.elim
  · have hs := fun w => step_ok (P := P) (W := w) (o := o) h.rel.toT
    simp only [hst] at hs
    have hs' : ∀ w, (execOp (puts D a).eval o).run P w = _ := hs
    unfold oneOp at hd
    rw [hst] at hd
    dsimp only at hd
    split at hd
    · rename_i hfit
      simp only [Bool.and_eq_true] at hfit
      have hd' := hd x.b
      have hobj : x.obj = .cells (SV.dens ρ e cs).toArray t (0, 0) := by
        have h1 := (g1 W).symm.trans (hs' W)
        simp only [Result.ok.injEq] at h1
        have h2 := congrArg (fun w : World => w.heap[W.heap.size]?) h1.2
        simp only [World.alloc] at h2
        simpa using h2
      have hval : x.vf x.b = (match (generalizing := false) len with | none => Value.pointer (some ⟨x.b, 0, none⟩) | some n => .slice (some ⟨x.b, 0, none⟩) n n) := by
        have h1 := (g1 { W with heap := Array.replicate x.b x.obj }).symm.trans (hs' { W with heap := Array.replicate x.b x.obj })
        simp only [Result.ok.injEq] at h1
        have h2 := h1.1
        simp only [Array.size_replicate, Next.value.injEq] at h2
        exact h2
      have hrel := h.rel
      rw [List.map_append, List.map_cons, hobj] at hrel
      have hbd := h.xbd
      rw [List.map_append, List.map_cons, List.nodup_append, List.nodup_cons] at hbd
      have hr1 := hrel.took hfit.1 hfit.2 (fun p hp he => by
        rw [← List.map_append] at hp
        obtain ⟨y, hy, rfl⟩ := List.mem_map.1 hp
        rcases List.mem_append.1 hy with hy | hy
        · exact hbd.2.2 y.b (List.mem_map.2 ⟨y, hy, rfl⟩) x.b (List.mem_cons_self ..) he
        · exact hbd.2.1.1 (List.mem_map.2 ⟨y, hy, he⟩))
      rw [← List.map_append] at hr1
      have hup : upd ρ S.h.length x.b S.h.length = x.b := by unfold upd; rw [if_pos rfl]
      have hnd := h.xnd
      rw [List.map_append, List.map_cons, List.nodup_append, List.nodup_cons] at hnd
      have hxne : ∀ y ∈ X1 ++ X2, y.ix ≠ x.ix := fun y hy he => by
        rcases List.mem_append.1 hy with hy | hy
        · exact hnd.2.2 y.ix (List.mem_map.2 ⟨y, hy, rfl⟩) x.ix (List.mem_cons_self ..) he
        · exact hnd.2.1.1 (List.mem_map.2 ⟨y, hy, he⟩)
      have hsub : ∀ y ∈ X1 ++ X2, y ∈ X1 ++ x :: X2 := fun y hy => by
        rw [List.mem_append] at hy ⊢
        exact hy.imp id (List.mem_cons_of_mem _)
      refine ⟨_, _, X1 ++ X2, ⟨h.sz, ?_, fun p hp => h.rops p (List.mem_cons_of_mem _ hp), hrn.2, h.dops, h.dnd, fun d hd p hp => h.disj d hd p (List.mem_cons_of_mem _ hp), fun i => ?_, fun y hy => ?_, ?_, ?_, fun y hy => h.xal y (hsub y hy), h.down,
        Rel.have hr1 o.dst (match (generalizing := false) len with | none => .ptrK S.h.length 0 | some n => .slK S.h.length 0 n n) (fun t ht hlt => ?_), h.pdl, h.hold, fun d hd => ?_, fun d hd p hp => h.apr d hd p (List.mem_cons_of_mem _ hp), h.apd, h.prd, fun d hd => ⟨(h.prr d hd).1, fun p hp => (h.prr d hd).2 p (List.mem_cons_of_mem _ hp)⟩, fun p hp ha t ht u => ?_, fun y hy => h.ah y (hsub y hy), ?_, ?_⟩, hd'⟩
      · have := h.cnt
        simp only [List.length_cons, List.length_append] at this ⊢
        omega
      · rw [h.un i]
        constructor
        · rintro (hd | ⟨⟨p, hp, he⟩, hn⟩)
          · exact .inl hd
          · rcases List.mem_cons.1 hp with rfl | hp
            · exact (hn x (by simp) (hxi.trans he)).elim
            · exact .inr ⟨⟨p, hp, he⟩, fun y hy => hn y (hsub y hy)⟩
        · rintro (hd | ⟨⟨p, hp, he⟩, hn⟩)
          · exact .inl hd
          · refine .inr ⟨⟨p, List.mem_cons_of_mem _ hp, he⟩, fun y hy => ?_⟩
            rcases List.mem_append.1 hy with hy | hy
            · exact hn y (List.mem_append_left _ hy)
            · rcases List.mem_cons.1 hy with rfl | hy
              · exact fun hh => hrn.1 (List.mem_map.2 ⟨p, hp, he.trans (hh.symm.trans hxi)⟩)
              · exact hn y (List.mem_append_right _ hy)
      · rcases List.mem_cons.1 (h.xr y (hsub y hy)) with he | hm
        · exact (hxne y hy ((congrArg Prod.snd he).trans hxi.symm)).elim
        · exact hm
      · rw [List.map_append, List.nodup_append]
        exact ⟨hnd.1, hnd.2.1.2, fun u hu v hv => hnd.2.2 u hu v (List.mem_cons_of_mem _ hv)⟩
      · rw [List.map_append, List.nodup_append]
        exact ⟨hbd.1, hbd.2.1.2, fun u hu v hv => hbd.2.2 u hu v (List.mem_cons_of_mem _ hv)⟩
      · rw [puts_size] at hlt
        rw [g2 t ht hlt, hval]
        cases len <;> simp only [SV.den, hup]
      · refine (h.tag d hd).mono (by rw [put_ll]) (fun k ob hk => ⟨ob, by rw [put_h]; simp only; rw [List.getElem?_append_left (lt_len hk)]; exact hk⟩) (fun k hk => by unfold upd; rw [if_neg (by omega)]) (fun _ => Hp.le_refl H)
      · have hne : o.dst ≠ some t := fun he => by
          rcases (hf.alloc (h.rops _ hin) (h.rops p (List.mem_cons_of_mem _ hp)) ha).2.1 with h1 | h1
          · exact hrn.1 (List.mem_map.2 ⟨p, hp, h1.symm⟩)
          · exact h1 (he.trans ht.symm)
        rw [put_tm _ _ _ _ hne]
        exact h.al p (List.mem_cons_of_mem _ hp) ha t ht u
      · refine h.agr.trans (Agr.put (S := { S with h := S.h ++ [some { cs := cs, ty := t }] }) ⟨Nat.le_refl _, by simp, fun _ _ => rfl, fun k hk => ?_⟩ _ _)
        unfold upd
        rw [if_neg (by simp only at hk; omega)]
      · rw [put_dp]; exact h.dp
    · exact hd.elim

theorem newConts_all : ∀ {ks : List Nat} {nv : Nat} {l : List (Nat × SObj)} {f : List (Nat × Pk)} {n : Nat}, newConts P S nv ks = some (l, f, n) → ∀ k ∈ ks, ∃ o : SObj, S.h[k]? = some (some o)
  | [], nv, l, f, n, h, p, hp => by simp at hp
  | k :: r, nv, l, f, n, h, p, hp => by
    simp only [newConts] at h
    split at h
    · cases h
    · rename_i ob hob
      split at h
      · rename_i l' f' n' hh
        rcases List.mem_cons.1 hp with rfl | hp
        · exact ⟨ob, join_ok hob⟩
        · exact newConts_all hh p hp
      · cases h
/-- what is asked of an operation that does something -/
theorem draw_out {K : St → VC} (hp : isPure (step P S o) = false) (h : (drawStep P hi rid ops bef o ix r S K).den P W0 M R ρ e H L) :
    aheadAll P bef S ix r = true ∧ (oneOp P hi rid ix S o K).den P W0 M R ρ e H L ∧ ∀ p ∈ S.ll, ordB bef p.1 ix = true ∨
      ((∀ b, touch P hi rid ix S o ρ H b → (∃ k, (∃ ob : SObj, S.h[k]? = some (some ob)) ∧ ρ k = b ∧ p.2 ≠ some k) ∨ ((∃ q, H b = some q) ∧ p.2 ≠ none)) ∧ (turned P hi rid ix S o → p.2 ≠ none)) := by
  unfold drawStep at h
  unfold touch turned
  split at h
  · rename_i hst; rw [hst] at hp; cases hp
  · rename_i hst; rw [hst] at hp; cases hp
  · rename_i hst; rw [hst] at hp; cases hp
  · rename_i cs t len hst
    split at h
    · rename_i hc
      refine ⟨hc, h, fun p hp => .inr ⟨fun b hb => ?_, fun ht => ?_⟩⟩
      · simp only [hst] at hb
      · simp only [hst] at ht
    · exact h.elim
  · rename_i k off cs hst
    split at h
    · rename_i hc
      simp only [Bool.and_eq_true] at hc
      refine ⟨hc.1, h, fun p hp => ?_⟩
      have h2 := hc.2
      unfold llBlk at h2
      rw [List.all_eq_true] at h2
      have h3 := h2 p hp
      simp only [Bool.or_eq_true] at h3
      refine h3.imp id (fun h3 => ⟨fun b hb => ?_, fun ht => ?_⟩)
      · simp only [hst] at hb
        unfold oneOp at h
        rw [hst] at h
        dsimp only at h
        split at h
        · rename_i ob hob
          refine .inl ⟨k, ⟨ob, join_ok hob⟩, hb, fun hh => ?_⟩
          rw [hh] at h3
          simp at h3
        · exact h.elim
      · simp only [hst] at ht
    · exact h.elim
  · rename_i f as ty hst
    cases hix : hi.mods.lookup f with
    | some ixs =>
      rw [hix] at h
      dsimp only at h
      split at h
      · rename_i hc
        rw [Bool.and_eq_true] at hc
        refine ⟨hc.1, h, fun p hp => ?_⟩
        have h2 := hc.2
        unfold llBlk at h2
        rw [List.all_eq_true] at h2
        have h3 := h2 p hp
        simp only [Bool.or_eq_true] at h3
        refine h3.imp id (fun h3 => ⟨fun b hb => ?_, fun ht => ?_⟩)
        · simp only [hst, hix] at hb
          obtain ⟨k, hk, he⟩ := hb
          unfold oneOp at h
          rw [hst] at h
          dsimp only at h
          split at h
          · exact h.elim
          · split at h
            · exact h.elim
            · simp only [hix] at h
              split at h
              · rename_i l fr2 nv2 hnc
                refine .inl ⟨k, newConts_all hnc k hk, he, fun hh => ?_⟩
                rw [hh] at h3
                simp only [Bool.not_eq_true', List.contains_eq_mem, decide_eq_false_iff_not] at h3
                exact h3 hk
              · exact h.elim
        · simp only [hst, hix] at ht
          exact (by simpa using ht.1)
      · exact h.elim
    | none =>
      rw [hix] at h
      dsimp only at h
      split at h
      · rename_i hc
        rw [Bool.and_eq_true] at hc
        refine ⟨hc.1, h, fun p hp => ?_⟩
        have h2 := hc.2
        simp only [Bool.or_eq_true, Bool.not_eq_true'] at h2
        rcases h2 with h2 | h2
        · refine .inr ⟨fun b hb => ?_, fun ht => ?_⟩
          · simp only [hst, hix] at hb
            rw [hb.1] at h2; cases h2
          · simp only [hst] at ht
            rw [ht.2] at h2; cases h2
        · unfold llTurn at h2
          rw [List.all_eq_true] at h2
          have h3 := h2 p hp
          simp only [Bool.or_eq_true] at h3
          refine h3.imp id (fun h3 => ⟨fun b hb => ?_, fun ht hn => ?_⟩)
          · simp only [hst, hix] at hb
            exact .inr ⟨hb.2, fun hn => by rw [hn] at h3; cases h3⟩
          · rw [hn] at h3; cases h3
      · exact h.elim
  · rename_i q as ty turns hst
    split at h
    · rename_i hc
      simp only [Bool.and_eq_true] at hc
      refine ⟨hc.1, h, fun p hp => ?_⟩
      have h2 := hc.2
      rw [Bool.or_eq_true] at h2
      rcases h2 with h2 | h2
      · rw [Bool.and_eq_true] at h2
        refine .inr ⟨fun b hb => ?_, fun ht => ?_⟩
        · simp only [hst] at hb
          rcases hb.1 with h4 | h4
          · rw [h4] at h2; cases h2.1
          · rw [h4] at h2; cases h2.2
        · simp only [hst] at ht
          rcases ht with h4 | h4
          · rw [h4] at h2; cases h2.1
          · rw [h4] at h2; cases h2.2
      · unfold llTurn at h2
        rw [List.all_eq_true] at h2
        have h3 := h2 p hp
        simp only [Bool.or_eq_true] at h3
        refine h3.imp id (fun h3 => ⟨fun b hb => ?_, fun ht hn => ?_⟩)
        · simp only [hst] at hb
          exact .inr ⟨hb.2, fun hn => by rw [hn] at h3; cases h3⟩
        · rw [hn] at h3; cases h3
    · exact h.elim
  · exact h.elim

theorem ev_ll (S : St) (l : List (Nat × Option Nat)) (x : Operand) : ev { S with ll := l } x = ev S x := by cases x <;> rfl
theorem evs_ll (S : St) (l : List (Nat × Option Nat)) (xs : List Operand) : evs { S with ll := l } xs = evs S xs := by
  induction xs with
  | nil => rfl
  | cons x r ih => simp only [evs, ev_ll, ih]
theorem evPs_ll (S : St) (l : List (Nat × Option Nat)) (xs : List (Nat × Operand)) : evPs { S with ll := l } xs = evPs S xs := by
  induction xs with
  | nil => rfl
  | cons x r ih =>
    obtain ⟨i, x⟩ := x
    simp only [evPs, ev_ll, ih]
theorem idxOf_ll (S : St) (l : List (Nat × Option Nat)) (v : SV) : idxOf { S with ll := l } v = idxOf S v := rfl
theorem optLit_ll (S : St) (l : List (Nat × Option Nat)) (v : Option Operand) : optLit { S with ll := l } v = optLit S v := by
  cases v <;> simp only [optLit, natLit, ev_ll, idxOf_ll]
theorem optSx_ll (S : St) (l : List (Nat × Option Nat)) (v : Option Operand) : optSx { S with ll := l } v = optSx S v := by
  cases v <;> simp only [optSx, ev_ll, idxOf_ll]
theorem step_ll (P : Program) (S : St) (l : List (Nat × Option Nat)) (o : Oper) : step P { S with ll := l } o = step P S o := by
  have h1 : ev { S with ll := l } = ev S := funext (ev_ll S l)
  have h2 : idxOf { S with ll := l } = idxOf S := rfl
  unfold step
  simp only [h1, h2, evs_ll, evPs_ll, optLit_ll, optSx_ll]

/-- a canonical step as far as it is silent -/
theorem norm (hf : Fine ops bef) {K : St → VC} (G : Prop)
    (hend : ∀ S D Xi ρ e H, Inv P W0 M B dp ops fuel listed [] S D Xi a W ρ e H → (K S).den P W0 M R ρ e H L → G)
    (hhead : ∀ o ix r S D Xi ρ e H S1, Inv P W0 M B dp ops fuel listed ((o, ix) :: r) S D Xi a W ρ e H → (exOpsD P hi rid ops bef ((o, ix) :: r) S K).den P W0 M R ρ e H L → Inv P W0 M B dp ops fuel listed ((o, ix) :: r) S1 D Xi a W ρ e H →
      ready1 ((o, ix) :: r) o = true → Region.wanted o (yielded ops (puts D a).tmps) = true → (∀ x ∈ Xi, x.ix ≠ ix) → isPure (step P S1 o) = false → (drawStep P hi rid ops bef o ix r S1 fun S => exOpsD P hi rid ops bef r S K).den P W0 M R ρ e H L → G) :
    ∀ (r : List (Oper × Nat)) (S : St) (D : List Pd) (Xi : List Ah) (ρ : Nat → Nat) (e : Env) (H : Hp), Inv P W0 M B dp ops fuel listed r S D Xi a W ρ e H → (exOpsD P hi rid ops bef r S K).den P W0 M R ρ e H L → G := by
  intro r
  induction r with
  | nil => exact fun S D Xi ρ e H h hd => hend S D Xi ρ e H h hd
  | cons p r ih =>
    obtain ⟨o, ix⟩ := p
    intro S D Xi ρ e H h hd
    have hd0 := hd
    rw [exOpsD] at hd
    split at hd
    · exact hd.elim
    · rename_i hr1
      simp only [Bool.not_eq_true, Bool.not_eq_false'] at hr1
      -- an operation that is wanted
      have sub : ∀ S1, Inv P W0 M B dp ops fuel listed ((o, ix) :: r) S1 D Xi a W ρ e H → Region.wanted o (yielded ops (puts D a).tmps) = true → (drawStep P hi rid ops bef o ix r S1 fun S => exOpsD P hi rid ops bef r S K).den P W0 M R ρ e H L → G := fun S1 h1 hw hd1 => by
        by_cases hx : ∃ x ∈ Xi, x.ix = ix
        · obtain ⟨x, hx, hxi⟩ := hx
          have hxo : x.o = o := by
            rcases List.mem_cons.1 (h.xr x hx) with he | hm
            · exact congrArg Prod.fst he
            · have hrn := h.rnd
              simp only [List.map_cons, List.nodup_cons] at hrn
              exact (hrn.1 (List.mem_map.2 ⟨_, hm, hxi⟩)).elim
          have hal := (h.xal x hx).1
          rw [hxo] at hal
          have hnp : isPure (step P S1 o) = false := by
            rcases isAlloc_step (P := P) (S := S1) hal with h2 | ⟨cs, t, len, h2⟩ <;> rw [h2] <;> rfl
          obtain ⟨_, hd2, _⟩ := draw_out hnp hd1
          obtain ⟨S', ρ', Xi', h3, h4⟩ := h1.took hf hx hxi hd2
          exact ih S' D Xi' ρ' e H h3 h4
        · have hx' : ∀ x ∈ Xi, x.ix ≠ ix := fun x hxm he => hx ⟨x, hxm, he⟩
          cases hpu : isPure (step P S1 o) with
          | false => exact hhead o ix r S D Xi ρ e H S1 h hd0 h1 hr1 hw hx' hpu hd1
          | true =>
            -- the state that it is run in
            have key : ∀ S2, Inv P W0 M B dp ops fuel listed ((o, ix) :: r) S2 D Xi a W ρ e H → isPure (step P S2 o) = true → (∀ i off t kn, step P S2 o = .ld i off t kn → (ix, kn.map fun _ => i) ∈ S2.ll) → slotApart ops o ix r = true →
                (oneOp P hi rid ix S2 o fun S => exOpsD P hi rid ops bef r S K).den P W0 M R ρ e H L → G := fun S2 h2 hpu2 hll hap hd2 => by
              obtain ⟨v, need, S', ρ', e', H', g1, g2, g3, g4⟩ := pure_out hpu2 hd2 h2.rel hll
              exact ih S' _ Xi ρ' e' H' (h2.push hf hx' hr1 hap (.inl ⟨hw, g1⟩) g2 g3 g4) g4.den
            unfold drawStep at hd1
            split at hd1
            · rename_i cs v hst
              split at hd1
              · rename_i hap
                exact key S1 h1 hpu (fun i off t kn hk => by rw [hst] at hk; cases hk) hap hd1
              · exact hd1.elim
            · rename_i x vs hst
              split at hd1
              · rename_i hap
                exact key S1 h1 hpu (fun i off t kn hk => by rw [hst] at hk; cases hk) hap hd1
              · exact hd1.elim
            · rename_i i off t kn hst
              split at hd1
              · rename_i hap
                have hst2 : step P { S1 with ll := (ix, kn.map fun _ => i) :: S1.ll } o = step P S1 o := step_ll ..
                refine key _ (h1.ll _) (by rw [hst2]; exact hpu) (fun i' off' t' kn' hk => ?_) hap hd1
                rw [hst2, hst] at hk
                injection hk with e1 e2 e3 e4
                subst e1; subst e4
                exact List.mem_cons_self ..
              · exact hd1.elim
            · rename_i hst; rw [hst] at hpu; cases hpu
            · rename_i hst; rw [hst] at hpu; cases hpu
            · rename_i hst; rw [hst] at hpu; cases hpu
            · rename_i hst; rw [hst] at hpu; cases hpu
            · exact hd1.elim
      -- one that is not
      have unw : ∀ S1, Inv P W0 M B dp ops fuel listed ((o, ix) :: r) S1 D Xi a W ρ e H → Region.wanted o (yielded ops (puts D a).tmps) = false → slotApart ops o ix r = true → (exOpsD P hi rid ops bef r (S1.put o.dst .undef) K).den P W0 M R ρ e H L → (∀ x ∈ Xi, x.ix ≠ ix) → G := fun S1 h1 hw hap hd1 hx => by
        refine ih _ _ Xi ρ e H (h1.push (S' := S1.put o.dst .undef) (ρ' := ρ) (e' := e) (H' := H) (K := fun S => exOpsD P hi rid ops bef r S K) (v := Go.undef) (need := none) (R := R) (L := L) hf hx hr1 hap (.inr ⟨hw, rfl⟩) trivial trivial ⟨put_dp .., (Agr.self S1 ρ e).put _ _, hd1, h1.rel.put o.dst .undef, put_ll .., fun t ht => put_tm _ _ _ _ ht, fun k ob hk => ⟨ob, by rw [put_h]; exact hk⟩, fun _ => Hp.le_refl H, fun _ _ hb _ => hb⟩) hd1
      have guarded : ∀ x ∈ Xi, x.ix = ix → guardOf ops.toList S o = .yes := fun x hx hxi => by
        have hxo : x.o = o := by
          rcases List.mem_cons.1 (h.xr x hx) with he | hm
          · exact congrArg Prod.fst he
          · have hrn := h.rnd
            simp only [List.map_cons, List.nodup_cons] at hrn
            exact (hrn.1 (List.mem_map.2 ⟨_, hm, hxi⟩)).elim
        have hg := (h.xal x hx).2
        rw [hxo] at hg
        simp only [guardOf, hg]
      split at hd
      · rename_i hg
        exact sub S h (guard_yes hg _) hd
      · rename_i hg
        split at hd
        · rename_i hap
          exact unw S h (guard_no h.rel.tm hg) hap hd (fun x hx hxi => by rw [guarded x hx hxi] at hg; cases hg)
        · exact hd.elim
      · rename_i c want hg
        have hwc := guard_br h.rel.tm hg
        obtain ⟨S1, h1, h2, h5⟩ := branch_out hd h.rel
        have hw : (if want then c else Sb.not c).den e = (c.den e == want) := by
          cases want <;> simp [Sb.den]
        rw [hw] at h5
        rcases h5 with ⟨h5, h6⟩ | ⟨h5, h6⟩
        · exact sub S1 (h.sim h2 h1) (by rw [hwc, h5]) h6
        · split at h6
          · rename_i hap
            exact unw S1 (h.sim h2 h1) (by rw [hwc, h5]) hap h6 (fun x hx hxi => by rw [guarded x hx hxi] at hg; cases hg)
          · exact h6.elim
      · exact hd.elim
end
end Go.Proofs.Ytcnkljeniffmmaa
