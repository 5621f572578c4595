/- A symbolic run of a function's code: a list of operations. Over any program; no program in sight. -/
import Derived.Test.YtcnkljeniffmmaaSxJ
namespace Go.Proofs.Ytcnkljeniffmmaa
open Go.RowKit

section
variable {P : Program} {W0 : World} {M : Nat → Prop} {R : Ending → World → Prop} {hi : Hints} {S : St} {ρ : Nat → Nat} {e : Env} {X : List (Nat × Obj)} {H : Hp} {L : List (List Dat → Hp → Prop)} {a : Act} {W : World}

theorem RowAt.mono {H K : Hp} {p : Option (Nat × Nat)} {off : Int} {cs : List Value} (h : RowAt H p off cs) (hk : H.le K) : RowAt K p off cs := by
  obtain ⟨b, o, h1, C, T, fz, h2, h3⟩ := h
  exact ⟨b, o, h1, C, T, fz, hk b _ h2, h3⟩
/-- states that differ in what is known of tests alone -/
def Sim (S S' : St) : Prop := S'.dp = S.dp ∧ S'.tm = S.tm ∧ S'.h = S.h ∧ S'.nv = S.nv ∧ S'.ll = S.ll
theorem Sim.refl (S : St) : Sim S S := ⟨rfl, rfl, rfl, rfl, rfl⟩
theorem Sim.trans {A B C : St} (h : Sim A B) (k : Sim B C) : Sim A C := ⟨k.1.trans h.1, k.2.1.trans h.2.1, k.2.2.1.trans h.2.2.1, k.2.2.2.1.trans h.2.2.2.1, k.2.2.2.2.trans h.2.2.2.2⟩
/-- where the run began -/
structure Base where
  n : Nat
  m : Nat
  ρ : Nat → Nat
  e : Env
structure Agr (B : Base) (S : St) (ρ : Nat → Nat) (e : Env) : Prop where
  n : B.n ≤ S.nv
  m : B.m ≤ S.h.length
  e : ∀ i, i < B.n → e i = B.e i
  r : ∀ k, k < B.m → ρ k = B.ρ k
theorem Agr.sim {B : Base} {S S' : St} {ρ : Nat → Nat} {e : Env} (h : Agr B S ρ e) (s : Sim S S') : Agr B S' ρ e := ⟨by rw [s.2.2.2.1]; exact h.n, by rw [s.2.2.1]; exact h.m, h.e, h.r⟩
theorem Agr.put {B : Base} {S : St} {ρ : Nat → Nat} {e : Env} (h : Agr B S ρ e) (d : Option Nat) (v : SV) : Agr B (S.put d v) ρ e := by cases d <;> exact ⟨h.n, h.m, h.e, h.r⟩
theorem Agr.next {B : Base} {S : St} {ρ : Nat → Nat} {e e' : Env} (h : Agr B S ρ e) {n : Nat} (hn : S.nv ≤ n) (he : ∀ i, i < S.nv → e' i = e i) : Agr B { S with nv := n } ρ e' :=
  ⟨Nat.le_trans h.n hn, h.m, fun i hi => (he i (Nat.lt_of_lt_of_le hi h.n)).trans (h.e i hi), h.r⟩
theorem setObjs_len : ∀ (l : List (Nat × SObj)) (S : St), (setObjs S l).h.length = S.h.length
  | [], _ => rfl
  | (k, q) :: r, S => by rw [setObjs, setObjs_len r]; simp [St.setObj]
theorem Agr.objs {B : Base} {S : St} {ρ : Nat → Nat} {e : Env} (h : Agr B S ρ e) (l : List (Nat × SObj)) : Agr B (setObjs S l) ρ e :=
  ⟨by rw [(setObjs_rest l S).2.1]; exact h.n, by rw [setObjs_len]; exact h.m, h.e, h.r⟩
theorem chks_out : ∀ {cs : List Sb} {S : St} {K : St → VC}, (chks S cs K).den P W0 M R ρ e H L → Rel W0 M S ρ e X H a W →
    ∃ S', Rel W0 M S' ρ e X H a W ∧ Sim S S' ∧ (∀ c ∈ cs, c.den e = true) ∧ (K S').den P W0 M R ρ e H L
  | [], S, K, h, hr => ⟨S, hr, Sim.refl S, fun c hc => by simp at hc, h⟩
  | c :: r, S, K, h, hr => by
    simp only [chks] at h
    split at h
    · rename_i hd
      obtain ⟨S', h1, h2, h5, h6⟩ := chks_out h hr
      refine ⟨S', h1, h2, fun c' hc' => ?_, h6⟩
      rcases List.mem_cons.1 hc' with rfl | hc'
      · exact dec_ok hr.pc hd
      · exact h5 c' hc'
    · obtain ⟨hp, hk⟩ := h
      have hc := (Sb.prop_iff e c).1 hp
      obtain ⟨S', h1, h2, h5, h6⟩ := chks_out (hk hp) (hr.know hc)
      refine ⟨S', h1, h2, fun c' hc' => ?_, h6⟩
      rcases List.mem_cons.1 hc' with rfl | hc'
      · exact hc
      · exact h5 c' hc'
theorem branch_out : ∀ {c : Sb} {A B : St → VC}, (branch S c A B).den P W0 M R ρ e H L → Rel W0 M S ρ e X H a W →
    ∃ S', Rel W0 M S' ρ e X H a W ∧ Sim S S' ∧ ((c.den e = true ∧ (A S').den P W0 M R ρ e H L) ∨ (c.den e = false ∧ (B S').den P W0 M R ρ e H L))
  | .not c, A, B, h, hr => by
    obtain ⟨S', h1, h2, h5⟩ := branch_out (c := c) (A := B) (B := A) h hr
    refine ⟨S', h1, h2, ?_⟩
    rcases h5 with ⟨h5, h6⟩ | ⟨h5, h6⟩
    · exact .inr ⟨by simp [Sb.den, h5], h6⟩
    · exact .inl ⟨by simp [Sb.den, h5], h6⟩
  | .k c, A, B, h, hr | .v c, A, B, h, hr | .lt c _, A, B, h, hr | .le c _, A, B, h, hr | .eq c _, A, B, h, hr | .beq c _, A, B, h, hr | .rng c _, A, B, h, hr | .idx c _, A, B, h, hr | .isp c, A, B, h, hr => by
    simp only [branch] at h
    split at h
    · rename_i hd
      exact ⟨S, hr, Sim.refl S, .inl ⟨dec_ok hr.pc hd, h⟩⟩
    · rename_i hd
      exact ⟨S, hr, Sim.refl S, .inr ⟨dec_ok hr.pc hd, h⟩⟩
    · obtain ⟨ht, hf⟩ := h
      rw [Sb.prop_iff] at ht hf
      cases hc : Sb.den e _ with
      | true => exact ⟨_, hr.know hc, ⟨rfl, rfl, rfl, rfl, rfl⟩, .inl ⟨rfl, ht hc⟩⟩
      | false => exact ⟨_, hr.know hc, ⟨rfl, rfl, rfl, rfl, rfl⟩, .inr ⟨rfl, hf (by rw [hc]; exact Bool.false_ne_true)⟩⟩
theorem cases1_out {x : Sx} {d : Option Nat} {K : St → VC} : ∀ {vs : List SV} {j i : Nat} {v : SV}, (cases1 S x d K j vs).den P W0 M R ρ e H L → Rel W0 M S ρ e X H a W → vs[i]? = some v → x.den e = ((j + i : Nat) : Int) →
    ∃ S', Rel W0 M S' ρ e X H a W ∧ Sim S S' ∧ (K (S'.put d v)).den P W0 M R ρ e H L
  | [], j, i, v, _, _, hv, _ => by simp at hv
  | u :: r, j, i, v, h, hr, hv, hx => by
    simp only [cases1] at h
    obtain ⟨h1, h2⟩ := h
    cases i with
    | zero =>
      simp only [List.getElem?_cons_zero, Option.some.injEq] at hv
      subst hv
      have hc : (Sb.eq x (.k j)).prop e := by simp only [Sb.prop, Sx.den]; rw [hx]; simp
      exact ⟨_, hr.know ((Sb.prop_iff e _).1 hc), ⟨rfl, rfl, rfl, rfl, rfl⟩, h1 hc⟩
    | succ i => exact cases1_out (j := j + 1) h2 hr (by simpa using hv) (by rw [hx]; congr 1; omega)

/-- what a step leaves to what comes behind it -/
def Goes (P : Program) (W0 : World) (M : Nat → Prop) (R : Ending → World → Prop) (X : List (Nat × Obj)) (L : List (List Dat → Hp → Prop)) (B : Base) (dp : Nat) (K : St → VC) (next : Act → World → Prop) : Prop :=
  ∀ (S : St) (ρ : Nat → Nat) (e : Env) (H : Hp) (a : Act) (W : World), S.dp = dp → Agr B S ρ e → (K S).den P W0 M R ρ e H L → Rel W0 M S ρ e X H a W → next a W

theorem wp_of_run {o : Oper} {next : Act → World → Prop} {Q : Exit → Act → World → Prop} {v : Value} {W' : World} (h : (execOp a.eval o).run P W = .ok (.value v) W') (hn : next (a.put o.dst v) W') : o.wp P a W next Q := by
  unfold Oper.wp
  rw [h]
  exact hn
theorem newConts_in : ∀ {ks : List Nat} {nv : Nat} {l : List (Nat × SObj)} {f : List (Nat × Pk)} {n : Nat}, newConts P S nv ks = some (l, f, n) → ∀ p ∈ l, ∃ o, S.h[p.1]? = some (some o)
  | [], nv, l, f, n, h, p, hp => by
    simp only [newConts, Option.some.injEq, Prod.mk.injEq] at h
    obtain ⟨rfl, _⟩ := h
    simp at hp
  | k :: r, nv, l, f, n, h, p, hp => by
    simp only [newConts] at h
    split at h
    · cases h
    · rename_i ob hob
      split at h
      · rename_i l' f' n' hh
        simp only [Option.some.injEq, Prod.mk.injEq] at h
        obtain ⟨rfl, _⟩ := h
        rcases List.mem_cons.1 hp with rfl | hp
        · exact ⟨ob, by
            cases hq : S.h[k]? with
            | none => rw [hq] at hob; cases hob
            | some q => rw [hq] at hob; simp only [Option.join_some] at hob; rw [hob]⟩
        · exact newConts_in hh p hp
      · cases h
/-- behind a call or an operation that is left to the prover -/
theorem cls_out (hr : Rel W0 M S ρ e X H a W) {W' : World} {cls : CC} {K : Hp → Prop} (hm : ∀ l, cls = .mods l → ∀ p ∈ l, ∃ o, S.h[p.1]? = some (some o)) (h : cls.post W0 M ρ e H W W' K) :
    ∃ H', Rel W0 M (match cls with | .mods l => setObjs S l | _ => S) ρ e X H' a W' ∧ K H' := by
  cases cls with
  | same => exact ⟨H, hr.ext h.1, h.2⟩
  | fresh =>
    obtain ⟨hx, D, hD, hfresh, hk⟩ := h
    have hsep : ∀ b o, D b = some o → H b = none := fun b o hb => by
      cases hh : H b with
      | none => rfl
      | some q => have := heap_lt (hr.mem.sub b q hh); have := hfresh b o hb; omega
    have h1 : H.le (fun b => (H b).orElse fun _ => D b) := fun b o hb => by simp [hb]
    have h2 : D.le (fun b => (H b).orElse fun _ => D b) := fun b o hb => by simp [hsep b o hb, hb]
    refine ⟨_, (hr.ext hx).hold (fun b o hb => ?_) (fun b o hb => ?_), hk _ h1 h2⟩
    · cases hh : H b with
      | none => simp only [hh, Option.orElse_none] at hb; exact hD b o hb
      | some q => simp only [hh, Option.orElse_some] at hb; rw [← hb]; exact (hr.ext hx).mem.sub b q hh
    · cases hh : H b with
      | none =>
        simp only [hh, Option.orElse_none] at hb
        have hge := hfresh b o hb
        refine .inr ⟨fun k ob hk he => ?_, fun p hp he => ?_⟩
        · have := heap_lt (hr.mem.kn k ob hk); omega
        · have := heap_lt (hr.mem.xk p hp); omega
      | some q => exact .inl ⟨q, rfl⟩
  | mods l =>
    obtain ⟨h1, h2, h3⟩ := h
    exact ⟨H, hr.mods (hm l rfl) h1 h2, h3⟩
  | turn =>
    obtain ⟨H', h1, h2⟩ := h
    exact ⟨H', hr.turn h1, h2⟩
theorem cls_plain (hr : Rel W0 M S ρ e X H a W) {W' : World} {cls : CC} {K : Hp → Prop} (hn : ∀ l, cls ≠ .mods l) (h : cls.post W0 M ρ e H W W' K) :
    ∃ H', Rel W0 M S ρ e X H' a W' ∧ K H' := by
  obtain ⟨H', h1, h2⟩ := cls_out hr (fun l hl => (hn l hl).elim) h
  refine ⟨H', ?_, h2⟩
  cases cls with
  | mods l => exact (hn l rfl).elim
  | _ => exact h1
theorem ite_plain (b c : Bool) (l : List (Nat × SObj)) : (if b = true then CC.turn else if c = true then CC.fresh else CC.same) ≠ .mods l := by
  split
  · simp
  · split <;> simp
theorem oneOp_ok {rid ix : Nat} {o : Oper} {K : St → VC} {next : Act → World → Prop} {Q : Exit → Act → World → Prop} (h : (oneOp P hi rid ix S o K).den P W0 M R ρ e H L) (hr : Rel W0 M S ρ e X H a W)
    {B : Base} (hb : Agr B S ρ e) (hk : Goes P W0 M R X L B S.dp K next) : o.wp P a W next Q := by
  have hs := step_ok (P := P) (W := W) (o := o) hr.toT
  unfold oneOp at h
  split at h
  · rename_i cs v hst
    rw [hst] at hs
    obtain ⟨S', h1, h2, h5, h6⟩ := chks_out h hr
    exact wp_of_run (hs h5) (hk _ _ _ _ _ _ (by rw [put_dp, h2.1]) ((hb.sim h2).put _ _) h6 (h1.put _ _))
  · rename_i cs t len hst
    rw [hst] at hs
    split at h
    · rename_i hf
      simp only [Bool.and_eq_true] at hf
      have hk' := h W.heap.size
      have hr' := (hr.alloc hf.1 hf.2 t)
      have hup : upd ρ S.h.length W.heap.size S.h.length = W.heap.size := by unfold upd; rw [if_pos rfl]
      refine wp_of_run hs (hk _ _ _ _ _ _ (by rw [put_dp]) (Agr.put (S := { S with h := S.h ++ [some { cs := cs, ty := t }] }) ⟨hb.n, by simp; have := hb.m; omega, hb.e, fun k hk => (by unfold upd; rw [if_neg (by have := hb.m; omega)]; exact hb.r k hk)⟩ _ _) hk' ?_)
      cases len with
      | none =>
        have := hr'.put o.dst (.ptrK S.h.length 0)
        simp only [SV.den, hup] at this
        exact this
      | some n =>
        have := hr'.put o.dst (.slK S.h.length 0 n n)
        simp only [SV.den, hup] at this
        exact this
    · exact h.elim
  · rename_i k off cs hst
    rw [hst] at hs
    split at h
    · rename_i ob hob
      obtain ⟨k1, k2⟩ := kn_of hr hob
      obtain ⟨_, hrun⟩ := hs ob k1 k2
      have hr' := (hr.store k1 (setCells ob.cs off cs)).put o.dst .undef
      unfold Oper.wp
      rw [hrun]
      exact hk _ _ _ _ _ _ (by rw [put_dp]; rfl) (Agr.put (S := S.setObj k { ob with cs := setCells ob.cs off cs }) ⟨hb.n, by simp [St.setObj]; exact hb.m, hb.e, hb.r⟩ _ _) h hr'
    · exact h.elim
  · rename_i i off t kn hst
    rw [hst] at hs
    split at h
    · rename_i j
      split at h
      · rename_i ob hob
        split at h
        · rename_i v hv
          obtain ⟨k1, k2⟩ := kn_of hr hob
          exact wp_of_run (hs ob v k1 k2 hv) (hk _ _ _ _ _ _ (by rw [put_dp]) (hb.put _ _) h (hr.put _ _))
        · exact h.elim
      · exact h.elim
    · split at h
      · exact h.elim
      · rename_i zs hz
        dsimp only at h
        split at h
        · exact h.elim
        · rename_i hff
          simp only [Bool.not_eq_true, Bool.not_eq_false', Bool.and_eq_true, decide_eq_true_eq] at hff
          have hpl : ∀ (l : List Pt) (n : Nat), (mkP n l).1.length = l.length := by
            intro l
            induction l with
            | nil => intro n; rfl
            | cons p r ih => intro n; cases p <;> simp [mkP, ih]
          have hlen : (mkP S.nv (zs.map ptOf)).1.length = zs.length := by rw [hpl]; simp
          split at h
          · rename_i hagg
            obtain ⟨e', hu, hrow, hd⟩ := exL_out h
            have hold := hu.old hff.1.2
            have hr' := (hr.congr hff.1.1 hold (fun _ _ => rfl)).next (mkP S.nv (zs.map ptOf)).2.2
            refine wp_of_run (hs zs _ hz (by rw [dens_len, hlen]) (hrow.mono hr.mem.sub) (.agg (SV.dens ρ e' (mkP S.nv (zs.map ptOf)).1).toArray) (by rw [if_pos hagg])) (hk _ _ _ _ _ _ (by rw [put_dp]) ((hb.next hff.2 hold).put _ _) hd ?_)
            exact hr'.put o.dst (.agg (mkP S.nv (zs.map ptOf)).1)
          · rename_i hagg
            split at h
            · rename_i v hq
              obtain ⟨e', hu, hrow, hd⟩ := exL_out h
              have hold := hu.old hff.1.2
              have hr' := (hr.congr hff.1.1 hold (fun _ _ => rfl)).next (mkP S.nv (zs.map ptOf)).2.2
              have hl1 : zs.length = 1 := by rw [← hlen, hq]; rfl
              refine wp_of_run (hs zs _ hz (by rw [dens_len]; simp [hl1]) (hrow.mono hr.mem.sub) (v.den ρ e') (by rw [if_neg hagg]; rfl)) (hk _ _ _ _ _ _ (by rw [put_dp]) ((hb.next hff.2 hold).put _ _) hd ?_)
              exact hr'.put o.dst v
            · exact h.elim
  · rename_i x vs hst
    rw [hst] at hs
    obtain ⟨hp, hc⟩ := h
    have hc' := hc hp
    simp only [Sb.prop, Sx.den] at hp
    have hlt : (x.den e).toNat < vs.length := by omega
    obtain ⟨v, hv⟩ : ∃ v, vs[(x.den e).toNat]? = some v := ⟨_, List.getElem?_eq_getElem hlt⟩
    obtain ⟨S', h1, h2, h3⟩ := cases1_out hc' hr hv (by simp; omega)
    exact wp_of_run (hs _ v (by omega) hv) (hk _ _ _ _ _ _ (by rw [put_dp, h2.1]) ((hb.sim h2).put _ _) h3 (h1.put _ _))
  · rename_i f as ty hst
    rw [hst] at hs
    split at h
    · exact h.elim
    · rename_i pat fr nv hpat
      split at h
      · exact h.elim
      · rename_i hff
        simp only [Bool.not_eq_true, Bool.not_eq_false', Bool.and_eq_true, decide_eq_true_eq] at hff
        unfold Oper.wp
        rw [hs]
        split at h
        · rename_i ixs hix
          split at h
          · rename_i l fr2 nv2 hnc
            split at h
            · exact h.elim
            · rename_i hf2
              simp only [Bool.not_eq_true, Bool.not_eq_false', Bool.and_eq_true, decide_eq_true_eq] at hf2
              refine (h W hr.now (KN_ok hr (knOf_ok S as))).mono fun x W' hx => ?_
              obtain ⟨e', hu, rfl, hpost⟩ := exL_out hx
              have hold := hu.old (frFits_app hff.1.2 hf2.1)
              have hr' := (hr.congr hff.1.1 hold (fun _ _ => rfl)).next nv2
              obtain ⟨H', hr2, hd⟩ := cls_out hr' (cls := .mods l) (fun l' hl' p hp => by injection hl' with hl'; subst hl'; exact newConts_in hnc p hp) hpost
              exact hk _ _ _ _ _ _ (by rw [put_dp]; exact (setObjs_rest l _).2.2.2) (((hb.next hf2.2 hold).objs l).put _ _) hd (hr2.put _ _)
          · exact h.elim
        · refine (h W hr.now (KN_ok hr (knOf_ok S as))).mono fun x W' hx => ?_
          obtain ⟨e', hu, rfl, hpost⟩ := exL_out hx
          have hold := hu.old hff.1.2
          have hr' := (hr.congr hff.1.1 hold (fun _ _ => rfl)).next nv
          obtain ⟨H', hr2, hd⟩ := cls_plain hr' (ite_plain _ _) hpost
          exact hk _ _ _ _ _ _ (by rw [put_dp]) ((hb.next hff.2 hold).put _ _) hd (hr2.put _ _)
  · rename_i q as ty turns hst
    rw [hst] at hs
    split at h
    · obtain ⟨W', hrun, hpost⟩ := h W hr.now (KN_ok hr (knOf_ok S as))
      obtain ⟨H', hr2, hd⟩ := cls_out hr (cls := .turn) (fun l' hl' => by cases hl') hpost
      unfold Oper.wp
      rw [hs, hrun]
      exact hk _ _ _ _ _ _ (by rw [put_dp]) (hb.put _ _) hd (hr2.put _ _)
    · rename_i ty'
      split at h
      · exact h.elim
      · rename_i pat fr nv hpat
        split at h
        · exact h.elim
        · rename_i hff
          simp only [Bool.not_eq_true, Bool.not_eq_false', Bool.and_eq_true, decide_eq_true_eq] at hff
          obtain ⟨e', hu, W', hrun, hpost⟩ := exL_out (h W hr.now (KN_ok hr (knOf_ok S as)))
          have hold := hu.old hff.1.2
          have hr' := (hr.congr hff.1.1 hold (fun _ _ => rfl)).next nv
          obtain ⟨H', hr2, hd⟩ := cls_plain hr' (ite_plain _ _) hpost
          unfold Oper.wp
          rw [hs, hrun]
          exact hk _ _ _ _ _ _ (by rw [put_dp]) ((hb.next hff.2 hold).put _ _) hd (hr2.put _ _)
  · exact h.elim
end
end Go.Proofs.Ytcnkljeniffmmaa
