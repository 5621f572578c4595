/- A symbolic run of a function's code: what the run leaves to prove is enough. Over any program; no program in sight. -/
import Derived.Test.YtcnkljeniffmmaaSxN
import Derived.Test.YtcnkljeniffmmaaSxU
namespace Go.Proofs.Ytcnkljeniffmmaa
open Go.RowKit
section
variable {P : Program} {W0 : World} {M : Nat → Prop} {R : Ending → World → Prop} {hi : Hints}

theorem exC_ok : ∀ (c : Code) {S : St} {K : Xt → St → VC} {L : List (List Dat → Hp → Prop)} {Q : Exit → Act → World → Prop} {B : Base} {ρ : Nat → Nat} {e : Env} {H : Hp} {a : Act} {W : World},
    (exC P hi c S K).den P W0 M R ρ e H L → Rel W0 M S ρ e [] H a W → L.length = S.dp → Agr B S ρ e → GoesX P W0 M R L B K Q → c.wp P Q a W := by
  intro c
  induction c with
  | skip =>
    intro S K L Q B ρ e H a W h hr hl hb hk
    exact wp_skip (hk .normal S ρ e H L a W ⟨[], rfl⟩ hl hb h hr)
  | exit id =>
    intro S K L Q B ρ e H a W h hr hl hb hk
    exact wp_exit (hk (.exit id) S ρ e H L a W ⟨[], rfl⟩ hl hb h hr)
  | ret =>
    intro S K L Q B ρ e H a W h hr hl hb hk
    exact wp_ret (hk .ret S ρ e H L a W ⟨[], rfl⟩ hl hb h hr)
  | seq x y ihx ihy =>
    intro S K L Q B ρ e H a W h hr hl hb hk
    refine wp_seq (ihx h hr hl hb (fun z S' ρ' e' H' L' a' W' hp hl' hb' hd hr' => ?_))
    cases z with
    | normal => exact ihy hd hr' hl' hb' (hk.more hp)
    | ret => exact hk .ret S' ρ' e' H' L' a' W' hp hl' hb' hd hr'
    | exit i => exact hk (.exit i) S' ρ' e' H' L' a' W' hp hl' hb' hd hr'
  | cond cc x y ihx ihy =>
    intro S K L Q B ρ e H a W h hr hl hb hk
    simp only [exC] at h
    split at h
    · rename_i sb hsb
      obtain ⟨S', h1, h2, h5⟩ := branch_out h hr
      have hev := ev_ok hr.tm hsb
      rcases h5 with ⟨h5, h6⟩ | ⟨h5, h6⟩
      · refine wp_cond_true (by rw [hev]; simp only [SV.den, h5]) (ihx h6 h1 (by rw [h2.1]; exact hl) (hb.sim h2) hk)
      · refine wp_cond_false (by rw [hev]; simp only [SV.den, h5]) (ihy h6 h1 (by rw [h2.1]; exact hl) (hb.sim h2) hk)
    · exact h.elim
  | block id b ih =>
    intro S K L Q B ρ e H a W h hr hl hb hk
    refine wp_block (ih h hr hl hb (fun z S' ρ' e' H' L' a' W' hp hl' hb' hd hr' => ?_))
    cases z with
    | normal => exact hk .normal S' ρ' e' H' L' a' W' hp hl' hb' hd hr'
    | ret => exact hk .ret S' ρ' e' H' L' a' W' hp hl' hb' hd hr'
    | exit i =>
      dsimp only at hd
      simp only [Xt.toExit, Exit.inBlock]
      split
      · rename_i hi'
        rw [if_pos hi'] at hd
        exact hk .normal S' ρ' e' H' L' a' W' hp hl' hb' hd hr'
      · rename_i hi'
        rw [if_neg hi'] at hd
        exact hk (.exit i) S' ρ' e' H' L' a' W' hp hl' hb' hd hr'
  | region id ops draw =>
    intro S K L Q B ρ e H a W h hr hl hb hk
    simp only [exC] at h
    have hg : Goes P W0 M R [] L B S.dp (K .normal) (Q .normal) := fun S' ρ' e' H' a' W' hdp hb' h' hr' => hk .normal S' ρ' e' H' L a' W' ⟨[], rfl⟩ (by rw [hdp]; exact hl) hb' h' hr'
    split at h
    · rename_i hd
      subst hd
      exact exDraw_ok h hr hb hg
    · rename_i hd
      simp only [Bool.not_eq_true] at hd
      subst hd
      have := exOps_ok h hr hb hg
      have hm : (ops.toList.zipIdx.map (·.1)) = ops.toList := by
        simp [List.zipIdx_map_fst]
      rw [hm] at this
      exact wp_region_list this
  | loop b ih =>
    intro S K L Q B ρ e H a W h hr hl hb hk
    simp only [exC] at h
    split at h
    · exact h.elim
    · split at h
      · exact h.elim
      · rename_i id _ _ n hh
        refine wp_loop_rounds n ?_
        have key : ∀ (n : Nat) {S : St} {L' : List (List Dat → Hp → Prop)} {ρ : Nat → Nat} {e : Env} {H : Hp} {a : Act} {W : World}, (VC.den P W0 M R (Nat.rec (motive := fun _ => St → VC) (fun _ => .fail 10)
            (fun _ again S => exC P hi b S fun x S => match x with | .normal => again S | x => K x S) n S) ρ e H L') → Rel W0 M S ρ e [] H a W → L'.length = S.dp → Agr B S ρ e → (∃ pre, L' = pre ++ L) → Code.rounds P b Q n a W := by
          intro n
          induction n with
          | zero => intro S L' ρ e H a W h _ _ _ _; exact h.elim
          | succ n ihn =>
            intro S L' ρ e H a W h hr hl hb hp
            rw [rounds_succ]
            refine ih h hr hl hb (fun z S' ρ' e' H' L2 a' W' hp2 hl' hb' hd hr' => ?_)
            obtain ⟨p1, rfl⟩ := hp
            obtain ⟨p2, rfl⟩ := hp2
            cases z with
            | normal => exact ihn hd hr' hl' hb' ⟨p2 ++ p1, by rw [List.append_assoc]⟩
            | ret => exact hk .ret S' ρ' e' H' _ a' W' ⟨p2 ++ p1, by rw [List.append_assoc]⟩ hl' hb' hd hr'
            | exit i => exact hk (.exit i) S' ρ' e' H' _ a' W' ⟨p2 ++ p1, by rw [List.append_assoc]⟩ hl' hb' hd hr'
        exact key n h hr hl hb ⟨[], rfl⟩
      · rename_i id _ _ slots blks hh
        split at h
        · rename_i bl tv hbl htv
          split at h
          · exact h.elim
          · rename_i bv hbv
            split at h
            · exact h.elim
            · rename_i ini hini
              split at h
              · exact h.elim
              · rename_i hff
                simp only [Bool.not_eq_true, Bool.not_eq_false', Bool.and_eq_true, decide_eq_true_eq] at hff
                obtain ⟨⟨hf, hfr⟩, hnv⟩ := hff
                obtain ⟨S1, r1, sim1, hn1, h1⟩ := chks_out h hr
                obtain ⟨I, μ, hI0, hbody⟩ := h1
                have s1dp := sim1.1
                obtain ⟨e0, u0, rel0, d0⟩ := mkHead (S := S) (S2 := S) (ρ := ρ) (ρ2 := ρ) (e := e) (e2 := e) (bl := bl) (ts := slots.map (·.1)) (wr := wrote b) (n := slots.length) (dp := S1.dp + 1) hf hr.pc hr htv hbv (by simp) hini hn1 (fun _ _ => rfl) (fun _ _ => rfl) rfl
                  (fun t v ht => ⟨v, (forget_get.2 ht).1, fun _ _ => rfl⟩) (fun k o ho => ⟨o, ho, rfl, .inr (fun _ _ => rfl)⟩)
                refine wp_loop_ix (fun n a W => ∃ e' H', UpdRel e (mkQ S.nv (slots.map (·.2) ++ (bl.map (·.2)).flatten)).2.1 e' ∧
                  Rel W0 M { S with tm := headTms (forget S.tm (wrote b ++ slots.map (·.1))) (slots.map (·.1)) ((mkQ S.nv (slots.map (·.2) ++ (bl.map (·.2)).flatten)).1.take slots.length), h := headBlks S.h bl ((mkQ S.nv (slots.map (·.2) ++ (bl.map (·.2)).flatten)).1.drop slots.length), nv := (mkQ S.nv (slots.map (·.2) ++ (bl.map (·.2)).flatten)).2.2.2, dp := S1.dp + 1 } ρ e' [] H' a W ∧
                  I ((mkQ S.nv (slots.map (·.2) ++ (bl.map (·.2)).flatten)).2.2.1.map (SD.den ρ e')) H' ∧ μ ((mkQ S.nv (slots.map (·.2) ++ (bl.map (·.2)).flatten)).2.2.1.map (SD.den ρ e')) = n)
                  ⟨_, e0, H, u0, rel0, by rw [d0]; exact hI0, rfl⟩ ?_
                rintro n a1 W1 ⟨e1, H1, u1, rel1, hI1, rfl⟩
                have hb1 := allL_out u1 (hbody H1) hI1
                have hold1 := u1.old (mkQ_fits _ S.nv S.nv (Nat.le_refl _))
                refine ih hb1 rel1 (by simp [hl, s1dp]) (B := ⟨S.nv, S.h.length, ρ, e⟩) ⟨hnv, by simp [headBlks_len], hold1, fun _ _ => rfl⟩ (fun z S2 ρ2 e2 H2 L2 a2 W2 hp2 hl2 hb2 hd2 hr2 => ?_)
                obtain ⟨pre, rfl⟩ := hp2
                have hB2 : Agr B S2 ρ2 e2 := ⟨Nat.le_trans hb.n hb2.n, Nat.le_trans hb.m hb2.m, fun i hi' => (hb2.e i (Nat.lt_of_lt_of_le hi' hb.n)).trans (hb.e i hi'), fun k hk' => (hb2.r k (Nat.lt_of_lt_of_le hk' hb.m)).trans (hb.r k hk')⟩
                have hK : ∀ x, (K x S2).den P W0 M R ρ2 e2 H2 (pre ++ (fun l K => I l K ∧ μ l < μ ((mkQ S.nv (slots.map (·.2) ++ (bl.map (·.2)).flatten)).2.2.1.map (SD.den ρ e1))) :: L) → Q x.toExit a2 W2 := fun x hx =>
                  hk x S2 ρ2 e2 H2 _ a2 W2 ⟨pre ++ [_], by rw [List.append_assoc]; rfl⟩ hl2 hB2 hx hr2
                cases z with
                | ret => exact hK .ret hd2
                | exit i => exact hK (.exit i) hd2
                | normal =>
                  simp only [Xt.toExit, Exit.then]
                  dsimp only at hd2
                  split at hd2
                  · rename_i tv2 bv2 htv2 hbv2
                    split at hd2
                    · exact hd2.elim
                    · rename_i vals hvals
                      split at hd2
                      · rename_i hkept
                        simp only [Bool.and_eq_true] at hkept
                        obtain ⟨S3, r3, sim3, hn3, h3⟩ := chks_out hd2 hr2
                        obtain ⟨g1, g2⟩ := sameTms_get hkept.1
                        obtain ⟨e4, u4, rel4, d4⟩ := mkHead (S := S) (S2 := S2) (ρ := ρ) (ρ2 := ρ2) (e := e) (e2 := e2) (bl := bl) (ts := slots.map (·.1)) (wr := wrote b) (n := slots.length) (dp := S1.dp + 1) hf hr.pc hr2 htv2 hbv2 (by simp) hvals hn3 hb2.e hb2.r (by rw [← g1, forget_get.1])
                          (fun t v ht => by
                            obtain ⟨w, w1, w2⟩ := g2 ht
                            exact ⟨w, w1, fun ρ e => same_ok ρ e _ _ w2⟩) (fun k o ho => by
                            obtain ⟨w, w1, w2, w3⟩ := keptObjs_get hkept.2 ho
                            exact ⟨w, w1, w2, w3.imp (by simp) (fun h ρ e => sames_ok ρ e _ _ h)⟩)
                        have hidx : S2.dp - 1 - S1.dp = pre.length := by
                          simp only [List.length_append, List.length_cons] at hl2
                          omega
                        simp only [VC.den] at h3
                        rw [hidx] at h3
                        have hget : (pre ++ (fun l K => I l K ∧ μ l < μ ((mkQ S.nv (slots.map (·.2) ++ (bl.map (·.2)).flatten)).2.2.1.map (SD.den ρ e1))) :: L).getD pre.length (fun _ _ => False) = (fun l K => I l K ∧ μ l < μ ((mkQ S.nv (slots.map (·.2) ++ (bl.map (·.2)).flatten)).2.2.1.map (SD.den ρ e1))) := by
                          simp
                        rw [hget, ← d4] at h3
                        exact ⟨_, h3.2, e4, H2, u4, rel4, h3.1, rfl⟩
                      · exact hd2.elim
                  · exact hd2.elim
        · exact h.elim
  | _ => intro S K L Q B ρ e H a W h _ _ _ _; exact h.elim
theorem resV_ok {S : St} {ρ : Nat → Nat} {e : Env} {X : List (Nat × Obj)} {H : Hp} {a : Act} {W : World} (hr : Rel W0 M S ρ e X H a W) : ∀ {l : List ResultVar} {vs : List SV}, resV P S l = some vs →
    (l.mapM (m := Sem) fun
      | .tmp t => pure (a.tmps.getD t Go.undef)
      | .cell x t => do loadVar t (← asAddr (a.tmps.getD x Go.undef))).run P W = .ok (SV.dens ρ e vs) W
  | [], vs, h => by
    simp only [resV, Option.some.injEq] at h
    subst h; rfl
  | .tmp t :: r, vs, h => by
    simp only [resV] at h
    split at h
    · rename_i v ws hv hw
      simp only [Option.some.injEq] at h
      subst h
      have h1 := slot_of hr.tm hv
      have ih := resV_ok hr hw
      have hg : a.tmps.getD t Go.undef = v.den ρ e := by rw [Array.getD_eq_getD_getElem?, h1]; rfl
      rw [List.mapM_cons]
      simp only [Sem.run_bind, Sem.run_pure, Result.andThen_ok, ih, SV.dens, hg]
    · cases h
  | .cell t ty :: r, vs, h => by
    simp only [resV] at h
    split at h
    · rename_i k off hk
      split at h
      · rename_i v ws hv hw
        simp only [Option.some.injEq] at h
        subst h
        simp only [Option.bind_eq_some_iff] at hv
        obtain ⟨ob, hob, hv⟩ := hv
        have h1 := slot_of hr.tm hk
        have ih := resV_ok hr hw
        have hl := ok_load (P := P) (o := { dst := none, op := .load ty (.tmp t), type := 0, pos := "", after := #[], guard := none }) (W := W) hr.toT rfl
        have hst : step P S { dst := none, op := .load ty (.tmp t), type := 0, pos := "", after := #[], guard := none } = .ld k (.k 0) ty (some off) := by
          simp only [step, ev, hk, hob, hv]
        rw [hst] at hl
        have hrun := hl ob v (kn_of hr hob).1 (kn_of hr hob).2 hv
        simp only [execOp, Instr.loadAt, Act.eval, Array.getD_eq_getD_getElem?, h1, Option.getD_some, SV.den, Instr.sureAddr, Sem.run_bind, Sem.run_pure, Result.andThen_ok] at hrun
        have hld : (loadVar ty ⟨ρ k, off, none⟩).run P W = .ok (v.den ρ e) W := by
          cases hx : (loadVar ty ⟨ρ k, off, none⟩).run P W with
          | ok u w =>
            rw [hx] at hrun
            simp only [Result.andThen_ok] at hrun
            injection hrun with q1 q2
            injection q1 with q1
            rw [q1, q2]
          | halt u w => rw [hx] at hrun; cases hrun
        have hg : a.tmps.getD t Go.undef = .pointer (some ⟨ρ k, off, none⟩) := by rw [Array.getD_eq_getD_getElem?, h1]; rfl
        rw [List.mapM_cons]
        have ha : (asAddr (a.tmps.getD t Go.undef)).run P W = .ok ⟨ρ k, off, none⟩ W := by rw [hg]; rfl
        simp only [Sem.run_bind, Sem.run_pure, Result.andThen_ok, ha, hld, ih, SV.dens]
      · cases h
    · cases h
theorem endVC_ok {fn : Func} {S : St} {ρ : Nat → Nat} {e : Env} {H : Hp} {L : List (List Dat → Hp → Prop)} {a : Act} {W : World} (h : (endVC P fn S).den P W0 M R ρ e H L) (hr : Rel W0 M S ρ e [] H a W) :
    ∃ v, (results fn a.tmps).run P W = .ok v W ∧ R (.returned v) W := by
  unfold endVC at h
  have hres : ∀ vs, resV P S fn.results.toList = some vs → (results fn a.tmps).run P W = .ok (match vs with | [v] => v.den ρ e | vs => .tuple (SV.dens ρ e vs).toArray) W := fun vs hv => by
    have h1 := resV_ok (P := P) hr hv
    unfold results
    rw [Array.mapM_eq_mapM_toList]
    simp only [Sem.run_bind, Sem.run_map]
    erw [h1]
    simp only [Result.andThen_ok, Sem.run_pure]
    congr 1
    match vs with
    | [] => rfl
    | [v] => rfl
    | u :: v :: r => simp [SV.dens]
  split at h
  · rename_i v hv
    exact ⟨_, hres _ hv, h W hr.now (KN_ok hr (knOf_ok S _))⟩
  · rename_i vs hn hv
    refine ⟨_, hres _ hv, ?_⟩
    have := h W hr.now (KN_ok hr (knOf_ok S vs))
    split
    · rename_i v
      exact (hn v rfl).elim
    · exact this
  · exact h.elim

/-- A WHOLE FUNCTION: what its symbolic run leaves to prove is enough. -/
theorem exF_ok {f : FuncId} {fn : Func} (hf : P.funcs[f]? = some fn) {args : List SV} {h : List (Option SObj)} {nv : Nat} {pc : List (Sb × Bool)} {ρ : Nat → Nat} {e : Env} {H : Hp} {W : World}
    (hv : (exF P hi fn args h nv pc).den P W0 M R ρ e H []) (hat : At W0 M ρ e h [] H W) (hpc : ∀ p ∈ pc, p.1.den e = p.2) : Calls P f (SV.dens ρ e args).toArray W R := by
  unfold exF at hv
  split at hv
  · exact hv.elim
  · rename_i c hc
    refine calls_of_wp hf hc (exC_ok (B := ⟨0, 0, ρ, e⟩) c hv ⟨⟨?_, fun t v ht => ?_⟩, rfl, hat, hpc⟩ rfl ⟨Nat.zero_le _, Nat.zero_le _, fun _ _ => rfl, fun _ _ => rfl⟩ (fun x S ρ' e' H' L' a' W' hp hl hb hd hr => ?_))
    · simp [dens_len]
    · have hl : (SV.dens ρ e args).length = args.length := dens_len _ _ _
      rcases Nat.lt_or_ge t args.length with hlt | hge
      · rw [List.getElem?_append_left (by simpa using hlt)] at ht
        rw [Array.getElem?_append_left (by simpa [hl] using hlt)]
        simp only [List.getElem?_map, List.getElem?_toArray, dens_get] at ht ⊢
        cases hx : args[t]? with
        | none => rw [hx] at ht; cases ht
        | some q => rw [hx] at ht; simp only [Option.map_some, Option.some.injEq] at ht ⊢; rw [ht]
      · rw [List.getElem?_append_right (by simpa using hge)] at ht
        simp only [List.length_map] at ht
        rw [Array.getElem?_append_right (by simpa [hl] using hge)]
        rw [List.getElem?_replicate] at ht
        split at ht
        · rename_i hlt
          simp only [Option.some.injEq] at ht
          subst ht
          simp [hl, hlt, SV.den]
        · cases ht
    · cases x with
      | normal =>
        obtain ⟨v, h1, h2⟩ := endVC_ok hd hr
        exact ⟨hr.df, v, h1, h2⟩
      | ret =>
        obtain ⟨v, h1, h2⟩ := endVC_ok hd hr
        exact ⟨hr.df, v, h1, h2⟩
      | exit i => exact hd.elim
/-- from the world as it stands, no block of its own known yet -/
theorem calls_sx {f : FuncId} {fn : Func} (hf : P.funcs[f]? = some fn) (hi : Hints) {args : List SV} {nv : Nat} {e : Env} {H : Hp} {W : World} (hH : H.le (hpOf W))
    (hv : (exF P hi fn args [] nv []).den P W (fun _ => False) R (fun _ => 0) e H []) : Calls P f (SV.dens (fun _ => 0) e args).toArray W R :=
  exF_ok hf hv ⟨fun k o h => by simp at h, fun k j o o' h => by simp at h, fun k o h => by simp at h, fun k o h => by simp at h, hH, Mod.refl _ _, fun p h => by simp at h, fun p h => by simp at h, fun p h => by simp at h, fun p h => by simp at h⟩ (fun p h => by simp at h)
end
end Go.Proofs.Ytcnkljeniffmmaa
