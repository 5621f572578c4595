/- A symbolic run of a function's code: what one operation leaves, by its value. Over any program; no program in sight. -/
import Derived.Test.YtcnkljeniffmmaaSxL
namespace Go.Proofs.Ytcnkljeniffmmaa
open Go.RowKit

/-- what an operation leaves, by its value -/
def Gets (P : Program) (f : Operand → Value) (o : Oper) (W : World) (post : Value → World → Prop) : Prop :=
  match (execOp f o).run P W with
  | .ok (.value v) W' => post v W'
  | .ok .skip W' => post Go.undef W'
  | .ok (.enter g args) W' => Calls P g args W' fun x W'' => ∃ v, x = .returned v ∧ post v W''
  | _ => False
theorem Gets.wp {P : Program} {o : Oper} {a : Act} {W : World} {post : Value → World → Prop} {next : Act → World → Prop} {Q : Exit → Act → World → Prop} (h : Gets P a.eval o W post)
    (hn : ∀ v W', post v W' → next (a.put o.dst v) W') : o.wp P a W next Q := by
  unfold Gets at h
  unfold Oper.wp
  generalize (execOp a.eval o).run P W = r at *
  split at h
  · exact hn _ _ h
  · exact hn _ _ h
  · refine h.mono fun x W'' hx => ?_
    obtain ⟨v, rfl, hp⟩ := hx
    exact hn _ _ hp
  · exact h.elim
theorem gets_of_run {P : Program} {f : Operand → Value} {o : Oper} {W W' : World} {post : Value → World → Prop} {v : Value} (h : (execOp f o).run P W = .ok (.value v) W') (hp : post v W') : Gets P f o W post := by
  unfold Gets
  rw [h]
  exact hp

section
variable (P : Program) (hi : Hints) (rid ix : Nat) (S : St) (o : Oper)
def touch (ρ : Nat → Nat) (H : Hp) (b : Nat) : Prop := match step P S o with
  | .sto k _ _ => ρ k = b
  | .call f as _ => match hi.mods.lookup f with
    | some ixs => ∃ k ∈ argBlks as ixs, ρ k = b
    | none => hi.turns.contains f = true ∧ ∃ q, H b = some q
  | .esc _ _ ty turns => (ty = none ∨ (turns && !(hi.keeps.contains (rid, ix))) = true) ∧ ∃ q, H b = some q
  | _ => False
def turned : Prop := match step P S o with
  | .call f _ _ => hi.mods.lookup f = none ∧ hi.turns.contains f = true
  | .esc _ _ ty turns => ty = none ∨ (turns && !(hi.keeps.contains (rid, ix))) = true
  | _ => False
end

/-- behind an operation -/
structure Aft (P : Program) (W0 : World) (M : Nat → Prop) (R : Ending → World → Prop) (X : List (Nat × Obj)) (L : List (List Dat → Hp → Prop)) (S : St) (ρ : Nat → Nat) (e : Env) (H : Hp) (W : World)
    (K : St → VC) (dst : Option Nat) (ac : Act) (tch : Nat → Prop) (trn : Prop) (v : Value) (W' : World) (S' : St) (ρ' : Nat → Nat) (e' : Env) (H' : Hp) : Prop where
  dp : S'.dp = S.dp
  agr : Agr ⟨S.nv, S.h.length, ρ, e⟩ S' ρ' e'
  den : (K S').den P W0 M R ρ' e' H' L
  rel : Rel W0 M S' ρ' e' X H' (ac.put dst v) W'
  ll : S'.ll = S.ll
  tm : ∀ t : Nat, dst ≠ some t → S'.tm[t]? = S.tm[t]?
  kn : ∀ (k : Nat) (o : SObj), S.h[k]? = some (some o) → ∃ o' : SObj, S'.h[k]? = some (some o')
  hle : ¬ trn → H.le H'
  keep : ∀ (b : Nat) (o : Obj), W.heap[b]? = some o → ¬ tch b → W'.heap[b]? = some o

section
variable {P : Program} {W0 : World} {M : Nat → Prop} {R : Ending → World → Prop} {hi : Hints} {S : St} {ρ : Nat → Nat} {e : Env} {X : List (Nat × Obj)} {H : Hp} {L : List (List Dat → Hp → Prop)} {a : Act} {W : World}

theorem put_ll (S : St) (d : Option Nat) (v : SV) : (S.put d v).ll = S.ll := by cases d <;> rfl
theorem put_h (S : St) (d : Option Nat) (v : SV) : (S.put d v).h = S.h := by cases d <;> rfl
theorem put_nv (S : St) (d : Option Nat) (v : SV) : (S.put d v).nv = S.nv := by cases d <;> rfl
theorem put_tm (S : St) (d : Option Nat) (v : SV) (t : Nat) (h : d ≠ some t) : (S.put d v).tm[t]? = S.tm[t]? := by
  cases d with
  | none => rfl
  | some k => simp only [St.put]; rw [List.getElem?_set_ne (fun hk => h (by rw [hk]))]
theorem Agr.self (S : St) (ρ : Nat → Nat) (e : Env) : Agr ⟨S.nv, S.h.length, ρ, e⟩ S ρ e := ⟨Nat.le_refl _, Nat.le_refl _, fun _ _ => rfl, fun _ _ => rfl⟩
theorem Agr.trans {B : Base} {S S' : St} {ρ ρ' : Nat → Nat} {e e' : Env} (h : Agr B S ρ e) (k : Agr ⟨S.nv, S.h.length, ρ, e⟩ S' ρ' e') : Agr B S' ρ' e' :=
  ⟨Nat.le_trans h.n k.n, Nat.le_trans h.m k.m, fun i hi => (k.e i (Nat.lt_of_lt_of_le hi h.n)).trans (h.e i hi), fun i hi => (k.r i (Nat.lt_of_lt_of_le hi h.m)).trans (h.r i hi)⟩
theorem setObjs_ll : ∀ (l : List (Nat × SObj)) (S : St), (setObjs S l).ll = S.ll
  | [], _ => rfl
  | (k, q) :: r, S => setObjs_ll r (S.setObj k q)
theorem setObjs_kn : ∀ (l : List (Nat × SObj)) (S : St) {j : Nat} {o : SObj}, S.h[j]? = some (some o) → ∃ o', (setObjs S l).h[j]? = some (some o')
  | [], _, _, o, h => ⟨o, h⟩
  | (k, q) :: r, S, j, o, h => by
    rw [setObjs]
    by_cases hk : k = j
    · subst hk
      refine setObjs_kn r (S.setObj k q) (o := q) ?_
      simp only [St.setObj]
      rw [List.getElem?_set, if_pos rfl, if_pos (lt_len h)]
    · refine setObjs_kn r (S.setObj k q) (o := o) ?_
      simp only [St.setObj]
      rw [List.getElem?_set, if_neg hk]; exact h
theorem newConts_ks : ∀ {ks : List Nat} {nv : Nat} {l : List (Nat × SObj)} {f : List (Nat × Pk)} {n : Nat}, newConts P S nv ks = some (l, f, n) → ∀ p ∈ l, p.1 ∈ ks
  | [], nv, l, f, n, h, p, hp => by
    simp only [newConts, Option.some.injEq, Prod.mk.injEq] at h
    obtain ⟨rfl, _⟩ := h
    simp at hp
  | k :: r, nv, l, f, n, h, p, hp => by
    simp only [newConts] at h
    split at h
    · cases h
    · rename_i ob hob
      split at h
      · rename_i l' f' n' hh
        simp only [Option.some.injEq, Prod.mk.injEq] at h
        obtain ⟨rfl, _⟩ := h
        rcases List.mem_cons.1 hp with rfl | hp
        · exact List.mem_cons_self ..
        · exact List.mem_cons_of_mem _ (newConts_ks hh p hp)
      · cases h
/-- as 'cls_out', and what is kept -/
theorem cls_kept (hr : Rel W0 M S ρ e X H a W) {W' : World} {cls : CC} {K : Hp → Prop} (hm : ∀ l, cls = .mods l → ∀ p ∈ l, ∃ o, S.h[p.1]? = some (some o)) (h : cls.post W0 M ρ e H W W' K) :
    ∃ H', Rel W0 M (match cls with | .mods l => setObjs S l | _ => S) ρ e X H' a W' ∧ K H' ∧ (cls ≠ .turn → H.le H') ∧
      (∀ b o, W.heap[b]? = some o → ¬ (match cls with | .mods l => ∃ p ∈ l, ρ p.1 = b | .turn => ∃ q, H b = some q | _ => False) → W'.heap[b]? = some o) := by
  cases cls with
  | same =>
    refine ⟨H, hr.ext h.1, h.2, fun _ => Hp.le_refl H, fun b o hb _ => ?_⟩
    rw [h.1.block b (heap_lt hb), hb]
  | fresh =>
    obtain ⟨hx, D, hD, hfresh, hk⟩ := h
    have hsep : ∀ b o, D b = some o → H b = none := fun b o hb => by
      cases hh : H b with
      | none => rfl
      | some q => have := heap_lt (hr.mem.sub b q hh); have := hfresh b o hb; omega
    have h1 : H.le (fun b => (H b).orElse fun _ => D b) := fun b o hb => by simp [hb]
    have h2 : D.le (fun b => (H b).orElse fun _ => D b) := fun b o hb => by simp [hsep b o hb, hb]
    refine ⟨_, (hr.ext hx).hold (fun b o hb => ?_) (fun b o hb => ?_), hk _ h1 h2, fun _ => h1, fun b o hb _ => ?_⟩
    · cases hh : H b with
      | none => simp only [hh, Option.orElse_none] at hb; exact hD b o hb
      | some q => simp only [hh, Option.orElse_some] at hb; rw [← hb]; exact (hr.ext hx).mem.sub b q hh
    · cases hh : H b with
      | none =>
        simp only [hh, Option.orElse_none] at hb
        have hge := hfresh b o hb
        refine .inr ⟨fun k ob hk he => ?_, fun p hp he => ?_⟩
        · have := heap_lt (hr.mem.kn k ob hk); omega
        · have := heap_lt (hr.mem.xk p hp); omega
      | some q => exact .inl ⟨q, rfl⟩
    · rw [hx.block b (heap_lt hb), hb]
  | mods l =>
    obtain ⟨h1, h2, h3⟩ := h
    refine ⟨H, hr.mods (hm l rfl) h1 h2, h3, fun _ => Hp.le_refl H, fun b o hb hn => ?_⟩
    rw [h1.blk b (heap_lt hb) hn, hb]
  | turn =>
    obtain ⟨H', h1, h2⟩ := h
    refine ⟨H', hr.turn h1, h2, fun hn => (hn rfl).elim, fun b o hb hn => ?_⟩
    rw [h1.mod.blk b (heap_lt hb) (fun hh => hn hh.1), hb]
theorem cls_keptp (hr : Rel W0 M S ρ e X H a W) {W' : World} {b c : Bool} {K : Hp → Prop} (h : (if b = true then CC.turn else if c = true then CC.fresh else CC.same).post W0 M ρ e H W W' K) :
    ∃ H', Rel W0 M S ρ e X H' a W' ∧ K H' ∧ (¬ b = true → H.le H') ∧ (∀ n o, W.heap[n]? = some o → ¬ (b = true ∧ ∃ q, H n = some q) → W'.heap[n]? = some o) := by
  obtain ⟨H', h1, h2, h3, h4⟩ := cls_kept hr (cls := if b = true then CC.turn else if c = true then CC.fresh else CC.same) (fun l hl => (ite_plain b c l hl).elim) h
  cases b with
  | true => exact ⟨H', h1, h2, fun hn => (hn rfl).elim, fun n o hn hq => h4 n o hn (fun hh => hq ⟨rfl, hh⟩)⟩
  | false =>
    cases c with
    | true => exact ⟨H', h1, h2, fun _ => h3 (by simp), fun n o hn _ => h4 n o hn (fun hh => hh)⟩
    | false => exact ⟨H', h1, h2, fun _ => h3 (by simp), fun n o hn _ => h4 n o hn (fun hh => hh)⟩

theorem Agr.objs' {B : Base} {S : St} {ρ : Nat → Nat} {e : Env} (h : Agr B S ρ e) (l : List (Nat × SObj)) : Agr B (setObjs S l) ρ e := h.objs l

theorem oneOp_gets {rid ix : Nat} {o : Oper} {K : St → VC} (h : (oneOp P hi rid ix S o K).den P W0 M R ρ e H L) (hr : Rel W0 M S ρ e X H a W) :
    Gets P a.eval o W fun v W' => ∃ S' ρ' e' H', Aft P W0 M R X L S ρ e H W K o.dst a (touch P hi rid ix S o ρ H) (turned P hi rid ix S o) v W' S' ρ' e' H' := by
  have hs := step_ok (P := P) (W := W) (o := o) hr.toT
  have hb := Agr.self S ρ e
  unfold oneOp at h
  unfold touch turned
  split at h
  · rename_i cs v hst
    rw [hst] at hs
    obtain ⟨S', h1, h2, h5, h6⟩ := chks_out h hr
    refine gets_of_run (hs h5) ⟨_, _, _, _, by rw [put_dp, h2.1], (hb.sim h2).put _ _, h6, h1.put _ _, by rw [put_ll, h2.2.2.2.2], fun t ht => by rw [put_tm _ _ _ _ ht, h2.2.1], fun k ob hk => ⟨ob, by rw [put_h, h2.2.2.1]; exact hk⟩, fun _ => Hp.le_refl H, fun _ _ hb' _ => hb'⟩
  · rename_i cs t len hst
    rw [hst] at hs
    split at h
    · rename_i hf
      simp only [Bool.and_eq_true] at hf
      have hk' := h W.heap.size
      have hr' := (hr.alloc hf.1 hf.2 t)
      have hup : upd ρ S.h.length W.heap.size S.h.length = W.heap.size := by unfold upd; rw [if_pos rfl]
      refine gets_of_run hs ⟨_, _, _, _, by rw [put_dp], Agr.put (S := { S with h := S.h ++ [some { cs := cs, ty := t }] }) ⟨hb.n, by simp, hb.e, fun k hk => (by unfold upd; rw [if_neg (by simp only at hk; omega)])⟩ _ _, hk', ?_, by rw [put_ll], fun t ht => by rw [put_tm _ _ _ _ ht], fun k ob hk => ⟨ob, by rw [put_h]; simp only; rw [List.getElem?_append_left (lt_len hk)]; exact hk⟩, fun _ => Hp.le_refl H, fun b ob hb' _ => ?_⟩
      · cases len with
        | none =>
          have := hr'.put o.dst (.ptrK S.h.length 0)
          simp only [SV.den, hup] at this
          exact this
        | some n =>
          have := hr'.put o.dst (.slK S.h.length 0 n n)
          simp only [SV.den, hup] at this
          exact this
      · rw [Below.heap_alloc _ _ _ (heap_lt hb'), hb']
    · exact h.elim
  · rename_i k off cs hst
    rw [hst] at hs
    split at h
    · rename_i ob hob
      obtain ⟨k1, k2⟩ := kn_of hr hob
      obtain ⟨_, hrun⟩ := hs ob k1 k2
      have hr' := (hr.store k1 (setCells ob.cs off cs)).put o.dst .undef
      unfold Gets
      rw [hrun]
      refine ⟨_, _, _, _, by rw [put_dp]; rfl, Agr.put (S := S.setObj k { ob with cs := setCells ob.cs off cs }) ⟨hb.n, by simp [St.setObj], hb.e, hb.r⟩ _ _, h, hr', by rw [put_ll]; rfl, fun t ht => by rw [put_tm _ _ _ _ ht]; rfl, fun j oj hj => ?_, fun _ => Hp.le_refl H, fun b o' hb' hn => ?_⟩
      · rw [put_h]
        simp only [St.setObj]
        by_cases hjk : k = j
        · exact ⟨_, by rw [List.getElem?_set, if_pos hjk, if_pos (lt_len k1)]⟩
        · exact ⟨oj, by rw [List.getElem?_set, if_neg hjk]; exact hj⟩
      · simp only [hst] at hn
        rw [setRow_other _ _ _ _ (fun hh => hn hh.symm)]; exact hb'
    · exact h.elim
  · rename_i i off t kn hst
    rw [hst] at hs
    split at h
    · rename_i j
      split at h
      · rename_i ob hob
        split at h
        · rename_i v hv
          obtain ⟨k1, k2⟩ := kn_of hr hob
          exact gets_of_run (hs ob v k1 k2 hv) ⟨_, _, _, _, by rw [put_dp], hb.put _ _, h, hr.put _ _, by rw [put_ll], fun t ht => by rw [put_tm _ _ _ _ ht], fun k ob hk => ⟨ob, by rw [put_h]; exact hk⟩, fun _ => Hp.le_refl H, fun _ _ hb' _ => hb'⟩
        · exact h.elim
      · exact h.elim
    · split at h
      · exact h.elim
      · rename_i zs hz
        dsimp only at h
        split at h
        · exact h.elim
        · rename_i hff
          simp only [Bool.not_eq_true, Bool.not_eq_false', Bool.and_eq_true, decide_eq_true_eq] at hff
          have hpl : ∀ (l : List Pt) (n : Nat), (mkP n l).1.length = l.length := by
            intro l
            induction l with
            | nil => intro n; rfl
            | cons p r ih => intro n; cases p <;> simp [mkP, ih]
          have hlen : (mkP S.nv (zs.map ptOf)).1.length = zs.length := by rw [hpl]; simp
          split at h
          · rename_i hagg
            obtain ⟨e', hu, hrow, hd⟩ := exL_out h
            have hold := hu.old hff.1.2
            have hr' := (hr.congr hff.1.1 hold (fun _ _ => rfl)).next (mkP S.nv (zs.map ptOf)).2.2
            exact gets_of_run (hs zs _ hz (by rw [dens_len, hlen]) (hrow.mono hr.mem.sub) (.agg (SV.dens ρ e' (mkP S.nv (zs.map ptOf)).1).toArray) (by rw [if_pos hagg])) ⟨_, _, _, _, by rw [put_dp], (hb.next hff.2 hold).put _ _, hd, hr'.put o.dst (.agg (mkP S.nv (zs.map ptOf)).1), by rw [put_ll], fun t ht => by rw [put_tm _ _ _ _ ht], fun k ob hk => ⟨ob, by rw [put_h]; exact hk⟩, fun _ => Hp.le_refl H, fun _ _ hb' _ => hb'⟩
          · rename_i hagg
            split at h
            · rename_i v hq
              obtain ⟨e', hu, hrow, hd⟩ := exL_out h
              have hold := hu.old hff.1.2
              have hr' := (hr.congr hff.1.1 hold (fun _ _ => rfl)).next (mkP S.nv (zs.map ptOf)).2.2
              have hl1 : zs.length = 1 := by rw [← hlen, hq]; rfl
              exact gets_of_run (hs zs _ hz (by rw [dens_len]; simp [hl1]) (hrow.mono hr.mem.sub) (v.den ρ e') (by rw [if_neg hagg]; rfl)) ⟨_, _, _, _, by rw [put_dp], (hb.next hff.2 hold).put _ _, hd, hr'.put o.dst v, by rw [put_ll], fun t ht => by rw [put_tm _ _ _ _ ht], fun k ob hk => ⟨ob, by rw [put_h]; exact hk⟩, fun _ => Hp.le_refl H, fun _ _ hb' _ => hb'⟩
            · exact h.elim
  · rename_i x vs hst
    rw [hst] at hs
    obtain ⟨hp, hc⟩ := h
    have hc' := hc hp
    simp only [Sb.prop, Sx.den] at hp
    have hlt : (x.den e).toNat < vs.length := by omega
    obtain ⟨v, hv⟩ : ∃ v, vs[(x.den e).toNat]? = some v := ⟨_, List.getElem?_eq_getElem hlt⟩
    obtain ⟨S', h1, h2, h3⟩ := cases1_out hc' hr hv (by simp; omega)
    exact gets_of_run (hs _ v (by omega) hv) ⟨_, _, _, _, by rw [put_dp, h2.1], (hb.sim h2).put _ _, h3, h1.put _ _, by rw [put_ll, h2.2.2.2.2], fun t ht => by rw [put_tm _ _ _ _ ht, h2.2.1], fun k ob hk => ⟨ob, by rw [put_h, h2.2.2.1]; exact hk⟩, fun _ => Hp.le_refl H, fun _ _ hb' _ => hb'⟩
  · rename_i f as ty hst
    rw [hst] at hs
    split at h
    · exact h.elim
    · rename_i pat fr nv hpat
      split at h
      · exact h.elim
      · rename_i hff
        simp only [Bool.not_eq_true, Bool.not_eq_false', Bool.and_eq_true, decide_eq_true_eq] at hff
        unfold Gets
        rw [hs]
        split at h
        · rename_i ixs hix
          split at h
          · rename_i l fr2 nv2 hnc
            split at h
            · exact h.elim
            · rename_i hf2
              simp only [Bool.not_eq_true, Bool.not_eq_false', Bool.and_eq_true, decide_eq_true_eq] at hf2
              refine (h W hr.now (KN_ok hr (knOf_ok S as))).mono fun x W' hx => ?_
              obtain ⟨e', hu, rfl, hpost⟩ := exL_out hx
              have hold := hu.old (frFits_app hff.1.2 hf2.1)
              have hr' := (hr.congr hff.1.1 hold (fun _ _ => rfl)).next nv2
              obtain ⟨H', hr2, hd, hle, hkeep⟩ := cls_kept hr' (cls := .mods l) (fun l' hl' p hp => by injection hl' with hl'; subst hl'; exact newConts_in hnc p hp) hpost
              refine ⟨_, rfl, _, _, _, _, by rw [put_dp]; exact (setObjs_rest l _).2.2.2, ((hb.next hf2.2 hold).objs l).put _ _, hd, hr2.put _ _, by rw [put_ll, setObjs_ll], fun t ht => by rw [put_tm _ _ _ _ ht, (setObjs_rest l _).1], fun k ob hk => by rw [put_h]; exact setObjs_kn l { S with nv := nv2 } hk, fun _ => hle (by simp), fun b o' hb' hn => hkeep b o' hb' (fun ⟨p, hp, he⟩ => hn ?_)⟩
              simp only [hst, hix]
              exact ⟨p.1, newConts_ks hnc p hp, he⟩
          · exact h.elim
        · rename_i hix
          refine (h W hr.now (KN_ok hr (knOf_ok S as))).mono fun x W' hx => ?_
          obtain ⟨e', hu, rfl, hpost⟩ := exL_out hx
          have hold := hu.old hff.1.2
          have hr' := (hr.congr hff.1.1 hold (fun _ _ => rfl)).next nv
          obtain ⟨H', hr2, hd, hle, hkeep⟩ := cls_keptp hr' hpost
          refine ⟨_, rfl, _, _, _, _, by rw [put_dp], (hb.next hff.2 hold).put _ _, hd, hr2.put _ _, by rw [put_ll], fun t ht => by rw [put_tm _ _ _ _ ht], fun k ob hk => ⟨ob, by rw [put_h]; exact hk⟩, fun hn => hle (fun hh => hn ?_), fun b o' hb' hn => hkeep b o' hb' (fun hh => hn ?_)⟩
          · simp only [hst]; exact ⟨hix, hh⟩
          · simp only [hst, hix]; exact hh
  · rename_i q as ty turns hst
    rw [hst] at hs
    split at h
    · obtain ⟨W', hrun, hpost⟩ := h W hr.now (KN_ok hr (knOf_ok S as))
      obtain ⟨H', hr2, hd, hle, hkeep⟩ := cls_kept hr (cls := .turn) (fun l' hl' => by cases hl') hpost
      unfold Gets
      rw [hs, hrun]
      refine ⟨_, _, _, _, by rw [put_dp], hb.put _ _, hd, hr2.put _ _, by rw [put_ll], fun t ht => by rw [put_tm _ _ _ _ ht], fun k ob hk => ⟨ob, by rw [put_h]; exact hk⟩, fun hn => (hn ?_).elim, fun b o' hb' hn => hkeep b o' hb' (fun hh => hn ?_)⟩
      · simp [hst]
      · simp only [hst]; exact ⟨.inl trivial, hh⟩
    · rename_i ty'
      split at h
      · exact h.elim
      · rename_i pat fr nv hpat
        split at h
        · exact h.elim
        · rename_i hff
          simp only [Bool.not_eq_true, Bool.not_eq_false', Bool.and_eq_true, decide_eq_true_eq] at hff
          obtain ⟨e', hu, W', hrun, hpost⟩ := exL_out (h W hr.now (KN_ok hr (knOf_ok S as)))
          have hold := hu.old hff.1.2
          have hr' := (hr.congr hff.1.1 hold (fun _ _ => rfl)).next nv
          obtain ⟨H', hr2, hd, hle, hkeep⟩ := cls_keptp hr' hpost
          unfold Gets
          rw [hs, hrun]
          refine ⟨_, _, _, _, by rw [put_dp], (hb.next hff.2 hold).put _ _, hd, hr2.put _ _, by rw [put_ll], fun t ht => by rw [put_tm _ _ _ _ ht], fun k ob hk => ⟨ob, by rw [put_h]; exact hk⟩, fun hn => hle (fun hh => hn ?_), fun b o' hb' hn => hkeep b o' hb' (fun hh => hn ?_)⟩
          · simp only [hst]; exact .inr hh
          · simp only [hst]; exact ⟨.inr hh.1, hh.2⟩
  · exact h.elim
end
end Go.Proofs.Ytcnkljeniffmmaa
