/- A symbolic run of a function's code: drawn regions: operations that are put off, blocks that are made ahead. Over any program; no program in sight. -/
import Derived.Test.YtcnkljeniffmmaaSxQ
namespace Go.Proofs.Ytcnkljeniffmmaa
open Go.RowKit

/-- what an operation that is put off needs of memory -/
def holds (n : Option (Nat × Obj)) (W : World) : Prop := match n with
  | none => True
  | some (b, o) => W.heap[b]? = some o
def TagOk (S : St) (ρ : Nat → Nat) (H : Hp) (ix : Nat) : Option (Nat × Obj) → Prop
  | none => True
  | some (b, ob) => (∃ k, (ix, some k) ∈ S.ll ∧ b = ρ k ∧ ∃ o : SObj, S.h[k]? = some (some o)) ∨ ((ix, none) ∈ S.ll ∧ H b = some ob)
def isPure : R1 → Bool
  | .val _ _ | .cas _ _ | .ld _ _ _ _ => true
  | _ => false

structure Pd where
  ix : Nat
  o : Oper
  v : Value
  need : Option (Nat × Obj)
structure Ah where
  ix : Nat
  o : Oper
  b : Nat
  obj : Obj
  vf : Nat → Value
def puts : List Pd → Act → Act
  | [], a => a
  | d :: D, a => (puts D a).put d.o.dst d.v

section
variable {P : Program} {W0 : World} {M : Nat → Prop} {R : Ending → World → Prop} {hi : Hints} {S : St} {ρ : Nat → Nat} {e : Env} {X : List (Nat × Obj)} {H : Hp} {L : List (List Dat → Hp → Prop)} {a : Act} {W : World}

theorem pure_out {rid ix : Nat} {o : Oper} {K : St → VC} (hp : isPure (step P S o) = true) (h : (oneOp P hi rid ix S o K).den P W0 M R ρ e H L) (hr : Rel W0 M S ρ e X H a W)
    (hll : ∀ i off t kn, step P S o = .ld i off t kn → (ix, kn.map fun _ => i) ∈ S.ll) :
    ∃ v need S' ρ' e' H', (∀ W', holds need W' → (execOp a.eval o).run P W' = .ok (.value v) W') ∧ holds need W ∧ TagOk S ρ H ix need ∧ Aft P W0 M R X L S ρ e H W K o.dst a (fun _ => False) False v W S' ρ' e' H' := by
  have hs := fun W' => step_ok (P := P) (W := W') (o := o) hr.toT
  have hb := Agr.self S ρ e
  unfold oneOp at h
  split at h
  · rename_i cs v hst
    simp only [hst] at hs
    obtain ⟨S', h1, h2, h5, h6⟩ := chks_out h hr
    exact ⟨_, none, _, _, _, _, fun W' _ => hs W' h5, trivial, trivial, ⟨by rw [put_dp, h2.1], (hb.sim h2).put _ _, h6, h1.put _ _, by rw [put_ll, h2.2.2.2.2], fun t ht => by rw [put_tm _ _ _ _ ht, h2.2.1], fun k ob hk => ⟨ob, by rw [put_h, h2.2.2.1]; exact hk⟩, fun _ => Hp.le_refl H, fun _ _ hb' _ => hb'⟩⟩
  · rename_i cs t len hst; rw [hst] at hp; cases hp
  · rename_i k off cs hst; rw [hst] at hp; cases hp
  · rename_i i off t kn hst
    have hl := hll _ _ _ _ hst
    simp only [hst] at hs
    split at h
    · rename_i j
      split at h
      · rename_i ob hob
        split at h
        · rename_i v hv
          obtain ⟨k1, k2⟩ := kn_of hr hob
          exact ⟨_, some (ρ i, ob.den ρ e), _, _, _, _, fun W' hW' => hs W' ob v k1 hW' hv, k2, .inl ⟨i, hl, rfl, ob, k1⟩, ⟨by rw [put_dp], hb.put _ _, h, hr.put _ _, by rw [put_ll], fun t ht => by rw [put_tm _ _ _ _ ht], fun k ob hk => ⟨ob, by rw [put_h]; exact hk⟩, fun _ => Hp.le_refl H, fun _ _ hb' _ => hb'⟩⟩
        · exact h.elim
      · exact h.elim
    · split at h
      · exact h.elim
      · rename_i zs hz
        dsimp only at h
        split at h
        · exact h.elim
        · rename_i hff
          simp only [Bool.not_eq_true, Bool.not_eq_false', Bool.and_eq_true, decide_eq_true_eq] at hff
          have hpl : ∀ (l : List Pt) (n : Nat), (mkP n l).1.length = l.length := by
            intro l
            induction l with
            | nil => intro n; rfl
            | cons p r ih => intro n; cases p <;> simp [mkP, ih]
          have hlen : (mkP S.nv (zs.map ptOf)).1.length = zs.length := by rw [hpl]; simp
          split at h
          · rename_i hagg
            obtain ⟨e', hu, ⟨b, o', h1, C, T, fz, h2, h3⟩, hd⟩ := exL_out h
            have hold := hu.old hff.1.2
            have hr' := (hr.congr hff.1.1 hold (fun _ _ => rfl)).next (mkP S.nv (zs.map ptOf)).2.2
            exact ⟨_, some (b, .cells C T fz), _, _, _, _, fun W' hW' => hs W' zs _ hz (by rw [dens_len, hlen]) ⟨b, o', h1, C, T, fz, hW', h3⟩ (.agg (SV.dens ρ e' (mkP S.nv (zs.map ptOf)).1).toArray) (by rw [if_pos hagg]), hr.mem.sub _ _ h2, .inr ⟨hl, h2⟩, ⟨by rw [put_dp], (hb.next hff.2 hold).put _ _, hd, hr'.put o.dst (.agg (mkP S.nv (zs.map ptOf)).1), by rw [put_ll], fun t ht => by rw [put_tm _ _ _ _ ht], fun k ob hk => ⟨ob, by rw [put_h]; exact hk⟩, fun _ => Hp.le_refl H, fun _ _ hb' _ => hb'⟩⟩
          · rename_i hagg
            split at h
            · rename_i v hq
              obtain ⟨e', hu, ⟨b, o', h1, C, T, fz, h2, h3⟩, hd⟩ := exL_out h
              have hold := hu.old hff.1.2
              have hr' := (hr.congr hff.1.1 hold (fun _ _ => rfl)).next (mkP S.nv (zs.map ptOf)).2.2
              have hl1 : zs.length = 1 := by rw [← hlen, hq]; rfl
              exact ⟨_, some (b, .cells C T fz), _, _, _, _, fun W' hW' => hs W' zs _ hz (by rw [dens_len]; simp [hl1]) ⟨b, o', h1, C, T, fz, hW', h3⟩ (v.den ρ e') (by rw [if_neg hagg]; rfl), hr.mem.sub _ _ h2, .inr ⟨hl, h2⟩, ⟨by rw [put_dp], (hb.next hff.2 hold).put _ _, hd, hr'.put o.dst v, by rw [put_ll], fun t ht => by rw [put_tm _ _ _ _ ht], fun k ob hk => ⟨ob, by rw [put_h]; exact hk⟩, fun _ => Hp.le_refl H, fun _ _ hb' _ => hb'⟩⟩
            · exact h.elim
  · rename_i x vs hst
    simp only [hst] at hs
    obtain ⟨hp, hc⟩ := h
    have hc' := hc hp
    simp only [Sb.prop, Sx.den] at hp
    have hlt : (x.den e).toNat < vs.length := by omega
    obtain ⟨v, hv⟩ : ∃ v, vs[(x.den e).toNat]? = some v := ⟨_, List.getElem?_eq_getElem hlt⟩
    obtain ⟨S', h1, h2, h3⟩ := cases1_out hc' hr hv (by simp; omega)
    exact ⟨_, none, _, _, _, _, fun W' _ => hs W' _ v (by omega) hv, trivial, trivial, ⟨by rw [put_dp, h2.1], (hb.sim h2).put _ _, h3, h1.put _ _, by rw [put_ll, h2.2.2.2.2], fun t ht => by rw [put_tm _ _ _ _ ht, h2.2.1], fun k ob hk => ⟨ob, by rw [put_h, h2.2.2.1]; exact hk⟩, fun _ => Hp.le_refl H, fun _ _ hb' _ => hb'⟩⟩
  · rename_i f as ty hst; rw [hst] at hp; cases hp
  · rename_i q as ty turns hst; rw [hst] at hp; cases hp
  · exact h.elim

/-- a block is made ahead -/
theorem Rel.ahead (hr : Rel W0 M S ρ e X H a W) {d : Option Nat} {v : Value} (hd : ∀ t, d = some t → ∀ u, S.tm[t]? ≠ some (some u)) (obj : Obj) : Rel W0 M S ρ e ((W.heap.size, obj) :: X) H (a.put d v) (W.alloc obj) := by
  have hold : ∀ b, b < W.heap.size → (W.alloc obj).heap[b]? = W.heap[b]? := fun b hb => Below.heap_alloc _ _ _ hb
  have hnew : (W.alloc obj).heap[W.heap.size]? = some obj := by
    show (W.heap.push _)[W.heap.size]? = _
    simp
  refine ⟨⟨?_, fun t u ht => ?_⟩, ?_, ⟨fun k o ho => ?_, hr.mem.inj, hr.mem.old, hr.mem.dis, fun b o hb => ?_, ?_, fun p hp => ?_, fun p hp => ?_, fun p hp => ?_, fun p hp k o ho => ?_⟩, hr.pc⟩
  · cases d <;> simp [Act.put, hr.tm.1]
  · cases d with
    | none => exact hr.tm.2 t u ht
    | some t0 =>
      have hne : t0 ≠ t := fun hh => hd t0 rfl u (hh ▸ ht)
      simp only [Act.put]
      rw [Array.getElem?_setIfInBounds_ne hne]
      exact hr.tm.2 t u ht
  · cases d <;> exact hr.df
  · have := hr.mem.kn k o ho
    rw [hold _ (heap_lt this), this]
  · have h1 := hr.mem.sub b o hb
    have h2 := heap_lt h1
    simp only [hpOf] at h1 ⊢
    rw [hold b h2, h1]
  · exact hr.mem.mod.trans (N := fun _ => False) ⟨rfl, rfl, rfl, by simp, fun b hb _ => hold b hb⟩ (fun _ _ h => h.elim)
  · rcases List.mem_cons.1 hp with rfl | hp
    · exact hnew
    · have h1 := hr.mem.xk p hp
      rw [hold _ (heap_lt h1), h1]
  · rcases List.mem_cons.1 hp with rfl | hp
    · exact hr.mem.mod.size
    · exact hr.mem.xo p hp
  · rcases List.mem_cons.1 hp with rfl | hp
    · cases hh : H W.heap.size with
      | none => rfl
      | some o => have := heap_lt (hr.mem.sub _ _ hh); omega
    · exact hr.mem.xd p hp
  · rcases List.mem_cons.1 hp with rfl | hp
    · have := heap_lt (hr.mem.kn k o ho)
      show ρ k ≠ W.heap.size
      omega
    · exact hr.mem.xr p hp k o ho
/-- and taken when its turn comes -/
theorem Rel.took {X1 X2 : List (Nat × Obj)} {b t : Nat} {cs : List SV} (hr : Rel W0 M S ρ e (X1 ++ (b, .cells (SV.dens ρ e cs).toArray t (0, 0)) :: X2) H a W) (hf : S.fits = true) (hcs : SV.lts S.nv S.h.length cs = true)
    (hx : ∀ p ∈ X1 ++ X2, p.1 ≠ b) : Rel W0 M { S with h := S.h ++ [some { cs := cs, ty := t }] } (upd ρ S.h.length b) e (X1 ++ X2) H a W := by
  have hin : (b, Obj.cells (SV.dens ρ e cs).toArray t (0, 0)) ∈ X1 ++ (b, .cells (SV.dens ρ e cs).toArray t (0, 0)) :: X2 := by simp
  have hsub : ∀ p ∈ X1 ++ X2, p ∈ X1 ++ (b, .cells (SV.dens ρ e cs).toArray t (0, 0)) :: X2 := fun p hp => by
    rw [List.mem_append] at hp ⊢
    exact hp.imp id (List.mem_cons_of_mem _)
  have hk : ∀ k, k < S.h.length → upd ρ S.h.length b k = ρ k := fun k hk => by unfold upd; rw [if_neg (by omega)]
  have hr' := hr.congr (ρ' := upd ρ S.h.length b) (e' := e) hf (fun _ _ => rfl) hk
  have hup : upd ρ S.h.length b S.h.length = b := by unfold upd; rw [if_pos rfl]
  have hget : ∀ {k : Nat} {o : SObj}, (S.h ++ [some { cs := cs, ty := t }])[k]? = some (some o) → (k < S.h.length ∧ S.h[k]? = some (some o)) ∨ (k = S.h.length ∧ o = { cs := cs, ty := t }) := fun {k o} h => by
    rcases Nat.lt_or_ge k S.h.length with hh | hh
    · rw [List.getElem?_append_left hh] at h; exact .inl ⟨hh, h⟩
    · rw [List.getElem?_append_right hh] at h
      have : k - S.h.length = 0 := by
        rcases Nat.eq_zero_or_pos (k - S.h.length) with h0 | h0
        · exact h0
        · rw [List.getElem?_eq_none (by simp; omega)] at h; cases h
      rw [this] at h
      simp only [List.getElem?_cons_zero, Option.some.injEq] at h
      exact .inr ⟨by omega, h.symm⟩
  refine ⟨hr'.tm, hr.df, ⟨fun k o ho => ?_, fun k j o o' ho ho' he => ?_, fun k o ho => ?_, fun k o ho => ?_, hr.mem.sub, hr.mem.mod, fun p hp => hr.mem.xk p (hsub p hp), fun p hp => hr.mem.xo p (hsub p hp), fun p hp => hr.mem.xd p (hsub p hp), fun p hp k o ho => ?_⟩, hr'.pc⟩
  · rcases hget ho with ⟨h1, h2⟩ | ⟨rfl, rfl⟩
    · exact hr'.mem.kn k o h2
    · rw [hup]
      have := hr.mem.xk _ hin
      rw [this]
      simp only [SObj.den, SV.dens_congr (e := e) (e' := e) (n := S.nv) (fun _ _ => rfl) hk cs hcs]
  · rcases hget ho with ⟨h1, h2⟩ | ⟨rfl, rfl⟩ <;> rcases hget ho' with ⟨h3, h4⟩ | ⟨rfl, rfl⟩
    · rw [hk _ h1, hk _ h3] at he; exact hr.mem.inj _ _ _ _ h2 h4 he
    · rw [hk _ h1, hup] at he; exact (hr.mem.xr _ hin _ _ h2 he).elim
    · rw [hk _ h3, hup] at he; exact (hr.mem.xr _ hin _ _ h4 he.symm).elim
    · rfl
  · rcases hget ho with ⟨h1, h2⟩ | ⟨rfl, rfl⟩
    · rw [hk _ h1]; exact hr.mem.old _ _ h2
    · rw [hup]; exact .inl (hr.mem.xo _ hin)
  · rcases hget ho with ⟨h1, h2⟩ | ⟨rfl, rfl⟩
    · rw [hk _ h1]; exact hr.mem.dis _ _ h2
    · rw [hup]; exact hr.mem.xd _ hin
  · rcases hget ho with ⟨h1, h2⟩ | ⟨rfl, rfl⟩
    · rw [hk _ h1]; exact hr.mem.xr p (hsub p hp) _ _ h2
    · rw [hup]; exact fun h => hx p hp h.symm
theorem Rel.drew (hr : Rel W0 M S ρ e X H a W) : Rel W0 M S ρ e X H a { W with drawn := W.drawn + 1 } :=
  ⟨hr.tm, hr.df, ⟨hr.mem.kn, hr.mem.inj, hr.mem.old, hr.mem.dis, hr.mem.sub, ⟨hr.mem.mod.os, hr.mem.mod.tape, hr.mem.mod.output, hr.mem.mod.size, hr.mem.mod.blk⟩, hr.mem.xk, hr.mem.xo, hr.mem.xd, hr.mem.xr⟩, hr.pc⟩
end

section
variable {P : Program} {ops : Array Oper}
theorem puts_app (D1 D2 : List Pd) (a : Act) : puts (D1 ++ D2) a = puts D1 (puts D2 a) := by
  induction D1 with
  | nil => rfl
  | cons d D1 ih => simp only [List.cons_append, puts, ih]
theorem puts_put {D : List Pd} {dst : Option Nat} (v : Value) (a : Act) (h : ∀ d ∈ D, ∀ t, d.o.dst = some t → dst ≠ some t) : puts D (a.put dst v) = (puts D a).put dst v := by
  induction D with
  | nil => rfl
  | cons d D ih =>
    simp only [puts]
    rw [ih (fun d' hd => h d' (List.mem_cons_of_mem _ hd))]
    exact (Act.put_comm (puts D a) (x := d.o.dst) (y := dst) d.v v (h d (List.mem_cons_self ..))).symm
theorem puts_exec {D : List Pd} {o : Oper} (hs : ∀ cs b, o.op ≠ .select cs b) (a : Act) (h : ∀ d ∈ D, ∀ t, d.o.dst = some t → t ∉ o.looksAt ops) : execOp (puts D a).eval o = execOp a.eval o := by
  induction D with
  | nil => rfl
  | cons d D ih =>
    simp only [puts]
    rw [execOp_put (ops := ops) o hs _ d.o.dst d.v (h d (List.mem_cons_self ..)), ih (fun d' hd => h d' (List.mem_cons_of_mem _ hd))]
theorem puts_wanted {D : List Pd} {o : Oper} (a : Act) (h : ∀ d ∈ D, ∀ t, d.o.dst = some t → t ∉ o.looksAt ops) : Region.wanted o (yielded ops (puts D a).tmps) = Region.wanted o (yielded ops a.tmps) := by
  induction D with
  | nil => rfl
  | cons d D ih =>
    simp only [puts]
    rw [wanted_put (ops := ops) o _ d.o.dst d.v (h d (List.mem_cons_self ..)), ih (fun d' hd => h d' (List.mem_cons_of_mem _ hd))]
theorem puts_size (D : List Pd) (a : Act) : (puts D a).tmps.size = a.tmps.size := by
  induction D with
  | nil => rfl
  | cons d D ih =>
    simp only [puts]
    cases d.o.dst <;> simp [Act.put, ih]
/-- an operation that is put off has its value -/
def Pend (P : Program) (ops : Array Oper) (d : Pd) (a : Act) : Prop :=
  (Region.wanted d.o (yielded ops a.tmps) = true ∧ ∀ W, holds d.need W → (execOp a.eval d.o).run P W = .ok (.value d.v) W) ∨ (Region.wanted d.o (yielded ops a.tmps) = false ∧ d.v = Go.undef)
def PdL (P : Program) (ops : Array Oper) : List Pd → Act → Prop
  | [], _ => True
  | d :: D, a => Pend P ops d (puts D a) ∧ PdL P ops D a
theorem Pend.put {d : Pd} {a : Act} (hs : ∀ cs b, d.o.op ≠ .select cs b) {dst : Option Nat} (v : Value) (h : ∀ t, dst = some t → t ∉ d.o.looksAt ops) (hp : Pend P ops d a) : Pend P ops d (a.put dst v) := by
  unfold Pend at *
  rw [execOp_put (ops := ops) d.o hs a dst v h, wanted_put (ops := ops) d.o a dst v h]
  exact hp
theorem PdL.put {D : List Pd} {a : Act} {dst : Option Nat} (v : Value) (hs : ∀ d ∈ D, ∀ cs b, d.o.op ≠ .select cs b) (h : ∀ d ∈ D, ∀ t, dst = some t → t ∉ d.o.looksAt ops) (h2 : ∀ d ∈ D, ∀ t, d.o.dst = some t → dst ≠ some t)
    (hp : PdL P ops D a) : PdL P ops D (a.put dst v) := by
  induction D with
  | nil => trivial
  | cons d D ih =>
    obtain ⟨h0, h1⟩ := hp
    refine ⟨?_, ih (fun d' hd => hs d' (List.mem_cons_of_mem _ hd)) (fun d' hd => h d' (List.mem_cons_of_mem _ hd)) (fun d' hd => h2 d' (List.mem_cons_of_mem _ hd)) h1⟩
    rw [puts_put v a (fun d' hd => h2 d' (List.mem_cons_of_mem _ hd))]
    exact h0.put (hs d (List.mem_cons_self ..)) v (h d (List.mem_cons_self ..))
theorem PdL.at {D1 D2 : List Pd} {d : Pd} {a : Act} (hp : PdL P ops (D1 ++ d :: D2) a) : Pend P ops d (puts D2 a) := by
  induction D1 with
  | nil => exact hp.1
  | cons d' D1 ih => exact ih hp.2
/-- one that was put off is done -/
theorem PdL.mid {D1 D2 : List Pd} {d : Pd} {a : Act} (hs : ∀ d ∈ D2, ∀ cs b, d.o.op ≠ .select cs b) (h : ∀ d' ∈ D2, ∀ t, d.o.dst = some t → t ∉ d'.o.looksAt ops) (h2 : ∀ d' ∈ D2, ∀ t, d'.o.dst = some t → d.o.dst ≠ some t)
    (hp : PdL P ops (D1 ++ d :: D2) a) : PdL P ops (D1 ++ D2) (a.put d.o.dst d.v) := by
  induction D1 with
  | nil => exact PdL.put d.v hs h h2 hp.2
  | cons d' D1 ih =>
    obtain ⟨h0, h1⟩ := hp
    refine ⟨?_, ih h1⟩
    have : puts (D1 ++ D2) (a.put d.o.dst d.v) = puts (D1 ++ d :: D2) a := by
      rw [puts_app, puts_app, puts, puts_put d.v a h2]
    show Pend P ops d' (puts (D1 ++ D2) (a.put d.o.dst d.v))
    rw [this]
    exact h0
end
end Go.Proofs.Ytcnkljeniffmmaa
