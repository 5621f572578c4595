/- A symbolic run of a function's code: memory behind an operation. Over any program; no program in sight. -/
import Derived.Test.YtcnkljeniffmmaaSxI
namespace Go.Proofs.Ytcnkljeniffmmaa
open Go.RowKit

theorem Mod.refl (M : Nat → Prop) (W : World) : Mod M W W := ⟨rfl, rfl, rfl, Nat.le_refl _, fun _ _ _ => rfl⟩
theorem Mod.trans {M N : Nat → Prop} {A B C : World} (h : Mod M A B) (k : Mod N B C) (hn : ∀ b, b < A.heap.size → N b → M b) : Mod M A C :=
  ⟨k.os.trans h.os, k.tape.trans h.tape, k.output.trans h.output, Nat.le_trans h.size k.size, fun b hb hm => (k.blk b (Nat.lt_of_lt_of_le hb h.size) (fun hh => hm (hn b hb hh))).trans (h.blk b hb hm)⟩
theorem Ext.mod {A B : World} (h : Ext A B) (N : Nat → Prop) : Mod N A B := ⟨h.os, h.tape, h.output, h.size, fun b hb _ => h.block b hb⟩
theorem Hp.le_refl (H : Hp) : H.le H := fun _ _ h => h
theorem Hp.le_trans {A B C : Hp} (h : A.le B) (k : B.le C) : A.le C := fun b o hh => k b o (h b o hh)
theorem Ext.hp {A B : World} (h : Ext A B) : (hpOf A).le (hpOf B) := fun b o hb => by
  have hlt : b < A.heap.size := by
    rcases Nat.lt_or_ge b A.heap.size with hh | hh
    · exact hh
    · simp only [hpOf, Array.getElem?_eq_none hh] at hb; cases hb
  simp only [hpOf] at hb ⊢
  rw [h.block b hlt, hb]
theorem heap_lt {W : World} {b : Nat} {o : Obj} (h : W.heap[b]? = some o) : b < W.heap.size := by
  rcases Nat.lt_or_ge b W.heap.size with hh | hh
  · exact hh
  · rw [Array.getElem?_eq_none hh] at h; cases h

section
variable {W0 : World} {M : Nat → Prop} {S : St} {ρ : Nat → Nat} {e : Env} {X : List (Nat × Obj)} {H : Hp} {a : Act} {W : World}

theorem TmRel.put {tm : List (Option SV)} (h : TmRel ρ e tm a) (t : Nat) (v : SV) : TmRel ρ e (tm.set t (some v)) { a with tmps := a.tmps.setIfInBounds t (v.den ρ e) } := by
  refine ⟨by simp [h.1], fun t' v' ht => ?_⟩
  rw [List.getElem?_set] at ht
  simp only [Array.getElem?_setIfInBounds]
  split at ht
  · rename_i hh
    subst hh
    split at ht
    · rename_i hl
      simp only [Option.some.injEq] at ht
      subst ht
      simp [h.1, hl]
    · cases ht
  · rename_i hh
    rw [if_neg hh]
    exact h.2 t' v' ht
theorem Rel.put (hr : Rel W0 M S ρ e X H a W) (d : Option Nat) (v : SV) : Rel W0 M (S.put d v) ρ e X H (a.put d (v.den ρ e)) W := by
  cases d with
  | none => exact hr
  | some t => exact ⟨hr.tm.put t v, hr.df, hr.mem, hr.pc⟩
theorem Rel.know (hr : Rel W0 M S ρ e X H a W) {c : Sb} {b : Bool} (hc : c.den e = b) : Rel W0 M { S with pc := (c, b) :: S.pc } ρ e X H a W :=
  ⟨hr.tm, hr.df, hr.mem, fun p hp => by
    rcases List.mem_cons.1 hp with rfl | hp
    · exact hc
    · exact hr.pc p hp⟩
theorem Rel.next (hr : Rel W0 M S ρ e X H a W) (n : Nat) : Rel W0 M { S with nv := n } ρ e X H a W := ⟨hr.tm, hr.df, hr.mem, hr.pc⟩
theorem put_dp (S : St) (d : Option Nat) (v : SV) : (S.put d v).dp = S.dp := by cases d <;> rfl

/-- a new block -/
theorem Rel.alloc (hr : Rel W0 M S ρ e X H a W) (hf : S.fits = true) {cs : List SV} (hcs : SV.lts S.nv S.h.length cs = true) (t : Nat) :
    Rel W0 M { S with h := S.h ++ [some { cs := cs, ty := t }] } (upd ρ S.h.length W.heap.size) e X H a (W.alloc (.cells (SV.dens ρ e cs).toArray t (0, 0))) := by
  have hk : ∀ k, k < S.h.length → upd ρ S.h.length W.heap.size k = ρ k := fun k hk => by unfold upd; rw [if_neg (by omega)]
  have hr' := hr.congr (ρ' := upd ρ S.h.length W.heap.size) (e' := e) hf (fun _ _ => rfl) hk
  have hlt : ∀ {k o}, S.h[k]? = some (some o) → ρ k < W.heap.size := fun h => heap_lt (hr.mem.kn _ _ h)
  have hold : ∀ b, b < W.heap.size → (W.alloc (.cells (SV.dens ρ e cs).toArray t (0, 0))).heap[b]? = W.heap[b]? := fun b hb => Below.heap_alloc _ _ _ hb
  have hnew : (W.alloc (.cells (SV.dens ρ e cs).toArray t (0, 0))).heap[W.heap.size]? = some (.cells (SV.dens ρ e cs).toArray t (0, 0)) := by
    show (W.heap.push _)[W.heap.size]? = _
    simp
  have hup : upd ρ S.h.length W.heap.size S.h.length = W.heap.size := by unfold upd; rw [if_pos rfl]
  have hget : ∀ {k : Nat} {o : SObj}, (S.h ++ [some { cs := cs, ty := t }])[k]? = some (some o) → (k < S.h.length ∧ S.h[k]? = some (some o)) ∨ (k = S.h.length ∧ o = { cs := cs, ty := t }) := fun {k o} h => by
    rcases Nat.lt_or_ge k S.h.length with hh | hh
    · rw [List.getElem?_append_left hh] at h; exact .inl ⟨hh, h⟩
    · rw [List.getElem?_append_right hh] at h
      have : k - S.h.length = 0 := by
        rcases Nat.eq_zero_or_pos (k - S.h.length) with h0 | h0
        · exact h0
        · rw [List.getElem?_eq_none (by simp; omega)] at h; cases h
      rw [this] at h
      simp only [List.getElem?_cons_zero, Option.some.injEq] at h
      exact .inr ⟨by omega, h.symm⟩
  refine ⟨hr'.tm, hr.df, ⟨fun k o ho => ?_, fun k j o o' ho ho' he => ?_, fun k o ho => ?_, fun k o ho => ?_, fun b o hb => ?_, ?_, fun p hp => ?_, hr.mem.xo, hr.mem.xd, fun p hp k o ho => ?_⟩, hr'.pc⟩
  · rcases hget ho with ⟨h1, h2⟩ | ⟨rfl, rfl⟩
    · rw [hk k h1, hold _ (hlt h2)]
      have := hr'.mem.kn k o h2
      rw [hk k h1] at this
      exact this
    · rw [hup, hnew]
      simp only [SObj.den, SV.dens_congr (e := e) (e' := e) (n := S.nv) (fun _ _ => rfl) hk cs hcs]
  · rcases hget ho with ⟨h1, h2⟩ | ⟨rfl, rfl⟩ <;> rcases hget ho' with ⟨h3, h4⟩ | ⟨rfl, rfl⟩
    · rw [hk _ h1, hk _ h3] at he; exact hr.mem.inj _ _ _ _ h2 h4 he
    · rw [hk _ h1, hup] at he; have := hlt h2; omega
    · rw [hk _ h3, hup] at he; have := hlt h4; omega
    · rfl
  · rcases hget ho with ⟨h1, h2⟩ | ⟨rfl, rfl⟩
    · rw [hk _ h1]; exact hr.mem.old _ _ h2
    · rw [hup]; exact .inl hr.mem.mod.size
  · rcases hget ho with ⟨h1, h2⟩ | ⟨rfl, rfl⟩
    · rw [hk _ h1]; exact hr.mem.dis _ _ h2
    · rw [hup]
      cases hh : H W.heap.size with
      | none => rfl
      | some o => have := heap_lt (hr.mem.sub _ _ hh); omega
  · have h1 := hr.mem.sub b o hb
    have h2 := heap_lt h1
    simp only [hpOf] at h1 ⊢
    rw [hold b h2, h1]
  · exact hr.mem.mod.trans (N := fun _ => False) ⟨rfl, rfl, rfl, by simp, fun b hb _ => hold b hb⟩ (fun _ _ h => h.elim)
  · have h1 := hr.mem.xk p hp
    rw [hold _ (heap_lt h1), h1]
  · rcases hget ho with ⟨h1, h2⟩ | ⟨rfl, rfl⟩
    · rw [hk _ h1]; exact hr.mem.xr p hp _ _ h2
    · rw [hup]; have := heap_lt (hr.mem.xk p hp); omega
/-- a store into a known block -/
theorem Rel.store (hr : Rel W0 M S ρ e X H a W) {k : Nat} {ob : SObj} (hk : S.h[k]? = some (some ob)) (cs : List SV) :
    Rel W0 M (S.setObj k { ob with cs := cs }) ρ e X H a (W.setRow (ρ k) (SV.dens ρ e cs).toArray) := by
  have hkn := hr.mem.kn k ob hk
  have hsame : ∀ b, b ≠ ρ k → (W.setRow (ρ k) (SV.dens ρ e cs).toArray).heap[b]? = W.heap[b]? := fun b hb => setRow_other _ _ _ _ hb
  have hget : ∀ {j : Nat} {o : SObj}, (S.h.set k (some { ob with cs := cs }))[j]? = some (some o) → (j = k ∧ o = { ob with cs := cs }) ∨ (j ≠ k ∧ S.h[j]? = some (some o)) := fun {j o} h => by
    rw [List.getElem?_set] at h
    split at h
    · rename_i hh
      split at h
      · simp only [Option.some.injEq] at h; exact .inl ⟨hh.symm, h.symm⟩
      · cases h
    · rename_i hh; exact .inr ⟨fun h' => hh h'.symm, h⟩
  have hany : ∀ {j : Nat} {o : SObj}, (S.h.set k (some { ob with cs := cs }))[j]? = some (some o) → ∃ o', S.h[j]? = some (some o') := fun h => by
    rcases hget h with ⟨rfl, _⟩ | ⟨_, h⟩
    · exact ⟨_, hk⟩
    · exact ⟨_, h⟩
  refine ⟨hr.tm, hr.df, ⟨fun j o ho => ?_, fun i j o o' ho ho' he => ?_, fun j o ho => ?_, fun j o ho => ?_, fun b o hb => ?_, ?_, fun p hp => ?_, hr.mem.xo, hr.mem.xd, fun p hp j o ho => ?_⟩, hr.pc⟩
  · rcases hget ho with ⟨rfl, rfl⟩ | ⟨hne, hj⟩
    · exact setRow_heap _ _ _ _ _ _ hkn
    · rw [hsame _ (fun he => hne (hr.mem.inj _ _ _ _ hj hk he))]
      exact hr.mem.kn j o hj
  · obtain ⟨o1, h1⟩ := hany ho
    obtain ⟨o2, h2⟩ := hany ho'
    exact hr.mem.inj _ _ _ _ h1 h2 he
  · obtain ⟨o1, h1⟩ := hany ho; exact hr.mem.old _ _ h1
  · obtain ⟨o1, h1⟩ := hany ho; exact hr.mem.dis _ _ h1
  · have hne : b ≠ ρ k := fun h => by rw [h, hr.mem.dis k ob hk] at hb; cases hb
    simp only [hpOf]
    rw [hsame b hne]
    exact hr.mem.sub b o hb
  · refine hr.mem.mod.trans (N := fun b => b = ρ k) ⟨rfl, rfl, rfl, by simp, fun b _ hb => hsame b hb⟩ (fun b hb h => ?_)
    rcases hr.mem.old k ob hk with h1 | h1
    · omega
    · rw [h]; exact h1
  · rw [hsame _ (fun h => hr.mem.xr p hp k ob hk h.symm)]
    exact hr.mem.xk p hp
  · obtain ⟨o1, h1⟩ := hany ho; exact hr.mem.xr p hp _ _ h1
/-- behind a call that turns nothing that was there -/
theorem Rel.ext (hr : Rel W0 M S ρ e X H a W) {W' : World} (h : Ext W W') : Rel W0 M S ρ e X H a W' := by
  have hsame : ∀ {b o}, W.heap[b]? = some o → W'.heap[b]? = some o := fun hb => by rw [h.block _ (heap_lt hb), hb]
  exact ⟨hr.tm, hr.df, ⟨fun k o ho => hsame (hr.mem.kn k o ho), hr.mem.inj, hr.mem.old, hr.mem.dis, fun b o hb => hsame (hr.mem.sub b o hb), hr.mem.mod.trans (h.mod (fun _ => False)) (fun _ _ h => h.elim), fun p hp => hsame (hr.mem.xk p hp), hr.mem.xo, hr.mem.xd, hr.mem.xr⟩, hr.pc⟩
/-- more memory is held fast -/
theorem Rel.hold (hr : Rel W0 M S ρ e X H a W) {H' : Hp} (hs : H'.le (hpOf W)) (hd : ∀ b o, H' b = some o → (∃ o', H b = some o') ∨ ((∀ k ob, S.h[k]? = some (some ob) → ρ k ≠ b) ∧ ∀ p ∈ X, p.1 ≠ b)) : Rel W0 M S ρ e X H' a W := by
  refine ⟨hr.tm, hr.df, ⟨hr.mem.kn, hr.mem.inj, hr.mem.old, fun k o ho => ?_, hs, hr.mem.mod, hr.mem.xk, hr.mem.xo, fun p hp => ?_, hr.mem.xr⟩, hr.pc⟩
  · cases hh : H' (ρ k) with
    | none => rfl
    | some ob =>
      rcases hd _ _ hh with ⟨o', h1⟩ | ⟨h1, _⟩
      · rw [hr.mem.dis k o ho] at h1; cases h1
      · exact (h1 k o ho rfl).elim
  · cases hh : H' p.1 with
    | none => rfl
    | some ob =>
      rcases hd _ _ hh with ⟨o', h1⟩ | ⟨_, h1⟩
      · rw [hr.mem.xd p hp] at h1; cases h1
      · exact (h1 p hp rfl).elim
theorem setObjs_get : ∀ {l : List (Nat × SObj)} {S : St} {j : Nat} {o : SObj}, (setObjs S l).h[j]? = some (some o) → (∃ p ∈ l, p.1 = j ∧ p.2 = o) ∨ ((∀ p ∈ l, p.1 ≠ j ∨ S.h.length ≤ j) ∧ S.h[j]? = some (some o))
  | [], S, j, o, h => .inr ⟨fun p hp => by simp at hp, h⟩
  | (k, q) :: r, S, j, o, h => by
    rcases setObjs_get (l := r) (S := S.setObj k q) h with ⟨p, hp, h1⟩ | ⟨h1, h2⟩
    · exact .inl ⟨p, List.mem_cons_of_mem _ hp, h1⟩
    · simp only [St.setObj] at h1 h2
      rw [List.getElem?_set] at h2
      split at h2
      · rename_i hh
        split at h2
        · simp only [Option.some.injEq] at h2
          exact .inl ⟨(k, q), List.mem_cons_self .., hh, h2⟩
        · cases h2
      · rename_i hh
        refine .inr ⟨fun p hp => ?_, h2⟩
        rcases List.mem_cons.1 hp with rfl | hp
        · exact .inl hh
        · have := h1 p hp
          simpa using this
theorem setObjs_rest : ∀ (l : List (Nat × SObj)) (S : St), (setObjs S l).tm = S.tm ∧ (setObjs S l).nv = S.nv ∧ (setObjs S l).pc = S.pc ∧ (setObjs S l).dp = S.dp
  | [], _ => ⟨rfl, rfl, rfl, rfl⟩
  | (k, q) :: r, S => setObjs_rest r (S.setObj k q)
/-- behind a call that turns known blocks -/
theorem Rel.mods (hr : Rel W0 M S ρ e X H a W) {W' : World} {l : List (Nat × SObj)} (hl : ∀ p ∈ l, ∃ o, S.h[p.1]? = some (some o)) (hm : Mod (fun b => ∃ p ∈ l, ρ p.1 = b) W W') (hc : ∀ p ∈ l, W'.heap[ρ p.1]? = some (p.2.den ρ e)) :
    Rel W0 M (setObjs S l) ρ e X H a W' := by
  obtain ⟨r1, r2, r3, r4⟩ := setObjs_rest l S
  have hany : ∀ {j : Nat} {o : SObj}, (setObjs S l).h[j]? = some (some o) → ∃ o', S.h[j]? = some (some o') := fun {j o} h => by
    rcases setObjs_get h with ⟨p, hp, rfl, _⟩ | ⟨_, h⟩
    · exact hl p hp
    · exact ⟨_, h⟩
  have hkeep : ∀ {b o}, W.heap[b]? = some o → (∀ p ∈ l, ρ p.1 ≠ b) → W'.heap[b]? = some o := fun {b o} hb hn => by
    rw [hm.blk b (heap_lt hb) (fun ⟨p, hp, he⟩ => hn p hp he), hb]
  refine ⟨by rw [r1]; exact hr.tm, hr.df, ⟨fun j o ho => ?_, fun i j o o' ho ho' he => ?_, fun j o ho => ?_, fun j o ho => ?_, fun b o hb => ?_, ?_, fun p hp => ?_, hr.mem.xo, hr.mem.xd, fun p hp j o ho => ?_⟩, by rw [r3]; exact hr.pc⟩
  · rcases setObjs_get ho with ⟨p, hp, rfl, rfl⟩ | ⟨hn, h⟩
    · exact hc p hp
    · refine hkeep (hr.mem.kn j o h) (fun p hp he => ?_)
      obtain ⟨o', ho'⟩ := hl p hp
      have := hr.mem.inj _ _ _ _ ho' h he
      rcases hn p hp with h1 | h1
      · exact h1 this
      · have := lt_len h; omega
  · obtain ⟨o1, h1⟩ := hany ho
    obtain ⟨o2, h2⟩ := hany ho'
    exact hr.mem.inj _ _ _ _ h1 h2 he
  · obtain ⟨o1, h1⟩ := hany ho; exact hr.mem.old _ _ h1
  · obtain ⟨o1, h1⟩ := hany ho; exact hr.mem.dis _ _ h1
  · refine hkeep (hr.mem.sub b o hb) (fun p hp he => ?_)
    obtain ⟨o', ho'⟩ := hl p hp
    have := hr.mem.dis _ _ ho'
    rw [he, hb] at this; cases this
  · refine hr.mem.mod.trans hm (fun b hb ⟨p, hp, he⟩ => ?_)
    obtain ⟨o', ho'⟩ := hl p hp
    rcases hr.mem.old _ _ ho' with h1 | h1
    · omega
    · rw [← he]; exact h1
  · refine hkeep (hr.mem.xk p hp) (fun q hq he => ?_)
    obtain ⟨o', ho'⟩ := hl q hq
    exact hr.mem.xr p hp _ _ ho' he
  · obtain ⟨o1, h1⟩ := hany ho; exact hr.mem.xr p hp _ _ h1
/-- behind an operation that turns memory held fast -/
theorem Rel.turn (hr : Rel W0 M S ρ e X H a W) {W' : World} {H' : Hp} (h : Turned W0 M H W H' W') : Rel W0 M S ρ e X H' a W' := by
  have hkeep : ∀ {b o}, W.heap[b]? = some o → H b = none → W'.heap[b]? = some o := fun {b o} hb hn => by
    rw [h.mod.blk b (heap_lt hb) (fun ⟨⟨o, ho⟩, _⟩ => by rw [hn] at ho; cases ho), hb]
  have hnone : ∀ {b}, H b = none → b < W.heap.size → H' b = none := fun {b} hn hlt => by
    cases hh : H' b with
    | none => rfl
    | some o =>
      rcases h.dom b o hh with ⟨o', h1⟩ | h1
      · rw [hn] at h1; cases h1
      · omega
  refine ⟨hr.tm, hr.df, ⟨fun k o ho => hkeep (hr.mem.kn k o ho) (hr.mem.dis k o ho), hr.mem.inj, hr.mem.old, fun k o ho => hnone (hr.mem.dis k o ho) (heap_lt (hr.mem.kn k o ho)), h.sub, ?_, fun p hp => hkeep (hr.mem.xk p hp) (hr.mem.xd p hp), hr.mem.xo, fun p hp => hnone (hr.mem.xd p hp) (heap_lt (hr.mem.xk p hp)), hr.mem.xr⟩, hr.pc⟩
  refine hr.mem.mod.trans h.mod (fun b hb ⟨_, h1⟩ => ?_)
  rcases h1 with h1 | h1
  · omega
  · exact h1
theorem KN_ok (hr : Rel W0 M S ρ e X H a W) : ∀ {l : List (Nat × SObj)}, (∀ p ∈ l, S.h[p.1]? = some (some p.2)) → KN W0 M H W ρ e l
  | [], _ => trivial
  | (k, o) :: r, h => by
    have h0 := h (k, o) (List.mem_cons_self ..)
    exact ⟨⟨hr.mem.kn k o h0, hr.mem.old k o h0, hr.mem.dis k o h0⟩, KN_ok hr (fun p hp => h p (List.mem_cons_of_mem _ hp))⟩
theorem knOf_ok (S : St) (vs : List SV) : ∀ p ∈ knOf S vs, S.h[p.1]? = some (some p.2) := by
  intro p hp
  unfold knOf at hp
  rw [List.mem_filterMap] at hp
  obtain ⟨k, _, hk⟩ := hp
  simp only [Option.map_eq_some_iff] at hk
  obtain ⟨o, ho, rfl⟩ := hk
  cases hh : S.h[k]? with
  | none => rw [hh] at ho; cases ho
  | some q => rw [hh] at ho; simp only [Option.join_some] at ho; rw [ho]
theorem Rel.now (hr : Rel W0 M S ρ e X H a W) : Now W0 M H W := ⟨hr.mem.sub, hr.mem.mod⟩
end
end Go.Proofs.Ytcnkljeniffmmaa
