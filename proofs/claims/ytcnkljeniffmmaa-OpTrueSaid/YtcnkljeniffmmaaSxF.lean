/- A symbolic run of a function's code: each operation does what the run says. Over any program; no program in sight. -/
import Derived.Test.YtcnkljeniffmmaaSxE
namespace Go.Proofs.Ytcnkljeniffmmaa
open Go.RowKit

section
variable {P : Program} {W0 : World} {M : Nat → Prop} {S : St} {ρ : Nat → Nat} {e : Env} {X : List (Nat × Obj)} {H : Hp} {a : Act} {W : World} {o : Oper}

theorem kn_of (hr : Rel W0 M S ρ e X H a W) {k : Nat} {ob : SObj} (h : (S.h[k]?).join = some ob) : S.h[k]? = some (some ob) ∧ W.heap[ρ k]? = some (ob.den ρ e) := by
  have : S.h[k]? = some (some ob) := by
    cases hh : S.h[k]? with
    | none => rw [hh] at h; cases h
    | some q => rw [hh] at h; simp only [Option.join_some] at h; rw [h]
  exact ⟨this, hr.mem.kn k ob this⟩
theorem join_ok {h : List (Option SObj)} {k : Nat} {ob : SObj} (hh : (h[k]?).join = some ob) : h[k]? = some (some ob) := by
  cases hx : h[k]? with
  | none => rw [hx] at hh; cases hh
  | some q => rw [hx] at hh; simp only [Option.join_some] at hh; rw [hh]
theorem ok_load (hr : RelT S ρ e a) {t : Nat} {x : Operand} (hop : o.op = .load t x) : StepOk P S ρ e a W o (step P S o) := by
  simp only [step, hop]
  split
  · rename_i k off hx
    split
    · rename_i ob hob
      split
      · rename_i v hv
        have h1 := join_ok hob
        intro ob' v' ho h2 hp
        rw [h1] at ho
        simp only [Option.some.injEq] at ho
        subst ho
        rw [hv] at hp
        simp only [Option.some.injEq] at hp
        subst hp
        simp only [execOp, hop, Instr.loadAt, ev_ok hr.tm hx, SV.den, Instr.sureAddr, Sem.run_bind, Sem.run_pure, Result.andThen_ok]
        unfold partOf at hv
        split at hv
        · cases hv
        · rename_i n hn
          have hl : (loadVar t ⟨ρ k, off, none⟩).run P W = .ok (v.den ρ e) W := by
            split at hv
            · rename_i ha
              split at hv
              · rename_i hle
                simp only [Option.some.injEq] at hv
                subst hv
                refine run_loadVar_at hn h2 (cs := (SV.dens ρ e ((ob.cs.drop off).take n))) (fun j hj => ?_) (by simp [dens_len]; omega) ?_
                · simp only [dens_len, List.length_take, List.length_drop] at hj
                  simp only [List.getElem?_toArray, dens_get, List.getElem?_take, List.getElem?_drop]
                  rw [if_pos (by omega)]
                · simp only [ha, if_true, SV.den]
              · cases hv
            · rename_i ha
              have hlt : off < ob.cs.length := by
                rcases Nat.lt_or_ge off ob.cs.length with h | h
                · exact h
                · rw [List.getElem?_eq_none h] at hv; cases hv
              simp only [loadVar, Sem.run_bind, isAggT_ok hn, Result.andThen_ok, ha, Bool.false_eq_true, if_false]
              have hcell : W.cell? ⟨ρ k, off, none⟩ = some (v.den ρ e) := by
                rw [cell_at h2]; simp [dens_get, hv]
              simp [run_load, hcell]
          simp [hl]
      · trivial
    · trivial
  · rename_i i off hx
    intro zs cs hz hcl hrow v hv
    obtain ⟨n, zv, hn, hzs, hzl, _⟩ := zcells_ok hz
    obtain ⟨b, o', hp, C, T, fz, hb, hc⟩ := hrow
    have hb' : W.heap[b]? = some (.cells C T fz) := hb
    simp only [execOp, hop, Instr.loadAt, ev_ok hr.tm hx, SV.den, ptrAt, hp, Option.map_some, Instr.sureAddr, Sem.run_bind, Sem.run_pure, Result.andThen_ok]
    simp only [run_loadVar_at hn hb' hc (by omega) hv, Result.andThen_ok]
  · trivial
theorem ok_store (hr : RelT S ρ e a) {t : Nat} {x y : Operand} (hop : o.op = .store t x y) : StepOk P S ρ e a W o (step P S o) := by
  simp only [step, hop]
  split
  · rename_i k off v n hx hy hn
    split
    · rename_i cs ob hcs hob
      split
      · rename_i hc
        obtain ⟨h1, h2, h3⟩ := hc
        have k1 := join_ok hob
        intro ob' ho k2
        rw [k1] at ho
        simp only [Option.some.injEq] at ho
        subst ho
        refine ⟨by omega, ?_⟩
        have hcv := cellsOfSV_ok hcs ρ e
        have hst := run_storeCells_at (P := P) (ρ k) off ob.ty (SV.dens ρ e cs) 0 _ W k2 (by simp [dens_len]; omega) (ones_ok h3 ρ e)
        simp only [execOp, hop, Instr.storeAt, ev_ok hr.tm hx, ev_ok hr.tm hy, SV.den, Instr.sureAddr, Sem.run_bind, Sem.run_pure, Result.andThen_ok, storeVar, sizeT_ok hn, hcv]
        rw [if_neg (by simp [dens_len]; omega)]
        simp only [Sem.run_bind, hst, Result.andThen_ok, Sem.run_pure, Nat.add_zero]
        rw [setCells_eq _ _ _ (by omega)]
        simp only [dens_app, dens_take, dens_drop, dens_len]
      · trivial
    · trivial
  · rename_i i off v n hx hy hn
    simp only [StepOk, execOp, hop, EK.sem, SV.dens, ev_ok hr.tm hx, ev_ok hr.tm hy]
    rfl
  · trivial
theorem ok_nilCheck (hr : RelT S ρ e a) {x : Operand} (hop : o.op = .nilCheck x) : StepOk P S ρ e a W o (step P S o) := by
  simp only [step, hop]
  split
  · rename_i k off hx
    intro _
    simp only [execOp, hop, ev_ok hr.tm hx, SV.den, Sem.run_pure]
  · rename_i i off hx
    intro hc
    have := hc _ (List.mem_cons_self ..)
    simp only [Sb.den, Option.isSome_iff_exists] at this
    obtain ⟨p, hp⟩ := this
    simp only [execOp, hop, ev_ok hr.tm hx, SV.den, ptrAt, hp, Option.map_some, Sem.run_pure]
  · trivial
theorem run_eqGuard_int (op : BinOp) (t : Nat) (x y : Operand) (k : IntKind) (p q : Int) (w : World) : (eqGuard op t x y (.int k p) (.int k q)).run P w = .ok () w := by
  unfold eqGuard
  split <;> simp
theorem ok_ar (hr : RelT S ρ e a) {op : BinOp} {t ty : Nat} {x y : Operand} (hop : o.op = .binOp op t x y ty) {k : IntKind} {p q : Sx} (hx : ev S x = some (.int k p)) (hy : ev S y = some (.int k q))
    {f : Int → Int → Int} {g : Sx → Sx → Sx} (hg : ∀ u v, (g u v).den e = f (u.den e) (v.den e)) (hrun : ∀ (u v : Int) (w : World), (binOp op t (.int k u) (.int k v)).run P w = .ok (.int k (k.wrap (f u v))) w) :
    StepOk P S ρ e a W o (ar k f g p q) := by
  have he : ∀ u v : Int, p.den e = u → q.den e = v → (execOp a.eval o).run P W = .ok (.value (.int k (k.wrap (f u v)))) W := fun u v hu hv => by
    simp only [execOp, hop, ev_ok hr.tm hx, ev_ok hr.tm hy, SV.den, Sem.run_bind, run_eqGuard_int, Result.andThen_ok, hrun, Sem.run_pure, hu, hv]
  unfold ar
  split
  · intro _
    rw [he _ _ rfl rfl]
    rfl
  · intro hc
    have h := hc _ (List.mem_cons_self ..)
    simp only [Sb.den, decide_eq_true_eq, inKind, hg] at h
    rw [he _ _ rfl rfl]
    simp only [SV.den, hg, h]
theorem ok_binOp (hr : RelT S ρ e a) {op : BinOp} {t ty : Nat} {x y : Operand} (hop : o.op = .binOp op t x y ty) : StepOk P S ρ e a W o (step P S o) := by
  have hesc : ∀ u v r, ev S x = some u → ev S y = some v → StepOk P S ρ e a W o (ofOp x y op t u v r) := fun u v r hu hv => by
    simp only [ofOp, StepOk, execOp, hop, EK.sem, SV.dens, ev_ok hr.tm hu, ev_ok hr.tm hv]
    rfl
  simp only [step, hop]
  split
  · rename_i k p k' q hx hy
    split
    · rename_i hk
      subst hk
      have hcmp : ∀ (c : Sb), (∀ u v : Int, p.den e = u → q.den e = v → ∀ w, (Op.intCmp op u v).run P w = .ok (.bool (c.den e)) w) → (op ≠ .shl ∧ op ≠ .shr ∧ op ≠ .add ∧ op ≠ .sub ∧ op ≠ .mul ∧ op ≠ .quo ∧ op ≠ .rem ∧ op ≠ .and ∧ op ≠ .or ∧ op ≠ .xor ∧ op ≠ .andNot) →
          StepOk P S ρ e a W o (.val [] (.bool c)) := fun c hc hne _ => by
        have hb : (binOp op t (.int k (p.den e)) (.int k (q.den e))) = Op.intCmp op (p.den e) (q.den e) := by
          cases op <;> simp_all [binOp]
        simp only [execOp, hop, ev_ok hr.tm hx, ev_ok hr.tm hy, SV.den, Sem.run_bind, run_eqGuard_int, Result.andThen_ok, hb, hc _ _ rfl rfl, Sem.run_pure]
      split
      · exact ok_ar hr hop hx hy (fun _ _ => rfl) (fun u v w => by simp [binOp, Op.intArith])
      · exact ok_ar hr hop hx hy (fun _ _ => rfl) (fun u v w => by simp [binOp, Op.intArith])
      · exact ok_ar hr hop hx hy (fun _ _ => rfl) (fun u v w => by simp [binOp, Op.intArith])
      · exact hcmp _ (fun u v hu hv w => by subst hu hv; simp [Op.intCmp, Sb.den]; rfl) (by simp)
      · exact hcmp _ (fun u v hu hv w => by subst hu hv; simp [Op.intCmp, Sb.den]; rfl) (by simp)
      · exact hcmp _ (fun u v hu hv w => by subst hu hv; simp [Op.intCmp, Sb.den]) (by simp)
      · exact hcmp _ (fun u v hu hv w => by subst hu hv; simp [Op.intCmp, Sb.den]) (by simp)
      · exact hcmp _ (fun u v hu hv w => by subst hu hv; simp [Op.intCmp, Sb.den]) (by simp)
      · exact hcmp _ (fun u v hu hv w => by subst hu hv; simp [Op.intCmp, Sb.den]) (by simp)
      · exact hesc _ _ _ hx hy
    · trivial
  · rename_i u v hn hx hy
    exact hesc _ _ _ hx hy
  · trivial
end
end Go.Proofs.Ytcnkljeniffmmaa
