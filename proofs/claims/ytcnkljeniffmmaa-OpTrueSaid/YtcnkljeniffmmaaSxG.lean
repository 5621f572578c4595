/- A symbolic run of a function's code: each operation does what the run says. Over any program; no program in sight. -/
import Derived.Test.YtcnkljeniffmmaaSxF
namespace Go.Proofs.Ytcnkljeniffmmaa
open Go.RowKit

section
variable {P : Program} {W0 : World} {M : Nat → Prop} {S : St} {ρ : Nat → Nat} {e : Env} {X : List (Nat × Obj)} {H : Hp} {a : Act} {W : World} {o : Oper}

theorem rng_ok {k : IntKind} {p : Sx} (h : (Sb.rng k p).den e = true) : k.wrap (p.den e) = p.den e := by
  have := (Sb.prop_iff e (.rng k p)).2 h
  exact this
theorem ok_unOp (hr : RelT S ρ e a) {op : UnOp} {t : Nat} {x : Operand} (hop : o.op = .unOp op t x) : StepOk P S ρ e a W o (step P S o) := by
  simp only [step, hop]
  split
  · rename_i b hx
    intro _
    simp [execOp, hop, ev_ok hr.tm hx, SV.den, Op.unary, Sb.den]
  · rename_i k p hx
    have he : (execOp a.eval o).run P W = .ok (.value (.int k (k.wrap (0 - p.den e)))) W := by
      simp [execOp, hop, ev_ok hr.tm hx, SV.den, Op.unary, Op.intArith]
    unfold ar
    split
    · intro _
      rename_i u v h1 h2
      rw [he]
      simp only [Sx.k.injEq] at h1
      subst h1
      rfl
    · intro hc
      have h := rng_ok (hc _ (List.mem_cons_self ..))
      simp only [Sx.den] at h
      rw [he]
      simp only [SV.den, Sx.den, h]
  · trivial
theorem ok_convert (hr : RelT S ρ e a) {s d : Nat} {x : Operand} (hop : o.op = .convert s d x) : StepOk P S ρ e a W o (step P S o) := by
  simp only [step, hop]
  split
  · rename_i kk p ds k hx hs hd
    have he : (execOp a.eval o).run P W = .ok (.value (.int k (k.wrap (p.den e)))) W := by
      simp only [execOp, hop, ev_ok hr.tm hx, SV.den, Sem.run_bind, convert, run_underlying hs, run_underlying hd, Result.andThen_ok]
      simp [Conv.intToInt]
    split
    · intro _
      rw [he]; rfl
    · split
      · intro hc
        have h := rng_ok (hc _ (List.mem_cons_self ..))
        rw [he]
        simp only [SV.den, h]
      · intro _
        rw [he]; rfl
  · rename_i v hx hn
    simp only [StepOk, execOp, hop, EK.sem, SV.dens, ev_ok hr.tm hx]
    rfl
  · trivial
theorem ok_fieldAddr (hr : RelT S ρ e a) {t f : Nat} {x : Operand} (hop : o.op = .fieldAddr t x f) : StepOk P S ρ e a W o (step P S o) := by
  simp only [step, hop]
  split
  · rename_i k off fs hx hu
    split
    · rename_i fl hf
      split
      · rename_i n hn
        intro _
        simp only [execOp, hop, ev_ok hr.tm hx, SV.den, Instr.fieldAt, Sem.run_bind, run_underlying hu, Result.andThen_ok, hf, Instr.sureAddr, Sem.run_pure, fieldPlace, sizeT_ok hn]
        simp [add_at]
      · trivial
    · trivial
  · rename_i i off fs hx hu
    split
    · rename_i fl hf
      split
      · rename_i n hn
        split
        · rename_i hz
          intro hc
          have h := hc _ (List.mem_cons_self ..)
          simp only [Sb.den, Option.isSome_iff_exists] at h
          obtain ⟨p, hp⟩ := h
          simp only [execOp, hop, ev_ok hr.tm hx, SV.den, ptrAt, hp, Option.map_some, Instr.fieldAt, Sem.run_bind, run_underlying hu, Result.andThen_ok, hf, Instr.sureAddr, Sem.run_pure, fieldPlace, sizeT_ok hn]
          simp [add_at, hz]
        · intro hc
          have h := hc _ (List.mem_cons_self ..)
          have h2 : 0 ≤ off.den e := (Sb.prop_iff e (.le (.k 0) off)).2 (hc _ (List.mem_cons_of_mem _ (List.mem_cons_self ..)))
          simp only [Sb.den, Option.isSome_iff_exists] at h
          obtain ⟨p, hp⟩ := h
          simp only [execOp, hop, ev_ok hr.tm hx, SV.den, ptrAt, hp, Option.map_some, Instr.fieldAt, Sem.run_bind, run_underlying hu, Result.andThen_ok, hf, Instr.sureAddr, Sem.run_pure, fieldPlace, sizeT_ok hn]
          have : (off.den e + (fl.offset : Int)).toNat = (off.den e).toNat + fl.offset := by omega
          simp [add_at, Sx.den, this, Nat.add_assoc]
      · trivial
    · trivial
  · trivial
theorem ok_field (hr : RelT S ρ e a) {t f : Nat} {x : Operand} (hop : o.op = .field t x f) : StepOk P S ρ e a W o (step P S o) := by
  simp only [step, hop]
  split
  · rename_i cs fs hx hu
    split
    · rename_i fl hf
      split
      · rename_i v hv
        intro _
        simp only [execOp, hop, ev_ok hr.tm hx, SV.den, Instr.field, Sem.run_bind, run_underlying hu, Result.andThen_ok, hf, asAgg, Sem.run_pure, partOf_ok hv]
      · trivial
    · trivial
  · trivial
theorem elems_get {mk : Nat → SV} {n j : Nat} {v : SV} (h : (elems mk n)[j]? = some v) : j < n ∧ v = mk j := by
  unfold elems at h
  rw [List.getElem?_map] at h
  by_cases hj : j < n
  · simp [hj] at h
    exact ⟨hj, h.symm⟩
  · rw [List.getElem?_eq_none (by simp; omega)] at h
    cases h
theorem ok_indexAddr (hr : RelT S ρ e a) {t : Nat} {x i : Operand} (hop : o.op = .indexAddr t x i) : StepOk P S ρ e a W o (step P S o) := by
  simp only [step, hop]
  split
  · rename_i k off ix n el hx hi hu
    simp only [Option.bind_eq_some_iff] at hi
    obtain ⟨iv, hiv, hix⟩ := hi
    obtain ⟨kk, hk⟩ := idxOf_ok hr hix
    split
    · rename_i s hs
      have he : ∀ j : Nat, ix.den e = j → j < n → (execOp a.eval o).run P W = .ok (.value (.pointer (some ⟨ρ k, off + j * s, none⟩))) W := fun j hj hlt => by
        simp only [execOp, hop, ev_ok hr.tm hx, ev_ok hr.tm hiv, hk, hj, SV.den, Instr.indexAt, asIntOf, Sem.run_bind, Sem.run_pure, run_underlying hu, Result.andThen_ok, Instr.sureAddr]
        rw [if_pos (by omega)]
        simp [sizeT_ok hs, add_at]
      split
      · rename_i j
        split
        · rename_i hj
          intro _
          rw [he j.toNat (by simp [Sx.den]; omega) (by omega)]
          rfl
        · trivial
      · rename_i ix' hnl
        intro j v hj hv
        obtain ⟨hlt, rfl⟩ := elems_get hv
        rw [he j hj hlt]
        rfl
    · trivial
  · rename_i k off len cap ix el hx hi hu
    simp only [Option.bind_eq_some_iff] at hi
    obtain ⟨iv, hiv, hix⟩ := hi
    obtain ⟨kk, hk⟩ := idxOf_ok hr hix
    split
    · rename_i s hs
      have he : ∀ j : Nat, ix.den e = j → j < len → (execOp a.eval o).run P W = .ok (.value (.pointer (some ⟨ρ k, off + j * s, none⟩))) W := fun j hj hlt => by
        simp only [execOp, hop, ev_ok hr.tm hx, ev_ok hr.tm hiv, hk, hj, SV.den, Instr.indexAt, asIntOf, Sem.run_bind, Sem.run_pure, run_underlying hu, Result.andThen_ok, Instr.sureAddr]
        rw [if_pos (by omega)]
        simp [sizeT_ok hs, add_at]
      split
      · rename_i j
        split
        · rename_i hj
          intro _
          rw [he j.toNat (by simp [Sx.den]; omega) (by omega)]
          rfl
        · trivial
      · rename_i ix' hnl
        intro j v hj hv
        obtain ⟨hlt, rfl⟩ := elems_get hv
        rw [he j hj hlt]
        rfl
    · trivial
  · rename_i b off len cap ix el hx hi hu
    simp only [Option.bind_eq_some_iff] at hi
    obtain ⟨iv, hiv, hix⟩ := hi
    obtain ⟨kk, hk⟩ := idxOf_ok hr hix
    split
    · rename_i s hs
      intro hc
      have h1 : 0 ≤ ix.den e ∧ ix.den e < len.den e := (Sb.prop_iff e (.idx ix len)).2 (hc (.idx ix len) (by simp))
      have h2 := hc (.isp b) (by simp)
      have h3 : 0 ≤ off.den e := (Sb.prop_iff e (.le (.k 0) off)).2 (hc (.le (.k 0) off) (by simp))
      simp only [Sb.den, Option.isSome_iff_exists] at h2
      obtain ⟨p, hp⟩ := h2
      simp only [execOp, hop, ev_ok hr.tm hx, ev_ok hr.tm hiv, hk, SV.den, ptrAt, hp, Option.map_some, Instr.indexAt, asIntOf, Sem.run_bind, Sem.run_pure, run_underlying hu, Result.andThen_ok]
      rw [if_pos (by omega)]
      have : (off.den e + ix.den e * (s : Int)).toNat = (off.den e).toNat + (ix.den e).toNat * s := by
        obtain ⟨q, hq⟩ := Int.eq_ofNat_of_zero_le h1.1
        rw [hq, Int.toNat_natCast, ← Int.natCast_mul]
        omega
      simp [sizeT_ok hs, add_at, Sx.den, this, Nat.add_assoc]
    · trivial
  · trivial
theorem ok_index (hr : RelT S ρ e a) {t : Nat} {x i : Operand} (hop : o.op = .index t x i) : StepOk P S ρ e a W o (step P S o) := by
  simp only [step, hop]
  split
  · rename_i cs ix n el hx hi hu
    simp only [Option.bind_eq_some_iff] at hi
    obtain ⟨iv, hiv, hix⟩ := hi
    obtain ⟨kk, hk⟩ := idxOf_ok hr hix
    split
    · rename_i s hs
      have he : ∀ (j : Nat) v, ix.den e = j → j < n → partOf P el cs (j * s) = some v → (execOp a.eval o).run P W = .ok (.value (v.den ρ e)) W := fun j v hj hlt hv => by
        simp only [execOp, hop, ev_ok hr.tm hx, ev_ok hr.tm hiv, hk, hj, SV.den, Instr.index, asIntOf, Sem.run_bind, Sem.run_pure, run_underlying hu, Result.andThen_ok]
        rw [if_pos (by omega)]
        simp [sizeT_ok hs, partOf_ok hv]
      split
      · rename_i j
        split
        · rename_i hj
          split
          · rename_i v hv
            intro _
            exact he j.toNat v (by simp [Sx.den]; omega) (by omega) hv
          · trivial
        · trivial
      · rename_i ix' hnl
        split
        · rename_i hall
          intro j v hj hv
          obtain ⟨hlt, rfl⟩ := elems_get hv
          have := List.all_eq_true.1 hall j (by simpa using hlt)
          obtain ⟨v, hv⟩ := Option.isSome_iff_exists.1 this
          simp only [hv, Option.getD_some]
          exact he j v hj hlt hv
        · trivial
    · trivial
  · rename_i v ix hx hi hu
    simp only [Option.bind_eq_some_iff] at hi
    obtain ⟨iv, hiv, hix⟩ := hi
    simp only [StepOk, execOp, hop, EK.sem, SV.dens, ev_ok hr.tm hx, ev_ok hr.tm hiv, hiv, Option.getD_some]
    rfl
  · trivial
theorem ok_extract (hr : RelT S ρ e a) {i : Nat} {x : Operand} (hop : o.op = .extract x i) : StepOk P S ρ e a W o (step P S o) := by
  simp only [step, hop]
  split
  · rename_i vs hx
    split
    · rename_i v hv
      intro _
      simp [execOp, hop, ev_ok hr.tm hx, SV.den, Instr.extract, dens_get, hv]
    · trivial
  · trivial
theorem ok_makeFunc (hr : RelT S ρ e a) {fn : Fn} {x y : Array Operand} (hop : o.op = .makeFunc fn x y) : StepOk P S ρ e a W o (step P S o) := by
  cases fn with
  | func f =>
    simp only [step, hop]
    split
    · rename_i p q hx hy
      intro _
      have h1 := evs_ok hr.tm hx
      have h2 := evs_ok hr.tm hy
      simp only [execOp, hop, Instr.makeFunc, Sem.run_pure, Sem.run_bind, Result.andThen_ok, SV.den, ← h1, ← h2]
      simp only [List.map_toArray, Array.toArray_toList, ← Array.toList_map]
    · trivial
  | _ => simp only [step, hop]; trivial
end
end Go.Proofs.Ytcnkljeniffmmaa
