/- A symbolic run of a function's code: each operation does what the run says. Over any program; no program in sight. -/
import Derived.Test.YtcnkljeniffmmaaSxC
import Derived.Laws.CopyRow
namespace Go.Proofs.Ytcnkljeniffmmaa
open Go.RowKit

theorem dens_get (ρ : Nat → Nat) (e : Env) (l : List SV) (j : Nat) : (SV.dens ρ e l)[j]? = (l[j]?).map (SV.den ρ e) := by
  rw [dens_eq, List.getElem?_map]
theorem dens_len (ρ : Nat → Nat) (e : Env) (l : List SV) : (SV.dens ρ e l).length = l.length := by
  rw [dens_eq, List.length_map]
theorem dens_app (ρ : Nat → Nat) (e : Env) (l m : List SV) : SV.dens ρ e (l ++ m) = SV.dens ρ e l ++ SV.dens ρ e m := by
  simp only [dens_eq, List.map_append]
theorem dens_take (ρ : Nat → Nat) (e : Env) (l : List SV) (n : Nat) : SV.dens ρ e (l.take n) = (SV.dens ρ e l).take n := by
  simp only [dens_eq, List.map_take]
theorem dens_drop (ρ : Nat → Nat) (e : Env) (l : List SV) (n : Nat) : SV.dens ρ e (l.drop n) = (SV.dens ρ e l).drop n := by
  simp only [dens_eq, List.map_drop]

theorem sizeT_ok {P : Program} {t n : Nat} (h : sizeT P t = some n) (w : World) : (sizeOf t).run P w = .ok n w := by
  unfold sizeT at h
  split at h
  · rename_i d i hu hi
    simp only [Option.some.injEq] at h
    subst h
    simp [sizeOf, typeInfo, hi]
  · cases h
theorem isAggT_ok {P : Program} {t n : Nat} (h : sizeT P t = some n) (w : World) : (isAgg t).run P w = .ok (isAggT P t) w := by
  unfold sizeT at h
  split at h
  · rename_i d i hu hi
    unfold isAggT isAgg
    simp only [Sem.run_bind, run_underlying hu, Result.andThen_ok, hu]
    cases d <;> rfl
  · cases h
theorem zcells_ok {P : Program} {t : Nat} {zs : List Value} (h : zcells P t = some zs) : ∃ n v, sizeT P t = some n ∧ zs = v.cells.toList ∧ zs.length = n ∧ ∀ w, (zeroValue t).run P w = .ok v w := by
  unfold zcells at h
  split at h
  · rename_i n v hs hz
    split at h
    · rename_i hn
      simp only [Option.some.injEq] at h
      subst h
      refine ⟨n, v, hs, rfl, by simpa using hn, fun w => ?_⟩
      cases hi : P.info? t with
      | none => simp [hi] at hz
      | some i =>
        simp only [hi, Option.bind_some] at hz
        simp [zeroValue, typeInfo, hi, hz]
    · cases h
  · cases h
theorem run_part {P : Program} {t n : Nat} (h : sizeT P t = some n) (cs : Array Value) (off : Nat) (w : World) {v : Value}
    (hv : if isAggT P t = true then v = .agg (cs.extract off (off + n)) else cs[off]? = some v) : (part t cs off).run P w = .ok v w := by
  simp only [part, Sem.run_bind, isAggT_ok h, Result.andThen_ok]
  split at hv
  · rename_i ha
    simp [ha, sizeT_ok h, hv]
  · rename_i ha
    simp [ha, hv]
theorem partOf_ok {P : Program} {t : Nat} {cs : List SV} {off : Nat} {v : SV} (h : partOf P t cs off = some v) (ρ : Nat → Nat) (e : Env) (w : World) :
    (part t (SV.dens ρ e cs).toArray off).run P w = .ok (v.den ρ e) w := by
  unfold partOf at h
  split at h
  · cases h
  · rename_i n hn
    refine run_part hn _ _ _ ?_
    split at h
    · rename_i ha
      split at h
      · rename_i hl
        simp only [Option.some.injEq] at h
        subst h
        simp only [ha, if_true, SV.den, dens_take, dens_drop]
        simp only [List.extract_toArray, List.extract_eq_take_drop, Nat.add_sub_cancel_left]
      · cases h
    · rename_i ha
      simp only [ha, Bool.false_eq_true, if_false]
      simp [dens_get, h]
theorem cell_at {w : World} {b : Nat} {C : Array Value} {T : Nat} {fz : Nat × Nat} (h : w.heap[b]? = some (.cells C T fz)) (o : Nat) : w.cell? ⟨b, o, none⟩ = C[o]? := by
  simp [World.cell?, h]
theorem add_at (b o j : Nat) : (⟨b, o, none⟩ : Addr).add j = ⟨b, o + j, none⟩ := by
  unfold Addr.add; split <;> simp_all
/-- a variable read out of a row of cells -/
theorem run_loadVar_at {P : Program} {t n : Nat} (h : sizeT P t = some n) {w : World} {b off : Nat} {C : Array Value} {T : Nat} {fz : Nat × Nat} (hb : w.heap[b]? = some (.cells C T fz))
    {cs : List Value} (hc : ∀ j, j < cs.length → C[off + j]? = cs[j]?) (hn : cs.length = n) {v : Value}
    (hv : if isAggT P t = true then v = .agg cs.toArray else cs[0]? = some v) : (loadVar t ⟨b, off, none⟩).run P w = .ok v w := by
  simp only [loadVar, Sem.run_bind, isAggT_ok h, Result.andThen_ok]
  split at hv
  · rename_i ha
    have hl : (loadCells ⟨b, off, none⟩ cs.length).run P w = .ok cs.toArray w := run_loadCells_list w _ cs (fun j v hj => by
      have hlt : j < cs.length := by
        rcases Nat.lt_or_ge j cs.length with h | h
        · exact h
        · rw [List.getElem?_eq_none h] at hj; cases hj
      rw [add_at, cell_at hb, hc j hlt, hj])
    rw [hn] at hl
    simp only [ha, if_true, Sem.run_bind, sizeT_ok h, Result.andThen_ok, hl, hv]
    rfl
  · rename_i ha
    have h0 : 0 < cs.length := by
      cases cs with
      | nil => simp at hv
      | cons a l => simp
    have hcell : w.cell? ⟨b, off, none⟩ = some v := by
      rw [cell_at hb]
      have := hc 0 h0
      rw [Nat.add_zero] at this
      rw [this, hv]
    simp only [ha, Bool.false_eq_true, if_false]
    simp [run_load, hcell]
theorem setCells_eq : ∀ (vs : List SV) (cs : List SV) (off : Nat), off + vs.length ≤ cs.length → setCells cs off vs = cs.take off ++ vs ++ cs.drop (off + vs.length)
  | [], cs, off, _ => by simp [setCells]
  | v :: r, cs, off, h => by
    simp only [List.length_cons] at h
    rw [setCells, setCells_eq r (cs.set off v) (off + 1) (by simp; omega)]
    have h1 : (cs.set off v).take (off + 1) = cs.take off ++ [v] := by
      rw [List.take_succ_eq_append_getElem (by simp; omega)]
      simp [List.take_set_of_le]
    have h2 : (cs.set off v).drop (off + 1 + r.length) = cs.drop (off + (r.length + 1)) := by
      rw [List.drop_set_of_lt (by omega)]
      congr 1
      omega
    rw [h1, h2]
    simp
theorem one_ok {v : SV} (h : v.one = true) (ρ : Nat → Nat) (e : Env) : (v.den ρ e).oneCell' = true := by
  cases v with
  | c v => cases v <;> first | rfl | simp [SV.one] at h
  | _ => first | rfl | simp [SV.one] at h
theorem ones_ok {cs : List SV} (h : cs.all SV.one = true) (ρ : Nat → Nat) (e : Env) : ∀ v ∈ SV.dens ρ e cs, v.oneCell' = true := by
  intro v hv
  rw [dens_eq, List.mem_map] at hv
  obtain ⟨s, hs, rfl⟩ := hv
  exact one_ok (List.all_eq_true.1 h s hs) ρ e
theorem cellsOfSV_ok {v : SV} {cs : List SV} (h : cellsOfSV v = some cs) (ρ : Nat → Nat) (e : Env) : (v.den ρ e).cells = (SV.dens ρ e cs).toArray := by
  cases v with
  | agg l => simp only [cellsOfSV, Option.some.injEq] at h; subst h; rfl
  | c v => cases v <;> simp only [cellsOfSV, Option.some.injEq, reduceCtorEq] at h <;> subst h <;> rfl
  | undef => cases h
  | o i => cases h
  | tup l => cases h
  | _ => simp only [cellsOfSV, Option.some.injEq] at h; subst h; rfl
end Go.Proofs.Ytcnkljeniffmmaa
