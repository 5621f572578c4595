/- A symbolic run of a function's code: each operation does what the run says. Over any program; no program in sight. -/
import Derived.Test.YtcnkljeniffmmaaSxD
namespace Go.Proofs.Ytcnkljeniffmmaa
open Go.RowKit

section
variable (P : Program) (S : St) (ρ : Nat → Nat) (e : Env) (H : Hp) (a : Act) (W : World) (o : Oper)
/-- what an operation's symbolic outcome promises -/
def StepOk : R1 → Prop
  | .val cs v => (∀ c ∈ cs, c.den e = true) → (execOp a.eval o).run P W = .ok (.value (v.den ρ e)) W
  | .new cs t len => (execOp a.eval o).run P W = .ok (.value (match len with
      | none => .pointer (some ⟨W.heap.size, 0, none⟩)
      | some n => .slice (some ⟨W.heap.size, 0, none⟩) n n)) (W.alloc (.cells (SV.dens ρ e cs).toArray t (0, 0)))
  | .sto k off cs => ∀ ob, S.h[k]? = some (some ob) → W.heap[ρ k]? = some (ob.den ρ e) → off + cs.length ≤ ob.cs.length ∧ (execOp a.eval o).run P W = .ok .skip (W.setRow (ρ k) (SV.dens ρ e (setCells ob.cs off cs)).toArray)
  | .ld i off t (some j) => ∀ ob v, S.h[i]? = some (some ob) → W.heap[ρ i]? = some (ob.den ρ e) → partOf P t ob.cs j = some v → (execOp a.eval o).run P W = .ok (.value (v.den ρ e)) W
  | .ld i off t none => ∀ zs (cs : List Value), zcells P t = some zs → cs.length = zs.length → RowAt (hpOf W) (e i).ptr (off.den e) cs → ∀ v, (if isAggT P t = true then v = .agg cs.toArray else cs[0]? = some v) →
      (execOp a.eval o).run P W = .ok (.value v) W
  | .cas x vs => ∀ (j : Nat) v, x.den e = j → vs[j]? = some v → (execOp a.eval o).run P W = .ok (.value (v.den ρ e)) W
  | .call f as _ => (execOp a.eval o).run P W = .ok (.enter f (SV.dens ρ e as).toArray) W
  | .esc q as _ _ => (execOp a.eval o).run P W = (q.sem (SV.dens ρ e as)).run P W
  | .bad => True
end

section
variable {P : Program} {W0 : World} {M : Nat → Prop} {S : St} {ρ : Nat → Nat} {e : Env} {X : List (Nat × Obj)} {H : Hp} {a : Act} {W : World} {o : Oper}

theorem ok_move (hr : RelT S ρ e a) {x : Operand} (hop : o.op = .move x ∨ o.op = .assign x) : StepOk P S ρ e a W o (step P S o) := by
  rcases hop with hop | hop <;>
  · simp only [step, hop]
    split
    · rename_i v hv
      intro _
      simp [execOp, hop, ev_ok hr.tm hv]
    · trivial
theorem ok_pick (hr : RelT S ρ e a) {c x y : Operand} (hop : o.op = .pick c x y) : StepOk P S ρ e a W o (step P S o) := by
  simp only [step, hop]
  split
  · rename_i c' hc
    split
    · rename_i hd
      split
      · rename_i v hv
        intro _
        simp [execOp, hop, ev_ok hr.tm hv, ev_ok hr.tm hc, asBool, SV.den, dec_ok hr.pc hd]
      · trivial
    · rename_i hd
      split
      · rename_i v hv
        intro _
        simp [execOp, hop, ev_ok hr.tm hv, ev_ok hr.tm hc, asBool, SV.den, dec_ok hr.pc hd]
      · trivial
    · trivial
  · trivial
theorem ok_alloc {t : Nat} (hop : o.op = .alloc t) : StepOk P S ρ e a W o (step P S o) := by
  simp only [step, hop]
  split
  · rename_i zs hz
    obtain ⟨n, v, hn, hzs, _, hrun⟩ := zcells_ok hz
    subst hzs
    simp [StepOk, execOp, hop, Instr.alloc, hrun, Result.andThen, newVar, newRow, ofLeafs_den]
  · trivial
theorem ok_box (hr : RelT S ρ e a) {t : Nat} {x : Operand} (hop : o.op = .box t x) : StepOk P S ρ e a W o (step P S o) := by
  simp only [step, hop]
  split
  · rename_i cs hc
    simp only [Option.bind_eq_some_iff] at hc
    obtain ⟨v, hv, hcs⟩ := hc
    simp [StepOk, execOp, hop, Instr.box, newVar, newRow, ev_ok hr.tm hv, cellsOfSV_ok hcs, Result.andThen]
  · trivial
theorem foldl_set (ρ : Nat → Nat) (e : Env) : ∀ (vs cs : List SV) (off j : Nat), ((SV.dens ρ e vs).zipIdx j).foldl (fun (cs : Array Value) (p : Value × Nat) => cs.setIfInBounds (off + p.2) p.1) (SV.dens ρ e cs).toArray = (SV.dens ρ e (setCells cs (off + j) vs)).toArray
  | [], cs, off, j => rfl
  | v :: r, cs, off, j => by
    simp only [SV.dens, List.zipIdx_cons, List.foldl_cons, setCells]
    have h : (SV.dens ρ e cs).toArray.setIfInBounds (off + j) (v.den ρ e) = (SV.dens ρ e (cs.set (off + j) v)).toArray := by
      simp only [List.setIfInBounds_toArray, dens_eq, List.map_set]
    rw [h, foldl_set ρ e r (cs.set (off + j) v) off (j + 1)]
    rfl
theorem fillS_ok (ρ : Nat → Nat) (e : Env) {place : Nat → Option (Nat × Nat)} : ∀ {ps : List (Nat × SV)} {cs cs' : List SV}, fillS place cs ps = some cs' →
    Instr.fill place (SV.dens ρ e cs).toArray (ps.map fun p => (p.1, p.2.den ρ e)) = some (SV.dens ρ e cs').toArray
  | [], cs, cs', h => by
    simp only [fillS, Option.some.injEq] at h
    subst h; rfl
  | (i, v) :: r, cs, cs', h => by
    simp only [fillS] at h
    split at h
    · rename_i off n vs hp hv
      split at h
      · rename_i hl
        have hc := cellsOfSV_ok hv ρ e
        simp only [List.map_cons, Instr.fill, hp, hc]
        have hs : (SV.dens ρ e vs).toArray.size = n := by simp [dens_len, hl.1]
        have hs2 : ¬ off + (SV.dens ρ e vs).toArray.size > (SV.dens ρ e cs).toArray.size := by
          rw [hs]; simp [dens_len]; omega
        have hz : ((SV.dens ρ e vs).toArray.zipIdx).foldl (fun cs (x : Value × Nat) => cs.setIfInBounds (off + x.2) x.1) (SV.dens ρ e cs).toArray = (SV.dens ρ e (setCells cs off vs)).toArray := by
          have := foldl_set ρ e vs cs off 0
          simpa using this
        rw [hs] at hs2
        simp only [hs, ne_eq, not_true_eq_false, decide_false, Bool.false_or, decide_eq_true_eq, hs2, if_false]
        have hz' := hz
        rw [show (fun (cs : Array Value) (x : Value × Nat) => match x with | (c, j) => cs.setIfInBounds (off + j) c) = (fun cs (x : Value × Nat) => cs.setIfInBounds (off + x.2) x.1) from rfl, hz]
        exact fillS_ok ρ e h
      · cases h
    · cases h
theorem placesOf_ok {P : Program} : ∀ {fs : List Field} {pl : List (Nat × Nat)}, placesOf P fs = some pl → ∀ w : World, ((fs.mapM fun f => do pure (f.offset, ← sizeOf f.type) : Sem (List (Nat × Nat)))).run P w = .ok pl w
  | [], pl, h, w => by
    simp only [placesOf, Option.some.injEq] at h
    subst h; rfl
  | f :: r, pl, h, w => by
    simp only [placesOf] at h
    split at h
    · rename_i n ps hn hps
      simp only [Option.some.injEq] at h
      subst h
      have ih := placesOf_ok hps w
      rw [List.mapM_cons]
      simp only [Sem.run_bind, sizeT_ok hn, Result.andThen_ok, Sem.run_pure, ih]
    · cases h
theorem ok_build (hr : RelT S ρ e a) {t : Nat} {parts : Array (Nat × Operand)} (hop : o.op = .build t parts) : StepOk P S ρ e a W o (step P S o) := by
  simp only [step, hop]
  split
  · rename_i ps zs fs hps hz hu
    obtain ⟨n, v, hn, hzs, _, hrun⟩ := zcells_ok hz
    have hpp := evPs_ok hr.tm hps
    split
    · rename_i pl hpl
      split
      · rename_i cs hcs
        intro _
        have hf := fillS_ok ρ e hcs
        rw [ofLeafs_den, ← hpp, hzs] at hf
        have hp := placesOf_ok hpl W
        simp only [execOp, hop, Instr.build, Sem.run_bind, hrun, Result.andThen_ok, run_underlying hu]
        have hp' : ((fs.mapM fun f => do pure (f.offset, ← sizeOf f.type) : Sem (Array (Nat × Nat)))).run P W = .ok pl.toArray W := by
          rw [Array.mapM_eq_mapM_toList]
          simp only [Sem.run_map, hp, Result.andThen_ok]
        simp only [hp', Result.andThen_ok]
        have hfa : Instr.fill (fun x => pl.toArray[x]?) v.cells (parts.map fun x => (x.1, a.eval x.2)).toList = some (SV.dens ρ e cs).toArray := by
          simpa using hf
        simp only [hfa, SV.den, Sem.run_pure, Result.andThen_ok]
      · trivial
    · trivial
  · rename_i ps zs n el hps hz hu
    obtain ⟨_, v, hn, hzs, _, hrun⟩ := zcells_ok hz
    have hpp := evPs_ok hr.tm hps
    split
    · rename_i sz hsz
      split
      · rename_i cs hcs
        intro _
        have hf := fillS_ok ρ e hcs
        rw [ofLeafs_den, ← hpp, hzs] at hf
        simp only [execOp, hop, Instr.build, Sem.run_bind, hrun, Result.andThen_ok, run_underlying hu, sizeT_ok hsz]
        have hfa : Instr.fill (fun i => some (i * sz, sz)) v.cells (parts.map fun x => (x.1, a.eval x.2)).toList = some (SV.dens ρ e cs).toArray := by
          simpa using hf
        simp only [hfa, SV.den, Sem.run_pure, Result.andThen_ok]
      · trivial
    · trivial
  · trivial
theorem repeat_get (z : List SV) (hz : 0 < z.length) : ∀ (len i : Nat), i < len * z.length → (repeatL z len)[i]? = z[i % z.length]?
  | 0, i, h => by simp at h
  | n + 1, i, h => by
    rw [repeatL]
    by_cases hi : i < z.length
    · rw [List.getElem?_append_left hi, Nat.mod_eq_of_lt hi]
    · rw [List.getElem?_append_right (by omega), repeat_get z hz n (i - z.length) (by rw [Nat.succ_mul] at h; omega)]
      congr 1
      exact (Nat.mod_eq_sub_mod (by omega)).symm
theorem repeat_len (z : List SV) : ∀ len, (repeatL z len).length = len * z.length
  | 0 => by simp [repeatL]
  | n + 1 => by rw [repeatL, List.length_append, repeat_len z n, Nat.succ_mul]; omega
theorem ok_buildSlice (hr : RelT S ρ e a) {t len : Nat} {parts : Array (Nat × Operand)} (hop : o.op = .buildSlice t len parts) : StepOk P S ρ e a W o (step P S o) := by
  simp only [step, hop]
  split
  · rename_i ps el hps hu
    have hpp := evPs_ok hr.tm hps
    split
    · rename_i n zs hsz hz
      obtain ⟨n', v, hn', hzs, hzl, hrun⟩ := zcells_ok hz
      split
      · rename_i hc
        obtain ⟨h1, h2, h3⟩ := hc
        split
        · rename_i cs hcs
          have hf := fillS_ok ρ e hcs
          rw [← hpp] at hf
          have hz0 : zs.length = v.cells.size := by rw [hzs]; simp
          have hrow : (SV.dens ρ e (repeatL (zs.map ofLeaf) len)).toArray = (Array.range (len * n)).map (fun i => (if len * n = 0 then (#[] : Array Value) else v.cells)[i % (if len * n = 0 then (#[] : Array Value) else v.cells).size]!) := by
            apply Array.ext'
            apply List.ext_getElem?
            intro i
            by_cases hi : i < len * n
            · have h0 : ¬ len * n = 0 := by omega
              simp only [h0, if_false, dens_get]
              rw [repeat_get _ (by simp; omega) len i (by simp; rw [← h1]; exact hi)]
              have hm : i % v.cells.size < v.cells.size := Nat.mod_lt _ (by omega)
              simp [hi, hzs, List.getElem?_map, Array.getElem?_eq_getElem hm, ofLeaf_den, getElem!_pos, hm]
            · rw [List.getElem?_eq_none (by rw [dens_len, repeat_len]; simp; rw [← h1]; omega), List.getElem?_eq_none (by simp; omega)]
          have hfa : Instr.fill (fun i => some (i * n, n)) ((Array.range (len * n)).map (fun i => (if len * n = 0 then (#[] : Array Value) else v.cells)[i % (if len * n = 0 then (#[] : Array Value) else v.cells).size]!)) (parts.map fun x => (x.1, a.eval x.2)).toList = some (SV.dens ρ e cs).toArray := by
            rw [← hrow]; simpa using hf
          simp only [StepOk, execOp, hop, Instr.buildSlice, Sem.run_bind, run_underlying hu, Result.andThen_ok, sizeT_ok hsz]
          rw [if_neg (by omega)]
          by_cases h0 : len * n = 0
          · simp only [h0, if_true] at hfa
            simp only [h0, if_true, Sem.run_bind, Sem.run_pure, Result.andThen_ok, hfa]
            simp [newRow]
          · simp only [h0, if_false] at hfa
            simp only [h0, if_false, Sem.run_bind, hrun, Sem.run_pure, Result.andThen_ok, hfa]
            simp [newRow]
        · trivial
      · trivial
    · trivial
  · trivial
end
end Go.Proofs.Ytcnkljeniffmmaa
