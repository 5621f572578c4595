/- A symbolic run of a function's code: each operation does what the run says. Over any program; no program in sight. -/
import Derived.Test.YtcnkljeniffmmaaSxG
namespace Go.Proofs.Ytcnkljeniffmmaa
open Go.RowKit

section
variable {P : Program} {W0 : World} {M : Nat → Prop} {S : St} {ρ : Nat → Nat} {e : Env} {X : List (Nat × Obj)} {H : Hp} {a : Act} {W : World} {o : Oper}

theorem natLit_ok (hr : RelT S ρ e a) {v : SV} {n : Nat} (h : natLit S v = some n) : ∃ k, v.den ρ e = .int k n := by
  unfold natLit at h
  split at h
  · rename_i z hz
    split at h
    · rename_i h0
      simp only [Option.some.injEq] at h
      obtain ⟨k, hk⟩ := idxOf_ok hr hz
      refine ⟨k, ?_⟩
      rw [hk]
      simp only [Sx.den]
      congr 1
      omega
    · cases h
  · cases h
theorem optLit_ok (hr : RelT S ρ e a) {x : Option Operand} {l : Option Nat} (h : optLit S x = some l) : (x = none ∧ l = none) ∨ ∃ y n k, x = some y ∧ l = some n ∧ a.eval y = .int k (n : Nat) := by
  cases x with
  | none => simp only [optLit, Option.some.injEq] at h; exact .inl ⟨rfl, h.symm⟩
  | some y =>
    simp only [optLit] at h
    split at h
    · rename_i v hv
      simp only [Option.map_eq_some_iff] at h
      obtain ⟨n, hn, rfl⟩ := h
      obtain ⟨k, hk⟩ := natLit_ok hr hn
      exact .inr ⟨y, n, k, rfl, rfl, by rw [ev_ok hr.tm hv, hk]⟩
    · cases h
theorem optSx_ok (hr : RelT S ρ e a) {x : Option Operand} {l : Option Sx} (h : optSx S x = some l) : (x = none ∧ l = none) ∨ ∃ y n k, x = some y ∧ l = some n ∧ a.eval y = .int k (n.den e) := by
  cases x with
  | none => simp only [optSx, Option.some.injEq] at h; exact .inl ⟨rfl, h.symm⟩
  | some y =>
    simp only [optSx] at h
    split at h
    · rename_i v hv
      simp only [Option.map_eq_some_iff] at h
      obtain ⟨n, hn, rfl⟩ := h
      obtain ⟨k, hk⟩ := idxOf_ok hr hn
      exact .inr ⟨y, n, k, rfl, rfl, by rw [ev_ok hr.tm hv, hk]⟩
    · cases h
theorem run_bound (k : IntKind) (n : Int) (y : Nat) (code : BoundsCode) (w : World) (h0 : 0 ≤ n) (h1 : n ≤ y) : (Instr.sliceBound (.int k n) y code).run P w = .ok n.toNat w := by
  simp only [Instr.sliceBound, asIntOf, Sem.run_bind, Sem.run_pure, Result.andThen_ok]
  rw [if_pos ⟨h0, h1⟩]
  rfl
/-- the bounds of a slice expression -/
theorem run_bounds (s : Bool) (len cap : Nat) (lo hi : Option Value) (l h : Nat) (w : World)
    (hl : (lo = none ∧ l = 0) ∨ ∃ k, lo = some (.int k l)) (hh : (hi = none ∧ h = len) ∨ ∃ k, hi = some (.int k h)) (h1 : l ≤ h) (h2 : h ≤ cap) :
    (Instr.sliceBounds s len cap lo hi none).run P w = .ok (l, h, cap) w := by
  rcases hl with ⟨rfl, rfl⟩ | ⟨k, rfl⟩ <;> rcases hh with ⟨rfl, rfl⟩ | ⟨k', rfl⟩ <;>
    simp only [Instr.sliceBounds, Sem.run_bind, Sem.run_pure, Result.andThen_ok] <;>
    (repeat (rw [run_bound _ _ _ _ _ (by omega) (by omega)])) <;> simp only [Result.andThen_ok, Int.toNat_natCast] <;>
    (repeat (rw [run_bound _ _ _ _ _ (by omega) (by omega)])) <;> simp only [Result.andThen_ok, Int.toNat_natCast]
theorem ok_slice (hr : RelT S ρ e a) {t : Nat} {x : Operand} {lo hi mx : Option Operand} (hop : o.op = .slice t x lo hi mx) : StepOk P S ρ e a W o (step P S o) := by
  cases mx with
  | some m => simp only [step, hop]; trivial
  | none =>
  simp only [step, hop]
  split
  · rename_i k off n el hx hu
    split
    · rename_i s l h hs hl hh
      split
      · rename_i hle
        intro _
        have hb : (Instr.sliceBounds false n n (lo.map a.eval) (hi.map a.eval) none).run P W = .ok (l.getD 0, h.getD n, n) W := by
          refine run_bounds false n n _ _ _ _ W ?_ ?_ hle.1 hle.2
          · rcases optLit_ok hr hl with ⟨rfl, rfl⟩ | ⟨y, m, k, rfl, rfl, hy⟩
            · exact .inl ⟨rfl, rfl⟩
            · exact .inr ⟨k, by simp [hy]⟩
          · rcases optLit_ok hr hh with ⟨rfl, rfl⟩ | ⟨y, m, k, rfl, rfl, hy⟩
            · exact .inl ⟨rfl, rfl⟩
            · exact .inr ⟨k, by simp [hy]⟩
        simp only [execOp, hop, ev_ok hr.tm hx, SV.den, Instr.sliceAt, Sem.run_bind, run_underlying hu, Result.andThen_ok, Instr.sureAddr, Sem.run_pure, Option.map_none, hb, sizeT_ok hs, add_at]
        split <;> rfl
      · trivial
    · trivial
  · rename_i b off len cap el hx hu
    split
    · rename_i s l h hs hl hh
      split
      · rename_i l
        intro hc
        have c1 : 0 ≤ l.den e := (Sb.prop_iff e (.le (.k 0) l)).2 (hc _ (by simp))
        have c2 : l.den e ≤ (h.getD len).den e := (Sb.prop_iff e (.le l (h.getD len))).2 (hc _ (by simp))
        have c3 : (h.getD len).den e ≤ cap.den e := (Sb.prop_iff e (.le (h.getD len) cap)).2 (hc _ (by simp))
        have c4 : 0 ≤ off.den e := (Sb.prop_iff e (.le (.k 0) off)).2 (hc _ (by simp))
        have hb : (Instr.sliceBounds true (len.den e).toNat (cap.den e).toNat (lo.map a.eval) (hi.map a.eval) none).run P W = .ok ((l.den e).toNat, ((h.getD len).den e).toNat, (cap.den e).toNat) W := by
          refine run_bounds true _ _ _ _ _ _ W ?_ ?_ (by omega) (by omega)
          · rcases optSx_ok hr hl with ⟨_, h0⟩ | ⟨y, m, k, rfl, h0, hy⟩
            · cases h0
            · simp only [Option.some.injEq] at h0
              subst h0
              exact .inr ⟨k, by rw [Option.map_some, hy]; congr 2; omega⟩
          · rcases optSx_ok hr hh with ⟨rfl, rfl⟩ | ⟨y, m, k, rfl, rfl, hy⟩
            · exact .inl ⟨rfl, rfl⟩
            · simp only [Option.getD_some] at c2 c3
              exact .inr ⟨k, by rw [Option.map_some, hy]; congr 2; simp only [Option.getD_some]; omega⟩
        simp only [execOp, hop, ev_ok hr.tm hx, SV.den, Instr.sliceAt, Instr.slice, Sem.run_bind, run_underlying hu, Result.andThen_ok, Sem.run_pure, Option.map_none, hb, sizeT_ok hs]
        congr 3
        · simp only [ptrAt, Sx.den]
          cases hp : (e b).ptr with
          | none => simp
          | some p =>
            simp only [Option.map_some, Option.map_map, Function.comp]
            by_cases hcl : cap.den e = l.den e
            · simp [hcl]
            · have hne : ¬ (cap.den e).toNat = (l.den e).toNat := by omega
              obtain ⟨q, hq⟩ := Int.eq_ofNat_of_zero_le c1
              have : (off.den e + l.den e * (s : Int)).toNat = (off.den e).toNat + (l.den e).toNat * s := by
                rw [hq, Int.toNat_natCast, ← Int.natCast_mul]
                omega
              simp [hcl, hne, add_at, this, Nat.add_assoc]
        · simp only [Sx.den]; omega
        · simp only [Sx.den]; omega
      · intro hc
        have c2 : 0 ≤ (h.getD len).den e := (Sb.prop_iff e (.le (.k 0) (h.getD len))).2 (hc _ (by simp))
        have c3 : (h.getD len).den e ≤ cap.den e := (Sb.prop_iff e (.le (h.getD len) cap)).2 (hc _ (by simp))
        have hb : (Instr.sliceBounds true (len.den e).toNat (cap.den e).toNat (lo.map a.eval) (hi.map a.eval) none).run P W = .ok (0, ((h.getD len).den e).toNat, (cap.den e).toNat) W := by
          refine run_bounds true _ _ _ _ _ _ W ?_ ?_ (by omega) (by omega)
          · rcases optSx_ok hr hl with ⟨rfl, _⟩ | ⟨y, m, k, rfl, h0, hy⟩
            · exact .inl ⟨rfl, rfl⟩
            · cases h0
          · rcases optSx_ok hr hh with ⟨rfl, rfl⟩ | ⟨y, m, k, rfl, rfl, hy⟩
            · exact .inl ⟨rfl, rfl⟩
            · simp only [Option.getD_some] at c2 c3
              exact .inr ⟨k, by rw [Option.map_some, hy]; congr 2; simp only [Option.getD_some]; omega⟩
        simp only [execOp, hop, ev_ok hr.tm hx, SV.den, Instr.sliceAt, Instr.slice, Sem.run_bind, run_underlying hu, Result.andThen_ok, Sem.run_pure, Option.map_none, hb, sizeT_ok hs]
        congr 3
        simp only [ptrAt]
        cases hp : (e b).ptr with
        | none => simp
        | some p => simp [add_at]
    · trivial
  · rename_i v _ _ _ hv _
    split
    · rename_i l h hl hh
      have el : ∀ {x : Option Operand} {q : Option Sx}, optSx S x = some q → x.map a.eval = (x.bind (ev S)).map (SV.den ρ e) ∧ (x.isSome = (x.bind (ev S)).isSome) := fun {x q} hq => by
        cases x with
        | none => exact ⟨rfl, rfl⟩
        | some y =>
          simp only [optSx] at hq
          split at hq
          · rename_i v hv
            simp only [Option.bind_some, hv, Option.map_some, ev_ok hr.tm hv, Option.isSome_some, and_self]
          · cases hq
      obtain ⟨e1, e2⟩ := el hl
      obtain ⟨e3, e4⟩ := el hh
      simp only [StepOk, execOp, hop, EK.sem, ev_ok hr.tm hv, Option.map_none, e1, e3, dens_app, SV.dens]
      rw [e2, e4]
      cases lo.bind (ev S) <;> cases hi.bind (ev S) <;> rfl
    · trivial
  · trivial
theorem ok_lookup (hr : RelT S ρ e a) {t : Nat} {x i : Operand} {ok : Bool} (hop : o.op = .lookup t x i ok) : StepOk P S ρ e a W o (step P S o) := by
  simp only [step, hop]
  split
  · rename_i u v hu hv
    simp only [StepOk, execOp, hop, EK.sem, SV.dens, ev_ok hr.tm hu, ev_ok hr.tm hv]
    rfl
  · trivial
theorem ok_makeSlice (hr : RelT S ρ e a) {t : Nat} {x i : Operand} (hop : o.op = .makeSlice t x i) : StepOk P S ρ e a W o (step P S o) := by
  simp only [step, hop]
  split
  · rename_i u v hu hv
    simp only [StepOk, execOp, hop, EK.sem, SV.dens, ev_ok hr.tm hu, ev_ok hr.tm hv]
    rfl
  · trivial
theorem ok_makeInterface (hr : RelT S ρ e a) {t : Nat} {x : Operand} (hop : o.op = .makeInterface t x) : StepOk P S ρ e a W o (step P S o) := by
  simp only [step, hop]
  split
  · rename_i u hu
    simp only [StepOk, execOp, hop, EK.sem, SV.dens, ev_ok hr.tm hu]
    rfl
  · trivial
theorem run_builtin (b : Builtin) (hb : b ≠ .print ∧ b ≠ .println) (ats : Array Nat) (ty : Nat) (c c' : Array Bool) (args : Array Value) : builtin b ats ty c args = builtin b ats ty c' args := by
  cases b <;> simp_all [builtin]
theorem ok_call (hr : RelT S ρ e a) {c : Call} (hop : o.op = .call c) : StepOk P S ρ e a W o (step P S o) := by
  have hbi : ∀ {b : Builtin} {as : List SV} {q : Nat} {tt : Bool} {r : Option Nat}, b ≠ .print ∧ b ≠ .println → c.callee = .builtin b → evs S c.args.toList = some as → StepOk P S ρ e a W o (.esc (.bi b c.argTypes o.type) as r tt) := fun {b as q tt r} hb hc has => by
    have h1 := evs_ok hr.tm has
    simp only [StepOk, execOp, hop, resolve, hc, Sem.run_bind, Sem.run_pure, Result.andThen_ok, EK.sem, ← h1, invoke]
    rw [run_builtin b hb _ _ _ #[]]
    have he : c.args.map a.eval = (List.map a.eval c.args.toList).toArray := by
      apply Array.ext'; simp
    rw [he]
  simp only [step, hop]
  split
  · rename_i f as hc has
    split
    · rename_i g first capt hf
      split
      · rename_i fn hfn
        split
        · rename_i hb
          have h1 := evs_ok hr.tm has
          have h2 : (execOp a.eval o).run P W = (callFunc g ((SV.dens ρ e (first ++ as ++ capt)).toArray)).run P W := by
            simp only [execOp, hop, resolve, hc, Deferred.ofValue, ev_ok hr.tm hf, SV.den, Sem.run_bind, Sem.run_pure, Result.andThen_ok, invoke, dens_app, ← h1]
            congr 2
            apply Array.ext'
            simp
          rw [StepOk, h2]
          obtain ⟨b, hbb⟩ := Option.isSome_iff_exists.1 hb.1
          simp [callFunc, hfn, hb.2, hbb]
        · trivial
      · trivial
    · trivial
  · rename_i as hc has
    have h1 := evs_ok hr.tm has
    have hlen : ∀ t (v : Value), c.argTypes[0]? = some t → SV.dens ρ e as = [v] → (execOp a.eval o).run P W = (do pure (.value (← Builtin.len_ c.argTypes o.type #[v])) : Sem Next).run P W := fun t v ht hv => by
      simp only [execOp, hop, resolve, hc, Sem.run_bind, Sem.run_pure, Result.andThen_ok, invoke, builtin]
      have : c.args.map a.eval = #[v] := by
        apply Array.ext'
        simp only [Array.toList_map, h1, hv]
      rw [this]
    have hat : ∀ {d : TypeDesc}, c.argTypes[0]?.bind P.underlying = some d → ∃ t, c.argTypes[0]? = some t ∧ P.underlying t = some d := fun {d} h => by
      simpa [Option.bind_eq_some_iff] using h
    split
    · rename_i hu
      intro _
      obtain ⟨t, ht, hut⟩ := hat hu
      rw [hlen t _ ht rfl]
      simp [Builtin.len_, ht, run_underlying hut, SV.den, goInt, Sx.den]
    · rename_i hu
      intro hcc
      obtain ⟨t, ht, hut⟩ := hat hu
      rename_i n _ _
      have c1 : 0 ≤ n.den e := (Sb.prop_iff e (.le (.k 0) n)).2 (hcc _ (by simp))
      rw [hlen t _ ht rfl]
      have : ((n.den e).toNat : Int) = n.den e := by omega
      simp [Builtin.len_, ht, run_underlying hut, SV.den, goInt, this]
    · rename_i hu
      intro _
      obtain ⟨t, ht, hut⟩ := hat hu
      rw [hlen t _ ht rfl]
      simp [Builtin.len_, ht, run_underlying hut, SV.den, goInt, Sx.den]
    · rename_i hu
      intro _
      obtain ⟨t, ht, hut⟩ := hat hu
      rw [hlen t _ ht rfl]
      simp [Builtin.len_, ht, run_underlying hut, SV.den, goInt, Sx.den]
    · rename_i hu
      intro _
      obtain ⟨t, ht, hut⟩ := hat hu
      rw [hlen t _ ht rfl]
      simp [Builtin.len_, ht, run_underlying hut, SV.den, goInt, Sx.den]
    · exact hbi (by simp) hc has (q := 0)
  · rename_i k p k' q hc has
    have h1 := evs_ok hr.tm has
    split
    · rename_i hk
      subst hk
      intro _
      simp only [execOp, hop, resolve, hc, Sem.run_bind, Sem.run_pure, Result.andThen_ok, invoke, builtin]
      have : c.args.map a.eval = #[.int k (p.den e), .int k (q.den e)] := by
        apply Array.ext'
        simp only [Array.toList_map, h1, SV.dens, SV.den]
      rw [this]
      simp [Builtin.min_, Builtin.min2, SV.den, Sx.den]
    · trivial
  · rename_i k p k' q hc has
    have h1 := evs_ok hr.tm has
    split
    · rename_i hk
      subst hk
      intro _
      simp only [execOp, hop, resolve, hc, Sem.run_bind, Sem.run_pure, Result.andThen_ok, invoke, builtin]
      have : c.args.map a.eval = #[.int k (p.den e), .int k (q.den e)] := by
        apply Array.ext'
        simp only [Array.toList_map, h1, SV.dens, SV.den]
      rw [this]
      simp [Builtin.max_, Builtin.max2, SV.den, Sx.den]
    · trivial
  · rename_i as hc has; exact hbi (by simp) hc has (q := 0)
  · rename_i as hc has; exact hbi (by simp) hc has (q := 0)
  · rename_i as hc has; exact hbi (by simp) hc has (q := 0)
  · rename_i as hc has; exact hbi (by simp) hc has (q := 0)
  · trivial
theorem step_ok (hr : RelT S ρ e a) : StepOk P S ρ e a W o (step P S o) := by
  cases hop : o.op with
  | move x => exact ok_move hr (.inl hop)
  | assign x => exact ok_move hr (.inr hop)
  | pick c x y => exact ok_pick hr hop
  | alloc t => exact ok_alloc hop
  | box t x => exact ok_box hr hop
  | build t p => exact ok_build hr hop
  | buildSlice t n p => exact ok_buildSlice hr hop
  | load t x => exact ok_load hr hop
  | store t x y => exact ok_store hr hop
  | nilCheck x => exact ok_nilCheck hr hop
  | binOp op t x y ty => exact ok_binOp hr hop
  | unOp op t x => exact ok_unOp hr hop
  | convert s d x => exact ok_convert hr hop
  | fieldAddr t x f => exact ok_fieldAddr hr hop
  | field t x f => exact ok_field hr hop
  | indexAddr t x i => exact ok_indexAddr hr hop
  | index t x i => exact ok_index hr hop
  | extract x i => exact ok_extract hr hop
  | makeFunc f x y => exact ok_makeFunc hr hop
  | slice t x lo hi mx => exact ok_slice hr hop
  | lookup t x i ok => exact ok_lookup hr hop
  | makeSlice t l c => exact ok_makeSlice hr hop
  | makeInterface t x => exact ok_makeInterface hr hop
  | call c => exact ok_call hr hop
  | _ => simp only [step, hop]; trivial
end
end Go.Proofs.Ytcnkljeniffmmaa
