/- A symbolic run of a function's code: loops; a whole function. Over any program; no program in sight. A symbolic run of a function's code: a whole function. Over any program; no program in sight. A symbolic run of a function's code: what the run leaves to prove is enough. Over any program; no program in sight. Small words for the contracts. Over any program; no program in sight. -/
import Derived.Test.YtdmaehpdccpnoaaKE2
import Derived.LoopN
import Derived.KernelRfl
import Derived.IntWalk
set_option linter.unusedVariables false
set_option linter.unusedSimpArgs false
namespace Go.Proofs.Ytdmaehpdccpnoaa
open Go.RowKit

theorem Dat.int_i (x : Int) : (Dat.i x).int = x := rfl
theorem Dat.int_n (x : Nat) : (Dat.n x).int = (x : Int) := rfl
theorem Dat.bool_b (x : Bool) : (Dat.b x).bool = x := rfl
theorem Dat.ptr_p (x : Option Loc) : (Dat.p x).ptr = x := rfl
theorem Dat.str_s (x : ByteArray) : (Dat.s x).str = x := rfl
theorem Dat.val_v (x : Value) : (Dat.v x).val = x := rfl
theorem mkQ_fits : ∀ (q : List Pq) (n m : Nat), m ≤ n → frFits m (mkQ n q).2.1 = true
  | [], _, _, _ => rfl
  | .nat :: r, n, m, h | .pt (.int _) :: r, n, m, h | .pt .bool :: r, n, m, h | .pt .str :: r, n, m, h | .pt .ptr :: r, n, m, h | .pt .val :: r, n, m, h => by
    simp only [mkQ, frFits, Bool.and_eq_true, decide_eq_true_eq]
    exact ⟨h, mkQ_fits r (n + 1) m (by omega)⟩
  | .pt .sl :: r, n, m, h => by
    simp only [mkQ, frFits, Bool.and_eq_true, decide_eq_true_eq]
    exact ⟨h, by omega, by omega, mkQ_fits r (n + 3) m (by omega)⟩
def natsL (pq : List Pq) (vs : List SV) : List Sb := ((pq.zip vs).map fun p => natsOf p.1 p.2).flatten
/-- the head's names stand for what is there -/
theorem head_in (ρ : Nat → Nat) (e : Env) (ρ' : Nat → Nat) : ∀ (pq : List Pq) (vs : List SV) (ds : List SD) (n : Nat) (e1 : Env), sdsOf pq vs = some ds → (∀ c ∈ natsL pq vs, c.den e = true) →
    ∃ e', UpdRel e1 (mkQ n pq).2.1 e' ∧ (mkQ n pq).2.2.1.map (SD.den ρ' e') = ds.map (SD.den ρ e) ∧ SV.dens ρ' e' (mkQ n pq).1 = SV.dens ρ e vs
  | [], [], ds, n, e1, h, _ => by
    simp only [sdsOf, Option.some.injEq] at h
    subst h
    exact ⟨e1, .nil e1, rfl, rfl⟩
  | [], _ :: _, ds, n, e1, h, _ => by simp [sdsOf] at h
  | q :: r, [], ds, n, e1, h, _ => by simp [sdsOf] at h
  | q :: r, v :: vs, ds, n, e1, h, hn => by
    simp only [sdsOf] at h
    split at h
    · rename_i d ds' hd hds
      simp only [Option.some.injEq] at h
      subst h
      have hn0 : ∀ c ∈ natsOf q v, c.den e = true := fun c hc => hn c (by simp [natsL]; exact .inl hc)
      have hnr : ∀ c ∈ natsL r vs, c.den e = true := fun c hc => hn c (by
        simp only [natsL, List.zip_cons_cons, List.map_cons, List.flatten_cons, List.mem_append]
        exact .inr hc)
      have one : ∀ (k : Pk) (dv : Dat), (match k, dv with | .i, .i _ | .n, .n _ | .b, .b _ | .p, .p _ | .s, .s _ | .v, .v _ => True | _, _ => False) →
          ∃ e', UpdRel e1 ((n, k) :: (mkQ (n + 1) r).2.1) e' ∧ e' n = dv ∧ (mkQ (n + 1) r).2.2.1.map (SD.den ρ' e') = ds'.map (SD.den ρ e) ∧ SV.dens ρ' e' (mkQ (n + 1) r).1 = SV.dens ρ e vs := fun k dv hk => by
        obtain ⟨e', h1, h2, h3⟩ := head_in ρ e ρ' r vs ds' (n + 1) (upd e1 n dv) hds hnr
        refine ⟨e', .cons _ _ _ _ dv _ hk h1, ?_, h2, h3⟩
        rw [h1.old (mkQ_fits r (n + 1) (n + 1) (Nat.le_refl _)) n (by omega)]
        unfold upd; rw [if_pos rfl]
      unfold sdOf at hd
      split at hd
      · -- nat
        rename_i x
        simp only [Option.some.injEq] at hd
        subst hd
        have hx : 0 ≤ x.den e := (Sb.prop_iff e (.le (.k 0) x)).2 (hn0 _ (by simp [natsOf]))
        obtain ⟨e', h1, h2, h3, h4⟩ := one .n (.n (x.den e).toNat) trivial
        refine ⟨e', h1, ?_, ?_⟩
        · simp only [mkQ, List.map_cons, List.cons_append, List.nil_append, SD.den, Sx.den, h2, Dat.int_i, Dat.int_n, Int.toNat_natCast, h3]
        · simp only [mkQ, SV.dens, SV.den, Sx.den, h2, Dat.int_i, Dat.int_n, Int.toNat_natCast, h4]
          congr 2
          omega
      · rename_i k k' x
        split at hd
        · rename_i hk
          subst hk
          simp only [Option.some.injEq] at hd
          subst hd
          obtain ⟨e', h1, h2, h3, h4⟩ := one .i (.i (x.den e)) trivial
          refine ⟨e', h1, ?_, ?_⟩
          · simp only [mkQ, List.map_cons, List.cons_append, List.nil_append, SD.den, Sx.den, h2, Dat.int_i, Dat.int_n, Int.toNat_natCast, h3]
          · simp only [mkQ, SV.dens, SV.den, Sx.den, h2, Dat.int_i, Dat.int_n, Int.toNat_natCast, h4]
        · cases hd
      · rename_i b
        simp only [Option.some.injEq] at hd
        subst hd
        obtain ⟨e', h1, h2, h3, h4⟩ := one .b (.b (b.den e)) trivial
        refine ⟨e', h1, ?_, ?_⟩
        · simp only [mkQ, List.map_cons, List.cons_append, List.nil_append, SD.den, Sb.den, h2, Dat.bool_b, h3]
        · simp only [mkQ, SV.dens, SV.den, Sb.den, h2, Dat.bool_b, h4]
      · rename_i i
        simp only [Option.some.injEq] at hd
        subst hd
        obtain ⟨e', h1, h2, h3, h4⟩ := one .s (.s (e i).str) trivial
        refine ⟨e', h1, ?_, ?_⟩
        · simp only [mkQ, List.map_cons, List.cons_append, List.nil_append, SD.den, h2, Dat.str_s, h3]
        · simp only [mkQ, SV.dens, SV.den, h2, Dat.str_s, h4]
      · -- a slice
        rename_i i off len cap
        simp only [Option.some.injEq] at hd
        subst hd
        have hx : 0 ≤ len.den e := (Sb.prop_iff e (.le (.k 0) len)).2 (hn0 _ (by simp [natsOf]))
        have hy : 0 ≤ cap.den e := (Sb.prop_iff e (.le (.k 0) cap)).2 (hn0 _ (by simp [natsOf]))
        obtain ⟨e', h1, h2, h3⟩ := head_in ρ e ρ' r vs ds' (n + 3) (upd (upd (upd e1 n (.p ((e i).ptr.map fun a => a.shift (off.den e).toNat))) (n + 1) (.n (len.den e).toNat)) (n + 2) (.n (cap.den e).toNat)) hds hnr
        have hg : ∀ j, j < n + 3 → e' j = upd (upd (upd e1 n (.p ((e i).ptr.map fun a => a.shift (off.den e).toNat))) (n + 1) (.n (len.den e).toNat)) (n + 2) (.n (cap.den e).toNat) j := fun j hj => h1.old (mkQ_fits r (n + 3) (n + 3) (Nat.le_refl _)) j hj
        have g0 : e' n = .p ((e i).ptr.map fun a => a.shift (off.den e).toNat) := by rw [hg n (by omega)]; simp [upd]
        have g1 : e' (n + 1) = .n (len.den e).toNat := by rw [hg (n + 1) (by omega)]; simp [upd]
        have g2 : e' (n + 2) = .n (cap.den e).toNat := by rw [hg (n + 2) (by omega)]; simp [upd]
        refine ⟨e', .cons _ _ _ _ (.p _) _ trivial (.cons _ _ _ _ (.n _) _ trivial (.cons _ _ _ _ (.n _) _ trivial h1)), ?_, ?_⟩
        · simp only [mkQ, List.map_cons, List.cons_append, List.nil_append, SD.den, Sx.den, g0, g1, g2, Dat.int_i, Dat.int_n, Dat.ptr_p, Int.toNat_natCast, h2]
          cases (e i).ptr <;> simp
        · simp only [mkQ, SV.dens, SV.den, Sx.den, g0, g1, g2, Dat.int_i, Dat.int_n, Dat.ptr_p, Int.toNat_natCast, h3]
          cases (e i).ptr <;> simp [ptrAt]
      · -- no slice
        rename_i nn cc
        simp only [Option.some.injEq] at hd
        subst hd
        obtain ⟨e', h1, h2, h3⟩ := head_in ρ e ρ' r vs ds' (n + 3) (upd (upd (upd e1 n (.p none)) (n + 1) (.n nn)) (n + 2) (.n cc)) hds hnr
        have hg : ∀ j, j < n + 3 → e' j = upd (upd (upd e1 n (.p none)) (n + 1) (.n nn)) (n + 2) (.n cc) j := fun j hj => h1.old (mkQ_fits r (n + 3) (n + 3) (Nat.le_refl _)) j hj
        have g0 : e' n = .p none := by rw [hg n (by omega)]; simp [upd]
        have g1 : e' (n + 1) = .n nn := by rw [hg (n + 1) (by omega)]; simp [upd]
        have g2 : e' (n + 2) = .n cc := by rw [hg (n + 2) (by omega)]; simp [upd]
        refine ⟨e', .cons _ _ _ _ (.p _) _ trivial (.cons _ _ _ _ (.n _) _ trivial (.cons _ _ _ _ (.n _) _ trivial h1)), ?_, ?_⟩
        · simp only [mkQ, List.map_cons, List.cons_append, List.nil_append, SD.den, Sx.den, g0, g1, g2, Dat.int_i, Dat.int_n, Dat.ptr_p, Int.toNat_natCast, h2]
          simp
        · simp only [mkQ, SV.dens, SV.den, Sx.den, g0, g1, g2, Dat.int_i, Dat.int_n, Dat.ptr_p, Int.toNat_natCast, h3]
          simp [ptrAt]
      · rename_i i off
        simp only [Option.some.injEq] at hd
        subst hd
        obtain ⟨e', h1, h2, h3, h4⟩ := one .p (.p ((e i).ptr.map fun a => a.shift (off.den e).toNat)) trivial
        refine ⟨e', h1, ?_, ?_⟩
        · simp only [mkQ, List.map_cons, List.cons_append, List.nil_append, SD.den, Sx.den, h2, Dat.ptr_p, h3]
          cases (e i).ptr <;> simp
        · simp only [mkQ, SV.dens, SV.den, Sx.den, h2, Dat.ptr_p, h4]
          cases (e i).ptr <;> simp [ptrAt]
      · simp only [Option.some.injEq] at hd
        subst hd
        obtain ⟨e', h1, h2, h3, h4⟩ := one .v (.v (v.den ρ e)) trivial
        refine ⟨e', h1, ?_, ?_⟩
        · simp only [mkQ, List.map_cons, List.cons_append, List.nil_append, SD.den, SV.den, h2, Dat.val_v, h3]
        · simp only [mkQ, SV.dens, SV.den, h2, Dat.val_v, h4]
      · cases hd
    · cases h
theorem sameC_ok {v w : Value} (h : sameC v w = true) : v = w := by
  unfold sameC at h
  split at h <;> simp_all
mutual
theorem same_ok (ρ : Nat → Nat) (e : Env) : ∀ (a b : SV), SV.same a b = true → a.den ρ e = b.den ρ e
  | .undef, b, h => by cases b <;> simp [SV.same] at h <;> rfl
  | .int k x, b, h => by cases b <;> simp [SV.same] at h; obtain ⟨rfl, rfl⟩ := h; rfl
  | .bool x, b, h => by cases b <;> simp [SV.same] at h; subst h; rfl
  | .str x, b, h => by cases b <;> simp [SV.same] at h; subst h; rfl
  | .o x, b, h => by cases b <;> simp [SV.same] at h; subst h; rfl
  | .ptrK k x, b, h => by cases b <;> simp [SV.same] at h; obtain ⟨rfl, rfl⟩ := h; rfl
  | .ptrO k x, b, h => by cases b <;> simp [SV.same] at h; obtain ⟨rfl, rfl⟩ := h; rfl
  | .slK k x y z, b, h => by cases b <;> simp [SV.same] at h; obtain ⟨⟨⟨rfl, rfl⟩, rfl⟩, rfl⟩ := h; rfl
  | .slO k x y z, b, h => by cases b <;> simp [SV.same] at h; obtain ⟨⟨⟨rfl, rfl⟩, rfl⟩, rfl⟩ := h; rfl
  | .agg l, b, h => by cases b <;> simp [SV.same] at h; simp only [SV.den, sames_ok ρ e l _ h]
  | .tup l, b, h => by cases b <;> simp [SV.same] at h; simp only [SV.den, sames_ok ρ e l _ h]
  | .func f l m, b, h => by cases b <;> simp [SV.same] at h; obtain ⟨⟨rfl, h1⟩, h2⟩ := h; simp only [SV.den, sames_ok ρ e l _ h1, sames_ok ρ e m _ h2]
  | .c v, b, h => by
    cases b <;> simp [SV.same] at h
    simp only [SV.den, sameC_ok h]
theorem sames_ok (ρ : Nat → Nat) (e : Env) : ∀ (a b : List SV), SV.sames a b = true → SV.dens ρ e a = SV.dens ρ e b
  | [], b, h => by cases b <;> simp [SV.sames] at h; rfl
  | x :: l, b, h => by
    cases b with
    | nil => simp [SV.sames] at h
    | cons y m =>
      simp only [SV.sames, Bool.and_eq_true] at h
      simp only [SV.dens, same_ok ρ e x y h.1, sames_ok ρ e l m h.2]
end
theorem sameTms_get : ∀ {A B : List (Option SV)}, sameTms A B = true → A.length = B.length ∧ ∀ {t : Nat} {v : SV}, A[t]? = some (some v) → ∃ w, B[t]? = some (some w) ∧ SV.same v w = true
  | [], [], _ => ⟨rfl, fun h => by simp at h⟩
  | [], _ :: _, h => by simp [sameTms] at h
  | none :: r, [], h => by simp [sameTms] at h
  | some _ :: r, [], h => by simp [sameTms] at h
  | none :: r, q :: s, h => by
    simp only [sameTms] at h
    obtain ⟨h1, h2⟩ := sameTms_get h
    refine ⟨by simp [h1], fun {t v} ht => ?_⟩
    cases t with
    | zero => simp at ht
    | succ t => simpa using h2 (by simpa using ht)
  | some u :: r, none :: s, h => by simp [sameTms] at h
  | some u :: r, some w :: s, h => by
    simp only [sameTms, Bool.and_eq_true] at h
    obtain ⟨h1, h2⟩ := sameTms_get h.2
    refine ⟨by simp [h1], fun {t v} ht => ?_⟩
    cases t with
    | zero => simp at ht; subst ht; exact ⟨w, by simp, h.1⟩
    | succ t => simpa using h2 (by simpa using ht)
theorem keptObjs_get {bk : List Nat} : ∀ {A B : List (Option SObj)} {n : Nat}, keptObjs bk n A B = true → ∀ {t : Nat} {v : SObj}, A[t]? = some (some v) → ∃ w, B[t]? = some (some w) ∧ v.ty = w.ty ∧ (n + t ∈ bk ∨ SV.sames v.cs w.cs = true)
  | [], _, _, _, t, v, ht => by simp at ht
  | none :: r, [], _, h, _, _, _ => by simp [keptObjs] at h
  | some _ :: r, [], _, h, _, _, _ => by simp [keptObjs] at h
  | none :: r, q :: s, n, h, t, v, ht => by
    simp only [keptObjs] at h
    cases t with
    | zero => simp at ht
    | succ t =>
      obtain ⟨w, h1, h2, h3⟩ := keptObjs_get h (by simpa using ht)
      exact ⟨w, by simpa using h1, h2, by rw [show n + (t + 1) = n + 1 + t by omega]; exact h3⟩
  | some u :: r, none :: s, _, h, t, v, ht => by simp [keptObjs] at h
  | some u :: r, some w :: s, n, h, t, v, ht => by
    simp only [keptObjs, Bool.and_eq_true, decide_eq_true_eq, Bool.or_eq_true, List.contains_iff_mem] at h
    cases t with
    | zero => simp at ht; subst ht; exact ⟨w, by simp, h.1.1, h.1.2⟩
    | succ t =>
      obtain ⟨w, h1, h2, h3⟩ := keptObjs_get h.2 (by simpa using ht)
      exact ⟨w, by simpa using h1, h2, by rw [show n + (t + 1) = n + 1 + t by omega]; exact h3⟩
theorem forget_get : ∀ {l : List Nat} {tm : List (Option SV)}, (forget tm l).length = tm.length ∧ ∀ {t : Nat} {v : SV}, (forget tm l)[t]? = some (some v) → tm[t]? = some (some v) ∧ t ∉ l
  | [], tm => ⟨rfl, fun h => ⟨h, by simp⟩⟩
  | k :: r, tm => by
    obtain ⟨h1, h2⟩ := forget_get (l := r) (tm := tm.set k none)
    refine ⟨by rw [forget, forgetT]; rw [forget] at h1; rw [h1]; simp, fun {t v} h => ?_⟩
    obtain ⟨h3, h4⟩ := h2 h
    rw [List.getElem?_set] at h3
    split at h3
    · split at h3 <;> cases h3
    · rename_i hne
      exact ⟨h3, by simp [h4]; exact fun h => hne h.symm⟩
end Go.Proofs.Ytdmaehpdccpnoaa
namespace Go.Proofs.Ytdmaehpdccpnoaa
open Go.RowKit

theorem headTms_rel {ρ : Nat → Nat} {e : Env} {a : Act} : ∀ (ts : List Nat) (vs : List SV) (tm : List (Option SV)), TmRel ρ e tm a → (∀ (i t : Nat) (v : SV), ts[i]? = some t → vs[i]? = some v → a.tmps[t]? = some (v.den ρ e)) → TmRel ρ e (headTms tm ts vs) a
  | [], _, tm, h, _ => by simpa [headTms] using h
  | t :: ts, [], tm, h, _ => by simpa [headTms] using h
  | t :: ts, v :: vs, tm, h, hv => by
    rw [headTms]
    refine headTms_rel ts vs _ ⟨by simp [h.1], fun t' v' ht => ?_⟩ (fun i t' v' h1 h2 => hv (i + 1) t' v' (by simpa using h1) (by simpa using h2))
    rw [List.getElem?_set] at ht
    split at ht
    · rename_i hh
      subst hh
      split at ht
      · simp only [Option.some.injEq] at ht
        subst ht
        exact hv 0 _ _ rfl rfl
      · cases ht
    · exact h.2 t' v' ht
theorem headTms_keep : ∀ (ts : List Nat) (vs : List SV) (tm : List (Option SV)) {t : Nat} {v : SV}, (headTms tm ts vs)[t]? = some (some v) → (∃ i : Nat, ts[i]? = some t ∧ vs[i]? = some v) ∨ tm[t]? = some (some v)
  | [], _, tm, t, v, h => .inr (by simpa [headTms] using h)
  | t0 :: ts, [], tm, t, v, h => .inr (by simpa [headTms] using h)
  | t0 :: ts, v0 :: vs, tm, t, v, h => by
    rw [headTms] at h
    rcases headTms_keep ts vs _ h with ⟨i, h1, h2⟩ | h1
    · exact .inl ⟨i + 1, by simpa using h1, by simpa using h2⟩
    · rw [List.getElem?_set] at h1
      split at h1
      · rename_i hh
        split at h1
        · simp only [Option.some.injEq] at h1
          exact .inl ⟨0, by simp [hh], by simp [h1]⟩
        · cases h1
      · exact .inr h1
theorem headTms_len : ∀ (ts : List Nat) (vs : List SV) (tm : List (Option SV)), (headTms tm ts vs).length = tm.length
  | [], _, tm => by simp [headTms]
  | t :: ts, [], tm => by simp [headTms]
  | t :: ts, v :: vs, tm => by rw [headTms, headTms_len]; simp
theorem getTms_get {S : St} : ∀ {ts : List Nat} {vs : List SV}, getTms S ts = some vs → ts.length = vs.length ∧ ∀ {i t : Nat} {v : SV}, ts[i]? = some t → vs[i]? = some v → S.tm[t]? = some (some v)
  | [], vs, h => by
    simp only [getTms, Option.some.injEq] at h
    subst h
    exact ⟨rfl, fun h => by simp at h⟩
  | t0 :: ts, vs, h => by
    simp only [getTms] at h
    split at h
    · rename_i v ws hv hw
      simp only [Option.some.injEq] at h
      subst h
      obtain ⟨h1, h2⟩ := getTms_get hw
      refine ⟨by simp [h1], fun {i t v'} ht hv' => ?_⟩
      cases i with
      | zero =>
        simp only [List.getElem?_cons_zero, Option.some.injEq] at ht hv'
        subst ht; subst hv'
        cases hh : S.tm[t0]? with
        | none => rw [hh] at hv; cases hv
        | some q => rw [hh] at hv; simp only [Option.join_some] at hv; rw [hv]
      | succ i => exact h2 (by simpa using ht) (by simpa using hv')
    · cases h
theorem headBlks_len : ∀ (bl : List (Nat × List Pq)) (vs : List SV) (h : List (Option SObj)), (headBlks h bl vs).length = h.length
  | [], _, h => by simp [headBlks]
  | (k, q) :: r, vs, h => by
    rw [headBlks, headBlks_len]
    split <;> simp
theorem headBlks_cases : ∀ {bl : List (Nat × List Pq)} {h : List (Option SObj)} {vs : List SV} {k : Nat} {o' : SObj}, (headBlks h bl vs)[k]? = some (some o') → ∃ o, h[k]? = some (some o) ∧ o'.ty = o.ty ∧
    ((o' = o ∧ k ∉ bl.map (·.1)) ∨ ∃ pre q post, bl = pre ++ (k, q) :: post ∧ o'.cs = (vs.drop ((pre.map fun p => p.2.length).sum)).take q.length)
  | [], h, vs, k, o', ho => ⟨o', by simpa [headBlks] using ho, rfl, .inl ⟨rfl, by simp⟩⟩
  | (k0, q0) :: r, h, vs, k, o', ho => by
    rw [headBlks] at ho
    obtain ⟨o, h1, h2, h3⟩ := headBlks_cases ho
    rcases h3 with ⟨rfl, h3⟩ | ⟨pre, q, post, rfl, h3⟩
    · by_cases hk : k0 = k
      · subst hk
        split at h1
        · rename_i o0 ho0
          have hh : h[k0]? = some (some o0) := by
            cases hx : h[k0]? with
            | none => rw [hx] at ho0; cases ho0
            | some x => rw [hx] at ho0; simp only [Option.join_some] at ho0; rw [ho0]
          rw [List.getElem?_set, if_pos rfl, if_pos (lt_len hh)] at h1
          simp only [Option.some.injEq] at h1
          subst h1
          exact ⟨o0, hh, rfl, .inr ⟨[], q0, r, rfl, by simp⟩⟩
        · rename_i hn
          rw [h1] at hn
          simp at hn
      · have hh : h[k]? = some (some o') := by
          split at h1
          · rwa [List.getElem?_set, if_neg hk] at h1
          · exact h1
        exact ⟨o', hh, rfl, .inl ⟨rfl, by simp only [List.map_cons, List.mem_cons, not_or]; exact ⟨fun h => hk h.symm, h3⟩⟩⟩
    · have hh : ∃ o2, h[k]? = some (some o2) ∧ o2.ty = o.ty := by
        split at h1
        · rename_i o0 ho0
          rw [List.getElem?_set] at h1
          split at h1
          · rename_i hk
            subst hk
            split at h1
            · simp only [Option.some.injEq] at h1
              subst h1
              refine ⟨o0, ?_, rfl⟩
              cases hx : h[k0]? with
              | none => rw [hx] at ho0; cases ho0
              | some x => rw [hx] at ho0; simp only [Option.join_some] at ho0; rw [ho0]
            · cases h1
          · exact ⟨o, h1, rfl⟩
        · exact ⟨o, h1, rfl⟩
      obtain ⟨o2, hh, ht⟩ := hh
      refine ⟨o2, hh, h2.trans ht.symm, .inr ⟨(k0, q0) :: pre, q, post, rfl, ?_⟩⟩
      rw [h3, List.drop_drop]
      simp
theorem getBlks_get {S : St} : ∀ {bl : List (Nat × List Pq)} {vs : List SV}, getBlks S bl = some vs → ∀ (pre : List (Nat × List Pq)) (k : Nat) (q : List Pq) (post : List (Nat × List Pq)), bl = pre ++ (k, q) :: post → ∀ o, S.h[k]? = some (some o) → o.cs = (vs.drop ((pre.map fun p => p.2.length).sum)).take q.length
  | [], vs, h, pre, k, q, post, hp, o, ho => by simp at hp
  | (k0, q0) :: r, vs, h, pre, k, q, post, hp, o, ho => by
    simp only [getBlks] at h
    split at h
    · rename_i o0 l ho0 hl
      split at h
      · rename_i hlen
        simp only [Option.some.injEq] at h
        subst h
        cases pre with
        | nil =>
          simp only [List.nil_append, List.cons.injEq, Prod.mk.injEq] at hp
          obtain ⟨⟨rfl, rfl⟩, rfl⟩ := hp
          rw [ho] at ho0
          simp only [Option.join_some, Option.some.injEq] at ho0
          subst ho0
          simp [← hlen]
        | cons p pre =>
          simp only [List.cons_append, List.cons.injEq] at hp
          obtain ⟨rfl, hp⟩ := hp
          have := getBlks_get hl pre k q post hp o ho
          rw [this]
          simp only [List.map_cons, List.sum_cons]
          rw [← hlen, ← List.drop_drop, List.drop_left]
      · cases h
    · cases h

section
variable {P : Program} {W0 : World} {M : Nat → Prop} {R : Ending → World → Prop} {hi : Hints}
/-- at the loop's head -/
theorem mkHead {S S2 : St} {ρ ρ2 : Nat → Nat} {e e2 : Env} {H2 : Hp} {a2 : Act} {W2 : World} {ts wr : List Nat} {bl : List (Nat × List Pq)} {pq : List Pq} {n dp : Nat} {tv bv : List SV} {vals : List SD}
    (hf : S.fits = true) (hpc : ∀ p ∈ S.pc, p.1.den e = p.2) (hr : Rel W0 M S2 ρ2 e2 [] H2 a2 W2) (htv : getTms S2 ts = some tv) (hbv : getBlks S2 bl = some bv) (hn : n = ts.length)
    (hsd : sdsOf pq (tv ++ bv) = some vals) (hnat : ∀ c ∈ natsL pq (tv ++ bv), c.den e2 = true) (he : ∀ i, i < S.nv → e2 i = e i) (hk : ∀ k, k < S.h.length → ρ2 k = ρ k)
    (hlen : S.tm.length = S2.tm.length) (hts : ∀ (t : Nat) (v : SV), (forget S.tm (wr ++ ts))[t]? = some (some v) → ∃ w, S2.tm[t]? = some (some w) ∧ ∀ ρ e, v.den ρ e = w.den ρ e)
    (hos : ∀ (k : Nat) (o : SObj), S.h[k]? = some (some o) → ∃ w, S2.h[k]? = some (some w) ∧ o.ty = w.ty ∧ (k ∈ bl.map (·.1) ∨ ∀ ρ e, SV.dens ρ e o.cs = SV.dens ρ e w.cs)) :
    ∃ e', UpdRel e (mkQ S.nv pq).2.1 e' ∧ Rel W0 M { S with tm := headTms (forget S.tm (wr ++ ts)) ts ((mkQ S.nv pq).1.take n), h := headBlks S.h bl ((mkQ S.nv pq).1.drop n), nv := (mkQ S.nv pq).2.2.2, dp := dp } ρ e' [] H2 a2 W2 ∧
      (mkQ S.nv pq).2.2.1.map (SD.den ρ e') = vals.map (SD.den ρ2 e2) := by
  obtain ⟨e', h1, h2, h3⟩ := head_in ρ2 e2 ρ pq (tv ++ bv) vals S.nv e hsd hnat
  have hold := h1.old (mkQ_fits pq S.nv S.nv (Nat.le_refl _))
  have hee : ∀ i, i < S.nv → e' i = e2 i := fun i hi => (hold i hi).trans (he i hi).symm
  have hkk : ∀ k, k < S.h.length → ρ k = ρ2 k := fun k h => (hk k h).symm
  obtain ⟨l1, l2⟩ := getTms_get htv
  simp only [St.fits, Bool.and_eq_true] at hf
  obtain ⟨⟨f1, f2⟩, f3⟩ := hf
  have htl : (tv ++ bv).take n = tv := by rw [hn, l1]; simp
  have hbl : (tv ++ bv).drop n = bv := by rw [hn, l1]; simp
  have htake : SV.dens ρ e' ((mkQ S.nv pq).1.take n) = SV.dens ρ2 e2 tv := by rw [dens_take, h3, ← dens_take, htl]
  have hdrop : SV.dens ρ e' ((mkQ S.nv pq).1.drop n) = SV.dens ρ2 e2 bv := by rw [dens_drop, h3, ← dens_drop, hbl]
  have hh : ∀ {k : Nat} {o' : SObj}, (headBlks S.h bl ((mkQ S.nv pq).1.drop n))[k]? = some (some o') → ∃ w, S2.h[k]? = some (some w) ∧ k < S.h.length ∧ o'.den ρ e' = w.den ρ2 e2 := fun {k o'} ho => by
    obtain ⟨o, c1, c2, c3⟩ := headBlks_cases ho
    obtain ⟨w, w1, w2, w3⟩ := hos k o c1
    refine ⟨w, w1, lt_len c1, ?_⟩
    have hcs : SV.dens ρ e' o'.cs = SV.dens ρ2 e2 w.cs := by
      rcases c3 with ⟨rfl, hnb⟩ | ⟨pre, q, post, hp, c3⟩
      · have h4 := w3.resolve_left hnb
        rw [SV.dens_congr hee hkk _ (hFits_get f2 c1)]
        exact h4 ρ2 e2
      · rw [c3, dens_take, dens_drop, hdrop, ← dens_drop, ← dens_take, getBlks_get hbv pre k q post hp w w1]
    simp only [SObj.den, hcs, c2, w2]
  refine ⟨e', h1, ⟨?_, hr.df, ⟨fun k o ho => ?_, fun k j o o' ho ho' hj => ?_, fun k o ho => ?_, fun k o ho => ?_, hr.mem.sub, hr.mem.mod, fun p hp => by simp at hp, fun p hp => by simp at hp, fun p hp => by simp at hp, fun p hp => by simp at hp⟩, fun p hp => ?_⟩, h2⟩
  · refine headTms_rel _ _ _ ⟨by rw [forget_get.1, hlen]; exact hr.tm.1, fun t v ht => ?_⟩ (fun i t v hi hv => ?_)
    · obtain ⟨w, w1, w2⟩ := hts t v ht
      rw [SV.den_congr hee hkk v (tmFits_get f1 (forget_get.2 ht).1), w2 ρ2 e2]
      exact hr.tm.2 t w w1
    · have hlt : i < tv.length := by
        have := (List.getElem?_eq_some_iff.1 hi).1
        omega
      have hvw : v.den ρ e' = (tv[i]).den ρ2 e2 := by
        have := congrArg (fun l => l[i]?) htake
        simp only [dens_get, hv, Option.map_some, List.getElem?_eq_getElem hlt, Option.some.injEq] at this
        exact this
      rw [hvw]
      exact hr.tm.2 t _ (l2 hi (List.getElem?_eq_getElem hlt))
  · obtain ⟨w, w1, w2, w3⟩ := hh ho
    rw [hkk k w2, w3]
    exact hr.mem.kn k w w1
  · obtain ⟨w, w1, w2, w3⟩ := hh ho
    obtain ⟨u, u1, u2, u3⟩ := hh ho'
    rw [hkk k w2, hkk j u2] at hj
    exact hr.mem.inj _ _ _ _ w1 u1 hj
  · obtain ⟨w, w1, w2, w3⟩ := hh ho
    rw [hkk k w2]; exact hr.mem.old _ _ w1
  · obtain ⟨w, w1, w2, w3⟩ := hh ho
    rw [hkk k w2]; exact hr.mem.dis _ _ w1
  · rw [Sb.den_congr hold p.1 (pcFits_get f3 p hp)]
    exact hpc p hp
end
end Go.Proofs.Ytdmaehpdccpnoaa
namespace Go.Proofs.Ytdmaehpdccpnoaa
open Go.RowKit
section
variable {P : Program} {W0 : World} {M : Nat → Prop} {R : Ending → World → Prop} {hi : Hints}

theorem exC_ok : ∀ (c : Code) {S : St} {K : Xt → St → VC} {L : List (List Dat → Hp → Prop)} {Q : Exit → Act → World → Prop} {B : Base} {ρ : Nat → Nat} {e : Env} {H : Hp} {a : Act} {W : World},
    (exC P hi c S K).den P W0 M R ρ e H L → Rel W0 M S ρ e [] H a W → L.length = S.dp → Agr B S ρ e → GoesX P W0 M R L B K Q → c.wp P Q a W := by
  intro c
  induction c with
  | skip =>
    intro S K L Q B ρ e H a W h hr hl hb hk
    exact wp_skip (hk .normal S ρ e H L a W ⟨[], rfl⟩ hl hb h hr)
  | exit id =>
    intro S K L Q B ρ e H a W h hr hl hb hk
    exact wp_exit (hk (.exit id) S ρ e H L a W ⟨[], rfl⟩ hl hb h hr)
  | ret =>
    intro S K L Q B ρ e H a W h hr hl hb hk
    exact wp_ret (hk .ret S ρ e H L a W ⟨[], rfl⟩ hl hb h hr)
  | seq x y ihx ihy =>
    intro S K L Q B ρ e H a W h hr hl hb hk
    refine wp_seq (ihx h hr hl hb (fun z S' ρ' e' H' L' a' W' hp hl' hb' hd hr' => ?_))
    cases z with
    | normal => exact ihy hd hr' hl' hb' (hk.more hp)
    | ret => exact hk .ret S' ρ' e' H' L' a' W' hp hl' hb' hd hr'
    | exit i => exact hk (.exit i) S' ρ' e' H' L' a' W' hp hl' hb' hd hr'
  | cond cc x y ihx ihy =>
    intro S K L Q B ρ e H a W h hr hl hb hk
    simp only [exC] at h
    split at h
    · rename_i sb hsb
      obtain ⟨S', h1, h2, h5⟩ := branch_out h hr
      have hev := ev_ok hr.tm hsb
      rcases h5 with ⟨h5, h6⟩ | ⟨h5, h6⟩
      · refine wp_cond_true (by rw [hev]; simp only [SV.den, h5]) (ihx h6 h1 (by rw [h2.1]; exact hl) (hb.sim h2) hk)
      · refine wp_cond_false (by rw [hev]; simp only [SV.den, h5]) (ihy h6 h1 (by rw [h2.1]; exact hl) (hb.sim h2) hk)
    · exact h.elim
  | block id b ih =>
    intro S K L Q B ρ e H a W h hr hl hb hk
    refine wp_block (ih h hr hl hb (fun z S' ρ' e' H' L' a' W' hp hl' hb' hd hr' => ?_))
    cases z with
    | normal => exact hk .normal S' ρ' e' H' L' a' W' hp hl' hb' hd hr'
    | ret => exact hk .ret S' ρ' e' H' L' a' W' hp hl' hb' hd hr'
    | exit i =>
      dsimp only at hd
      simp only [Xt.toExit, Exit.inBlock]
      split
      · rename_i hi'
        rw [if_pos hi'] at hd
        exact hk .normal S' ρ' e' H' L' a' W' hp hl' hb' hd hr'
      · rename_i hi'
        rw [if_neg hi'] at hd
        exact hk (.exit i) S' ρ' e' H' L' a' W' hp hl' hb' hd hr'
  | region id ops draw =>
    intro S K L Q B ρ e H a W h hr hl hb hk
    simp only [exC] at h
    have hg : Goes P W0 M R [] L B S.dp (K .normal) (Q .normal) := fun S' ρ' e' H' a' W' hdp hb' h' hr' => hk .normal S' ρ' e' H' L a' W' ⟨[], rfl⟩ (by rw [hdp]; exact hl) hb' h' hr'
    split at h
    · rename_i hd
      subst hd
      rw [forceK] at h
      exact exDraw_ok h hr hb hg
    · rename_i hd
      simp only [Bool.not_eq_true] at hd
      subst hd
      rw [forceK] at h
      have := exOps_ok h hr hb hg
      have hm : (ops.toList.zipIdx.map (·.1)) = ops.toList := by
        simp [List.zipIdx_map_fst]
      rw [hm] at this
      exact wp_region_list this
  | loop b ih =>
    intro S K L Q B ρ e H a W h hr hl hb hk
    simp only [exC] at h
    split at h
    · exact h.elim
    · split at h
      · exact h.elim
      · rename_i id _ _ n hh
        refine wp_loop_rounds n ?_
        have key : ∀ (n : Nat) {S : St} {L' : List (List Dat → Hp → Prop)} {ρ : Nat → Nat} {e : Env} {H : Hp} {a : Act} {W : World}, (VC.den P W0 M R (Nat.rec (motive := fun _ => St → VC) (fun _ => .fail 10)
            (fun _ again S => exC P hi b S fun x S => match x with | .normal => again S | x => K x S) n S) ρ e H L') → Rel W0 M S ρ e [] H a W → L'.length = S.dp → Agr B S ρ e → (∃ pre, L' = pre ++ L) → Code.rounds P b Q n a W := by
          intro n
          induction n with
          | zero => intro S L' ρ e H a W h _ _ _ _; exact h.elim
          | succ n ihn =>
            intro S L' ρ e H a W h hr hl hb hp
            rw [rounds_succ]
            refine ih h hr hl hb (fun z S' ρ' e' H' L2 a' W' hp2 hl' hb' hd hr' => ?_)
            obtain ⟨p1, rfl⟩ := hp
            obtain ⟨p2, rfl⟩ := hp2
            cases z with
            | normal => exact ihn hd hr' hl' hb' ⟨p2 ++ p1, by rw [List.append_assoc]⟩
            | ret => exact hk .ret S' ρ' e' H' _ a' W' ⟨p2 ++ p1, by rw [List.append_assoc]⟩ hl' hb' hd hr'
            | exit i => exact hk (.exit i) S' ρ' e' H' _ a' W' ⟨p2 ++ p1, by rw [List.append_assoc]⟩ hl' hb' hd hr'
        exact key n h hr hl hb ⟨[], rfl⟩
      · rename_i id _ _ slots blks hh
        split at h
        · rename_i bl tv hbl htv
          split at h
          · exact h.elim
          · rename_i bv hbv
            split at h
            · exact h.elim
            · rename_i ini hini
              split at h
              · exact h.elim
              · rename_i hff
                simp only [Bool.not_eq_true, Bool.not_eq_false', Bool.and_eq_true, decide_eq_true_eq] at hff
                obtain ⟨⟨hf, hfr⟩, hnv⟩ := hff
                obtain ⟨S1, r1, sim1, hn1, h1⟩ := chks_out h hr
                obtain ⟨I, μ, hI0, hbody⟩ := h1
                have s1dp := sim1.1
                obtain ⟨e0, u0, rel0, d0⟩ := mkHead (S := S) (S2 := S) (ρ := ρ) (ρ2 := ρ) (e := e) (e2 := e) (bl := bl) (ts := slots.map (·.1)) (wr := wrote b) (n := slots.length) (dp := S1.dp + 1) hf hr.pc hr htv hbv (by simp) hini hn1 (fun _ _ => rfl) (fun _ _ => rfl) rfl
                  (fun t v ht => ⟨v, (forget_get.2 ht).1, fun _ _ => rfl⟩) (fun k o ho => ⟨o, ho, rfl, .inr (fun _ _ => rfl)⟩)
                refine wp_loop_ix (fun n a W => ∃ e' H', UpdRel e (mkQ S.nv (slots.map (·.2) ++ (bl.map (·.2)).flatten)).2.1 e' ∧
                  Rel W0 M { S with tm := headTms (forget S.tm (wrote b ++ slots.map (·.1))) (slots.map (·.1)) ((mkQ S.nv (slots.map (·.2) ++ (bl.map (·.2)).flatten)).1.take slots.length), h := headBlks S.h bl ((mkQ S.nv (slots.map (·.2) ++ (bl.map (·.2)).flatten)).1.drop slots.length), nv := (mkQ S.nv (slots.map (·.2) ++ (bl.map (·.2)).flatten)).2.2.2, dp := S1.dp + 1 } ρ e' [] H' a W ∧
                  I ((mkQ S.nv (slots.map (·.2) ++ (bl.map (·.2)).flatten)).2.2.1.map (SD.den ρ e')) H' ∧ μ ((mkQ S.nv (slots.map (·.2) ++ (bl.map (·.2)).flatten)).2.2.1.map (SD.den ρ e')) = n)
                  ⟨_, e0, H, u0, rel0, by rw [d0]; exact hI0, rfl⟩ ?_
                rintro n a1 W1 ⟨e1, H1, u1, rel1, hI1, rfl⟩
                have hb1 := allL_out u1 (hbody H1) hI1
                have hold1 := u1.old (mkQ_fits _ S.nv S.nv (Nat.le_refl _))
                refine ih hb1 rel1 (by simp [hl, s1dp]) (B := ⟨S.nv, S.h.length, ρ, e⟩) ⟨hnv, by simp [headBlks_len], hold1, fun _ _ => rfl⟩ (fun z S2 ρ2 e2 H2 L2 a2 W2 hp2 hl2 hb2 hd2 hr2 => ?_)
                obtain ⟨pre, rfl⟩ := hp2
                have hB2 : Agr B S2 ρ2 e2 := ⟨Nat.le_trans hb.n hb2.n, Nat.le_trans hb.m hb2.m, fun i hi' => (hb2.e i (Nat.lt_of_lt_of_le hi' hb.n)).trans (hb.e i hi'), fun k hk' => (hb2.r k (Nat.lt_of_lt_of_le hk' hb.m)).trans (hb.r k hk')⟩
                have hK : ∀ x, (K x S2).den P W0 M R ρ2 e2 H2 (pre ++ (fun l K => I l K ∧ μ l < μ ((mkQ S.nv (slots.map (·.2) ++ (bl.map (·.2)).flatten)).2.2.1.map (SD.den ρ e1))) :: L) → Q x.toExit a2 W2 := fun x hx =>
                  hk x S2 ρ2 e2 H2 _ a2 W2 ⟨pre ++ [_], by rw [List.append_assoc]; rfl⟩ hl2 hB2 hx hr2
                cases z with
                | ret => exact hK .ret hd2
                | exit i => exact hK (.exit i) hd2
                | normal =>
                  simp only [Xt.toExit, Exit.then]
                  dsimp only at hd2
                  split at hd2
                  · rename_i tv2 bv2 htv2 hbv2
                    split at hd2
                    · exact hd2.elim
                    · rename_i vals hvals
                      split at hd2
                      · rename_i hkept
                        simp only [Bool.and_eq_true] at hkept
                        obtain ⟨S3, r3, sim3, hn3, h3⟩ := chks_out hd2 hr2
                        obtain ⟨g1, g2⟩ := sameTms_get hkept.1
                        obtain ⟨e4, u4, rel4, d4⟩ := mkHead (S := S) (S2 := S2) (ρ := ρ) (ρ2 := ρ2) (e := e) (e2 := e2) (bl := bl) (ts := slots.map (·.1)) (wr := wrote b) (n := slots.length) (dp := S1.dp + 1) hf hr.pc hr2 htv2 hbv2 (by simp) hvals hn3 hb2.e hb2.r (by rw [← g1, forget_get.1])
                          (fun t v ht => by
                            obtain ⟨w, w1, w2⟩ := g2 ht
                            exact ⟨w, w1, fun ρ e => same_ok ρ e _ _ w2⟩) (fun k o ho => by
                            obtain ⟨w, w1, w2, w3⟩ := keptObjs_get hkept.2 ho
                            exact ⟨w, w1, w2, w3.imp (by simp) (fun h ρ e => sames_ok ρ e _ _ h)⟩)
                        have hidx : S2.dp - 1 - S1.dp = pre.length := by
                          simp only [List.length_append, List.length_cons] at hl2
                          omega
                        simp only [VC.den] at h3
                        rw [hidx] at h3
                        have hget : (pre ++ (fun l K => I l K ∧ μ l < μ ((mkQ S.nv (slots.map (·.2) ++ (bl.map (·.2)).flatten)).2.2.1.map (SD.den ρ e1))) :: L).getD pre.length (fun _ _ => False) = (fun l K => I l K ∧ μ l < μ ((mkQ S.nv (slots.map (·.2) ++ (bl.map (·.2)).flatten)).2.2.1.map (SD.den ρ e1))) := by
                          simp
                        rw [hget, ← d4] at h3
                        exact ⟨_, h3.2, e4, H2, u4, rel4, h3.1, rfl⟩
                      · exact hd2.elim
                  · exact hd2.elim
        · exact h.elim
  | _ => intro S K L Q B ρ e H a W h _ _ _ _; exact h.elim
theorem resV_ok {S : St} {ρ : Nat → Nat} {e : Env} {X : List (Nat × Obj)} {H : Hp} {a : Act} {W : World} (hr : Rel W0 M S ρ e X H a W) : ∀ {l : List ResultVar} {vs : List SV}, resV P S l = some vs →
    (l.mapM (m := Sem) fun
      | .tmp t => pure (a.tmps.getD t Go.undef)
      | .cell x t => do loadVar t (← asAddr (a.tmps.getD x Go.undef))).run P W = .ok (SV.dens ρ e vs) W
  | [], vs, h => by
    simp only [resV, Option.some.injEq] at h
    subst h; rfl
  | .tmp t :: r, vs, h => by
    simp only [resV] at h
    split at h
    · rename_i v ws hv hw
      simp only [Option.some.injEq] at h
      subst h
      have h1 := slot_of hr.tm hv
      have ih := resV_ok hr hw
      have hg : a.tmps.getD t Go.undef = v.den ρ e := by rw [Array.getD_eq_getD_getElem?, h1]; rfl
      rw [List.mapM_cons]
      simp only [Sem.run_bind, Sem.run_pure, Result.andThen_ok, ih, SV.dens, hg]
    · cases h
  | .cell t ty :: r, vs, h => by
    simp only [resV] at h
    split at h
    · rename_i k off hk
      split at h
      · rename_i v ws hv hw
        simp only [Option.some.injEq] at h
        subst h
        simp only [Option.bind_eq_some_iff] at hv
        obtain ⟨ob, hob, hv⟩ := hv
        have h1 := slot_of hr.tm hk
        have ih := resV_ok hr hw
        have hl := ok_load (P := P) (o := { dst := none, op := .load ty (.tmp t), type := 0, pos := "", after := #[], guard := none }) (W := W) hr.toT rfl
        have hst : step P S { dst := none, op := .load ty (.tmp t), type := 0, pos := "", after := #[], guard := none } = .ld k (.k 0) ty (some off) := by
          simp only [step, ev, hk, hob, hv]
        rw [hst] at hl
        have hrun := hl ob v (kn_of hr hob).1 (kn_of hr hob).2 hv
        simp only [execOp, Instr.loadAt, Act.eval, Array.getD_eq_getD_getElem?, h1, Option.getD_some, SV.den, Instr.sureAddr, Sem.run_bind, Sem.run_pure, Result.andThen_ok] at hrun
        have hld : (loadVar ty ⟨ρ k, off, none⟩).run P W = .ok (v.den ρ e) W := by
          cases hx : (loadVar ty ⟨ρ k, off, none⟩).run P W with
          | ok u w =>
            rw [hx] at hrun
            simp only [Result.andThen_ok] at hrun
            injection hrun with q1 q2
            injection q1 with q1
            rw [q1, q2]
          | halt u w => rw [hx] at hrun; cases hrun
        have hg : a.tmps.getD t Go.undef = .pointer (some ⟨ρ k, off, none⟩) := by rw [Array.getD_eq_getD_getElem?, h1]; rfl
        rw [List.mapM_cons]
        have ha : (asAddr (a.tmps.getD t Go.undef)).run P W = .ok ⟨ρ k, off, none⟩ W := by rw [hg]; rfl
        simp only [Sem.run_bind, Sem.run_pure, Result.andThen_ok, ha, hld, ih, SV.dens]
      · cases h
    · cases h
theorem endVC_ok {n : Nat} {fn : Func} {S : St} {ρ : Nat → Nat} {e : Env} {H : Hp} {L : List (List Dat → Hp → Prop)} {a : Act} {W : World} (h : (endVC P n fn S).den P W0 M R ρ e H L) (hr : Rel W0 M S ρ e [] H a W) :
    ∃ v, (results fn a.tmps).run P W = .ok v W ∧ R (.returned v) W := by
  unfold endVC at h
  have hres : ∀ vs, resV P S fn.results.toList = some vs → (results fn a.tmps).run P W = .ok (match vs with | [v] => v.den ρ e | vs => .tuple (SV.dens ρ e vs).toArray) W := fun vs hv => by
    have h1 := resV_ok (P := P) hr hv
    unfold results
    rw [Array.mapM_eq_mapM_toList]
    simp only [Sem.run_bind, Sem.run_map]
    erw [h1]
    simp only [Result.andThen_ok, Sem.run_pure]
    congr 1
    match vs with
    | [] => rfl
    | [v] => rfl
    | u :: v :: r => simp [SV.dens]
  split at h
  · rename_i v hv
    exact ⟨_, hres _ hv, h W hr.now (KN_ok hr (knOf_ok S _))⟩
  · rename_i vs hn hv
    refine ⟨_, hres _ hv, ?_⟩
    have := h W hr.now (KN_ok hr (knOf_ok S _))
    split
    · rename_i v
      exact (hn v rfl).elim
    · exact this
  · exact h.elim

/-- A WHOLE FUNCTION: what its symbolic run leaves to prove is enough. -/
theorem exF_ok {f : FuncId} {fn : Func} (hf : P.funcs[f]? = some fn) {args : List SV} {h : List (Option SObj)} {nv : Nat} {pc : List (Sb × Bool)} {ρ : Nat → Nat} {e : Env} {H : Hp} {W : World}
    (hv : (exF P hi fn args h nv pc).den P W0 M R ρ e H []) (hat : At W0 M ρ e h [] H W) (hpc : ∀ p ∈ pc, p.1.den e = p.2) : Calls P f (SV.dens ρ e args).toArray W R := by
  unfold exF at hv
  split at hv
  · exact hv.elim
  · rename_i c hc
    refine calls_of_wp hf hc (exC_ok (B := ⟨0, 0, ρ, e⟩) c hv ⟨⟨?_, fun t v ht => ?_⟩, rfl, hat, hpc⟩ rfl ⟨Nat.zero_le _, Nat.zero_le _, fun _ _ => rfl, fun _ _ => rfl⟩ (fun x S ρ' e' H' L' a' W' hp hl hb hd hr => ?_))
    · simp [dens_len]
    · have hl : (SV.dens ρ e args).length = args.length := dens_len _ _ _
      rcases Nat.lt_or_ge t args.length with hlt | hge
      · rw [List.getElem?_append_left (by simpa using hlt)] at ht
        rw [Array.getElem?_append_left (by simpa [hl] using hlt)]
        simp only [List.getElem?_map, List.getElem?_toArray, dens_get] at ht ⊢
        cases hx : args[t]? with
        | none => rw [hx] at ht; cases ht
        | some q => rw [hx] at ht; simp only [Option.map_some, Option.some.injEq] at ht ⊢; rw [ht]
      · rw [List.getElem?_append_right (by simpa using hge)] at ht
        simp only [List.length_map] at ht
        rw [Array.getElem?_append_right (by simpa [hl] using hge)]
        rw [List.getElem?_replicate] at ht
        split at ht
        · rename_i hlt
          simp only [Option.some.injEq] at ht
          subst ht
          simp [hl, hlt, SV.den]
        · cases ht
    · cases x with
      | normal =>
        obtain ⟨v, h1, h2⟩ := endVC_ok hd hr
        exact ⟨hr.df, v, h1, h2⟩
      | ret =>
        obtain ⟨v, h1, h2⟩ := endVC_ok hd hr
        exact ⟨hr.df, v, h1, h2⟩
      | exit i => exact hd.elim
/-- from the world as it stands, no block of its own known yet -/
theorem calls_sx {f : FuncId} {fn : Func} (hf : P.funcs[f]? = some fn) (hi : Hints) {args : List SV} {nv : Nat} {e : Env} {H : Hp} {W : World} (hH : H.le (hpOf W))
    (hv : (exF P hi fn args [] nv []).den P W M R (fun _ => 0) e H []) : Calls P f (SV.dens (fun _ => 0) e args).toArray W R :=
  exF_ok hf hv ⟨fun k o h => by simp at h, fun k j o o' h => by simp at h, fun k o h => by simp at h, fun k o h => by simp at h, hH, Mod.refl _ _, fun p h => by simp at h, fun p h => by simp at h, fun p h => by simp at h, fun p h => by simp at h⟩ (fun p h => by simp at h)
def rho2 (b0 b1 : Nat) : Nat → Nat
  | 0 => b0
  | 1 => b1
  | _ => 0
/-- from the world as it stands, two blocks of it known -/
theorem calls_sx2 {f : FuncId} {fn : Func} (hf : P.funcs[f]? = some fn) (hi : Hints) {args : List SV} {nv : Nat} {e : Env} {H : Hp} {W : World} {o0 o1 : SObj} {b0 b1 : Nat} (hH : H.le (hpOf W)) (hne : b0 ≠ b1)
    (h0 : W.heap[b0]? = some (o0.den (rho2 b0 b1) e) ∧ M b0 ∧ H b0 = none) (h1 : W.heap[b1]? = some (o1.den (rho2 b0 b1) e) ∧ M b1 ∧ H b1 = none)
    (hv : (exF P hi fn args [some o0, some o1] nv []).den P W M R (rho2 b0 b1) e H []) : Calls P f (SV.dens (rho2 b0 b1) e args).toArray W R := by
  have key : ∀ (k : Nat) (o : SObj), ([some o0, some o1] : List (Option SObj))[k]? = some (some o) → (k = 0 ∧ o = o0) ∨ (k = 1 ∧ o = o1) := fun k o h => by
    match k, h with
    | 0, h => exact .inl ⟨rfl, by simpa using h.symm⟩
    | 1, h => exact .inr ⟨rfl, by simpa using h.symm⟩
    | n + 2, h => simp at h
  refine exF_ok hf hv ⟨fun k o h => ?_, fun k j o o' h h' he => ?_, fun k o h => ?_, fun k o h => ?_, hH, Mod.refl _ _, fun p h => by simp at h, fun p h => by simp at h, fun p h => by simp at h, fun p h => by simp at h⟩ (fun p h => by simp at h)
  · rcases key k o h with ⟨rfl, rfl⟩ | ⟨rfl, rfl⟩
    · exact h0.1
    · exact h1.1
  · rcases key k o h with ⟨rfl, rfl⟩ | ⟨rfl, rfl⟩ <;> rcases key j o' h' with ⟨rfl, rfl⟩ | ⟨rfl, rfl⟩
    · rfl
    · exact (hne he).elim
    · exact (hne he.symm).elim
    · rfl
  · rcases key k o h with ⟨rfl, rfl⟩ | ⟨rfl, rfl⟩
    · exact .inr h0.2.1
    · exact .inr h1.2.1
  · rcases key k o h with ⟨rfl, rfl⟩ | ⟨rfl, rfl⟩
    · exact h0.2.2
    · exact h1.2.2
end
end Go.Proofs.Ytdmaehpdccpnoaa
namespace Go.Proofs.Ytdmaehpdccpnoaa
open Go.RowKit
theorem vc_of {A B : Prop} (h : B) (e : A = B) : A := e.mpr h
theorem vc_of2 {P : Program} {W0 : World} {M : Nat → Prop} {R : Ending → World → Prop} {ρ : Nat → Nat} {e : Env} {H : Hp} {L : List (List Dat → Hp → Prop)} {U V : VC} {B : Prop} (h : B) (e1 : U = V) (e2 : V.den P W0 M R ρ e H L = B) : U.den P W0 M R ρ e H L := e1 ▸ e2.mpr h
theorem calls_sxA {P : Program} {M : Nat → Prop} {R : Ending → World → Prop} {f : FuncId} {fn : Func} (hf : P.funcs[f]? = some fn) {hi : Hints} {args : List SV} {nv : Nat} {e : Env} {H : Hp} {W : World} {A : Array Value} {V : VC} {B : Prop} (hH : H.le (hpOf W)) (h : B)
    (e1 : exF P hi fn args [] nv [] = V) (e2 : V.den P W M R (fun _ => 0) e H [] = B) (ha : (SV.dens (fun _ => 0) e args).toArray = A) : Calls P f A W R :=
  ha ▸ calls_sx (M := M) hf hi hH (vc_of2 h e1 e2)
theorem calls_sxB {P : Program} {M : Nat → Prop} {R : Ending → World → Prop} {f : FuncId} {fn : Func} (hf : P.funcs[f]? = some fn) {hi : Hints} {args : List SV} {nv : Nat} {e : Env} {H : Hp} {W : World} {A : Array Value} {V : VC} {B : Prop} {o0 o1 : SObj} {b0 b1 : Nat} {O0 O1 : Obj} (hH : H.le (hpOf W)) (hne : b0 ≠ b1)
    (h0 : W.heap[b0]? = some O0 ∧ M b0 ∧ H b0 = none) (h1 : W.heap[b1]? = some O1 ∧ M b1 ∧ H b1 = none) (h : B)
    (e1 : exF P hi fn args [some o0, some o1] nv [] = V) (e2 : V.den P W M R (rho2 b0 b1) e H [] = B) (ha : (SV.dens (rho2 b0 b1) e args).toArray = A) (g0 : o0.den (rho2 b0 b1) e = O0) (g1 : o1.den (rho2 b0 b1) e = O1) : Calls P f A W R := by
  subst g0 g1
  exact ha ▸ calls_sx2 (M := M) hf hi hH hne h0 h1 (vc_of2 h e1 e2)
abbrev vi (x : Int) : Value := .int .i64 x
abbrev vb (x : Bool) : Value := .bool x
abbrev vsl (p : Option Loc) (n c : Nat) : Value := .slice (ptrAt p 0) n c
def noM : Nat → Prop := fun _ => False
def noH : Hp := fun _ => none
def nK : World → Prop := fun _ => True
def Rt (R : Ending → World → Prop) (W0 : World) (M : Nat → Prop) (H : Hp) (kn : World → Prop) (v : Value) : Prop := ∀ W, Now W0 M H W → kn W → R (.returned v) W
def Cl (P : Program) (W0 : World) (M : Nat → Prop) (H : Hp) (kn : World → Prop) (f : Nat) (args : Array Value) (Φ : Ending → World → World → Prop) : Prop := ∀ W, Now W0 M H W → kn W → Calls P f args W fun z W' => Φ z W W'
def Es (W0 : World) (M : Nat → Prop) (H : Hp) (kn : World → Prop) (Φ : World → Prop) : Prop := ∀ W, Now W0 M H W → kn W → Φ W
def Eo (P : Program) (q : EK) (args : List Value) (W : World) (r : Next) (K : World → Prop) : Prop := ∃ W', (q.sem args).run P W = .ok r W' ∧ K W'
def Fr (W W' : World) (H : Hp) (K : Hp → Prop) : Prop := Ext W W' ∧ ∃ D : Hp, D.le (hpOf W') ∧ (∀ b o, D b = some o → W.heap.size ≤ b) ∧ ∀ H' : Hp, H.le H' → D.le H' → K H'
def Tn (W0 : World) (M : Nat → Prop) (H : Hp) (W W' : World) (K : Hp → Prop) : Prop := ∃ H', Turned W0 M H W H' W' ∧ K H'
def Md (l : List (Nat × Obj)) (W W' : World) (K : Prop) : Prop := Mod (fun b => ∃ p ∈ l, p.1 = b) W W' ∧ (∀ p ∈ l, W'.heap[p.1]? = some p.2) ∧ K
def Bt (W0 : World) (M : Nat → Prop) (H : Hp) (l : List (Nat × Obj)) (W W' : World) (K : Hp → Prop) : Prop := ∃ Wm H', Mod (fun b => ∃ p ∈ l, p.1 = b) W Wm ∧ (∀ p ∈ l, Wm.heap[p.1]? = some p.2) ∧ Turned W0 M H Wm H' W' ∧ K H'
theorem noH_le (H : Hp) : noH.le H := fun _ _ h => by cases h
theorem Now.ext {W0 W : World} {H : Hp} (h : Now W0 noM H W) : Ext W0 W := ⟨h.mod.os, h.mod.tape, h.mod.output, h.mod.size, fun b hb => h.mod.blk b hb (fun h => h)⟩
theorem Ext.refl (W : World) : Ext W W := Below.refl _ _
theorem Ext.trans {A B C : World} (h : Ext A B) (k : Ext B C) : Ext A C := Below.trans h (k.mono h.size)
theorem in64 {n : Int} (h : -9223372036854775808 ≤ n ∧ n ≤ 9223372036854775807) : inKind .i64 n := by unfold inKind; rw [IntKind.wrap_i64]; omega
theorem in64_iff {n : Int} : inKind .i64 n ↔ -9223372036854775808 ≤ n ∧ n ≤ 9223372036854775807 := by unfold inKind; rw [IntKind.wrap_i64]; omega

section
variable {P : Program} {W0 : World} {M : Nat → Prop} {H : Hp} {kn : World → Prop} {f : Nat} {args : Array Value} {Φ : Ending → World → World → Prop} {R : Ending → World → Prop} {v : Value}
/-- a call that hands back v, and turns nothing that was there -/
def Gv (P : Program) (f : Nat) (args : Array Value) (H : Hp) (v : Value) : Prop := ∀ W, H.le (hpOf W) → Calls P f args W fun z W' => z = .returned v ∧ Ext W W'
/-- a call whose answer lies in new memory -/
def Gf (P : Program) (f : Nat) (args : Array Value) (H : Hp) (post : Value → Hp → Prop) : Prop := ∀ W, H.le (hpOf W) → Calls P f args W fun z W' => ∃ v D, z = .returned v ∧ Ext W W' ∧ D.le (hpOf W') ∧ (∀ b o, D b = some o → W.heap.size ≤ b) ∧ post v D
theorem Cl.same (hc : Gv P f args H v) (hk : ∀ W W', Ext W W' → Φ (.returned v) W W') : Cl P W0 M H kn f args Φ := fun W n _ => (hc W n.sub).mono fun z W' ⟨hz, hx⟩ => by subst hz; exact hk W W' hx
theorem Cl.sameK (hc : ∀ W, Now W0 M H W → kn W → ∃ H1 : Hp, H1.le (hpOf W) ∧ Gv P f args H1 v) (hk : ∀ W W', Ext W W' → Φ (.returned v) W W') : Cl P W0 M H kn f args Φ := fun W n k => by
  obtain ⟨H1, h1, h2⟩ := hc W n k
  exact (h2 W h1).mono fun z W' ⟨hz, hx⟩ => by subst hz; exact hk W W' hx
theorem Cl.fresh {post : Value → Hp → Prop} (hc : Gf P f args H post) (hk : ∀ v W W' D, post v D → Ext W W' → D.le (hpOf W') → (∀ b o, D b = some o → W.heap.size ≤ b) → Now W0 M H W → Φ (.returned v) W W') : Cl P W0 M H kn f args Φ := fun W n _ => (hc W n.sub).mono fun z W' ⟨v, D, hz, hx, h1, h2, h3⟩ => by subst hz; exact hk v W W' D h3 hx h1 h2 n
theorem Cl.freshK {post : Value → Hp → Prop} (hc : ∀ W, Now W0 M H W → kn W → ∃ H1 : Hp, H1.le (hpOf W) ∧ Gf P f args H1 post) (hk : ∀ v W W' D, post v D → Ext W W' → D.le (hpOf W') → (∀ b o, D b = some o → W.heap.size ≤ b) → Now W0 M H W → Φ (.returned v) W W') : Cl P W0 M H kn f args Φ := fun W n k => by
  obtain ⟨H1, h1, h2⟩ := hc W n k
  exact (h2 W h1).mono fun z W' ⟨v, D, hz, hx, h3, h4, h5⟩ => by subst hz; exact hk v W W' D h5 hx h3 h4 n
theorem Rt.gv {v : Value} : Rt (fun z W' => z = .returned v ∧ Ext W0 W') W0 noM H kn v := fun _ n _ => ⟨rfl, n.ext⟩
theorem Rt.gf {post : Value → Hp → Prop} {D : Hp} (hD : D.le H) (hf : ∀ b o, D b = some o → W0.heap.size ≤ b) (hp : post v D) :
    Rt (fun z W' => ∃ v D, z = .returned v ∧ Ext W0 W' ∧ D.le (hpOf W') ∧ (∀ b o, D b = some o → W0.heap.size ≤ b) ∧ post v D) W0 noM H kn v := fun _ n _ => ⟨v, D, rfl, n.ext, Hp.le_trans hD n.sub, hf, hp⟩
/-- memory that is held, and a known block -/
def addH (H : Hp) (b : Nat) (o : Obj) : Hp := fun k => if k = b then some o else H k
theorem addH_le {W : World} {b : Nat} {o : Obj} (h : H.le (hpOf W)) (hb : W.heap[b]? = some o) : (addH H b o).le (hpOf W) := fun k q hk => by
  unfold addH at hk
  split at hk
  · rename_i he; subst he; rw [← hk]; exact hb
  · exact h k q hk
theorem le_addH {b : Nat} {o : Obj} (h : H b = none) : H.le (addH H b o) := fun k q hk => by
  unfold addH
  split
  · rename_i he; subst he; rw [h] at hk; cases hk
  · exact hk
theorem addH_at (H : Hp) (b : Nat) (o : Obj) : addH H b o b = some o := by unfold addH; rw [if_pos rfl]
end
end Go.Proofs.Ytdmaehpdccpnoaa
