/- A symbolic run of a function's code: loops; a whole function. Over any program; no program in sight. -/
import Derived.Test.YtcnkljeniffmmaaSxL
namespace Go.Proofs.Ytcnkljeniffmmaa
open Go.RowKit

theorem Dat.int_i (x : Int) : (Dat.i x).int = x := rfl
theorem Dat.int_n (x : Nat) : (Dat.n x).int = (x : Int) := rfl
theorem Dat.bool_b (x : Bool) : (Dat.b x).bool = x := rfl
theorem Dat.ptr_p (x : Option (Nat × Nat)) : (Dat.p x).ptr = x := rfl
theorem Dat.str_s (x : ByteArray) : (Dat.s x).str = x := rfl
theorem Dat.val_v (x : Value) : (Dat.v x).val = x := rfl
theorem mkQ_fits : ∀ (q : List Pq) (n m : Nat), m ≤ n → frFits m (mkQ n q).2.1 = true
  | [], _, _, _ => rfl
  | .nat :: r, n, m, h | .pt (.int _) :: r, n, m, h | .pt .bool :: r, n, m, h | .pt .str :: r, n, m, h | .pt .ptr :: r, n, m, h | .pt .val :: r, n, m, h => by
    simp only [mkQ, frFits, Bool.and_eq_true, decide_eq_true_eq]
    exact ⟨h, mkQ_fits r (n + 1) m (by omega)⟩
  | .pt .sl :: r, n, m, h => by
    simp only [mkQ, frFits, Bool.and_eq_true, decide_eq_true_eq]
    exact ⟨h, by omega, by omega, mkQ_fits r (n + 3) m (by omega)⟩
def natsL (pq : List Pq) (vs : List SV) : List Sb := ((pq.zip vs).map fun p => natsOf p.1 p.2).flatten
/-- the head's names stand for what is there -/
theorem head_in (ρ : Nat → Nat) (e : Env) (ρ' : Nat → Nat) : ∀ (pq : List Pq) (vs : List SV) (ds : List SD) (n : Nat) (e1 : Env), sdsOf pq vs = some ds → (∀ c ∈ natsL pq vs, c.den e = true) →
    ∃ e', UpdRel e1 (mkQ n pq).2.1 e' ∧ (mkQ n pq).2.2.1.map (SD.den ρ' e') = ds.map (SD.den ρ e) ∧ SV.dens ρ' e' (mkQ n pq).1 = SV.dens ρ e vs
  | [], [], ds, n, e1, h, _ => by
    simp only [sdsOf, Option.some.injEq] at h
    subst h
    exact ⟨e1, .nil e1, rfl, rfl⟩
  | [], _ :: _, ds, n, e1, h, _ => by simp [sdsOf] at h
  | q :: r, [], ds, n, e1, h, _ => by simp [sdsOf] at h
  | q :: r, v :: vs, ds, n, e1, h, hn => by
    simp only [sdsOf] at h
    split at h
    · rename_i d ds' hd hds
      simp only [Option.some.injEq] at h
      subst h
      have hn0 : ∀ c ∈ natsOf q v, c.den e = true := fun c hc => hn c (by simp [natsL]; exact .inl hc)
      have hnr : ∀ c ∈ natsL r vs, c.den e = true := fun c hc => hn c (by
        simp only [natsL, List.zip_cons_cons, List.map_cons, List.flatten_cons, List.mem_append]
        exact .inr hc)
      have one : ∀ (k : Pk) (dv : Dat), (match k, dv with | .i, .i _ | .n, .n _ | .b, .b _ | .p, .p _ | .s, .s _ | .v, .v _ => True | _, _ => False) →
          ∃ e', UpdRel e1 ((n, k) :: (mkQ (n + 1) r).2.1) e' ∧ e' n = dv ∧ (mkQ (n + 1) r).2.2.1.map (SD.den ρ' e') = ds'.map (SD.den ρ e) ∧ SV.dens ρ' e' (mkQ (n + 1) r).1 = SV.dens ρ e vs := fun k dv hk => by
        obtain ⟨e', h1, h2, h3⟩ := head_in ρ e ρ' r vs ds' (n + 1) (upd e1 n dv) hds hnr
        refine ⟨e', .cons _ _ _ _ dv _ hk h1, ?_, h2, h3⟩
        rw [h1.old (mkQ_fits r (n + 1) (n + 1) (Nat.le_refl _)) n (by omega)]
        unfold upd; rw [if_pos rfl]
      unfold sdOf at hd
      split at hd
      · -- nat
        rename_i x
        simp only [Option.some.injEq] at hd
        subst hd
        have hx : 0 ≤ x.den e := (Sb.prop_iff e (.le (.k 0) x)).2 (hn0 _ (by simp [natsOf]))
        obtain ⟨e', h1, h2, h3, h4⟩ := one .n (.n (x.den e).toNat) trivial
        refine ⟨e', h1, ?_, ?_⟩
        · simp only [mkQ, List.map_cons, List.cons_append, List.nil_append, SD.den, Sx.den, h2, Dat.int_i, Dat.int_n, Int.toNat_natCast, h3]
        · simp only [mkQ, SV.dens, SV.den, Sx.den, h2, Dat.int_i, Dat.int_n, Int.toNat_natCast, h4]
          congr 2
          omega
      · rename_i k k' x
        split at hd
        · rename_i hk
          subst hk
          simp only [Option.some.injEq] at hd
          subst hd
          obtain ⟨e', h1, h2, h3, h4⟩ := one .i (.i (x.den e)) trivial
          refine ⟨e', h1, ?_, ?_⟩
          · simp only [mkQ, List.map_cons, List.cons_append, List.nil_append, SD.den, Sx.den, h2, Dat.int_i, Dat.int_n, Int.toNat_natCast, h3]
          · simp only [mkQ, SV.dens, SV.den, Sx.den, h2, Dat.int_i, Dat.int_n, Int.toNat_natCast, h4]
        · cases hd
      · rename_i b
        simp only [Option.some.injEq] at hd
        subst hd
        obtain ⟨e', h1, h2, h3, h4⟩ := one .b (.b (b.den e)) trivial
        refine ⟨e', h1, ?_, ?_⟩
        · simp only [mkQ, List.map_cons, List.cons_append, List.nil_append, SD.den, Sb.den, h2, Dat.bool_b, h3]
        · simp only [mkQ, SV.dens, SV.den, Sb.den, h2, Dat.bool_b, h4]
      · rename_i i
        simp only [Option.some.injEq] at hd
        subst hd
        obtain ⟨e', h1, h2, h3, h4⟩ := one .s (.s (e i).str) trivial
        refine ⟨e', h1, ?_, ?_⟩
        · simp only [mkQ, List.map_cons, List.cons_append, List.nil_append, SD.den, h2, Dat.str_s, h3]
        · simp only [mkQ, SV.dens, SV.den, h2, Dat.str_s, h4]
      · -- a slice
        rename_i i off len cap
        simp only [Option.some.injEq] at hd
        subst hd
        have hx : 0 ≤ len.den e := (Sb.prop_iff e (.le (.k 0) len)).2 (hn0 _ (by simp [natsOf]))
        have hy : 0 ≤ cap.den e := (Sb.prop_iff e (.le (.k 0) cap)).2 (hn0 _ (by simp [natsOf]))
        obtain ⟨e', h1, h2, h3⟩ := head_in ρ e ρ' r vs ds' (n + 3) (upd (upd (upd e1 n (.p ((e i).ptr.map fun a => (a.1, a.2 + (off.den e).toNat)))) (n + 1) (.n (len.den e).toNat)) (n + 2) (.n (cap.den e).toNat)) hds hnr
        have hg : ∀ j, j < n + 3 → e' j = upd (upd (upd e1 n (.p ((e i).ptr.map fun a => (a.1, a.2 + (off.den e).toNat)))) (n + 1) (.n (len.den e).toNat)) (n + 2) (.n (cap.den e).toNat) j := fun j hj => h1.old (mkQ_fits r (n + 3) (n + 3) (Nat.le_refl _)) j hj
        have g0 : e' n = .p ((e i).ptr.map fun a => (a.1, a.2 + (off.den e).toNat)) := by rw [hg n (by omega)]; simp [upd]
        have g1 : e' (n + 1) = .n (len.den e).toNat := by rw [hg (n + 1) (by omega)]; simp [upd]
        have g2 : e' (n + 2) = .n (cap.den e).toNat := by rw [hg (n + 2) (by omega)]; simp [upd]
        refine ⟨e', .cons _ _ _ _ (.p _) _ trivial (.cons _ _ _ _ (.n _) _ trivial (.cons _ _ _ _ (.n _) _ trivial h1)), ?_, ?_⟩
        · simp only [mkQ, List.map_cons, List.cons_append, List.nil_append, SD.den, Sx.den, g0, g1, g2, Dat.int_i, Dat.int_n, Dat.ptr_p, Int.toNat_natCast, h2]
          cases (e i).ptr <;> simp
        · simp only [mkQ, SV.dens, SV.den, Sx.den, g0, g1, g2, Dat.int_i, Dat.int_n, Dat.ptr_p, Int.toNat_natCast, h3]
          cases (e i).ptr <;> simp [ptrAt]
      · -- no slice
        rename_i nn cc
        simp only [Option.some.injEq] at hd
        subst hd
        obtain ⟨e', h1, h2, h3⟩ := head_in ρ e ρ' r vs ds' (n + 3) (upd (upd (upd e1 n (.p none)) (n + 1) (.n nn)) (n + 2) (.n cc)) hds hnr
        have hg : ∀ j, j < n + 3 → e' j = upd (upd (upd e1 n (.p none)) (n + 1) (.n nn)) (n + 2) (.n cc) j := fun j hj => h1.old (mkQ_fits r (n + 3) (n + 3) (Nat.le_refl _)) j hj
        have g0 : e' n = .p none := by rw [hg n (by omega)]; simp [upd]
        have g1 : e' (n + 1) = .n nn := by rw [hg (n + 1) (by omega)]; simp [upd]
        have g2 : e' (n + 2) = .n cc := by rw [hg (n + 2) (by omega)]; simp [upd]
        refine ⟨e', .cons _ _ _ _ (.p _) _ trivial (.cons _ _ _ _ (.n _) _ trivial (.cons _ _ _ _ (.n _) _ trivial h1)), ?_, ?_⟩
        · simp only [mkQ, List.map_cons, List.cons_append, List.nil_append, SD.den, Sx.den, g0, g1, g2, Dat.int_i, Dat.int_n, Dat.ptr_p, Int.toNat_natCast, h2]
          simp
        · simp only [mkQ, SV.dens, SV.den, Sx.den, g0, g1, g2, Dat.int_i, Dat.int_n, Dat.ptr_p, Int.toNat_natCast, h3]
          simp [ptrAt]
      · rename_i i off
        simp only [Option.some.injEq] at hd
        subst hd
        obtain ⟨e', h1, h2, h3, h4⟩ := one .p (.p ((e i).ptr.map fun a => (a.1, a.2 + (off.den e).toNat))) trivial
        refine ⟨e', h1, ?_, ?_⟩
        · simp only [mkQ, List.map_cons, List.cons_append, List.nil_append, SD.den, Sx.den, h2, Dat.ptr_p, h3]
          cases (e i).ptr <;> simp
        · simp only [mkQ, SV.dens, SV.den, Sx.den, h2, Dat.ptr_p, h4]
          cases (e i).ptr <;> simp [ptrAt]
      · simp only [Option.some.injEq] at hd
        subst hd
        obtain ⟨e', h1, h2, h3, h4⟩ := one .v (.v (v.den ρ e)) trivial
        refine ⟨e', h1, ?_, ?_⟩
        · simp only [mkQ, List.map_cons, List.cons_append, List.nil_append, SD.den, SV.den, h2, Dat.val_v, h3]
        · simp only [mkQ, SV.dens, SV.den, h2, Dat.val_v, h4]
      · cases hd
    · cases h
theorem sameC_ok {v w : Value} (h : sameC v w = true) : v = w := by
  unfold sameC at h
  split at h <;> simp_all
mutual
theorem same_ok (ρ : Nat → Nat) (e : Env) : ∀ (a b : SV), SV.same a b = true → a.den ρ e = b.den ρ e
  | .undef, b, h => by cases b <;> simp [SV.same] at h <;> rfl
  | .int k x, b, h => by cases b <;> simp [SV.same] at h; obtain ⟨rfl, rfl⟩ := h; rfl
  | .bool x, b, h => by cases b <;> simp [SV.same] at h; subst h; rfl
  | .str x, b, h => by cases b <;> simp [SV.same] at h; subst h; rfl
  | .o x, b, h => by cases b <;> simp [SV.same] at h; subst h; rfl
  | .ptrK k x, b, h => by cases b <;> simp [SV.same] at h; obtain ⟨rfl, rfl⟩ := h; rfl
  | .ptrO k x, b, h => by cases b <;> simp [SV.same] at h; obtain ⟨rfl, rfl⟩ := h; rfl
  | .slK k x y z, b, h => by cases b <;> simp [SV.same] at h; obtain ⟨⟨⟨rfl, rfl⟩, rfl⟩, rfl⟩ := h; rfl
  | .slO k x y z, b, h => by cases b <;> simp [SV.same] at h; obtain ⟨⟨⟨rfl, rfl⟩, rfl⟩, rfl⟩ := h; rfl
  | .agg l, b, h => by cases b <;> simp [SV.same] at h; simp only [SV.den, sames_ok ρ e l _ h]
  | .tup l, b, h => by cases b <;> simp [SV.same] at h; simp only [SV.den, sames_ok ρ e l _ h]
  | .func f l m, b, h => by cases b <;> simp [SV.same] at h; obtain ⟨⟨rfl, h1⟩, h2⟩ := h; simp only [SV.den, sames_ok ρ e l _ h1, sames_ok ρ e m _ h2]
  | .c v, b, h => by
    cases b <;> simp [SV.same] at h
    simp only [SV.den, sameC_ok h]
theorem sames_ok (ρ : Nat → Nat) (e : Env) : ∀ (a b : List SV), SV.sames a b = true → SV.dens ρ e a = SV.dens ρ e b
  | [], b, h => by cases b <;> simp [SV.sames] at h; rfl
  | x :: l, b, h => by
    cases b with
    | nil => simp [SV.sames] at h
    | cons y m =>
      simp only [SV.sames, Bool.and_eq_true] at h
      simp only [SV.dens, same_ok ρ e x y h.1, sames_ok ρ e l m h.2]
end
theorem sameTms_get : ∀ {A B : List (Option SV)}, sameTms A B = true → A.length = B.length ∧ ∀ {t : Nat} {v : SV}, A[t]? = some (some v) → ∃ w, B[t]? = some (some w) ∧ SV.same v w = true
  | [], [], _ => ⟨rfl, fun h => by simp at h⟩
  | [], _ :: _, h => by simp [sameTms] at h
  | none :: r, [], h => by simp [sameTms] at h
  | some _ :: r, [], h => by simp [sameTms] at h
  | none :: r, q :: s, h => by
    simp only [sameTms] at h
    obtain ⟨h1, h2⟩ := sameTms_get h
    refine ⟨by simp [h1], fun {t v} ht => ?_⟩
    cases t with
    | zero => simp at ht
    | succ t => simpa using h2 (by simpa using ht)
  | some u :: r, none :: s, h => by simp [sameTms] at h
  | some u :: r, some w :: s, h => by
    simp only [sameTms, Bool.and_eq_true] at h
    obtain ⟨h1, h2⟩ := sameTms_get h.2
    refine ⟨by simp [h1], fun {t v} ht => ?_⟩
    cases t with
    | zero => simp at ht; subst ht; exact ⟨w, by simp, h.1⟩
    | succ t => simpa using h2 (by simpa using ht)
theorem keptObjs_get {bk : List Nat} : ∀ {A B : List (Option SObj)} {n : Nat}, keptObjs bk n A B = true → ∀ {t : Nat} {v : SObj}, A[t]? = some (some v) → ∃ w, B[t]? = some (some w) ∧ v.ty = w.ty ∧ (n + t ∈ bk ∨ SV.sames v.cs w.cs = true)
  | [], _, _, _, t, v, ht => by simp at ht
  | none :: r, [], _, h, _, _, _ => by simp [keptObjs] at h
  | some _ :: r, [], _, h, _, _, _ => by simp [keptObjs] at h
  | none :: r, q :: s, n, h, t, v, ht => by
    simp only [keptObjs] at h
    cases t with
    | zero => simp at ht
    | succ t =>
      obtain ⟨w, h1, h2, h3⟩ := keptObjs_get h (by simpa using ht)
      exact ⟨w, by simpa using h1, h2, by rw [show n + (t + 1) = n + 1 + t by omega]; exact h3⟩
  | some u :: r, none :: s, _, h, t, v, ht => by simp [keptObjs] at h
  | some u :: r, some w :: s, n, h, t, v, ht => by
    simp only [keptObjs, Bool.and_eq_true, decide_eq_true_eq, Bool.or_eq_true, List.contains_iff_mem] at h
    cases t with
    | zero => simp at ht; subst ht; exact ⟨w, by simp, h.1.1, h.1.2⟩
    | succ t =>
      obtain ⟨w, h1, h2, h3⟩ := keptObjs_get h.2 (by simpa using ht)
      exact ⟨w, by simpa using h1, h2, by rw [show n + (t + 1) = n + 1 + t by omega]; exact h3⟩
theorem forget_get : ∀ {l : List Nat} {tm : List (Option SV)}, (forget tm l).length = tm.length ∧ ∀ {t : Nat} {v : SV}, (forget tm l)[t]? = some (some v) → tm[t]? = some (some v) ∧ t ∉ l
  | [], tm => ⟨rfl, fun h => ⟨h, by simp⟩⟩
  | k :: r, tm => by
    obtain ⟨h1, h2⟩ := forget_get (l := r) (tm := tm.set k none)
    refine ⟨by rw [forget, forgetT]; rw [forget] at h1; rw [h1]; simp, fun {t v} h => ?_⟩
    obtain ⟨h3, h4⟩ := h2 h
    rw [List.getElem?_set] at h3
    split at h3
    · split at h3 <;> cases h3
    · rename_i hne
      exact ⟨h3, by simp [h4]; exact fun h => hne h.symm⟩
end Go.Proofs.Ytcnkljeniffmmaa
