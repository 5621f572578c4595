/- Tables whose every array is one's own. No conditions. Tables of one's own: a row is turned, an array of answers is turned. No conditions. -/
import Derived.Test.YtfpmcmhihhnfgaaGreatKS4
import Derived.Test.YtfpmcmhihhnfgaaGreatKA1
import Derived.Test.YtfpmcmhihhnfgaaGreatKE4
set_option linter.unusedVariables false
set_option linter.unusedSimpArgs false
namespace Go.Proofs.YtfpmcmhihhnfgaaGreat
open Go.RowKit

/-- a session, and where its answers lie -/
structure Cel where
  s : Ses
  p : Option Loc
  n : Nat
  c : Nat
  k : Option Nat
def Cel.row (a : Cel) : List Value := [vi a.s.client, vi a.s.acked, vi a.s.seen, vsl a.p a.n a.c]
def Cel.own (D : Hp) (a : Cel) : Prop := Ow D 77 2 a.p a.n a.c (a.s.kept.map Rep.row) a.k
def Apart (k j : Option Nat) : Prop := ∀ b, k = some b → j ≠ some b
theorem Apart.symm {k j : Option Nat} (h : Apart k j) : Apart j k := fun b hj hk => h b hk hj
structure OTab (D : Hp) (p : Option Loc) (n c : Nat) (es : List Cel) (g : Option Nat) : Prop where
  own : Ow D 75 4 p n c (es.map Cel.row) g
  one : ∀ a ∈ es, a.own D
  gap : ∀ a ∈ es, Apart g a.k
  two : es.Pairwise fun a b => Apart a.k b.k
theorem Cel.own.kept {D : Hp} {a : Cel} (h : a.own D) : Kept D a.p a.n a.c a.s.kept := Kept.of_ow h
theorem Cel.own.held {D : Hp} {a : Cel} (h : a.own D) : ∀ b, a.k = some b → ∃ o, D b = some o := Ow.held h
theorem Cel.own.mono' {D K : Hp} {a : Cel} (h : a.own D) (hk : ∀ b, a.k = some b → ∀ o, D b = some o → K b = some o) : a.own K := Ow.mono h hk
theorem all2_map (D : Hp) {es : List Cel} (h : ∀ a ∈ es, a.own D) : All2 (SesRow D) (es.map Cel.row) (es.map Cel.s) := by
  induction es with
  | nil => exact .nil
  | cons a l ih => exact .cons _ _ _ _ ⟨a.p, a.n, a.c, rfl, (h a (List.mem_cons_self ..)).kept⟩ (ih fun x hx => h x (List.mem_cons_of_mem _ hx))
theorem OTab.tab {D : Hp} {p : Option Loc} {n c : Nat} {es : List Cel} {g : Option Nat} (h : OTab D p n c es g) : Tab D p n c (es.map Cel.s) := ⟨h.own.2.2.1, h.own.2.2.2.1, _, h.own.rows, all2_map D h.one⟩
theorem OTab.len {D : Hp} {p : Option Loc} {n c : Nat} {es : List Cel} {g : Option Nat} (h : OTab D p n c es g) : n = es.length := by have := h.own.1; simpa using this
theorem OTab.nil (D : Hp) (p : Option Loc) : OTab D p 0 0 [] none := ⟨Ow.nil _ _ _ _, fun a h => by simp at h, fun a h => by simp at h, .nil⟩
theorem OTab.mono {D K : Hp} {p : Option Loc} {n c : Nat} {es : List Cel} {g : Option Nat} (h : OTab D p n c es g) (hk : D.le K) : OTab K p n c es g := ⟨h.own.mono fun b _ o ho => hk b o ho, fun a ha => (h.one a ha).mono' fun b _ o ho => hk b o ho, h.gap, h.two⟩
/-- the blocks of a table -/
def Foot (g : Option Nat) (es : List Cel) : Nat → Prop := fun b => g = some b ∨ ∃ a ∈ es, a.k = some b
theorem OTab.foot {D : Hp} {p : Option Loc} {n c : Nat} {es : List Cel} {g : Option Nat} (h : OTab D p n c es g) : ∀ b, Foot g es b → ∃ o, D b = some o := fun b hb => by
  rcases hb with hb | ⟨a, ha, hb⟩
  · exact h.own.held b hb
  · exact (h.one a ha).held b hb
theorem OTab.mono' {D K : Hp} {p : Option Loc} {n c : Nat} {es : List Cel} {g : Option Nat} (h : OTab D p n c es g) (hk : ∀ b, Foot g es b → ∀ o, D b = some o → K b = some o) : OTab K p n c es g := ⟨h.own.mono fun b hb => hk b (.inl hb), fun a ha => (h.one a ha).mono' fun b hb => hk b (.inr ⟨a, ha, hb⟩), h.gap, h.two⟩
/-- where the table's own array is turned -/
theorem OTab.upd {W1 W2 : World} {H H' : Hp} {p' : Option Loc} {n' c' : Nat} {es' : List Cel} {g g' : Option Nat} (hH : H.le (hpOf W1)) (hu : Upd g W1 W2 H H') (one : ∀ a ∈ es', a.own H) (gap : ∀ a ∈ es', Apart g a.k) (two : es'.Pairwise fun a b => Apart a.k b.k)
    (ho' : Ow H' 75 4 p' n' c' (es'.map Cel.row) g') (hg' : g' = g ∨ ∀ b, g' = some b → W1.heap.size ≤ b) : OTab H' p' n' c' es' g' := by
  refine ⟨ho', fun a ha => (one a ha).mono' fun b hb o ho => ?_, fun a ha => ?_, two⟩
  · have h1 := heap_lt (hH b o ho)
    rw [hu.same b h1 (fun h => gap a ha b h hb)]
    exact ho
  · rcases hg' with rfl | h
    · exact gap a ha
    · intro b hb hk
      obtain ⟨o, ho⟩ := (one a ha).held b hk
      have h1 := heap_lt (hH b o ho)
      have := h b hb
      omega
theorem c_cloneR2 {H : Hp} {p : Option Loc} {n c : Nat} {l : List Rep} (hk : Kept H p n c l) (hb : n ≤ 8796093022208) : Gf Tryz.prog 82 #[vsl p n c] H fun v D => ∃ p' c' k, v = vsl p' n c' ∧ Ow D 77 2 p' n c' (l.map Rep.row) k := fun W hH => by
  refine x_cloneR p n c noM H W _ hH ?_
  intro W1 n1 _
  refine ⟨_, _, ek_nil Tryz.underlying73 _ _ p n c W1, Ext.refl _, fun h => Rt.gfn ?_, fun h b0 => ?_⟩
  · have hp : p = none := by simpa using h
    subst hp
    have hn : n = 0 := by
      rcases Nat.eq_zero_or_pos n with h0 | h0
      · exact h0
      · obtain ⟨r, _, _, hat⟩ := hk.2.2.at h0 (off := 0) (by simp)
        have := hat.isSome
        cases this
    subst hn
    have hl : l = [] := List.length_eq_zero_iff.1 hk.len.symm
    subst hl
    exact ⟨none, 0, none, rfl, Ow.nil _ _ _ _⟩
  · intro W3 n3 _
    obtain ⟨p', c', g, W', H', h1, h2, h3, h4, h5⟩ := ek_clone (P := Tryz.prog) Tryz.underlying73 infoRep (by omega) n3 (some (b0, 0)) hk.2.2 (rep_ones l) (by omega) (by simp only [maxLen]; omega) 73 (c := c)
    refine ⟨p', n, c', W', h1, H', h2, Rt.gfn ⟨p', c', g, rfl, h3.new (fun b hb => Nat.le_trans n3.mod.size (h4 b hb))⟩⟩
theorem c_own2 {H : Hp} {p : Option Loc} {n c : Nat} {l : List Ses} (hT : Tab H p n c l) (hsm : Small l) : Gf Tryz.prog 63 #[vsl p n c] H fun v D => ∃ p' c' es g, v = vsl p' n c' ∧ OTab D p' n c' es g ∧ es.map Cel.s = l := fun W hH => by
  have hbl := hT.len
  have hbk := hsm.one
  have hbn := hsm.len
  obtain ⟨_, _, rows, hr, ha⟩ := hT
  have hn : n = l.length := by rw [hr.len, ha.length]
  refine x_own p n c noM H W _ hH (Cl.fresh (c_cloneS hr (ses_ones ha) (by omega)) ?_)
  rintro v W1 W2 D ⟨p', c', g, rfl, ho⟩ hx hD hf hn1
  have hsz := hn1.mod.size
  have hg : ∀ b, g = some b → W.heap.size ≤ b := fun b hb => by
    obtain ⟨o, h⟩ := ho.held b hb
    exact Nat.le_trans hsz (hf b o h)
  have hgH : ∀ b, g = some b → H b = none := fun b hb => old_none hH (hg b hb)
  refine ⟨p', n, c', rfl, hx, D, hD, hf, fun H1 h01 hD1 => ⟨by omega, fun _ => ?_⟩⟩
  refine ⟨fun v K => match v with | [.i k] => ∃ j : Nat, k = j ∧ j ≤ n ∧ H.le K ∧ ∃ rows' es, Ow K 75 4 p' n c' rows' g ∧ rows'.take j = es.map Cel.row ∧ es.map Cel.s = l.take j ∧ (∀ a ∈ es, a.own (rest W g K)) ∧ (es.Pairwise fun a b => Apart a.k b.k) ∧ rows'.drop j = rows.drop j | _ => False,
    fun v => match v with | [.i k] => n - k.toNat | _ => 0, ⟨0, rfl, by omega, h01, rows, [], ho.mono (fun b _ o h => hD1 b o h), rfl, rfl, fun a h => by simp at h, .nil, rfl⟩, fun K k hI => ?_⟩
  obtain ⟨j, rfl, hj, hle, rows', es, ho', ht', hs', hown, htwo, hd'⟩ := hI
  have hn' : n = rows'.length := ho'.1
  refine ⟨fun hlt => ⟨⟨by omega, hlt⟩, fun _ => ?_⟩, fun hge => Rt.gfn ?_⟩
  · have hjr : j < rows.length := by rw [← hr.len]; omega
    obtain ⟨s, hs, q, m, d, hrow, hq⟩ := ha.get (List.getElem?_eq_getElem hjr)
    have hrj' : rows'[j]? = some (rows[j]) := by
      have h1 : (rows'.drop j)[0]? = (rows.drop j)[0]? := by rw [hd']
      rw [List.getElem?_drop, List.getElem?_drop] at h1
      simpa [List.getElem?_eq_getElem hjr] using h1
    rw [hrow] at hrj'
    obtain ⟨r', hr', _, hat⟩ := ho'.rows.at (k := j) (by omega) (off := 0 + (j : Int) * 4) (by omega)
    rw [hrj'] at hr'
    simp only [Option.some.injEq] at hr'
    subst hr'
    refine ⟨hat.isSome, fun _ => ⟨by omega, fun _ => ⟨q, m, d, hat.sub (by omega) (j := 3) rfl (by simp), ?_⟩⟩⟩
    have hml : m = s.kept.length := hq.len
    refine Cl.fresh (c_cloneR2 (hq.mono hle) (by rw [hml]; exact hbk s (List.mem_of_getElem? hs))) ?_
    rintro v W3 W4 D2 ⟨q', d', k', rfl, hq'⟩ hx2 hD2 hf2 hn3
    have hsz2 := hn3.mod.size
    refine ⟨q', m, d', rfl, hx2, D2, hD2, hf2, fun H3 h23 hD3 => ?_⟩
    intro W5 n5 _
    obtain ⟨ti, z, i1, i2, i3, i4, i5, i6⟩ := info_of (show infoIs Tryz.prog 73 1 24 = true by kernel_rfl)
    have ho3 : Ow H3 75 4 p' n c' rows' g := ho'.mono (fun b _ o h => h23 b o h)
    obtain ⟨W6, H4, hrun, hu, ho4⟩ := ek_store (P := Tryz.prog) (t := 73) i1 n5.sub ho3 (i := j) (j := 3) (vs := [vsl q' m d']) (v := vsl q' m d') hrj' rfl i3 (by simp) (by simp) (fun u hu => by simp only [List.mem_singleton] at hu; subst hu; rfl) (off := 0 + (j : Int) * 4 + 3) (by omega)
    have hlt2 : l.take (j + 1) = l.take j ++ [s] := by
      rw [List.take_succ_eq_append_getElem (by omega), (List.getElem?_eq_some_iff.1 hs).2]
    have hr3 : (rest W g K).le (rest W g H4) := Hp.le_trans (rest_mono W g h23) (rest_upd W hu n5.sub)
    have hnew : ∀ b, k' = some b → W3.heap.size ≤ b := fun b hb => by
      obtain ⟨o, h⟩ := hq'.held b hb
      exact hf2 b o h
    have hkeep : D2.le (rest W g H4) := by
      refine Hp.le_trans (le_rest (W := W) (g := g) hD3 (fun b o hb => Nat.le_trans hsz2 (hf2 b o hb)) (fun b hb => ?_)) (rest_upd W hu n5.sub)
      cases hh : D2 b with
      | none => rfl
      | some o =>
        have h1 := hf2 b o hh
        have h2 := ho'.lt hn3.sub b hb
        omega
    refine ⟨W6, hrun, H4, hu.turned (fun b hb => ⟨ho3.held b hb, .inl (hg b hb)⟩), in64 (by omega), fun _ => ⟨⟨j + 1, by omega, by omega, ?_, _, es ++ [⟨s, q', m, d', k'⟩], ho4, ?_, ?_, ?_, ?_, ?_⟩, by simp only; omega⟩⟩
    · exact hu.keep n5.sub (Hp.le_trans hle h23) hgH
    · rw [List.take_succ_eq_append_getElem (by simp; omega), List.map_append, ← ht']
      simp [List.take_set_of_le, segRow, Cel.row]
    · rw [List.map_append, hs', hlt2]; rfl
    · intro a ha
      rcases List.mem_append.1 ha with ha | ha
      · exact (hown a ha).mono' fun b _ o h => hr3 b o h
      · simp only [List.mem_singleton] at ha
        subst ha
        exact Ow.mono hq' fun b _ o h => hkeep b o h
    · rw [List.pairwise_append]
      refine ⟨htwo, List.pairwise_singleton .., fun a ha b hb => ?_⟩
      simp only [List.mem_singleton] at hb
      subst hb
      intro x hx hx2
      obtain ⟨o, h⟩ := (hown a ha).held x hx
      have h1 := heap_lt (hn3.sub x o (rest_le W g K x o h))
      have := hnew x hx2
      omega
    · rw [List.drop_set_of_lt (by omega)]
      have : rows'.drop (j + 1) = (rows'.drop j).drop 1 := by rw [List.drop_drop]
      rw [this, hd', List.drop_drop]
  · have hjn : j = n := by omega
    subst hjn
    rw [List.take_of_length_le (by omega)] at ht' hs'
    have hgr := rest_g W (g := g) K
    refine ⟨p', c', es, g, rfl, ⟨ht' ▸ ho'.new hg, fun a ha => (hown a ha).mono' fun b _ o h => rest_newer W g K b o h, fun a ha b hb hk => ?_, htwo⟩, hs'⟩
    obtain ⟨o, h⟩ := (hown a ha).held b hk
    rw [hgr b hb] at h; cases h
/-- rows of a table whose sessions tell where they lie -/
def OfCel (es : List Cel) (row : List Value) (s : Ses) : Prop := ∃ a ∈ es, row = a.row ∧ a.s = s
theorem OfCel.shaped (es : List Cel) : Shaped (OfCel es) := fun _ _ ⟨a, _, h, h2⟩ => by subst h2; exact ⟨a.p, a.n, a.c, h⟩
theorem ofcel_self {es : List Cel} : ∀ {fs : List Cel}, (∀ a ∈ fs, a ∈ es) → All2 (OfCel es) (fs.map Cel.row) (fs.map Cel.s)
  | [], _ => .nil
  | a :: l, h => .cons _ _ _ _ ⟨a, h a (List.mem_cons_self ..), rfl, rfl⟩ (ofcel_self fun x hx => h x (List.mem_cons_of_mem _ hx))
theorem ofcel_eq {es : List Cel} (hi : ∀ a ∈ es, ∀ b ∈ es, a.s = b.s → a = b) : ∀ {fs : List Cel} {rows : List (List Value)}, (∀ a ∈ fs, a ∈ es) → All2 (OfCel es) rows (fs.map Cel.s) → rows = fs.map Cel.row
  | [], _, _, .nil => rfl
  | a :: _, _, h, .cons r _ rs _ ⟨x, hx, h1, h2⟩ t => by
    have : x = a := hi x hx a (h a (List.mem_cons_self ..)) h2
    subst this
    rw [List.map_cons, h1, ofcel_eq hi (fun y hy => h y (List.mem_cons_of_mem _ hy)) t]
theorem inc_inj {es : List Cel} (h : Inc (es.map Cel.s)) : ∀ a ∈ es, ∀ b ∈ es, a.s = b.s → a = b := by
  have h' : es.Pairwise fun a b => a.s.client < b.s.client := by
    rw [Inc, List.pairwise_map] at h
    exact h
  clear h
  induction es with
  | nil => intro a ha; simp at ha
  | cons x l ih =>
    rw [List.pairwise_cons] at h'
    intro a ha b hb he
    rcases List.mem_cons.1 ha with h1 | h1 <;> rcases List.mem_cons.1 hb with h2 | h2
    · rw [h1, h2]
    · subst h1; have := h'.1 b h2; rw [he] at this; omega
    · subst h2; have := h'.1 a h1; rw [he] at this; omega
    · exact ih h'.2 a h1 b h2 he
theorem map_filter (f : Ses → Bool) (es : List Cel) : (es.filter fun a => f a.s).map Cel.s = (es.map Cel.s).filter f := by
  induction es with
  | nil => rfl
  | cons a l ih =>
    simp only [List.filter_cons, List.map_cons]
    split
    · rw [List.map_cons, ih]
    · exact ih
theorem c_left2 {H : Hp} {p : Option Loc} {n c : Nat} {l : List Ses} (hT : Tab H p n c l) (hs : Small l) (hi : Inc l) {clock : Int} (h20 : -4611686018427387904 ≤ clock ∧ clock ≤ 4611686018427387904) :
    Gf Tryz.prog 85 #[vsl p n c, vi clock] H fun v D => ∃ p' n' c' es g, v = vsl p' n' c' ∧ OTab D p' n' c' es g ∧ es.map Cel.s = freshT l clock := fun W hH => by
  have hn := hT.len
  refine x_left p n c clock noM H W _ hH fun b0 => ?_
  refine Cl.fresh (c_own2 hT hs) ?_
  rintro v W1 W2 D ⟨p', c', es, g, rfl, hO, hes⟩ hx hD hf n1
  refine ⟨p', n, c', rfl, hx, D, hD, hf, fun H1 h01 hD1 => ?_⟩
  have hO1 := hO.mono hD1
  have ho1 := hO1.own
  have hnew : ∀ b, Foot g es b → W.heap.size ≤ b := fun b hb => by
    obtain ⟨o, h⟩ := hO.foot b hb
    exact Nat.le_trans n1.mod.size (hf b o h)
  have hc := fun hb0 : H1 b0 = none => c_delF (H := addH H1 b0 (.cells #[vi clock] 3 (0, 0))) (g := g) (q := some (b0, 0)) (p := p') (n := n) (c := c') (R := OfCel es) (clock := clock) (l := es.map Cel.s) ⟨b0, 0, rfl, #[vi clock], 3, (0, 0), by
      unfold but
      rw [if_neg (fun h => by
        obtain ⟨o, h2⟩ := ho1.held b0 h
        rw [hb0] at h2; cases h2)]
      exact addH_at .., fun j hj => by
        have : j = 0 := by simpa using hj
        subst this; exact ⟨rfl, unfz0 _⟩⟩ h20 (OfCel.shaped es) (ho1.mono fun b _ o h => le_addH hb0 b o h) (ofcel_self fun a ha => ha) (by rw [hn]; exact hs.len)
  refine Cl.turnK (g := g) (b := b0) (o := .cells #[vi clock] 3 (0, 0)) (fun _ k => k.1) hc ?_
  · rintro v W3 W4 H' g' ⟨n', rows', rfl, ho', ha'⟩ hu hg' n3 hb0 hlt
    have hgb : g' ≠ some b0 := fun h => by
      rcases hg' with h1 | h1
      · obtain ⟨o, h2⟩ := ho1.held b0 (h1 ▸ h)
        rw [hb0] at h2; cases h2
      · have := h1 b0 h; omega
    have ho2 := less_ow ho' hgb
    rw [← map_filter] at ha'
    have hrow := ofcel_eq (inc_inj (by rw [hes]; exact hi)) (fun a ha => (List.mem_filter.1 ha).1) ha'
    subst hrow
    have hO2 := OTab.upd n3.sub hu (es' := es.filter fun a => !old clock a.s) (fun a ha => hO1.one a (List.mem_filter.1 ha).1) (fun a ha => hO1.gap a (List.mem_filter.1 ha).1) (hO1.two.filter _) ho2 hg'
    refine ⟨p', n', c', rfl, less b0 H', hu.own ho1 (fun b hb => .inl (hnew b (.inl hb))), Rt.gfn ⟨p', n', c', _, g', rfl, hO2.mono' fun b hb o ho => ?_, ?_⟩⟩
    · rw [newer_at]
      · exact ho
      · rcases hb with hb | ⟨a, ha, hb⟩
        · rcases hg' with h1 | h1
          · exact hnew b (.inl (h1 ▸ hb))
          · exact Nat.le_trans n3.mod.size (h1 b hb)
        · exact hnew b (.inr ⟨a, (List.mem_filter.1 ha).1, hb⟩)
    · rw [map_filter (fun s => !old clock s), hes, fresh_old]
end Go.Proofs.YtfpmcmhihhnfgaaGreat
namespace Go.Proofs.YtfpmcmhihhnfgaaGreat
open Go.RowKit

/-- a table, but for the answers at i -/
structure OTabX (D : Hp) (p : Option Loc) (n c : Nat) (es : List Cel) (g : Option Nat) (i : Nat) : Prop where
  own : Ow D 75 4 p n c (es.map Cel.row) g
  one : ∀ (j : Nat) a, es[j]? = some a → j ≠ i → a.own D
  gap : ∀ (j : Nat) a, es[j]? = some a → j ≠ i → Apart g a.k
  two : ∀ (j l : Nat) a b, es[j]? = some a → es[l]? = some b → j ≠ l → j ≠ i → l ≠ i → Apart a.k b.k
theorem pair_get {es : List Cel} (h : es.Pairwise fun a b => Apart a.k b.k) {j l : Nat} {a b : Cel} (hj : es[j]? = some a) (hl : es[l]? = some b) (hne : j ≠ l) : Apart a.k b.k := by
  obtain ⟨j1, j2⟩ := List.getElem?_eq_some_iff.1 hj
  obtain ⟨l1, l2⟩ := List.getElem?_eq_some_iff.1 hl
  rw [List.pairwise_iff_getElem] at h
  rcases Nat.lt_or_gt_of_ne hne with h1 | h1
  · have := h j l j1 l1 h1; rw [j2, l2] at this; exact this
  · have := h l j l1 j1 h1; rw [j2, l2] at this; exact this.symm
theorem pair_of {es : List Cel} (h : ∀ (j l : Nat) a b, es[j]? = some a → es[l]? = some b → j ≠ l → Apart a.k b.k) : es.Pairwise fun a b => Apart a.k b.k := by
  rw [List.pairwise_iff_getElem]
  intro j l hj hl hlt
  exact h j l _ _ (List.getElem?_eq_getElem hj) (List.getElem?_eq_getElem hl) (by omega)
theorem OTab.x {D : Hp} {p : Option Loc} {n c : Nat} {es : List Cel} {g : Option Nat} (h : OTab D p n c es g) (i : Nat) : OTabX D p n c es g i :=
  ⟨h.own, fun _ a ha _ => h.one a (List.mem_of_getElem? ha), fun _ a ha _ => h.gap a (List.mem_of_getElem? ha), fun _ _ _ _ hj hl hne _ _ => pair_get h.two hj hl hne⟩
theorem cells4 {D : Hp} {p : Option Loc} {n c : Nat} {es : List Cel} {g : Option Nat} (ho : Ow D 75 4 p n c (es.map Cel.row) g) {i : Nat} {a : Cel} (hi : es[i]? = some a) {off : Int} (h : off = (i : Int) * 4) :
    RowAt D p off a.row ∧ RowAt D p (off + 1) [vi a.s.acked] ∧ RowAt D p (off + 2) [vi a.s.seen] ∧ RowAt D p (off + 3) [vsl a.p a.n a.c] := by
  have hlt := (List.getElem?_eq_some_iff.1 hi).1
  have hn := ho.1
  rw [List.length_map] at hn
  obtain ⟨r, h1, _, h2⟩ := ho.rows.at (k := i) (by omega) (off := off) (by omega)
  rw [List.getElem?_map, hi] at h1
  simp only [Option.map_some, Option.some.injEq] at h1
  subst h1
  exact ⟨h2, h2.sub (by omega) (j := 1) rfl (by simp), h2.sub (by omega) (j := 2) rfl (by simp), h2.sub (by omega) (j := 3) rfl (by simp)⟩
theorem RowAt.shift {H : Hp} {p : Option Loc} {off : Int} {cs : List Value} {j : Int} (h : RowAt H p (off + j) cs) (h0 : 0 ≤ off) (hj : 0 ≤ j) : RowAt H (shiftP p off.toNat) j cs := by
  obtain ⟨b, o, h1, C, T, fz, h2, h3⟩ := h
  refine ⟨b, o + off.toNat, by rw [h1]; exact congrArg some (shift_at ..), C, T, fz, h2, fun k hk => ?_⟩
  have e : o + off.toNat + j.toNat + k = o + (off + j).toNat + k := by omega
  rw [e]
  exact h3 k hk
theorem row_ones (a : Cel) : ∀ v ∈ a.row, v.oneCell' = true := fun v hv => by
  simp only [Cel.row, List.mem_cons, List.not_mem_nil, or_false] at hv
  rcases hv with rfl | rfl | rfl | rfl <;> rfl
/-- a cell of the row at i is written -/
theorem OTabX.store {W : World} {H : Hp} {p : Option Loc} {n c : Nat} {es : List Cel} {g : Option Nat} {i : Nat} (hT : OTabX H p n c es g i) (hH : H.le (hpOf W)) {a a' : Cel} (hi : es[i]? = some a) {t j : Nat} {ti : TypeInfo} (hti : Tryz.prog.info? t = some ti) (hs : ti.size = 1) {v : Value} (hv : v.cells = #[v]) (hv1 : v.oneCell' = true) (hj : j < 4) (hrow : segRow a.row j [v] = a'.row)
    (hown : a'.own H) (hgap : Apart g a'.k) (htwo : ∀ (l : Nat) b, es[l]? = some b → l ≠ i → Apart a'.k b.k) {off : Int} (hoff : off = (i : Int) * 4 + j) :
    ∃ W' H', (EK.sem (.storeO t) [.pointer (ptrAt p off), v]).run Tryz.prog W = .ok .skip W' ∧ Upd g W W' H H' ∧ OTab H' p n c (es.set i a') g := by
  have hr : (es.map Cel.row)[i]? = some a.row := by rw [List.getElem?_map, hi]; rfl
  obtain ⟨W', H', h1, h2, h3⟩ := ek_store (P := Tryz.prog) hti hH hT.own hr (j := j) (vs := [v]) (v := v) (by simpa using hv) (by simpa using hs) (by simp; omega) (by simp) (fun u hu => by simp only [List.mem_singleton] at hu; subst hu; exact hv1) (off := off) (by omega)
  rw [hrow, ← List.map_set] at h3
  have key : ∀ (l : Nat) b, (es.set i a')[l]? = some b → (l = i ∧ b = a') ∨ (l ≠ i ∧ es[l]? = some b) := fun l b hb => by
    by_cases hl : i = l
    · subst hl
      have hlt := (List.getElem?_eq_some_iff.1 hi).1
      rw [List.getElem?_set_self hlt] at hb
      exact .inl ⟨rfl, by simpa using hb.symm⟩
    · rw [List.getElem?_set_ne hl] at hb
      exact .inr ⟨fun h => hl h.symm, hb⟩
  refine ⟨W', H', h1, h2, OTab.upd hH h2 (fun b hb => ?_) (fun b hb => ?_) (pair_of fun l m b d hb hd hne => ?_) h3 (.inl rfl)⟩
  · obtain ⟨l, hl⟩ := List.mem_iff_getElem?.1 hb
    rcases key l b hl with ⟨_, rfl⟩ | ⟨h4, h5⟩
    · exact hown
    · exact hT.one l b h5 h4
  · obtain ⟨l, hl⟩ := List.mem_iff_getElem?.1 hb
    rcases key l b hl with ⟨_, rfl⟩ | ⟨h4, h5⟩
    · exact hgap
    · exact hT.gap l b h5 h4
  · rcases key l b hb with ⟨h4, rfl⟩ | ⟨h4, h5⟩ <;> rcases key m d hd with ⟨h6, rfl⟩ | ⟨h6, h7⟩
    · omega
    · exact htwo m d h7 h6
    · exact (htwo l b h5 h4).symm
    · exact hT.two l m b d h5 h7 hne h4 h6
/-- the answers at i are turned -/
theorem OTab.turnK {W1 W2 : World} {H H' : Hp} {p : Option Loc} {n c : Nat} {es : List Cel} {g : Option Nat} (hT : OTab H p n c es g) (hH : H.le (hpOf W1)) {i : Nat} {a : Cel} (hi : es[i]? = some a) (hu : Upd a.k W1 W2 H H') {k' : Option Nat} (hk' : k' = a.k ∨ ∀ b, k' = some b → W1.heap.size ≤ b) :
    OTabX H' p n c es g i ∧ Apart g k' ∧ ∀ (l : Nat) b, es[l]? = some b → l ≠ i → Apart k' b.k := by
  have ha := List.mem_of_getElem? hi
  refine ⟨⟨hT.own.mono fun b hb o ho => ?_, fun j x hx hj => (hT.one x (List.mem_of_getElem? hx)).mono' fun b hb o ho => ?_, fun j x hx _ => hT.gap x (List.mem_of_getElem? hx), fun j l x y hx hy hne _ _ => pair_get hT.two hx hy hne⟩, fun b hb hk => ?_, fun l x hx hl b hb hk => ?_⟩
  · rw [hu.same b (heap_lt (hH b o ho)) (fun h => hT.gap a ha b hb h)]; exact ho
  · rw [hu.same b (heap_lt (hH b o ho)) (fun h => pair_get hT.two hx hi hj b hb h)]; exact ho
  · rcases hk' with rfl | h
    · exact hT.gap a ha b hb hk
    · have := h b hk
      have := hT.own.lt hH b hb
      omega
  · rcases hk' with rfl | h
    · exact pair_get hT.two hi hx (fun h => hl h.symm) b hb hk
    · have := h b hb
      obtain ⟨o, ho⟩ := (hT.one x (List.mem_of_getElem? hx)).held b hk
      have := heap_lt (hH b o ho)
      omega
theorem set_put {l : List Ses} (h : Inc l) {s : Ses} (hh : hasT l s.client = true) : l.set (posT l s.client) s = putT l s := by
  obtain ⟨i1, i2, _, _, _⟩ := split_at s.client l h
  rw [hh] at i2
  simp only [if_true] at i2
  rw [List.set_eq_take_append_cons_drop, if_pos (pos_lt h hh), i1, i2]
  rfl
theorem get_pos {es : List Cel} {c : Int} (h : Inc (es.map Cel.s)) (hh : hasT (es.map Cel.s) c = true) : ∃ a, es[posT (es.map Cel.s) c]? = some a ∧ a.s = findT (es.map Cel.s) c ∧ a.s.client = c := by
  obtain ⟨_, _, i3, _, _⟩ := split_at c _ h
  obtain ⟨s, h1, h2, h3⟩ := i3 hh
  rw [List.getElem?_map, Option.map_eq_some_iff] at h1
  obtain ⟨a, h4, rfl⟩ := h1
  exact ⟨a, h4, h3.symm, h2⟩
end Go.Proofs.YtfpmcmhihhnfgaaGreat
