/- Contracts: what opens, what calls. No conditions. Contract: a call of a session. No conditions. Contract: an entry is applied. No conditions. -/
import Derived.Test.YtfpmcmhihhnfgaaGreatKI1
import Derived.Test.YtfpmcmhihhnfgaaGreatKA3
import Derived.Test.YtfpmcmhihhnfgaaGreatKA2
import Derived.Test.YtfpmcmhihhnfgaaGreatKO2
import Derived.Test.YtfpmcmhihhnfgaaGreatKT1
set_option linter.unusedVariables false
set_option linter.unusedSimpArgs false
namespace Go.Proofs.YtfpmcmhihhnfgaaGreat
open Go.RowKit

abbrev POp.vals' (x : POp) : Value := .agg #[vi x.kind, vi x.key, vi x.to, vi x.n]
theorem c_turn (x : POp) {v : V4} (hx : x.err = 0) (hv : v.ok = true) (H : Hp) : Gv Tryz.prog 101 #[.agg #[vi v.a, vi v.b, vi v.c, vi v.d], x.vals'] H (.tuple #[.agg #[vi (x.turn v).1.a, vi (x.turn v).1.b, vi (x.turn v).1.c, vi (x.turn v).1.d], vi (x.turn v).2]) := fun W _ => op_turn v x.kind x.key x.to x.n W hx hv
abbrev Sta.cells (s : Sta) (v : Value) : Array Value := #[vi s.pos, vi s.clock, vi s.vals.a, vi s.vals.b, vi s.vals.c, vi s.vals.d, v]
abbrev mcells (b1 : Nat) (d : Bool) : Array Value := #[.pointer (some ⟨b1, 0, none⟩), vb d]
/-- what comes of a machine's turn -/
def MPost (H : Hp) (F : Nat → Prop) (b1 : Nat) (r : Sta × Int × Bool) (v : Value) (D0 D1 : Array Value) (H' : Hp) : Prop :=
  ∃ p n c es g, v = vi r.2.1 ∧ D0 = mcells b1 r.2.2 ∧ D1 = r.1.cells (vsl p n c) ∧ OTab H' p n c es g ∧ es.map Cel.s = r.1.table ∧ ∀ b, Foot g es b → F b ∨ H b = none
theorem Rt.mp {W0 : World} {Mb : Nat → Prop} {b0 b1 : Nat} {H K : Hp} {kn : World → Prop} {T0 T1 : Nat} {r r' : Sta × Int × Bool} {p : Option Loc} {n c : Nat} {es : List Cel} {g : Option Nat} (hr : r' = r) (hH : H.le (hpOf W0)) (h0 : H b0 = none) (h1 : H b1 = none) (hMb : ∀ b, Mb b → ∃ o, H b = some o)
    (hkn : ∀ W, kn W → W.heap[b0]? = some (.cells (mcells b1 r.2.2) T0 (0, 0)) ∧ W.heap[b1]? = some (.cells (r.1.cells (vsl p n c)) T1 (0, 0))) (hT : OTab K p n c es g) (he : es.map Cel.s = r.1.table) (hf : ∀ b, Foot g es b → Mb b ∨ W0.heap.size ≤ b) :
    Rt (fun z W' => ∃ v D0 D1 H', z = .returned v ∧ W'.heap[b0]? = some (.cells D0 T0 (0, 0)) ∧ W'.heap[b1]? = some (.cells D1 T1 (0, 0)) ∧
      Mod (fun b => b = b0 ∨ b = b1 ∨ Mb b) W0 W' ∧ H'.le (hpOf W') ∧ (∀ b o, H' b = some o → (∃ o', H b = some o') ∨ W0.heap.size ≤ b) ∧ MPost H Mb b1 r' v D0 D1 H') W0 (fun b => b = b0 ∨ b = b1 ∨ Mb b) K kn (vi r.2.1) := by
  subst hr
  refine Rt.gb hH h0 h1 hMb hkn ⟨p, n, c, es, g, rfl, rfl, rfl, hT.mono' fun b hb o ho => ?_, he, fun b hb => (hf b hb).imp id fun h => old_none hH h⟩
  unfold mergeM
  rw [if_neg (fun hh => ?_)]
  · exact ho
  · rcases hf b hb with h | h
    · exact hh.2 h
    · omega
/-- an Open -/
def Sta.opens (t : Sta) (x : Int) : Sta × Int × Bool :=
  if hasT t.table x = true then ({ t with table := putT t.table { findT t.table x with seen := t.clock } }, 0, false)
  else if t.table.length = 3 then (t, -2, false)
  else ({ t with table := putT t.table ⟨x, 0, t.clock, []⟩ }, 0, false)
theorem infoReps : infoIs Tryz.prog 73 1 24 = true := by kernel_rfl
theorem foot_set {g : Option Nat} {es : List Cel} {i : Nat} {a a' : Cel} {S : Nat} (ha : es[i]? = some a) (hk : a'.k = a.k ∨ ∀ b, a'.k = some b → S ≤ b) : ∀ b, Foot g (es.set i a') b → Foot g es b ∨ S ≤ b := fun b hb => by
  rcases hb with hb | ⟨x, hx, hb⟩
  · exact .inl (.inl hb)
  · rcases List.mem_or_eq_of_mem_set hx with hx | rfl
    · exact .inl (.inr ⟨x, hx, hb⟩)
    · rcases hk with hk | hk
      · exact .inl (.inr ⟨a, List.mem_of_getElem? ha, hk ▸ hb⟩)
      · exact .inr (hk b hb)
set_option maxHeartbeats 1000000 in
theorem c_mopen {H : Hp} {p : Option Loc} {n c : Nat} {es : List Cel} {g : Option Nat} (hT : OTab H p n c es g) {t : Sta} (ht : es.map Cel.s = t.table) (hi : Inc t.table) (hn3 : n ≤ 3) (x : Int) (b0 b1 : Nat) :
    Gb Tryz.prog 87 #[.pointer (some ⟨b0, 0, none⟩), vi (posT t.table x), vb (hasT t.table x), vi x] H (Foot g es) b0 b1 (mcells b1 false) 109 (t.cells (vsl p n c)) 25 (MPost H (Foot g es) b1 (t.opens x)) := fun W hH e0 e1 hne h0 h1 => by
  have hlen : n = t.table.length := by rw [← ht, hT.len]; simp
  refine x_mopen (posT t.table x) (hasT t.table x) x false t.pos t.clock t.vals.a t.vals.b t.vals.c t.vals.d p n c b0 b1 (fun b => b = b0 ∨ b = b1 ∨ Foot g es b) H W _ hH hne ⟨e0, .inl rfl, h0⟩ ⟨e1, .inr (.inl rfl), h1⟩ ⟨fun hh => ?_, fun hh => ⟨by omega, fun _ => ⟨fun hl => ?_, fun hl b2 => ?_⟩⟩⟩
  · obtain ⟨a, ha, has, hac⟩ := get_pos (c := x) (by rw [ht]; exact hi) (by rw [ht]; exact hh)
    rw [ht] at ha has
    have hlt := pos_lt hi hh
    have hc4 := cells4 hT.own ha (off := 0 + (posT t.table x : Int) * 4) (by omega)
    refine ⟨⟨by omega, by omega⟩, fun _ => ⟨hc4.1.isSome, fun _ => ⟨by omega, fun _ => ?_⟩⟩⟩
    intro W1 n1 _
    obtain ⟨ti, z, i1, i2, i3, i4, i5, i6⟩ := info_of infoInt
    have ham := List.mem_of_getElem? ha
    obtain ⟨W2, H1, hrun, hu, hT1⟩ := (hT.x (posT t.table x)).store n1.sub ha (t := 3) (j := 2) (v := vi t.clock) (a' := ⟨{ a.s with seen := t.clock }, a.p, a.n, a.c, a.k⟩) i1 i3 rfl rfl (by omega) rfl (hT.one a ham) (hT.gap a ham) (fun l b hb hl => show Apart a.k b.k from pair_get hT.two ha hb (fun h => hl h.symm)) (off := 0 + (posT t.table x : Int) * 4 + 2) (by omega)
    refine ⟨W2, hrun, H1, hu.own hT.own (fun b hb => .inr (.inr (.inr (.inl hb)))), ?_⟩
    refine Rt.mp (r := ({ t with table := putT t.table { findT t.table x with seen := t.clock } }, 0, false)) (by unfold Sta.opens; rw [if_pos hh]) hH h0 h1 hT.foot (fun W k => ⟨k.1.eq, k.2.1.eq⟩) hT1 ?_ (foot_set ha (.inl rfl))
    · rw [List.map_set, ht]
      have := set_put hi (s := { a.s with seen := t.clock }) (by simp only [hac]; exact hh)
      simp only [hac] at this
      rw [has] at this
      have hcf : (findT t.table x).client = x := by rw [← has]; exact hac
      simp only [has, hcf]
      exact this
  · exact Rt.mp (r := (t, -2, false)) (by unfold Sta.opens; rw [if_neg hh, if_pos (by omega)]) hH h0 h1 hT.foot (fun W k => ⟨k.1.eq, k.2.1.eq⟩) hT ht (fun b hb => .inl hb)
  · have hh' : hasT t.table x = false := by simpa using hh
    have hpl := pos_le t.table x
    have hv : [vi x, vi 0, vi t.clock, Value.slice none 0 0] = (⟨⟨x, 0, t.clock, []⟩, none, 0, 0, none⟩ : Cel).row := rfl
    refine Cl.turnK (g := g) (b := b2) (o := .cells #[vi x, vi 0, vi t.clock, Value.slice none 0 0] 75 (0, 0)) (fun _ k => k.1) (fun hb2 => c_insert (hT.own.mono fun b _ o h => le_addH hb2 b o h) (i := posT t.table x) (by omega) (vb := b2) (row := [vi x, vi 0, vi t.clock, Value.slice none 0 0]) (addH_at ..) rfl (row_ones ⟨⟨x, 0, t.clock, []⟩, none, 0, 0, none⟩) (fun h => by
      obtain ⟨o, h2⟩ := hT.own.held b2 h
      rw [hb2] at h2; cases h2) (by omega)) ?_
    rintro v W1 W2 H' g' ⟨p', n', c', rfl, ho'⟩ hu hg' n1 hb2 hlt
    have hgb : g' ≠ some b2 := fun h => by
      rcases hg' with h1 | h1
      · obtain ⟨o, h2⟩ := hT.own.held b2 (h1 ▸ h)
        rw [hb2] at h2; cases h2
      · have := h1 b2 h; omega
    have ho2 := less_ow ho' hgb
    rw [hv, ← List.map_take, ← List.map_drop, ← List.map_cons, ← List.map_append] at ho2
    have htwo := hT.two
    rw [← List.take_append_drop (posT t.table x) es, List.pairwise_append] at htwo
    obtain ⟨t1, t2, t3⟩ := htwo
    have hmem : ∀ a, a ∈ es.take (posT t.table x) ++ (⟨⟨x, 0, t.clock, []⟩, none, 0, 0, none⟩ : Cel) :: es.drop (posT t.table x) → a ∈ es ∨ a = ⟨⟨x, 0, t.clock, []⟩, none, 0, 0, none⟩ := fun a ha => by
      rcases List.mem_append.1 ha with ha | ha
      · exact .inl (List.mem_of_mem_take ha)
      · rcases List.mem_cons.1 ha with ha | ha
        · exact .inr ha
        · exact .inl (List.mem_of_mem_drop ha)
    have hT2 := OTab.upd n1.sub hu (fun a ha => by
      rcases hmem a ha with ha | rfl
      · exact hT.one a ha
      · exact Ow.nil _ _ _ _) (fun a ha => by
      rcases hmem a ha with ha | rfl
      · exact hT.gap a ha
      · exact fun b _ h => by cases h) (by
      rw [List.pairwise_append, List.pairwise_cons]
      refine ⟨t1, ⟨fun b _ x hx => (by cases hx), t2⟩, fun a ha b hb => ?_⟩
      rcases List.mem_cons.1 hb with rfl | hb
      · exact fun b _ h => by cases h
      · exact t3 a ha b hb) ho2 hg'
    refine ⟨p', n', c', rfl, less b2 H', hu.own hT.own (fun b hb => .inr (.inr (.inr (.inl hb)))), ?_⟩
    refine Rt.mp (r := ({ t with table := putT t.table ⟨x, 0, t.clock, []⟩ }, 0, false)) (by unfold Sta.opens; rw [if_neg hh, if_neg (by omega)]) hH h0 h1 hT.foot (fun W k => ⟨k.1.eq, k.2.1.eq⟩) hT2 ?_ (fun b hb => ?_)
    · rw [List.map_append, List.map_cons, List.map_take, List.map_drop, ht]
      exact put_not hi (s := ⟨x, 0, t.clock, []⟩) hh'
    · rcases hb with hb | ⟨a, ha, hb⟩
      · rcases hg' with h | h
        · exact .inl (.inl (h ▸ hb))
        · exact .inr (Nat.le_trans n1.mod.size (h b hb))
      · rcases hmem a ha with ha | rfl
        · exact .inl (.inr ⟨a, ha, hb⟩)
        · cases hb
theorem ackd_filter (l : List Rep) (m : Int) : (l.filter fun s => !ackd m s) = l.filter fun r => decide (m < r.seq) := by
  congr 1
  funext r
  unfold ackd
  by_cases h : r.seq ≤ m
  · rw [decide_eq_true h, decide_eq_false (by omega)]; rfl
  · rw [decide_eq_false h, decide_eq_true (by omega)]; rfl
end Go.Proofs.YtfpmcmhihhnfgaaGreat
namespace Go.Proofs.YtfpmcmhihhnfgaaGreat
open Go.RowKit

set_option maxRecDepth 100000 in
set_option maxHeartbeats 4000000 in
theorem c_mcall {H : Hp} {p : Option Loc} {n c : Nat} {es : List Cel} {g : Option Nat} (hT : OTab H p n c es g) {t : Sta} (ht : es.map Cel.s = t.table) (hi : Inc t.table) {e : Ent} (hh : hasT t.table e.client = true) (hok : (findT t.table e.client).err = 0) (hv : t.vals.ok = true) (hop : e.op.err = 0) (hack : e.ack ≤ 60) (b0 b1 : Nat) :
    Gb Tryz.prog 89 #[.pointer (some ⟨b0, 0, none⟩), .pointer (ptrAt p (0 + (posT t.table e.client : Int) * 4)), e.val] H (Foot g es) b0 b1 (mcells b1 false) 109 (t.cells (vsl p n c)) 25 (MPost H (Foot g es) b1 (t.calls ((findT t.table e.client).ack t.clock e.ack) e)) := fun W hH e0 e1 hne h0 h1 => by
  obtain ⟨a, ha, has, hac⟩ := get_pos (c := e.client) (by rw [ht]; exact hi) (by rw [ht]; exact hh)
  rw [ht] at ha has
  generalize hi0 : posT t.table e.client = i at ha ⊢
  have hset : ∀ x : Ses, x.client = e.client → t.table.set i x = putT t.table x := fun x hx => by
    rw [← hi0, ← hx]; exact set_put hi (by rw [hx]; exact hh)
  have hxc : ((findT t.table e.client).ack t.clock e.ack).client = e.client := by rw [← has]; exact hac
  have hxi : IncK ((findT t.table e.client).ack t.clock e.ack).kept := (keptOk_iff.1 (ses_err_iff.1 hok).2.2.2).2.filter _
  have hxk : ((findT t.table e.client).ack t.clock e.ack).kept.length ≤ 3 := Nat.le_trans (List.length_filter_le _ _) (kept_len3 hok)
  have hxa : 0 ≤ ((findT t.table e.client).ack t.clock e.ack).acked ∧ ((findT t.table e.client).ack t.clock e.ack).acked ≤ 60 := by
    have := (ses_err_iff.1 hok).2.1
    simp only [Ses.ack]; omega
  rw [← has] at hxc hxi hxk hxa ⊢
  clear hok hh
  have ham := List.mem_of_getElem? ha
  have hilt := (List.getElem?_eq_some_iff.1 ha).1
  obtain ⟨ti, z, i1, i2, i3, i4, i5, i6⟩ := info_of infoInt
  obtain ⟨ui, uz, u1, u2, u3, u4, u5, u6⟩ := info_of infoReps
  have em : (if a.s.acked < e.ack then e.ack else a.s.acked) = max a.s.acked e.ack := by omega
  have hc0 := cells4 hT.own ha (off := 0 + (i : Int) * 4) (by omega)
  refine x_mcall p (0 + (i : Int) * 4) false t.pos t.clock t.vals.a t.vals.b t.vals.c t.vals.d p n c e.kind e.time e.client e.seq e.ack e.op.kind e.op.key e.op.to e.op.n b0 b1 (fun b => b = b0 ∨ b = b1 ∨ Foot g es b) H W _ hH hne ⟨e0, .inl rfl, h0⟩ ⟨e1, .inr (.inl rfl), h1⟩ fun b2 b3 => ⟨hc0.1.isSome, fun _ => ⟨by omega, fun _ => ?_⟩⟩
  intro W1 n1 _
  -- seen
  obtain ⟨W2, H1, hrun1, hu1, hT1⟩ := (hT.x i).store n1.sub ha (t := 3) (j := 2) (v := vi t.clock) (a' := ⟨{ a.s with seen := t.clock }, a.p, a.n, a.c, a.k⟩) i1 i3 rfl rfl (by omega) rfl (hT.one a ham) (hT.gap a ham) (fun l b hb hl => show Apart a.k b.k from pair_get hT.two ha hb (fun h => hl h.symm)) (off := 0 + (i : Int) * 4 + 2) (by omega)
  have ha1 : (es.set i ⟨{ a.s with seen := t.clock }, a.p, a.n, a.c, a.k⟩)[i]? = some ⟨{ a.s with seen := t.clock }, a.p, a.n, a.c, a.k⟩ := List.getElem?_set_self hilt
  have hc1 := cells4 hT1.own ha1 (off := 0 + (i : Int) * 4) (by omega)
  have hgM : ∀ b, g = some b → W.heap.size ≤ b ∨ (b = b0 ∨ b = b1 ∨ Foot g es b) := fun b hb => .inr (.inr (.inr (.inl hb)))
  refine ⟨W2, hrun1, H1, hu1.own hT.own hgM, a.s.acked, hc1.2.1, ?_⟩
  rw [em]
  intro W3 n3 _
  -- acknowledged
  have ham1 := List.mem_of_getElem? ha1
  have q1 := hT1.one _ ham1
  have q2 := hT1.gap _ ham1
  have q3 := fun (l : Nat) (b : Cel) (hb : (es.set i ⟨{ a.s with seen := t.clock }, a.p, a.n, a.c, a.k⟩)[l]? = some b) (hl : l ≠ i) => pair_get hT1.two ha1 hb (fun h => hl h.symm)
  obtain ⟨W4, H2, hrun2, hu2, hT2⟩ := (hT1.x i).store n3.sub ha1 (t := 3) (j := 1) (v := vi (max a.s.acked e.ack)) (a' := ⟨⟨a.s.client, max a.s.acked e.ack, t.clock, a.s.kept⟩, a.p, a.n, a.c, a.k⟩) i1 i3 rfl rfl (by omega) rfl q1 q2 q3 (off := 0 + (i : Int) * 4 + 1) (by omega)
  rw [List.set_set] at hT2
  have ha2 : (es.set i ⟨⟨a.s.client, max a.s.acked e.ack, t.clock, a.s.kept⟩, a.p, a.n, a.c, a.k⟩)[i]? = some ⟨⟨a.s.client, max a.s.acked e.ack, t.clock, a.s.kept⟩, a.p, a.n, a.c, a.k⟩ := List.getElem?_set_self hilt
  have ham2 := List.mem_of_getElem? ha2
  have hc2 := cells4 hT2.own ha2 (off := 0 + (i : Int) * 4) (by omega)
  refine ⟨W4, hrun2, H2, hu2.own hT1.own hgM, a.p, a.n, a.c, hc2.2.2.2, ?_⟩
  -- what is acknowledged goes
  have hkM : ∀ b, a.k = some b → W.heap.size ≤ b ∨ (b = b0 ∨ b = b1 ∨ Foot g es b) := fun b hb => .inr (.inr (.inr (.inr ⟨a, ham, hb⟩)))
  have hown2 : Ow H2 77 2 a.p a.n a.c (a.s.kept.map Rep.row) a.k := (hT2.one _ ham2 :)
  refine Cl.turnK (g := a.k) (b := b2) (o := .cells #[.pointer (ptrAt p (0 + (i : Int) * 4))] 129 (0, 0)) (fun _ k => k.1) (fun hb2 => c_delFR (q := some (b2, 0)) (u := shiftP p (0 + (i : Int) * 4).toNat) (a := max a.s.acked e.ack) ?_ ?_ (hown2.mono fun b _ o h => le_addH hb2 b o h)) ?_
  · rw [← ptrAt_shift]
    refine ⟨b2, 0, rfl, #[.pointer (ptrAt p (0 + (i : Int) * 4))], 129, (0, 0), ?_, fun j hj => ?_⟩
    · unfold but
      rw [if_neg (fun h => by
        obtain ⟨o, h2⟩ := hown2.held b2 h
        rw [hb2] at h2; cases h2)]
      exact addH_at ..
    · have : j = 0 := by simpa using hj
      subst this; exact ⟨rfl, unfz0 _⟩
  · have ho := hT2.own.mono (K := but a.k (addH H2 b2 (.cells #[.pointer (ptrAt p (0 + (i : Int) * 4))] 129 (0, 0)))) fun b hb o h => by
      unfold but
      rw [if_neg (fun h2 => hT2.gap _ ham2 b hb h2)]
      exact le_addH hb2 b o h
    have := (cells4 ho ha2 (off := 0 + (i : Int) * 4) (by omega)).2.1
    exact RowAt.shift (by rw [Int.zero_add 1]; exact this) (by omega) (by omega)
  rintro v W5 W6 H' k' ⟨n', rfl, ho'⟩ hu3 hk' n5 hb2 hlt2
  have hkb : k' ≠ some b2 := fun h => by
    rcases hk' with h1 | h1
    · obtain ⟨o, h2⟩ := hown2.held b2 (h1 ▸ h)
      rw [hb2] at h2; cases h2
    · have := h1 b2 h; omega
  have ho3 := less_ow ho' hkb
  rw [ackd_filter] at ho3
  obtain ⟨hX3, hg3, hr3⟩ := hT2.turnK n5.sub ha2 hu3 hk'
  refine ⟨a.p, n', a.c, rfl, less b2 H', hu3.own hown2 hkM, ?_⟩
  intro W7 n7 _
  obtain ⟨W8, H4, hrun4, hu4, hT4⟩ := hX3.store n7.sub ha2 (t := 73) (j := 3) (v := vsl a.p n' a.c) (a' := ⟨a.s.ack t.clock e.ack, a.p, n', a.c, k'⟩) u1 u3 rfl rfl (by omega) rfl ho3 hg3 hr3 (off := 0 + (i : Int) * 4 + 3) (by omega)
  rw [List.set_set] at hT4
  generalize hx : a.s.ack t.clock e.ack = x at hxc hxi hxk hxa hT4 ⊢
  have ha4 : (es.set i ⟨x, a.p, n', a.c, k'⟩)[i]? = some ⟨x, a.p, n', a.c, k'⟩ := List.getElem?_set_self hilt
  have ham4 := List.mem_of_getElem? ha4
  have hc4 := cells4 hT4.own ha4 (off := 0 + (i : Int) * 4) (by omega)
  have hk4 : k' = a.k ∨ ∀ b, k' = some b → W.heap.size ≤ b := hk'.imp id fun h b hb => Nat.le_trans n5.mod.size (h b hb)
  have hown4 : Ow H4 77 2 a.p n' a.c (x.kept.map Rep.row) k' := (hT4.one _ ham4 :)
  have hkept4 : Kept H4 a.p n' a.c x.kept := Kept.of_ow hown4
  have hn' := hkept4.len
  have hmap : (es.set i ⟨x, a.p, n', a.c, k'⟩).map Cel.s = putT t.table x := by rw [List.map_set, ht]; exact hset x hxc
  refine ⟨W8, hrun4, H4, hu4.own hX3.own hgM, x.acked, hc4.2.1, fun hs => ?_, fun hs => ⟨a.p, n', a.c, hc4.2.2.2, ?_⟩⟩
  · exact Rt.mp (r := ({ t with table := putT t.table x }, -4, false)) (by unfold Sta.calls; rw [if_pos hs]) hH h0 h1 hT.foot (fun W k => ⟨k.1.eq, k.2.1.eq⟩) hT4 hmap (foot_set ha hk4)
  refine Cl.same (c_bsR hkept4 hxi (by omega) e.seq) fun _ _ hx2 => ⟨_, _, rfl, hx2, fun hf => ⟨a.p, n', a.c, hc4.2.2.2, ?_⟩, fun hf => ⟨x.acked, hc4.2.1, in64 (by omega), fun _ => ⟨fun hfar => ?_, fun hfar => ?_⟩⟩⟩
  · obtain ⟨_, _, j3, _, _⟩ := split_atK e.seq x.kept hxi
    obtain ⟨r, r1, r2, r3⟩ := j3 hf
    have hpl := pos_ltK hxi hf
    obtain ⟨r', hr', hat⟩ := hkept4.at (k := posK x.kept e.seq) (by omega)
    rw [r1] at hr'
    simp only [Option.some.injEq] at hr'
    subst hr'
    have h3 := hat (0 + (posK x.kept e.seq : Int) * 2) (by omega)
    refine ⟨⟨by omega, by omega⟩, fun _ => ⟨h3.1.isSome, fun _ => ⟨by omega, fun _ => ⟨_, h3.2.2, ?_⟩⟩⟩⟩
    rw [← r3]
    exact Rt.mp (r := ({ t with table := putT t.table x }, (findK x.kept e.seq).val, false)) (by unfold Sta.calls; rw [if_neg hs, if_pos hf]) hH h0 h1 hT.foot (fun W k => ⟨k.1.eq, k.2.1.eq⟩) hT4 hmap (foot_set ha hk4)
  · exact Rt.mp (r := ({ t with table := putT t.table x }, -5, false)) (by unfold Sta.calls; rw [if_neg hs, if_neg hf, if_pos hfar]) hH h0 h1 hT.foot (fun W k => ⟨k.1.eq, k.2.1.eq⟩) hT4 hmap (foot_set ha hk4)
  · refine Cl.same (c_turn e.op hop hv H4) fun _ _ hx3 => ⟨_, _, _, _, _, rfl, hx3, a.p, n', a.c, hc4.2.2.2, fun b4 => ?_⟩
    generalize hr : e.op.turn t.vals = r
    have hf' : hasK x.kept e.seq = false := by simpa using hf
    have hpl := pos_leK x.kept e.seq
    have hkM4 : ∀ b, k' = some b → W.heap.size ≤ b ∨ (b = b0 ∨ b = b1 ∨ Foot g es b) := fun b hb => by
      rcases hk4 with h | h
      · exact hkM b (h ▸ hb)
      · exact .inl (h b hb)
    refine Cl.turnK (g := k') (b := b4) (o := .cells #[vi e.seq, vi r.2] 77 (0, 0)) (fun _ k => k.1) (fun hb4 => c_insertR (hown4.mono fun b _ o h => le_addH hb4 b o h) (i := posK x.kept e.seq) (by omega) (vb := b4) (row := [vi e.seq, vi r.2]) (addH_at ..) rfl (fun v hv => by
        simp only [List.mem_cons, List.not_mem_nil, or_false] at hv
        rcases hv with rfl | rfl <;> rfl) (fun h => by
        obtain ⟨o, h2⟩ := hown4.held b4 h
        rw [hb4] at h2; cases h2) (by omega)) ?_
    rintro v W9 W10 H5 k2 ⟨p5, n5', c5, rfl, ho5⟩ hu5 hk5 n9 hb4 hlt4
    have hkb4 : k2 ≠ some b4 := fun h => by
      rcases hk5 with h1 | h1
      · obtain ⟨o, h2⟩ := hown4.held b4 (h1 ▸ h)
        rw [hb4] at h2; cases h2
      · have := h1 b4 h; omega
    have ho6 := less_ow ho5 hkb4
    have hput : (x.kept.map Rep.row).take (posK x.kept e.seq) ++ [vi e.seq, vi r.2] :: (x.kept.map Rep.row).drop (posK x.kept e.seq) = (putK x.kept ⟨e.seq, r.2⟩).map Rep.row := by
      rw [← put_notK hxi (s := ⟨e.seq, r.2⟩) hf', List.map_append, List.map_cons, List.map_take, List.map_drop]
      rfl
    rw [hput] at ho6
    obtain ⟨hX6, hg6, hr6⟩ := hT4.turnK n9.sub ha4 hu5 hk5
    refine ⟨p5, n5', c5, rfl, less b4 H5, hu5.own hown4 hkM4, ?_⟩
    intro W11 n11 _
    obtain ⟨W12, H7, hrun7, hu7, hT7⟩ := hX6.store n11.sub ha4 (t := 73) (j := 3) (v := vsl p5 n5' c5) (a' := ⟨{ x with kept := putK x.kept ⟨e.seq, r.2⟩ }, p5, n5', c5, k2⟩) u1 u3 rfl rfl (by omega) rfl ho6 hg6 hr6 (off := 0 + (i : Int) * 4 + 3) (by omega)
    rw [List.set_set] at hT7
    refine ⟨W12, hrun7, H7, hu7.own hX6.own hgM, ?_⟩
    refine Rt.mp (r := ({ t with vals := r.1, table := putT t.table { x with kept := putK x.kept ⟨e.seq, r.2⟩ } }, r.2, true)) (by unfold Sta.calls; rw [if_neg hs, if_neg hf, if_neg hfar, hr]) hH h0 h1 hT.foot (fun W k => ⟨k.1.eq, k.2.1.eq⟩) hT7 ?_ (foot_set ha ?_)
    · rw [List.map_set, ht]; exact hset _ hxc
    · rcases hk5 with h | h
      · rw [h]; exact hk4
      · exact .inr fun b hb => Nat.le_trans n9.mod.size (h b hb)
end Go.Proofs.YtfpmcmhihhnfgaaGreat
namespace Go.Proofs.YtfpmcmhihhnfgaaGreat
open Go.RowKit

set_option maxRecDepth 100000 in
set_option maxHeartbeats 4000000 in
theorem c_mapply {H : Hp} {p : Option Loc} {n c : Nat} {s : Sta} (hT : Tab H p n c s.table) (hs : StOk s) (hp : s.pos < 50) {e : Ent} (he : EntOk e) (b0 b1 : Nat) :
    Gb Tryz.prog 65 #[.pointer (some ⟨b0, 0, none⟩), e.val] H noM b0 b1 (mcells b1 false) 109 (s.cells (vsl p n c)) 25 (MPost H noM b1 (s.apply e)) := fun W hH e0 e1 hne h0 h1 => by
  have hpos := hs.pos
  have hck := hs.clock
  have het := he.time
  have hsm := Small.of_ok hs.table
  have em : (if s.clock < e.time then e.time else s.clock) = max s.clock e.time := by omega
  refine x_mapply false s.pos s.clock s.vals.a s.vals.b s.vals.c s.vals.d p n c e.kind e.time e.client e.seq e.ack e.op.kind e.op.key e.op.to e.op.n b0 b1 (fun b => b = b0 ∨ b = b1 ∨ noM b) H W _ hH hne ⟨e0, .inl rfl, h0⟩ ⟨e1, .inr (.inl rfl), h1⟩ fun b2 => ⟨in64 (by omega), fun _ => ?_⟩
  rw [em]
  have htok := Sta.tick_ok hs het hp
  refine Cl.fresh (c_left2 hT hsm hs.table.ord (clock := max s.clock e.time) (by omega)) ?_
  rintro v W1 W2 D ⟨p1, n1, c1, es, g, rfl, hO, hes⟩ hx hD hf nw1
  refine ⟨p1, n1, c1, rfl, hx, D, hD, hf, fun H1 h01 hD1 => ?_⟩
  have hO1 := hO.mono hD1
  have hft : es.map Cel.s = (s.tick e.time).table := hes
  have hnew : ∀ b, Foot g es b → W.heap.size ≤ b := fun b hb => by
    obtain ⟨o, h⟩ := hO.foot b hb
    exact Nat.le_trans nw1.mod.size (hf b o h)
  have hTab := hO1.tab
  rw [hft] at hTab
  have hn1 := hTab.len
  have hl3 := htok.table.len
  refine Cl.same (c_seek hTab htok.table.ord (by omega) e.client) fun _ _ hx2 => ⟨_, _, rfl, hx2, fun hk => ?_, fun hk => ?_⟩
  · refine Cl.both (c_mopen hO1 hft htok.table.ord (by omega) e.client b0 b1) (fun b hb => ⟨hO1.foot b hb, .inl (hnew b hb)⟩) (fun W k => ⟨k.1, k.2.1⟩) (fun _ _ => hne) ?_
    rintro v W3 W4 D0 D1 H' ⟨p2, n2, c2, es2, g2, rfl, rfl, rfl, hO2, he2, hf2⟩ n3 hd hbt
    refine ⟨_, some (b1, 0), _, _, _, _, _, _, _, p2, n2, c2, rfl, hbt _ ?_⟩
    refine Rt.mp (r := (s.tick e.time).opens e.client) (by unfold Sta.apply Sta.does Sta.opens; rw [if_pos hk]) hH h0 h1 (fun b hb => hb.elim) (fun W k => ⟨k.1.eq, k.2.1.eq⟩) hO2 he2 (fun b hb => .inr ?_)
    rcases hf2 b hb with h | h
    · exact hnew b h
    · obtain ⟨o, ho⟩ := hO2.foot b hb
      rcases hd b o ho with ⟨o', h'⟩ | h'
      · rw [h] at h'; cases h'
      · exact Nat.le_trans n3.mod.size h'
  · refine ⟨fun hh => ⟨fun hk3 => ?_, fun hk3 => ?_⟩, fun hh => ?_⟩
    · have hpl := pos_lt htok.table.ord hh
      refine ⟨in64 (by omega), fun _ => ?_⟩
      refine Cl.turn (c_delete hO1.own (i := posT (s.tick e.time).table e.client) (j := posT (s.tick e.time).table e.client + 1) (by omega) (by omega) (by omega)) ?_
      rintro v W3 W4 H' g' ⟨p2, n2, c2, rfl, ho'⟩ hu hg' n3
      rw [← List.map_take, ← List.map_drop, ← List.map_append] at ho'
      have hsub : (es.take (posT (s.tick e.time).table e.client) ++ es.drop (posT (s.tick e.time).table e.client + 1)).Sublist es := by
        conv => rhs; rw [← List.take_append_drop (posT (s.tick e.time).table e.client) es]
        refine List.Sublist.append (List.Sublist.refl _) ?_
        rw [← List.drop_drop]
        exact List.drop_sublist _ _
      have hO2 := OTab.upd n3.sub hu (fun a ha => hO1.one a (hsub.mem ha)) (fun a ha => hO1.gap a (hsub.mem ha)) (hO1.two.sublist hsub) ho' hg'
      refine ⟨p2, n2, c2, rfl, H', hu.own hO1.own (fun b hb => .inl (hnew b (.inl hb))), ?_⟩
      refine Rt.mp (r := ({ s.tick e.time with table := dropT (s.tick e.time).table e.client }, 0, false)) (by unfold Sta.apply Sta.does; rw [if_neg hk, if_pos hh, if_pos hk3]) hH h0 h1 (fun b hb => hb.elim) (fun W k => ⟨k.1.eq, k.2.1.eq⟩) hO2 ?_ (fun b hb => .inr ?_)
      · rw [List.map_append, List.map_take, List.map_drop, hft]
        exact drop_at htok.table.ord hh
      · rcases hb with hb | ⟨a, ha, hb⟩
        · rcases hg' with h | h
          · exact hnew b (.inl (h ▸ hb))
          · exact Nat.le_trans n3.mod.size (h b hb)
        · exact hnew b (.inr ⟨a, hsub.mem ha, hb⟩)
    · have hpl := pos_lt htok.table.ord hh
      have hk2 : e.kind = 2 := by have := he.kind; omega
      obtain ⟨q1, q2, q3⟩ := he.call hk2
      obtain ⟨m1, m2⟩ := find_mem htok.table.ord hh
      obtain ⟨a, ha, _⟩ := get_pos (c := e.client) (by rw [hft]; exact htok.table.ord) (by rw [hft]; exact hh)
      rw [hft] at ha
      refine ⟨⟨by omega, by omega⟩, fun _ => ⟨(cells4 hO1.own ha (off := 0 + (posT (s.tick e.time).table e.client : Int) * 4) (by omega)).1.isSome, fun _ => ?_⟩⟩
      refine Cl.both (c_mcall hO1 hft htok.table.ord hh (htok.table.one _ m1) htok.vals q3 (by omega) b0 b1) (fun b hb => ⟨hO1.foot b hb, .inl (hnew b hb)⟩) (fun W k => ⟨k.1, k.2.1⟩) (fun _ _ => hne) ?_
      rintro v W3 W4 D0 D1 H' ⟨p2, n2, c2, es2, g2, rfl, rfl, rfl, hO2, he2, hf2⟩ n3 hd hbt
      refine ⟨_, some (b1, 0), _, _, _, _, _, _, _, p2, n2, c2, rfl, hbt _ ?_⟩
      refine Rt.mp (r := (s.tick e.time).calls ((findT (s.tick e.time).table e.client).ack (s.tick e.time).clock e.ack) e) (by unfold Sta.apply Sta.does; rw [if_neg hk, if_pos hh, if_neg hk3]) hH h0 h1 (fun b hb => hb.elim) (fun W k => ⟨k.1.eq, k.2.1.eq⟩) hO2 he2 (fun b hb => .inr ?_)
      rcases hf2 b hb with h | h
      · exact hnew b h
      · obtain ⟨o, ho⟩ := hO2.foot b hb
        rcases hd b o ho with ⟨o', h'⟩ | h'
        · rw [h] at h'; cases h'
        · exact Nat.le_trans n3.mod.size h'
    · exact Rt.mp (r := (s.tick e.time, -3, false)) (by unfold Sta.apply Sta.does; rw [if_neg hk, if_neg hh]) hH h0 h1 (fun b hb => hb.elim) (fun W k => ⟨k.1.eq, k.2.1.eq⟩) hO1 hft (fun b hb => .inr (hnew b hb))
end Go.Proofs.YtfpmcmhihhnfgaaGreat
