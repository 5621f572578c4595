/- Symbolic runs of functions: what each leaves to prove is enough for its call. Printed by a program of ours. No conditions. Contract of the document's answer: an entry is applied. No conditions. Contract of the document's answer: an entry is applied. No conditions. Contracts of package apply: Next, One; of the document's answer: OneOf. No conditions. -/
import Derived.Test.YtoilhpkclabhoaaKE3
import Derived.Test.YtoilhpkclabhoaaProg
import Derived.Test.YtoilhpkclabhoaaKS4
import Derived.Test.YtoilhpkclabhoaaKA3
import Derived.Test.YtoilhpkclabhoaaKA2
import Derived.Test.YtoilhpkclabhoaaKT1
import Derived.Test.YtoilhpkclabhoaaKA4
import Derived.Test.YtoilhpkclabhoaaKU1
import Derived.Test.YtoilhpkclabhoaaKA1
set_option linter.unusedVariables false
set_option linter.unusedSimpArgs false
namespace Go.Proofs.Ytoilhpkclabhoaa
open Go.RowKit
set_option maxRecDepth 100000
set_option maxHeartbeats 4000000
def v_appNext : VC :=
(.all 0
(.all 1
(.all 2
(.call 59 [.agg [.int .i64 (.v 0), .int .i64 (.v 1), .int .i64 (.v 2), .int .i64 (.v 3), .int .i64 (.v 4), .int .i64 (.v 5), .slO 6 (.k 0) (.v 7) (.v 8)]] [] [(18, .i), (19, .i), (20, .i), (21, .i), (22, .i), (23, .i), (24, .p), (25, .n), (26, .n)] (.agg [.int .i64 (.v 18), .int .i64 (.v 19), .int .i64 (.v 20), .int .i64 (.v 21), .int .i64 (.v 22), .int .i64 (.v 23), .slO 24 (.k 0) (.v 25) (.v 26)]) .fresh
(.all 3
(.call 80 [.ptrK 3 0, .agg [.int .i64 (.v 9), .int .i64 (.v 10), .int .i64 (.v 11), .int .i64 (.v 12), .int .i64 (.v 13), .int .i64 (.v 14), .int .i64 (.v 15), .int .i64 (.v 16), .int .i64 (.v 17)]] [(3, ⟨[.ptrK 0 0, .bool (.k false)], 124⟩), (0, ⟨[.int .i64 (.v 18), .int .i64 (.v 19), .int .i64 (.v 20), .int .i64 (.v 21), .int .i64 (.v 22), .int .i64 (.v 23), .slO 24 (.k 0) (.v 25) (.v 26)], 25⟩)] [(27, .i), (28, .p), (29, .b), (30, .i), (31, .i), (32, .i), (33, .i), (34, .i), (35, .i), (36, .p), (37, .n), (38, .n)] (.int .i64 (.v 27)) (.both [(3, ⟨[.ptrO 28 (.k 0), .bool (.v 29)], 124⟩), (0, ⟨[.int .i64 (.v 30), .int .i64 (.v 31), .int .i64 (.v 32), .int .i64 (.v 33), .int .i64 (.v 34), .int .i64 (.v 35), .slO 36 (.k 0) (.v 37) (.v 38)], 25⟩)])
(.ret (.tup [.agg [.int .i64 (.v 30), .int .i64 (.v 31), .int .i64 (.v 32), .int .i64 (.v 33), .int .i64 (.v 34), .int .i64 (.v 35), .slO 36 (.k 0) (.v 37) (.v 38)], .int .i64 (.v 27), .bool (.v 29)]) [])))))))
theorem x_appNext (x0 : Int) (x1 : Int) (x2 : Int) (x3 : Int) (x4 : Int) (x5 : Int) (x6 : Option Loc) (x7 : Nat) (x8 : Nat) (x9 : Int) (x10 : Int) (x11 : Int) (x12 : Int) (x13 : Int) (x14 : Int) (x15 : Int) (x16 : Int) (x17 : Int) (M : Nat → Prop) (H0 : Hp) (W0 : World) (R : Ending → World → Prop) (hH : H0.le (hpOf W0)) (h :
 (∀ b0 : Nat,
 (∀ b1 : Nat,
 (∀ b2 : Nat,
 (Cl Try.prog W0 M H0 nK 59 #[Value.agg #[vi x0, vi x1, vi x2, vi x3, vi x4, vi x5, vsl x6 x7 x8]] fun z W1 W2 => ∃ x18 : Int, ∃ x19 : Int, ∃ x20 : Int, ∃ x21 : Int, ∃ x22 : Int, ∃ x23 : Int, ∃ x24 : Option Loc, ∃ x25 : Nat, ∃ x26 : Nat, z = .returned (Value.agg #[vi x18, vi x19, vi x20, vi x21, vi x22, vi x23, vsl x24 x25 x26]) ∧ Fr W1 W2 H0 fun H1 =>
 (∀ b3 : Nat,
 (Cl Try.prog W0 M H1 (fun W => Kn W0 M H1 W b3 (Obj.cells #[Value.pointer (some ⟨b0, 0, none⟩), vb (false)] 124 (0, 0)) ∧ Kn W0 M H1 W b0 (Obj.cells #[vi x18, vi x19, vi x20, vi x21, vi x22, vi x23, vsl x24 x25 x26] 25 (0, 0)) ∧ True) 80 #[Value.pointer (some ⟨b3, 0, none⟩), Value.agg #[vi x9, vi x10, vi x11, vi x12, vi x13, vi x14, vi x15, vi x16, vi x17]] fun z W3 W4 => ∃ x27 : Int, ∃ x28 : Option Loc, ∃ x29 : Bool, ∃ x30 : Int, ∃ x31 : Int, ∃ x32 : Int, ∃ x33 : Int, ∃ x34 : Int, ∃ x35 : Int, ∃ x36 : Option Loc, ∃ x37 : Nat, ∃ x38 : Nat, z = .returned (vi x27) ∧ Bt W0 M H1 [(b3, Obj.cells #[Value.pointer (ptrAt x28 0), vb (x29)] 124 (0, 0)), (b0, Obj.cells #[vi x30, vi x31, vi x32, vi x33, vi x34, vi x35, vsl x36 x37 x38] 25 (0, 0))] W3 W4 fun H2 =>
 Rt R W0 M H2 nK (Value.tuple #[Value.agg #[vi x30, vi x31, vi x32, vi x33, vi x34, vi x35, vsl x36 x37 x38], vi x27, vb (x29)])))))))) :
  Calls Try.prog 74 #[Value.agg #[vi x0, vi x1, vi x2, vi x3, vi x4, vi x5, vsl x6 x7 x8], Value.agg #[vi x9, vi x10, vi x11, vi x12, vi x13, vi x14, vi x15, vi x16, vi x17]] W0 R :=
  calls_sxA (M := M) (V := v_appNext) (hi := {mods := [(80, [0, 100])], turns := [80]}) (args := [.agg [.int .i64 (.v 0), .int .i64 (.v 1), .int .i64 (.v 2), .int .i64 (.v 3), .int .i64 (.v 4), .int .i64 (.v 5), .slO 6 (.k 0) (.v 7) (.v 8)], .agg [.int .i64 (.v 9), .int .i64 (.v 10), .int .i64 (.v 11), .int .i64 (.v 12), .int .i64 (.v 13), .int .i64 (.v 14), .int .i64 (.v 15), .int .i64 (.v 16), .int .i64 (.v 17)]]) (nv := 18) (e := (upd (upd (upd (upd (upd (upd (upd (upd (upd (upd (upd (upd (upd (upd (upd (upd (upd (upd (fun _ => .i 0) 0 (.i x0)) 1 (.i x1)) 2 (.i x2)) 3 (.i x3)) 4 (.i x4)) 5 (.i x5)) 6 (.p x6)) 7 (.n x7)) 8 (.n x8)) 9 (.i x9)) 10 (.i x10)) 11 (.i x11)) 12 (.i x12)) 13 (.i x13)) 14 (.i x14)) 15 (.i x15)) 16 (.i x16)) 17 (.i x17))) Try.func74 hH h (by kernel_rfl) (by kernel_rfl) (by kernel_rfl)
end Go.Proofs.Ytoilhpkclabhoaa
namespace Go.Proofs.Ytoilhpkclabhoaa
open Go.RowKit

theorem All2.set {α β : Type} {R : α → β → Prop} {l : List α} {m : List β} (h : All2 R l m) : ∀ (i : Nat) {a : α} {b : β}, R a b → All2 R (l.set i a) (m.set i b) := by
  induction h with
  | nil => intro i a b _; exact .nil
  | cons x y l m hxy t ih =>
    intro i a b hab
    cases i with
    | zero => exact .cons _ _ _ _ hab t
    | succ i => exact .cons _ _ _ _ hxy (ih i hab)
/-- the row at i, in such a table -/
theorem Out.row {W : World} {K : Hp} {p : Option Loc} {n c : Nat} {L : List Ses} {rows : List (List Value)} {g : Option Nat} (ho : Ow K 59 4 p n c rows g) (ha : All2 (SesRow (rest W g K)) rows L) {i : Nat} {s : Ses} (hs : L[i]? = some s) :
    ∃ q m d, rows[i]? = some [vi s.client, vi s.acked, vi s.seen, vsl q m d] ∧ Kept (rest W g K) q m d s.kept ∧ ∀ off : Int, off = (i : Int) * 4 → RowAt K p off [vi s.client, vi s.acked, vi s.seen, vsl q m d] := by
  obtain ⟨row, h1, q, m, d, rfl, h2⟩ := ha.get' hs
  refine ⟨q, m, d, h1, h2, fun off ho' => ?_⟩
  have hlt := (List.getElem?_eq_some_iff.1 h1).1
  obtain ⟨r, h3, _, h4⟩ := ho.rows.at (k := i) (by rw [ho.1]; exact hlt) (off := off) (by omega)
  rw [h1] at h3
  simp only [Option.some.injEq] at h3
  subst h3
  exact h4
end Go.Proofs.Ytoilhpkclabhoaa
namespace Go.Proofs.Ytoilhpkclabhoaa
open Go.RowKit

end Go.Proofs.Ytoilhpkclabhoaa
namespace Go.Proofs.Ytoilhpkclabhoaa
open Go.RowKit

theorem c_stOwn {H : Hp} {p : Option Loc} {n c : Nat} {s : Sta} (hT : Tab H p n c s.table) (hs : Small s.table) : Gf Try.prog 59 #[s.val (vsl p n c)] H fun v D => ∃ p' c' es g, v = s.val (vsl p' n c') ∧ OTab D p' n c' es g ∧ es.map Cel.s = s.table := fun W hH => by
  refine x_stOwn _ _ _ _ _ _ p n c noM H W _ hH fun b0 b1 => Cl.fresh (c_own2 hT hs) ?_
  rintro v W1 W2 D ⟨p', c', es, g, rfl, hO, he⟩ hx hD hf n1
  exact ⟨p', n, c', rfl, hx, D, hD, hf, fun H1 h01 hD1 => Rt.gfn ⟨p', c', es, g, rfl, hO.mono (le_newer hD1 (fun b o h => Nat.le_trans n1.mod.size (hf b o h))), he⟩⟩
theorem c_next {H : Hp} {p : Option Loc} {n c : Nat} {s : Sta} (hT : Tab H p n c s.table) (hs : StOk s) (hp : s.pos < 50) {e : Ent} (he : EntOk e) : Gf Try.prog 74 #[s.val (vsl p n c), e.val] H fun v D => ∃ p' n' c' es g, v = .tuple #[(s.apply e).1.val (vsl p' n' c'), vi (s.apply e).2.1, vb (s.apply e).2.2] ∧ OTab D p' n' c' es g ∧ es.map Cel.s = (s.apply e).1.table := fun W hH => by
  refine x_appNext _ _ _ _ _ _ p n c _ _ _ _ _ _ _ _ _ noM H W _ hH fun b0 b1 b2 => ?_
  refine Cl.fresh (c_stOwn hT (Small.of_ok hs.table)) ?_
  rintro v W1 W2 D ⟨p1, c1, es1, g1, rfl, hO1, he1⟩ hx hD hf n1
  refine ⟨_, _, _, _, _, _, p1, n, c1, rfl, hx, D, hD, hf, fun H1 h01 hD1 b3 => ?_⟩
  have hT1 := (hO1.mono hD1).tab
  rw [he1] at hT1
  refine Cl.both (c_mapply hT1 hs hp he b3 b0) (fun b hb => hb.elim) (fun W k => ⟨k.1, k.2.1⟩) (fun W k h => ?_) ?_
  · subst h
    have h1 := k.1.eq
    rw [k.2.1.eq] at h1
    simp at h1
  rintro v W3 W4 D0 D1 H' ⟨p2, n2, c2, es2, g2, rfl, rfl, rfl, hO2, he2, hf2⟩ n3 hd hbt
  refine ⟨_, some (b0, 0), _, _, _, _, _, _, _, p2, n2, c2, rfl, hbt _ (Rt.gfn ⟨p2, n2, c2, es2, g2, rfl, hO2.mono' fun b hb o ho => ?_, he2⟩)⟩
  rw [newer_at]
  · exact ho
  · rcases hf2 b hb with h | h
    · exact h.elim
    · rcases hd b o ho with ⟨o', h'⟩ | h'
      · rw [h] at h'; cases h'
      · exact Nat.le_trans n3.mod.size h'
theorem Tab.nil (D : Hp) (p : Option Loc) : Tab D p 0 0 [] := (OwnTab.nil D p).tab
end Go.Proofs.Ytoilhpkclabhoaa
