/- Logs, packed, as the document says it, over plain data. No program in sight. No conditions. Symbolic runs of functions: what each leaves to prove is enough for its call. Printed by a program of ours. No conditions. Contracts of package pack, and of what the document says of it. No conditions. -/
import Derived.Test.YtoilhpkclabhoaaKF1
import Derived.Test.YtoilhpkclabhoaaKE3
import Derived.Test.YtoilhpkclabhoaaProg
import Derived.Test.YtoilhpkclabhoaaKF3
import Derived.Test.YtoilhpkclabhoaaKT1
set_option linter.unusedVariables false
set_option linter.unusedSimpArgs false
namespace Go.Proofs.Ytoilhpkclabhoaa

structure LogOk (s : Sta) (l : List Ent) : Prop where
  base : StOk s
  ents : ∀ e ∈ l, EntOk e
  len : s.pos + l.length ≤ 50
section
variable {s : Sta} {l : List Ent} {e : Ent} {n : Int}
theorem LogOk.cut (h : LogOk s l) {k : Nat} (hk : k ≤ l.length) : LogOk (foldS s (l.take k)) (l.drop k) ∧ (foldS s (l.take k)).pos = s.pos + k ∧ foldS (foldS s (l.take k)) (l.drop k) = foldS s l := by
  have ht : (l.take k).length = k := by simp; omega
  have hd : (l.drop k).length = l.length - k := by simp
  have hp := h.len
  obtain ⟨o1, q1⟩ := foldS_ok h.base (fun e he => h.ents e (List.mem_of_mem_take he)) (by rw [ht]; omega)
  rw [ht] at q1
  refine ⟨⟨o1, fun e he => h.ents e (List.mem_of_mem_drop he), by rw [q1, hd]; omega⟩, q1, ?_⟩
  rw [← foldS_append, List.take_append_drop]
theorem LogOk.put (h : LogOk s l) (he : EntOk e) (hp : ¬ s.pos + (l.length : Int) = 50) : LogOk s (l ++ [e]) := by
  have := h.len
  refine ⟨h.base, fun x hx => ?_, by simp; omega⟩
  rcases List.mem_append.1 hx with hx | hx
  · exact h.ents x hx
  · simp only [List.mem_singleton] at hx; subst hx; exact he
end
end Go.Proofs.Ytoilhpkclabhoaa
namespace Go.Proofs.Ytoilhpkclabhoaa
open Go.RowKit
set_option maxRecDepth 100000
set_option maxHeartbeats 4000000
def v_sameEnts : VC :=
(.chk (.le (.k 0) (.v 1))
(.chk (.le (.k 0) (.v 4))
(.ite (.eq (.v 1) (.v 4))
(.loop [(6, .n)] [.n (.k 0)] [.n (.v 6)]
(.ite (.lt (.v 6) (.v 1))
(.chk (.idx (.v 6) (.v 1))
(.chk (.isp 0)
(.ld 0 (.add (.k 0) (.mul (.v 6) (.k 9))) [.int .i64 (.v 7), .int .i64 (.v 8), .int .i64 (.v 9), .int .i64 (.v 10), .int .i64 (.v 11), .int .i64 (.v 12), .int .i64 (.v 13), .int .i64 (.v 14), .int .i64 (.v 15)] [(7, .i), (8, .i), (9, .i), (10, .i), (11, .i), (12, .i), (13, .i), (14, .i), (15, .i)]
(.chk (.idx (.v 6) (.v 4))
(.chk (.isp 3)
(.ld 3 (.add (.k 0) (.mul (.v 6) (.k 9))) [.int .i64 (.v 16), .int .i64 (.v 17), .int .i64 (.v 18), .int .i64 (.v 19), .int .i64 (.v 20), .int .i64 (.v 21), .int .i64 (.v 22), .int .i64 (.v 23), .int .i64 (.v 24)] [(16, .i), (17, .i), (18, .i), (19, .i), (20, .i), (21, .i), (22, .i), (23, .i), (24, .i)]
(.esc (.bop .neq 33 (.tmp 20) (.tmp 24)) [.agg [.int .i64 (.v 7), .int .i64 (.v 8), .int .i64 (.v 9), .int .i64 (.v 10), .int .i64 (.v 11), .int .i64 (.v 12), .int .i64 (.v 13), .int .i64 (.v 14), .int .i64 (.v 15)], .agg [.int .i64 (.v 16), .int .i64 (.v 17), .int .i64 (.v 18), .int .i64 (.v 19), .int .i64 (.v 20), .int .i64 (.v 21), .int .i64 (.v 22), .int .i64 (.v 23), .int .i64 (.v 24)]] [] [(25, .b)] (some (.bool (.v 25))) .same
(.ite (.v 25)
(.ret (.bool (.k false)) [])
(.chk (.rng .i64 (.add (.v 6) (.k 1)))
(.chk (.le (.k 0) (.add (.v 6) (.k 1)))
(.back 0 [.n (.add (.v 6) (.k 1))])))))))))))
(.ret (.bool (.k true)) [])))
(.ret (.bool (.k false)) []))))
theorem x_sameEnts (x0 : Option Loc) (x1 : Nat) (x2 : Nat) (x3 : Option Loc) (x4 : Nat) (x5 : Nat) (M : Nat → Prop) (H0 : Hp) (W0 : World) (R : Ending → World → Prop) (hH : H0.le (hpOf W0)) (h :
 (0 ≤ (x1 : Int) ∧ (0 ≤ (x1 : Int) →
 (0 ≤ (x4 : Int) ∧ (0 ≤ (x4 : Int) →
 (((x1 : Int) = (x4 : Int) →
  (∃ (I0 : List Dat → Hp → Prop) (μ0 : List Dat → Nat), I0 [.n 0] H0 ∧ ∀ H1 : Hp, ∀ x6 : Nat, I0 [.n x6] H1 →
   (((x6 : Int) < (x1 : Int) →
    (((0 : Int) ≤ (x6 : Int) ∧ (x6 : Int) < (x1 : Int)) ∧ (((0 : Int) ≤ (x6 : Int) ∧ (x6 : Int) < (x1 : Int)) →
    (x0.isSome = true ∧ (x0.isSome = true →
    (∃ x7 : Int, ∃ x8 : Int, ∃ x9 : Int, ∃ x10 : Int, ∃ x11 : Int, ∃ x12 : Int, ∃ x13 : Int, ∃ x14 : Int, ∃ x15 : Int, RowAt H1 x0 (0 + ((x6 : Int) * 9)) [vi x7, vi x8, vi x9, vi x10, vi x11, vi x12, vi x13, vi x14, vi x15] ∧
    (((0 : Int) ≤ (x6 : Int) ∧ (x6 : Int) < (x4 : Int)) ∧ (((0 : Int) ≤ (x6 : Int) ∧ (x6 : Int) < (x4 : Int)) →
    (x3.isSome = true ∧ (x3.isSome = true →
    (∃ x16 : Int, ∃ x17 : Int, ∃ x18 : Int, ∃ x19 : Int, ∃ x20 : Int, ∃ x21 : Int, ∃ x22 : Int, ∃ x23 : Int, ∃ x24 : Int, RowAt H1 x3 (0 + ((x6 : Int) * 9)) [vi x16, vi x17, vi x18, vi x19, vi x20, vi x21, vi x22, vi x23, vi x24] ∧
    (Es W0 M H1 nK fun W1 => ∃ x25 : Bool, Eo Try.prog (.bop .neq 33 (.tmp 20) (.tmp 24)) [Value.agg #[vi x7, vi x8, vi x9, vi x10, vi x11, vi x12, vi x13, vi x14, vi x15], Value.agg #[vi x16, vi x17, vi x18, vi x19, vi x20, vi x21, vi x22, vi x23, vi x24]] W1 (.value (vb (x25))) fun W2 => Ext W1 W2 ∧
    ((x25 = true →
     Rt R W0 M H1 nK (vb (false))) ∧
    (¬ (x25 = true) →
     (inKind .i64 ((x6 : Int) + 1) ∧ (inKind .i64 ((x6 : Int) + 1) →
     (0 ≤ ((x6 : Int) + 1) ∧ (0 ≤ ((x6 : Int) + 1) →
     (I0 [.n (((x6 : Int) + 1) : Int).toNat] H1 ∧ μ0 [.n (((x6 : Int) + 1) : Int).toNat] < μ0 [.n x6]))))))))))))))))))) ∧
   (¬ ((x6 : Int) < (x1 : Int)) →
    Rt R W0 M H1 nK (vb (true)))))) ∧
 (¬ ((x1 : Int) = (x4 : Int)) →
  Rt R W0 M H0 nK (vb (false))))))))) :
  Calls Try.prog 21 #[vsl x0 x1 x2, vsl x3 x4 x5] W0 R :=
  calls_sxA (M := M) (V := v_sameEnts) (hi := {loops := [(4, .inv [(5, .nat)] [])]}) (args := [.slO 0 (.k 0) (.v 1) (.v 2), .slO 3 (.k 0) (.v 4) (.v 5)]) (nv := 6) (e := (upd (upd (upd (upd (upd (upd (fun _ => .i 0) 0 (.p x0)) 1 (.n x1)) 2 (.n x2)) 3 (.p x3)) 4 (.n x4)) 5 (.n x5))) Try.func21 hH h (by kernel_rfl) (by kernel_rfl) (by kernel_rfl)
end Go.Proofs.Ytoilhpkclabhoaa
namespace Go.Proofs.Ytoilhpkclabhoaa
open Go.RowKit
abbrev logV (s : Sta) (v w : Value) : Value := .agg #[vi s.pos, vi s.clock, vi s.vals.a, vi s.vals.b, vi s.vals.c, vi s.vals.d, v, w]
section
variable {H : Hp} {p q : Option Loc} {n c m d : Nat} {s : Sta} {l : List Ent}
def EndPost (r : Sta × Int) (v : Value) (D : Hp) : Prop := ∃ p n c, v = .tuple #[r.1.val (vsl p n c), vi r.2] ∧ Tab D p n c r.1.table
def LogPost (r : Sta × List Ent × Int) (v : Value) (D : Hp) : Prop := ∃ p n c q m d, v = .tuple #[logV r.1 (vsl p n c) (vsl q m d), vi r.2.2] ∧ Tab D p n c r.1.table ∧ Ents D q m d r.2.1
def PutPost (r : Sta × List Ent × Int × Int) (v : Value) (D : Hp) : Prop := ∃ p n c q m d, v = .tuple #[logV r.1 (vsl p n c) (vsl q m d), vi r.2.2.1, vi r.2.2.2] ∧ Tab D p n c r.1.table ∧ Ents D q m d r.2.1
theorem EndPost.bad (D : Hp) (x : Int) : EndPost (Sta.zero, x) (.tuple #[Sta.zero.val (Value.slice none 0 0), vi x]) D := ⟨none, 0, 0, rfl, Tab.nil _ _⟩
theorem LogPost.bad (D : Hp) (x : Int) : LogPost (Sta.zero, [], x) (.tuple #[logV Sta.zero (Value.slice none 0 0) (Value.slice none 0 0), vi x]) D := ⟨none, 0, 0, none, 0, 0, rfl, Tab.nil _ _, Ents.nil _ _⟩
theorem PutPost.bad (D : Hp) (x y : Int) : PutPost (Sta.zero, [], x, y) (.tuple #[logV Sta.zero (Value.slice none 0 0) (Value.slice none 0 0), vi x, vi y]) D := ⟨none, 0, 0, none, 0, 0, rfl, Tab.nil _ _, Ents.nil _ _⟩
theorem c_sameEnts {q' : Option Loc} {m' d' : Nat} {l' : List Ent} (hE : Ents H q m d l) (hE' : Ents H q' m' d' l') : Gv Try.prog 21 #[vsl q m d, vsl q' m' d'] H (vb (decide (l = l'))) := fun W hH => by
  have hn := hE.len
  have hn' := hE'.len
  have h63 := hE.lt63
  refine x_sameEnts q m d q' m' d' noM H W _ hH ⟨by omega, fun _ => ⟨by omega, fun _ => ⟨fun h1 => ?_, fun h1 => Rt.gv' (by rw [decide_eq_false (fun h => h1 (by rw [hn, hn', h]))])⟩⟩⟩
  refine ⟨fun v K => match v with | [.n j] => j ≤ m ∧ H.le K ∧ (l.drop j = l'.drop j ↔ l = l') | _ => False, fun v => match v with | [.n j] => m - j | _ => 0, ⟨by omega, Hp.le_refl H, by simp⟩, fun K j hI => ?_⟩
  obtain ⟨hj, hle, hf⟩ := hI
  have ht : ((j : Int) + 1).toNat = j + 1 := by omega
  refine ⟨fun hlt => ⟨⟨by omega, hlt⟩, fun _ => ?_⟩, fun hge => Rt.gv' ?_⟩
  · obtain ⟨r, hr, hat, _⟩ := (hE.mono hle).at (k := j) (by omega)
    obtain ⟨r', hr', hat', _⟩ := (hE'.mono hle).at (k := j) (by omega)
    rw [drop_cons hr, drop_cons hr', List.cons.injEq] at hf
    refine ⟨hat.isSome, fun _ => ⟨_, _, _, _, _, _, _, _, _, hat, ⟨by omega, by omega⟩, fun _ => ⟨hat'.isSome, fun _ => ⟨_, _, _, _, _, _, _, _, _, hat', fun W1 n1 _ => ?_⟩⟩⟩⟩
    refine ⟨_, _, ek_ne_ent _ _ r r' W1, Ext.refl _, fun h0 => Rt.gv' ?_, fun h0 => ⟨in64 (by omega), fun _ => ⟨by omega, fun _ => ?_⟩⟩⟩
    · rw [decide_eq_false]
      intro hh
      have := (hf.2 hh).1
      simp [this] at h0
    · rw [ht]
      refine ⟨⟨by omega, hle, ?_⟩, by simp only; omega⟩
      rw [← hf]
      have h2 : r = r' := by simpa using h0
      exact ⟨fun h => ⟨h2, h⟩, fun h => h.2⟩
  · rw [decide_eq_true (hf.1 (by rw [List.drop_of_length_le (by omega), List.drop_of_length_le (by omega)]))]
end
end Go.Proofs.Ytoilhpkclabhoaa
