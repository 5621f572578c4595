/- Nodes and groups, as the document says it, over plain data. No program in sight. No conditions. Symbolic runs of functions: what each leaves to prove is enough for its call. Printed by a program of ours. No conditions. Contracts of package node, and of what the document says of it. No conditions. -/
import Derived.Test.YtfpmcmhihhnfgaaGreatKP1
import Derived.Test.YtfpmcmhihhnfgaaGreatKE3
import Derived.Test.YtfpmcmhihhnfgaaGreatProg
set_option linter.unusedVariables false
set_option linter.unusedSimpArgs false
namespace Go.Proofs.YtfpmcmhihhnfgaaGreat

def nFits (b : Sta) (l : List Ent) (s : Sta) : Bool := decide (s.pos - b.pos < 0) || (decide (s.pos - b.pos ≤ (l.length : Int)) && decide (foldS b (l.take (s.pos - b.pos).toNat) = s))
def nErr (b : Sta) (l : List Ent) (s : Sta) : Int := if logErr b l ≠ 0 then logErr b l else s.err
/-- where a node begins -/
def nAt (b s : Sta) : Sta := if s.pos < b.pos then b else s
def nOf (b s : Sta) : Nat := ((nAt b s).pos - b.pos).toNat
def nRest (b : Sta) (l : List Ent) (s : Sta) (n : Int) : List Ent := (l.drop (nOf b s)).take n.toNat
def nRun (b : Sta) (l : List Ent) (s : Sta) (n : Int) : Sta × Int × Int :=
  if nErr b l s ≠ 0 then (Sta.zero, 0, nErr b l s) else if n < 0 ∨ 50 < n then (Sta.zero, 0, 3) else if nFits b l s = false then (Sta.zero, 0, 1)
  else (foldS (nAt b s) (nRest b l s n), (((nRest b l s n).length : Nat) : Int), 0)
section
variable {b s : Sta} {l : List Ent} {n : Int}
theorem nErr_ok : nErr b l s = 0 ↔ LogOk b l ∧ StOk s := by
  unfold nErr
  rw [← logErr_ok, ← Sta.err_ok]
  split
  · rename_i h; exact ⟨fun hh => absurd hh h, fun hh => absurd hh.1 h⟩
  · rename_i h
    exact ⟨fun hh => ⟨by omega, hh⟩, fun hh => hh.2⟩
theorem nErr_log (h : logErr b l ≠ 0) : nErr b l s = logErr b l := if_pos h
theorem nErr_st (h : logErr b l = 0) : nErr b l s = s.err := if_neg (by omega)
theorem nRun_bad (h : nErr b l s ≠ 0) : nRun b l s n = (Sta.zero, 0, nErr b l s) := if_pos h
theorem nRun_rng (h : nErr b l s = 0) (h1 : n < 0 ∨ 50 < n) : nRun b l s n = (Sta.zero, 0, 3) := by unfold nRun; rw [if_neg (by omega), if_pos h1]
theorem nRun_not (h : nErr b l s = 0) (h1 : ¬ (n < 0 ∨ 50 < n)) (h2 : nFits b l s = false) : nRun b l s n = (Sta.zero, 0, 1) := by unfold nRun; rw [if_neg (by omega), if_neg h1, if_pos h2]
theorem nRun_ok (h : nErr b l s = 0) (h1 : ¬ (n < 0 ∨ 50 < n)) (h2 : nFits b l s = true) : nRun b l s n = (foldS (nAt b s) (nRest b l s n), (((nRest b l s n).length : Nat) : Int), 0) := by
  unfold nRun; rw [if_neg (by omega), if_neg h1, if_neg (by rw [h2]; simp)]
theorem nFits_lo (h : s.pos - b.pos < 0) : nFits b l s = true := by simp [nFits, h]
theorem nFits_hi (h : (l.length : Int) < s.pos - b.pos) : nFits b l s = false := by
  unfold nFits
  rw [decide_eq_false (by omega), decide_eq_false (by omega)]; rfl
theorem nFits_mid (h : ¬ s.pos - b.pos < 0) (h1 : s.pos - b.pos ≤ (l.length : Int)) : nFits b l s = decide (foldS b (l.take (s.pos - b.pos).toNat) = s) := by
  unfold nFits
  rw [decide_eq_false h, decide_eq_true h1]; simp
/-- whoever fits is what the log makes, or is behind -/
theorem nAt_fold (ho : LogOk b l) (hf : nFits b l s = true) : nOf b s ≤ l.length ∧ nAt b s = foldS b (l.take (nOf b s)) ∧ (nAt b s).pos = b.pos + nOf b s := by
  unfold nOf nAt
  by_cases h : s.pos < b.pos
  · rw [if_pos h, Int.sub_self]
    exact ⟨Nat.zero_le _, rfl, by simp⟩
  · rw [if_neg h]
    by_cases h1 : s.pos - b.pos ≤ (l.length : Int)
    · rw [nFits_mid (by omega) h1] at hf
      exact ⟨by omega, (of_decide_eq_true hf).symm, by omega⟩
    · rw [nFits_hi (by omega)] at hf; cases hf
/-- who fits, fits what is cut, and what is put behind -/
theorem nFits_cut (ho : LogOk b l) {k : Nat} (hk : k ≤ l.length) (hf : nFits b l s = true) : nFits (foldS b (l.take k)) (l.drop k) s = true := by
  obtain ⟨o1, h2, _⟩ := ho.cut hk
  by_cases h : s.pos - (foldS b (l.take k)).pos < 0
  · exact nFits_lo h
  · have h0 : ¬ s.pos - b.pos < 0 := by omega
    have h1 : s.pos - b.pos ≤ (l.length : Int) := by
      by_cases h1 : s.pos - b.pos ≤ (l.length : Int)
      · exact h1
      · rw [nFits_hi (by omega)] at hf; cases hf
    rw [nFits_mid h0 h1] at hf
    rw [nFits_mid h (by rw [List.length_drop]; omega), ← foldS_append]
    have e : (s.pos - b.pos).toNat = k + (s.pos - (foldS b (l.take k)).pos).toNat := by omega
    rw [e, List.take_add] at hf
    exact hf
end
/-! groups -/
structure Grp where
  base : Sta
  tail : List Ent
  n0 : Sta
  n1 : Sta
  n2 : Sta
def Grp.node (g : Grp) (k : Nat) : Sta := if k = 0 then g.n0 else if k = 1 then g.n1 else g.n2
def Grp.set (g : Grp) (k : Nat) (s : Sta) : Grp := if k = 0 then { g with n0 := s } else if k = 1 then { g with n1 := s } else { g with n2 := s }
def Grp.zero : Grp := ⟨Sta.zero, [], Sta.zero, Sta.zero, Sta.zero⟩
def sErr (b : Sta) (l : List Ent) (s : Sta) : Int := if s.err ≠ 0 then s.err else if nFits b l s = false then 1 else 0
def gErr (g : Grp) : Int :=
  if logErr g.base g.tail ≠ 0 then logErr g.base g.tail
  else if sErr g.base g.tail g.n0 ≠ 0 then sErr g.base g.tail g.n0
  else if sErr g.base g.tail g.n1 ≠ 0 then sErr g.base g.tail g.n1
  else sErr g.base g.tail g.n2
structure GrpOk (g : Grp) : Prop where
  log : LogOk g.base g.tail
  ok0 : StOk g.n0
  ok1 : StOk g.n1
  ok2 : StOk g.n2
  fit0 : nFits g.base g.tail g.n0 = true
  fit1 : nFits g.base g.tail g.n1 = true
  fit2 : nFits g.base g.tail g.n2 = true
theorem sErr_ok {b s : Sta} {l : List Ent} : sErr b l s = 0 ↔ StOk s ∧ nFits b l s = true := by
  unfold sErr
  rw [← Sta.err_ok]
  by_cases h : s.err = 0
  · rw [if_neg (by omega)]
    cases nFits b l s <;> simp [h]
  · rw [if_pos h]; exact ⟨fun hh => absurd hh h, fun hh => absurd hh.1 h⟩
theorem gErr_ok {g : Grp} : gErr g = 0 ↔ GrpOk g := by
  unfold gErr
  constructor
  · intro h
    by_cases h0 : logErr g.base g.tail = 0
    · rw [if_neg (by omega)] at h
      by_cases h1 : sErr g.base g.tail g.n0 = 0
      · rw [if_neg (by omega)] at h
        by_cases h2 : sErr g.base g.tail g.n1 = 0
        · rw [if_neg (by omega)] at h
          obtain ⟨a1, a2⟩ := sErr_ok.1 h1
          obtain ⟨b1, b2⟩ := sErr_ok.1 h2
          obtain ⟨c1, c2⟩ := sErr_ok.1 h
          exact ⟨logErr_ok.1 h0, a1, b1, c1, a2, b2, c2⟩
        · rw [if_pos h2] at h; exact absurd h h2
      · rw [if_pos h1] at h; exact absurd h h1
    · rw [if_pos h0] at h; exact absurd h h0
  · intro h
    have h0 := logErr_ok.2 h.log
    have h1 := sErr_ok.2 ⟨h.ok0, h.fit0⟩
    have h2 := sErr_ok.2 ⟨h.ok1, h.fit1⟩
    have h3 := sErr_ok.2 ⟨h.ok2, h.fit2⟩
    rw [if_neg (by omega), if_neg (by omega), if_neg (by omega)]; exact h3
theorem GrpOk.node {g : Grp} (h : GrpOk g) (k : Nat) : StOk (g.node k) ∧ nFits g.base g.tail (g.node k) = true := by
  unfold Grp.node
  split
  · exact ⟨h.ok0, h.fit0⟩
  · split
    · exact ⟨h.ok1, h.fit1⟩
    · exact ⟨h.ok2, h.fit2⟩
def gPut (g : Grp) (e : Ent) : Grp × Int × Int :=
  if gErr g ≠ 0 then (Grp.zero, 0, gErr g)
  else if (lPut g.base g.tail e).2.2.2 ≠ 0 then (Grp.zero, 0, (lPut g.base g.tail e).2.2.2)
  else ({ g with base := (lPut g.base g.tail e).1, tail := (lPut g.base g.tail e).2.1 }, (lPut g.base g.tail e).2.2.1, 0)
def gRun (g : Grp) (k n : Int) : Grp × Int × Int :=
  if gErr g ≠ 0 then (Grp.zero, 0, gErr g) else if k < 0 ∨ 2 < k then (Grp.zero, 0, 3)
  else if (nRun g.base g.tail (g.node k.toNat) n).2.2 ≠ 0 then (Grp.zero, 0, (nRun g.base g.tail (g.node k.toNat) n).2.2)
  else (g.set k.toNat (nRun g.base g.tail (g.node k.toNat) n).1, (nRun g.base g.tail (g.node k.toNat) n).2.1, 0)
def gCut (g : Grp) (n : Int) : Grp × Int :=
  if gErr g ≠ 0 then (Grp.zero, gErr g) else if (lCut g.base g.tail n).2.2 ≠ 0 then (Grp.zero, (lCut g.base g.tail n).2.2)
  else ({ g with base := (lCut g.base g.tail n).1, tail := (lCut g.base g.tail n).2.1 }, 0)
section
variable {g : Grp} {e : Ent}
theorem gPut_bad (h : gErr g ≠ 0) : gPut g e = (Grp.zero, 0, gErr g) := if_pos h
theorem gPut_not (h : gErr g = 0) (h1 : (lPut g.base g.tail e).2.2.2 ≠ 0) : gPut g e = (Grp.zero, 0, (lPut g.base g.tail e).2.2.2) := by unfold gPut; rw [if_neg (by omega), if_pos h1]
theorem gPut_is (h : gErr g = 0) (h1 : (lPut g.base g.tail e).2.2.2 = 0) : gPut g e = ({ g with base := (lPut g.base g.tail e).1, tail := (lPut g.base g.tail e).2.1 }, (lPut g.base g.tail e).2.2.1, 0) := by unfold gPut; rw [if_neg (by omega), if_neg (by omega)]
theorem gRun_bad {k n : Int} (h : gErr g ≠ 0) : gRun g k n = (Grp.zero, 0, gErr g) := if_pos h
theorem gRun_rng {k n : Int} (h : gErr g = 0) (h1 : k < 0 ∨ 2 < k) : gRun g k n = (Grp.zero, 0, 3) := by unfold gRun; rw [if_neg (by omega), if_pos h1]
theorem gRun_not {k n : Int} (h : gErr g = 0) (h1 : ¬ (k < 0 ∨ 2 < k)) (h2 : (nRun g.base g.tail (g.node k.toNat) n).2.2 ≠ 0) : gRun g k n = (Grp.zero, 0, (nRun g.base g.tail (g.node k.toNat) n).2.2) := by unfold gRun; rw [if_neg (by omega), if_neg h1, if_pos h2]
theorem gRun_is {k n : Int} (h : gErr g = 0) (h1 : ¬ (k < 0 ∨ 2 < k)) (h2 : (nRun g.base g.tail (g.node k.toNat) n).2.2 = 0) : gRun g k n = (g.set k.toNat (nRun g.base g.tail (g.node k.toNat) n).1, (nRun g.base g.tail (g.node k.toNat) n).2.1, 0) := by unfold gRun; rw [if_neg (by omega), if_neg h1, if_neg (by omega)]
theorem gCut_bad {n : Int} (h : gErr g ≠ 0) : gCut g n = (Grp.zero, gErr g) := if_pos h
theorem gCut_not {n : Int} (h : gErr g = 0) (h1 : (lCut g.base g.tail n).2.2 ≠ 0) : gCut g n = (Grp.zero, (lCut g.base g.tail n).2.2) := by unfold gCut; rw [if_neg (by omega), if_pos h1]
theorem gCut_is {n : Int} (h : gErr g = 0) (h1 : (lCut g.base g.tail n).2.2 = 0) : gCut g n = ({ g with base := (lCut g.base g.tail n).1, tail := (lCut g.base g.tail n).2.1 }, 0) := by unfold gCut; rw [if_neg (by omega), if_neg (by omega)]
theorem gCut_fold (h : GrpOk g) {k : Nat} (hk : k ≤ g.tail.length) : gCut g k = ({ g with base := foldS g.base (g.tail.take k), tail := g.tail.drop k }, 0) ∧ GrpOk (gCut g k).1 := by
  have l1 := lCut_ok (logErr_ok.2 h.log) (n := (k : Int)) (by omega)
  rw [Int.toNat_natCast] at l1
  have e1 := gCut_is (gErr_ok.2 h) (n := (k : Int)) (by rw [l1])
  rw [l1] at e1
  refine ⟨e1, ?_⟩
  rw [e1]
  exact ⟨(h.log.cut hk).1, h.ok0, h.ok1, h.ok2, nFits_cut h.log hk h.fit0, nFits_cut h.log hk h.fit1, nFits_cut h.log hk h.fit2⟩
end
end Go.Proofs.YtfpmcmhihhnfgaaGreat
namespace Go.Proofs.YtfpmcmhihhnfgaaGreat
open Go.RowKit
set_option maxRecDepth 100000
set_option maxHeartbeats 4000000
def v_nodeRight : VC :=
(.all 0
(.all 1
(.chk (.rng .i64 (.sub (.v 12) (.v 0)))
(.ite (.lt (.sub (.v 12) (.v 0)) (.k 0))
(.ret (.bool (.k true)) [])
(.chk (.le (.k 0) (.v 10))
(.ite (.le (.sub (.v 12) (.v 0)) (.v 10))
(.chk (.le (.k 0) (.sub (.v 12) (.v 0)))
(.chk (.le (.sub (.v 12) (.v 0)) (.v 11))
(.call 31 [.agg [vI 0, vI 1, vI 2, vI 3, vI 4, vI 5, vS 6], .slO 9 (.k 0) (.sub (.v 12) (.v 0)) (.v 11)] [] [(21, .i), (22, .i), (23, .i), (24, .i), (25, .i), (26, .i), (27, .p), (28, .n), (29, .n)] (.agg [vI 21, vI 22, vI 23, vI 24, vI 25, vI 26, vS 27]) .fresh
(.call 61 [.agg [vI 21, vI 22, vI 23, vI 24, vI 25, vI 26, vS 27], .agg [vI 12, vI 13, vI 14, vI 15, vI 16, vI 17, vS 18]] [] [(30, .b)] (.bool (.v 30)) .same
(.ret (.bool (.v 30)) [])))))
(.ret (.bool (.k false)) [])))))))
theorem x_nodeRight (x0 x1 x2 x3 x4 x5 : Int) (x6 : Option Loc) (x7 x8 : Nat) (x9 : Option Loc) (x10 x11 : Nat) (x12 x13 x14 x15 x16 x17 : Int) (x18 : Option Loc) (x19 x20 : Nat) (M : Nat → Prop) (H0 : Hp) (W0 : World) (R : Ending → World → Prop) (hH : H0.le (hpOf W0)) (h :
 (∀ b0 : Nat,
 (∀ b1 : Nat,
 (inKind .i64 (x12 - x0) ∧ (inKind .i64 (x12 - x0) →
 (((x12 - x0) < 0 →
  Rt R W0 M H0 nK (vb (true))) ∧
 (¬ ((x12 - x0) < 0) →
  (0 ≤ (x10 : Int) ∧ (0 ≤ (x10 : Int) →
  (((x12 - x0) ≤ (x10 : Int) →
   (0 ≤ (x12 - x0) ∧ (0 ≤ (x12 - x0) →
   ((x12 - x0) ≤ (x11 : Int) ∧ ((x12 - x0) ≤ (x11 : Int) →
   (Cl Tryz.prog W0 M H0 nK 31 #[Value.agg #[vi x0, vi x1, vi x2, vi x3, vi x4, vi x5, vsl x6 x7 x8], vsl x9 ((x12 - x0) : Int).toNat x11] fun z W1 W2 => ∃ (x21 x22 x23 x24 x25 x26 : Int) (x27 : Option Loc) (x28 x29 : Nat), z = .returned (Value.agg #[vi x21, vi x22, vi x23, vi x24, vi x25, vi x26, vsl x27 x28 x29]) ∧ Fr W1 W2 H0 fun H1 =>
   (Cl Tryz.prog W0 M H1 nK 61 #[Value.agg #[vi x21, vi x22, vi x23, vi x24, vi x25, vi x26, vsl x27 x28 x29], Value.agg #[vi x12, vi x13, vi x14, vi x15, vi x16, vi x17, vsl x18 x19 x20]] fun z W3 W4 => ∃ x30 : Bool, z = .returned (vb (x30)) ∧ Ext W3 W4 ∧
   Rt R W0 M H1 nK (vb (x30))))))))) ∧
  (¬ ((x12 - x0) ≤ (x10 : Int)) →
   Rt R W0 M H0 nK (vb (false))))))))))))) :
  Calls Tryz.prog 42 #[Value.agg #[vi x0, vi x1, vi x2, vi x3, vi x4, vi x5, vsl x6 x7 x8, vsl x9 x10 x11], Value.agg #[vi x12, vi x13, vi x14, vi x15, vi x16, vi x17, vsl x18 x19 x20]] W0 R :=
  calls_sxA (M := M) (V := v_nodeRight) (hi := {}) (args := [.agg [vI 0, vI 1, vI 2, vI 3, vI 4, vI 5, vS 6, vS 9], .agg [vI 12, vI 13, vI 14, vI 15, vI 16, vI 17, vS 18]]) (nv := 21) (e := (upd (upd (upd (upd (upd (upd (upd (upd (upd (upd (upd (upd (upd (upd (upd (upd (upd (upd (upd (upd (upd (fun _ => .i 0) 0 (.i x0)) 1 (.i x1)) 2 (.i x2)) 3 (.i x3)) 4 (.i x4)) 5 (.i x5)) 6 (.p x6)) 7 (.n x7)) 8 (.n x8)) 9 (.p x9)) 10 (.n x10)) 11 (.n x11)) 12 (.i x12)) 13 (.i x13)) 14 (.i x14)) 15 (.i x15)) 16 (.i x16)) 17 (.i x17)) 18 (.p x18)) 19 (.n x19)) 20 (.n x20))) Tryz.func42 hH h (by kernel_rfl) (by kernel_rfl) (by kernel_rfl)
def v_asked : VC :=
(.all 0
(.all 1
(.call 30 [.agg [vI 0, vI 1, vI 2, vI 3, vI 4, vI 5, vS 6, vS 9]] [] [(21, .i)] (vI 21) .same
(.ite (.eq (.v 21) (.k 0))
(.call 41 [.agg [vI 12, vI 13, vI 14, vI 15, vI 16, vI 17, vS 18]] [] [(22, .i)] (vI 22) .same
(.ret (vI 22) []))
(.ret (vI 21) [])))))
theorem x_asked (x0 x1 x2 x3 x4 x5 : Int) (x6 : Option Loc) (x7 x8 : Nat) (x9 : Option Loc) (x10 x11 : Nat) (x12 x13 x14 x15 x16 x17 : Int) (x18 : Option Loc) (x19 x20 : Nat) (M : Nat → Prop) (H0 : Hp) (W0 : World) (R : Ending → World → Prop) (hH : H0.le (hpOf W0)) (h :
 (∀ b0 : Nat,
 (∀ b1 : Nat,
 (Cl Tryz.prog W0 M H0 nK 30 #[Value.agg #[vi x0, vi x1, vi x2, vi x3, vi x4, vi x5, vsl x6 x7 x8, vsl x9 x10 x11]] fun z W1 W2 => ∃ x21 : Int, z = .returned (vi x21) ∧ Ext W1 W2 ∧
 ((x21 = 0 →
  (Cl Tryz.prog W0 M H0 nK 41 #[Value.agg #[vi x12, vi x13, vi x14, vi x15, vi x16, vi x17, vsl x18 x19 x20]] fun z W3 W4 => ∃ x22 : Int, z = .returned (vi x22) ∧ Ext W3 W4 ∧
  Rt R W0 M H0 nK (vi x22))) ∧
 (¬ (x21 = 0) →
  Rt R W0 M H0 nK (vi x21))))))) :
  Calls Tryz.prog 48 #[Value.agg #[vi x0, vi x1, vi x2, vi x3, vi x4, vi x5, vsl x6 x7 x8, vsl x9 x10 x11], Value.agg #[vi x12, vi x13, vi x14, vi x15, vi x16, vi x17, vsl x18 x19 x20]] W0 R :=
  calls_sxA (M := M) (V := v_asked) (hi := {}) (args := [.agg [vI 0, vI 1, vI 2, vI 3, vI 4, vI 5, vS 6, vS 9], .agg [vI 12, vI 13, vI 14, vI 15, vI 16, vI 17, vS 18]]) (nv := 21) (e := (upd (upd (upd (upd (upd (upd (upd (upd (upd (upd (upd (upd (upd (upd (upd (upd (upd (upd (upd (upd (upd (fun _ => .i 0) 0 (.i x0)) 1 (.i x1)) 2 (.i x2)) 3 (.i x3)) 4 (.i x4)) 5 (.i x5)) 6 (.p x6)) 7 (.n x7)) 8 (.n x8)) 9 (.p x9)) 10 (.n x10)) 11 (.n x11)) 12 (.i x12)) 13 (.i x13)) 14 (.i x14)) 15 (.i x15)) 16 (.i x16)) 17 (.i x17)) 18 (.p x18)) 19 (.n x19)) 20 (.n x20))) Tryz.func48 hH h (by kernel_rfl) (by kernel_rfl) (by kernel_rfl)
def v_nodeRun : VC :=
(.all 0
(.all 1
(.all 2
(.call 48 [.agg [vI 0, vI 1, vI 2, vI 3, vI 4, vI 5, vS 6, vS 9], .agg [vI 12, vI 13, vI 14, vI 15, vI 16, vI 17, vS 18]] [] [(22, .i)] (vI 22) .same
(.ite (.eq (.v 22) (.k 0))
(.ite (.lt (.v 21) (.k 0))
(.ret (.tup [.agg [.int .i64 (.k 0), .int .i64 (.k 0), .int .i64 (.k 0), .int .i64 (.k 0), .int .i64 (.k 0), .int .i64 (.k 0), .c (Value.slice none 0 0)], .int .i64 (.k 0), .int .i64 (.k 3)]) [])
(.ite (.lt (.k 50) (.v 21))
(.ret (.tup [.agg [.int .i64 (.k 0), .int .i64 (.k 0), .int .i64 (.k 0), .int .i64 (.k 0), .int .i64 (.k 0), .int .i64 (.k 0), .c (Value.slice none 0 0)], .int .i64 (.k 0), .int .i64 (.k 3)]) [])
(.call 42 [.agg [vI 0, vI 1, vI 2, vI 3, vI 4, vI 5, vS 6, vS 9], .agg [vI 12, vI 13, vI 14, vI 15, vI 16, vI 17, vS 18]] [] [(23, .b)] (.bool (.v 23)) .same
(.ite (.v 23)
(.ite (.lt (.v 12) (.v 0))
(.chk (.rng .i64 (.sub (.v 0) (.v 0)))
(.chk (.le (.k 0) (.sub (.v 0) (.v 0)))
(.chk (.le (.sub (.v 0) (.v 0)) (.v 10))
(.chk (.le (.v 10) (.v 11))
(.chk (.le (.k 0) (.sub (.v 10) (.sub (.v 0) (.v 0))))
(.chk (.le (.k 0) (.mn (.v 21) (.sub (.v 10) (.sub (.v 0) (.v 0)))))
(.chk (.le (.mn (.v 21) (.sub (.v 10) (.sub (.v 0) (.v 0)))) (.sub (.v 11) (.sub (.v 0) (.v 0))))
(.call 31 [.agg [vI 0, vI 1, vI 2, vI 3, vI 4, vI 5, vS 6], .slO 9 (.add (.k 0) (.skip (.v 11) (.sub (.v 0) (.v 0)) 9)) (.mn (.v 21) (.sub (.v 10) (.sub (.v 0) (.v 0)))) (.sub (.v 11) (.sub (.v 0) (.v 0)))] [] [(24, .i), (25, .i), (26, .i), (27, .i), (28, .i), (29, .i), (30, .p), (31, .n), (32, .n)] (.agg [vI 24, vI 25, vI 26, vI 27, vI 28, vI 29, vS 30]) .fresh
(.ret (.tup [.agg [vI 24, vI 25, vI 26, vI 27, vI 28, vI 29, vS 30], .int .i64 (.mn (.v 21) (.sub (.v 10) (.sub (.v 0) (.v 0)))), .int .i64 (.k 0)]) [])))))))))
(.chk (.rng .i64 (.sub (.v 12) (.v 0)))
(.chk (.le (.k 0) (.sub (.v 12) (.v 0)))
(.chk (.le (.sub (.v 12) (.v 0)) (.v 10))
(.chk (.le (.v 10) (.v 11))
(.chk (.le (.k 0) (.sub (.v 10) (.sub (.v 12) (.v 0))))
(.chk (.le (.k 0) (.mn (.v 21) (.sub (.v 10) (.sub (.v 12) (.v 0)))))
(.chk (.le (.mn (.v 21) (.sub (.v 10) (.sub (.v 12) (.v 0)))) (.sub (.v 11) (.sub (.v 12) (.v 0))))
(.call 31 [.agg [vI 12, vI 13, vI 14, vI 15, vI 16, vI 17, vS 18], .slO 9 (.add (.k 0) (.skip (.v 11) (.sub (.v 12) (.v 0)) 9)) (.mn (.v 21) (.sub (.v 10) (.sub (.v 12) (.v 0)))) (.sub (.v 11) (.sub (.v 12) (.v 0)))] [] [(24, .i), (25, .i), (26, .i), (27, .i), (28, .i), (29, .i), (30, .p), (31, .n), (32, .n)] (.agg [vI 24, vI 25, vI 26, vI 27, vI 28, vI 29, vS 30]) .fresh
(.ret (.tup [.agg [vI 24, vI 25, vI 26, vI 27, vI 28, vI 29, vS 30], .int .i64 (.mn (.v 21) (.sub (.v 10) (.sub (.v 12) (.v 0)))), .int .i64 (.k 0)]) []))))))))))
(.ret (.tup [.agg [.int .i64 (.k 0), .int .i64 (.k 0), .int .i64 (.k 0), .int .i64 (.k 0), .int .i64 (.k 0), .int .i64 (.k 0), .c (Value.slice none 0 0)], .int .i64 (.k 0), .int .i64 (.k 1)]) [])))))
(.ret (.tup [.agg [.int .i64 (.k 0), .int .i64 (.k 0), .int .i64 (.k 0), .int .i64 (.k 0), .int .i64 (.k 0), .int .i64 (.k 0), .c (Value.slice none 0 0)], .int .i64 (.k 0), vI 22]) []))))))
theorem x_nodeRun (x0 x1 x2 x3 x4 x5 : Int) (x6 : Option Loc) (x7 x8 : Nat) (x9 : Option Loc) (x10 x11 : Nat) (x12 x13 x14 x15 x16 x17 : Int) (x18 : Option Loc) (x19 x20 : Nat) (x21 : Int) (M : Nat → Prop) (H0 : Hp) (W0 : World) (R : Ending → World → Prop) (hH : H0.le (hpOf W0)) (h :
 (∀ b0 : Nat,
 (∀ b1 : Nat,
 (∀ b2 : Nat,
 (Cl Tryz.prog W0 M H0 nK 48 #[Value.agg #[vi x0, vi x1, vi x2, vi x3, vi x4, vi x5, vsl x6 x7 x8, vsl x9 x10 x11], Value.agg #[vi x12, vi x13, vi x14, vi x15, vi x16, vi x17, vsl x18 x19 x20]] fun z W1 W2 => ∃ x22 : Int, z = .returned (vi x22) ∧ Ext W1 W2 ∧
 ((x22 = 0 →
  ((x21 < 0 →
   Rt R W0 M H0 nK (Value.tuple #[Value.agg #[vi 0, vi 0, vi 0, vi 0, vi 0, vi 0, Value.slice none 0 0], vi 0, vi 3])) ∧
  (¬ (x21 < 0) →
   ((50 < x21 →
    Rt R W0 M H0 nK (Value.tuple #[Value.agg #[vi 0, vi 0, vi 0, vi 0, vi 0, vi 0, Value.slice none 0 0], vi 0, vi 3])) ∧
   (¬ (50 < x21) →
    (Cl Tryz.prog W0 M H0 nK 42 #[Value.agg #[vi x0, vi x1, vi x2, vi x3, vi x4, vi x5, vsl x6 x7 x8, vsl x9 x10 x11], Value.agg #[vi x12, vi x13, vi x14, vi x15, vi x16, vi x17, vsl x18 x19 x20]] fun z W3 W4 => ∃ x23 : Bool, z = .returned (vb (x23)) ∧ Ext W3 W4 ∧
    ((x23 = true →
     ((x12 < x0 →
      (inKind .i64 (x0 - x0) ∧ (inKind .i64 (x0 - x0) →
      (0 ≤ (x0 - x0) ∧ (0 ≤ (x0 - x0) →
      ((x0 - x0) ≤ (x10 : Int) ∧ ((x0 - x0) ≤ (x10 : Int) →
      ((x10 : Int) ≤ (x11 : Int) ∧ ((x10 : Int) ≤ (x11 : Int) →
      (0 ≤ ((x10 : Int) - (x0 - x0)) ∧ (0 ≤ ((x10 : Int) - (x0 - x0)) →
      (0 ≤ (if ((x10 : Int) - (x0 - x0)) < x21 then ((x10 : Int) - (x0 - x0)) else x21) ∧ (0 ≤ (if ((x10 : Int) - (x0 - x0)) < x21 then ((x10 : Int) - (x0 - x0)) else x21) →
      ((if ((x10 : Int) - (x0 - x0)) < x21 then ((x10 : Int) - (x0 - x0)) else x21) ≤ ((x11 : Int) - (x0 - x0)) ∧ ((if ((x10 : Int) - (x0 - x0)) < x21 then ((x10 : Int) - (x0 - x0)) else x21) ≤ ((x11 : Int) - (x0 - x0)) →
      (Cl Tryz.prog W0 M H0 nK 31 #[Value.agg #[vi x0, vi x1, vi x2, vi x3, vi x4, vi x5, vsl x6 x7 x8], Value.slice (ptrAt x9 (0 + (if (x11 : Int) = (x0 - x0) then 0 else (x0 - x0) * ((9 : Nat) : Int)))) ((if ((x10 : Int) - (x0 - x0)) < x21 then ((x10 : Int) - (x0 - x0)) else x21) : Int).toNat (((x11 : Int) - (x0 - x0)) : Int).toNat] fun z W5 W6 => ∃ (x24 x25 x26 x27 x28 x29 : Int) (x30 : Option Loc) (x31 x32 : Nat), z = .returned (Value.agg #[vi x24, vi x25, vi x26, vi x27, vi x28, vi x29, vsl x30 x31 x32]) ∧ Fr W5 W6 H0 fun H1 =>
      Rt R W0 M H1 nK (Value.tuple #[Value.agg #[vi x24, vi x25, vi x26, vi x27, vi x28, vi x29, vsl x30 x31 x32], vi (if ((x10 : Int) - (x0 - x0)) < x21 then ((x10 : Int) - (x0 - x0)) else x21), vi 0]))))))))))))))))) ∧
     (¬ (x12 < x0) →
      (inKind .i64 (x12 - x0) ∧ (inKind .i64 (x12 - x0) →
      (0 ≤ (x12 - x0) ∧ (0 ≤ (x12 - x0) →
      ((x12 - x0) ≤ (x10 : Int) ∧ ((x12 - x0) ≤ (x10 : Int) →
      ((x10 : Int) ≤ (x11 : Int) ∧ ((x10 : Int) ≤ (x11 : Int) →
      (0 ≤ ((x10 : Int) - (x12 - x0)) ∧ (0 ≤ ((x10 : Int) - (x12 - x0)) →
      (0 ≤ (if ((x10 : Int) - (x12 - x0)) < x21 then ((x10 : Int) - (x12 - x0)) else x21) ∧ (0 ≤ (if ((x10 : Int) - (x12 - x0)) < x21 then ((x10 : Int) - (x12 - x0)) else x21) →
      ((if ((x10 : Int) - (x12 - x0)) < x21 then ((x10 : Int) - (x12 - x0)) else x21) ≤ ((x11 : Int) - (x12 - x0)) ∧ ((if ((x10 : Int) - (x12 - x0)) < x21 then ((x10 : Int) - (x12 - x0)) else x21) ≤ ((x11 : Int) - (x12 - x0)) →
      (Cl Tryz.prog W0 M H0 nK 31 #[Value.agg #[vi x12, vi x13, vi x14, vi x15, vi x16, vi x17, vsl x18 x19 x20], Value.slice (ptrAt x9 (0 + (if (x11 : Int) = (x12 - x0) then 0 else (x12 - x0) * ((9 : Nat) : Int)))) ((if ((x10 : Int) - (x12 - x0)) < x21 then ((x10 : Int) - (x12 - x0)) else x21) : Int).toNat (((x11 : Int) - (x12 - x0)) : Int).toNat] fun z W5 W6 => ∃ (x24 x25 x26 x27 x28 x29 : Int) (x30 : Option Loc) (x31 x32 : Nat), z = .returned (Value.agg #[vi x24, vi x25, vi x26, vi x27, vi x28, vi x29, vsl x30 x31 x32]) ∧ Fr W5 W6 H0 fun H1 =>
      Rt R W0 M H1 nK (Value.tuple #[Value.agg #[vi x24, vi x25, vi x26, vi x27, vi x28, vi x29, vsl x30 x31 x32], vi (if ((x10 : Int) - (x12 - x0)) < x21 then ((x10 : Int) - (x12 - x0)) else x21), vi 0]))))))))))))))))))) ∧
    (¬ (x23 = true) →
     Rt R W0 M H0 nK (Value.tuple #[Value.agg #[vi 0, vi 0, vi 0, vi 0, vi 0, vi 0, Value.slice none 0 0], vi 0, vi 1]))))))))) ∧
 (¬ (x22 = 0) →
  Rt R W0 M H0 nK (Value.tuple #[Value.agg #[vi 0, vi 0, vi 0, vi 0, vi 0, vi 0, Value.slice none 0 0], vi 0, vi x22])))))))) :
  Calls Tryz.prog 28 #[Value.agg #[vi x0, vi x1, vi x2, vi x3, vi x4, vi x5, vsl x6 x7 x8, vsl x9 x10 x11], Value.agg #[vi x12, vi x13, vi x14, vi x15, vi x16, vi x17, vsl x18 x19 x20], vi x21] W0 R :=
  calls_sxA (M := M) (V := v_nodeRun) (hi := {}) (args := [.agg [vI 0, vI 1, vI 2, vI 3, vI 4, vI 5, vS 6, vS 9], .agg [vI 12, vI 13, vI 14, vI 15, vI 16, vI 17, vS 18], vI 21]) (nv := 22) (e := (upd (upd (upd (upd (upd (upd (upd (upd (upd (upd (upd (upd (upd (upd (upd (upd (upd (upd (upd (upd (upd (upd (fun _ => .i 0) 0 (.i x0)) 1 (.i x1)) 2 (.i x2)) 3 (.i x3)) 4 (.i x4)) 5 (.i x5)) 6 (.p x6)) 7 (.n x7)) 8 (.n x8)) 9 (.p x9)) 10 (.n x10)) 11 (.n x11)) 12 (.i x12)) 13 (.i x13)) 14 (.i x14)) 15 (.i x15)) 16 (.i x16)) 17 (.i x17)) 18 (.p x18)) 19 (.n x19)) 20 (.n x20)) 21 (.i x21))) Tryz.func28 hH h (by kernel_rfl) (by kernel_rfl) (by kernel_rfl)
def v_rfits : VC :=
(.all 0
(.all 1
(.chk (.rng .i64 (.sub (.v 12) (.v 0)))
(.ite (.lt (.sub (.v 12) (.v 0)) (.k 0))
(.ret (.bool (.k true)) [])
(.chk (.le (.k 0) (.v 10))
(.ite (.lt (.v 10) (.sub (.v 12) (.v 0)))
(.ret (.bool (.k false)) [])
(.chk (.le (.k 0) (.sub (.v 12) (.v 0)))
(.chk (.le (.sub (.v 12) (.v 0)) (.v 11))
(.call 40 [.agg [vI 0, vI 1, vI 2, vI 3, vI 4, vI 5, vS 6], .slO 9 (.k 0) (.sub (.v 12) (.v 0)) (.v 11)] [] [(21, .i), (22, .i), (23, .i), (24, .i), (25, .i), (26, .i), (27, .p), (28, .n), (29, .n), (30, .p), (31, .n), (32, .n), (33, .p), (34, .n), (35, .n)] (.tup [.agg [vI 21, vI 22, vI 23, vI 24, vI 25, vI 26, vS 27], vS 30, vS 33]) .fresh
(.all 2
(.call 35 [.agg [vI 21, vI 22, vI 23, vI 24, vI 25, vI 26, vS 27], .agg [vI 12, vI 13, vI 14, vI 15, vI 16, vI 17, vS 18]] [] [(36, .b)] (.bool (.v 36)) .same
(.ret (.bool (.v 36)) []))))))))))))
theorem x_rfits (x0 x1 x2 x3 x4 x5 : Int) (x6 : Option Loc) (x7 x8 : Nat) (x9 : Option Loc) (x10 x11 : Nat) (x12 x13 x14 x15 x16 x17 : Int) (x18 : Option Loc) (x19 x20 : Nat) (M : Nat → Prop) (H0 : Hp) (W0 : World) (R : Ending → World → Prop) (hH : H0.le (hpOf W0)) (h :
 (∀ b0 : Nat,
 (∀ b1 : Nat,
 (inKind .i64 (x12 - x0) ∧ (inKind .i64 (x12 - x0) →
 (((x12 - x0) < 0 →
  Rt R W0 M H0 nK (vb (true))) ∧
 (¬ ((x12 - x0) < 0) →
  (0 ≤ (x10 : Int) ∧ (0 ≤ (x10 : Int) →
  (((x10 : Int) < (x12 - x0) →
   Rt R W0 M H0 nK (vb (false))) ∧
  (¬ ((x10 : Int) < (x12 - x0)) →
   (0 ≤ (x12 - x0) ∧ (0 ≤ (x12 - x0) →
   ((x12 - x0) ≤ (x11 : Int) ∧ ((x12 - x0) ≤ (x11 : Int) →
   (Cl Tryz.prog W0 M H0 nK 40 #[Value.agg #[vi x0, vi x1, vi x2, vi x3, vi x4, vi x5, vsl x6 x7 x8], vsl x9 ((x12 - x0) : Int).toNat x11] fun z W1 W2 => ∃ (x21 x22 x23 x24 x25 x26 : Int) (x27 : Option Loc) (x28 x29 : Nat) (x30 : Option Loc) (x31 x32 : Nat) (x33 : Option Loc) (x34 x35 : Nat), z = .returned (Value.tuple #[Value.agg #[vi x21, vi x22, vi x23, vi x24, vi x25, vi x26, vsl x27 x28 x29], vsl x30 x31 x32, vsl x33 x34 x35]) ∧ Fr W1 W2 H0 fun H1 =>
   (∀ b2 : Nat,
   (Cl Tryz.prog W0 M H1 nK 35 #[Value.agg #[vi x21, vi x22, vi x23, vi x24, vi x25, vi x26, vsl x27 x28 x29], Value.agg #[vi x12, vi x13, vi x14, vi x15, vi x16, vi x17, vsl x18 x19 x20]] fun z W3 W4 => ∃ x36 : Bool, z = .returned (vb (x36)) ∧ Ext W3 W4 ∧
   Rt R W0 M H1 nK (vb (x36)))))))))))))))))))) :
  Calls Tryz.prog 18 #[Value.agg #[vi x0, vi x1, vi x2, vi x3, vi x4, vi x5, vsl x6 x7 x8, vsl x9 x10 x11], Value.agg #[vi x12, vi x13, vi x14, vi x15, vi x16, vi x17, vsl x18 x19 x20]] W0 R :=
  calls_sxA (M := M) (V := v_rfits) (hi := {}) (args := [.agg [vI 0, vI 1, vI 2, vI 3, vI 4, vI 5, vS 6, vS 9], .agg [vI 12, vI 13, vI 14, vI 15, vI 16, vI 17, vS 18]]) (nv := 21) (e := (upd (upd (upd (upd (upd (upd (upd (upd (upd (upd (upd (upd (upd (upd (upd (upd (upd (upd (upd (upd (upd (fun _ => .i 0) 0 (.i x0)) 1 (.i x1)) 2 (.i x2)) 3 (.i x3)) 4 (.i x4)) 5 (.i x5)) 6 (.p x6)) 7 (.n x7)) 8 (.n x8)) 9 (.p x9)) 10 (.n x10)) 11 (.n x11)) 12 (.i x12)) 13 (.i x13)) 14 (.i x14)) 15 (.i x15)) 16 (.i x16)) 17 (.i x17)) 18 (.p x18)) 19 (.n x19)) 20 (.n x20))) Tryz.func18 hH h (by kernel_rfl) (by kernel_rfl) (by kernel_rfl)
def v_nodeError : VC :=
(.all 0
(.all 1
(.call 16 [.agg [vI 0, vI 1, vI 2, vI 3, vI 4, vI 5, vS 6, vS 9]] [] [(21, .i)] (vI 21) .same
(.ite (.eq (.v 21) (.k 0))
(.call 17 [.agg [vI 12, vI 13, vI 14, vI 15, vI 16, vI 17, vS 18]] [] [(22, .i)] (vI 22) .same
(.ret (vI 22) []))
(.ret (vI 21) [])))))
theorem x_nodeError (x0 x1 x2 x3 x4 x5 : Int) (x6 : Option Loc) (x7 x8 : Nat) (x9 : Option Loc) (x10 x11 : Nat) (x12 x13 x14 x15 x16 x17 : Int) (x18 : Option Loc) (x19 x20 : Nat) (M : Nat → Prop) (H0 : Hp) (W0 : World) (R : Ending → World → Prop) (hH : H0.le (hpOf W0)) (h :
 (∀ b0 : Nat,
 (∀ b1 : Nat,
 (Cl Tryz.prog W0 M H0 nK 16 #[Value.agg #[vi x0, vi x1, vi x2, vi x3, vi x4, vi x5, vsl x6 x7 x8, vsl x9 x10 x11]] fun z W1 W2 => ∃ x21 : Int, z = .returned (vi x21) ∧ Ext W1 W2 ∧
 ((x21 = 0 →
  (Cl Tryz.prog W0 M H0 nK 17 #[Value.agg #[vi x12, vi x13, vi x14, vi x15, vi x16, vi x17, vsl x18 x19 x20]] fun z W3 W4 => ∃ x22 : Int, z = .returned (vi x22) ∧ Ext W3 W4 ∧
  Rt R W0 M H0 nK (vi x22))) ∧
 (¬ (x21 = 0) →
  Rt R W0 M H0 nK (vi x21))))))) :
  Calls Tryz.prog 52 #[Value.agg #[vi x0, vi x1, vi x2, vi x3, vi x4, vi x5, vsl x6 x7 x8, vsl x9 x10 x11], Value.agg #[vi x12, vi x13, vi x14, vi x15, vi x16, vi x17, vsl x18 x19 x20]] W0 R :=
  calls_sxA (M := M) (V := v_nodeError) (hi := {}) (args := [.agg [vI 0, vI 1, vI 2, vI 3, vI 4, vI 5, vS 6, vS 9], .agg [vI 12, vI 13, vI 14, vI 15, vI 16, vI 17, vS 18]]) (nv := 21) (e := (upd (upd (upd (upd (upd (upd (upd (upd (upd (upd (upd (upd (upd (upd (upd (upd (upd (upd (upd (upd (upd (fun _ => .i 0) 0 (.i x0)) 1 (.i x1)) 2 (.i x2)) 3 (.i x3)) 4 (.i x4)) 5 (.i x5)) 6 (.p x6)) 7 (.n x7)) 8 (.n x8)) 9 (.p x9)) 10 (.n x10)) 11 (.n x11)) 12 (.i x12)) 13 (.i x13)) 14 (.i x14)) 15 (.i x15)) 16 (.i x16)) 17 (.i x17)) 18 (.p x18)) 19 (.n x19)) 20 (.n x20))) Tryz.func52 hH h (by kernel_rfl) (by kernel_rfl) (by kernel_rfl)
def v_runOf : VC :=
(.all 0
(.all 1
(.all 2
(.call 52 [.agg [vI 0, vI 1, vI 2, vI 3, vI 4, vI 5, vS 6, vS 9], .agg [vI 12, vI 13, vI 14, vI 15, vI 16, vI 17, vS 18]] [] [(22, .i)] (vI 22) .same
(.ite (.eq (.v 22) (.k 0))
(.call 33 [vI 21, .int .i64 (.k 0), .int .i64 (.k 50)] [] [(23, .b)] (.bool (.v 23)) .same
(.ite (.v 23)
(.call 18 [.agg [vI 0, vI 1, vI 2, vI 3, vI 4, vI 5, vS 6, vS 9], .agg [vI 12, vI 13, vI 14, vI 15, vI 16, vI 17, vS 18]] [] [(24, .b)] (.bool (.v 24)) .same
(.ite (.v 24)
(.ite (.lt (.v 12) (.v 0))
(.chk (.rng .i64 (.sub (.v 0) (.v 0)))
(.chk (.le (.k 0) (.v 10))
(.chk (.rng .i64 (.add (.sub (.v 0) (.v 0)) (.v 21)))
(.chk (.le (.k 0) (.sub (.v 0) (.v 0)))
(.chk (.le (.sub (.v 0) (.v 0)) (.mn (.v 10) (.add (.sub (.v 0) (.v 0)) (.v 21))))
(.chk (.le (.mn (.v 10) (.add (.sub (.v 0) (.v 0)) (.v 21))) (.v 11))
(.call 40 [.agg [vI 0, vI 1, vI 2, vI 3, vI 4, vI 5, vS 6], .slO 9 (.add (.k 0) (.skip (.v 11) (.sub (.v 0) (.v 0)) 9)) (.sub (.mn (.v 10) (.add (.sub (.v 0) (.v 0)) (.v 21))) (.sub (.v 0) (.v 0))) (.sub (.v 11) (.sub (.v 0) (.v 0)))] [] [(25, .i), (26, .i), (27, .i), (28, .i), (29, .i), (30, .i), (31, .p), (32, .n), (33, .n), (34, .p), (35, .n), (36, .n), (37, .p), (38, .n), (39, .n)] (.tup [.agg [vI 25, vI 26, vI 27, vI 28, vI 29, vI 30, vS 31], vS 34, vS 37]) .fresh
(.all 3
(.chk (.rng .i64 (.sub (.mn (.v 10) (.add (.sub (.v 0) (.v 0)) (.v 21))) (.sub (.v 0) (.v 0))))
(.ret (.tup [.agg [vI 25, vI 26, vI 27, vI 28, vI 29, vI 30, vS 31], .int .i64 (.sub (.mn (.v 10) (.add (.sub (.v 0) (.v 0)) (.v 21))) (.sub (.v 0) (.v 0))), .int .i64 (.k 0)]) []))))))))))
(.chk (.rng .i64 (.sub (.v 12) (.v 0)))
(.chk (.le (.k 0) (.v 10))
(.chk (.rng .i64 (.add (.sub (.v 12) (.v 0)) (.v 21)))
(.chk (.le (.k 0) (.sub (.v 12) (.v 0)))
(.chk (.le (.sub (.v 12) (.v 0)) (.mn (.v 10) (.add (.sub (.v 12) (.v 0)) (.v 21))))
(.chk (.le (.mn (.v 10) (.add (.sub (.v 12) (.v 0)) (.v 21))) (.v 11))
(.call 40 [.agg [vI 12, vI 13, vI 14, vI 15, vI 16, vI 17, vS 18], .slO 9 (.add (.k 0) (.skip (.v 11) (.sub (.v 12) (.v 0)) 9)) (.sub (.mn (.v 10) (.add (.sub (.v 12) (.v 0)) (.v 21))) (.sub (.v 12) (.v 0))) (.sub (.v 11) (.sub (.v 12) (.v 0)))] [] [(25, .i), (26, .i), (27, .i), (28, .i), (29, .i), (30, .i), (31, .p), (32, .n), (33, .n), (34, .p), (35, .n), (36, .n), (37, .p), (38, .n), (39, .n)] (.tup [.agg [vI 25, vI 26, vI 27, vI 28, vI 29, vI 30, vS 31], vS 34, vS 37]) .fresh
(.all 3
(.chk (.rng .i64 (.sub (.mn (.v 10) (.add (.sub (.v 12) (.v 0)) (.v 21))) (.sub (.v 12) (.v 0))))
(.ret (.tup [.agg [vI 25, vI 26, vI 27, vI 28, vI 29, vI 30, vS 31], .int .i64 (.sub (.mn (.v 10) (.add (.sub (.v 12) (.v 0)) (.v 21))) (.sub (.v 12) (.v 0))), .int .i64 (.k 0)]) [])))))))))))
(.ret (.tup [.agg [.int .i64 (.k 0), .int .i64 (.k 0), .int .i64 (.k 0), .int .i64 (.k 0), .int .i64 (.k 0), .int .i64 (.k 0), .c (Value.slice none 0 0)], .int .i64 (.k 0), .int .i64 (.k 1)]) [])))
(.ret (.tup [.agg [.int .i64 (.k 0), .int .i64 (.k 0), .int .i64 (.k 0), .int .i64 (.k 0), .int .i64 (.k 0), .int .i64 (.k 0), .c (Value.slice none 0 0)], .int .i64 (.k 0), .int .i64 (.k 3)]) [])))
(.ret (.tup [.agg [.int .i64 (.k 0), .int .i64 (.k 0), .int .i64 (.k 0), .int .i64 (.k 0), .int .i64 (.k 0), .int .i64 (.k 0), .c (Value.slice none 0 0)], .int .i64 (.k 0), vI 22]) []))))))
theorem x_runOf (x0 x1 x2 x3 x4 x5 : Int) (x6 : Option Loc) (x7 x8 : Nat) (x9 : Option Loc) (x10 x11 : Nat) (x12 x13 x14 x15 x16 x17 : Int) (x18 : Option Loc) (x19 x20 : Nat) (x21 : Int) (M : Nat → Prop) (H0 : Hp) (W0 : World) (R : Ending → World → Prop) (hH : H0.le (hpOf W0)) (h :
 (∀ b0 : Nat,
 (∀ b1 : Nat,
 (∀ b2 : Nat,
 (Cl Tryz.prog W0 M H0 nK 52 #[Value.agg #[vi x0, vi x1, vi x2, vi x3, vi x4, vi x5, vsl x6 x7 x8, vsl x9 x10 x11], Value.agg #[vi x12, vi x13, vi x14, vi x15, vi x16, vi x17, vsl x18 x19 x20]] fun z W1 W2 => ∃ x22 : Int, z = .returned (vi x22) ∧ Ext W1 W2 ∧
 ((x22 = 0 →
  (Cl Tryz.prog W0 M H0 nK 33 #[vi x21, vi 0, vi 50] fun z W3 W4 => ∃ x23 : Bool, z = .returned (vb (x23)) ∧ Ext W3 W4 ∧
  ((x23 = true →
   (Cl Tryz.prog W0 M H0 nK 18 #[Value.agg #[vi x0, vi x1, vi x2, vi x3, vi x4, vi x5, vsl x6 x7 x8, vsl x9 x10 x11], Value.agg #[vi x12, vi x13, vi x14, vi x15, vi x16, vi x17, vsl x18 x19 x20]] fun z W5 W6 => ∃ x24 : Bool, z = .returned (vb (x24)) ∧ Ext W5 W6 ∧
   ((x24 = true →
    ((x12 < x0 →
     (inKind .i64 (x0 - x0) ∧ (inKind .i64 (x0 - x0) →
     (0 ≤ (x10 : Int) ∧ (0 ≤ (x10 : Int) →
     (inKind .i64 ((x0 - x0) + x21) ∧ (inKind .i64 ((x0 - x0) + x21) →
     (0 ≤ (x0 - x0) ∧ (0 ≤ (x0 - x0) →
     ((x0 - x0) ≤ (if ((x0 - x0) + x21) < (x10 : Int) then ((x0 - x0) + x21) else (x10 : Int)) ∧ ((x0 - x0) ≤ (if ((x0 - x0) + x21) < (x10 : Int) then ((x0 - x0) + x21) else (x10 : Int)) →
     ((if ((x0 - x0) + x21) < (x10 : Int) then ((x0 - x0) + x21) else (x10 : Int)) ≤ (x11 : Int) ∧ ((if ((x0 - x0) + x21) < (x10 : Int) then ((x0 - x0) + x21) else (x10 : Int)) ≤ (x11 : Int) →
     (Cl Tryz.prog W0 M H0 nK 40 #[Value.agg #[vi x0, vi x1, vi x2, vi x3, vi x4, vi x5, vsl x6 x7 x8], Value.slice (ptrAt x9 (0 + (if (x11 : Int) = (x0 - x0) then 0 else (x0 - x0) * ((9 : Nat) : Int)))) (((if ((x0 - x0) + x21) < (x10 : Int) then ((x0 - x0) + x21) else (x10 : Int)) - (x0 - x0)) : Int).toNat (((x11 : Int) - (x0 - x0)) : Int).toNat] fun z W7 W8 => ∃ (x25 x26 x27 x28 x29 x30 : Int) (x31 : Option Loc) (x32 x33 : Nat) (x34 : Option Loc) (x35 x36 : Nat) (x37 : Option Loc) (x38 x39 : Nat), z = .returned (Value.tuple #[Value.agg #[vi x25, vi x26, vi x27, vi x28, vi x29, vi x30, vsl x31 x32 x33], vsl x34 x35 x36, vsl x37 x38 x39]) ∧ Fr W7 W8 H0 fun H1 =>
     (∀ b3 : Nat,
     (inKind .i64 ((if ((x0 - x0) + x21) < (x10 : Int) then ((x0 - x0) + x21) else (x10 : Int)) - (x0 - x0)) ∧ (inKind .i64 ((if ((x0 - x0) + x21) < (x10 : Int) then ((x0 - x0) + x21) else (x10 : Int)) - (x0 - x0)) →
     Rt R W0 M H1 nK (Value.tuple #[Value.agg #[vi x25, vi x26, vi x27, vi x28, vi x29, vi x30, vsl x31 x32 x33], vi ((if ((x0 - x0) + x21) < (x10 : Int) then ((x0 - x0) + x21) else (x10 : Int)) - (x0 - x0)), vi 0])))))))))))))))))) ∧
    (¬ (x12 < x0) →
     (inKind .i64 (x12 - x0) ∧ (inKind .i64 (x12 - x0) →
     (0 ≤ (x10 : Int) ∧ (0 ≤ (x10 : Int) →
     (inKind .i64 ((x12 - x0) + x21) ∧ (inKind .i64 ((x12 - x0) + x21) →
     (0 ≤ (x12 - x0) ∧ (0 ≤ (x12 - x0) →
     ((x12 - x0) ≤ (if ((x12 - x0) + x21) < (x10 : Int) then ((x12 - x0) + x21) else (x10 : Int)) ∧ ((x12 - x0) ≤ (if ((x12 - x0) + x21) < (x10 : Int) then ((x12 - x0) + x21) else (x10 : Int)) →
     ((if ((x12 - x0) + x21) < (x10 : Int) then ((x12 - x0) + x21) else (x10 : Int)) ≤ (x11 : Int) ∧ ((if ((x12 - x0) + x21) < (x10 : Int) then ((x12 - x0) + x21) else (x10 : Int)) ≤ (x11 : Int) →
     (Cl Tryz.prog W0 M H0 nK 40 #[Value.agg #[vi x12, vi x13, vi x14, vi x15, vi x16, vi x17, vsl x18 x19 x20], Value.slice (ptrAt x9 (0 + (if (x11 : Int) = (x12 - x0) then 0 else (x12 - x0) * ((9 : Nat) : Int)))) (((if ((x12 - x0) + x21) < (x10 : Int) then ((x12 - x0) + x21) else (x10 : Int)) - (x12 - x0)) : Int).toNat (((x11 : Int) - (x12 - x0)) : Int).toNat] fun z W7 W8 => ∃ (x25 x26 x27 x28 x29 x30 : Int) (x31 : Option Loc) (x32 x33 : Nat) (x34 : Option Loc) (x35 x36 : Nat) (x37 : Option Loc) (x38 x39 : Nat), z = .returned (Value.tuple #[Value.agg #[vi x25, vi x26, vi x27, vi x28, vi x29, vi x30, vsl x31 x32 x33], vsl x34 x35 x36, vsl x37 x38 x39]) ∧ Fr W7 W8 H0 fun H1 =>
     (∀ b3 : Nat,
     (inKind .i64 ((if ((x12 - x0) + x21) < (x10 : Int) then ((x12 - x0) + x21) else (x10 : Int)) - (x12 - x0)) ∧ (inKind .i64 ((if ((x12 - x0) + x21) < (x10 : Int) then ((x12 - x0) + x21) else (x10 : Int)) - (x12 - x0)) →
     Rt R W0 M H1 nK (Value.tuple #[Value.agg #[vi x25, vi x26, vi x27, vi x28, vi x29, vi x30, vsl x31 x32 x33], vi ((if ((x12 - x0) + x21) < (x10 : Int) then ((x12 - x0) + x21) else (x10 : Int)) - (x12 - x0)), vi 0])))))))))))))))))))) ∧
   (¬ (x24 = true) →
    Rt R W0 M H0 nK (Value.tuple #[Value.agg #[vi 0, vi 0, vi 0, vi 0, vi 0, vi 0, Value.slice none 0 0], vi 0, vi 1]))))) ∧
  (¬ (x23 = true) →
   Rt R W0 M H0 nK (Value.tuple #[Value.agg #[vi 0, vi 0, vi 0, vi 0, vi 0, vi 0, Value.slice none 0 0], vi 0, vi 3]))))) ∧
 (¬ (x22 = 0) →
  Rt R W0 M H0 nK (Value.tuple #[Value.agg #[vi 0, vi 0, vi 0, vi 0, vi 0, vi 0, Value.slice none 0 0], vi 0, vi x22])))))))) :
  Calls Tryz.prog 34 #[Value.agg #[vi x0, vi x1, vi x2, vi x3, vi x4, vi x5, vsl x6 x7 x8, vsl x9 x10 x11], Value.agg #[vi x12, vi x13, vi x14, vi x15, vi x16, vi x17, vsl x18 x19 x20], vi x21] W0 R :=
  calls_sxA (M := M) (V := v_runOf) (hi := {}) (args := [.agg [vI 0, vI 1, vI 2, vI 3, vI 4, vI 5, vS 6, vS 9], .agg [vI 12, vI 13, vI 14, vI 15, vI 16, vI 17, vS 18], vI 21]) (nv := 22) (e := (upd (upd (upd (upd (upd (upd (upd (upd (upd (upd (upd (upd (upd (upd (upd (upd (upd (upd (upd (upd (upd (upd (fun _ => .i 0) 0 (.i x0)) 1 (.i x1)) 2 (.i x2)) 3 (.i x3)) 4 (.i x4)) 5 (.i x5)) 6 (.p x6)) 7 (.n x7)) 8 (.n x8)) 9 (.p x9)) 10 (.n x10)) 11 (.n x11)) 12 (.i x12)) 13 (.i x13)) 14 (.i x14)) 15 (.i x15)) 16 (.i x16)) 17 (.i x17)) 18 (.p x18)) 19 (.n x19)) 20 (.n x20)) 21 (.i x21))) Tryz.func34 hH h (by kernel_rfl) (by kernel_rfl) (by kernel_rfl)
end Go.Proofs.YtfpmcmhihhnfgaaGreat
namespace Go.Proofs.YtfpmcmhihhnfgaaGreat
open Go.RowKit
def RunPost (r : Sta × Int × Int) (v : Value) (D : Hp) : Prop := ∃ p n c, v = .tuple #[r.1.val (vsl p n c), vi r.2.1, vi r.2.2] ∧ Tab D p n c r.1.table
theorem RunPost.bad (D : Hp) (x : Int) : RunPost (Sta.zero, 0, x) (.tuple #[.agg #[vi 0, vi 0, vi 0, vi 0, vi 0, vi 0, Value.slice none 0 0], vi 0, vi x]) D := ⟨none, 0, 0, rfl, Tab.nil _ _⟩
theorem take_min {α : Type} (l : List α) (i : Nat) : l.take (min i l.length) = l.take i := by
  rcases Nat.le_total i l.length with h | h
  · rw [Nat.min_eq_left h]
  · rw [Nat.min_eq_right h, List.take_length, List.take_of_length_le h]
section
variable {H : Hp} {p q r : Option Loc} {n c m d k e : Nat} {b s : Sta} {l : List Ent}
theorem Ents.seg (hE : Ents H q m d l) {k j : Nat} (hk : k + j ≤ m) : ∃ q', ptrAt q (0 + (if (d : Int) = (k : Int) then 0 else (k : Int) * ((9 : Nat) : Int))) = ptrAt q' 0 ∧ Ents H q' j (d - k) ((l.drop k).take j) := by
  obtain ⟨q', e1, hE'⟩ := hE.drop k (by omega)
  exact ⟨q', (Value.slice.inj e1).1, hE'.take j (by omega)⟩
theorem c_nodeRight (ho : LogOk b l) (hs : StOk s) (hT : Tab H p n c b.table) (hE : Ents H q m d l) (hS : Tab H r k e s.table) :
    Gv Tryz.prog 42 #[logV b (vsl p n c) (vsl q m d), s.val (vsl r k e)] H (vb (nFits b l s)) := fun W hH => by
  have hm := hE.len
  have hcap := hE.1
  have hpos := ho.base.pos
  have hps := hs.pos
  refine x_nodeRight _ _ _ _ _ _ p n c q m d _ _ _ _ _ _ r k e noM H W _ hH fun b0 b1 => ⟨in64 (by omega), fun _ => ⟨fun h1 => Rt.gv' (by rw [nFits_lo h1]), fun h1 => ⟨by omega, fun _ => ⟨fun h2 => ⟨by omega, fun _ => ⟨by omega, fun _ => ?_⟩⟩, fun h2 => Rt.gv' (by rw [nFits_hi (by omega)])⟩⟩⟩⟩
  rw [nFits_mid h1 (by omega)]
  obtain ⟨j, hj⟩ : ∃ j : Nat, s.pos - b.pos = j := ⟨(s.pos - b.pos).toNat, by omega⟩
  rw [hj, Int.toNat_natCast]
  refine Cl.fresh (c_last hT ho.base (hE.take j (by omega)) (fun e he => ho.ents e (List.mem_of_mem_take he)) (by have := ho.len; rw [List.length_take]; omega)) ?_
  rintro v W1 W2 D ⟨p1, n1, c1, rfl, hT1⟩ hx hD hf nn
  refine ⟨_, _, _, _, _, _, p1, n1, c1, rfl, hx, D, hD, hf, fun H1 h1 hd1 => ?_⟩
  exact Cl.same (c_stSame (hT1.mono hd1) (hS.mono h1)) fun _ _ hx => ⟨_, rfl, hx, Rt.gv' rfl⟩
theorem c_rfits (ho : LogOk b l) (hs : StOk s) (hT : Tab H p n c b.table) (hE : Ents H q m d l) (hS : Tab H r k e s.table) :
    Gv Tryz.prog 18 #[logV b (vsl p n c) (vsl q m d), s.val (vsl r k e)] H (vb (nFits b l s)) := fun W hH => by
  have hm := hE.len
  have hcap := hE.1
  have hpos := ho.base.pos
  have hps := hs.pos
  refine x_rfits _ _ _ _ _ _ p n c q m d _ _ _ _ _ _ r k e noM H W _ hH fun b0 b1 => ⟨in64 (by omega), fun _ => ⟨fun h1 => Rt.gv' (by rw [nFits_lo h1]), fun h1 => ⟨by omega, fun _ => ⟨fun h2 => Rt.gv' (by rw [nFits_hi (by omega)]), fun h2 => ⟨by omega, fun _ => ⟨by omega, fun _ => ?_⟩⟩⟩⟩⟩⟩
  rw [nFits_mid h1 (by omega)]
  obtain ⟨j, hj⟩ : ∃ j : Nat, s.pos - b.pos = j := ⟨(s.pos - b.pos).toNat, by omega⟩
  rw [hj, Int.toNat_natCast]
  refine Cl.fresh (c_folded hT ho.base (hE.take j (by omega)) (fun e he => ho.ents e (List.mem_of_mem_take he)) (by have := ho.len; rw [List.length_take]; omega)) ?_
  rintro v W1 W2 D ⟨p1, n1, c1, pa, ca, ga, pb, cb, gb, rfl, hT1, _, _⟩ hx hD hf nn
  refine ⟨_, _, _, _, _, _, p1, n1, c1, pa, _, ca, pb, _, cb, rfl, hx, D, hD, hf, fun H1 h1 hd1 b2 => ?_⟩
  exact Cl.same (c_sameOf (hT1.mono hd1) (hS.mono h1)) fun _ _ hx => ⟨_, rfl, hx, Rt.gv' rfl⟩
theorem c_asked (hT : Tab H p n c b.table) (hE : Ents H q m d l) (hS : Tab H r k e s.table) :
    Gv Tryz.prog 48 #[logV b (vsl p n c) (vsl q m d), s.val (vsl r k e)] H (vi (nErr b l s)) := fun W hH => by
  refine x_asked _ _ _ _ _ _ p n c q m d _ _ _ _ _ _ r k e noM H W _ hH fun b0 b1 => ?_
  refine Cl.same (c_packCheck hT hE) fun _ _ hx => ⟨_, rfl, hx, fun h0 => ?_, fun h0 => Rt.gv' (by rw [nErr_log h0])⟩
  exact Cl.same (c_stCheck hS) fun _ _ hx => ⟨_, rfl, hx, Rt.gv' (by rw [nErr_st h0])⟩
theorem c_nodeError (hT : Tab H p n c b.table) (hE : Ents H q m d l) (hS : Tab H r k e s.table) :
    Gv Tryz.prog 52 #[logV b (vsl p n c) (vsl q m d), s.val (vsl r k e)] H (vi (nErr b l s)) := fun W hH => by
  refine x_nodeError _ _ _ _ _ _ p n c q m d _ _ _ _ _ _ r k e noM H W _ hH fun b0 b1 => ?_
  refine Cl.same (c_logErr hT hE) fun _ _ hx => ⟨_, rfl, hx, fun h0 => ?_, fun h0 => Rt.gv' (by rw [nErr_log h0])⟩
  exact Cl.same (c_stErr hS) fun _ _ hx => ⟨_, rfl, hx, Rt.gv' (by rw [nErr_st h0])⟩
theorem nRest_len {x : Int} (hx : ¬ (x < 0 ∨ 50 < x)) : (nRest b l s x).length = min x.toNat (l.length - nOf b s) := by unfold nRest; rw [List.length_take, List.length_drop]
theorem nRest_take {j : Nat} {x : Int} (hj : j = min x.toNat (l.length - nOf b s)) : (l.drop (nOf b s)).take j = nRest b l s x := by
  unfold nRest
  rw [hj, ← List.length_drop, take_min]
theorem c_nodeRun (hT : Tab H p n c b.table) (hE : Ents H q m d l) (hS : Tab H r k e s.table) (x : Int) :
    Gf Tryz.prog 28 #[logV b (vsl p n c) (vsl q m d), s.val (vsl r k e), vi x] H (RunPost (nRun b l s x)) := fun W hH => by
  have hm := hE.len
  have hcap := hE.1
  refine x_nodeRun _ _ _ _ _ _ p n c q m d _ _ _ _ _ _ r k e x noM H W _ hH fun b0 b1 b2 => ?_
  refine Cl.same (c_asked hT hE hS) fun _ _ hx => ⟨_, rfl, hx, fun h0 => ?_, fun h0 => Rt.gfn (by rw [nRun_bad h0]; exact RunPost.bad _ _)⟩
  obtain ⟨ho, hs⟩ := nErr_ok.1 h0
  have hps := hs.pos
  have hpb := ho.base.pos
  refine ⟨fun h1 => Rt.gfn (by rw [nRun_rng h0 (by omega)]; exact RunPost.bad _ _), fun h1 => ⟨fun h2 => Rt.gfn (by rw [nRun_rng h0 (by omega)]; exact RunPost.bad _ _), fun h2 => ?_⟩⟩
  have hr : ¬ (x < 0 ∨ 50 < x) := by omega
  refine Cl.same (c_nodeRight ho hs hT hE hS) fun _ _ hx => ⟨_, rfl, hx, fun h3 => ?_, fun h3 => Rt.gfn (by rw [nRun_not h0 hr (by simpa using h3)]; exact RunPost.bad _ _)⟩
  obtain ⟨a1, a2, a3⟩ := nAt_fold ho h3
  have ok1 : (nAt b s).pos + (((nRest b l s x).length : Nat) : Int) ≤ 50 := by
    have := nRest_len (b := b) (s := s) (l := l) hr
    have := ho.len
    omega
  rw [nRun_ok h0 hr h3]
  refine ⟨fun h4 => ?_, fun h4 => ?_⟩
  · have ht : nAt b s = b := if_pos h4
    have hk : b.pos - b.pos = ((nOf b s : Nat) : Int) := by have e5 := congrArg Sta.pos ht; omega
    rw [hk]
    have hjx := nRest_len (b := b) (s := s) (l := l) hr
    have ej : (if (m : Int) - ((nOf b s : Nat) : Int) < x then (m : Int) - ((nOf b s : Nat) : Int) else x) = (((nRest b l s x).length : Nat) : Int) := by omega
    rw [ht] at ok1
    refine ⟨in64 (by omega), fun _ => ⟨by omega, fun _ => ⟨by omega, fun _ => ⟨by omega, fun _ => ⟨by omega, fun _ => ⟨by omega, fun _ => ⟨by omega, fun _ => ?_⟩⟩⟩⟩⟩⟩⟩
    rw [ej]
    obtain ⟨q', e1, hE'⟩ := hE.seg (k := nOf b s) (j := (nRest b l s x).length) (by omega)
    rw [nRest_take hjx] at hE'
    rw [e1, Int.toNat_natCast, show ((d : Int) - ((nOf b s : Nat) : Int)).toNat = d - nOf b s by omega]
    refine Cl.fresh (c_last hT ho.base hE' (fun y hy => ho.ents y (List.mem_of_mem_drop (List.mem_of_mem_take hy))) ok1) ?_
    rintro v W1 W2 D ⟨p1, n1, c1, rfl, hT1⟩ hx hD hf nn
    refine ⟨_, _, _, _, _, _, p1, n1, c1, rfl, hx, D, hD, hf, fun H1 h1 hd1 => Rt.gfn ⟨p1, n1, c1, by rw [ht], ?_⟩⟩
    rw [ht]
    exact hT1.mono (le_newer hd1 (fun b o h => Nat.le_trans nn.mod.size (hf b o h)))
  · have ht : nAt b s = s := if_neg h4
    have hk : s.pos - b.pos = ((nOf b s : Nat) : Int) := by have e5 := congrArg Sta.pos ht; omega
    rw [hk]
    have hjx := nRest_len (b := b) (s := s) (l := l) hr
    have ej : (if (m : Int) - ((nOf b s : Nat) : Int) < x then (m : Int) - ((nOf b s : Nat) : Int) else x) = (((nRest b l s x).length : Nat) : Int) := by omega
    rw [ht] at ok1
    refine ⟨in64 (by omega), fun _ => ⟨by omega, fun _ => ⟨by omega, fun _ => ⟨by omega, fun _ => ⟨by omega, fun _ => ⟨by omega, fun _ => ⟨by omega, fun _ => ?_⟩⟩⟩⟩⟩⟩⟩
    rw [ej]
    obtain ⟨q', e1, hE'⟩ := hE.seg (k := nOf b s) (j := (nRest b l s x).length) (by omega)
    rw [nRest_take hjx] at hE'
    rw [e1, Int.toNat_natCast, show ((d : Int) - ((nOf b s : Nat) : Int)).toNat = d - nOf b s by omega]
    refine Cl.fresh (c_last hS hs hE' (fun y hy => ho.ents y (List.mem_of_mem_drop (List.mem_of_mem_take hy))) ok1) ?_
    rintro v W1 W2 D ⟨p1, n1, c1, rfl, hT1⟩ hx hD hf nn
    refine ⟨_, _, _, _, _, _, p1, n1, c1, rfl, hx, D, hD, hf, fun H1 h1 hd1 => Rt.gfn ⟨p1, n1, c1, by rw [ht], ?_⟩⟩
    rw [ht]
    exact hT1.mono (le_newer hd1 (fun b o h => Nat.le_trans nn.mod.size (hf b o h)))
theorem c_runOf (hT : Tab H p n c b.table) (hE : Ents H q m d l) (hS : Tab H r k e s.table) (x : Int) :
    Gf Tryz.prog 34 #[logV b (vsl p n c) (vsl q m d), s.val (vsl r k e), vi x] H (RunPost (nRun b l s x)) := fun W hH => by
  have hm := hE.len
  have hcap := hE.1
  refine x_runOf _ _ _ _ _ _ p n c q m d _ _ _ _ _ _ r k e x noM H W _ hH fun b0 b1 b2 => ?_
  refine Cl.same (c_nodeError hT hE hS) fun _ _ hx => ⟨_, rfl, hx, fun h0 => ?_, fun h0 => Rt.gfn (by rw [nRun_bad h0]; exact RunPost.bad _ _)⟩
  obtain ⟨ho, hs⟩ := nErr_ok.1 h0
  have hps := hs.pos
  have hpb := ho.base.pos
  refine Cl.same (c_within x 0 50 H) fun _ _ hx => ⟨_, rfl, hx, fun h1 => ?_, fun h1 => Rt.gfn (by rw [nRun_rng h0 (by simp [inR] at h1; omega)]; exact RunPost.bad _ _)⟩
  have hr : ¬ (x < 0 ∨ 50 < x) := by simp [inR] at h1; omega
  refine Cl.same (c_rfits ho hs hT hE hS) fun _ _ hx => ⟨_, rfl, hx, fun h3 => ?_, fun h3 => Rt.gfn (by rw [nRun_not h0 hr (by simpa using h3)]; exact RunPost.bad _ _)⟩
  obtain ⟨a1, a2, a3⟩ := nAt_fold ho h3
  have ok1 : (nAt b s).pos + (((nRest b l s x).length : Nat) : Int) ≤ 50 := by
    have := nRest_len (b := b) (s := s) (l := l) hr
    have := ho.len
    omega
  rw [nRun_ok h0 hr h3]
  refine ⟨fun h4 => ?_, fun h4 => ?_⟩
  · have ht : nAt b s = b := if_pos h4
    have hk : b.pos - b.pos = ((nOf b s : Nat) : Int) := by have e5 := congrArg Sta.pos ht; omega
    rw [hk]
    have hjx := nRest_len (b := b) (s := s) (l := l) hr
    have ej : ((if ((nOf b s : Nat) : Int) + x < (m : Int) then ((nOf b s : Nat) : Int) + x else (m : Int)) - ((nOf b s : Nat) : Int)) = (((nRest b l s x).length : Nat) : Int) := by omega
    rw [ht] at ok1
    refine ⟨in64 (by omega), fun _ => ⟨by omega, fun _ => ⟨in64 (by omega), fun _ => ⟨by omega, fun _ => ⟨by omega, fun _ => ⟨by omega, fun _ => ?_⟩⟩⟩⟩⟩⟩
    rw [ej]
    obtain ⟨q', e1, hE'⟩ := hE.seg (k := nOf b s) (j := (nRest b l s x).length) (by omega)
    rw [nRest_take hjx] at hE'
    rw [e1, Int.toNat_natCast, show ((d : Int) - ((nOf b s : Nat) : Int)).toNat = d - nOf b s by omega]
    refine Cl.fresh (c_folded hT ho.base hE' (fun y hy => ho.ents y (List.mem_of_mem_drop (List.mem_of_mem_take hy))) ok1) ?_
    rintro v W1 W2 D ⟨p1, n1, c1, pa, ca, ga, pb, cb, gb, rfl, hT1, _, _⟩ hx hD hf nn
    refine ⟨_, _, _, _, _, _, p1, n1, c1, pa, _, ca, pb, _, cb, rfl, hx, D, hD, hf, fun H1 h1 hd1 b3 => ⟨in64 (by omega), fun _ => Rt.gfn ⟨p1, n1, c1, by rw [ht], ?_⟩⟩⟩
    rw [ht]
    exact hT1.mono (le_newer hd1 (fun b o h => Nat.le_trans nn.mod.size (hf b o h)))
  · have ht : nAt b s = s := if_neg h4
    have hk : s.pos - b.pos = ((nOf b s : Nat) : Int) := by have e5 := congrArg Sta.pos ht; omega
    rw [hk]
    have hjx := nRest_len (b := b) (s := s) (l := l) hr
    have ej : ((if ((nOf b s : Nat) : Int) + x < (m : Int) then ((nOf b s : Nat) : Int) + x else (m : Int)) - ((nOf b s : Nat) : Int)) = (((nRest b l s x).length : Nat) : Int) := by omega
    rw [ht] at ok1
    refine ⟨in64 (by omega), fun _ => ⟨by omega, fun _ => ⟨in64 (by omega), fun _ => ⟨by omega, fun _ => ⟨by omega, fun _ => ⟨by omega, fun _ => ?_⟩⟩⟩⟩⟩⟩
    rw [ej]
    obtain ⟨q', e1, hE'⟩ := hE.seg (k := nOf b s) (j := (nRest b l s x).length) (by omega)
    rw [nRest_take hjx] at hE'
    rw [e1, Int.toNat_natCast, show ((d : Int) - ((nOf b s : Nat) : Int)).toNat = d - nOf b s by omega]
    refine Cl.fresh (c_folded hS hs hE' (fun y hy => ho.ents y (List.mem_of_mem_drop (List.mem_of_mem_take hy))) ok1) ?_
    rintro v W1 W2 D ⟨p1, n1, c1, pa, ca, ga, pb, cb, gb, rfl, hT1, _, _⟩ hx hD hf nn
    refine ⟨_, _, _, _, _, _, p1, n1, c1, pa, _, ca, pb, _, cb, rfl, hx, D, hD, hf, fun H1 h1 hd1 b3 => ⟨in64 (by omega), fun _ => Rt.gfn ⟨p1, n1, c1, by rw [ht], ?_⟩⟩⟩
    rw [ht]
    exact hT1.mono (le_newer hd1 (fun b o h => Nat.le_trans nn.mod.size (hf b o h)))
end
end Go.Proofs.YtfpmcmhihhnfgaaGreat
