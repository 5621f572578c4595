/- Plain data of the program, and what the document says of ops: no program in sight. No conditions. -/
namespace Go.Proofs.Ytcnkljeniffmmaa

/-- four values -/
structure V4 where
  a : Int
  b : Int
  c : Int
  d : Int
  deriving DecidableEq
def V4.zero : V4 := ⟨0, 0, 0, 0⟩
def V4.get (v : V4) (k : Int) : Int := if k = 0 then v.a else if k = 1 then v.b else if k = 2 then v.c else v.d
def V4.set (v : V4) (k n : Int) : V4 := if k = 0 then { v with a := n } else if k = 1 then { v with b := n } else if k = 2 then { v with c := n } else { v with d := n }
def inR (n lo hi : Int) : Bool := decide (lo ≤ n) && decide (n ≤ hi)
def V4.ok (v : V4) : Bool := inR v.a 0 999 && inR v.b 0 999 && inR v.c 0 999 && inR v.d 0 999
theorem inR_iff (n lo hi : Int) : inR n lo hi = true ↔ lo ≤ n ∧ n ≤ hi := by simp [inR]
theorem inR_not (n lo hi : Int) : inR n lo hi = false ↔ n < lo ∨ hi < n := by
  rw [← Bool.not_eq_true, inR_iff]; omega
theorem V4.ok_iff (v : V4) : v.ok = true ↔ (0 ≤ v.a ∧ v.a ≤ 999) ∧ (0 ≤ v.b ∧ v.b ≤ 999) ∧ (0 ≤ v.c ∧ v.c ≤ 999) ∧ (0 ≤ v.d ∧ v.d ≤ 999) := by
  simp [V4.ok, inR, and_assoc]

structure POp where
  kind : Int
  key : Int
  to : Int
  n : Int
  deriving DecidableEq
/-- Check of an op. -/
def POp.err (x : POp) : Int :=
  if x.kind < 1 ∨ 4 < x.kind then 4
  else if x.key < 0 ∨ 3 < x.key ∨ (x.kind = 3 ∧ (x.to < 0 ∨ 3 < x.to)) ∨ (x.kind = 2 ∧ (x.n < -999 ∨ 999 < x.n)) ∨ ((x.kind = 1 ∨ x.kind = 3) ∧ (x.n < 0 ∨ 999 < x.n)) then 3
  else if (x.kind ≠ 3 ∧ x.to ≠ 0) ∨ (x.kind = 4 ∧ x.n ≠ 0) then 1
  else 0
/-- Turn of right values by a right op: the values, the answer. -/
def POp.turn (x : POp) (v : V4) : V4 × Int :=
  if x.kind = 1 then (if (v.set x.key x.n).ok then (v.set x.key x.n, (v.set x.key x.n).get x.key) else (v, -1))
  else if x.kind = 2 then (if (v.set x.key (v.get x.key + x.n)).ok then (v.set x.key (v.get x.key + x.n), (v.set x.key (v.get x.key + x.n)).get x.key) else (v, -1))
  else if x.kind = 3 then
    (if (v.set x.key (v.get x.key - x.n)).ok then
      (if ((v.set x.key (v.get x.key - x.n)).set x.to ((v.set x.key (v.get x.key - x.n)).get x.to + x.n)).ok then
        ((v.set x.key (v.get x.key - x.n)).set x.to ((v.set x.key (v.get x.key - x.n)).get x.to + x.n), ((v.set x.key (v.get x.key - x.n)).set x.to ((v.set x.key (v.get x.key - x.n)).get x.to + x.n)).get x.key)
      else (v, -1))
    else (v, -1))
  else (v, v.get x.key)
/-- Do: the values, the answer, the error. -/
def POp.does (x : POp) (v : V4) : V4 × Int × Int :=
  if x.err ≠ 0 then (V4.zero, 0, x.err) else if v.ok = false then (V4.zero, 0, 3) else ((x.turn v).1, (x.turn v).2, 0)
end Go.Proofs.Ytcnkljeniffmmaa
