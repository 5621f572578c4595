/- Entries as plain data, and what the document says of one. No program in sight. No conditions. -/
import Derived.Test.YtoilhpkclabhoaaKD1
set_option linter.unusedVariables false
set_option linter.unusedSimpArgs false
namespace Go.Proofs.Ytoilhpkclabhoaa

structure Ent where
  kind : Int
  time : Int
  client : Int
  seq : Int
  ack : Int
  op : POp
  deriving DecidableEq
def POp.none : POp := ⟨0, 0, 0, 0⟩
def Ent.zero : Ent := ⟨0, 0, 0, 0, 0, POp.none⟩
def Ent.err (e : Ent) : Int :=
  if e.kind < 1 ∨ 3 < e.kind then 4
  else if e.time < 0 ∨ 999 < e.time ∨ e.client < 1 ∨ 5 < e.client then 3
  else if e.kind = 2 then (if e.seq < 1 ∨ 60 < e.seq ∨ e.ack < 0 ∨ e.seq ≤ e.ack then 3 else e.op.err)
  else if e.seq = 0 ∧ e.ack = 0 ∧ e.op = POp.none then 0 else 1
end Go.Proofs.Ytoilhpkclabhoaa
