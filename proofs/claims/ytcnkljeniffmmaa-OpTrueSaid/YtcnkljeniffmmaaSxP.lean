/- Small words for the contracts. Over any program; no program in sight. -/
import Derived.Test.YtcnkljeniffmmaaSxO
import Derived.KernelRfl
import Derived.IntWalk
namespace Go.Proofs.Ytcnkljeniffmmaa
open Go.RowKit
theorem vc_of {A B : Prop} (h : B) (e : A = B) : A := e.mpr h
def noM : Nat → Prop := fun _ => False
def noH : Hp := fun _ => none
theorem noH_le (H : Hp) : noH.le H := fun _ _ h => by cases h
theorem Now.ext {W0 W : World} {H : Hp} (h : Now W0 noM H W) : Ext W0 W := ⟨h.mod.os, h.mod.tape, h.mod.output, h.mod.size, fun b hb => h.mod.blk b hb (fun h => h)⟩
theorem Ext.refl (W : World) : Ext W W := Below.refl _ _
theorem Ext.trans {A B C : World} (h : Ext A B) (k : Ext B C) : Ext A C := Below.trans h (k.mono h.size)
/-- a call that hands back v, and turns nothing that was there -/
def Gives (P : Program) (f : Nat) (args : Array Value) (W : World) (v : Value) : Prop := Calls P f args W fun z W' => z = .returned v ∧ Ext W W'
theorem in64 {n : Int} (h : -9223372036854775808 ≤ n ∧ n ≤ 9223372036854775807) : inKind .i64 n := by unfold inKind; rw [IntKind.wrap_i64]; omega
end Go.Proofs.Ytcnkljeniffmmaa
