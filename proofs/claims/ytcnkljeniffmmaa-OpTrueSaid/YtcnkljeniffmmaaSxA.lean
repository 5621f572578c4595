/- A symbolic run of a function's code: its data and what they mean. Over any program; no program in sight. -/
import Derived.WalkKit
namespace Go.Proofs.Ytcnkljeniffmmaa
open Go.RowKit

/-- a part of memory that is held fast: blocks by their numbers -/
abbrev Hp := Nat → Option Obj
def Hp.le (H K : Hp) : Prop := ∀ b o, H b = some o → K b = some o
def hpOf (w : World) : Hp := fun b => w.heap[b]?

/-- what a name of the symbolic run stands for -/
inductive Dat where
  | i (n : Int)
  | n (n : Nat)
  | b (b : Bool)
  | p (a : Option (Nat × Nat))
  | s (s : ByteArray)
  | v (v : Value)
def Dat.int : Dat → Int
  | .i z => z
  | .n z => z
  | _ => 0
def Dat.bool : Dat → Bool
  | .b x => x
  | _ => false
def Dat.ptr : Dat → Option (Nat × Nat)
  | .p a => a
  | _ => none
def Dat.str : Dat → ByteArray
  | .s x => x
  | _ => ⟨#[]⟩
def Dat.val : Dat → Value
  | .v x => x
  | _ => undef
inductive Pk where
  | i | n | b | p | s | v
  deriving DecidableEq

abbrev Env := Nat → Dat
def upd {α : Type} (e : Nat → α) (k : Nat) (d : α) : Nat → α := fun j => if j = k then d else e j

inductive Sx where
  | k (n : Int)
  | v (i : Nat)
  | add (a b : Sx)
  | sub (a b : Sx)
  | mul (a b : Sx)
  | wrap (kd : IntKind) (a : Sx)
  | mn (a b : Sx)
  | mx (a b : Sx)
  | slen (i : Nat)
  | skip (c l : Sx) (s : Nat)
  deriving DecidableEq
def Sx.den (e : Env) : Sx → Int
  | .k n => n
  | .v i => (e i).int
  | .add a b => a.den e + b.den e
  | .sub a b => a.den e - b.den e
  | .mul a b => a.den e * b.den e
  | .wrap kd a => kd.wrap (a.den e)
  | .mn a b => if b.den e < a.den e then b.den e else a.den e
  | .mx a b => if a.den e < b.den e then b.den e else a.den e
  | .slen i => ((e i).str.size : Int)
  | .skip c l s => if c.den e = l.den e then 0 else l.den e * s

inductive Sb where
  | k (b : Bool)
  | v (i : Nat)
  | lt (a b : Sx)
  | le (a b : Sx)
  | eq (a b : Sx)
  | not (a : Sb)
  | beq (a b : Sb)
  | rng (kd : IntKind) (a : Sx)
  | idx (a n : Sx)
  | isp (i : Nat)
  deriving DecidableEq
def inKind (kd : IntKind) (n : Int) : Prop := kd.wrap n = n
instance (kd : IntKind) (n : Int) : Decidable (inKind kd n) := by unfold inKind; infer_instance
def Sb.den (e : Env) : Sb → Bool
  | .k b => b
  | .v i => (e i).bool
  | .lt a b => decide (a.den e < b.den e)
  | .le a b => decide (a.den e ≤ b.den e)
  | .eq a b => decide (a.den e = b.den e)
  | .not a => !(a.den e)
  | .beq a b => a.den e == b.den e
  | .rng kd a => decide (inKind kd (a.den e))
  | .idx a n => decide (0 ≤ a.den e ∧ a.den e < n.den e)
  | .isp i => (e i).ptr.isSome
/-- the same as a proposition -/
def Sb.prop (e : Env) : Sb → Prop
  | .k b => b = true
  | .v i => (e i).bool = true
  | .lt a b => a.den e < b.den e
  | .le a b => a.den e ≤ b.den e
  | .eq a b => a.den e = b.den e
  | .not a => ¬ a.prop e
  | .beq a b => a.den e = b.den e
  | .rng kd a => inKind kd (a.den e)
  | .idx a n => 0 ≤ a.den e ∧ a.den e < n.den e
  | .isp i => (e i).ptr.isSome = true

inductive SV where
  | undef
  | int (kd : IntKind) (x : Sx)
  | bool (b : Sb)
  | str (i : Nat)
  | ptrK (k off : Nat)
  | ptrO (i : Nat) (off : Sx)
  | slK (k off len cap : Nat)
  | slO (i : Nat) (off len cap : Sx)
  | agg (cs : List SV)
  | tup (vs : List SV)
  | func (f : Nat) (first capt : List SV)
  | c (v : Value)
  | o (i : Nat)
def ptrAt (a : Option (Nat × Nat)) (off : Int) : Option Addr := a.map fun x => ⟨x.1, x.2 + off.toNat, none⟩
mutual
def SV.den (ρ : Nat → Nat) (e : Env) : SV → Value
  | .undef => Go.undef
  | .int kd x => .int kd (x.den e)
  | .bool b => .bool (b.den e)
  | .str i => .string (e i).str
  | .ptrK k off => .pointer (some ⟨ρ k, off, none⟩)
  | .ptrO i off => .pointer (ptrAt (e i).ptr (off.den e))
  | .slK k off len cap => .slice (some ⟨ρ k, off, none⟩) len cap
  | .slO i off len cap => .slice (ptrAt (e i).ptr (off.den e)) (len.den e).toNat (cap.den e).toNat
  | .agg cs => .agg (SV.dens ρ e cs).toArray
  | .tup vs => .tuple (SV.dens ρ e vs).toArray
  | .func f first capt => .func (.func f) (SV.dens ρ e first).toArray (SV.dens ρ e capt).toArray
  | .c v => v
  | .o i => (e i).val
def SV.dens (ρ : Nat → Nat) (e : Env) : List SV → List Value
  | [] => []
  | v :: vs => v.den ρ e :: SV.dens ρ e vs
end
theorem dens_eq (ρ : Nat → Nat) (e : Env) (l : List SV) : SV.dens ρ e l = l.map (SV.den ρ e) := by
  induction l with
  | nil => rfl
  | cons a l ih => simp only [SV.dens, List.map_cons, ih]

structure SObj where
  cs : List SV
  ty : Nat
def SObj.den (ρ : Nat → Nat) (e : Env) (o : SObj) : Obj := .cells (SV.dens ρ e o.cs).toArray o.ty (0, 0)

/-- an operation that the symbolic run leaves to the prover -/
inductive EK where
  | slice (t : Nat) (lo hi mx : Bool)
  | bop (op : BinOp) (t : Nat) (x y : Operand)
  | conv (s d : Nat)
  | idx (t : Nat)
  | bi (b : Builtin) (ats : Array Nat) (ty : Nat)
  | mkSlice (t : Nat)
  | lookup (t : Nat) (ok : Bool)
  | storeO (t : Nat)
  | mkIface (t : Nat)
def EK.sem : EK → List Value → Sem Next
  | .slice t lo hi mx, vs =>
    let x := vs.getD 0 Go.undef
    let r1 := vs.drop 1
    let l := if lo then r1[0]? else none
    let r2 := if lo then r1.drop 1 else r1
    let h := if hi then r2[0]? else none
    let r3 := if hi then r2.drop 1 else r2
    let m := if mx then r3[0]? else none
    do pure (.value (← Instr.sliceAt t x l h m))
  | .bop op t x y, vs => do pure (.value (← (do eqGuard op t x y (vs.getD 0 Go.undef) (vs.getD 1 Go.undef); binOp op t (vs.getD 0 Go.undef) (vs.getD 1 Go.undef))))
  | .conv s d, vs => do pure (.value (← convert s d (vs.getD 0 Go.undef)))
  | .idx t, vs => do pure (.value (← Instr.index t (vs.getD 0 Go.undef) (vs.getD 1 Go.undef)))
  | .bi b ats ty, vs => builtin b ats ty #[] vs.toArray
  | .mkSlice t, vs => do pure (.value (← Instr.makeSlice t (vs.getD 0 Go.undef) (vs.getD 1 Go.undef)))
  | .lookup t ok, vs => do pure (.value (← Instr.lookup t (vs.getD 0 Go.undef) (vs.getD 1 Go.undef) ok))
  | .storeO t, vs => do Instr.storeAt t (vs.getD 0 Go.undef) (vs.getD 1 Go.undef); pure .skip
  | .mkIface t, vs => do pure (.value (← Instr.makeInterface t (vs.getD 0 Go.undef)))

/-- what an operation or a call does to memory -/
inductive CC where
  | same
  | fresh
  | mods (l : List (Nat × SObj))
  | turn

/-- a value by its name: what a loop carries -/
inductive SD where
  | i (x : Sx)
  | n (x : Sx)
  | b (x : Sb)
  | p (i : Nat) (off : Sx)
  | pn
  | s (i : Nat)
  | v (x : SV)
def SD.den (ρ : Nat → Nat) (e : Env) : SD → Dat
  | .i x => .i (x.den e)
  | .n x => .n (x.den e).toNat
  | .b x => .b (x.den e)
  | .p j off => .p ((e j).ptr.map fun a => (a.1, a.2 + (off.den e).toNat))
  | .pn => .p none
  | .s j => .s (e j).str
  | .v x => .v (x.den ρ e)

inductive VC where
  | fail (n : Nat)
  | tt
  | ret (v : SV) (hs : List (Nat × SObj))
  | ite (c : Sb) (t f : VC)
  | chk (c : Sb) (r : VC)
  | imp (c : Sb) (r rest : VC)
  | all (k : Nat) (r : VC)
  | ld (i : Nat) (off : Sx) (cells : List SV) (fr : List (Nat × Pk)) (r : VC)
  | call (f : Nat) (args : List SV) (hs : List (Nat × SObj)) (fr : List (Nat × Pk)) (pat : SV) (cls : CC) (r : VC)
  | esc (q : EK) (args : List SV) (hs : List (Nat × SObj)) (fr : List (Nat × Pk)) (pat : Option SV) (cls : CC) (r : VC)
  | loop (fr : List (Nat × Pk)) (ini hd : List SD) (body : VC)
  | back (j : Nat) (vals : List SD)

/-- a known block, as it stands -/
structure Kn (W0 : World) (M : Nat → Prop) (H : Hp) (W : World) (b : Nat) (o : Obj) : Prop where
  eq : W.heap[b]? = some o
  own : W0.heap.size ≤ b ∨ M b
  off : H b = none
def KN (W0 : World) (M : Nat → Prop) (H : Hp) (W : World) (ρ : Nat → Nat) (e : Env) : List (Nat × SObj) → Prop
  | [] => True
  | (k, o) :: r => Kn W0 M H W (ρ k) (o.den ρ e) ∧ KN W0 M H W ρ e r
/-- W' is W with what is new, and but for the blocks of M -/
structure Mod (M : Nat → Prop) (W W' : World) : Prop where
  os : W'.os = W.os
  tape : W'.tape = W.tape
  output : W'.output = W.output
  size : W.heap.size ≤ W'.heap.size
  blk : ∀ b, b < W.heap.size → ¬ M b → W'.heap[b]? = W.heap[b]?
/-- a world on the way -/
structure Now (W0 : World) (M : Nat → Prop) (H : Hp) (W : World) : Prop where
  sub : H.le (hpOf W)
  mod : Mod M W0 W
abbrev Ext (W W' : World) : Prop := Below W.heap.size W W'

/-- the cells from an address on, in memory that is held fast -/
def RowAt (H : Hp) (a : Option (Nat × Nat)) (off : Int) (cs : List Value) : Prop :=
  ∃ b o, a = some (b, o) ∧ ∃ C T fz, H b = some (.cells C T fz) ∧ ∀ j, j < cs.length → C[o + off.toNat + j]? = cs[j]?

def exL (e : Env) (K : Env → Prop) : List (Nat × Pk) → Prop
  | [] => K e
  | (i, .i) :: r => ∃ x : Int, exL (upd e i (.i x)) K r
  | (i, .n) :: r => ∃ x : Nat, exL (upd e i (.n x)) K r
  | (i, .b) :: r => ∃ x : Bool, exL (upd e i (.b x)) K r
  | (i, .p) :: r => ∃ x : Option (Nat × Nat), exL (upd e i (.p x)) K r
  | (i, .s) :: r => ∃ x : ByteArray, exL (upd e i (.s x)) K r
  | (i, .v) :: r => ∃ x : Value, exL (upd e i (.v x)) K r
def allL (e : Env) (K : Env → Prop) : List (Nat × Pk) → Prop
  | [] => K e
  | (i, .i) :: r => ∀ x : Int, allL (upd e i (.i x)) K r
  | (i, .n) :: r => ∀ x : Nat, allL (upd e i (.n x)) K r
  | (i, .b) :: r => ∀ x : Bool, allL (upd e i (.b x)) K r
  | (i, .p) :: r => ∀ x : Option (Nat × Nat), allL (upd e i (.p x)) K r
  | (i, .s) :: r => ∀ x : ByteArray, allL (upd e i (.s x)) K r
  | (i, .v) :: r => ∀ x : Value, allL (upd e i (.v x)) K r

/-- memory that is held fast has been turned -/
structure Turned (W0 : World) (M : Nat → Prop) (H : Hp) (W : World) (H' : Hp) (W' : World) : Prop where
  mod : Mod (fun b => (∃ o, H b = some o) ∧ (W0.heap.size ≤ b ∨ M b)) W W'
  sub : H'.le (hpOf W')
  dom : ∀ b o, H' b = some o → (∃ o', H b = some o') ∨ W.heap.size ≤ b
def CC.post (W0 : World) (M : Nat → Prop) (ρ : Nat → Nat) (e : Env) (H : Hp) (W W' : World) (K : Hp → Prop) : CC → Prop
  | .same => Ext W W' ∧ K H
  | .fresh => Ext W W' ∧ ∃ D : Hp, D.le (hpOf W') ∧ (∀ b o, D b = some o → W.heap.size ≤ b) ∧ ∀ H', H.le H' → D.le H' → K H'
  | .mods l => Mod (fun b => ∃ p ∈ l, ρ p.1 = b) W W' ∧ (∀ p ∈ l, W'.heap[ρ p.1]? = some (p.2.den ρ e)) ∧ K H
  | .turn => ∃ H', Turned W0 M H W H' W' ∧ K H'

section
variable (P : Program) (W0 : World) (M : Nat → Prop) (R : Ending → World → Prop)
def VC.den : VC → (Nat → Nat) → Env → Hp → List (List Dat → Hp → Prop) → Prop
  | .fail _, _, _, _, _ => False
  | .tt, _, _, _, _ => True
  | .ret v hs, ρ, e, H, _ => ∀ W, Now W0 M H W → KN W0 M H W ρ e hs → R (.returned (v.den ρ e)) W
  | .ite c t f, ρ, e, H, L => (c.prop e → t.den ρ e H L) ∧ (¬ c.prop e → f.den ρ e H L)
  | .chk c r, ρ, e, H, L => c.prop e ∧ (c.prop e → r.den ρ e H L)
  | .imp c r rest, ρ, e, H, L => (c.prop e → r.den ρ e H L) ∧ rest.den ρ e H L
  | .all k r, ρ, e, H, L => ∀ b : Nat, r.den (upd ρ k b) e H L
  | .ld i off cells fr r, ρ, e, H, L => exL e (fun e' => RowAt H (e i).ptr (off.den e) (SV.dens ρ e' cells) ∧ r.den ρ e' H L) fr
  | .call f args hs fr pat cls r, ρ, e, H, L => ∀ W, Now W0 M H W → KN W0 M H W ρ e hs →
      Calls P f (SV.dens ρ e args).toArray W fun x W' => exL e (fun e' => x = .returned (pat.den ρ e') ∧ cls.post W0 M ρ e' H W W' (fun H' => r.den ρ e' H' L)) fr
  | .esc q args hs fr pat cls r, ρ, e, H, L => ∀ W, Now W0 M H W → KN W0 M H W ρ e hs →
      exL e (fun e' => ∃ W', (q.sem (SV.dens ρ e args)).run P W = .ok (match pat with | some v => .value (v.den ρ e') | none => .skip) W' ∧ cls.post W0 M ρ e' H W W' (fun H' => r.den ρ e' H' L)) fr
  | .loop fr ini hd body, ρ, e, H, L => ∃ (I : List Dat → Hp → Prop) (μ : List Dat → Nat), I (ini.map (SD.den ρ e)) H ∧
      ∀ H', allL e (fun e' => I (hd.map (SD.den ρ e')) H' → body.den ρ e' H' ((fun l K => I l K ∧ μ l < μ (hd.map (SD.den ρ e'))) :: L)) fr
  | .back j vals, ρ, e, H, L => (L.getD j (fun _ _ => False)) (vals.map (SD.den ρ e)) H
end
end Go.Proofs.Ytcnkljeniffmmaa
