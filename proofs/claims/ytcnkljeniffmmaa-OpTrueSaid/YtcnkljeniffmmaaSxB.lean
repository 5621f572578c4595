/- A symbolic run of a function's code: the run. Over any program; no program in sight. -/
import Derived.Test.YtcnkljeniffmmaaSxA
import Derived.Orders
namespace Go.Proofs.Ytcnkljeniffmmaa
open Go.RowKit

inductive Pt where
  | int (k : IntKind) | bool | str | sl | ptr | val
def ptOf : Value → Pt
  | .int k _ => .int k
  | .bool _ => .bool
  | .string _ => .str
  | .slice _ _ _ => .sl
  | .pointer _ => .ptr
  | _ => .val
def mkP : Nat → List Pt → List SV × List (Nat × Pk) × Nat
  | nv, [] => ([], [], nv)
  | nv, .int k :: r => let q := mkP (nv + 1) r; (.int k (.v nv) :: q.1, (nv, .i) :: q.2.1, q.2.2)
  | nv, .bool :: r => let q := mkP (nv + 1) r; (.bool (.v nv) :: q.1, (nv, .b) :: q.2.1, q.2.2)
  | nv, .str :: r => let q := mkP (nv + 1) r; (.str nv :: q.1, (nv, .s) :: q.2.1, q.2.2)
  | nv, .sl :: r => let q := mkP (nv + 3) r; (.slO nv (.k 0) (.v (nv + 1)) (.v (nv + 2)) :: q.1, (nv, .p) :: (nv + 1, .n) :: (nv + 2, .n) :: q.2.1, q.2.2)
  | nv, .ptr :: r => let q := mkP (nv + 1) r; (.ptrO nv (.k 0) :: q.1, (nv, .p) :: q.2.1, q.2.2)
  | nv, .val :: r => let q := mkP (nv + 1) r; (.o nv :: q.1, (nv, .v) :: q.2.1, q.2.2)

structure St where
  tm : List (Option SV)
  h : List (Option SObj)
  nv : Nat
  pc : List (Sb × Bool)
  ll : List (Nat × Option Nat)
  dp : Nat

def Sx.lt (n : Nat) : Sx → Bool
  | .k _ => true
  | .v i | .slen i => decide (i < n)
  | .add a b | .sub a b | .mul a b | .mn a b | .mx a b => a.lt n && b.lt n
  | .wrap _ a => a.lt n
  | .skip a b _ => a.lt n && b.lt n
def Sb.fits (n : Nat) : Sb → Bool
  | .k _ => true
  | .v i | .isp i => decide (i < n)
  | .lt a b | .le a b | .eq a b | .idx a b => a.lt n && b.lt n
  | .not a => a.fits n
  | .beq a b => a.fits n && b.fits n
  | .rng _ a => a.lt n
mutual
def SV.lt (n m : Nat) : SV → Bool
  | .undef | .c _ => true
  | .int _ x => x.lt n
  | .bool b => b.fits n
  | .str i | .o i => decide (i < n)
  | .ptrK k _ | .slK k _ _ _ => decide (k < m)
  | .ptrO i off => decide (i < n) && off.lt n
  | .slO i off len cap => decide (i < n) && off.lt n && len.lt n && cap.lt n
  | .agg cs | .tup cs => SV.lts n m cs
  | .func _ a b => SV.lts n m a && SV.lts n m b
def SV.lts (n m : Nat) : List SV → Bool
  | [] => true
  | v :: r => v.lt n m && SV.lts n m r
end
def tmFits (n m : Nat) : List (Option SV) → Bool
  | [] => true
  | none :: r => tmFits n m r
  | some v :: r => v.lt n m && tmFits n m r
def hFits (n m : Nat) : List (Option SObj) → Bool
  | [] => true
  | none :: r => hFits n m r
  | some o :: r => SV.lts n m o.cs && hFits n m r
def pcFits (n : Nat) : List (Sb × Bool) → Bool
  | [] => true
  | p :: r => p.1.fits n && pcFits n r
/-- no name and no block that is to come is spoken of -/
def St.fits (S : St) : Bool := tmFits S.nv S.h.length S.tm && hFits S.nv S.h.length S.h && pcFits S.nv S.pc
def frFits (n : Nat) : List (Nat × Pk) → Bool
  | [] => true
  | p :: r => decide (n ≤ p.1) && frFits n r
def St.put (S : St) (d : Option Nat) (v : SV) : St :=
  match d with
  | some t => { S with tm := S.tm.set t (some v) }
  | none => S

def ofLeaf : Value → SV
  | .int k n => .int k (.k n)
  | .bool b => .bool (.k b)
  | v => .c v
def ofVal : Value → SV
  | .agg cs => .agg (cs.toList.map ofLeaf)
  | v => ofLeaf v
def ev (S : St) : Operand → Option SV
  | .tmp t => (S.tm[t]?).join
  | .const v => some (ofVal v)
  | .func f => some (.func f [] [])
  | .global _ => none
def evs (S : St) : List Operand → Option (List SV)
  | [] => some []
  | x :: r => match ev S x, evs S r with
    | some v, some vs => some (v :: vs)
    | _, _ => none

def Sb.lit : Sb → Option Bool
  | .k b => some b
  | .lt (.k a) (.k b) => some (decide (a < b))
  | .le (.k a) (.k b) => some (decide (a ≤ b))
  | .eq (.k a) (.k b) => some (decide (a = b))
  | .rng kd (.k a) => some (decide (kd.wrap a = a))
  | _ => none
/-- what an equation says -/
def eqNum : Sb → Bool → Option (Sx × Int)
  | .eq x (.k i), true => some (x, i)
  | _, _ => none
def look : List (Sb × Bool) → Sb → Option Bool
  | [], _ => none
  | p :: r, c => if p.1 = c then some p.2 else
    match eqNum p.1 p.2, eqNum c true with
    | some (x, i), some (y, j) => if x = y then some (decide (i = j)) else look r c
    | _, _ => look r c
def dec (pc : List (Sb × Bool)) : Sb → Option Bool
  | .not a => (dec pc a).map (!·)
  | c => match c.lit with
    | some b => some b
    | none => look pc c
/-- the number that x is known to be -/
def numL : List (Sb × Bool) → Sx → Option Int
  | [], _ => none
  | p :: r, x => match eqNum p.1 p.2 with
    | some (y, i) => if x = y then some i else numL r x
    | none => numL r x
def num (pc : List (Sb × Bool)) : Sx → Option Int
  | .k n => some n
  | x => numL pc x
def branch (S : St) : Sb → (St → VC) → (St → VC) → VC
  | .not a, A, B => branch S a B A
  | c, A, B => match dec S.pc c with
    | some true => A S
    | some false => B S
    | none => .ite c (A { S with pc := (c, true) :: S.pc }) (B { S with pc := (c, false) :: S.pc })
def chks (S : St) : List Sb → (St → VC) → VC
  | [], K => K S
  | c :: r, K => match dec S.pc c with
    | some true => chks S r K
    | _ => .chk c (chks { S with pc := (c, true) :: S.pc } r K)
def cases1 (S : St) (x : Sx) (d : Option Nat) (K : St → VC) : Nat → List SV → VC
  | _, [] => .tt
  | j, v :: r => .imp (.eq x (.k j)) (K ({ S with pc := (.eq x (.k j), true) :: S.pc }.put d v)) (cases1 S x d K (j + 1) r)

def isAggT (P : Program) (t : Nat) : Bool :=
  match P.underlying t with
  | some (.struct _) | some (.array _ _) => true
  | _ => false
def sizeT (P : Program) (t : Nat) : Option Nat :=
  match P.underlying t, P.info? t with
  | some _, some i => some i.size
  | _, _ => none
def zcells (P : Program) (t : Nat) : Option (List Value) :=
  match sizeT P t, (P.info? t).bind (·.zero) with
  | some n, some v => if v.cells.size = n then some v.cells.toList else none
  | _, _ => none

/-- a fresh value of a type -/
def patT (P : Program) (nv : Nat) (t : Nat) : Option (SV × List (Nat × Pk) × Nat) :=
  match zcells P t with
  | none => none
  | some zs =>
    let q := mkP nv (zs.map ptOf)
    if isAggT P t then some (.agg q.1, q.2) else
    match q.1 with
    | [v] => some (v, q.2)
    | _ => none
def patTs (P : Program) (nv : Nat) : List Nat → Option (List SV × List (Nat × Pk) × Nat)
  | [] => some ([], [], nv)
  | t :: r => match patT P nv t with
    | none => none
    | some (v, f, n) => match patTs P n r with
      | none => none
      | some (vs, fs, m) => some (v :: vs, f ++ fs, m)
def patR (P : Program) (nv : Nat) (t : Nat) : Option (SV × List (Nat × Pk) × Nat) :=
  match P.underlying t with
  | some (.tuple ts) => (patTs P nv ts.toList).map fun q => (.tup q.1, q.2)
  | _ => patT P nv t
def ptrish (f : List (Nat × Pk)) : Bool := f.any fun p => match p.2 with | .p | .v => true | _ => false

inductive R1 where
  | val (cs : List Sb) (v : SV)
  | new (cs : List SV) (ty : Nat) (len : Option Nat)
  | sto (k off : Nat) (cs : List SV)
  | ld (i : Nat) (off : Sx) (t : Nat) (k : Option Nat)
  | cas (x : Sx) (vs : List SV)
  | call (f : Nat) (args : List SV) (ty : Nat)
  | esc (q : EK) (args : List SV) (ty : Option Nat) (turns : Bool)
  | bad

def cellsOfSV : SV → Option (List SV)
  | .agg cs => some cs
  | .undef | .o _ => none
  | .c (.agg _) => none
  | .tup _ => none
  | v => some [v]
/-- the value of type t in the cells from off on -/
def partOf (P : Program) (t : Nat) (cs : List SV) (off : Nat) : Option SV :=
  match sizeT P t with
  | none => none
  | some n => if isAggT P t then (if off + n ≤ cs.length then some (.agg ((cs.drop off).take n)) else none) else cs[off]?
/-- fits one cell -/
def SV.one : SV → Bool
  | .int _ _ | .bool _ | .str _ | .ptrK _ _ | .ptrO _ _ | .slK _ _ _ _ | .slO _ _ _ _ | .func _ _ _ => true
  | .c (.agg _) | .c (.tuple _) => false
  | .c _ => true
  | _ => false
def setCells (cs : List SV) (off : Nat) : List SV → List SV
  | [] => cs
  | v :: r => setCells (cs.set off v) (off + 1) r
def fillS (place : Nat → Option (Nat × Nat)) (cs : List SV) : List (Nat × SV) → Option (List SV)
  | [] => some cs
  | (i, v) :: r => match place i, cellsOfSV v with
    | some (off, n), some vs => if vs.length = n ∧ off + n ≤ cs.length then fillS place (setCells cs off vs) r else none
    | _, _ => none
def placesOf (P : Program) : List Field → Option (List (Nat × Nat))
  | [] => some []
  | f :: r => match sizeT P f.type, placesOf P r with
    | some n, some ps => some ((f.offset, n) :: ps)
    | _, _ => none
def repeatL (l : List SV) : Nat → List SV
  | 0 => []
  | n + 1 => l ++ repeatL l n
def evPs (S : St) : List (Nat × Operand) → Option (List (Nat × SV))
  | [] => some []
  | (i, x) :: r => match ev S x, evPs S r with
    | some v, some vs => some ((i, v) :: vs)
    | _, _ => none
def idxOf (S : St) (x : SV) : Option Sx :=
  match x with
  | .int _ a => match num S.pc a with
    | some n => some (.k n)
    | none => some a
  | _ => none
/-- element j of n, of s cells each, in block k from off on -/
def elems (mk : Nat → SV) (n : Nat) : List SV := (List.range n).map mk
def natLit (S : St) (x : SV) : Option Nat :=
  match idxOf S x with
  | some (.k n) => if 0 ≤ n then some n.toNat else none
  | _ => none
def optLit (S : St) : Option Operand → Option (Option Nat)
  | none => some none
  | some x => match ev S x with
    | some v => (natLit S v).map some
    | none => none
def optSx (S : St) : Option Operand → Option (Option Sx)
  | none => some none
  | some x => match ev S x with
    | some v => (idxOf S v).map some
    | none => none
def ar (kd : IntKind) (f : Int → Int → Int) (g : Sx → Sx → Sx) : Sx → Sx → R1
  | .k a, .k b => .val [] (.int kd (.k (kd.wrap (f a b))))
  | a, b => .val [.rng kd (g a b)] (.int kd (g a b))
def ofOp (x y : Operand) (op : BinOp) (t : Nat) (a b : SV) (ty : Nat) : R1 := .esc (.bop op t x y) [a, b] (some ty) false

def step (P : Program) (S : St) (o : Oper) : R1 :=
  match o.op with
  | .move x | .assign x => match ev S x with
    | some v => .val [] v
    | none => .bad
  | .pick c a b => match ev S c with
    | some (.bool c) => match dec S.pc c with
      | some true => match ev S a with
        | some v => .val [] v
        | none => .bad
      | some false => match ev S b with
        | some v => .val [] v
        | none => .bad
      | none => .bad
    | _ => .bad
  | .alloc t => match zcells P t with
    | some zs => .new (zs.map ofLeaf) t none
    | none => .bad
  | .box t x => match (ev S x).bind cellsOfSV with
    | some cs => .new cs t none
    | none => .bad
  | .build t parts => match evPs S parts.toList, zcells P t, P.underlying t with
    | some ps, some zs, some (.struct fs) => match placesOf P fs.toList with
      | some pl => match fillS (pl[·]?) (zs.map ofLeaf) ps with
        | some cs => .val [] (.agg cs)
        | none => .bad
      | none => .bad
    | some ps, some zs, some (.array _ el) => match sizeT P el with
      | some n => match fillS (fun i => some (i * n, n)) (zs.map ofLeaf) ps with
        | some cs => .val [] (.agg cs)
        | none => .bad
      | none => .bad
    | _, _, _ => .bad
  | .buildSlice t len parts => match evPs S parts.toList, P.underlying t with
    | some ps, some (.slice el) => match sizeT P el, zcells P el with
      | some n, some zs => if n = zs.length ∧ 0 < n ∧ len * n ≤ 16777216 then
          match fillS (fun i => some (i * n, n)) (repeatL (zs.map ofLeaf) len) ps with
          | some cs => .new cs el (some len)
          | none => .bad
        else .bad
      | _, _ => .bad
    | _, _ => .bad
  | .load t a => match ev S a with
    | some (.ptrK k off) => match (S.h[k]?).join with
      | some ob => match partOf P t ob.cs off with
        | some v => .ld k (.k 0) t (some off)
        | none => .bad
      | none => .bad
    | some (.ptrO i off) => .ld i off t none
    | _ => .bad
  | .store t a x => match ev S a, (ev S x), sizeT P t with
    | some (.ptrK k off), some v, some n => match cellsOfSV v, (S.h[k]?).join with
      | some cs, some ob => if cs.length = n ∧ off + n ≤ ob.cs.length ∧ cs.all SV.one = true then .sto k off cs else .bad
      | _, _ => .bad
    | some (.ptrO i off), some v, some _ => .esc (.storeO t) [.ptrO i off, v] none true
    | _, _, _ => .bad
  | .nilCheck x => match ev S x with
    | some (.ptrK k off) => .val [] (.ptrK k off)
    | some (.ptrO i off) => .val [.isp i] (.ptrO i off)
    | _ => .bad
  | .binOp op t x y ty => match ev S x, ev S y with
    | some (.int k a), some (.int k' b) => if k = k' then
        match op with
        | .add => ar k (· + ·) .add a b
        | .sub => ar k (· - ·) .sub a b
        | .mul => ar k (· * ·) .mul a b
        | .eql => .val [] (.bool (.eq a b))
        | .neq => .val [] (.bool (.not (.eq a b)))
        | .lss => .val [] (.bool (.lt a b))
        | .leq => .val [] (.bool (.le a b))
        | .gtr => .val [] (.bool (.lt b a))
        | .geq => .val [] (.bool (.le b a))
        | _ => ofOp x y op t (.int k a) (.int k' b) o.type
      else .bad
    | some a, some b => ofOp x y op t a b o.type
    | _, _ => .bad
  | .unOp op _ x => match op, ev S x with
    | .not, some (.bool b) => .val [] (.bool (.not b))
    | .neg, some (.int k a) => ar k (· - ·) .sub (.k 0) a
    | _, _ => .bad
  | .convert s d x => match ev S x, P.underlying s, P.underlying d with
    | some (.int _ a), some _, some (.int k) => match a with
      | .k n => .val [] (.int k (.k (k.wrap n)))
      | a => if k = .i64 then .val [.rng k a] (.int k a) else .val [] (.int k (.wrap k a))
    | some v, _, _ => .esc (.conv s d) [v] (some o.type) false
    | _, _, _ => .bad
  | .fieldAddr t x f => match ev S x, P.underlying t with
    | some (.ptrK k off), some (.struct fs) => match fs[f]? with
      | some fl => match sizeT P fl.type with
        | some (_ + 1) => .val [] (.ptrK k (off + fl.offset))
        | _ => .bad
      | none => .bad
    | some (.ptrO i off), some (.struct fs) => match fs[f]? with
      | some fl => match sizeT P fl.type with
        | some (_ + 1) => if fl.offset = 0 then .val [.isp i] (.ptrO i off) else .val [.isp i, .le (.k 0) off] (.ptrO i (.add off (.k fl.offset)))
        | _ => .bad
      | none => .bad
    | _, _ => .bad
  | .field t x f => match ev S x, P.underlying t with
    | some (.agg cs), some (.struct fs) => match fs[f]? with
      | some fl => match partOf P fl.type cs fl.offset with
        | some v => .val [] v
        | none => .bad
      | none => .bad
    | _, _ => .bad
  | .indexAddr t x i => match ev S x, (ev S i).bind (idxOf S), P.underlying t with
    | some (.ptrK k off), some ix, some (.array n el) => match sizeT P el with
      | some s => match ix with
        | .k j => if 0 ≤ j ∧ j < n then .val [] (.ptrK k (off + j.toNat * s)) else .bad
        | ix => .cas ix (elems (fun j => .ptrK k (off + j * s)) n)
      | none => .bad
    | some (.slK k off len _), some ix, some (.slice el) => match sizeT P el with
      | some s => match ix with
        | .k j => if 0 ≤ j ∧ j < len then .val [] (.ptrK k (off + j.toNat * s)) else .bad
        | ix => .cas ix (elems (fun j => .ptrK k (off + j * s)) len)
      | none => .bad
    | some (.slO b off len _), some ix, some (.slice el) => match sizeT P el with
      | some s => .val [.idx ix len, .isp b, .le (.k 0) off] (.ptrO b (.add off (.mul ix (.k s))))
      | none => .bad
    | _, _, _ => .bad
  | .index t x i => match ev S x, (ev S i).bind (idxOf S), P.underlying t with
    | some (.agg cs), some ix, some (.array n el) => match sizeT P el with
      | some s => match ix with
        | .k j => if 0 ≤ j ∧ j < n then
            match partOf P el cs (j.toNat * s) with
            | some v => .val [] v
            | none => .bad
          else .bad
        | ix => if (List.range n).all (fun j => (partOf P el cs (j * s)).isSome) then .cas ix (elems (fun j => (partOf P el cs (j * s)).getD .undef) n) else .bad
      | none => .bad
    | some v, some ix, some .string => .esc (.idx t) [v, (ev S i).getD .undef] (some o.type) false
    | _, _, _ => .bad
  | .extract x i => match ev S x with
    | some (.tup vs) => match vs[i]? with
      | some v => .val [] v
      | none => .bad
    | _ => .bad
  | .makeFunc (.func f) first capt => match evs S first.toList, evs S capt.toList with
    | some a, some b => .val [] (.func f a b)
    | _, _ => .bad
  | .slice t x lo hi none => match ev S x, P.underlying t with
    | some (.ptrK k off), some (.array n el) => match sizeT P el, optLit S lo, optLit S hi with
      | some s, some l, some h =>
        let l := l.getD 0; let h := h.getD n
        if l ≤ h ∧ h ≤ n then .val [] (.slK k (if n = l then off else off + l * s) (h - l) (n - l)) else .bad
      | _, _, _ => .bad
    | some (.slO b off len cap), some (.slice el) => match sizeT P el, optSx S lo, optSx S hi with
      | some s, some l, some h =>
        let hx := h.getD len
        match l with
        | some l => .val [.le (.k 0) l, .le l hx, .le hx cap, .le (.k 0) off] (.slO b (.add off (.skip cap l s)) (.sub hx l) (.sub cap l))
        | none => .val [.le (.k 0) hx, .le hx cap] (.slO b off hx cap)
      | _, _, _ => .bad
    | some v, some _ => match optSx S lo, optSx S hi with
      | some l, some h => .esc (.slice t lo.isSome hi.isSome false) ([v] ++ (lo.bind (ev S)).toList ++ (hi.bind (ev S)).toList) (some o.type) false
      | _, _ => .bad
    | _, _ => .bad
  | .lookup t x i ok => match ev S x, ev S i with
    | some a, some b => .esc (.lookup t ok) [a, b] (some o.type) false
    | _, _ => .bad
  | .makeSlice t l c => match ev S l, ev S c with
    | some a, some b => .esc (.mkSlice t) [a, b] (some o.type) false
    | _, _ => .bad
  | .makeInterface t x => match ev S x with
    | some a => .esc (.mkIface t) [a] (some o.type) false
    | _ => .bad
  | .call c => match c.callee, evs S c.args.toList with
    | .value f, some as => match ev S f with
      | some (.func g first capt) => match P.funcs[g]? with
        | some fn => if fn.body.isSome ∧ fn.name ≠ "runtime.NumGoroutine" then .call g (first ++ as ++ capt) o.type else .bad
        | none => .bad
      | _ => .bad
    | .builtin .len, some as => match as, c.argTypes[0]?.bind P.underlying with
      | [.slK _ _ n _], some (.slice _) => .val [] (.int .i64 (.k n))
      | [.slO _ _ n _], some (.slice _) => .val [.le (.k 0) n] (.int .i64 n)
      | [.c (.slice _ n _)], some (.slice _) => .val [] (.int .i64 (.k n))
      | [.str i], some .string => .val [] (.int .i64 (.slen i))
      | [.c (.string s)], some .string => .val [] (.int .i64 (.k s.size))
      | as, _ => .esc (.bi .len c.argTypes o.type) as (some o.type) false
    | .builtin .min, some [.int k a, .int k' b] => if k = k' then .val [] (.int k (.mn a b)) else .bad
    | .builtin .max, some [.int k a, .int k' b] => if k = k' then .val [] (.int k (.mx a b)) else .bad
    | .builtin .append, some as => .esc (.bi .append c.argTypes o.type) as (some o.type) true
    | .builtin .copy, some as => .esc (.bi .copy c.argTypes o.type) as (some o.type) true
    | .builtin .clear, some as => .esc (.bi .clear c.argTypes o.type) as (some o.type) true
    | .builtin .cap, some as => .esc (.bi .cap c.argTypes o.type) as (some o.type) false
    | _, _ => .bad
  | _ => .bad

/-- the known blocks that values speak of -/
def blksOf : Nat → St → SV → List Nat
  | 0, _, _ => []
  | n + 1, S, v => match v with
    | .ptrK k _ | .slK k _ _ _ => k :: ((S.h[k]?).join.map fun o => (o.cs.map (blksOf n S)).flatten).getD []
    | .agg cs | .tup cs => (cs.map (blksOf n S)).flatten
    | .func _ a b => (a.map (blksOf n S)).flatten ++ (b.map (blksOf n S)).flatten
    | _ => []
def knOf (S : St) (vs : List SV) : List (Nat × SObj) :=
  ((vs.map (blksOf 6 S)).flatten.eraseDups).filterMap fun k => (S.h[k]?).join.map fun o => (k, o)

/-- what is told to the run: loops; calls that turn known blocks; operations that turn memory held fast -/
inductive Pq where
  | pt (p : Pt)
  | nat
inductive LH where
  | unroll (n : Nat)
  | inv (slots : List (Nat × Pq)) (blks : List (Nat × List Pq))
structure Hints where
  loops : List (Nat × LH) := []
  mods : List (Nat × List Nat) := []     -- callee: the arguments whose blocks it turns
  turns : List Nat := []                 -- callees that turn memory held fast
  keeps : List (Nat × Nat) := []         -- (region, op): this append ¦ copy ¦ store turns nothing that was there

def newConts (P : Program) (S : St) (nv : Nat) : List Nat → Option (List (Nat × SObj) × List (Nat × Pk) × Nat)
  | [] => some ([], [], nv)
  | k :: r => match (S.h[k]?).join with
    | none => none
    | some ob =>
      let q := mkP nv (ob.cs.map fun c => match c with
        | .int kd _ => .int kd | .bool _ => .bool | .str _ => .str | .c v => ptOf v | .slO _ _ _ _ | .slK _ _ _ _ => .sl | .ptrO _ _ | .ptrK _ _ => .ptr | _ => .val)
      match newConts P S q.2.2 r with
      | some (l, f, n) => some ((k, { cs := q.1, ty := ob.ty }) :: l, q.2.1 ++ f, n)
      | none => none
def St.setObj (S : St) (k : Nat) (o : SObj) : St := { S with h := S.h.set k (some o) }
def setObjs (S : St) : List (Nat × SObj) → St
  | [] => S
  | (k, o) :: r => setObjs (S.setObj k o) r

inductive Xt where
  | normal | ret | exit (id : Nat)

inductive Gd where
  | yes | no | br (c : Sb) (want : Bool) | bad
def guardOf (ops : List Oper) (S : St) (o : Oper) : Gd :=
  match o.guard with
  | none => .yes
  | some (j, want) => match (ops[j]?).bind (·.dst) with
    | some d => match (S.tm[d]?).join with
      | some (.bool c) => .br c want
      | some .undef => .no
      | _ => .bad
    | none => .bad

def forgetT (tm : List (Option SV)) : List Nat → List (Option SV)
  | [] => tm
  | t :: r => forgetT (tm.set t none) r
section
variable (P : Program) (hi : Hints)
def argBlks (as : List SV) (ix : List Nat) : List Nat := ix.filterMap fun i => match (as[i]? : Option SV) with | some (SV.ptrK k _) => some k | some (SV.slK k _ _ _) => some k | _ => none
def oneOp (rid ix : Nat) (S : St) (o : Oper) (K : St → VC) : VC :=
  match step P S o with
  | .val cs v => chks S cs fun S => K (S.put o.dst v)
  | .new cs t len => if S.fits && SV.lts S.nv S.h.length cs then
      let S' : St := { S with h := S.h ++ [some { cs := cs, ty := t }] }
      .all S.h.length (K (S'.put o.dst (match len with | none => .ptrK S.h.length 0 | some n => .slK S.h.length 0 n n)))
    else .fail 21
  | .sto k off cs => match (S.h[k]?).join with
    | some ob => K ((S.setObj k { ob with cs := setCells ob.cs off cs }).put o.dst .undef)
    | none => .fail 1
  | .ld i off t kn => match kn with
    | some j => match (S.h[i]?).join with
      | some ob => match partOf P t ob.cs j with
        | some v => K (S.put o.dst v)
        | none => .fail 2
      | none => .fail 2
    | none => match zcells P t with
      | none => .fail 3
      | some zs => let q := mkP S.nv (zs.map ptOf)
        if !(S.fits && frFits S.nv q.2.1 && decide (S.nv ≤ q.2.2)) then .fail 22 else
        if isAggT P t then .ld i off q.1 q.2.1 (K ({ S with nv := q.2.2 }.put o.dst (.agg q.1)))
        else match q.1 with
          | [v] => .ld i off [v] q.2.1 (K ({ S with nv := q.2.2 }.put o.dst v))
          | _ => .fail 3
  | .cas x vs => .chk (.idx x (.k vs.length)) (cases1 S x o.dst K 0 vs)
  | .call f as ty => match patR P S.nv ty with
    | none => .fail 4
    | some (pat, fr, nv) =>
      if !(S.fits && frFits S.nv fr && decide (S.nv ≤ nv)) then .fail 23 else
      match hi.mods.lookup f with
      | some ix => match newConts P S nv (argBlks as ix) with
        | some (l, fr2, nv2) => if !(frFits S.nv fr2 && decide (S.nv ≤ nv2)) then .fail 24 else .call f as (knOf S as) (fr ++ fr2) pat (.mods l) (K ((setObjs { S with nv := nv2 } l).put o.dst pat))
        | none => .fail 5
      | none => .call f as (knOf S as) fr pat (if hi.turns.contains f then .turn else if ptrish fr then .fresh else .same) (K ({ S with nv := nv }.put o.dst pat))
  | .esc q as ty turns => match ty with
    | none => .esc q as (knOf S as) [] none .turn (K (S.put o.dst .undef))
    | some ty => match patR P S.nv ty with
      | none => .fail 6
      | some (pat, fr, nv) => if !(S.fits && frFits S.nv fr && decide (S.nv ≤ nv)) then .fail 25 else .esc q as (knOf S as) fr (some pat) (if turns && !(hi.keeps.contains (rid, ix)) then .turn else if ptrish fr then .fresh else .same) (K ({ S with nv := nv }.put o.dst pat))
  | .bad => .fail (1000 * (rid + 1) + ix)
def exOps (rid : Nat) (ops : List Oper) : List (Oper × Nat) → St → (St → VC) → VC
  | [], S, K => K S
  | (o, ix) :: r, S, K => match guardOf ops S o with
    | .yes => oneOp P hi rid ix S o fun S => exOps rid ops r S K
    | .no => exOps rid ops r (S.put o.dst .undef) K
    | .br c want => branch S (if want then c else .not c) (fun S => oneOp P hi rid ix S o fun S => exOps rid ops r S K) (fun S => exOps rid ops r (S.put o.dst .undef) K)
    | .bad => .fail 7

def isAlloc : Op → Bool
  | .alloc _ | .box _ _ | .buildSlice _ _ _ => true
  | _ => false
def isNew : R1 → Bool
  | .new _ _ _ => true
  | _ => false
def directPreds (o : Oper) : List Nat := o.after.toList.filterMap fun e => if Region.binds .any e then some e.on else none
def befL (ops : List Oper) : List Nat := ops.foldl (fun acc o => acc ++ [(directPreds o).foldl (fun s p => s ||| 2 ^ p ||| acc.getD p 0) 0]) []
def ordB (bef : List Nat) (i j : Nat) : Bool := (bef.getD j 0).testBit i
/-- 'i comes before j' is said of an edge, or of an edge's elder -/
def befOk (ops : List Oper) (bef : List Nat) : Bool :=
  ops.zipIdx.all fun p => (List.range ops.length).all fun i => !ordB bef i p.2 || (directPreds p.1).any fun q => decide (q < p.2) && (decide (q = i) || ordB bef i q)
def opMov : Op → Bool
  | .move _ | .assign _ | .pick _ _ _ | .build _ _ | .load _ _ | .nilCheck _ | .binOp _ _ _ _ _ | .unOp _ _ _ | .fieldAddr _ _ _ | .field _ _ _ | .indexAddr _ _ _ | .index _ _ _ | .extract _ _ | .makeFunc _ _ _ | .slice _ _ _ _ _ | .convert _ _ _ => true
  | .call { callee := .builtin .len, .. } | .call { callee := .builtin .min, .. } | .call { callee := .builtin .max, .. } => true
  | _ => false
def ready1 (rest : List (Oper × Nat)) (o : Oper) : Bool := (directPreds o).all fun p => !((rest.map (·.2)).contains p)
/-- an order: what moves nothing first, new blocks last -/
def canon : Nat → List (Oper × Nat) → List (Oper × Nat)
  | 0, _ => []
  | n + 1, rest =>
    let rd := rest.filter fun p => ready1 rest p.1
    match (rd.find? fun p => opMov p.1.op) <|> (rd.find? fun p => !isAlloc p.1.op) <|> rd.head? with
    | some p => p :: canon n (rest.filter fun q => q.2 ≠ p.2)
    | none => []
def slotApart (ops : Array Oper) (o : Oper) (ix : Nat) (r : List (Oper × Nat)) : Bool := r.all fun p => (directPreds p.1).contains ix || Oper.apart ops o p.1
def aheadAll (bef : List Nat) (S : St) (ix : Nat) (r : List (Oper × Nat)) : Bool := r.all fun p => ordB bef ix p.2 || (isAlloc p.1.op && p.1.guard.isNone && isNew (step P S p.1))
def llBlk (bef : List Nat) (S : St) (ix : Nat) (ks : List Nat) : Bool := S.ll.all fun p => ordB bef p.1 ix || (match p.2 with | some k => !(ks.contains k) | none => true)
def llTurn (bef : List Nat) (S : St) (ix : Nat) : Bool := S.ll.all fun p => ordB bef p.1 ix || p.2.isSome
def drawStep (rid : Nat) (ops : Array Oper) (bef : List Nat) (o : Oper) (ix : Nat) (r : List (Oper × Nat)) (S : St) (K : St → VC) : VC :=
  match step P S o with
  | .val _ _ | .cas _ _ => if slotApart ops o ix r then oneOp P hi rid ix S o K else .fail 31
  | .ld i _ _ kn => if slotApart ops o ix r then oneOp P hi rid ix { S with ll := (ix, kn.map fun _ => i) :: S.ll } o K else .fail 32
  | .new _ _ _ => if aheadAll P bef S ix r then oneOp P hi rid ix S o K else .fail 33
  | .sto k _ _ => if aheadAll P bef S ix r && llBlk bef S ix [k] then oneOp P hi rid ix S o K else .fail 34
  | .call f as _ => if aheadAll P bef S ix r && (match hi.mods.lookup f with | some ixs => llBlk bef S ix (argBlks as ixs) | none => !(hi.turns.contains f) || llTurn bef S ix) then oneOp P hi rid ix S o K else .fail 35
  | .esc _ _ ty turns => if aheadAll P bef S ix r && ((ty.isSome && !(turns && !(hi.keeps.contains (rid, ix)))) || llTurn bef S ix) then oneOp P hi rid ix S o K else .fail 36
  | .bad => .fail (1000 * (rid + 1) + ix)
def exOpsD (rid : Nat) (ops : Array Oper) (bef : List Nat) : List (Oper × Nat) → St → (St → VC) → VC
  | [], S, K => K S
  | (o, ix) :: r, S, K => if !ready1 ((o, ix) :: r) o then .fail 37 else
    match guardOf ops.toList S o with
    | .yes => drawStep P hi rid ops bef o ix r S fun S => exOpsD rid ops bef r S K
    | .no => if slotApart ops o ix r then exOpsD rid ops bef r (S.put o.dst .undef) K else .fail 38
    | .br c want => branch S (if want then c else .not c) (fun S => drawStep P hi rid ops bef o ix r S fun S => exOpsD rid ops bef r S K)
        (fun S => if slotApart ops o ix r then exOpsD rid ops bef r (S.put o.dst .undef) K else .fail 38)
    | .bad => .fail 7
def allocsOk (ops : Array Oper) (bef : List Nat) : Bool :=
  ops.toList.zipIdx.all fun y => !isAlloc y.1.op || (y.1.dst.isSome && ops.toList.zipIdx.all fun z => (decide (z.2 = y.2) || decide (z.1.dst ≠ y.1.dst)) && (match z.1.dst with | some d => !((Oper.looksAt ops y.1).contains d) || (decide (z.2 ≠ y.2) && ordB bef z.2 y.2) | none => true))
def noSelect (ops : Array Oper) : Bool := ops.toList.all fun o => match o.op with | .select _ _ => false | _ => true
def exDraw (rid : Nat) (ops : Array Oper) (S : St) (K : St → VC) : VC :=
  let bef := befL ops.toList
  let c := canon ops.size ops.toList.zipIdx
  if P.follows .mixedOrders && befOk ops.toList bef && allocsOk ops bef && noSelect ops && ops.toList.all (fun o => (directPreds o).all fun q => decide (q < ops.size)) && decide (c.length = ops.size) && (List.range ops.size).all (fun i => (c.map (·.2)).contains i) && c.all (fun p => match ops[p.2]? with | some _ => true | none => false) then
    exOpsD P hi rid ops bef (c.filterMap fun p => ops[p.2]?.map fun o => (o, p.2)) { S with tm := forgetT S.tm (ops.toList.filterMap fun o => if isAlloc o.op then o.dst else none), ll := [] } K
  else .fail 39
def firstRegion : Code → Option Nat
  | .region id _ _ => some id
  | .seq a b => (firstRegion a).orElse fun _ => firstRegion b
  | .cond _ a b => (firstRegion a).orElse fun _ => firstRegion b
  | .block _ b | .loop b | .scope b => firstRegion b
  | _ => none
def wrote : Code → List Nat
  | .region _ ops _ => ops.toList.filterMap (·.dst)
  | .seq a b => wrote a ++ wrote b
  | .cond _ a b => wrote a ++ wrote b
  | .block _ b | .loop b | .scope b => wrote b
  | _ => []
def ptPq : Pq → Pt
  | .pt p => p
  | .nat => .int .i64
/-- the head's values: as they are told -/
def mkQ : Nat → List Pq → List SV × List (Nat × Pk) × List SD × Nat
  | nv, [] => ([], [], [], nv)
  | nv, .nat :: r => let q := mkQ (nv + 1) r; (.int .i64 (.v nv) :: q.1, (nv, .n) :: q.2.1, .n (.v nv) :: q.2.2.1, q.2.2.2)
  | nv, .pt (.int k) :: r => let q := mkQ (nv + 1) r; (.int k (.v nv) :: q.1, (nv, .i) :: q.2.1, .i (.v nv) :: q.2.2.1, q.2.2.2)
  | nv, .pt .bool :: r => let q := mkQ (nv + 1) r; (.bool (.v nv) :: q.1, (nv, .b) :: q.2.1, .b (.v nv) :: q.2.2.1, q.2.2.2)
  | nv, .pt .str :: r => let q := mkQ (nv + 1) r; (.str nv :: q.1, (nv, .s) :: q.2.1, .s nv :: q.2.2.1, q.2.2.2)
  | nv, .pt .sl :: r => let q := mkQ (nv + 3) r; (.slO nv (.k 0) (.v (nv + 1)) (.v (nv + 2)) :: q.1, (nv, .p) :: (nv + 1, .n) :: (nv + 2, .n) :: q.2.1, .p nv (.k 0) :: .n (.v (nv + 1)) :: .n (.v (nv + 2)) :: q.2.2.1, q.2.2.2)
  | nv, .pt .ptr :: r => let q := mkQ (nv + 1) r; (.ptrO nv (.k 0) :: q.1, (nv, .p) :: q.2.1, .p nv (.k 0) :: q.2.2.1, q.2.2.2)
  | nv, .pt .val :: r => let q := mkQ (nv + 1) r; (.o nv :: q.1, (nv, .v) :: q.2.1, .v (.o nv) :: q.2.2.1, q.2.2.2)
/-- what stands there, by name -/
def sdOf : Pq → SV → Option (List SD)
  | .nat, .int .i64 x => some [.n x]
  | .pt (.int k), .int k' x => if k = k' then some [.i x] else none
  | .pt .bool, .bool b => some [.b b]
  | .pt .str, .str i => some [.s i]
  | .pt .sl, .slO i off len cap => some [.p i off, .n len, .n cap]
  | .pt .sl, .c (.slice none n c) => some [.pn, .n (.k n), .n (.k c)]
  | .pt .ptr, .ptrO i off => some [.p i off]
  | .pt .val, v => some [.v v]
  | _, _ => none
def natsOf : Pq → SV → List Sb
  | .nat, .int .i64 x => [.le (.k 0) x]
  | .pt .sl, .slO _ _ len cap => [.le (.k 0) len, .le (.k 0) cap]
  | _, _ => []
def sdsOf : List Pq → List SV → Option (List SD)
  | [], [] => some []
  | q :: qs, v :: vs => match sdOf q v, sdsOf qs vs with
    | some a, some b => some (a ++ b)
    | _, _ => none
  | _, _ => none
def getTms (S : St) : List Nat → Option (List SV)
  | [] => some []
  | t :: r => match (S.tm[t]?).join, getTms S r with
    | some v, some vs => some (v :: vs)
    | _, _ => none
/-- the loop's own blocks: by the slots that point to them -/
def blkAt (S : St) (t : Nat) : Option Nat :=
  match (S.tm[t]?).join with
  | some (.ptrK k 0) => some k
  | _ => none
def blkNos (S : St) : List (Nat × List Pq) → Option (List (Nat × List Pq))
  | [] => some []
  | (t, q) :: r => match blkAt S t, blkNos S r with
    | some k, some l => some ((k, q) :: l)
    | _, _ => none
def getBlks (S : St) : List (Nat × List Pq) → Option (List SV)
  | [] => some []
  | (k, q) :: r => match (S.h[k]?).join, getBlks S r with
    | some o, some l => if o.cs.length = q.length then some (o.cs ++ l) else none
    | _, _ => none
def headTms (tm : List (Option SV)) : List Nat → List SV → List (Option SV)
  | t :: ts, v :: vs => headTms (tm.set t (some v)) ts vs
  | _, _ => tm
def headBlks (h : List (Option SObj)) : List (Nat × List Pq) → List SV → List (Option SObj)
  | (k, q) :: r, vs => headBlks (match (h[k]?).join with | some o => h.set k (some { o with cs := vs.take q.length }) | none => h) r (vs.drop q.length)
  | [], _ => h
abbrev forget := forgetT
def sameC : Value → Value → Bool
  | .slice none n m, .slice none n' m' => n = n' && m = m'
  | .string s, .string s' => s = s'
  | .pointer none, .pointer none => true
  | .nilFunc, .nilFunc => true
  | .nilIface, .nilIface => true
  | .map none, .map none => true
  | _, _ => false
mutual
def SV.same : SV → SV → Bool
  | .undef, .undef => true
  | .int k x, .int k' y => k = k' && x = y
  | .bool a, .bool b => a = b
  | .str i, .str j => i = j
  | .ptrK k x, .ptrK k' x' => k = k' && x = x'
  | .ptrO i x, .ptrO i' x' => i = i' && x = x'
  | .slK a b x y, .slK a' b' x' y' => a = a' && b = b' && x = x' && y = y'
  | .slO a b x y, .slO a' b' x' y' => a = a' && b = b' && x = x' && y = y'
  | .agg a, .agg b => SV.sames a b
  | .tup a, .tup b => SV.sames a b
  | .func f a b, .func g a' b' => f = g && SV.sames a a' && SV.sames b b'
  | .c v, .c w => sameC v w
  | .o i, .o j => i = j
  | _, _ => false
def SV.sames : List SV → List SV → Bool
  | [], [] => true
  | a :: l, b :: m => SV.same a b && SV.sames l m
  | _, _ => false
end
/-- what was known at the head, and is no variable of the loop's, is as it was -/
def keptObjs (bk : List Nat) : Nat → List (Option SObj) → List (Option SObj) → Bool
  | _, [], _ => true
  | k, none :: r, _ :: s => keptObjs bk (k + 1) r s
  | k, some a :: r, some b :: s => decide (a.ty = b.ty) && (bk.contains k || SV.sames a.cs b.cs) && keptObjs bk (k + 1) r s
  | _, _, _ => false
def sameTms : List (Option SV) → List (Option SV) → Bool
  | [], [] => true
  | none :: r, _ :: s => sameTms r s
  | some a :: r, some b :: s => SV.same a b && sameTms r s
  | _, _ => false

def exC : Code → St → (Xt → St → VC) → VC
  | .skip, S, K => K .normal S
  | .seq a b, S, K => exC a S fun x S => match x with
    | .normal => exC b S K
    | x => K x S
  | .cond c a b, S, K => match ev S c with
    | some (.bool c) => branch S c (fun S => exC a S K) (fun S => exC b S K)
    | _ => .fail 8
  | .block id b, S, K => exC b S fun x S => match x with
    | .exit j => if j = id then K .normal S else K (.exit j) S
    | x => K x S
  | .exit id, S, K => K (.exit id) S
  | .ret, S, K => K .ret S
  | .region id ops draw, S, K => if draw then exDraw P hi id ops S (K .normal) else exOps P hi id ops.toList ops.toList.zipIdx S (K .normal)
  | .loop b, S, K => match firstRegion b with
    | none => .fail 9
    | some id => match hi.loops.lookup id with
      | none => .fail (10000000 + id)
      | some (.unroll n) => Nat.rec (motive := fun _ => St → VC) (fun _ => .fail 10)
          (fun _ again S => exC b S fun x S => match x with | .normal => again S | x => K x S) n S
      | some (.inv slots blks) => match blkNos S blks, getTms S (slots.map (·.1)) with
        | some bl, some tv => match getBlks S bl with
          | none => .fail 11
          | some bv =>
            let pq := slots.map (·.2) ++ (bl.map (·.2)).flatten
            match sdsOf pq (tv ++ bv) with
            | none => .fail 12
            | some ini =>
              let q := mkQ S.nv pq
              let tm := headTms (forget S.tm (wrote b ++ slots.map (·.1))) (slots.map (·.1)) (q.1.take slots.length)
              let h := headBlks S.h bl (q.1.drop slots.length)
              let S' := { S with tm := tm, h := h, nv := q.2.2.2 }
              let S0 := S
              if !(S.fits && frFits S.nv q.2.1 && decide (S.nv ≤ q.2.2.2)) then .fail 26 else
              chks S (((pq.zip (tv ++ bv)).map fun p => natsOf p.1 p.2).flatten) fun S => .loop q.2.1 ini q.2.2.1 (exC b { S' with dp := S.dp + 1 } fun x S2 => match x with
                | .normal => match getTms S2 (slots.map (·.1)), getBlks S2 bl with
                  | some tv, some bv => match sdsOf pq (tv ++ bv) with
                    | none => .fail 13
                    | some vals =>
                      if sameTms (forget S0.tm (wrote b ++ slots.map (·.1))) S2.tm && keptObjs (bl.map (·.1)) 0 S0.h S2.h then
                        chks S2 (((pq.zip (tv ++ bv)).map fun p => natsOf p.1 p.2).flatten) fun _ => .back (S2.dp - 1 - S.dp) vals
                      else .fail 14
                  | _, _ => .fail 15
                | x => K x S2)
        | _, _ => .fail 16
  | _, _, _ => .fail 17
end

/-- the value that a function hands back -/
def resV (P : Program) (S : St) : List ResultVar → Option (List SV)
  | [] => some []
  | .tmp t :: r => match (S.tm[t]?).join, resV P S r with
    | some v, some vs => some (v :: vs)
    | _, _ => none
  | .cell t ty :: r => match (S.tm[t]?).join with
    | some (.ptrK k off) => match ((S.h[k]?).join).bind (fun o => partOf P ty o.cs off), resV P S r with
      | some v, some vs => some (v :: vs)
      | _, _ => none
    | _ => none
def endVC (P : Program) (fn : Func) (S : St) : VC :=
  match resV P S fn.results.toList with
  | some [v] => .ret v (knOf S [v])
  | some vs => .ret (.tup vs) (knOf S vs)
  | none => .fail 18
def exF (P : Program) (hi : Hints) (fn : Func) (args : List SV) (h : List (Option SObj)) (nv : Nat) (pc : List (Sb × Bool)) : VC :=
  match fn.body with
  | none => .fail 19
  | some c => exC P hi c { tm := args.map some ++ List.replicate (fn.ntmps - args.length) (some .undef), h := h, nv := nv, pc := pc, ll := [], dp := 0 } fun x S => match x with
    | .normal | .ret => endVC P fn S
    | .exit _ => .fail 20
end Go.Proofs.Ytcnkljeniffmmaa
