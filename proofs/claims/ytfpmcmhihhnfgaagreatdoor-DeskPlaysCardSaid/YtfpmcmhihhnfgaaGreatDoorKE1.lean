/- A symbolic run of a function's code: its data and what they mean. No conditions. -/
import Derived.WalkKit
import Derived.RangeFuncIn
import Derived.RangeFuncSeq
import Derived.RangeFuncRecord
import Derived.DefersIn
import Derived.Orders
import Derived.Laws.CopyRow
set_option linter.unusedVariables false
set_option linter.unusedSimpArgs false
namespace Go.Proofs.YtfpmcmhihhnfgaaGreatDoor
open Go.RowKit
abbrev Hp:=Nat->Option Obj
def Hp.le(H K:Hp):Prop:=∀b o,H b=some o->K b=some o
def ak(w:World):Hp:=λb=>w.heap[b]?
structure Blk where
 b:Nat
 s:Option Nat:=none
instance:Coe Nat Blk:=⟨λb=>⟨b,none⟩⟩
abbrev Loc:=Blk × Nat
abbrev OL:=Option (Loc)
def Loc.addr(x:Loc):Addr:=⟨x.1.b,x.2,x.1.s⟩
@[simp] theorem BB(a:Addr):a.add 0=a:=rfl
theorem B6(a:Addr)(i j:Nat):(a.add i).add j=a.add (i+j):=by
 unfold Addr.add
 by_cases hi:i=0<;>by_cases hj:j=0<;>simp[hi,hj,Nat.add_assoc]
theorem nx(b o k:Nat):(Loc.addr ((b:Blk),o)).add k=⟨b,o+k,none⟩:=by
 unfold Addr.add Loc.addr;split<;>simp_all
def Loc.shift(x:Loc)(k:Nat):Loc:=(⟨x.1.b,if k=0 then x.1.s else none⟩,x.2+k)
@[simp] theorem FX(x:Loc):x.shift 0=x:=rfl
@[simp] theorem EX(x:Loc)(k:Nat):(x.shift k).addr=x.addr.add k:=by
 unfold Loc.shift Loc.addr Addr.add
 split<;>simp_all
theorem m4(b o k:Nat):Loc.shift ((b:Blk),o) k=((b:Blk),o+k):=by
 unfold Loc.shift;simp
@[simp] theorem lO(b o:Nat):Loc.addr ((b:Blk),o)=⟨b,o,none⟩:=rfl
inductive Dat where
 | i (n:Int)
 | n (n:Nat)
 | b (b:Bool)
 | p (a:OL)
 | s (s:ByteArray)
 | v (v:Value)
def Dat.int:Dat->Int
 | .i z=>z
 | .n z=>z
 | _=>0
def Dat.bool:Dat->Bool
 | .b x=>x
 | _=>false
def Dat.ptr:Dat->OL
 | .p a=>a
 | _=>none
def Dat.str:Dat->ByteArray
 | .s x=>x
 | _=>⟨#[]⟩
def Dat.val:Dat->Value
 | .v x=>x
 | _=>undef
def Dat.nat:Dat->Nat
 | .n z=>z
 | _=>0
inductive Pk where
 | i | n | b | p | s | v
 deriving DecidableEq
abbrev Env:=Nat->Dat
def upd{α:Type}(e:Nat->α)(k:Nat)(d:α):Nat->α:=λj=>if j=k then d else e j
inductive Sx where
 | k (n:Int)
 | v (i:Nat)
 | add (a b:Sx)
 | sub (a b:Sx)
 | mul (a b:Sx)
 | wrap (kd:IntKind) (a:Sx)
 | mn (a b:Sx)
 | mx (a b:Sx)
 | slen (i:Nat)
 | skip (c l:Sx) (s:Nat)
 deriving DecidableEq
def Sx.den(e:Env):Sx->Int
 | .k n=>n
 | .v i=>(e i).int
 | .add a b=>a.den e+b.den e
 | .sub a b=>a.den e-b.den e
 | .mul a b=>a.den e * b.den e
 | .wrap kd a=>kd.wrap (a.den e)
 | .mn a b=>if b.den e<a.den e then b.den e else a.den e
 | .mx a b=>if a.den e<b.den e then b.den e else a.den e
 | .slen i=>((e i).str.size:Int)
 | .skip c l s=>if c.den e=l.den e then 0 else l.den e * s
inductive Sb where
 | k (b:Bool)
 | v (i:Nat)
 | lt (a b:Sx)
 | le (a b:Sx)
 | eq (a b:Sx)
 | not (a:Sb)
 | beq (a b:Sb)
 | rng (kd:IntKind) (a:Sx)
 | idx (a n:Sx)
 | isp (i:Nat)
 deriving DecidableEq
def ae(kd:IntKind)(n:Int):Prop:=kd.wrap n=n
instance (kd:IntKind) (n:Int):Decidable (ae kd n):=by unfold ae;infer_instance
def Sb.den(e:Env):Sb->Bool
 | .k b=>b
 | .v i=>(e i).bool
 | .lt a b=>decide (a.den e<b.den e)
 | .le a b=>decide (a.den e<=b.den e)
 | .eq a b=>decide (a.den e=b.den e)
 | .not a=>!(a.den e)
 | .beq a b=>a.den e==b.den e
 | .rng kd a=>decide (ae kd (a.den e))
 | .idx a n=>decide (0<=a.den e/\a.den e<n.den e)
 | .isp i=>(e i).ptr.isSome
def Sb.prop(e:Env):Sb->Prop
 | .k b=>b=true
 | .v i=>(e i).bool=true
 | .lt a b=>a.den e<b.den e
 | .le a b=>a.den e<=b.den e
 | .eq a b=>a.den e=b.den e
 | .not a=>¬a.prop e
 | .beq a b=>a.den e=b.den e
 | .rng kd a=>ae kd (a.den e)
 | .idx a n=>0<=a.den e/\a.den e<n.den e
 | .isp i=>(e i).ptr.isSome=true
inductive SV where
 | undef
 | int (kd:IntKind) (x:Sx)
 | bool (b:Sb)
 | str (i:Nat)
 | ptrK (k off:Nat)
 | ptrO (i:Nat) (off:Sx)
 | slK (k off len cap:Nat)
 | slO (i:Nat) (off len cap:Sx)
 | agg (cs:List SV)
 | tup (vs:List SV)
 | func (f:Nat) (first capt:List SV)
 | c (v:Value)
 | o (i:Nat)
 | yl (i:Nat)
def ab(a:OL)(off:Int):Option Addr:=a.map λx=>x.addr.add off.toNat
mutual
def SV.den(ρ:Nat->Nat)(e:Env):SV->Value
 | .undef=>Go.undef
 | .int kd x=>.int kd (x.den e)
 | .bool b=>.bool (b.den e)
 | .str i=>.string (e i).str
 | .ptrK k off=>.pointer (some ⟨ρ k,off,none⟩)
 | .ptrO i off=>.pointer (ab (e i).ptr (off.den e))
 | .slK k off len cap=>.slice (some ⟨ρ k,off,none⟩) len cap
 | .slO i off len cap=>.slice (ab (e i).ptr (off.den e)) (len.den e).toNat (cap.den e).toNat
 | .agg cs=>.agg (SV.dens ρ e cs).toArray
 | .tup vs=>.tuple (SV.dens ρ e vs).toArray
 | .func f first capt=>.func (.func f) (SV.dens ρ e first).toArray (SV.dens ρ e capt).toArray
 | .c v=>v
 | .o i=>(e i).val
 | .yl i=>.func (.yield (e i).nat) #[] #[]
def SV.dens(ρ:Nat->Nat)(e:Env):List SV->List Value
 | [] => []
 | v::vs=>v.den ρ e::SV.dens ρ e vs
end
theorem kA(ρ:Nat->Nat)(e:Env)(l:List SV):SV.dens ρ e l=l.map (SV.den ρ e):=by
 induction l with
 | nil=>rfl
 | cons a l ih=>simp only[SV.dens,List.map_cons,ih]
structure ay where
 cs:List SV
 ty:Nat
def ay.den(ρ:Nat->Nat)(e:Env)(o:ay):Obj:=.cells (SV.dens ρ e o.cs).toArray o.ty (0,0)
inductive EK where
 | slice (t:Nat) (lo hi mx:Bool)
 | bop (op:BinOp) (t:Nat) (x y:Operand)
 | conv (s d:Nat)
 | idx (t:Nat)
 | bi (b:Builtin) (ats:Array Nat) (ty:Nat)
 | mkSlice (t:Nat)
 | lookup (t:Nat) (ok:Bool)
 | storeO (t:Nat)
 | mkIface (t:Nat)
 | mkMap (t:Nat)
 | ins (t:Nat)
 | ext (f:Nat)
def EK.sem:EK->List Value->Sem Next
 | .slice t lo hi mx,vs =>
  let x:=vs.getD 0 Go.undef
  let r1:=vs.drop 1
  let l:=if lo then r1[0]? else none
  let r2:=if lo then r1.drop 1 else r1
  let h:=if hi then r2[0]? else none
  let r3:=if hi then r2.drop 1 else r2
  let m:=if mx then r3[0]? else none
  do pure (.value (<- Instr.sliceAt t x l h m))
 | .bop op t x y,vs=>do pure (.value (<- (do eqGuard op t x y (vs.getD 0 Go.undef) (vs.getD 1 Go.undef);binOp op t (vs.getD 0 Go.undef) (vs.getD 1 Go.undef))))
 | .conv s d,vs=>do pure (.value (<- convert s d (vs.getD 0 Go.undef)))
 | .idx t,vs=>do pure (.value (<- Instr.index t (vs.getD 0 Go.undef) (vs.getD 1 Go.undef)))
 | .bi b ats ty,vs=>builtin b ats ty #[] vs.toArray
 | .mkSlice t,vs=>do pure (.value (<- Instr.makeSlice t (vs.getD 0 Go.undef) (vs.getD 1 Go.undef)))
 | .lookup t ok,vs=>do pure (.value (<- Instr.lookup t (vs.getD 0 Go.undef) (vs.getD 1 Go.undef) ok))
 | .storeO t,vs=>do Instr.storeAt t (vs.getD 0 Go.undef) (vs.getD 1 Go.undef);pure .skip
 | .mkIface t,vs=>do pure (.value (<- Instr.makeInterface t (vs.getD 0 Go.undef)))
 | .mkMap t,_=>do pure (.value (<- Instr.makeMap t none))
 | .ins t,vs=>do Instr.mapUpdate t (vs.getD 0 Go.undef) (vs.getD 1 Go.undef) (vs.getD 2 Go.undef);pure .skip
 | .ext f,vs=>callFunc f vs.toArray
inductive CC where
 | same
 | fresh
 | mods (l:List (Nat × ay))
 | both (l:List (Nat × ay))
 | turn
inductive SD where
 | i (x:Sx)
 | n (x:Sx)
 | b (x:Sb)
 | p (i:Nat) (off:Sx)
 | pn
 | s (i:Nat)
 | sc (s:ByteArray)
 | v (x:SV)
def SD.den(ρ:Nat->Nat)(e:Env):SD->Dat
 | .i x=>.i (x.den e)
 | .n x=>.n (x.den e).toNat
 | .b x=>.b (x.den e)
 | .p j off=>.p ((e j).ptr.map λa=>a.shift (off.den e).toNat)
 | .pn=>.p none
 | .s j=>.s (e j).str
 | .sc z=>.s z
 | .v x=>.v (x.den ρ e)
inductive VC where
 | fail (n:Nat)
 | tt
 | ret (v:SV) (hs:List (Nat × ay))
 | ite (c:Sb) (t f:VC)
 | chk (c:Sb) (r:VC)
 | imp (c:Sb) (r aN:VC)
 | all (k:Nat) (r:VC)
 | ld (i:Nat) (off:Sx) (cells:List SV) (fr:List (Nat × Pk)) (r:VC)
 | call (f:Nat) (args:List SV) (hs:List (Nat × ay)) (fr:List (Nat × Pk)) (pat:SV) (cls:CC) (r:VC)
 | esc (q:EK) (args:List SV) (hs:List (Nat × ay)) (fr:List (Nat × Pk)) (pat:Option SV) (cls:CC) (r:VC)
 | loop (fr:List (Nat × Pk)) (ini hd:List SD) (body:VC)
 | back (j:Nat) (vals:List SD)
 | yld (i:Nat) (args:List SV) (hs:List (Nat × ay)) (r:VC)
 | hold (i:Nat) (cs:List SV) (t:Nat) (r:VC)
 | rf (gf:Nat) (lb:List SV) (frc:List (Nat × Pk)) (ini hd:List SD) (frp:List (Nat × Pk)) (pars:List SV) (body after:VC)
 | callp (f:Nat) (args:List SV) (hs:List (Nat × ay)) (fr:List (Nat × Pk)) (pat:SV) (cls:CC) (df:Option (Nat × List Nat)) (rc:List (Nat × Nat)) (r:VC)
 | pnc (v:SV) (hs:List (Nat × ay)) (df:Option (Nat × List Nat)) (rc:List (Nat × Nat))
 | old (i:Nat) (r:VC)
 | door (hs:List (Nat × ay)) (df:Option (Nat × List Nat)) (rc:List (Nat × Nat))
structure Kn(W0:World)(M:Nat->Prop)(H:Hp)(W:World)(b:Nat)(o:Obj):Prop where
 eq:W.heap[b]?=some o
 own:W0.heap.size<=b\/M b
 off:H b=none
def KN(W0:World)(M:Nat->Prop)(H:Hp)(W:World)(ρ:Nat->Nat)(e:Env):List (Nat × ay)->Prop
 | []=>True
 | (k,o)::r=>Kn W0 M H W (ρ k) (o.den ρ e)/\KN W0 M H W ρ e r
structure Mod(M:Nat->Prop)(W W':World):Prop where
 os:W'.os=W.os
 tape:W'.tape=W.tape
 output:W'.output=W.output
 size:W.heap.size<=W'.heap.size
 blk:∀b,b<W.heap.size->¬M b->W'.heap[b]?=W.heap[b]?
structure Now(W0:World)(M:Nat->Prop)(H:Hp)(W:World):Prop where
 sub:H.le (ak W)
 mod:Mod M W0 W
abbrev Ext(W W':World):Prop:=Below W.heap.size W W'
def Ez(fz:Nat × Nat)(i:Nat):Prop:=¬(fz.1<=i/\i<fz.2)
theorem qj(i:Nat):Ez (0,0) i:=λh=>Nat.not_lt_zero _ h.2
def aa(H:Hp)(a:OL)(off:Int)(cs:List Value):Prop :=
 ∃(b o:Nat),a=some ((b:Blk),o)/\∃C T fz,H b=some (.cells C T fz)/\∀j,j<cs.length->C[o+off.toNat+j]?=cs[j]?/\Ez fz (o+off.toNat+j)
def exL(e:Env)(K:Env->Prop):List (Nat × Pk)->Prop
 | []=>K e
 | (i,.i)::r=>∃x:Int,exL (upd e i (.i x)) K r
 | (i,.n)::r=>∃x:Nat,exL (upd e i (.n x)) K r
 | (i,.b)::r=>∃x:Bool,exL (upd e i (.b x)) K r
 | (i,.p)::r=>∃x:OL,exL (upd e i (.p x)) K r
 | (i,.s)::r=>∃x:ByteArray,exL (upd e i (.s x)) K r
 | (i,.v)::r=>∃x:Value,exL (upd e i (.v x)) K r
def qu(e:Env)(K:Env->Prop):List (Nat × Pk)->Prop
 | []=>K e
 | (i,.i)::r=>∀x:Int,qu (upd e i (.i x)) K r
 | (i,.n)::r=>∀x:Nat,qu (upd e i (.n x)) K r
 | (i,.b)::r=>∀x:Bool,qu (upd e i (.b x)) K r
 | (i,.p)::r=>∀x:OL,qu (upd e i (.p x)) K r
 | (i,.s)::r=>∀x:ByteArray,qu (upd e i (.s x)) K r
 | (i,.v)::r=>∀x:Value,qu (upd e i (.v x)) K r
structure gH(W0:World)(M:Nat->Prop)(H:Hp)(W:World)(H':Hp)(W':World):Prop where
 mod:Mod (λb=>(∃o,H b=some o)/\(W0.heap.size<=b\/M b)) W W'
 sub:H'.le (ak W')
 dom:∀b o,H' b=some o->(∃o',H b=some o')\/W.heap.size<=b
def xT(ρ:Nat->Nat)(e:Env)(l:List (Nat × ay)):List (Nat × Obj):=l.map λp=>(ρ p.1,p.2.den ρ e)
theorem nw(ρ:Nat->Nat)(e:Env)(l:List (Nat × ay)):(λb=>∃p∈xT ρ e l,p.1=b)=λb=>∃p∈l,ρ p.1=b:=by
 funext b
 apply propext;constructor
 ·rintro⟨p,hp,rfl⟩;obtain⟨q,hq,rfl⟩:=List.mem_map.1 hp;exact⟨q,hq,rfl⟩
 ·rintro⟨q,hq,rfl⟩;exact⟨_,List.mem_map.2 ⟨q,hq,rfl⟩,rfl⟩
theorem mD{ρ:Nat->Nat}{e:Env}{l:List (Nat × ay)}{W:World}(h:∀p∈xT ρ e l,W.heap[p.1]?=some p.2):∀p∈l,W.heap[ρ p.1]?=some (p.2.den ρ e):=λp hp=>h _ (List.mem_map.2 ⟨p,hp,rfl⟩)
def CC.post(W0:World)(M:Nat->Prop)(ρ:Nat->Nat)(e:Env)(H:Hp)(W W':World)(K:Hp->Prop):CC->Prop
 | .same=>Ext W W'/\K H
 | .fresh=>Ext W W'/\∃D:Hp,D.le (ak W')/\(∀b o,D b=some o->W.heap.size<=b)/\∀H',H.le H'->D.le H'->K H'
 | .mods l=>Mod (λb=>∃p∈xT ρ e l,p.1=b) W W'/\(∀p∈xT ρ e l,W'.heap[p.1]?=some p.2)/\K H
 | .both l=>∃Wm H',Mod (λb=>∃p∈xT ρ e l,p.1=b) W Wm/\(∀p∈xT ρ e l,Wm.heap[p.1]?=some p.2)/\gH W0 M H Wm H' W'/\K H'
 | .turn=>∃H',gH W0 M H W H' W'/\K H'
abbrev Fw(rd:Option Nat):Fence:={ fn:=λ_=>True,depth:=none,alive:=false,round:=rd }
def isC:Obj->Bool
 | .cells _ _ _=>true
 | _=>false
def Hp.cells(H:Hp):Hp:=λb=>match H b with
 | some (.cells C T fz)=>some (.cells C T fz)
 | _=>none
def zM(P:Program)(gf:Nat)(lb:List Value)(Hi:Hp)(own:Nat->Prop)(N:Nat)(item:Nat->List Value->Hp->Prop):Prop :=
 ∀(l:Nat) (J:Nat->Hp->(Nat->Prop)->Prop),
  (∀k HJ FT V vals D,k<N->J k HJ FT->HJ.le (ak V)->item k vals D->D.le (ak V)->D.cells=D->(∀b,FT b->D b=none) ->
   YieldAt (Fw none) 0 P l vals.toArray V λz V'=>z=.returned (.bool true)/\∃HJ' FT',J (k+1) HJ' FT'/\HJ'.le (ak V')/\Mod FT V V'/\(∀b,FT' b->(FT b\/V.heap.size<=b)/\D b=none)/\(∀b,FT' b->∃o,HJ' b=some o)/\(∀b o,HJ' b=some o->(∃q,HJ b=some q)\/(∃q,D b=some q)\/V.heap.size<=b)) ->
  ∀(W:World) (HJ:Hp) (FT:Nat->Prop),Hi.le (ak W)->HJ.le (ak W)->J 0 HJ FT->(∀b,own b->HJ b=none/\∃o,Hi b=some o)->(∀b,FT b->Hi b=none/\∃o,HJ b=some o) ->
   Calls P gf (.func (.yield l) #[] #[]::lb).toArray W λz W'=>(∃v,z=.returned v)/\∃HJ' FT',J N HJ' FT'/\HJ'.le (ak W')/\Mod (λb=>own b\/FT b) W W'
structure xA(P:Program)(W0:World)(M:Nat->Prop)(gf:Nat)(lb:List Value)(H:Hp)(own:Nat->Prop)(N:Nat)(item:Nat->List Value->Hp->Prop)(I:List Dat->Nat->Hp->(Nat->Prop)->Prop)(ini:List Dat)(Hi H1:Hp)(T:Nat->Prop):Prop where
 it:zM P gf lb Hi own N item
 hi:Hi.le H
 h1:H1.le H
 own:∀b,own b->H1 b=none/\(∃o,Hi b=some o)/\(W0.heap.size<=b\/M b)
 tn:∀b,T b->Hi b=none/\(∃o,H1 b=some o)/\(W0.heap.size<=b\/M b)
 ini:I ini 0 H1 T
def AW(rc:List (Nat × Nat)):Sem Value:=do
 let vs <- rc.mapM λp=>loadVar p.2 ⟨p.1,0,none⟩
 pure (match vs with
  | [v]=>v
  | vs=>.tuple vs.toArray)
def Dr(P:Program)(R:Ending->World->Prop)(df:Option (Nat × List Nat))(rc:List (Nat × Nat))(mode:FrameMode)(W:World):Prop :=
 match df with
 | none=>match mode with
  | .panicking ps=>R (.panicked ps) W
  | _=>False
 | some (g,ks)=>CallsDIn (Fw none) 0 P g (ks.map λk=>Value.pointer (some ⟨k,0,none⟩)).toArray mode W λx u' W'=>(∃v,x=.returned v)/\settle u'=.returning/\∃v,(AW rc).run P W'=.ok v W'/\R (.returned v) W'
def dfR(ρ:Nat->Nat)(df:Option (Nat × List Nat)):Option (Nat × List Nat):=df.map λq=>(q.1,q.2.map ρ)
def rcR(ρ:Nat->Nat)(rc:List (Nat × Nat)):List (Nat × Nat):=rc.map λp=>(ρ p.1,p.2)
def Ep(W0:World)(M:Nat->Prop)(a:OL):Prop:=∃b o:Nat,a=some ((b:Blk),o)/\b<W0.heap.size/\¬M b
section
variable(P:Program)
def VC.den:World->(Nat->Prop)->(Ending->World->Prop)->VC->(Nat->Nat)->Env->Hp->List (List Dat->Hp->Prop)->Prop
 | _,_,_,.fail _,_,_,_,_=>False
 | _,_,_,.tt,_,_,_,_=>True
 | W0,M,R,.ret v hs,ρ,e,H,_=>∀W,Now W0 M H W->KN W0 M H W ρ e hs->R (.returned (v.den ρ e)) W
 | W0,M,R,.ite c t f,ρ,e,H,L=>(c.prop e->VC.den W0 M R t ρ e H L)/\(¬c.prop e->VC.den W0 M R f ρ e H L)
 | W0,M,R,.chk c r,ρ,e,H,L=>c.prop e/\(c.prop e->VC.den W0 M R r ρ e H L)
 | W0,M,R,.imp c r aN,ρ,e,H,L=>(c.prop e->VC.den W0 M R r ρ e H L)/\VC.den W0 M R aN ρ e H L
 | W0,M,R,.all k r,ρ,e,H,L=>∀b:Nat,VC.den W0 M R r (upd ρ k b) e H L
 | W0,M,R,.ld i off cells fr r,ρ,e,H,L=>exL e (λe'=>aa H (e i).ptr (off.den e) (SV.dens ρ e' cells)/\VC.den W0 M R r ρ e' H L) fr
 | W0,M,R,.call f args hs fr pat cls r,ρ,e,H,L=>∀W,Now W0 M H W->KN W0 M H W ρ e hs ->
   Calls P f (SV.dens ρ e args).toArray W λx W'=>exL e (λe'=>x=.returned (pat.den ρ e')/\cls.post W0 M ρ e' H W W' (λH'=>VC.den W0 M R r ρ e' H' L)) fr
 | W0,M,R,.esc q args hs fr pat cls r,ρ,e,H,L=>∀W,Now W0 M H W->KN W0 M H W ρ e hs ->
   exL e (λe'=>∃W',(q.sem (SV.dens ρ e args)).run P W=.ok (match pat with | some v=>.value (v.den ρ e') | none=>.skip) W'/\cls.post W0 M ρ e' H W W' (λH'=>VC.den W0 M R r ρ e' H' L)) fr
 | W0,M,R,.loop fr ini hd body,ρ,e,H,L=>∃(I:List Dat->Hp->Prop) (μ:List Dat->Nat),I (ini.map (SD.den ρ e)) H /\
   ∀H',qu e (λe'=>I (hd.map (SD.den ρ e')) H'->VC.den W0 M R body ρ e' H' ((λl K=>I l K/\μ l<μ (hd.map (SD.den ρ e')))::L)) fr
 | _,_,_,.back j vals,ρ,e,H,L=>(L.getD j (λ_ _=>False)) (vals.map (SD.den ρ e)) H
 | W0,M,R,.yld i args hs r,ρ,e,H,L=>∀W,Now W0 M H W->KN W0 M H W ρ e hs ->
   YieldAt (Fw none) 0 P (e i).nat (SV.dens ρ e args).toArray W λx W'=>x=.returned (.bool true)/\∃H',gH W0 M H W H' W'/\VC.den W0 M R r ρ e H' L
 | W0,M,R,.hold i cs t r,ρ,e,H,L=>∀p:OL,∀H':Hp,(∃b:Nat,p=some ((b:Blk),0)/\W0.heap.size<=b/\H b=none/\H' b=some (.cells (SV.dens ρ e cs).toArray t (0,0)))->H.le H'->VC.den W0 M R r ρ (upd e i (.p p)) H' L
 | W0,M,R,.rf gf lb frc ini hd frp pars body after,ρ,e,H,L =>
  ∃(own:Nat->Prop) (N:Nat) (item:Nat->List Value->Hp->Prop) (I:List Dat->Nat->Hp->(Nat->Prop)->Prop) (Hi H1:Hp) (T:Nat->Prop),
   xA P W0 M gf (SV.dens ρ e lb) H own N item I (ini.map (SD.den ρ e)) Hi H1 T /\
   (∀(k:Nat) (vals:List Value) (W1:World) (M1:Nat->Prop) (H1:Hp) (T:Nat->Prop) (D H2:Hp),k<N->W0.heap.size<=W1.heap.size->item k vals D->(∀b,T b->M1 b/\D b=none)->H1.le H2->D.le H2 ->
    qu e (λe'=>I (hd.map (SD.den ρ e')) k H1 T->exL e' (λe''=>vals=SV.dens ρ e'' pars /\
     VC.den W1 M1 R body ρ e'' H2 ((λd K=>∃(T':Nat->Prop) (K':Hp),K'.le K/\I d (k+1) K' T'/\(∀b o,K' b=some o->(∃q,H1 b=some q)\/(∃q,D b=some q)\/W1.heap.size<=b)/\∀b,T' b->(T b\/W1.heap.size<=b)/\(∃o,K' b=some o)/\D b=none)::L)) frp) frc) /\
   (∀(H1:Hp) (T:Nat->Prop),qu e (λe'=>I (hd.map (SD.den ρ e')) N H1 T->VC.den W0 M R after ρ e' H1 L) frc)
 | W0,M,R,.callp f args hs fr pat cls df rc r,ρ,e,H,L=>∀W,Now W0 M H W->KN W0 M H W ρ e hs ->
   Calls P f (SV.dens ρ e args).toArray W λx W'=>(exL e (λe'=>x=.returned (pat.den ρ e')/\cls.post W0 M ρ e' H W W' (λH'=>VC.den W0 M R r ρ e' H' L)) fr)\/(∃ps,x=.panicked ps/\Dr P R (dfR ρ df) (rcR ρ rc) (.panicking ps) W')
 | W0,M,R,.pnc v hs df rc,ρ,e,H,_=>∀W,Now W0 M H W->KN W0 M H W ρ e hs->(∃t u,v.den ρ e=.iface t u)/\Dr P R (dfR ρ df) (rcR ρ rc) (.panicking [{ v:=v.den ρ e,recovered:=false }]) W
 | W0,M,R,.old i r,ρ,e,H,L=>Ep W0 M (e i).ptr/\VC.den W0 M R r ρ e H L
 | W0,M,R,.door hs df rc,ρ,e,H,_=>∀W,Now W0 M H W->KN W0 M H W ρ e hs->Dr P R (dfR ρ df) (rcR ρ rc) .returning W
end
inductive Pt where
 | int (k:IntKind) | bool | str | sl | ptr | val
def ja:Value->Pt
 | .int k _=>.int k
 | .bool _=>.bool
 | .string _=>.str
 | .slice _ _ _=>.sl
 | .pointer _=>.ptr
 | _=>.val
def mkP:Nat->List Pt->List SV × List (Nat × Pk) × Nat
 | nv,[]=>([],[],nv)
 | nv,.int k::r=>let q:=mkP (nv+1) r;(.int k (.v nv)::q.1,(nv,.i)::q.2.1,q.2.2)
 | nv,.bool::r=>let q:=mkP (nv+1) r;(.bool (.v nv)::q.1,(nv,.b)::q.2.1,q.2.2)
 | nv,.str::r=>let q:=mkP (nv+1) r;(.str nv::q.1,(nv,.s)::q.2.1,q.2.2)
 | nv,.sl::r=>let q:=mkP (nv+3) r;(.slO nv (.k 0) (.v (nv+1)) (.v (nv+2))::q.1,(nv,.p)::(nv+1,.n)::(nv+2,.n)::q.2.1,q.2.2)
 | nv,.ptr::r=>let q:=mkP (nv+1) r;(.ptrO nv (.k 0)::q.1,(nv,.p)::q.2.1,q.2.2)
 | nv,.val::r=>let q:=mkP (nv+1) r;(.o nv::q.1,(nv,.v)::q.2.1,q.2.2)
structure St where
 tm:List (Option SV)
 h:List (Option ay)
 nv:Nat
 pc:List (Sb × Bool)
 ll:List (Nat × Option Nat)
 dp:Nat
def Sx.lt(n:Nat):Sx->Bool
 | .k _=>true
 | .v i | .slen i=>decide (i<n)
 | .add a b | .sub a b | .mul a b | .mn a b | .mx a b=>a.lt n&&b.lt n
 | .wrap _ a=>a.lt n
 | .skip a b _=>a.lt n&&b.lt n
def Sb.fits(n:Nat):Sb->Bool
 | .k _=>true
 | .v i | .isp i=>decide (i<n)
 | .lt a b | .le a b | .eq a b | .idx a b=>a.lt n&&b.lt n
 | .not a=>a.fits n
 | .beq a b=>a.fits n&&b.fits n
 | .rng _ a=>a.lt n
mutual
def SV.lt(n m:Nat):SV->Bool
 | .undef | .c _=>true
 | .int _ x=>x.lt n
 | .bool b=>b.fits n
 | .str i | .o i=>decide (i<n)
 | .ptrK k _ | .slK k _ _ _=>decide (k<m)
 | .ptrO i off=>decide (i<n)&&off.lt n
 | .slO i off len cap=>decide (i<n)&&off.lt n&&len.lt n&&cap.lt n
 | .agg cs | .tup cs=>SV.lts n m cs
 | .func _ a b=>SV.lts n m a&&SV.lts n m b
 | .yl i=>decide (i<n)
def SV.lts(n m:Nat):List SV->Bool
 | []=>true
 | v::r=>v.lt n m&&SV.lts n m r
end
def nB(n m:Nat):List (Option SV)->Bool
 | []=>true
 | none::r=>nB n m r
 | some v::r=>v.lt n m&&nB n m r
def pU(n m:Nat):List (Option ay)->Bool
 | []=>true
 | none::r=>pU n m r
 | some o::r=>SV.lts n m o.cs&&pU n m r
def sB(n:Nat):List (Sb × Bool)->Bool
 | []=>true
 | p::r=>p.1.fits n&&sB n r
def St.fits(S:St):Bool:=nB S.nv S.h.length S.tm&&pU S.nv S.h.length S.h&&sB S.nv S.pc
def cv(n:Nat):List (Nat × Pk)->Bool
 | []=>true
 | p::r=>decide (n<=p.1)&&cv n r
def St.put(S:St)(d:Option Nat)(v:SV):St :=
 match d with
 | some t=>{ S with tm:=S.tm.set t (some v) }
 | none=>S
def jh:Value->SV
 | .int k n=>.int k (.k n)
 | .bool b=>.bool (.k b)
 | v=>.c v
def AX:Value->SV
 | .agg cs=>.agg (cs.toList.map jh)
 | v=>jh v
def ev(S:St):Operand->Option SV
 | .tmp t=>(S.tm[t]?).join
 | .const v=>some (AX v)
 | .func f=>some (.func f [] [])
 | .global _=>none
def evs(S:St):List Operand->Option (List SV)
 | []=>some []
 | x::r=>match ev S x,evs S r with
  | some v,some vs=>some (v::vs)
  | _,_=>none
def Sb.lit:Sb->Option Bool
 | .k b=>some b
 | .lt (.k a) (.k b)=>some (decide (a<b))
 | .le (.k a) (.k b)=>some (decide (a<=b))
 | .eq (.k a) (.k b)=>some (decide (a=b))
 | .rng kd (.k a)=>some (decide (kd.wrap a=a))
 | _=>none
def pv:Sb->Bool->Option (Sx × Int)
 | .eq x (.k i),true=>some (x,i)
 | _,_=>none
def xx:List (Sb × Bool)->Sb->Option Bool
 | [],_=>none
 | p::r,c=>if p.1=c then some p.2 else
  match pv p.1 p.2,pv c true with
  | some (x,i),some (y,j)=>if x=y then some (decide (i=j)) else xx r c
  | _,_=>xx r c
def dec(pc:List (Sb × Bool)):Sb->Option Bool
 | .not a=>(dec pc a).map (!·)
 | c=>match c.lit with
  | some b=>some b
  | none=>xx pc c
def xH:List (Sb × Bool)->Sx->Option Int
 | [],_=>none
 | p::r,x=>match pv p.1 p.2 with
  | some (y,i)=>if x=y then some i else xH r x
  | none=>xH r x
def num(pc:List (Sb × Bool)):Sx->Option Int
 | .k n=>some n
 | x=>xH pc x
def n8(S:St):Sb->(St->VC)->(St->VC)->VC
 | .not a,A,B=>n8 S a B A
 | c,A,B=>match dec S.pc c with
  | some true=>A S
  | some false=>B S
  | none=>.ite c (A { S with pc:=(c,true)::S.pc }) (B { S with pc:=(c,false)::S.pc })
def sf(S:St):List Sb->(St->VC)->VC
 | [],K=>K S
 | c::r,K=>match dec S.pc c with
  | some true=>sf S r K
  | _=>.chk c (sf { S with pc:=(c,true)::S.pc } r K)
def sg(S:St)(x:Sx)(d:Option Nat)(K:St->VC):Nat->List SV->VC
 | _,[]=>.tt
 | j,v::r=>.imp (.eq x (.k j)) (K ({ S with pc:=(.eq x (.k j),true)::S.pc }.put d v)) (sg S x d K (j+1) r)
def jd(P:Program)(t:Nat):Bool :=
 match P.underlying t with
 | some (.struct _) | some (.array _ _)=>true
 | _=>false
def ee(P:Program)(t:Nat):Option Nat :=
 match P.underlying t,P.info? t with
 | some _,some i=>some i.size
 | _,_=>none
def jF(P:Program)(t:Nat):Option (List Value) :=
 match ee P t,(P.info? t).bind (·.zero) with
 | some n,some v=>if v.cells.size=n then some v.cells.toList else none
 | _,_=>none
def Fy(P:Program)(nv:Nat)(t:Nat):Option (SV × List (Nat × Pk) × Nat) :=
 match jF P t with
 | none=>none
 | some zs =>
  let q:=mkP nv (zs.map ja)
  if jd P t then some (.agg q.1,q.2) else
  match q.1 with
  | [v]=>some (v,q.2)
  | _=>none
def DG(P:Program)(nv:Nat):List Nat->Option (List SV × List (Nat × Pk) × Nat)
 | []=>some ([],[],nv)
 | t::r=>match Fy P nv t with
  | none=>none
  | some (v,f,n)=>match DG P n r with
   | none=>none
   | some (vs,fs,m)=>some (v::vs,f++fs,m)
def FB(P:Program)(nv:Nat)(t:Nat):Option (SV × List (Nat × Pk) × Nat) :=
 match P.underlying t with
 | some (.tuple ts)=>(DG P nv ts.toList).map λq=>(.tup q.1,q.2)
 | _=>Fy P nv t
def wi(f:List (Nat × Pk)):Bool:=f.any λp=>match p.2 with | .p | .v=>true | _=>false
inductive R1 where
 | val (cs:List Sb) (v:SV)
 | new (cs:List SV) (ty:Nat) (len:Option Nat)
 | sto (k off:Nat) (cs:List SV)
 | ld (i:Nat) (off:Sx) (t:Nat) (k:Option Nat)
 | cas (x:Sx) (vs:List SV)
 | call (f:Nat) (args:List SV) (ty:Nat)
 | esc (q:EK) (args:List SV) (ty:Option Nat) (turns:Bool)
 | bad
def cz:SV->Option (List SV)
 | .agg cs=>some cs
 | .undef | .o _=>none
 | .c (.agg _)=>none
 | .tup _=>none
 | v=>some [v]
def iw(P:Program)(t:Nat)(cs:List SV)(off:Nat):Option SV :=
 match ee P t with
 | none=>none
 | some n=>if jd P t then (if off+n<=cs.length then some (.agg ((cs.drop off).take n)) else none) else cs[off]?
def SV.one:SV->Bool
 | .int _ _ | .bool _ | .str _ | .ptrK _ _ | .ptrO _ _ | .slK _ _ _ _ | .slO _ _ _ _ | .func _ _ _ | .yl _=>true
 | .c (.agg _) | .c (.tuple _)=>false
 | .c _=>true
 | _=>false
def bW(cs:List SV)(off:Nat):List SV->List SV
 | []=>cs
 | v::r=>bW (cs.set off v) (off+1) r
def lU(place:Nat->Option (Nat × Nat))(cs:List SV):List (Nat × SV)->Option (List SV)
 | []=>some cs
 | (i,v)::r=>match place i,cz v with
  | some (off,n),some vs=>if vs.length=n/\off+n<=cs.length then lU place (bW cs off vs) r else none
  | _,_=>none
def lj(P:Program):List Field->Option (List (Nat × Nat))
 | []=>some []
 | f::r=>match ee P f.type,lj P r with
  | some n,some ps=>some ((f.offset,n)::ps)
  | _,_=>none
def ib(l:List SV):Nat->List SV
 | 0 => []
 | n+1=>l++ib l n
def l6(S:St):List (Nat × Operand)->Option (List (Nat × SV))
 | []=>some []
 | (i,x)::r=>match ev S x,l6 S r with
  | some v,some vs=>some ((i,v)::vs)
  | _,_=>none
def lZ(S:St)(x:SV):Option Sx :=
 match x with
 | .int _ a=>match num S.pc a with
  | some n=>some (.k n)
  | none=>some a
 | _=>none
def elems(mk:Nat->SV)(n:Nat):List SV:=(List.range n).map mk
def rQ(S:St)(x:SV):Option Nat :=
 match lZ S x with
 | some (.k n)=>if 0<=n then some n.toNat else none
 | _=>none
def kN(S:St):Option Operand->Option (Option Nat)
 | none=>some none
 | some x=>match ev S x with
  | some v=>(rQ S v).map some
  | none=>none
def iy(S:St):Option Operand->Option (Option Sx)
 | none=>some none
 | some x=>match ev S x with
  | some v=>(lZ S v).map some
  | none=>none
def ar(kd:IntKind)(f:Int->Int->Int)(g:Sx->Sx->Sx):Sx->Sx->R1
 | .k a,.k b=>.val [] (.int kd (.k (kd.wrap (f a b))))
 | a,b=>.val [.rng kd (g a b)] (.int kd (g a b))
def Bp(x y:Operand)(op:BinOp)(t:Nat)(a b:SV)(ty:Nat):R1:=.esc (.bop op t x y) [a,b] (some ty) false
def qe(l c:Operand):Option Nat:=match l,c with
 | .const (.int _ n),.const (.int _ m)=>if n=m/\0<n/\n<=64 then some n.toNat else none
 | _,_=>none
def Bd(P:Program)(t n:Nat):R1:=match P.underlying t with
 | some (.slice el)=>match ee P el,jF P el,P.info? el with
  | some s,some zs,some i=>if s=zs.length/\0<s/\i.bytes<=65536 then .new (ib (zs.map jh) n) el (some n) else .bad
  | _,_,_=>.bad
 | _=>.bad
def step(P:Program)(S:St)(o:Oper):R1 :=
 match o.op with
 | .move x | .assign x=>match ev S x with
  | some v=>.val [] v
  | none=>.bad
 | .pick c a b=>match ev S c with
  | some (.bool c)=>match dec S.pc c with
   | some true=>match ev S a with
    | some v=>.val [] v
    | none=>.bad
   | some false=>match ev S b with
    | some v=>.val [] v
    | none=>.bad
   | none=>.bad
  | _=>.bad
 | .alloc t=>match jF P t with
  | some zs=>.new (zs.map jh) t none
  | none=>.bad
 | .box t x=>match (ev S x).bind cz with
  | some cs=>.new cs t none
  | none=>.bad
 | .build t parts=>match l6 S parts.toList,jF P t,P.underlying t with
  | some ps,some zs,some (.struct fs)=>match lj P fs.toList with
   | some pl=>match lU (pl[·]?) (zs.map jh) ps with
    | some cs=>.val [] (.agg cs)
    | none=>.bad
   | none=>.bad
  | some ps,some zs,some (.array _ el)=>match ee P el with
   | some n=>match lU (λi=>some (i * n,n)) (zs.map jh) ps with
    | some cs=>.val [] (.agg cs)
    | none=>.bad
   | none=>.bad
  | _,_,_=>.bad
 | .buildSlice t len parts=>match l6 S parts.toList,P.underlying t with
  | some ps,some (.slice el)=>match ee P el,jF P el with
   | some n,some zs=>if n=zs.length/\0<n/\len * n<=16777216 then
     match lU (λi=>some (i * n,n)) (ib (zs.map jh) len) ps with
     | some cs=>.new cs el (some len)
     | none=>.bad
    else .bad
   | _,_=>.bad
  | _,_=>.bad
 | .load t a=>match ev S a with
  | some (.ptrK k off)=>match (S.h[k]?).join with
   | some ob=>match iw P t ob.cs off with
    | some v=>.ld k (.k 0) t (some off)
    | none=>.bad
   | none=>.bad
  | some (.ptrO i off)=>.ld i off t none
  | _=>.bad
 | .store t a x=>match ev S a,(ev S x),ee P t with
  | some (.ptrK k off),some v,some n=>match cz v,(S.h[k]?).join with
   | some cs,some ob=>if cs.length=n/\off+n<=ob.cs.length/\cs.all SV.one=true then .sto k off cs else .bad
   | _,_=>.bad
  | some (.ptrO i off),some v,some _=>.esc (.storeO t) [.ptrO i off,v] none true
  | _,_,_=>.bad
 | .nilCheck x=>match ev S x with
  | some (.ptrK k off)=>.val [] (.ptrK k off)
  | some (.ptrO i off)=>.val [.isp i] (.ptrO i off)
  | _=>.bad
 | .binOp op t x y ty=>match ev S x,ev S y with
  | some (.int k a),some (.int k' b)=>if k=k' then
    match op with
    | .add=>ar k (·+·) .add a b
    | .sub=>ar k (·-·) .sub a b
    | .mul=>ar k (· * ·) .mul a b
    | .eql=>.val [] (.bool (.eq a b))
    | .neq=>.val [] (.bool (.not (.eq a b)))
    | .lss=>.val [] (.bool (.lt a b))
    | .leq=>.val [] (.bool (.le a b))
    | .gtr=>.val [] (.bool (.lt b a))
    | .geq=>.val [] (.bool (.le b a))
    | _=>Bp x y op t (.int k a) (.int k' b) o.type
   else Bp x y op t (.int k a) (.int k' b) o.type
  | some a,some b=>Bp x y op t a b o.type
  | _,_=>.bad
 | .unOp op _ x=>match op,ev S x with
  | .not,some (.bool b)=>.val [] (.bool (.not b))
  | .neg,some (.int k a)=>ar k (·-·) .sub (.k 0) a
  | _,_=>.bad
 | .convert s d x=>match ev S x,P.underlying s,P.underlying d with
  | some (.int _ a),some _,some (.int k)=>match a with
   | .k n=>.val [] (.int k (.k (k.wrap n)))
   | a=>if k=.i64 then .val [.rng k a] (.int k a) else .val [] (.int k (.wrap k a))
  | some v,_,_=>.esc (.conv s d) [v] (some o.type) false
  | _,_,_=>.bad
 | .fieldAddr t x f=>match ev S x,P.underlying t with
  | some (.ptrK k off),some (.struct fs)=>match fs[f]? with
   | some fl=>match ee P fl.type with
    | some (_+1)=>.val [] (.ptrK k (off+fl.offset))
    | _=>.bad
   | none=>.bad
  | some (.ptrO i off),some (.struct fs)=>match fs[f]? with
   | some fl=>match ee P fl.type with
    | some (_+1)=>if fl.offset=0 then .val [.isp i] (.ptrO i off) else .val [.isp i,.le (.k 0) off] (.ptrO i (.add off (.k fl.offset)))
    | _=>.bad
   | none=>.bad
  | _,_=>.bad
 | .field t x f=>match ev S x,P.underlying t with
  | some (.agg cs),some (.struct fs)=>match fs[f]? with
   | some fl=>match iw P fl.type cs fl.offset with
    | some v=>.val [] v
    | none=>.bad
   | none=>.bad
  | _,_=>.bad
 | .indexAddr t x i=>match ev S x,(ev S i).bind (lZ S),P.underlying t with
  | some (.ptrK k off),some ix,some (.array n el)=>match ee P el with
   | some s=>match ix with
    | .k j=>if 0<=j/\j<n then .val [] (.ptrK k (off+j.toNat * s)) else .bad
    | ix=>.cas ix (elems (λj=>.ptrK k (off+j * s)) n)
   | none=>.bad
  | some (.slK k off len _),some ix,some (.slice el)=>match ee P el with
   | some s=>match ix with
    | .k j=>if 0<=j/\j<len then .val [] (.ptrK k (off+j.toNat * s)) else .bad
    | ix=>.cas ix (elems (λj=>.ptrK k (off+j * s)) len)
   | none=>.bad
  | some (.slO b off len _),some ix,some (.slice el)=>match ee P el with
   | some s=>.val [.idx ix len,.isp b,.le (.k 0) off] (.ptrO b (.add off (.mul ix (.k s))))
   | none=>.bad
  | some (.ptrO b off),some ix,some (.array n el)=>match ee P el with
   | some s=>.val [.idx ix (.k n),.isp b,.le (.k 0) off] (.ptrO b (.add off (.mul ix (.k s))))
   | none=>.bad
  | _,_,_=>.bad
 | .index t x i=>match ev S x,(ev S i).bind (lZ S),P.underlying t with
  | some (.agg cs),some ix,some (.array n el)=>match ee P el with
   | some s=>match ix with
    | .k j=>if 0<=j/\j<n then
      match iw P el cs (j.toNat * s) with
      | some v=>.val [] v
      | none=>.bad
     else .bad
    | ix=>if (List.range n).all (λj=>(iw P el cs (j * s)).isSome) then .cas ix (elems (λj=>(iw P el cs (j * s)).getD .undef) n) else .bad
   | none=>.bad
  | some v,some ix,some .string=>.esc (.idx t) [v,(ev S i).getD .undef] (some o.type) false
  | _,_,_=>.bad
 | .extract x i=>match ev S x with
  | some (.tup vs)=>match vs[i]? with
   | some v=>.val [] v
   | none=>.bad
  | _=>.bad
 | .makeFunc (.func f) first capt=>match evs S first.toList,evs S capt.toList with
  | some a,some b=>.val [] (.func f a b)
  | _,_=>.bad
 | .slice t x lo hi none=>match ev S x,P.underlying t with
  | some (.ptrK k off),some (.array n el)=>match ee P el,kN S lo,kN S hi with
   | some s,some l,some h =>
    let l:=l.getD 0;let h:=h.getD n
    if l<=h/\h<=n then .val [] (.slK k (if n=l then off else off+l * s) (h-l) (n-l)) else .bad
   | _,_,_=>.bad
  | some (.slO b off len cap),some (.slice el)=>match ee P el,iy S lo,iy S hi with
   | some s,some l,some h =>
    let hx:=h.getD len
    match l with
    | some l=>.val [.le (.k 0) l,.le l hx,.le hx cap,.le (.k 0) off] (.slO b (.add off (.skip cap l s)) (.sub hx l) (.sub cap l))
    | none=>.val [.le (.k 0) hx,.le hx cap] (.slO b off hx cap)
   | _,_,_=>.bad
  | some v,some _=>match iy S lo,iy S hi with
   | some l,some h=>.esc (.slice t lo.isSome hi.isSome false) ([v]++(lo.bind (ev S)).toList++(hi.bind (ev S)).toList) (some o.type) false
   | _,_=>.bad
  | _,_=>.bad
 | .slice t x lo hi (some mx)=>match ev S x,iy S lo,iy S hi,ev S mx with
  | some v,some _,some _,some m=>.esc (.slice t lo.isSome hi.isSome true) ([v]++(lo.bind (ev S)).toList++(hi.bind (ev S)).toList ++ [m]) (some o.type) false
  | _,_,_,_=>.bad
 | .lookup t x i ok=>match ev S x,ev S i with
  | some a,some b=>.esc (.lookup t ok) [a,b] (some o.type) false
  | _,_=>.bad
 | .makeMap t none=>.esc (.mkMap t) [] (some o.type) false
 | .insert t m k x=>match ev S m,ev S k,ev S x with
  | some a,some b,some c=>.esc (.ins t) [a,b,c] none true
  | _,_,_=>.bad
 | .makeSlice t l c=>match qe l c with
  | some n=>Bd P t n
  | none=>match ev S l,ev S c with
   | some a,some b=>.esc (.mkSlice t) [a,b] (some o.type) false
   | _,_=>.bad
 | .makeInterface t x=>match ev S x with
  | some a=>.esc (.mkIface t) [a] (some o.type) false
  | _=>.bad
 | .call c=>match c.callee,evs S c.args.toList with
  | .value f,some as=>match ev S f with
   | some (.func g first capt)=>match P.funcs[g]? with
    | some fn=>if fn.body.isSome/\fn.name ≠ "runtime.NumGoroutine" then .call g (first++as++capt) o.type else .esc (.ext g) (first++as++capt) (some o.type) false
    | none=>.bad
   | _=>.bad
  | .builtin .len,some as=>match as,c.argTypes[0]?.bind P.underlying with
   | [.slK _ _ n _],some (.slice _)=>.val [] (.int .i64 (.k n))
   | [.slO _ _ n _],some (.slice _)=>.val [.le (.k 0) n] (.int .i64 n)
   | [.c (.slice _ n _)],some (.slice _)=>.val [] (.int .i64 (.k n))
   | [.str i],some .string=>.val [] (.int .i64 (.slen i))
   | [.c (.string s)],some .string=>.val [] (.int .i64 (.k s.size))
   | as,_=>.esc (.bi .len c.argTypes o.type) as (some o.type) false
  | .builtin .min,some [.int k a,.int k' b]=>if k=k' then .val [] (.int k (.mn a b)) else .bad
  | .builtin .max,some [.int k a,.int k' b]=>if k=k' then .val [] (.int k (.mx a b)) else .bad
  | .builtin .append,some as=>.esc (.bi .append c.argTypes o.type) as (some o.type) true
  | .builtin .copy,some as=>.esc (.bi .copy c.argTypes o.type) as (some o.type) true
  | .builtin .clear,some as=>.esc (.bi .clear c.argTypes o.type) as (some o.type) true
  | .builtin .cap,some as=>.esc (.bi .cap c.argTypes o.type) as (some o.type) false
  | .builtin .unsafeSliceData,some as=>.esc (.bi .unsafeSliceData c.argTypes o.type) as (some o.type) false
  | .builtin .unsafeString,some as=>.esc (.bi .unsafeString c.argTypes o.type) as (some o.type) true
  | _,_=>.bad
 | _=>.bad
def pD:Nat->St->SV->List Nat
 | 0,_,_ => []
 | n+1,S,v=>match v with
  | .ptrK k _ | .slK k _ _ _=>k::((S.h[k]?).join.map λo=>(o.cs.map (pD n S)).flatten).getD []
  | .agg cs | .tup cs=>(cs.map (pD n S)).flatten
  | .func _ a b=>(a.map (pD n S)).flatten++(b.map (pD n S)).flatten
  | _ => []
def mB(S:St)(vs:List SV):List (Nat × ay) :=
 ((vs.map (pD 6 S)).flatten.eraseDups).filterMap λk=>(S.h[k]?).join.map λo=>(k,o)
inductive Pq where
 | pt (p:Pt)
 | nat
inductive LH where
 | unroll (n:Nat)
 | inv (slots:List (Nat × Pq)) (blks:List (Nat × List Pq))
 | iter (pars:List (Bool × List Pt)) (blks:List (Nat × List Pq))
structure dq where
 loops:List (Nat × LH) := []
 mods:List (Nat × List Nat) := []
 turns:List Nat := []
 keeps:List (Nat × Nat) := []
 holds:List (Nat × Nat) := []
 old:List (Nat × Nat) := []
 funs:List (Nat × Nat × Nat) := []
 pn:Bool:=false
 pans:List Nat := []
 res:List (Nat × Nat × Nat) := []
 df:Option (Nat × List Nat):=none
 shows:List Nat := []
 pats:List ((Nat × Nat) × (Nat->SV × List (Nat × Pk) × Nat)) := []
def Fz(P:Program)(hi:dq)(nv f t:Nat):Option (SV × List (Nat × Pk) × Nat) :=
 match hi.funs.lookup f with
 | some (g,m)=>some (.func g [] ((List.range m).map λi=>.ptrO (nv+i) (.k 0)),(List.range m).map λi=>(nv+i,.p),nv+m)
 | none=>FB P nv t
def FZ(P:Program)(hi:dq)(rid ix nv t:Nat):Option (SV × List (Nat × Pk) × Nat) :=
 match hi.pats.lookup (rid,ix) with
 | some f=>some (f nv)
 | none=>FB P nv t
def ex(P:Program)(S:St)(nv:Nat):List Nat->Option (List (Nat × ay) × List (Nat × Pk) × Nat)
 | []=>some ([],[],nv)
 | k::r=>match (S.h[k]?).join with
  | none=>none
  | some ob =>
   let q:=mkP nv (ob.cs.map λc=>match c with
    | .int kd _=>.int kd | .bool _=>.bool | .str _=>.str | .c v=>ja v | .slO _ _ _ _ | .slK _ _ _ _=>.sl | .ptrO _ _ | .ptrK _ _=>.ptr | _=>.val)
   match ex P S q.2.2 r with
   | some (l,f,n)=>some ((k,{ cs:=q.1,ty:=ob.ty })::l,q.2.1++f,n)
   | none=>none
def St.setObj(S:St)(k:Nat)(o:ay):St:={ S with h:=S.h.set k (some o) }
def bN(S:St):List (Nat × ay)->St
 | []=>S
 | (k,o)::r=>bN (S.setObj k o) r
inductive Xt where
 | normal | ret | exit (id:Nat)
inductive Gd where
 | yes | no | br (c:Sb) (want:Bool) | bad
def iL(ops:List Oper)(S:St)(o:Oper):Gd :=
 match o.guard with
 | none=>.yes
 | some (j,want)=>match (ops[j]?).bind (·.dst) with
  | some d=>match (S.tm[d]?).join with
   | some (.bool c)=>.br c want
   | some .undef=>.no
   | _=>.bad
  | none=>.bad
def kg(tm:List (Option SV)):List Nat->List (Option SV)
 | []=>tm
 | t::r=>kg (tm.set t none) r
section
variable(P:Program)(hi:dq)
def m5(as:List SV)(ix:List Nat):List Nat:=ix.filterMap λi=>if 100<=i then some (i-100) else match (as[i]?:Option SV) with | some (SV.ptrK k _)=>some k | some (SV.slK k _ _ _)=>some k | _=>none
def dg(rid ix:Nat)(S:St)(o:Oper)(K:St->VC):VC :=
 match step P S o with
 | .val cs v=>sf S cs λS=>K (S.put o.dst v)
 | .new cs t len=>if S.fits&&SV.lts S.nv S.h.length cs then
   let S':St:={ S with h:=S.h ++ [some { cs:=cs,ty:=t }] }
   .all S.h.length (K (S'.put o.dst (match len with | none=>.ptrK S.h.length 0 | some n=>.slK S.h.length 0 n n)))
  else .fail 21
 | .sto k off cs=>match (S.h[k]?).join with
  | some ob=>K ((S.setObj k { ob with cs:=bW ob.cs off cs }).put o.dst .undef)
  | none=>.fail 1
 | .ld i off t kn=>match kn with
  | some j=>match (S.h[i]?).join with
   | some ob=>match iw P t ob.cs j with
    | some v=>K (S.put o.dst v)
    | none=>.fail 2
   | none=>.fail 2
  | none=>match jF P t with
   | none=>.fail 3
   | some zs=>let q:=mkP S.nv (zs.map ja)
    if !(S.fits&&cv S.nv q.2.1&&decide (S.nv<=q.2.2)) then .fail 22 else
    if jd P t then .ld i off q.1 q.2.1 (K ({ S with nv:=q.2.2 }.put o.dst (.agg q.1)))
    else match q.1 with
     | [v]=>.ld i off [v] q.2.1 (K ({ S with nv:=q.2.2 }.put o.dst v))
     | _=>.fail 3
 | .cas x vs=>.chk (.idx x (.k vs.length)) (sg S x o.dst K 0 vs)
 | .call f as ty=>match Fz P hi S.nv f ty with
  | none=>.fail 4
  | some (pat,fr,nv) =>
   if !(S.fits&&cv S.nv fr&&decide (S.nv<=nv)) then .fail 23 else
   match hi.mods.lookup f with
   | some ix=>match ex P S nv (m5 as ix) with
    | some (l,fr2,nv2)=>if !(cv S.nv fr2&&decide (S.nv<=nv2)) then .fail 24 else .call f as (mB S as) (fr++fr2) pat (if hi.turns.contains f then .both l else .mods l) (K ((bN { S with nv:=nv2 } l).put o.dst pat))
    | none=>.fail 5
   | none=>.call f as (mB S as) fr pat (if hi.turns.contains f then .turn else if wi fr then .fresh else .same) (K ({ S with nv:=nv }.put o.dst pat))
 | .esc q as ty turns=>match ty with
  | none=>.esc q as (mB S as) [] none .turn (K (S.put o.dst .undef))
  | some ty=>match FZ P hi rid ix S.nv ty with
   | none=>.fail 6
   | some (pat,fr,nv)=>if !(S.fits&&cv S.nv fr&&decide (S.nv<=nv)) then .fail 25 else .esc q as (mB S as) fr (some pat) (if turns&&!(hi.keeps.contains (rid,ix)) then .turn else if wi fr then .fresh else .same) (K ({ S with nv:=nv }.put o.dst pat))
 | .bad=>.fail (1000 * (rid+1)+ix)
def Bg(nv:Nat):Option Nat->SV
 | some n=>.slO nv (.k 0) (.k n) (.k n)
 | none=>.ptrO nv (.k 0)
def vZ(rid ix:Nat)(S:St)(o:Oper)(K:St->VC):VC :=
 match step P S o with
 | .new cs t len=>if S.fits&&cv S.nv [(S.nv,.p)] then .hold S.nv cs t (K ({ S with nv:=S.nv+1 }.put o.dst (Bg S.nv len))) else .fail 51
 | _=>.fail (1000 * (rid+1)+ix)
def mj(S:St)(o:Oper):Option (Nat × List SV) :=
 match o.op with
 | .call c=>match c.callee with
  | .value f=>match ev S f,evs S c.args.toList with
   | some (.yl i),some as=>some (i,as)
   | _,_=>none
  | _=>none
 | _=>none
def wF:List SV:=(hi.res.map λp=>.ptrK p.2.1 0)++hi.shows.map λk=>.ptrK k 0
def wO(S:St):Bool:=hi.pn&&hi.res.all λp=>match (S.tm[p.1]?).join with | some (.ptrK k 0)=>decide (k=p.2.1) | _=>false
def qh(S:St)(o:Oper):Bool:=match o.op with
 | .panic _=>true
 | .call _=>match step P S o with
  | .call f _ _=>hi.pans.contains f
  | _=>false
 | _=>false
def ry(S:St)(o:Oper)(K:St->VC):VC:=if !(wO hi S) then .fail 53 else match o.op with
 | .panic x=>match ev S x with
  | some v=>.pnc v (mB S (v::wF hi)) hi.df (hi.res.map (·.2))
  | none=>.fail 54
 | _=>match step P S o with
  | .call f as ty=>match Fz P hi S.nv f ty with
   | none=>.fail 4
   | some (pat,fr,nv) =>
    if !(S.fits&&cv S.nv fr&&decide (S.nv<=nv)) then .fail 23 else
    match hi.mods.lookup f with
    | some ix=>match ex P S nv (m5 as ix) with
     | some (l,fr2,nv2)=>if !(cv S.nv fr2&&decide (S.nv<=nv2)) then .fail 24 else .callp f as (mB S (as++wF hi)) (fr++fr2) pat (if hi.turns.contains f then .both l else .mods l) hi.df (hi.res.map (·.2)) (K ((bN { S with nv:=nv2 } l).put o.dst pat))
     | none=>.fail 5
    | none=>.callp f as (mB S (as++wF hi)) fr pat (if hi.turns.contains f then .turn else if wi fr then .fresh else .same) hi.df (hi.res.map (·.2)) (K ({ S with nv:=nv }.put o.dst pat))
  | _=>.fail 55
def jN(rid:Nat)(ops:List Oper):List (Oper × Nat)->St->(St->VC)->VC
 | [],S,K=>K S
 | (o,ix)::r,S,K=>match iL ops S o with
  | .yes=>match mj S o with
   | some (i,as)=>.yld i as (mB S as) (jN rid ops r (S.put o.dst (.bool (.k true))) K)
   | none=>if hi.holds.contains (rid,ix) then vZ P rid ix S o λS=>jN rid ops r S K else if qh P hi S o then ry P hi S o λS=>jN rid ops r S K else dg P hi rid ix S o λS=>jN rid ops r S K
  | .no=>jN rid ops r (S.put o.dst .undef) K
  | .br c want=>n8 S (if want then c else .not c) (λS=>if qh P hi S o then ry P hi S o λS=>jN rid ops r S K else dg P hi rid ix S o λS=>jN rid ops r S K) (λS=>jN rid ops r (S.put o.dst .undef) K)
  | .bad=>.fail 7
def dn:Op->Bool
 | .alloc _ | .box _ _ | .buildSlice _ _ _=>true
 | .makeSlice _ l c=>(qe l c).isSome
 | _=>false
def DK:R1->Bool
 | .new _ _ _=>true
 | _=>false
def fi:Op->Bool
 | .build _ _=>true
 | _=>false
def zF:R1->Bool
 | .val [] _=>true
 | _=>false
def am(o:Oper):List Nat:=o.after.toList.filterMap λe=>if Region.binds .any e then some e.on else none
def Fo(ops:List Oper):List Nat:=ops.foldl (λacc o=>acc ++ [(am o).foldl (λs p=>s ||| 2 ^ p ||| acc.getD p 0) 0]) []
def mg(bef:List Nat)(i j:Nat):Bool:=(bef.getD j 0).testBit i
def zh(ops:List Oper)(bef:List Nat):Bool :=
 ops.zipIdx.all λp=>(List.range ops.length).all λi=>!mg bef i p.2||(am p.1).any λq=>decide (q<p.2)&&(decide (q=i)||mg bef i q)
def Fs:Op->Bool
 | .binOp .quo _ _ _ _ | .binOp .rem _ _ _ _=>false
 | .move _ | .assign _ | .pick _ _ _ | .build _ _ | .load _ _ | .nilCheck _ | .binOp _ _ _ _ _ | .unOp _ _ _ | .fieldAddr _ _ _ | .field _ _ _ | .indexAddr _ _ _ | .index _ _ _ | .extract _ _ | .makeFunc _ _ _ | .slice _ _ _ _ _ | .convert _ _ _=>true
 | .call { callee:=.builtin .len,.. } | .call { callee:=.builtin .min,.. } | .call { callee:=.builtin .max,.. }=>true
 | _=>false
def og(aN:List (Oper × Nat))(o:Oper):Bool:=(am o).all λp=>!((aN.map (·.2)).contains p)
def oG:Nat->List (Oper × Nat)->List (Oper × Nat)
 | 0,_ => []
 | n+1,aN =>
  let rd:=aN.filter λp=>og aN p.1
  match (rd.find? λp=>Fs p.1.op) <|> (rd.find? λp=>!dn p.1.op) <|> rd.head? with
  | some p=>p::oG n (aN.filter λq=>q.2≠p.2)
  | none => []
def fq(ops:Array Oper)(o:Oper)(ix:Nat)(r:List (Oper × Nat)):Bool:=r.all λp=>(am p.1).contains ix||Oper.apart ops o p.1
def jt(ops:List Oper)(S:St)(o:Oper):Bool:=match iL ops S o with
 | .yes=>true
 | .br c want=>dec S.pc c==some want
 | _=>false
def jD:SV->Option Sx
 | .str i=>some (.slen i)
 | .c (.string s)=>some (.k s.size)
 | _=>none
def mb(P:Program)(q:EK)(as:List SV):Bool:=match q,as with
 | .slice t true false false,[.str _,.int .i64 _]=>(match P.underlying t with | some .string=>true | _=>false)
 | .slice t false true false,[.str _,.int .i64 _]=>(match P.underlying t with | some .string=>true | _=>false)
 | .bop .add _ _ _,[a,b]=>(jD a).isSome&&(jD b).isSome
 | _,_=>false
def wm(as:List SV)(r:VC):VC:=match as with
 | [.str n,.int .i64 x]=>.chk (.le (.k 0) x) (.chk (.le x (.slen n)) r)
 | [a,b]=>match jD a,jD b with
  | some x,some y=>.chk (.le x (.k 8388608)) (.chk (.le y (.k 8388608)) r)
  | _,_=>.fail 39
 | _=>.fail 39
def oM(ops:Array Oper)(bef:List Nat)(y:Oper × Nat):Bool :=
 y.1.dst.isSome&&ops.toList.zipIdx.all λz=>(decide (z.2=y.2)||decide (z.1.dst≠y.1.dst))&&(match z.1.dst with | some d=>!((Oper.looksAt ops y.1).contains d)||(decide (z.2≠y.2)&&mg bef z.2 y.2) | none=>true)
def ml(tm:List (Option SV))(ps:List Nat):List (Oper × Nat)->List (Option SV)
 | []=>tm
 | q::r=>if dn q.1.op&&ps.contains q.2 then (match q.1.dst with | some t=>ml (tm.set t (some (.c (.slice none 0 0)))) ps r | none=>ml tm ps r) else ml tm ps r
def gj(ops:Array Oper)(bef:List Nat)(S:St)(ix:Nat)(r:List (Oper × Nat)):Bool:=r.all λp=>mg bef ix p.2||(dn p.1.op&&jt ops.toList S p.1&&DK (step P S p.1)) ||
 (fi p.1.op&&oM ops bef p&&jt ops.toList S p.1&&zF (step P { S with tm:=ml S.tm (am p.1) r } p.1))
def rp(bef:List Nat)(S:St)(ix:Nat)(ks:List Nat):Bool:=S.ll.all λp=>mg bef p.1 ix||(match p.2 with | some k=>!(ks.contains k) | none=>true)
def iu(bef:List Nat)(S:St)(ix:Nat):Bool:=S.ll.all λp=>mg bef p.1 ix||p.2.isSome
def po(hi:dq)(ops:Array Oper):Bool:=hi.res.all λp=>ops.toList.all λo=>o.dst != some p.1
def vr(rid:Nat)(ops:Array Oper)(bef:List Nat)(o:Oper)(ix:Nat)(r:List (Oper × Nat))(S:St)(K:St->VC):VC:=match step P S o with
 | .call f as _=>if (gj P ops bef S ix r&&(match hi.mods.lookup f with | some ixs=>rp bef S ix (m5 as ixs)&&(!(hi.turns.contains f)||iu bef S ix) | none=>!(hi.turns.contains f)||iu bef S ix))&&po hi ops then ry P hi S o K else .fail 47
 | _=>.fail 48
def cl(rid:Nat)(ops:Array Oper)(bef:List Nat)(o:Oper)(ix:Nat)(r:List (Oper × Nat))(S:St)(K:St->VC):VC :=
 match mj S o with
 | some (i,as)=>if gj P ops bef S ix r&&iu bef S ix then .yld i as (mB S as) (K (S.put o.dst (.bool (.k true)))) else .fail 46
 | none=>if qh P hi S o then vr P hi rid ops bef o ix r S K else match step P S o with
 | .val _ _ | .cas _ _=>if fq ops o ix r then dg P hi rid ix S o K else .fail 31
 | .ld i _ _ kn=>if fq ops o ix r then (if kn.isNone&&hi.old.contains (rid,ix) then .old i (dg P hi rid ix S o K) else dg P hi rid ix { S with ll:=(ix,kn.map λ_=>i)::S.ll } o K) else .fail 32
 | .new _ _ _=>if gj P ops bef S ix r then dg P hi rid ix S o K else .fail 33
 | .sto k _ _=>if gj P ops bef S ix r&&rp bef S ix [k] then dg P hi rid ix S o K else .fail 34
 | .call f as _=>if gj P ops bef S ix r&&(match hi.mods.lookup f with | some ixs=>rp bef S ix (m5 as ixs)&&(!(hi.turns.contains f)||iu bef S ix) | none=>!(hi.turns.contains f)||iu bef S ix) then dg P hi rid ix S o K else .fail 35
 | .esc q as ty turns=>if mb P q as&&ty.isSome&&!turns then (if fq ops o ix r then wm as (dg P hi rid ix S o K) else .fail 39) else if gj P ops bef S ix r&&((ty.isSome&&!(turns&&!(hi.keeps.contains (rid,ix))))||iu bef S ix) then dg P hi rid ix S o K else .fail 36
 | .bad=>.fail (1000 * (rid+1)+ix)
def gr(rid:Nat)(ops:Array Oper)(bef:List Nat):List (Oper × Nat)->St->(St->VC)->VC
 | [],S,K=>K S
 | (o,ix)::r,S,K=>if !og ((o,ix)::r) o then .fail 37 else
  match iL ops.toList S o with
  | .yes=>cl P hi rid ops bef o ix r S λS=>gr rid ops bef r S K
  | .no=>if fq ops o ix r then gr rid ops bef r (S.put o.dst .undef) K else .fail 38
  | .br c want=>n8 S (if want then c else .not c) (λS=>cl P hi rid ops bef o ix r S λS=>gr rid ops bef r S K)
    (λS=>if fq ops o ix r then gr rid ops bef r (S.put o.dst .undef) K else .fail 38)
  | .bad=>.fail 7
def pC(ops:Array Oper)(bef:List Nat):Bool:=ops.toList.zipIdx.all λy=>!dn y.1.op||oM ops bef y
def ze(ops:Array Oper):Bool:=ops.toList.all λo=>match o.op with | .select _ _=>false | _=>true
def vk(rid:Nat)(ops:Array Oper)(S:St)(K:St->VC):VC :=
 let bef:=Fo ops.toList
 let c:=oG ops.size ops.toList.zipIdx
 if P.follows .mixedOrders&&zh ops.toList bef&&pC ops bef&&ze ops&&ops.toList.all (λo=>(am o).all λq=>decide (q<ops.size))&&decide (c.length=ops.size)&&(List.range ops.size).all (λi=>(c.map (·.2)).contains i)&&c.all (λp=>match ops[p.2]? with | some _=>true | none=>false) then
  gr P hi rid ops bef (c.filterMap λp=>ops[p.2]?.map λo=>(o,p.2)) { S with tm:=kg S.tm (ops.toList.filterMap λo=>if dn o.op||fi o.op then o.dst else none),ll := [] } K
 else .fail 39
def ey:Code->Option Nat
 | .region id _ _=>some id
 | .seq a b=>(ey a).orElse λ_=>ey b
 | .cond _ a b=>(ey a).orElse λ_=>ey b
 | .block _ b | .loop b | .scope b=>ey b
 | _=>none
def kU:Code->List Nat
 | .region _ ops _=>ops.toList.filterMap (·.dst)
 | .seq a b=>kU a++kU b
 | .cond _ a b=>kU a++kU b
 | .block _ b | .loop b | .scope b=>kU b
 | _ => []
def mkQ:Nat->List Pq->List SV × List (Nat × Pk) × List SD × Nat
 | nv,[]=>([],[],[],nv)
 | nv,.nat::r=>let q:=mkQ (nv+1) r;(.int .i64 (.v nv)::q.1,(nv,.n)::q.2.1,.n (.v nv)::q.2.2.1,q.2.2.2)
 | nv,.pt (.int k)::r=>let q:=mkQ (nv+1) r;(.int k (.v nv)::q.1,(nv,.i)::q.2.1,.i (.v nv)::q.2.2.1,q.2.2.2)
 | nv,.pt .bool::r=>let q:=mkQ (nv+1) r;(.bool (.v nv)::q.1,(nv,.b)::q.2.1,.b (.v nv)::q.2.2.1,q.2.2.2)
 | nv,.pt .str::r=>let q:=mkQ (nv+1) r;(.str nv::q.1,(nv,.s)::q.2.1,.s nv::q.2.2.1,q.2.2.2)
 | nv,.pt .sl::r=>let q:=mkQ (nv+3) r;(.slO nv (.k 0) (.v (nv+1)) (.v (nv+2))::q.1,(nv,.p)::(nv+1,.n)::(nv+2,.n)::q.2.1,.p nv (.k 0)::.n (.v (nv+1))::.n (.v (nv+2))::q.2.2.1,q.2.2.2)
 | nv,.pt .ptr::r=>let q:=mkQ (nv+1) r;(.ptrO nv (.k 0)::q.1,(nv,.p)::q.2.1,.p nv (.k 0)::q.2.2.1,q.2.2.2)
 | nv,.pt .val::r=>let q:=mkQ (nv+1) r;(.o nv::q.1,(nv,.v)::q.2.1,.v (.o nv)::q.2.2.1,q.2.2.2)
def FG:Pq->SV->Option (List SD)
 | .nat,.int .i64 x=>some [.n x]
 | .pt (.int k),.int k' x=>if k=k' then some [.i x] else none
 | .pt .bool,.bool b=>some [.b b]
 | .pt .str,.str i=>some [.s i]
 | .pt .str,.c (.string s)=>some [.sc s]
 | .pt .sl,.slO i off len cap=>some [.p i off,.n len,.n cap]
 | .pt .sl,.c (.slice none n c)=>some [.pn,.n (.k n),.n (.k c)]
 | .pt .ptr,.ptrO i off=>some [.p i off]
 | .pt .ptr,.c (.pointer none)=>some [.pn]
 | .pt .val,v=>some [.v v]
 | _,_=>none
def kp:Pq->SV->List Sb
 | .nat,.int .i64 x => [.le (.k 0) x]
 | .pt .sl,.slO _ _ len cap => [.le (.k 0) len,.le (.k 0) cap]
 | _,_ => []
def lq:List Pq->List SV->Option (List SD)
 | [],[]=>some []
 | q::qs,v::vs=>match FG q v,lq qs vs with
  | some a,some b=>some (a++b)
  | _,_=>none
 | _,_=>none
def mz(S:St):List Nat->Option (List SV)
 | []=>some []
 | t::r=>match (S.tm[t]?).join,mz S r with
  | some v,some vs=>some (v::vs)
  | _,_=>none
def Fj(S:St)(t:Nat):Option Nat :=
 match (S.tm[t]?).join with
 | some (.ptrK k 0)=>some k
 | _=>none
def vq(S:St):List (Nat × List Pq)->Option (List (Nat × List Pq))
 | []=>some []
 | (t,q)::r=>match Fj S t,vq S r with
  | some k,some l=>some ((k,q)::l)
  | _,_=>none
def jy(S:St):List (Nat × List Pq)->Option (List SV)
 | []=>some []
 | (k,q)::r=>match (S.h[k]?).join,jy S r with
  | some o,some l=>if o.cs.length=q.length then some (o.cs++l) else none
  | _,_=>none
def jr(tm:List (Option SV)):List Nat->List SV->List (Option SV)
 | t::ts,v::vs=>jr (tm.set t (some v)) ts vs
 | _,_=>tm
def cy(h:List (Option ay)):List (Nat × List Pq)->List SV->List (Option ay)
 | (k,q)::r,vs=>cy (match (h[k]?).join with | some o=>h.set k (some { o with cs:=vs.take q.length }) | none=>h) r (vs.drop q.length)
 | [],_=>h
abbrev kz:=kg
def Ay:Value->Value->Bool
 | .slice none n m,.slice none n' m'=>n=n'&&m=m'
 | .string s,.string s'=>s=s'
 | .pointer none,.pointer none=>true
 | .nilFunc,.nilFunc=>true
 | .nilIface,.nilIface=>true
 | .map none,.map none=>true
 | _,_=>false
mutual
def SV.same:SV->SV->Bool
 | .undef,.undef=>true
 | .int k x,.int k' y=>k=k'&&x=y
 | .bool a,.bool b=>a=b
 | .str i,.str j=>i=j
 | .ptrK k x,.ptrK k' x'=>k=k'&&x=x'
 | .ptrO i x,.ptrO i' x'=>i=i'&&x=x'
 | .slK a b x y,.slK a' b' x' y'=>a=a'&&b=b'&&x=x'&&y=y'
 | .slO a b x y,.slO a' b' x' y'=>a=a'&&b=b'&&x=x'&&y=y'
 | .agg a,.agg b=>SV.sames a b
 | .tup a,.tup b=>SV.sames a b
 | .func f a b,.func g a' b'=>f=g&&SV.sames a a'&&SV.sames b b'
 | .c v,.c w=>Ay v w
 | .o i,.o j=>i=j
 | .yl i,.yl j=>i=j
 | _,_=>false
def SV.sames:List SV->List SV->Bool
 | [],[]=>true
 | a::l,b::m=>SV.same a b&&SV.sames l m
 | _,_=>false
end
def fX(bk:List Nat):Nat->List (Option ay)->List (Option ay)->Bool
 | _,[],_=>true
 | k,none::r,_::s=>fX bk (k+1) r s
 | k,some a::r,some b::s=>decide (a.ty=b.ty)&&(bk.contains k||SV.sames a.cs b.cs)&&fX bk (k+1) r s
 | _,_,_=>false
def hP:List (Option SV)->List (Option SV)->Bool
 | [],[]=>true
 | none::r,_::s=>hP r s
 | some a::r,some b::s=>SV.same a b&&hP r s
 | _,_=>false
def ck:Nat->(Nat->VC)->VC
 | 0,K=>K 0
 | n+1,K=>K (n+1)
theorem cf(n:Nat)(K:Nat->VC):ck n K=K n:=by cases n<;>rfl
def A5:Int->(Int->VC)->VC
 | .ofNat n,K=>ck n λn=>K (.ofNat n)
 | .negSucc n,K=>ck n λn=>K (.negSucc n)
theorem xS(n:Int)(K:Int->VC):A5 n K=K n:=by cases n<;>exact cf ..
def bw:Sx->(Sx->VC)->VC
 | .k n,K=>A5 n λn=>K (.k n)
 | .v i,K=>ck i λi=>K (.v i)
 | .add a b,K=>bw a λa=>bw b λb=>K (.add a b)
 | .sub a b,K=>bw a λa=>bw b λb=>K (.sub a b)
 | .mul a b,K=>bw a λa=>bw b λb=>K (.mul a b)
 | .wrap kd a,K=>bw a λa=>K (.wrap kd a)
 | .mn a b,K=>bw a λa=>bw b λb=>K (.mn a b)
 | .mx a b,K=>bw a λa=>bw b λb=>K (.mx a b)
 | .slen i,K=>ck i λi=>K (.slen i)
 | .skip c l s,K=>bw c λc=>bw l λl=>ck s λs=>K (.skip c l s)
theorem lM(x:Sx):∀K:Sx->VC,bw x K=K x:=by
 induction x<;>intro K<;>simp_all [bw,cf,xS]
def lz:Sb->(Sb->VC)->VC
 | .k b,K=>match b with
  | true=>K (.k true)
  | false=>K (.k false)
 | .v i,K=>ck i λi=>K (.v i)
 | .lt a b,K=>bw a λa=>bw b λb=>K (.lt a b)
 | .le a b,K=>bw a λa=>bw b λb=>K (.le a b)
 | .eq a b,K=>bw a λa=>bw b λb=>K (.eq a b)
 | .not a,K=>lz a λa=>K (.not a)
 | .beq a b,K=>lz a λa=>lz b λb=>K (.beq a b)
 | .rng kd a,K=>bw a λa=>K (.rng kd a)
 | .idx a n,K=>bw a λa=>bw n λn=>K (.idx a n)
 | .isp i,K=>ck i λi=>K (.isp i)
theorem nT(x:Sb):∀K:Sb->VC,lz x K=K x:=by
 induction x with
 | k b=>intro K;cases b<;>rfl
 | _=>intro K;simp_all [lz,cf,lM]
mutual
def gw:SV->(SV->VC)->VC
 | .undef,K=>K .undef
 | .int kd x,K=>bw x λx=>K (.int kd x)
 | .bool b,K=>lz b λb=>K (.bool b)
 | .str i,K=>ck i λi=>K (.str i)
 | .ptrK k off,K=>ck k λk=>ck off λoff=>K (.ptrK k off)
 | .ptrO i off,K=>ck i λi=>bw off λoff=>K (.ptrO i off)
 | .slK k off len cap,K=>ck k λk=>ck off λoff=>ck len λlen=>ck cap λcap=>K (.slK k off len cap)
 | .slO i off len cap,K=>ck i λi=>bw off λoff=>bw len λlen=>bw cap λcap=>K (.slO i off len cap)
 | .agg cs,K=>jv cs λcs=>K (.agg cs)
 | .tup vs,K=>jv vs λvs=>K (.tup vs)
 | .func f a b,K=>ck f λf=>jv a λa=>jv b λb=>K (.func f a b)
 | .c v,K=>K (.c v)
 | .o i,K=>ck i λi=>K (.o i)
 | .yl i,K=>ck i λi=>K (.yl i)
def jv:List SV->(List SV->VC)->VC
 | [],K=>K []
 | v::l,K=>gw v λv=>jv l λl=>K (v::l)
end
mutual
theorem qS:∀(v:SV) (K:SV->VC),gw v K=K v
 | .undef,_=>rfl
 | .int _ _,_=>by simp[gw,lM]
 | .bool _,_=>by simp[gw,nT]
 | .str _,_=>by simp[gw,cf]
 | .ptrK _ _,_=>by simp[gw,cf]
 | .ptrO _ _,_=>by simp[gw,cf,lM]
 | .slK _ _ _ _,_=>by simp[gw,cf]
 | .slO _ _ _ _,_=>by simp[gw,cf,lM]
 | .agg cs,K=>by simp only[gw];exact g9 cs _
 | .tup vs,K=>by simp only[gw];exact g9 vs _
 | .func f a b,K=>by simp only[gw,cf,g9 a,g9 b]
 | .c _,_=>rfl
 | .o _,_=>by simp[gw,cf]
 | .yl _,_=>by simp[gw,cf]
theorem g9:∀(l:List SV) (K:List SV->VC),jv l K=K l
 | [],_=>rfl
 | v::l,K=>by simp only[jv,qS v,g9 l]
end
def lD:List (Option SV)->(List (Option SV)->VC)->VC
 | [],K=>K []
 | none::l,K=>lD l λl=>K (none::l)
 | some v::l,K=>gw v λv=>lD l λl=>K (some v::l)
theorem mo:∀(l:List (Option SV)) (K:List (Option SV)->VC),lD l K=K l
 | [],_=>rfl
 | none::l,K=>by simp only[lD,mo l]
 | some v::l,K=>by simp only[lD,qS,mo l]
def om:List (Option ay)->(List (Option ay)->VC)->VC
 | [],K=>K []
 | none::l,K=>om l λl=>K (none::l)
 | some ⟨cs,t⟩::l,K=>jv cs λcs=>ck t λt=>om l λl=>K (some ⟨cs,t⟩::l)
theorem n6:∀(l:List (Option ay)) (K:List (Option ay)->VC),om l K=K l
 | [],_=>rfl
 | none::l,K=>by simp only[om,n6 l]
 | some ⟨cs,t⟩::l,K=>by simp only[om,g9,cf,n6 l]
def lF:List (Sb × Bool)->(List (Sb × Bool)->VC)->VC
 | [],K=>K []
 | (c,true)::l,K=>lz c λc=>lF l λl=>K ((c,true)::l)
 | (c,false)::l,K=>lz c λc=>lF l λl=>K ((c,false)::l)
theorem mi:∀(l:List (Sb × Bool)) (K:List (Sb × Bool)->VC),lF l K=K l
 | [],_=>rfl
 | (c,true)::l,K=>by simp only[lF,nT,mi l]
 | (c,false)::l,K=>by simp only[lF,nT,mi l]
def mL(S:St)(K:St->VC):VC:=lD S.tm λtm=>om S.h λh=>ck S.nv λnv=>lF S.pc λpc=>ck S.dp λdp=>K { tm:=tm,h:=h,nv:=nv,pc:=pc,ll:=S.ll,dp:=dp }
theorem vv(S:St)(K:St->VC):mL S K=K S:=by
 unfold mL;simp only[mo,n6,cf,mi]
theorem Br(K:St->VC):(λS=>mL S K)=K:=funext λS=>vv S K
def D7:Nat->List (Bool × List Pt)->List SV × List (Nat × Pk) × Nat
 | nv,[]=>([],[],nv)
 | nv,p::r=>let q:=mkP nv p.2;let t:=D7 q.2.2 r;((if p.1 then .agg q.1 else q.1.headD .undef)::t.1,q.2.1++t.2.1,t.2.2)
def rr(tm:List (Option SV)):List Nat->List SV->List (Option SV)
 | t::ts,v::vs=>rr (tm.set t (some v)) ts vs
 | _,_=>tm
def nO(P:Program)(g:Nat):Bool:=match P.funcs[g]? with
 | some fn=>fn.body.isSome&&decide (fn.name ≠ "runtime.NumGoroutine")
 | none=>false
def exC:Code->St->(Xt->St->VC)->VC
 | .skip,S,K=>K .normal S
 | .seq a b,S,K=>exC a S λx S=>match x with
  | .normal=>exC b S K
  | x=>K x S
 | .cond c a b,S,K=>match ev S c with
  | some (.bool c)=>n8 S c (λS=>exC a S K) (λS=>exC b S K)
  | _=>.fail 8
 | .block id b,S,K=>exC b S λx S=>match x with
  | .exit j=>if j=id then K .normal S else K (.exit j) S
  | x=>K x S
 | .exit id,S,K=>K (.exit id) S
 | .ret,S,K=>K .ret S
 | .region id ops draw,S,K=>if draw then vk P hi id ops S (λS=>mL S (K .normal)) else jN P hi id ops.toList ops.toList.zipIdx S (λS=>mL S (K .normal))
 | .loop b,S,K=>match ey b with
  | none=>.fail 9
  | some id=>match hi.loops.lookup id with
   | none=>.fail (10000000+id)
   | some (.unroll n)=>Nat.rec (motive:=λ_=>St->VC) (λ_=>.fail 10)
     (λ_ again S=>exC b S λx S=>match x with | .normal=>again S | x=>K x S) n S
   | some (.inv slots blks)=>match vq S blks,mz S (slots.map (·.1)) with
    | some bl,some tv=>match jy S bl with
     | none=>.fail 11
     | some bv =>
      let pq:=slots.map (·.2)++(bl.map (·.2)).flatten
      match lq pq (tv++bv) with
      | none=>.fail 12
      | some ini =>
       let q:=mkQ S.nv pq
       let tm:=jr (kz S.tm (kU b++slots.map (·.1))) (slots.map (·.1)) (q.1.take slots.length)
       let h:=cy S.h bl (q.1.drop slots.length)
       let S':={ S with tm:=tm,h:=h,nv:=q.2.2.2 }
       let S0:=S
       if !(S.fits&&cv S.nv q.2.1&&decide (S.nv<=q.2.2.2)) then .fail 26 else
       sf S (((pq.zip (tv++bv)).map λp=>kp p.1 p.2).flatten) λS=>.loop q.2.1 ini q.2.2.1 (exC b { S' with dp:=S.dp+1 } λx S2=>match x with
        | .normal=>match mz S2 (slots.map (·.1)),jy S2 bl with
         | some tv,some bv=>match lq pq (tv++bv) with
          | none=>.fail 13
          | some vals =>
           if hP (kz S0.tm (kU b++slots.map (·.1))) S2.tm&&fX (bl.map (·.1)) 0 S0.h S2.h then
            sf S2 (((pq.zip (tv++bv)).map λp=>kp p.1 p.2).flatten) λ_=>.back (S2.dp-1-S.dp) vals
           else .fail 14
         | _,_=>.fail 15
        | x=>K x S2)
    | _,_=>.fail 16
   | some (.iter _ _)=>.fail 46
 | .rangeFunc g ps assign body,S,K=>if hi.pn then .fail 56 else match ev S g,(ey (.seq assign body)).bind (λid=>hi.loops.lookup id) with
  | some (.func gf [] lb),some (.iter pars blks)=>match vq S blks with
   | some bl=>match jy S bl with
    | some bv=>match lq (bl.map (·.2)).flatten bv with
     | some ini =>
      let pq:=(bl.map (·.2)).flatten
      let q:=mkQ S.nv pq
      let p:=D7 q.2.2.2 pars
      let h:=cy S.h bl q.1
      if !(S.fits&&SV.lts S.nv S.h.length lb&&cv S.nv q.2.1&&decide (S.nv<=q.2.2.2)&&cv q.2.2.2 p.2.1&&decide (q.2.2.2<=p.2.2)&&decide (ps.size=p.1.length)&&pU q.2.2.2 S.h.length h&&nO P gf) then .fail 40 else
      sf S ((pq.zip bv).map λp=>kp p.1 p.2).flatten λ_=>.rf gf lb q.2.1 ini q.2.2.1 p.2.1 p.1
       (exC assign { S with tm:=rr S.tm ps.toList p.1,h:=h,nv:=p.2.2,dp:=S.dp+1 } λx S2=>match x with
        | .normal=>exC body S2 λx S3=>match x with
         | .normal=>match jy S3 bl with
          | some bv3=>match lq pq bv3 with
           | some vals=>if fX (bl.map (·.1)) 0 S.h S3.h&&decide (S.tm.length=S3.tm.length) then sf S3 ((pq.zip bv3).map λp=>kp p.1 p.2).flatten λ_=>.back (S3.dp-1-S.dp) vals else .fail 44
           | none=>.fail 43
          | none=>.fail 42
         | _=>.fail 41
        | _=>.fail 41)
       (K .normal { S with h:=h,nv:=q.2.2.2 })
     | none=>.fail 47
    | none=>.fail 48
   | none=>.fail 49
  | _,_=>.fail 50
 | _,_,_=>.fail 17
end
def rfs:Code->Nat
 | .rangeFunc _ _ a b=>rfs a+rfs b+1
 | .seq a b=>rfs a+rfs b
 | .cond _ a b=>rfs a+rfs b
 | .block _ b | .loop b | .scope b=>rfs b
 | _=>0
def gl:Op->Bool
 | .defer _=>false
 | _=>true
def gh:Code->Bool
 | .rangeFunc _ _ a b=>gh a&&gh b
 | .seq a b=>gh a&&gh b
 | .cond _ a b=>gh a&&gh b
 | .block _ b | .loop b | .scope b=>gh b
 | .region _ ops _=>ops.all λo=>gl o.op
 | _=>true
def jX:Code->Bool
 | .rangeFunc _ _ a b=>decide (rfs a=0)&&decide (rfs b=0)&&gh a&&gh b&&jX a&&jX b
 | .seq a b=>decide (rfs a+rfs b<=1)&&jX a&&jX b
 | .cond _ a b=>jX a&&jX b
 | .loop b=>decide (rfs b=0)&&jX b
 | .block _ b | .scope b=>jX b
 | _=>true
def qx(P:Program)(S:St):List ResultVar->Option (List SV)
 | []=>some []
 | .tmp t::r=>match (S.tm[t]?).join,qx P S r with
  | some v,some vs=>some (v::vs)
  | _,_=>none
 | .cell t ty::r=>match (S.tm[t]?).join with
  | some (.ptrK k off)=>match ((S.h[k]?).join).bind (λo=>iw P ty o.cs off),qx P S r with
   | some v,some vs=>some (v::vs)
   | _,_=>none
  | _=>none
def uU(S:St):List ResultVar->Option (Nat × Sx × Nat × List ResultVar)
 | .cell t ty::r=>match (S.tm[t]?).join with
  | some (.ptrO i off)=>some (i,off,ty,r)
  | _=>none
 | _=>none
def kC(P:Program)(n:Nat)(fn:Func)(S:St):VC :=
 match uU S fn.results.toList with
 | some (i,off,ty,r)=>match jF P ty with
  | none=>.fail 57
  | some zs=>let q:=mkP S.nv (zs.map ja)
   if !(S.fits&&cv S.nv q.2.1&&decide (S.nv<=q.2.2)&&jd P ty&&!r.isEmpty) then .fail 58 else
   match qx P { S with nv:=q.2.2 } r with
   | some vs=>.ld i off q.1 q.2.1 (.ret (.tup (.agg q.1::vs)) (mB S (vs++(List.range n).map λk=>.ptrK k 0)))
   | none=>.fail 59
 | none=>match qx P S fn.results.toList with
  | some [v]=>.ret v (mB S ([v]++(List.range n).map λk=>.ptrK k 0))
  | some vs=>.ret (.tup vs) (mB S (vs++(List.range n).map λk=>.ptrK k 0))
  | none=>.fail 18
def SV.blk:SV->Nat
 | .ptrK k _=>k
 | _=>0
def SV.isBlk:SV->Bool
 | .ptrK _ 0=>true
 | _=>false
def rL(S:St)(ops:Array Oper):Option (Nat × Nat × List SV × List Nat):=match ops.toList with
 | [o1,o2]=>match o1.guard,o2.guard,o1.op,o1.dst,o2.op,o2.dst with
  | none,none,.makeFunc (.func g) first capt,some d,.defer c,none=>match c.callee,c.args.toList,first.toList,evs S capt.toList with
   | .value (.tmp t),[],[],some vs=>if t=d/\d<S.tm.length/\SV.lts S.nv S.h.length vs then
     (if vs.all SV.isBlk then some (g,d,vs,vs.map SV.blk) else none) else none
   | _,_,_,_=>none
  | _,_,_,_,_,_=>none
 | _=>none
def k8:List (Nat × Nat × Nat)->List ResultVar->Bool
 | [],[]=>true
 | (t',_,ty')::l,.cell t ty::rs=>decide (t=t')&&decide (ty=ty')&&k8 l rs
 | _,_=>false
def vl(hi:dq)(S:St):VC:=if wO hi S then .door (mB S (wF hi)) hi.df (hi.res.map (·.2)) else .fail 61
def exT(P:Program)(hi:dq)(n:Nat)(fn:Func):Code->St->VC
 | .seq a b,S=>match (match a with | .region _ ops false=>rL S ops | _=>none) with
  | some (g,d,vs,ks)=>if nO P g&&S.fits&&gh b then
    exC P { hi with df:=some (g,ks) } b { S with tm:=S.tm.set d (some (.func g [] vs)) } λx S=>match x with
     | .normal | .ret=>vl { hi with df:=some (g,ks) } S
     | .exit _=>.fail 20
    else .fail 60
  | none=>if gh a then exC P hi a S λx S=>match x with
   | .normal=>exT P hi n fn b S
   | .ret=>kC P n fn S
   | .exit _=>.fail 20
   else .fail 64
 | c,S=>if gh c then exC P hi c S λx S=>match x with
  | .normal | .ret=>kC P n fn S
  | .exit _=>.fail 20
  else .fail 64
def exF(P:Program)(hi:dq)(fn:Func)(args:List SV)(h:List (Option ay))(nv:Nat)(pc:List (Sb × Bool)):VC :=
 match fn.body with
 | none=>.fail 19
 | some c=>if hi.df.isSome then .fail 62 else if hi.res.isEmpty then (if !(jX c&&gh c&&(!hi.pn||decide (rfs c=0))) then .fail 45 else exC P hi c { tm:=args.map some++List.replicate (fn.ntmps-args.length) (some .undef),h:=h,nv:=nv,pc:=pc,ll := [],dp:=0 } λx S=>match x with
  | .normal | .ret=>kC P h.length fn S
  | .exit _=>.fail 20) else
  if !(jX c&&hi.pn&&decide (rfs c=0)&&k8 hi.res fn.results.toList) then .fail 63 else
  exT P hi h.length fn c { tm:=args.map some++List.replicate (fn.ntmps-args.length) (some .undef),h:=h,nv:=nv,pc:=pc,ll := [],dp:=0 }
section
variable{Df:List Deferred}
def fQ(ρ:Nat->Nat)(e:Env)(tm:List (Option SV))(a:Act):Prop :=
 a.tmps.size=tm.length/\∀(t:Nat) (v:SV),tm[t]?=some (some v)->a.tmps[t]?=some (v.den ρ e)
structure At(W0:World)(M:Nat->Prop)(ρ:Nat->Nat)(e:Env)(h:List (Option ay))(X:List (Nat × Obj))(H:Hp)(W:World):Prop where
 kn:∀k o,h[k]?=some (some o)->W.heap[ρ k]?=some (o.den ρ e)
 inj:∀k j o o',h[k]?=some (some o)->h[j]?=some (some o')->ρ k=ρ j->k=j
 old:∀k o,h[k]?=some (some o)->W0.heap.size<=ρ k\/M (ρ k)
 dis:∀k o,h[k]?=some (some o)->H (ρ k)=none
 sub:H.le (ak W)
 mod:Mod M W0 W
 xk:∀p∈X,W.heap[p.1]?=some p.2
 xo:∀p∈X,W0.heap.size<=p.1\/M p.1
 xd:∀p∈X,H p.1=none
 xr:∀p∈X,∀k o,h[k]?=some (some o)->ρ k≠p.1
def oJ(X:List (Nat × Obj)):List Deferred:=X.filterMap λp=>match p.2 with
 | .deferred _=>some { target:=.collected p.1,args:=#[] }
 | _=>none
structure Rel(Df:List Deferred)(W0:World)(M:Nat->Prop)(S:St)(ρ:Nat->Nat)(e:Env)(X:List (Nat × Obj))(H:Hp)(a:Act)(W:World):Prop where
 tm:fQ ρ e S.tm a
 df:a.defers=oJ X++Df
 mem:At W0 M ρ e S.h X H W
 pc:∀p∈S.pc,p.1.den e=p.2
structure gC(S:St)(ρ:Nat->Nat)(e:Env)(a:Act):Prop where
 tm:fQ ρ e S.tm a
 pc:∀p∈S.pc,p.1.den e=p.2
theorem Rel.toT{W0:World}{M:Nat->Prop}{S:St}{ρ:Nat->Nat}{e:Env}{X:List (Nat × Obj)}{H:Hp}{a:Act}{W:World}(h:Rel Df W0 M S ρ e X H a W):gC S ρ e a:=⟨h.tm,h.pc⟩
theorem Sb.prop_iff(e:Env):∀c:Sb,c.prop e↔c.den e=true
 | .k b=>Iff.rfl
 | .v i=>Iff.rfl
 | .lt a b=>by simp[Sb.prop,Sb.den]
 | .le a b=>by simp[Sb.prop,Sb.den]
 | .eq a b=>by simp[Sb.prop,Sb.den]
 | .not a=>by simp[Sb.prop,Sb.den,Sb.prop_iff e a]
 | .beq a b=>by simp[Sb.prop,Sb.den]
 | .rng kd a=>by simp[Sb.prop,Sb.den]
 | .idx a n=>by simp[Sb.prop,Sb.den]
 | .isp i=>Iff.rfl
theorem ma(ρ:Nat->Nat)(e:Env)(v:Value):(jh v).den ρ e=v:=by
 cases v<;>rfl
theorem jo(ρ:Nat->Nat)(e:Env)(l:List Value):SV.dens ρ e (l.map jh)=l:=by
 induction l with
 | nil=>rfl
 | cons a l ih=>simp only[List.map_cons,SV.dens,ma,ih]
theorem xZ(ρ:Nat->Nat)(e:Env)(v:Value):(AX v).den ρ e=v:=by
 cases v<;>first | rfl | simp[AX,SV.den,jo]
section
variable{W0:World}{M:Nat->Prop}{S:St}{ρ:Nat->Nat}{e:Env}{X:List (Nat × Obj)}{H:Hp}{a:Act}{W:World}
theorem aw(hr:fQ ρ e S.tm a){x:Operand}{v:SV}(h:ev S x=some v):a.eval x=v.den ρ e:=by
 cases x with
 | tmp t =>
  simp only[ev] at h;have ht:S.tm[t]?=some (some v):=by
   cases hh:S.tm[t]? with
   | none=>rw[hh] at h;cases h
   | some q=>rw[hh] at h;simp only[Option.join_some] at h;rw[h]
  have:=hr.2 t v ht;simp only[Act.eval,Array.getD_eq_getD_getElem?,this,Option.getD_some]
 | const c =>
  simp only[ev,Option.some.injEq] at h;subst h;simp only[Act.eval,xZ]
 | global g=>simp only[ev] at h;cases h
 | func f =>
  simp only[ev,Option.some.injEq] at h;subst h;rfl
theorem ki(hr:fQ ρ e S.tm a):∀{l:List Operand} {vs:List SV},evs S l=some vs->l.map a.eval=SV.dens ρ e vs
 | [],vs,h=>by simp only[evs,Option.some.injEq] at h;subst h;rfl
 | x::r,vs,h=>by
  simp only[evs] at h
  cases hx:ev S x with
  | none=>simp[hx] at h
  | some v =>
   cases hs:evs S r with
   | none=>simp[hx,hs] at h
   | some ws =>
    simp only[hx,hs,Option.some.injEq] at h;subst h;simp only[List.map_cons,SV.dens,aw hr hx,ki hr hs]
theorem oT(hr:fQ ρ e S.tm a):∀{l:List (Nat × Operand)} {vs:List (Nat × SV)},l6 S l=some vs->l.map (λp=>(p.1,a.eval p.2))=vs.map λp=>(p.1,p.2.den ρ e)
 | [],vs,h=>by simp only[l6,Option.some.injEq] at h;subst h;rfl
 | (i,x)::r,vs,h=>by
  simp only[l6] at h
  cases hx:ev S x with
  | none=>simp[hx] at h
  | some v =>
   cases hs:l6 S r with
   | none=>simp[hx,hs] at h
   | some ws =>
    simp only[hx,hs,Option.some.injEq] at h;subst h;simp only[List.map_cons,aw hr hx,oT hr hs]
theorem Ed{c:Sb}{b:Bool}(h:c.lit=some b):c.den e=b:=by
 unfold Sb.lit at h
 split at h<;>simp only[Option.some.injEq,reduceCtorEq] at h<;>subst h<;>rfl
theorem tf{c:Sb}{b:Bool}{x:Sx}{i:Int}(h:pv c b=some (x,i))(hc:c.den e=b):x.den e=i:=by
 unfold pv at h
 split at h
 ·simp only[Option.some.injEq,Prod.mk.injEq] at h;obtain⟨rfl,rfl⟩:=h;exact of_decide_eq_true hc
 ·cases h
theorem wj{c:Sb}{x:Sx}{i:Int}(h:pv c true=some (x,i)):c=.eq x (.k i):=by
 unfold pv at h
 split at h
 ·simp only[Option.some.injEq,Prod.mk.injEq] at h;obtain⟨rfl,rfl⟩:=h;rfl
 ·cases h
theorem rP:∀{pc:List (Sb × Bool)},(∀p∈pc,p.1.den e=p.2)->∀{c:Sb} {b:Bool},xx pc c=some b->c.den e=b
 | [],_,c,b,h=>by simp[xx] at h
 | p::r,hp,c,b,h=>by
  have hr:∀p∈r,p.1.den e=p.2:=λp hp'=>hp p (List.mem_cons_of_mem _ hp');have hd:p.1.den e=p.2:=hp p (List.mem_cons_self ..)
  simp only[xx] at h
  split at h
  ·rename_i hdc;simp only[Option.some.injEq] at h;subst hdc;subst h;exact hd
  ·split at h
   ·rename_i x i y j h1 h2
    split at h
    ·rename_i hxy;subst hxy;simp only[Option.some.injEq] at h;subst h;have:=tf h1 hd
     rw[wj h2];simp only[Sb.den,Sx.den,this]
    ·exact rP hr h
   ·exact rP hr h
theorem mt{pc:List (Sb × Bool)}(hp:∀p∈pc,p.1.den e=p.2):∀{c:Sb} {b:Bool},dec pc c=some b->c.den e=b
 | .not a,b,h=>by
  simp only[dec,Option.map_eq_some_iff] at h;obtain⟨b',h',rfl⟩:=h;simp only[Sb.den,mt hp h']
 | .k _,b,h | .v _,b,h | .lt _ _,b,h | .le _ _,b,h | .eq _ _,b,h | .beq _ _,b,h | .rng _ _,b,h | .idx _ _,b,h | .isp _,b,h=>by
  simp only[dec] at h
  split at h
  ·rename_i hl;simp only[Option.some.injEq] at h;subst h;exact Ed hl
  ·exact rP hp h
theorem rO:∀{pc:List (Sb × Bool)},(∀p∈pc,p.1.den e=p.2)->∀{x:Sx} {n:Int},xH pc x=some n->x.den e=n
 | [],_,x,n,h=>by simp[xH] at h
 | p::r,hp,x,n,h=>by
  have hr:∀p∈r,p.1.den e=p.2:=λq hq=>hp q (List.mem_cons_of_mem _ hq);have hd:=hp p (List.mem_cons_self ..)
  simp only[xH] at h
  split at h
  ·rename_i y i hy
   split at h
   ·rename_i hxy;subst hxy;simp only[Option.some.injEq] at h;subst h;exact tf hy hd
   ·exact rO hr h
  ·exact rO hr h
theorem Ev{pc:List (Sb × Bool)}(hp:∀p∈pc,p.1.den e=p.2){x:Sx}{n:Int}(h:num pc x=some n):x.den e=n:=by
 unfold num at h
 split at h
 ·simp only[Option.some.injEq] at h;subst h;rfl
 ·exact rO hp h
theorem iW(hr:gC S ρ e a){v:SV}{x:Sx}(h:lZ S v=some x):∃k,v.den ρ e=.int k (x.den e):=by
 unfold lZ at h
 split at h
 ·rename_i k b
  split at h
  ·rename_i n hn;simp only[Option.some.injEq] at h;subst h;exact⟨k,by simp only[SV.den,Ev hr.pc hn,Sx.den]⟩
  ·simp only[Option.some.injEq] at h;subst h;exact⟨k,rfl⟩
 ·cases h
end
end
theorem im(ρ:Nat->Nat)(e:Env)(l:List SV)(j:Nat):(SV.dens ρ e l)[j]?=(l[j]?).map (SV.den ρ e):=by
 rw[kA,List.getElem?_map]
theorem bA(ρ:Nat->Nat)(e:Env)(l:List SV):(SV.dens ρ e l).length=l.length:=by
 rw[kA,List.length_map]
theorem nj(ρ:Nat->Nat)(e:Env)(l m:List SV):SV.dens ρ e (l++m)=SV.dens ρ e l++SV.dens ρ e m:=by
 simp only[kA,List.map_append]
theorem iS(ρ:Nat->Nat)(e:Env)(l:List SV)(n:Nat):SV.dens ρ e (l.take n)=(SV.dens ρ e l).take n:=by
 simp only[kA,List.map_take]
theorem iN(ρ:Nat->Nat)(e:Env)(l:List SV)(n:Nat):SV.dens ρ e (l.drop n)=(SV.dens ρ e l).drop n:=by
 simp only[kA,List.map_drop]
theorem bF{P:Program}{t n:Nat}(h:ee P t=some n)(w:World):(sizeOf t).run P w=.ok n w:=by
 unfold ee at h
 split at h
 ·rename_i d i hu hi;simp only[Option.some.injEq] at h;subst h;simp[sizeOf,typeInfo,hi]
 ·cases h
theorem nG{P:Program}{t n:Nat}(h:ee P t=some n)(w:World):(isAgg t).run P w=.ok (jd P t) w:=by
 unfold ee at h
 split at h
 ·rename_i d i hu hi;unfold jd isAgg;simp only[Sem.run_bind,run_underlying hu,Result.andThen_ok,hu]
  cases d<;>rfl
 ·cases h
theorem g8{P:Program}{t:Nat}{zs:List Value}(h:jF P t=some zs):∃n v,ee P t=some n/\zs=v.cells.toList/\zs.length=n/\∀w,(zeroValue t).run P w=.ok v w:=by
 unfold jF at h
 split at h
 ·rename_i n v hs hz
  split at h
  ·rename_i hn;simp only[Option.some.injEq] at h;subst h;refine⟨n,v,hs,rfl,by simpa using hn,λw=>?_⟩
   cases hi:P.info? t with
   | none=>simp[hi] at hz
   | some i =>
    simp only[hi,Option.bind_some] at hz;simp[zeroValue,typeInfo,hi,hz]
  ·cases h
 ·cases h
theorem zo{P:Program}{t n:Nat}(h:ee P t=some n)(cs:Array Value)(off:Nat)(w:World){v:Value}
  (hv:if jd P t=true then v=.agg (cs.extract off (off+n)) else cs[off]?=some v):(part t cs off).run P w=.ok v w:=by
 simp only[part,Sem.run_bind,nG h,Result.andThen_ok]
 split at hv
 ·rename_i ha;simp[ha,bF h,hv]
 ·rename_i ha;simp[ha,hv]
theorem rt{P:Program}{t:Nat}{cs:List SV}{off:Nat}{v:SV}(h:iw P t cs off=some v)(ρ:Nat->Nat)(e:Env)(w:World) :
  (part t (SV.dens ρ e cs).toArray off).run P w=.ok (v.den ρ e) w:=by
 unfold iw at h
 split at h
 ·cases h
 ·rename_i n hn;refine zo hn _ _ _ ?_
  split at h
  ·rename_i ha
   split at h
   ·rename_i hl;simp only[Option.some.injEq] at h;subst h;simp only[ha,if_true,SV.den,iS,iN]
    simp only[List.extract_toArray,List.extract_eq_take_drop,Nat.add_sub_cancel_left]
   ·cases h
  ·rename_i ha;simp only[ha,Bool.false_eq_true,if_false]
   simp[im,h]
theorem oV{w:World}{b:Nat}{C:Array Value}{T:Nat}{fz:Nat × Nat}(h:w.heap[b]?=some (.cells C T fz))(o:Nat):w.cell? ⟨b,o,none⟩=C[o]?:=by
 simp[World.cell?,h]
theorem kw(b o j:Nat):(⟨b,o,none⟩:Addr).add j=⟨b,o+j,none⟩:=by
 unfold Addr.add;split<;>simp_all
theorem ez{P:Program}{t n:Nat}(h:ee P t=some n){w:World}{b off:Nat}{C:Array Value}{T:Nat}{fz:Nat × Nat}(hb:w.heap[b]?=some (.cells C T fz))
  {cs:List Value} (hc:∀j,j<cs.length->C[off+j]?=cs[j]?) (hn:cs.length=n) {v:Value}
  (hv:if jd P t=true then v=.agg cs.toArray else cs[0]?=some v):(loadVar t ⟨b,off,none⟩).run P w=.ok v w:=by
 simp only[loadVar,Sem.run_bind,nG h,Result.andThen_ok]
 split at hv
 ·rename_i ha;have hl:(loadCells ⟨b,off,none⟩ cs.length).run P w=.ok cs.toArray w:=run_loadCells_list w _ cs (λj v hj=>by
   have hlt:j<cs.length:=by
    rcases Nat.lt_or_ge j cs.length with h | h
    ·exact h
    ·rw[List.getElem?_eq_none h] at hj;cases hj
   rw[kw,oV hb,hc j hlt,hj])
  rw[hn] at hl;simp only[ha,if_true,Sem.run_bind,bF h,Result.andThen_ok,hl,hv]
  rfl
 ·rename_i ha;have h0:0<cs.length:=by
   cases cs with
   | nil=>simp at hv
   | cons a l=>simp
  have hcell:w.cell? ⟨b,off,none⟩=some v:=by
   rw[oV hb];have:=hc 0 h0
   rw[Nat.add_zero] at this;rw[this,hv]
  simp only[ha,Bool.false_eq_true,if_false]
  simp[run_load,hcell]
theorem ox:∀(vs:List SV) (cs:List SV) (off:Nat),off+vs.length<=cs.length->bW cs off vs=cs.take off++vs++cs.drop (off+vs.length)
 | [],cs,off,_=>by simp[bW]
 | v::r,cs,off,h=>by
  simp only[List.length_cons] at h;rw[bW,ox r (cs.set off v) (off+1) (by simp;omega)];have h1:(cs.set off v).take (off+1)=cs.take off ++ [v]:=by
   rw[List.take_succ_eq_append_getElem (by simp;omega)];simp[List.take_set_of_le]
  have h2:(cs.set off v).drop (off+1+r.length)=cs.drop (off+(r.length+1)):=by
   rw[List.drop_set_of_lt (by omega)]
   congr 1
   omega
  rw[h1,h2];simp
theorem EN{v:SV}(h:v.one=true)(ρ:Nat->Nat)(e:Env):(v.den ρ e).oneCell'=true:=by
 cases v with
 | c v=>cases v<;>first | rfl | simp[SV.one] at h
 | _=>first | rfl | simp[SV.one] at h
theorem Da{cs:List SV}(h:cs.all SV.one=true)(ρ:Nat->Nat)(e:Env):∀v∈SV.dens ρ e cs,v.oneCell'=true:=by
 intro v hv;rw[kA,List.mem_map] at hv;obtain⟨s,hs,rfl⟩:=hv;exact EN (List.all_eq_true.1 h s hs) ρ e
theorem kh{v:SV}{cs:List SV}(h:cz v=some cs)(ρ:Nat->Nat)(e:Env):(v.den ρ e).cells=(SV.dens ρ e cs).toArray:=by
 cases v with
 | agg l=>simp only[cz,Option.some.injEq] at h;subst h;rfl
 | c v=>cases v<;>simp only[cz,Option.some.injEq,reduceCtorEq] at h<;>subst h<;>rfl
 | undef=>cases h
 | o i=>cases h
 | tup l=>cases h
 | _=>simp only[cz,Option.some.injEq] at h;subst h;rfl
section
variable(P:Program)(S:St)(ρ:Nat->Nat)(e:Env)(H:Hp)(a:Act)(W:World)(o:Oper)
def ax:R1->Prop
 | .val cs v=>(∀c∈cs,c.den e=true)->(execOp a.eval o).run P W=.ok (.value (v.den ρ e)) W
 | .new cs t len=>(execOp a.eval o).run P W=.ok (.value (match len with
   | none=>.pointer (some ⟨W.heap.size,0,none⟩)
   | some n=>.slice (some ⟨W.heap.size,0,none⟩) n n)) (W.alloc (.cells (SV.dens ρ e cs).toArray t (0,0)))
 | .sto k off cs=>∀ob,S.h[k]?=some (some ob)->W.heap[ρ k]?=some (ob.den ρ e)->off+cs.length<=ob.cs.length/\(execOp a.eval o).run P W=.ok .skip (W.setRow (ρ k) (SV.dens ρ e (bW ob.cs off cs)).toArray)
 | .ld i off t (some j)=>∀ob v,S.h[i]?=some (some ob)->W.heap[ρ i]?=some (ob.den ρ e)->iw P t ob.cs j=some v->(execOp a.eval o).run P W=.ok (.value (v.den ρ e)) W
 | .ld i off t none=>∀zs (cs:List Value),jF P t=some zs->cs.length=zs.length->aa (ak W) (e i).ptr (off.den e) cs->∀v,(if jd P t=true then v=.agg cs.toArray else cs[0]?=some v) ->
   (execOp a.eval o).run P W=.ok (.value v) W
 | .cas x vs=>∀(j:Nat) v,x.den e=j->vs[j]?=some v->(execOp a.eval o).run P W=.ok (.value (v.den ρ e)) W
 | .call f as _=>(execOp a.eval o).run P W=.ok (.enter f (SV.dens ρ e as).toArray) W
 | .esc q as _ _=>(execOp a.eval o).run P W=(q.sem (SV.dens ρ e as)).run P W
 | .bad=>True
end
section
variable{P:Program}{W0:World}{M:Nat->Prop}{S:St}{ρ:Nat->Nat}{e:Env}{X:List (Nat × Obj)}{H:Hp}{a:Act}{W:World}{o:Oper}
theorem xe(hr:gC S ρ e a){x:Operand}(hop:o.op=.move x\/o.op=.assign x):ax P S ρ e a W o (step P S o):=by
 rcases hop with hop | hop <;>
 ·simp only[step,hop]
  split
  ·rename_i v hv;intro _;simp[execOp,hop,aw hr.tm hv]
  ·trivial
theorem CL(hr:gC S ρ e a){c x y:Operand}(hop:o.op=.pick c x y):ax P S ρ e a W o (step P S o):=by
 simp only[step,hop]
 split
 ·rename_i c' hc
  split
  ·rename_i hd
   split
   ·rename_i v hv;intro _;simp[execOp,hop,aw hr.tm hv,aw hr.tm hc,asBool,SV.den,mt hr.pc hd]
   ·trivial
  ·rename_i hd
   split
   ·rename_i v hv;intro _;simp[execOp,hop,aw hr.tm hv,aw hr.tm hc,asBool,SV.den,mt hr.pc hd]
   ·trivial
  ·trivial
 ·trivial
theorem AR{t:Nat}(hop:o.op=.alloc t):ax P S ρ e a W o (step P S o):=by
 simp only[step,hop]
 split
 ·rename_i zs hz;obtain⟨n,v,hn,hzs,_,hrun⟩:=g8 hz;subst hzs;simp[ax,execOp,hop,Instr.alloc,hrun,Result.andThen,newVar,newRow,jo]
 ·trivial
theorem ES(hr:gC S ρ e a){t:Nat}{x:Operand}(hop:o.op=.box t x):ax P S ρ e a W o (step P S o):=by
 simp only[step,hop]
 split
 ·rename_i cs hc;simp only[Option.bind_eq_some_iff] at hc;obtain⟨v,hv,hcs⟩:=hc;simp[ax,execOp,hop,Instr.box,newVar,newRow,aw hr.tm hv,kh hcs,Result.andThen]
 ·trivial
theorem re(ρ:Nat->Nat)(e:Env):∀(vs cs:List SV) (off j:Nat),((SV.dens ρ e vs).zipIdx j).foldl (λ(cs:Array Value) (p:Value × Nat)=>cs.setIfInBounds (off+p.2) p.1) (SV.dens ρ e cs).toArray=(SV.dens ρ e (bW cs (off+j) vs)).toArray
 | [],cs,off,j=>rfl
 | v::r,cs,off,j=>by
  simp only[SV.dens,List.zipIdx_cons,List.foldl_cons,bW]
  have h:(SV.dens ρ e cs).toArray.setIfInBounds (off+j) (v.den ρ e)=(SV.dens ρ e (cs.set (off+j) v)).toArray:=by
   simp only[List.setIfInBounds_toArray,kA,List.map_set]
  rw[h,re ρ e r (cs.set (off+j) v) off (j+1)];rfl
theorem m8(ρ:Nat->Nat)(e:Env){place:Nat->Option (Nat × Nat)}:∀{ps:List (Nat × SV)} {cs cs':List SV},lU place cs ps=some cs' ->
  Instr.fill place (SV.dens ρ e cs).toArray (ps.map λp=>(p.1,p.2.den ρ e))=some (SV.dens ρ e cs').toArray
 | [],cs,cs',h=>by
  simp only[lU,Option.some.injEq] at h;subst h;rfl
 | (i,v)::r,cs,cs',h=>by
  simp only[lU] at h
  split at h
  ·rename_i off n vs hp hv
   split at h
   ·rename_i hl;have hc:=kh hv ρ e
    simp only[List.map_cons,Instr.fill,hp,hc]
    have hs:(SV.dens ρ e vs).toArray.size=n:=by simp[bA,hl.1]
    have hs2:¬off+(SV.dens ρ e vs).toArray.size>(SV.dens ρ e cs).toArray.size:=by
     rw[hs];simp[bA];omega
    have hz:((SV.dens ρ e vs).toArray.zipIdx).foldl (λcs (x:Value × Nat)=>cs.setIfInBounds (off+x.2) x.1) (SV.dens ρ e cs).toArray=(SV.dens ρ e (bW cs off vs)).toArray:=by
     have:=re ρ e vs cs off 0;simpa using this
    rw[hs] at hs2;simp only[hs,ne_eq,not_true_eq_false,decide_false,Bool.false_or,decide_eq_true_eq,hs2,if_false]
    have hz':=hz;rw[show (λ(cs:Array Value) (x:Value × Nat)=>match x with | (c,j)=>cs.setIfInBounds (off+j) c)=(λcs (x:Value × Nat)=>cs.setIfInBounds (off+x.2) x.1) from rfl,hz];exact m8 ρ e h
   ·cases h
  ·cases h
theorem ot{P:Program}:∀{fs:List Field} {pl:List (Nat × Nat)},lj P fs=some pl->∀w:World,((fs.mapM λf=>do pure (f.offset,<- sizeOf f.type):Sem (List (Nat × Nat)))).run P w=.ok pl w
 | [],pl,h,w=>by
  simp only[lj,Option.some.injEq] at h;subst h;rfl
 | f::r,pl,h,w=>by
  simp only[lj] at h
  split at h
  ·rename_i n ps hn hps;simp only[Option.some.injEq] at h;subst h;have ih:=ot hps w
   rw[List.mapM_cons];simp only[Sem.run_bind,bF hn,Result.andThen_ok,Sem.run_pure,ih]
  ·cases h
theorem A4(hr:gC S ρ e a){t:Nat}{parts:Array (Nat × Operand)}(hop:o.op=.build t parts):ax P S ρ e a W o (step P S o):=by
 simp only[step,hop]
 split
 ·rename_i ps zs fs hps hz hu;obtain⟨n,v,hn,hzs,_,hrun⟩:=g8 hz;have hpp:=oT hr.tm hps
  split
  ·rename_i pl hpl
   split
   ·rename_i cs hcs;intro _;have hf:=m8 ρ e hcs
    rw[jo,<- hpp,hzs] at hf;have hp:=ot hpl W
    simp only[execOp,hop,Instr.build,Sem.run_bind,hrun,Result.andThen_ok,run_underlying hu]
    have hp':((fs.mapM λf=>do pure (f.offset,<- sizeOf f.type):Sem (Array (Nat × Nat)))).run P W=.ok pl.toArray W:=by
     rw[Array.mapM_eq_mapM_toList];simp only[Sem.run_map,hp,Result.andThen_ok]
    simp only[hp',Result.andThen_ok]
    have hfa:Instr.fill (λx=>pl.toArray[x]?) v.cells (parts.map λx=>(x.1,a.eval x.2)).toList=some (SV.dens ρ e cs).toArray:=by
     simpa using hf
    simp only[hfa,SV.den,Sem.run_pure,Result.andThen_ok]
   ·trivial
  ·trivial
 ·rename_i ps zs n el hps hz hu;obtain⟨_,v,hn,hzs,_,hrun⟩:=g8 hz;have hpp:=oT hr.tm hps
  split
  ·rename_i sz hsz
   split
   ·rename_i cs hcs;intro _;have hf:=m8 ρ e hcs
    rw[jo,<- hpp,hzs] at hf;simp only[execOp,hop,Instr.build,Sem.run_bind,hrun,Result.andThen_ok,run_underlying hu,bF hsz]
    have hfa:Instr.fill (λi=>some (i * sz,sz)) v.cells (parts.map λx=>(x.1,a.eval x.2)).toList=some (SV.dens ρ e cs).toArray:=by
     simpa using hf
    simp only[hfa,SV.den,Sem.run_pure,Result.andThen_ok]
   ·trivial
  ·trivial
 ·trivial
theorem mw(z:List SV)(hz:0<z.length):∀(len i:Nat),i<len * z.length->(ib z len)[i]?=z[i % z.length]?
 | 0,i,h=>by simp at h
 | n+1,i,h=>by
  rw[ib]
  by_cases hi:i<z.length
  ·rw[List.getElem?_append_left hi,Nat.mod_eq_of_lt hi]
  ·rw[List.getElem?_append_right (by omega),mw z hz n (i-z.length) (by rw[Nat.succ_mul] at h;omega)]
   congr 1
   exact (Nat.mod_eq_sub_mod (by omega)).symm
theorem mr(z:List SV):∀len,(ib z len).length=len * z.length
 | 0=>by simp[ib]
 | n+1=>by rw[ib,List.length_append,mr z n,Nat.succ_mul];omega
theorem qv(hr:gC S ρ e a){t len:Nat}{parts:Array (Nat × Operand)}(hop:o.op=.buildSlice t len parts):ax P S ρ e a W o (step P S o):=by
 simp only[step,hop]
 split
 ·rename_i ps el hps hu;have hpp:=oT hr.tm hps
  split
  ·rename_i n zs hsz hz;obtain⟨n',v,hn',hzs,hzl,hrun⟩:=g8 hz
   split
   ·rename_i hc;obtain⟨h1,h2,h3⟩:=hc
    split
    ·rename_i cs hcs;have hf:=m8 ρ e hcs
     rw[<- hpp] at hf;have hz0:zs.length=v.cells.size:=by rw[hzs];simp
     have hrow:(SV.dens ρ e (ib (zs.map jh) len)).toArray=(Array.range (len * n)).map (λi=>(if len * n=0 then (#[]:Array Value) else v.cells)[i % (if len * n=0 then (#[]:Array Value) else v.cells).size]!):=by
      apply Array.ext';apply List.ext_getElem?;intro i
      by_cases hi:i<len * n
      ·have h0:¬len * n=0:=by omega
       simp only[h0,if_false,im]
       rw[mw _ (by simp;omega) len i (by simp;rw[<- h1];exact hi)];have hm:i % v.cells.size<v.cells.size:=Nat.mod_lt _ (by omega)
       simp[hi,hzs,List.getElem?_map,Array.getElem?_eq_getElem hm,ma,getElem!_pos,hm]
      ·rw[List.getElem?_eq_none (by rw[bA,mr];simp;rw[<- h1];omega),List.getElem?_eq_none (by simp;omega)]
     have hfa:Instr.fill (λi=>some (i * n,n)) ((Array.range (len * n)).map (λi=>(if len * n=0 then (#[]:Array Value) else v.cells)[i % (if len * n=0 then (#[]:Array Value) else v.cells).size]!)) (parts.map λx=>(x.1,a.eval x.2)).toList=some (SV.dens ρ e cs).toArray:=by
      rw[<- hrow];simpa using hf
     simp only[ax,execOp,hop,Instr.buildSlice,Sem.run_bind,run_underlying hu,Result.andThen_ok,bF hsz]
     rw[if_neg (by omega)]
     by_cases h0:len * n=0
     ·simp only[h0,if_true] at hfa;simp only[h0,if_true,Sem.run_bind,Sem.run_pure,Result.andThen_ok,hfa]
      simp[newRow]
     ·simp only[h0,if_false] at hfa;simp only[h0,if_false,Sem.run_bind,hrun,Sem.run_pure,Result.andThen_ok,hfa]
      simp[newRow]
    ·trivial
   ·trivial
  ·trivial
 ·trivial
end
section
variable{Df:List Deferred}
section
variable{P:Program}{W0:World}{M:Nat->Prop}{S:St}{ρ:Nat->Nat}{e:Env}{X:List (Nat × Obj)}{H:Hp}{a:Act}{W:World}{o:Oper}
theorem qb(hr:Rel Df W0 M S ρ e X H a W){k:Nat}{ob:ay}(h:(S.h[k]?).join=some ob):S.h[k]?=some (some ob)/\W.heap[ρ k]?=some (ob.den ρ e):=by
 have:S.h[k]?=some (some ob):=by
  cases hh:S.h[k]? with
  | none=>rw[hh] at h;cases h
  | some q=>rw[hh] at h;simp only[Option.join_some] at h;rw[h]
 exact⟨this,hr.mem.kn k ob this⟩
theorem oY{h:List (Option ay)}{k:Nat}{ob:ay}(hh:(h[k]?).join=some ob):h[k]?=some (some ob):=by
 cases hx:h[k]? with
 | none=>rw[hx] at hh;cases hh
 | some q=>rw[hx] at hh;simp only[Option.join_some] at hh;rw[hh]
theorem w8(hr:gC S ρ e a){t:Nat}{x:Operand}(hop:o.op=.load t x):ax P S ρ e a W o (step P S o):=by
 simp only[step,hop]
 split
 ·rename_i k off hx
  split
  ·rename_i ob hob
   split
   ·rename_i v hv;have h1:=oY hob
    intro ob' v' ho h2 hp;rw[h1] at ho;simp only[Option.some.injEq] at ho;subst ho;rw[hv] at hp;simp only[Option.some.injEq] at hp;subst hp;simp only[execOp,hop,Instr.loadAt,aw hr.tm hx,SV.den,Instr.sureAddr,Sem.run_bind,Sem.run_pure,Result.andThen_ok]
    unfold iw at hv
    split at hv
    ·cases hv
    ·rename_i n hn;have hl:(loadVar t ⟨ρ k,off,none⟩).run P W=.ok (v.den ρ e) W:=by
      split at hv
      ·rename_i ha
       split at hv
       ·rename_i hle;simp only[Option.some.injEq] at hv;subst hv;refine ez hn h2 (cs:=(SV.dens ρ e ((ob.cs.drop off).take n))) (λj hj=>?_) (by simp[bA];omega) ?_
        ·simp only[bA,List.length_take,List.length_drop] at hj;simp only[List.getElem?_toArray,im,List.getElem?_take,List.getElem?_drop]
         rw[if_pos (by omega)]
        ·simp only[ha,if_true,SV.den]
       ·cases hv
      ·rename_i ha;have hlt:off<ob.cs.length:=by
        rcases Nat.lt_or_ge off ob.cs.length with h | h
        ·exact h
        ·rw[List.getElem?_eq_none h] at hv;cases hv
       simp only[loadVar,Sem.run_bind,nG hn,Result.andThen_ok,ha,Bool.false_eq_true,if_false]
       have hcell:W.cell? ⟨ρ k,off,none⟩=some (v.den ρ e):=by
        rw[oV h2];simp[im,hv]
       simp[run_load,hcell]
     simp[hl]
   ·trivial
  ·trivial
 ·rename_i i off hx;intro zs cs hz hcl hrow v hv;obtain⟨n,zv,hn,hzs,hzl,_⟩:=g8 hz;obtain⟨b,o',hp,C,T,fz,hb,hc⟩:=hrow;have hb':W.heap[b]?=some (.cells C T fz):=hb
  simp only[execOp,hop,Instr.loadAt,aw hr.tm hx,SV.den,ab,hp,Option.map_some,nx,Instr.sureAddr,Sem.run_bind,Sem.run_pure,Result.andThen_ok]
  simp only[ez hn hb' (λj hj=>(hc j hj).1) (by omega) hv,Result.andThen_ok]
 ·trivial
theorem zS(hr:gC S ρ e a){t:Nat}{x y:Operand}(hop:o.op=.store t x y):ax P S ρ e a W o (step P S o):=by
 simp only[step,hop]
 split
 ·rename_i k off v n hx hy hn
  split
  ·rename_i cs ob hcs hob
   split
   ·rename_i hc;obtain⟨h1,h2,h3⟩:=hc;have k1:=oY hob
    intro ob' ho k2;rw[k1] at ho;simp only[Option.some.injEq] at ho;subst ho;refine⟨by omega,?_⟩;have hcv:=kh hcs ρ e
    have hst:=run_storeCells_at (P:=P) (ρ k) off ob.ty (SV.dens ρ e cs) 0 _ W k2 (by simp[bA];omega) (Da h3 ρ e);simp only[execOp,hop,Instr.storeAt,aw hr.tm hx,aw hr.tm hy,SV.den,Instr.sureAddr,Sem.run_bind,Sem.run_pure,Result.andThen_ok,storeVar,bF hn,hcv]
    rw[if_neg (by simp[bA];omega)];simp only[Sem.run_bind,hst,Result.andThen_ok,Sem.run_pure,Nat.add_zero]
    rw[ox _ _ _ (by omega)];simp only[nj,iS,iN,bA]
   ·trivial
  ·trivial
 ·rename_i i off v n hx hy hn;simp only[ax,execOp,hop,EK.sem,SV.dens,aw hr.tm hx,aw hr.tm hy]
  rfl
 ·trivial
theorem tr(hr:gC S ρ e a){x:Operand}(hop:o.op=.nilCheck x):ax P S ρ e a W o (step P S o):=by
 simp only[step,hop]
 split
 ·rename_i k off hx;intro _;simp only[execOp,hop,aw hr.tm hx,SV.den,Sem.run_pure]
 ·rename_i i off hx;intro hc;have:=hc _ (List.mem_cons_self ..)
  simp only[Sb.den,Option.isSome_iff_exists] at this;obtain⟨p,hp⟩:=this;simp only[execOp,hop,aw hr.tm hx,SV.den,ab,hp,Option.map_some,Sem.run_pure]
 ·trivial
theorem kD(op:BinOp)(t:Nat)(x y:Operand)(k:IntKind)(p q:Int)(w:World):(eqGuard op t x y (.int k p) (.int k q)).run P w=.ok () w:=by
 unfold eqGuard
 split<;>simp
theorem BN(hr:gC S ρ e a){op:BinOp}{t ty:Nat}{x y:Operand}(hop:o.op=.binOp op t x y ty){k:IntKind}{p q:Sx}(hx:ev S x=some (.int k p))(hy:ev S y=some (.int k q))
  {f:Int->Int->Int} {g:Sx->Sx->Sx} (hg:∀u v,(g u v).den e=f (u.den e) (v.den e)) (hrun:∀(u v:Int) (w:World),(binOp op t (.int k u) (.int k v)).run P w=.ok (.int k (k.wrap (f u v))) w) :
  ax P S ρ e a W o (ar k f g p q):=by
 have he:∀u v:Int,p.den e=u->q.den e=v->(execOp a.eval o).run P W=.ok (.value (.int k (k.wrap (f u v)))) W:=λu v hu hv=>by
  simp only[execOp,hop,aw hr.tm hx,aw hr.tm hy,SV.den,Sem.run_bind,kD,Result.andThen_ok,hrun,Sem.run_pure,hu,hv]
 unfold ar
 split
 ·intro _;rw[he _ _ rfl rfl];rfl
 ·intro hc;have h:=hc _ (List.mem_cons_self ..)
  simp only[Sb.den,decide_eq_true_eq,ae,hg] at h;rw[he _ _ rfl rfl];simp only[SV.den,hg,h]
theorem Ao(hr:gC S ρ e a){op:BinOp}{t ty:Nat}{x y:Operand}(hop:o.op=.binOp op t x y ty):ax P S ρ e a W o (step P S o):=by
 have hesc:∀u v r,ev S x=some u->ev S y=some v->ax P S ρ e a W o (Bp x y op t u v r):=λu v r hu hv=>by
  simp only[Bp,ax,execOp,hop,EK.sem,SV.dens,aw hr.tm hu,aw hr.tm hv]
  rfl
 simp only[step,hop]
 split
 ·rename_i k p k' q hx hy
  split
  ·rename_i hk;subst hk;have hcmp:∀(c:Sb),(∀u v:Int,p.den e=u->q.den e=v->∀w,(Op.intCmp op u v).run P w=.ok (.bool (c.den e)) w)->(op≠.shl/\op≠.shr/\op≠.add/\op≠.sub/\op≠.mul/\op≠.quo/\op≠.rem/\op≠.and/\op≠.or/\op≠.xor/\op≠.andNot) ->
     ax P S ρ e a W o (.val [] (.bool c)):=λc hc hne _=>by
    have hb:(binOp op t (.int k (p.den e)) (.int k (q.den e)))=Op.intCmp op (p.den e) (q.den e):=by
     cases op<;>simp_all [binOp]
    simp only[execOp,hop,aw hr.tm hx,aw hr.tm hy,SV.den,Sem.run_bind,kD,Result.andThen_ok,hb,hc _ _ rfl rfl,Sem.run_pure]
   split
   ·exact BN hr hop hx hy (λ_ _=>rfl) (λu v w=>by simp[binOp,Op.intArith])
   ·exact BN hr hop hx hy (λ_ _=>rfl) (λu v w=>by simp[binOp,Op.intArith])
   ·exact BN hr hop hx hy (λ_ _=>rfl) (λu v w=>by simp[binOp,Op.intArith])
   ·exact hcmp _ (λu v hu hv w=>by subst hu hv;simp[Op.intCmp,Sb.den];rfl) (by simp)
   ·exact hcmp _ (λu v hu hv w=>by subst hu hv;simp[Op.intCmp,Sb.den];rfl) (by simp)
   ·exact hcmp _ (λu v hu hv w=>by subst hu hv;simp[Op.intCmp,Sb.den]) (by simp)
   ·exact hcmp _ (λu v hu hv w=>by subst hu hv;simp[Op.intCmp,Sb.den]) (by simp)
   ·exact hcmp _ (λu v hu hv w=>by subst hu hv;simp[Op.intCmp,Sb.den]) (by simp)
   ·exact hcmp _ (λu v hu hv w=>by subst hu hv;simp[Op.intCmp,Sb.den]) (by simp)
   ·exact hesc _ _ _ hx hy
  ·exact hesc _ _ _ hx hy
 ·rename_i u v hn hx hy;exact hesc _ _ _ hx hy
 ·trivial
end
end
section
variable{P:Program}{W0:World}{M:Nat->Prop}{S:St}{ρ:Nat->Nat}{e:Env}{X:List (Nat × Obj)}{H:Hp}{a:Act}{W:World}{o:Oper}
theorem A6{k:IntKind}{p:Sx}(h:(Sb.rng k p).den e=true):k.wrap (p.den e)=p.den e:=by
 have:=(Sb.prop_iff e (.rng k p)).2 h;exact this
theorem C2(hr:gC S ρ e a){op:UnOp}{t:Nat}{x:Operand}(hop:o.op=.unOp op t x):ax P S ρ e a W o (step P S o):=by
 simp only[step,hop]
 split
 ·rename_i b hx;intro _;simp[execOp,hop,aw hr.tm hx,SV.den,Op.unary,Sb.den]
 ·rename_i k p hx;have he:(execOp a.eval o).run P W=.ok (.value (.int k (k.wrap (0-p.den e)))) W:=by
   simp[execOp,hop,aw hr.tm hx,SV.den,Op.unary,Op.intArith]
  unfold ar
  split
  ·intro _;rename_i u v h1 h2;rw[he];simp only[Sx.k.injEq] at h1;subst h1;rfl
  ·intro hc;have h:=A6 (hc _ (List.mem_cons_self ..))
   simp only[Sx.den] at h;rw[he];simp only[SV.den,Sx.den,h]
 ·trivial
theorem vz(hr:gC S ρ e a){s d:Nat}{x:Operand}(hop:o.op=.convert s d x):ax P S ρ e a W o (step P S o):=by
 simp only[step,hop]
 split
 ·rename_i kk p ds k hx hs hd;have he:(execOp a.eval o).run P W=.ok (.value (.int k (k.wrap (p.den e)))) W:=by
   simp only[execOp,hop,aw hr.tm hx,SV.den,Sem.run_bind,convert,run_underlying hs,run_underlying hd,Result.andThen_ok]
   simp[Conv.intToInt]
  split
  ·intro _;rw[he];rfl
  ·split
   ·intro hc;have h:=A6 (hc _ (List.mem_cons_self ..))
    rw[he];simp only[SV.den,h]
   ·intro _;rw[he];rfl
 ·rename_i v hx hn;simp only[ax,execOp,hop,EK.sem,SV.dens,aw hr.tm hx]
  rfl
 ·trivial
theorem rU(hr:gC S ρ e a){t f:Nat}{x:Operand}(hop:o.op=.fieldAddr t x f):ax P S ρ e a W o (step P S o):=by
 simp only[step,hop]
 split
 ·rename_i k off fs hx hu
  split
  ·rename_i fl hf
   split
   ·rename_i n hn;intro _;simp only[execOp,hop,aw hr.tm hx,SV.den,Instr.fieldAt,Sem.run_bind,run_underlying hu,Result.andThen_ok,hf,Instr.sureAddr,Sem.run_pure,fieldPlace,bF hn]
    simp[kw]
   ·trivial
  ·trivial
 ·rename_i i off fs hx hu
  split
  ·rename_i fl hf
   split
   ·rename_i n hn
    split
    ·rename_i hz;intro hc;have h:=hc _ (List.mem_cons_self ..)
     simp only[Sb.den,Option.isSome_iff_exists] at h;obtain⟨p,hp⟩:=h;simp only[execOp,hop,aw hr.tm hx,SV.den,ab,hp,Option.map_some,Instr.fieldAt,Sem.run_bind,run_underlying hu,Result.andThen_ok,hf,Instr.sureAddr,Sem.run_pure,fieldPlace,bF hn]
     simp[hz]
    ·intro hc;have h:=hc _ (List.mem_cons_self ..)
     have h2:0<=off.den e:=(Sb.prop_iff e (.le (.k 0) off)).2 (hc _ (List.mem_cons_of_mem _ (List.mem_cons_self ..)));simp only[Sb.den,Option.isSome_iff_exists] at h;obtain⟨p,hp⟩:=h;simp only[execOp,hop,aw hr.tm hx,SV.den,ab,hp,Option.map_some,Instr.fieldAt,Sem.run_bind,run_underlying hu,Result.andThen_ok,hf,Instr.sureAddr,Sem.run_pure,fieldPlace,bF hn]
     have:(off.den e+(fl.offset:Int)).toNat=(off.den e).toNat+fl.offset:=by omega
     simp[B6,Sx.den,this]
   ·trivial
  ·trivial
 ·trivial
theorem Bi(hr:gC S ρ e a){t f:Nat}{x:Operand}(hop:o.op=.field t x f):ax P S ρ e a W o (step P S o):=by
 simp only[step,hop]
 split
 ·rename_i cs fs hx hu
  split
  ·rename_i fl hf
   split
   ·rename_i v hv;intro _;simp only[execOp,hop,aw hr.tm hx,SV.den,Instr.field,Sem.run_bind,run_underlying hu,Result.andThen_ok,hf,asAgg,Sem.run_pure,rt hv]
   ·trivial
  ·trivial
 ·trivial
theorem nR{mk:Nat->SV}{n j:Nat}{v:SV}(h:(elems mk n)[j]?=some v):j<n/\v=mk j:=by
 unfold elems at h;rw[List.getElem?_map] at h
 by_cases hj:j<n
 ·simp[hj] at h;exact⟨hj,h.symm⟩
 ·rw[List.getElem?_eq_none (by simp;omega)] at h
  cases h
theorem rI(hr:gC S ρ e a){t:Nat}{x i:Operand}(hop:o.op=.indexAddr t x i):ax P S ρ e a W o (step P S o):=by
 simp only[step,hop]
 split
 ·rename_i k off ix n el hx hi hu;simp only[Option.bind_eq_some_iff] at hi;obtain⟨iv,hiv,hix⟩:=hi;obtain⟨kk,hk⟩:=iW hr hix
  split
  ·rename_i s hs;have he:∀j:Nat,ix.den e=j->j<n->(execOp a.eval o).run P W=.ok (.value (.pointer (some ⟨ρ k,off+j * s,none⟩))) W:=λj hj hlt=>by
    simp only[execOp,hop,aw hr.tm hx,aw hr.tm hiv,hk,hj,SV.den,Instr.indexAt,asIntOf,Sem.run_bind,Sem.run_pure,run_underlying hu,Result.andThen_ok,Instr.sureAddr]
    rw[if_pos (by omega)];simp[bF hs,kw]
   split
   ·rename_i j
    split
    ·rename_i hj;intro _;rw[he j.toNat (by simp[Sx.den];omega) (by omega)];rfl
    ·trivial
   ·rename_i ix' hnl;intro j v hj hv;obtain⟨hlt,rfl⟩:=nR hv;rw[he j hj hlt];rfl
  ·trivial
 ·rename_i k off len cap ix el hx hi hu;simp only[Option.bind_eq_some_iff] at hi;obtain⟨iv,hiv,hix⟩:=hi;obtain⟨kk,hk⟩:=iW hr hix
  split
  ·rename_i s hs;have he:∀j:Nat,ix.den e=j->j<len->(execOp a.eval o).run P W=.ok (.value (.pointer (some ⟨ρ k,off+j * s,none⟩))) W:=λj hj hlt=>by
    simp only[execOp,hop,aw hr.tm hx,aw hr.tm hiv,hk,hj,SV.den,Instr.indexAt,asIntOf,Sem.run_bind,Sem.run_pure,run_underlying hu,Result.andThen_ok,Instr.sureAddr]
    rw[if_pos (by omega)];simp[bF hs,kw]
   split
   ·rename_i j
    split
    ·rename_i hj;intro _;rw[he j.toNat (by simp[Sx.den];omega) (by omega)];rfl
    ·trivial
   ·rename_i ix' hnl;intro j v hj hv;obtain⟨hlt,rfl⟩:=nR hv;rw[he j hj hlt];rfl
  ·trivial
 ·rename_i b off len cap ix el hx hi hu;simp only[Option.bind_eq_some_iff] at hi;obtain⟨iv,hiv,hix⟩:=hi;obtain⟨kk,hk⟩:=iW hr hix
  split
  ·rename_i s hs;intro hc;have h1:0<=ix.den e/\ix.den e<len.den e:=(Sb.prop_iff e (.idx ix len)).2 (hc (.idx ix len) (by simp))
   have h2:=hc (.isp b) (by simp);have h3:0<=off.den e:=(Sb.prop_iff e (.le (.k 0) off)).2 (hc (.le (.k 0) off) (by simp))
   simp only[Sb.den,Option.isSome_iff_exists] at h2;obtain⟨p,hp⟩:=h2;simp only[execOp,hop,aw hr.tm hx,aw hr.tm hiv,hk,SV.den,ab,hp,Option.map_some,Instr.indexAt,asIntOf,Sem.run_bind,Sem.run_pure,run_underlying hu,Result.andThen_ok]
   rw[if_pos (by omega)];have:(off.den e+ix.den e * (s:Int)).toNat=(off.den e).toNat+(ix.den e).toNat * s:=by
    obtain⟨q,hq⟩:=Int.eq_ofNat_of_zero_le h1.1;rw[hq,Int.toNat_natCast,<- Int.natCast_mul];omega
   simp[bF hs,B6,Sx.den,this]
  ·trivial
 ·rename_i b off ix n el hx hi hu;simp only[Option.bind_eq_some_iff] at hi;obtain⟨iv,hiv,hix⟩:=hi;obtain⟨kk,hk⟩:=iW hr hix
  split
  ·rename_i s hs;intro hc;have h1:0<=ix.den e/\ix.den e<(n:Int):=(Sb.prop_iff e (.idx ix (.k n))).2 (hc (.idx ix (.k n)) (by simp))
   have h2:=hc (.isp b) (by simp);have h3:0<=off.den e:=(Sb.prop_iff e (.le (.k 0) off)).2 (hc (.le (.k 0) off) (by simp))
   simp only[Sb.den,Option.isSome_iff_exists] at h2;obtain⟨p,hp⟩:=h2;simp only[execOp,hop,aw hr.tm hx,aw hr.tm hiv,hk,SV.den,ab,hp,Option.map_some,Instr.indexAt,asIntOf,Sem.run_bind,Sem.run_pure,run_underlying hu,Result.andThen_ok,Instr.sureAddr]
   rw[if_pos (by omega)];have:(off.den e+ix.den e * (s:Int)).toNat=(off.den e).toNat+(ix.den e).toNat * s:=by
    obtain⟨q,hq⟩:=Int.eq_ofNat_of_zero_le h1.1;rw[hq,Int.toNat_natCast,<- Int.natCast_mul];omega
   simp[bF hs,B6,Sx.den,this]
  ·trivial
 ·trivial
theorem Ar(hr:gC S ρ e a){t:Nat}{x i:Operand}(hop:o.op=.index t x i):ax P S ρ e a W o (step P S o):=by
 simp only[step,hop]
 split
 ·rename_i cs ix n el hx hi hu;simp only[Option.bind_eq_some_iff] at hi;obtain⟨iv,hiv,hix⟩:=hi;obtain⟨kk,hk⟩:=iW hr hix
  split
  ·rename_i s hs;have he:∀(j:Nat) v,ix.den e=j->j<n->iw P el cs (j * s)=some v->(execOp a.eval o).run P W=.ok (.value (v.den ρ e)) W:=λj v hj hlt hv=>by
    simp only[execOp,hop,aw hr.tm hx,aw hr.tm hiv,hk,hj,SV.den,Instr.index,asIntOf,Sem.run_bind,Sem.run_pure,run_underlying hu,Result.andThen_ok]
    rw[if_pos (by omega)];simp[bF hs,rt hv]
   split
   ·rename_i j
    split
    ·rename_i hj
     split
     ·rename_i v hv;intro _;exact he j.toNat v (by simp[Sx.den];omega) (by omega) hv
     ·trivial
    ·trivial
   ·rename_i ix' hnl
    split
    ·rename_i hall;intro j v hj hv;obtain⟨hlt,rfl⟩:=nR hv;have:=List.all_eq_true.1 hall j (by simpa using hlt)
     obtain⟨v,hv⟩:=Option.isSome_iff_exists.1 this;simp only[hv,Option.getD_some]
     exact he j v hj hlt hv
    ·trivial
  ·trivial
 ·rename_i v ix hx hi hu;simp only[Option.bind_eq_some_iff] at hi;obtain⟨iv,hiv,hix⟩:=hi;simp only[ax,execOp,hop,EK.sem,SV.dens,aw hr.tm hx,aw hr.tm hiv,hiv,Option.getD_some]
  rfl
 ·trivial
theorem uJ(hr:gC S ρ e a){i:Nat}{x:Operand}(hop:o.op=.extract x i):ax P S ρ e a W o (step P S o):=by
 simp only[step,hop]
 split
 ·rename_i vs hx
  split
  ·rename_i v hv;intro _;simp[execOp,hop,aw hr.tm hx,SV.den,Instr.extract,im,hv]
  ·trivial
 ·trivial
theorem tH(hr:gC S ρ e a){fn:Fn}{x y:Array Operand}(hop:o.op=.makeFunc fn x y):ax P S ρ e a W o (step P S o):=by
 cases fn with
 | func f =>
  simp only[step,hop]
  split
  ·rename_i p q hx hy;intro _;have h1:=ki hr.tm hx
   have h2:=ki hr.tm hy;simp only[execOp,hop,Instr.makeFunc,Sem.run_pure,Sem.run_bind,Result.andThen_ok,SV.den,<- h1,<- h2]
   simp only[List.map_toArray,Array.toArray_toList,<- Array.toList_map]
  ·trivial
 | _=>simp only[step,hop];trivial
end
section
variable{P:Program}{W0:World}{M:Nat->Prop}{S:St}{ρ:Nat->Nat}{e:Env}{X:List (Nat × Obj)}{H:Hp}{a:Act}{W:World}{o:Oper}
theorem yQ(hr:gC S ρ e a){v:SV}{n:Nat}(h:rQ S v=some n):∃k,v.den ρ e=.int k n:=by
 unfold rQ at h
 split at h
 ·rename_i z hz
  split at h
  ·rename_i h0;simp only[Option.some.injEq] at h;obtain⟨k,hk⟩:=iW hr hz;refine⟨k,?_⟩;rw[hk];simp only[Sx.den]
   congr 1
   omega
  ·cases h
 ·cases h
theorem ro(hr:gC S ρ e a){x:Option Operand}{l:Option Nat}(h:kN S x=some l):(x=none/\l=none)\/∃y n k,x=some y/\l=some n/\a.eval y=.int k (n:Nat):=by
 cases x with
 | none=>simp only[kN,Option.some.injEq] at h;exact .inl ⟨rfl,h.symm⟩
 | some y =>
  simp only[kN] at h
  split at h
  ·rename_i v hv;simp only[Option.map_eq_some_iff] at h;obtain⟨n,hn,rfl⟩:=h;obtain⟨k,hk⟩:=yQ hr hn;exact .inr ⟨y,n,k,rfl,rfl,by rw[aw hr.tm hv,hk]⟩
  ·cases h
theorem nf(hr:gC S ρ e a){x:Option Operand}{l:Option Sx}(h:iy S x=some l):(x=none/\l=none)\/∃y n k,x=some y/\l=some n/\a.eval y=.int k (n.den e):=by
 cases x with
 | none=>simp only[iy,Option.some.injEq] at h;exact .inl ⟨rfl,h.symm⟩
 | some y =>
  simp only[iy] at h
  split at h
  ·rename_i v hv;simp only[Option.map_eq_some_iff] at h;obtain⟨n,hn,rfl⟩:=h;obtain⟨k,hk⟩:=iW hr hn;exact .inr ⟨y,n,k,rfl,rfl,by rw[aw hr.tm hv,hk]⟩
  ·cases h
theorem j8(k:IntKind)(n:Int)(y:Nat)(code:BoundsCode)(w:World)(h0:0<=n)(h1:n<=y):(Instr.sliceBound (.int k n) y code).run P w=.ok n.toNat w:=by
 simp only[Instr.sliceBound,asIntOf,Sem.run_bind,Sem.run_pure,Result.andThen_ok]
 rw[if_pos ⟨h0,h1⟩];rfl
theorem mh(s:Bool)(len cap:Nat)(lo hi:Option Value)(l h:Nat)(w:World)
  (hl:(lo=none/\l=0)\/∃k,lo=some (.int k l)) (hh:(hi=none/\h=len)\/∃k,hi=some (.int k h)) (h1:l<=h) (h2:h<=cap) :
  (Instr.sliceBounds s len cap lo hi none).run P w=.ok (l,h,cap) w:=by
 rcases hl with⟨rfl,rfl⟩ | ⟨k,rfl⟩<;>rcases hh with⟨rfl,rfl⟩ | ⟨k',rfl⟩ <;>
  simp only[Instr.sliceBounds,Sem.run_bind,Sem.run_pure,Result.andThen_ok] <;>
  (repeat (rw[j8 _ _ _ _ _ (by omega) (by omega)]))<;>simp only[Result.andThen_ok,Int.toNat_natCast] <;>
  (repeat (rw[j8 _ _ _ _ _ (by omega) (by omega)]))<;>simp only[Result.andThen_ok,Int.toNat_natCast]
theorem Bw(hr:gC S ρ e a){t:Nat}{x:Operand}{lo hi mx:Option Operand}(hop:o.op=.slice t x lo hi mx):ax P S ρ e a W o (step P S o):=by
 cases mx with
 | some m =>
  simp only[step,hop]
  split
  ·rename_i v l h w hv hl hh hw;have el:∀{x:Option Operand} {q:Option Sx},iy S x=some q->x.map a.eval=(x.bind (ev S)).map (SV.den ρ e)/\(x.isSome=(x.bind (ev S)).isSome):=λ{x q} hq=>by
    cases x with
    | none=>exact⟨rfl,rfl⟩
    | some y =>
     simp only[iy] at hq
     split at hq
     ·rename_i v hv;simp only[Option.bind_some,hv,Option.map_some,aw hr.tm hv,Option.isSome_some,and_self]
     ·cases hq
   obtain⟨e1,e2⟩:=el hl;obtain⟨e3,e4⟩:=el hh;simp only[ax,execOp,hop,EK.sem,aw hr.tm hv,Option.map_some,aw hr.tm hw,e1,e3,nj,SV.dens]
   rw[e2,e4]
   cases lo.bind (ev S)<;>cases hi.bind (ev S)<;>rfl
  ·trivial
 | none =>
 simp only[step,hop]
 split
 ·rename_i k off n el hx hu
  split
  ·rename_i s l h hs hl hh
   split
   ·rename_i hle;intro _;have hb:(Instr.sliceBounds false n n (lo.map a.eval) (hi.map a.eval) none).run P W=.ok (l.getD 0,h.getD n,n) W:=by
     refine mh false n n _ _ _ _ W ?_ ?_ hle.1 hle.2
     ·rcases ro hr hl with⟨rfl,rfl⟩ | ⟨y,m,k,rfl,rfl,hy⟩
      ·exact .inl ⟨rfl,rfl⟩
      ·exact .inr ⟨k,by simp[hy]⟩
     ·rcases ro hr hh with⟨rfl,rfl⟩ | ⟨y,m,k,rfl,rfl,hy⟩
      ·exact .inl ⟨rfl,rfl⟩
      ·exact .inr ⟨k,by simp[hy]⟩
    simp only[execOp,hop,aw hr.tm hx,SV.den,Instr.sliceAt,Sem.run_bind,run_underlying hu,Result.andThen_ok,Instr.sureAddr,Sem.run_pure,Option.map_none,hb,bF hs,kw]
    split<;>rfl
   ·trivial
  ·trivial
 ·rename_i b off len cap el hx hu
  split
  ·rename_i s l h hs hl hh
   split
   ·rename_i l;intro hc;have c1:0<=l.den e:=(Sb.prop_iff e (.le (.k 0) l)).2 (hc _ (by simp))
    have c2:l.den e<=(h.getD len).den e:=(Sb.prop_iff e (.le l (h.getD len))).2 (hc _ (by simp));have c3:(h.getD len).den e<=cap.den e:=(Sb.prop_iff e (.le (h.getD len) cap)).2 (hc _ (by simp))
    have c4:0<=off.den e:=(Sb.prop_iff e (.le (.k 0) off)).2 (hc _ (by simp));have hb:(Instr.sliceBounds true (len.den e).toNat (cap.den e).toNat (lo.map a.eval) (hi.map a.eval) none).run P W=.ok ((l.den e).toNat,((h.getD len).den e).toNat,(cap.den e).toNat) W:=by
     refine mh true _ _ _ _ _ _ W ?_ ?_ (by omega) (by omega)
     ·rcases nf hr hl with⟨_,h0⟩ | ⟨y,m,k,rfl,h0,hy⟩
      ·cases h0
      ·simp only[Option.some.injEq] at h0;subst h0;exact .inr ⟨k,by rw[Option.map_some,hy];congr 2;omega⟩
     ·rcases nf hr hh with⟨rfl,rfl⟩ | ⟨y,m,k,rfl,rfl,hy⟩
      ·exact .inl ⟨rfl,rfl⟩
      ·simp only[Option.getD_some] at c2 c3;exact .inr ⟨k,by rw[Option.map_some,hy];congr 2;simp only[Option.getD_some];omega⟩
    simp only[execOp,hop,aw hr.tm hx,SV.den,Instr.sliceAt,Instr.slice,Sem.run_bind,run_underlying hu,Result.andThen_ok,Sem.run_pure,Option.map_none,hb,bF hs]
    congr 3
    ·simp only[ab,Sx.den]
     cases hp:(e b).ptr with
     | none=>simp
     | some p =>
      simp only[Option.map_some,Option.map_map,Function.comp]
      by_cases hcl:cap.den e=l.den e
      ·simp[hcl]
      ·have hne:¬(cap.den e).toNat=(l.den e).toNat:=by omega
       obtain⟨q,hq⟩:=Int.eq_ofNat_of_zero_le c1;have:(off.den e+l.den e * (s:Int)).toNat=(off.den e).toNat+(l.den e).toNat * s:=by
        rw[hq,Int.toNat_natCast,<- Int.natCast_mul];omega
       simp[hcl,hne,B6,this]
    ·simp only[Sx.den];omega
    ·simp only[Sx.den];omega
   ·intro hc;have c2:0<=(h.getD len).den e:=(Sb.prop_iff e (.le (.k 0) (h.getD len))).2 (hc _ (by simp))
    have c3:(h.getD len).den e<=cap.den e:=(Sb.prop_iff e (.le (h.getD len) cap)).2 (hc _ (by simp));have hb:(Instr.sliceBounds true (len.den e).toNat (cap.den e).toNat (lo.map a.eval) (hi.map a.eval) none).run P W=.ok (0,((h.getD len).den e).toNat,(cap.den e).toNat) W:=by
     refine mh true _ _ _ _ _ _ W ?_ ?_ (by omega) (by omega)
     ·rcases nf hr hl with⟨rfl,_⟩ | ⟨y,m,k,rfl,h0,hy⟩
      ·exact .inl ⟨rfl,rfl⟩
      ·cases h0
     ·rcases nf hr hh with⟨rfl,rfl⟩ | ⟨y,m,k,rfl,rfl,hy⟩
      ·exact .inl ⟨rfl,rfl⟩
      ·simp only[Option.getD_some] at c2 c3;exact .inr ⟨k,by rw[Option.map_some,hy];congr 2;simp only[Option.getD_some];omega⟩
    simp only[execOp,hop,aw hr.tm hx,SV.den,Instr.sliceAt,Instr.slice,Sem.run_bind,run_underlying hu,Result.andThen_ok,Sem.run_pure,Option.map_none,hb,bF hs]
    congr 3
    simp only[ab]
    cases hp:(e b).ptr with
    | none=>simp
    | some p=>simp
  ·trivial
 ·rename_i v _ _ _ hv _
  split
  ·rename_i l h hl hh;have el:∀{x:Option Operand} {q:Option Sx},iy S x=some q->x.map a.eval=(x.bind (ev S)).map (SV.den ρ e)/\(x.isSome=(x.bind (ev S)).isSome):=λ{x q} hq=>by
    cases x with
    | none=>exact⟨rfl,rfl⟩
    | some y =>
     simp only[iy] at hq
     split at hq
     ·rename_i v hv;simp only[Option.bind_some,hv,Option.map_some,aw hr.tm hv,Option.isSome_some,and_self]
     ·cases hq
   obtain⟨e1,e2⟩:=el hl;obtain⟨e3,e4⟩:=el hh;simp only[ax,execOp,hop,EK.sem,aw hr.tm hv,Option.map_none,e1,e3,nj,SV.dens]
   rw[e2,e4]
   cases lo.bind (ev S)<;>cases hi.bind (ev S)<;>rfl
  ·trivial
 ·trivial
theorem yr(hr:gC S ρ e a){t:Nat}{x i:Operand}{ok:Bool}(hop:o.op=.lookup t x i ok):ax P S ρ e a W o (step P S o):=by
 simp only[step,hop]
 split
 ·rename_i u v hu hv;simp only[ax,execOp,hop,EK.sem,SV.dens,aw hr.tm hu,aw hr.tm hv]
  rfl
 ·trivial
theorem uK{t:Nat}{r:Option Operand}(hop:o.op=.makeMap t r):ax P S ρ e a W o (step P S o):=by
 cases r with
 | none =>
  simp only[step,hop,ax,execOp,EK.sem]
  rfl
 | some r=>simp only[step,hop];trivial
theorem yd(hr:gC S ρ e a){t:Nat}{m k x:Operand}(hop:o.op=.insert t m k x):ax P S ρ e a W o (step P S o):=by
 simp only[step,hop]
 split
 ·rename_i u v w hu hv hw;simp only[ax,execOp,hop,EK.sem,SV.dens,aw hr.tm hu,aw hr.tm hv,aw hr.tm hw]
  rfl
 ·trivial
theorem rG(hr:gC S ρ e a){t:Nat}{x i:Operand}(hop:o.op=.makeSlice t x i):ax P S ρ e a W o (step P S o):=by
 simp only[step,hop]
 split
 ·rename_i n hcl;unfold qe at hcl
  split at hcl
  ·rename_i k1 n1 k2 m1
   split at hcl
   ·rename_i hc;obtain⟨rfl,h0,h64⟩:=hc;simp only[Option.some.injEq] at hcl;subst hcl;unfold Bd
    split
    ·rename_i el hu
     split
     ·rename_i sz zs ii hsz hz hii;obtain⟨n',v,hn',hzs,hzl,hrun⟩:=g8 hz
      split
      ·rename_i hcc;obtain⟨c1,c2,c3⟩:=hcc;have hz0:zs.length=v.cells.size:=by rw[hzs];simp
       have hrow:(SV.dens ρ e (ib (zs.map jh) n1.toNat)).toArray=(Array.range (n1.toNat * sz)).map (λi=>v.cells[i % v.cells.size]!):=by
        apply Array.ext';apply List.ext_getElem?;intro i
        by_cases hi:i<n1.toNat * sz
        ·simp only[im]
         rw[mw _ (by simp;omega) n1.toNat i (by simp;rw[<- c1];exact hi)];have hm:i % v.cells.size<v.cells.size:=Nat.mod_lt _ (by omega)
         simp[hi,hzs,List.getElem?_map,Array.getElem?_eq_getElem hm,ma,getElem!_pos,hm]
        ·rw[List.getElem?_eq_none (by rw[bA,mr];simp;rw[<- c1];omega),List.getElem?_eq_none (by simp;omega)]
       have hne:¬n1.toNat * sz=0:=by
        intro h
        rcases Nat.mul_eq_zero.1 h with h | h<;>omega
       have hw:IntKind.i64.wrap n1=n1:=by rw[IntKind.wrap_i64];omega
       have hti:(typeInfo el).run P W=.ok ii W:=by simp[typeInfo,hii]
       have hb:¬((ii.bytes:Int) * n1>2 ^ 48):=by
        have h1:(ii.bytes:Int) * n1<=65536 * 64:=Int.mul_le_mul (by omega) h64 (by omega) (by omega);omega
       have hai:∀(k:IntKind) (n:Int),(asIntOf (Value.int k n)).run P W=.ok (k,n) W:=λ_ _=>rfl;simp only[ax,execOp,hop,Act.eval,Instr.makeSlice,asInt,Sem.run_bind,run_underlying hu,Result.andThen_ok,Sem.run_pure,hai,hti,hw]
       rw[if_neg (by simp only[Bool.or_eq_true,decide_eq_true_eq];omega)];simp only[Sem.run_bind,run_askRoom,Result.andThen_ok,bF hsz]
       rw[if_neg hne];simp only[Sem.run_bind,hrun,Result.andThen_ok,Sem.run_pure]
       rw[<- hrow];simp[newRow]
      ·trivial
     ·trivial
    ·trivial
   ·cases hcl
  ·cases hcl
 ·split
  ·rename_i u v hu hv;simp only[ax,execOp,hop,EK.sem,SV.dens,aw hr.tm hu,aw hr.tm hv]
   rfl
  ·trivial
theorem ny(hr:gC S ρ e a){t:Nat}{x:Operand}(hop:o.op=.makeInterface t x):ax P S ρ e a W o (step P S o):=by
 simp only[step,hop]
 split
 ·rename_i u hu;simp only[ax,execOp,hop,EK.sem,SV.dens,aw hr.tm hu]
  rfl
 ·trivial
theorem td(b:Builtin)(hb:b≠.print/\b≠.println)(ats:Array Nat)(ty:Nat)(c c':Array Bool)(args:Array Value):builtin b ats ty c args=builtin b ats ty c' args:=by
 cases b<;>simp_all [builtin]
theorem BV(hr:gC S ρ e a){c:Call}(hop:o.op=.call c):ax P S ρ e a W o (step P S o):=by
 have hbi:∀{b:Builtin} {as:List SV} {q:Nat} {tt:Bool} {r:Option Nat},b≠.print/\b≠.println->c.callee=.builtin b->evs S c.args.toList=some as->ax P S ρ e a W o (.esc (.bi b c.argTypes o.type) as r tt):=λ{b as q tt r} hb hc has=>by
  have h1:=ki hr.tm has;simp only[ax,execOp,hop,resolve,hc,Sem.run_bind,Sem.run_pure,Result.andThen_ok,EK.sem,<- h1,invoke]
  rw[td b hb _ _ _ #[]];have he:c.args.map a.eval=(List.map a.eval c.args.toList).toArray:=by
   apply Array.ext';simp
  rw[he]
 simp only[step,hop]
 split
 ·rename_i f as hc has
  split
  ·rename_i g first capt hf
   split
   ·rename_i fn hfn;have h1:=ki hr.tm has
    have h2:(execOp a.eval o).run P W=(callFunc g ((SV.dens ρ e (first++as++capt)).toArray)).run P W:=by
     simp only[execOp,hop,resolve,hc,Deferred.ofValue,aw hr.tm hf,SV.den,Sem.run_bind,Sem.run_pure,Result.andThen_ok,invoke,nj,<- h1]
     congr 2
     apply Array.ext';simp
    split
    ·rename_i hb;rw[ax,h2];obtain⟨b,hbb⟩:=Option.isSome_iff_exists.1 hb.1;simp[callFunc,hfn,hb.2,hbb]
    ·rw[ax,h2];rfl
   ·trivial
  ·trivial
 ·rename_i as hc has;have h1:=ki hr.tm has
  have hlen:∀t (v:Value),c.argTypes[0]?=some t->SV.dens ρ e as = [v]->(execOp a.eval o).run P W=(do pure (.value (<- Builtin.len_ c.argTypes o.type #[v])):Sem Next).run P W:=λt v ht hv=>by
   simp only[execOp,hop,resolve,hc,Sem.run_bind,Sem.run_pure,Result.andThen_ok,invoke,builtin]
   have:c.args.map a.eval=#[v]:=by
    apply Array.ext';simp only[Array.toList_map,h1,hv]
   rw[this]
  have hat:∀{d:TypeDesc},c.argTypes[0]?.bind P.underlying=some d->∃t,c.argTypes[0]?=some t/\P.underlying t=some d:=λ{d} h=>by
   simpa [Option.bind_eq_some_iff] using h
  split
  ·rename_i hu;intro _;obtain⟨t,ht,hut⟩:=hat hu;rw[hlen t _ ht rfl];simp[Builtin.len_,ht,run_underlying hut,SV.den,goInt,Sx.den]
  ·rename_i hu;intro hcc;obtain⟨t,ht,hut⟩:=hat hu;rename_i n _ _;have c1:0<=n.den e:=(Sb.prop_iff e (.le (.k 0) n)).2 (hcc _ (by simp))
   rw[hlen t _ ht rfl];have:((n.den e).toNat:Int)=n.den e:=by omega
   simp[Builtin.len_,ht,run_underlying hut,SV.den,goInt,this]
  ·rename_i hu;intro _;obtain⟨t,ht,hut⟩:=hat hu;rw[hlen t _ ht rfl];simp[Builtin.len_,ht,run_underlying hut,SV.den,goInt,Sx.den]
  ·rename_i hu;intro _;obtain⟨t,ht,hut⟩:=hat hu;rw[hlen t _ ht rfl];simp[Builtin.len_,ht,run_underlying hut,SV.den,goInt,Sx.den]
  ·rename_i hu;intro _;obtain⟨t,ht,hut⟩:=hat hu;rw[hlen t _ ht rfl];simp[Builtin.len_,ht,run_underlying hut,SV.den,goInt,Sx.den]
  ·exact hbi (by simp) hc has (q:=0)
 ·rename_i k p k' q hc has;have h1:=ki hr.tm has
  split
  ·rename_i hk;subst hk;intro _;simp only[execOp,hop,resolve,hc,Sem.run_bind,Sem.run_pure,Result.andThen_ok,invoke,builtin]
   have:c.args.map a.eval=#[.int k (p.den e),.int k (q.den e)]:=by
    apply Array.ext';simp only[Array.toList_map,h1,SV.dens,SV.den]
   rw[this];simp[Builtin.min_,Builtin.min2,SV.den,Sx.den]
  ·trivial
 ·rename_i k p k' q hc has;have h1:=ki hr.tm has
  split
  ·rename_i hk;subst hk;intro _;simp only[execOp,hop,resolve,hc,Sem.run_bind,Sem.run_pure,Result.andThen_ok,invoke,builtin]
   have:c.args.map a.eval=#[.int k (p.den e),.int k (q.den e)]:=by
    apply Array.ext';simp only[Array.toList_map,h1,SV.dens,SV.den]
   rw[this];simp[Builtin.max_,Builtin.max2,SV.den,Sx.den]
  ·trivial
 ·rename_i as hc has;exact hbi (by simp) hc has (q:=0)
 ·rename_i as hc has;exact hbi (by simp) hc has (q:=0)
 ·rename_i as hc has;exact hbi (by simp) hc has (q:=0)
 ·rename_i as hc has;exact hbi (by simp) hc has (q:=0)
 ·rename_i as hc has;exact hbi (by simp) hc has (q:=0)
 ·rename_i as hc has;exact hbi (by simp) hc has (q:=0)
 ·trivial
theorem hU(hr:gC S ρ e a):ax P S ρ e a W o (step P S o):=by
 cases hop:o.op with
 | move x=>exact xe hr (.inl hop)
 | assign x=>exact xe hr (.inr hop)
 | pick c x y=>exact CL hr hop
 | alloc t=>exact AR hop
 | box t x=>exact ES hr hop
 | build t p=>exact A4 hr hop
 | buildSlice t n p=>exact qv hr hop
 | load t x=>exact w8 hr hop
 | store t x y=>exact zS hr hop
 | nilCheck x=>exact tr hr hop
 | binOp op t x y ty=>exact Ao hr hop
 | unOp op t x=>exact C2 hr hop
 | convert s d x=>exact vz hr hop
 | fieldAddr t x f=>exact rU hr hop
 | field t x f=>exact Bi hr hop
 | indexAddr t x i=>exact rI hr hop
 | index t x i=>exact Ar hr hop
 | extract x i=>exact uJ hr hop
 | makeFunc f x y=>exact tH hr hop
 | slice t x lo hi mx=>exact Bw hr hop
 | lookup t x i ok=>exact yr hr hop
 | makeMap t r=>exact uK hop
 | insert t m k x=>exact yd hr hop
 | makeSlice t l c=>exact rG hr hop
 | makeInterface t x=>exact ny hr hop
 | call c=>exact BV hr hop
 | _=>simp only[step,hop];trivial
end
end Go.Proofs.YtfpmcmhihhnfgaaGreatDoor
