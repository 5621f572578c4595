/- Nodes and groups, as the document says it, over plain data. No conditions. -/
import Derived.Test.YtfpmcmhihhnfgaaGreatDoorKP1
set_option linter.unusedVariables false
set_option linter.unusedSimpArgs false
namespace Go.Proofs.YtfpmcmhihhnfgaaGreatDoor
open Go.RowKit
def cw(b:Sta)(l:List Ent)(s:Sta):Bool:=decide (s.pos-b.pos<0)||(decide (s.pos-b.pos<=(l.length:Int))&&decide (aC b (l.take (s.pos-b.pos).toNat)=s))
def mU(b:Sta)(l:List Ent)(s:Sta):Int:=if aY b l≠0 then aY b l else s.err
def nAt(b s:Sta):Sta:=if s.pos<b.pos then b else s
def nOf(b s:Sta):Nat:=((nAt b s).pos-b.pos).toNat
def fe(b:Sta)(l:List Ent)(s:Sta)(n:Int):List Ent:=(l.drop (nOf b s)).take n.toNat
def gD(b:Sta)(l:List Ent)(s:Sta)(n:Int):Sta × Int × Int :=
 if mU b l s≠0 then (Sta.zero,0,mU b l s) else if n<0\/50<n then (Sta.zero,0,3) else if cw b l s=false then (Sta.zero,0,1)
 else (aC (nAt b s) (fe b l s n),(((fe b l s n).length:Nat):Int),0)
section
variable{b s:Sta}{l:List Ent}{n:Int}
theorem m6:mU b l s=0↔gT b l/\dy s:=by
 unfold mU;rw[<- bG,<- Sta.err_ok]
 split
 ·rename_i h;exact⟨λhh=>absurd hh h,λhh=>absurd hh.1 h⟩
 ·rename_i h;exact⟨λhh=>⟨by omega,hh⟩,λhh=>hh.2⟩
theorem uh(h:aY b l≠0):mU b l s=aY b l:=if_pos h
theorem wX(h:aY b l=0):mU b l s=s.err:=if_neg (by omega)
theorem pL(h:mU b l s≠0):gD b l s n=(Sta.zero,0,mU b l s):=if_pos h
theorem ji(h:mU b l s=0)(h1:n<0\/50<n):gD b l s n=(Sta.zero,0,3):=by unfold gD;rw[if_neg (by omega),if_pos h1]
theorem pS(h:mU b l s=0)(h1:¬(n<0\/50<n))(h2:cw b l s=false):gD b l s n=(Sta.zero,0,1):=by unfold gD;rw[if_neg (by omega),if_neg h1,if_pos h2]
theorem oO(h:mU b l s=0)(h1:¬(n<0\/50<n))(h2:cw b l s=true):gD b l s n=(aC (nAt b s) (fe b l s n),(((fe b l s n).length:Nat):Int),0):=by
 unfold gD;rw[if_neg (by omega),if_neg h1,if_neg (by rw[h2];simp)]
theorem mY(h:s.pos-b.pos<0):cw b l s=true:=by simp[cw,h]
theorem kJ(h:(l.length:Int)<s.pos-b.pos):cw b l s=false:=by
 unfold cw;rw[decide_eq_false (by omega),decide_eq_false (by omega)];rfl
theorem gx(h:¬s.pos-b.pos<0)(h1:s.pos-b.pos<=(l.length:Int)):cw b l s=decide (aC b (l.take (s.pos-b.pos).toNat)=s):=by
 unfold cw;rw[decide_eq_false h,decide_eq_true h1];simp
theorem qf(ho:gT b l)(hf:cw b l s=true):nOf b s<=l.length/\nAt b s=aC b (l.take (nOf b s))/\(nAt b s).pos=b.pos+nOf b s:=by
 unfold nOf nAt
 by_cases h:s.pos<b.pos
 ·rw[if_pos h,Int.sub_self];exact⟨Nat.zero_le _,rfl,by simp⟩
 ·rw[if_neg h]
  by_cases h1:s.pos-b.pos<=(l.length:Int)
  ·rw[gx (by omega) h1] at hf;exact⟨by omega,(of_decide_eq_true hf).symm,by omega⟩
  ·rw[kJ (by omega)] at hf;cases hf
theorem v7(ho:gT b l){k:Nat}(hk:k<=l.length):cw b l (aC b (l.take k))=true:=by
 obtain⟨_,h2,_⟩:=ho.cut hk;rw[gx (by omega) (by omega),h2,show (b.pos+(k:Int)-b.pos).toNat=k by omega];exact decide_eq_true rfl
def nTo(b:Sta)(l:List Ent)(s:Sta)(n:Int):Nat:=nOf b s+(fe b l s n).length
theorem Ey:nTo b l s n=nOf b s+min n.toNat (l.length-nOf b s):=by unfold nTo fe;rw[List.length_take,List.length_drop]
theorem xP(ho:gT b l)(hs:dy s)(h1:¬(n<0\/50<n))(hf:cw b l s=true):nTo b l s n<=l.length/\gD b l s n=(aC b (l.take (nTo b l s n)),(nTo b l s n:Int)-nOf b s,0):=by
 obtain⟨a1,a2,a3⟩:=qf ho hf;have e1:=Ey (b:=b) (l:=l) (s:=s) (n:=n)
 refine⟨by omega,?_⟩;rw[oO (m6.2 ⟨ho,hs⟩) h1 hf];have e2:aC (nAt b s) (fe b l s n)=aC b (l.take (nTo b l s n)):=by
  rw[a2,<- iF,e1,List.take_add]
  congr 2
  unfold fe
  rcases Nat.le_total n.toNat (l.length-nOf b s) with h | h
  ·rw[Nat.min_eq_left h]
  ·rw[Nat.min_eq_right h,List.take_of_length_le (by rw[List.length_drop];exact h),List.take_of_length_le (by rw[List.length_drop];exact Nat.le_refl _)]
 rw[e2];simp only[nTo]
 congr 2
 omega
theorem CV(ho:gT b l){k:Nat}(hk:k<=l.length):dy (aC b (l.take k)):=(ho.cut hk).1.base
theorem oh(ho:gT b l){k:Nat}(hk:k<=l.length)(hf:cw b l s=true):cw (aC b (l.take k)) (l.drop k) s=true:=by
 obtain⟨o1,h2,_⟩:=ho.cut hk
 by_cases h:s.pos-(aC b (l.take k)).pos<0
 ·exact mY h
 ·have h0:¬s.pos-b.pos<0:=by omega
  have h1:s.pos-b.pos<=(l.length:Int):=by
   by_cases h1:s.pos-b.pos<=(l.length:Int)
   ·exact h1
   ·rw[kJ (by omega)] at hf;cases hf
  rw[gx h0 h1] at hf;rw[gx h (by rw[List.length_drop];omega),<- iF];have e:(s.pos-b.pos).toNat=k+(s.pos-(aC b (l.take k)).pos).toNat:=by omega
  rw[e,List.take_add] at hf;exact hf
theorem nY(hf:cw b l s=true)(e:Ent):cw b (l ++ [e]) s=true:=by
 by_cases h:s.pos-b.pos<0
 ·exact mY h
 ·have h1:s.pos-b.pos<=(l.length:Int):=by
   by_cases h1:s.pos-b.pos<=(l.length:Int)
   ·exact h1
   ·rw[kJ (by omega)] at hf;cases hf
  rw[gx h h1] at hf;rw[gx h (by simp;omega),List.take_append_of_le_length (by omega)];exact hf
end
structure Grp where
 base:Sta
 tail:List Ent
 n0:Sta
 n1:Sta
 n2:Sta
def Grp.node(g:Grp)(k:Nat):Sta:=if k=0 then g.n0 else if k=1 then g.n1 else g.n2
def Grp.set(g:Grp)(k:Nat)(s:Sta):Grp:=if k=0 then { g with n0:=s } else if k=1 then { g with n1:=s } else { g with n2:=s }
def Grp.zero:Grp:=⟨Sta.zero,[],Sta.zero,Sta.zero,Sta.zero⟩
def jn(b:Sta)(l:List Ent)(s:Sta):Int:=if s.err≠0 then s.err else if cw b l s=false then 1 else 0
def fT(g:Grp):Int :=
 if aY g.base g.tail≠0 then aY g.base g.tail
 else if jn g.base g.tail g.n0≠0 then jn g.base g.tail g.n0
 else if jn g.base g.tail g.n1≠0 then jn g.base g.tail g.n1
 else jn g.base g.tail g.n2
structure aQ(g:Grp):Prop where
 log:gT g.base g.tail
 ok0:dy g.n0
 ok1:dy g.n1
 ok2:dy g.n2
 fit0:cw g.base g.tail g.n0=true
 fit1:cw g.base g.tail g.n1=true
 fit2:cw g.base g.tail g.n2=true
theorem lB{b s:Sta}{l:List Ent}:jn b l s=0↔dy s/\cw b l s=true:=by
 unfold jn;rw[<- Sta.err_ok]
 by_cases h:s.err=0
 ·rw[if_neg (by omega)]
  cases cw b l s<;>simp[h]
 ·rw[if_pos h];exact⟨λhh=>absurd hh h,λhh=>absurd hh.1 h⟩
theorem cn{g:Grp}:fT g=0↔aQ g:=by
 unfold fT;constructor
 ·intro h
  by_cases h0:aY g.base g.tail=0
  ·rw[if_neg (by omega)] at h
   by_cases h1:jn g.base g.tail g.n0=0
   ·rw[if_neg (by omega)] at h
    by_cases h2:jn g.base g.tail g.n1=0
    ·rw[if_neg (by omega)] at h;obtain⟨a1,a2⟩:=lB.1 h1;obtain⟨b1,b2⟩:=lB.1 h2;obtain⟨c1,c2⟩:=lB.1 h;exact⟨bG.1 h0,a1,b1,c1,a2,b2,c2⟩
    ·rw[if_pos h2] at h;exact absurd h h2
   ·rw[if_pos h1] at h;exact absurd h h1
  ·rw[if_pos h0] at h;exact absurd h h0
 ·intro h;have h0:=bG.2 h.log
  have h1:=lB.2 ⟨h.ok0,h.fit0⟩;have h2:=lB.2 ⟨h.ok1,h.fit1⟩
  have h3:=lB.2 ⟨h.ok2,h.fit2⟩;rw[if_neg (by omega),if_neg (by omega),if_neg (by omega)];exact h3
theorem aQ.node{g:Grp}(h:aQ g)(k:Nat):dy (g.node k)/\cw g.base g.tail (g.node k)=true:=by
 unfold Grp.node
 split
 ·exact⟨h.ok0,h.fit0⟩
 ·split
  ·exact⟨h.ok1,h.fit1⟩
  ·exact⟨h.ok2,h.fit2⟩
def gQ(g:Grp)(e:Ent):Grp × Int × Int :=
 if fT g≠0 then (Grp.zero,0,fT g)
 else if (gS g.base g.tail e).2.2.2≠0 then (Grp.zero,0,(gS g.base g.tail e).2.2.2)
 else ({ g with base:=(gS g.base g.tail e).1,tail:=(gS g.base g.tail e).2.1 },(gS g.base g.tail e).2.2.1,0)
def iC(g:Grp)(k n:Int):Grp × Int × Int :=
 if fT g≠0 then (Grp.zero,0,fT g) else if k<0\/2<k then (Grp.zero,0,3)
 else if (gD g.base g.tail (g.node k.toNat) n).2.2≠0 then (Grp.zero,0,(gD g.base g.tail (g.node k.toNat) n).2.2)
 else (g.set k.toNat (gD g.base g.tail (g.node k.toNat) n).1,(gD g.base g.tail (g.node k.toNat) n).2.1,0)
def kG(g:Grp)(n:Int):Grp × Int :=
 if fT g≠0 then (Grp.zero,fT g) else if (jP g.base g.tail n).2.2≠0 then (Grp.zero,(jP g.base g.tail n).2.2)
 else ({ g with base:=(jP g.base g.tail n).1,tail:=(jP g.base g.tail n).2.1 },0)
section
variable{g:Grp}{e:Ent}
theorem sU(h:fT g≠0):gQ g e=(Grp.zero,0,fT g):=if_pos h
theorem lc(h:fT g=0)(h1:(gS g.base g.tail e).2.2.2≠0):gQ g e=(Grp.zero,0,(gS g.base g.tail e).2.2.2):=by unfold gQ;rw[if_neg (by omega),if_pos h1]
theorem mJ(h:fT g=0)(h1:(gS g.base g.tail e).2.2.2=0):gQ g e=({ g with base:=(gS g.base g.tail e).1,tail:=(gS g.base g.tail e).2.1 },(gS g.base g.tail e).2.2.1,0):=by unfold gQ;rw[if_neg (by omega),if_neg (by omega)]
theorem tG{k n:Int}(h:fT g≠0):iC g k n=(Grp.zero,0,fT g):=if_pos h
theorem lr{k n:Int}(h:fT g=0)(h1:k<0\/2<k):iC g k n=(Grp.zero,0,3):=by unfold iC;rw[if_neg (by omega),if_pos h1]
theorem ie{k n:Int}(h:fT g=0)(h1:¬(k<0\/2<k))(h2:(gD g.base g.tail (g.node k.toNat) n).2.2≠0):iC g k n=(Grp.zero,0,(gD g.base g.tail (g.node k.toNat) n).2.2):=by unfold iC;rw[if_neg (by omega),if_neg h1,if_pos h2]
theorem km{k n:Int}(h:fT g=0)(h1:¬(k<0\/2<k))(h2:(gD g.base g.tail (g.node k.toNat) n).2.2=0):iC g k n=(g.set k.toNat (gD g.base g.tail (g.node k.toNat) n).1,(gD g.base g.tail (g.node k.toNat) n).2.1,0):=by unfold iC;rw[if_neg (by omega),if_neg h1,if_neg (by omega)]
theorem sG{n:Int}(h:fT g≠0):kG g n=(Grp.zero,fT g):=if_pos h
theorem mC{n:Int}(h:fT g=0)(h1:(jP g.base g.tail n).2.2≠0):kG g n=(Grp.zero,(jP g.base g.tail n).2.2):=by unfold kG;rw[if_neg (by omega),if_pos h1]
theorem sw{n:Int}(h:fT g=0)(h1:(jP g.base g.tail n).2.2=0):kG g n=({ g with base:=(jP g.base g.tail n).1,tail:=(jP g.base g.tail n).2.1 },0):=by unfold kG;rw[if_neg (by omega),if_neg (by omega)]
theorem DB(h:aQ g)(he:(gQ g e).2.2=0):aQ (gQ g e).1:=by
 have h0:=cn.2 h;have l0:=bG.2 h.log
 by_cases h1:(gS g.base g.tail e).2.2.2=0
 ·rw[mJ h0 h1]
  by_cases g1:e.err=0
  ·by_cases g2:g.base.pos+(g.tail.length:Int)=50
   ·rw[iU l0 g1 g2] at h1;cases h1
   ·rw[lC l0 g1 g2];exact⟨h.log.put (Ent.err_ok.1 g1) g2,h.ok0,h.ok1,h.ok2,nY h.fit0 e,nY h.fit1 e,nY h.fit2 e⟩
  ·rw[jH l0 g1] at h1;exact absurd h1 g1
 ·rw[lc h0 h1] at he;exact absurd he h1
theorem qY(h:aQ g){k n:Int}(hk:¬(k<0\/2<k))(hn:¬(n<0\/50<n)) :
  iC g k n=(g.set k.toNat (aC g.base (g.tail.take (nTo g.base g.tail (g.node k.toNat) n))),(nTo g.base g.tail (g.node k.toNat) n:Int)-nOf g.base (g.node k.toNat),0)/\aQ (iC g k n).1:=by
 obtain⟨a1,a2⟩:=h.node k.toNat
 obtain⟨b1,b2⟩:=xP h.log a1 hn a2;have e1:=km (cn.2 h) hk (k:=k) (n:=n) (by rw[b2])
 rw[b2] at e1;refine⟨e1,?_⟩;rw[e1];have o1:=CV h.log b1
 have f1:=v7 h.log b1;unfold Grp.set
 split
 ·exact⟨h.log,o1,h.ok1,h.ok2,f1,h.fit1,h.fit2⟩
 ·split
  ·exact⟨h.log,h.ok0,o1,h.ok2,h.fit0,f1,h.fit2⟩
  ·exact⟨h.log,h.ok0,h.ok1,o1,h.fit0,h.fit1,f1⟩
theorem qW(h:aQ g){k:Nat}(hk:k<=g.tail.length):kG g k=({ g with base:=aC g.base (g.tail.take k),tail:=g.tail.drop k },0)/\aQ (kG g k).1:=by
 have l1:=sy (bG.2 h.log) (n:=(k:Int)) (by omega);rw[Int.toNat_natCast] at l1;have e1:=sw (cn.2 h) (n:=(k:Int)) (by rw[l1])
 rw[l1] at e1;refine⟨e1,?_⟩;rw[e1];exact⟨(h.log.cut hk).1,h.ok0,h.ok1,h.ok2,oh h.log hk h.fit0,oh h.log hk h.fit1,oh h.log hk h.fit2⟩
end
set_option maxRecDepth 100000
set_option maxHeartbeats 4000000
theorem uu(x0 x1 x2 x3 x4 x5:Int)(x6:OL)(x7 x8:Nat)(x9:OL)(c0 c1:Nat)(c2 c3 c4 c5 c6 c7:Int)(c8:OL)(c9 cA:Nat):Xw 125 #[vg #[vi x0,vi x1,vi x2,vi x3,vi x4,vi x5,vsl x6 x7 x8,vsl x9 c0 c1],vg #[vi c2,vi c3,vi c4,vi c5,vi c6,vi c7,vsl c8 c9 cA]] λ_ H0 _ _ C _ T=>(∀b0:Nat,(∀b1:Nat,(Ck (ae .i64 (c2-x0)) (It ((c2-x0)<0) (T H0 nK (vb (true))) (Ck (0<=(c0:Int)) (It ((c2-x0)<=(c0:Int)) (Ck (0<=(c2-x0)) (Ck ((c2-x0)<=(c1:Int)) (C H0 nK 116 #[vg #[vi x0,vi x1,vi x2,vi x3,vi x4,vi x5,vsl x6 x7 x8],vsl x9 ((c2-x0):Int).toNat c1] λz W1 W2=>∃(cB cC cD cE cF cG:Int) (cH:OL) (cI cJ:Nat),let u0:=#[vi cB,vi cC,vi cD,vi cE,vi cF,vi cG,vsl cH cI cJ];z=.returned (vg u0)/\Fr W1 W2 H0 λH1=>(C H1 nK 147 #[vg u0,vg #[vi c2,vi c3,vi c4,vi c5,vi c6,vi c7,vsl c8 c9 cA]] λz W3 W4=>∃cK:Bool,z=.returned (vb (cK))/\Ext W3 W4/\T H1 nK (vb (cK)))))) (T H0 nK (vb (false))))))))) :=
 Xa (hi:={}) (args := [.agg [vI 0,vI 1,vI 2,vI 3,vI 4,vI 5,vS 6,vS 9],.agg [vI 12,vI 13,vI 14,vI 15,vI 16,vI 17,vS 18]]) (nv:=21) (e:=lk [.i x0,.i x1,.i x2,.i x3,.i x4,.i x5,.p x6,.n x7,.n x8,.p x9,.n c0,.n c1,.i c2,.i c3,.i c4,.i c5,.i c6,.i c7,.p c8,.n c9,.n cA]) Tryz.func125
theorem CI(x0 x1 x2 x3 x4 x5:Int)(x6:OL)(x7 x8:Nat)(x9:OL)(c0 c1:Nat)(c2 c3 c4 c5 c6 c7:Int)(c8:OL)(c9 cA:Nat):Xw 124 #[vg #[vi x0,vi x1,vi x2,vi x3,vi x4,vi x5,vsl x6 x7 x8,vsl x9 c0 c1],vg #[vi c2,vi c3,vi c4,vi c5,vi c6,vi c7,vsl c8 c9 cA]] λ_ H0 _ _ C _ T=>(∀b0:Nat,(∀b1:Nat,(C H0 nK 113 #[vg #[vi x0,vi x1,vi x2,vi x3,vi x4,vi x5,vsl x6 x7 x8,vsl x9 c0 c1]] λz W1 W2=>∃cB:Int,z=.returned (vi cB)/\Ext W1 W2/\(It (cB=0) (C H0 nK 139 #[vg #[vi c2,vi c3,vi c4,vi c5,vi c6,vi c7,vsl c8 c9 cA]] λz W3 W4=>∃cC:Int,z=.returned (vi cC)/\Ext W3 W4/\T H0 nK (vi cC)) (T H0 nK (vi cB)))))) :=
 Xa (hi:={}) (args := [.agg [vI 0,vI 1,vI 2,vI 3,vI 4,vI 5,vS 6,vS 9],.agg [vI 12,vI 13,vI 14,vI 15,vI 16,vI 17,vS 18]]) (nv:=21) (e:=lk [.i x0,.i x1,.i x2,.i x3,.i x4,.i x5,.p x6,.n x7,.n x8,.p x9,.n c0,.n c1,.i c2,.i c3,.i c4,.i c5,.i c6,.i c7,.p c8,.n c9,.n cA]) Tryz.func124
theorem xz(x0 x1 x2 x3 x4 x5:Int)(x6:OL)(x7 x8:Nat)(x9:OL)(c0 c1:Nat)(c2 c3 c4 c5 c6 c7:Int)(c8:OL)(c9 cA:Nat)(cB:Int):Xw 95 #[vg #[vi x0,vi x1,vi x2,vi x3,vi x4,vi x5,vsl x6 x7 x8,vsl x9 c0 c1],vg #[vi c2,vi c3,vi c4,vi c5,vi c6,vi c7,vsl c8 c9 cA],vi cB] λ_ H0 _ _ C _ T=>let u4:=#[vi c2,vi c3,vi c4,vi c5,vi c6,vi c7,vsl c8 c9 cA];let u3:=#[vi 0,vi 0,vi 0,vi 0,vi 0,vi 0,Value.slice none 0 0];let u0:=#[vg #[vi x0,vi x1,vi x2,vi x3,vi x4,vi x5,vsl x6 x7 x8,vsl x9 c0 c1],vg u4];(∀b0:Nat,(∀b1:Nat,(∀b2:Nat,(C H0 nK 124 u0 λz W1 W2=>∃cC:Int,z=.returned (vi cC)/\Ext W1 W2/\(It (cC=0) (It (cB<0) (T H0 nK (vt #[vg u3,vi 0,vi 3])) (It (50<cB) (T H0 nK (vt #[vg u3,vi 0,vi 3])) (C H0 nK 125 u0 λz W3 W4=>∃cD:Bool,z=.returned (vb (cD))/\Ext W3 W4/\(It (cD=true) (It (c2<x0) (Ck (ae .i64 (x0-x0)) (Ck (0<=(x0-x0)) (Ck ((x0-x0)<=(c0:Int)) (Ck ((c0:Int)<=(c1:Int)) (Ck (0<=((c0:Int)-(x0-x0))) (Ck (0<=(if ((c0:Int)-(x0-x0))<cB then ((c0:Int)-(x0-x0)) else cB)) (Ck ((if ((c0:Int)-(x0-x0))<cB then ((c0:Int)-(x0-x0)) else cB)<=((c1:Int)-(x0-x0))) (C H0 nK 116 #[vg #[vi x0,vi x1,vi x2,vi x3,vi x4,vi x5,vsl x6 x7 x8],Value.slice (ab x9 (0+(if (c1:Int)=(x0-x0) then 0 else (x0-x0) * ((9:Nat):Int)))) ((if ((c0:Int)-(x0-x0))<cB then ((c0:Int)-(x0-x0)) else cB):Int).toNat (((c1:Int)-(x0-x0)):Int).toNat] λz W5 W6=>∃(cE cF cG cH cI cJ:Int) (cK:OL) (cL cM:Nat),let u2:=#[vi cE,vi cF,vi cG,vi cH,vi cI,vi cJ,vsl cK cL cM];z=.returned (vg u2)/\Fr W5 W6 H0 λH1=>T H1 nK (vt #[vg u2,vi (if ((c0:Int)-(x0-x0))<cB then ((c0:Int)-(x0-x0)) else cB),vi 0]))))))))) (Ck (ae .i64 (c2-x0)) (Ck (0<=(c2-x0)) (Ck ((c2-x0)<=(c0:Int)) (Ck ((c0:Int)<=(c1:Int)) (Ck (0<=((c0:Int)-(c2-x0))) (Ck (0<=(if ((c0:Int)-(c2-x0))<cB then ((c0:Int)-(c2-x0)) else cB)) (Ck ((if ((c0:Int)-(c2-x0))<cB then ((c0:Int)-(c2-x0)) else cB)<=((c1:Int)-(c2-x0))) (C H0 nK 116 #[vg u4,Value.slice (ab x9 (0+(if (c1:Int)=(c2-x0) then 0 else (c2-x0) * ((9:Nat):Int)))) ((if ((c0:Int)-(c2-x0))<cB then ((c0:Int)-(c2-x0)) else cB):Int).toNat (((c1:Int)-(c2-x0)):Int).toNat] λz W5 W6=>∃(cE cF cG cH cI cJ:Int) (cK:OL) (cL cM:Nat),let u1:=#[vi cE,vi cF,vi cG,vi cH,vi cI,vi cJ,vsl cK cL cM];z=.returned (vg u1)/\Fr W5 W6 H0 λH1=>T H1 nK (vt #[vg u1,vi (if ((c0:Int)-(c2-x0))<cB then ((c0:Int)-(c2-x0)) else cB),vi 0])))))))))) (T H0 nK (vt #[vg u3,vi 0,vi 1])))))) (T H0 nK (vt #[vg u3,vi 0,vi cC]))))))) :=
 Xa (hi:={}) (args := [.agg [vI 0,vI 1,vI 2,vI 3,vI 4,vI 5,vS 6,vS 9],.agg [vI 12,vI 13,vI 14,vI 15,vI 16,vI 17,vS 18],vI 21]) (nv:=22) (e:=lk [.i x0,.i x1,.i x2,.i x3,.i x4,.i x5,.p x6,.n x7,.n x8,.p x9,.n c0,.n c1,.i c2,.i c3,.i c4,.i c5,.i c6,.i c7,.p c8,.n c9,.n cA,.i cB]) Tryz.func95
theorem Dh(x0 x1 x2 x3 x4 x5:Int)(x6:OL)(x7 x8:Nat)(x9:OL)(c0 c1:Nat)(c2 c3 c4 c5 c6 c7:Int)(c8:OL)(c9 cA:Nat):Xw 77 #[vg #[vi x0,vi x1,vi x2,vi x3,vi x4,vi x5,vsl x6 x7 x8,vsl x9 c0 c1],vg #[vi c2,vi c3,vi c4,vi c5,vi c6,vi c7,vsl c8 c9 cA]] λ_ H0 _ _ C _ T=>(∀b0:Nat,(∀b1:Nat,(Ck (ae .i64 (c2-x0)) (It ((c2-x0)<0) (T H0 nK (vb (true))) (Ck (0<=(c0:Int)) (It ((c0:Int)<(c2-x0)) (T H0 nK (vb (false))) (Ck (0<=(c2-x0)) (Ck ((c2-x0)<=(c1:Int)) (C H0 nK 79 #[vg #[vi x0,vi x1,vi x2,vi x3,vi x4,vi x5,vsl x6 x7 x8],vsl x9 ((c2-x0):Int).toNat c1] λz W1 W2=>∃(cB cC cD cE cF cG:Int) (cH:OL) (cI cJ:Nat) (cK:OL) (cL cM:Nat) (cN:OL) (cO cP:Nat),let u0:=#[vi cB,vi cC,vi cD,vi cE,vi cF,vi cG,vsl cH cI cJ];z=.returned (vt #[vg u0,vsl cK cL cM,vsl cN cO cP])/\Fr W1 W2 H0 λH1=>(∀b2:Nat,(C H1 nK 102 #[vg u0,vg #[vi c2,vi c3,vi c4,vi c5,vi c6,vi c7,vsl c8 c9 cA]] λz W3 W4=>∃cQ:Bool,z=.returned (vb (cQ))/\Ext W3 W4/\T H1 nK (vb (cQ))))))))))))) :=
 Xa (hi:={}) (args := [.agg [vI 0,vI 1,vI 2,vI 3,vI 4,vI 5,vS 6,vS 9],.agg [vI 12,vI 13,vI 14,vI 15,vI 16,vI 17,vS 18]]) (nv:=21) (e:=lk [.i x0,.i x1,.i x2,.i x3,.i x4,.i x5,.p x6,.n x7,.n x8,.p x9,.n c0,.n c1,.i c2,.i c3,.i c4,.i c5,.i c6,.i c7,.p c8,.n c9,.n cA]) Tryz.func77
theorem tJ(x0 x1 x2 x3 x4 x5:Int)(x6:OL)(x7 x8:Nat)(x9:OL)(c0 c1:Nat)(c2 c3 c4 c5 c6 c7:Int)(c8:OL)(c9 cA:Nat):Xw 78 #[vg #[vi x0,vi x1,vi x2,vi x3,vi x4,vi x5,vsl x6 x7 x8,vsl x9 c0 c1],vg #[vi c2,vi c3,vi c4,vi c5,vi c6,vi c7,vsl c8 c9 cA]] λ_ H0 _ _ C _ T=>(∀b0:Nat,(∀b1:Nat,(C H0 nK 75 #[vg #[vi x0,vi x1,vi x2,vi x3,vi x4,vi x5,vsl x6 x7 x8,vsl x9 c0 c1]] λz W1 W2=>∃cB:Int,z=.returned (vi cB)/\Ext W1 W2/\(It (cB=0) (C H0 nK 76 #[vg #[vi c2,vi c3,vi c4,vi c5,vi c6,vi c7,vsl c8 c9 cA]] λz W3 W4=>∃cC:Int,z=.returned (vi cC)/\Ext W3 W4/\T H0 nK (vi cC)) (T H0 nK (vi cB)))))) :=
 Xa (hi:={}) (args := [.agg [vI 0,vI 1,vI 2,vI 3,vI 4,vI 5,vS 6,vS 9],.agg [vI 12,vI 13,vI 14,vI 15,vI 16,vI 17,vS 18]]) (nv:=21) (e:=lk [.i x0,.i x1,.i x2,.i x3,.i x4,.i x5,.p x6,.n x7,.n x8,.p x9,.n c0,.n c1,.i c2,.i c3,.i c4,.i c5,.i c6,.i c7,.p c8,.n c9,.n cA]) Tryz.func78
theorem Cp(x0 x1 x2 x3 x4 x5:Int)(x6:OL)(x7 x8:Nat)(x9:OL)(c0 c1:Nat)(c2 c3 c4 c5 c6 c7:Int)(c8:OL)(c9 cA:Nat)(cB:Int):Xw 55 #[vg #[vi x0,vi x1,vi x2,vi x3,vi x4,vi x5,vsl x6 x7 x8,vsl x9 c0 c1],vg #[vi c2,vi c3,vi c4,vi c5,vi c6,vi c7,vsl c8 c9 cA],vi cB] λ_ H0 _ _ C _ T=>let u4:=#[vi c2,vi c3,vi c4,vi c5,vi c6,vi c7,vsl c8 c9 cA];let u3:=#[vi 0,vi 0,vi 0,vi 0,vi 0,vi 0,Value.slice none 0 0];let u0:=#[vg #[vi x0,vi x1,vi x2,vi x3,vi x4,vi x5,vsl x6 x7 x8,vsl x9 c0 c1],vg u4];(∀b0:Nat,(∀b1:Nat,(∀b2:Nat,(C H0 nK 78 u0 λz W1 W2=>∃cC:Int,z=.returned (vi cC)/\Ext W1 W2/\(It (cC=0) (C H0 nK 52 #[vi cB,vi 0,vi 50] λz W3 W4=>∃cD:Bool,z=.returned (vb (cD))/\Ext W3 W4/\(It (cD=true) (C H0 nK 77 u0 λz W5 W6=>∃cE:Bool,z=.returned (vb (cE))/\Ext W5 W6/\(It (cE=true) (It (c2<x0) (Ck (ae .i64 (x0-x0)) (Ck (0<=(c0:Int)) (Ck (ae .i64 ((x0-x0)+cB)) (Ck (0<=(x0-x0)) (Ck ((x0-x0)<=(if ((x0-x0)+cB)<(c0:Int) then ((x0-x0)+cB) else (c0:Int))) (Ck ((if ((x0-x0)+cB)<(c0:Int) then ((x0-x0)+cB) else (c0:Int))<=(c1:Int)) (C H0 nK 79 #[vg #[vi x0,vi x1,vi x2,vi x3,vi x4,vi x5,vsl x6 x7 x8],Value.slice (ab x9 (0+(if (c1:Int)=(x0-x0) then 0 else (x0-x0) * ((9:Nat):Int)))) (((if ((x0-x0)+cB)<(c0:Int) then ((x0-x0)+cB) else (c0:Int))-(x0-x0)):Int).toNat (((c1:Int)-(x0-x0)):Int).toNat] λz W7 W8=>∃(cF cG cH cI cJ cK:Int) (cL:OL) (cM cN:Nat) (cO:OL) (cP cQ:Nat) (cR:OL) (cS cT:Nat),let u2:=#[vi cF,vi cG,vi cH,vi cI,vi cJ,vi cK,vsl cL cM cN];z=.returned (vt #[vg u2,vsl cO cP cQ,vsl cR cS cT])/\Fr W7 W8 H0 λH1=>(∀b3:Nat,(Ck (ae .i64 ((if ((x0-x0)+cB)<(c0:Int) then ((x0-x0)+cB) else (c0:Int))-(x0-x0))) (T H1 nK (vt #[vg u2,vi ((if ((x0-x0)+cB)<(c0:Int) then ((x0-x0)+cB) else (c0:Int))-(x0-x0)),vi 0]))))))))))) (Ck (ae .i64 (c2-x0)) (Ck (0<=(c0:Int)) (Ck (ae .i64 ((c2-x0)+cB)) (Ck (0<=(c2-x0)) (Ck ((c2-x0)<=(if ((c2-x0)+cB)<(c0:Int) then ((c2-x0)+cB) else (c0:Int))) (Ck ((if ((c2-x0)+cB)<(c0:Int) then ((c2-x0)+cB) else (c0:Int))<=(c1:Int)) (C H0 nK 79 #[vg u4,Value.slice (ab x9 (0+(if (c1:Int)=(c2-x0) then 0 else (c2-x0) * ((9:Nat):Int)))) (((if ((c2-x0)+cB)<(c0:Int) then ((c2-x0)+cB) else (c0:Int))-(c2-x0)):Int).toNat (((c1:Int)-(c2-x0)):Int).toNat] λz W7 W8=>∃(cF cG cH cI cJ cK:Int) (cL:OL) (cM cN:Nat) (cO:OL) (cP cQ:Nat) (cR:OL) (cS cT:Nat),let u1:=#[vi cF,vi cG,vi cH,vi cI,vi cJ,vi cK,vsl cL cM cN];z=.returned (vt #[vg u1,vsl cO cP cQ,vsl cR cS cT])/\Fr W7 W8 H0 λH1=>(∀b3:Nat,(Ck (ae .i64 ((if ((c2-x0)+cB)<(c0:Int) then ((c2-x0)+cB) else (c0:Int))-(c2-x0))) (T H1 nK (vt #[vg u1,vi ((if ((c2-x0)+cB)<(c0:Int) then ((c2-x0)+cB) else (c0:Int))-(c2-x0)),vi 0])))))))))))) (T H0 nK (vt #[vg u3,vi 0,vi 1])))) (T H0 nK (vt #[vg u3,vi 0,vi 3])))) (T H0 nK (vt #[vg u3,vi 0,vi cC]))))))) :=
 Xa (hi:={}) (args := [.agg [vI 0,vI 1,vI 2,vI 3,vI 4,vI 5,vS 6,vS 9],.agg [vI 12,vI 13,vI 14,vI 15,vI 16,vI 17,vS 18],vI 21]) (nv:=22) (e:=lk [.i x0,.i x1,.i x2,.i x3,.i x4,.i x5,.p x6,.n x7,.n x8,.p x9,.n c0,.n c1,.i c2,.i c3,.i c4,.i c5,.i c6,.i c7,.p c8,.n c9,.n cA,.i cB]) Tryz.func55
def gK(r:Sta × Int × Int)(v:Value)(D:Hp):Prop:=∃p n c,v=.tuple #[r.1.val (vsl p n c),vi r.2.1,vi r.2.2]/\Tab D p n c r.1.table
theorem gK.bad(D:Hp)(x:Int):gK (Sta.zero,0,x) (.tuple #[.agg #[vi 0,vi 0,vi 0,vi 0,vi 0,vi 0,Value.slice none 0 0],vi 0,vi x]) D:=⟨none,0,0,rfl,Tab.nil _ _⟩
theorem AG{α:Type}(l:List α)(i:Nat):l.take (min i l.length)=l.take i:=by
 rcases Nat.le_total i l.length with h | h
 ·rw[Nat.min_eq_left h]
 ·rw[Nat.min_eq_right h,List.take_length,List.take_of_length_le h]
section
variable{H:Hp}{p q r:OL}{n c m d k e:Nat}{b s:Sta}{l:List Ent}
theorem av.seg(hE:av H q m d l){k j:Nat}(hk:k+j<=m):∃q',ab q (0+(if (d:Int)=(k:Int) then 0 else (k:Int) * ((9:Nat):Int)))=ab q' 0/\av H q' j (d-k) ((l.drop k).take j):=by
 obtain⟨q',e1,hE'⟩:=hE.drop k (by omega);exact⟨q',(Value.slice.inj e1).1,hE'.take j (by omega)⟩
theorem jx(ho:gT b l)(hs:dy s)(hT:Tab H p n c b.table)(hE:av H q m d l)(hS:Tab H r k e s.table) :
  Gv Tryz.prog 125 #[kH b (vsl p n c) (vsl q m d),s.val (vsl r k e)] H (vb (cw b l s)):=λW hH=>by
 have hm:=hE.len;have hcap:=hE.1
 have hpos:=ho.base.pos;have hps:=hs.pos
 refine uu _ _ _ _ _ _ p n c q m d _ _ _ _ _ _ r k e noM H W _ hH λb0 b1=>⟨in64 (by omega),λ_=>⟨λh1=>Rt.gv' (by rw[mY h1]),λh1=>⟨by omega,λ_=>⟨λh2=>⟨by omega,λ_=>⟨by omega,λ_=>?_⟩⟩,λh2=>Rt.gv' (by rw[kJ (by omega)])⟩⟩⟩⟩
 rw[gx h1 (by omega)];obtain⟨j,hj⟩:∃j:Nat,s.pos-b.pos=j:=⟨(s.pos-b.pos).toNat,by omega⟩
 rw[hj,Int.toNat_natCast];refine Cl.fresh (ph hT ho.base (hE.take j (by omega)) (λe he=>ho.ents e (List.mem_of_mem_take he)) (by have:=ho.len;rw[List.length_take];omega)) ?_;rintro v W1 W2 D ⟨p1,n1,c1,rfl,hT1⟩ hx hD hf nn;refine⟨_,_,_,_,_,_,p1,n1,c1,rfl,hx,D,hD,hf,λH1 h1 hd1=>?_⟩;exact Cl.same (zW (hT1.mono hd1) (hS.mono h1)) λ_ _ hx=>⟨_,rfl,hx,Rt.gv' rfl⟩
theorem oL(ho:gT b l)(hs:dy s)(hT:Tab H p n c b.table)(hE:av H q m d l)(hS:Tab H r k e s.table) :
  Gv Tryz.prog 77 #[kH b (vsl p n c) (vsl q m d),s.val (vsl r k e)] H (vb (cw b l s)):=λW hH=>by
 have hm:=hE.len;have hcap:=hE.1
 have hpos:=ho.base.pos;have hps:=hs.pos
 refine Dh _ _ _ _ _ _ p n c q m d _ _ _ _ _ _ r k e noM H W _ hH λb0 b1=>⟨in64 (by omega),λ_=>⟨λh1=>Rt.gv' (by rw[mY h1]),λh1=>⟨by omega,λ_=>⟨λh2=>Rt.gv' (by rw[kJ (by omega)]),λh2=>⟨by omega,λ_=>⟨by omega,λ_=>?_⟩⟩⟩⟩⟩⟩
 rw[gx h1 (by omega)];obtain⟨j,hj⟩:∃j:Nat,s.pos-b.pos=j:=⟨(s.pos-b.pos).toNat,by omega⟩
 rw[hj,Int.toNat_natCast];refine Cl.fresh (j5 hT ho.base (hE.take j (by omega)) (λe he=>ho.ents e (List.mem_of_mem_take he)) (by have:=ho.len;rw[List.length_take];omega)) ?_;rintro v W1 W2 D ⟨p1,n1,c1,pa,ca,ga,pb,cb,gb,rfl,hT1,_,_⟩ hx hD hf nn;refine⟨_,_,_,_,_,_,p1,n1,c1,pa,_,ca,pb,_,cb,rfl,hx,D,hD,hf,λH1 h1 hd1 b2=>?_⟩;exact Cl.same (Ak (hT1.mono hd1) (hS.mono h1)) λ_ _ hx=>⟨_,rfl,hx,Rt.gv' rfl⟩
theorem CK(hT:Tab H p n c b.table)(hE:av H q m d l)(hS:Tab H r k e s.table) :
  Gv Tryz.prog 124 #[kH b (vsl p n c) (vsl q m d),s.val (vsl r k e)] H (vi (mU b l s)):=λW hH=>by
 refine CI _ _ _ _ _ _ p n c q m d _ _ _ _ _ _ r k e noM H W _ hH λb0 b1=>?_;refine Cl.same (jz hT hE) λ_ _ hx=>⟨_,rfl,hx,λh0=>?_,λh0=>Rt.gv' (by rw[uh h0])⟩
 exact Cl.same (jJ hS) λ_ _ hx=>⟨_,rfl,hx,Rt.gv' (by rw[wX h0])⟩
theorem um(hT:Tab H p n c b.table)(hE:av H q m d l)(hS:Tab H r k e s.table) :
  Gv Tryz.prog 78 #[kH b (vsl p n c) (vsl q m d),s.val (vsl r k e)] H (vi (mU b l s)):=λW hH=>by
 refine tJ _ _ _ _ _ _ p n c q m d _ _ _ _ _ _ r k e noM H W _ hH λb0 b1=>?_;refine Cl.same (mE hT hE) λ_ _ hx=>⟨_,rfl,hx,λh0=>?_,λh0=>Rt.gv' (by rw[uh h0])⟩
 exact Cl.same (ns hS) λ_ _ hx=>⟨_,rfl,hx,Rt.gv' (by rw[wX h0])⟩
theorem iQ{x:Int}(hx:¬(x<0\/50<x)):(fe b l s x).length=min x.toNat (l.length-nOf b s):=by unfold fe;rw[List.length_take,List.length_drop]
theorem ke{j:Nat}{x:Int}(hj:j=min x.toNat (l.length-nOf b s)):(l.drop (nOf b s)).take j=fe b l s x:=by
 unfold fe;rw[hj,<- List.length_drop,AG]
theorem nE(hT:Tab H p n c b.table)(hE:av H q m d l)(hS:Tab H r k e s.table)(x:Int) :
  Gf Tryz.prog 95 #[kH b (vsl p n c) (vsl q m d),s.val (vsl r k e),vi x] H (gK (gD b l s x)):=λW hH=>by
 have hm:=hE.len;have hcap:=hE.1
 refine xz _ _ _ _ _ _ p n c q m d _ _ _ _ _ _ r k e x noM H W _ hH λb0 b1 b2=>?_;refine Cl.same (CK hT hE hS) λ_ _ hx=>⟨_,rfl,hx,λh0=>?_,λh0=>Rt.gfn (by rw[pL h0];exact gK.bad _ _)⟩
 obtain⟨ho,hs⟩:=m6.1 h0;have hps:=hs.pos
 have hpb:=ho.base.pos;refine⟨λh1=>Rt.gfn (by rw[ji h0 (by omega)];exact gK.bad _ _),λh1=>⟨λh2=>Rt.gfn (by rw[ji h0 (by omega)];exact gK.bad _ _),λh2=>?_⟩⟩;have hr:¬(x<0\/50<x):=by omega
 refine Cl.same (jx ho hs hT hE hS) λ_ _ hx=>⟨_,rfl,hx,λh3=>?_,λh3=>Rt.gfn (by rw[pS h0 hr (by simpa using h3)];exact gK.bad _ _)⟩
 obtain⟨a1,a2,a3⟩:=qf ho h3;have ok1:(nAt b s).pos+(((fe b l s x).length:Nat):Int)<=50:=by
  have:=iQ (b:=b) (s:=s) (l:=l) hr;have:=ho.len
  omega
 rw[oO h0 hr h3];refine⟨λh4=>?_,λh4=>?_⟩
 ·have ht:nAt b s=b:=if_pos h4;have hk:b.pos-b.pos=((nOf b s:Nat):Int):=by have e5:=congrArg Sta.pos ht;omega
  rw[hk];have hjx:=iQ (b:=b) (s:=s) (l:=l) hr
  have ej:(if (m:Int)-((nOf b s:Nat):Int)<x then (m:Int)-((nOf b s:Nat):Int) else x)=(((fe b l s x).length:Nat):Int):=by omega
  rw[ht] at ok1;refine⟨in64 (by omega),λ_=>⟨by omega,λ_=>⟨by omega,λ_=>⟨by omega,λ_=>⟨by omega,λ_=>⟨by omega,λ_=>⟨by omega,λ_=>?_⟩⟩⟩⟩⟩⟩⟩;rw[ej];obtain⟨q',e1,hE'⟩:=hE.seg (k:=nOf b s) (j:=(fe b l s x).length) (by omega);rw[ke hjx] at hE';rw[e1,Int.toNat_natCast,show ((d:Int)-((nOf b s:Nat):Int)).toNat=d-nOf b s by omega];refine Cl.fresh (ph hT ho.base hE' (λy hy=>ho.ents y (List.mem_of_mem_drop (List.mem_of_mem_take hy))) ok1) ?_;rintro v W1 W2 D ⟨p1,n1,c1,rfl,hT1⟩ hx hD hf nn;refine⟨_,_,_,_,_,_,p1,n1,c1,rfl,hx,D,hD,hf,λH1 h1 hd1=>Rt.gfn ⟨p1,n1,c1,by rw[ht],?_⟩⟩;rw[ht];exact hT1.mono (ai hd1 (λb o h=>Nat.le_trans nn.mod.size (hf b o h)))
 ·have ht:nAt b s=s:=if_neg h4;have hk:s.pos-b.pos=((nOf b s:Nat):Int):=by have e5:=congrArg Sta.pos ht;omega
  rw[hk];have hjx:=iQ (b:=b) (s:=s) (l:=l) hr
  have ej:(if (m:Int)-((nOf b s:Nat):Int)<x then (m:Int)-((nOf b s:Nat):Int) else x)=(((fe b l s x).length:Nat):Int):=by omega
  rw[ht] at ok1;refine⟨in64 (by omega),λ_=>⟨by omega,λ_=>⟨by omega,λ_=>⟨by omega,λ_=>⟨by omega,λ_=>⟨by omega,λ_=>⟨by omega,λ_=>?_⟩⟩⟩⟩⟩⟩⟩;rw[ej];obtain⟨q',e1,hE'⟩:=hE.seg (k:=nOf b s) (j:=(fe b l s x).length) (by omega);rw[ke hjx] at hE';rw[e1,Int.toNat_natCast,show ((d:Int)-((nOf b s:Nat):Int)).toNat=d-nOf b s by omega];refine Cl.fresh (ph hS hs hE' (λy hy=>ho.ents y (List.mem_of_mem_drop (List.mem_of_mem_take hy))) ok1) ?_;rintro v W1 W2 D ⟨p1,n1,c1,rfl,hT1⟩ hx hD hf nn;refine⟨_,_,_,_,_,_,p1,n1,c1,rfl,hx,D,hD,hf,λH1 h1 hd1=>Rt.gfn ⟨p1,n1,c1,by rw[ht],?_⟩⟩;rw[ht];exact hT1.mono (ai hd1 (λb o h=>Nat.le_trans nn.mod.size (hf b o h)))
theorem rJ(hT:Tab H p n c b.table)(hE:av H q m d l)(hS:Tab H r k e s.table)(x:Int) :
  Gf Tryz.prog 55 #[kH b (vsl p n c) (vsl q m d),s.val (vsl r k e),vi x] H (gK (gD b l s x)):=λW hH=>by
 have hm:=hE.len;have hcap:=hE.1
 refine Cp _ _ _ _ _ _ p n c q m d _ _ _ _ _ _ r k e x noM H W _ hH λb0 b1 b2=>?_;refine Cl.same (um hT hE hS) λ_ _ hx=>⟨_,rfl,hx,λh0=>?_,λh0=>Rt.gfn (by rw[pL h0];exact gK.bad _ _)⟩
 obtain⟨ho,hs⟩:=m6.1 h0;have hps:=hs.pos
 have hpb:=ho.base.pos;refine Cl.same (bu x 0 50 H) λ_ _ hx=>⟨_,rfl,hx,λh1=>?_,λh1=>Rt.gfn (by rw[ji h0 (by simp[inR] at h1;omega)];exact gK.bad _ _)⟩
 have hr:¬(x<0\/50<x):=by simp[inR] at h1;omega
 refine Cl.same (oL ho hs hT hE hS) λ_ _ hx=>⟨_,rfl,hx,λh3=>?_,λh3=>Rt.gfn (by rw[pS h0 hr (by simpa using h3)];exact gK.bad _ _)⟩
 obtain⟨a1,a2,a3⟩:=qf ho h3;have ok1:(nAt b s).pos+(((fe b l s x).length:Nat):Int)<=50:=by
  have:=iQ (b:=b) (s:=s) (l:=l) hr;have:=ho.len
  omega
 rw[oO h0 hr h3];refine⟨λh4=>?_,λh4=>?_⟩
 ·have ht:nAt b s=b:=if_pos h4;have hk:b.pos-b.pos=((nOf b s:Nat):Int):=by have e5:=congrArg Sta.pos ht;omega
  rw[hk];have hjx:=iQ (b:=b) (s:=s) (l:=l) hr
  have ej:((if ((nOf b s:Nat):Int)+x<(m:Int) then ((nOf b s:Nat):Int)+x else (m:Int))-((nOf b s:Nat):Int))=(((fe b l s x).length:Nat):Int):=by omega
  rw[ht] at ok1;refine⟨in64 (by omega),λ_=>⟨by omega,λ_=>⟨in64 (by omega),λ_=>⟨by omega,λ_=>⟨by omega,λ_=>⟨by omega,λ_=>?_⟩⟩⟩⟩⟩⟩;rw[ej];obtain⟨q',e1,hE'⟩:=hE.seg (k:=nOf b s) (j:=(fe b l s x).length) (by omega);rw[ke hjx] at hE';rw[e1,Int.toNat_natCast,show ((d:Int)-((nOf b s:Nat):Int)).toNat=d-nOf b s by omega];refine Cl.fresh (j5 hT ho.base hE' (λy hy=>ho.ents y (List.mem_of_mem_drop (List.mem_of_mem_take hy))) ok1) ?_;rintro v W1 W2 D ⟨p1,n1,c1,pa,ca,ga,pb,cb,gb,rfl,hT1,_,_⟩ hx hD hf nn;refine⟨_,_,_,_,_,_,p1,n1,c1,pa,_,ca,pb,_,cb,rfl,hx,D,hD,hf,λH1 h1 hd1 b3=>⟨in64 (by omega),λ_=>Rt.gfn ⟨p1,n1,c1,by rw[ht],?_⟩⟩⟩;rw[ht];exact hT1.mono (ai hd1 (λb o h=>Nat.le_trans nn.mod.size (hf b o h)))
 ·have ht:nAt b s=s:=if_neg h4;have hk:s.pos-b.pos=((nOf b s:Nat):Int):=by have e5:=congrArg Sta.pos ht;omega
  rw[hk];have hjx:=iQ (b:=b) (s:=s) (l:=l) hr
  have ej:((if ((nOf b s:Nat):Int)+x<(m:Int) then ((nOf b s:Nat):Int)+x else (m:Int))-((nOf b s:Nat):Int))=(((fe b l s x).length:Nat):Int):=by omega
  rw[ht] at ok1;refine⟨in64 (by omega),λ_=>⟨by omega,λ_=>⟨in64 (by omega),λ_=>⟨by omega,λ_=>⟨by omega,λ_=>⟨by omega,λ_=>?_⟩⟩⟩⟩⟩⟩;rw[ej];obtain⟨q',e1,hE'⟩:=hE.seg (k:=nOf b s) (j:=(fe b l s x).length) (by omega);rw[ke hjx] at hE';rw[e1,Int.toNat_natCast,show ((d:Int)-((nOf b s:Nat):Int)).toNat=d-nOf b s by omega];refine Cl.fresh (j5 hS hs hE' (λy hy=>ho.ents y (List.mem_of_mem_drop (List.mem_of_mem_take hy))) ok1) ?_;rintro v W1 W2 D ⟨p1,n1,c1,pa,ca,ga,pb,cb,gb,rfl,hT1,_,_⟩ hx hD hf nn;refine⟨_,_,_,_,_,_,p1,n1,c1,pa,_,ca,pb,_,cb,rfl,hx,D,hD,hf,λH1 h1 hd1 b3=>⟨in64 (by omega),λ_=>Rt.gfn ⟨p1,n1,c1,by rw[ht],?_⟩⟩⟩;rw[ht];exact hT1.mono (ai hd1 (λb o h=>Nat.le_trans nn.mod.size (hf b o h)))
end
end Go.Proofs.YtfpmcmhihhnfgaaGreatDoor
