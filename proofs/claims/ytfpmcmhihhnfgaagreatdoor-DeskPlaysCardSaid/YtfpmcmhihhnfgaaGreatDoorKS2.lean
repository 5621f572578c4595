/- Contracts: cmp.Compare, the order of sessions, binary search. No conditions. -/
import Derived.Test.YtfpmcmhihhnfgaaGreatDoorKS1
set_option linter.unusedVariables false
set_option linter.unusedSimpArgs false
namespace Go.Proofs.YtfpmcmhihhnfgaaGreatDoor
open Go.RowKit
set_option maxRecDepth 100000
set_option maxHeartbeats 4000000
theorem Fa(x0:Int):Xw 190 #[vi x0] λ_ H0 _ _ _ _ T=>T H0 nK (vb ((!decide (x0=x0)))) :=
 Xa (hi:={}) (args := [vI 0]) (nv:=1) (e:=lk [.i x0]) Tryz.func190
theorem yn(x0 x1:Int):Xw 183 #[vi x0,vi x1] λ_ H0 _ _ C _ T=>(C H0 nK 190 #[vi x0] λz W1 W2=>∃x2:Bool,z=.returned (vb (x2))/\Ext W1 W2/\(C H0 nK 190 #[vi x1] λz W3 W4=>∃x3:Bool,z=.returned (vb (x3))/\Ext W3 W4/\(It (x2=true) (It (x3=true) (T H0 nK (vi 0)) (T H0 nK (vi (-1)))) (It (x3=true) (T H0 nK (vi 1)) (It (x0<x1) (T H0 nK (vi (-1))) (It (x1<x0) (T H0 nK (vi 1)) (T H0 nK (vi 0)))))))) :=
 Xa (hi:={}) (args := [vI 0,vI 1]) (nv:=2) (e:=lk [.i x0,.i x1]) Tryz.func183
theorem CB(x0 x1 x2:Int)(x3:OL)(x4 x5:Nat)(x6:Int):Xw 177 #[vg #[vi x0,vi x1,vi x2,vsl x3 x4 x5],vi x6] λ_ H0 _ _ C _ T=>(∀b0:Nat,(C H0 nK 183 #[vi x0,vi x6] λz W1 W2=>∃x7:Int,z=.returned (vi x7)/\Ext W1 W2/\T H0 nK (vi x7))) :=
 Xa (hi:={}) (args := [.agg [vI 0,vI 1,vI 2,vS 3],vI 6]) (nv:=7) (e:=lk [.i x0,.i x1,.i x2,.p x3,.n x4,.n x5,.i x6]) Tryz.func177
theorem yf(x0:OL)(x1 x2:Nat)(x3:Int):Xw 176 #[vsl x0 x1 x2,vi x3,Value.func (.func 177) #[] #[]] λ_ H0 _ _ C Q T=>(Ck (0<=(x1:Int)) (∃(I0:List Dat->Hp->Prop) (μ0:List Dat->Nat),I0 [.n 0,.n x1] H0/\∀H1:Hp,∀(x4 x5:Nat),I0 [.n x4,.n x5] H1->(It ((x4:Int)<(x5:Int)) (Ck (ae .i64 ((x4:Int)+(x5:Int))) (Q H1 nK λW1=>∃x6:Int,Eo' (.bop .shr 111 (.tmp 21) (.const (Value.int .u64 1))) [Value.int .u64 (IntKind.wrap .u64 ((x4:Int)+(x5:Int))),Value.int .u64 1] W1 (.value (Value.int .u64 x6)) λW2=>Ext W1 W2/\(Ck (ae .i64 x6) (Ck ((0:Int)<=x6/\x6<(x1:Int)) (Ck (x0.isSome=true) (∃(x7 x8 x9:Int) (c0:OL) (c1 c2:Nat),aa H1 x0 (0+(x6 * 4)) [vi x7,vi x8,vi x9,vsl c0 c1 c2]/\(C H1 nK 177 #[vg #[vi x7,vi x8,vi x9,vsl c0 c1 c2],vi x3] λz W3 W4=>∃c3:Int,z=.returned (vi c3)/\Ext W3 W4/\(It (c3<0) (Ck (ae .i64 (x6+1)) (Ck (0<=(x6+1)) (Ck (0<=(x5:Int)) (I0 [.n ((x6+1):Int).toNat,.n x5] H1/\μ0 [.n ((x6+1):Int).toNat,.n x5]<μ0 [.n x4,.n x5])))) (Ck (0<=(x4:Int)) (Ck (0<=x6) (I0 [.n x4,.n (x6).toNat] H1/\μ0 [.n x4,.n (x6).toNat]<μ0 [.n x4,.n x5]))))))))))) (It ((x4:Int)<(x1:Int)) (Ck ((0:Int)<=(x4:Int)/\(x4:Int)<(x1:Int)) (Ck (x0.isSome=true) (∃(x6 x7 x8:Int) (x9:OL) (c0 c1:Nat),aa H1 x0 (0+((x4:Int) * 4)) [vi x6,vi x7,vi x8,vsl x9 c0 c1]/\(C H1 nK 177 #[vg #[vi x6,vi x7,vi x8,vsl x9 c0 c1],vi x3] λz W1 W2=>∃c2:Int,z=.returned (vi c2)/\Ext W1 W2/\T H1 nK (vt #[vi (x4:Int),vb (decide (c2=0))]))))) (T H1 nK (vt #[vi (x4:Int),vb (false)])))))) :=
 Xa (hi:={loops := [(3,.inv [(9,.nat),(10,.nat)] [])]}) (args := [vS 0,vI 3,.func 177 [] []]) (nv:=4) (e:=lk [.p x0,.n x1,.n x2,.i x3]) Tryz.func176
theorem DZ(x0:OL)(x1 x2:Nat)(x3:Int):Xw 160 #[vsl x0 x1 x2,vi x3] λ_ H0 _ _ C _ T=>(C H0 nK 176 #[vsl x0 x1 x2,vi x3,Value.func (.func 177) #[] #[]] λz W1 W2=>∃(x4:Int) (x5:Bool),z=.returned (vt #[vi x4,vb (x5)])/\Ext W1 W2/\T H0 nK (vt #[vi x4,vb (x5)])) :=
 Xa (hi:={}) (args := [vS 0,vI 3]) (nv:=4) (e:=lk [.p x0,.n x1,.n x2,.i x3]) Tryz.func160
theorem zl(x0:OL)(x1 x2:Nat):Xw 154 #[vsl x0 x1 x2] λM H0 W0 _ _ Q T=>(Q H0 nK λW1=>∃x3:Bool,Eo' (.bop .eql 31 (.tmp 3) (.const (Value.slice none 0 0))) [vsl x0 x1 x2,Value.slice none 0 0] W1 (.value (vb (x3))) λW2=>Ext W1 W2/\(It (x3=true) (T H0 nK (Value.slice none 0 0)) (∀b0:Nat,(Q H0 (λW=>Kn W0 M H0 W b0 (Obj.cells #[] 93 (0,0))/\True) λW3=>∃(x4:OL) (x5 x6:Nat),Eo' (.bi .append #[31,31] 31) [Value.slice (some ⟨b0,0,none⟩) 0 0,vsl x0 x1 x2] W3 (.value (vsl x4 x5 x6)) λW4=>Tn W0 M H0 W3 W4 λH1=>T H1 nK (vsl x4 x5 x6))))) :=
 Xa (hi:={turns := []}) (args := [vS 0]) (nv:=3) (e:=lk [.p x0,.n x1,.n x2]) Tryz.func154
theorem zm(x0:OL)(x1 x2:Nat):Xw 155 #[vsl x0 x1 x2] λM H0 W0 _ _ Q T=>(Q H0 nK λW1=>∃x3:Bool,Eo' (.bop .eql 91 (.tmp 3) (.const (Value.slice none 0 0))) [vsl x0 x1 x2,Value.slice none 0 0] W1 (.value (vb (x3))) λW2=>Ext W1 W2/\(It (x3=true) (T H0 nK (Value.slice none 0 0)) (∀b0:Nat,(Q H0 (λW=>Kn W0 M H0 W b0 (Obj.cells #[] 184 (0,0))/\True) λW3=>∃(x4:OL) (x5 x6:Nat),Eo' (.bi .append #[91,91] 91) [Value.slice (some ⟨b0,0,none⟩) 0 0,vsl x0 x1 x2] W3 (.value (vsl x4 x5 x6)) λW4=>Tn W0 M H0 W3 W4 λH1=>T H1 nK (vsl x4 x5 x6))))) :=
 Xa (hi:={}) (args := [vS 0]) (nv:=3) (e:=lk [.p x0,.n x1,.n x2]) Tryz.func155
theorem Ft(x0:OL)(x1 x2:Nat):Xw 140 #[vsl x0 x1 x2] λM H0 W0 _ C Q T=>(C H0 nK 154 #[vsl x0 x1 x2] λz W1 W2=>∃(x3:OL) (x4 x5:Nat),z=.returned (vsl x3 x4 x5)/\Fr W1 W2 H0 λH1=>(Ck (0<=(x4:Int)) (∃(I0:List Dat->Hp->Prop) (μ0:List Dat->Nat),I0 [.i 0] H1/\∀H2:Hp,∀x6:Int,I0 [.i x6] H2->(It (x6<(x4:Int)) (Ck ((0:Int)<=x6/\x6<(x4:Int)) (Ck (x3.isSome=true) (Ck (0<=(0+(x6 * 4))) (∃(x7:OL) (x8 x9:Nat),aa H2 x3 ((0+(x6 * 4))+3) [vsl x7 x8 x9]/\(C H2 nK 155 #[vsl x7 x8 x9] λz W3 W4=>∃(c0:OL) (c1 c2:Nat),z=.returned (vsl c0 c1 c2)/\Fr W3 W4 H2 λH3=>(Q H3 nK λW5=>Eo' (.storeO 91) [vp (ab x3 ((0+(x6 * 4))+3)),vsl c0 c1 c2] W5 (.skip) λW6=>Tn W0 M H3 W5 W6 λH4=>(Ck (ae .i64 (x6+1)) (I0 [.i (x6+1)] H4/\μ0 [.i (x6+1)]<μ0 [.i x6])))))))) (T H2 nK (vsl x3 x4 x5)))))) :=
 Xa (hi:={loops := [(3,.inv [(8,.pt (.int .i64))] [])]}) (args := [vS 0]) (nv:=3) (e:=lk [.p x0,.n x1,.n x2]) Tryz.func140
theorem zZ(x0 x1 x2:Int)(x3:OL)(x4 x5:Nat):Xw 136 #[vg #[vi x0,vi x1,vi x2,vsl x3 x4 x5]] λM H0 W0 _ _ Q T=>(∀b0:Nat,(∀b1:Nat,(∀b2:Nat,(Q H0 (λW=>Kn W0 M H0 W b2 (Obj.cells #[] 184 (0,0))/\True) λW1=>∃(x6:OL) (x7 x8:Nat),Eo' (.bi .append #[91,91] 91) [Value.slice (some ⟨b2,0,none⟩) 0 0,vsl x3 x4 x5] W1 (.value (vsl x6 x7 x8)) λW2=>Tn W0 M H0 W1 W2 λH1=>T H1 nK (vg #[vi x0,vi x1,vi x2,vsl x6 x7 x8]))))) :=
 Xa (hi:={}) (args := [.agg [vI 0,vI 1,vI 2,vS 3]]) (nv:=6) (e:=lk [.i x0,.i x1,.i x2,.p x3,.n x4,.n x5]) Tryz.func136
theorem CS(x0 x1 x2:Int)(x3:OL)(x4 x5:Nat)(x6:OL):Xw 175 #[vg #[vi x0,vi x1,vi x2,vsl x3 x4 x5],vp (ab x6 0)] λ_ H0 _ _ _ _ T=>(∀b0:Nat,(∃x7:Int,aa H0 x6 0 [vi x7]/\(Ck (ae .i64 (x7-20)) (T H0 nK (vb (decide (x2<(x7-20)))))))) :=
 Xa (hi:={}) (args := [.agg [vI 0,vI 1,vI 2,vS 3],.ptrO 6 (.k 0)]) (nv:=7) (e:=lk [.i x0,.i x1,.i x2,.p x3,.n x4,.n x5,.p x6]) Tryz.func175
theorem Au(x0:OL)(x1 x2:Nat)(x3:OL):Xw 173 #[vsl x0 x1 x2,Value.func (.func 175) #[] #[vp (ab x3 0)]] λ_ H0 _ _ C _ T=>(Ck (0<=(x1:Int)) (∃(I0:List Dat->Hp->Prop) (μ0:List Dat->Nat),I0 [.i 0] H0/\∀H1:Hp,∀x4:Int,I0 [.i x4] H1->(It (x4<(x1:Int)) (Ck ((0:Int)<=x4/\x4<(x1:Int)) (Ck (x0.isSome=true) (∃(x5 x6 x7:Int) (x8:OL) (x9 c0:Nat),aa H1 x0 (0+(x4 * 4)) [vi x5,vi x6,vi x7,vsl x8 x9 c0]/\(C H1 nK 175 #[vg #[vi x5,vi x6,vi x7,vsl x8 x9 c0],vp (ab x3 0)] λz W1 W2=>∃c1:Bool,z=.returned (vb (c1))/\Ext W1 W2/\(It (c1=true) (T H1 nK (vi x4)) (Ck (ae .i64 (x4+1)) (I0 [.i (x4+1)] H1/\μ0 [.i (x4+1)]<μ0 [.i x4]))))))) (T H1 nK (vi (-1)))))) :=
 Xa (hi:={loops := [(2,.inv [(8,.pt (.int .i64))] [])]}) (args := [vS 0,.func 175 [] [.ptrO 3 (.k 0)]]) (nv:=4) (e:=lk [.p x0,.n x1,.n x2,.p x3]) Tryz.func173
def lQ(a b:Int):Int:=if a<b then -1 else if b<a then 1 else 0
theorem DP(a:Int)(H:Hp):Gv Tryz.prog 190 #[vi a] H (vb false):=λW hH=>Fa a noM H W _ hH (Rt.gv' (by simp))
theorem qP(a b:Int)(H:Hp):Gv Tryz.prog 183 #[vi a,vi b] H (vi (lQ a b)):=λW hH=>by
 refine yn a b noM H W _ hH ?_;refine Cl.same (DP _ _) λ_ _ hx=>⟨_,rfl,hx,?_⟩
 refine Cl.same (DP _ _) λ_ _ hx=>⟨_,rfl,hx,λh=>(by cases h),λ_=>⟨λh=>(by cases h),λ_=>⟨λh=>Rt.gv' (by simp[lQ,h]),λh=>⟨λh2=>Rt.gv' (by simp[lQ,h,h2]),λh2=>Rt.gv' (by simp[lQ,h,h2])⟩⟩⟩⟩
theorem wz(s:Ses)(v:Value)(x:Int)(H:Hp){p:OL}{n c:Nat}(hv:v=vsl p n c):Gv Tryz.prog 177 #[.agg #[vi s.client,vi s.acked,vi s.seen,v],vi x] H (vi (lQ s.client x)):=λW hH=>by
 subst hv;exact CB _ _ _ p n c x noM H W _ hH λ_=>Cl.same (qP _ _ _) λ_ _ hx=>⟨_,rfl,hx,Rt.gv⟩
theorem A9(x y:Operand)(k:Int)(h0:0<=k)(h1:k<=9223372036854775807)(w:World):(EK.sem (.bop .shr 111 x y) [Value.int .u64 (IntKind.wrap .u64 k),Value.int .u64 1]).run Tryz.prog w=.ok (.value (.int .u64 (k / 2))) w:=by
 have hw:IntKind.wrap .u64 k=k:=by
  simp only[IntKind.wrap,IntKind.bits,IntKind.signed,Bool.false_and,Bool.false_eq_true,if_false]
  exact Int.emod_eq_of_lt h0 (by omega)
 rw[hw];have hn:min 1 (IntKind.bits .u64)=1:=rfl
 have hd:k.fdiv (2 ^ 1)=k / 2:=by rw[Int.fdiv_eq_ediv_of_nonneg _ (by omega)];rfl
 simp[EK.sem,eqGuard,binOp,Op.shift,hn];rw[Int.fdiv_eq_ediv_of_nonneg _ (by omega)]
theorem sk{l:List Ses}{x:Int}{i:Nat}(h1:∀k s,k<i->l[k]?=some s->s.client<x)(h2:∀k s,i<=k->l[k]?=some s->x<=s.client)(hi:i<=l.length):aS l x=i/\(b9 l x=true↔∃s,l[i]?=some s/\s.client=x)\/¬(l.Pairwise λa b=>a.client<b.client):=by
 by_cases hp:l.Pairwise λa b=>a.client<b.client
 ·left
  have e1:l.take i++l.drop i=l:=List.take_append_drop i l;constructor
  ·unfold aS;rw[<- e1,List.filter_append,List.filter_eq_self.2,List.filter_eq_nil_iff.2]
   ·simp;omega
   ·intro s hs;obtain⟨k,hk⟩:=List.mem_iff_getElem?.1 hs;rw[List.getElem?_drop] at hk;have:=h2 _ s (by omega) hk
    simp;omega
   ·intro s hs;obtain⟨k,hk⟩:=List.mem_iff_getElem?.1 hs;rw[List.getElem?_take] at hk
    split at hk
    ·rename_i hlt;have:=h1 _ s hlt hk
     simpa using this
    ·cases hk
  ·unfold b9;rw[List.any_eq_true];constructor
   ·rintro⟨s,hs,he⟩;obtain⟨k,hk⟩:=List.mem_iff_getElem?.1 hs;simp only[decide_eq_true_eq] at he;have hki:i<=k:=by
     rcases Nat.lt_or_ge k i with h | h
     ·have:=h1 k s h hk;omega
     ·exact h
    rcases Nat.eq_or_lt_of_le hki with rfl | hlt
    ·exact⟨s,hk,he⟩
    ·have hkl:k<l.length:=(List.getElem?_eq_some_iff.1 hk).1;have hil:i<l.length:=by omega
     have h3:=List.pairwise_iff_getElem.1 hp i k hil hkl hlt;have h4:=h2 i _ (Nat.le_refl _) (List.getElem?_eq_getElem hil)
     have h5:=(List.getElem?_eq_some_iff.1 hk).2;rw[h5] at h3;omega
   ·rintro⟨s,hs,he⟩;exact⟨s,List.mem_of_getElem? hs,by simpa using he⟩
 ·exact .inr hp
theorem yE{H:Hp}{p:OL}{n c:Nat}{l:List Ses}(hT:Tab H p n c l)(ho:l.Pairwise λa b=>a.client<b.client)(hs:n<=4611686018427387903)(x:Int) :
  Gv Tryz.prog 176 #[vsl p n c,vi x,.func (.func 177) #[] #[]] H (.tuple #[vi (aS l x),vb (b9 l x)]):=λW hH=>by
 have hn:=hT.len;refine yf p n c x noM H W _ hH ⟨by omega,λ_=>?_⟩;refine⟨λv K=>match v with | [.n i,.n j]=>i<=j/\j<=n/\H.le K/\(∀(k:Nat) (s:Ses),k<i->l[k]?=some s->s.client<x)/\(∀(k:Nat) (s:Ses),j<=k->l[k]?=some s->x<=s.client) | _=>False,
  λv=>match v with | [.n i,.n j]=>j-i | _=>0,⟨by omega,by omega,Hp.le_refl H,λk s hk=>by omega,λk s hk hks=>by have:=(List.getElem?_eq_some_iff.1 hks).1;omega⟩,λK i j hI=>?_⟩
 obtain⟨hij,hj,hle,h1,h2⟩:=hI;refine⟨λhlt=>⟨in64 (by omega),λ_=>?_⟩,λhge=>?_⟩
 ·intro W1 _ _;refine⟨_,_,A9 _ _ _ (by omega) (by omega) W1,Ext.refl _,in64 (by omega),λ_=>⟨⟨by omega,by omega⟩,λ_=>?_⟩⟩;obtain⟨m,hm⟩:∃m:Nat,((i:Int)+j) / 2=m:=⟨(((i:Int)+j) / 2).toNat,by omega⟩
  rw[hm];have hmi:i<=m/\m<j:=by omega
  obtain⟨s,q,k,d,hs,hq,hat,_⟩:=(hT.mono hle).at' (k:=m) (by omega);refine⟨hat.isSome,λ_=>⟨_,_,_,_,_,_,hat,?_⟩⟩;have hml:m<l.length:=by omega
  have hsm:=(List.getElem?_eq_some_iff.1 hs).2;have hpw:=List.pairwise_iff_getElem.1 ho
  refine Cl.same (wz s _ x K rfl) λ_ _ hx=>⟨_,rfl,hx,λh0=>⟨in64 (by omega),λ_=>⟨by omega,λ_=>⟨by omega,λ_=>?_⟩⟩⟩,λh0=>⟨by omega,λ_=>⟨by omega,λ_=>?_⟩⟩⟩
  ·have hlt:s.client<x:=by unfold lQ at h0;split at h0<;>(try split at h0)<;>omega
   rw[show ((m:Int)+1).toNat=m+1 by omega];refine⟨⟨by omega,by omega,hle,λk t hk hkt=>?_,h2⟩,by simp only;omega⟩
   rcases Nat.eq_or_lt_of_le (Nat.le_of_lt_succ hk) with rfl | hk'
   ·rw[hs] at hkt;simp only[Option.some.injEq] at hkt;rw[<- hkt];exact hlt
   ·have hkl:k<l.length:=by omega
    have h5:=hpw k m hkl hml hk';rw[hsm,(List.getElem?_eq_some_iff.1 hkt).2] at h5;omega
  ·have hge:x<=s.client:=by unfold lQ at h0;split at h0<;>(try split at h0)<;>omega
   rw[show ((m:Int)).toNat=m by omega];refine⟨⟨by omega,by omega,hle,h1,λk t hk hkt=>?_⟩,by simp only;omega⟩
   rcases Nat.eq_or_lt_of_le hk with rfl | hk'
   ·rw[hs] at hkt;simp only[Option.some.injEq] at hkt;rw[<- hkt];exact hge
   ·have hkl:k<l.length:=(List.getElem?_eq_some_iff.1 hkt).1;have h5:=hpw m k hml hkl hk'
    rw[hsm,(List.getElem?_eq_some_iff.1 hkt).2] at h5;omega
 ·have hij2:i=j:=by omega
  subst hij2
  rcases sk h1 h2 (by omega) with⟨e1,e2⟩ | e
  ·refine⟨λhlt=>⟨⟨by omega,hlt⟩,λ_=>?_⟩,λhge2=>Rt.gv' ?_⟩
   ·obtain⟨s,q,k,d,hs,hq,hat,_⟩:=(hT.mono hle).at' (k:=i) (by omega);refine⟨hat.isSome,λ_=>⟨_,_,_,_,_,_,hat,?_⟩⟩;refine Cl.same (wz s _ x K rfl) λ_ _ hx=>⟨_,rfl,hx,Rt.gv' ?_⟩
    have hge:=h2 i s (Nat.le_refl _) hs;rw[e1]
    congr 3
    cases hb:b9 l x with
    | true =>
     obtain⟨t,ht,he⟩:=e2.1 hb;rw[hs] at ht;simp only[Option.some.injEq] at ht;subst ht;rw[he];simp[lQ]
    | false =>
     have hne:s.client≠x:=λhe=>by rw[e2.2 ⟨s,hs,he⟩] at hb;cases hb
     have hc:lQ s.client x=1:=by unfold lQ;rw[if_neg (by omega),if_pos (by omega)]
     simp[hc]
   ·rw[e1]
    congr 3
    cases hb:b9 l x with
    | true =>
     obtain⟨t,ht,_⟩:=e2.1 hb;have:=(List.getElem?_eq_some_iff.1 ht).1
     omega
    | false=>rfl
  ·exact absurd ho e
theorem EO{H:Hp}{p:OL}{n c:Nat}{l:List Ses}(hT:Tab H p n c l)(ho:l.Pairwise λa b=>a.client<b.client)(hs:n<=4611686018427387903)(x:Int):Gv Tryz.prog 160 #[vsl p n c,vi x] H (.tuple #[vi (aS l x),vb (b9 l x)]):=λW hH =>
 DZ p n c x noM H W _ hH (Cl.same (yE hT ho hs x) λ_ _ hx=>⟨_,_,rfl,hx,Rt.gv⟩)
theorem hZ:fc Tryz.prog 184 2 16=true:=by kernel_rfl
theorem js:fc Tryz.prog 93 4 48=true:=by kernel_rfl
theorem nq(l:List Rep):∀r∈l.map Rep.row,∀v∈r,v.oneCell'=true:=λr hr v hv=>by
 obtain⟨x,_,rfl⟩:=List.mem_map.1 hr;simp only[Rep.row,List.mem_cons,List.not_mem_nil,or_false] at hv
 rcases hv with rfl | rfl<;>rfl
theorem zB{H:Hp}{rows:List (List Value)}{l:List Ses}(h:de (dz H) rows l):∀r∈rows,∀v∈r,v.oneCell'=true:=λr hr v hv=>by
 obtain⟨i,hi⟩:=List.mem_iff_getElem?.1 hr;obtain⟨s,_,p,n,c,rfl,_⟩:=h.get hi;simp only[List.mem_cons,List.not_mem_nil,or_false] at hv
 rcases hv with rfl | rfl | rfl | rfl<;>rfl
theorem bM.of_ow{H:Hp}{p:OL}{n c:Nat}{l:List Rep}{g:Option Nat}(h:Ow H 184 2 p n c (l.map Rep.row) g):bM H p n c l:=⟨h.2.2.1,h.2.2.2.1,h.rows⟩
theorem zC{H:Hp}{p:OL}{n c:Nat}{rows:List (List Value)}(hr:Rows H p n 4 rows)(h1:∀r∈rows,∀v∈r,v.oneCell'=true)(hb:n<=1099511627776):Gf Tryz.prog 154 #[vsl p n c] H λv D=>∃p' c' g,v=vsl p' n c'/\Ow D 93 4 p' n c' rows g:=λW hH=>by
 refine zl p n c noM H W _ hH ?_;intro W1 n1 _;refine⟨_,_,uW Tryz.underlying31 _ _ p n c W1,Ext.refl _,λh=>Rt.gfn ?_,λh b0=>?_⟩
 ·have hp:p=none:=by simpa using h
  subst hp;have hn:n=0:=by
   rcases Nat.eq_zero_or_pos n with h0 | h0
   ·exact h0
   ·obtain⟨r,_,_,hat⟩:=hr.at h0 (off:=0) (by simp);have:=hat.isSome
    cases this
  subst hn;have hl:rows = []:=List.length_eq_zero_iff.1 hr.len.symm
  subst hl;exact⟨none,0,none,rfl,Ow.nil _ _ _ _⟩
 ·intro W3 n3 _;obtain⟨p',c',g,W',H',h1,h2,h3,h4,h5⟩:=ig (P:=Tryz.prog) Tryz.underlying31 js (by omega) n3 (some (b0,0)) hr h1 (by omega) (by simp only[maxLen];omega) 31 (c:=c);refine⟨p',n,c',W',h1,H',h2,Rt.gfn ⟨p',c',g,rfl,h3.new (λb hb=>Nat.le_trans n3.mod.size (h4 b hb))⟩⟩
theorem yS{H:Hp}{p:OL}{n c:Nat}{s:Ses}(hk:bM H p n c s.kept)(hb:n<=8796093022208):Gf Tryz.prog 136 #[.agg #[vi s.client,vi s.acked,vi s.seen,vsl p n c]] H λv D=>∃p' c',v=.agg #[vi s.client,vi s.acked,vi s.seen,vsl p' n c']/\bM D p' n c' s.kept:=λW hH=>by
 refine zZ _ _ _ p n c noM H W _ hH ?_;intro b0 b1 b2 W3 n3 _;obtain⟨p',c',g,W',H',h1,h2,h3,h4,h5⟩:=ig (P:=Tryz.prog) Tryz.underlying91 hZ (by omega) n3 (some (b2,0)) hk.2.2 (nq _) (by omega) (by simp only[maxLen];omega) 91 (c:=c);exact⟨p',n,c',W',h1,H',h2,Rt.gfn ⟨p',c',rfl,bM.of_ow (h3.new (λb hb=>Nat.le_trans n3.mod.size (h4 b hb)))⟩⟩
def hM(D:Hp)(p:OL)(n c:Nat)(l:List Ses)(g:Option Nat):Prop:=∃rows Dk,Ow D 93 4 p n c rows g/\Hp.le Dk D/\(∀b,g=some b->Dk b=none)/\de (dz Dk) rows l
theorem hM.tab{D:Hp}{p:OL}{n c:Nat}{l:List Ses}{g:Option Nat}(h:hM D p n c l g):Tab D p n c l:=by
 obtain⟨rows,Dk,h1,h2,_,h4⟩:=h;exact⟨h1.2.2.1,h1.2.2.2.1,rows,h1.rows,h4.mono λ_ _ h=>h.mono h2⟩
end Go.Proofs.YtfpmcmhihhnfgaaGreatDoor
