/- Which entries did an op: over plain data. No conditions. -/
import Derived.Test.YtfpmcmhihhnfgaaGreatDoorKF3
set_option linter.unusedVariables false
set_option linter.unusedSimpArgs false
namespace Go.Proofs.YtfpmcmhihhnfgaaGreatDoor
open Go.RowKit
def bV:Nat->List Bool->List Nat
 | _,[] => []
 | k,b::l=>if b=true then k::bV (k+1) l else bV (k+1) l
theorem kB:∀(a b:List Bool) (k:Nat),bV k (a++b)=bV k a++bV (k+a.length) b
 | [],b,k=>by simp[bV]
 | x::a,b,k=>by
  simp only[List.cons_append,bV,List.length_cons]
  rw[kB a b (k+1),show k+1+a.length=k+(a.length+1) by omega]
  split<;>rfl
theorem iX{b:List Bool}{k:Nat}{x:Bool}(h:b[k]?=some x):bV 0 (b.take (k+1))=bV 0 (b.take k)++if x=true then [k] else []:=by
 rw[nd h,kB,Nat.zero_add,List.length_take,Nat.min_eq_left (by have:=(List.getElem?_eq_some_iff.1 h).1;omega)]
 cases x<;>rfl
theorem xM{b:List Bool}{k:Nat}(h:b[k]?=some true):(bV 0 b)[(bV 0 (b.take k)).length]?=some k:=by
 have hlt:=(List.getElem?_eq_some_iff.1 h).1
 conv=>lhs;rw[<- List.take_append_drop (k+1) b,kB,iX h]
 simp
def cp(l:List Ent):List Bool:=jA Sta.zero l
theorem jV(l:List Ent):(cp l).length=l.length:=lN l _
def yR(l:List Ent)(c q:Int)(i:Nat):Bool:=match l[i]? with
 | some e=>decide (e.client=c/\e.seq=q)
 | none=>false
def gN(l:List Ent)(c q:Int)(is:List Nat):Nat:=(is.filter (yR l c q)).length
theorem jB{l:List Ent}{c q:Int}{is:List Nat}{i:Nat}{e:Ent}(h:l[i]?=some e):gN l c q (is ++ [i])=gN l c q is+if e.client=c/\e.seq=q then 1 else 0:=by
 unfold gN;rw[List.filter_append,List.length_append]
 congr 1
 simp only[List.filter_cons,yR,h,List.filter_nil]
 by_cases hh:e.client=c/\e.seq=q
 ·simp[hh]
 ·simp[hh]
theorem nI(l:List Ent)(c q:Int)(is:List Nat):gN l c q is<=is.length:=List.length_filter_le _ _
theorem lJ:∀(b:List Bool) (k:Nat),(bV k b).length<=b.length
 | [],k=>by simp[bV]
 | x::b,k=>by
  have:=lJ b (k+1);unfold bV
  split<;>simp<;>omega
def zT(l:List Ent):List Bool × Int:=if bg l≠0 then ([],bg l) else (cp l,0)
def il(l:List Ent)(c q:Int):Int × Int:=if bg l≠0 then (0,bg l) else if c<1\/5<c\/q<1\/60<q then (0,3) else ((gN l c q (bV 0 (cp l)):Nat),0)
theorem xn:dy Sta.zero:=Sta.err_ok.1 (by decide)
set_option maxRecDepth 100000
set_option maxHeartbeats 4000000
theorem CO(x0:OL)(x1 x2:Nat):Xw 98 #[vsl x0 x1 x2] λM H0 W0 _ _ _ T=>(∀b0:Nat,T H0 (λW=>Kn W0 M H0 W b0 (Obj.cells #[vsl x0 x1 x2] 34 (0,0))/\True) (Value.func (.func 126) #[] #[vp (some ⟨b0,0,none⟩)])) :=
 Xa (hi:={funs := [(98,126,1)]}) (args := [vS 0]) (nv:=3) (e:=lk [.p x0,.n x1,.n x2]) Tryz.func98
theorem zu(x0:Nat)(x1:OL):Xw 126 #[Value.func (.yield x0) #[] #[],vp (ab x1 0)] λM H0 W0 _ C _ T=>(∀b0:Nat,(∃(x2:OL) (x3 x4:Nat),aa H0 x1 0 [vsl x2 x3 x4]/\(C H0 nK 128 #[] λz W1 W2=>∃(x5 x6 x7 x8 x9 c0:Int) (c1:OL) (c2 c3:Nat),let u0:=#[vi x5,vi x6,vi x7,vi x8,vi x9,vi c0,vsl c1 c2 c3];z=.returned (vg u0)/\Fr W1 W2 H0 λH1=>(C H1 nK 127 #[vg u0,vsl x2 x3 x4] λz W3 W4=>∃(c4 c5:OL),z=.returned (Value.func (.func 148) #[] #[vp (ab c4 0),vp (ab c5 0)])/\Fr W3 W4 H1 λH2=>(∃(own:Nat->Prop) (N:Nat) (item:Nat->List Value->Hp->Prop) (I0:List Dat->Nat->Hp->(Nat->Prop)->Prop) (Hi Ha:Hp) (Ta:Nat->Prop),xA Tryz.prog W0 M 148 [vp (ab c4 0),vp (ab c5 0)] H2 own N item I0 [] Hi Ha Ta/\(∀(k:Nat) (vals:List Value) (Wr:World) (Mr:Nat->Prop) (Ha:Hp) (Ta:Nat->Prop) (D H3:Hp),k<N->W0.heap.size<=Wr.heap.size->item k vals D->(∀b,Ta b->Mr b/\D b=none)->Ha.le H3->D.le H3->I0 [] k Ha Ta->∃(c6 c7 c8 c9 cA cB cC:Int) (cD:OL) (cE cF:Nat) (cG:Int) (cH:Bool),vals = [vi c6,vg #[vi c7,vi c8,vi c9,vi cA,vi cB,vi cC,vsl cD cE cF,vi cG,vb (cH)]]/\(∀b1:Nat,(It (cH=true) (∃(cI:OL) (cJ cK:Nat),aa H3 x1 0 [vsl cI cJ cK]/\(Ck ((0:Int)<=c6/\c6<(cJ:Int)) (Ck (cI.isSome=true) (∃(cL cM cN cO cP cQ cR cS cT:Int),aa H3 cI (0+(c6 * 9)) [vi cL,vi cM,vi cN,vi cO,vi cP,vi cQ,vi cR,vi cS,vi cT]/\(Yl' Wr Mr H3 nK x0 [vi c6,vg #[vi cL,vi cM,vi cN,vi cO,vi cP,vi cQ,vi cR,vi cS,vi cT]] λH4=>(∃(T2:Nat->Prop) (K2:Hp),K2.le H4/\I0 [] (k+1) K2 T2/\(∀b o,K2 b=some o->(∃q,Ha b=some q)\/(∃q,D b=some q)\/Wr.heap.size<=b)/\∀b,T2 b->(Ta b\/Wr.heap.size<=b)/\(∃o,K2 b=some o)/\D b=none)))))) (∃(T2:Nat->Prop) (K2:Hp),K2.le H3/\I0 [] (k+1) K2 T2/\(∀b o,K2 b=some o->(∃q,Ha b=some q)\/(∃q,D b=some q)\/Wr.heap.size<=b)/\∀b,T2 b->(Ta b\/Wr.heap.size<=b)/\(∃o,K2 b=some o)/\D b=none))))/\(∀(H3:Hp) (Ta:Nat->Prop),I0 [] N H3 Ta->T H3 nK (vt #[]))))))) :=
 Xa (hi:={loops := [(2,.iter [(false,[.int .i64]),(true,[.int .i64,.int .i64,.int .i64,.int .i64,.int .i64,.int .i64,.sl,.int .i64,.bool])] [])],funs := [(127,148,2)]}) (args := [.yl 0,.ptrO 1 (.k 0)]) (nv:=2) (e:=lk [.n x0,.p x1]) Tryz.func126
theorem uF(x0:OL)(x1 x2:Nat)(x3 x4:Int):Xw 73 #[vsl x0 x1 x2,vi x3,vi x4] λM H0 W0 _ C _ T=>(∀b0:Nat,(∀b1:Nat,(C H0 nK 97 #[vsl x0 x1 x2] λz W1 W2=>∃x5:Int,z=.returned (vi x5)/\Ext W1 W2/\(It (x5=0) (It (x3<1) (T H0 nK (vt #[vi 0,vi 3])) (It (5<x3) (T H0 nK (vt #[vi 0,vi 3])) (It (x4<1) (T H0 nK (vt #[vi 0,vi 3])) (It (60<x4) (T H0 nK (vt #[vi 0,vi 3])) (∀b2:Nat,(C H0 nK 98 #[vsl x0 x1 x2] λz W3 W4=>∃x6:OL,z=.returned (Value.func (.func 126) #[] #[vp (ab x6 0)])/\Fr W3 W4 H0 λH1=>(∃(own:Nat->Prop) (N:Nat) (item:Nat->List Value->Hp->Prop) (I0:List Dat->Nat->Hp->(Nat->Prop)->Prop) (Hi Ha:Hp) (Ta:Nat->Prop),xA Tryz.prog W0 M 126 [vp (ab x6 0)] H1 own N item I0 [.i 0] Hi Ha Ta/\(∀(k:Nat) (vals:List Value) (Wr:World) (Mr:Nat->Prop) (Ha:Hp) (Ta:Nat->Prop) (D H2:Hp),k<N->W0.heap.size<=Wr.heap.size->item k vals D->(∀b,Ta b->Mr b/\D b=none)->Ha.le H2->D.le H2->∀x7:Int,I0 [.i x7] k Ha Ta->∃(x8 x9 c0 c1 c2 c3 c4 c5 c6 c7:Int),vals = [vi x8,vg #[vi x9,vi c0,vi c1,vi c2,vi c3,vi c4,vi c5,vi c6,vi c7]]/\(∀b3:Nat,(It (c1=x3) (It (c2=x4) (Ck (ae .i64 (x7+1)) (∃(T2:Nat->Prop) (K2:Hp),K2.le H2/\I0 [.i (x7+1)] (k+1) K2 T2/\(∀b o,K2 b=some o->(∃q,Ha b=some q)\/(∃q,D b=some q)\/Wr.heap.size<=b)/\∀b,T2 b->(Ta b\/Wr.heap.size<=b)/\(∃o,K2 b=some o)/\D b=none)) (∃(T2:Nat->Prop) (K2:Hp),K2.le H2/\I0 [.i x7] (k+1) K2 T2/\(∀b o,K2 b=some o->(∃q,Ha b=some q)\/(∃q,D b=some q)\/Wr.heap.size<=b)/\∀b,T2 b->(Ta b\/Wr.heap.size<=b)/\(∃o,K2 b=some o)/\D b=none)) (∃(T2:Nat->Prop) (K2:Hp),K2.le H2/\I0 [.i x7] (k+1) K2 T2/\(∀b o,K2 b=some o->(∃q,Ha b=some q)\/(∃q,D b=some q)\/Wr.heap.size<=b)/\∀b,T2 b->(Ta b\/Wr.heap.size<=b)/\(∃o,K2 b=some o)/\D b=none))))/\(∀(H2:Hp) (Ta:Nat->Prop),∀x7:Int,I0 [.i x7] N H2 Ta->T H2 nK (vt #[vi x7,vi 0]))))))))) (T H0 nK (vt #[vi 0,vi x5])))))) :=
 Xa (hi:={loops := [(8,.iter [(false,[.int .i64]),(true,[.int .i64,.int .i64,.int .i64,.int .i64,.int .i64,.int .i64,.int .i64,.int .i64,.int .i64])] [(9,[.pt (.int .i64)])])],funs := [(98,126,1)]}) (args := [vS 0,vI 3,vI 4]) (nv:=5) (e:=lk [.p x0,.n x1,.n x2,.i x3,.i x4]) Tryz.func73
theorem Ab(x0:OL)(x1 x2:Nat):Xw 58 #[vsl x0 x1 x2] λ_ H0 _ _ C _ T=>(C H0 nK 81 #[vsl x0 x1 x2] λz W1 W2=>∃x3:Int,z=.returned (vi x3)/\Ext W1 W2/\(It (x3=0) (C H0 nK 79 #[vg #[vi 0,vi 0,vi 0,vi 0,vi 0,vi 0,Value.slice none 0 0],vsl x0 x1 x2] λz W3 W4=>∃(x4 x5 x6 x7 x8 x9:Int) (c0:OL) (c1 c2:Nat) (c3:OL) (c4 c5:Nat) (c6:OL) (c7 c8:Nat),z=.returned (vt #[vg #[vi x4,vi x5,vi x6,vi x7,vi x8,vi x9,vsl c0 c1 c2],vsl c3 c4 c5,vsl c6 c7 c8])/\Fr W3 W4 H0 λH1=>(∀b0:Nat,T H1 nK (vt #[vsl c6 c7 c8,vi 0]))) (T H0 nK (vt #[Value.slice none 0 0,vi x3])))) :=
 Xa (hi:={}) (args := [vS 0]) (nv:=3) (e:=lk [.p x0,.n x1,.n x2]) Tryz.func58
theorem A1(x0:OL)(x1 x2:Nat)(x3 x4:Int):Xw 36 #[vsl x0 x1 x2,vi x3,vi x4] λ_ H0 _ _ C _ T=>(C H0 nK 58 #[vsl x0 x1 x2] λz W1 W2=>∃(x5:OL) (x6 x7:Nat) (x8:Int),z=.returned (vt #[vsl x5 x6 x7,vi x8])/\Fr W1 W2 H0 λH1=>(It (x8=0) (C H1 nK 52 #[vi x3,vi 1,vi 5] λz W3 W4=>∃x9:Bool,z=.returned (vb (x9))/\Ext W3 W4/\(It (x9=true) (C H1 nK 52 #[vi x4,vi 1,vi 60] λz W5 W6=>∃c0:Bool,z=.returned (vb (c0))/\Ext W5 W6/\(It (c0=true) (∃(I0:List Dat->Hp->Prop) (μ0:List Dat->Nat),I0 [.n 0,.i 0] H1/\∀H2:Hp,∀(c1:Nat) (c2:Int),I0 [.n c1,.i c2] H2->(Ck (0<=(x1:Int)) (It ((c1:Int)<(x1:Int)) (Ck ((0:Int)<=(c1:Int)/\(c1:Int)<(x6:Int)) (Ck (x5.isSome=true) (∃c3:Bool,aa H2 x5 (0+((c1:Int) * 1)) [vb (c3)]/\(It (c3=true) (Ck ((0:Int)<=(c1:Int)/\(c1:Int)<(x1:Int)) (Ck (x0.isSome=true) (Ck (0<=(0+((c1:Int) * 9))) (∃c4:Int,aa H2 x0 ((0+((c1:Int) * 9))+2) [vi c4]/\(It (c4=x3) (∃c5:Int,aa H2 x0 ((0+((c1:Int) * 9))+3) [vi c5]/\(It (c5=x4) (Ck (ae .i64 (c2+1)) (Ck (ae .i64 ((c1:Int)+1)) (Ck (0<=((c1:Int)+1)) (I0 [.n (((c1:Int)+1):Int).toNat,.i (c2+1)] H2/\μ0 [.n (((c1:Int)+1):Int).toNat,.i (c2+1)]<μ0 [.n c1,.i c2])))) (Ck (ae .i64 ((c1:Int)+1)) (Ck (0<=((c1:Int)+1)) (I0 [.n (((c1:Int)+1):Int).toNat,.i c2] H2/\μ0 [.n (((c1:Int)+1):Int).toNat,.i c2]<μ0 [.n c1,.i c2]))))) (Ck (ae .i64 ((c1:Int)+1)) (Ck (0<=((c1:Int)+1)) (I0 [.n (((c1:Int)+1):Int).toNat,.i c2] H2/\μ0 [.n (((c1:Int)+1):Int).toNat,.i c2]<μ0 [.n c1,.i c2])))))))) (Ck (ae .i64 ((c1:Int)+1)) (Ck (0<=((c1:Int)+1)) (I0 [.n (((c1:Int)+1):Int).toNat,.i c2] H2/\μ0 [.n (((c1:Int)+1):Int).toNat,.i c2]<μ0 [.n c1,.i c2]))))))) (T H2 nK (vt #[vi c2,vi 0]))))) (T H1 nK (vt #[vi 0,vi 3])))) (T H1 nK (vt #[vi 0,vi 3])))) (T H1 nK (vt #[vi 0,vi x8])))) :=
 Xa (hi:={loops := [(8,.inv [(11,.nat),(10,.pt (.int .i64))] [])]}) (args := [vS 0,vI 3,vI 4]) (nv:=5) (e:=lk [.p x0,.n x1,.n x2,.i x3,.i x4]) Tryz.func36
def wn(l:List Ent)(k:Nat)(vals:List Value)(_:Hp):Prop:=∃(i:Nat) (e:Ent),(bV 0 (cp l))[k]?=some i/\l[i]?=some e/\vals = [vi (i:Int),e.val]
theorem Aj{l:List Ent}{k:Nat}{e:Ent}(h:l[k]?=some e):(cp l)[k]?=some ((aC Sta.zero (l.take k)).apply e).2.2:=by
 have hlt:=(List.getElem?_eq_some_iff.1 h).1;have h1:cp l=jA Sta.zero (l.take (k+1))++jA (aC Sta.zero (l.take (k+1))) (l.drop (k+1)):=by rw[<- nc,List.take_append_drop];rfl
 rw[h1,ul h,List.append_assoc,List.getElem?_append_right (by rw[lN,List.length_take];omega),lN,List.length_take,Nat.min_eq_left (by omega),Nat.sub_self];rfl
theorem qV:noH.cells=noH:=rfl
theorem BS(q:OL)(m d:Nat)(H:Hp):Gf Tryz.prog 98 #[vsl q m d] H λv D=>∃b:Nat,v=.func (.func 126) #[] #[.pointer (ab (some (b,0)) 0)]/\D b=some (.cells #[vsl q m d] 34 (0,0)):=λW hH=>by
 refine CO q m d noM H W _ hH λb0=>?_;exact Rt.one (b:=b0) (λW k=>k.1) λD hD=>⟨b0,rfl,hD⟩
theorem Ag{Hi:Hp}{x1 q:OL}{m d:Nat}{l:List Ent}(hl:∀e∈l,ip e)(hp:l.length<=50)(hx1:aa Hi x1 0 [vsl q m d])(hE:av Hi q m d l) :
  zM Tryz.prog 126 [.pointer (ab x1 0)] Hi (λ_=>False) (bV 0 (cp l)).length (wn l):=by
 intro yl J hround W HJ FT hHi hHJ hJ0 _ hFT;have hm:=hE.len
 have hMF:∀b,FT b->Hi b=none:=λb hb=>(hFT b hb).1;refine zu yl x1 (λb=>False\/FT b) (bE Hi HJ) W _ (mH hHi hHJ) λb0=>⟨q,m,d,hx1.mono (gm _ _),?_⟩
 refine Cl.same (Cx _) λ_ _ hx=>⟨_,_,_,_,_,_,none,0,0,rfl,Fr.none hx λH1 h1=>?_⟩
 refine Cl.fresh (wR Sta.zero none 0 0 q m d H1) ?_;rintro v W3 W4 D2 ⟨a0,a1,rfl,hne,e0,e1⟩ hx2 hD2 hf2 nn2;refine⟨some (a1,0),some (a0,0),rfl,hx2,D2,hD2,hf2,λH2 h12 hd2=>?_⟩;have hi1:Hi.le H1:=Hp.le_trans (gm _ _) h1
 have hj1:HJ.le H1:=Hp.le_trans (mS hHi hHJ) h1;have hdj:D2.le (bE Hi D2):=λj o hj=>by
  unfold bE;rw[ao (Hp.le_trans hi1 nn2.sub) (hf2 j o hj)];exact hj
 have hb2:(bE Hi D2).le H2:=λj o hj=>by
  unfold bE at hj
  split at hj
  ·rename_i o' ho';simp only[Option.some.injEq] at hj;subst hj;exact h12 j _ (hi1 j _ ho')
  ·exact hd2 j o hj
 have hsz:=nn2.mod.size;refine⟨λk=>k=a0,l.length,rK Sta.zero l a0,λv k K T=>match v with
   | []=>∃HJ',J (bV 0 ((cp l).take k)).length HJ' T/\Hp.le HJ' K/\Hi.le K/\∀b,T b->(∃o,HJ' b=some o)/\Hi b=none
   | _=>False,bE Hi D2,bE Hi HJ,FT,⟨?_,hb2,Hp.le_trans h1 h12,λb hb=>?_,λb hb=>?_,?_⟩,?_,?_⟩
 ·exact DN (n:=0) (c:=0) (p:=none) xn hl (show (0:Int)+(l.length:Int)<=50 by omega) hE (Tab.nil _ _) (Hp.le_trans hi1 nn2.sub) hf2 hne e0 e1 (gm _ _) hdj
 ·subst hb;refine⟨?_,⟨_,hdj _ _ e0⟩,.inl (Nat.le_trans hsz (hf2 b _ e0))⟩
  cases hh:bE Hi HJ b with
  | none=>rfl
  | some o=>have h3:=ag (nn2.sub b o (h1 b o hh));have h4:=hf2 b _ e0;omega
 ·obtain⟨f1,o,f2⟩:=hFT b hb;refine⟨?_,⟨o,mS hHi hHJ b o f2⟩,.inr (.inr hb)⟩;unfold bE;rw[f1]
  cases hh:D2 b with
  | none=>rfl
  | some o'=>have h3:=ag (hHJ b o f2);have h4:=hf2 b o' hh;omega
 ·exact⟨HJ,hJ0,mS hHi hHJ,gm _ _,λb hb=>⟨(hFT b hb).2,(hFT b hb).1⟩⟩
 ·intro k vals Wr Mr Ha Ta D H3 hk hsz3 ⟨hfD,e,pt,nt,ct,he,hv,hTt⟩ hTa hHa hDa ⟨HJ',hJ,hJa,hia,hF⟩;have hat:=Aj he
  refine⟨_,_,_,_,_,_,_,pt,nt,ct,_,_,hv,λb1=>⟨λhd=>?_,λhd=>?_⟩⟩
  ·rw[hd] at hat
   have hget:=xM hat
   have hlt:=(List.getElem?_eq_some_iff.1 hget).1;obtain⟨e',he',hrow,_⟩:=(hE.mono (Hp.le_trans hia hHa)).at (k:=k) (by omega)
   rw[he,Option.some.injEq] at he';subst he';refine⟨q,m,d,hx1.mono (Hp.le_trans hia hHa),⟨by omega,by omega⟩,λ_=>⟨hrow.isSome,λ_=>⟨_,_,_,_,_,_,_,_,_,hrow,?_⟩⟩⟩;intro V nV _;refine qd (J:=J ((bV 0 ((cp l).take k)).length+1)) (HJ:=HJ') (FT:=Ta) (D:=noH) (B:=Hi) nV (hround _ HJ' Ta V _ noH hlt hJ (Hp.le_trans (Hp.le_trans hJa hHa) nV.sub) ⟨k,e,hget,he,rfl⟩ (ba _) qV (λ_ _=>rfl)) (Hp.le_trans hJa hHa) (ba _) (Hp.le_trans hia hHa) (λb hb=>⟨(hF b hb).1,.inr (hTa b hb).1,(hF b hb).2⟩) ?_;intro V' HJ2 FT2 K2 hJ2 hJK2 hBK2 hF2 hJn2 hV
   classical
   obtain⟨K4,hK4a,hK4b⟩:∃K4:Hp,(∀j,((∃o,HJ2 j=some o)\/∃o,Hi j=some o)->K4 j=K2 j)/\∀j,¬((∃o,HJ2 j=some o)\/∃o,Hi j=some o)->K4 j=none :=
    ⟨λj=>if (∃o,HJ2 j=some o)\/∃o,Hi j=some o then K2 j else none,λj h=>if_pos h,λj h=>if_neg h⟩
   refine⟨FT2,K4,λj o hj=>?_,⟨HJ2,?_,λj o hj=>?_,λj o hj=>?_,λj hj=>⟨(hF2 j hj).2.2,?_⟩⟩,λj o hj=>?_,λj hj=>⟨?_,?_,?_⟩⟩
   ·by_cases h:(∃o,HJ2 j=some o)\/∃o,Hi j=some o
    ·rw[hK4a j h] at hj;exact hj
    ·rw[hK4b j h] at hj;cases hj
   ·rw[iX hat,if_pos rfl,List.length_append];exact hJ2
   ·rw[hK4a j (.inl ⟨o,hj⟩)];exact hJK2 j o hj
   ·rw[hK4a j (.inr ⟨o,hj⟩)];exact hBK2 j o hj
   ·rcases (hF2 j hj).1 with h | h
    ·exact (hF j h).2
    ·exact ao (Hp.le_trans (Hp.le_trans hia hHa) nV.sub) h
   ·by_cases h:(∃o,HJ2 j=some o)\/∃o,Hi j=some o
    ·rcases h with⟨o',h⟩ | ⟨o',h⟩
     ·by_cases h5:V.heap.size<=j
      ·exact .inr (.inr (Nat.le_trans nV.mod.size h5))
      ·cases h6:HJ' j with
       | none=>rw[hJn2 j h6 rfl (by omega)] at h;cases h
       | some o''=>exact .inl ⟨o'',hJa j o'' h6⟩
     ·exact .inl ⟨o',hia j o' h⟩
    ·rw[hK4b j h] at hj;cases hj
   ·exact (hF2 j hj).1.imp id (λh=>Nat.le_trans nV.mod.size h)
   ·obtain⟨o,ho⟩:=(hF2 j hj).2.2;exact⟨o,by rw[hK4a j (.inl ⟨o,ho⟩)];exact hJK2 j o ho⟩
   ·rcases (hF2 j hj).1 with h | h
    ·exact (hTa j h).2
    ·exact ao (Hp.le_trans hDa nV.sub) h
  ·have hd':((aC Sta.zero (l.take k)).apply e).2.2=false:=by simpa using hd
   rw[hd'] at hat
   refine⟨Ta,Ha,hHa,⟨HJ',?_,hJa,hia,hF⟩,λj o hj=>.inl ⟨o,hj⟩,λj hj=>⟨.inl hj,?_,(hTa j hj).2⟩⟩
   ·rw[iX hat,if_neg (by simp),List.append_nil];exact hJ
   ·obtain⟨o,ho⟩:=(hF j hj).1;exact⟨o,hJa j o ho⟩
 ·intro H3 Ta ⟨HJ',hJ,hJa,hia,hF⟩;rw[List.take_of_length_le (by rw[jV];exact Nat.le_refl _)] at hJ;exact λW' n' _=>⟨⟨_,rfl⟩,HJ',Ta,hJ,Hp.le_trans hJa n'.sub,n'.mod⟩
set_option maxRecDepth 100000
def FO(x:POp):List Value := [vi x.kind,vi x.key,vi x.to,vi x.n]
def Ops(H:Hp)(p:OL)(n c:Nat)(l:List POp):Prop:=n<=c/\c<=maxLen/\Rows H p n 4 (l.map FO)
theorem Ops.of_ow{H:Hp}{p:OL}{n c:Nat}{l:List POp}{g:Option Nat}(h:Ow H 82 4 p n c (l.map FO) g):Ops H p n c l:=⟨h.2.2.1,h.2.2.2.1,h.rows⟩
theorem Ops.mono{H K:Hp}{p:OL}{n c:Nat}{l:List POp}(h:Ops H p n c l)(hk:H.le K):Ops K p n c l:=⟨h.1,h.2.1,h.2.2.mono hk⟩
theorem Ops.len{H:Hp}{p:OL}{n c:Nat}{l:List POp}(h:Ops H p n c l):n=l.length:=by simpa using h.2.2.len
theorem Ops.at{H:Hp}{p:OL}{n c:Nat}{l:List POp}(h:Ops H p n c l){k:Nat}(hk:k<n):∃x:POp,l[k]?=some x/\aa H p (0+(k:Int) * 4) [vi x.kind,vi x.key,vi x.to,vi x.n]:=by
 obtain⟨row,h1,_,h3⟩:=h.2.2.at hk (off:=0+(k:Int) * 4) (by omega);rw[List.getElem?_map,Option.map_eq_some_iff] at h1;obtain⟨x,hx,rfl⟩:=h1;exact⟨x,hx,h3⟩
theorem Ops.nil(H:Hp)(p:OL):Ops H p 0 0 []:=⟨Nat.le_refl _,by simp[maxLen],Rows.nil _ _ _⟩
theorem ju.nil(H:Hp)(p:OL):ju H p 0 0 []:=⟨Nat.le_refl _,by simp[maxLen],Rows.nil _ _ _⟩
def zA(r:List Bool × Int)(v:Value)(D:Hp):Prop:=∃p n c,v=.tuple #[vsl p n c,vi r.2]/\ju D p n c r.1
section
variable{H:Hp}{p q:OL}{n c m d:Nat}{l:List Ent}
theorem nH(h:bg l≠0):zT l=([],bg l):=if_pos h
theorem pX(h:bg l=0):zT l=(cp l,0):=if_neg (by omega)
theorem rl{x y:Int}(h:bg l≠0):il l x y=(0,bg l):=if_pos h
theorem iM{x y:Int}(h:bg l=0)(h1:x<1\/5<x\/y<1\/60<y):il l x y=(0,3):=by unfold il;rw[if_neg (by omega),if_pos h1]
theorem sR{x y:Int}(h:bg l=0)(h1:¬(x<1\/5<x\/y<1\/60<y)):il l x y=(((gN l x y (bV 0 (cp l)):Nat):Int),0):=by unfold il;rw[if_neg (by omega),if_neg h1]
theorem tS(hE:av H q m d l)(x y:Int):Gv Tryz.prog 73 #[vsl q m d,vi x,vi y] H (.tuple #[vi (il l x y).1,vi (il l x y).2]):=λW hH=>by
 have hm:=hE.len;refine uF q m d x y noM H W _ hH λb0 b1=>?_;refine Cl.same (oy hE) λ_ _ hx=>⟨_,rfl,hx,λh0=>?_,λh0=>Rt.gv' (by rw[rl h0])⟩
 refine⟨λh1=>Rt.gv' (by rw[iM h0 (by omega)]),λh1=>⟨λh2=>Rt.gv' (by rw[iM h0 (by omega)]),λh2=>⟨λh3=>Rt.gv' (by rw[iM h0 (by omega)]),λh3=>⟨λh4=>Rt.gv' (by rw[iM h0 (by omega)]),λh4 b2=>?_⟩⟩⟩⟩;rw[sR h0 (by omega)];obtain⟨h50,hl⟩:=go.1 h0;refine Cl.fresh (BS q m d H) ?_;rintro v W5 W6 D2 ⟨b,rfl,hb⟩ hx2 hD2 hf2 nn2;refine⟨some (b,0),rfl,hx2,D2,hD2,hf2,λH2 hh2 hd2=>?_⟩;have hpl:=lJ (cp l) 0
 rw[jV] at hpl;refine⟨λ_=>False,(bV 0 (cp l)).length,wn l,λv k K T=>match v with
   | [.i z]=>z=((gN l x y ((bV 0 (cp l)).take k):Nat):Int)
   | _=>False,H2,noH,noT,⟨Ag hl h50 ⟨b,0,rfl,_,_,_,hd2 b _ hb,λj hj=>?_⟩ (hE.mono hh2),Hp.le_refl _,ba _,λj hj=>hj.elim,λj hj=>hj.elim,?_⟩,?_,?_⟩
 ·simp only[List.length_singleton] at hj;obtain rfl:j=0:=by omega
  exact⟨rfl,qj _⟩
 ·rfl
 ·intro k vals Wr Mr Ha Ta D3 H3 hk hsz3 ⟨i,e,hget,he,hv⟩ hTa hHa hDa z hI;have hI:z=((gN l x y ((bV 0 (cp l)).take k):Nat):Int):=hI
  have hle:=nI l x y ((bV 0 (cp l)).take k);rw[List.length_take] at hle;have hs:gN l x y ((bV 0 (cp l)).take (k+1))=gN l x y ((bV 0 (cp l)).take k)+if e.client=x/\e.seq=y then 1 else 0:=by rw[nd hget,jB he]
  refine⟨_,_,_,_,_,_,_,_,_,_,hv,λb3=>⟨λg1=>⟨λg2=>⟨in64 (by omega),λ_=>⟨noT,noH,ba _,?_,λj o hj=>(by cases hj),λj hj=>hj.elim⟩⟩,λg2=>⟨noT,noH,ba _,?_,λj o hj=>(by cases hj),λj hj=>hj.elim⟩⟩,λg1=>⟨noT,noH,ba _,?_,λj o hj=>(by cases hj),λj hj=>hj.elim⟩⟩⟩
  ·show z+1=_;rw[hs,if_pos ⟨g1,g2⟩];omega
  ·show z=_;rw[hs,if_neg (λh=>g2 h.2)];omega
  ·show z=_;rw[hs,if_neg (λh=>g1 h.1)];omega
 ·intro H3 Ta z hI;have hI:z=((gN l x y ((bV 0 (cp l)).take (bV 0 (cp l)).length):Nat):Int):=hI
  rw[List.take_length] at hI;exact Rt.gv' (by rw[hI])
theorem zp:Sta.zero.val (vsl none 0 0)=.agg #[vi 0,vi 0,vi 0,vi 0,vi 0,vi 0,Value.slice none 0 0]:=rfl
theorem AY(hE:av H q m d l):Gf Tryz.prog 58 #[vsl q m d] H (zA (zT l)):=λW hH=>by
 refine Ab q m d noM H W _ hH ?_;refine Cl.same (qT hE) λ_ _ hx=>⟨_,rfl,hx,λh0=>?_,λh0=>Rt.gfn (by rw[nH h0];exact⟨none,0,0,rfl,ju.nil _ _⟩)⟩
 obtain⟨h50,hl⟩:=go.1 h0;rw[pX h0];have hp:Sta.zero.pos+(l.length:Int)<=50:=by show (0:Int)+_<=50;omega
 have hc:=j5 (s:=Sta.zero) (p:=none) (n:=0) (c:=0) (Tab.nil H none) xn hE hl hp;rw[zp] at hc;refine Cl.fresh hc ?_;rintro v W1 W2 D ⟨p1,n1,c1,pa,ca,ga,pb,cb,gb,hv,_,_,hb⟩ hx hD hf nn;unfold cp;generalize aC Sta.zero l=fs at hv;subst hv;refine⟨_,_,_,_,_,_,p1,n1,c1,pa,_,ca,pb,_,cb,rfl,hx,D,hD,hf,λH1 h1 hd1 b2=>Rt.gfn ⟨pb,_,cb,rfl,?_⟩⟩;exact (ju.of_ow hb).mono (ai hd1 (λb o h=>Nat.le_trans nn.mod.size (hf b o h)))
theorem y6(hE:av H q m d l)(x y:Int):Gv Tryz.prog 36 #[vsl q m d,vi x,vi y] H (.tuple #[vi (il l x y).1,vi (il l x y).2]):=λW hH=>by
 have hm:=hE.len;have h63:=hE.lt63
 refine A1 q m d x y noM H W _ hH ?_;refine Cl.fresh (AY hE) ?_;rintro v W1 W2 D ⟨pb,nb,cb,rfl,hB⟩ hx hD hf nn;refine⟨pb,nb,cb,_,rfl,hx,D,hD,hf,λH1 h1 hd1=>⟨λh0=>?_,λh0=>Rt.gv' ?_⟩⟩
 ·have h00:bg l=0:=by
   by_cases hh:bg l=0
   ·exact hh
   ·rw[nH hh] at h0;exact h0
  obtain⟨h50,hl⟩:=go.1 h00;rw[pX h00] at hB;have hnb:=hB.len
  rw[jV] at hnb;have hB1:=hB.mono hd1
  refine Cl.same (bu x 1 5 H1) λ_ _ hx=>⟨_,rfl,hx,λg1=>?_,λg1=>Rt.gv' (by rw[iM h00 (by simp[inR] at g1;omega)])⟩
  refine Cl.same (bu y 1 60 H1) λ_ _ hx=>⟨_,rfl,hx,λg2=>?_,λg2=>Rt.gv' (by rw[iM h00 (by simp[inR] at g2;omega)])⟩
  rw[sR h00 (by simp[inR] at g1 g2;omega)];refine⟨λv K=>match v with
    | [.n j,.i z]=>j<=m/\H1.le K/\z=((gN l x y (bV 0 ((cp l).take j)):Nat):Int)
    | _=>False,λv=>match v with | [.n j,_]=>m-j | _=>0,⟨by omega,Hp.le_refl _,rfl⟩,?_⟩
  rintro K j z ⟨hj,hle,hz0⟩;have hz:z=((gN l x y (bV 0 ((cp l).take j)):Nat):Int):=hz0
  have ht:((j:Int)+1).toNat=j+1:=by omega
  have hml:gN l x y (bV 0 ((cp l).take j))<=50:=by
   have h2:=nI l x y (bV 0 ((cp l).take j));have h3:=lJ ((cp l).take j) 0
   rw[List.length_take] at h3;omega
  refine⟨by omega,λ_=>⟨λhlt=>⟨⟨by omega,by omega⟩,λ_=>?_⟩,λhge=>?_⟩⟩
  ·obtain⟨bx,hbx0,hat⟩:=(hB1.mono hle).at (k:=j) (by omega)
   have hbx:(cp l)[j]?=some bx:=hbx0;obtain⟨e,he,hrow,_⟩:=(((hE.mono h1).mono hle)).at (k:=j) (by omega)
   have hcl:=hrow.sub (by omega) (j:=2) (v:=vi e.client) rfl (off':=(0+(j:Int) * 9)+2) (by omega);have hsq:=hrow.sub (by omega) (j:=3) (v:=vi e.seq) rfl (off':=(0+(j:Int) * 9)+3) (by omega)
   refine⟨hat.isSome,λ_=>⟨bx,hat,λhd=>⟨⟨by omega,hlt⟩,λ_=>⟨hrow.isSome,λ_=>⟨by omega,λ_=>⟨_,hcl,λq1=>⟨_,hsq,λq2=>⟨in64 (by omega),λ_=>⟨in64 (by omega),λ_=>⟨by omega,λ_=>?_⟩⟩⟩,λq2=>⟨in64 (by omega),λ_=>⟨by omega,λ_=>?_⟩⟩⟩,λq1=>⟨in64 (by omega),λ_=>⟨by omega,λ_=>?_⟩⟩⟩⟩⟩⟩,λhd=>⟨in64 (by omega),λ_=>⟨by omega,λ_=>?_⟩⟩⟩⟩
   ·subst hd;rw[ht];refine⟨⟨by omega,hle,?_⟩,by simp only;omega⟩;rw[iX hbx,if_pos rfl,jB he,if_pos ⟨q1,q2⟩];omega
   ·subst hd;rw[ht];refine⟨⟨by omega,hle,?_⟩,by simp only;omega⟩;rw[iX hbx,if_pos rfl,jB he,if_neg (λh=>q2 h.2)];omega
   ·subst hd;rw[ht];refine⟨⟨by omega,hle,?_⟩,by simp only;omega⟩;rw[iX hbx,if_pos rfl,jB he,if_neg (λh=>q1 h.1)];omega
   ·have hd':bx=false:=by simpa using hd
    subst hd';rw[ht];refine⟨⟨by omega,hle,?_⟩,by simp only;omega⟩;rw[iX hbx,if_neg (by simp),List.append_nil];exact hz
  ·rw[List.take_of_length_le (by rw[jV];omega)] at hz;exact Rt.gv' (by rw[hz])
 ·have h00:bg l≠0:=λhh=>by rw[pX hh] at h0;exact h0 rfl
  rw[nH h00,rl h00]
end
end Go.Proofs.YtfpmcmhihhnfgaaGreatDoor
