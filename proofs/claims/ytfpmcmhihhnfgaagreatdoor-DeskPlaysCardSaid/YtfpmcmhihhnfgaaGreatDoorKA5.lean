/- Contract of the document's answer: an entry is applied. No conditions. -/
import Derived.Test.YtfpmcmhihhnfgaaGreatDoorKA4
set_option linter.unusedVariables false
set_option linter.unusedSimpArgs false
namespace Go.Proofs.YtfpmcmhihhnfgaaGreatDoor
open Go.RowKit
set_option maxRecDepth 100000
set_option maxHeartbeats 4000000
theorem yL(x0 x1 x2 x3 x4 x5:Int)(x6:OL)(x7 x8:Nat)(x9 c0 c1 c2 c3 c4 c5 c6 c7:Int):Xw 115 #[vg #[vi x0,vi x1,vi x2,vi x3,vi x4,vi x5,vsl x6 x7 x8],vg #[vi x9,vi c0,vi c1,vi c2,vi c3,vi c4,vi c5,vi c6,vi c7]] λM H0 W0 _ C _ T=>(∀b0:Nat,(∀b1:Nat,(∀b2:Nat,(C H0 nK 112 #[vg #[vi x0,vi x1,vi x2,vi x3,vi x4,vi x5,vsl x6 x7 x8]] λz W1 W2=>∃(c8 c9 cA cB cC cD:Int) (cE:OL) (cF cG:Nat),let u1:=#[vi c8,vi c9,vi cA,vi cB,vi cC,vi cD,vsl cE cF cG];z=.returned (vg u1)/\Fr W1 W2 H0 λH1=>(∀b3:Nat,(C H1 (λW=>Kn W0 M H1 W b3 (Obj.cells #[vp (some ⟨b0,0,none⟩),vb (false)] 197 (0,0))/\Kn W0 M H1 W b0 (Obj.cells u1 33 (0,0))/\True) 142 #[vp (some ⟨b3,0,none⟩),vg #[vi x9,vi c0,vi c1,vi c2,vi c3,vi c4,vi c5,vi c6,vi c7]] λz W3 W4=>∃(cH:Int) (cI:OL) (cJ:Bool) (cK cL cM cN cO cP:Int) (cQ:OL) (cR cS:Nat),let u0:=#[vi cK,vi cL,vi cM,vi cN,vi cO,vi cP,vsl cQ cR cS];z=.returned (vi cH)/\Bt W0 M H1 [(b3,Obj.cells #[vp (ab cI 0),vb (cJ)] 197 (0,0)),(b0,Obj.cells u0 33 (0,0))] W3 W4 λH2=>T H2 nK (vt #[vg u0,vi cH,vb (cJ)]))))))) :=
 Xa (hi:={mods := [(142,[0,100])],turns := [142]}) (args := [.agg [vI 0,vI 1,vI 2,vI 3,vI 4,vI 5,vS 6],.agg [vI 9,vI 10,vI 11,vI 12,vI 13,vI 14,vI 15,vI 16,vI 17]]) (nv:=18) (e:=lk [.i x0,.i x1,.i x2,.i x3,.i x4,.i x5,.p x6,.n x7,.n x8,.i x9,.i c0,.i c1,.i c2,.i c3,.i c4,.i c5,.i c6,.i c7]) Tryz.func115
theorem xL(x0 x1 x2 x3 x4 x5:Int)(x6:OL)(x7 x8:Nat)(x9 c0 c1 c2 c3 c4 c5 c6 c7:Int):Xw 103 #[vg #[vi x0,vi x1,vi x2,vi x3,vi x4,vi x5,vsl x6 x7 x8],vg #[vi x9,vi c0,vi c1,vi c2,vi c3,vi c4,vi c5,vi c6,vi c7]] λM H0 W0 _ C Q T=>(∀b0:Nat,(∀b1:Nat,(∀b2:Nat,(Ck (ae .i64 (x0+1)) (C H0 nK 132 #[vsl x6 x7 x8,vi (if x1<c0 then c0 else x1)] λz W1 W2=>∃(c8:OL) (c9 cA:Nat),let u0:=#[vi (x0+1),vi (if x1<c0 then c0 else x1),vi x2,vi x3,vi x4,vi x5,vsl c8 c9 cA];z=.returned (vsl c8 c9 cA)/\Fr W1 W2 H0 λH1=>(C H1 nK 133 #[vsl c8 c9 cA,vi c1] λz W3 W4=>∃cB:Int,z=.returned (vi cB)/\Ext W3 W4/\(It (x9=1) (It (0<=cB) (Ck ((0:Int)<=cB/\cB<(c9:Int)) (Ck (c8.isSome=true) (Ck (0<=(0+(cB * 4))) (Q H1 nK λW5=>Eo' (.storeO 3) [vp (ab c8 ((0+(cB * 4))+2)),vi (if x1<c0 then c0 else x1)] W5 (.skip) λW6=>Tn W0 M H1 W5 W6 λH2=>T H2 nK (vt #[vg u0,vi 0,vb (false)]))))) (Ck (0<=(c9:Int)) (It ((c9:Int)=3) (T H1 nK (vt #[vg u0,vi (-2),vb (false)])) (C H1 nK 134 #[vsl c8 c9 cA,vg #[vi c1,vi 0,vi (if x1<c0 then c0 else x1),Value.slice none 0 0]] λz W5 W6=>∃(cC:OL) (cD cE:Nat) (cF:Int),z=.returned (vt #[vsl cC cD cE,vi cF])/\Fr W5 W6 H1 λH2=>T H2 nK (vt #[vg #[vi (x0+1),vi (if x1<c0 then c0 else x1),vi x2,vi x3,vi x4,vi x5,vsl cC cD cE],vi 0,vb (false)]))))) (It (cB<0) (T H1 nK (vt #[vg u0,vi (-3),vb (false)])) (It (x9=3) (C H1 nK 104 #[vsl c8 c9 cA,vi c1] λz W5 W6=>∃(cC:OL) (cD cE:Nat),z=.returned (vsl cC cD cE)/\Fr W5 W6 H1 λH2=>T H2 nK (vt #[vg #[vi (x0+1),vi (if x1<c0 then c0 else x1),vi x2,vi x3,vi x4,vi x5,vsl cC cD cE],vi 0,vb (false)])) (Ck ((0:Int)<=cB/\cB<(c9:Int)) (Ck (c8.isSome=true) (∃(cC cD cE:Int) (cF:OL) (cG cH:Nat),aa H1 c8 (0+(cB * 4)) [vi cC,vi cD,vi cE,vsl cF cG cH]/\(∀b3:Nat,(∃(I0:List Dat->Hp->Prop) (μ0:List Dat->Nat),I0 [.n 0,.p none,.n 0,.n 0] H1/\∀H2:Hp,∀(cI:Nat) (cJ:OL) (cK cL:Nat),I0 [.n cI,.p (sh cJ),.n cK,.n cL] H2->(Ck (0<=(cG:Int)) (It ((cI:Int)<(cG:Int)) (Ck ((0:Int)<=(cI:Int)/\(cI:Int)<(cG:Int)) (Ck (cF.isSome=true) (∃cM:Int,aa H2 cF (0+((cI:Int) * 2)) [vi cM]/\(It ((if cD<c3 then c3 else cD)<cM) (∃(cN cO:Int),aa H2 cF (0+((cI:Int) * 2)) [vi cN,vi cO]/\(∀b4:Nat,(Q H2 (λW=>Kn W0 M H2 W b4 (Obj.cells #[vi cN,vi cO] 184 (0,0))/\True) λW5=>∃(cP:OL) (cQ cR:Nat),Eo' (.bi .append #[91,91] 91) [vsl cJ cK cL,Value.slice (some ⟨b4,0,none⟩) 1 1] W5 (.value (vsl cP cQ cR)) λW6=>Tn W0 M H2 W5 W6 λH3=>(Ck (ae .i64 ((cI:Int)+1)) (Ck (0<=((cI:Int)+1)) (Ck (0<=(cQ:Int)) (Ck (0<=(cR:Int)) (I0 [.n (((cI:Int)+1):Int).toNat,.p (sh cP),.n cQ,.n cR] H3/\μ0 [.n (((cI:Int)+1):Int).toNat,.p (sh cP),.n cQ,.n cR]<μ0 [.n cI,.p (sh cJ),.n cK,.n cL])))))))) (Ck (ae .i64 ((cI:Int)+1)) (Ck (0<=((cI:Int)+1)) (Ck (0<=(cK:Int)) (Ck (0<=(cL:Int)) (I0 [.n (((cI:Int)+1):Int).toNat,.p (sh cJ),.n cK,.n cL] H2/\μ0 [.n (((cI:Int)+1):Int).toNat,.p (sh cJ),.n cK,.n cL]<μ0 [.n cI,.p (sh cJ),.n cK,.n cL]))))))))) (Q H2 nK λW5=>Eo' (.storeO 93) [vp (ab c8 (0+(cB * 4))),vg #[vi cC,vi (if cD<c3 then c3 else cD),vi (if x1<c0 then c0 else x1),vsl cJ cK cL]] W5 (.skip) λW6=>Tn W0 M H2 W5 W6 λH3=>(It (c2<=(if cD<c3 then c3 else cD)) (T H3 nK (vt #[vg u0,vi (-4),vb (false)])) (∃(I1:List Dat->Hp->Prop) (μ1:List Dat->Nat),I1 [.n 0] H3/\∀H4:Hp,∀cM:Nat,I1 [.n cM] H4->(Ck (0<=(cK:Int)) (It ((cM:Int)<(cK:Int)) (Ck ((0:Int)<=(cM:Int)/\(cM:Int)<(cK:Int)) (Ck (cJ.isSome=true) (∃cN:Int,aa H4 cJ (0+((cM:Int) * 2)) [vi cN]/\(It (cN=c2) (Ck (0<=(0+((cM:Int) * 2))) (∃cO:Int,aa H4 cJ ((0+((cM:Int) * 2))+1) [vi cO]/\T H4 nK (vt #[vg u0,vi cO,vb (false)]))) (Ck (ae .i64 ((cM:Int)+1)) (Ck (0<=((cM:Int)+1)) (I1 [.n (((cM:Int)+1):Int).toNat] H4/\μ1 [.n (((cM:Int)+1):Int).toNat]<μ1 [.n cM]))))))) (Ck (ae .i64 ((if cD<c3 then c3 else cD)+3)) (It (((if cD<c3 then c3 else cD)+3)<c2) (T H4 nK (vt #[vg u0,vi (-5),vb (false)])) (C H4 nK 135 #[vg #[vi x2,vi x3,vi x4,vi x5],vg #[vi c4,vi c5,vi c6,vi c7]] λz W7 W8=>∃(cN cO cP cQ cR:Int),let u1:=#[vg #[vi (x0+1),vi (if x1<c0 then c0 else x1),vi cN,vi cO,vi cP,vi cQ,vsl c8 c9 cA],vi cR,vb (true)];z=.returned (vt #[vg #[vi cN,vi cO,vi cP,vi cQ],vi cR])/\Ext W7 W8/\(∀b4:Nat,(∃(I2:List Dat->Hp->Prop) (μ2:List Dat->Nat),I2 [.n 0] H4/\∀H5:Hp,∀cS:Nat,I2 [.n cS] H5->(It ((cS:Int)<(cK:Int)) (Ck ((0:Int)<=(cS:Int)/\(cS:Int)<(cK:Int)) (Ck (cJ.isSome=true) (∃cT:Int,aa H5 cJ (0+((cS:Int) * 2)) [vi cT]/\(It (cT<c2) (Ck (ae .i64 ((cS:Int)+1)) (Ck (0<=((cS:Int)+1)) (I2 [.n (((cS:Int)+1):Int).toNat] H5/\μ2 [.n (((cS:Int)+1):Int).toNat]<μ2 [.n cS]))) (Ck (0<=(cS:Int)) (Ck ((cS:Int)<=(cL:Int)) (Ck ((cS:Int)<=(cK:Int)) (Ck ((cK:Int)<=(cL:Int)) (∀b5:Nat,(Q H5 (λW=>Kn W0 M H5 W b5 (Obj.cells #[] 184 (0,0))/\True) λW9=>∃(cU:OL) (cV cW:Nat),Eo' (.bi .append #[91,91] 91) [Value.slice (some ⟨b5,0,none⟩) 0 0,vsl cJ cS cL] W9 (.value (vsl cU cV cW)) λW10=>Tn W0 M H5 W9 W10 λH6=>(∀b6:Nat,(Q H6 (λW=>Kn W0 M H6 W b6 (Obj.cells #[vi c2,vi cR] 184 (0,0))/\True) λW11=>∃(cX:OL) (cY cZ:Nat),Eo' (.bi .append #[91,91] 91) [vsl cU cV cW,Value.slice (some ⟨b6,0,none⟩) 1 1] W11 (.value (vsl cX cY cZ)) λW12=>Tn W0 M H6 W11 W12 λH7=>(Q H7 nK λW13=>∃(d0:OL) (d1 d2:Nat),Eo' (.bi .append #[91,91] 91) [vsl cX cY cZ,Value.slice (ab cJ (0+(if (cL:Int)=(cS:Int) then 0 else (cS:Int) * ((2:Nat):Int)))) (((cK:Int)-(cS:Int)):Int).toNat (((cL:Int)-(cS:Int)):Int).toNat] W13 (.value (vsl d0 d1 d2)) λW14=>Tn W0 M H7 W13 W14 λH8=>(Ck (0<=(0+(cB * 4))) (Q H8 nK λW15=>Eo' (.storeO 91) [vp (ab c8 ((0+(cB * 4))+3)),vsl d0 d1 d2] W15 (.skip) λW16=>Tn W0 M H8 W15 W16 λH9=>T H9 nK (vt u1)))))))))))))))) (Ck (0<=(cS:Int)) (Ck ((cS:Int)<=(cL:Int)) (Ck ((cS:Int)<=(cK:Int)) (Ck ((cK:Int)<=(cL:Int)) (∀b5:Nat,(Q H5 (λW=>Kn W0 M H5 W b5 (Obj.cells #[] 184 (0,0))/\True) λW9=>∃(cT:OL) (cU cV:Nat),Eo' (.bi .append #[91,91] 91) [Value.slice (some ⟨b5,0,none⟩) 0 0,vsl cJ cS cL] W9 (.value (vsl cT cU cV)) λW10=>Tn W0 M H5 W9 W10 λH6=>(∀b6:Nat,(Q H6 (λW=>Kn W0 M H6 W b6 (Obj.cells #[vi c2,vi cR] 184 (0,0))/\True) λW11=>∃(cW:OL) (cX cY:Nat),Eo' (.bi .append #[91,91] 91) [vsl cT cU cV,Value.slice (some ⟨b6,0,none⟩) 1 1] W11 (.value (vsl cW cX cY)) λW12=>Tn W0 M H6 W11 W12 λH7=>(Q H7 nK λW13=>∃(cZ:OL) (d0 d1:Nat),Eo' (.bi .append #[91,91] 91) [vsl cW cX cY,Value.slice (ab cJ (0+(if (cL:Int)=(cS:Int) then 0 else (cS:Int) * ((2:Nat):Int)))) (((cK:Int)-(cS:Int)):Int).toNat (((cL:Int)-(cS:Int)):Int).toNat] W13 (.value (vsl cZ d0 d1)) λW14=>Tn W0 M H7 W13 W14 λH8=>(Ck (0<=(0+(cB * 4))) (Q H8 nK λW15=>Eo' (.storeO 91) [vp (ab c8 ((0+(cB * 4))+3)),vsl cZ d0 d1] W15 (.skip) λW16=>Tn W0 M H8 W15 W16 λH9=>T H9 nK (vt u1))))))))))))))))))))))))))))))))))))))) :=
 Xa (hi:={loops := [(23,.inv [(10,.nat),(9,.pt .sl)] []),(32,.inv [(11,.nat)] []),(41,.inv [(14,.nat)] [])]}) (args := [.agg [vI 0,vI 1,vI 2,vI 3,vI 4,vI 5,vS 6],.agg [vI 9,vI 10,vI 11,vI 12,vI 13,vI 14,vI 15,vI 16,vI 17]]) (nv:=18) (e:=lk [.i x0,.i x1,.i x2,.i x3,.i x4,.i x5,.p x6,.n x7,.n x8,.i x9,.i c0,.i c1,.i c2,.i c3,.i c4,.i c5,.i c6,.i c7]) Tryz.func103
theorem Fi(x:POp){v:V4}(hx:x.err=0)(hv:v.ok=true)(H:Hp):Gv Tryz.prog 135 #[.agg #[vi v.a,vi v.b,vi v.c,vi v.d],x.vals'] H (.tuple #[.agg #[vi (x.turn v).1.a,vi (x.turn v).1.b,vi (x.turn v).1.c,vi (x.turn v).1.d],vi (x.turn v).2]):=λW _=>Fg v x.kind x.key x.to x.n W hx hv
theorem BI{l:List Ses}(h:Inc l)(x:Int):(jG x 0 l = -1/\b9 l x=false)\/(jG x 0 l=(aS l x:Int)/\b9 l x=true):=by
 rcases oD x l 0 with⟨h1,h2,_⟩ | ⟨j,s,h1,h2,h3,h4⟩
 ·exact .inl ⟨h1,h2⟩
 ·refine .inr ⟨?_,h3⟩;obtain⟨_,_,i3,_,_⟩:=ff x l h;obtain⟨u,u1,u2,u3⟩:=i3 h3;rw[h1];have he:u=s:=by rw[<- u3,h4]
  subst he;obtain⟨j1,j2⟩:=List.getElem?_eq_some_iff.1 h2;obtain⟨k1,k2⟩:=List.getElem?_eq_some_iff.1 u1;rw[Inc,List.pairwise_iff_getElem] at h
  rcases Nat.lt_trichotomy j (aS l x) with hlt | heq | hgt
  ·have:=h j _ j1 k1 hlt;rw[j2,k2] at this;omega
  ·rw[heq];congr 1;omega
  ·have:=h _ j k1 j1 hgt;rw[j2,k2] at this;omega
theorem de.set{α β:Type}{R:α->β->Prop}{l:List α}{m:List β}(h:de R l m):∀(i:Nat) {a:α} {b:β},R a b->de R (l.set i a) (m.set i b):=by
 induction h with
 | nil=>intro i a b _;exact .nil
 | cons x y l m hxy t ih =>
  intro i a b hab
  cases i with
  | zero=>exact .cons _ _ _ _ hab t
  | succ i=>exact .cons _ _ _ _ hxy (ih i hab)
theorem Out.row{W:World}{K:Hp}{p:OL}{n c:Nat}{L:List Ses}{rows:List (List Value)}{g:Option Nat}(ho:Ow K 93 4 p n c rows g)(ha:de (dz (aN W g K)) rows L){i:Nat}{s:Ses}(hs:L[i]?=some s) :
  ∃q m d,rows[i]?=some [vi s.client,vi s.acked,vi s.seen,vsl q m d]/\bM (aN W g K) q m d s.kept/\∀off:Int,off=(i:Int) * 4->aa K p off [vi s.client,vi s.acked,vi s.seen,vsl q m d]:=by
 obtain⟨row,h1,q,m,d,rfl,h2⟩:=ha.get' hs;refine⟨q,m,d,h1,h2,λoff ho'=>?_⟩;have hlt:=(List.getElem?_eq_some_iff.1 h1).1
 obtain⟨r,h3,_,h4⟩:=ho.rows.at (k:=i) (by rw[ho.1];exact hlt) (off:=off) (by omega)
 rw[h1] at h3;simp only[Option.some.injEq] at h3;subst h3;exact h4
abbrev DI(W:World)(K:Hp)(R:Ending->World->Prop)(q:OL)(a d j:Nat)(p1:OL)(i:Int)(seq val:Int)(v:Value):Prop :=
 (0<=(j:Int)/\(0<=(j:Int) ->
 ((j:Int)<=(d:Int)/\((j:Int)<=(d:Int) ->
 ((j:Int)<=(a:Int)/\((j:Int)<=(a:Int) ->
 ((a:Int)<=(d:Int)/\((a:Int)<=(d:Int) ->
 (∀b5:Nat,
 (Es W noM K (λW1=>Kn W noM K W1 b5 (Obj.cells #[] 184 (0,0))/\True) λW9=>∃x39:OL,∃x40:Nat,∃x41:Nat,Eo Tryz.prog (.bi .append #[91,91] 91) [Value.slice (some ⟨b5,0,none⟩) 0 0,vsl q j d] W9 (.value (vsl x39 x40 x41)) λW10=>Tn W noM K W9 W10 λH6 =>
 (∀b6:Nat,
 (Es W noM H6 (λW1=>Kn W noM H6 W1 b6 (Obj.cells #[vi seq,vi val] 184 (0,0))/\True) λW11=>∃x42:OL,∃x43:Nat,∃x44:Nat,Eo Tryz.prog (.bi .append #[91,91] 91) [vsl x39 x40 x41,Value.slice (some ⟨b6,0,none⟩) 1 1] W11 (.value (vsl x42 x43 x44)) λW12=>Tn W noM H6 W11 W12 λH7 =>
 (Es W noM H7 nK λW13=>∃x45:OL,∃x46:Nat,∃x47:Nat,Eo Tryz.prog (.bi .append #[91,91] 91) [vsl x42 x43 x44,Value.slice (ab q (0+(if (d:Int)=(j:Int) then 0 else (j:Int) * ((2:Nat):Int)))) (((a:Int)-(j:Int)):Int).toNat (((d:Int)-(j:Int)):Int).toNat] W13 (.value (vsl x45 x46 x47)) λW14=>Tn W noM H7 W13 W14 λH8 =>
 (0<=(0+(i * 4))/\(0<=(0+(i * 4)) ->
 (Es W noM H8 nK λW15=>Eo Tryz.prog (.storeO 91) [vp (ab p1 ((0+(i * 4))+3)),vsl x45 x46 x47] W15 (.skip) λW16=>Tn W noM H8 W15 W16 λH9 =>
 Rt R W noM H9 nK v))))))))))))))))
theorem CG{W:World}{K:Hp}{R:Ending->World->Prop}{q:OL}{a d j:Nat}{p1:OL}{i:Nat}{seq val:Int}{v:Value}{n1 c1:Nat}{L:List Ses}{rows:List (List Value)}{g:Option Nat}{s:Ses}{l:List Rep}(hH:noH.le (ak W))(ho:Ow K 93 4 p1 n1 c1 rows g)(hg:∀b,g=some b->W.heap.size<=b)(ha:de (dz (aN W g K)) rows L)(hs:L[i]?=some s)(hk:bM K q a d l)(hi:mM l)(hl:a<=1000)(hj:gR l seq=j)(hno:gI l seq=false)
  (fin:∀(H9:Hp) (rows':List (List Value)),(∀X:Hp,X.le K->(∀b,g=some b->X b=none)->X.le H9)->Ow H9 93 4 p1 n1 c1 rows' g->de (dz (aN W g H9)) rows' (L.set i { s with kept:=mO l ⟨seq,val⟩ })->Rt R W noM H9 nK v) :
  DI W K R q a d j p1 (i:Int) seq val v:=by
 have hal:=hk.len;have had:=hk.1
 have hjl:=wx l seq;obtain⟨ti,z,i1,i2,i3,i4,i5,i6⟩:=aR hZ;obtain⟨ui,uz,u1,u2,u3,u4,u5,u6⟩:=aR s7;refine⟨by omega,λ_=>⟨by omega,λ_=>⟨by omega,λ_=>⟨by omega,λ_=>λb5=>?_⟩⟩⟩⟩;intro W9 n9 k9;have hr1:Rows K q j 2 ((l.map Rep.row).take j):=hk.2.2.take j (by omega)
 obtain⟨p5,c5,g5,W10,H6,e1,t1,o1,ng1,le1⟩:=ig (P:=Tryz.prog) Tryz.underlying91 hZ (by omega) n9 (some (b5,0)) hr1 (λr hr=>nq l r (List.mem_of_mem_take hr)) (by omega) (by simp only[maxLen];omega) 91 (c:=d);refine⟨p5,j,c5,W10,e1,H6,t1,λb6 W11 n11 k11=>?_⟩;have hnew5:∀b,g5=some b->W.heap.size<=b:=λb hb=>Nat.le_trans n9.mod.size (ng1 b hb)
 have off5:∀b,g5=some b->K b=none:=λb hb=>ao n9.sub (ng1 b hb);obtain⟨p6,c6,g6,W12,H7,e2,hu2,o2,hg6,_⟩:=aD (P:=Tryz.prog) Tryz.underlying91 hZ (by omega) n11.sub o1 (row := [vi seq,vi val]) k11.1.eq k11.1.off rfl (λv hv=>by
  simp only[List.mem_cons,List.not_mem_nil,or_false] at hv
  rcases hv with rfl | rfl<;>rfl) (by simp only[maxLen];omega) (by omega) 91
 have le2:K.le H7:=hu2.keep n11.sub le1 off5;have hg6':∀b,g6=some b->W.heap.size<=b/\K b=none:=λb hb=>by
  rcases hg6 with h | h
  ·exact⟨hnew5 b (h▸hb),off5 b (h▸hb)⟩
  ·rw[h] at hb;simp only[Option.some.injEq] at hb;exact⟨by have:=n11.mod.size;omega,ao (Hp.le_trans le1 n11.sub) (by omega)⟩
 refine⟨p6,j+1,c6,W12,e2,H7,hu2.own o1 (λb hb=>.inl (hnew5 b hb)),?_⟩;intro W13 n13 _;rw[bf];have hr3:Rows H7 (bK q d j 2) (a-j) 2 ((l.map Rep.row).drop j):=(hk.2.2.tail (by omega) had).mono le2
 obtain⟨p7,c7,g7,W14,H8,e3,hu3,o3,hg7,_⟩:=bU (P:=Tryz.prog) Tryz.underlying91 i1 i2 i3 i4 i5 (by omega) n13.sub o2 hr3 (λr hr=>nq l r (List.mem_of_mem_drop hr)) (by simp only[maxLen];omega) (by omega) 91 (c2:=d-j);have le3:K.le H8:=hu3.keep n13.sub le2 (λb hb=>(hg6' b hb).2)
 have hg7':∀b,g7=some b->W.heap.size<=b/\K b=none:=λb hb=>by
  rcases hg7 with h | h
  ·exact hg6' b (h▸hb)
  ·rw[h] at hb;simp only[Option.some.injEq] at hb;exact⟨by have:=n13.mod.size;omega,ao (Hp.le_trans le2 n13.sub) (by omega)⟩
 have hput:(l.map Rep.row).take j ++ [[vi seq,vi val]]++(l.map Rep.row).drop j=(mO l ⟨seq,val⟩).map Rep.row:=by
  rw[<- ux hi (s:=⟨seq,val⟩) hno,List.map_append,List.map_cons,List.map_take,List.map_drop,hj];simp[Rep.row]
 rw[hput] at o3;refine⟨p7,j+1+(a-j),c7,W14,e3,H8,hu3.own o2 (λb hb=>.inl (hg6' b hb).1),by omega,λ_=>?_⟩;intro W15 n15 _;have ho8:Ow H8 93 4 p1 n1 c1 rows g:=ho.mono λb _ o h=>le3 b o h
 obtain⟨q0,m0,d0,hrow,_,_⟩:=Out.row ho ha hs;obtain⟨W16,H9,e4,hu4,o4⟩:=dr (P:=Tryz.prog) (t:=91) u1 n15.sub ho8 (i:=i) (j:=3) (vs := [vsl p7 (j+1+(a-j)) c7]) (v:=vsl p7 (j+1+(a-j)) c7) hrow rfl u3 (by simp) (by simp) (λu hu=>by simp only[List.mem_singleton] at hu;subst hu;rfl) (off:=0+(i:Int) * 4+3) (by omega);refine⟨W16,e4,H9,hu4.own ho8 (λb hb=>.inl (hg b hb)),fin H9 _ (λX hX hXg=>hu4.keep n15.sub (Hp.le_trans hX le3) hXg) o4 ?_⟩;have hr8:(aN W g K).le (aN W g H9):=Hp.le_trans (iO W g le3) (jM W hu4 n15.sub)
 have hgg:∀b,g7=some b->g≠some b:=λb hb h=>by
  obtain⟨o,h2⟩:=ho.held b h;rw[(hg7' b hb).2] at h2;cases h2
 refine (ha.mono λ_ _ h=>h.mono hr8).set i ⟨p7,j+1+(a-j),c7,rfl,bM.of_ow (o3.mono λb hb o h=>?_)⟩;unfold aN;rw[if_pos ⟨(hg7' b hb).1,hgg b hb⟩,hu4.same b (ag (n15.sub b o h)) (hgg b hb)];exact h
def Bf(r:Sta × Int × Bool)(v:Value)(D:Hp):Prop:=∃p n c,v=.tuple #[r.1.val (vsl p n c),vi r.2.1,vb r.2.2]/\Tab D p n c r.1.table
theorem Rt.ap{W:World}{K:Hp}{r r':Sta × Int × Bool}{p:OL}{n c:Nat}(hr:r'=r)(hT:Tab (aX W K) p n c r.1.table) :
  Rt (λz W'=>∃v D,z=.returned v/\Ext W W'/\D.le (ak W')/\(∀b o,D b=some o->W.heap.size<=b)/\Bf r' v D) W noM K nK (.tuple #[r.1.val (vsl p n c),vi r.2.1,vb r.2.2]):=by
 subst hr;exact Rt.gfn ⟨p,n,c,rfl,hT⟩
theorem Out.tab'{W:World}{K:Hp}{p:OL}{n c:Nat}{L:List Ses}{rows:List (List Value)}{g:Option Nat}(ho:Ow K 93 4 p n c rows g)(hg:∀b,g=some b->W.heap.size<=b)(ha:de (dz (aN W g K)) rows L):Tab (aX W K) p n c L :=
 (hM.fin ho ha (m7 W g K) (λb o hb=>dw W K b o (me W g K b o hb)) (vo W K) hg).tab
set_option maxRecDepth 100000 in
set_option maxHeartbeats 4000000 in
theorem xv{H:Hp}{p:OL}{n c:Nat}{s:Sta}(hT:Tab H p n c s.table)(hs:dy s)(hp:s.pos<50){e:Ent}(he:ip e):Gf Tryz.prog 103 #[s.val (vsl p n c),e.val] H (Bf (s.apply e)):=λW hH=>by
 have hpos:=hs.pos;have hck:=hs.clock
 have het:=he.time;have hsm:=Small.of_ok hs.table
 have em:(if s.clock<e.time then e.time else s.clock)=max s.clock e.time:=by omega
 refine xL s.pos s.clock s.vals.a s.vals.b s.vals.c s.vals.d p n c e.kind e.time e.client e.seq e.ack e.op.kind e.op.key e.op.to e.op.n noM H W _ hH λb0 b1 b2=>⟨in64 (by omega),λ_=>?_⟩
 rw[em];have htok:=Sta.tick_ok hs het hp
 have htck:=htok.clock;refine Cl.fresh (zz hT hsm (x:=max s.clock e.time) (by omega)) ?_;rintro v W1 W2 D ⟨p1,n1,c1,g,rfl,rows,Dk,hoD,hDk,hgk,haD⟩ hx hD hf nw1;refine⟨p1,n1,c1,rfl,hx,D,hD,hf,λH1 h01 hD1=>?_⟩;have hg:∀b,g=some b->W.heap.size<=b:=λb hb=>by
  obtain⟨o,h⟩:=hoD.held b hb;exact Nat.le_trans nw1.mod.size (hf b o h)
 have ho1:Ow H1 93 4 p1 n1 c1 rows g:=hoD.mono λb _ o h=>hD1 b o h;have ha1:de (dz (aN W g H1)) rows (s.tick e.time).table:=haD.mono λ_ _ h=>h.mono (rH (Hp.le_trans hDk hD1) (λb o h=>Nat.le_trans nw1.mod.size (hf b o (hDk b o h))) hgk)
 have hO1:Out W H1 H1 p1 n1 c1 (s.tick e.time).table:=⟨Hp.le_refl _,rows,g,ho1,hg,ha1⟩
 have hn1:=hO1.len;have hT1:Tab H1 p1 n1 c1 (s.tick e.time).table:=(Out.tab' ho1 hg ha1).mono (fW W H1)
 have hinc:=htok.table.ord;have hl3:=htok.table.len
 have htl:(s.tick e.time).clock=max s.clock e.time:=rfl;have hgK:∀b,g=some b->H b=none:=λb hb=>ao hH (hg b hb)
 refine Cl.same (Ct hT1 e.client) λ_ _ hx2=>⟨_,rfl,hx2,λhk=>?_,λhk=>?_⟩
 ·
  rcases BI hinc e.client with⟨hix,hh⟩ | ⟨hix,hh⟩
  ·rw[hix];have hh':¬b9 (s.tick e.time).table e.client=true:=by rw[hh];simp
   refine⟨λh=>absurd h (by omega),λ_=>⟨by omega,λ_=>⟨λh3=>?_,λh3=>?_⟩⟩⟩
   ·exact Rt.ap (r:=(s.tick e.time,-2,false)) (by unfold Sta.apply Sta.does;rw[if_pos hk,if_neg hh',if_pos (by omega)]) (Out.tab' ho1 hg ha1)
   ·have hse:(⟨e.client,0,max s.clock e.time,[]⟩:Ses).err=0:=aP.2 ⟨he.client,by simp only;omega,htck,rfl⟩;refine Cl.fresh (BT hT1 (s:=⟨e.client,0,max s.clock e.time,[]⟩) (q0:=none) (m0:=0) (d0:=0) ⟨Nat.le_refl _,by simp[maxLen],Rows.nil _ _ _⟩) ?_;rintro v W3 W4 D2 ⟨p2,n2,c2,rfl,hT2⟩ hx3 hD2 hf2 nw2;have hput:lR (s.tick e.time).table ⟨e.client,0,max s.clock e.time,[]⟩=(bX (s.tick e.time).table ⟨e.client,0,max s.clock e.time,[]⟩,0):=by
     unfold lR;rw[if_pos (lP.2 htok.table),if_pos hse,if_neg];rw[xq hinc,hh];simp only[Bool.false_eq_true,if_false]
     omega
    rw[hput] at hT2;refine⟨p2,n2,c2,_,rfl,hx3,D2,hD2,hf2,λH2 h12 hD3=>?_⟩;exact Rt.ap (r:=({ s.tick e.time with table:=bX (s.tick e.time).table ⟨e.client,0,max s.clock e.time,[]⟩ },0,false)) (by unfold Sta.apply Sta.does;rw[if_pos hk,if_neg hh',if_neg (by omega)];rfl) (hT2.mono (ai hD3 (λb o h=>Nat.le_trans nw2.mod.size (hf2 b o h))))
  ·rw[hix];have hpl:=mu hinc hh
   obtain⟨_,_,i3,_,_⟩:=ff e.client _ hinc;obtain⟨x,hx4,hxc,hxf⟩:=i3 hh;obtain⟨q,m,d,hrow,hq,hat⟩:=Out.row ho1 ha1 hx4;have hat0:=hat (0+(aS (s.tick e.time).table e.client:Int) * 4) (by omega)
   refine⟨λ_=>⟨⟨by omega,by omega⟩,λ_=>⟨hat0.isSome,λ_=>⟨by omega,λ_=>?_⟩⟩⟩,λh=>absurd h (by omega)⟩;intro W5 n5 _;obtain⟨ti,z,i1,i2,i4,i5,i6,i7⟩:=aR fm;obtain⟨W6,H2,hrun,hu,ho2⟩:=dr (P:=Tryz.prog) (t:=3) i1 n5.sub ho1 (i:=aS (s.tick e.time).table e.client) (j:=2) (vs := [vi (max s.clock e.time)]) (v:=vi (max s.clock e.time)) hrow rfl i4 (by simp) (by simp) (λu hu=>by simp only[List.mem_singleton] at hu;subst hu;rfl) (off:=0+(aS (s.tick e.time).table e.client:Int) * 4+2) (by omega);refine⟨W6,hrun,H2,hu.own ho1 (λb hb=>.inl (hg b hb)),?_⟩;have ha2:=(ha1.mono λ_ _ h=>h.mono (jM W hu n5.sub)).set (aS (s.tick e.time).table e.client) (a:=fU [vi x.client,vi x.acked,vi x.seen,vsl q m d] 2 [vi (max s.clock e.time)]) (b:={ x with seen:=max s.clock e.time }) ⟨q,m,d,rfl,hq.mono (jM W hu n5.sub)⟩
   have hsp:=oQ hinc (s:={ x with seen:=max s.clock e.time }) (by simp only[hxc];exact hh);simp only[hxc] at hsp;have hxe:({ x with seen:=max s.clock e.time }:Ses)=⟨e.client,x.acked,max s.clock e.time,x.kept⟩:=by rw[<- hxc]
   rw[hxe,hsp] at ha2;refine Rt.ap (r:=({ s.tick e.time with table:=bX (s.tick e.time).table ⟨e.client,x.acked,max s.clock e.time,x.kept⟩ },0,false)) ?_ (Out.tab' ho2 hg ha2);unfold Sta.apply Sta.does;rw[if_pos hk,if_pos hh,hxf,<- hxe];rfl
 ·rcases BI hinc e.client with⟨hix,hh⟩ | ⟨hix,hh⟩
  ·rw[hix];have hh':¬b9 (s.tick e.time).table e.client=true:=by rw[hh];simp
   exact⟨λ_=>Rt.ap (r:=(s.tick e.time,-3,false)) (by unfold Sta.apply Sta.does;rw[if_neg hk,if_neg hh']) (Out.tab' ho1 hg ha1),λh=>absurd (by omega) h⟩
  ·rw[hix];have hpl:=mu hinc hh
   refine⟨λh=>absurd h (by omega),λ_=>⟨λhk3=>?_,λhk3=>?_⟩⟩
   ·refine Cl.fresh (qU hT1 (Small.of_ok htok.table) e.client) ?_;rintro v W3 W4 D2 ⟨p2,n2,c2,g2,rfl,hO2⟩ hx3 hD2 hf2 nw2;refine⟨p2,n2,c2,rfl,hx3,D2,hD2,hf2,λH2 h12 hD3=>?_⟩;exact Rt.ap (r:=({ s.tick e.time with table:=fZ (s.tick e.time).table e.client },0,false)) (by unfold Sta.apply Sta.does;rw[if_neg hk,if_pos hh,if_pos hk3]) (hO2.tab.mono (ai hD3 (λb o h=>Nat.le_trans nw2.mod.size (hf2 b o h))))
   ·
    obtain⟨_,_,i3,_,_⟩:=ff e.client _ hinc;obtain⟨x,hx4,hxc,hxf⟩:=i3 hh;have hk2:e.kind=2:=by have:=he.kind;omega
    obtain⟨q1,q2,q3⟩:=he.call hk2;have hxok:=htok.table.one x (List.mem_of_getElem? hx4)
    obtain⟨x1,x2,x3,x4⟩:=aP.1 hxok;have hxk3:=jT hxok
    have em2:(if x.acked<e.ack then e.ack else x.acked)=max x.acked e.ack:=by omega
    obtain⟨q,m,d,hrow,hq,hat⟩:=Out.row ho1 ha1 hx4;have hat0:=hat (0+(aS (s.tick e.time).table e.client:Int) * 4) (by omega)
    have hq1:bM H1 q m d x.kept:=hq.mono (m7 W g H1);have hm:=hq1.len
    have hap:s.apply e=(s.tick e.time).calls (x.ack (max s.clock e.time) e.ack) e:=by
     unfold Sta.apply Sta.does;rw[if_neg hk,if_pos hh,if_neg hk3,hxf];rfl
    refine⟨⟨by omega,by omega⟩,λ_=>⟨hat0.isSome,λ_=>⟨_,_,_,q,m,d,hat0,λb3=>?_⟩⟩⟩;rw[em2];refine⟨λv K=>match v with | [.n k,.p r,.n a,.n y]=>k<=m/\H1.le K/\∃g2,Ow K 184 2 r a y (((x.kept.take k).filter λr=>decide (max x.acked e.ack<r.seq)).map Rep.row) g2/\∀b,g2=some b->W.heap.size<=b/\H1 b=none | _=>False,
     λv=>match v with | [.n k,_,_,_]=>m-k | _=>0,⟨by omega,Hp.le_refl _,none,Ow.nil _ _ _ _,λb h=>by cases h⟩,λK j r a y hI=>?_⟩
    rw[bT] at hI;obtain⟨hj,hle,g2,ho2,hg2⟩:=hI;have htn:((j:Int)+1).toNat=j+1:=by omega
    have hal:a<=3:=by
     have h1:=ho2.1;have h2:=List.length_filter_le (λr:Rep=>decide (max x.acked e.ack<r.seq)) (x.kept.take j)
     rw[List.length_map] at h1;rw[List.length_take] at h2;omega
    refine⟨by omega,λ_=>⟨λhlt=>⟨⟨by omega,hlt⟩,λ_=>?_⟩,λhge=>?_⟩⟩
    ·obtain⟨u,hu,hatr⟩:=(hq1.mono hle).at (k:=j) (by omega)
     have hatr0:=hatr (0+(j:Int) * 2) (by omega);refine⟨hatr0.1.isSome,λ_=>⟨_,hatr0.2.1,λhp=>⟨_,_,hatr0.1,λb4=>?_⟩,λhp=>?_⟩⟩
     ·intro W5 n5 k5;obtain⟨r',y',g3,W6,H3,hrun,hu3,ho3,hg3,_⟩:=aD (P:=Tryz.prog) Tryz.underlying91 hZ (by omega) n5.sub ho2 (row := [vi u.seq,vi u.val]) k5.1.eq k5.1.off rfl (λv hv=>by
       simp only[List.mem_cons,List.not_mem_nil,or_false] at hv
       rcases hv with rfl | rfl<;>rfl) (by simp only[maxLen];omega) (by omega) 91
      refine⟨r',a+1,y',W6,hrun,H3,hu3.own ho2 (λb hb=>.inl (hg2 b hb).1),in64 (by omega),λ_=>⟨by omega,λ_=>⟨by omega,λ_=>⟨by omega,λ_=>?_⟩⟩⟩⟩;rw[bT,htn];refine⟨⟨by omega,hu3.keep n5.sub hle (λb hb=>(hg2 b hb).2),g3,?_,λb hb=>?_⟩,by simp only;omega⟩
      ·rw[cq _ hu,if_pos (by simpa using hp),List.map_append];exact ho3
      ·rcases hg3 with h | h
       ·exact hg2 b (h▸hb)
       ·rw[h] at hb;simp only[Option.some.injEq] at hb;exact⟨by have:=n5.mod.size;omega,ao (Hp.le_trans hle n5.sub) (by omega)⟩
     ·refine⟨in64 (by omega),λ_=>⟨by omega,λ_=>⟨by omega,λ_=>⟨by omega,λ_=>?_⟩⟩⟩⟩;rw[bT,htn];refine⟨⟨by omega,hle,g2,?_,hg2⟩,by simp only;omega⟩;rw[cq _ hu,if_neg (by simpa using hp),List.append_nil];exact ho2
    ·have e3:x.kept.take j=x.kept:=List.take_of_length_le (by omega);rw[e3] at ho2;intro W5 n5 _;obtain⟨ti,z,i1,i2,i4,i5,i6,i7⟩:=aR js;have hoK:Ow K 93 4 p1 n1 c1 rows g:=ho1.mono λb _ o h=>hle b o h
     obtain⟨W6,H3,hrun,hu,ho3⟩:=dr (P:=Tryz.prog) (t:=93) i1 n5.sub hoK (i:=aS (s.tick e.time).table e.client) (j:=0) (vs := [vi x.client,vi (max x.acked e.ack),vi (max s.clock e.time),vsl r a y]) (v:=.agg #[vi x.client,vi (max x.acked e.ack),vi (max s.clock e.time),vsl r a y]) hrow rfl i4 (by simp) (by simp) (λu hu=>by
      simp only[List.mem_cons,List.not_mem_nil,or_false] at hu
      rcases hu with rfl | rfl | rfl | rfl<;>rfl) (off:=0+(aS (s.tick e.time).table e.client:Int) * 4) (by omega)
     have hgg:∀b,g2=some b->g≠some b:=λb hb h=>by
      obtain⟨o,h2⟩:=ho1.held b h;rw[(hg2 b hb).2] at h2;cases h2
     have hkr:bM (aN W g H3) r a y (x.ack (max s.clock e.time) e.ack).kept:=bM.of_ow (ho2.mono λb hb o h=>by
      unfold aN;rw[if_pos ⟨(hg2 b hb).1,hgg b hb⟩,hu.same b (ag (n5.sub b o h)) (hgg b hb)];exact h)
     have ha3:=(ha1.mono λ_ _ h=>h.mono (Hp.le_trans (iO W g hle) (jM W hu n5.sub))).set (aS (s.tick e.time).table e.client) (a:=fU [vi x.client,vi x.acked,vi x.seen,vsl q m d] 0 [vi x.client,vi (max x.acked e.ack),vi (max s.clock e.time),vsl r a y]) (b:=x.ack (max s.clock e.time) e.ack) ⟨r,a,y,rfl,hkr⟩;have hak:=CP hxok (clock:=max s.clock e.time) (a:=e.ack)
     have hacl:(x.ack (max s.clock e.time) e.ack).client=e.client:=hxc;have haa:(x.ack (max s.clock e.time) e.ack).acked=max x.acked e.ack:=rfl
     generalize hw:x.ack (max s.clock e.time) e.ack=w at ha3 hkr hap hak hacl haa |-;rw[<- haa] at hrun |-;have hset:∀z:Ses,z.client=e.client->(s.tick e.time).table.set (aS (s.tick e.time).table e.client) z=bX (s.tick e.time).table z:=λz hz=>by
      rw[<- hz];exact oQ hinc (by rw[hz];exact hh)
     have hput:(s.tick e.time).table.set (aS (s.tick e.time).table e.client) w=bX (s.tick e.time).table w:=hset w hacl;have haw:0<=w.acked/\w.acked<=60:=by omega
     have hkw:bM H3 r a y w.kept:=hkr.mono (m7 W g H3);have hwl:=hkw.len
     have htab:∀(X:Hp),H3.le X->Tab (aX W X) p1 n1 c1 (bX (s.tick e.time).table w):=λX hX=>by
      have:=Out.tab' (ho3.mono λb _ o h=>hX b o h) hg (ha3.mono λ_ _ h=>h.mono (iO W g hX));rw[hput] at this;exact this
     refine⟨W6,hrun,H3,hu.own hoK (λb hb=>.inl (hg b hb)),λhst=>?_,λhst=>?_⟩
     ·exact Rt.ap (r:=({ s.tick e.time with table:=bX (s.tick e.time).table w },-4,false)) (by rw[hap];unfold Sta.calls;rw[if_pos hst]) (htab H3 (Hp.le_refl _))
     ·refine⟨λv X=>match v with | [.n k]=>k<=a/\H3.le X/\∀(i:Nat) (t:Rep),i<k->w.kept[i]?=some t->t.seq≠e.seq | _=>False,λv=>match v with | [.n k]=>a-k | _=>0,⟨by omega,Hp.le_refl _,λi t h=>by omega⟩,λX k hI=>?_⟩;obtain⟨hka,hX,hno⟩:=hI;have hkn:((k:Int)+1).toNat=k+1:=by omega
      refine⟨by omega,λ_=>⟨λhlt=>⟨⟨by omega,hlt⟩,λ_=>?_⟩,λhge=>?_⟩⟩
      ·obtain⟨u,hu2,hatr⟩:=(hkw.mono hX).at (k:=k) (by omega)
       have hatr0:=hatr (0+(k:Int) * 2) (by omega);refine⟨hatr0.1.isSome,λ_=>⟨_,hatr0.2.1,λheq=>⟨by omega,λ_=>⟨_,hatr0.2.2,?_⟩⟩,λhne=>⟨in64 (by omega),λ_=>⟨by omega,λ_=>?_⟩⟩⟩⟩
       ·obtain⟨_,_,j3,_,_⟩:=jW e.seq w.kept hak;have hhk:gI w.kept e.seq=true:=by
         unfold gI;rw[List.any_eq_true];exact⟨u,List.mem_of_getElem? hu2,by simpa using heq⟩
        obtain⟨t,t1,t2,t3⟩:=j3 hhk;have htu:t=u:=by
         obtain⟨m1,m2⟩:=List.getElem?_eq_some_iff.1 t1;obtain⟨l1,l2⟩:=List.getElem?_eq_some_iff.1 hu2;rw[mM,List.pairwise_iff_getElem] at hak
         rcases Nat.lt_trichotomy k (gR w.kept e.seq) with h | h | h
         ·have:=hak k _ l1 m1 h;rw[l2,m2] at this;omega
         ·subst h;rw[t1] at hu2;simpa using hu2
         ·have:=hak _ k m1 l1 h;rw[l2,m2] at this;omega
        rw[<- htu,<- t3];exact Rt.ap (r:=({ s.tick e.time with table:=bX (s.tick e.time).table w },(jw w.kept e.seq).val,false)) (by rw[hap];unfold Sta.calls;rw[if_neg hst,if_pos hhk]) (htab X hX)
       ·rw[hkn];refine⟨⟨by omega,hX,λi t hi hit=>?_⟩,by simp only;omega⟩
        rcases Nat.lt_or_ge i k with h | h
        ·exact hno i t h hit
        ·have:i=k:=by omega
         subst this;rw[hu2] at hit;simp only[Option.some.injEq] at hit;rw[<- hit];exact hne
      ·have hhk:gI w.kept e.seq=false:=by
        unfold gI;rw[List.any_eq_false];intro t ht;obtain⟨i,hi⟩:=List.mem_iff_getElem?.1 ht;have:=(List.getElem?_eq_some_iff.1 hi).1
        have:=hno i t (by omega) hi;simpa using this
       have hhk':¬gI w.kept e.seq=true:=by rw[hhk];simp
       refine⟨in64 (by omega),λ_=>⟨λhfar=>?_,λhfar=>?_⟩⟩
       ·exact Rt.ap (r:=({ s.tick e.time with table:=bX (s.tick e.time).table w },-5,false)) (by rw[hap];unfold Sta.calls;rw[if_neg hst,if_neg hhk',if_pos hfar]) (htab X hX)
       ·refine Cl.same (Fi e.op q3 htok.vals X) λ_ _ hx5=>⟨_,_,_,_,_,rfl,hx5,λb4=>?_⟩
        generalize hr:e.op.turn (s.tick e.time).vals=t2;have tail:∀(Y:Hp) (i:Nat),i<=a->X.le Y->(∀(l:Nat) (t:Rep),l<i->w.kept[l]?=some t->t.seq<e.seq)->(∀(l:Nat) (t:Rep),i<=l->w.kept[l]?=some t->e.seq<=t.seq) ->
          DI W Y (λz W'=>∃v D,z=.returned v/\Ext W W'/\D.le (ak W')/\(∀b o,D b=some o->W.heap.size<=b)/\Bf (s.apply e) v D) r a y i p1 (aS (s.tick e.time).table e.client:Int) e.seq t2.2 (.tuple #[({ s.tick e.time with vals:=t2.1 }:Sta).val (vsl p1 n1 c1),vi t2.2,vb true]):=λY i hi hY hlow hhigh=>by
         have hpk:gR w.kept e.seq=i:=by
          rcases lV hlow hhigh (by omega) with⟨h1,_⟩ | h1
          ·exact h1
          ·exact absurd hak h1
         refine CG (ba _) (ho3.mono λb _ o h=>hY b o (hX b o h)) hg (ha3.mono λ_ _ h=>h.mono (iO W g (Hp.le_trans hX hY))) (s:=w) (by rw[List.getElem?_set_self hpl]) (hkw.mono (Hp.le_trans hX hY)) hak (by omega) hpk hhk (λH9 rows' hkeep ho9 ha9=>?_);rw[List.set_set,hset { w with kept:=mO w.kept ⟨e.seq,t2.2⟩ } hacl] at ha9;exact Rt.ap (r:=({ s.tick e.time with vals:=t2.1,table:=bX (s.tick e.time).table { w with kept:=mO w.kept ⟨e.seq,t2.2⟩ } },t2.2,true)) (by rw[hap];unfold Sta.calls;rw[if_neg hst,if_neg hhk',if_neg hfar,hr]) (Out.tab' ho9 hg ha9)
        refine⟨λv Y=>match v with | [.n i]=>i<=a/\X.le Y/\∀(l:Nat) (t:Rep),l<i->w.kept[l]?=some t->t.seq<e.seq | _=>False,λv=>match v with | [.n i]=>a-i | _=>0,⟨by omega,Hp.le_refl _,λl t h=>by omega⟩,λY i hI=>?_⟩;obtain⟨hia,hY,hlow⟩:=hI;have hin:((i:Int)+1).toNat=i+1:=by omega
        refine⟨λhlt=>⟨⟨by omega,hlt⟩,λ_=>?_⟩,λhge=>?_⟩
        ·obtain⟨u,hu2,hatr⟩:=(hkw.mono (Hp.le_trans hX hY)).at (k:=i) (by omega)
         have hatr0:=hatr (0+(i:Int) * 2) (by omega);refine⟨hatr0.1.isSome,λ_=>⟨_,hatr0.2.1,λhls=>⟨in64 (by omega),λ_=>⟨by omega,λ_=>?_⟩⟩,λhls=>?_⟩⟩
         ·rw[hin];refine⟨⟨by omega,hY,λl t hl hlt2=>?_⟩,by simp only;omega⟩
          rcases Nat.lt_or_ge l i with h | h
          ·exact hlow l t h hlt2
          ·have:l=i:=by omega
           subst this;rw[hu2] at hlt2;simp only[Option.some.injEq] at hlt2;rw[<- hlt2];exact hls
         ·refine tail Y i hia hY hlow λl t hl hlt2=>?_
          rcases Nat.eq_or_lt_of_le hl with h | h
          ·subst h;rw[hu2] at hlt2;simp only[Option.some.injEq] at hlt2;rw[<- hlt2];omega
          ·obtain⟨l1,l2⟩:=List.getElem?_eq_some_iff.1 hu2;obtain⟨m1,m2⟩:=List.getElem?_eq_some_iff.1 hlt2;rw[mM,List.pairwise_iff_getElem] at hak;have:=hak i l l1 m1 h
           rw[l2,m2] at this;omega
        ·refine tail Y i hia hY hlow λl t hl hlt2=>?_;have:=(List.getElem?_eq_some_iff.1 hlt2).1
         omega
theorem kx{H:Hp}{p:OL}{n c:Nat}{s:Sta}(hT:Tab H p n c s.table)(hs:Small s.table):Gf Tryz.prog 112 #[s.val (vsl p n c)] H λv D=>∃p' c' es g,v=s.val (vsl p' n c')/\fS D p' n c' es g/\es.map Cel.s=s.table:=λW hH=>by
 refine B2 _ _ _ _ _ _ p n c noM H W _ hH λb0 b1=>Cl.fresh (zq hT hs) ?_;rintro v W1 W2 D ⟨p',c',es,g,rfl,hO,he⟩ hx hD hf n1;exact⟨p',n,c',rfl,hx,D,hD,hf,λH1 h01 hD1=>Rt.gfn ⟨p',c',es,g,rfl,hO.mono (ai hD1 (λb o h=>Nat.le_trans n1.mod.size (hf b o h))),he⟩⟩
theorem BD{l:List Ses}(h:fy l):fZ l (-1)=l:=List.filter_eq_self.2 λx hx=>by
 have:=(aP.1 (h.one x hx)).1;simp only[ne_eq,decide_not,Bool.not_eq_eq_eq_not,Bool.not_true,decide_eq_false_iff_not]
 omega
theorem gX{H:Hp}{p:OL}{n c:Nat}{s:Sta}(hT:Tab H p n c s.table)(hs:fy s.table):Gf Tryz.prog 80 #[s.val (vsl p n c)] H λv D=>∃p' n' c',v=s.val (vsl p' n' c')/\Tab D p' n' c' s.table:=λW hH=>by
 refine uV _ _ _ _ _ _ p n c noM H W _ hH λb0 b1=>Cl.fresh (qU hT (Small.of_ok hs) (-1)) ?_;rintro v W1 W2 D ⟨p',n',c',g,rfl,hO⟩ hx hD hf n1;rw[BD hs] at hO;exact⟨p',n',c',rfl,hx,D,hD,hf,λH1 h01 hD1=>Rt.gfn ⟨p',n',c',rfl,hO.tab.mono (ai hD1 (λb o h=>Nat.le_trans n1.mod.size (hf b o h)))⟩⟩
theorem A2{H:Hp}{p:OL}{n c:Nat}{s:Sta}(hT:Tab H p n c s.table)(hs:dy s)(hp:s.pos<50){e:Ent}(he:ip e):Gf Tryz.prog 115 #[s.val (vsl p n c),e.val] H λv D=>∃p' n' c' es g,v=.tuple #[(s.apply e).1.val (vsl p' n' c'),vi (s.apply e).2.1,vb (s.apply e).2.2]/\fS D p' n' c' es g/\es.map Cel.s=(s.apply e).1.table:=λW hH=>by
 refine yL _ _ _ _ _ _ p n c _ _ _ _ _ _ _ _ _ noM H W _ hH λb0 b1 b2=>?_;refine Cl.fresh (kx hT (Small.of_ok hs.table)) ?_;rintro v W1 W2 D ⟨p1,c1,es1,g1,rfl,hO1,he1⟩ hx hD hf n1;refine⟨_,_,_,_,_,_,p1,n,c1,rfl,hx,D,hD,hf,λH1 h01 hD1 b3=>?_⟩;have hT1:=(hO1.mono hD1).tab
 rw[he1] at hT1;refine Cl.both (AZ hT1 hs hp he b3 b0) (λb hb=>hb.elim) (λW k=>⟨k.1,k.2.1⟩) (λW k h=>?_) ?_
 ·subst h;have h1:=k.1.eq
  rw[k.2.1.eq] at h1;simp at h1
 rintro v W3 W4 D0 D1 H' ⟨p2,n2,c2,es2,g2,rfl,rfl,rfl,hO2,he2,hf2⟩ n3 hd hbt;refine⟨_,some (b0,0),_,_,_,_,_,_,_,p2,n2,c2,rfl,hbt _ (Rt.gfn ⟨p2,n2,c2,es2,g2,rfl,hO2.mono' λb hb o ho=>?_,he2⟩)⟩;rw[gG]
 ·exact ho
 ·rcases hf2 b hb with h | h
  ·exact h.elim
  ·rcases hd b o ho with⟨o',h'⟩ | h'
   ·rw[h] at h';cases h'
   ·exact Nat.le_trans n3.mod.size h'
theorem Tab.nil(D:Hp)(p:OL):Tab D p 0 0 []:=(hM.nil D p).tab
end Go.Proofs.YtfpmcmhihhnfgaaGreatDoor
