/- Contracts: entries checked, and folded as the document says. No conditions. -/
import Derived.Test.YtfpmcmhihhnfgaaGreatDoorKF1
import Derived.Test.YtfpmcmhihhnfgaaGreatDoorKA5
set_option linter.unusedVariables false
set_option linter.unusedSimpArgs false
namespace Go.Proofs.YtfpmcmhihhnfgaaGreatDoor
open Go.RowKit
set_option maxRecDepth 100000
set_option maxHeartbeats 4000000
theorem tB(x0:OL)(x1 x2:Nat):Xw 97 #[vsl x0 x1 x2] λ_ H0 _ _ C _ T=>(Ck (0<=(x1:Int)) (It (50<(x1:Int)) (T H0 nK (vi 2)) (∃(I0:List Dat->Hp->Prop) (μ0:List Dat->Nat),I0 [.n 0] H0/\∀H1:Hp,∀x3:Nat,I0 [.n x3] H1->(It ((x3:Int)<(x1:Int)) (Ck ((0:Int)<=(x3:Int)/\(x3:Int)<(x1:Int)) (Ck (x0.isSome=true) (∃(x4 x5 x6 x7 x8 x9 c0 c1 c2:Int),aa H1 x0 (0+((x3:Int) * 9)) [vi x4,vi x5,vi x6,vi x7,vi x8,vi x9,vi c0,vi c1,vi c2]/\(∀b0:Nat,(C H1 nK 114 #[vg #[vi x4,vi x5,vi x6,vi x7,vi x8,vi x9,vi c0,vi c1,vi c2]] λz W1 W2=>∃c3:Int,z=.returned (vi c3)/\Ext W1 W2/\(It (c3=0) (Ck (ae .i64 ((x3:Int)+1)) (Ck (0<=((x3:Int)+1)) (I0 [.n (((x3:Int)+1):Int).toNat] H1/\μ0 [.n (((x3:Int)+1):Int).toNat]<μ0 [.n x3]))) (T H1 nK (vi c3)))))))) (T H1 nK (vi 0)))))) :=
 Xa (hi:={loops := [(4,.inv [(11,.nat)] [])]}) (args := [vS 0]) (nv:=3) (e:=lk [.p x0,.n x1,.n x2]) Tryz.func97
theorem yB(x0:OL)(x1 x2:Nat):Xw 81 #[vsl x0 x1 x2] λ_ H0 _ _ C _ T=>(Ck (0<=(x1:Int)) (It (50<(x1:Int)) (T H0 nK (vi 2)) (∃(I0:List Dat->Hp->Prop) (μ0:List Dat->Nat),I0 [.n 0] H0/\∀H1:Hp,∀x3:Nat,I0 [.n x3] H1->(It ((x3:Int)<(x1:Int)) (Ck ((0:Int)<=(x3:Int)/\(x3:Int)<(x1:Int)) (Ck (x0.isSome=true) (∃(x4 x5 x6 x7 x8 x9 c0 c1 c2:Int),aa H1 x0 (0+((x3:Int) * 9)) [vi x4,vi x5,vi x6,vi x7,vi x8,vi x9,vi c0,vi c1,vi c2]/\(C H1 nK 99 #[vg #[vi x4,vi x5,vi x6,vi x7,vi x8,vi x9,vi c0,vi c1,vi c2]] λz W1 W2=>∃c3:Int,z=.returned (vi c3)/\Ext W1 W2/\(It (c3=0) (Ck (ae .i64 ((x3:Int)+1)) (Ck (0<=((x3:Int)+1)) (I0 [.n (((x3:Int)+1):Int).toNat] H1/\μ0 [.n (((x3:Int)+1):Int).toNat]<μ0 [.n x3]))) (T H1 nK (vi c3))))))) (T H1 nK (vi 0)))))) :=
 Xa (hi:={loops := [(4,.inv [(3,.nat)] [])]}) (args := [vS 0]) (nv:=3) (e:=lk [.p x0,.n x1,.n x2]) Tryz.func81
theorem CD(x0 x1 x2 x3 x4 x5:Int)(x6:OL)(x7 x8:Nat)(x9:OL)(c0 c1:Nat):Xw 127 #[vg #[vi x0,vi x1,vi x2,vi x3,vi x4,vi x5,vsl x6 x7 x8],vsl x9 c0 c1] λM H0 W0 _ _ _ T=>(∀b0:Nat,(∀b1:Nat,T H0 (λW=>Kn W0 M H0 W b1 (Obj.cells #[vsl x9 c0 c1] 34 (0,0))/\Kn W0 M H0 W b0 (Obj.cells #[vi x0,vi x1,vi x2,vi x3,vi x4,vi x5,vsl x6 x7 x8] 33 (0,0))/\True) (Value.func (.func 148) #[] #[vp (some ⟨b1,0,none⟩),vp (some ⟨b0,0,none⟩)]))) :=
 Xa (hi:={funs := [(127,148,2)]}) (args := [.agg [vI 0,vI 1,vI 2,vI 3,vI 4,vI 5,vS 6],vS 9]) (nv:=12) (e:=lk [.i x0,.i x1,.i x2,.i x3,.i x4,.i x5,.p x6,.n x7,.n x8,.p x9,.n c0,.n c1]) Tryz.func127
theorem AO(x0:Nat)(x1 x2:OL):Xw 148 #[Value.func (.yield x0) #[] #[],vp (ab x1 0),vp (ab x2 0)] λM H0 W0 _ C Q T=>(∃(x3:OL) (x4 x5:Nat),aa H0 x1 0 [vsl x3 x4 x5]/\(Ck (0<=(x4:Int)) (∃(I0:List Dat->Hp->Prop) (μ0:List Dat->Nat),I0 [.n 0] H0/\∀H1:Hp,∀x6:Nat,I0 [.n x6] H1->(It ((x6:Int)<(x4:Int)) (Ck ((0:Int)<=(x6:Int)/\(x6:Int)<(x4:Int)) (Ck (x3.isSome=true) (∃(x7 x8 x9 c0 c1 c2 c3 c4 c5:Int),aa H1 x3 (0+((x6:Int) * 9)) [vi x7,vi x8,vi x9,vi c0,vi c1,vi c2,vi c3,vi c4,vi c5]/\(∀b0:Nat,(∀b1:Nat,(∃(c6 c7 c8 c9 cA cB:Int) (cC:OL) (cD cE:Nat),aa H1 x2 0 [vi c6,vi c7,vi c8,vi c9,vi cA,vi cB,vsl cC cD cE]/\(C H1 nK 115 #[vg #[vi c6,vi c7,vi c8,vi c9,vi cA,vi cB,vsl cC cD cE],vg #[vi x7,vi x8,vi x9,vi c0,vi c1,vi c2,vi c3,vi c4,vi c5]] λz W1 W2=>∃(cF cG cH cI cJ cK:Int) (cL:OL) (cM cN:Nat) (cO:Int) (cP:Bool),let u0:=#[vi cF,vi cG,vi cH,vi cI,vi cJ,vi cK,vsl cL cM cN];z=.returned (vt #[vg u0,vi cO,vb (cP)])/\Fr W1 W2 H1 λH2=>(Q H2 nK λW3=>Eo' (.storeO 33) [vp (ab x2 0),vg u0] W3 (.skip) λW4=>Tn W0 M H2 W3 W4 λH3=>(Yl' W0 M H3 nK x0 [vi (x6:Int),vg #[vi cF,vi cG,vi cH,vi cI,vi cJ,vi cK,vsl cL cM cN,vi cO,vb (cP)]] λH4=>(Ck (ae .i64 ((x6:Int)+1)) (Ck (0<=((x6:Int)+1)) (I0 [.n (((x6:Int)+1):Int).toNat] H4/\μ0 [.n (((x6:Int)+1):Int).toNat]<μ0 [.n x6])))))))))))) (T H1 nK (vt #[])))))) :=
 Xa (hi:={loops := [(1,.inv [(9,.nat)] [])]}) (args := [.yl 0,.ptrO 1 (.k 0),.ptrO 2 (.k 0)]) (nv:=3) (e:=lk [.n x0,.p x1,.p x2]) Tryz.func148
theorem EW(x0 x1 x2 x3 x4 x5:Int)(x6:OL)(x7 x8:Nat)(x9:OL)(c0 c1:Nat):Xw 116 #[vg #[vi x0,vi x1,vi x2,vi x3,vi x4,vi x5,vsl x6 x7 x8],vsl x9 c0 c1] λM H0 W0 _ C _ T=>(∀b0:Nat,(∀b1:Nat,(C H0 nK 112 #[vg #[vi x0,vi x1,vi x2,vi x3,vi x4,vi x5,vsl x6 x7 x8]] λz W1 W2=>∃(c2 c3 c4 c5 c6 c7:Int) (c8:OL) (c9 cA:Nat),let u0:=#[vi c2,vi c3,vi c4,vi c5,vi c6,vi c7,vsl c8 c9 cA];z=.returned (vg u0)/\Fr W1 W2 H0 λH1=>(C H1 nK 127 #[vg u0,vsl x9 c0 c1] λz W3 W4=>∃(cB cC:OL),z=.returned (Value.func (.func 148) #[] #[vp (ab cB 0),vp (ab cC 0)])/\Fr W3 W4 H1 λH2=>(Ck (0<=(c9:Int)) (Ck (0<=(cA:Int)) (∃(own:Nat->Prop) (N:Nat) (item:Nat->List Value->Hp->Prop) (I0:List Dat->Nat->Hp->(Nat->Prop)->Prop) (Hi Ha:Hp) (Ta:Nat->Prop),xA Tryz.prog W0 M 148 [vp (ab cB 0),vp (ab cC 0)] H2 own N item I0 [.i c2,.i c3,.i c4,.i c5,.i c6,.i c7,.p (sh c8),.n c9,.n cA] Hi Ha Ta/\(∀(k:Nat) (vals:List Value) (Wr:World) (Mr:Nat->Prop) (Ha:Hp) (Ta:Nat->Prop) (D H3:Hp),k<N->W0.heap.size<=Wr.heap.size->item k vals D->(∀b,Ta b->Mr b/\D b=none)->Ha.le H3->D.le H3->∀(cD cE cF cG cH cI:Int) (cJ:OL) (cK cL:Nat),I0 [.i cD,.i cE,.i cF,.i cG,.i cH,.i cI,.p (sh cJ),.n cK,.n cL] k Ha Ta->∃(cM cN cO cP cQ cR cS:Int) (cT:OL) (cU cV:Nat) (cW:Int) (cX:Bool),vals = [vi cM,vg #[vi cN,vi cO,vi cP,vi cQ,vi cR,vi cS,vsl cT cU cV,vi cW,vb (cX)]]/\(∀b2:Nat,(Ck (0<=(cU:Int)) (Ck (0<=(cV:Int)) (∃(T2:Nat->Prop) (K2:Hp),K2.le H3/\I0 [.i cN,.i cO,.i cP,.i cQ,.i cR,.i cS,.p (sh cT),.n cU,.n cV] (k+1) K2 T2/\(∀b o,K2 b=some o->(∃q,Ha b=some q)\/(∃q,D b=some q)\/Wr.heap.size<=b)/\∀b,T2 b->(Ta b\/Wr.heap.size<=b)/\(∃o,K2 b=some o)/\D b=none)))))/\(∀(H3:Hp) (Ta:Nat->Prop),∀(cD cE cF cG cH cI:Int) (cJ:OL) (cK cL:Nat),I0 [.i cD,.i cE,.i cF,.i cG,.i cH,.i cI,.p (sh cJ),.n cK,.n cL] N H3 Ta->T H3 nK (vg #[vi cD,vi cE,vi cF,vi cG,vi cH,vi cI,vsl cJ cK cL]))))))))) :=
 Xa (hi:={loops := [(3,.iter [(false,[.int .i64]),(true,[.int .i64,.int .i64,.int .i64,.int .i64,.int .i64,.int .i64,.sl,.int .i64,.bool])] [(2,[.pt (.int .i64),.pt (.int .i64),.pt (.int .i64),.pt (.int .i64),.pt (.int .i64),.pt (.int .i64),.pt .sl])])],funs := [(127,148,2)]}) (args := [.agg [vI 0,vI 1,vI 2,vI 3,vI 4,vI 5,vS 6],vS 9]) (nv:=12) (e:=lk [.i x0,.i x1,.i x2,.i x3,.i x4,.i x5,.p x6,.n x7,.n x8,.p x9,.n c0,.n c1]) Tryz.func116
theorem zU(x0 x1 x2 x3 x4 x5:Int)(x6:OL)(x7 x8:Nat)(x9:OL)(c0 c1:Nat):Xw 79 #[vg #[vi x0,vi x1,vi x2,vi x3,vi x4,vi x5,vsl x6 x7 x8],vsl x9 c0 c1] λM H0 W0 _ C Q T=>(∀b0:Nat,(∀b1:Nat,(C H0 nK 80 #[vg #[vi x0,vi x1,vi x2,vi x3,vi x4,vi x5,vsl x6 x7 x8]] λz W1 W2=>∃(c2 c3 c4 c5 c6 c7:Int) (c8:OL) (c9 cA:Nat),z=.returned (vg #[vi c2,vi c3,vi c4,vi c5,vi c6,vi c7,vsl c8 c9 cA])/\Fr W1 W2 H0 λH1=>(Ck (0<=(c9:Int)) (Ck (0<=(cA:Int)) (∃(I0:List Dat->Hp->Prop) (μ0:List Dat->Nat),I0 [.n 0,.p none,.n 0,.n 0,.p none,.n 0,.n 0,.i c2,.i c3,.i c4,.i c5,.i c6,.i c7,.p (sh c8),.n c9,.n cA] H1/\∀H2:Hp,∀(cB:Nat) (cC:OL) (cD cE:Nat) (cF:OL) (cG cH:Nat) (cI cJ cK cL cM cN:Int) (cO:OL) (cP cQ:Nat),I0 [.n cB,.p (sh cC),.n cD,.n cE,.p (sh cF),.n cG,.n cH,.i cI,.i cJ,.i cK,.i cL,.i cM,.i cN,.p (sh cO),.n cP,.n cQ] H2->let u0:=#[vi cI,vi cJ,vi cK,vi cL,vi cM,vi cN,vsl cO cP cQ];(Ck (0<=(c0:Int)) (It ((cB:Int)<(c0:Int)) (Ck ((0:Int)<=(cB:Int)/\(cB:Int)<(c0:Int)) (Ck (x9.isSome=true) (∃(cR cS cT cU cV cW cX cY cZ:Int),aa H2 x9 (0+((cB:Int) * 9)) [vi cR,vi cS,vi cT,vi cU,vi cV,vi cW,vi cX,vi cY,vi cZ]/\(C H2 nK 103 #[vg u0,vg #[vi cR,vi cS,vi cT,vi cU,vi cV,vi cW,vi cX,vi cY,vi cZ]] λz W3 W4=>∃(d0 d1 d2 d3 d4 d5:Int) (d6:OL) (d7 d8:Nat) (d9:Int) (dA:Bool),z=.returned (vt #[vg #[vi d0,vi d1,vi d2,vi d3,vi d4,vi d5,vsl d6 d7 d8],vi d9,vb (dA)])/\Fr W3 W4 H2 λH3=>(∀b2:Nat,(Q H3 (λW=>Kn W0 M H3 W b2 (Obj.cells #[vi d9] 3 (0,0))/\True) λW5=>∃(dB:OL) (dC dD:Nat),Eo' (.bi .append #[79,79] 79) [vsl cC cD cE,Value.slice (some ⟨b2,0,none⟩) 1 1] W5 (.value (vsl dB dC dD)) λW6=>Tn W0 M H3 W5 W6 λH4=>(∀b3:Nat,(Q H4 (λW=>Kn W0 M H4 W b3 (Obj.cells #[vb (dA)] 4 (0,0))/\True) λW7=>∃(dE:OL) (dF dG:Nat),Eo' (.bi .append #[107,107] 107) [vsl cF cG cH,Value.slice (some ⟨b3,0,none⟩) 1 1] W7 (.value (vsl dE dF dG)) λW8=>Tn W0 M H4 W7 W8 λH5=>(Ck (ae .i64 ((cB:Int)+1)) (Ck (0<=((cB:Int)+1)) (Ck (0<=(dC:Int)) (Ck (0<=(dD:Int)) (Ck (0<=(dF:Int)) (Ck (0<=(dG:Int)) (Ck (0<=(d7:Int)) (Ck (0<=(d8:Int)) (I0 [.n (((cB:Int)+1):Int).toNat,.p (sh dB),.n dC,.n dD,.p (sh dE),.n dF,.n dG,.i d0,.i d1,.i d2,.i d3,.i d4,.i d5,.p (sh d6),.n d7,.n d8] H5/\μ0 [.n (((cB:Int)+1):Int).toNat,.p (sh dB),.n dC,.n dD,.p (sh dE),.n dF,.n dG,.i d0,.i d1,.i d2,.i d3,.i d4,.i d5,.p (sh d6),.n d7,.n d8]<μ0 [.n cB,.p (sh cC),.n cD,.n cE,.p (sh cF),.n cG,.n cH,.i cI,.i cJ,.i cK,.i cL,.i cM,.i cN,.p (sh cO),.n cP,.n cQ]))))))))))))))))) (T H2 nK (vt #[vg u0,vsl cC cD cE,vsl cF cG cH])))))))))) :=
 Xa (hi:={loops := [(5,.inv [(9,.nat),(7,.pt .sl),(8,.pt .sl)] [(2,[.pt (.int .i64),.pt (.int .i64),.pt (.int .i64),.pt (.int .i64),.pt (.int .i64),.pt (.int .i64),.pt .sl])])]}) (args := [.agg [vI 0,vI 1,vI 2,vI 3,vI 4,vI 5,vS 6],vS 9]) (nv:=12) (e:=lk [.i x0,.i x1,.i x2,.i x3,.i x4,.i x5,.p x6,.n x7,.n x8,.p x9,.n c0,.n c1]) Tryz.func79
section
open Classical
section
variable{H:Hp}{p:OL}{n c:Nat}{l:List Ent}
theorem oy(hE:av H p n c l):Gv Tryz.prog 97 #[vsl p n c] H (vi (bg l)):=λW hH=>by
 have hn:=hE.len;have h63:=hE.lt63
 unfold bg;refine tB p n c noM H W _ hH ⟨by omega,λ_=>⟨λh50=>Rt.gv' (by rw[if_pos (by omega)]),λh50=>?_⟩⟩;rw[if_neg (by omega)];refine⟨λv K=>match v with | [.n j]=>j<=n/\H.le K/\gn (l.drop j)=gn l | _=>False,λv=>match v with | [.n j]=>n-j | _=>0,⟨by omega,Hp.le_refl H,by simp⟩,λK j hI=>?_⟩;obtain⟨hj,hle,hf⟩:=hI;have ht:((j:Int)+1).toNat=j+1:=by omega
 refine⟨λhlt=>⟨⟨by omega,hlt⟩,λ_=>?_⟩,λhge=>Rt.gv' ?_⟩
 ·obtain⟨e,he,hat,_⟩:=(hE.mono hle).at (k:=j) (by omega)
  rw[bB he,gn] at hf;refine⟨hat.isSome,λ_=>⟨_,_,_,_,_,_,_,_,_,hat,λb0=>Cl.same (pz e K) λ_ _ hx=>⟨_,rfl,hx,λh0=>⟨in64 (by omega),λ_=>⟨by omega,λ_=>?_⟩⟩,λh0=>Rt.gv' (by rw[<- hf,if_neg h0])⟩⟩⟩;rw[ht];exact⟨⟨by omega,hle,by rw[<- hf,if_pos h0]⟩,by simp only;omega⟩
 ·rw[<- hf,List.drop_of_length_le (by omega)];rfl
theorem qT(hE:av H p n c l):Gv Tryz.prog 81 #[vsl p n c] H (vi (bg l)):=λW hH=>by
 have hn:=hE.len;have h63:=hE.lt63
 unfold bg;refine yB p n c noM H W _ hH ⟨by omega,λ_=>⟨λh50=>Rt.gv' (by rw[if_pos (by omega)]),λh50=>?_⟩⟩;rw[if_neg (by omega)];refine⟨λv K=>match v with | [.n j]=>j<=n/\H.le K/\gn (l.drop j)=gn l | _=>False,λv=>match v with | [.n j]=>n-j | _=>0,⟨by omega,Hp.le_refl H,by simp⟩,λK j hI=>?_⟩;obtain⟨hj,hle,hf⟩:=hI;have ht:((j:Int)+1).toNat=j+1:=by omega
 refine⟨λhlt=>⟨⟨by omega,hlt⟩,λ_=>?_⟩,λhge=>Rt.gv' ?_⟩
 ·obtain⟨e,he,hat,h64⟩:=(hE.mono hle).at (k:=j) (by omega)
  rw[bB he,gn] at hf;refine⟨hat.isSome,λ_=>⟨_,_,_,_,_,_,_,_,_,hat,Cl.same (tl e h64 K) λ_ _ hx=>⟨_,rfl,hx,λh0=>⟨in64 (by omega),λ_=>⟨by omega,λ_=>?_⟩⟩,λh0=>Rt.gv' (by rw[<- hf,if_neg h0])⟩⟩⟩;rw[ht];exact⟨⟨by omega,hle,by rw[<- hf,if_pos h0]⟩,by simp only;omega⟩
 ·rw[<- hf,List.drop_of_length_le (by omega)];rfl
end
def Sta.at(s:Sta)(a b v0 v1 v2 v3:Int):Prop:=a=s.pos/\b=s.clock/\v0=s.vals.a/\v1=s.vals.b/\v2=s.vals.c/\v3=s.vals.d
theorem Tab.keep{W W':World}{g:Option Nat}{H H' D:Hp}(hu:Upd g W W' H H')(hH:H.le (ak W))(hD:D.le H)(hg:∀b,g=some b->D b=none):D.le H':=hu.keep hH hD hg
def FD(s:Sta)(l:List Ent)(v:Value)(D:Hp):Prop:=∃p n c pa ca ga pb cb gb,v=.tuple #[(aC s l).val (vsl p n c),vsl pa l.length ca,vsl pb l.length cb]/\Tab D p n c (aC s l).table/\Ow D 3 1 pa l.length ca ((kF s l).map uS) ga/\Ow D 4 1 pb l.length cb ((jA s l).map xJ) gb
theorem AE:fc Tryz.prog 4 1 1=true:=by kernel_rfl
theorem j5{H:Hp}{p q:OL}{n c m d:Nat}{s:Sta}{l:List Ent}(hT:Tab H p n c s.table)(hs:dy s)(hE:av H q m d l)(hl:∀e∈l,ip e)(hp:s.pos+l.length<=50) :
  Gf Tryz.prog 79 #[s.val (vsl p n c),vsl q m d] H (FD s l):=λW hH=>by
 have hm:=hE.len;have h63:=hE.lt63
 have hpos:=hs.pos;refine zU _ _ _ _ _ _ p n c q m d noM H W _ hH λb0 b1=>?_;refine Cl.fresh (gX hT hs.table) ?_;rintro v W1 W2 D1 ⟨p1,n1,c1,rfl,hT1⟩ hx1 hD1 hf1 nn1;refine⟨_,_,_,_,_,_,p1,n1,c1,rfl,hx1,D1,hD1,hf1,λH1 h01 hd1=>⟨by omega,λ_=>⟨by omega,λ_=>?_⟩⟩⟩;have f1:∀b o,D1 b=some o->W.heap.size<=b:=λb o h=>Nat.le_trans nn1.mod.size (hf1 b o h)
 refine⟨λv K=>match v with
   | [.n j,.p pa,.n na,.n ca,.p pb,.n nb,.n cb,.i a,.i b,.i v0,.i v1,.i v2,.i v3,.p pt,.n nt,.n ct]=>∃ga gb Dt,j<=m/\na=j/\nb=j/\H.le K/\Ow K 3 1 pa j ca ((kF s (l.take j)).map uS) ga/\Ow K 4 1 pb j cb ((jA s (l.take j)).map xJ) gb /\
     (∀b,ga=some b->W.heap.size<=b)/\(∀b,gb=some b->W.heap.size<=b)/\fu ga gb/\Hp.le Dt K/\(∀b o,Dt b=some o->W.heap.size<=b)/\(∀b,ga=some b->Dt b=none)/\(∀b,gb=some b->Dt b=none)/\(aC s (l.take j)).at a b v0 v1 v2 v3/\Tab Dt pt nt ct (aC s (l.take j)).table
   | _=>False,λv=>match v with | .n j::_=>m-j | _=>0,?_,?_⟩
 ·rw[bT];exact⟨none,none,D1,by omega,rfl,rfl,h01,Ow.nil _ _ _ _,Ow.nil _ _ _ _,(λb h=>by cases h),(λb h=>by cases h),(λb h=>by cases h),hd1,f1,(λb h=>by cases h),(λb h=>by cases h),⟨rfl,rfl,rfl,rfl,rfl,rfl⟩,hT1⟩
 intro K j pa na ca pb nb cb a b v0 v1 v2 v3 pt nt ct hI;simp only[bT] at hI |-;obtain⟨ga,gb,Dt,hj,hna,hnb,hle,oa,ob,na1,nb1,hab,hDt,fDt,da,db,⟨rfl,rfl,rfl,rfl,rfl,rfl⟩,hTt⟩:=hI;subst na;subst nb;have ht:((j:Int)+1).toNat=j+1:=by omega
 refine⟨by omega,λ_=>⟨λhlt=>⟨⟨by omega,hlt⟩,λ_=>?_⟩,λhge=>?_⟩⟩
 ·obtain⟨e,he,hat,h64⟩:=(hE.mono hle).at (k:=j) (by omega)
  obtain⟨hok,hps⟩:=pO hs hl hp (k:=j) (by omega);refine⟨hat.isSome,λ_=>⟨_,_,_,_,_,_,_,_,_,hat,?_⟩⟩;refine Cl.fresh (xv (hTt.mono hDt) hok hps (hl e (List.mem_of_getElem? he))) ?_;rintro v W3 W4 D2 ⟨p2,n2,c2,rfl,hT2⟩ hx3 hD2 hf2 nn2;refine⟨_,_,_,_,_,_,p2,n2,c2,_,_,rfl,hx3,D2,hD2,hf2,λH2 h12 hd2 b2=>?_⟩;have f2:∀b o,D2 b=some o->W.heap.size<=b:=λb o h=>Nat.le_trans nn2.mod.size (hf2 b o h)
  have oa2:=oa.mono λb _ o h=>h12 b o h;have ob2:=ob.mono λb _ o h=>h12 b o h
  have da2:∀b,ga=some b->D2 b=none:=λb hb=>by
   cases h:D2 b with
   | none=>rfl
   | some o=>have h1:=hf2 b o h;have h2:=oa.lt nn2.sub b hb;omega
  have db2:∀b,gb=some b->D2 b=none:=λb hb=>by
   cases h:D2 b with
   | none=>rfl
   | some o=>have h1:=hf2 b o h;have h2:=ob.lt nn2.sub b hb;omega
  have hH2:H.le H2:=Hp.le_trans hle h12;intro W5 n5 k5;obtain⟨r1,y1,g1,W6,H3,run1,hu1,oa3,hg1,_⟩:=aD (P:=Tryz.prog) Tryz.underlying79 fm (by omega) n5.sub oa2 (row:=uS ((aC s (l.take j)).apply e).2.1) k5.1.eq k5.1.off rfl (λv hv=>by
   simp only[uS,List.mem_singleton] at hv;subst hv;rfl) (by simp only[maxLen];omega) (by omega) 79
  refine⟨r1,j+1,y1,W6,run1,H3,hu1.own oa2 (λb hb=>.inl (na1 b hb)),λb3=>?_⟩;have ob3:=ob2.keep hu1 n5.sub (λb hb h=>hab b h hb)
  have hH3:H.le H3:=hu1.keep n5.sub hH2 (λb hb=>ao hH (na1 b hb));have hd3:D2.le H3:=hu1.keep n5.sub hd2 da2
  have na3:∀b,g1=some b->W.heap.size<=b:=λb hb=>by
   rcases hg1 with h | h
   ·exact na1 b (h▸hb)
   ·rw[h] at hb;simp only[Option.some.injEq] at hb;have:=n5.mod.size;omega
  have da3:∀b,g1=some b->D2 b=none:=λb hb=>by
   rcases hg1 with h | h
   ·exact da2 b (h▸hb)
   ·rw[h] at hb;simp only[Option.some.injEq] at hb;exact ao (Hp.le_trans hd2 n5.sub) (by omega)
  have hab3:fu g1 gb:=λb hb hb2=>by
   rcases hg1 with h | h
   ·exact hab b (h▸hb) hb2
   ·rw[h] at hb;simp only[Option.some.injEq] at hb;have:=ob2.lt n5.sub b hb2;omega
  intro W7 n7 k7;obtain⟨r2,y2,g2,W8,H4,run2,hu2,ob4,hg2,_⟩:=aD (P:=Tryz.prog) Tryz.underlying107 AE (by omega) n7.sub ob3 (row:=xJ ((aC s (l.take j)).apply e).2.2) k7.1.eq k7.1.off rfl (λv hv=>by
   simp only[xJ,List.mem_singleton] at hv;subst hv;rfl) (by simp only[maxLen];omega) (by omega) 107
  refine⟨r2,j+1,y2,W8,run2,H4,hu2.own ob3 (λb hb=>.inl (nb1 b hb)),in64 (by omega),λ_=>⟨by omega,λ_=>⟨by omega,λ_=>⟨by omega,λ_=>⟨by omega,λ_=>⟨by omega,λ_=>⟨by omega,λ_=>⟨by omega,λ_=>?_⟩⟩⟩⟩⟩⟩⟩⟩;have oa4:=oa3.keep hu2 n7.sub (λb hb h=>hab3 b hb h)
  rw[ht];refine⟨⟨g1,g2,D2,by omega,rfl,rfl,hu2.keep n7.sub hH3 (λb hb=>ao hH (nb1 b hb)),?_,?_,na3,?_,?_,hu2.keep n7.sub hd3 db2,f2,da3,?_,?_,?_⟩,by omega⟩
  ·rw[AV he,List.map_append];exact oa4
  ·rw[ul he,List.map_append];exact ob4
  ·intro b hb
   rcases hg2 with h | h
   ·exact nb1 b (h▸hb)
   ·rw[h] at hb;simp only[Option.some.injEq] at hb;have:=n7.mod.size;omega
  ·intro b hb hb2
   rcases hg2 with h | h
   ·exact hab3 b hb (h▸hb2)
   ·rw[h] at hb2;simp only[Option.some.injEq] at hb2;have:=oa3.lt n7.sub b hb;omega
  ·intro b hb
   rcases hg2 with h | h
   ·exact db2 b (h▸hb)
   ·rw[h] at hb;simp only[Option.some.injEq] at hb;exact ao (Hp.le_trans hd3 n7.sub) (by omega)
  ·rw[j6 he];exact⟨rfl,rfl,rfl,rfl,rfl,rfl⟩
  ·rw[j6 he];exact hT2
 ·have hjm:j=l.length:=by omega
  rw[hjm,List.take_length] at oa ob hTt |-;exact Rt.gfn ⟨pt,nt,ct,pa,ca,ga,pb,cb,gb,rfl,hTt.mono (ai hDt fDt),oa.new na1,ob.new nb1⟩
end
section
open Classical
theorem bM.cells{H:Hp}{p:OL}{n c:Nat}{l:List Rep}(h:bM H p n c l):bM H.cells p n c l:=⟨h.1,h.2.1,h.2.2.cells'⟩
theorem Tab.cells{H:Hp}{p:OL}{n c:Nat}{l:List Ses}(h:Tab H p n c l):Tab H.cells p n c l:=by
 obtain⟨h1,h2,rows,h3,h4⟩:=h;refine⟨h1,h2,rows,h3.cells',h4.mono λr s hr=>?_⟩;obtain⟨p,n,c,h5,h6⟩:=hr;exact⟨p,n,c,h5,h6.cells⟩
def Sta.row(s:Sta)(v:Value):List Value := [vi s.pos,vi s.clock,vi s.vals.a,vi s.vals.b,vi s.vals.c,vi s.vals.d,v]
def Dv(s:Sta)(v:Value)(a:Int)(b:Bool):Value:=.agg #[vi s.pos,vi s.clock,vi s.vals.a,vi s.vals.b,vi s.vals.c,vi s.vals.d,v,vi a,vb b]
def rK(s:Sta)(l:List Ent)(b:Nat)(k:Nat)(vals:List Value)(D:Hp):Prop:=(∀j o,D j=some o->b<j)/\∃e p n c,l[k]?=some e/\vals = [vi (k:Int),Dv (aC s (l.take (k+1))) (vsl p n c) ((aC s (l.take k)).apply e).2.1 ((aC s (l.take k)).apply e).2.2]/\Tab D p n c (aC s (l.take (k+1))).table
theorem lI:fc Tryz.prog 33 7 72=true:=by kernel_rfl
theorem zj{Hi Hr:Hp}{b:Nat}{x1:OL}{q p:OL}{m d n c:Nat}{s:Sta}{l:List Ent}(hs:dy s)(hl:∀e∈l,ip e)(hp:s.pos+l.length<=50)
  (hHr:Hr.le Hi) (hb:Hr b=none) (hx1:aa Hr x1 0 [vsl q m d]) (hE:av Hr q m d l) (hT:Tab Hr p n c s.table) (hB:Ow Hi 33 7 (some (b,0)) 1 1 [s.row (vsl p n c)] (some b)) :
  zM Tryz.prog 148 [.pointer (ab x1 0),.pointer (ab (some (b,0)) 0)] Hi (λk=>k=b) l.length (rK s l b):=by
 intro yl J hround W HJ FT hHi hHJ hJ0 hown hFT;have hm:=hE.len
 have hpos:=hs.pos;have h63:=hE.lt63
 have hBlt:b<W.heap.size:=hB.lt hHi b rfl;refine AO yl x1 (some (b,0)) (λk=>k=b\/FT k) (bE Hi HJ) W _ (mH hHi hHJ) ⟨q,m,d,(hx1.mono hHr).mono (gm _ _),by omega,λ_=>?_⟩;refine⟨λv K=>match v with
   | [.n k]=>∃(HJ':Hp) (FT':Nat->Prop) (Dt:Hp) (pt:OL) (nt ct:Nat),k<=m/\J k HJ' FT'/\HJ'.le K/\Hr.le K/\Ow K 33 7 (some (b,0)) 1 1 [(aC s (l.take k)).row (vsl pt nt ct)] (some b)/\Dt.le K/\Tab Dt pt nt ct (aC s (l.take k)).table /\
     (∀j,FT' j->(FT j\/W.heap.size<=j)/\Hr j=none/\Dt j=none/\j≠b/\∃o,HJ' j=some o)/\HJ' b=none/\Dt b=none
   | _=>False,λv=>match v with | [.n k]=>m-k | _=>0,?_,?_⟩
 ·refine⟨HJ,FT,Hr,p,n,c,by omega,hJ0,mS hHi hHJ,Hp.le_trans hHr (gm _ _),hB.mono λb _ o ho=>gm _ _ b o ho,Hp.le_trans hHr (gm _ _),hT,λj hj=>?_,(hown b rfl).1,hb⟩;obtain⟨h1,h2⟩:=hFT j hj;refine⟨.inl hj,xa hHr h1,xa hHr h1,λh=>?_,h2⟩;obtain⟨_,o,ho⟩:=hown b rfl;rw[h,ho] at h1;cases h1
 intro K k ⟨HJ',FT',Dt,pt,nt,ct,hkm,hJ,hJK,hrK,hbK,hDK,hTt,hF,hJb,hDb⟩;refine⟨λhlt=>⟨⟨by omega,hlt⟩,λ_=>?_⟩,λhge=>?_⟩
 ·obtain⟨e,he,hat,h64⟩:=(hE.mono hrK).at (k:=k) (by omega)
  obtain⟨hok,hps⟩:=pO hs hl hp (k:=k) (by omega);obtain⟨row,hrow,_,hat2⟩:=hbK.rows.at (k:=0) (by omega) (off:=0) (by simp)
  simp only[List.getElem?_cons_zero,Option.some.injEq] at hrow;subst hrow;refine⟨hat.isSome,λ_=>⟨_,_,_,_,_,_,_,_,_,hat,λb0 b1=>⟨_,_,_,_,_,_,pt,nt,ct,hat2,?_⟩⟩⟩;refine Cl.fresh (A2 (hTt.mono hDK) hok hps (hl e (List.mem_of_getElem? he))) ?_;rintro v W1 W2 D ⟨p1,n1,c1,es,g,rfl,hO,hes⟩ hx hD hf nn;refine⟨_,_,_,_,_,_,p1,n1,c1,_,_,rfl,hx,D,hD,hf,λH2 h12 hd2=>?_⟩;have hT1:=hO.tab
  rw[hes] at hT1;have hb2:=hbK.mono λb _ o ho=>h12 b o ho
  have hDb2:D b=none:=by
   cases hh:D b with
   | none=>rfl
   | some o=>have h1:=hf b o hh;have h2:=hbK.lt nn.sub b rfl;omega
  intro W3 n3 _;obtain⟨ti,z,i1,i2,i3,i4,i5,i6⟩:=aR lI;obtain⟨W4,H3,hrun,hu,hO3⟩:=dr (P:=Tryz.prog) (t:=33) i1 n3.sub hb2 (i:=0) (j:=0) (vs:=((aC s (l.take k)).apply e).1.row (vsl p1 n1 c1)) (v:=((aC s (l.take k)).apply e).1.val (vsl p1 n1 c1)) rfl rfl i3 (by simp[Sta.row]) (by simp[Sta.row]) (λu hu=>by
   simp only[Sta.row,List.mem_cons,List.not_mem_nil,or_false] at hu
   rcases hu with rfl | rfl | rfl | rfl | rfl | rfl | rfl<;>rfl) (off:=0) (by simp)
  refine⟨W4,hrun,H3,hu.own hb2 (λj hj=>.inr (.inl (by simpa using hj.symm))),?_⟩;have hg:∀{A:Hp},A b=none->∀j,some b=some j->A j=none:=λh j hj=>by simp only[Option.some.injEq] at hj;exact hj▸h
  have hJ3:HJ'.le H3:=hu.keep n3.sub (Hp.le_trans hJK h12) (hg hJb);have hr3:Hr.le H3:=hu.keep n3.sub (Hp.le_trans hrK h12) (hg hb)
  have hd3:D.le H3:=hu.keep n3.sub hd2 (hg hDb2);have hdc:D.cells.le H3:=Hp.le_trans (qk D) hd3
  intro V nV _;have hDF:∀j,FT' j->D j=none:=λj hj=>by
   obtain⟨_,_,_,_,o,ho⟩:=hF j hj
   cases hh:D j with
   | none=>rfl
   | some o'=>have h1:=hf j o' hh;have h2:=ag (nn.sub j o (hJK j o ho));omega
  obtain⟨B,hBdef⟩:∃B:Hp,B=λj=>if j=b then H3 j else bE Hr D.cells j:=⟨_,rfl⟩
  have hBb:B b=H3 b:=by rw[hBdef];simp
  have hBr:Hr.le B:=λj o hj=>by
   have hne:j≠b:=λh=>by rw[h,hb] at hj;cases hj
   rw[hBdef];simp only[if_neg hne];exact gm _ _ j o hj
  have hBd:D.cells.le B:=λj o hj=>by
   have hne:j≠b:=λh=>by rw[h,Hp.cells_none hDb2] at hj;cases hj
   rw[hBdef];simp only[if_neg hne]
   unfold bE
   cases hh:Hr j with
   | none=>exact hj
   | some o' =>
    have h1:=hf j o (qk D j o hj);have h2:=ag (nn.sub j o' (hrK j o' hh))
    omega
  have hB3:B.le H3:=λj o hj=>by
   rw[hBdef] at hj;simp only at hj
   split at hj
   ·exact hj
   ·unfold bE at hj
    split at hj
    ·rename_i o' ho';simp only[Option.some.injEq] at hj;subst hj;exact hr3 j _ ho'
    ·exact hdc j o hj
  have hBF:∀j,FT' j->B j=none:=λj hj=>by
   obtain⟨_,f2,f3,f4,_⟩:=hF j hj;rw[hBdef];simp only[if_neg f4]
   unfold bE;rw[f2];exact Hp.cells_none (hDF j hj)
  refine qd (J:=J (k+1)) (HJ:=HJ') (FT:=FT') (D:=D.cells) (B:=B) nV (hround k HJ' FT' V _ D.cells (by omega) hJ (Hp.le_trans hJ3 nV.sub) ?_ (Hp.le_trans hdc nV.sub) (tX D) (λj hj=>Hp.cells_none (hDF j hj))) hJ3 hdc hB3 (λj hj=>⟨(hF j hj).2.2.2.2,?_,hBF j hj⟩) ?_
  ·refine⟨λj o hj=>?_,e,p1,n1,c1,he,?_,?_⟩
   ·have h1:=hf j o (qk D j o hj);have h2:=hbK.lt nn.sub b rfl;omega
   ·rw[j6 he];rfl
   ·rw[j6 he];exact hT1.cells
  ·rcases (hF j hj).1 with h | h
   ·exact .inr (.inr h)
   ·exact .inl h
  intro V' HJ2 FT2 K2 hJ2 hJK2 hBK2 hF2 hJn2 hV;refine⟨in64 (by omega),λ_=>⟨by omega,λ_=>?_⟩⟩;have ht:((k:Int)+1).toNat=k+1:=by omega
  rw[ht];have hbV:b<V.heap.size:=by
   obtain⟨o,ho⟩:=hO3.held b rfl;exact ag (nV.sub b o ho)
  refine⟨⟨HJ2,FT2,D.cells,p1,n1,c1,by omega,hJ2,hJK2,Hp.le_trans hBr hBK2,?_,Hp.le_trans hBd hBK2,?_,λj hj=>?_,hJn2 b hJb (Hp.cells_none hDb2) hbV,Hp.cells_none hDb2⟩,by simp only;omega⟩
  ·rw[j6 he];have hO4:Ow B 33 7 (some (b,0)) 1 1 _ (some b):=hO3.mono λj hj o ho=>by simp only[Option.some.injEq] at hj;subst hj;rw[hBb];exact ho
   have hO5:=hO4.mono λj _ o ho=>hBK2 j o ho;simpa [fU,Sta.row] using hO5
  ·rw[j6 he];exact hT1.cells
  ·obtain⟨f1,f2,f3⟩:=hF2 j hj;have hsz:=nV.mod.size
   rcases f1 with f1 | f1
   ·obtain⟨g1,g2,g3,g4,g5⟩:=hF j f1;exact⟨g1,g2,f2,g4,f3⟩
   ·exact⟨.inr (by omega),ao (Hp.le_trans hr3 nV.sub) f1,f2,λh=>by omega,f3⟩
 ·have hkm':k=l.length:=by omega
  subst hkm';exact λW' n' _=>⟨⟨_,rfl⟩,HJ',FT',hJ,Hp.le_trans hJK n'.sub,n'.mod⟩
end
section
open Classical
def Aq(b0 b1:Nat)(o0 o1:Obj):Hp:=λk=>if k=b0 then some o0 else if k=b1 then some o1 else none
def ym(s:Sta)(v:Value)(q:OL)(m d:Nat)(w:Value)(D:Hp):Prop:=∃b0 b1:Nat,w=.func (.func 148) #[] #[.pointer (ab (some (b1,0)) 0),.pointer (ab (some (b0,0)) 0)]/\b0≠b1 /\
 D b0=some (.cells (s.row v).toArray 33 (0,0))/\D b1=some (.cells #[vsl q m d] 34 (0,0))
theorem wR(s:Sta)(p:OL)(n c:Nat)(q:OL)(m d:Nat)(H:Hp):Gf Tryz.prog 127 #[s.val (vsl p n c),vsl q m d] H (ym s (vsl p n c) q m d):=λW hH=>by
 refine CD _ _ _ _ _ _ p n c q m d noM H W _ hH λb0 b1=>λW' nn k=>?_;obtain⟨k1,k0,_⟩:=k;have hne:b0≠b1:=λh=>by
  subst h;have h1:=k0.eq
  rw[k1.eq] at h1;simp at h1
 have e0:=k0.eq;have e1:=k1.eq
 refine⟨_,Aq b0 b1 (.cells (s.row (vsl p n c)).toArray 33 (0,0)) (.cells #[vsl q m d] 34 (0,0)),rfl,nn.ext,λb o hb=>?_,λb o hb=>?_,b0,b1,rfl,hne,by unfold Aq;rw[if_pos rfl],by unfold Aq;rw[if_neg (λh=>hne h.symm),if_pos rfl]⟩
 ·unfold Aq at hb
  split at hb
  ·rename_i h;rw[h,<- hb];exact e0
  ·split at hb
   ·rename_i h;rw[h,<- hb];exact e1
   ·cases hb
 ·unfold Aq at hb
  split at hb
  ·rename_i h;rw[h];exact k0.own.elim id (λh=>h.elim)
  ·split at hb
   ·rename_i h;rw[h];exact k1.own.elim id (λh=>h.elim)
   ·cases hb
theorem DN{H D H2:Hp}{W:World}{s:Sta}{l:List Ent}{p q:OL}{n c m d b0 b1:Nat}(hs:dy s)(hl:∀e∈l,ip e)(hp:s.pos+l.length<=50)(hE:av H q m d l)(hT:Tab H p n c s.table)(hH:H.le (ak W))
  (hf:∀b o,D b=some o->W.heap.size<=b) (hne:b0≠b1) (e0:D b0=some (.cells (s.row (vsl p n c)).toArray 33 (0,0))) (e1:D b1=some (.cells #[vsl q m d] 34 (0,0))) (hH2:H.le H2) (hD2:D.le H2) :
  zM Tryz.prog 148 [.pointer (ab (some (b1,0)) 0),.pointer (ab (some (b0,0)) 0)] H2 (λk=>k=b0) l.length (rK s l b0):=by
 obtain⟨Hr,hr⟩:∃Hr:Hp,Hr=λj=>if j=b0 then none else H2 j:=⟨_,rfl⟩
 have hle:Hr.le H2:=λj o hj=>by
  rw[hr] at hj;simp only at hj
  split at hj
  ·cases hj
  ·exact hj
 have hHr:H.le Hr:=λj o hj=>by
  have h1:=ag (hH j o hj);have h2:=hf b0 _ e0
  rw[hr];simp only;rw[if_neg (by omega)];exact hH2 j o hj
 have h1r:Hr b1=some (.cells #[vsl q m d] 34 (0,0)):=by
  rw[hr];simp only;rw[if_neg (λh=>hne h.symm)];exact hD2 _ _ e1
 refine zj hs hl hp (Hr:=Hr) (q:=q) (m:=m) (d:=d) (p:=p) (n:=n) (c:=c) hle (by rw[hr];simp) ⟨b1,0,rfl,_,_,_,h1r,λj hj=>?_⟩ (hE.mono hHr) (hT.mono hHr) ?_
 ·simp only[List.length_singleton] at hj;obtain rfl:j=0:=by omega
  exact⟨rfl,qj _⟩
 ·refine⟨rfl,λr hr=>?_,Nat.le_refl _,by simp[maxLen],.inr ⟨b0,_,rfl,rfl,hD2 _ _ e0,rfl,rfl⟩⟩;simp only[List.mem_singleton] at hr;subst hr;refine⟨rfl,λv hv=>?_⟩;simp only[Sta.row,List.mem_cons,List.not_mem_nil,or_false] at hv
  rcases hv with rfl | rfl | rfl | rfl | rfl | rfl | rfl<;>rfl
def noT:Nat->Prop:=λ_=>False
theorem ph{H:Hp}{p q:OL}{n c m d:Nat}{s:Sta}{l:List Ent}(hT:Tab H p n c s.table)(hs:dy s)(hE:av H q m d l)(hl:∀e∈l,ip e)(hp:s.pos+l.length<=50) :
  Gf Tryz.prog 116 #[s.val (vsl p n c),vsl q m d] H λv D=>∃p n c,v=(aC s l).val (vsl p n c)/\Tab D p n c (aC s l).table:=λW hH=>by
 refine EW _ _ _ _ _ _ p n c q m d noM H W _ hH λb0 b1=>?_;refine Cl.fresh (kx hT (Small.of_ok hs.table)) ?_;rintro v W1 W2 D1 ⟨p1,c1,es,g,rfl,hO,hes⟩ hx hD1 hf1 nn;refine⟨_,_,_,_,_,_,p1,n,c1,rfl,hx,D1,hD1,hf1,λH1 h01 hd1=>?_⟩;have hT1:=hO.tab
 rw[hes] at hT1;refine Cl.fresh (wR s p1 n c1 q m d H1) ?_;rintro v W3 W4 D2 ⟨a0,a1,rfl,hne,e0,e1⟩ hx2 hD2 hf2 nn2;refine⟨some (a1,0),some (a0,0),rfl,hx2,D2,hD2,hf2,λH2 h12 hd2=>⟨by omega,λ_=>⟨by omega,λ_=>?_⟩⟩⟩;have ha0:W.heap.size<=a0:=Nat.le_trans nn2.mod.size (hf2 a0 _ e0)
 have f1:∀b o,D1 b=some o->W.heap.size<=b:=λb o h=>Nat.le_trans nn.mod.size (hf1 b o h);have hd0:D1 a0=none:=by
  cases hh:D1 a0 with
  | none=>rfl
  | some o=>have h1:=ag (nn2.sub a0 o (hd1 a0 o hh));have h2:=hf2 a0 _ e0;omega
 refine⟨λk=>k=a0,l.length,rK s l a0,λv k K T=>match v with
   | [.i a,.i b,.i v0,.i v1,.i v2,.i v3,.p pt,.n nt,.n ct]=>(aC s (l.take k)).at a b v0 v1 v2 v3/\Tab K pt nt ct (aC s (l.take k)).table/\∀b o,K b=some o->W.heap.size<=b
   | _=>False,H2,D1,noT,⟨DN hs hl hp (hE.mono h01) (hT1.mono hd1) nn2.sub hf2 hne e0 e1 h12 hd2,Hp.le_refl _,Hp.le_trans hd1 h12,λb hb=>?_,λb hb=>hb.elim,?_⟩,?_,?_⟩
 ·subst hb;exact⟨hd0,⟨_,hd2 _ _ e0⟩,.inl ha0⟩
 ·rw[bT];exact⟨⟨rfl,rfl,rfl,rfl,rfl,rfl⟩,hT1,f1⟩
 ·intro k vals Wr Mr Ha Ta D H3 hk hsz ⟨hfD,e,pt,nt,ct,he,hv,hTt⟩ hTa hHa hDa x23 x24 x25 x26 x27 x28 x29 x30 x31 hI;refine⟨_,_,_,_,_,_,_,pt,nt,ct,_,_,hv,λb2=>⟨by omega,λ_=>⟨by omega,λ_=>⟨noT,D,hDa,?_,λb o hb=>.inr (.inl ⟨o,hb⟩),λb hb=>hb.elim⟩⟩⟩⟩;rw[bT];exact⟨⟨rfl,rfl,rfl,rfl,rfl,rfl⟩,hTt,λj o hj=>by have:=hfD j o hj;omega⟩
 ·intro H3 Ta x23 x24 x25 x26 x27 x28 x29 x30 x31 hI;rw[bT] at hI;obtain⟨⟨rfl,rfl,rfl,rfl,rfl,rfl⟩,hTt,hn⟩:=hI;rw[List.take_length] at hTt |-;exact Rt.gfn ⟨x29,x30,x31,rfl,hTt.mono (ai (Hp.le_refl _) hn)⟩
def w9(r:Sta × List Int × Int)(v:Value)(D:Hp):Prop:=∃p n c pa na ca ga,v=.tuple #[r.1.val (vsl p n c),vsl pa na ca,vi r.2.2]/\Tab D p n c r.1.table/\Ow D 3 1 pa na ca (r.2.1.map uS) ga
theorem w9.bad(D:Hp)(x:Int):w9 (Sta.zero,[],x) (.tuple #[Sta.zero.val (Value.slice none 0 0),Value.slice none 0 0,vi x]) D:=⟨none,0,0,none,0,0,none,rfl,Tab.nil _ _,Ow.nil _ _ _ _⟩
end
end Go.Proofs.YtfpmcmhihhnfgaaGreatDoor
