/- Contracts: the document's lines, by their first word. No conditions. -/
import Derived.Test.YtfpmcmhihhnfgaaGreatDoorKZ8
set_option linter.unusedVariables false
set_option linter.unusedSimpArgs false
namespace Go.Proofs.YtfpmcmhihhnfgaaGreatDoor
open Go.RowKit
set_option maxRecDepth 100000
set_option maxHeartbeats 4000000
theorem qE(x0 x1 x2 x3 x4 x5:Int)(x6:OL)(x7 x8:Nat)(x9:OL)(c0 c1:Nat)(c2 c3 c4 c5 c6 c7:Int)(c8:OL)(c9 cA:Nat)(cB cC cD cE cF cG:Int)(cH:OL)(cI cJ:Nat)(cK cL cM cN cO cP:Int)(cQ:OL)(cR cS:Nat)(cT:OL)(cU cV:Nat)(cW:ByteArray):Xw 15 #[vg (tv x0 x1 x2 x3 x4 x5 x6 x7 x8 x9 c0 c1 c2 c3 c4 c5 c6 c7 c8 c9 cA cB cC cD cE cF cG cH cI cJ cK cL cM cN cO cP cQ cR cS cT cU cV),vs cW] λM H0 W0 _ C Q T=>let u0:=(tv x0 x1 x2 x3 x4 x5 x6 x7 x8 x9 c0 c1 c2 c3 c4 c5 c6 c7 c8 c9 cA cB cC cD cE cF cG cH cI cJ cK cL cM cN cO cP cQ cR cS cT cU cV);(∀b0:Nat,(∀b1:Nat,(C H0 nK 30 #[vs cW] λz W1 W2=>∃(cX:OL) (cY cZ:Nat),z=.returned (vsl cX cY cZ)/\Fr W1 W2 H0 λH1=>(Ck ((0:Int)<=0/\0<(cY:Int)) (Ck (cX.isSome=true) (∃d0:ByteArray,aa H1 cX (0+(0 * 1)) [vs d0]/\(Q H1 nK λW3=>Eo' (.bop .eql 9 (.tmp 26) (.const (vM))) [vs d0,vM] W3 (.value (vb (true))) λW4=>Ext W3 W4/\(Ck (0<=(cY:Int)) (It ((cY:Int)=8) (Ck (1<=(cY:Int)) (Ck ((cY:Int)<=(cZ:Int)) (C H1 nK 31 #[vg u0,Value.slice (ab cX (0+(if (cZ:Int)=1 then 0 else 1 * ((1:Nat):Int)))) (((cY:Int)-1):Int).toNat (((cZ:Int)-1):Int).toNat] λz W5 W6=>eU λt0=>∃(dC:ByteArray) (dD:Int),let u1:=#[vg t0,vs dC,vi dD];z=.returned (vt u1)/\Fr W5 W6 H1 λH2=>T H2 nK (vt u1)))) (∃(I0:List Dat->Hp->Prop) (μ0:List Dat->Nat),I0 [.n 1,.p none,.n 0,.n 0] H1/\∀H2:Hp,∀(d1:Nat) (d2:OL) (d3 d4:Nat),I0 [.n d1,.p (sh d2),.n d3,.n d4] H2->(It ((d1:Int)<(cY:Int)) (Ck ((0:Int)<=(d1:Int)/\(d1:Int)<(cY:Int)) (∃d5:ByteArray,aa H2 cX (0+((d1:Int) * 1)) [vs d5]/\(C H2 nK 32 #[vs d5] λz W5 W6=>∃d6:Int,z=.returned (vi d6)/\Ext W5 W6/\(∀b2:Nat,(Q H2 (λW=>Kn W0 M H2 W b2 (Obj.cells #[vi d6] 3 (0,0))/\True) λW7=>∃(d7:OL) (d8 d9:Nat),Eo' (.bi .append #[79,79] 79) [vsl d2 d3 d4,Value.slice (some ⟨b2,0,none⟩) 1 1] W7 (.value (vsl d7 d8 d9)) λW8=>Tn W0 M H2 W7 W8 λH3=>(Ck (ae .i64 ((d1:Int)-1)) (Ck ((0:Int)<=((d1:Int)-1)/\((d1:Int)-1)<(d8:Int)) (Ck (d7.isSome=true) (∃dA:Int,aa H3 d7 (0+(((d1:Int)-1) * 1)) [vi dA]/\(It (dA<0) (T H3 nK (vt #[vg u0,vA,vi 1])) (Ck (ae .i64 ((d1:Int)+1)) (Ck (0<=((d1:Int)+1)) (Ck (0<=(d8:Int)) (Ck (0<=(d9:Int)) (I0 [.n (((d1:Int)+1):Int).toNat,.p (sh d7),.n d8,.n d9] H3/\μ0 [.n (((d1:Int)+1):Int).toNat,.p (sh d7),.n d8,.n d9]<μ0 [.n d1,.p (sh d2),.n d3,.n d4]))))))))))))))) (∃d5:ByteArray,aa H2 cX (0+(0 * 1)) [vs d5]/\(Q H2 nK λW5=>Eo' (.bop .eql 9 (.tmp 64) (.const (vG))) [vs d5,vG] W5 (.value (vb (false))) λW6=>Ext W5 W6/\(∃d6:ByteArray,aa H2 cX (0+(0 * 1)) [vs d6]/\(Q H2 nK λW7=>Eo' (.bop .eql 9 (.tmp 86) (.const (vJ))) [vs d6,vJ] W7 (.value (vb (false))) λW8=>Ext W7 W8/\(∃d7:ByteArray,aa H2 cX (0+(0 * 1)) [vs d7]/\(Q H2 nK λW9=>Eo' (.bop .eql 9 (.tmp 108) (.const (vH))) [vs d7,vH] W9 (.value (vb (false))) λW10=>Ext W9 W10/\(∃d8:ByteArray,aa H2 cX (0+(0 * 1)) [vs d8]/\(Q H2 nK λW11=>Eo' (.bop .eql 9 (.tmp 141) (.const (vK))) [vs d8,vK] W11 (.value (vb (false))) λW12=>Ext W11 W12/\(∃d9:ByteArray,aa H2 cX (0+(0 * 1)) [vs d9]/\(Q H2 nK λW13=>Eo' (.bop .eql 9 (.tmp 165) (.const (vF))) [vs d9,vF] W13 (.value (vb (false))) λW14=>Ext W13 W14/\(∃dA:ByteArray,aa H2 cX (0+(0 * 1)) [vs dA]/\(Q H2 nK λW15=>Eo' (.bop .eql 9 (.tmp 191) (.const (vC))) [vs dA,vC] W15 (.value (vb (false))) λW16=>Ext W15 W16/\(∃dB:ByteArray,aa H2 cX (0+(0 * 1)) [vs dB]/\(Q H2 nK λW17=>Eo' (.bop .eql 9 (.tmp 196) (.const (vN))) [vs dB,vN] W17 (.value (vb (false))) λW18=>Ext W17 W18/\T H2 nK (vt #[vg u0,vA,vi 1])))))))))))))))))))))))))) :=
 Xa (hi:={loops := [(6,.inv [(9,.nat),(8,.pt .sl)] []),(33,.unroll 5),(39,.inv [(21,.nat),(20,.pt (.int .i64))] [])],pats := [pT 2 3,pF 11 3,pF 13 3,pF 15 3,pF 20 3,pF 23 3,pF 26 3,pF 26 8,pF 30 3]}) (args := [.agg tA,.str 42]) (nv:=43) (e:=lk (te x0 x1 x2 x3 x4 x5 x6 x7 x8 x9 c0 c1 c2 c3 c4 c5 c6 c7 c8 c9 cA cB cC cD cE cF cG cH cI cJ cK cL cM cN cO cP cQ cR cS cT cU cV [.s cW])) Tryz.func15
theorem qw(x0 x1 x2 x3 x4 x5:Int)(x6:OL)(x7 x8:Nat)(x9:OL)(c0 c1:Nat)(c2 c3 c4 c5 c6 c7:Int)(c8:OL)(c9 cA:Nat)(cB cC cD cE cF cG:Int)(cH:OL)(cI cJ:Nat)(cK cL cM cN cO cP:Int)(cQ:OL)(cR cS:Nat)(cT:OL)(cU cV:Nat)(cW:ByteArray):Xw 15 #[vg (tv x0 x1 x2 x3 x4 x5 x6 x7 x8 x9 c0 c1 c2 c3 c4 c5 c6 c7 c8 c9 cA cB cC cD cE cF cG cH cI cJ cK cL cM cN cO cP cQ cR cS cT cU cV),vs cW] λM H0 W0 _ C Q T=>let u0:=(tv x0 x1 x2 x3 x4 x5 x6 x7 x8 x9 c0 c1 c2 c3 c4 c5 c6 c7 c8 c9 cA cB cC cD cE cF cG cH cI cJ cK cL cM cN cO cP cQ cR cS cT cU cV);(∀b0:Nat,(∀b1:Nat,(C H0 nK 30 #[vs cW] λz W1 W2=>∃(cX:OL) (cY cZ:Nat),z=.returned (vsl cX cY cZ)/\Fr W1 W2 H0 λH1=>(Ck ((0:Int)<=0/\0<(cY:Int)) (Ck (cX.isSome=true) (∃d0:ByteArray,aa H1 cX (0+(0 * 1)) [vs d0]/\(Q H1 nK λW3=>Eo' (.bop .eql 9 (.tmp 26) (.const (vM))) [vs d0,vM] W3 (.value (vb (false))) λW4=>Ext W3 W4/\(∃(I0:List Dat->Hp->Prop) (μ0:List Dat->Nat),I0 [.n 1,.p none,.n 0,.n 0] H1/\∀H2:Hp,∀(d1:Nat) (d2:OL) (d3 d4:Nat),I0 [.n d1,.p (sh d2),.n d3,.n d4] H2->(Ck (0<=(cY:Int)) (It ((d1:Int)<(cY:Int)) (Ck ((0:Int)<=(d1:Int)/\(d1:Int)<(cY:Int)) (∃d5:ByteArray,aa H2 cX (0+((d1:Int) * 1)) [vs d5]/\(C H2 nK 32 #[vs d5] λz W5 W6=>∃d6:Int,z=.returned (vi d6)/\Ext W5 W6/\(∀b2:Nat,(Q H2 (λW=>Kn W0 M H2 W b2 (Obj.cells #[vi d6] 3 (0,0))/\True) λW7=>∃(d7:OL) (d8 d9:Nat),Eo' (.bi .append #[79,79] 79) [vsl d2 d3 d4,Value.slice (some ⟨b2,0,none⟩) 1 1] W7 (.value (vsl d7 d8 d9)) λW8=>Tn W0 M H2 W7 W8 λH3=>(Ck (ae .i64 ((d1:Int)-1)) (Ck ((0:Int)<=((d1:Int)-1)/\((d1:Int)-1)<(d8:Int)) (Ck (d7.isSome=true) (∃dA:Int,aa H3 d7 (0+(((d1:Int)-1) * 1)) [vi dA]/\(It (dA<0) (T H3 nK (vt #[vg u0,vA,vi 1])) (Ck (ae .i64 ((d1:Int)+1)) (Ck (0<=((d1:Int)+1)) (Ck (0<=(d8:Int)) (Ck (0<=(d9:Int)) (I0 [.n (((d1:Int)+1):Int).toNat,.p (sh d7),.n d8,.n d9] H3/\μ0 [.n (((d1:Int)+1):Int).toNat,.p (sh d7),.n d8,.n d9]<μ0 [.n d1,.p (sh d2),.n d3,.n d4]))))))))))))))) (∃d5:ByteArray,aa H2 cX (0+(0 * 1)) [vs d5]/\(Q H2 nK λW5=>Eo' (.bop .eql 9 (.tmp 64) (.const (vG))) [vs d5,vG] W5 (.value (vb (true))) λW6=>Ext W5 W6/\(Ck (0<=(d3:Int)) (It ((d3:Int)=2) (Ck ((0:Int)<=0/\0<(d3:Int)) (Ck (d2.isSome=true) (∃d6:Int,aa H2 d2 (0+(0 * 1)) [vi d6]/\(Ck ((0:Int)<=1/\1<(d3:Int)) (∃d7:Int,aa H2 d2 (0+(1 * 1)) [vi d7]/\(C H2 nK 33 #[vg u0,vg #[vi 1,vi d6,vi d7,vi 0,vi 0,vi 0,vi 0,vi 0,vi 0]] λz W7 W8=>eU λt0=>∃(dC:ByteArray) (dD:Int),let u1:=#[vg t0,vs dC,vi dD];z=.returned (vt u1)/\Fr W7 W8 H2 λH3=>T H3 nK (vt u1))))))) (∃d6:ByteArray,aa H2 cX (0+(0 * 1)) [vs d6]/\(Q H2 nK λW7=>Eo' (.bop .eql 9 (.tmp 86) (.const (vJ))) [vs d6,vJ] W7 (.value (vb (false))) λW8=>Ext W7 W8/\(∃d7:ByteArray,aa H2 cX (0+(0 * 1)) [vs d7]/\(Q H2 nK λW9=>Eo' (.bop .eql 9 (.tmp 108) (.const (vH))) [vs d7,vH] W9 (.value (vb (false))) λW10=>Ext W9 W10/\(∃d8:ByteArray,aa H2 cX (0+(0 * 1)) [vs d8]/\(Q H2 nK λW11=>Eo' (.bop .eql 9 (.tmp 141) (.const (vK))) [vs d8,vK] W11 (.value (vb (false))) λW12=>Ext W11 W12/\(∃d9:ByteArray,aa H2 cX (0+(0 * 1)) [vs d9]/\(Q H2 nK λW13=>Eo' (.bop .eql 9 (.tmp 165) (.const (vF))) [vs d9,vF] W13 (.value (vb (false))) λW14=>Ext W13 W14/\(∃dA:ByteArray,aa H2 cX (0+(0 * 1)) [vs dA]/\(Q H2 nK λW15=>Eo' (.bop .eql 9 (.tmp 191) (.const (vC))) [vs dA,vC] W15 (.value (vb (false))) λW16=>Ext W15 W16/\(∃dB:ByteArray,aa H2 cX (0+(0 * 1)) [vs dB]/\(Q H2 nK λW17=>Eo' (.bop .eql 9 (.tmp 196) (.const (vN))) [vs dB,vN] W17 (.value (vb (false))) λW18=>Ext W17 W18/\T H2 nK (vt #[vg u0,vA,vi 1]))))))))))))))))))))))))))) :=
 Xa (hi:={loops := [(6,.inv [(9,.nat),(8,.pt .sl)] []),(33,.unroll 5),(39,.inv [(21,.nat),(20,.pt (.int .i64))] [])],pats := [pF 2 3,pT 11 3,pF 13 3,pF 15 3,pF 20 3,pF 23 3,pF 26 3,pF 26 8,pF 30 3]}) (args := [.agg tA,.str 42]) (nv:=43) (e:=lk (te x0 x1 x2 x3 x4 x5 x6 x7 x8 x9 c0 c1 c2 c3 c4 c5 c6 c7 c8 c9 cA cB cC cD cE cF cG cH cI cJ cK cL cM cN cO cP cQ cR cS cT cU cV [.s cW])) Tryz.func15
theorem p8(x0 x1 x2 x3 x4 x5:Int)(x6:OL)(x7 x8:Nat)(x9:OL)(c0 c1:Nat)(c2 c3 c4 c5 c6 c7:Int)(c8:OL)(c9 cA:Nat)(cB cC cD cE cF cG:Int)(cH:OL)(cI cJ:Nat)(cK cL cM cN cO cP:Int)(cQ:OL)(cR cS:Nat)(cT:OL)(cU cV:Nat)(cW:ByteArray):Xw 15 #[vg (tv x0 x1 x2 x3 x4 x5 x6 x7 x8 x9 c0 c1 c2 c3 c4 c5 c6 c7 c8 c9 cA cB cC cD cE cF cG cH cI cJ cK cL cM cN cO cP cQ cR cS cT cU cV),vs cW] λM H0 W0 _ C Q T=>let u0:=(tv x0 x1 x2 x3 x4 x5 x6 x7 x8 x9 c0 c1 c2 c3 c4 c5 c6 c7 c8 c9 cA cB cC cD cE cF cG cH cI cJ cK cL cM cN cO cP cQ cR cS cT cU cV);(∀b0:Nat,(∀b1:Nat,(C H0 nK 30 #[vs cW] λz W1 W2=>∃(cX:OL) (cY cZ:Nat),z=.returned (vsl cX cY cZ)/\Fr W1 W2 H0 λH1=>(Ck ((0:Int)<=0/\0<(cY:Int)) (Ck (cX.isSome=true) (∃d0:ByteArray,aa H1 cX (0+(0 * 1)) [vs d0]/\(Q H1 nK λW3=>Eo' (.bop .eql 9 (.tmp 26) (.const (vM))) [vs d0,vM] W3 (.value (vb (false))) λW4=>Ext W3 W4/\(∃(I0:List Dat->Hp->Prop) (μ0:List Dat->Nat),I0 [.n 1,.p none,.n 0,.n 0] H1/\∀H2:Hp,∀(d1:Nat) (d2:OL) (d3 d4:Nat),I0 [.n d1,.p (sh d2),.n d3,.n d4] H2->(Ck (0<=(cY:Int)) (It ((d1:Int)<(cY:Int)) (Ck ((0:Int)<=(d1:Int)/\(d1:Int)<(cY:Int)) (∃d5:ByteArray,aa H2 cX (0+((d1:Int) * 1)) [vs d5]/\(C H2 nK 32 #[vs d5] λz W5 W6=>∃d6:Int,z=.returned (vi d6)/\Ext W5 W6/\(∀b2:Nat,(Q H2 (λW=>Kn W0 M H2 W b2 (Obj.cells #[vi d6] 3 (0,0))/\True) λW7=>∃(d7:OL) (d8 d9:Nat),Eo' (.bi .append #[79,79] 79) [vsl d2 d3 d4,Value.slice (some ⟨b2,0,none⟩) 1 1] W7 (.value (vsl d7 d8 d9)) λW8=>Tn W0 M H2 W7 W8 λH3=>(Ck (ae .i64 ((d1:Int)-1)) (Ck ((0:Int)<=((d1:Int)-1)/\((d1:Int)-1)<(d8:Int)) (Ck (d7.isSome=true) (∃dA:Int,aa H3 d7 (0+(((d1:Int)-1) * 1)) [vi dA]/\(It (dA<0) (T H3 nK (vt #[vg u0,vA,vi 1])) (Ck (ae .i64 ((d1:Int)+1)) (Ck (0<=((d1:Int)+1)) (Ck (0<=(d8:Int)) (Ck (0<=(d9:Int)) (I0 [.n (((d1:Int)+1):Int).toNat,.p (sh d7),.n d8,.n d9] H3/\μ0 [.n (((d1:Int)+1):Int).toNat,.p (sh d7),.n d8,.n d9]<μ0 [.n d1,.p (sh d2),.n d3,.n d4]))))))))))))))) (∃d5:ByteArray,aa H2 cX (0+(0 * 1)) [vs d5]/\(Q H2 nK λW5=>Eo' (.bop .eql 9 (.tmp 64) (.const (vG))) [vs d5,vG] W5 (.value (vb (false))) λW6=>Ext W5 W6/\(∃d6:ByteArray,aa H2 cX (0+(0 * 1)) [vs d6]/\(Q H2 nK λW7=>Eo' (.bop .eql 9 (.tmp 86) (.const (vJ))) [vs d6,vJ] W7 (.value (vb (true))) λW8=>Ext W7 W8/\(Ck (0<=(d3:Int)) (It ((d3:Int)=2) (Ck ((0:Int)<=0/\0<(d3:Int)) (Ck (d2.isSome=true) (∃d7:Int,aa H2 d2 (0+(0 * 1)) [vi d7]/\(Ck ((0:Int)<=1/\1<(d3:Int)) (∃d8:Int,aa H2 d2 (0+(1 * 1)) [vi d8]/\(C H2 nK 33 #[vg u0,vg #[vi 3,vi d7,vi d8,vi 0,vi 0,vi 0,vi 0,vi 0,vi 0]] λz W9 W10=>eU λt0=>∃(dC:ByteArray) (dD:Int),let u1:=#[vg t0,vs dC,vi dD];z=.returned (vt u1)/\Fr W9 W10 H2 λH3=>T H3 nK (vt u1))))))) (∃d7:ByteArray,aa H2 cX (0+(0 * 1)) [vs d7]/\(Q H2 nK λW9=>Eo' (.bop .eql 9 (.tmp 108) (.const (vH))) [vs d7,vH] W9 (.value (vb (false))) λW10=>Ext W9 W10/\(∃d8:ByteArray,aa H2 cX (0+(0 * 1)) [vs d8]/\(Q H2 nK λW11=>Eo' (.bop .eql 9 (.tmp 141) (.const (vK))) [vs d8,vK] W11 (.value (vb (false))) λW12=>Ext W11 W12/\(∃d9:ByteArray,aa H2 cX (0+(0 * 1)) [vs d9]/\(Q H2 nK λW13=>Eo' (.bop .eql 9 (.tmp 165) (.const (vF))) [vs d9,vF] W13 (.value (vb (false))) λW14=>Ext W13 W14/\(∃dA:ByteArray,aa H2 cX (0+(0 * 1)) [vs dA]/\(Q H2 nK λW15=>Eo' (.bop .eql 9 (.tmp 191) (.const (vC))) [vs dA,vC] W15 (.value (vb (false))) λW16=>Ext W15 W16/\(∃dB:ByteArray,aa H2 cX (0+(0 * 1)) [vs dB]/\(Q H2 nK λW17=>Eo' (.bop .eql 9 (.tmp 196) (.const (vN))) [vs dB,vN] W17 (.value (vb (false))) λW18=>Ext W17 W18/\T H2 nK (vt #[vg u0,vA,vi 1]))))))))))))))))))))))))))) :=
 Xa (hi:={loops := [(6,.inv [(9,.nat),(8,.pt .sl)] []),(33,.unroll 5),(39,.inv [(21,.nat),(20,.pt (.int .i64))] [])],pats := [pF 2 3,pF 11 3,pT 13 3,pF 15 3,pF 20 3,pF 23 3,pF 26 3,pF 26 8,pF 30 3]}) (args := [.agg tA,.str 42]) (nv:=43) (e:=lk (te x0 x1 x2 x3 x4 x5 x6 x7 x8 x9 c0 c1 c2 c3 c4 c5 c6 c7 c8 c9 cA cB cC cD cE cF cG cH cI cJ cK cL cM cN cO cP cQ cR cS cT cU cV [.s cW])) Tryz.func15
theorem rZ(x0 x1 x2 x3 x4 x5:Int)(x6:OL)(x7 x8:Nat)(x9:OL)(c0 c1:Nat)(c2 c3 c4 c5 c6 c7:Int)(c8:OL)(c9 cA:Nat)(cB cC cD cE cF cG:Int)(cH:OL)(cI cJ:Nat)(cK cL cM cN cO cP:Int)(cQ:OL)(cR cS:Nat)(cT:OL)(cU cV:Nat)(cW:ByteArray):Xw 15 #[vg (tv x0 x1 x2 x3 x4 x5 x6 x7 x8 x9 c0 c1 c2 c3 c4 c5 c6 c7 c8 c9 cA cB cC cD cE cF cG cH cI cJ cK cL cM cN cO cP cQ cR cS cT cU cV),vs cW] λM H0 W0 _ C Q T=>let u0:=(tv x0 x1 x2 x3 x4 x5 x6 x7 x8 x9 c0 c1 c2 c3 c4 c5 c6 c7 c8 c9 cA cB cC cD cE cF cG cH cI cJ cK cL cM cN cO cP cQ cR cS cT cU cV);(∀b0:Nat,(∀b1:Nat,(C H0 nK 30 #[vs cW] λz W1 W2=>∃(cX:OL) (cY cZ:Nat),z=.returned (vsl cX cY cZ)/\Fr W1 W2 H0 λH1=>(Ck ((0:Int)<=0/\0<(cY:Int)) (Ck (cX.isSome=true) (∃d0:ByteArray,aa H1 cX (0+(0 * 1)) [vs d0]/\(Q H1 nK λW3=>Eo' (.bop .eql 9 (.tmp 26) (.const (vM))) [vs d0,vM] W3 (.value (vb (false))) λW4=>Ext W3 W4/\(∃(I0:List Dat->Hp->Prop) (μ0:List Dat->Nat),I0 [.n 1,.p none,.n 0,.n 0] H1/\∀H2:Hp,∀(d1:Nat) (d2:OL) (d3 d4:Nat),I0 [.n d1,.p (sh d2),.n d3,.n d4] H2->(Ck (0<=(cY:Int)) (It ((d1:Int)<(cY:Int)) (Ck ((0:Int)<=(d1:Int)/\(d1:Int)<(cY:Int)) (∃d5:ByteArray,aa H2 cX (0+((d1:Int) * 1)) [vs d5]/\(C H2 nK 32 #[vs d5] λz W5 W6=>∃d6:Int,z=.returned (vi d6)/\Ext W5 W6/\(∀b2:Nat,(Q H2 (λW=>Kn W0 M H2 W b2 (Obj.cells #[vi d6] 3 (0,0))/\True) λW7=>∃(d7:OL) (d8 d9:Nat),Eo' (.bi .append #[79,79] 79) [vsl d2 d3 d4,Value.slice (some ⟨b2,0,none⟩) 1 1] W7 (.value (vsl d7 d8 d9)) λW8=>Tn W0 M H2 W7 W8 λH3=>(Ck (ae .i64 ((d1:Int)-1)) (Ck ((0:Int)<=((d1:Int)-1)/\((d1:Int)-1)<(d8:Int)) (Ck (d7.isSome=true) (∃dA:Int,aa H3 d7 (0+(((d1:Int)-1) * 1)) [vi dA]/\(It (dA<0) (T H3 nK (vt #[vg u0,vA,vi 1])) (Ck (ae .i64 ((d1:Int)+1)) (Ck (0<=((d1:Int)+1)) (Ck (0<=(d8:Int)) (Ck (0<=(d9:Int)) (I0 [.n (((d1:Int)+1):Int).toNat,.p (sh d7),.n d8,.n d9] H3/\μ0 [.n (((d1:Int)+1):Int).toNat,.p (sh d7),.n d8,.n d9]<μ0 [.n d1,.p (sh d2),.n d3,.n d4]))))))))))))))) (∃d5:ByteArray,aa H2 cX (0+(0 * 1)) [vs d5]/\(Q H2 nK λW5=>Eo' (.bop .eql 9 (.tmp 64) (.const (vG))) [vs d5,vG] W5 (.value (vb (false))) λW6=>Ext W5 W6/\(∃d6:ByteArray,aa H2 cX (0+(0 * 1)) [vs d6]/\(Q H2 nK λW7=>Eo' (.bop .eql 9 (.tmp 86) (.const (vJ))) [vs d6,vJ] W7 (.value (vb (false))) λW8=>Ext W7 W8/\(∃d7:ByteArray,aa H2 cX (0+(0 * 1)) [vs d7]/\(Q H2 nK λW9=>Eo' (.bop .eql 9 (.tmp 108) (.const (vH))) [vs d7,vH] W9 (.value (vb (true))) λW10=>Ext W9 W10/\(Ck (0<=(d3:Int)) (It ((d3:Int)=2) (Ck ((0:Int)<=0/\0<(d3:Int)) (Ck (d2.isSome=true) (∃d8:Int,aa H2 d2 (0+(0 * 1)) [vi d8]/\(Ck ((0:Int)<=1/\1<(d3:Int)) (∃d9:Int,aa H2 d2 (0+(1 * 1)) [vi d9]/\(C H2 nK 34 #[vg (gv x0 x1 x2 x3 x4 x5 x6 x7 x8 x9 c0 c1 c2 c3 c4 c5 c6 c7 c8 c9 cA cB cC cD cE cF cG cH cI cJ cK cL cM cN cO cP cQ cR cS),vi d8,vi d9] λz W11 W12=>eG λdA dB dC dD dE dF dG dH dI dJ dK dL dM dN dO dP dQ dR dS dT dU dV dW dX dY dZ e0 e1 e2 e3 e4 e5 e6 e7 e8 e9 eA eB eC=>∃(eD eE:Int),z=.returned (vt #[vg (gv dA dB dC dD dE dF dG dH dI dJ dK dL dM dN dO dP dQ dR dS dT dU dV dW dX dY dZ e0 e1 e2 e3 e4 e5 e6 e7 e8 e9 eA eB eC),vi eD,vi eE])/\Fr W11 W12 H2 λH3=>(∀b2:Nat,(It (eE=0) (C H3 nK 16 #[vi eD] λz W13 W14=>∃eF:ByteArray,z=.returned (vs eF)/\Ext W13 W14/\T H3 nK (vt #[vg (tv dA dB dC dD dE dF dG dH dI dJ dK dL dM dN dO dP dQ dR dS dT dU dV dW dX dY dZ e0 e1 e2 e3 e4 e5 e6 e7 e8 e9 eA eB eC cT cU cV),vs eF,vi 0])) (T H3 nK (vt #[vg u0,vA,vi eE])))))))))) (∃d8:ByteArray,aa H2 cX (0+(0 * 1)) [vs d8]/\(Q H2 nK λW11=>Eo' (.bop .eql 9 (.tmp 141) (.const (vK))) [vs d8,vK] W11 (.value (vb (false))) λW12=>Ext W11 W12/\(∃d9:ByteArray,aa H2 cX (0+(0 * 1)) [vs d9]/\(Q H2 nK λW13=>Eo' (.bop .eql 9 (.tmp 165) (.const (vF))) [vs d9,vF] W13 (.value (vb (false))) λW14=>Ext W13 W14/\(∃dA:ByteArray,aa H2 cX (0+(0 * 1)) [vs dA]/\(Q H2 nK λW15=>Eo' (.bop .eql 9 (.tmp 191) (.const (vC))) [vs dA,vC] W15 (.value (vb (false))) λW16=>Ext W15 W16/\(∃dB:ByteArray,aa H2 cX (0+(0 * 1)) [vs dB]/\(Q H2 nK λW17=>Eo' (.bop .eql 9 (.tmp 196) (.const (vN))) [vs dB,vN] W17 (.value (vb (false))) λW18=>Ext W17 W18/\T H2 nK (vt #[vg u0,vA,vi 1]))))))))))))))))))))))))))) :=
 Xa (hi:={loops := [(6,.inv [(9,.nat),(8,.pt .sl)] []),(33,.unroll 5),(39,.inv [(21,.nat),(20,.pt (.int .i64))] [])],pats := [pF 2 3,pF 11 3,pF 13 3,pT 15 3,pF 20 3,pF 23 3,pF 26 3,pF 26 8,pF 30 3]}) (args := [.agg tA,.str 42]) (nv:=43) (e:=lk (te x0 x1 x2 x3 x4 x5 x6 x7 x8 x9 c0 c1 c2 c3 c4 c5 c6 c7 c8 c9 cA cB cC cD cE cF cG cH cI cJ cK cL cM cN cO cP cQ cR cS cT cU cV [.s cW])) Tryz.func15
set_option linter.unusedVariables false
set_option maxRecDepth 100000
theorem ln1{α:Type}{ws:List α}(h:ws.length=1):∃a,ws = [a]:=by
 rcases ws with _ | ⟨a,_ | ⟨b,r⟩⟩<;>simp at h |-
theorem ln2{α:Type}{ws:List α}(h:ws.length=2):∃a b,ws = [a,b]:=by
 rcases ws with _ | ⟨a,_ | ⟨b,_ | ⟨c,r⟩⟩⟩<;>simp at h |-
theorem ln7{α:Type}{ws:List α}(h:ws.length=7):∃a b c d e f g,ws = [a,b,c,d,e,f,g]:=by
 rcases ws with _ | ⟨a,_ | ⟨b,_ | ⟨c,_ | ⟨d,_ | ⟨e,_ | ⟨f,_ | ⟨g,_ | ⟨i,r⟩⟩⟩⟩⟩⟩⟩⟩<;>simp at h |-
section
variable{e:Dsk}{w0 w:List UInt8}{ws:List (List UInt8)}
theorem zi(hi:aE w0=some 12)(h:ws.length≠7):aH e (w0::ws)=bS e 1:=by
 unfold aH;dsimp only
 rw[hi]
 rcases ws with _ | ⟨a,_ | ⟨b,_ | ⟨c,_ | ⟨d,_ | ⟨e,_ | ⟨f,_ | ⟨g,_ | ⟨i,r⟩⟩⟩⟩⟩⟩⟩⟩<;>first | rfl | exact absurd rfl h
theorem mF(hi:aE w0 ∈ [some 4,some 8,some 16,some 32])(h:ws.length≠2):aH e (w0::ws)=bS e 1:=by
 unfold aH;dsimp only
 simp only[List.mem_cons,List.not_mem_nil,or_false] at hi
 rcases hi with hi | hi | hi | hi<;>rw[hi]<;>rcases ws with _ | ⟨a,_ | ⟨b,_ | ⟨c,r⟩⟩⟩<;>first | rfl | exact absurd rfl h
theorem qm(hi:aE w0 ∈ [some 20,some 24,some 28])(h:ws.length≠1):aH e (w0::ws)=bS e 1:=by
 unfold aH;dsimp only
 simp only[List.mem_cons,List.not_mem_nil,or_false] at hi
 rcases hi with hi | hi | hi<;>rw[hi]<;>rcases ws with _ | ⟨a,_ | ⟨b,r⟩⟩<;>first | rfl | exact absurd rfl h
theorem wb(hi:aE w0=none):aH e (w0::ws)=bS e 1:=by
 unfold aH;dsimp only
 rw[hi]
theorem gz(hi:aE w0≠some 12)(hw:w∈ws)(hn:ad w<0):aH e (w0::ws)=bS e 1:=by
 have h2:∀(a b:List UInt8) (f:Int->Int->DR),w ∈ [a,b]->two e a b f=bS e 1:=λa b f h=>if_pos (by
  simp only[List.mem_cons,List.not_mem_nil,or_false] at h
  rcases h with rfl | rfl
  ·exact .inl hn
  ·exact .inr hn)
 have h1:∀(a:List UInt8) (f:Int->DR),w ∈ [a]->one e a f=bS e 1:=λa f h=>if_pos (by
  simp only[List.mem_cons,List.not_mem_nil,or_false] at h;subst h;exact hn)
 unfold aH;dsimp only
 split
 ·exact h2 _ _ _ hw
 ·exact h2 _ _ _ hw
 ·exact absurd ‹aE w0=some 12› hi
 ·exact h2 _ _ _ hw
 ·exact h1 _ _ hw
 ·exact h1 _ _ hw
 ·exact h1 _ _ hw
 ·exact h2 _ _ _ hw
 ·rfl
structure FL(w:List UInt8):Prop where
 opn:w ≠ [111,112,101,110]
 close:w ≠ [99,108,111,115,101]
 call:w ≠ [99,97,108,108]
 run:w ≠ [114,117,110]
 cut:w ≠ [99,117,116]
 vals:w ≠ [118,97,108,115]
 kept:w ≠ [107,101,112,116]
 done:w ≠ [100,111,110,101]
theorem uT(h:aE w=none):FL w:=by
 constructor<;>(rintro rfl;revert h;decide)
theorem ch:∀(l cur:List UInt8),(bH cur l).length<=l.length+1
 | [],cur=>by simp[bH]
 | b::l,cur=>by
  rw[bH]
  split
  ·have:=ch l [];simp only[List.length_cons];omega
  ·have:=ch l (cur ++ [b]);simp only[List.length_cons];omega
end
section
variable{g:Grp}{γ:GP}{q:OL}{m d:Nat}{l:List Ent}
set_option maxHeartbeats 2000000 in
theorem qz{HB H:Hp}(hle:HB.le H)(hgB:aK HB g γ)(hEB:av HB q m d l)(hm:l.length<=1000)(ok:aQ g){s w0:List UInt8}{ws:List (List UInt8)}(hs:s.length<=4096)(hw:aJ s=w0::ws)(hw0:w0 = [99,97,108,108]):Gf Tryz.prog 15 #[tV g γ q m d,.string (bs s)] H (aB HB (aq ⟨g,l⟩ s)):=λW hH=>by
 have hl:aq ⟨g,l⟩ s=aH ⟨g,l⟩ (w0::ws):=by unfold aq;rw[hw]
 rw[hl];have h4:∀w∈w0::ws,w.length<=4096:=λw h=>by
  have:=aI s [] w (by rw[<- hw] at h;exact h);simp only[List.length_nil] at this;omega
 have hi:aE w0=some 12:=by rw[hw0];rfl
 have hwl:(w0::ws).length<=s.length+1:=by have:=ch s [];rw[<- hw];exact this
 refine qE _ _ _ _ _ _ γ.p γ.n γ.c γ.q γ.m γ.d _ _ _ _ _ _ γ.p0 γ.n0 γ.c0 _ _ _ _ _ _ γ.p1 γ.n1 γ.c1 _ _ _ _ _ _ γ.p2 γ.n2 γ.c2 q m d (bs s) noM H W _ hH λb0 b1=>?_;refine Cl.fresh (gL s hs H) ?_;rintro v W1 W2 D ⟨p,n,c,rfl,hS⟩ hx hD hf n1;refine⟨p,n,c,rfl,hx,D,hD,hf,λH1 le1 hd1=>?_⟩;rw[hw] at hS;have hlen:=hS.len
 simp only[List.length_cons] at hlen hwl;have hS1:=hS.mono hd1
 refine⟨by omega,λ_=>⟨(hS1.at (i:=0) rfl (off:=0) (by simp)).isSome,λ_=>⟨_,hS1.at (i:=0) rfl (by simp),λW3 n3 _=>⟨_,aj _ _ w0 [99,97,108,108] true (by rw[hw0];decide),Ext.refl _,?_⟩⟩⟩⟩;refine⟨by omega,λ_=>⟨λh8=>?_,λh8=>?_⟩⟩
 ·obtain⟨a1,a2,a3,a4,a5,a6,a7,rfl⟩:=ln7 (ws:=ws) (by omega);obtain⟨p2,hv,hS2⟩:=fj hS1 (by simp);rw[hv];have hnc:=hS1.1
  refine⟨by omega,λ_=>⟨by omega,λ_=>?_⟩⟩;have hl2:aH ⟨g,l⟩ (w0 :: [a1,a2,a3,a4,a5,a6,a7])=bQ ⟨g,l⟩ a1 a2 a3 a4 a5 a6 a7:=by unfold aH;dsimp only;rw[hi];rfl
  rw[hl2];refine Cl.fresh (xI (Hp.le_trans hle le1) hgB hEB hm ok hS2 λw h=>h4 w (List.mem_cons_of_mem _ h)) ?_;rintro v W5 W6 D5 ⟨e,γ',q',m',d',s',rfl,hp⟩ hx5 hD5 hf5 nn;exact⟨_,_,_,_,_,_,γ'.p,γ'.n,γ'.c,γ'.q,γ'.m,γ'.d,_,_,_,_,_,_,γ'.p0,γ'.n0,γ'.c0,_,_,_,_,_,_,γ'.p1,γ'.n1,γ'.c1,_,_,_,_,_,_,γ'.p2,γ'.n2,γ'.c2,q',m',d',_,_,rfl,hx5,D5,hD5,hf5,λH3 h3 hd3=>Rt.gfn ((show aB HB _ _ D5 from⟨e,γ',q',m',d',s',rfl,hp⟩).mono (ai hd3 λb o h=>Nat.le_trans nn.mod.size (hf5 b o h)))⟩
 have hbad:aH ⟨g,l⟩ (w0::ws)=bS ⟨g,l⟩ 1:=zi hi (by omega);refine⟨λv K=>match v with | [.n j,.p p,.n n,.n c]=>n+1=j/\j<=ws.length+1/\H1.le K/\(∃g,Ow K 3 1 p n c (((ws.take n).map ad).map au) g/\∀b,g=some b->W.heap.size<=b/\H1 b=none)/\(∀w∈ws.take n,0<=ad w) | _=>False,λv=>match v with | .n j::_=>ws.length+1-j | _=>0,⟨rfl,by omega,Hp.le_refl _,⟨none,Ow.nil _ _ _ _,λb h=>by cases h⟩,by simp⟩,λK j p' n' c' hI=>?_⟩;obtain⟨hnj,hj,hlK,⟨gi,ho,hgi⟩,hpos⟩:=hI;rw[bT] at ho;have hSK:=hS1.mono hlK
 refine⟨λhlt=>?_,λhge=>?_⟩
 ·obtain⟨w,hw⟩:∃w,ws[n']?=some w:=⟨_,List.getElem?_eq_getElem (by omega)⟩
  have hwj:(w0::ws)[j]?=some w:=by rw[<- hnj];simpa using hw
  have htk:ws.take (n'+1)=ws.take n' ++ [w]:=by rw[List.take_add_one,hw];rfl
  refine⟨by omega,λ_=>⟨_,hSK.at (i:=j) hwj (by omega),?_⟩⟩;refine Cl.same (aZ w (h4 w (List.mem_of_getElem? hwj)) K) λ_ _ hx=>⟨_,rfl,hx,λb2 W7 n7 k7=>?_⟩
  obtain⟨r1,y1,g1,W8,H4,run1,hu1,oa,hg1,_⟩:=aD (P:=Tryz.prog) Tryz.underlying79 fm (by omega) n7.sub ho (row:=au (ad w)) k7.1.eq k7.1.off rfl (λv hv=>by simp only[au,List.mem_singleton] at hv;subst hv;rfl) (by simp only[maxLen];omega) (by omega) 79;refine⟨r1,n'+1,y1,W8,run1,H4,hu1.own ho (λb hb=>.inl (hgi b hb).1),in64 (by omega),λ_=>⟨by omega,λ_=>?_⟩⟩;have oa':Ow H4 3 1 r1 (n'+1) y1 (((ws.take (n'+1)).map ad).map au) g1:=by rw[htk];simpa using oa
  have hat:aa H4 r1 (0+((j:Int)-1) * 1) [vi (ad w)]:=by
   have:=oa'.rows.row n' (au (ad w)) (by rw[List.getElem?_map,List.getElem?_map,List.getElem?_take_of_lt (by omega),hw];rfl);rw[show (0+((j:Int)-1) * 1)=(n':Int) by omega];simpa [au] using this
  refine⟨hat.isSome,λ_=>⟨_,hat,λhneg=>?_,λhnn=>?_⟩⟩
  ·exact Rt.gfn (aB.err (e:=⟨g,l⟩) hbad (by decide))
  ·refine⟨in64 (by omega),λ_=>⟨by omega,λ_=>⟨by omega,λ_=>⟨by omega,λ_=>?_⟩⟩⟩⟩;rw[show ((j:Int)+1).toNat=j+1 by omega,bT];refine⟨⟨by omega,by omega,hu1.keep n7.sub hlK (λb hb=>(hgi b hb).2),⟨g1,oa',λb hb=>?_⟩,λx hx=>?_⟩,by simp only;omega⟩
   ·rcases hg1 with h | h
    ·exact hgi b (h▸hb)
    ·rw[h] at hb;simp only[Option.some.injEq] at hb;have:=n7.mod.size;exact⟨by omega,ao (Hp.le_trans hlK n7.sub) (by omega)⟩
   ·rw[htk] at hx
    rcases List.mem_append.1 hx with hx | hx
    ·exact hpos x hx
    ·simp only[List.mem_singleton] at hx;subst hx;omega
 have hn':n'=ws.length:=by omega
 subst hn';rw[List.take_length] at ho hpos;exact⟨_,hSK.at (i:=0) rfl (by simp),λW5 n5 _=>⟨_,aj _ _ w0 [111,112,101,110] false (by rw[hw0];decide),Ext.refl _,⟨_,hSK.at (i:=0) rfl (by simp),λW5 n5 _=>⟨_,aj _ _ w0 [99,108,111,115,101] false (by rw[hw0];decide),Ext.refl _,⟨_,hSK.at (i:=0) rfl (by simp),λW5 n5 _=>⟨_,aj _ _ w0 [114,117,110] false (by rw[hw0];decide),Ext.refl _,⟨_,hSK.at (i:=0) rfl (by simp),λW5 n5 _=>⟨_,aj _ _ w0 [99,117,116] false (by rw[hw0];decide),Ext.refl _,⟨_,hSK.at (i:=0) rfl (by simp),λW5 n5 _=>⟨_,aj _ _ w0 [100,111,110,101] false (by rw[hw0];decide),Ext.refl _,⟨_,hSK.at (i:=0) rfl (by simp),λW5 n5 _=>⟨_,aj _ _ w0 [118,97,108,115] false (by rw[hw0];decide),Ext.refl _,⟨_,hSK.at (i:=0) rfl (by simp),λW5 n5 _=>⟨_,aj _ _ w0 [107,101,112,116] false (by rw[hw0];decide),Ext.refl _,Rt.gfn (aB.err (e:=⟨g,l⟩) hbad (by decide))⟩⟩⟩⟩⟩⟩⟩⟩⟩⟩⟩⟩⟩⟩
set_option maxHeartbeats 2000000 in
theorem qF{HB H:Hp}(hle:HB.le H)(hgB:aK HB g γ)(hEB:av HB q m d l)(hm:l.length<=1000)(ok:aQ g){s w0:List UInt8}{ws:List (List UInt8)}(hs:s.length<=4096)(hw:aJ s=w0::ws)(hw0:w0 = [111,112,101,110]):Gf Tryz.prog 15 #[tV g γ q m d,.string (bs s)] H (aB HB (aq ⟨g,l⟩ s)):=λW hH=>by
 have hl:aq ⟨g,l⟩ s=aH ⟨g,l⟩ (w0::ws):=by unfold aq;rw[hw]
 rw[hl];have h4:∀w∈w0::ws,w.length<=4096:=λw h=>by
  have:=aI s [] w (by rw[<- hw] at h;exact h);simp only[List.length_nil] at this;omega
 have hi:aE w0=some 4:=by rw[hw0];rfl
 have hwl:(w0::ws).length<=s.length+1:=by have:=ch s [];rw[<- hw];exact this
 refine qw _ _ _ _ _ _ γ.p γ.n γ.c γ.q γ.m γ.d _ _ _ _ _ _ γ.p0 γ.n0 γ.c0 _ _ _ _ _ _ γ.p1 γ.n1 γ.c1 _ _ _ _ _ _ γ.p2 γ.n2 γ.c2 q m d (bs s) noM H W _ hH λb0 b1=>?_;refine Cl.fresh (gL s hs H) ?_;rintro v W1 W2 D ⟨p,n,c,rfl,hS⟩ hx hD hf n1;refine⟨p,n,c,rfl,hx,D,hD,hf,λH1 le1 hd1=>?_⟩;rw[hw] at hS;have hlen:=hS.len
 simp only[List.length_cons] at hlen hwl;have hS1:=hS.mono hd1
 refine⟨by omega,λ_=>⟨(hS1.at (i:=0) rfl (off:=0) (by simp)).isSome,λ_=>⟨_,hS1.at (i:=0) rfl (by simp),λW3 n3 _=>⟨_,aj _ _ w0 [99,97,108,108] false (by rw[hw0];decide),Ext.refl _,?_⟩⟩⟩⟩;refine⟨λv K=>match v with | [.n j,.p p,.n n,.n c]=>n+1=j/\j<=ws.length+1/\H1.le K/\(∃g,Ow K 3 1 p n c (((ws.take n).map ad).map au) g/\∀b,g=some b->W.heap.size<=b/\H1 b=none)/\(∀w∈ws.take n,0<=ad w) | _=>False,λv=>match v with | .n j::_=>ws.length+1-j | _=>0,⟨rfl,by omega,Hp.le_refl _,⟨none,Ow.nil _ _ _ _,λb h=>by cases h⟩,by simp⟩,λK j p' n' c' hI=>?_⟩;obtain⟨hnj,hj,hlK,⟨gi,ho,hgi⟩,hpos⟩:=hI;rw[bT] at ho;have hSK:=hS1.mono hlK
 refine⟨by omega,λ_=>⟨λhlt=>?_,λhge=>?_⟩⟩
 ·obtain⟨w,hw⟩:∃w,ws[n']?=some w:=⟨_,List.getElem?_eq_getElem (by omega)⟩
  have hwj:(w0::ws)[j]?=some w:=by rw[<- hnj];simpa using hw
  have htk:ws.take (n'+1)=ws.take n' ++ [w]:=by rw[List.take_add_one,hw];rfl
  refine⟨by omega,λ_=>⟨_,hSK.at (i:=j) hwj (by omega),?_⟩⟩;refine Cl.same (aZ w (h4 w (List.mem_of_getElem? hwj)) K) λ_ _ hx=>⟨_,rfl,hx,λb2 W7 n7 k7=>?_⟩
  obtain⟨r1,y1,g1,W8,H4,run1,hu1,oa,hg1,_⟩:=aD (P:=Tryz.prog) Tryz.underlying79 fm (by omega) n7.sub ho (row:=au (ad w)) k7.1.eq k7.1.off rfl (λv hv=>by simp only[au,List.mem_singleton] at hv;subst hv;rfl) (by simp only[maxLen];omega) (by omega) 79;refine⟨r1,n'+1,y1,W8,run1,H4,hu1.own ho (λb hb=>.inl (hgi b hb).1),in64 (by omega),λ_=>⟨by omega,λ_=>?_⟩⟩;have oa':Ow H4 3 1 r1 (n'+1) y1 (((ws.take (n'+1)).map ad).map au) g1:=by rw[htk];simpa using oa
  have hat:aa H4 r1 (0+((j:Int)-1) * 1) [vi (ad w)]:=by
   have:=oa'.rows.row n' (au (ad w)) (by rw[List.getElem?_map,List.getElem?_map,List.getElem?_take_of_lt (by omega),hw];rfl);rw[show (0+((j:Int)-1) * 1)=(n':Int) by omega];simpa [au] using this
  refine⟨hat.isSome,λ_=>⟨_,hat,λhneg=>?_,λhnn=>?_⟩⟩
  ·exact Rt.gfn (aB.err (e:=⟨g,l⟩) (gz (by rw[hi];simp) (List.mem_of_getElem? hw) hneg) (by decide))
  ·refine⟨in64 (by omega),λ_=>⟨by omega,λ_=>⟨by omega,λ_=>⟨by omega,λ_=>?_⟩⟩⟩⟩;rw[show ((j:Int)+1).toNat=j+1 by omega,bT];refine⟨⟨by omega,by omega,hu1.keep n7.sub hlK (λb hb=>(hgi b hb).2),⟨g1,oa',λb hb=>?_⟩,λx hx=>?_⟩,by simp only;omega⟩
   ·rcases hg1 with h | h
    ·exact hgi b (h▸hb)
    ·rw[h] at hb;simp only[Option.some.injEq] at hb;have:=n7.mod.size;exact⟨by omega,ao (Hp.le_trans hlK n7.sub) (by omega)⟩
   ·rw[htk] at hx
    rcases List.mem_append.1 hx with hx | hx
    ·exact hpos x hx
    ·simp only[List.mem_singleton] at hx;subst hx;omega
 have hn':n'=ws.length:=by omega
 subst hn';rw[List.take_length] at ho hpos;refine⟨_,hSK.at (i:=0) rfl (by simp),λW5 n5 _=>⟨_,aj _ _ w0 [111,112,101,110] true (by rw[hw0];decide),Ext.refl _,⟨by omega,λ_=>⟨λh2=>?_,λh2=>⟨_,hSK.at (i:=0) rfl (by simp),λW5 n5 _=>⟨_,aj _ _ w0 [99,108,111,115,101] false (by rw[hw0];decide),Ext.refl _,⟨_,hSK.at (i:=0) rfl (by simp),λW5 n5 _=>⟨_,aj _ _ w0 [114,117,110] false (by rw[hw0];decide),Ext.refl _,⟨_,hSK.at (i:=0) rfl (by simp),λW5 n5 _=>⟨_,aj _ _ w0 [99,117,116] false (by rw[hw0];decide),Ext.refl _,⟨_,hSK.at (i:=0) rfl (by simp),λW5 n5 _=>⟨_,aj _ _ w0 [100,111,110,101] false (by rw[hw0];decide),Ext.refl _,⟨_,hSK.at (i:=0) rfl (by simp),λW5 n5 _=>⟨_,aj _ _ w0 [118,97,108,115] false (by rw[hw0];decide),Ext.refl _,⟨_,hSK.at (i:=0) rfl (by simp),λW5 n5 _=>⟨_,aj _ _ w0 [107,101,112,116] false (by rw[hw0];decide),Ext.refl _,Rt.gfn (aB.err (e:=⟨g,l⟩) (mF (by rw[hi];simp) (by omega)) (by decide))⟩⟩⟩⟩⟩⟩⟩⟩⟩⟩⟩⟩⟩⟩⟩⟩;have hleK:=Hp.le_trans hle (Hp.le_trans le1 hlK)
 obtain⟨a,b,rfl⟩:=ln2 (ws:=ws) (by omega);have ha:=hpos a (by simp)
 have hb:=hpos b (by simp);have r0:aa K p' (0+(0 * 1)) [vi (ad a)]:=by
  have:=ho.rows.row 0 (au (ad a)) rfl;simpa [au] using this
 have r1:aa K p' (0+(1 * 1)) [vi (ad b)]:=by
  have:=ho.rows.row 1 (au (ad b)) rfl;simpa [au] using this
 have hl2:aH ⟨g,l⟩ (w0 :: [a,b])=gO ⟨g,l⟩ ⟨1,ad a,ad b,0,0,POp.none⟩:=by unfold aH;dsimp only;rw[hi];exact mv ha hb
 rw[hl2];refine⟨by omega,λ_=>⟨r0.isSome,λ_=>⟨_,r0,by omega,λ_=>⟨_,r1,?_⟩⟩⟩⟩;refine Cl.fresh (ol hleK hgB hEB hm ok (e:=⟨1,ad a,ad b,0,0,POp.none⟩) ⟨by simp,by simp⟩) ?_;rintro v W5 W6 D5 ⟨e,γ',q',m',d',s',rfl,hp⟩ hx5 hD5 hf5 nn;exact⟨_,_,_,_,_,_,γ'.p,γ'.n,γ'.c,γ'.q,γ'.m,γ'.d,_,_,_,_,_,_,γ'.p0,γ'.n0,γ'.c0,_,_,_,_,_,_,γ'.p1,γ'.n1,γ'.c1,_,_,_,_,_,_,γ'.p2,γ'.n2,γ'.c2,q',m',d',_,_,rfl,hx5,D5,hD5,hf5,λH3 h3 hd3=>Rt.gfn ((show aB HB _ _ D5 from⟨e,γ',q',m',d',s',rfl,hp⟩).mono (ai hd3 λb o h=>Nat.le_trans nn.mod.size (hf5 b o h)))⟩
set_option maxHeartbeats 2000000 in
theorem pZ{HB H:Hp}(hle:HB.le H)(hgB:aK HB g γ)(hEB:av HB q m d l)(hm:l.length<=1000)(ok:aQ g){s w0:List UInt8}{ws:List (List UInt8)}(hs:s.length<=4096)(hw:aJ s=w0::ws)(hw0:w0 = [99,108,111,115,101]):Gf Tryz.prog 15 #[tV g γ q m d,.string (bs s)] H (aB HB (aq ⟨g,l⟩ s)):=λW hH=>by
 have hl:aq ⟨g,l⟩ s=aH ⟨g,l⟩ (w0::ws):=by unfold aq;rw[hw]
 rw[hl];have h4:∀w∈w0::ws,w.length<=4096:=λw h=>by
  have:=aI s [] w (by rw[<- hw] at h;exact h);simp only[List.length_nil] at this;omega
 have hi:aE w0=some 8:=by rw[hw0];rfl
 have hwl:(w0::ws).length<=s.length+1:=by have:=ch s [];rw[<- hw];exact this
 refine p8 _ _ _ _ _ _ γ.p γ.n γ.c γ.q γ.m γ.d _ _ _ _ _ _ γ.p0 γ.n0 γ.c0 _ _ _ _ _ _ γ.p1 γ.n1 γ.c1 _ _ _ _ _ _ γ.p2 γ.n2 γ.c2 q m d (bs s) noM H W _ hH λb0 b1=>?_;refine Cl.fresh (gL s hs H) ?_;rintro v W1 W2 D ⟨p,n,c,rfl,hS⟩ hx hD hf n1;refine⟨p,n,c,rfl,hx,D,hD,hf,λH1 le1 hd1=>?_⟩;rw[hw] at hS;have hlen:=hS.len
 simp only[List.length_cons] at hlen hwl;have hS1:=hS.mono hd1
 refine⟨by omega,λ_=>⟨(hS1.at (i:=0) rfl (off:=0) (by simp)).isSome,λ_=>⟨_,hS1.at (i:=0) rfl (by simp),λW3 n3 _=>⟨_,aj _ _ w0 [99,97,108,108] false (by rw[hw0];decide),Ext.refl _,?_⟩⟩⟩⟩;refine⟨λv K=>match v with | [.n j,.p p,.n n,.n c]=>n+1=j/\j<=ws.length+1/\H1.le K/\(∃g,Ow K 3 1 p n c (((ws.take n).map ad).map au) g/\∀b,g=some b->W.heap.size<=b/\H1 b=none)/\(∀w∈ws.take n,0<=ad w) | _=>False,λv=>match v with | .n j::_=>ws.length+1-j | _=>0,⟨rfl,by omega,Hp.le_refl _,⟨none,Ow.nil _ _ _ _,λb h=>by cases h⟩,by simp⟩,λK j p' n' c' hI=>?_⟩;obtain⟨hnj,hj,hlK,⟨gi,ho,hgi⟩,hpos⟩:=hI;rw[bT] at ho;have hSK:=hS1.mono hlK
 refine⟨by omega,λ_=>⟨λhlt=>?_,λhge=>?_⟩⟩
 ·obtain⟨w,hw⟩:∃w,ws[n']?=some w:=⟨_,List.getElem?_eq_getElem (by omega)⟩
  have hwj:(w0::ws)[j]?=some w:=by rw[<- hnj];simpa using hw
  have htk:ws.take (n'+1)=ws.take n' ++ [w]:=by rw[List.take_add_one,hw];rfl
  refine⟨by omega,λ_=>⟨_,hSK.at (i:=j) hwj (by omega),?_⟩⟩;refine Cl.same (aZ w (h4 w (List.mem_of_getElem? hwj)) K) λ_ _ hx=>⟨_,rfl,hx,λb2 W7 n7 k7=>?_⟩
  obtain⟨r1,y1,g1,W8,H4,run1,hu1,oa,hg1,_⟩:=aD (P:=Tryz.prog) Tryz.underlying79 fm (by omega) n7.sub ho (row:=au (ad w)) k7.1.eq k7.1.off rfl (λv hv=>by simp only[au,List.mem_singleton] at hv;subst hv;rfl) (by simp only[maxLen];omega) (by omega) 79;refine⟨r1,n'+1,y1,W8,run1,H4,hu1.own ho (λb hb=>.inl (hgi b hb).1),in64 (by omega),λ_=>⟨by omega,λ_=>?_⟩⟩;have oa':Ow H4 3 1 r1 (n'+1) y1 (((ws.take (n'+1)).map ad).map au) g1:=by rw[htk];simpa using oa
  have hat:aa H4 r1 (0+((j:Int)-1) * 1) [vi (ad w)]:=by
   have:=oa'.rows.row n' (au (ad w)) (by rw[List.getElem?_map,List.getElem?_map,List.getElem?_take_of_lt (by omega),hw];rfl);rw[show (0+((j:Int)-1) * 1)=(n':Int) by omega];simpa [au] using this
  refine⟨hat.isSome,λ_=>⟨_,hat,λhneg=>?_,λhnn=>?_⟩⟩
  ·exact Rt.gfn (aB.err (e:=⟨g,l⟩) (gz (by rw[hi];simp) (List.mem_of_getElem? hw) hneg) (by decide))
  ·refine⟨in64 (by omega),λ_=>⟨by omega,λ_=>⟨by omega,λ_=>⟨by omega,λ_=>?_⟩⟩⟩⟩;rw[show ((j:Int)+1).toNat=j+1 by omega,bT];refine⟨⟨by omega,by omega,hu1.keep n7.sub hlK (λb hb=>(hgi b hb).2),⟨g1,oa',λb hb=>?_⟩,λx hx=>?_⟩,by simp only;omega⟩
   ·rcases hg1 with h | h
    ·exact hgi b (h▸hb)
    ·rw[h] at hb;simp only[Option.some.injEq] at hb;have:=n7.mod.size;exact⟨by omega,ao (Hp.le_trans hlK n7.sub) (by omega)⟩
   ·rw[htk] at hx
    rcases List.mem_append.1 hx with hx | hx
    ·exact hpos x hx
    ·simp only[List.mem_singleton] at hx;subst hx;omega
 have hn':n'=ws.length:=by omega
 subst hn';rw[List.take_length] at ho hpos;refine⟨_,hSK.at (i:=0) rfl (by simp),λW5 n5 _=>⟨_,aj _ _ w0 [111,112,101,110] false (by rw[hw0];decide),Ext.refl _,⟨_,hSK.at (i:=0) rfl (by simp),λW5 n5 _=>⟨_,aj _ _ w0 [99,108,111,115,101] true (by rw[hw0];decide),Ext.refl _,⟨by omega,λ_=>⟨λh2=>?_,λh2=>⟨_,hSK.at (i:=0) rfl (by simp),λW5 n5 _=>⟨_,aj _ _ w0 [114,117,110] false (by rw[hw0];decide),Ext.refl _,⟨_,hSK.at (i:=0) rfl (by simp),λW5 n5 _=>⟨_,aj _ _ w0 [99,117,116] false (by rw[hw0];decide),Ext.refl _,⟨_,hSK.at (i:=0) rfl (by simp),λW5 n5 _=>⟨_,aj _ _ w0 [100,111,110,101] false (by rw[hw0];decide),Ext.refl _,⟨_,hSK.at (i:=0) rfl (by simp),λW5 n5 _=>⟨_,aj _ _ w0 [118,97,108,115] false (by rw[hw0];decide),Ext.refl _,⟨_,hSK.at (i:=0) rfl (by simp),λW5 n5 _=>⟨_,aj _ _ w0 [107,101,112,116] false (by rw[hw0];decide),Ext.refl _,Rt.gfn (aB.err (e:=⟨g,l⟩) (mF (by rw[hi];simp) (by omega)) (by decide))⟩⟩⟩⟩⟩⟩⟩⟩⟩⟩⟩⟩⟩⟩⟩⟩;have hleK:=Hp.le_trans hle (Hp.le_trans le1 hlK)
 obtain⟨a,b,rfl⟩:=ln2 (ws:=ws) (by omega);have ha:=hpos a (by simp)
 have hb:=hpos b (by simp);have r0:aa K p' (0+(0 * 1)) [vi (ad a)]:=by
  have:=ho.rows.row 0 (au (ad a)) rfl;simpa [au] using this
 have r1:aa K p' (0+(1 * 1)) [vi (ad b)]:=by
  have:=ho.rows.row 1 (au (ad b)) rfl;simpa [au] using this
 have hl2:aH ⟨g,l⟩ (w0 :: [a,b])=gO ⟨g,l⟩ ⟨3,ad a,ad b,0,0,POp.none⟩:=by unfold aH;dsimp only;rw[hi];exact mv ha hb
 rw[hl2];refine⟨by omega,λ_=>⟨r0.isSome,λ_=>⟨_,r0,by omega,λ_=>⟨_,r1,?_⟩⟩⟩⟩;refine Cl.fresh (ol hleK hgB hEB hm ok (e:=⟨3,ad a,ad b,0,0,POp.none⟩) ⟨by simp,by simp⟩) ?_;rintro v W5 W6 D5 ⟨e,γ',q',m',d',s',rfl,hp⟩ hx5 hD5 hf5 nn;exact⟨_,_,_,_,_,_,γ'.p,γ'.n,γ'.c,γ'.q,γ'.m,γ'.d,_,_,_,_,_,_,γ'.p0,γ'.n0,γ'.c0,_,_,_,_,_,_,γ'.p1,γ'.n1,γ'.c1,_,_,_,_,_,_,γ'.p2,γ'.n2,γ'.c2,q',m',d',_,_,rfl,hx5,D5,hD5,hf5,λH3 h3 hd3=>Rt.gfn ((show aB HB _ _ D5 from⟨e,γ',q',m',d',s',rfl,hp⟩).mono (ai hd3 λb o h=>Nat.le_trans nn.mod.size (hf5 b o h)))⟩
set_option maxHeartbeats 2000000 in
theorem rF{HB H:Hp}(hle:HB.le H)(hgB:aK HB g γ)(hEB:av HB q m d l)(hm:l.length<=1000)(ok:aQ g){s w0:List UInt8}{ws:List (List UInt8)}(hs:s.length<=4096)(hw:aJ s=w0::ws)(hw0:w0 = [114,117,110]):Gf Tryz.prog 15 #[tV g γ q m d,.string (bs s)] H (aB HB (aq ⟨g,l⟩ s)):=λW hH=>by
 have hl:aq ⟨g,l⟩ s=aH ⟨g,l⟩ (w0::ws):=by unfold aq;rw[hw]
 rw[hl];have h4:∀w∈w0::ws,w.length<=4096:=λw h=>by
  have:=aI s [] w (by rw[<- hw] at h;exact h);simp only[List.length_nil] at this;omega
 have hi:aE w0=some 16:=by rw[hw0];rfl
 have hwl:(w0::ws).length<=s.length+1:=by have:=ch s [];rw[<- hw];exact this
 refine rZ _ _ _ _ _ _ γ.p γ.n γ.c γ.q γ.m γ.d _ _ _ _ _ _ γ.p0 γ.n0 γ.c0 _ _ _ _ _ _ γ.p1 γ.n1 γ.c1 _ _ _ _ _ _ γ.p2 γ.n2 γ.c2 q m d (bs s) noM H W _ hH λb0 b1=>?_;refine Cl.fresh (gL s hs H) ?_;rintro v W1 W2 D ⟨p,n,c,rfl,hS⟩ hx hD hf n1;refine⟨p,n,c,rfl,hx,D,hD,hf,λH1 le1 hd1=>?_⟩;rw[hw] at hS;have hlen:=hS.len
 simp only[List.length_cons] at hlen hwl;have hS1:=hS.mono hd1
 refine⟨by omega,λ_=>⟨(hS1.at (i:=0) rfl (off:=0) (by simp)).isSome,λ_=>⟨_,hS1.at (i:=0) rfl (by simp),λW3 n3 _=>⟨_,aj _ _ w0 [99,97,108,108] false (by rw[hw0];decide),Ext.refl _,?_⟩⟩⟩⟩;refine⟨λv K=>match v with | [.n j,.p p,.n n,.n c]=>n+1=j/\j<=ws.length+1/\H1.le K/\(∃g,Ow K 3 1 p n c (((ws.take n).map ad).map au) g/\∀b,g=some b->W.heap.size<=b/\H1 b=none)/\(∀w∈ws.take n,0<=ad w) | _=>False,λv=>match v with | .n j::_=>ws.length+1-j | _=>0,⟨rfl,by omega,Hp.le_refl _,⟨none,Ow.nil _ _ _ _,λb h=>by cases h⟩,by simp⟩,λK j p' n' c' hI=>?_⟩;obtain⟨hnj,hj,hlK,⟨gi,ho,hgi⟩,hpos⟩:=hI;rw[bT] at ho;have hSK:=hS1.mono hlK
 refine⟨by omega,λ_=>⟨λhlt=>?_,λhge=>?_⟩⟩
 ·obtain⟨w,hw⟩:∃w,ws[n']?=some w:=⟨_,List.getElem?_eq_getElem (by omega)⟩
  have hwj:(w0::ws)[j]?=some w:=by rw[<- hnj];simpa using hw
  have htk:ws.take (n'+1)=ws.take n' ++ [w]:=by rw[List.take_add_one,hw];rfl
  refine⟨by omega,λ_=>⟨_,hSK.at (i:=j) hwj (by omega),?_⟩⟩;refine Cl.same (aZ w (h4 w (List.mem_of_getElem? hwj)) K) λ_ _ hx=>⟨_,rfl,hx,λb2 W7 n7 k7=>?_⟩
  obtain⟨r1,y1,g1,W8,H4,run1,hu1,oa,hg1,_⟩:=aD (P:=Tryz.prog) Tryz.underlying79 fm (by omega) n7.sub ho (row:=au (ad w)) k7.1.eq k7.1.off rfl (λv hv=>by simp only[au,List.mem_singleton] at hv;subst hv;rfl) (by simp only[maxLen];omega) (by omega) 79;refine⟨r1,n'+1,y1,W8,run1,H4,hu1.own ho (λb hb=>.inl (hgi b hb).1),in64 (by omega),λ_=>⟨by omega,λ_=>?_⟩⟩;have oa':Ow H4 3 1 r1 (n'+1) y1 (((ws.take (n'+1)).map ad).map au) g1:=by rw[htk];simpa using oa
  have hat:aa H4 r1 (0+((j:Int)-1) * 1) [vi (ad w)]:=by
   have:=oa'.rows.row n' (au (ad w)) (by rw[List.getElem?_map,List.getElem?_map,List.getElem?_take_of_lt (by omega),hw];rfl);rw[show (0+((j:Int)-1) * 1)=(n':Int) by omega];simpa [au] using this
  refine⟨hat.isSome,λ_=>⟨_,hat,λhneg=>?_,λhnn=>?_⟩⟩
  ·exact Rt.gfn (aB.err (e:=⟨g,l⟩) (gz (by rw[hi];simp) (List.mem_of_getElem? hw) hneg) (by decide))
  ·refine⟨in64 (by omega),λ_=>⟨by omega,λ_=>⟨by omega,λ_=>⟨by omega,λ_=>?_⟩⟩⟩⟩;rw[show ((j:Int)+1).toNat=j+1 by omega,bT];refine⟨⟨by omega,by omega,hu1.keep n7.sub hlK (λb hb=>(hgi b hb).2),⟨g1,oa',λb hb=>?_⟩,λx hx=>?_⟩,by simp only;omega⟩
   ·rcases hg1 with h | h
    ·exact hgi b (h▸hb)
    ·rw[h] at hb;simp only[Option.some.injEq] at hb;have:=n7.mod.size;exact⟨by omega,ao (Hp.le_trans hlK n7.sub) (by omega)⟩
   ·rw[htk] at hx
    rcases List.mem_append.1 hx with hx | hx
    ·exact hpos x hx
    ·simp only[List.mem_singleton] at hx;subst hx;omega
 have hn':n'=ws.length:=by omega
 subst hn';rw[List.take_length] at ho hpos;refine⟨_,hSK.at (i:=0) rfl (by simp),λW5 n5 _=>⟨_,aj _ _ w0 [111,112,101,110] false (by rw[hw0];decide),Ext.refl _,⟨_,hSK.at (i:=0) rfl (by simp),λW5 n5 _=>⟨_,aj _ _ w0 [99,108,111,115,101] false (by rw[hw0];decide),Ext.refl _,⟨_,hSK.at (i:=0) rfl (by simp),λW5 n5 _=>⟨_,aj _ _ w0 [114,117,110] true (by rw[hw0];decide),Ext.refl _,⟨by omega,λ_=>⟨λh2=>?_,λh2=>⟨_,hSK.at (i:=0) rfl (by simp),λW5 n5 _=>⟨_,aj _ _ w0 [99,117,116] false (by rw[hw0];decide),Ext.refl _,⟨_,hSK.at (i:=0) rfl (by simp),λW5 n5 _=>⟨_,aj _ _ w0 [100,111,110,101] false (by rw[hw0];decide),Ext.refl _,⟨_,hSK.at (i:=0) rfl (by simp),λW5 n5 _=>⟨_,aj _ _ w0 [118,97,108,115] false (by rw[hw0];decide),Ext.refl _,⟨_,hSK.at (i:=0) rfl (by simp),λW5 n5 _=>⟨_,aj _ _ w0 [107,101,112,116] false (by rw[hw0];decide),Ext.refl _,Rt.gfn (aB.err (e:=⟨g,l⟩) (mF (by rw[hi];simp) (by omega)) (by decide))⟩⟩⟩⟩⟩⟩⟩⟩⟩⟩⟩⟩⟩⟩⟩⟩;have hleK:=Hp.le_trans hle (Hp.le_trans le1 hlK)
 obtain⟨a,b,rfl⟩:=ln2 (ws:=ws) (by omega);have ha:=hpos a (by simp)
 have hb:=hpos b (by simp);have r0:aa K p' (0+(0 * 1)) [vi (ad a)]:=by
  have:=ho.rows.row 0 (au (ad a)) rfl;simpa [au] using this
 have r1:aa K p' (0+(1 * 1)) [vi (ad b)]:=by
  have:=ho.rows.row 1 (au (ad b)) rfl;simpa [au] using this
 have hl2:aH ⟨g,l⟩ (w0 :: [a,b])=mN ⟨g,l⟩ (ad a) (ad b):=by unfold aH;dsimp only;rw[hi];exact mv ha hb
 rw[hl2];refine⟨by omega,λ_=>⟨r0.isSome,λ_=>⟨_,r0,by omega,λ_=>⟨_,r1,?_⟩⟩⟩⟩;refine Cl.fresh (sQ (hgB.mono hleK) (ad a) (ad b)) ?_;rintro v W5 W6 D5 ⟨γ',rfl,hg1⟩ hx5 hD5 hf5 nn;refine⟨_,_,_,_,_,_,γ'.p,γ'.n,γ'.c,γ'.q,γ'.m,γ'.d,_,_,_,_,_,_,γ'.p0,γ'.n0,γ'.c0,_,_,_,_,_,_,γ'.p1,γ'.n1,γ'.c1,_,_,_,_,_,_,γ'.p2,γ'.n2,γ'.c2,_,_,rfl,hx5,D5,hD5,hf5,λH3 h3 hd3 b2=>⟨λh0=>?_,λh0=>Rt.gfn (aB.err (e:=⟨g,l⟩) (if_neg h0) h0)⟩⟩;have hr:=oc g (ad a) (ad b)
 have hlow:=ok.log.low;refine Cl.same (cj _ ⟨by omega,by omega⟩ H3) λ_ _ hx=>⟨_,rfl,hx,Rt.gfn ?_⟩
 unfold mN;rw[if_pos h0];exact⟨⟨(iC g (ad a) (ad b)).1,l⟩,γ',q,m,d,_,rfl,λ_=>⟨rfl,rfl,λK' hk hd=>⟨hg1.mono (Hp.le_trans (ai hd3 λb o h=>Nat.le_trans nn.mod.size (hf5 b o h)) hd),hEB.mono hk⟩⟩⟩
end
end Go.Proofs.YtfpmcmhihhnfgaaGreatDoor
