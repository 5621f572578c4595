/- Contracts of package group. No conditions. -/
import Derived.Test.YtfpmcmhihhnfgaaGreatDoorKN1
set_option linter.unusedVariables false
set_option linter.unusedSimpArgs false
namespace Go.Proofs.YtfpmcmhihhnfgaaGreatDoor
open Go.RowKit
set_option maxRecDepth 100000
set_option maxHeartbeats 4000000
theorem sx:Xw 9 #[] λ_ H0 _ _ _ _ T=>(∀b0:Nat,T H0 nK (vg #[vi 0,vi 0,vi 0,vi 0,vi 0,vi 0,Value.slice none 0 0,Value.slice none 0 0,vi 0,vi 0,vi 0,vi 0,vi 0,vi 0,Value.slice none 0 0,vi 0,vi 0,vi 0,vi 0,vi 0,vi 0,Value.slice none 0 0,vi 0,vi 0,vi 0,vi 0,vi 0,vi 0,Value.slice none 0 0])) :=
  Xa (hi:={}) (args := []) (nv:=0) (e:=(λ_=>.i 0)) Tryz.func9
theorem sD(x0 x1 x2 x3 x4 x5:Int)(x6:OL)(x7 x8:Nat)(x9:OL)(c0 c1:Nat)(c2 c3 c4 c5 c6 c7:Int)(c8:OL)(c9 cA:Nat)(cB cC cD cE cF cG:Int)(cH:OL)(cI cJ:Nat)(cK cL cM cN cO cP:Int)(cQ:OL)(cR cS:Nat):Xw 111 #[vg (gv x0 x1 x2 x3 x4 x5 x6 x7 x8 x9 c0 c1 c2 c3 c4 c5 c6 c7 c8 c9 cA cB cC cD cE cF cG cH cI cJ cK cL cM cN cO cP cQ cR cS)] λ_ H0 _ _ C _ T=>let u3:=#[vi c2,vi c3,vi c4,vi c5,vi c6,vi c7,vsl c8 c9 cA];let u2:=#[vi cB,vi cC,vi cD,vi cE,vi cF,vi cG,vsl cH cI cJ];let u1:=#[vi cK,vi cL,vi cM,vi cN,vi cO,vi cP,vsl cQ cR cS];let u0:=#[vi x0,vi x1,vi x2,vi x3,vi x4,vi x5,vsl x6 x7 x8,vsl x9 c0 c1];(∀b0:Nat,(C H0 nK 113 #[vg u0] λz W1 W2=>∃cT:Int,z=.returned (vi cT)/\Ext W1 W2/\(It (cT=0) (∀b1:Nat,(C H0 nK 139 #[vg u3] λz W3 W4=>∃cU:Int,z=.returned (vi cU)/\Ext W3 W4/\(It (cU=0) (C H0 nK 125 #[vg u0,vg u3] λz W5 W6=>∃cV:Bool,z=.returned (vb (cV))/\Ext W5 W6/\(It (cV=true) (∀b2:Nat,(C H0 nK 139 #[vg u2] λz W7 W8=>∃cW:Int,z=.returned (vi cW)/\Ext W7 W8/\(It (cW=0) (C H0 nK 125 #[vg u0,vg u2] λz W9 W10=>∃cX:Bool,z=.returned (vb (cX))/\Ext W9 W10/\(It (cX=true) (∀b3:Nat,(C H0 nK 139 #[vg u1] λz W11 W12=>∃cY:Int,z=.returned (vi cY)/\Ext W11 W12/\(It (cY=0) (C H0 nK 125 #[vg u0,vg u1] λz W13 W14=>∃cZ:Bool,z=.returned (vb (cZ))/\Ext W13 W14/\(It (cZ=true) (T H0 nK (vi 0)) (T H0 nK (vi 1)))) (T H0 nK (vi cY))))) (T H0 nK (vi 1)))) (T H0 nK (vi cW))))) (T H0 nK (vi 1)))) (T H0 nK (vi cU))))) (T H0 nK (vi cT))))) :=
  Xa (hi:={loops := [(5,.unroll 4)]}) (args := [.agg gA]) (nv:=39) (e:=lk (ge x0 x1 x2 x3 x4 x5 x6 x7 x8 x9 c0 c1 c2 c3 c4 c5 c6 c7 c8 c9 cA cB cC cD cE cF cG cH cI cJ cK cL cM cN cO cP cQ cR cS [])) Tryz.func111
theorem B4(x0 x1 x2 x3 x4 x5:Int)(x6:OL)(x7 x8:Nat)(x9:OL)(c0 c1:Nat)(c2 c3 c4 c5 c6 c7:Int)(c8:OL)(c9 cA:Nat)(cB cC cD cE cF cG:Int)(cH:OL)(cI cJ:Nat)(cK cL cM cN cO cP:Int)(cQ:OL)(cR cS:Nat):Xw 88 #[vg (gv x0 x1 x2 x3 x4 x5 x6 x7 x8 x9 c0 c1 c2 c3 c4 c5 c6 c7 c8 c9 cA cB cC cD cE cF cG cH cI cJ cK cL cM cN cO cP cQ cR cS)] λM H0 W0 _ C _ T=>(∀b0:Nat,(C H0 nK 111 #[vg (gv x0 x1 x2 x3 x4 x5 x6 x7 x8 x9 c0 c1 c2 c3 c4 c5 c6 c7 c8 c9 cA cB cC cD cE cF cG cH cI cJ cK cL cM cN cO cP cQ cR cS)] λz W1 W2=>∃cT:Int,z=.returned (vi cT)/\Ext W1 W2/\(It (cT=0) (C H0 nK 112 #[vg #[vi x0,vi x1,vi x2,vi x3,vi x4,vi x5,vsl x6 x7 x8]] λz W3 W4=>∃(cU cV cW cX cY cZ:Int) (d0:OL) (d1 d2:Nat),z=.returned (vg #[vi cU,vi cV,vi cW,vi cX,vi cY,vi cZ,vsl d0 d1 d2])/\Fr W3 W4 H0 λH1=>(C H1 nK 66 #[vsl x9 c0 c1] λz W5 W6=>∃(d3:OL) (d4 d5:Nat),z=.returned (vsl d3 d4 d5)/\Fr W5 W6 H1 λH2=>(C H2 nK 112 #[vg #[vi c2,vi c3,vi c4,vi c5,vi c6,vi c7,vsl c8 c9 cA]] λz W7 W8=>∃(d6 d7 d8 d9 dA dB:Int) (dC:OL) (dD dE:Nat),z=.returned (vg #[vi d6,vi d7,vi d8,vi d9,vi dA,vi dB,vsl dC dD dE])/\Fr W7 W8 H2 λH3=>(C H3 nK 112 #[vg #[vi cB,vi cC,vi cD,vi cE,vi cF,vi cG,vsl cH cI cJ]] λz W9 W10=>∃(dF dG dH dI dJ dK:Int) (dL:OL) (dM dN:Nat),z=.returned (vg #[vi dF,vi dG,vi dH,vi dI,vi dJ,vi dK,vsl dL dM dN])/\Fr W9 W10 H3 λH4=>(C H4 nK 112 #[vg #[vi cK,vi cL,vi cM,vi cN,vi cO,vi cP,vsl cQ cR cS]] λz W11 W12=>∃(dO dP dQ dR dS dT:Int) (dU:OL) (dV dW:Nat),z=.returned (vg #[vi dO,vi dP,vi dQ,vi dR,vi dS,vi dT,vsl dU dV dW])/\Fr W11 W12 H4 λH5=>(∀b1:Nat,T H5 (λW=>Kn W0 M H5 W b1 (Obj.cells (gv cU cV cW cX cY cZ d0 d1 d2 d3 d4 d5 d6 d7 d8 d9 dA dB dC dD dE dF dG dH dI dJ dK dL dM dN dO dP dQ dR dS dT dU dV dW) 145 (0,0))/\True) (vt #[vp (some ⟨b1,0,none⟩),vi 0]))))))) (T H0 nK (vt #[vp none,vi cT]))))) :=
  Xa (hi:={loops := [(6,.unroll 4)]}) (args := [.agg gA]) (nv:=39) (e:=lk (ge x0 x1 x2 x3 x4 x5 x6 x7 x8 x9 c0 c1 c2 c3 c4 c5 c6 c7 c8 c9 cA cB cC cD cE cF cG cH cI cJ cK cL cM cN cO cP cQ cR cS [])) Tryz.func88
theorem wZ(x0:OL)(x1:Int):Xw 90 #[vp (ab x0 0),vi x1] λ_ H0 _ _ _ _ T=>(∀b0:Nat,(It (x1=0) (Ck (x0.isSome=true) (eG λx2 x3 x4 x5 x6 x7 x8 x9 c0 c1 c2 c3 c4 c5 c6 c7 c8 c9 cA cB cC cD cE cF cG cH cI cJ cK cL cM cN cO cP cQ cR cS cT cU=>aa H0 x0 0 [vi x2,vi x3,vi x4,vi x5,vi x6,vi x7,vsl x8 x9 c0,vsl c1 c2 c3,vi c4,vi c5,vi c6,vi c7,vi c8,vi c9,vsl cA cB cC,vi cD,vi cE,vi cF,vi cG,vi cH,vi cI,vsl cJ cK cL,vi cM,vi cN,vi cO,vi cP,vi cQ,vi cR,vsl cS cT cU]/\T H0 nK (vt #[vg (gv x2 x3 x4 x5 x6 x7 x8 x9 c0 c1 c2 c3 c4 c5 c6 c7 c8 c9 cA cB cC cD cE cF cG cH cI cJ cK cL cM cN cO cP cQ cR cS cT cU),vi 0]))) (T H0 nK (vt #[vg #[vi 0,vi 0,vi 0,vi 0,vi 0,vi 0,Value.slice none 0 0,Value.slice none 0 0,vi 0,vi 0,vi 0,vi 0,vi 0,vi 0,Value.slice none 0 0,vi 0,vi 0,vi 0,vi 0,vi 0,vi 0,Value.slice none 0 0,vi 0,vi 0,vi 0,vi 0,vi 0,vi 0,Value.slice none 0 0],vi x1])))) :=
  Xa (hi:={}) (args := [.ptrO 0 (.k 0),vI 1]) (nv:=2) (e:=lk [.p x0,.i x1]) Tryz.func90
theorem vw(x0 x1 x2 x3 x4 x5:Int)(x6:OL)(x7 x8:Nat)(x9:OL)(c0 c1:Nat)(c2 c3 c4 c5 c6 c7:Int)(c8:OL)(c9 cA:Nat)(cB cC cD cE cF cG:Int)(cH:OL)(cI cJ:Nat)(cK cL cM cN cO cP:Int)(cQ:OL)(cR cS:Nat)(cT cU cV cW cX cY cZ d0 d1:Int):Xw 65 #[vg (gv x0 x1 x2 x3 x4 x5 x6 x7 x8 x9 c0 c1 c2 c3 c4 c5 c6 c7 c8 c9 cA cB cC cD cE cF cG cH cI cJ cK cL cM cN cO cP cQ cR cS),vg #[vi cT,vi cU,vi cV,vi cW,vi cX,vi cY,vi cZ,vi d0,vi d1]] λM H0 W0 _ C Q T=>(∀b0:Nat,(∀b1:Nat,(∀b2:Nat,(C H0 nK 88 #[vg (gv x0 x1 x2 x3 x4 x5 x6 x7 x8 x9 c0 c1 c2 c3 c4 c5 c6 c7 c8 c9 cA cB cC cD cE cF cG cH cI cJ cK cL cM cN cO cP cQ cR cS)] λz W1 W2=>∃(d2:OL) (d3:Int),z=.returned (vt #[vp (ab d2 0),vi d3])/\Fr W1 W2 H0 λH1=>(It (d3=0) (Ck (d2.isSome=true) (∃(d4 d5 d6 d7 d8 d9:Int) (dA:OL) (dB dC:Nat) (dD:OL) (dE dF:Nat),aa H1 d2 0 [vi d4,vi d5,vi d6,vi d7,vi d8,vi d9,vsl dA dB dC,vsl dD dE dF]/\(C H1 nK 89 #[vg #[vi d4,vi d5,vi d6,vi d7,vi d8,vi d9,vsl dA dB dC,vsl dD dE dF],vg #[vi cT,vi cU,vi cV,vi cW,vi cX,vi cY,vi cZ,vi d0,vi d1]] λz W3 W4=>∃(dG dH dI dJ dK dL:Int) (dM:OL) (dN dO:Nat) (dP:OL) (dQ dR:Nat) (dS dT:Int),let u1:=#[vi dG,vi dH,vi dI,vi dJ,vi dK,vi dL,vsl dM dN dO,vsl dP dQ dR];z=.returned (vt #[vg u1,vi dS,vi dT])/\Fr W3 W4 H1 λH2=>(Q H2 nK λW5=>Eo' (.storeO 36) [vp (ab d2 0),vg u1] W5 (.skip) λW6=>Tn W0 M H2 W5 W6 λH3=>(C H3 nK 90 #[vp (ab d2 0),vi dT] λz W7 W8=>eV λt0=>∃(dU:Int),let u0:=t0;z=.returned (vt #[vg u0,vi dU])/\Fr W7 W8 H3 λH4=>(∀b3:Nat,T H4 nK (vt #[vg u0,vi dS,vi dU]))))))) (T H1 nK (vt #[vg #[vi 0,vi 0,vi 0,vi 0,vi 0,vi 0,Value.slice none 0 0,Value.slice none 0 0,vi 0,vi 0,vi 0,vi 0,vi 0,vi 0,Value.slice none 0 0,vi 0,vi 0,vi 0,vi 0,vi 0,vi 0,Value.slice none 0 0,vi 0,vi 0,vi 0,vi 0,vi 0,vi 0,Value.slice none 0 0],vi 0,vi d3]))))))) :=
  Xa (hi:={}) (args := [.agg gA,.agg [vI 39,vI 40,vI 41,vI 42,vI 43,vI 44,vI 45,vI 46,vI 47]]) (nv:=48) (e:=lk (ge x0 x1 x2 x3 x4 x5 x6 x7 x8 x9 c0 c1 c2 c3 c4 c5 c6 c7 c8 c9 cA cB cC cD cE cF cG cH cI cJ cK cL cM cN cO cP cQ cR cS [.i cT,.i cU,.i cV,.i cW,.i cX,.i cY,.i cZ,.i d0,.i d1])) Tryz.func65
theorem uL(x0 x1 x2 x3 x4 x5:Int)(x6:OL)(x7 x8:Nat)(x9:OL)(c0 c1:Nat)(c2 c3 c4 c5 c6 c7:Int)(c8:OL)(c9 cA:Nat)(cB cC cD cE cF cG:Int)(cH:OL)(cI cJ:Nat)(cK cL cM cN cO cP:Int)(cQ:OL)(cR cS:Nat)(cT:Int):Xw 71 #[vg (gv x0 x1 x2 x3 x4 x5 x6 x7 x8 x9 c0 c1 c2 c3 c4 c5 c6 c7 c8 c9 cA cB cC cD cE cF cG cH cI cJ cK cL cM cN cO cP cQ cR cS),vi cT] λM H0 W0 _ C Q T=>(∀b0:Nat,(∀b1:Nat,(C H0 nK 88 #[vg (gv x0 x1 x2 x3 x4 x5 x6 x7 x8 x9 c0 c1 c2 c3 c4 c5 c6 c7 c8 c9 cA cB cC cD cE cF cG cH cI cJ cK cL cM cN cO cP cQ cR cS)] λz W1 W2=>∃(cU:OL) (cV:Int),z=.returned (vt #[vp (ab cU 0),vi cV])/\Fr W1 W2 H0 λH1=>(It (cV=0) (Ck (cU.isSome=true) (∃(cW cX cY cZ d0 d1:Int) (d2:OL) (d3 d4:Nat) (d5:OL) (d6 d7:Nat),aa H1 cU 0 [vi cW,vi cX,vi cY,vi cZ,vi d0,vi d1,vsl d2 d3 d4,vsl d5 d6 d7]/\(C H1 nK 96 #[vg #[vi cW,vi cX,vi cY,vi cZ,vi d0,vi d1,vsl d2 d3 d4,vsl d5 d6 d7],vi cT] λz W3 W4=>∃(d8 d9 dA dB dC dD:Int) (dE:OL) (dF dG:Nat) (dH:OL) (dI dJ:Nat) (dK:Int),let u1:=#[vi d8,vi d9,vi dA,vi dB,vi dC,vi dD,vsl dE dF dG,vsl dH dI dJ];z=.returned (vt #[vg u1,vi dK])/\Fr W3 W4 H1 λH2=>(Q H2 nK λW5=>Eo' (.storeO 36) [vp (ab cU 0),vg u1] W5 (.skip) λW6=>Tn W0 M H2 W5 W6 λH3=>(C H3 nK 90 #[vp (ab cU 0),vi dK] λz W7 W8=>eV λt0=>∃(dL:Int),let u0:=#[vg t0,vi dL];z=.returned (vt u0)/\Fr W7 W8 H3 λH4=>T H4 nK (vt u0)))))) (T H1 nK (vt #[vg #[vi 0,vi 0,vi 0,vi 0,vi 0,vi 0,Value.slice none 0 0,Value.slice none 0 0,vi 0,vi 0,vi 0,vi 0,vi 0,vi 0,Value.slice none 0 0,vi 0,vi 0,vi 0,vi 0,vi 0,vi 0,Value.slice none 0 0,vi 0,vi 0,vi 0,vi 0,vi 0,vi 0,Value.slice none 0 0],vi cV])))))) :=
  Xa (hi:={}) (args := [.agg gA,vI 39]) (nv:=40) (e:=lk (ge x0 x1 x2 x3 x4 x5 x6 x7 x8 x9 c0 c1 c2 c3 c4 c5 c6 c7 c8 c9 cA cB cC cD cE cF cG cH cI cJ cK cL cM cN cO cP cQ cR cS [.i cT])) Tryz.func71
theorem wa(x0 x1 x2 x3 x4 x5:Int)(x6:OL)(x7 x8:Nat)(x9:OL)(c0 c1:Nat)(c2 c3 c4 c5 c6 c7:Int)(c8:OL)(c9 cA:Nat)(cB cC cD cE cF cG:Int)(cH:OL)(cI cJ:Nat)(cK cL cM cN cO cP:Int)(cQ:OL)(cR cS:Nat)(cT cU:Int):Xw 70 #[vg (gv x0 x1 x2 x3 x4 x5 x6 x7 x8 x9 c0 c1 c2 c3 c4 c5 c6 c7 c8 c9 cA cB cC cD cE cF cG cH cI cJ cK cL cM cN cO cP cQ cR cS),vi cT,vi cU] λM H0 W0 _ C Q T=>let u0:=#[vi 0,vi 0,vi 0,vi 0,vi 0,vi 0,Value.slice none 0 0,Value.slice none 0 0,vi 0,vi 0,vi 0,vi 0,vi 0,vi 0,Value.slice none 0 0,vi 0,vi 0,vi 0,vi 0,vi 0,vi 0,Value.slice none 0 0,vi 0,vi 0,vi 0,vi 0,vi 0,vi 0,Value.slice none 0 0];(∀b0:Nat,(∀b1:Nat,(C H0 nK 88 #[vg (gv x0 x1 x2 x3 x4 x5 x6 x7 x8 x9 c0 c1 c2 c3 c4 c5 c6 c7 c8 c9 cA cB cC cD cE cF cG cH cI cJ cK cL cM cN cO cP cQ cR cS)] λz W1 W2=>∃(cV:OL) (cW:Int),z=.returned (vt #[vp (ab cV 0),vi cW])/\Fr W1 W2 H0 λH1=>(It (cW=0) (It (cT<0) (T H1 nK (vt #[vg u0,vi 0,vi 3])) (It (3<=cT) (T H1 nK (vt #[vg u0,vi 0,vi 3])) (Ck (cV.isSome=true) (∃(cX cY cZ d0 d1 d2:Int) (d3:OL) (d4 d5:Nat) (d6:OL) (d7 d8:Nat),aa H1 cV 0 [vi cX,vi cY,vi cZ,vi d0,vi d1,vi d2,vsl d3 d4 d5,vsl d6 d7 d8]/\(Ck ((0:Int)<=cT/\cT<3) (Ck ((0:Int)<=(0+8)) (∃(d9 dA dB dC dD dE:Int) (dF:OL) (dG dH:Nat),aa H1 cV ((0+8)+(cT * 7)) [vi d9,vi dA,vi dB,vi dC,vi dD,vi dE,vsl dF dG dH]/\(C H1 nK 95 #[vg #[vi cX,vi cY,vi cZ,vi d0,vi d1,vi d2,vsl d3 d4 d5,vsl d6 d7 d8],vg #[vi d9,vi dA,vi dB,vi dC,vi dD,vi dE,vsl dF dG dH],vi cU] λz W3 W4=>∃(dI dJ dK dL dM dN:Int) (dO:OL) (dP dQ:Nat) (dR dS:Int),let u2:=#[vi dI,vi dJ,vi dK,vi dL,vi dM,vi dN,vsl dO dP dQ];z=.returned (vt #[vg u2,vi dR,vi dS])/\Fr W3 W4 H1 λH2=>(Q H2 nK λW5=>Eo' (.storeO 33) [vp (ab cV ((0+8)+(cT * 7))),vg u2] W5 (.skip) λW6=>Tn W0 M H2 W5 W6 λH3=>(C H3 nK 90 #[vp (ab cV 0),vi dS] λz W7 W8=>eV λt0=>∃(dT:Int),let u1:=t0;z=.returned (vt #[vg u1,vi dT])/\Fr W7 W8 H3 λH4=>(∀b2:Nat,T H4 nK (vt #[vg u1,vi dR,vi dT])))))))))))) (T H1 nK (vt #[vg u0,vi 0,vi cW])))))) :=
  Xa (hi:={}) (args := [.agg gA,vI 39,vI 40]) (nv:=41) (e:=lk (ge x0 x1 x2 x3 x4 x5 x6 x7 x8 x9 c0 c1 c2 c3 c4 c5 c6 c7 c8 c9 cA cB cC cD cE cF cG cH cI cJ cK cL cM cN cO cP cQ cR cS [.i cT,.i cU])) Tryz.func70
set_option maxRecDepth 100000
structure GP where
  p:OL
  n:Nat
  c:Nat
  q:OL
  m:Nat
  d:Nat
  p0:OL
  n0:Nat
  c0:Nat
  p1:OL
  n1:Nat
  c1:Nat
  p2:OL
  n2:Nat
  c2:Nat
abbrev kQ(g:Grp)(γ:GP):List Value := [vi g.base.pos,vi g.base.clock,vi g.base.vals.a,vi g.base.vals.b,vi g.base.vals.c,vi g.base.vals.d,vsl γ.p γ.n γ.c,vsl γ.q γ.m γ.d,vi g.n0.pos,vi g.n0.clock,vi g.n0.vals.a,vi g.n0.vals.b,vi g.n0.vals.c,vi g.n0.vals.d,vsl γ.p0 γ.n0 γ.c0,vi g.n1.pos,vi g.n1.clock,vi g.n1.vals.a,vi g.n1.vals.b,vi g.n1.vals.c,vi g.n1.vals.d,vsl γ.p1 γ.n1 γ.c1,vi g.n2.pos,vi g.n2.clock,vi g.n2.vals.a,vi g.n2.vals.b,vi g.n2.vals.c,vi g.n2.vals.d,vsl γ.p2 γ.n2 γ.c2]
abbrev mQ(g:Grp)(γ:GP):Value:=.agg #[vi g.base.pos,vi g.base.clock,vi g.base.vals.a,vi g.base.vals.b,vi g.base.vals.c,vi g.base.vals.d,vsl γ.p γ.n γ.c,vsl γ.q γ.m γ.d,vi g.n0.pos,vi g.n0.clock,vi g.n0.vals.a,vi g.n0.vals.b,vi g.n0.vals.c,vi g.n0.vals.d,vsl γ.p0 γ.n0 γ.c0,vi g.n1.pos,vi g.n1.clock,vi g.n1.vals.a,vi g.n1.vals.b,vi g.n1.vals.c,vi g.n1.vals.d,vsl γ.p1 γ.n1 γ.c1,vi g.n2.pos,vi g.n2.clock,vi g.n2.vals.a,vi g.n2.vals.b,vi g.n2.vals.c,vi g.n2.vals.d,vsl γ.p2 γ.n2 γ.c2]
structure aK(H:Hp)(g:Grp)(γ:GP):Prop where
  base:Tab H γ.p γ.n γ.c g.base.table
  tail:av H γ.q γ.m γ.d g.tail
  n0:Tab H γ.p0 γ.n0 γ.c0 g.n0.table
  n1:Tab H γ.p1 γ.n1 γ.c1 g.n1.table
  n2:Tab H γ.p2 γ.n2 γ.c2 g.n2.table
theorem aK.mono{H K:Hp}{g:Grp}{γ:GP}(h:aK H g γ)(hk:H.le K):aK K g γ:=⟨h.base.mono hk,h.tail.mono hk,h.n0.mono hk,h.n1.mono hk,h.n2.mono hk⟩
def GP.nil:GP:=⟨none,0,0,none,0,0,none,0,0,none,0,0,none,0,0⟩
theorem aK.nil(H:Hp):aK H Grp.zero GP.nil:=⟨Tab.nil _ _,av.nil _ _,Tab.nil _ _,Tab.nil _ _,Tab.nil _ _⟩
def o8(g:Grp)(mk:Value->Value)(v:Value)(D:Hp):Prop:=∃γ,v=mk (mQ g γ)/\aK D g γ
theorem eh{W:World}{H K:Hp}(h:H.le K):(aX W H).le (aX W K):=λb o hb=>by
  unfold aX at hb |-
  split at hb
  · rename_i h1;rw[if_pos h1];exact h b o hb
  · cases hb
theorem yj{b:Sta}{l:List Ent}{e:Ent}(h:¬(gS b l e).2.2.2=0):(gS b l e).2.2.1=0:=by
  by_cases h0:aY b l=0
  · by_cases h1:e.err=0
    · by_cases h2:b.pos+(l.length:Int)=50
      · rw[iU h0 h1 h2]
      · rw[lC h0 h1 h2] at h;exact absurd rfl h
    · rw[jH h0 h1]
  · rw[px h0]
theorem lK{b s:Sta}{l:List Ent}(h:¬s.err=0):jn b l s=s.err:=if_pos h
theorem lA{b s:Sta}{l:List Ent}(h:s.err=0)(h1:cw b l s=false):jn b l s=1:=by unfold jn;rw[if_neg (by omega),if_pos h1]
theorem jQ{b s:Sta}{l:List Ent}(h:s.err=0)(h1:cw b l s=true):jn b l s=0:=by unfold jn;rw[if_neg (by omega),if_neg (by rw[h1];simp)]
section
variable{g:Grp}
theorem uf(h:¬aY g.base g.tail=0):fT g=aY g.base g.tail:=if_pos h
theorem rC(h:aY g.base g.tail=0)(h0:¬jn g.base g.tail g.n0=0):fT g=jn g.base g.tail g.n0:=by unfold fT;rw[if_neg (by omega),if_pos h0]
theorem sd(h:aY g.base g.tail=0)(h0:jn g.base g.tail g.n0=0)(h1:¬jn g.base g.tail g.n1=0):fT g=jn g.base g.tail g.n1:=by unfold fT;rw[if_neg (by omega),if_neg (by omega),if_pos h1]
theorem oo(h:aY g.base g.tail=0)(h0:jn g.base g.tail g.n0=0)(h1:jn g.base g.tail g.n1=0):fT g=jn g.base g.tail g.n2:=by unfold fT;rw[if_neg (by omega),if_neg (by omega),if_neg (by omega)]
end
section
variable{H:Hp}{g:Grp}{γ:GP}
theorem rW(hg:aK H g γ):Gv Tryz.prog 111 #[mQ g γ] H (vi (fT g)):=λW hH=>by
  refine sD _ _ _ _ _ _ γ.p γ.n γ.c γ.q γ.m γ.d _ _ _ _ _ _ γ.p0 γ.n0 γ.c0 _ _ _ _ _ _ γ.p1 γ.n1 γ.c1 _ _ _ _ _ _ γ.p2 γ.n2 γ.c2 noM H W _ hH λb0=>?_
  refine Cl.same (jz hg.base hg.tail) λ_ _ hx=>⟨_,rfl,hx,λe0 b1=>?_,λe0=>Rt.gv' (by rw[uf e0])⟩
  have ho:=bG.1 e0
  refine Cl.same (jJ hg.n0) λ_ _ hx=>⟨_,rfl,hx,λe1=>?_,λe1=>Rt.gv' (by have e2:=lK (b:=g.base) (l:=g.tail) e1;rw[rC e0 (by rw[e2];exact e1),e2])⟩
  refine Cl.same (jx ho (Sta.err_ok.1 e1) hg.base hg.tail hg.n0) λ_ _ hx=>⟨_,rfl,hx,λf1 b2=>?_,λf1=>Rt.gv' (by have e2:=lA e1 (by simpa using f1);rw[rC e0 (by rw[e2];decide),e2])⟩
  have s0:=jQ e1 f1
  refine Cl.same (jJ hg.n1) λ_ _ hx=>⟨_,rfl,hx,λe1=>?_,λe1=>Rt.gv' (by have e2:=lK (b:=g.base) (l:=g.tail) e1;rw[sd e0 s0 (by rw[e2];exact e1),e2])⟩
  refine Cl.same (jx ho (Sta.err_ok.1 e1) hg.base hg.tail hg.n1) λ_ _ hx=>⟨_,rfl,hx,λf1 b3=>?_,λf1=>Rt.gv' (by have e2:=lA e1 (by simpa using f1);rw[sd e0 s0 (by rw[e2];decide),e2])⟩
  have s1:=jQ e1 f1
  refine Cl.same (jJ hg.n2) λ_ _ hx=>⟨_,rfl,hx,λe1=>?_,λe1=>Rt.gv' (by rw[oo e0 s0 s1,lK e1])⟩
  exact Cl.same (jx ho (Sta.err_ok.1 e1) hg.base hg.tail hg.n2) λ_ _ hx=>⟨_,rfl,hx,λf1=>Rt.gv' (by rw[oo e0 s0 s1,jQ e1 f1]),λf1=>Rt.gv' (by rw[oo e0 s0 s1,lA e1 (by simpa using f1)])⟩
def yC(g:Grp)(v:Value)(D:Hp):Prop :=
  (fT g≠0/\v=.tuple #[.pointer none,vi (fT g)]) \/
  (fT g=0/\∃(b:Nat) (γ:GP) (Dg:Hp),v=.tuple #[.pointer (some ⟨b,0,none⟩),vi 0]/\Ow D 145 29 (some (b,0)) 1 1 [kQ g γ] (some b)/\Hp.le Dg D/\Dg b=none/\aK Dg g γ)
theorem yA(g:Grp)(γ:GP):∀v∈kQ g γ,v.oneCell'=true:=λv hv=>by
  simp only[List.mem_cons,List.not_mem_nil,or_false] at hv
  repeat' (rcases hv with rfl | hv;rfl)
theorem rE(hg:aK H g γ):Gf Tryz.prog 88 #[mQ g γ] H (yC g):=λW hH=>by
  have hcap:=hg.tail.len
  refine B4 _ _ _ _ _ _ γ.p γ.n γ.c γ.q γ.m γ.d _ _ _ _ _ _ γ.p0 γ.n0 γ.c0 _ _ _ _ _ _ γ.p1 γ.n1 γ.c1 _ _ _ _ _ _ γ.p2 γ.n2 γ.c2 noM H W _ hH λb0=>?_
  refine Cl.same (rW hg) λ_ _ hx=>⟨_,rfl,hx,λe0=>?_,λe0=>Rt.gfn (.inl ⟨e0,rfl⟩)⟩
  have ok:=cn.1 e0
  have hlow:=ok.log.low
  refine Cl.fresh (kx hg.base (Small.of_ok ok.log.base.table)) ?_
  rintro v W1 W2 D1 ⟨p,c,es,gg,rfl,hO,he⟩ hx hD1 hf1 nn1
  have hT:=hO.tab
  rw[he] at hT
  refine⟨_,_,_,_,_,_,p,γ.n,c,rfl,hx,D1,hD1,hf1,λH1 h1 hd1=>?_⟩
  refine Cl.fresh (mK (hg.tail.mono h1) (by omega)) ?_
  rintro v W3 W4 D2 ⟨q,d,gq,rfl,hQ⟩ hx hD2 hf2 nn2
  have hE:=av.of_ow hQ hg.tail.2.2.2
  refine⟨q,γ.m,d,rfl,hx,D2,hD2,hf2,λH2 h2 hd2=>?_⟩
  refine Cl.fresh (kx ((hg.n0.mono h1).mono h2) (Small.of_ok ok.ok0.table)) ?_
  rintro v W5 W6 D3 ⟨p0,c0,es0,gg0,rfl,hO0,he0⟩ hx hD3 hf3 nn3
  have hT0:=hO0.tab
  rw[he0] at hT0
  refine⟨_,_,_,_,_,_,p0,γ.n0,c0,rfl,hx,D3,hD3,hf3,λH3 h3 hd3=>?_⟩
  refine Cl.fresh (kx (((hg.n1.mono h1).mono h2).mono h3) (Small.of_ok ok.ok1.table)) ?_
  rintro v W7 W8 D4 ⟨p1,c1,es1,gg1,rfl,hO1,he1⟩ hx hD4 hf4 nn4
  have hT1:=hO1.tab
  rw[he1] at hT1
  refine⟨_,_,_,_,_,_,p1,γ.n1,c1,rfl,hx,D4,hD4,hf4,λH4 h4 hd4=>?_⟩
  refine Cl.fresh (kx ((((hg.n2.mono h1).mono h2).mono h3).mono h4) (Small.of_ok ok.ok2.table)) ?_
  rintro v W9 W10 D5 ⟨p2,c2,es2,gg2,rfl,hO2,he2⟩ hx hD5 hf5 nn5
  have hT2:=hO2.tab
  rw[he2] at hT2
  refine⟨_,_,_,_,_,_,p2,γ.n2,c2,rfl,hx,D5,hD5,hf5,λH5 h5 hd5 b1 W11 n11 k11=>?_⟩
  have hk:=k11.1
  have t1:(aX W H1).le (aX W H2):=eh h2
  have t2:(aX W H2).le (aX W H3):=eh h3
  have t3:(aX W H3).le (aX W H4):=eh h4
  have t4:(aX W H4).le (aX W H5):=eh h5
  have hb:aX W H5 b1=none:=by
    cases h:aX W H5 b1 with
    | none=>rfl
    | some o=>have:=fW W H5 b1 o h;rw[hk.off] at this;cases this
  have gt:aK (aX W H5) g ⟨p,γ.n,c,q,γ.m,d,p0,γ.n0,c0,p1,γ.n1,c1,p2,γ.n2,c2⟩ :=
    ⟨((((hT.mono (ai hd1 (λb o h=>Nat.le_trans nn1.mod.size (hf1 b o h)))).mono t1).mono t2).mono t3).mono t4,
     (((hE.mono (ai hd2 (λb o h=>Nat.le_trans nn2.mod.size (hf2 b o h)))).mono t2).mono t3).mono t4,
     ((hT0.mono (ai hd3 (λb o h=>Nat.le_trans nn3.mod.size (hf3 b o h)))).mono t3).mono t4,
     (hT1.mono (ai hd4 (λb o h=>Nat.le_trans nn4.mod.size (hf4 b o h)))).mono t4,
     hT2.mono (ai hd5 (λb o h=>Nat.le_trans nn5.mod.size (hf5 b o h)))⟩
  refine⟨_,bh (aX W H5) b1 (.cells (kQ g ⟨p,γ.n,c,q,γ.m,d,p0,γ.n0,c0,p1,γ.n1,c1,p2,γ.n2,c2⟩).toArray 145 (0,0)),rfl,n11.ext,gF (Hp.le_trans (fW W H5) n11.sub) hk.eq,λb o h=>?_,.inr ⟨e0,b1,_,aX W H5,rfl,?_,gM hb,hb,gt⟩⟩
  · unfold bh at h
    split at h
    · rename_i h1
      subst h1
      exact hk.own.resolve_right λh=>h
    · exact dw W H5 b o h
  · exact⟨rfl,λr hr=>by simp only[List.mem_singleton] at hr;subst hr;exact⟨rfl,yA _ _⟩,Nat.le_refl _,by simp[maxLen],.inr ⟨b1,_,rfl,rfl,cm ..,rfl,by simp⟩⟩
theorem lv{b:Nat}(hr:aa H (some (b,0)) 0 (kQ g γ)):Gv Tryz.prog 90 #[.pointer (some ⟨b,0,none⟩),vi 0] H (.tuple #[mQ g γ,vi 0]):=λW hH =>
  wZ (some (b,0)) 0 noM H W _ hH λb0=>⟨λ_=>⟨rfl,λ_=>⟨_,_,_,_,_,_,γ.p,γ.n,γ.c,γ.q,γ.m,γ.d,_,_,_,_,_,_,γ.p0,γ.n0,γ.c0,_,_,_,_,_,_,γ.p1,γ.n1,γ.c1,_,_,_,_,_,_,γ.p2,γ.n2,γ.c2,hr,Rt.gv⟩⟩,λh=>absurd rfl h⟩
theorem lu{b:Nat}{x:Int}(hx:¬x=0):Gv Tryz.prog 90 #[.pointer (some ⟨b,0,none⟩),vi x] H (.tuple #[mQ Grp.zero GP.nil,vi x]):=λW hH =>
  wZ (some (b,0)) x noM H W _ hH λb0=>⟨λh=>absurd h hx,λ_=>Rt.gv⟩
theorem Dd:fc Tryz.prog 36 8 96=true:=by kernel_rfl
theorem aa.seg{p:OL}{a r z:List Value}{off off':Int}(h:aa H p off (a++r++z))(h0:0<=off)(e:off'=off+(a.length:Int)):aa H p off' r:=by
  obtain⟨b,o,h1,C,T,fz,h2,h3⟩:=h
  refine⟨b,o,h1,C,T,fz,h2,λi hi=>?_⟩
  obtain⟨h4,h5⟩:=h3 (a.length+i) (by simp;omega)
  rw[List.append_assoc,List.getElem?_append_right (by omega),Nat.add_sub_cancel_left,List.getElem?_append_left hi] at h4
  have e2:o+off'.toNat+i=o+off.toNat+(a.length+i):=by omega
  rw[e2]
  exact⟨h4,h5⟩
theorem ew{b:Nat}{γ:GP}(ho:Ow H 145 29 (some (b,0)) 1 1 [kQ g γ] (some b)):aa H (some (b,0)) 0 (kQ g γ):=by
  obtain⟨r,h1,_,h2⟩:=ho.rows.at (k:=0) (by omega) (off:=0) (by simp)
  simp only[List.getElem?_cons_zero,Option.some.injEq] at h1
  subst h1
  exact h2
theorem rn{W:World}{b:Nat}(ho:Ow H 145 29 (some (b,0)) 1 1 [kQ g γ] (some b))(hH:H.le (ak W))(s:Sta)(l:List Ent)(p:OL)(n c:Nat)(q:OL)(m d:Nat) :
    ∃W' H',(EK.sem (.storeO 36) [.pointer (ab (some (b,0)) 0),kH s (vsl p n c) (vsl q m d)]).run Tryz.prog W=.ok .skip W'/\Upd (some b) W W' H H' /\
      Ow H' 145 29 (some (b,0)) 1 1 [kQ { g with base:=s,tail:=l } { γ with p:=p,n:=n,c:=c,q:=q,m:=m,d:=d }] (some b):=by
  obtain⟨ti,z,i1,i2,i3,i4,i5,i6⟩:=aR Dd
  obtain⟨W4,H3,hrun,hu,hO3⟩:=dr (P:=Tryz.prog) (t:=36) i1 hH ho (i:=0) (j:=0) (vs := [vi s.pos,vi s.clock,vi s.vals.a,vi s.vals.b,vi s.vals.c,vi s.vals.d,vsl p n c,vsl q m d]) (v:=kH s (vsl p n c) (vsl q m d)) rfl rfl i3 (by simp) (by simp) (λu hu=>by
      simp only[List.mem_cons,List.not_mem_nil,or_false] at hu
      rcases hu with rfl | rfl | rfl | rfl | rfl | rfl | rfl | rfl<;>rfl) (off:=0) (by simp)
  exact⟨W4,H3,hrun,hu,hO3⟩
end
section
variable{H:Hp}{g:Grp}{γ:GP}
theorem wh(hg:aK H g γ){e:Ent}(he:e.in64):Gf Tryz.prog 65 #[mQ g γ,e.val] H (o8 (gQ g e).1 λv=>.tuple #[v,vi (gQ g e).2.1,vi (gQ g e).2.2]):=λW hH=>by
  refine vw _ _ _ _ _ _ γ.p γ.n γ.c γ.q γ.m γ.d _ _ _ _ _ _ γ.p0 γ.n0 γ.c0 _ _ _ _ _ _ γ.p1 γ.n1 γ.c1 _ _ _ _ _ _ γ.p2 γ.n2 γ.c2 _ _ _ _ _ _ _ _ _ noM H W _ hH λb0 b1 b2=>?_
  refine Cl.fresh (rE hg) ?_
  rintro v W1 W2 D hv hx hD hf nn
  rcases hv with⟨e0,rfl⟩ | ⟨e0,b,δ,Dg,rfl,ho,hle,hnb,hgd⟩
  · refine⟨none,_,rfl,hx,D,hD,hf,λH1 h1 hd1=>⟨λh0=>absurd h0 e0,λ_=>Rt.gfn ?_⟩⟩
    rw[sU e0]
    exact⟨GP.nil,rfl,aK.nil _⟩
  refine⟨some (b,0),_,rfl,hx,D,hD,hf,λH1 h1 hd1=>⟨λ_=>⟨rfl,λ_=>?_⟩,λh=>absurd rfl h⟩⟩
  have ho1:=ho.mono λk _ o h=>hd1 k o h
  have hgd1:=hgd.mono (Hp.le_trans hle hd1)
  refine⟨_,_,_,_,_,_,δ.p,δ.n,δ.c,δ.q,δ.m,δ.d,aa.seg (a := []) (ew ho1) (Int.le_refl 0) (by simp),?_⟩
  refine Cl.fresh (yk hgd1.base hgd1.tail he) ?_
  rintro v W3 W4 D2 ⟨p,n,c,q,m,d,rfl,hT,hE⟩ hx hD2 hf2 nn2
  refine⟨_,_,_,_,_,_,p,n,c,q,m,d,_,_,rfl,hx,D2,hD2,hf2,λH2 h2 hd2=>?_⟩
  have ho2:=ho1.mono λk _ o h=>h2 k o h
  intro W5 n5 _
  obtain⟨W6,H3,hrun,hu,ho3⟩:=rn ho2 n5.sub (gS g.base g.tail e).1 (gS g.base g.tail e).2.1 p n c q m d
  have hbW:W.heap.size<=b:=by
    obtain⟨o,hh⟩:=ho.held b rfl
    exact Nat.le_trans nn.mod.size (hf b o hh)
  refine⟨W6,hrun,H3,hu.own ho2 (λj hj=>.inl (by simp only[Option.some.injEq] at hj;omega)),?_⟩
  have hb2:D2 b=none:=by
    cases hh:D2 b with
    | none=>rfl
    | some o=>have h3:=hf2 b o hh;have h4:=ho1.lt nn2.sub b rfl;omega
  have hgn:∀{A:Hp},A b=none->∀j,some b=some j->A j=none:=λh j hj=>by simp only[Option.some.injEq] at hj;exact hj▸h
  have hDg3:Dg.le H3:=hu.keep n5.sub (Hp.le_trans (Hp.le_trans hle hd1) h2) (hgn hnb)
  have hD23:D2.le H3:=hu.keep n5.sub hd2 (hgn hb2)
  have hDgW:∀j o,Dg j=some o->W.heap.size<=j:=λj o h=>Nat.le_trans nn.mod.size (hf j o (hle j o h))
  have hD2W:∀j o,D2 j=some o->W.heap.size<=j:=λj o h=>Nat.le_trans nn2.mod.size (hf2 j o h)
  by_cases e1:(gS g.base g.tail e).2.2.2=0
  · rw[e1]
    refine Cl.same (lv (ew ho3)) λ_ _ hx=>⟨_,_,_,_,_,_,p,n,c,q,m,d,_,_,_,_,_,_,δ.p0,δ.n0,δ.c0,_,_,_,_,_,_,δ.p1,δ.n1,δ.c1,_,_,_,_,_,_,δ.p2,δ.n2,δ.c2,_,rfl,Fr.none hx λH4 h4 b3=>Rt.gfn ?_⟩
    rw[mJ e0 e1]
    refine⟨{ δ with p:=p,n:=n,c:=c,q:=q,m:=m,d:=d },rfl,?_⟩
    have k1:=ai (Hp.le_trans hDg3 h4) hDgW
    have k2:=ai (Hp.le_trans hD23 h4) hD2W
    exact⟨hT.mono k2,hE.mono k2,hgd.n0.mono k1,hgd.n1.mono k1,hgd.n2.mono k1⟩
  · refine Cl.same (lu e1) λ_ _ hx=>⟨_,_,_,_,_,_,GP.nil.p,GP.nil.n,GP.nil.c,GP.nil.q,GP.nil.m,GP.nil.d,_,_,_,_,_,_,GP.nil.p0,GP.nil.n0,GP.nil.c0,_,_,_,_,_,_,GP.nil.p1,GP.nil.n1,GP.nil.c1,_,_,_,_,_,_,GP.nil.p2,GP.nil.n2,GP.nil.c2,_,rfl,Fr.none hx λH4 h4 b3=>Rt.gfn ?_⟩
    rw[lc e0 e1,yj e1]
    exact⟨GP.nil,rfl,aK.nil _⟩
theorem ve(hg:aK H g γ)(x:Int):Gf Tryz.prog 71 #[mQ g γ,vi x] H (o8 (kG g x).1 λv=>.tuple #[v,vi (kG g x).2]):=λW hH=>by
  refine uL _ _ _ _ _ _ γ.p γ.n γ.c γ.q γ.m γ.d _ _ _ _ _ _ γ.p0 γ.n0 γ.c0 _ _ _ _ _ _ γ.p1 γ.n1 γ.c1 _ _ _ _ _ _ γ.p2 γ.n2 γ.c2 x noM H W _ hH λb0 b1=>?_
  refine Cl.fresh (rE hg) ?_
  rintro v W1 W2 D hv hx hD hf nn
  rcases hv with⟨e0,rfl⟩ | ⟨e0,b,δ,Dg,rfl,ho,hle,hnb,hgd⟩
  · refine⟨none,_,rfl,hx,D,hD,hf,λH1 h1 hd1=>⟨λh0=>absurd h0 e0,λ_=>Rt.gfn ?_⟩⟩
    rw[sG e0]
    exact⟨GP.nil,rfl,aK.nil _⟩
  refine⟨some (b,0),_,rfl,hx,D,hD,hf,λH1 h1 hd1=>⟨λ_=>⟨rfl,λ_=>?_⟩,λh=>absurd rfl h⟩⟩
  have ho1:=ho.mono λk _ o h=>hd1 k o h
  have hgd1:=hgd.mono (Hp.le_trans hle hd1)
  refine⟨_,_,_,_,_,_,δ.p,δ.n,δ.c,δ.q,δ.m,δ.d,aa.seg (a := []) (ew ho1) (Int.le_refl 0) (by simp),?_⟩
  refine Cl.fresh (yz hgd1.base hgd1.tail x) ?_
  rintro v W3 W4 D2 ⟨p,n,c,q,m,d,rfl,hT,hE⟩ hx hD2 hf2 nn2
  refine⟨_,_,_,_,_,_,p,n,c,q,m,d,_,rfl,hx,D2,hD2,hf2,λH2 h2 hd2=>?_⟩
  have ho2:=ho1.mono λk _ o h=>h2 k o h
  intro W5 n5 _
  obtain⟨W6,H3,hrun,hu,ho3⟩:=rn ho2 n5.sub (jP g.base g.tail x).1 (jP g.base g.tail x).2.1 p n c q m d
  have hbW:W.heap.size<=b:=by
    obtain⟨o,hh⟩:=ho.held b rfl
    exact Nat.le_trans nn.mod.size (hf b o hh)
  refine⟨W6,hrun,H3,hu.own ho2 (λj hj=>.inl (by simp only[Option.some.injEq] at hj;omega)),?_⟩
  have hb2:D2 b=none:=by
    cases hh:D2 b with
    | none=>rfl
    | some o=>have h3:=hf2 b o hh;have h4:=ho1.lt nn2.sub b rfl;omega
  have hgn:∀{A:Hp},A b=none->∀j,some b=some j->A j=none:=λh j hj=>by simp only[Option.some.injEq] at hj;exact hj▸h
  have hDg3:Dg.le H3:=hu.keep n5.sub (Hp.le_trans (Hp.le_trans hle hd1) h2) (hgn hnb)
  have hD23:D2.le H3:=hu.keep n5.sub hd2 (hgn hb2)
  have hDgW:∀j o,Dg j=some o->W.heap.size<=j:=λj o h=>Nat.le_trans nn.mod.size (hf j o (hle j o h))
  have hD2W:∀j o,D2 j=some o->W.heap.size<=j:=λj o h=>Nat.le_trans nn2.mod.size (hf2 j o h)
  by_cases e1:(jP g.base g.tail x).2.2=0
  · rw[e1]
    refine Cl.same (lv (ew ho3)) λ_ _ hx=>⟨_,_,_,_,_,_,p,n,c,q,m,d,_,_,_,_,_,_,δ.p0,δ.n0,δ.c0,_,_,_,_,_,_,δ.p1,δ.n1,δ.c1,_,_,_,_,_,_,δ.p2,δ.n2,δ.c2,_,rfl,Fr.none hx λH4 h4=>Rt.gfn ?_⟩
    rw[sw e0 e1]
    refine⟨{ δ with p:=p,n:=n,c:=c,q:=q,m:=m,d:=d },rfl,?_⟩
    have k1:=ai (Hp.le_trans hDg3 h4) hDgW
    have k2:=ai (Hp.le_trans hD23 h4) hD2W
    exact⟨hT.mono k2,hE.mono k2,hgd.n0.mono k1,hgd.n1.mono k1,hgd.n2.mono k1⟩
  · refine Cl.same (lu e1) λ_ _ hx=>⟨_,_,_,_,_,_,GP.nil.p,GP.nil.n,GP.nil.c,GP.nil.q,GP.nil.m,GP.nil.d,_,_,_,_,_,_,GP.nil.p0,GP.nil.n0,GP.nil.c0,_,_,_,_,_,_,GP.nil.p1,GP.nil.n1,GP.nil.c1,_,_,_,_,_,_,GP.nil.p2,GP.nil.n2,GP.nil.c2,_,rfl,Fr.none hx λH4 h4=>Rt.gfn ?_⟩
    rw[mC e0 e1]
    exact⟨GP.nil,rfl,aK.nil _⟩
theorem sF(H:Hp):Gv Tryz.prog 9 #[] H (mQ Grp.zero GP.nil):=λW hH=>sx noM H W _ hH λb0=>Rt.gv
end
set_option maxRecDepth 100000
theorem nZ{b s:Sta}{l:List Ent}{n:Int}(h:¬(gD b l s n).2.2=0):(gD b l s n).2.1=0:=by
  by_cases h0:mU b l s=0
  · by_cases h1:n<0\/50<n
    · rw[ji h0 h1]
    · cases h2:cw b l s with
      | false=>rw[pS h0 h1 h2]
      | true=>rw[oO h0 h1 h2] at h;exact absurd rfl h
  · rw[pL h0]
section
variable{H:Hp}{g:Grp}{γ:GP}
theorem yN{b:Nat}(ho:Ow H 145 29 (some (b,0)) 1 1 [kQ g γ] (some b)):aa H (some (b,0)) (0+8+0 * 7) [vi g.n0.pos,vi g.n0.clock,vi g.n0.vals.a,vi g.n0.vals.b,vi g.n0.vals.c,vi g.n0.vals.d,vsl γ.p0 γ.n0 γ.c0] :=
  aa.seg (a := [vi g.base.pos,vi g.base.clock,vi g.base.vals.a,vi g.base.vals.b,vi g.base.vals.c,vi g.base.vals.d,vsl γ.p γ.n γ.c,vsl γ.q γ.m γ.d]) (z := [vi g.n1.pos,vi g.n1.clock,vi g.n1.vals.a,vi g.n1.vals.b,vi g.n1.vals.c,vi g.n1.vals.d,vsl γ.p1 γ.n1 γ.c1,vi g.n2.pos,vi g.n2.clock,vi g.n2.vals.a,vi g.n2.vals.b,vi g.n2.vals.c,vi g.n2.vals.d,vsl γ.p2 γ.n2 γ.c2]) (ew ho) (Int.le_refl 0) (by simp)
theorem tY{W:World}{b:Nat}(ho:Ow H 145 29 (some (b,0)) 1 1 [kQ g γ] (some b))(hH:H.le (ak W))(s:Sta)(p:OL)(n c:Nat) :
    ∃W' H',(EK.sem (.storeO 33) [.pointer (ab (some (b,0)) (0+8+0 * 7)),s.val (vsl p n c)]).run Tryz.prog W=.ok .skip W'/\Upd (some b) W W' H H' /\
      Ow H' 145 29 (some (b,0)) 1 1 [kQ (g.set 0 s) { γ with p0:=p,n0:=n,c0:=c }] (some b):=by
  obtain⟨ti,z,i1,i2,i3,i4,i5,i6⟩:=aR lI
  obtain⟨W4,H3,hrun,hu,hO3⟩:=dr (P:=Tryz.prog) (t:=33) i1 hH ho (i:=0) (j:=8) (vs := [vi s.pos,vi s.clock,vi s.vals.a,vi s.vals.b,vi s.vals.c,vi s.vals.d,vsl p n c]) (v:=s.val (vsl p n c)) rfl rfl i3 (by simp) (by simp) (λu hu=>by
      simp only[List.mem_cons,List.not_mem_nil,or_false] at hu
      rcases hu with rfl | rfl | rfl | rfl | rfl | rfl | rfl<;>rfl) (off:=0+8+0 * 7) (by simp)
  exact⟨W4,H3,hrun,hu,hO3⟩
theorem xW{b:Nat}(ho:Ow H 145 29 (some (b,0)) 1 1 [kQ g γ] (some b)):aa H (some (b,0)) (0+8+1 * 7) [vi g.n1.pos,vi g.n1.clock,vi g.n1.vals.a,vi g.n1.vals.b,vi g.n1.vals.c,vi g.n1.vals.d,vsl γ.p1 γ.n1 γ.c1] :=
  aa.seg (a := [vi g.base.pos,vi g.base.clock,vi g.base.vals.a,vi g.base.vals.b,vi g.base.vals.c,vi g.base.vals.d,vsl γ.p γ.n γ.c,vsl γ.q γ.m γ.d,vi g.n0.pos,vi g.n0.clock,vi g.n0.vals.a,vi g.n0.vals.b,vi g.n0.vals.c,vi g.n0.vals.d,vsl γ.p0 γ.n0 γ.c0]) (z := [vi g.n2.pos,vi g.n2.clock,vi g.n2.vals.a,vi g.n2.vals.b,vi g.n2.vals.c,vi g.n2.vals.d,vsl γ.p2 γ.n2 γ.c2]) (ew ho) (Int.le_refl 0) (by simp)
theorem t7{W:World}{b:Nat}(ho:Ow H 145 29 (some (b,0)) 1 1 [kQ g γ] (some b))(hH:H.le (ak W))(s:Sta)(p:OL)(n c:Nat) :
    ∃W' H',(EK.sem (.storeO 33) [.pointer (ab (some (b,0)) (0+8+1 * 7)),s.val (vsl p n c)]).run Tryz.prog W=.ok .skip W'/\Upd (some b) W W' H H' /\
      Ow H' 145 29 (some (b,0)) 1 1 [kQ (g.set 1 s) { γ with p1:=p,n1:=n,c1:=c }] (some b):=by
  obtain⟨ti,z,i1,i2,i3,i4,i5,i6⟩:=aR lI
  obtain⟨W4,H3,hrun,hu,hO3⟩:=dr (P:=Tryz.prog) (t:=33) i1 hH ho (i:=0) (j:=15) (vs := [vi s.pos,vi s.clock,vi s.vals.a,vi s.vals.b,vi s.vals.c,vi s.vals.d,vsl p n c]) (v:=s.val (vsl p n c)) rfl rfl i3 (by simp) (by simp) (λu hu=>by
      simp only[List.mem_cons,List.not_mem_nil,or_false] at hu
      rcases hu with rfl | rfl | rfl | rfl | rfl | rfl | rfl<;>rfl) (off:=0+8+1 * 7) (by simp)
  exact⟨W4,H3,hrun,hu,hO3⟩
theorem ya{b:Nat}(ho:Ow H 145 29 (some (b,0)) 1 1 [kQ g γ] (some b)):aa H (some (b,0)) (0+8+2 * 7) [vi g.n2.pos,vi g.n2.clock,vi g.n2.vals.a,vi g.n2.vals.b,vi g.n2.vals.c,vi g.n2.vals.d,vsl γ.p2 γ.n2 γ.c2] :=
  aa.seg (a := [vi g.base.pos,vi g.base.clock,vi g.base.vals.a,vi g.base.vals.b,vi g.base.vals.c,vi g.base.vals.d,vsl γ.p γ.n γ.c,vsl γ.q γ.m γ.d,vi g.n0.pos,vi g.n0.clock,vi g.n0.vals.a,vi g.n0.vals.b,vi g.n0.vals.c,vi g.n0.vals.d,vsl γ.p0 γ.n0 γ.c0,vi g.n1.pos,vi g.n1.clock,vi g.n1.vals.a,vi g.n1.vals.b,vi g.n1.vals.c,vi g.n1.vals.d,vsl γ.p1 γ.n1 γ.c1]) (z := []) (ew ho) (Int.le_refl 0) (by simp)
theorem uv{W:World}{b:Nat}(ho:Ow H 145 29 (some (b,0)) 1 1 [kQ g γ] (some b))(hH:H.le (ak W))(s:Sta)(p:OL)(n c:Nat) :
    ∃W' H',(EK.sem (.storeO 33) [.pointer (ab (some (b,0)) (0+8+2 * 7)),s.val (vsl p n c)]).run Tryz.prog W=.ok .skip W'/\Upd (some b) W W' H H' /\
      Ow H' 145 29 (some (b,0)) 1 1 [kQ (g.set 2 s) { γ with p2:=p,n2:=n,c2:=c }] (some b):=by
  obtain⟨ti,z,i1,i2,i3,i4,i5,i6⟩:=aR lI
  obtain⟨W4,H3,hrun,hu,hO3⟩:=dr (P:=Tryz.prog) (t:=33) i1 hH ho (i:=0) (j:=22) (vs := [vi s.pos,vi s.clock,vi s.vals.a,vi s.vals.b,vi s.vals.c,vi s.vals.d,vsl p n c]) (v:=s.val (vsl p n c)) rfl rfl i3 (by simp) (by simp) (λu hu=>by
      simp only[List.mem_cons,List.not_mem_nil,or_false] at hu
      rcases hu with rfl | rfl | rfl | rfl | rfl | rfl | rfl<;>rfl) (off:=0+8+2 * 7) (by simp)
  exact⟨W4,H3,hrun,hu,hO3⟩
theorem wk(hg:aK H g γ)(k x:Int):Gf Tryz.prog 70 #[mQ g γ,vi k,vi x] H (o8 (iC g k x).1 λv=>.tuple #[v,vi (iC g k x).2.1,vi (iC g k x).2.2]):=λW hH=>by
  refine wa _ _ _ _ _ _ γ.p γ.n γ.c γ.q γ.m γ.d _ _ _ _ _ _ γ.p0 γ.n0 γ.c0 _ _ _ _ _ _ γ.p1 γ.n1 γ.c1 _ _ _ _ _ _ γ.p2 γ.n2 γ.c2 k x noM H W _ hH λb0 b1=>?_
  refine Cl.fresh (rE hg) ?_
  rintro v W1 W2 D hv hx hD hf nn
  rcases hv with⟨e0,rfl⟩ | ⟨e0,b,δ,Dg,rfl,ho,hle,hnb,hgd⟩
  · refine⟨none,_,rfl,hx,D,hD,hf,λH1 h1 hd1=>⟨λh0=>absurd h0 e0,λ_=>Rt.gfn ?_⟩⟩
    rw[tG e0]
    exact⟨GP.nil,rfl,aK.nil _⟩
  refine⟨some (b,0),_,rfl,hx,D,hD,hf,λH1 h1 hd1=>⟨λ_=>⟨λhk=>Rt.gfn ?_,λhk=>⟨λhk2=>Rt.gfn ?_,λhk2=>⟨rfl,λ_=>?_⟩⟩⟩,λh=>absurd rfl h⟩⟩
  · rw[lr e0 (by omega)]
    exact⟨GP.nil,rfl,aK.nil _⟩
  · rw[lr e0 (by omega)]
    exact⟨GP.nil,rfl,aK.nil _⟩
  have ho1:=ho.mono λk _ o h=>hd1 k o h
  have hgd1:=hgd.mono (Hp.le_trans hle hd1)
  refine⟨_,_,_,_,_,_,δ.p,δ.n,δ.c,δ.q,δ.m,δ.d,aa.seg (a := []) (ew ho1) (Int.le_refl 0) (by simp),⟨by omega,by omega⟩,λ_=>⟨by omega,λ_=>?_⟩⟩
  have hbW:W.heap.size<=b:=by
    obtain⟨o,hh⟩:=ho.held b rfl
    exact Nat.le_trans nn.mod.size (hf b o hh)
  have hgn:∀{A:Hp},A b=none->∀j,some b=some j->A j=none:=λh j hj=>by simp only[Option.some.injEq] at hj;exact hj▸h
  have hDgW:∀j o,Dg j=some o->W.heap.size<=j:=λj o h=>Nat.le_trans nn.mod.size (hf j o (hle j o h))
  rcases (show k=0\/k=1\/k=2 by omega) with rfl | rfl | rfl
  · refine⟨_,_,_,_,_,_,δ.p0,δ.n0,δ.c0,yN ho1,?_⟩
    refine Cl.fresh (nE hgd1.base hgd1.tail hgd1.n0 x) ?_
    rintro v W3 W4 D2 ⟨p,n,c,rfl,hT⟩ hx hD2 hf2 nn2
    refine⟨_,_,_,_,_,_,p,n,c,_,_,rfl,hx,D2,hD2,hf2,λH2 h2 hd2=>?_⟩
    have ho2:=ho1.mono λk _ o h=>h2 k o h
    intro W5 n5 _
    obtain⟨W6,H3,hrun,hu,ho3⟩:=tY ho2 n5.sub (gD g.base g.tail g.n0 x).1 p n c
    refine⟨W6,hrun,H3,hu.own ho2 (λj hj=>.inl (by simp only[Option.some.injEq] at hj;omega)),?_⟩
    have hb2:D2 b=none:=by
      cases hh:D2 b with
      | none=>rfl
      | some o=>have h3:=hf2 b o hh;have h4:=ho1.lt nn2.sub b rfl;omega
    have hDg3:Dg.le H3:=hu.keep n5.sub (Hp.le_trans (Hp.le_trans hle hd1) h2) (hgn hnb)
    have hD23:D2.le H3:=hu.keep n5.sub hd2 (hgn hb2)
    have hD2W:∀j o,D2 j=some o->W.heap.size<=j:=λj o h=>Nat.le_trans nn2.mod.size (hf2 j o h)
    by_cases e1:(gD g.base g.tail g.n0 x).2.2=0
    · rw[e1]
      refine Cl.same (lv (ew ho3)) λ_ _ hx=>⟨_,_,_,_,_,_,δ.p,δ.n,δ.c,δ.q,δ.m,δ.d,_,_,_,_,_,_,p,n,c,_,_,_,_,_,_,δ.p1,δ.n1,δ.c1,_,_,_,_,_,_,δ.p2,δ.n2,δ.c2,_,rfl,Fr.none hx λH4 h4 b3=>Rt.gfn ?_⟩
      rw[km e0 (k:=0) (by omega) e1]
      refine⟨{ δ with p0:=p,n0:=n,c0:=c },rfl,?_⟩
      have k1:=ai (Hp.le_trans hDg3 h4) hDgW
      have k2:=ai (Hp.le_trans hD23 h4) hD2W
      exact⟨hgd.base.mono k1,hgd.tail.mono k1,hT.mono k2,hgd.n1.mono k1,hgd.n2.mono k1⟩
    · refine Cl.same (lu e1) λ_ _ hx=>⟨_,_,_,_,_,_,GP.nil.p,GP.nil.n,GP.nil.c,GP.nil.q,GP.nil.m,GP.nil.d,_,_,_,_,_,_,GP.nil.p0,GP.nil.n0,GP.nil.c0,_,_,_,_,_,_,GP.nil.p1,GP.nil.n1,GP.nil.c1,_,_,_,_,_,_,GP.nil.p2,GP.nil.n2,GP.nil.c2,_,rfl,Fr.none hx λH4 h4 b3=>Rt.gfn ?_⟩
      rw[ie e0 (k:=0) (by omega) e1,nZ e1]
      exact⟨GP.nil,rfl,aK.nil _⟩
  · refine⟨_,_,_,_,_,_,δ.p1,δ.n1,δ.c1,xW ho1,?_⟩
    refine Cl.fresh (nE hgd1.base hgd1.tail hgd1.n1 x) ?_
    rintro v W3 W4 D2 ⟨p,n,c,rfl,hT⟩ hx hD2 hf2 nn2
    refine⟨_,_,_,_,_,_,p,n,c,_,_,rfl,hx,D2,hD2,hf2,λH2 h2 hd2=>?_⟩
    have ho2:=ho1.mono λk _ o h=>h2 k o h
    intro W5 n5 _
    obtain⟨W6,H3,hrun,hu,ho3⟩:=t7 ho2 n5.sub (gD g.base g.tail g.n1 x).1 p n c
    refine⟨W6,hrun,H3,hu.own ho2 (λj hj=>.inl (by simp only[Option.some.injEq] at hj;omega)),?_⟩
    have hb2:D2 b=none:=by
      cases hh:D2 b with
      | none=>rfl
      | some o=>have h3:=hf2 b o hh;have h4:=ho1.lt nn2.sub b rfl;omega
    have hDg3:Dg.le H3:=hu.keep n5.sub (Hp.le_trans (Hp.le_trans hle hd1) h2) (hgn hnb)
    have hD23:D2.le H3:=hu.keep n5.sub hd2 (hgn hb2)
    have hD2W:∀j o,D2 j=some o->W.heap.size<=j:=λj o h=>Nat.le_trans nn2.mod.size (hf2 j o h)
    by_cases e1:(gD g.base g.tail g.n1 x).2.2=0
    · rw[e1]
      refine Cl.same (lv (ew ho3)) λ_ _ hx=>⟨_,_,_,_,_,_,δ.p,δ.n,δ.c,δ.q,δ.m,δ.d,_,_,_,_,_,_,δ.p0,δ.n0,δ.c0,_,_,_,_,_,_,p,n,c,_,_,_,_,_,_,δ.p2,δ.n2,δ.c2,_,rfl,Fr.none hx λH4 h4 b3=>Rt.gfn ?_⟩
      rw[km e0 (k:=1) (by omega) e1]
      refine⟨{ δ with p1:=p,n1:=n,c1:=c },rfl,?_⟩
      have k1:=ai (Hp.le_trans hDg3 h4) hDgW
      have k2:=ai (Hp.le_trans hD23 h4) hD2W
      exact⟨hgd.base.mono k1,hgd.tail.mono k1,hgd.n0.mono k1,hT.mono k2,hgd.n2.mono k1⟩
    · refine Cl.same (lu e1) λ_ _ hx=>⟨_,_,_,_,_,_,GP.nil.p,GP.nil.n,GP.nil.c,GP.nil.q,GP.nil.m,GP.nil.d,_,_,_,_,_,_,GP.nil.p0,GP.nil.n0,GP.nil.c0,_,_,_,_,_,_,GP.nil.p1,GP.nil.n1,GP.nil.c1,_,_,_,_,_,_,GP.nil.p2,GP.nil.n2,GP.nil.c2,_,rfl,Fr.none hx λH4 h4 b3=>Rt.gfn ?_⟩
      rw[ie e0 (k:=1) (by omega) e1,nZ e1]
      exact⟨GP.nil,rfl,aK.nil _⟩
  · refine⟨_,_,_,_,_,_,δ.p2,δ.n2,δ.c2,ya ho1,?_⟩
    refine Cl.fresh (nE hgd1.base hgd1.tail hgd1.n2 x) ?_
    rintro v W3 W4 D2 ⟨p,n,c,rfl,hT⟩ hx hD2 hf2 nn2
    refine⟨_,_,_,_,_,_,p,n,c,_,_,rfl,hx,D2,hD2,hf2,λH2 h2 hd2=>?_⟩
    have ho2:=ho1.mono λk _ o h=>h2 k o h
    intro W5 n5 _
    obtain⟨W6,H3,hrun,hu,ho3⟩:=uv ho2 n5.sub (gD g.base g.tail g.n2 x).1 p n c
    refine⟨W6,hrun,H3,hu.own ho2 (λj hj=>.inl (by simp only[Option.some.injEq] at hj;omega)),?_⟩
    have hb2:D2 b=none:=by
      cases hh:D2 b with
      | none=>rfl
      | some o=>have h3:=hf2 b o hh;have h4:=ho1.lt nn2.sub b rfl;omega
    have hDg3:Dg.le H3:=hu.keep n5.sub (Hp.le_trans (Hp.le_trans hle hd1) h2) (hgn hnb)
    have hD23:D2.le H3:=hu.keep n5.sub hd2 (hgn hb2)
    have hD2W:∀j o,D2 j=some o->W.heap.size<=j:=λj o h=>Nat.le_trans nn2.mod.size (hf2 j o h)
    by_cases e1:(gD g.base g.tail g.n2 x).2.2=0
    · rw[e1]
      refine Cl.same (lv (ew ho3)) λ_ _ hx=>⟨_,_,_,_,_,_,δ.p,δ.n,δ.c,δ.q,δ.m,δ.d,_,_,_,_,_,_,δ.p0,δ.n0,δ.c0,_,_,_,_,_,_,δ.p1,δ.n1,δ.c1,_,_,_,_,_,_,p,n,c,_,rfl,Fr.none hx λH4 h4 b3=>Rt.gfn ?_⟩
      rw[km e0 (k:=2) (by omega) e1]
      refine⟨{ δ with p2:=p,n2:=n,c2:=c },rfl,?_⟩
      have k1:=ai (Hp.le_trans hDg3 h4) hDgW
      have k2:=ai (Hp.le_trans hD23 h4) hD2W
      exact⟨hgd.base.mono k1,hgd.tail.mono k1,hgd.n0.mono k1,hgd.n1.mono k1,hT.mono k2⟩
    · refine Cl.same (lu e1) λ_ _ hx=>⟨_,_,_,_,_,_,GP.nil.p,GP.nil.n,GP.nil.c,GP.nil.q,GP.nil.m,GP.nil.d,_,_,_,_,_,_,GP.nil.p0,GP.nil.n0,GP.nil.c0,_,_,_,_,_,_,GP.nil.p1,GP.nil.n1,GP.nil.c1,_,_,_,_,_,_,GP.nil.p2,GP.nil.n2,GP.nil.c2,_,rfl,Fr.none hx λH4 h4 b3=>Rt.gfn ?_⟩
      rw[ie e0 (k:=2) (by omega) e1,nZ e1]
      exact⟨GP.nil,rfl,aK.nil _⟩
end
end Go.Proofs.YtfpmcmhihhnfgaaGreatDoor
