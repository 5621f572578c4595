/- Contracts of what the document says of groups. No conditions. -/
import Derived.Test.YtfpmcmhihhnfgaaGreatDoorKG1
set_option linter.unusedVariables false
set_option linter.unusedSimpArgs false
namespace Go.Proofs.YtfpmcmhihhnfgaaGreatDoor
open Go.RowKit
set_option maxRecDepth 100000
set_option maxHeartbeats 4000000
theorem rM(x0 x1 x2 x3 x4 x5:Int)(x6:OL)(x7 x8:Nat)(x9:OL)(c0 c1:Nat)(c2 c3 c4 c5 c6 c7:Int)(c8:OL)(c9 cA:Nat)(cB cC cD cE cF cG:Int)(cH:OL)(cI cJ:Nat)(cK cL cM cN cO cP:Int)(cQ:OL)(cR cS:Nat):Xw 54 #[vg (gv x0 x1 x2 x3 x4 x5 x6 x7 x8 x9 c0 c1 c2 c3 c4 c5 c6 c7 c8 c9 cA cB cC cD cE cF cG cH cI cJ cK cL cM cN cO cP cQ cR cS)] λ_ H0 _ _ C _ T=>let u3:=#[vi c2,vi c3,vi c4,vi c5,vi c6,vi c7,vsl c8 c9 cA];let u2:=#[vi cB,vi cC,vi cD,vi cE,vi cF,vi cG,vsl cH cI cJ];let u1:=#[vi cK,vi cL,vi cM,vi cN,vi cO,vi cP,vsl cQ cR cS];let u0:=#[vi x0,vi x1,vi x2,vi x3,vi x4,vi x5,vsl x6 x7 x8,vsl x9 c0 c1];(∀b0:Nat,(C H0 nK 75 #[vg u0] λz W1 W2=>∃cT:Int,z=.returned (vi cT)/\Ext W1 W2/\(It (cT=0) (C H0 nK 76 #[vg u3] λz W3 W4=>∃cU:Int,z=.returned (vi cU)/\Ext W3 W4/\(It (cU=0) (C H0 nK 77 #[vg u0,vg u3] λz W5 W6=>∃cV:Bool,z=.returned (vb (cV))/\Ext W5 W6/\(It (cV=true) (C H0 nK 76 #[vg u2] λz W7 W8=>∃cW:Int,z=.returned (vi cW)/\Ext W7 W8/\(It (cW=0) (C H0 nK 77 #[vg u0,vg u2] λz W9 W10=>∃cX:Bool,z=.returned (vb (cX))/\Ext W9 W10/\(It (cX=true) (C H0 nK 76 #[vg u1] λz W11 W12=>∃cY:Int,z=.returned (vi cY)/\Ext W11 W12/\(It (cY=0) (C H0 nK 77 #[vg u0,vg u1] λz W13 W14=>∃cZ:Bool,z=.returned (vb (cZ))/\Ext W13 W14/\(It (cZ=true) (T H0 nK (vi 0)) (T H0 nK (vi 1)))) (T H0 nK (vi cY)))) (T H0 nK (vi 1)))) (T H0 nK (vi cW)))) (T H0 nK (vi 1)))) (T H0 nK (vi cU)))) (T H0 nK (vi cT))))) :=
  Xa (hi:={loops := [(5,.unroll 4)]}) (args := [.agg gA]) (nv:=39) (e:=lk (ge x0 x1 x2 x3 x4 x5 x6 x7 x8 x9 c0 c1 c2 c3 c4 c5 c6 c7 c8 c9 cA cB cC cD cE cF cG cH cI cJ cK cL cM cN cO cP cQ cR cS [])) Tryz.func54
theorem uP(x0 x1 x2 x3 x4 x5:Int)(x6:OL)(x7 x8:Nat)(x9:OL)(c0 c1:Nat)(c2 c3 c4 c5 c6 c7:Int)(c8:OL)(c9 cA:Nat)(cB cC cD cE cF cG:Int)(cH:OL)(cI cJ:Nat)(cK cL cM cN cO cP:Int)(cQ:OL)(cR cS:Nat):Xw 56 #[vg (gv x0 x1 x2 x3 x4 x5 x6 x7 x8 x9 c0 c1 c2 c3 c4 c5 c6 c7 c8 c9 cA cB cC cD cE cF cG cH cI cJ cK cL cM cN cO cP cQ cR cS)] λM H0 W0 _ C Q T=>(∀b0:Nat,(∀b1:Nat,(C H0 nK 80 #[vg #[vi x0,vi x1,vi x2,vi x3,vi x4,vi x5,vsl x6 x7 x8]] λz W1 W2=>∃(cT cU cV cW cX cY:Int) (cZ:OL) (d0 d1:Nat),z=.returned (vg #[vi cT,vi cU,vi cV,vi cW,vi cX,vi cY,vsl cZ d0 d1])/\Fr W1 W2 H0 λH1=>(∀b2:Nat,(Q H1 (λW=>Kn W0 M H1 W b2 (Obj.cells #[] 84 (0,0))/\True) λW3=>∃(d2:OL) (d3 d4:Nat),Eo' (.bi .append #[34,34] 34) [Value.slice (some ⟨b2,0,none⟩) 0 0,vsl x9 c0 c1] W3 (.value (vsl d2 d3 d4)) λW4=>Tn W0 M H1 W3 W4 λH2=>(C H2 nK 80 #[vg #[vi c2,vi c3,vi c4,vi c5,vi c6,vi c7,vsl c8 c9 cA]] λz W5 W6=>∃(d5 d6 d7 d8 d9 dA:Int) (dB:OL) (dC dD:Nat),z=.returned (vg #[vi d5,vi d6,vi d7,vi d8,vi d9,vi dA,vsl dB dC dD])/\Fr W5 W6 H2 λH3=>(C H3 nK 80 #[vg #[vi cB,vi cC,vi cD,vi cE,vi cF,vi cG,vsl cH cI cJ]] λz W7 W8=>∃(dE dF dG dH dI dJ:Int) (dK:OL) (dL dM:Nat),z=.returned (vg #[vi dE,vi dF,vi dG,vi dH,vi dI,vi dJ,vsl dK dL dM])/\Fr W7 W8 H3 λH4=>(C H4 nK 80 #[vg #[vi cK,vi cL,vi cM,vi cN,vi cO,vi cP,vsl cQ cR cS]] λz W9 W10=>∃(dN dO dP dQ dR dS:Int) (dT:OL) (dU dV:Nat),z=.returned (vg #[vi dN,vi dO,vi dP,vi dQ,vi dR,vi dS,vsl dT dU dV])/\Fr W9 W10 H4 λH5=>T H5 nK (vg (gv cT cU cV cW cX cY cZ d0 d1 d2 d3 d4 d5 d6 d7 d8 d9 dA dB dC dD dE dF dG dH dI dJ dK dL dM dN dO dP dQ dR dS dT dU dV)))))))))) :=
  Xa (hi:={loops := [(3,.unroll 4)]}) (args := [.agg gA]) (nv:=39) (e:=lk (ge x0 x1 x2 x3 x4 x5 x6 x7 x8 x9 c0 c1 c2 c3 c4 c5 c6 c7 c8 c9 cA cB cC cD cE cF cG cH cI cJ cK cL cM cN cO cP cQ cR cS [])) Tryz.func56
theorem tP(x0 x1 x2 x3 x4 x5:Int)(x6:OL)(x7 x8:Nat)(x9:OL)(c0 c1:Nat)(c2 c3 c4 c5 c6 c7:Int)(c8:OL)(c9 cA:Nat)(cB cC cD cE cF cG:Int)(cH:OL)(cI cJ:Nat)(cK cL cM cN cO cP:Int)(cQ:OL)(cR cS:Nat)(cT cU cV cW cX cY cZ d0 d1:Int):Xw 53 #[vg (gv x0 x1 x2 x3 x4 x5 x6 x7 x8 x9 c0 c1 c2 c3 c4 c5 c6 c7 c8 c9 cA cB cC cD cE cF cG cH cI cJ cK cL cM cN cO cP cQ cR cS),vg #[vi cT,vi cU,vi cV,vi cW,vi cX,vi cY,vi cZ,vi d0,vi d1]] λ_ H0 _ _ C _ T=>let u1:=#[vi 0,vi 0,vi 0,vi 0,vi 0,vi 0,Value.slice none 0 0,Value.slice none 0 0,vi 0,vi 0,vi 0,vi 0,vi 0,vi 0,Value.slice none 0 0,vi 0,vi 0,vi 0,vi 0,vi 0,vi 0,Value.slice none 0 0,vi 0,vi 0,vi 0,vi 0,vi 0,vi 0,Value.slice none 0 0];let u0:=#[vg (gv x0 x1 x2 x3 x4 x5 x6 x7 x8 x9 c0 c1 c2 c3 c4 c5 c6 c7 c8 c9 cA cB cC cD cE cF cG cH cI cJ cK cL cM cN cO cP cQ cR cS)];(∀b0:Nat,(∀b1:Nat,(∀b2:Nat,(C H0 nK 54 u0 λz W1 W2=>∃d2:Int,z=.returned (vi d2)/\Ext W1 W2/\(It (d2=0) (C H0 nK 74 #[vg #[vi x0,vi x1,vi x2,vi x3,vi x4,vi x5,vsl x6 x7 x8,vsl x9 c0 c1],vg #[vi cT,vi cU,vi cV,vi cW,vi cX,vi cY,vi cZ,vi d0,vi d1]] λz W3 W4=>∃(d3 d4 d5 d6 d7 d8:Int) (d9:OL) (dA dB:Nat) (dC:OL) (dD dE:Nat) (dF dG:Int),z=.returned (vt #[vg #[vi d3,vi d4,vi d5,vi d6,vi d7,vi d8,vsl d9 dA dB,vsl dC dD dE],vi dF,vi dG])/\Fr W3 W4 H0 λH1=>(∀b3:Nat,(It (dG=0) (C H1 nK 56 u0 λz W5 W6=>eG λdH dI dJ dK dL dM dN dO dP dQ dR dS dT dU dV dW dX dY dZ e0 e1 e2 e3 e4 e5 e6 e7 e8 e9 eA eB eC eD eE eF eH eI eJ eK=>z=.returned (vg (gv dH dI dJ dK dL dM dN dO dP dQ dR dS dT dU dV dW dX dY dZ e0 e1 e2 e3 e4 e5 e6 e7 e8 e9 eA eB eC eD eE eF eH eI eJ eK))/\Fr W5 W6 H1 λH2=>(∀b4:Nat,T H2 nK (vt #[vg (gv d3 d4 d5 d6 d7 d8 d9 dA dB dC dD dE dT dU dV dW dX dY dZ e0 e1 e2 e3 e4 e5 e6 e7 e8 e9 eA eB eC eD eE eF eH eI eJ eK),vi dF,vi 0]))) (T H1 nK (vt #[vg u1,vi 0,vi dG]))))) (T H0 nK (vt #[vg u1,vi 0,vi d2]))))))) :=
  Xa (hi:={}) (args := [.agg gA,.agg [vI 39,vI 40,vI 41,vI 42,vI 43,vI 44,vI 45,vI 46,vI 47]]) (nv:=48) (e:=lk (ge x0 x1 x2 x3 x4 x5 x6 x7 x8 x9 c0 c1 c2 c3 c4 c5 c6 c7 c8 c9 cA cB cC cD cE cF cG cH cI cJ cK cL cM cN cO cP cQ cR cS [.i cT,.i cU,.i cV,.i cW,.i cX,.i cY,.i cZ,.i d0,.i d1])) Tryz.func53
theorem sJ(x0 x1 x2 x3 x4 x5:Int)(x6:OL)(x7 x8:Nat)(x9:OL)(c0 c1:Nat)(c2 c3 c4 c5 c6 c7:Int)(c8:OL)(c9 cA:Nat)(cB cC cD cE cF cG:Int)(cH:OL)(cI cJ:Nat)(cK cL cM cN cO cP:Int)(cQ:OL)(cR cS:Nat)(cT cU:Int):Xw 34 #[vg (gv x0 x1 x2 x3 x4 x5 x6 x7 x8 x9 c0 c1 c2 c3 c4 c5 c6 c7 c8 c9 cA cB cC cD cE cF cG cH cI cJ cK cL cM cN cO cP cQ cR cS),vi cT,vi cU] λ_ H0 _ _ C _ T=>let u2:=#[vi x0,vi x1,vi x2,vi x3,vi x4,vi x5,vsl x6 x7 x8,vsl x9 c0 c1];let u1:=#[vg (gv x0 x1 x2 x3 x4 x5 x6 x7 x8 x9 c0 c1 c2 c3 c4 c5 c6 c7 c8 c9 cA cB cC cD cE cF cG cH cI cJ cK cL cM cN cO cP cQ cR cS)];let u0:=#[vi 0,vi 0,vi 0,vi 0,vi 0,vi 0,Value.slice none 0 0,Value.slice none 0 0,vi 0,vi 0,vi 0,vi 0,vi 0,vi 0,Value.slice none 0 0,vi 0,vi 0,vi 0,vi 0,vi 0,vi 0,Value.slice none 0 0,vi 0,vi 0,vi 0,vi 0,vi 0,vi 0,Value.slice none 0 0];(∀b0:Nat,(∀b1:Nat,(C H0 nK 54 u1 λz W1 W2=>∃cV:Int,z=.returned (vi cV)/\Ext W1 W2/\(It (cV=0) (C H0 nK 52 #[vi cT,vi 0,vi 2] λz W3 W4=>∃cW:Bool,z=.returned (vb (cW))/\Ext W3 W4/\(It (cW=true) (Ck ((0:Int)<=cT/\cT<3) ((cT=0->(C H0 nK 55 #[vg u2,vg #[vi c2,vi c3,vi c4,vi c5,vi c6,vi c7,vsl c8 c9 cA],vi cU] λz W5 W6=>∃(cX cY cZ d0 d1 d2:Int) (d3:OL) (d4 d5:Nat) (d6 d7:Int),z=.returned (vt #[vg #[vi cX,vi cY,vi cZ,vi d0,vi d1,vi d2,vsl d3 d4 d5],vi d6,vi d7])/\Fr W5 W6 H0 λH1=>(∀b2:Nat,(It (d7=0) (C H1 nK 56 u1 λz W7 W8=>eG λd8 d9 dA dB dC dD dE dF dG dH dI dJ dK dL dM dN dO dP dQ dR dS dT dU dV dW dX dY dZ e0 e1 e2 e3 e4 e5 e6 e7 e8 e9 eA=>z=.returned (vg (gv d8 d9 dA dB dC dD dE dF dG dH dI dJ dK dL dM dN dO dP dQ dR dS dT dU dV dW dX dY dZ e0 e1 e2 e3 e4 e5 e6 e7 e8 e9 eA))/\Fr W7 W8 H1 λH2=>(∀b3:Nat,T H2 nK (vt #[vg (gv d8 d9 dA dB dC dD dE dF dG dH dI dJ cX cY cZ d0 d1 d2 d3 d4 d5 dT dU dV dW dX dY dZ e0 e1 e2 e3 e4 e5 e6 e7 e8 e9 eA),vi d6,vi 0]))) (T H1 nK (vt #[vg u0,vi 0,vi d7]))))))/\((cT=1->(C H0 nK 55 #[vg u2,vg #[vi cB,vi cC,vi cD,vi cE,vi cF,vi cG,vsl cH cI cJ],vi cU] λz W5 W6=>∃(cX cY cZ d0 d1 d2:Int) (d3:OL) (d4 d5:Nat) (d6 d7:Int),z=.returned (vt #[vg #[vi cX,vi cY,vi cZ,vi d0,vi d1,vi d2,vsl d3 d4 d5],vi d6,vi d7])/\Fr W5 W6 H0 λH1=>(∀b2:Nat,(It (d7=0) (C H1 nK 56 u1 λz W7 W8=>eG λd8 d9 dA dB dC dD dE dF dG dH dI dJ dK dL dM dN dO dP dQ dR dS dT dU dV dW dX dY dZ e0 e1 e2 e3 e4 e5 e6 e7 e8 e9 eA=>z=.returned (vg (gv d8 d9 dA dB dC dD dE dF dG dH dI dJ dK dL dM dN dO dP dQ dR dS dT dU dV dW dX dY dZ e0 e1 e2 e3 e4 e5 e6 e7 e8 e9 eA))/\Fr W7 W8 H1 λH2=>(∀b3:Nat,T H2 nK (vt #[vg (gv d8 d9 dA dB dC dD dE dF dG dH dI dJ dK dL dM dN dO dP dQ dR dS cX cY cZ d0 d1 d2 d3 d4 d5 e2 e3 e4 e5 e6 e7 e8 e9 eA),vi d6,vi 0]))) (T H1 nK (vt #[vg u0,vi 0,vi d7]))))))/\((cT=2->(C H0 nK 55 #[vg u2,vg #[vi cK,vi cL,vi cM,vi cN,vi cO,vi cP,vsl cQ cR cS],vi cU] λz W5 W6=>∃(cX cY cZ d0 d1 d2:Int) (d3:OL) (d4 d5:Nat) (d6 d7:Int),z=.returned (vt #[vg #[vi cX,vi cY,vi cZ,vi d0,vi d1,vi d2,vsl d3 d4 d5],vi d6,vi d7])/\Fr W5 W6 H0 λH1=>(∀b2:Nat,(It (d7=0) (C H1 nK 56 u1 λz W7 W8=>eG λd8 d9 dA dB dC dD dE dF dG dH dI dJ dK dL dM dN dO dP dQ dR dS dT dU dV dW dX dY dZ e0 e1 e2 e3 e4 e5 e6 e7 e8 e9 eA=>z=.returned (vg (gv d8 d9 dA dB dC dD dE dF dG dH dI dJ dK dL dM dN dO dP dQ dR dS dT dU dV dW dX dY dZ e0 e1 e2 e3 e4 e5 e6 e7 e8 e9 eA))/\Fr W7 W8 H1 λH2=>(∀b3:Nat,T H2 nK (vt #[vg (gv d8 d9 dA dB dC dD dE dF dG dH dI dJ dK dL dM dN dO dP dQ dR dS dT dU dV dW dX dY dZ e0 e1 cX cY cZ d0 d1 d2 d3 d4 d5),vi d6,vi 0]))) (T H1 nK (vt #[vg u0,vi 0,vi d7]))))))/\True)))) (T H0 nK (vt #[vg u0,vi 0,vi 3])))) (T H0 nK (vt #[vg u0,vi 0,vi cV])))))) :=
  Xa (hi:={}) (args := [.agg gA,vI 39,vI 40]) (nv:=41) (e:=lk (ge x0 x1 x2 x3 x4 x5 x6 x7 x8 x9 c0 c1 c2 c3 c4 c5 c6 c7 c8 c9 cA cB cC cD cE cF cG cH cI cJ cK cL cM cN cO cP cQ cR cS [.i cT,.i cU])) Tryz.func34
theorem ub(x0 x1 x2 x3 x4 x5:Int)(x6:OL)(x7 x8:Nat)(x9:OL)(c0 c1:Nat)(c2 c3 c4 c5 c6 c7:Int)(c8:OL)(c9 cA:Nat)(cB cC cD cE cF cG:Int)(cH:OL)(cI cJ:Nat)(cK cL cM cN cO cP:Int)(cQ:OL)(cR cS:Nat)(cT:Int):Xw 35 #[vg (gv x0 x1 x2 x3 x4 x5 x6 x7 x8 x9 c0 c1 c2 c3 c4 c5 c6 c7 c8 c9 cA cB cC cD cE cF cG cH cI cJ cK cL cM cN cO cP cQ cR cS),vi cT] λ_ H0 _ _ C _ T=>let u1:=#[vi 0,vi 0,vi 0,vi 0,vi 0,vi 0,Value.slice none 0 0,Value.slice none 0 0,vi 0,vi 0,vi 0,vi 0,vi 0,vi 0,Value.slice none 0 0,vi 0,vi 0,vi 0,vi 0,vi 0,vi 0,Value.slice none 0 0,vi 0,vi 0,vi 0,vi 0,vi 0,vi 0,Value.slice none 0 0];let u0:=#[vg (gv x0 x1 x2 x3 x4 x5 x6 x7 x8 x9 c0 c1 c2 c3 c4 c5 c6 c7 c8 c9 cA cB cC cD cE cF cG cH cI cJ cK cL cM cN cO cP cQ cR cS)];(∀b0:Nat,(∀b1:Nat,(C H0 nK 54 u0 λz W1 W2=>∃cU:Int,z=.returned (vi cU)/\Ext W1 W2/\(It (cU=0) (C H0 nK 57 #[vg #[vi x0,vi x1,vi x2,vi x3,vi x4,vi x5,vsl x6 x7 x8,vsl x9 c0 c1],vi cT] λz W3 W4=>∃(cV cW cX cY cZ d0:Int) (d1:OL) (d2 d3:Nat) (d4:OL) (d5 d6:Nat) (d7:Int),z=.returned (vt #[vg #[vi cV,vi cW,vi cX,vi cY,vi cZ,vi d0,vsl d1 d2 d3,vsl d4 d5 d6],vi d7])/\Fr W3 W4 H0 λH1=>(∀b2:Nat,(It (d7=0) (C H1 nK 56 u0 λz W5 W6=>eG λd8 d9 dA dB dC dD dE dF dG dH dI dJ dK dL dM dN dO dP dQ dR dS dT dU dV dW dX dY dZ e0 e1 e2 e3 e4 e5 e6 e7 e8 e9 eA=>z=.returned (vg (gv d8 d9 dA dB dC dD dE dF dG dH dI dJ dK dL dM dN dO dP dQ dR dS dT dU dV dW dX dY dZ e0 e1 e2 e3 e4 e5 e6 e7 e8 e9 eA))/\Fr W5 W6 H1 λH2=>(∀b3:Nat,T H2 nK (vt #[vg (gv cV cW cX cY cZ d0 d1 d2 d3 d4 d5 d6 dK dL dM dN dO dP dQ dR dS dT dU dV dW dX dY dZ e0 e1 e2 e3 e4 e5 e6 e7 e8 e9 eA),vi 0]))) (T H1 nK (vt #[vg u1,vi d7]))))) (T H0 nK (vt #[vg u1,vi cU])))))) :=
  Xa (hi:={}) (args := [.agg gA,vI 39]) (nv:=40) (e:=lk (ge x0 x1 x2 x3 x4 x5 x6 x7 x8 x9 c0 c1 c2 c3 c4 c5 c6 c7 c8 c9 cA cB cC cD cE cF cG cH cI cJ cK cL cM cN cO cP cQ cR cS [.i cT])) Tryz.func35
set_option maxRecDepth 100000
section
variable{H:Hp}{g:Grp}{γ δ:GP}
theorem kl(hg:aK H g γ):Gv Tryz.prog 54 #[mQ g γ] H (vi (fT g)):=λW hH=>by
  refine rM _ _ _ _ _ _ γ.p γ.n γ.c γ.q γ.m γ.d _ _ _ _ _ _ γ.p0 γ.n0 γ.c0 _ _ _ _ _ _ γ.p1 γ.n1 γ.c1 _ _ _ _ _ _ γ.p2 γ.n2 γ.c2 noM H W _ hH λb0=>?_
  refine Cl.same (mE hg.base hg.tail) λ_ _ hx=>⟨_,rfl,hx,λe0=>?_,λe0=>Rt.gv' (by rw[uf e0])⟩
  have ho:=bG.1 e0
  refine Cl.same (ns hg.n0) λ_ _ hx=>⟨_,rfl,hx,λe1=>?_,λe1=>Rt.gv' (by have e2:=lK (b:=g.base) (l:=g.tail) e1;rw[rC e0 (by rw[e2];exact e1),e2])⟩
  refine Cl.same (oL ho (Sta.err_ok.1 e1) hg.base hg.tail hg.n0) λ_ _ hx=>⟨_,rfl,hx,λf1=>?_,λf1=>Rt.gv' (by have e2:=lA e1 (by simpa using f1);rw[rC e0 (by rw[e2];decide),e2])⟩
  have s0:=jQ e1 f1
  refine Cl.same (ns hg.n1) λ_ _ hx=>⟨_,rfl,hx,λe1=>?_,λe1=>Rt.gv' (by have e2:=lK (b:=g.base) (l:=g.tail) e1;rw[sd e0 s0 (by rw[e2];exact e1),e2])⟩
  refine Cl.same (oL ho (Sta.err_ok.1 e1) hg.base hg.tail hg.n1) λ_ _ hx=>⟨_,rfl,hx,λf1=>?_,λf1=>Rt.gv' (by have e2:=lA e1 (by simpa using f1);rw[sd e0 s0 (by rw[e2];decide),e2])⟩
  have s1:=jQ e1 f1
  refine Cl.same (ns hg.n2) λ_ _ hx=>⟨_,rfl,hx,λe1=>?_,λe1=>Rt.gv' (by rw[oo e0 s0 s1,lK e1])⟩
  exact Cl.same (oL ho (Sta.err_ok.1 e1) hg.base hg.tail hg.n2) λ_ _ hx=>⟨_,rfl,hx,λf1=>Rt.gv' (by rw[oo e0 s0 s1,jQ e1 f1]),λf1=>Rt.gv' (by rw[oo e0 s0 s1,lA e1 (by simpa using f1)])⟩
theorem je(ok:aQ g)(hg:aK H g γ):Gf Tryz.prog 56 #[mQ g γ] H (o8 g λv=>v):=λW hH=>by
  have hm:=hg.tail.len
  have hlow:=ok.log.low
  refine uP _ _ _ _ _ _ γ.p γ.n γ.c γ.q γ.m γ.d _ _ _ _ _ _ γ.p0 γ.n0 γ.c0 _ _ _ _ _ _ γ.p1 γ.n1 γ.c1 _ _ _ _ _ _ γ.p2 γ.n2 γ.c2 noM H W _ hH λb0 b1=>?_
  refine Cl.fresh (gX hg.base ok.log.base.table) ?_
  rintro v W1 W2 D1 ⟨p,n,c,rfl,hT⟩ hx hD1 hf1 nn1
  refine⟨_,_,_,_,_,_,p,n,c,rfl,hx,D1,hD1,hf1,λH1 h1 hd1 b2=>?_⟩
  intro W3 n3 k3
  obtain⟨q,d,gq,W4,H2,r1,t1,hQ,gqn,h2⟩:=ig (P:=Tryz.prog) Tryz.underlying34 iD (by omega) n3 (some (b2,0)) (hg.tail.mono h1).2.2.1 (qn _) (by omega) (by simp only[maxLen];omega) 34 (c:=γ.d)
  have hE:=av.of_ow (hQ.new (W:=W) (λb hb=>Nat.le_trans n3.mod.size (gqn b hb))) hg.tail.2.2.2
  refine⟨q,γ.m,d,W4,r1,H2,t1,?_⟩
  refine Cl.fresh (gX ((hg.n0.mono h1).mono h2) ok.ok0.table) ?_
  rintro v W5 W6 D3 ⟨p0,n0,c0,rfl,hT0⟩ hx hD3 hf3 nn3
  refine⟨_,_,_,_,_,_,p0,n0,c0,rfl,hx,D3,hD3,hf3,λH3 h3 hd3=>?_⟩
  refine Cl.fresh (gX (((hg.n1.mono h1).mono h2).mono h3) ok.ok1.table) ?_
  rintro v W7 W8 D4 ⟨p1,n1,c1,rfl,hT1⟩ hx hD4 hf4 nn4
  refine⟨_,_,_,_,_,_,p1,n1,c1,rfl,hx,D4,hD4,hf4,λH4 h4 hd4=>?_⟩
  refine Cl.fresh (gX ((((hg.n2.mono h1).mono h2).mono h3).mono h4) ok.ok2.table) ?_
  rintro v W9 W10 D5 ⟨p2,n2,c2,rfl,hT2⟩ hx hD5 hf5 nn5
  refine⟨_,_,_,_,_,_,p2,n2,c2,rfl,hx,D5,hD5,hf5,λH5 h5 hd5=>Rt.gfn ⟨⟨p,n,c,q,γ.m,d,p0,n0,c0,p1,n1,c1,p2,n2,c2⟩,rfl,?_⟩⟩
  have t2:(aX W H1).le (aX W H2):=eh h2
  have t3:(aX W H2).le (aX W H3):=eh h3
  have t4:(aX W H3).le (aX W H4):=eh h4
  have t5:(aX W H4).le (aX W H5):=eh h5
  exact⟨((((hT.mono (ai hd1 (λb o h=>Nat.le_trans nn1.mod.size (hf1 b o h)))).mono t2).mono t3).mono t4).mono t5,
     ((hE.mono t3).mono t4).mono t5,
     ((hT0.mono (ai hd3 (λb o h=>Nat.le_trans nn3.mod.size (hf3 b o h)))).mono t4).mono t5,
     (hT1.mono (ai hd4 (λb o h=>Nat.le_trans nn4.mod.size (hf4 b o h)))).mono t5,
     hT2.mono (ai hd5 (λb o h=>Nat.le_trans nn5.mod.size (hf5 b o h)))⟩
theorem tj(hg:aK H g γ){e:Ent}(he:e.in64):Gf Tryz.prog 53 #[mQ g γ,e.val] H (o8 (gQ g e).1 λv=>.tuple #[v,vi (gQ g e).2.1,vi (gQ g e).2.2]):=λW hH=>by
  refine tP _ _ _ _ _ _ γ.p γ.n γ.c γ.q γ.m γ.d _ _ _ _ _ _ γ.p0 γ.n0 γ.c0 _ _ _ _ _ _ γ.p1 γ.n1 γ.c1 _ _ _ _ _ _ γ.p2 γ.n2 γ.c2 _ _ _ _ _ _ _ _ _ noM H W _ hH λb0 b1 b2=>?_
  refine Cl.same (kl hg) λ_ _ hx=>⟨_,rfl,hx,λe0=>?_,λe0=>Rt.gfn (by rw[sU e0];exact⟨GP.nil,rfl,aK.nil _⟩)⟩
  refine Cl.fresh (wf hg.base hg.tail he) ?_
  rintro v W3 W4 D2 ⟨p,n,c,q,m,d,rfl,hT,hE⟩ hx hD2 hf2 nn2
  refine⟨_,_,_,_,_,_,p,n,c,q,m,d,_,_,rfl,hx,D2,hD2,hf2,λH1 h1 hd1 b3=>⟨λe1=>?_,λe1=>Rt.gfn (by rw[lc e0 e1];exact⟨GP.nil,rfl,aK.nil _⟩)⟩⟩
  refine Cl.fresh (je (cn.1 e0) (hg.mono h1)) ?_
  rintro v W5 W6 D3 ⟨ε,rfl,hge⟩ hx hD3 hf3 nn3
  refine⟨_,_,_,_,_,_,ε.p,ε.n,ε.c,ε.q,ε.m,ε.d,_,_,_,_,_,_,ε.p0,ε.n0,ε.c0,_,_,_,_,_,_,ε.p1,ε.n1,ε.c1,_,_,_,_,_,_,ε.p2,ε.n2,ε.c2,rfl,hx,D3,hD3,hf3,λH2 h2 hd2 b4=>Rt.gfn ?_⟩
  rw[mJ e0 e1]
  have k2:=ai (Hp.le_trans hd1 h2) (λb o h=>Nat.le_trans nn2.mod.size (hf2 b o h))
  have k1:=ai hd2 (λb o h=>Nat.le_trans nn3.mod.size (hf3 b o h))
  exact⟨{ ε with p:=p,n:=n,c:=c,q:=q,m:=m,d:=d },rfl,hT.mono k2,hE.mono k2,hge.n0.mono k1,hge.n1.mono k1,hge.n2.mono k1⟩
theorem tW(hg:aK H g γ)(x:Int):Gf Tryz.prog 35 #[mQ g γ,vi x] H (o8 (kG g x).1 λv=>.tuple #[v,vi (kG g x).2]):=λW hH=>by
  refine ub _ _ _ _ _ _ γ.p γ.n γ.c γ.q γ.m γ.d _ _ _ _ _ _ γ.p0 γ.n0 γ.c0 _ _ _ _ _ _ γ.p1 γ.n1 γ.c1 _ _ _ _ _ _ γ.p2 γ.n2 γ.c2 x noM H W _ hH λb0 b1=>?_
  refine Cl.same (kl hg) λ_ _ hx=>⟨_,rfl,hx,λe0=>?_,λe0=>Rt.gfn (by rw[sG e0];exact⟨GP.nil,rfl,aK.nil _⟩)⟩
  refine Cl.fresh (Dj hg.base hg.tail x) ?_
  rintro v W3 W4 D2 ⟨p,n,c,q,m,d,rfl,hT,hE⟩ hx hD2 hf2 nn2
  refine⟨_,_,_,_,_,_,p,n,c,q,m,d,_,rfl,hx,D2,hD2,hf2,λH1 h1 hd1 b3=>⟨λe1=>?_,λe1=>Rt.gfn (by rw[mC e0 e1];exact⟨GP.nil,rfl,aK.nil _⟩)⟩⟩
  refine Cl.fresh (je (cn.1 e0) (hg.mono h1)) ?_
  rintro v W5 W6 D3 ⟨ε,rfl,hge⟩ hx hD3 hf3 nn3
  refine⟨_,_,_,_,_,_,ε.p,ε.n,ε.c,ε.q,ε.m,ε.d,_,_,_,_,_,_,ε.p0,ε.n0,ε.c0,_,_,_,_,_,_,ε.p1,ε.n1,ε.c1,_,_,_,_,_,_,ε.p2,ε.n2,ε.c2,rfl,hx,D3,hD3,hf3,λH2 h2 hd2 b4=>Rt.gfn ?_⟩
  rw[sw e0 e1]
  have k2:=ai (Hp.le_trans hd1 h2) (λb o h=>Nat.le_trans nn2.mod.size (hf2 b o h))
  have k1:=ai hd2 (λb o h=>Nat.le_trans nn3.mod.size (hf3 b o h))
  exact⟨{ ε with p:=p,n:=n,c:=c,q:=q,m:=m,d:=d },rfl,hT.mono k2,hE.mono k2,hge.n0.mono k1,hge.n1.mono k1,hge.n2.mono k1⟩
theorem sQ(hg:aK H g γ)(k x:Int):Gf Tryz.prog 34 #[mQ g γ,vi k,vi x] H (o8 (iC g k x).1 λv=>.tuple #[v,vi (iC g k x).2.1,vi (iC g k x).2.2]):=λW hH=>by
  refine sJ _ _ _ _ _ _ γ.p γ.n γ.c γ.q γ.m γ.d _ _ _ _ _ _ γ.p0 γ.n0 γ.c0 _ _ _ _ _ _ γ.p1 γ.n1 γ.c1 _ _ _ _ _ _ γ.p2 γ.n2 γ.c2 k x noM H W _ hH λb0 b1=>?_
  refine Cl.same (kl hg) λ_ _ hx=>⟨_,rfl,hx,λe0=>?_,λe0=>Rt.gfn (by rw[tG e0];exact⟨GP.nil,rfl,aK.nil _⟩)⟩
  refine Cl.same (bu k 0 2 H) λ_ _ hx=>⟨_,rfl,hx,λhk=>?_,λhk=>Rt.gfn (by rw[lr e0 (by simp[inR] at hk;omega)];exact⟨GP.nil,rfl,aK.nil _⟩)⟩
  have hk2:0<=k/\k<=2:=by simpa [inR] using hk
  refine⟨⟨by omega,by omega⟩,λ_=>⟨λhk0=>?_,λhk0=>?_,λhk0=>?_,trivial⟩⟩
  · subst hk0
    refine Cl.fresh (rJ hg.base hg.tail hg.n0 x) ?_
    rintro v W3 W4 D2 ⟨p,n,c,rfl,hT⟩ hx hD2 hf2 nn2
    refine⟨_,_,_,_,_,_,p,n,c,_,_,rfl,hx,D2,hD2,hf2,λH1 h1 hd1 b3=>⟨λe1=>?_,λe1=>Rt.gfn (by rw[ie e0 (k:=0) (by omega) e1];exact⟨GP.nil,rfl,aK.nil _⟩)⟩⟩
    refine Cl.fresh (je (cn.1 e0) (hg.mono h1)) ?_
    rintro v W5 W6 D3 ⟨ε,rfl,hge⟩ hx hD3 hf3 nn3
    refine⟨_,_,_,_,_,_,ε.p,ε.n,ε.c,ε.q,ε.m,ε.d,_,_,_,_,_,_,ε.p0,ε.n0,ε.c0,_,_,_,_,_,_,ε.p1,ε.n1,ε.c1,_,_,_,_,_,_,ε.p2,ε.n2,ε.c2,rfl,hx,D3,hD3,hf3,λH2 h2 hd2 b4=>Rt.gfn ?_⟩
    rw[km e0 (k:=0) (by omega) e1]
    have k2:=ai (Hp.le_trans hd1 h2) (λb o h=>Nat.le_trans nn2.mod.size (hf2 b o h))
    have k1:=ai hd2 (λb o h=>Nat.le_trans nn3.mod.size (hf3 b o h))
    exact⟨{ ε with p0:=p,n0:=n,c0:=c },rfl,hge.base.mono k1,hge.tail.mono k1,hT.mono k2,hge.n1.mono k1,hge.n2.mono k1⟩
  · subst hk0
    refine Cl.fresh (rJ hg.base hg.tail hg.n1 x) ?_
    rintro v W3 W4 D2 ⟨p,n,c,rfl,hT⟩ hx hD2 hf2 nn2
    refine⟨_,_,_,_,_,_,p,n,c,_,_,rfl,hx,D2,hD2,hf2,λH1 h1 hd1 b3=>⟨λe1=>?_,λe1=>Rt.gfn (by rw[ie e0 (k:=1) (by omega) e1];exact⟨GP.nil,rfl,aK.nil _⟩)⟩⟩
    refine Cl.fresh (je (cn.1 e0) (hg.mono h1)) ?_
    rintro v W5 W6 D3 ⟨ε,rfl,hge⟩ hx hD3 hf3 nn3
    refine⟨_,_,_,_,_,_,ε.p,ε.n,ε.c,ε.q,ε.m,ε.d,_,_,_,_,_,_,ε.p0,ε.n0,ε.c0,_,_,_,_,_,_,ε.p1,ε.n1,ε.c1,_,_,_,_,_,_,ε.p2,ε.n2,ε.c2,rfl,hx,D3,hD3,hf3,λH2 h2 hd2 b4=>Rt.gfn ?_⟩
    rw[km e0 (k:=1) (by omega) e1]
    have k2:=ai (Hp.le_trans hd1 h2) (λb o h=>Nat.le_trans nn2.mod.size (hf2 b o h))
    have k1:=ai hd2 (λb o h=>Nat.le_trans nn3.mod.size (hf3 b o h))
    exact⟨{ ε with p1:=p,n1:=n,c1:=c },rfl,hge.base.mono k1,hge.tail.mono k1,hge.n0.mono k1,hT.mono k2,hge.n2.mono k1⟩
  · subst hk0
    refine Cl.fresh (rJ hg.base hg.tail hg.n2 x) ?_
    rintro v W3 W4 D2 ⟨p,n,c,rfl,hT⟩ hx hD2 hf2 nn2
    refine⟨_,_,_,_,_,_,p,n,c,_,_,rfl,hx,D2,hD2,hf2,λH1 h1 hd1 b3=>⟨λe1=>?_,λe1=>Rt.gfn (by rw[ie e0 (k:=2) (by omega) e1];exact⟨GP.nil,rfl,aK.nil _⟩)⟩⟩
    refine Cl.fresh (je (cn.1 e0) (hg.mono h1)) ?_
    rintro v W5 W6 D3 ⟨ε,rfl,hge⟩ hx hD3 hf3 nn3
    refine⟨_,_,_,_,_,_,ε.p,ε.n,ε.c,ε.q,ε.m,ε.d,_,_,_,_,_,_,ε.p0,ε.n0,ε.c0,_,_,_,_,_,_,ε.p1,ε.n1,ε.c1,_,_,_,_,_,_,ε.p2,ε.n2,ε.c2,rfl,hx,D3,hD3,hf3,λH2 h2 hd2 b4=>Rt.gfn ?_⟩
    rw[km e0 (k:=2) (by omega) e1]
    have k2:=ai (Hp.le_trans hd1 h2) (λb o h=>Nat.le_trans nn2.mod.size (hf2 b o h))
    have k1:=ai hd2 (λb o h=>Nat.le_trans nn3.mod.size (hf3 b o h))
    exact⟨{ ε with p2:=p,n2:=n,c2:=c },rfl,hge.base.mono k1,hge.tail.mono k1,hge.n0.mono k1,hge.n1.mono k1,hT.mono k2⟩
end
end Go.Proofs.YtfpmcmhihhnfgaaGreatDoor
