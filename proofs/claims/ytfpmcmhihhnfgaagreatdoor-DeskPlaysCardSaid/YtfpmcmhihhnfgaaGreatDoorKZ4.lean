/- Contracts of the desk's table: a group, and all entries that were put. No conditions. -/
import Derived.Test.YtfpmcmhihhnfgaaGreatDoorKZ3
import Derived.Test.YtfpmcmhihhnfgaaGreatDoorKG1
import Derived.Test.YtfpmcmhihhnfgaaGreatDoorKX1
import Derived.Lib.Split
set_option linter.unusedVariables false
set_option linter.unusedSimpArgs false
namespace Go.Proofs.YtfpmcmhihhnfgaaGreatDoor
open Go.RowKit
set_option maxRecDepth 100000
set_option maxHeartbeats 4000000
theorem Ej(x0 x1 x2 x3 x4 x5:Int)(x6:OL)(x7 x8:Nat)(x9:OL)(c0 c1:Nat)(c2 c3 c4 c5 c6 c7:Int)(c8:OL)(c9 cA:Nat)(cB cC cD cE cF cG:Int)(cH:OL)(cI cJ:Nat)(cK cL cM cN cO cP:Int)(cQ:OL)(cR cS:Nat)(cT:OL)(cU cV:Nat)(cW cX cY cZ d0 d1 d2 d3 d4:Int)(b0:Nat)(M:Nat->Prop)(H0:Hp)(W0:World)(R:Ending->World->Prop)(hH:H0.le (ak W0))(h0:W0.heap[b0]?=some (Obj.cells #[vi x0,vi x1,vi x2,vi x3,vi x4,vi x5,vsl x6 x7 x8,vsl x9 c0 c1,vi c2,vi c3,vi c4,vi c5,vi c6,vi c7,vsl c8 c9 cA,vi cB,vi cC,vi cD,vi cE,vi cF,vi cG,vsl cH cI cJ,vi cK,vi cL,vi cM,vi cN,vi cO,vi cP,vsl cQ cR cS,vsl cT cU cV] 42 (0,0))/\M b0/\H0 b0=none)(h:let u0:=#[vi cW,vi cX,vi cY,vi cZ,vi d0,vi d1,vi d2,vi d3,vi d4];(∀b1:Nat,(Cl' W0 M H0 nK 65 #[vg (gv x0 x1 x2 x3 x4 x5 x6 x7 x8 x9 c0 c1 c2 c3 c4 c5 c6 c7 c8 c9 cA cB cC cD cE cF cG cH cI cJ cK cL cM cN cO cP cQ cR cS),vg u0] λz W1 W2=>eG λd5 d6 d7 d8 d9 dA dB dC dD dE dF dG dH dI dJ dK dL dM dN dO dP dQ dR dS dT dU dV dW dX dY dZ e0 e1 e2 e3 e4 e5 e6 e7=>∃(e8 e9:Int),z=.returned (vt #[vg (gv d5 d6 d7 d8 d9 dA dB dC dD dE dF dG dH dI dJ dK dL dM dN dO dP dQ dR dS dT dU dV dW dX dY dZ e0 e1 e2 e3 e4 e5 e6 e7),vi e8,vi e9])/\Fr W1 W2 H0 λH1=>(∀b2:Nat,(cg W0 M H1 (λW=>Kn W0 M H1 W b0 (Obj.cells (tv x0 x1 x2 x3 x4 x5 x6 x7 x8 x9 c0 c1 c2 c3 c4 c5 c6 c7 c8 c9 cA cB cC cD cE cF cG cH cI cJ cK cL cM cN cO cP cQ cR cS cT cU cV) 42 (0,0))/\True) 28 #[vb (decide (e9=0)),vi e9] (λz W3 W4=>z=.returned (vt #[])/\Ext W3 W4/\(Cl' W0 M H1 nK 66 #[vsl cT cU cV] λz W5 W6=>∃(eA:OL) (eB eC:Nat),z=.returned (vsl eA eB eC)/\Fr W5 W6 H1 λH2=>(∀b3:Nat,(Es W0 M H2 (λW=>Kn W0 M H2 W b3 (Obj.cells u0 84 (0,0))/\True) λW7=>∃(eD:OL) (eE eF:Nat),Eo' (.bi .append #[34,34] 34) [vsl eA eB eC,Value.slice (some ⟨b3,0,none⟩) 1 1] W7 (.value (vsl eD eE eF)) λW8=>Tn W0 M H2 W7 W8 λH3=>(∀b4:Nat,(Cl' W0 M H3 (λW=>Kn W0 M H3 W b4 (Obj.cells #[vi e8] 3 (0,0))/\True) 67 #[Value.slice (some ⟨b4,0,none⟩) 1 1] λz W9 W10=>∃eH:ByteArray,z=.returned (vs eH)/\Ext W9 W10/\Rt R W0 M H3 (λW=>Kn W0 M H3 W b0 (Obj.cells (tv d5 d6 d7 d8 d9 dA dB dC dD dE dF dG dH dI dJ dK dL dM dN dO dP dQ dR dS dT dU dV dW dX dY dZ e0 e1 e2 e3 e4 e5 e6 e7 eD eE eF) 42 (0,0))/\True) (vs eH))))))) λps W=>Dr' R none [] (.panicking ps) W))))) :
 Calls Tryz.prog 44 #[vp (some ⟨b0,0,none⟩),vg #[vi cW,vi cX,vi cY,vi cZ,vi d0,vi d1,vi d2,vi d3,vi d4]] W0 R :=
 aO (M:=M) (hi:={pn:=true,shows := [0],pans := [28]}) (o0:=⟨tA,42⟩) (args := [.ptrK 0 0,.agg [vI 42,vI 43,vI 44,vI 45,vI 46,vI 47,vI 48,vI 49,vI 50]]) (nv:=51) (e:=lk (te x0 x1 x2 x3 x4 x5 x6 x7 x8 x9 c0 c1 c2 c3 c4 c5 c6 c7 c8 c9 cA cB cC cD cE cF cG cH cI cJ cK cL cM cN cO cP cQ cR cS cT cU cV [.i cW,.i cX,.i cY,.i cZ,.i d0,.i d1,.i d2,.i d3,.i d4])) Tryz.func44 hH h0 h rfl
theorem Al(x0 x1 x2 x3 x4 x5:Int)(x6:OL)(x7 x8:Nat)(x9:OL)(c0 c1:Nat)(c2 c3 c4 c5 c6 c7:Int)(c8:OL)(c9 cA:Nat)(cB cC cD cE cF cG:Int)(cH:OL)(cI cJ:Nat)(cK cL cM cN cO cP:Int)(cQ:OL)(cR cS:Nat)(cT:OL)(cU cV:Nat)(cW:ByteArray)(b0:Nat)(M:Nat->Prop)(H0:Hp)(W0:World)(R:Ending->World->Prop)(hH:H0.le (ak W0))(h0:W0.heap[b0]?=some (Obj.cells #[vi x0,vi x1,vi x2,vi x3,vi x4,vi x5,vsl x6 x7 x8,vsl x9 c0 c1,vi c2,vi c3,vi c4,vi c5,vi c6,vi c7,vsl c8 c9 cA,vi cB,vi cC,vi cD,vi cE,vi cF,vi cG,vsl cH cI cJ,vi cK,vi cL,vi cM,vi cN,vi cO,vi cP,vsl cQ cR cS,vsl cT cU cV] 42 (0,0))/\M b0/\H0 b0=none)(h:let u0:=(tv x0 x1 x2 x3 x4 x5 x6 x7 x8 x9 c0 c1 c2 c3 c4 c5 c6 c7 c8 c9 cA cB cC cD cE cF cG cH cI cJ cK cL cM cN cO cP cQ cR cS cT cU cV);(∀b1:Nat,(cg W0 M H0 (λW=>Kn W0 M H0 W b0 (Obj.cells u0 42 (0,0))/\True) 45 #[vs cW] (λz W1 W2=>∃cX:Int,z=.returned (vi cX)/\Ext W1 W2/\(cg W0 M H0 (λW=>Kn W0 M H0 W b0 (Obj.cells u0 42 (0,0))/\True) 28 #[vb (decide (cX<3)),vi 3] (λz W3 W4=>z=.returned (vt #[])/\Ext W3 W4/\(Ck ((0:Int)<=cX/\cX<3) ((cX=0->Rt R W0 M H0 (λW=>Kn W0 M H0 W b0 (Obj.cells u0 42 (0,0))/\True) (vg #[vi c2,vi c3,vi c4,vi c5,vi c6,vi c7,vsl c8 c9 cA]))/\((cX=1->Rt R W0 M H0 (λW=>Kn W0 M H0 W b0 (Obj.cells u0 42 (0,0))/\True) (vg #[vi cB,vi cC,vi cD,vi cE,vi cF,vi cG,vsl cH cI cJ]))/\((cX=2->Rt R W0 M H0 (λW=>Kn W0 M H0 W b0 (Obj.cells u0 42 (0,0))/\True) (vg #[vi cK,vi cL,vi cM,vi cN,vi cO,vi cP,vsl cQ cR cS]))/\True))))) λps W=>Dr' R none [] (.panicking ps) W)) λps W=>Dr' R none [] (.panicking ps) W))) :
 Calls Tryz.prog 72 #[vp (some ⟨b0,0,none⟩),vs cW] W0 R :=
 aO (M:=M) (hi:={pn:=true,shows := [0],pans := [28,45]}) (o0:=⟨tA,42⟩) (args := [.ptrK 0 0,.str 42]) (nv:=43) (e:=lk (te x0 x1 x2 x3 x4 x5 x6 x7 x8 x9 c0 c1 c2 c3 c4 c5 c6 c7 c8 c9 cA cB cC cD cE cF cG cH cI cJ cK cL cM cN cO cP cQ cR cS cT cU cV [.s cW])) Tryz.func72 hH h0 h rfl
theorem EU(x0 x1 x2 x3 x4 x5:Int)(x6:OL)(x7 x8:Nat)(x9:OL)(c0 c1:Nat)(c2 c3 c4 c5 c6 c7:Int)(c8:OL)(c9 cA:Nat)(cB cC cD cE cF cG:Int)(cH:OL)(cI cJ:Nat)(cK cL cM cN cO cP:Int)(cQ:OL)(cR cS:Nat)(cT:OL)(cU cV:Nat)(cW:OL)(cX cY:Nat)(b0:Nat)(M:Nat->Prop)(H0:Hp)(W0:World)(R:Ending->World->Prop)(hH:H0.le (ak W0))(h0:W0.heap[b0]?=some (Obj.cells #[vi x0,vi x1,vi x2,vi x3,vi x4,vi x5,vsl x6 x7 x8,vsl x9 c0 c1,vi c2,vi c3,vi c4,vi c5,vi c6,vi c7,vsl c8 c9 cA,vi cB,vi cC,vi cD,vi cE,vi cF,vi cG,vsl cH cI cJ,vi cK,vi cL,vi cM,vi cN,vi cO,vi cP,vsl cQ cR cS,vsl cT cU cV] 42 (0,0))/\M b0/\H0 b0=none)(h:let u0:=(tv x0 x1 x2 x3 x4 x5 x6 x7 x8 x9 c0 c1 c2 c3 c4 c5 c6 c7 c8 c9 cA cB cC cD cE cF cG cH cI cJ cK cL cM cN cO cP cQ cR cS cT cU cV);(Ck ((0:Int)<=0/\0<(cX:Int)) (Ck (cW.isSome=true) (∃cZ:ByteArray,aa H0 cW (0+(0 * 1)) [vs cZ]/\(Ck ((0:Int)<=1/\1<(cX:Int)) (∃d0:ByteArray,aa H0 cW (0+(1 * 1)) [vs d0]/\(cg W0 M H0 (λW=>Kn W0 M H0 W b0 (Obj.cells u0 42 (0,0))/\True) 45 #[vs cZ] (λz W1 W2=>∃d1:Int,z=.returned (vi d1)/\Ext W1 W2/\(cg W0 M H0 (λW=>Kn W0 M H0 W b0 (Obj.cells u0 42 (0,0))/\True) 45 #[vs d0] (λz W3 W4=>∃d2:Int,z=.returned (vi d2)/\Ext W3 W4/\(Cl' W0 M H0 nK 70 #[vg (gv x0 x1 x2 x3 x4 x5 x6 x7 x8 x9 c0 c1 c2 c3 c4 c5 c6 c7 c8 c9 cA cB cC cD cE cF cG cH cI cJ cK cL cM cN cO cP cQ cR cS),vi d1,vi d2] λz W5 W6=>eG λd3 d4 d5 d6 d7 d8 d9 dA dB dC dD dE dF dG dH dI dJ dK dL dM dN dO dP dQ dR dS dT dU dV dW dX dY dZ e0 e1 e2 e3 e4 e5=>∃(e6 e7:Int),z=.returned (vt #[vg (gv d3 d4 d5 d6 d7 d8 d9 dA dB dC dD dE dF dG dH dI dJ dK dL dM dN dO dP dQ dR dS dT dU dV dW dX dY dZ e0 e1 e2 e3 e4 e5),vi e6,vi e7])/\Fr W5 W6 H0 λH1=>(∀b1:Nat,(cg W0 M H1 (λW=>Kn W0 M H1 W b0 (Obj.cells u0 42 (0,0))/\True) 28 #[vb (decide (e7=0)),vi e7] (λz W7 W8=>z=.returned (vt #[])/\Ext W7 W8/\(∀b2:Nat,(Cl' W0 M H1 (λW=>Kn W0 M H1 W b2 (Obj.cells #[vi e6] 3 (0,0))/\True) 67 #[Value.slice (some ⟨b2,0,none⟩) 1 1] λz W9 W10=>∃e8:ByteArray,z=.returned (vs e8)/\Ext W9 W10/\Rt R W0 M H1 (λW=>Kn W0 M H1 W b0 (Obj.cells (tv d3 d4 d5 d6 d7 d8 d9 dA dB dC dD dE dF dG dH dI dJ dK dL dM dN dO dP dQ dR dS dT dU dV dW dX dY dZ e0 e1 e2 e3 e4 e5 cT cU cV) 42 (0,0))/\True) (vs e8)))) λps W=>Dr' R none [] (.panicking ps) W)))) λps W=>Dr' R none [] (.panicking ps) W)) λps W=>Dr' R none [] (.panicking ps) W))))))) :
 Calls Tryz.prog 47 #[vp (some ⟨b0,0,none⟩),vsl cW cX cY] W0 R :=
 aO (M:=M) (hi:={pn:=true,shows := [0],pans := [28,45]}) (o0:=⟨tA,42⟩) (args := [.ptrK 0 0,vS 42]) (nv:=45) (e:=lk (te x0 x1 x2 x3 x4 x5 x6 x7 x8 x9 c0 c1 c2 c3 c4 c5 c6 c7 c8 c9 cA cB cC cD cE cF cG cH cI cJ cK cL cM cN cO cP cQ cR cS cT cU cV [.p cW,.n cX,.n cY])) Tryz.func47 hH h0 h rfl
theorem E1(x0 x1 x2 x3 x4 x5:Int)(x6:OL)(x7 x8:Nat)(x9:OL)(c0 c1:Nat)(c2 c3 c4 c5 c6 c7:Int)(c8:OL)(c9 cA:Nat)(cB cC cD cE cF cG:Int)(cH:OL)(cI cJ:Nat)(cK cL cM cN cO cP:Int)(cQ:OL)(cR cS:Nat)(cT:OL)(cU cV:Nat)(cW:OL)(cX cY:Nat)(b0:Nat)(M:Nat->Prop)(H0:Hp)(W0:World)(R:Ending->World->Prop)(hH:H0.le (ak W0))(h0:W0.heap[b0]?=some (Obj.cells #[vi x0,vi x1,vi x2,vi x3,vi x4,vi x5,vsl x6 x7 x8,vsl x9 c0 c1,vi c2,vi c3,vi c4,vi c5,vi c6,vi c7,vsl c8 c9 cA,vi cB,vi cC,vi cD,vi cE,vi cF,vi cG,vsl cH cI cJ,vi cK,vi cL,vi cM,vi cN,vi cO,vi cP,vsl cQ cR cS,vsl cT cU cV] 42 (0,0))/\M b0/\H0 b0=none)(h:let u0:=(tv x0 x1 x2 x3 x4 x5 x6 x7 x8 x9 c0 c1 c2 c3 c4 c5 c6 c7 c8 c9 cA cB cC cD cE cF cG cH cI cJ cK cL cM cN cO cP cQ cR cS cT cU cV);(Ck ((0:Int)<=0/\0<(cX:Int)) (Ck (cW.isSome=true) (∃cZ:ByteArray,aa H0 cW (0+(0 * 1)) [vs cZ]/\(cg W0 M H0 (λW=>Kn W0 M H0 W b0 (Obj.cells u0 42 (0,0))/\True) 45 #[vs cZ] (λz W1 W2=>∃d0:Int,z=.returned (vi d0)/\Ext W1 W2/\(Cl' W0 M H0 nK 71 #[vg (gv x0 x1 x2 x3 x4 x5 x6 x7 x8 x9 c0 c1 c2 c3 c4 c5 c6 c7 c8 c9 cA cB cC cD cE cF cG cH cI cJ cK cL cM cN cO cP cQ cR cS),vi d0] λz W3 W4=>eG λd1 d2 d3 d4 d5 d6 d7 d8 d9 dA dB dC dD dE dF dG dH dI dJ dK dL dM dN dO dP dQ dR dS dT dU dV dW dX dY dZ e0 e1 e2 e3=>∃(e4:Int),z=.returned (vt #[vg (gv d1 d2 d3 d4 d5 d6 d7 d8 d9 dA dB dC dD dE dF dG dH dI dJ dK dL dM dN dO dP dQ dR dS dT dU dV dW dX dY dZ e0 e1 e2 e3),vi e4])/\Fr W3 W4 H0 λH1=>(∀b1:Nat,(cg W0 M H1 (λW=>Kn W0 M H1 W b0 (Obj.cells u0 42 (0,0))/\True) 28 #[vb (decide (e4=0)),vi e4] (λz W5 W6=>z=.returned (vt #[])/\Ext W5 W6/\Rt R W0 M H1 (λW=>Kn W0 M H1 W b0 (Obj.cells (tv d1 d2 d3 d4 d5 d6 d7 d8 d9 dA dB dC dD dE dF dG dH dI dJ dK dL dM dN dO dP dQ dR dS dT dU dV dW dX dY dZ e0 e1 e2 e3 cT cU cV) 42 (0,0))/\True) (vs ⟨#[111,107]⟩)) λps W=>Dr' R none [] (.panicking ps) W)))) λps W=>Dr' R none [] (.panicking ps) W))))) :
 Calls Tryz.prog 48 #[vp (some ⟨b0,0,none⟩),vsl cW cX cY] W0 R :=
 aO (M:=M) (hi:={pn:=true,shows := [0],pans := [28,45]}) (o0:=⟨tA,42⟩) (args := [.ptrK 0 0,vS 42]) (nv:=45) (e:=lk (te x0 x1 x2 x3 x4 x5 x6 x7 x8 x9 c0 c1 c2 c3 c4 c5 c6 c7 c8 c9 cA cB cC cD cE cF cG cH cI cJ cK cL cM cN cO cP cQ cR cS cT cU cV [.p cW,.n cX,.n cY])) Tryz.func48 hH h0 h rfl
theorem BU(x0 x1 x2 x3 x4 x5:Int)(x6:OL)(x7 x8:Nat)(x9:OL)(c0 c1:Nat)(c2 c3 c4 c5 c6 c7:Int)(c8:OL)(c9 cA:Nat)(cB cC cD cE cF cG:Int)(cH:OL)(cI cJ:Nat)(cK cL cM cN cO cP:Int)(cQ:OL)(cR cS:Nat)(cT:OL)(cU cV:Nat)(cW:OL)(cX cY:Nat)(b0:Nat)(M:Nat->Prop)(H0:Hp)(W0:World)(R:Ending->World->Prop)(hH:H0.le (ak W0))(h0:W0.heap[b0]?=some (Obj.cells #[vi x0,vi x1,vi x2,vi x3,vi x4,vi x5,vsl x6 x7 x8,vsl x9 c0 c1,vi c2,vi c3,vi c4,vi c5,vi c6,vi c7,vsl c8 c9 cA,vi cB,vi cC,vi cD,vi cE,vi cF,vi cG,vsl cH cI cJ,vi cK,vi cL,vi cM,vi cN,vi cO,vi cP,vsl cQ cR cS,vsl cT cU cV] 42 (0,0))/\M b0/\H0 b0=none)(h:let u0:=(tv x0 x1 x2 x3 x4 x5 x6 x7 x8 x9 c0 c1 c2 c3 c4 c5 c6 c7 c8 c9 cA cB cC cD cE cF cG cH cI cJ cK cL cM cN cO cP cQ cR cS cT cU cV);(Ck ((0:Int)<=0/\0<(cX:Int)) (Ck (cW.isSome=true) (∃cZ:ByteArray,aa H0 cW (0+(0 * 1)) [vs cZ]/\(cg W0 M H0 (λW=>Kn W0 M H0 W b0 (Obj.cells u0 42 (0,0))/\True) 72 #[vp (some ⟨b0,0,none⟩),vs cZ] (λz W1 W2=>∃(d0 d1 d2 d3 d4 d5:Int) (d6:OL) (d7 d8:Nat),z=.returned (vg #[vi d0,vi d1,vi d2,vi d3,vi d4,vi d5,vsl d6 d7 d8])/\Fr W1 W2 H0 λH1=>(∀b1:Nat,(Ck (0<=(d7:Int)) (∃(I0:List Dat->Hp->Prop) (μ0:List Dat->Nat),I0 [.n 0,.i 0] H1/\∀H2:Hp,∀(d9:Nat) (dA:Int),I0 [.n d9,.i dA] H2->(It ((d9:Int)<(d7:Int)) (Ck ((0:Int)<=(d9:Int)/\(d9:Int)<(d7:Int)) (Ck (d6.isSome=true) (∃(dB dC dD:Int) (dE:OL) (dF dG:Nat),aa H2 d6 (0+((d9:Int) * 4)) [vi dB,vi dC,vi dD,vsl dE dF dG]/\(∀b2:Nat,(Ck (0<=(dF:Int)) (Ck (ae .i64 (dA+(dF:Int))) (Ck (ae .i64 ((d9:Int)+1)) (Ck (0<=((d9:Int)+1)) (I0 [.n (((d9:Int)+1):Int).toNat,.i (dA+(dF:Int))] H2/\μ0 [.n (((d9:Int)+1):Int).toNat,.i (dA+(dF:Int))]<μ0 [.n d9,.i dA]))))))))) (∀b2:Nat,(Cl' W0 M H2 (λW=>Kn W0 M H2 W b2 (Obj.cells #[vi d0,vi dA] 3 (0,0))/\True) 67 #[Value.slice (some ⟨b2,0,none⟩) 2 2] λz W3 W4=>∃dB:ByteArray,z=.returned (vs dB)/\Ext W3 W4/\Rt R W0 M H2 (λW=>Kn W0 M H2 W b0 (Obj.cells u0 42 (0,0))/\True) (vs dB)))))))) λps W=>Dr' R none [] (.panicking ps) W))))) :
 Calls Tryz.prog 50 #[vp (some ⟨b0,0,none⟩),vsl cW cX cY] W0 R :=
 aO (M:=M) (hi:={pn:=true,shows := [0],pans := [28,45,72],loops := [(4,.inv [(17,.nat),(6,.pt (.int .i64))] [])]}) (o0:=⟨tA,42⟩) (args := [.ptrK 0 0,vS 42]) (nv:=45) (e:=lk (te x0 x1 x2 x3 x4 x5 x6 x7 x8 x9 c0 c1 c2 c3 c4 c5 c6 c7 c8 c9 cA cB cC cD cE cF cG cH cI cJ cK cL cM cN cO cP cQ cR cS cT cU cV [.p cW,.n cX,.n cY])) Tryz.func50 hH h0 h rfl
theorem De(x0 x1 x2 x3 x4 x5:Int)(x6:OL)(x7 x8:Nat)(x9:OL)(c0 c1:Nat)(c2 c3 c4 c5 c6 c7:Int)(c8:OL)(c9 cA:Nat)(cB cC cD cE cF cG:Int)(cH:OL)(cI cJ:Nat)(cK cL cM cN cO cP:Int)(cQ:OL)(cR cS:Nat)(cT:OL)(cU cV:Nat)(cW:OL)(cX cY:Nat)(b0:Nat)(M:Nat->Prop)(H0:Hp)(W0:World)(R:Ending->World->Prop)(hH:H0.le (ak W0))(h0:W0.heap[b0]?=some (Obj.cells #[vi x0,vi x1,vi x2,vi x3,vi x4,vi x5,vsl x6 x7 x8,vsl x9 c0 c1,vi c2,vi c3,vi c4,vi c5,vi c6,vi c7,vsl c8 c9 cA,vi cB,vi cC,vi cD,vi cE,vi cF,vi cG,vsl cH cI cJ,vi cK,vi cL,vi cM,vi cN,vi cO,vi cP,vsl cQ cR cS,vsl cT cU cV] 42 (0,0))/\M b0/\H0 b0=none)(h:let u0:=(tv x0 x1 x2 x3 x4 x5 x6 x7 x8 x9 c0 c1 c2 c3 c4 c5 c6 c7 c8 c9 cA cB cC cD cE cF cG cH cI cJ cK cL cM cN cO cP cQ cR cS cT cU cV);(Ck ((0:Int)<=0/\0<(cX:Int)) (Ck (cW.isSome=true) (∃cZ:ByteArray,aa H0 cW (0+(0 * 1)) [vs cZ]/\(Ck ((0:Int)<=1/\1<(cX:Int)) (∃d0:ByteArray,aa H0 cW (0+(1 * 1)) [vs d0]/\(cg W0 M H0 (λW=>Kn W0 M H0 W b0 (Obj.cells u0 42 (0,0))/\True) 45 #[vs cZ] (λz W1 W2=>∃d1:Int,z=.returned (vi d1)/\Ext W1 W2/\(cg W0 M H0 (λW=>Kn W0 M H0 W b0 (Obj.cells u0 42 (0,0))/\True) 45 #[vs d0] (λz W3 W4=>∃d2:Int,z=.returned (vi d2)/\Ext W3 W4/\(Cl' W0 M H0 nK 73 #[vsl cT cU cV,vi d1,vi d2] λz W5 W6=>∃(d3 d4:Int),z=.returned (vt #[vi d3,vi d4])/\Ext W5 W6/\(cg W0 M H0 (λW=>Kn W0 M H0 W b0 (Obj.cells u0 42 (0,0))/\True) 28 #[vb (decide (d4=0)),vi d4] (λz W7 W8=>z=.returned (vt #[])/\Ext W7 W8/\(∀b1:Nat,(Cl' W0 M H0 (λW=>Kn W0 M H0 W b1 (Obj.cells #[vi d3] 3 (0,0))/\True) 67 #[Value.slice (some ⟨b1,0,none⟩) 1 1] λz W9 W10=>∃d5:ByteArray,z=.returned (vs d5)/\Ext W9 W10/\Rt R W0 M H0 (λW=>Kn W0 M H0 W b0 (Obj.cells u0 42 (0,0))/\True) (vs d5)))) λps W=>Dr' R none [] (.panicking ps) W))) λps W=>Dr' R none [] (.panicking ps) W)) λps W=>Dr' R none [] (.panicking ps) W))))))) :
 Calls Tryz.prog 51 #[vp (some ⟨b0,0,none⟩),vsl cW cX cY] W0 R :=
 aO (M:=M) (hi:={pn:=true,shows := [0],pans := [28,45]}) (o0:=⟨tA,42⟩) (args := [.ptrK 0 0,vS 42]) (nv:=45) (e:=lk (te x0 x1 x2 x3 x4 x5 x6 x7 x8 x9 c0 c1 c2 c3 c4 c5 c6 c7 c8 c9 cA cB cC cD cE cF cG cH cI cJ cK cL cM cN cO cP cQ cR cS cT cU cV [.p cW,.n cX,.n cY])) Tryz.func51 hH h0 h rfl
theorem Dc(x0 x1 x2 x3 x4 x5:Int)(x6:OL)(x7 x8:Nat)(x9:OL)(c0 c1:Nat)(c2 c3 c4 c5 c6 c7:Int)(c8:OL)(c9 cA:Nat)(cB cC cD cE cF cG:Int)(cH:OL)(cI cJ:Nat)(cK cL cM cN cO cP:Int)(cQ:OL)(cR cS:Nat)(cT:OL)(cU cV:Nat)(cW:OL)(cX cY:Nat)(b0:Nat)(M:Nat->Prop)(H0:Hp)(W0:World)(R:Ending->World->Prop)(hH:H0.le (ak W0))(h0:W0.heap[b0]?=some (Obj.cells #[vi x0,vi x1,vi x2,vi x3,vi x4,vi x5,vsl x6 x7 x8,vsl x9 c0 c1,vi c2,vi c3,vi c4,vi c5,vi c6,vi c7,vsl c8 c9 cA,vi cB,vi cC,vi cD,vi cE,vi cF,vi cG,vsl cH cI cJ,vi cK,vi cL,vi cM,vi cN,vi cO,vi cP,vsl cQ cR cS,vsl cT cU cV] 42 (0,0))/\M b0/\H0 b0=none)(h:let u0:=(tv x0 x1 x2 x3 x4 x5 x6 x7 x8 x9 c0 c1 c2 c3 c4 c5 c6 c7 c8 c9 cA cB cC cD cE cF cG cH cI cJ cK cL cM cN cO cP cQ cR cS cT cU cV);(Ck ((0:Int)<=0/\0<(cX:Int)) (Ck (cW.isSome=true) (∃cZ:ByteArray,aa H0 cW (0+(0 * 1)) [vs cZ]/\(cg W0 M H0 (λW=>Kn W0 M H0 W b0 (Obj.cells u0 42 (0,0))/\True) 72 #[vp (some ⟨b0,0,none⟩),vs cZ] (λz W1 W2=>∃(d0 d1 d2 d3 d4 d5:Int) (d6:OL) (d7 d8:Nat),let u1:=#[vi d0,vi d1,vi d2,vi d3,vi d4,vi d5,vsl d6 d7 d8];z=.returned (vg u1)/\Fr W1 W2 H0 λH1=>(∀b1:Nat,(Cl' W0 M H1 (λW=>Kn W0 M H1 W b1 (Obj.cells u1 33 (0,0))/\True) 67 #[Value.slice (some ⟨b1,2,none⟩) 4 4] λz W3 W4=>∃d9:ByteArray,z=.returned (vs d9)/\Ext W3 W4/\Rt R W0 M H1 (λW=>Kn W0 M H1 W b0 (Obj.cells u0 42 (0,0))/\True) (vs d9)))) λps W=>Dr' R none [] (.panicking ps) W))))) :
 Calls Tryz.prog 49 #[vp (some ⟨b0,0,none⟩),vsl cW cX cY] W0 R :=
 aO (M:=M) (hi:={pn:=true,shows := [0],pans := [28,45,72]}) (o0:=⟨tA,42⟩) (args := [.ptrK 0 0,vS 42]) (nv:=45) (e:=lk (te x0 x1 x2 x3 x4 x5 x6 x7 x8 x9 c0 c1 c2 c3 c4 c5 c6 c7 c8 c9 cA cB cC cD cE cF cG cH cI cJ cK cL cM cN cO cP cQ cR cS cT cU cV [.p cW,.n cX,.n cY])) Tryz.func49 hH h0 h rfl
theorem Cn(x0 x1 x2 x3 x4 x5:Int)(x6:OL)(x7 x8:Nat)(x9:OL)(c0 c1:Nat)(c2 c3 c4 c5 c6 c7:Int)(c8:OL)(c9 cA:Nat)(cB cC cD cE cF cG:Int)(cH:OL)(cI cJ:Nat)(cK cL cM cN cO cP:Int)(cQ:OL)(cR cS:Nat)(cT:OL)(cU cV:Nat)(cW:OL)(cX cY:Nat)(b0:Nat)(M:Nat->Prop)(H0:Hp)(W0:World)(R:Ending->World->Prop)(hH:H0.le (ak W0))(h0:W0.heap[b0]?=some (Obj.cells #[vi x0,vi x1,vi x2,vi x3,vi x4,vi x5,vsl x6 x7 x8,vsl x9 c0 c1,vi c2,vi c3,vi c4,vi c5,vi c6,vi c7,vsl c8 c9 cA,vi cB,vi cC,vi cD,vi cE,vi cF,vi cG,vsl cH cI cJ,vi cK,vi cL,vi cM,vi cN,vi cO,vi cP,vsl cQ cR cS,vsl cT cU cV] 42 (0,0))/\M b0/\H0 b0=none)(h:let u0:=(tv x0 x1 x2 x3 x4 x5 x6 x7 x8 x9 c0 c1 c2 c3 c4 c5 c6 c7 c8 c9 cA cB cC cD cE cF cG cH cI cJ cK cL cM cN cO cP cQ cR cS cT cU cV);(Ck ((0:Int)<=0/\0<(cX:Int)) (Ck (cW.isSome=true) (∃cZ:ByteArray,aa H0 cW (0+(0 * 1)) [vs cZ]/\(Ck ((0:Int)<=1/\1<(cX:Int)) (∃d0:ByteArray,aa H0 cW (0+(1 * 1)) [vs d0]/\(Ck ((0:Int)<=2/\2<(cX:Int)) (∃d1:ByteArray,aa H0 cW (0+(2 * 1)) [vs d1]/\(Ck ((0:Int)<=3/\3<(cX:Int)) (∃d2:ByteArray,aa H0 cW (0+(3 * 1)) [vs d2]/\(cg W0 M H0 (λW=>Kn W0 M H0 W b0 (Obj.cells u0 42 (0,0))/\True) 45 #[vs cZ] (λz W1 W2=>∃d3:Int,z=.returned (vi d3)/\Ext W1 W2/\(cg W0 M H0 (λW=>Kn W0 M H0 W b0 (Obj.cells u0 42 (0,0))/\True) 45 #[vs d0] (λz W3 W4=>∃d4:Int,z=.returned (vi d4)/\Ext W3 W4/\(cg W0 M H0 (λW=>Kn W0 M H0 W b0 (Obj.cells u0 42 (0,0))/\True) 45 #[vs d1] (λz W5 W6=>∃d5:Int,z=.returned (vi d5)/\Ext W5 W6/\(cg W0 M H0 (λW=>Kn W0 M H0 W b0 (Obj.cells u0 42 (0,0))/\True) 45 #[vs d2] (λz W7 W8=>∃d6:Int,z=.returned (vi d6)/\Ext W7 W8/\(∀b1:Nat,(Es W0 M H0 nK λW9=>∃d7:Value,Eo' (.mkMap 116) [] W9 (.value (d7)) λW10=>Fr W9 W10 H0 λH1=>(Es W0 M H1 nK λW11=>Eo' (.ins 116) [d7,vO,vi 1] W11 (.skip) λW12=>Tn W0 M H1 W11 W12 λH2=>(Es W0 M H2 nK λW13=>Eo' (.ins 116) [d7,vQ,vi 2] W13 (.skip) λW14=>Tn W0 M H2 W13 W14 λH3=>(Es W0 M H3 nK λW15=>Eo' (.ins 116) [d7,vR,vi 4] W15 (.skip) λW16=>Tn W0 M H3 W15 W16 λH4=>(Ck ((0:Int)<=4/\4<(cX:Int)) (∃d8:ByteArray,aa H4 cW (0+(4 * 1)) [vs d8]/\(Es W0 M H4 nK λW17=>∃d9:Int,Eo' (.lookup 116 false) [d7,vs d8] W17 (.value (vi d9)) λW18=>Ext W17 W18/\(cg W0 M H4 (λW=>Kn W0 M H4 W b0 (Obj.cells u0 42 (0,0))/\True) 28 #[vb ((!decide (d9=0))),vi 1] (λz W19 W20=>z=.returned (vt #[])/\Ext W19 W20/\(Ck ((0:Int)<=5/\5<(cX:Int)) (∃dA:ByteArray,aa H4 cW (0+(5 * 1)) [vs dA]/\(cg W0 M H4 (λW=>Kn W0 M H4 W b0 (Obj.cells u0 42 (0,0))/\True) 45 #[vs dA] (λz W21 W22=>∃dB:Int,z=.returned (vi dB)/\Ext W21 W22/\(Ck ((0:Int)<=6/\6<(cX:Int)) (∃dC:ByteArray,aa H4 cW (0+(6 * 1)) [vs dC]/\(Cl' W0 M H4 nK 69 #[vs dC,vT] λz W23 W24=>∃(dD:ByteArray) (dE:Bool),z=.returned (vt #[vs dD,vb (dE)])/\Ext W23 W24/\(It (dE=true) (It (d9=2) (cg W0 M H4 (λW=>Kn W0 M H4 W b0 (Obj.cells u0 42 (0,0))/\True) 45 #[vs dD] (λz W25 W26=>∃dF:Int,z=.returned (vi dF)/\Ext W25 W26/\(Ck (ae .i64 (0-dF)) (cg W0 M H4 (λW=>Kn W0 M H4 W b0 (Obj.cells u0 42 (0,0))/\True) 28 #[vb (decide ((0-dF)<0)),vi 1] (λz W27 W28=>z=.returned (vt #[])/\Ext W27 W28/\(cg W0 M H4 (λW=>Kn W0 M H4 W b0 (Obj.cells u0 42 (0,0))/\True) 44 #[vp (some ⟨b0,0,none⟩),vg #[vi 2,vi d3,vi d4,vi d5,vi d6,vi d9,vi dB,vi 0,vi (0-dF)]] (λz W29 W30=>∃(dG:ByteArray) (dH dI dJ dK dL dM:Int) (dN:OL) (dO dP:Nat) (dQ:OL) (dR dS:Nat) (dT dU dV dW dX dY:Int) (dZ:OL) (e0 e1:Nat) (e2 e3 e4 e5 e6 e7:Int) (e8:OL) (e9 eA:Nat) (eB eC eD eE eF eH:Int) (eI:OL) (eJ eK:Nat) (eL:OL) (eM eN:Nat),let u3:=(tv dH dI dJ dK dL dM dN dO dP dQ dR dS dT dU dV dW dX dY dZ e0 e1 e2 e3 e4 e5 e6 e7 e8 e9 eA eB eC eD eE eF eH eI eJ eK eL eM eN);z=.returned (vs dG)/\Bt W0 M H4 [(b0,Obj.cells u3 42 (0,0))] W29 W30 λH5=>Rt R W0 M H5 (λW=>Kn W0 M H5 W b0 (Obj.cells u3 42 (0,0))/\True) (vs dG)) λps W=>Dr' R none [] (.panicking ps) W)) λps W=>Dr' R none [] (.panicking ps) W))) λps W=>Dr' R none [] (.panicking ps) W) (∃dF:ByteArray,aa H4 cW (0+(6 * 1)) [vs dF]/\(cg W0 M H4 (λW=>Kn W0 M H4 W b0 (Obj.cells u0 42 (0,0))/\True) 45 #[vs dF] (λz W25 W26=>∃dG:Int,z=.returned (vi dG)/\Ext W25 W26/\(cg W0 M H4 (λW=>Kn W0 M H4 W b0 (Obj.cells u0 42 (0,0))/\True) 44 #[vp (some ⟨b0,0,none⟩),vg #[vi 2,vi d3,vi d4,vi d5,vi d6,vi d9,vi dB,vi 0,vi dG]] (λz W27 W28=>∃(dH:ByteArray) (dI dJ dK dL dM dN:Int) (dO:OL) (dP dQ:Nat) (dR:OL) (dS dT:Nat) (dU dV dW dX dY dZ:Int) (e0:OL) (e1 e2:Nat) (e3 e4 e5 e6 e7 e8:Int) (e9:OL) (eA eB:Nat) (eC eD eE eF eH eI:Int) (eJ:OL) (eK eL:Nat) (eM:OL) (eN eO:Nat),let u2:=(tv dI dJ dK dL dM dN dO dP dQ dR dS dT dU dV dW dX dY dZ e0 e1 e2 e3 e4 e5 e6 e7 e8 e9 eA eB eC eD eE eF eH eI eJ eK eL eM eN eO);z=.returned (vs dH)/\Bt W0 M H4 [(b0,Obj.cells u2 42 (0,0))] W27 W28 λH5=>Rt R W0 M H5 (λW=>Kn W0 M H5 W b0 (Obj.cells u2 42 (0,0))/\True) (vs dH)) λps W=>Dr' R none [] (.panicking ps) W)) λps W=>Dr' R none [] (.panicking ps) W))) (∃dF:ByteArray,aa H4 cW (0+(6 * 1)) [vs dF]/\(cg W0 M H4 (λW=>Kn W0 M H4 W b0 (Obj.cells u0 42 (0,0))/\True) 45 #[vs dF] (λz W25 W26=>∃dG:Int,z=.returned (vi dG)/\Ext W25 W26/\(cg W0 M H4 (λW=>Kn W0 M H4 W b0 (Obj.cells u0 42 (0,0))/\True) 44 #[vp (some ⟨b0,0,none⟩),vg #[vi 2,vi d3,vi d4,vi d5,vi d6,vi d9,vi dB,vi 0,vi dG]] (λz W27 W28=>∃(dH:ByteArray) (dI dJ dK dL dM dN:Int) (dO:OL) (dP dQ:Nat) (dR:OL) (dS dT:Nat) (dU dV dW dX dY dZ:Int) (e0:OL) (e1 e2:Nat) (e3 e4 e5 e6 e7 e8:Int) (e9:OL) (eA eB:Nat) (eC eD eE eF eH eI:Int) (eJ:OL) (eK eL:Nat) (eM:OL) (eN eO:Nat),let u1:=(tv dI dJ dK dL dM dN dO dP dQ dR dS dT dU dV dW dX dY dZ e0 e1 e2 e3 e4 e5 e6 e7 e8 e9 eA eB eC eD eE eF eH eI eJ eK eL eM eN eO);z=.returned (vs dH)/\Bt W0 M H4 [(b0,Obj.cells u1 42 (0,0))] W27 W28 λH5=>Rt R W0 M H5 (λW=>Kn W0 M H5 W b0 (Obj.cells u1 42 (0,0))/\True) (vs dH)) λps W=>Dr' R none [] (.panicking ps) W)) λps W=>Dr' R none [] (.panicking ps) W))))))) λps W=>Dr' R none [] (.panicking ps) W)))) λps W=>Dr' R none [] (.panicking ps) W)))))))))) λps W=>Dr' R none [] (.panicking ps) W)) λps W=>Dr' R none [] (.panicking ps) W)) λps W=>Dr' R none [] (.panicking ps) W)) λps W=>Dr' R none [] (.panicking ps) W))))))))))) :
 Calls Tryz.prog 46 #[vp (some ⟨b0,0,none⟩),vsl cW cX cY] W0 R :=
 aO (M:=M) (hi:={pn:=true,shows := [0],pans := [28,45,44],mods := [(44,[0])],turns := [44]}) (o0:=⟨tA,42⟩) (args := [.ptrK 0 0,vS 42]) (nv:=45) (e:=lk (te x0 x1 x2 x3 x4 x5 x6 x7 x8 x9 c0 c1 c2 c3 c4 c5 c6 c7 c8 c9 cA cB cC cD cE cF cG cH cI cJ cK cL cM cN cO cP cQ cR cS cT cU cV [.p cW,.n cX,.n cY])) Tryz.func46 hH h0 h rfl
theorem Ci(x0 x1 x2 x3 x4 x5:Int)(x6:OL)(x7 x8:Nat)(x9:OL)(c0 c1:Nat)(c2 c3 c4 c5 c6 c7:Int)(c8:OL)(c9 cA:Nat)(cB cC cD cE cF cG:Int)(cH:OL)(cI cJ:Nat)(cK cL cM cN cO cP:Int)(cQ:OL)(cR cS:Nat)(cT:OL)(cU cV:Nat)(cW:OL)(cX cY:Nat)(cZ d0:OL)(b0:Nat)(M:Nat->Prop)(H0:Hp)(W0:World)(R:Ending->World->Prop)(hH:H0.le (ak W0))(h0:W0.heap[b0]?=some (Obj.cells #[vi x0,vi x1,vi x2,vi x3,vi x4,vi x5,vsl x6 x7 x8,vsl x9 c0 c1,vi c2,vi c3,vi c4,vi c5,vi c6,vi c7,vsl c8 c9 cA,vi cB,vi cC,vi cD,vi cE,vi cF,vi cG,vsl cH cI cJ,vi cK,vi cL,vi cM,vi cN,vi cO,vi cP,vsl cQ cR cS,vsl cT cU cV] 42 (0,0))/\M b0/\H0 b0=none)(h:let u0:=(tv x0 x1 x2 x3 x4 x5 x6 x7 x8 x9 c0 c1 c2 c3 c4 c5 c6 c7 c8 c9 cA cB cC cD cE cF cG cH cI cJ cK cL cM cN cO cP cQ cR cS cT cU cV);(∃d1:OL,aa H0 cZ 0 [vp (ab d1 0)]/\(∃d2:Int,aa H0 d0 0 [vi d2]/\(Ck ((0:Int)<=0/\0<(cX:Int)) (Ck (cW.isSome=true) (∃d3:ByteArray,aa H0 cW (0+(0 * 1)) [vs d3]/\(Ck ((0:Int)<=1/\1<(cX:Int)) (∃d4:ByteArray,aa H0 cW (0+(1 * 1)) [vs d4]/\(cg W0 M H0 (λW=>Kn W0 M H0 W b0 (Obj.cells u0 42 (0,0))/\True) 45 #[vs d3] (λz W1 W2=>∃d5:Int,z=.returned (vi d5)/\Ext W1 W2/\(cg W0 M H0 (λW=>Kn W0 M H0 W b0 (Obj.cells u0 42 (0,0))/\True) 45 #[vs d4] (λz W3 W4=>∃d6:Int,z=.returned (vi d6)/\Ext W3 W4/\(cg W0 M H0 (λW=>Kn W0 M H0 W b0 (Obj.cells u0 42 (0,0))/\True) 44 #[vp (ab d1 0),vg #[vi d2,vi d5,vi d6,vi 0,vi 0,vi 0,vi 0,vi 0,vi 0]] (λz W5 W6=>∃(d7:ByteArray) (d8 d9 dA dB dC dD:Int) (dE:OL) (dF dG:Nat) (dH:OL) (dI dJ:Nat) (dK dL dM dN dO dP:Int) (dQ:OL) (dR dS:Nat) (dT dU dV dW dX dY:Int) (dZ:OL) (e0 e1:Nat) (e2 e3 e4 e5 e6 e7:Int) (e8:OL) (e9 eA:Nat) (eB:OL) (eC eD:Nat),let u1:=(tv d8 d9 dA dB dC dD dE dF dG dH dI dJ dK dL dM dN dO dP dQ dR dS dT dU dV dW dX dY dZ e0 e1 e2 e3 e4 e5 e6 e7 e8 e9 eA eB eC eD);z=.returned (vs d7)/\Bt W0 M H0 [(b0,Obj.cells u1 42 (0,0))] W5 W6 λH1=>Rt R W0 M H1 (λW=>Kn W0 M H1 W b0 (Obj.cells u1 42 (0,0))/\True) (vs d7)) λps W=>Dr' R none [] (.panicking ps) W)) λps W=>Dr' R none [] (.panicking ps) W)) λps W=>Dr' R none [] (.panicking ps) W))))))))) :
 Calls Tryz.prog 43 #[vsl cW cX cY,vp (ab cZ 0),vp (ab d0 0)] W0 R :=
 aO (M:=M) (hi:={pn:=true,shows := [0],pans := [28,45,44],mods := [(44,[100])],turns := [44]}) (o0:=⟨tA,42⟩) (args := [vS 42,.ptrO 45 (.k 0),.ptrO 46 (.k 0)]) (nv:=47) (e:=lk (te x0 x1 x2 x3 x4 x5 x6 x7 x8 x9 c0 c1 c2 c3 c4 c5 c6 c7 c8 c9 cA cB cC cD cE cF cG cH cI cJ cK cL cM cN cO cP cQ cR cS cT cU cV [.p cW,.n cX,.n cY,.p cZ,.p d0])) Tryz.func43 hH h0 h rfl
set_option maxRecDepth 100000
abbrev tC(g:Grp)(γ:GP)(q:OL)(m d:Nat):Array Value:=#[vi g.base.pos,vi g.base.clock,vi g.base.vals.a,vi g.base.vals.b,vi g.base.vals.c,vi g.base.vals.d,vsl γ.p γ.n γ.c,vsl γ.q γ.m γ.d,vi g.n0.pos,vi g.n0.clock,vi g.n0.vals.a,vi g.n0.vals.b,vi g.n0.vals.c,vi g.n0.vals.d,vsl γ.p0 γ.n0 γ.c0,vi g.n1.pos,vi g.n1.clock,vi g.n1.vals.a,vi g.n1.vals.b,vi g.n1.vals.c,vi g.n1.vals.d,vsl γ.p1 γ.n1 γ.c1,vi g.n2.pos,vi g.n2.clock,vi g.n2.vals.a,vi g.n2.vals.b,vi g.n2.vals.c,vi g.n2.vals.d,vsl γ.p2 γ.n2 γ.c2,vsl q m d]
abbrev tp(b0:Nat):Value:=.pointer (some ⟨b0,0,none⟩)
abbrev we(x:Int):Prop:=-9223372036854775808<=x/\x<=9223372036854775807
theorem nP{W0:World}{M:Nat->Prop}{H:Hp}{b:Nat}{x:Int}(hx:we x)(hL:Lay H){Φ:Ending->World->World->Prop}(hk:∀W W',Ext W W'->Φ (.returned (.string (bs (iz [x])))) W W'):Cl Tryz.prog W0 M H (λW=>Kn W0 M H W b (Obj.cells #[vi x] 3 (0,0))/\True) 67 #[Value.slice (some ⟨b,0,none⟩) 1 1] Φ :=
 Cl.sameK (λW n k=>⟨bh H b (.cells #[vi x] 3 (0,0)),gF n.sub k.1.eq,by
  have hr:Rows (bh H b (.cells #[vi x] 3 (0,0))) (some ((b:Blk),0)) 1 1 ([x].map au):=Rows.block (cm ..) rfl (λr hr=>by simp only[List.map_cons,List.map_nil,List.mem_singleton] at hr;subst hr;rfl) rfl;have:=rk (some ((b:Blk),0)) 1 1 [x] (bh H b (.cells #[vi x] 3 (0,0))) (hL.mono (gM k.1.off)) hr (λy hy=>by simp only[List.mem_singleton] at hy;subst hy;exact hx) (by simp)
  simpa [vsl,ab] using this⟩) hk
section
variable{H:Hp}{g:Grp}{γ:GP}{q:OL}{m d:Nat}{l:List Ent}
theorem Ea(hg:aK H g γ)(hE:av H q m d l)(hm:l.length<=1000){e:Ent}(he:e.in64)(hL:Lay H)(h63:we (gQ g e).2.1)(b0:Nat):Gtp Tryz.prog 44 #[tp b0,e.val] H b0 42 (tC g γ q m d)
  (λv C' D=>(gQ g e).2.2=0/\v=.string (bs (iz [(gQ g e).2.1]))/\∃γ' q' m' d',C'=tC (gQ g e).1 γ' q' m' d'/\aK D (gQ g e).1 γ'/\av D q' m' d' (l ++ [e]))
  (λu=>(gQ g e).2.2≠0/\u=li (gQ g e).2.2):=λW hH hW hn=>by
 have hml:=hE.len;refine Ej _ _ _ _ _ _ γ.p γ.n γ.c γ.q γ.m γ.d _ _ _ _ _ _ γ.p0 γ.n0 γ.c0 _ _ _ _ _ _ γ.p1 γ.n1 γ.c1 _ _ _ _ _ _ γ.p2 γ.n2 γ.c2 q m d _ _ _ _ _ _ _ _ _ b0 (λb=>b=b0) H W _ hH ⟨hW,rfl,hn⟩ λb1=>?_;refine Cl.fresh (wh hg he) ?_;rintro v W1 W2 D ⟨γ',rfl,hg1⟩ hx hD hf nn;refine⟨_,_,_,_,_,_,γ'.p,γ'.n,γ'.c,γ'.q,γ'.m,γ'.d,_,_,_,_,_,_,γ'.p0,γ'.n0,γ'.c0,_,_,_,_,_,_,γ'.p1,γ'.n1,γ'.c1,_,_,_,_,_,_,γ'.p2,γ'.n2,γ'.c2,_,_,rfl,hx,D,hD,hf,λH1 h1 hd1 b2=>?_⟩;refine Clp.gpk (dx _ _ H1) ?_ ?_
 rotate_left
 ·rintro u W3 W4 ⟨h,hu⟩ hx n3 k3;exact gP.out ⟨by simpa using h,hu⟩ hx n3 hW k3.1.eq
 rintro v W3 W4 D' ⟨h,hz⟩ hx hD' hf' n3;refine⟨by rw[hz],hx,?_⟩;refine Cl.fresh (mK (hE.mono h1) (by omega)) ?_;rintro v W5 W6 D4 ⟨p4,c4,g4,rfl,hO4⟩ hx hD4 hf4 nn4;refine⟨p4,m,c4,rfl,hx,D4,hD4,hf4,λH4 h4 hd4 b4=>?_⟩;intro W9 n9 k9;have hO5:=hO4.mono λb _ o h=>hd4 b o h
 have hg4:∀b,g4=some b->W5.heap.size<=b:=λb hb=>by
  obtain⟨o,ho⟩:=hO4.held b hb;exact hf4 b o ho
 obtain⟨r1,y1,g1,W10,H5,run1,hu1,oa,hg1',_⟩:=aD (P:=Tryz.prog) Tryz.underlying34 iD (by omega) n9.sub hO5 (row:=e.row) k9.1.eq k9.1.off rfl (pQ e) (by simp only[maxLen];omega) (by omega) 34;have sz:=nn4.mod.size
 refine⟨r1,m+1,y1,W10,run1,H5,hu1.own hO5 (λb hb=>.inl (by have:=hg4 b hb;omega)),λb5=>?_⟩;have hk5:H.le H5:=hu1.keep n9.sub (Hp.le_trans h1 h4) (λb hb=>ao (Hp.le_trans h1 nn4.sub) (hg4 b hb))
 refine nP h63 (hL.mono hk5) λ_ _ hx=>⟨_,rfl,hx,?_⟩
 refine Rt.gt2 (C':=tC (gQ g e).1 γ' r1 (m+1) y1) (λW k=>k.1.eq) ⟨by simpa using h,rfl,γ',r1,m+1,y1,rfl,?_,?_⟩
 ·refine hg1.mono (ai (hu1.keep n9.sub (Hp.le_trans hd1 h4) (λb hb=>?_)) (λb o h=>Nat.le_trans nn.mod.size (hf b o h)));exact ao (Hp.le_trans hd1 nn4.sub) (hg4 b hb)
 ·rw[show l.map Ent.row ++ [e.row]=(l ++ [e]).map Ent.row by simp] at oa;refine av.of_ow (oa.new λb hb=>?_) (λx hx=>?_)
  ·rcases hg1' with h | h
   ·have:=hg4 b (h▸hb);omega
   ·rw[h] at hb;simp only[Option.some.injEq] at hb;have:=n9.mod.size;omega
  ·rcases List.mem_append.1 hx with hx | hx
   ·exact hE.2.2.2 x hx
   ·simp only[List.mem_singleton] at hx;subst hx;exact he
end
structure Dsk where
 g:Grp
 l:List Ent
abbrev DR:=Dsk × List UInt8 × Int
def bS(d:Dsk)(x:Int):DR:=(d,[],x)
def gO(d:Dsk)(e:Ent):DR:=if (gQ d.g e).2.2=0 then (⟨(gQ d.g e).1,d.l ++ [e]⟩,Lib.itoa (gQ d.g e).2.1,0) else bS d (gQ d.g e).2.2
def mN(d:Dsk)(a b:Int):DR:=if (iC d.g a b).2.2=0 then (⟨(iC d.g a b).1,d.l⟩,Lib.itoa (iC d.g a b).2.1,0) else bS d (iC d.g a b).2.2
def nk(d:Dsk)(a:Int):DR:=if (kG d.g a).2=0 then (⟨(kG d.g a).1,d.l⟩,[111,107],0) else bS d (kG d.g a).2
def cr(t:List Ses):Nat:=(t.map λs=>s.kept.length).sum
def V4.list(v:V4):List Int := [v.a,v.b,v.c,v.d]
def kP(d:Dsk)(a:Int):DR:=if a<3 then (d,iz (d.g.node a.toNat).vals.list,0) else bS d 3
def kR(d:Dsk)(a:Int):DR:=if a<3 then (d,iz [(d.g.node a.toNat).pos,(cr (d.g.node a.toNat).table:Nat)],0) else bS d 3
def ln(d:Dsk)(a b:Int):DR:=if (il d.l a b).2=0 then (d,Lib.itoa (il d.l a b).1,0) else bS d (il d.l a b).2
def bb(w:List UInt8):Int:=if w = [115,101,116] then 1 else if w = [97,100,100] then 2 else if w = [103,101,116] then 4 else 0
def qy(k:Int)(w:List UInt8):Option Int :=
 if k=2/\w.head?=some 45 then (if ad w.tail<=0 then none else some (-(ad w.tail))) else if ad w<0 then none else some (ad w)
def bQ(d:Dsk)(t c q a k y n:List UInt8):DR :=
 if ad t<0\/ad c<0\/ad q<0\/ad a<0\/bb k=0\/ad y<0 then bS d 1
 else match qy (bb k) n with
  | none=>bS d 1
  | some z=>gO d ⟨2,ad t,ad c,ad q,ad a,⟨bb k,ad y,0,z⟩⟩
def Dsk.ok(d:Dsk):Prop:=aQ d.g/\∀e∈d.l,e.in64
theorem gc(w:List UInt8):-1<=ad w/\ad w<=999999:=by
 unfold ad
 split
 ·rename_i h;obtain⟨h1,h2⟩:=kX w.length w rfl h.2.1;have hp:(10 ^ w.length:Nat)<=10 ^ 6:=Nat.pow_le_pow_right (by omega) h.1.2
  have hp6:(10 ^ 6:Nat)=1000000:=by decide
  omega
 ·omega
theorem nQ(x:Int):iz [x]=Lib.itoa x:=by simp[iz,Lib.join_one]
theorem oK{v:V4}(h:v.ok=true)(k:Int):0<=v.get k/\v.get k<=999:=by
 obtain⟨h1,h2,h3,h4⟩:=(V4.ok_iff _).1 h;unfold V4.get
 split
 ·exact h1
 ·split
  ·exact h2
  ·split
   ·exact h3
   ·exact h4
theorem Aa{x:POp}{v:V4}(h:v.ok=true):-1<=(x.turn v).2/\(x.turn v).2<=999:=by
 unfold POp.turn;have hg:=oK h x.key
 split
 ·split
  ·rename_i h1;have:=oK h1 x.key;simp only;omega
  ·simp
 ·split
  ·split
   ·rename_i h1;have:=oK h1 x.key;simp only;omega
   ·simp
  ·split
   ·split
    ·split
     ·rename_i h1;have:=oK h1 x.key;simp only;omega
     ·simp
    ·simp
   ·simp only;omega
theorem xR{l:List Rep}{c:Int}(h:∀r∈l,-1<=r.val/\r.val<=999):-1<=(jw l c).val/\(jw l c).val<=999:=by
 unfold jw
 cases hf:l.find? λs=>decide (s.seq=c) with
 | none=>simp[Rep.zero]
 | some r=>exact h r (List.mem_of_find?_eq_some hf)
theorem xN{s:Sta}{e:Ent}(hs:dy s):-5<=(s.apply e).2.1/\(s.apply e).2.1<=999:=by
 unfold Sta.apply Sta.does;have hv:(s.tick e.time).vals.ok=true:=hs.vals
 have ht:fy (s.tick e.time).table:=hs.table.fresh _;generalize s.tick e.time=t at hv ht
 split
 ·split
  ·simp
  ·split<;>simp
 ·split
  ·rename_i hh
   split
   ·simp
   ·unfold Sta.calls
    split
    ·simp
    ·split
     ·have hm:=(ng ht.ord hh).1;have hk:=(dh.1 (aP.1 (ht.one _ hm)).2.2.2).1
      have:=xR (l:=((bI t.table e.client).ack t.clock e.ack).kept) (c:=e.seq) λr hr=>by
       have:=hk r (List.mem_filter.1 hr).1;omega
      simp only;omega
     ·split
      ·simp
      ·have:=Aa (x:=e.op) hv;simp only;omega
  ·simp
theorem pH{g:Grp}(h:aQ g)(e:Ent):-5<=(gQ g e).2.1/\(gQ g e).2.1<=999:=by
 have h0:=cn.2 h
 by_cases h1:(gS g.base g.tail e).2.2.2=0
 ·rw[mJ h0 h1];have l0:=bG.2 h.log
  simp only
  by_cases g1:e.err=0
  ·by_cases g2:g.base.pos+(g.tail.length:Int)=50
   ·rw[iU l0 g1 g2];simp
   ·rw[lC l0 g1 g2];exact xN (kS h.log.base h.log.ents h.log.len).1
  ·rw[jH l0 g1];simp
 ·rw[lc h0 h1];simp
theorem oc(g:Grp)(a b:Int):0<=(iC g a b).2.1/\(iC g a b).2.1<=(g.tail.length:Int):=by
 unfold iC
 split
 ·simp
 ·split
  ·simp
  ·split
   ·simp
   ·unfold gD
    split
    ·simp
    ·split
     ·simp
     ·split
      ·simp
      ·simp only[fe,List.length_take,List.length_drop]
       omega
theorem mc(l:List Ent)(a b:Int):0<=(il l a b).1/\(il l a b).1<=(l.length:Int):=by
 unfold il
 split
 ·simp
 ·split
  ·simp
  ·have h1:=nI l a b (bV 0 (cp l));have h2:=lJ (cp l) 0
   have h3:=jV l;simp only
   omega
theorem fk{t:List Ses}(h:fy t):cr t<=180:=by
 have hk:∀s∈t,s.kept.length<=60:=λs hs=>by
  obtain⟨h1,h2⟩:=dh.1 (aP.1 (h.one s hs)).2.2.2;have h0:=(aP.1 (h.one s hs)).2.1
  have:=jT (h.one s hs);omega
 have h3:=h.len
 match t,h3 with
 | [],_=>simp[cr]
 | [a],_=>have:=hk a (by simp);simp[cr];omega
 | [a,b],_=>have:=hk a (by simp);have:=hk b (by simp);simp[cr];omega
 | [a,b,c],_=>have:=hk a (by simp);have:=hk b (by simp);have:=hk c (by simp);simp[cr];omega
theorem Cu{d:Dsk}(h:d.ok){e:Ent}(he:e.in64):(gO d e).1.ok:=by
 unfold gO
 split
 ·rename_i h0;refine⟨DB h.1 h0,λx hx=>?_⟩
  rcases List.mem_append.1 hx with hx | hx
  ·exact h.2 x hx
  ·simp only[List.mem_singleton] at hx;subst hx;exact he
 ·exact h
theorem CM{d:Dsk}(h:d.ok)(a b:Int):(mN d a b).1.ok:=by
 unfold mN
 split
 ·rename_i h0;refine⟨?_,h.2⟩;simp only
  by_cases hk:a<0\/2<a
  ·rw[lr (cn.2 h.1) hk] at h0;cases h0
  ·by_cases hb:b<0\/50<b
   ·have h1:(gD d.g.base d.g.tail (d.g.node a.toNat) b).2.2≠0:=by
     rw[ji (m6.2 ⟨h.1.log,(h.1.node _).1⟩) hb];simp
    rw[ie (cn.2 h.1) hk h1] at h0;exact absurd h0 h1
   ·exact (qY h.1 hk hb).2
 ·exact h
theorem B8{d:Dsk}(h:d.ok)(a:Int):(nk d a).1.ok:=by
 unfold nk
 split
 ·rename_i h0;refine⟨?_,h.2⟩;simp only
  by_cases ha:a<0\/(d.g.tail.length:Int)<a
  ·have h1:(jP d.g.base d.g.tail a).2.2≠0:=by rw[jI (bG.2 h.1.log) ha];simp
   rw[mC (cn.2 h.1) h1] at h0;exact absurd h0 h1
  ·obtain⟨k,rfl⟩:∃k:Nat,a=k:=⟨a.toNat,by omega⟩
   exact (qW h.1 (by omega)).2
 ·exact h
set_option maxRecDepth 100000
section
variable{P:Program}{W W':World}{f:Nat}{args:Array Value}{H:Hp}{b0 T:Nat}{C:Array Value}{post post':Value->Array Value->Hp->Prop}{pan pan':Value->Prop}{D:Hp}
theorem Gtp.mono(h:Gtp P f args H b0 T C post pan)(hp:∀v C' D,post v C' D->post' v C' D)(hn:∀u,pan u->pan' u):Gtp P f args H b0 T C post' pan':=λW hH hW hb=>(h W hH hW hb).mono λz W' hz=>by
 rcases hz with⟨v,C',D,h1,h2,h3,h4,h5,h6⟩ | ⟨u,h1,h2⟩
 ·exact .inl ⟨v,C',D,h1,h2,h3,h4,h5,hp v C' D h6⟩
 ·exact .inr ⟨u,hn u h1,h2⟩
theorem Beh.ext(h:Beh b0 T C D W W')(h0:W.heap[b0]?=some (.cells C T (0,0))):Ext W W' :=
 ⟨h.mod.os,h.mod.tape,h.mod.output,h.mod.size,λb hb=>by
  by_cases he:b=b0
  ·rw[he,h.at0,h0]
  ·exact h.mod.blk b hb he⟩
end
def wT(H:Hp)(r:DR)(v:Value)(C':Array Value)(D:Hp):Prop:=r.2.2=0/\v=.string (bs r.2.1)/\∃γ q m d,C'=tC r.1.g γ q m d/\∀K:Hp,H.le K->D.le K->aK K r.1.g γ/\av K q m d r.1.l
def jk(r:DR)(u:Value):Prop:=r.2.2≠0/\u=li r.2.2
theorem jk.err{d:Dsk}{x:Int}(hx:x≠0):jk (bS d x) (li x):=⟨hx,rfl⟩
abbrev DC(HB:Hp)(f:Nat)(args:Array Value)(H:Hp)(b0:Nat)(d:Dsk)(γ:GP)(q:OL)(m c:Nat)(r:DR):Prop:=Gtp Tryz.prog f args H b0 42 (tC d.g γ q m c) (wT HB r) (jk r)
theorem Strs.at{H:Hp}{p:OL}{n c:Nat}{ws:List (List UInt8)}(h:Strs H p n c ws){i:Nat}{w:List UInt8}(hw:ws[i]?=some w){off:Int}(ho:off=i):aa H p off [.string (bs w)]:=by
 have:=h.2.2.row i (p9 w) (by rw[List.getElem?_map,hw];rfl);rw[ho];simpa [p9] using this
theorem Strs.len{H:Hp}{p:OL}{n c:Nat}{ws:List (List UInt8)}(h:Strs H p n c ws):n=ws.length:=by simpa using h.2.2.len
theorem Strs.mono{H K:Hp}{p:OL}{n c:Nat}{ws:List (List UInt8)}(h:Strs H p n c ws)(hk:H.le K):Strs K p n c ws:=⟨h.1,h.2.1,h.2.2.mono hk⟩
section
variable{H:Hp}{g:Grp}{γ:GP}{q:OL}{m d:Nat}{l:List Ent}
theorem rT(hg:aK H g γ)(hE:av H q m d l)(hm:l.length<=1000)(ok:aQ g){e:Ent}(he:e.in64)(hL:Lay H)(b0:Nat):Gtp Tryz.prog 44 #[tp b0,e.val] H b0 42 (tC g γ q m d) (wT noH (gO ⟨g,l⟩ e)) (jk (gO ⟨g,l⟩ e)):=by
 have hr:=pH ok e;refine (Ea hg hE hm he hL ⟨by omega,by omega⟩ b0).mono ?_ ?_
 ·rintro v C' D ⟨h0,rfl,γ',q',m',d',rfl,h1,h2⟩;unfold gO;rw[if_pos h0,nQ];exact⟨rfl,rfl,γ',q',m',d',rfl,λK _ hk=>⟨h1.mono hk,h2.mono hk⟩⟩
 ·rintro u ⟨h0,rfl⟩;unfold gO;rw[if_neg h0];exact jk.err h0
theorem s5(hg:aK H g γ)(hL:Lay H){w:List UInt8}(hw:w.length<=4096)(b0:Nat):Gtp Tryz.prog 72 #[tp b0,.string (bs w)] H b0 42 (tC g γ q m d)
  (λv C' _=>(0<=ad w/\ad w<3)/\C'=tC g γ q m d/\∃p n c,v=(g.node (ad w).toNat).val (vsl p n c)/\Tab H p n c (g.node (ad w).toNat).table)
  (λu=>(ad w = -1/\u=li 1)\/(3<=ad w/\u=li 3)):=λW hH hW hn=>by
 refine Al _ _ _ _ _ _ γ.p γ.n γ.c γ.q γ.m γ.d _ _ _ _ _ _ γ.p0 γ.n0 γ.c0 _ _ _ _ _ _ γ.p1 γ.n1 γ.c1 _ _ _ _ _ _ γ.p2 γ.n2 γ.c2 q m d _ b0 (λb=>b=b0) H W _ hH ⟨hW,rfl,hn⟩ λb1=>?_;refine Clp.gpk (fV w hw H hL) ?_ λu W1 W2 ⟨h,hu⟩ hx n1 k1=>gP.out (.inl ⟨h,hu⟩) hx n1 hW k1.1.eq;rintro v W1 W2 D ⟨h0,rfl⟩ hx hD hf n1;refine⟨ad w,rfl,hx,?_⟩;refine Clp.gpk (dx _ 3 H) ?_ λu W3 W4 ⟨h,hu⟩ hx n3 k3=>gP.out (.inr ⟨by simpa using h,hu⟩) hx n3 hW k3.1.eq;rintro v W3 W4 D' ⟨h3,hz⟩ hx hD' hf' n3;have h3:=of_decide_eq_true h3
 refine⟨by rw[hz],hx,⟨⟨h0,h3⟩,λ_=>⟨λh=>?_,λh=>?_,λh=>?_,trivial⟩⟩⟩
 ·rw[h] at h0 h3 |-;exact Rt.gt2 (C':=tC g γ q m d) (λW k=>k.1.eq) ⟨⟨h0,h3⟩,rfl,_,_,_,rfl,hg.n0⟩
 ·rw[h] at h0 h3 |-;exact Rt.gt2 (C':=tC g γ q m d) (λW k=>k.1.eq) ⟨⟨h0,h3⟩,rfl,_,_,_,rfl,hg.n1⟩
 ·rw[h] at h0 h3 |-;exact Rt.gt2 (C':=tC g γ q m d) (λW k=>k.1.eq) ⟨⟨h0,h3⟩,rfl,_,_,_,rfl,hg.n2⟩
def two(d:Dsk)(a b:List UInt8)(f:Int->Int->DR):DR:=if ad a<0\/ad b<0 then bS d 1 else f (ad a) (ad b)
def one(d:Dsk)(a:List UInt8)(f:Int->DR):DR:=if ad a<0 then bS d 1 else f (ad a)
theorem As{d:Dsk}{a b:List UInt8}{f:Int->Int->DR}(h:ad a = -1):two d a b f=bS d 1:=if_pos (.inl (by omega))
theorem Am{d:Dsk}{a b:List UInt8}{f:Int->Int->DR}(h:ad b = -1):two d a b f=bS d 1:=if_pos (.inr (by omega))
theorem mv{d:Dsk}{a b:List UInt8}{f:Int->Int->DR}(h:0<=ad a)(h1:0<=ad b):two d a b f=f (ad a) (ad b):=if_neg (by omega)
theorem za{d:Dsk}{a:List UInt8}{f:Int->DR}(h:ad a = -1):one d a f=bS d 1:=if_pos (by omega)
theorem lg{d:Dsk}{a:List UInt8}{f:Int->DR}(h:0<=ad a):one d a f=f (ad a):=if_neg (by omega)
theorem ET{HB:Hp}(hle:HB.le H)(hgB:aK HB g γ)(hEB:av HB q m d l)(hL:Lay H)(ok:aQ g){p:OL}{n c:Nat}{a b:List UInt8}(hs:Strs H p n c [a,b])(ha:a.length<=4096)(hb:b.length<=4096)(b0:Nat) :
  DC HB 47 #[tp b0,vsl p n c] H b0 ⟨g,l⟩ γ q m d (two ⟨g,l⟩ a b (mN ⟨g,l⟩)):=λW hH hW hn=>by
 have hg:=hgB.mono hle;have hE:=hEB.mono hle
 have hn2:=hs.len;simp only[List.length_cons,List.length_nil] at hn2;refine EU _ _ _ _ _ _ γ.p γ.n γ.c γ.q γ.m γ.d _ _ _ _ _ _ γ.p0 γ.n0 γ.c0 _ _ _ _ _ _ γ.p1 γ.n1 γ.c1 _ _ _ _ _ _ γ.p2 γ.n2 γ.c2 q m d p n c b0 (λb=>b=b0) H W _ hH ⟨hW,rfl,hn⟩
  ⟨by omega,λ_=>⟨(hs.at (i:=0) rfl (off:=0) (by simp)).isSome,λ_=>⟨_,hs.at (i:=0) rfl (by simp),by omega,λ_=>⟨_,hs.at (i:=1) rfl (by simp),?_⟩⟩⟩⟩
 refine Clp.gpk (fV a ha H hL) ?_ λu W1 W2 ⟨h,hu⟩ hx n1 k1=>gP.out (by rw[As h,hu];exact jk.err (by decide)) hx n1 hW k1.1.eq;rintro v W1 W2 D ⟨h0,rfl⟩ hx hD hf n1;refine⟨_,rfl,hx,?_⟩;refine Clp.gpk (fV b hb H hL) ?_ λu W1 W2 ⟨h,hu⟩ hx n1 k1=>gP.out (by rw[Am h,hu];exact jk.err (by decide)) hx n1 hW k1.1.eq;rintro v W3 W4 D ⟨h1,rfl⟩ hx hD hf n3;rw[mv h0 h1];refine⟨_,rfl,hx,?_⟩;refine Cl.fresh (wk hg (ad a) (ad b)) ?_;rintro v W5 W6 D ⟨γ',rfl,hg1⟩ hx hD hf nn;refine⟨_,_,_,_,_,_,γ'.p,γ'.n,γ'.c,γ'.q,γ'.m,γ'.d,_,_,_,_,_,_,γ'.p0,γ'.n0,γ'.c0,_,_,_,_,_,_,γ'.p1,γ'.n1,γ'.c1,_,_,_,_,_,_,γ'.p2,γ'.n2,γ'.c2,_,_,rfl,hx,D,hD,hf,λH1 le1 hd1 b1=>?_⟩;unfold mN;refine Clp.gpk (dx _ _ H1) ?_ λu W7 W8 ⟨h,hu⟩ hx n7 k7=>gP.out (by have h:=of_decide_eq_false h;rw[if_neg h,hu];exact jk.err h) hx n7 hW k7.1.eq;rintro v W7 W8 D' ⟨h,hz⟩ hx hD' hf' n7;have h:=of_decide_eq_true h
 refine⟨by rw[hz],hx,λb2=>?_⟩;have hr:=oc g (ad a) (ad b)
 have hlow:=ok.log.low;refine nP ⟨by omega,by omega⟩ (hL.mono le1) λ_ _ hx=>⟨_,rfl,hx,?_⟩
 rw[if_pos h,nQ];refine Rt.gt2 (C':=tC (iC g (ad a) (ad b)).1 γ' q m d) (λW k=>k.1.eq) ⟨rfl,rfl,γ',q,m,d,rfl,λK hk hd=>⟨hg1.mono (Hp.le_trans (ai hd1 λb o h=>Nat.le_trans nn.mod.size (hf b o h)) hd),hEB.mono hk⟩⟩
theorem Eu{HB:Hp}(hle:HB.le H)(hgB:aK HB g γ)(hEB:av HB q m d l)(hL:Lay H){p:OL}{n c:Nat}{a:List UInt8}(hs:Strs H p n c [a])(ha:a.length<=4096)(b0:Nat) :
  DC HB 48 #[tp b0,vsl p n c] H b0 ⟨g,l⟩ γ q m d (one ⟨g,l⟩ a (nk ⟨g,l⟩)):=λW hH hW hn=>by
 have hg:=hgB.mono hle;have hE:=hEB.mono hle
 have hn2:=hs.len;simp only[List.length_cons,List.length_nil] at hn2;refine E1 _ _ _ _ _ _ γ.p γ.n γ.c γ.q γ.m γ.d _ _ _ _ _ _ γ.p0 γ.n0 γ.c0 _ _ _ _ _ _ γ.p1 γ.n1 γ.c1 _ _ _ _ _ _ γ.p2 γ.n2 γ.c2 q m d p n c b0 (λb=>b=b0) H W _ hH ⟨hW,rfl,hn⟩
  ⟨by omega,λ_=>⟨(hs.at (i:=0) rfl (off:=0) (by simp)).isSome,λ_=>⟨_,hs.at (i:=0) rfl (by simp),?_⟩⟩⟩
 refine Clp.gpk (fV a ha H hL) ?_ λu W1 W2 ⟨h,hu⟩ hx n1 k1=>gP.out (by rw[za h,hu];exact jk.err (by decide)) hx n1 hW k1.1.eq;rintro v W1 W2 D ⟨h0,rfl⟩ hx hD hf n1;rw[lg h0];refine⟨_,rfl,hx,?_⟩;refine Cl.fresh (ve hg (ad a)) ?_;rintro v W5 W6 D ⟨γ',rfl,hg1⟩ hx hD hf nn;refine⟨_,_,_,_,_,_,γ'.p,γ'.n,γ'.c,γ'.q,γ'.m,γ'.d,_,_,_,_,_,_,γ'.p0,γ'.n0,γ'.c0,_,_,_,_,_,_,γ'.p1,γ'.n1,γ'.c1,_,_,_,_,_,_,γ'.p2,γ'.n2,γ'.c2,_,rfl,hx,D,hD,hf,λH1 le1 hd1 b1=>?_⟩;unfold nk;refine Clp.gpk (dx _ _ H1) ?_ λu W7 W8 ⟨h,hu⟩ hx n7 k7=>gP.out (by have h:=of_decide_eq_false h;rw[if_neg h,hu];exact jk.err h) hx n7 hW k7.1.eq;rintro v W7 W8 D' ⟨h,hz⟩ hx hD' hf' n7;have h:=of_decide_eq_true h
 refine⟨by rw[hz],hx,?_⟩;rw[if_pos h];exact Rt.gt2 (C':=tC (kG g (ad a)).1 γ' q m d) (λW k=>k.1.eq) ⟨rfl,rfl,γ',q,m,d,rfl,λK hk hd=>⟨hg1.mono (Hp.le_trans (ai hd1 λb o h=>Nat.le_trans nn.mod.size (hf b o h)) hd),hEB.mono hk⟩⟩
theorem B0{HB:Hp}(hle:HB.le H)(hgB:aK HB g γ)(hEB:av HB q m d l)(hm:l.length<=1000)(hL:Lay H){p:OL}{n c:Nat}{a b:List UInt8}(hs:Strs H p n c [a,b])(ha:a.length<=4096)(hb:b.length<=4096)(b0:Nat) :
  DC HB 51 #[tp b0,vsl p n c] H b0 ⟨g,l⟩ γ q m d (two ⟨g,l⟩ a b (ln ⟨g,l⟩)):=λW hH hW hn=>by
 have hg:=hgB.mono hle;have hE:=hEB.mono hle
 have hn2:=hs.len;simp only[List.length_cons,List.length_nil] at hn2;refine De _ _ _ _ _ _ γ.p γ.n γ.c γ.q γ.m γ.d _ _ _ _ _ _ γ.p0 γ.n0 γ.c0 _ _ _ _ _ _ γ.p1 γ.n1 γ.c1 _ _ _ _ _ _ γ.p2 γ.n2 γ.c2 q m d p n c b0 (λb=>b=b0) H W _ hH ⟨hW,rfl,hn⟩
  ⟨by omega,λ_=>⟨(hs.at (i:=0) rfl (off:=0) (by simp)).isSome,λ_=>⟨_,hs.at (i:=0) rfl (by simp),by omega,λ_=>⟨_,hs.at (i:=1) rfl (by simp),?_⟩⟩⟩⟩
 refine Clp.gpk (fV a ha H hL) ?_ λu W1 W2 ⟨h,hu⟩ hx n1 k1=>gP.out (by rw[As h,hu];exact jk.err (by decide)) hx n1 hW k1.1.eq;rintro v W1 W2 D ⟨h0,rfl⟩ hx hD hf n1;refine⟨_,rfl,hx,?_⟩;refine Clp.gpk (fV b hb H hL) ?_ λu W1 W2 ⟨h,hu⟩ hx n1 k1=>gP.out (by rw[Am h,hu];exact jk.err (by decide)) hx n1 hW k1.1.eq;rintro v W3 W4 D ⟨h1,rfl⟩ hx hD hf n3;rw[mv h0 h1];refine⟨_,rfl,hx,?_⟩;refine Cl.same (tS hE (ad a) (ad b)) λW5 W6 hx=>⟨_,_,rfl,hx,?_⟩
 unfold ln;refine Clp.gpk (dx _ _ H) ?_ λu W7 W8 ⟨h,hu⟩ hx n7 k7=>gP.out (by have h:=of_decide_eq_false h;rw[if_neg h,hu];exact jk.err h) hx n7 hW k7.1.eq;rintro v W7 W8 D' ⟨h,hz⟩ hx hD' hf' n7;have h:=of_decide_eq_true h
 refine⟨by rw[hz],hx,λb2=>?_⟩;have hr:=mc l (ad a) (ad b)
 refine nP ⟨by omega,by omega⟩ hL λ_ _ hx=>⟨_,rfl,hx,?_⟩
 rw[if_pos h,nQ];exact Rt.gt2 (C':=tC g γ q m d) (λW k=>k.1.eq) ⟨rfl,rfl,γ,q,m,d,rfl,λK hk hd=>⟨hgB.mono hk,hEB.mono hk⟩⟩
end
set_option maxRecDepth 100000
theorem rm{W0:World}{M:Nat->Prop}{H:Hp}{b o N T:Nat}{C:Array Value}{l:List Int}(hn:N=l.length)(hC:(C.toList.drop o).take (N * 1)=(l.map au).flatten)(h63:∀x∈l,-9223372036854775808<=x/\x<=9223372036854775807)(h8:l.length<=1000)(hL:Lay H){Φ:Ending->World->World->Prop}(hk:∀W W',Ext W W'->Φ (.returned (.string (bs (iz l)))) W W') :
  Cl Tryz.prog W0 M H (λW=>Kn W0 M H W b (Obj.cells C T (0,0))/\True) 67 #[Value.slice (some ⟨b,o,none⟩) N N] Φ :=
 Cl.sameK (λW n k=>⟨bh H b (.cells C T (0,0)),gF n.sub k.1.eq,by
  have hr:Rows (bh H b (.cells C T (0,0))) (some ((b:Blk),o)) N 1 (l.map au):=Rows.block (cm ..) (by simpa using hn) (λr hr=>by obtain⟨x,_,rfl⟩:=List.mem_map.1 hr;rfl) hC;have:=rk (some ((b:Blk),o)) N N l (bh H b (.cells C T (0,0))) (hL.mono (gM k.1.off)) hr h63 h8
  simpa [vsl,ab] using this⟩) hk
section
variable{H:Hp}{g:Grp}{γ:GP}{q:OL}{m d:Nat}{l:List Ent}
theorem t8{e:Dsk}{a:Int}(h:a<3):kP e a=(e,iz (e.g.node a.toNat).vals.list,0):=if_pos h
theorem qL{e:Dsk}{a:Int}(h:3<=a):kP e a=bS e 3:=if_neg (by omega)
theorem tT{e:Dsk}{a:Int}(h:a<3):kR e a=(e,iz [(e.g.node a.toNat).pos,(cr (e.g.node a.toNat).table:Nat)],0):=if_pos h
theorem qI{e:Dsk}{a:Int}(h:3<=a):kR e a=bS e 3:=if_neg (by omega)
theorem CR{HB:Hp}(hle:HB.le H)(hgB:aK HB g γ)(hEB:av HB q m d l)(hL:Lay H)(ok:aQ g){p:OL}{n c:Nat}{a:List UInt8}(hs:Strs H p n c [a])(ha:a.length<=4096)(b0:Nat) :
  DC HB 49 #[tp b0,vsl p n c] H b0 ⟨g,l⟩ γ q m d (one ⟨g,l⟩ a (kP ⟨g,l⟩)):=λW hH hW hn=>by
 have hg:=hgB.mono hle;have hE:=hEB.mono hle
 have hn2:=hs.len;simp only[List.length_cons,List.length_nil] at hn2;refine Dc _ _ _ _ _ _ γ.p γ.n γ.c γ.q γ.m γ.d _ _ _ _ _ _ γ.p0 γ.n0 γ.c0 _ _ _ _ _ _ γ.p1 γ.n1 γ.c1 _ _ _ _ _ _ γ.p2 γ.n2 γ.c2 q m d p n c b0 (λb=>b=b0) H W _ hH ⟨hW,rfl,hn⟩
  ⟨by omega,λ_=>⟨(hs.at (i:=0) rfl (off:=0) (by simp)).isSome,λ_=>⟨_,hs.at (i:=0) rfl (by simp),?_⟩⟩⟩
 refine Clp.gtp (s5 hg hL ha b0) (λW k=>k.1) ?_ ?_
 rotate_left
 ·rintro u W1 W2 (⟨h,rfl⟩ | ⟨h,rfl⟩) hx n1 k1
  ·exact gP.out (by rw[za h];exact jk.err (by decide)) hx n1 hW k1.1.eq
  ·exact gP.out (by rw[lg (by omega),qL h];exact jk.err (by decide)) hx n1 hW k1.1.eq
 rintro v W1 W2 C' D ⟨⟨h0,h3⟩,rfl,p',n',c',rfl,hT⟩ hb n1 h1 h2;refine⟨_,_,_,_,_,_,p',n',c',rfl,Fr.is (D:=noH) (hb.ext h1) (ba _) (λb o h=>by cases h) λH1 le1 _ b1=>?_⟩;have hv:=(V4.ok_iff _).1 (ok.node (ad a).toNat).1.vals
 refine rm (l:=(g.node (ad a).toNat).vals.list) rfl rfl (λx hx=>?_) (by simp[V4.list]) (hL.mono le1) λ_ _ hx=>⟨_,rfl,hx,?_⟩
 ·simp only[V4.list,List.mem_cons,List.not_mem_nil,or_false] at hx
  rcases hx with rfl | rfl | rfl | rfl<;>omega
 ·rw[lg h0,t8 h3];exact Rt.gt2 (C':=tC g γ q m d) (λW k=>k.1.eq) ⟨rfl,rfl,γ,q,m,d,rfl,λK hk hd=>⟨hgB.mono hk,hEB.mono hk⟩⟩
theorem mX{t:List Ses}{j:Nat}{x:Ses}(h:t[j]?=some x):cr (t.take (j+1))=cr (t.take j)+x.kept.length:=by
 rw[List.take_add_one,h];simp[cr]
theorem Di{HB:Hp}(hle:HB.le H)(hgB:aK HB g γ)(hEB:av HB q m d l)(hL:Lay H)(ok:aQ g){p:OL}{n c:Nat}{a:List UInt8}(hs:Strs H p n c [a])(ha:a.length<=4096)(b0:Nat) :
  DC HB 50 #[tp b0,vsl p n c] H b0 ⟨g,l⟩ γ q m d (one ⟨g,l⟩ a (kR ⟨g,l⟩)):=λW hH hW hn=>by
 have hg:=hgB.mono hle;have hE:=hEB.mono hle
 have hn2:=hs.len;simp only[List.length_cons,List.length_nil] at hn2;refine BU _ _ _ _ _ _ γ.p γ.n γ.c γ.q γ.m γ.d _ _ _ _ _ _ γ.p0 γ.n0 γ.c0 _ _ _ _ _ _ γ.p1 γ.n1 γ.c1 _ _ _ _ _ _ γ.p2 γ.n2 γ.c2 q m d p n c b0 (λb=>b=b0) H W _ hH ⟨hW,rfl,hn⟩
  ⟨by omega,λ_=>⟨(hs.at (i:=0) rfl (off:=0) (by simp)).isSome,λ_=>⟨_,hs.at (i:=0) rfl (by simp),?_⟩⟩⟩
 refine Clp.gtp (s5 hg hL ha b0) (λW k=>k.1) ?_ ?_
 rotate_left
 ·rintro u W1 W2 (⟨h,rfl⟩ | ⟨h,rfl⟩) hx n1 k1
  ·exact gP.out (by rw[za h];exact jk.err (by decide)) hx n1 hW k1.1.eq
  ·exact gP.out (by rw[lg (by omega),qI h];exact jk.err (by decide)) hx n1 hW k1.1.eq
 rintro v W1 W2 C' D ⟨⟨h0,h3⟩,rfl,p',n',c',rfl,hT⟩ hb n1 h1 h2;refine⟨_,_,_,_,_,_,p',n',c',rfl,Fr.is (D:=noH) (hb.ext h1) (ba _) (λb o h=>by cases h) λH1 le1 _ b1=>?_⟩;have st:=(ok.node (ad a).toNat).1
 have hlen:=hT.len;have hl3:=st.table.len
 have htot:=fk st.table;have hpos:=st.pos
 rw[lg h0,tT h3];simp only
 generalize g.node (ad a).toNat=s at *;have hpart:∀j,cr (s.table.take j)<=180:=λj=>by
  have:fy (s.table.take j):=⟨by simp;omega,λx hx=>st.table.one x (List.mem_of_mem_take hx),st.table.ord.sublist (List.take_sublist ..)⟩
  exact fk this
 refine⟨by omega,λ_=>⟨λv K=>match v with | [.n j,.i x]=>j<=n'/\H1.le K/\x=(cr (s.table.take j):Nat) | _=>False,λv=>match v with | .n j::_=>n'-j | _=>0,⟨by omega,Hp.le_refl _,by simp[cr]⟩,λK j x hI=>?_⟩⟩;obtain⟨hj,hlK,rfl⟩:=hI;refine⟨λhlt=>?_,λhge b2=>?_⟩
 ·obtain⟨x,q',m',d',hx,hq,hat⟩:=hT.at (k:=j) (by omega)
  have hat0:=((hat (0+(j:Int) * 4) (by omega)).1).mono (Hp.le_trans le1 hlK);have hql:=hq.len
  have hnx:=mX hx;have hp1:=hpart (j+1)
  refine⟨by omega,λ_=>⟨hat0.isSome,λ_=>⟨_,_,_,q',m',d',hat0,λb2=>⟨by omega,λ_=>⟨in64 (by omega),λ_=>⟨in64 (by omega),λ_=>⟨by omega,λ_=>?_⟩⟩⟩⟩⟩⟩⟩;rw[show ((j:Int)+1).toNat=j+1 by omega];exact⟨⟨by omega,hlK,by rw[hnx];omega⟩,by simp only;omega⟩
 ·have hjm:j=s.table.length:=by omega
  rw[hjm,List.take_length];refine rm (l := [s.pos,(cr s.table:Nat)]) rfl rfl (λx hx=>?_) (by simp) (hL.mono (Hp.le_trans le1 hlK)) λ_ _ hx=>⟨_,rfl,hx,?_⟩
  ·simp only[List.mem_cons,List.not_mem_nil,or_false] at hx
   rcases hx with rfl | rfl<;>omega
  ·exact Rt.gt2 (C':=tC g γ q m d) (λW k=>k.1.eq) ⟨rfl,rfl,γ,q,m,d,rfl,λK hk hd=>⟨hgB.mono hk,hEB.mono hk⟩⟩
theorem wH{HB:Hp}(hle:HB.le H)(hgB:aK HB g γ)(hEB:av HB q m d l)(hm:l.length<=1000)(hL:Lay H)(ok:aQ g){p x1 x2:OL}{n c:Nat}{k:Int}{a b:List UInt8}{b0:Nat}(hx1:aa H x1 0 [tp b0])(hx2:aa H x2 0 [vi k])(hs:Strs H p n c [a,b])(ha:a.length<=4096)(hb:b.length<=4096) :
  DC HB 43 #[vsl p n c,.pointer (ab x1 0),.pointer (ab x2 0)] H b0 ⟨g,l⟩ γ q m d (two ⟨g,l⟩ a b λx y=>gO ⟨g,l⟩ ⟨k,x,y,0,0,POp.none⟩):=λW hH hW hn=>by
 have hg:=hgB.mono hle;have hE:=hEB.mono hle
 have hn2:=hs.len;simp only[List.length_cons,List.length_nil] at hn2;refine Ci _ _ _ _ _ _ γ.p γ.n γ.c γ.q γ.m γ.d _ _ _ _ _ _ γ.p0 γ.n0 γ.c0 _ _ _ _ _ _ γ.p1 γ.n1 γ.c1 _ _ _ _ _ _ γ.p2 γ.n2 γ.c2 q m d p n c x1 x2 b0 (λb=>b=b0) H W _ hH ⟨hW,rfl,hn⟩
  ⟨some ((b0:Blk),0),hx1,k,hx2,by omega,λ_=>⟨(hs.at (i:=0) rfl (off:=0) (by simp)).isSome,λ_=>⟨_,hs.at (i:=0) rfl (by simp),by omega,λ_=>⟨_,hs.at (i:=1) rfl (by simp),?_⟩⟩⟩⟩
 refine Clp.gpk (fV a ha H hL) ?_ λu W1 W2 ⟨h,hu⟩ hx n1 k1=>gP.out (by rw[As h,hu];exact jk.err (by decide)) hx n1 hW k1.1.eq;rintro v W1 W2 D ⟨h0,rfl⟩ hx hD hf n1;refine⟨_,rfl,hx,?_⟩;refine Clp.gpk (fV b hb H hL) ?_ λu W1 W2 ⟨h,hu⟩ hx n1 k1=>gP.out (by rw[Am h,hu];exact jk.err (by decide)) hx n1 hW k1.1.eq;rintro v W3 W4 D ⟨h1,rfl⟩ hx hD hf n3;rw[mv h0 h1];refine⟨_,rfl,hx,?_⟩;refine Clp.gtp (rT hg hE hm ok (e:=⟨k,ad a,ad b,0,0,POp.none⟩) ⟨by simp,by simp⟩ hL b0) (λW k=>k.1) ?_ λu W5 W6 hu hx n5 k5=>gP.out hu hx n5 hW k5.1.eq;rintro v W5 W6 C' D ⟨hz,rfl,γ',q',m',d',rfl,hm'⟩ hb5 n5 h5 h6;refine⟨_,_,_,_,_,_,_,γ'.p,γ'.n,γ'.c,γ'.q,γ'.m,γ'.d,_,_,_,_,_,_,γ'.p0,γ'.n0,γ'.c0,_,_,_,_,_,_,γ'.p1,γ'.n1,γ'.c1,_,_,_,_,_,_,γ'.p2,γ'.n2,γ'.c2,q',m',d',rfl,hb5.bt n5 h5 h6 λH1 le1 hD1=>?_⟩;exact Rt.gt2 (C':=tC _ γ' q' m' d') (λW k=>k.1.eq) ⟨hz,rfl,γ',q',m',d',rfl,λK hk hd=>hm' K (ba _) (Hp.le_trans (ai hD1 λb o h=>Nat.le_trans n5.mod.size (hb5.fresh b o h)) hd)⟩
end
set_option maxRecDepth 100000
theorem ly:∀(l cur:List UInt8),(∀k:Nat,l[k]?≠some 32)->bH cur l = [cur++l]
 | [],cur,_=>by simp[bH]
 | b::l,cur,h=>by
  have h0:¬b.toNat=32:=λhe=>h 0 (by
   simp only[List.getElem?_cons_zero,Option.some.injEq]
   exact UInt8.toNat_inj.1 he)
  rw[bH,if_neg h0,ly l (cur ++ [b]) λk hk=>h (k+1) (by simpa using hk)];simp
theorem kO:∀(o:Nat) (l cur:List UInt8),l[o]?=some 32->(∀k:Nat,k<o->l[k]?≠some 32)->bH cur l=(cur++l.take o)::bH [] (l.drop (o+1))
 | _,[],_,h,_=>by simp at h
 | 0,b::l,cur,h,_=>by
  simp only[List.getElem?_cons_zero,Option.some.injEq] at h;subst h;simp[bH]
 | o+1,b::l,cur,h,hn=>by
  have h0:¬b.toNat=32:=λhe=>hn 0 (by omega) (by
   simp only[List.getElem?_cons_zero,Option.some.injEq]
   exact UInt8.toNat_inj.1 he)
  rw[bH,if_neg h0,kO o l (cur ++ [b]) (by simpa using h) λk hk hh=>hn (k+1) (by omega) (by simpa using hh)];simp
theorem sO:∀(n:Nat) (l:List UInt8),l.length=n->Lib.splitK [32] 0 (Lib.count l [32]) l=aJ l:=λn=>by
 induction n using Nat.strongRecOn with
 | ind n ih =>
  intro l hl;have hge:=Lib.indexByte_ge l 32
  have hone:=Lib.index_one l 32
  by_cases h:Lib.indexByte l 32 = -1
  ·rw[Lib.count_miss (hone.trans h)];unfold Lib.splitK aJ;rw[ly l [] (Lib.indexByte_none h)];simp
  ·obtain⟨o,ho⟩:∃o:Nat,Lib.indexByte l 32=o:=⟨(Lib.indexByte l 32).toNat,by omega⟩
   obtain⟨h1,h2⟩:=Lib.indexByte_some ho;have hlt:o<l.length:=(List.getElem?_eq_some_iff.1 h1).1
   rw[Lib.count_hit (by simp) (hone.trans ho),Nat.add_comm 1];unfold Lib.splitK;rw[hone,ho,if_neg (by simp)];simp only[List.length_cons,List.length_nil,Int.toNat_natCast,Nat.add_zero,Nat.zero_add]
   rw[ih (l.drop (o+1)).length (by simp;omega) _ rfl];unfold aJ;rw[kO o l [] h1 h2];simp
theorem aI:∀(l cur:List UInt8),∀w∈bH cur l,w.length<=cur.length+l.length
 | [],cur,w,h=>by simp only[bH,List.mem_singleton] at h;subst h;simp
 | b::l,cur,w,h=>by
  rw[bH] at h
  split at h
  ·rcases List.mem_cons.1 h with rfl | h
   ·simp
   ·have:=aI l [] w h;simp only[List.length_nil,List.length_cons] at this |-;omega
  ·have:=aI l (cur ++ [b]) w h;simp only[List.length_append,List.length_cons,List.length_nil] at this |-;omega
theorem kK:∀(l cur:List UInt8),(bH cur l).length<=l.length+1
 | [],cur=>by simp[bH]
 | b::l,cur=>by
  rw[bH]
  split
  ·have:=kK l [];simp only[List.length_cons];omega
  ·have:=kK l (cur ++ [b]);simp only[List.length_cons];omega
theorem nU:∀(l cur:List UInt8),bH cur l ≠ []
 | [],cur=>by simp[bH]
 | b::l,cur=>by
  rw[bH]
  split
  ·simp
  ·exact nU l _
theorem iA(l:List UInt8)(hl:l.length<=4096)(H:Hp)(hL:Lay H):Gf Tryz.prog 26 #[.string (bs l),.string ⟨#[32]⟩] H (λv D=>∃p n c,v=vsl p n c/\Strs D p n c (aJ l)):=λW hH=>by
 obtain⟨m,hm⟩:=(hL W hH).m0;have hc:Lib.countB (bs l) ⟨#[32]⟩=Lib.count l [32]:=rfl
 have hspl:Lib.splitB ⟨#[32]⟩ 0 (Lib.countB (bs l) ⟨#[32]⟩) (bs l)=(aJ l).map bs:=by
  have h1:=Lib.splitB_data ⟨#[32]⟩ 0 (Lib.countB (bs l) ⟨#[32]⟩) (bs l);have h2:=sO _ l rfl
  have h3:(Lib.splitB ⟨#[32]⟩ 0 (Lib.countB (bs l) ⟨#[32]⟩) (bs l)).map (·.data.toList)=aJ l:=h1.trans h2;rw[<- h3,List.map_map];exact (List.map_id' _).symm
 have hlen:Lib.count l [32]+1=(aJ l).length:=by
  have key:∀(n:Nat) (l:List UInt8),l.length=n->Lib.count l [32]+1=(aJ l).length:=λn=>by
   induction n using Nat.strongRecOn with
   | ind n ih =>
    intro l hl;have hge:=Lib.indexByte_ge l 32
    have hone:=Lib.index_one l 32
    by_cases h:Lib.indexByte l 32 = -1
    ·rw[Lib.count_miss (hone.trans h)];unfold aJ;rw[ly l [] (Lib.indexByte_none h)];rfl
    ·obtain⟨o,ho⟩:∃o:Nat,Lib.indexByte l 32=o:=⟨(Lib.indexByte l 32).toNat,by omega⟩
     obtain⟨h1,h2⟩:=Lib.indexByte_some ho;have hlt:o<l.length:=(List.getElem?_eq_some_iff.1 h1).1
     rw[Lib.count_hit (by simp) (hone.trans ho)];have:=ih (l.drop (o+1)).length (by simp;omega) _ rfl
     unfold aJ at this |-;rw[kO o l [] h1 h2];simp only[List.length_cons,List.length_nil,Nat.zero_add] at this |-;omega
  exact key _ l rfl
 refine (Tryz.strings_Split (bs l) ⟨#[32]⟩ m W (by rw[az];omega) hm (by simp[ByteArray.size])).mono λz W' ⟨hz,hw⟩=>?_;rw[hspl] at hw;subst hw;rw[hc,hlen] at hz;have hmany:=kK l []
 refine⟨_,bh noH W.heap.size (.cells (((aJ l).map bs).map Value.string).toArray 9 (0,0)),hz,iP W _,gF (ba _) (heap_alloc_new W _),λb o hb=>?_,some ((W.heap.size:Blk),0),_,_,rfl,Nat.le_refl _,?_,?_⟩
 ·unfold bh at hb
  split at hb
  ·rename_i h;omega
  ·cases hb
 ·show (aJ l).length<=maxLen;unfold aJ;simp only[maxLen];omega
 ·refine Rows.block (cm ..) (by simp) (λr hr=>?_) ?_
  ·obtain⟨x,_,rfl⟩:=List.mem_map.1 hr;rfl
  ·rw[wg,List.drop_zero,List.map_map,Nat.mul_one];exact List.take_of_length_le (by simp)
def uX:List (List UInt8 × Value) := [([115,101,116],vi 1),([97,100,100],vi 2),([103,101,116],vi 4)]
theorem FH(w:List UInt8):(lkp w uX).getD (vi 0)=vi (bb w):=by
 unfold lkp uX bb
 by_cases h1:w = [115,101,116]
 ·subst h1;rfl
 ·by_cases h2:w = [97,100,100]
  ·subst h2;rfl
  ·by_cases h3:w = [103,101,116]
   ·subst h3;rfl
   ·have e1:¬ [115,101,116]=w:=λh=>h1 h.symm;have e2:¬ [97,100,100]=w:=λh=>h2 h.symm
    have e3:¬ [103,101,116]=w:=λh=>h3 h.symm;simp[h1,h2,h3,e1,e2,e3]
def m1:Obj:=.map #[⟨.string (bs [115,101,116]),vi 1,0⟩] 1
def m2:Obj:=.map #[⟨.string (bs [115,101,116]),vi 1,0⟩,⟨.string (bs [97,100,100]),vi 2,1⟩] 2
def m3:Obj:=.map #[⟨.string (bs [115,101,116]),vi 1,0⟩,⟨.string (bs [97,100,100]),vi 2,1⟩,⟨.string (bs [103,101,116]),vi 4,2⟩] 3
theorem EZ(w:List UInt8)(H:Hp):Gv Tryz.prog 69 #[.string (bs w),.string ⟨#[45]⟩] H (.tuple #[.string (bs (Lib.trimPrefix w [45])),vb (Lib.hasPrefix w [45])]):=λW _ =>
 (Tryz.strings_CutPrefix (bs w) ⟨#[45]⟩ W).mono λz W' ⟨hz,hw⟩=>⟨hz,by subst hw;exact Ext.refl _⟩
theorem BH(w:List UInt8):(Lib.hasPrefix w [45]=true↔w.head?=some 45)/\(Lib.hasPrefix w [45]=true->Lib.trimPrefix w [45]=w.tail):=by
 cases w with
 | nil=>simp[Lib.hasPrefix]
 | cons b w =>
  simp only[Lib.hasPrefix,Lib.trimPrefix,List.head?_cons,Option.some.injEq,List.isPrefixOf,Bool.and_true,beq_iff_eq]
  exact⟨⟨λh=>h.symm,λh=>h.symm⟩,λh=>by simp[h]⟩
theorem jS{e:Dsk}{t c q a k y n:List UInt8}(h:ad t<0\/ad c<0\/ad q<0\/ad a<0\/bb k=0\/ad y<0):bQ e t c q a k y n=bS e 1:=if_pos h
theorem mG{e:Dsk}{t c q a k y n:List UInt8}(h:¬(ad t<0\/ad c<0\/ad q<0\/ad a<0\/bb k=0\/ad y<0))(hz:qy (bb k) n=none):bQ e t c q a k y n=bS e 1:=by
 unfold bQ;rw[if_neg h,hz]
theorem jj{e:Dsk}{t c q a k y n:List UInt8}{z:Int}(h:¬(ad t<0\/ad c<0\/ad q<0\/ad a<0\/bb k=0\/ad y<0))(hz:qy (bb k) n=some z):bQ e t c q a k y n=gO e ⟨2,ad t,ad c,ad q,ad a,⟨bb k,ad y,0,z⟩⟩:=by
 unfold bQ;rw[if_neg h,hz]
theorem uB{k:Int}{w:List UInt8}(h:k=2/\w.head?=some 45):qy k w=if ad w.tail<=0 then none else some (-(ad w.tail)):=if_pos h
theorem jK{k:Int}{w:List UInt8}(h:¬(k=2/\w.head?=some 45)):qy k w=if ad w<0 then none else some (ad w):=if_neg h
section
variable{H:Hp}{g:Grp}{γ:GP}{q:OL}{m d:Nat}{l:List Ent}
set_option maxHeartbeats 1000000 in
theorem BP{HB:Hp}(hle:HB.le H)(hgB:aK HB g γ)(hEB:av HB q m d l)(hm:l.length<=1000)(hL:Lay H)(ok:aQ g){p:OL}{n c:Nat}{w0 w1 w2 w3 w4 w5 w6:List UInt8}(hs:Strs H p n c [w0,w1,w2,w3,w4,w5,w6])(h4:∀w ∈ [w0,w1,w2,w3,w4,w5,w6],w.length<=4096)(b0:Nat) :
  DC HB 46 #[tp b0,vsl p n c] H b0 ⟨g,l⟩ γ q m d (bQ ⟨g,l⟩ w0 w1 w2 w3 w4 w5 w6):=λW hH hW hn=>by
 have hg:=hgB.mono hle;have hE:=hEB.mono hle
 have hn2:=hs.len;simp only[List.length_cons,List.length_nil] at hn2;refine Cn _ _ _ _ _ _ γ.p γ.n γ.c γ.q γ.m γ.d _ _ _ _ _ _ γ.p0 γ.n0 γ.c0 _ _ _ _ _ _ γ.p1 γ.n1 γ.c1 _ _ _ _ _ _ γ.p2 γ.n2 γ.c2 q m d p n c b0 (λb=>b=b0) H W _ hH ⟨hW,rfl,hn⟩
  ⟨by omega,λ_=>⟨(hs.at (i:=0) rfl (off:=0) (by simp)).isSome,λ_=>⟨_,hs.at (i:=0) rfl (by simp),by omega,λ_=>⟨_,hs.at (i:=1) rfl (by simp),by omega,λ_=>⟨_,hs.at (i:=2) rfl (by simp),by omega,λ_=>⟨_,hs.at (i:=3) rfl (by simp),?_⟩⟩⟩⟩⟩⟩
 have bad:∀{H1:Hp} {u:Value} {W1 W2:World},(ad w0<0\/ad w1<0\/ad w2<0\/ad w3<0\/bb w4=0\/ad w5<0)->u=li 1->Ext W1 W2->Now W (λb=>b=b0) H1 W1->(Kn W (λb=>b=b0) H1 W1 b0 (Obj.cells (tC g γ q m d) 42 (0,0))/\True) ->
   gP W b0 42 (wT HB (bQ ⟨g,l⟩ w0 w1 w2 w3 w4 w5 w6)) (jk (bQ ⟨g,l⟩ w0 w1 w2 w3 w4 w5 w6)) (.panicked [{ v:=u,recovered:=false }]) W2:=λhb hu hx n1 k1=>gP.out (by rw[jS hb,hu];exact jk.err (by decide)) hx n1 hW k1.1.eq
 refine Clp.gpk (fV w0 (h4 _ (by simp)) H hL) ?_ λu W1 W2 ⟨h,hu⟩ hx n1 k1=>bad (by omega) hu hx n1 k1;rintro v W1 W2 D ⟨h0,rfl⟩ hx hD hf n1;refine⟨_,rfl,hx,?_⟩;refine Clp.gpk (fV w1 (h4 _ (by simp)) H hL) ?_ λu W1 W2 ⟨h,hu⟩ hx n1 k1=>bad (by omega) hu hx n1 k1;rintro v W1 W2 D ⟨h1,rfl⟩ hx hD hf n1;refine⟨_,rfl,hx,?_⟩;refine Clp.gpk (fV w2 (h4 _ (by simp)) H hL) ?_ λu W1 W2 ⟨h,hu⟩ hx n1 k1=>bad (by omega) hu hx n1 k1;rintro v W1 W2 D ⟨h2,rfl⟩ hx hD hf n1;refine⟨_,rfl,hx,?_⟩;refine Clp.gpk (fV w3 (h4 _ (by simp)) H hL) ?_ λu W1 W2 ⟨h,hu⟩ hx n1 k1=>bad (by omega) hu hx n1 k1;rintro v W1 W2 D ⟨h3,rfl⟩ hx hD hf n1;refine⟨_,rfl,hx,λb1 W9 n9 _=>?_⟩;refine⟨.map (some W9.heap.size),_,BG _ _,Fr.is (D:=bh noH W9.heap.size (.map #[] 0)) (iP _ _) (gF (ba _) (heap_alloc_new W9 _)) (λb o hb=>?_) λH1 le1 hD1=>?_⟩
 ·unfold bh at hb
  split at hb
  ·rename_i h;omega
  ·cases hb
 have own:W.heap.size<=W9.heap.size:=n9.mod.size;have hn9:H W9.heap.size=none:=ao n9.sub (Nat.le_refl _)
 generalize W9.heap.size=bm at *;have e1:H1 bm=some (.map #[] 0):=hD1 _ _ (cm ..)
 have e2:=cm H1 bm m1;have le2:H.le (bh H1 bm m1):=vX le1 hn9
 have e3:=cm (bh H1 bm m1) bm m2;have le3:H.le (bh (bh H1 bm m1) bm m2):=vX le2 hn9
 have e4:=cm (bh (bh H1 bm m1) bm m2) bm m3;have le4:H.le (bh (bh (bh H1 bm m1) bm m2) bm m3):=vX le3 hn9
 intro W11 n11 _;refine⟨_,r5 (L := []) Tryz.underlying116 Tryz.underlying9 (n11.sub _ _ e1) rfl (k := [115,101,116]) rfl (vi 1),bh H1 bm m1,pK n11 e1 (.inl own),?_⟩;generalize bh H1 bm m1=H2 at e2 e3 e4 le2 le3 le4 |-;intro W13 n13 _;refine⟨_,r5 (L := [([115,101,116],vi 1)]) Tryz.underlying116 Tryz.underlying9 (n13.sub _ _ e2) rfl (k := [97,100,100]) rfl (vi 2),bh H2 bm m2,pK n13 e2 (.inl own),?_⟩;generalize bh H2 bm m2=H3 at e3 e4 le3 le4 |-;intro W15 n15 _;refine⟨_,r5 (L := [([115,101,116],vi 1),([97,100,100],vi 2)]) Tryz.underlying116 Tryz.underlying9 (n15.sub _ _ e3) rfl (k := [103,101,116]) rfl (vi 4),bh H3 bm m3,pK n15 e3 (.inl own),?_⟩;generalize bh H3 bm m3=H4 at e4 le4 |-;have hs4:=hs.mono le4
 have hL4:=hL.mono le4;refine⟨by omega,λ_=>⟨_,hs4.at (i:=4) rfl (by simp),λW17 n17 _=>⟨bb w4,_,?_,Ext.refl _,?_⟩⟩⟩
 ·have hz:(zeroValue 3).run Tryz.prog W17=.ok (vi 0) W17:=by kernel_rfl
  have:=B1 (P:=Tryz.prog) (L:=uX) Tryz.underlying116 Tryz.underlying9 (n17.sub _ _ e4) rfl w4 hz;rw[FH] at this;exact this
 refine Clp.gpk (dx _ 1 H4) ?_ λu W1 W2 ⟨h,hu⟩ hx n1 k1=>bad (.inr (.inr (.inr (.inr (.inl (by simpa using h)))))) hu hx n1 k1;rintro v W1 W2 D' ⟨hk,hz⟩ hx hD' hf' n1;have hk:¬bb w4=0:=by simpa using hk
 refine⟨by rw[hz],hx,by omega,λ_=>⟨_,hs4.at (i:=5) rfl (by simp),?_⟩⟩;refine Clp.gpk (fV w5 (h4 _ (by simp)) H4 hL4) ?_ λu W1 W2 ⟨h,hu⟩ hx n1 k1=>bad (by omega) hu hx n1 k1;rintro v W1 W2 D ⟨h5,rfl⟩ hx hD hf n1;refine⟨_,rfl,hx,by omega,λ_=>⟨_,hs4.at (i:=6) rfl (by simp),?_⟩⟩;have hgood:¬(ad w0<0\/ad w1<0\/ad w2<0\/ad w3<0\/bb w4=0\/ad w5<0):=by omega
 have none1:qy (bb w4) w6=none->∀{H1:Hp} {u:Value} {W1 W2:World},u=li 1->Ext W1 W2->Now W (λb=>b=b0) H1 W1->(Kn W (λb=>b=b0) H1 W1 b0 (Obj.cells (tC g γ q m d) 42 (0,0))/\True) ->
   gP W b0 42 (wT HB (bQ ⟨g,l⟩ w0 w1 w2 w3 w4 w5 w6)) (jk (bQ ⟨g,l⟩ w0 w1 w2 w3 w4 w5 w6)) (.panicked [{ v:=u,recovered:=false }]) W2:=λhn _ _ _ _ hu hx n1 k1=>gP.out (by rw[mG hgood hn,hu];exact jk.err (by decide)) hx n1 hW k1.1.eq
 have hin:-9223372036854775808<=ad w2/\ad w2<=9223372036854775807:=by have:=gc w2;omega
 have hg4:=hg.mono le4;have hE4:=hE.mono le4
 obtain⟨ph1,ph2⟩:=BH w6;refine Cl.same (EZ w6 H4) λW23 W24 hx=>⟨_,_,rfl,hx,λhp=>⟨λh2=>?_,λh2=>?_⟩,λhp=>?_⟩
 ·rw[ph2 hp];have ha:=uB (k:=bb w4) (w:=w6) ⟨h2,ph1.1 hp⟩
  have hlt:w6.tail.length<=4096:=by have:=h4 w6 (by simp);simp;omega
  refine Clp.gpk (fV w6.tail hlt H4 hL4) ?_ λu W1 W2 ⟨h,hu⟩ hx n1 k1=>none1 (by rw[ha,if_pos (by omega)]) hu hx n1 k1;rintro v W1 W2 D ⟨h6,rfl⟩ hx hD hf n1;have hr6:=gc w6.tail
  refine⟨_,rfl,hx,in64 (by omega),λ_=>?_⟩;refine Clp.gpk (dx _ 1 H4) ?_ λu W1 W2 ⟨h,hu⟩ hx n1 k1=>none1 (by rw[ha,if_pos (by have:=of_decide_eq_false h;omega)]) hu hx n1 k1;rintro v W1 W2 D' ⟨hk6,hz⟩ hx hD' hf' n1;have hk6:=of_decide_eq_true hk6
  refine⟨by rw[hz],hx,?_⟩;have hr:bQ ⟨g,l⟩ w0 w1 w2 w3 w4 w5 w6=gO ⟨g,l⟩ ⟨2,ad w0,ad w1,ad w2,ad w3,⟨bb w4,ad w5,0,0-ad w6.tail⟩⟩:=by
   rw[jj hgood (z:=-(ad w6.tail)) (by rw[ha,if_neg (by omega)]),Int.zero_sub]
  rw[hr];refine Clp.gtp (rT hg4 hE4 hm ok (e:=⟨2,ad w0,ad w1,ad w2,ad w3,⟨bb w4,ad w5,0,0-ad w6.tail⟩⟩) hin hL4 b0) (λW k=>k.1) ?_ λu W5 W6 hu hx n5 k5=>gP.out hu hx n5 hW k5.1.eq;rintro v W5 W6 C' D ⟨hz,rfl,γ',q',m',d',rfl,hm'⟩ hb5 n5 h5 h6;refine⟨_,_,_,_,_,_,_,γ'.p,γ'.n,γ'.c,γ'.q,γ'.m,γ'.d,_,_,_,_,_,_,γ'.p0,γ'.n0,γ'.c0,_,_,_,_,_,_,γ'.p1,γ'.n1,γ'.c1,_,_,_,_,_,_,γ'.p2,γ'.n2,γ'.c2,q',m',d',rfl,hb5.bt n5 h5 h6 λH5 le5 hD5=>?_⟩;exact Rt.gt2 (C':=tC _ γ' q' m' d') (λW k=>k.1.eq) ⟨hz,rfl,γ',q',m',d',rfl,λK hk hd=>hm' K (ba _) (Hp.le_trans (ai hD5 λb o h=>Nat.le_trans n5.mod.size (hb5.fresh b o h)) hd)⟩
 ·have ha:=jK (k:=bb w4) (w:=w6) (λh=>h2 h.1);refine⟨_,hs4.at (i:=6) rfl (by simp),?_⟩;refine Clp.gpk (fV w6 (h4 _ (by simp)) H4 hL4) ?_ λu W1 W2 ⟨h,hu⟩ hx n1 k1=>none1 (by rw[ha,if_pos (by omega)]) hu hx n1 k1;rintro v W1 W2 D ⟨h6,rfl⟩ hx hD hf n1;refine⟨_,rfl,hx,?_⟩;rw[jj hgood (z:=ad w6) (by rw[ha,if_neg (by omega)])];refine Clp.gtp (rT hg4 hE4 hm ok (e:=⟨2,ad w0,ad w1,ad w2,ad w3,⟨bb w4,ad w5,0,ad w6⟩⟩) hin hL4 b0) (λW k=>k.1) ?_ λu W5 W6 hu hx n5 k5=>gP.out hu hx n5 hW k5.1.eq;rintro v W5 W6 C' D ⟨hz,rfl,γ',q',m',d',rfl,hm'⟩ hb5 n5 h5 h6;refine⟨_,_,_,_,_,_,_,γ'.p,γ'.n,γ'.c,γ'.q,γ'.m,γ'.d,_,_,_,_,_,_,γ'.p0,γ'.n0,γ'.c0,_,_,_,_,_,_,γ'.p1,γ'.n1,γ'.c1,_,_,_,_,_,_,γ'.p2,γ'.n2,γ'.c2,q',m',d',rfl,hb5.bt n5 h5 h6 λH5 le5 hD5=>?_⟩;exact Rt.gt2 (C':=tC _ γ' q' m' d') (λW k=>k.1.eq) ⟨hz,rfl,γ',q',m',d',rfl,λK hk hd=>hm' K (ba _) (Hp.le_trans (ai hD5 λb o h=>Nat.le_trans n5.mod.size (hb5.fresh b o h)) hd)⟩
 ·have ha:=jK (k:=bb w4) (w:=w6) (λh=>hp (ph1.2 h.2));refine⟨_,hs4.at (i:=6) rfl (by simp),?_⟩;refine Clp.gpk (fV w6 (h4 _ (by simp)) H4 hL4) ?_ λu W1 W2 ⟨h,hu⟩ hx n1 k1=>none1 (by rw[ha,if_pos (by omega)]) hu hx n1 k1;rintro v W1 W2 D ⟨h6,rfl⟩ hx hD hf n1;refine⟨_,rfl,hx,?_⟩;rw[jj hgood (z:=ad w6) (by rw[ha,if_neg (by omega)])];refine Clp.gtp (rT hg4 hE4 hm ok (e:=⟨2,ad w0,ad w1,ad w2,ad w3,⟨bb w4,ad w5,0,ad w6⟩⟩) hin hL4 b0) (λW k=>k.1) ?_ λu W5 W6 hu hx n5 k5=>gP.out hu hx n5 hW k5.1.eq;rintro v W5 W6 C' D ⟨hz,rfl,γ',q',m',d',rfl,hm'⟩ hb5 n5 h5 h6;refine⟨_,_,_,_,_,_,_,γ'.p,γ'.n,γ'.c,γ'.q,γ'.m,γ'.d,_,_,_,_,_,_,γ'.p0,γ'.n0,γ'.c0,_,_,_,_,_,_,γ'.p1,γ'.n1,γ'.c1,_,_,_,_,_,_,γ'.p2,γ'.n2,γ'.c2,q',m',d',rfl,hb5.bt n5 h5 h6 λH5 le5 hD5=>?_⟩;exact Rt.gt2 (C':=tC _ γ' q' m' d') (λW k=>k.1.eq) ⟨hz,rfl,γ',q',m',d',rfl,λK hk hd=>hm' K (ba _) (Hp.le_trans (ai hD5 λb o h=>Nat.le_trans n5.mod.size (hb5.fresh b o h)) hd)⟩
end
end Go.Proofs.YtfpmcmhihhnfgaaGreatDoor
