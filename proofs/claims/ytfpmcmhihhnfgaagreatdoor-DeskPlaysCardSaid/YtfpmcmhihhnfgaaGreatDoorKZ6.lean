/- Contracts: a Builder that grows, and what it holds. No conditions. -/
import Derived.Test.YtfpmcmhihhnfgaaGreatDoorKZ5
import Derived.Lib.AppendStr
import Derived.Lib.UnsafeStr
set_option linter.unusedVariables false
set_option linter.unusedSimpArgs false
namespace Go.Proofs.YtfpmcmhihhnfgaaGreatDoor
open Go.RowKit
set_option maxRecDepth 100000
set_option maxHeartbeats 4000000
theorem ua(x0 x1:OL)(x2 x3:Nat)(b0:Nat)(M:Nat->Prop)(H0:Hp)(W0:World)(R:Ending->World->Prop)(hH:H0.le (ak W0))(h0:W0.heap[b0]?=some (Obj.cells #[vp (ab x0 0),vsl x1 x2 x3] 46 (0,0))/\M b0/\H0 b0=none)(h:(Es W0 M H0 nK λW1=>∃x4:Bool,Eo' (.bop .eql 43 (.tmp 5) (.const (vp none))) [vp (ab x0 0),vp none] W1 (.value (vb (x4))) λW2=>Ext W1 W2/\(It (x4=true) (Es W0 M H0 (λW=>Kn W0 M H0 W b0 (Obj.cells #[vp (ab x0 0),vsl x1 x2 x3] 46 (0,0))/\True) λW3=>Eo' (.conv 43 94) [vp (some ⟨b0,0,none⟩)] W3 (.value (vp (some ⟨b0,0,none⟩))) λW4=>Ext W3 W4/\(Es W0 M H0 (λW=>Kn W0 M H0 W b0 (Obj.cells #[vp (ab x0 0),vsl x1 x2 x3] 46 (0,0))/\True) λW5=>Eo' (.ext 39) [vp (some ⟨b0,0,none⟩)] W5 (.value (vp (some ⟨b0,0,none⟩))) λW6=>Ext W5 W6/\(Es W0 M H0 (λW=>Kn W0 M H0 W b0 (Obj.cells #[vp (ab x0 0),vsl x1 x2 x3] 46 (0,0))/\True) λW7=>Eo' (.conv 94 43) [vp (some ⟨b0,0,none⟩)] W7 (.value (vp (some ⟨b0,0,none⟩))) λW8=>Ext W7 W8/\Rt R W0 M H0 (λW=>Kn W0 M H0 W b0 (Obj.cells #[vp (some ⟨b0,0,none⟩),vsl x1 x2 x3] 46 (0,0))/\True) (vt #[])))) (Es W0 M H0 (λW=>Kn W0 M H0 W b0 (Obj.cells #[vp (ab x0 0),vsl x1 x2 x3] 46 (0,0))/\True) λW3=>∃x5:Bool,Eo' (.bop .neq 43 (.tmp 17) (.tmp 18)) [vp (ab x0 0),vp (some ⟨b0,0,none⟩)] W3 (.value (vb (x5))) λW4=>Ext W3 W4/\(It (x5=true) (False ) (Rt R W0 M H0 (λW=>Kn W0 M H0 W b0 (Obj.cells #[vp (ab x0 0),vsl x1 x2 x3] 46 (0,0))/\True) (vt #[]))))))) :
 Calls Tryz.prog 23 #[vp (some ⟨b0,0,none⟩)] W0 R :=
 aO (M:=M) (hi:={pats := [((1,2),λnv=>(.ptrK 0 0,[],nv)),((1,3),λnv=>(.ptrK 0 0,[],nv)),((1,4),λnv=>(.ptrK 0 0,[],nv))]}) (o0:=⟨[.ptrO 0 (.k 0),vS 1],46⟩) (args := [.ptrK 0 0]) (nv:=4) (e:=lk [.p x0,.p x1,.n x2,.n x3]) Tryz.func23 hH h0 h rfl
theorem zN(x0 x1:OL)(x2 x3:Nat)(x4:ByteArray)(b0:Nat)(M:Nat->Prop)(H0:Hp)(W0:World)(R:Ending->World->Prop)(hH:H0.le (ak W0))(h0:W0.heap[b0]?=some (Obj.cells #[vp (ab x0 0),vsl x1 x2 x3] 46 (0,0))/\M b0/\H0 b0=none)(h:(Cl' W0 M H0 (λW=>Kn W0 M H0 W b0 (Obj.cells #[vp (ab x0 0),vsl x1 x2 x3] 46 (0,0))/\True) 23 #[vp (some ⟨b0,0,none⟩)] λz W1 W2=>∃(x5 x6:OL) (x7 x8:Nat),z=.returned (vt #[])/\Md [(b0,Obj.cells #[vp (ab x5 0),vsl x6 x7 x8] 46 (0,0))] W1 W2 ( (Es W0 M H0 nK λW3=>∃(x9:OL) (c0 c1:Nat),Eo' (.bi .append #[44,9] 44) [vsl x6 x7 x8,vs x4] W3 (.value (vsl x9 c0 c1)) λW4=>Tn W0 M H0 W3 W4 λH1=>Rt R W0 M H1 (λW=>Kn W0 M H1 W b0 (Obj.cells #[vp (ab x5 0),vsl x9 c0 c1] 46 (0,0))/\True) (vt #[vi (x4.size:Int),Value.nilIface]))))) :
 Calls Tryz.prog 11 #[vp (some ⟨b0,0,none⟩),vs x4] W0 R :=
 aO (M:=M) (hi:={mods := [(23,[0])]}) (o0:=⟨[.ptrO 0 (.k 0),vS 1],46⟩) (args := [.ptrK 0 0,.str 4]) (nv:=5) (e:=lk [.p x0,.p x1,.n x2,.n x3,.s x4]) Tryz.func11 hH h0 h rfl
theorem xQ(x0 x1:OL)(x2 x3:Nat)(b0:Nat)(M:Nat->Prop)(H0:Hp)(W0:World)(R:Ending->World->Prop)(hH:H0.le (ak W0))(h0:W0.heap[b0]?=some (Obj.cells #[vp (ab x0 0),vsl x1 x2 x3] 46 (0,0))/\M b0/\H0 b0=none)(h:(Ck (0<=(x2:Int)) (Es W0 M H0 nK λW1=>∃x4:OL,Eo' (.bi .unsafeSliceData #[44] 76) [vsl x1 x2 x3] W1 (.value (vp (ab x4 0))) λW2=>Fr W1 W2 H0 λH1=>(Es W0 M H1 nK λW3=>∃x5:ByteArray,Eo' (.bi .unsafeString #[76,3] 9) [vp (ab x4 0),vi (x2:Int)] W3 (.value (vs x5)) λW4=>Tn W0 M H1 W3 W4 λH2=>Rt R W0 M H2 (λW=>Kn W0 M H2 W b0 (Obj.cells #[vp (ab x0 0),vsl x1 x2 x3] 46 (0,0))/\True) (vs x5))))) :
 Calls Tryz.prog 14 #[vp (some ⟨b0,0,none⟩)] W0 R :=
 aO (M:=M) (hi:={}) (o0:=⟨[.ptrO 0 (.k 0),vS 1],46⟩) (args := [.ptrK 0 0]) (nv:=4) (e:=lk [.p x0,.p x1,.n x2,.n x3]) Tryz.func14 hH h0 h rfl
theorem BQ(x0:ByteArray):Xw 10 #[vs x0] λM H0 W0 _ _ _ T=>(∀b0:Nat,T H0 (λW=>Kn W0 M H0 W b0 (Obj.cells #[vs x0] 9 (0,0))/\True) (Value.func (.func 21) #[] #[vp (some ⟨b0,0,none⟩)])) :=
 Xa (hi:={}) (args := [.str 0]) (nv:=1) (e:=lk [.s x0]) Tryz.func10
theorem Ai(x0:Nat)(x1:ByteArray)(b0:Nat)(M:Nat->Prop)(H0:Hp)(W0:World)(R:Ending->World->Prop)(hH:H0.le (ak W0))(h0:W0.heap[b0]?=some (Obj.cells #[vs x1] 9 (0,0))/\M b0/\H0 b0=none)(h:(∃(I0:List Dat->Hp->Prop) (μ0:List Dat->Nat),I0 [.s x1] H0/\∀H1:Hp,∀x2:ByteArray,I0 [.s x2] H1->(It (0<(x2.size:Int)) (Cl' W0 M H1 nK 22 #[vs x2,Value.int .u8 10] λz W1 W2=>∃x3:Int,z=.returned (vi x3)/\Ext W1 W2/\(It (0<=x3) (Ck (ae .i64 (x3+1)) (Ck (0<=(x3+1)) (Ck ((x3+1)<=(x2.size:Int)) (Es W0 M H1 nK λW3=>∃x4:ByteArray,Eo' (.slice 9 false true false) [vs x2,vi (x3+1)] W3 (.value (vs x4)) λW4=>Ext W3 W4/\(Ck (0<=(x3+1)) (Ck ((x3+1)<=(x2.size:Int)) (Es W0 M H1 nK λW5=>∃x5:ByteArray,Eo' (.slice 9 true false false) [vs x2,vi (x3+1)] W5 (.value (vs x5)) λW6=>Ext W5 W6/\(Yl' W0 M H1 nK x0 [vs x4] λH2=>(I0 [.s x5] H2/\μ0 [.s x5]<μ0 [.s x2]))))))))) (Yl' W0 M H1 nK x0 [vs x2] λH2=>(I0 [.s ⟨#[]⟩] H2/\μ0 [.s ⟨#[]⟩]<μ0 [.s x2])))) (Rt R W0 M H1 (λW=>Kn W0 M H1 W b0 (Obj.cells #[vs x2] 9 (0,0))/\True) (vt #[]))))) :
 Calls Tryz.prog 21 #[Value.func (.yield x0) #[] #[],vp (some ⟨b0,0,none⟩)] W0 R :=
 aO (M:=M) (hi:={loops := [(0,.inv [] [(1,[.pt .str])])]}) (o0:=⟨[.str 1],9⟩) (args := [.yl 0,.ptrK 0 0]) (nv:=2) (e:=lk [.n x0,.s x1]) Tryz.func21 hH h0 h rfl
theorem D6(x0:ByteArray):Xw 4 #[vs x0] λM H0 W0 _ C Q T=>(It (4096<(x0.size:Int)) (T H0 nK (vt #[vA,vi 2])) (C H0 nK 7 #[vs x0,vE] λz W1 W2=>∃x1:Int,z=.returned (vi x1)/\Ext W1 W2/\(It (60<x1) (T H0 nK (vt #[vA,vi 2])) (Q H0 nK λW3=>∃x2:Bool,Eo' (.bop .neq 9 (.tmp 15) (.const (vA))) [vs x0,vA] W3 (.value (vb (x2))) λW4=>Ext W3 W4/\(It (x2=true) (C H0 nK 8 #[vs x0,vE] λz W5 W6=>∃x3:Bool,z=.returned (vb (x3))/\Ext W5 W6/\(It (x3=true) (C H0 nK 9 #[] λz W7 W8=>eG λx4 x5 x6 x7 x8 x9 c0 c1 c2 c3 c4 c5 c6 c7 c8 c9 cA cB cC cD cE cF cG cH cI cJ cK cL cM cN cO cP cQ cR cS cT cU cV cW=>z=.returned (vg (gv x4 x5 x6 x7 x8 x9 c0 c1 c2 c3 c4 c5 c6 c7 c8 c9 cA cB cC cD cE cF cG cH cI cJ cK cL cM cN cO cP cQ cR cS cT cU cV cW))/\Fr W7 W8 H0 λH1=>(∀b0:Nat,(∀b1:Nat,(∀b2:Nat,(C H1 nK 10 #[vs x0] λz W9 W10=>∃cX:OL,z=.returned (Value.func (.func 21) #[] #[vp (ab cX 0)])/\Fr W9 W10 H1 λH2=>(Ck (0<=(c1:Int)) (Ck (0<=(c2:Int)) (Ck (0<=(c4:Int)) (Ck (0<=(c5:Int)) (Ck (0<=(cD:Int)) (Ck (0<=(cE:Int)) (Ck (0<=(cM:Int)) (Ck (0<=(cN:Int)) (Ck (0<=(cV:Int)) (Ck (0<=(cW:Int)) (∃(own:Nat->Prop) (N:Nat) (item:Nat->List Value->Hp->Prop) (I0:List Dat->Nat->Hp->(Nat->Prop)->Prop) (Hi Ha:Hp) (Ta:Nat->Prop),xA Tryz.prog W0 M 21 [vp (ab cX 0)] H2 own N item I0 [.i x4,.i x5,.i x6,.i x7,.i x8,.i x9,.p (sh c0),.n c1,.n c2,.p (sh c3),.n c4,.n c5,.i c6,.i c7,.i c8,.i c9,.i cA,.i cB,.p (sh cC),.n cD,.n cE,.i cF,.i cG,.i cH,.i cI,.i cJ,.i cK,.p (sh cL),.n cM,.n cN,.i cO,.i cP,.i cQ,.i cR,.i cS,.i cT,.p (sh cU),.n cV,.n cW,.p none,.n 0,.n 0,.p none,.p none,.n 0,.n 0] Hi Ha Ta/\(∀(k:Nat) (vals:List Value) (Wr:World) (Mr:Nat->Prop) (Ha:Hp) (Ta:Nat->Prop) (D H3:Hp),k<N->W0.heap.size<=Wr.heap.size->item k vals D->(∀b,Ta b->Mr b/\D b=none)->Ha.le H3->D.le H3->aT λcY cZ d0 d1 d2 d3 d4 d5 d6 d7 d8 d9 dA dB dC dD dE dF dG dH dI dJ dK dL dM dN dO dP dQ dR dS dT dU dV dW dX dY dZ e0 e1 e2 e3=>∀(e4 e5:OL) (e6 e7:Nat),I0 [.i cY,.i cZ,.i d0,.i d1,.i d2,.i d3,.p (sh d4),.n d5,.n d6,.p (sh d7),.n d8,.n d9,.i dA,.i dB,.i dC,.i dD,.i dE,.i dF,.p (sh dG),.n dH,.n dI,.i dJ,.i dK,.i dL,.i dM,.i dN,.i dO,.p (sh dP),.n dQ,.n dR,.i dS,.i dT,.i dU,.i dV,.i dW,.i dX,.p (sh dY),.n dZ,.n e0,.p (sh e1),.n e2,.n e3,.p (sh e4),.p (sh e5),.n e6,.n e7] k Ha Ta->∃e8:ByteArray,vals = [vs e8]/\(Cl' Wr Mr H3 nK 13 #[vs e8,vE] λz W11 W12=>∃e9:ByteArray,z=.returned (vs e9)/\Ext W11 W12/\(Cl' Wr Mr H3 (λW=>Kn Wr Mr H3 W b0 (Obj.cells (tv cY cZ d0 d1 d2 d3 d4 d5 d6 d7 d8 d9 dA dB dC dD dE dF dG dH dI dJ dK dL dM dN dO dP dQ dR dS dT dU dV dW dX dY dZ e0 e1 e2 e3) 42 (0,0))/\True) 12 #[vp (some ⟨b0,0,none⟩),vs e9] λz W13 W14=>∃(eA:ByteArray) (eB eC eD eE eF eH:Int) (eI:OL) (eJ eK:Nat) (eL:OL) (eM eN:Nat) (eO eP eQ eR eS eU:Int) (eV:OL) (eW eX:Nat) (eY eZ f0 f1 f2 f3:Int) (f4:OL) (f5 f6:Nat) (f7 f8 f9 fA fB fC:Int) (fD:OL) (fE fF:Nat) (fG:OL) (fH fI:Nat),z=.returned (vs eA)/\Bt Wr Mr H3 [(b0,Obj.cells (tv eB eC eD eE eF eH eI eJ eK eL eM eN eO eP eQ eR eS eU eV eW eX eY eZ f0 f1 f2 f3 f4 f5 f6 f7 f8 f9 fA fB fC fD fE fF fG fH fI) 42 (0,0))] W13 W14 λH4=>(Ck ((eA.size:Int)<=8388608) (Ck ((1:Int)<=8388608) (Es Wr Mr H4 nK λW15=>∃fJ:ByteArray,Eo' (.bop .add 9 (.tmp 31) (.const (vE))) [vs eA,vE] W15 (.value (vs fJ)) λW16=>Ext W15 W16/\(Cl' Wr Mr H4 (λW=>Kn Wr Mr H4 W b2 (Obj.cells #[vp (ab e4 0),vsl e5 e6 e7] 46 (0,0))/\True) 11 #[vp (some ⟨b2,0,none⟩),vs fJ] λz W17 W18=>∃(fK:Int) (fL:Value) (fM fN:OL) (fO fP:Nat),z=.returned (vt #[vi fK,fL])/\Bt Wr Mr H4 [(b2,Obj.cells #[vp (ab fM 0),vsl fN fO fP] 46 (0,0))] W17 W18 λH5=>(Ck (0<=(eJ:Int)) (Ck (0<=(eK:Int)) (Ck (0<=(eM:Int)) (Ck (0<=(eN:Int)) (Ck (0<=(eW:Int)) (Ck (0<=(eX:Int)) (Ck (0<=(f5:Int)) (Ck (0<=(f6:Int)) (Ck (0<=(fE:Int)) (Ck (0<=(fF:Int)) (Ck (0<=(fH:Int)) (Ck (0<=(fI:Int)) (Ck (0<=(fO:Int)) (Ck (0<=(fP:Int)) (∃(T2:Nat->Prop) (K2:Hp),K2.le H5/\I0 [.i eB,.i eC,.i eD,.i eE,.i eF,.i eH,.p (sh eI),.n eJ,.n eK,.p (sh eL),.n eM,.n eN,.i eO,.i eP,.i eQ,.i eR,.i eS,.i eU,.p (sh eV),.n eW,.n eX,.i eY,.i eZ,.i f0,.i f1,.i f2,.i f3,.p (sh f4),.n f5,.n f6,.i f7,.i f8,.i f9,.i fA,.i fB,.i fC,.p (sh fD),.n fE,.n fF,.p (sh fG),.n fH,.n fI,.p (sh fM),.p (sh fN),.n fO,.n fP] (k+1) K2 T2/\(∀b o,K2 b=some o->(∃q,Ha b=some q)\/(∃q,D b=some q)\/Wr.heap.size<=b)/\∀b,T2 b->(Ta b\/Wr.heap.size<=b)/\(∃o,K2 b=some o)/\D b=none))))))))))))))))))))))/\(∀(H3:Hp) (Ta:Nat->Prop),aT λcY cZ d0 d1 d2 d3 d4 d5 d6 d7 d8 d9 dA dB dC dD dE dF dG dH dI dJ dK dL dM dN dO dP dQ dR dS dT dU dV dW dX dY dZ e0 e1 e2 e3=>∀(e4 e5:OL) (e6 e7:Nat),I0 [.i cY,.i cZ,.i d0,.i d1,.i d2,.i d3,.p (sh d4),.n d5,.n d6,.p (sh d7),.n d8,.n d9,.i dA,.i dB,.i dC,.i dD,.i dE,.i dF,.p (sh dG),.n dH,.n dI,.i dJ,.i dK,.i dL,.i dM,.i dN,.i dO,.p (sh dP),.n dQ,.n dR,.i dS,.i dT,.i dU,.i dV,.i dW,.i dX,.p (sh dY),.n dZ,.n e0,.p (sh e1),.n e2,.n e3,.p (sh e4),.p (sh e5),.n e6,.n e7] N H3 Ta->(C H3 (λW=>Kn W0 M H3 W b2 (Obj.cells #[vp (ab e4 0),vsl e5 e6 e7] 46 (0,0))/\True) 14 #[vp (some ⟨b2,0,none⟩)] λz W11 W12=>∃e8:ByteArray,z=.returned (vs e8)/\Tn W0 M H3 W11 W12 λH4=>T H4 nK (vt #[vs e8,vi 0]))))))))))))))))))) (T H0 nK (vt #[vA,vi 1])))) (C H0 nK 9 #[] λz W5 W6=>eG λx3 x4 x5 x6 x7 x8 x9 c0 c1 c2 c3 c4 c5 c6 c7 c8 c9 cA cB cC cD cE cF cG cH cI cJ cK cL cM cN cO cP cQ cR cS cT cU cV=>z=.returned (vg (gv x3 x4 x5 x6 x7 x8 x9 c0 c1 c2 c3 c4 c5 c6 c7 c8 c9 cA cB cC cD cE cF cG cH cI cJ cK cL cM cN cO cP cQ cR cS cT cU cV))/\Fr W5 W6 H0 λH1=>(∀b0:Nat,(∀b1:Nat,(∀b2:Nat,(C H1 nK 10 #[vs x0] λz W7 W8=>∃cW:OL,z=.returned (Value.func (.func 21) #[] #[vp (ab cW 0)])/\Fr W7 W8 H1 λH2=>(Ck (0<=(c0:Int)) (Ck (0<=(c1:Int)) (Ck (0<=(c3:Int)) (Ck (0<=(c4:Int)) (Ck (0<=(cC:Int)) (Ck (0<=(cD:Int)) (Ck (0<=(cL:Int)) (Ck (0<=(cM:Int)) (Ck (0<=(cU:Int)) (Ck (0<=(cV:Int)) (∃(own:Nat->Prop) (N:Nat) (item:Nat->List Value->Hp->Prop) (I0:List Dat->Nat->Hp->(Nat->Prop)->Prop) (Hi Ha:Hp) (Ta:Nat->Prop),xA Tryz.prog W0 M 21 [vp (ab cW 0)] H2 own N item I0 [.i x3,.i x4,.i x5,.i x6,.i x7,.i x8,.p (sh x9),.n c0,.n c1,.p (sh c2),.n c3,.n c4,.i c5,.i c6,.i c7,.i c8,.i c9,.i cA,.p (sh cB),.n cC,.n cD,.i cE,.i cF,.i cG,.i cH,.i cI,.i cJ,.p (sh cK),.n cL,.n cM,.i cN,.i cO,.i cP,.i cQ,.i cR,.i cS,.p (sh cT),.n cU,.n cV,.p none,.n 0,.n 0,.p none,.p none,.n 0,.n 0] Hi Ha Ta/\(∀(k:Nat) (vals:List Value) (Wr:World) (Mr:Nat->Prop) (Ha:Hp) (Ta:Nat->Prop) (D H3:Hp),k<N->W0.heap.size<=Wr.heap.size->item k vals D->(∀b,Ta b->Mr b/\D b=none)->Ha.le H3->D.le H3->aT λcX cY cZ d0 d1 d2 d3 d4 d5 d6 d7 d8 d9 dA dB dC dD dE dF dG dH dI dJ dK dL dM dN dO dP dQ dR dS dT dU dV dW dX dY dZ e0 e1 e2=>∀(e3 e4:OL) (e5 e6:Nat),I0 [.i cX,.i cY,.i cZ,.i d0,.i d1,.i d2,.p (sh d3),.n d4,.n d5,.p (sh d6),.n d7,.n d8,.i d9,.i dA,.i dB,.i dC,.i dD,.i dE,.p (sh dF),.n dG,.n dH,.i dI,.i dJ,.i dK,.i dL,.i dM,.i dN,.p (sh dO),.n dP,.n dQ,.i dR,.i dS,.i dT,.i dU,.i dV,.i dW,.p (sh dX),.n dY,.n dZ,.p (sh e0),.n e1,.n e2,.p (sh e3),.p (sh e4),.n e5,.n e6] k Ha Ta->∃e7:ByteArray,vals = [vs e7]/\(Cl' Wr Mr H3 nK 13 #[vs e7,vE] λz W9 W10=>∃e8:ByteArray,z=.returned (vs e8)/\Ext W9 W10/\(Cl' Wr Mr H3 (λW=>Kn Wr Mr H3 W b0 (Obj.cells (tv cX cY cZ d0 d1 d2 d3 d4 d5 d6 d7 d8 d9 dA dB dC dD dE dF dG dH dI dJ dK dL dM dN dO dP dQ dR dS dT dU dV dW dX dY dZ e0 e1 e2) 42 (0,0))/\True) 12 #[vp (some ⟨b0,0,none⟩),vs e8] λz W11 W12=>∃(e9:ByteArray) (eA eB eC eD eE eF:Int) (eH:OL) (eI eJ:Nat) (eK:OL) (eL eM:Nat) (eN eO eP eQ eR eS:Int) (eU:OL) (eV eW:Nat) (eX eY eZ f0 f1 f2:Int) (f3:OL) (f4 f5:Nat) (f6 f7 f8 f9 fA fB:Int) (fC:OL) (fD fE:Nat) (fF:OL) (fG fH:Nat),z=.returned (vs e9)/\Bt Wr Mr H3 [(b0,Obj.cells (tv eA eB eC eD eE eF eH eI eJ eK eL eM eN eO eP eQ eR eS eU eV eW eX eY eZ f0 f1 f2 f3 f4 f5 f6 f7 f8 f9 fA fB fC fD fE fF fG fH) 42 (0,0))] W11 W12 λH4=>(Ck ((e9.size:Int)<=8388608) (Ck ((1:Int)<=8388608) (Es Wr Mr H4 nK λW13=>∃fI:ByteArray,Eo' (.bop .add 9 (.tmp 31) (.const (vE))) [vs e9,vE] W13 (.value (vs fI)) λW14=>Ext W13 W14/\(Cl' Wr Mr H4 (λW=>Kn Wr Mr H4 W b2 (Obj.cells #[vp (ab e3 0),vsl e4 e5 e6] 46 (0,0))/\True) 11 #[vp (some ⟨b2,0,none⟩),vs fI] λz W15 W16=>∃(fJ:Int) (fK:Value) (fL fM:OL) (fN fO:Nat),z=.returned (vt #[vi fJ,fK])/\Bt Wr Mr H4 [(b2,Obj.cells #[vp (ab fL 0),vsl fM fN fO] 46 (0,0))] W15 W16 λH5=>(Ck (0<=(eI:Int)) (Ck (0<=(eJ:Int)) (Ck (0<=(eL:Int)) (Ck (0<=(eM:Int)) (Ck (0<=(eV:Int)) (Ck (0<=(eW:Int)) (Ck (0<=(f4:Int)) (Ck (0<=(f5:Int)) (Ck (0<=(fD:Int)) (Ck (0<=(fE:Int)) (Ck (0<=(fG:Int)) (Ck (0<=(fH:Int)) (Ck (0<=(fN:Int)) (Ck (0<=(fO:Int)) (∃(T2:Nat->Prop) (K2:Hp),K2.le H5/\I0 [.i eA,.i eB,.i eC,.i eD,.i eE,.i eF,.p (sh eH),.n eI,.n eJ,.p (sh eK),.n eL,.n eM,.i eN,.i eO,.i eP,.i eQ,.i eR,.i eS,.p (sh eU),.n eV,.n eW,.i eX,.i eY,.i eZ,.i f0,.i f1,.i f2,.p (sh f3),.n f4,.n f5,.i f6,.i f7,.i f8,.i f9,.i fA,.i fB,.p (sh fC),.n fD,.n fE,.p (sh fF),.n fG,.n fH,.p (sh fL),.p (sh fM),.n fN,.n fO] (k+1) K2 T2/\(∀b o,K2 b=some o->(∃q,Ha b=some q)\/(∃q,D b=some q)\/Wr.heap.size<=b)/\∀b,T2 b->(Ta b\/Wr.heap.size<=b)/\(∃o,K2 b=some o)/\D b=none))))))))))))))))))))))/\(∀(H3:Hp) (Ta:Nat->Prop),aT λcX cY cZ d0 d1 d2 d3 d4 d5 d6 d7 d8 d9 dA dB dC dD dE dF dG dH dI dJ dK dL dM dN dO dP dQ dR dS dT dU dV dW dX dY dZ e0 e1 e2=>∀(e3 e4:OL) (e5 e6:Nat),I0 [.i cX,.i cY,.i cZ,.i d0,.i d1,.i d2,.p (sh d3),.n d4,.n d5,.p (sh d6),.n d7,.n d8,.i d9,.i dA,.i dB,.i dC,.i dD,.i dE,.p (sh dF),.n dG,.n dH,.i dI,.i dJ,.i dK,.i dL,.i dM,.i dN,.p (sh dO),.n dP,.n dQ,.i dR,.i dS,.i dT,.i dU,.i dV,.i dW,.p (sh dX),.n dY,.n dZ,.p (sh e0),.n e1,.n e2,.p (sh e3),.p (sh e4),.n e5,.n e6] N H3 Ta->(C H3 (λW=>Kn W0 M H3 W b2 (Obj.cells #[vp (ab e3 0),vsl e4 e5 e6] 46 (0,0))/\True) 14 #[vp (some ⟨b2,0,none⟩)] λz W9 W10=>∃e7:ByteArray,z=.returned (vs e7)/\Tn W0 M H3 W9 W10 λH4=>T H4 nK (vt #[vs e7,vi 0])))))))))))))))))))))))) :=
 Xa (hi:={loops := [(8,.iter [(false,[.str])] [(24,[.pt (.int .i64),.pt (.int .i64),.pt (.int .i64),.pt (.int .i64),.pt (.int .i64),.pt (.int .i64),.pt .sl,.pt .sl,.pt (.int .i64),.pt (.int .i64),.pt (.int .i64),.pt (.int .i64),.pt (.int .i64),.pt (.int .i64),.pt .sl,.pt (.int .i64),.pt (.int .i64),.pt (.int .i64),.pt (.int .i64),.pt (.int .i64),.pt (.int .i64),.pt .sl,.pt (.int .i64),.pt (.int .i64),.pt (.int .i64),.pt (.int .i64),.pt (.int .i64),.pt (.int .i64),.pt .sl,.pt .sl]),(5,[.pt .ptr,.pt .sl])])],funs := [(10,21,1)],mods := [(12,[0]),(11,[0])],turns := [12,11,14]}) (args := [.str 0]) (nv:=1) (e:=lk [.s x0]) Tryz.func4
section
open Classical
set_option maxRecDepth 100000
section
variable{H:Hp}{W:World}{p q:OL}{n c:Nat}{l:List UInt8}{g:Option Nat}
theorem xU(m:List UInt8):Lib.strCells (bs m)=(m.map lS).flatten:=by rw[uQ];rfl
theorem uR(hH:H.le (ak W))(ho:By H p n c l g){m:List UInt8}(h0:m ≠ [])(h63:n+m.length<=70368744177664)(ty:Nat) :
  ∃p' c' g' W' H',(EK.sem (.bi .append #[44,9] ty) [vsl p n c,.string (bs m)]).run Tryz.prog W=.ok (.value (vsl p' (n+m.length) c')) W'/\Upd g W W' H H'/\By H' p' (n+m.length) c' (l++m) g'/\(g'=g\/g'=some W.heap.size):=by
 obtain⟨i,z,i1,i2,i3,i4,i5,_⟩:=aR infoByte;have hsem:∀(v v2:Value),(EK.sem (.bi .append #[44,9] ty) [v,v2]).run Tryz.prog W=((Builtin.append_ #[44,9] ty #[v,v2]).run Tryz.prog W).andThen λv w=>.ok (.value v) w:=λv v2=>by
  simp[EK.sem,builtin]
 have hpos:0<m.length:=List.length_pos_iff.2 h0;have hms:=az m
 have hrows:∀r∈(l++m).map lS,r.length=1/\∀v∈r,v.oneCell'=true:=q9 _;have hlen:n+m.length=((l++m).map lS).length:=by
  have:=ho.1;simp only[List.length_map,List.length_append] at this |-;omega
 have hsl:(Lib.strCells (bs m)).length=(bs m).size:=Lib.strCells_length _;have hlr:(l.map lS).flatten.length=n * 1:=by rw[fd (λr h=>(ho.2.1 r h).1),<- ho.1]
 have happ:((l++m).map lS).flatten=(l.map lS).flatten++Lib.strCells (bs m):=by rw[xU,List.map_append,List.flatten_append]
 by_cases hroom:n+m.length<=c
 ·obtain⟨q1,q2,q3,q4,q5⟩:=ho
  rcases q5 with⟨rfl,_⟩ | ⟨b,C,rfl,rfl,h6,h7,h8⟩
  ·omega
  ·have hrun:=Lib.run_append_room_string (P:=Tryz.prog) (w:=W) 44 9 ty 5 i Tryz.underlying44 Tryz.underlying9 i1 i3 b n c C (hH b _ h6) (bs m) (by omega) (by omega);have hw:=Ow.write (H:=H) ⟨q1,q2,q3,q4,.inr ⟨b,C,rfl,rfl,h6,h7,h8⟩⟩ rfl rfl h7 (off:=n) (vs:=Lib.strCells (bs m)) hlen hrows hroom (by rw[hsl];omega) (by
    rw[happ,<- h8,Nat.mul_one,Nat.mul_one];have e1:(C.toList.take n++Lib.strCells (bs m)).length=n+m.length:=by
     rw[List.length_append,List.length_take,hsl,Array.length_toList];omega
    rw[<- e1,List.take_left])
   rw[hsl] at hw;refine⟨_,c,some b,_,_,?_,Upd.setRow hH h6,hw,.inl rfl⟩;rw[hsem];simp only[vsl,ab,Option.map_some,Int.toNat_zero,BB,lO,hrun,Result.andThen_ok,hms]
 ·have hge:=grownCap_ge W (n+m.length) c 5;have hcm:grownCap W (n+m.length) c 5<=maxLen:=grownCap_le_maxLen W (n+m.length) c 5 (by simp only[maxLen];omega)
  have fin:By (bh H W.heap.size (.cells ((l.map lS).flatten.toArray++(Lib.strCells (bs m)).toArray++Builtin.zeroCells z.cells (grownCap W (n+m.length) c 5-(n+m.length))) 5)) (some (W.heap.size,0)) (n+m.length) (grownCap W (n+m.length) c 5) (l++m) (some W.heap.size):=by
   refine Ow.made hlen hrows hge hcm ?_ ?_ _
   ·simp only[Array.size_append,List.size_toArray,size_zeroCells,i5,hlr,hsl,hms]
    omega
   ·simp only[Array.toList_append,happ]
    have:(n+m.length) * 1=((l.map lS).flatten++Lib.strCells (bs m)).length:=by rw[List.length_append,hlr,hsl,hms];omega
    rw[this];exact List.take_left
  refine⟨some (W.heap.size,0),_,some W.heap.size,_,_,?_,Upd.made hH _,fin,.inr rfl⟩;rw[hsem]
  cases p with
  | none =>
   obtain⟨q1,q2,q3,q4,q5⟩:=ho
   rcases q5 with⟨rfl,_⟩ | ⟨b,C,h,_⟩
   ·have hn0:n=0:=by omega
    subst hn0;have hl0:l = []:=by
     have:=q1.symm;simp only[List.length_map] at this;exact List.length_eq_zero_iff.1 this
    subst hl0;have hrun:=run_append_nil_string (P:=Tryz.prog) W 44 9 ty 5 i z Tryz.underlying44 Tryz.underlying9 i1 i2 (bs m) (by omega) (by omega) (by rw[i4];omega)
    have hc:Array.map (λb:UInt8=>Value.int .u8 (b.toNat:Int)) (bs m).data=(Lib.strCells (bs m)).toArray:=by
     apply Array.ext';simp[Lib.strCells]
    rw[hc,hms] at hrun;simp only[vsl,ab,Option.map_none,hrun,Result.andThen_ok]
    simp
   ·cases h
  | some a =>
   have holds:∀(j:Nat) u,(l.map lS).flatten[j]?=some u->W.cell? (a.addr.add j)=some u:=ho.rows.cells hH (by omega);have hrun:=Lib.run_append_grow_string (P:=Tryz.prog) (w:=W) 44 9 ty 5 i z Tryz.underlying44 Tryz.underlying9 i1 i2 a.addr n c (l.map lS).flatten (by rw[hlr,i3]) holds (bs m) (by omega) (by omega) (growslice_fits (by omega) (by rw[i4,hms];omega))
   rw[hms] at hrun;simp only[vsl,ab,Option.map_some,Int.toNat_zero,BB,lO,hrun,Result.andThen_ok]
end
end
section
open Classical
set_option maxRecDepth 100000
abbrev bC(p q:OL)(n c:Nat):Array Value:=#[.pointer (ab p 0),vsl q n c]
section
variable{H:Hp}{p q:OL}{n c b0:Nat}{l:List UInt8}{g:Option Nat}
theorem CJ{W:World}(x y:Operand)(hp:p=none\/p=some ((b0:Blk),0)):(EK.sem (.bop .eql 43 x y) [.pointer (ab p 0),.pointer none]).run Tryz.prog W=.ok (.value (vb p.isNone)) W:=by
 rcases hp with rfl | rfl
 ·kernel_rfl
 ·kernel_rfl
theorem rA:fc Tryz.prog 46 2 32=true:=by kernel_rfl
theorem y5{W:World}(x y:Operand):(EK.sem (.bop .neq 43 x y) [.pointer (ab (some ((b0:Blk),0)) 0),.pointer (some ⟨b0,0,none⟩)]).run Tryz.prog W=.ok (.value (vb false)) W:=by
 obtain⟨i,z,i1,_⟩:=aR rA;have h:=Lib.run_neq_ptr_same (P:=Tryz.prog) W ⟨b0,0,none⟩ Tryz.underlying43 i1
 have e:ab (some ((b0:Blk),0)) 0=some ⟨b0,0,none⟩:=rfl;simp only[EK.sem,List.getD_cons_zero,List.getD_cons_succ,e,eqGuard]
 simp[h]
theorem uZ{W:World}{T:Nat}{C:Array Value}(h:W.heap[b0]?=some (.cells C T (0,0))):W.shape? b0=some (T,C.size):=by simp[World.shape?,h]
theorem Em{W:World}(h:W.heap[b0]?=some (.cells (bC p q n c) 46 (0,0))):(EK.sem (.conv 43 94) [tq b0]).run Tryz.prog W=.ok (.value (tq b0)) W:=by
 obtain⟨i,z,i1,_,i3,_⟩:=aR rA;have:=Lib.run_to_unsafe (P:=Tryz.prog) W ⟨b0,0,none⟩ Tryz.underlying43 Tryz.underlying94 i1 (by omega) (uZ h) (by simp)
 simp[EK.sem,this]
theorem Bz{W:World}(h:W.heap[b0]?=some (.cells (bC p q n c) 46 (0,0))):(EK.sem (.conv 94 43) [tq b0]).run Tryz.prog W=.ok (.value (tq b0)) W:=by
 obtain⟨i,z,i1,_,i3,_⟩:=aR rA;have:=Lib.run_from_unsafe (P:=Tryz.prog) W ⟨b0,0,none⟩ Tryz.underlying94 Tryz.underlying43 i1 (uZ h) (by kernel_rfl)
 simp[EK.sem,this]
theorem Ap{W:World}:(EK.sem (.ext 39) [tq b0]).run Tryz.prog W=.ok (.value (tq b0)) W:=by
 have:=run_callFunc_extern (P:=Tryz.prog) Tryz.func39 (by kernel_rfl) (by kernel_rfl) (by kernel_rfl) (e:=Extern.AbiNoEscape.same) (by kernel_rfl) #[tq b0] W;simp only[EK.sem]
 rw[show [tq b0].toArray=#[tq b0] from rfl,this,Lib.run_noEscape];rfl
theorem s9(hp:p=none\/p=some ((b0:Blk),0)):Gg Tryz.prog 23 #[tq b0] H b0 46 (bC p q n c) (λv C' _=>v=.tuple #[]/\C'=bC (some ((b0:Blk),0)) q n c) False:=λW hH hW hn=>by
 refine ua p q n c b0 (λb=>b=b0) H W _ hH ⟨hW,rfl,hn⟩ λW1 n1 _=>⟨p.isNone,_,CJ _ _ hp,Ext.refl _,λh=>?_,λh=>?_⟩
 ·refine λW3 n3 k3=>⟨_,Em k3.1.eq,Ext.refl _,λW5 n5 k5=>⟨_,Ap,Ext.refl _,λW7 n7 k7=>⟨_,Bz k7.1.eq,Ext.refl _,?_⟩⟩⟩
  exact Rt.gg (C':=bC (some ((b0:Blk),0)) q n c) (λW k=>k.1.eq) ⟨rfl,rfl⟩
 ·have hp2:p=some ((b0:Blk),0):=by
   rcases hp with rfl | rfl
   ·simp at h
   ·rfl
  subst hp2;intro W3 n3 _;refine⟨false,_,y5 _ _,Ext.refl _,λh=>(by cases h),λ_=>?_⟩;exact Rt.gg (C':=bC (some ((b0:Blk),0)) q n c) (λW k=>k.1.eq) ⟨rfl,rfl⟩
structure Fh(W:World)(H:Hp)(g:Option Nat)(K:Hp)(p:OL)(n c:Nat)(l:List UInt8)(g1:Option Nat):Prop where
 by_:By K p n c l g1
 own:g1=g\/∀b,g1=some b->W.heap.size<=b
 keep:∀K0:Hp,K0.le H->(∀b,g=some b->K0 b=none)->K0.le K
 dom:∀b o,K b=some o->(∃o',H b=some o')\/W.heap.size<=b
theorem Bj{W:World}{t:List UInt8}(hp:p=none\/p=some ((b0:Blk),0))(hH:H.le (ak W))(h0:W.heap[b0]?=some (.cells (bC p q n c) 46 (0,0)))(hn:H b0=none)(ho:By H q n c l g)(ht:t ≠ [])(hsz:n+t.length<=1000000) :
  Calls Tryz.prog 11 #[tq b0,.string (bs t)] W λz W'=>∃q' n' c' g' H',z=.returned (.tuple #[vi ((bs t).size:Int),.nilIface])/\W'.heap[b0]?=some (.cells (bC (some ((b0:Blk),0)) q' n' c') 46 (0,0))/\Mod (λb=>b=b0\/g=some b) W W'/\H'.le (ak W')/\Fh W H g H' q' n' c' (l++t) g':=by
 refine zN p q n c (bs t) b0 (λb=>b=b0\/g=some b) H W _ hH ⟨h0,.inl rfl,hn⟩ ?_;refine Cl.gg (s9 hp) (λW k=>k.1) ?_;rintro v W1 W2 C D ⟨rfl,rfl⟩ hb n1 h1 h2;refine⟨some ((b0:Blk),0),q,n,c,rfl,hb.md λW3 n3 _=>?_⟩;obtain⟨p',c',g',W4,K3,hrun,hu,ho3,hg3⟩:=uR n3.sub ho ht (by omega) 44;refine⟨p',_,c',W4,hrun,K3,hu.own ho (λb hb=>.inr (.inr hb)),λW5 n5 k5=>⟨p',_,c',g',K3,rfl,k5.1.eq,n5.mod,n5.sub,ho3,?_,λK0 h1 h2=>hu.keep n3.sub h1 h2,λb o hb=>?_⟩⟩
 ·rcases hg3 with h | h
  ·exact .inl h
  ·exact .inr λb hb=>by rw[h] at hb;simp only[Option.some.injEq] at hb;have:=n3.mod.size;omega
 ·rcases hu.dom b o hb with h | h
  ·exact .inl h
  ·have:=n3.mod.size;exact .inr (by omega)
theorem Cl.writeS{W0:World}{M:Nat->Prop}{kn:World->Prop}{Φ:Ending->World->World->Prop}{t:List UInt8}(hp:p=none\/p=some ((b0:Blk),0))(ho:By H q n c l g)(hg:∀b,g=some b->W0.heap.size<=b\/M b)(ht:t ≠ [])(hsz:n+t.length<=1000000)
  (hkn:∀W,kn W->Kn W0 M H W b0 (.cells (bC p q n c) 46 (0,0)))
  (hk2:∀W W' q' n' c' g' H',Now W0 M H W->Fh W H g H' q' n' c' (l++t) g'->(∀K:Hp->Prop,K H'->Bt W0 M H [(b0,.cells (bC (some ((b0:Blk),0)) q' n' c') 46 (0,0))] W W' K)->Φ (.returned (.tuple #[vi ((bs t).size:Int),.nilIface])) W W') :
  Cl Tryz.prog W0 M H kn 11 #[tq b0,.string (bs t)] Φ:=λW nW kW=>by
 have k1:=hkn W kW;refine (Bj hp nW.sub k1.eq k1.off ho ht hsz).mono λz W' ⟨q',n',c',g',H',hz,h1,h2,h3,h4⟩=>?_;subst hz;have s0:=setRow_heap W b0 _ (bC (some ((b0:Blk),0)) q' n' c') _ _ k1.eq
 have o0:∀b,b≠b0->(W.setRow b0 (bC (some ((b0:Blk),0)) q' n' c')).heap[b]?=W.heap[b]?:=λb hb=>setRow_other W b0 b _ hb;refine hk2 W W' q' n' c' g' H' nW h4 λK hK=>⟨W.setRow b0 (bC (some ((b0:Blk),0)) q' n' c'),H',⟨rfl,rfl,rfl,by simp,λb _ hb=>o0 b λhe=>hb ⟨_,List.mem_singleton_self _,he.symm⟩⟩,λr hr=>?_,⟨⟨h2.os,h2.tape,h2.output,by simpa using h2.size,λb hb hnb=>?_⟩,h3,λb o hb=>?_⟩,hK⟩
 ·simp only[List.mem_singleton] at hr;subst hr;exact s0
 ·simp only[size_setRow] at hb
  by_cases he:b=b0
  ·rw[he,h1];exact s0.symm
  ·rw[o0 b he,h2.blk b hb];rintro (h5 | h5)
   ·exact he h5
   ·exact hnb ⟨ho.held b h5,hg b h5⟩
 ·rcases h4.dom b o hb with h5 | h5
  ·exact .inl h5
  ·exact .inr (by simpa using h5)
theorem yM{W0:World}{M:Nat->Prop}{kn:World->Prop}{Φ:Ending->World->World->Prop}(ho:By H q n c l g)(hq:n=0->q=none)(hg:∀b,g=some b->W0.heap.size<=b\/M b)(hl:l.length<=1000000)
  (hkn:∀W,kn W->Kn W0 M H W b0 (.cells (bC p q n c) 46 (0,0)))
  (hk2:∀W W',(∃H',gH W0 M H W H' W')->Φ (.returned (.string (bs l))) W W'):Cl Tryz.prog W0 M H kn 14 #[tq b0] Φ:=λW nW kW=>by
 have k1:=hkn W kW;have hn:n=l.length:=by simpa using ho.1
 have key:Calls Tryz.prog 14 #[tq b0] W λz W'=>z=.returned (.string (bs l))/\∃H':Hp,H'.le (ak W')/\Mod (λb=>b=b0\/g=some b) W W'/\W'.heap[b0]?=some (.cells (bC p q n c) 46 (0,0))/\(∀b o,H' b=some o->(∃o',H b=some o')\/W.heap.size<=b):=by
  refine xQ p q n c b0 (λb=>b=b0\/g=some b) H W _ nW.sub ⟨k1.eq,.inl rfl,k1.off⟩ ⟨by omega,λ_ W1 n1 _=>?_⟩;have hsem1:∀(v:Value) (W:World),(EK.sem (.bi .unsafeSliceData #[44] 76) [v]).run Tryz.prog W=((Builtin.unsafeSliceData_ #[44] 76 #[v]).run Tryz.prog W).andThen λv w=>.ok (.value v) w:=λv W=>by
   simp[EK.sem,builtin]
  have hsem2:∀(v v2:Value) (W:World),(EK.sem (.bi .unsafeString #[76,3] 9) [v,v2]).run Tryz.prog W=((Builtin.unsafeString_ #[76,3] 9 #[v,v2]).run Tryz.prog W).andThen λv w=>.ok (.value v) w:=λv v2 W=>by
   simp[EK.sem,builtin]
  rcases Nat.eq_zero_or_pos n with hz | hz
  ·subst hz;have hl0:l = []:=List.length_eq_zero_iff.1 hn.symm
   subst hl0;have hq0:=hq rfl
   subst hq0;refine⟨none,W1,?_,Fr.is (D:=noH) (Ext.refl _) (ba _) (λb o h=>by cases h) λH1 le1 _ W3 n3 _=>⟨bs [],W3,?_,H1,⟨Mod.refl _ _,n3.sub,λb o h=>.inl ⟨o,h⟩⟩,λW5 n5 k5=>⟨rfl,noH,ba _,n5.mod,k5.1.eq,λb o h=>by cases h⟩⟩⟩
   ·rw[hsem1];rfl
   ·rw[hsem2];have:=Lib.run_unsafeString_none (P:=Tryz.prog) (w:=W3) 76 3 9 none
    exact congrArg (λr=>r.andThen λv w=>Result.ok (Next.value v) w) this
  ·obtain⟨q1,q2,q3,q4,q5⟩:=ho
   rcases q5 with⟨rfl,_⟩ | ⟨b,C,rfl,rfl,h6,h7,h8⟩
   ·omega
   ·have hby:By H (some ((b:Blk),0)) n c l (some b):=⟨q1,q2,q3,q4,.inr ⟨b,C,rfl,rfl,h6,h7,h8⟩⟩
    refine⟨some ((b:Blk),0),W1,?_,Fr.is (D:=noH) (Ext.refl _) (ba _) (λb o h=>by cases h) λH1 le1 _ W3 n3 _=>?_⟩
    ·rw[hsem1];have:=Lib.run_unsafeSliceData_row (P:=Tryz.prog) (w:=W1) #[44] 76 ⟨b,0,none⟩ n c (by omega)
     exact congrArg (λr=>r.andThen λv w=>Result.ok (Next.value v) w) this
    have hb3:=n3.sub b _ (le1 b _ h6);have hbw:=ag (nW.sub b _ h6)
    have hcell:∀(j:Nat) (x:UInt8),l[j]?=some x->W3.cell? ((⟨b,0,none⟩:Addr).add j)=some (.int .u8 x.toNat):=λj x hx=>by
     have:=(hby.rows.mono le1).cells n3.sub (by omega) j (.int .u8 (x.toNat:Int)) (by rw[uQ];simp[hx]);simpa using this
    have hrun:=Lib.run_unsafeString_row (P:=Tryz.prog) (w:=W3) 76 3 9 5 Tryz.underlying76 (by kernel_rfl) b C.size (uZ hb3) l (by
     intro he;rw[he] at hn;simp at hn;omega) (by omega) (by omega) hcell
    have hfz:∀k,k≠b->(W3.freeze ⟨b,0,none⟩ l.length).heap[k]?=W3.heap[k]?:=λk hk=>by
     unfold World.freeze
     split
     ·rfl
     ·simp only[Array.getElem?_modify]
      rw[if_neg (λh=>hk h.symm)]
    have hfs:(W3.freeze ⟨b,0,none⟩ l.length).heap.size=W3.heap.size:=by
     unfold World.freeze
     split<;>simp
    have hfo:(W3.freeze ⟨b,0,none⟩ l.length).os=W3.os/\(W3.freeze ⟨b,0,none⟩ l.length).tape=W3.tape/\(W3.freeze ⟨b,0,none⟩ l.length).output=W3.output:=by
     unfold World.freeze
     split<;>exact⟨rfl,rfl,rfl⟩
    refine⟨bs l,W3.freeze ⟨b,0,none⟩ l.length,?_,(λk=>if k=b then (W3.freeze ⟨b,0,none⟩ l.length).heap[b]? else H1 k),⟨⟨hfo.1,hfo.2.1,hfo.2.2,by omega,λk hk hnk=>?_⟩,λk o hk=>?_,λk o hk=>?_⟩,λW5 n5 k5=>⟨rfl,λk=>if k=b then W5.heap[b]? else none,λk o hk=>?_,n5.mod,k5.1.eq,λk o hk=>?_⟩⟩
    ·rw[hsem2,hn];exact congrArg (λr=>r.andThen λv w=>Result.ok (Next.value v) w) hrun
    ·by_cases he:k=b
     ·subst he;exact absurd ⟨⟨_,le1 k _ h6⟩,.inr (.inr rfl)⟩ hnk
     ·exact hfz k he
    ·skip
     split at hk
     ·rename_i he;subst he;exact hk
     ·rename_i he;simp only[ak]
      rw[hfz k he];exact n3.sub k o hk
    ·skip
     split at hk
     ·rename_i he;subst he;exact .inl ⟨_,le1 k _ h6⟩
     ·exact .inl ⟨o,hk⟩
    ·simp only at hk
     split at hk
     ·rename_i he;subst he;exact hk
     ·cases hk
    ·simp only at hk
     split at hk
     ·rename_i he;subst he;exact .inl ⟨_,h6⟩
     ·cases hk
 refine key.mono λz W' ⟨hz,H',h1,h2,h3,h4⟩=>?_;subst hz;refine hk2 W W' ⟨H',⟨⟨h2.os,h2.tape,h2.output,h2.size,λb hb hnb=>?_⟩,h1,h4⟩⟩
 by_cases he:b=b0
 ·rw[he,h3,k1.eq]
 ·refine h2.blk b hb ?_;rintro (h5 | h5)
  ·exact he h5
  ·exact hnb ⟨ho.held b h5,hg b h5⟩
end
end
section
open Classical
set_option maxRecDepth 100000
def cu:List UInt8->List UInt8->List (List UInt8)
 | cur,[]=>if cur = [] then [] else [cur]
 | cur,b::l=>if b=10 then (cur ++ [b])::cu [] l else cu (cur ++ [b]) l
def bo(l:List UInt8):List (List UInt8):=cu [] l
theorem oH:∀(l cur:List UInt8),(∀k:Nat,l[k]?≠some 10)->cu cur l=if cur++l = [] then [] else [cur++l]
 | [],cur,_=>by simp[cu]
 | b::l,cur,h=>by
  have h0:¬b=10:=λhe=>h 0 (by simp[he]);rw[cu,if_neg h0,oH l (cur ++ [b]) λk hk=>h (k+1) (by simpa using hk)];simp
theorem oA:∀(o:Nat) (l cur:List UInt8),l[o]?=some 10->(∀k:Nat,k<o->l[k]?≠some 10)->cu cur l=(cur++l.take (o+1))::cu [] (l.drop (o+1))
 | _,[],_,h,_=>by simp at h
 | 0,b::l,cur,h,_=>by
  simp only[List.getElem?_cons_zero,Option.some.injEq] at h;subst h;simp[cu]
 | o+1,b::l,cur,h,hn=>by
  have h0:¬b=10:=λhe=>hn 0 (by omega) (by simp[he]);rw[cu,if_neg h0,oA o l (cur ++ [b]) (by simpa using h) λk hk hh=>hn (k+1) (by omega) (by simpa using hh)];simp
theorem Ff(l:List UInt8)(H:Hp):Gv Tryz.prog 22 #[.string (bs l),.int .u8 10] H (vi (Lib.indexByte l 10)):=λW _ =>
 (Tryz.strings_IndexByte (bs l) 10 W).mono λz W' ⟨hz,hw⟩=>⟨hz,by subst hw;exact Ext.refl _⟩
def Bx(t:List UInt8)(k:Nat)(vals:List Value)(_:Hp):Prop:=∃s,(bo t)[k]?=some s/\vals = [.string (bs s)]
theorem A3{Hi:Hp}{b:Nat}{t:List UInt8}(hB:Hi b=some (.cells #[.string (bs t)] 9 (0,0)))(ht:t.length<=4096) :
  zM Tryz.prog 21 [.pointer (ab (some (b,0)) 0)] Hi (λk=>k=b) (bo t).length (Bx t):=by
 intro yl J hround W HJ FT hHi hHJ hJ0 hown hFT;have e0:W.heap[b]?=_:=hHi b _ hB
 obtain⟨hJb,_⟩:=hown b rfl;refine Ai yl (bs t) b (λk=>k=b\/FT k) HJ W _ hHJ ⟨e0,.inl rfl,hJb⟩ ?_;refine⟨λv K=>match v with
   | [.s x]=>∃(k:Nat) (aN:List UInt8) (HJ':Hp) (FT':Nat->Prop),x=bs aN/\aN.length<=4096/\bo t=(bo t).take k++bo aN/\k<=(bo t).length/\J k HJ' FT'/\HJ'.le K/\(∀j,FT' j->(FT j\/W.heap.size<=j)/\∃o,HJ' j=some o)/\HJ' b=none
   | _=>False,λv=>match v with | [.s x]=>x.size | _=>0,⟨0,t,HJ,FT,rfl,ht,by simp,by omega,hJ0,Hp.le_refl _,λj hj=>⟨.inl hj,(hFT j hj).2⟩,hJb⟩,?_⟩
 intro K x ⟨k,aN,HJ',FT',hx,hrl,hsp,hk,hJ,hJK,hF,hJb'⟩;subst hx;rw[az];have round:∀(s r2:List UInt8) (V:World),bo aN=s::bo r2->r2.length<=4096->r2.length<aN.length->Now W (λk=>k=b\/FT k) K V ->
   YieldAt (Fw none) 0 Tryz.prog yl [vs (bs s)].toArray V λz V'=>z=.returned (.bool true)/\∃H',gH W (λk=>k=b\/FT k) K V H' V' /\
    ((∃(k:Nat) (aN:List UInt8) (HJ':Hp) (FT':Nat->Prop),bs r2=bs aN/\aN.length<=4096/\bo t=(bo t).take k++bo aN/\k<=(bo t).length/\J k HJ' FT'/\HJ'.le H'/\(∀j,FT' j->(FT j\/W.heap.size<=j)/\∃o,HJ' j=some o)/\HJ' b=none)/\(bs r2).size<(bs aN).size):=by
  intro s r2 V hl hr2 hlt nV;have hat:(bo t)[k]?=some s:=by
   rw[hsp,hl,List.getElem?_append_right (by rw[List.length_take];omega),List.length_take];simp[Nat.min_eq_left hk]
  have hk1:k<(bo t).length:=(List.getElem?_eq_some_iff.1 hat).1;have hbV:b<V.heap.size:=Nat.lt_of_lt_of_le (ag e0) nV.mod.size
  refine qd (J:=J (k+1)) (HJ:=HJ') (FT:=FT') (D:=noH) (B:=noH) nV (hround k HJ' FT' V _ noH hk1 hJ (Hp.le_trans hJK nV.sub) ⟨s,hat,rfl⟩ (ba _) qV (λ_ _=>rfl)) hJK (ba _) (ba _) (λj hj=>⟨(hF j hj).2,?_,rfl⟩) ?_
  ·rcases (hF j hj).1 with h | h
   ·exact .inr (.inr h)
   ·exact .inl h
  intro V' HJ2 FT2 K2 hJ2 hJK2 _ hF2 hJn2 hV;refine⟨⟨k+1,r2,HJ2,FT2,rfl,hr2,?_,by omega,hJ2,hJK2,λj hj=>⟨?_,(hF2 j hj).2.2⟩,hJn2 b hJb' rfl hbV⟩,by rw[az,az];exact hlt⟩
  ·rw[List.take_add_one,hat]
   conv=>lhs;rw[hsp,hl]
   simp
  ·rcases (hF2 j hj).1 with h | h
   ·exact (hF j h).1
   ·have:=nV.mod.size;exact .inr (by omega)
 refine⟨λhlt=>?_,λhge=>?_⟩
 ·have hge1:=Lib.indexByte_ge aN 10;refine Cl.same (Ff aN K) λW1 W2 hx=>⟨_,rfl,hx,λh0=>?_,λh0=>?_⟩
  ·obtain⟨o,ho⟩:∃o:Nat,Lib.indexByte aN 10=o:=⟨(Lib.indexByte aN 10).toNat,by omega⟩
   obtain⟨h1,h2⟩:=Lib.indexByte_some ho;have holt:o<aN.length:=(List.getElem?_eq_some_iff.1 h1).1
   rw[ho,show ((o:Nat):Int)+1=((o+1:Nat):Int) from rfl];refine⟨in64 (by omega),λ_=>⟨by omega,λ_=>⟨by omega,λ_ W3 n3 _=>⟨_,_,Fq aN (o+1) (by omega),Ext.refl _,by omega,λ_=>⟨by omega,λ_ W5 n5 _=>⟨_,_,wq aN (o+1) (by omega),Ext.refl _,λV nV _=>?_⟩⟩⟩⟩⟩⟩;refine round (aN.take (o+1)) (aN.drop (o+1)) V ?_ (by simp;omega) (by simp;omega) nV;unfold bo;rw[oA o aN [] h1 h2];simp
  ·intro V nV _;have hn:=Lib.indexByte_none (show Lib.indexByte aN 10 = -1 by omega)
   refine round aN [] V ?_ (by simp) (by simp;omega) nV;unfold bo;rw[oH aN [] hn,List.nil_append,if_neg (λh=>by rw[h] at hlt;simp at hlt)];rfl
 ·have hr0:aN = []:=List.length_eq_zero_iff.1 (by omega);subst hr0;have hkn:k=(bo t).length:=by
   have h0:bo [] = []:=rfl;rw[h0,List.append_nil] at hsp;have:=congrArg List.length hsp
   rw[List.length_take] at this;omega
  subst hkn;exact λW' n' _=>⟨⟨_,rfl⟩,HJ',FT',hJ,Hp.le_trans hJK n'.sub,n'.mod⟩
theorem CE(t:List UInt8)(H:Hp):Gf Tryz.prog 10 #[.string (bs t)] H λv D=>∃b:Nat,v=.func (.func 21) #[] #[.pointer (ab (some (b,0)) 0)]/\D b=some (.cells #[.string (bs t)] 9 (0,0)):=λW hH=>by
 refine BQ (bs t) noM H W _ hH λb0=>?_;exact Rt.one (b:=b0) (λW k=>k.1) λD hD=>⟨b0,rfl,hD⟩
end
end Go.Proofs.YtfpmcmhihhnfgaaGreatDoor
