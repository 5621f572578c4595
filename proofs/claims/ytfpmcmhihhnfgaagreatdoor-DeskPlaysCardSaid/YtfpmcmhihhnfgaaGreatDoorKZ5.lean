/- Contracts: the deferred closure of a line. No conditions. -/
import Derived.Test.YtfpmcmhihhnfgaaGreatDoorKZ4
import Derived.RecoverIn
set_option linter.unusedVariables false
set_option linter.unusedSimpArgs false
namespace Go.Proofs.YtfpmcmhihhnfgaaGreatDoor
open Go.RowKit
set_option maxRecDepth 100000
set_option maxHeartbeats 4000000
theorem wM(x0 x1 x2 x3 x4 x5:Int)(x6:OL)(x7 x8:Nat)(x9:OL)(c0 c1:Nat)(c2 c3 c4 c5 c6 c7:Int)(c8:OL)(c9 cA:Nat)(cB cC cD cE cF cG:Int)(cH:OL)(cI cJ:Nat)(cK cL cM cN cO cP:Int)(cQ:OL)(cR cS:Nat)(cT:OL)(cU cV:Nat)(cW:ByteArray)(b0:Nat)(M:Nat->Prop)(H0:Hp)(W0:World)(R:Ending->World->Prop)(hH:H0.le (ak W0))(h0:W0.heap[b0]?=some (Obj.cells #[vi x0,vi x1,vi x2,vi x3,vi x4,vi x5,vsl x6 x7 x8,vsl x9 c0 c1,vi c2,vi c3,vi c4,vi c5,vi c6,vi c7,vsl c8 c9 cA,vi cB,vi cC,vi cD,vi cE,vi cF,vi cG,vsl cH cI cJ,vi cK,vi cL,vi cM,vi cN,vi cO,vi cP,vsl cQ cR cS,vsl cT cU cV] 42 (0,0))/\M b0/\H0 b0=none)(h:let u0:=(tv x0 x1 x2 x3 x4 x5 x6 x7 x8 x9 c0 c1 c2 c3 c4 c5 c6 c7 c8 c9 cA cB cC cD cE cF cG cH cI cJ cK cL cM cN cO cP cQ cR cS cT cU cV);(∀b1:Nat,(Cl' W0 M H0 nK 26 #[vs cW,vB] λz W1 W2=>∃(cX:OL) (cY cZ:Nat),z=.returned (vsl cX cY cZ)/\Fr W1 W2 H0 λH1=>(Ck ((0:Int)<=0/\0<(cY:Int)) (Ck (cX.isSome=true) (∃d0:ByteArray,aa H1 cX (0+(0 * 1)) [vs d0]/\(Cl' W0 M H1 (λW=>Kn W0 M H1 W b0 (Obj.cells u0 42 (0,0))/\True) 27 #[vp (some ⟨b0,0,none⟩)] λz W3 W4=>∃d1:Value,z=.returned (d1)/\Fr W3 W4 H1 λH2=>(Es W0 M H2 nK λW5=>∃(d2 d3:OL),Eo' (.lookup 73 true) [d1,vs d0] W5 (.value (vt #[vg #[vi 2,Value.func (.func 43) #[] #[vp (ab d2 0),vp (ab d3 0)]],vb (true)])) λW6=>Fr W5 W6 H2 λH3=>(∀b2:Nat,(Ck (0<=(cY:Int)) (cg W0 M H3 (λW=>Kn W0 M H3 W b1 (Obj.cells #[vA] 9 (0,0))/\Kn W0 M H3 W b0 (Obj.cells u0 42 (0,0))/\True) 28 #[vb (decide ((cY:Int)=3)),vi 1] (λz W7 W8=>z=.returned (vt #[])/\Ext W7 W8/\(Ck (1<=(cY:Int)) (Ck ((cY:Int)<=(cZ:Int)) (cg W0 M H3 (λW=>Kn W0 M H3 W b1 (Obj.cells #[vA] 9 (0,0))/\Kn W0 M H3 W b0 (Obj.cells u0 42 (0,0))/\True) 43 #[Value.slice (ab cX (0+(if (cZ:Int)=1 then 0 else 1 * ((1:Nat):Int)))) (((cY:Int)-1):Int).toNat (((cZ:Int)-1):Int).toNat,vp (ab d2 0),vp (ab d3 0)] (λz W9 W10=>∃(d4:ByteArray) (d5 d6 d7 d8 d9 dA:Int) (dB:OL) (dC dD:Nat) (dE:OL) (dF dG:Nat) (dH dI dJ dK dL dM:Int) (dN:OL) (dO dP:Nat) (dQ dR dS dT dU dV:Int) (dW:OL) (dX dY:Nat) (dZ e0 e1 e2 e3 e4:Int) (e5:OL) (e6 e7:Nat) (e8:OL) (e9 eA:Nat),let u1:=(tv d5 d6 d7 d8 d9 dA dB dC dD dE dF dG dH dI dJ dK dL dM dN dO dP dQ dR dS dT dU dV dW dX dY dZ e0 e1 e2 e3 e4 e5 e6 e7 e8 e9 eA);z=.returned (vs d4)/\Bt W0 M H3 [(b0,Obj.cells u1 42 (0,0))] W9 W10 λH4=>(∀W,Now W0 M H4 W->(λW=>Kn W0 M H4 W b1 (Obj.cells #[vs d4] 9 (0,0))/\Kn W0 M H4 W b0 (Obj.cells u1 42 (0,0))/\True) W->Dr' R (some (24,[b1])) [(b1,9)] .returning W)) λps W=>Dr' R (some (24,[b1])) [(b1,9)] (.panicking ps) W)))) λps W=>Dr' R (some (24,[b1])) [(b1,9)] (.panicking ps) W))))))))))) :
 Calls Tryz.prog 12 #[vp (some ⟨b0,0,none⟩),vs cW] W0 R :=
 aO (M:=M) (hi:={pn:=true,shows := [0],res := [(4,1,9)],pans := [28,43],mods := [(43,[100])],turns := [43],pats := [((3,5),λnv=>(.tup [.agg [.int .i64 (.k 2),.func 43 [] [.ptrO nv (.k 0),.ptrO (nv+1) (.k 0)]],.bool (.k true)],[(nv,.p),(nv+1,.p)],nv+2))]}) (o0:=⟨tA,42⟩) (args := [.ptrK 0 0,.str 42]) (nv:=43) (e:=lk (te x0 x1 x2 x3 x4 x5 x6 x7 x8 x9 c0 c1 c2 c3 c4 c5 c6 c7 c8 c9 cA cB cC cD cE cF cG cH cI cJ cK cL cM cN cO cP cQ cR cS cT cU cV [.s cW])) Tryz.func12 hH h0 h rfl
theorem Cq(x0 x1 x2 x3 x4 x5:Int)(x6:OL)(x7 x8:Nat)(x9:OL)(c0 c1:Nat)(c2 c3 c4 c5 c6 c7:Int)(c8:OL)(c9 cA:Nat)(cB cC cD cE cF cG:Int)(cH:OL)(cI cJ:Nat)(cK cL cM cN cO cP:Int)(cQ:OL)(cR cS:Nat)(cT:OL)(cU cV:Nat)(cW:ByteArray)(b0:Nat)(M:Nat->Prop)(H0:Hp)(W0:World)(R:Ending->World->Prop)(hH:H0.le (ak W0))(h0:W0.heap[b0]?=some (Obj.cells #[vi x0,vi x1,vi x2,vi x3,vi x4,vi x5,vsl x6 x7 x8,vsl x9 c0 c1,vi c2,vi c3,vi c4,vi c5,vi c6,vi c7,vsl c8 c9 cA,vi cB,vi cC,vi cD,vi cE,vi cF,vi cG,vsl cH cI cJ,vi cK,vi cL,vi cM,vi cN,vi cO,vi cP,vsl cQ cR cS,vsl cT cU cV] 42 (0,0))/\M b0/\H0 b0=none)(h:let u0:=(tv x0 x1 x2 x3 x4 x5 x6 x7 x8 x9 c0 c1 c2 c3 c4 c5 c6 c7 c8 c9 cA cB cC cD cE cF cG cH cI cJ cK cL cM cN cO cP cQ cR cS cT cU cV);(∀b1:Nat,(Cl' W0 M H0 nK 26 #[vs cW,vB] λz W1 W2=>∃(cX:OL) (cY cZ:Nat),z=.returned (vsl cX cY cZ)/\Fr W1 W2 H0 λH1=>(Ck ((0:Int)<=0/\0<(cY:Int)) (Ck (cX.isSome=true) (∃d0:ByteArray,aa H1 cX (0+(0 * 1)) [vs d0]/\(Cl' W0 M H1 (λW=>Kn W0 M H1 W b0 (Obj.cells u0 42 (0,0))/\True) 27 #[vp (some ⟨b0,0,none⟩)] λz W3 W4=>∃d1:Value,z=.returned (d1)/\Fr W3 W4 H1 λH2=>(Es W0 M H2 nK λW5=>Eo' (.lookup 73 true) [d1,vs d0] W5 (.value (vt #[vg #[vi 7,Value.func (.func 46) #[vp (some ⟨b0,0,none⟩)] #[]],vb (true)])) λW6=>Ext W5 W6/\(∀b2:Nat,(Ck (0<=(cY:Int)) (cg W0 M H2 (λW=>Kn W0 M H2 W b1 (Obj.cells #[vA] 9 (0,0))/\Kn W0 M H2 W b0 (Obj.cells u0 42 (0,0))/\True) 28 #[vb (decide ((cY:Int)=8)),vi 1] (λz W7 W8=>z=.returned (vt #[])/\Ext W7 W8/\(Ck (1<=(cY:Int)) (Ck ((cY:Int)<=(cZ:Int)) (cg W0 M H2 (λW=>Kn W0 M H2 W b0 (Obj.cells u0 42 (0,0))/\Kn W0 M H2 W b1 (Obj.cells #[vA] 9 (0,0))/\True) 46 #[vp (some ⟨b0,0,none⟩),Value.slice (ab cX (0+(if (cZ:Int)=1 then 0 else 1 * ((1:Nat):Int)))) (((cY:Int)-1):Int).toNat (((cZ:Int)-1):Int).toNat] (λz W9 W10=>∃(d2:ByteArray) (d3 d4 d5 d6 d7 d8:Int) (d9:OL) (dA dB:Nat) (dC:OL) (dD dE:Nat) (dF dG dH dI dJ dK:Int) (dL:OL) (dM dN:Nat) (dO dP dQ dR dS dT:Int) (dU:OL) (dV dW:Nat) (dX dY dZ e0 e1 e2:Int) (e3:OL) (e4 e5:Nat) (e6:OL) (e7 e8:Nat),let u1:=(tv d3 d4 d5 d6 d7 d8 d9 dA dB dC dD dE dF dG dH dI dJ dK dL dM dN dO dP dQ dR dS dT dU dV dW dX dY dZ e0 e1 e2 e3 e4 e5 e6 e7 e8);z=.returned (vs d2)/\Bt W0 M H2 [(b0,Obj.cells u1 42 (0,0))] W9 W10 λH3=>(∀W,Now W0 M H3 W->(λW=>Kn W0 M H3 W b1 (Obj.cells #[vs d2] 9 (0,0))/\Kn W0 M H3 W b0 (Obj.cells u1 42 (0,0))/\True) W->Dr' R (some (24,[b1])) [(b1,9)] .returning W)) λps W=>Dr' R (some (24,[b1])) [(b1,9)] (.panicking ps) W)))) λps W=>Dr' R (some (24,[b1])) [(b1,9)] (.panicking ps) W))))))))))) :
 Calls Tryz.prog 12 #[vp (some ⟨b0,0,none⟩),vs cW] W0 R :=
 aO (M:=M) (hi:={pn:=true,shows := [0],res := [(4,1,9)],pans := [28,46],mods := [(46,[0])],turns := [46],pats := [((3,5),λnv=>(.tup [.agg [.int .i64 (.k 7),.func 46 [.ptrK 0 0] []],.bool (.k true)],[],nv+0))]}) (o0:=⟨tA,42⟩) (args := [.ptrK 0 0,.str 42]) (nv:=43) (e:=lk (te x0 x1 x2 x3 x4 x5 x6 x7 x8 x9 c0 c1 c2 c3 c4 c5 c6 c7 c8 c9 cA cB cC cD cE cF cG cH cI cJ cK cL cM cN cO cP cQ cR cS cT cU cV [.s cW])) Tryz.func12 hH h0 h rfl
theorem D8(x0 x1 x2 x3 x4 x5:Int)(x6:OL)(x7 x8:Nat)(x9:OL)(c0 c1:Nat)(c2 c3 c4 c5 c6 c7:Int)(c8:OL)(c9 cA:Nat)(cB cC cD cE cF cG:Int)(cH:OL)(cI cJ:Nat)(cK cL cM cN cO cP:Int)(cQ:OL)(cR cS:Nat)(cT:OL)(cU cV:Nat)(cW:ByteArray)(b0:Nat)(M:Nat->Prop)(H0:Hp)(W0:World)(R:Ending->World->Prop)(hH:H0.le (ak W0))(h0:W0.heap[b0]?=some (Obj.cells #[vi x0,vi x1,vi x2,vi x3,vi x4,vi x5,vsl x6 x7 x8,vsl x9 c0 c1,vi c2,vi c3,vi c4,vi c5,vi c6,vi c7,vsl c8 c9 cA,vi cB,vi cC,vi cD,vi cE,vi cF,vi cG,vsl cH cI cJ,vi cK,vi cL,vi cM,vi cN,vi cO,vi cP,vsl cQ cR cS,vsl cT cU cV] 42 (0,0))/\M b0/\H0 b0=none)(h:let u0:=(tv x0 x1 x2 x3 x4 x5 x6 x7 x8 x9 c0 c1 c2 c3 c4 c5 c6 c7 c8 c9 cA cB cC cD cE cF cG cH cI cJ cK cL cM cN cO cP cQ cR cS cT cU cV);(∀b1:Nat,(Cl' W0 M H0 nK 26 #[vs cW,vB] λz W1 W2=>∃(cX:OL) (cY cZ:Nat),z=.returned (vsl cX cY cZ)/\Fr W1 W2 H0 λH1=>(Ck ((0:Int)<=0/\0<(cY:Int)) (Ck (cX.isSome=true) (∃d0:ByteArray,aa H1 cX (0+(0 * 1)) [vs d0]/\(Cl' W0 M H1 (λW=>Kn W0 M H1 W b0 (Obj.cells u0 42 (0,0))/\True) 27 #[vp (some ⟨b0,0,none⟩)] λz W3 W4=>∃d1:Value,z=.returned (d1)/\Fr W3 W4 H1 λH2=>(Es W0 M H2 nK λW5=>Eo' (.lookup 73 true) [d1,vs d0] W5 (.value (vt #[vg #[vi 2,Value.func (.func 47) #[vp (some ⟨b0,0,none⟩)] #[]],vb (true)])) λW6=>Ext W5 W6/\(∀b2:Nat,(Ck (0<=(cY:Int)) (cg W0 M H2 (λW=>Kn W0 M H2 W b1 (Obj.cells #[vA] 9 (0,0))/\Kn W0 M H2 W b0 (Obj.cells u0 42 (0,0))/\True) 28 #[vb (decide ((cY:Int)=3)),vi 1] (λz W7 W8=>z=.returned (vt #[])/\Ext W7 W8/\(Ck (1<=(cY:Int)) (Ck ((cY:Int)<=(cZ:Int)) (cg W0 M H2 (λW=>Kn W0 M H2 W b0 (Obj.cells u0 42 (0,0))/\Kn W0 M H2 W b1 (Obj.cells #[vA] 9 (0,0))/\True) 47 #[vp (some ⟨b0,0,none⟩),Value.slice (ab cX (0+(if (cZ:Int)=1 then 0 else 1 * ((1:Nat):Int)))) (((cY:Int)-1):Int).toNat (((cZ:Int)-1):Int).toNat] (λz W9 W10=>∃(d2:ByteArray) (d3 d4 d5 d6 d7 d8:Int) (d9:OL) (dA dB:Nat) (dC:OL) (dD dE:Nat) (dF dG dH dI dJ dK:Int) (dL:OL) (dM dN:Nat) (dO dP dQ dR dS dT:Int) (dU:OL) (dV dW:Nat) (dX dY dZ e0 e1 e2:Int) (e3:OL) (e4 e5:Nat) (e6:OL) (e7 e8:Nat),let u1:=(tv d3 d4 d5 d6 d7 d8 d9 dA dB dC dD dE dF dG dH dI dJ dK dL dM dN dO dP dQ dR dS dT dU dV dW dX dY dZ e0 e1 e2 e3 e4 e5 e6 e7 e8);z=.returned (vs d2)/\Bt W0 M H2 [(b0,Obj.cells u1 42 (0,0))] W9 W10 λH3=>(∀W,Now W0 M H3 W->(λW=>Kn W0 M H3 W b1 (Obj.cells #[vs d2] 9 (0,0))/\Kn W0 M H3 W b0 (Obj.cells u1 42 (0,0))/\True) W->Dr' R (some (24,[b1])) [(b1,9)] .returning W)) λps W=>Dr' R (some (24,[b1])) [(b1,9)] (.panicking ps) W)))) λps W=>Dr' R (some (24,[b1])) [(b1,9)] (.panicking ps) W))))))))))) :
 Calls Tryz.prog 12 #[vp (some ⟨b0,0,none⟩),vs cW] W0 R :=
 aO (M:=M) (hi:={pn:=true,shows := [0],res := [(4,1,9)],pans := [28,47],mods := [(47,[0])],turns := [47],pats := [((3,5),λnv=>(.tup [.agg [.int .i64 (.k 2),.func 47 [.ptrK 0 0] []],.bool (.k true)],[],nv+0))]}) (o0:=⟨tA,42⟩) (args := [.ptrK 0 0,.str 42]) (nv:=43) (e:=lk (te x0 x1 x2 x3 x4 x5 x6 x7 x8 x9 c0 c1 c2 c3 c4 c5 c6 c7 c8 c9 cA cB cC cD cE cF cG cH cI cJ cK cL cM cN cO cP cQ cR cS cT cU cV [.s cW])) Tryz.func12 hH h0 h rfl
theorem EG(x0 x1 x2 x3 x4 x5:Int)(x6:OL)(x7 x8:Nat)(x9:OL)(c0 c1:Nat)(c2 c3 c4 c5 c6 c7:Int)(c8:OL)(c9 cA:Nat)(cB cC cD cE cF cG:Int)(cH:OL)(cI cJ:Nat)(cK cL cM cN cO cP:Int)(cQ:OL)(cR cS:Nat)(cT:OL)(cU cV:Nat)(cW:ByteArray)(b0:Nat)(M:Nat->Prop)(H0:Hp)(W0:World)(R:Ending->World->Prop)(hH:H0.le (ak W0))(h0:W0.heap[b0]?=some (Obj.cells #[vi x0,vi x1,vi x2,vi x3,vi x4,vi x5,vsl x6 x7 x8,vsl x9 c0 c1,vi c2,vi c3,vi c4,vi c5,vi c6,vi c7,vsl c8 c9 cA,vi cB,vi cC,vi cD,vi cE,vi cF,vi cG,vsl cH cI cJ,vi cK,vi cL,vi cM,vi cN,vi cO,vi cP,vsl cQ cR cS,vsl cT cU cV] 42 (0,0))/\M b0/\H0 b0=none)(h:let u0:=(tv x0 x1 x2 x3 x4 x5 x6 x7 x8 x9 c0 c1 c2 c3 c4 c5 c6 c7 c8 c9 cA cB cC cD cE cF cG cH cI cJ cK cL cM cN cO cP cQ cR cS cT cU cV);(∀b1:Nat,(Cl' W0 M H0 nK 26 #[vs cW,vB] λz W1 W2=>∃(cX:OL) (cY cZ:Nat),z=.returned (vsl cX cY cZ)/\Fr W1 W2 H0 λH1=>(Ck ((0:Int)<=0/\0<(cY:Int)) (Ck (cX.isSome=true) (∃d0:ByteArray,aa H1 cX (0+(0 * 1)) [vs d0]/\(Cl' W0 M H1 (λW=>Kn W0 M H1 W b0 (Obj.cells u0 42 (0,0))/\True) 27 #[vp (some ⟨b0,0,none⟩)] λz W3 W4=>∃d1:Value,z=.returned (d1)/\Fr W3 W4 H1 λH2=>(Es W0 M H2 nK λW5=>Eo' (.lookup 73 true) [d1,vs d0] W5 (.value (vt #[vg #[vi 1,Value.func (.func 48) #[vp (some ⟨b0,0,none⟩)] #[]],vb (true)])) λW6=>Ext W5 W6/\(∀b2:Nat,(Ck (0<=(cY:Int)) (cg W0 M H2 (λW=>Kn W0 M H2 W b1 (Obj.cells #[vA] 9 (0,0))/\Kn W0 M H2 W b0 (Obj.cells u0 42 (0,0))/\True) 28 #[vb (decide ((cY:Int)=2)),vi 1] (λz W7 W8=>z=.returned (vt #[])/\Ext W7 W8/\(Ck (1<=(cY:Int)) (Ck ((cY:Int)<=(cZ:Int)) (cg W0 M H2 (λW=>Kn W0 M H2 W b0 (Obj.cells u0 42 (0,0))/\Kn W0 M H2 W b1 (Obj.cells #[vA] 9 (0,0))/\True) 48 #[vp (some ⟨b0,0,none⟩),Value.slice (ab cX (0+(if (cZ:Int)=1 then 0 else 1 * ((1:Nat):Int)))) (((cY:Int)-1):Int).toNat (((cZ:Int)-1):Int).toNat] (λz W9 W10=>∃(d2:ByteArray) (d3 d4 d5 d6 d7 d8:Int) (d9:OL) (dA dB:Nat) (dC:OL) (dD dE:Nat) (dF dG dH dI dJ dK:Int) (dL:OL) (dM dN:Nat) (dO dP dQ dR dS dT:Int) (dU:OL) (dV dW:Nat) (dX dY dZ e0 e1 e2:Int) (e3:OL) (e4 e5:Nat) (e6:OL) (e7 e8:Nat),let u1:=(tv d3 d4 d5 d6 d7 d8 d9 dA dB dC dD dE dF dG dH dI dJ dK dL dM dN dO dP dQ dR dS dT dU dV dW dX dY dZ e0 e1 e2 e3 e4 e5 e6 e7 e8);z=.returned (vs d2)/\Bt W0 M H2 [(b0,Obj.cells u1 42 (0,0))] W9 W10 λH3=>(∀W,Now W0 M H3 W->(λW=>Kn W0 M H3 W b1 (Obj.cells #[vs d2] 9 (0,0))/\Kn W0 M H3 W b0 (Obj.cells u1 42 (0,0))/\True) W->Dr' R (some (24,[b1])) [(b1,9)] .returning W)) λps W=>Dr' R (some (24,[b1])) [(b1,9)] (.panicking ps) W)))) λps W=>Dr' R (some (24,[b1])) [(b1,9)] (.panicking ps) W))))))))))) :
 Calls Tryz.prog 12 #[vp (some ⟨b0,0,none⟩),vs cW] W0 R :=
 aO (M:=M) (hi:={pn:=true,shows := [0],res := [(4,1,9)],pans := [28,48],mods := [(48,[0])],turns := [48],pats := [((3,5),λnv=>(.tup [.agg [.int .i64 (.k 1),.func 48 [.ptrK 0 0] []],.bool (.k true)],[],nv+0))]}) (o0:=⟨tA,42⟩) (args := [.ptrK 0 0,.str 42]) (nv:=43) (e:=lk (te x0 x1 x2 x3 x4 x5 x6 x7 x8 x9 c0 c1 c2 c3 c4 c5 c6 c7 c8 c9 cA cB cC cD cE cF cG cH cI cJ cK cL cM cN cO cP cQ cR cS cT cU cV [.s cW])) Tryz.func12 hH h0 h rfl
theorem C5(x0 x1 x2 x3 x4 x5:Int)(x6:OL)(x7 x8:Nat)(x9:OL)(c0 c1:Nat)(c2 c3 c4 c5 c6 c7:Int)(c8:OL)(c9 cA:Nat)(cB cC cD cE cF cG:Int)(cH:OL)(cI cJ:Nat)(cK cL cM cN cO cP:Int)(cQ:OL)(cR cS:Nat)(cT:OL)(cU cV:Nat)(cW:ByteArray)(b0:Nat)(M:Nat->Prop)(H0:Hp)(W0:World)(R:Ending->World->Prop)(hH:H0.le (ak W0))(h0:W0.heap[b0]?=some (Obj.cells #[vi x0,vi x1,vi x2,vi x3,vi x4,vi x5,vsl x6 x7 x8,vsl x9 c0 c1,vi c2,vi c3,vi c4,vi c5,vi c6,vi c7,vsl c8 c9 cA,vi cB,vi cC,vi cD,vi cE,vi cF,vi cG,vsl cH cI cJ,vi cK,vi cL,vi cM,vi cN,vi cO,vi cP,vsl cQ cR cS,vsl cT cU cV] 42 (0,0))/\M b0/\H0 b0=none)(h:let u0:=(tv x0 x1 x2 x3 x4 x5 x6 x7 x8 x9 c0 c1 c2 c3 c4 c5 c6 c7 c8 c9 cA cB cC cD cE cF cG cH cI cJ cK cL cM cN cO cP cQ cR cS cT cU cV);(∀b1:Nat,(Cl' W0 M H0 nK 26 #[vs cW,vB] λz W1 W2=>∃(cX:OL) (cY cZ:Nat),z=.returned (vsl cX cY cZ)/\Fr W1 W2 H0 λH1=>(Ck ((0:Int)<=0/\0<(cY:Int)) (Ck (cX.isSome=true) (∃d0:ByteArray,aa H1 cX (0+(0 * 1)) [vs d0]/\(Cl' W0 M H1 (λW=>Kn W0 M H1 W b0 (Obj.cells u0 42 (0,0))/\True) 27 #[vp (some ⟨b0,0,none⟩)] λz W3 W4=>∃d1:Value,z=.returned (d1)/\Fr W3 W4 H1 λH2=>(Es W0 M H2 nK λW5=>Eo' (.lookup 73 true) [d1,vs d0] W5 (.value (vt #[vg #[vi 1,Value.func (.func 49) #[vp (some ⟨b0,0,none⟩)] #[]],vb (true)])) λW6=>Ext W5 W6/\(∀b2:Nat,(Ck (0<=(cY:Int)) (cg W0 M H2 (λW=>Kn W0 M H2 W b1 (Obj.cells #[vA] 9 (0,0))/\Kn W0 M H2 W b0 (Obj.cells u0 42 (0,0))/\True) 28 #[vb (decide ((cY:Int)=2)),vi 1] (λz W7 W8=>z=.returned (vt #[])/\Ext W7 W8/\(Ck (1<=(cY:Int)) (Ck ((cY:Int)<=(cZ:Int)) (cg W0 M H2 (λW=>Kn W0 M H2 W b0 (Obj.cells u0 42 (0,0))/\Kn W0 M H2 W b1 (Obj.cells #[vA] 9 (0,0))/\True) 49 #[vp (some ⟨b0,0,none⟩),Value.slice (ab cX (0+(if (cZ:Int)=1 then 0 else 1 * ((1:Nat):Int)))) (((cY:Int)-1):Int).toNat (((cZ:Int)-1):Int).toNat] (λz W9 W10=>∃(d2:ByteArray) (d3 d4 d5 d6 d7 d8:Int) (d9:OL) (dA dB:Nat) (dC:OL) (dD dE:Nat) (dF dG dH dI dJ dK:Int) (dL:OL) (dM dN:Nat) (dO dP dQ dR dS dT:Int) (dU:OL) (dV dW:Nat) (dX dY dZ e0 e1 e2:Int) (e3:OL) (e4 e5:Nat) (e6:OL) (e7 e8:Nat),let u1:=(tv d3 d4 d5 d6 d7 d8 d9 dA dB dC dD dE dF dG dH dI dJ dK dL dM dN dO dP dQ dR dS dT dU dV dW dX dY dZ e0 e1 e2 e3 e4 e5 e6 e7 e8);z=.returned (vs d2)/\Bt W0 M H2 [(b0,Obj.cells u1 42 (0,0))] W9 W10 λH3=>(∀W,Now W0 M H3 W->(λW=>Kn W0 M H3 W b1 (Obj.cells #[vs d2] 9 (0,0))/\Kn W0 M H3 W b0 (Obj.cells u1 42 (0,0))/\True) W->Dr' R (some (24,[b1])) [(b1,9)] .returning W)) λps W=>Dr' R (some (24,[b1])) [(b1,9)] (.panicking ps) W)))) λps W=>Dr' R (some (24,[b1])) [(b1,9)] (.panicking ps) W))))))))))) :
 Calls Tryz.prog 12 #[vp (some ⟨b0,0,none⟩),vs cW] W0 R :=
 aO (M:=M) (hi:={pn:=true,shows := [0],res := [(4,1,9)],pans := [28,49],mods := [(49,[0])],turns := [49],pats := [((3,5),λnv=>(.tup [.agg [.int .i64 (.k 1),.func 49 [.ptrK 0 0] []],.bool (.k true)],[],nv+0))]}) (o0:=⟨tA,42⟩) (args := [.ptrK 0 0,.str 42]) (nv:=43) (e:=lk (te x0 x1 x2 x3 x4 x5 x6 x7 x8 x9 c0 c1 c2 c3 c4 c5 c6 c7 c8 c9 cA cB cC cD cE cF cG cH cI cJ cK cL cM cN cO cP cQ cR cS cT cU cV [.s cW])) Tryz.func12 hH h0 h rfl
theorem Dp(x0 x1 x2 x3 x4 x5:Int)(x6:OL)(x7 x8:Nat)(x9:OL)(c0 c1:Nat)(c2 c3 c4 c5 c6 c7:Int)(c8:OL)(c9 cA:Nat)(cB cC cD cE cF cG:Int)(cH:OL)(cI cJ:Nat)(cK cL cM cN cO cP:Int)(cQ:OL)(cR cS:Nat)(cT:OL)(cU cV:Nat)(cW:ByteArray)(b0:Nat)(M:Nat->Prop)(H0:Hp)(W0:World)(R:Ending->World->Prop)(hH:H0.le (ak W0))(h0:W0.heap[b0]?=some (Obj.cells #[vi x0,vi x1,vi x2,vi x3,vi x4,vi x5,vsl x6 x7 x8,vsl x9 c0 c1,vi c2,vi c3,vi c4,vi c5,vi c6,vi c7,vsl c8 c9 cA,vi cB,vi cC,vi cD,vi cE,vi cF,vi cG,vsl cH cI cJ,vi cK,vi cL,vi cM,vi cN,vi cO,vi cP,vsl cQ cR cS,vsl cT cU cV] 42 (0,0))/\M b0/\H0 b0=none)(h:let u0:=(tv x0 x1 x2 x3 x4 x5 x6 x7 x8 x9 c0 c1 c2 c3 c4 c5 c6 c7 c8 c9 cA cB cC cD cE cF cG cH cI cJ cK cL cM cN cO cP cQ cR cS cT cU cV);(∀b1:Nat,(Cl' W0 M H0 nK 26 #[vs cW,vB] λz W1 W2=>∃(cX:OL) (cY cZ:Nat),z=.returned (vsl cX cY cZ)/\Fr W1 W2 H0 λH1=>(Ck ((0:Int)<=0/\0<(cY:Int)) (Ck (cX.isSome=true) (∃d0:ByteArray,aa H1 cX (0+(0 * 1)) [vs d0]/\(Cl' W0 M H1 (λW=>Kn W0 M H1 W b0 (Obj.cells u0 42 (0,0))/\True) 27 #[vp (some ⟨b0,0,none⟩)] λz W3 W4=>∃d1:Value,z=.returned (d1)/\Fr W3 W4 H1 λH2=>(Es W0 M H2 nK λW5=>Eo' (.lookup 73 true) [d1,vs d0] W5 (.value (vt #[vg #[vi 1,Value.func (.func 50) #[vp (some ⟨b0,0,none⟩)] #[]],vb (true)])) λW6=>Ext W5 W6/\(∀b2:Nat,(Ck (0<=(cY:Int)) (cg W0 M H2 (λW=>Kn W0 M H2 W b1 (Obj.cells #[vA] 9 (0,0))/\Kn W0 M H2 W b0 (Obj.cells u0 42 (0,0))/\True) 28 #[vb (decide ((cY:Int)=2)),vi 1] (λz W7 W8=>z=.returned (vt #[])/\Ext W7 W8/\(Ck (1<=(cY:Int)) (Ck ((cY:Int)<=(cZ:Int)) (cg W0 M H2 (λW=>Kn W0 M H2 W b0 (Obj.cells u0 42 (0,0))/\Kn W0 M H2 W b1 (Obj.cells #[vA] 9 (0,0))/\True) 50 #[vp (some ⟨b0,0,none⟩),Value.slice (ab cX (0+(if (cZ:Int)=1 then 0 else 1 * ((1:Nat):Int)))) (((cY:Int)-1):Int).toNat (((cZ:Int)-1):Int).toNat] (λz W9 W10=>∃(d2:ByteArray) (d3 d4 d5 d6 d7 d8:Int) (d9:OL) (dA dB:Nat) (dC:OL) (dD dE:Nat) (dF dG dH dI dJ dK:Int) (dL:OL) (dM dN:Nat) (dO dP dQ dR dS dT:Int) (dU:OL) (dV dW:Nat) (dX dY dZ e0 e1 e2:Int) (e3:OL) (e4 e5:Nat) (e6:OL) (e7 e8:Nat),let u1:=(tv d3 d4 d5 d6 d7 d8 d9 dA dB dC dD dE dF dG dH dI dJ dK dL dM dN dO dP dQ dR dS dT dU dV dW dX dY dZ e0 e1 e2 e3 e4 e5 e6 e7 e8);z=.returned (vs d2)/\Bt W0 M H2 [(b0,Obj.cells u1 42 (0,0))] W9 W10 λH3=>(∀W,Now W0 M H3 W->(λW=>Kn W0 M H3 W b1 (Obj.cells #[vs d2] 9 (0,0))/\Kn W0 M H3 W b0 (Obj.cells u1 42 (0,0))/\True) W->Dr' R (some (24,[b1])) [(b1,9)] .returning W)) λps W=>Dr' R (some (24,[b1])) [(b1,9)] (.panicking ps) W)))) λps W=>Dr' R (some (24,[b1])) [(b1,9)] (.panicking ps) W))))))))))) :
 Calls Tryz.prog 12 #[vp (some ⟨b0,0,none⟩),vs cW] W0 R :=
 aO (M:=M) (hi:={pn:=true,shows := [0],res := [(4,1,9)],pans := [28,50],mods := [(50,[0])],turns := [50],pats := [((3,5),λnv=>(.tup [.agg [.int .i64 (.k 1),.func 50 [.ptrK 0 0] []],.bool (.k true)],[],nv+0))]}) (o0:=⟨tA,42⟩) (args := [.ptrK 0 0,.str 42]) (nv:=43) (e:=lk (te x0 x1 x2 x3 x4 x5 x6 x7 x8 x9 c0 c1 c2 c3 c4 c5 c6 c7 c8 c9 cA cB cC cD cE cF cG cH cI cJ cK cL cM cN cO cP cQ cR cS cT cU cV [.s cW])) Tryz.func12 hH h0 h rfl
theorem Dn(x0 x1 x2 x3 x4 x5:Int)(x6:OL)(x7 x8:Nat)(x9:OL)(c0 c1:Nat)(c2 c3 c4 c5 c6 c7:Int)(c8:OL)(c9 cA:Nat)(cB cC cD cE cF cG:Int)(cH:OL)(cI cJ:Nat)(cK cL cM cN cO cP:Int)(cQ:OL)(cR cS:Nat)(cT:OL)(cU cV:Nat)(cW:ByteArray)(b0:Nat)(M:Nat->Prop)(H0:Hp)(W0:World)(R:Ending->World->Prop)(hH:H0.le (ak W0))(h0:W0.heap[b0]?=some (Obj.cells #[vi x0,vi x1,vi x2,vi x3,vi x4,vi x5,vsl x6 x7 x8,vsl x9 c0 c1,vi c2,vi c3,vi c4,vi c5,vi c6,vi c7,vsl c8 c9 cA,vi cB,vi cC,vi cD,vi cE,vi cF,vi cG,vsl cH cI cJ,vi cK,vi cL,vi cM,vi cN,vi cO,vi cP,vsl cQ cR cS,vsl cT cU cV] 42 (0,0))/\M b0/\H0 b0=none)(h:let u0:=(tv x0 x1 x2 x3 x4 x5 x6 x7 x8 x9 c0 c1 c2 c3 c4 c5 c6 c7 c8 c9 cA cB cC cD cE cF cG cH cI cJ cK cL cM cN cO cP cQ cR cS cT cU cV);(∀b1:Nat,(Cl' W0 M H0 nK 26 #[vs cW,vB] λz W1 W2=>∃(cX:OL) (cY cZ:Nat),z=.returned (vsl cX cY cZ)/\Fr W1 W2 H0 λH1=>(Ck ((0:Int)<=0/\0<(cY:Int)) (Ck (cX.isSome=true) (∃d0:ByteArray,aa H1 cX (0+(0 * 1)) [vs d0]/\(Cl' W0 M H1 (λW=>Kn W0 M H1 W b0 (Obj.cells u0 42 (0,0))/\True) 27 #[vp (some ⟨b0,0,none⟩)] λz W3 W4=>∃d1:Value,z=.returned (d1)/\Fr W3 W4 H1 λH2=>(Es W0 M H2 nK λW5=>Eo' (.lookup 73 true) [d1,vs d0] W5 (.value (vt #[vg #[vi 2,Value.func (.func 51) #[vp (some ⟨b0,0,none⟩)] #[]],vb (true)])) λW6=>Ext W5 W6/\(∀b2:Nat,(Ck (0<=(cY:Int)) (cg W0 M H2 (λW=>Kn W0 M H2 W b1 (Obj.cells #[vA] 9 (0,0))/\Kn W0 M H2 W b0 (Obj.cells u0 42 (0,0))/\True) 28 #[vb (decide ((cY:Int)=3)),vi 1] (λz W7 W8=>z=.returned (vt #[])/\Ext W7 W8/\(Ck (1<=(cY:Int)) (Ck ((cY:Int)<=(cZ:Int)) (cg W0 M H2 (λW=>Kn W0 M H2 W b0 (Obj.cells u0 42 (0,0))/\Kn W0 M H2 W b1 (Obj.cells #[vA] 9 (0,0))/\True) 51 #[vp (some ⟨b0,0,none⟩),Value.slice (ab cX (0+(if (cZ:Int)=1 then 0 else 1 * ((1:Nat):Int)))) (((cY:Int)-1):Int).toNat (((cZ:Int)-1):Int).toNat] (λz W9 W10=>∃(d2:ByteArray) (d3 d4 d5 d6 d7 d8:Int) (d9:OL) (dA dB:Nat) (dC:OL) (dD dE:Nat) (dF dG dH dI dJ dK:Int) (dL:OL) (dM dN:Nat) (dO dP dQ dR dS dT:Int) (dU:OL) (dV dW:Nat) (dX dY dZ e0 e1 e2:Int) (e3:OL) (e4 e5:Nat) (e6:OL) (e7 e8:Nat),let u1:=(tv d3 d4 d5 d6 d7 d8 d9 dA dB dC dD dE dF dG dH dI dJ dK dL dM dN dO dP dQ dR dS dT dU dV dW dX dY dZ e0 e1 e2 e3 e4 e5 e6 e7 e8);z=.returned (vs d2)/\Bt W0 M H2 [(b0,Obj.cells u1 42 (0,0))] W9 W10 λH3=>(∀W,Now W0 M H3 W->(λW=>Kn W0 M H3 W b1 (Obj.cells #[vs d2] 9 (0,0))/\Kn W0 M H3 W b0 (Obj.cells u1 42 (0,0))/\True) W->Dr' R (some (24,[b1])) [(b1,9)] .returning W)) λps W=>Dr' R (some (24,[b1])) [(b1,9)] (.panicking ps) W)))) λps W=>Dr' R (some (24,[b1])) [(b1,9)] (.panicking ps) W))))))))))) :
 Calls Tryz.prog 12 #[vp (some ⟨b0,0,none⟩),vs cW] W0 R :=
 aO (M:=M) (hi:={pn:=true,shows := [0],res := [(4,1,9)],pans := [28,51],mods := [(51,[0])],turns := [51],pats := [((3,5),λnv=>(.tup [.agg [.int .i64 (.k 2),.func 51 [.ptrK 0 0] []],.bool (.k true)],[],nv+0))]}) (o0:=⟨tA,42⟩) (args := [.ptrK 0 0,.str 42]) (nv:=43) (e:=lk (te x0 x1 x2 x3 x4 x5 x6 x7 x8 x9 c0 c1 c2 c3 c4 c5 c6 c7 c8 c9 cA cB cC cD cE cF cG cH cI cJ cK cL cM cN cO cP cQ cR cS cT cU cV [.s cW])) Tryz.func12 hH h0 h rfl
theorem CU(x0 x1 x2 x3 x4 x5:Int)(x6:OL)(x7 x8:Nat)(x9:OL)(c0 c1:Nat)(c2 c3 c4 c5 c6 c7:Int)(c8:OL)(c9 cA:Nat)(cB cC cD cE cF cG:Int)(cH:OL)(cI cJ:Nat)(cK cL cM cN cO cP:Int)(cQ:OL)(cR cS:Nat)(cT:OL)(cU cV:Nat)(cW:ByteArray)(b0:Nat)(M:Nat->Prop)(H0:Hp)(W0:World)(R:Ending->World->Prop)(hH:H0.le (ak W0))(h0:W0.heap[b0]?=some (Obj.cells #[vi x0,vi x1,vi x2,vi x3,vi x4,vi x5,vsl x6 x7 x8,vsl x9 c0 c1,vi c2,vi c3,vi c4,vi c5,vi c6,vi c7,vsl c8 c9 cA,vi cB,vi cC,vi cD,vi cE,vi cF,vi cG,vsl cH cI cJ,vi cK,vi cL,vi cM,vi cN,vi cO,vi cP,vsl cQ cR cS,vsl cT cU cV] 42 (0,0))/\M b0/\H0 b0=none)(h:let u0:=(tv x0 x1 x2 x3 x4 x5 x6 x7 x8 x9 c0 c1 c2 c3 c4 c5 c6 c7 c8 c9 cA cB cC cD cE cF cG cH cI cJ cK cL cM cN cO cP cQ cR cS cT cU cV);(∀b1:Nat,(Cl' W0 M H0 nK 26 #[vs cW,vB] λz W1 W2=>∃(cX:OL) (cY cZ:Nat),z=.returned (vsl cX cY cZ)/\Fr W1 W2 H0 λH1=>(Ck ((0:Int)<=0/\0<(cY:Int)) (Ck (cX.isSome=true) (∃d0:ByteArray,aa H1 cX (0+(0 * 1)) [vs d0]/\(Cl' W0 M H1 (λW=>Kn W0 M H1 W b0 (Obj.cells u0 42 (0,0))/\True) 27 #[vp (some ⟨b0,0,none⟩)] λz W3 W4=>∃d1:Value,z=.returned (d1)/\Fr W3 W4 H1 λH2=>(Es W0 M H2 nK λW5=>Eo' (.lookup 73 true) [d1,vs d0] W5 (.value (vt #[vg #[vi 0,Value.nilFunc],vb (false)])) λW6=>Ext W5 W6/\(∀b2:Nat,(cg W0 M H2 (λW=>Kn W0 M H2 W b1 (Obj.cells #[vA] 9 (0,0))/\Kn W0 M H2 W b0 (Obj.cells u0 42 (0,0))/\True) 28 #[vb (false),vi 1] (λz W7 W8=>z=.returned (vt #[])/\Ext W7 W8/\(Ck (1<=(cY:Int)) (Ck ((cY:Int)<=(cZ:Int)) (False )))) λps W=>Dr' R (some (24,[b1])) [(b1,9)] (.panicking ps) W)))))))))) :
 Calls Tryz.prog 12 #[vp (some ⟨b0,0,none⟩),vs cW] W0 R :=
 aO (M:=M) (hi:={pn:=true,shows := [0],res := [(4,1,9)],pans := [28],pats := [((3,5),λnv=>(.tup [.agg [.int .i64 (.k 0),.c .nilFunc],.bool (.k false)],[],nv+0))]}) (o0:=⟨tA,42⟩) (args := [.ptrK 0 0,.str 42]) (nv:=43) (e:=lk (te x0 x1 x2 x3 x4 x5 x6 x7 x8 x9 c0 c1 c2 c3 c4 c5 c6 c7 c8 c9 cA cB cC cD cE cF cG cH cI cJ cK cL cM cN cO cP cQ cR cS cT cU cV [.s cW])) Tryz.func12 hH h0 h rfl
theorem Bu(x0:Int)(x1:OL):Xw 42 #[vi x0,vp (ab x1 0)] λM H0 W0 _ _ _ T=>(∀b0:Nat,T H0 (λW=>Kn W0 M H0 W b0 (Obj.cells #[vi x0] 3 (0,0))/\True) (Value.func (.func 43) #[] #[vp (ab x1 0),vp (some ⟨b0,0,none⟩)])) :=
 Xa (hi:={}) (args := [vI 0,.ptrO 1 (.k 0)]) (nv:=2) (e:=lk [.i x0,.p x1]) Tryz.func42
set_option maxRecDepth 100000
theorem B5(p:Addr)(W:World):CallsDIn (Fw none) 0 Tryz.prog 24 #[.pointer (some p)] .returning W λx u' W'=>(∃v,x=.returned v)/\u'=.returning/\Ext W W':=by
 refine callsDIn_of_wpSIn Tryz.func24 rfl trivial λc₀ cs hu=>?_;have hne:∀w:World,(binOp BinOp.neq 20 .nilIface .nilIface).run Tryz.prog w=.ok (.bool false) w:=λ_=>by kernel_rfl
 have hta:∀w:World,(Instr.typeAssert .nilIface 20 65 true).run Tryz.prog w=.ok (.tuple #[.agg #[vi 0],.bool false]) w:=λ_=>by kernel_rfl
 apply wpSIn_seq;apply wpSIn_region;simp[wpOpsSIn,go_sem,recoverD,hu,Tryz.ntmps24,Exit.thenS];refine wpSIn_of_wpIn rfl (wpIn_wide.2 ?_);show Code.wp _ _ _ { tmps:=#[.pointer (some p),.nilIface,Go.undef,Go.undef,.nilIface,Go.undef,Go.undef,Go.undef,Go.undef,Go.undef,Go.undef,Go.undef,Go.undef,Go.undef,Go.undef,Go.undef,Go.undef,Go.undef],defers := [] } _
 go_wp2_with (fail)
 simp[bodyPostS,results,Tryz.results24,hu];exact⟨_,rfl,hu,iP _ _⟩
set_option maxHeartbeats 4000000 in
theorem zD(b1:Nat)(x:Int)(W:World){z:Value}{H:Hp}(hL:Lay H)(hH:H.le (ak W))(hx:we x)(h1:W.heap[b1]?=some (.cells #[z] 9 (0,0))) :
  CallsDIn (Fw none) 0 Tryz.prog 24 #[.pointer (some ⟨b1,0,none⟩)] (.panicking [{ v:=li x,recovered:=false }]) W λe u' W'=>(∃v,e=.returned v)/\settle u'=.returning/\W'.heap[b1]?=some (.cells #[.string (bs ([101,114,114,111,114,32]++Lib.itoa x))] 9 (0,0))/\Mod (λb=>b=b1) W W':=by
 refine callsDIn_of_wpSIn Tryz.func24 rfl trivial λc₀ cs hu=>?_;have hta:∀w:World,(Instr.typeAssert (li x) 20 65 true).run Tryz.prog w=.ok (.tuple #[.agg #[vi x],.bool true]) w:=λ_=>by kernel_rfl
 apply wpSIn_seq;apply wpSIn_region;simp[wpOpsSIn,go_sem,recoverD,hu,Tryz.ntmps24,Exit.thenS];refine wpSIn_of_wpIn rfl (wpIn_wide.2 ?_);have hI:=aW x hx
 have hc:=λw' (h:H.le (ak w'))=>vm x hx H hL w' h;generalize Lib.itoa x=l at hI hc |-;have hlt:b1<(W.alloc (Obj.cells #[Value.int .i64 x] 65)).heap.size:=Nat.lt_of_lt_of_le (ag h1) (by simp)
 have hold:=(heap_alloc_old W (Obj.cells #[Value.int .i64 x] 65) (ag h1)).trans h1;have hbs:=az l
 have hce:∀w':World,w'.heap[b1]?=some (Obj.cells #[z] 9 (0,0))->w'.cell? ⟨b1,0,none⟩=some z:=λw' h=>cell_of_row _ _ _ _ _ _ h;show Code.wp _ _ _ { tmps:=#[.pointer (some ⟨b1,0,none⟩),li x,Go.undef,Go.undef,li x,Go.undef,Go.undef,Go.undef,Go.undef,Go.undef,Go.undef,Go.undef,Go.undef,Go.undef,Go.undef,Go.undef,Go.undef,Go.undef],defers := [] } _
 go_wp2_with (first | (go_at_call 25;refine (hc _ (Hp.le_trans hH λb o h=>(heap_alloc_old W _ (ag h)).trans h)).mono ?_;rintro e w' ⟨rfl,hxx⟩;have hb:=(hxx.block b1 hlt).trans hold;have hcl:=hce _ hb))
 ·rename_i hfz;exact absurd hfz (by simp[World.frozen?,hb])
 ·have hres:(W.alloc (Obj.cells #[Value.int .i64 x] 65)).heap.size=W.heap.size+1:=by simp
  have hx1:=(iP W (Obj.cells #[Value.int .i64 x] 65)).trans hxx;have hA:(w'.setCell ⟨b1,0,none⟩ (vs (bs ([101,114,114,111,114,32]++l)))).heap[b1]?=some (Obj.cells #[vs (bs ([101,114,114,111,114,32]++l))] 9 (0,0)):=by
   simp[World.setCell,Array.getElem?_modify,hb]
  have hB:Mod (λb=>b=b1) W (w'.setCell ⟨b1,0,none⟩ (vs (bs ([101,114,114,111,114,32]++l)))):=by
   refine⟨hx1.os,hx1.tape,hx1.output,by simpa [World.setCell] using hx1.size,λb hb2 hne=>?_⟩;have:b1≠b:=λh=>hne h.symm
   simp only[World.setCell,Array.getElem?_modify,if_neg this]
   exact hx1.block b hb2
  rw[show ({ data:=#[101,114,114,111,114,32] }++bs l:ByteArray)=bs ([101,114,114,111,114,32]++l) from (ByteArray.mk_append_mk ..)];generalize w'.setCell _ _=w2 at hA hB |-;simp[bodyPostS,results,Tryz.results24];exact⟨rfl,hA,hB⟩
set_option maxRecDepth 100000
def unl(n:Nat)(listed:Array Bool):List Nat:=(List.range n).filter λi=>!listed.getD i true
theorem Cf{n i:Nat}{listed:Array Bool}(hi:i<n)(hu:listed.getD i true=false):(unl n (listed.setIfInBounds i true)).length<(unl n listed).length:=by
 have hsz:i<listed.size:=by
  rcases Nat.lt_or_ge i listed.size with h | h
  ·exact h
  ·simp[Array.getElem?_eq_none h] at hu
 have he:unl n (listed.setIfInBounds i true)=(unl n listed).filter λj=>decide (j≠i):=by
  unfold unl;rw[List.filter_filter]
  congr 1
  funext j
  by_cases hj:j=i
  ·subst hj;simp[hsz]
  ·have:i≠j:=λh=>hj h.symm;simp[hj,Array.getElem?_setIfInBounds_ne this]
 rw[he];refine List.length_filter_lt_length_iff_exists.2 ⟨i,?_,by simp⟩;unfold unl;rw[List.mem_filter,List.mem_range];exact⟨hi,by rw[hu];rfl⟩
theorem ru{P:Program}{md:Region.Mode}{ops:Array Oper}{Q:Exit->Act->World->Prop}(I:Array Bool->Act->World->Prop)
  (hstep:∀listed a w i,i∈Region.ready md ops listed->I listed a w->wpOp P ops Q i (λa' w'=>I (listed.setIfInBounds i true) a' w') a w)
  (hend:∀listed a w,Region.ready md ops listed = []->I listed a w->Q .normal a w):∀fuel listed a w,(unl ops.size listed).length<=fuel->I listed a w->wpAny P md ops Q fuel listed a w
 | 0,listed,a,w,hf,h=>by
  have:Region.ready md ops listed = []:=by
   cases hr:Region.ready md ops listed with
   | nil=>rfl
   | cons i r =>
    have hm:i∈Region.ready md ops listed:=by rw[hr];simp
    obtain⟨h1,o,h2,_⟩:=mem_ready.1 hm;have hi:=(Array.getElem?_eq_some_iff.1 h2).1
    have:i∈unl ops.size listed:=by
     unfold unl;rw[List.mem_filter,List.mem_range];exact⟨hi,by rw[h1];rfl⟩
    have h0:unl ops.size listed = []:=List.eq_nil_of_length_eq_zero (by omega);rw[h0] at this;simp at this
  exact⟨this,hend _ _ _ this h⟩
 | fuel+1,listed,a,w,hf,h=>by
  refine⟨λh0=>hend _ _ _ h0 h,λi hi=>?_⟩;obtain⟨h1,o,h2,_⟩:=mem_ready.1 hi;have hlt:=(Array.getElem?_eq_some_iff.1 h2).1
  have hd:=Cf hlt h1;exact wpOp_mono (λa' w' h'=>ru I hstep hend fuel _ a' w' (by omega) h') (hstep listed a w i hi h)
def AD:Code->Nat->Option (Array Oper)
 | .region id ops _,n=>if id=n then some ops else none
 | .seq a b,n=>(AD a n).orElse λ_=>AD b n
 | _,_=>none
noncomputable def fa:Array Oper:=((Tryz.f27.body).bind (AD · 2)).getD #[]
noncomputable def qB(i:Nat):Option Op:=(fa[i]?).map (·.op)
noncomputable def gk(i:Nat):Option Nat:=(fa[i]?).bind (·.dst)
noncomputable def mZ(i j:Nat):Bool:=match fa[i]? with
 | some o=>o.after.any λe=>Region.binds .any e&&e.on==j
 | none=>false
theorem xp:fa.size=35:=by kernel_rfl
theorem EH:(fa.all λo=>o.guard.isNone)=true:=by kernel_rfl
theorem Fl:((List.range 35).all λi=>match fa[i]? with | some o=>o.after.all λe=>decide (e.on<i) | none=>true)=true:=by kernel_rfl
theorem F0:((List.range 35).all λi=>(List.range 35).all λj=>i==j||gk i==none||gk i != gk j)=true:=by kernel_rfl
theorem Fp:((List.range 35).all λi=>match gk i with | some t=>decide (t<31/\t≠0/\t≠1/\t≠3) | none=>true)=true:=by kernel_rfl
abbrev tq(b:Nat):Value:=.pointer (some ⟨b,0,none⟩)
abbrev fP(xt:Nat):Value:=.func (.func 42) #[] #[tq xt]
abbrev fO(xt c:Nat):Value:=.func (.func 43) #[] #[tq xt,tq c]
abbrev fM(g b0:Nat):Value:=.func (.func g) #[tq b0] #[]
abbrev wV(n:Int)(f:Value):Value:=.agg #[vi n,f]
def kAt(W:World)(c:Nat)(k:Int):Prop:=W.heap[c]?=some (.cells #[vi k] 3 (0,0))
def wE(xt b0 m:Nat)(W:World):Nat->Value->Prop
 | 0,v=>v=.map (some m)
 | 1,v=>v=fP xt
 | 5,v=>v=fP xt
 | 2,v=>∃c,v=fO xt c/\xt<c/\kAt W c 1
 | 3,v=>∃c,v=wV 2 (fO xt c)/\xt<c/\kAt W c 1
 | 6,v=>∃c,v=fO xt c/\xt<c/\kAt W c 3
 | 7,v=>∃c,v=wV 2 (fO xt c)/\xt<c/\kAt W c 3
 | 9,v=>v=tq b0
 | 13,v=>v=tq b0
 | 17,v=>v=tq b0
 | 21,v=>v=tq b0
 | 25,v=>v=tq b0
 | 29,v=>v=tq b0
 | 10,v=>v=fM 46 b0
 | 14,v=>v=fM 47 b0
 | 18,v=>v=fM 48 b0
 | 22,v=>v=fM 49 b0
 | 26,v=>v=fM 50 b0
 | 30,v=>v=fM 51 b0
 | 11,v=>v=wV 7 (fM 46 b0)
 | 15,v=>v=wV 2 (fM 47 b0)
 | 19,v=>v=wV 1 (fM 48 b0)
 | 23,v=>v=wV 1 (fM 49 b0)
 | 27,v=>v=wV 1 (fM 50 b0)
 | 31,v=>v=wV 2 (fM 51 b0)
 | 33,v=>v=.map (some m)
 | 34,v=>v=.map (some m)
 | _,_=>True
def aE(k:List UInt8):Option Nat :=
 if k = [111,112,101,110] then some 4 else if k = [99,108,111,115,101] then some 8 else if k = [99,97,108,108] then some 12 else if k = [114,117,110] then some 16
 else if k = [99,117,116] then some 20 else if k = [118,97,108,115] then some 24 else if k = [107,101,112,116] then some 28 else if k = [100,111,110,101] then some 32 else none
def jR(i:Nat):Nat:=match i with
 | 4=>8 | 8=>11 | 12=>14 | 16=>17 | 20=>20 | 24=>23 | 28=>26 | _=>29
structure jE(W0:World)(xt b0:Nat)(listed:Array Bool)(a:Act)(W:World)(m:Nat):Prop where
 lsz:listed.size=35
 tsz:a.tmps.size=31
 df:a.defers = []
 s1:a.tmps[1]?=some (tq xt)
 s3:a.tmps[3]?=some (fP xt)
 ext:Ext W0 W
 xtn:xt<W0.heap.size
 mem:W.heap[xt]?=some (.cells #[tq b0] 29 (0,0))
 own:listed.getD 0 false=true->W0.heap.size<=m
 ord:∀i,(i=33\/i=34\/∃k,aE k=some i)->listed.getD i false=true->listed.getD 0 false=true
 val:∀i t,i<35->gk i=some t->listed.getD i false=true->∃v,a.tmps[t]?=some v/\wE xt b0 m W i v
 map:listed.getD 0 false=true->∃es c L,W.heap[m]?=some (.map es c)/\pY es L/\∀k,lkp k L=(aE k).bind λi=>if listed.getD i false=true then a.tmps[jR i]? else none
 insd:∀k i,aE k=some i->listed.getD i false=true->listed.getD (i-1) false=true
section
variable{W0 W W':World}{xt b0 m i:Nat}{listed:Array Bool}{a:Act}{dst:Option Nat}{v:Value}
theorem se{i:Nat}(h:wE xt b0 m W i v)(hw:∀c k,kAt W c k->kAt W' c k):wE xt b0 m W' i v:=by
 unfold wE at h |-
 split at h<;>first
  | exact h
  | (obtain⟨c,h1,h2,h3⟩:=h;exact⟨c,h1,h2,hw _ _ h3⟩)
theorem Bo{t:Nat}(h:t<a.tmps.size):(a.put (some t) v).tmps[t]?=some v:=by
 simp[Act.put,h]
theorem l8{t:Nat}(h:dst≠some t):(a.put dst v).tmps[t]?=a.tmps[t]?:=by
 cases dst with
 | none=>rfl
 | some d =>
  have:d≠t:=λhh=>h (by rw[hh]);simp[Act.put,Array.getElem?_setIfInBounds_ne this]
theorem vY{i j t:Nat}(hi:i<35)(hj:j<35)(hne:i≠j)(h:gk i=some t):gk j≠some t:=λhh=>by
 have:=F0;rw[List.all_eq_true] at this;have h1:=this i (List.mem_range.2 hi)
 rw[List.all_eq_true] at h1;have h2:=h1 j (List.mem_range.2 hj)
 rw[h,hh] at h2;simp[hne] at h2
theorem vx{t:Nat}(hi:i<35)(h:gk i=some t):t<31/\t≠0/\t≠1/\t≠3:=by
 have:=Fp;rw[List.all_eq_true] at this;have h1:=this i (List.mem_range.2 hi)
 rw[h] at h1;exact of_decide_eq_true h1
theorem aL(k:List UInt8)(i:Nat)(h:aE k=some i):i<35/\0<i/\i≠33/\i≠34/\gk (i-1)=some (jR i)/\gk i=none:=by
 unfold aE at h
 repeat' split at h
 all_goals (simp only[Option.some.injEq,reduceCtorEq] at h)
 all_goals (subst h;exact⟨by omega,by omega,by omega,by omega,by kernel_rfl,by kernel_rfl⟩)
theorem sZ(h:i<listed.size):(listed.setIfInBounds i true).getD i false=true:=by simp[h]
theorem sM:(a.put dst v).tmps.size=a.tmps.size:=by cases dst<;>simp[Act.put]
theorem BJ:(a.put dst v).defers=a.defers:=by cases dst<;>rfl
theorem jE.push(h:jE W0 xt b0 listed a W m)(hi:i<35)(h0:i≠0)(hu:listed.getD i true=false)(hd:gk i=dst)(hx:Ext W W')(h33:i=33\/i=34->listed.getD 0 false=true)(hno:∀k,aE k≠some i)(hE:∀t,dst=some t->wE xt b0 m W' i v):jE W0 xt b0 (listed.setIfInBounds i true) (a.put dst v) W' m:=by
 have hil:i<listed.size:=by rw[h.lsz];exact hi
 have old:∀j,j≠i->(listed.setIfInBounds i true).getD j false=listed.getD j false:=λj hj=>getD_set_ne false (λhh=>hj hh.symm);have hif:listed.getD i false=false:=by
  simp only[Array.getD_eq_getD_getElem?,Array.getElem?_eq_getElem hil,Option.getD_some] at hu |-;exact hu
 have d1:dst≠some 1:=λhh=>(vx hi (hd.trans hh)).2.2.1 rfl;have d3:dst≠some 3:=λhh=>(vx hi (hd.trans hh)).2.2.2 rfl
 have kk:∀c k,kAt W c k->kAt W' c k:=λc k hc=>(hx.block c (ag hc)).trans hc;refine⟨by simp[h.lsz],by rw[sM];exact h.tsz,by rw[BJ];exact h.df,by rw[l8 d1];exact h.s1,by rw[l8 d3];exact h.s3,h.ext.trans hx,h.xtn,(hx.block xt (ag h.mem)).trans h.mem,
  λhl=>h.own (by rwa [old 0 (λhh=>h0 hh.symm)] at hl),λj hj hl=>?_,λj t hj ht hl=>?_,λhl=>?_,λk j hk hl=>?_⟩
 ·rw[old 0 (λhh=>h0 hh.symm)]
  by_cases hji:j=i
  ·subst hji
   rcases hj with hj | hj | ⟨k,hj⟩
   ·exact h33 (.inl hj)
   ·exact h33 (.inr hj)
   ·exact (hno k hj).elim
  ·exact h.ord j hj (by rwa [old j hji] at hl)
 ·by_cases hji:j=i
  ·subst hji;have hds:dst=some t:=hd.symm.trans ht
   subst hds;exact⟨v,Bo (by rw[h.tsz];exact (vx hi hd).1),hE t rfl⟩
  ·rw[old j hji] at hl;obtain⟨u,h1,h2⟩:=h.val j t hj ht hl;exact⟨u,by rw[l8 (λhh=>vY hi hj (λhh2=>hji hh2.symm) (hd.trans hh) ht)];exact h1,se h2 kk⟩
 ·rw[old 0 (λhh=>h0 hh.symm)] at hl;obtain⟨es,c,L,h1,h2,h3⟩:=h.map hl;refine⟨es,c,L,(hx.block m (ag h1)).trans h1,h2,λk=>?_⟩;rw[h3 k]
  cases hk:aE k with
  | none=>rfl
  | some j =>
   simp only[Option.bind_some]
   have hji:j≠i:=λhh=>hno k (hh▸hk);rw[old j hji]
   by_cases hlj:listed.getD j false=true
   ·rw[if_pos hlj,if_pos hlj];obtain⟨g1,g2,_,_,g3,_⟩:=aL k j hk;have g4:=h.insd k j hk hlj
    have g5:j-1≠i:=λhh=>by rw[hh,hif] at g4;cases g4
    rw[l8 (λhh=>vY hi (by omega) (λhh2=>g5 hh2.symm) (hd.trans hh) g3)]
   ·rw[if_neg hlj,if_neg hlj]
 ·have hji:j≠i:=λhh=>hno k (hh▸hk);rw[old j hji] at hl;exact getD_set_true (h.insd k j hk hl)
theorem AK(k k':List UInt8)(v:Value)(L:List (List UInt8 × Value)):lkp k (L ++ [(k',v)])=(lkp k L).or (if k'=k then some v else none):=by
 unfold lkp;rw[List.find?_append]
 cases hf:L.find? λp=>decide (p.1=k) with
 | some p=>simp
 | none =>
  by_cases h:k'=k
  ·simp[h]
  ·simp[h]
def FQ(i:Nat):List UInt8:=match i with
 | 4 => [111,112,101,110] | 8 => [99,108,111,115,101] | 12 => [99,97,108,108] | 16 => [114,117,110] | 20 => [99,117,116] | 24 => [118,97,108,115] | 28 => [107,101,112,116] | _ => [100,111,110,101]
theorem bz{k:List UInt8}{i:Nat}(h:aE k=some i):k=FQ i:=by
 unfold aE at h
 repeat' split at h
 all_goals (simp only[Option.some.injEq,reduceCtorEq] at h)
 all_goals (rename_i e;subst h;exact e)
theorem Cj{k k':List UInt8}{i:Nat}(h:aE k=some i)(h':aE k'=some i):k=k':=(bz h).trans (bz h').symm
theorem jE.ins{k:List UInt8}{es:Array MapEntry}{c:Nat}{L:List (List UInt8 × Value)}(h:jE W0 xt b0 listed a W m)(hk:aE k=some i)(hu:listed.getD i true=false)(hl0:listed.getD 0 false=true)(hl1:listed.getD (i-1) false=true)
  (hm:W.heap[m]?=some (.map es c)) (hL:pY es L) (hlk:∀k,lkp k L=(aE k).bind λi=>if listed.getD i false=true then a.tmps[jR i]? else none) (hv:a.tmps[jR i]?=some v) :
  jE W0 xt b0 (listed.setIfInBounds i true) (a.put none Go.undef) { W with heap:=W.heap.setIfInBounds m (.map (es.push ⟨.string (bs k),v,c⟩) (c+1)) } m:=by
 obtain⟨hi,hi0,g33,g34,_,gd⟩:=aL k i hk;have hil:i<listed.size:=by rw[h.lsz];exact hi
 have hmlt:=ag hm;have hown:=h.own hl0
 have old:∀j,j≠i->(listed.setIfInBounds i true).getD j false=listed.getD j false:=λj hj=>getD_set_ne false (λhh=>hj hh.symm);have hif:listed.getD i false=false:=by
  simp only[Array.getD_eq_getD_getElem?,Array.getElem?_eq_getElem hil,Option.getD_some] at hu |-;exact hu
 have oth:∀j,j≠m->(W.heap.setIfInBounds m (.map (es.push ⟨.string (bs k),v,c⟩) (c+1)))[j]?=W.heap[j]?:=λj hj=>Array.getElem?_setIfInBounds_ne (λhh=>hj hh.symm);refine⟨by simp[h.lsz],h.tsz,h.df,h.s1,h.s3,⟨h.ext.os,h.ext.tape,h.ext.output,by simpa using h.ext.size,λb hb=>(oth b (by omega)).trans (h.ext.block b hb)⟩,h.xtn,(oth xt (by have:=h.xtn;omega)).trans h.mem,
  λ_=>hown,λ_ _ _=>getD_set_true hl0,λj t hj ht hl=>?_,λ_=>⟨es.push ⟨.string (bs k),v,c⟩,c+1,L ++ [(k,v)],by simp[hmlt],?_,λk'=>?_⟩,λk' j hk' hl=>?_⟩
 ·have hji:j≠i:=λhh=>by rw[hh,gd] at ht;cases ht
  rw[old j hji] at hl;obtain⟨u,h1,h2⟩:=h.val j t hj ht hl;refine⟨u,h1,se h2 λc' k' hc=>(oth c' λhh=>?_).trans hc⟩;unfold kAt at hc;rw[hh,hm] at hc
  cases hc
 ·unfold pY at hL |-;rw[Array.toList_push,List.map_append,List.map_append,hL];rfl
 ·rw[AK,hlk k']
  by_cases hkk:k=k'
  ·subst hkk;rw[hk,if_pos rfl];simp only[Option.bind_some]
   rw[hif,sZ hil,if_pos rfl];have:(a.put none Go.undef).tmps=a.tmps:=rfl
   simpa [this] using hv.symm
  ·rw[if_neg hkk]
   cases hk':aE k' with
   | none=>rfl
   | some j =>
    have hji:j≠i:=λhh=>hkk (Cj hk (hh▸hk'));simp only[Option.bind_some,Option.or_none]
    rw[old j hji];rfl
 ·by_cases hji:j=i
  ·subst hji;exact getD_set_true hl1
  ·rw[old j hji] at hl;exact getD_set_true (h.insd k' j hk' hl)
theorem F5{m':Nat}(h:wE xt b0 m W i v)(h0:i≠0)(h1:i≠33)(h2:i≠34):wE xt b0 m' W i v:=by
 unfold wE at h |-
 split at h<;>first
  | exact absurd rfl h0
  | exact absurd rfl h1
  | exact absurd rfl h2
  | exact h
theorem jE.mk0(h:jE W0 xt b0 listed a W m)(hu:listed.getD 0 true=false):jE W0 xt b0 (listed.setIfInBounds 0 true) (a.put (some 5) (.map (some W.heap.size))) (W.alloc (.map #[] 0)) W.heap.size:=by
 have hil:0<listed.size:=by rw[h.lsz];omega
 have old:∀j,j≠0->(listed.setIfInBounds 0 true).getD j false=listed.getD j false:=λj hj=>getD_set_ne false (λhh=>hj hh.symm);have hif:listed.getD 0 false=false:=by
  simp only[Array.getD_eq_getD_getElem?,Array.getElem?_eq_getElem hil,Option.getD_some] at hu |-;exact hu
 have hx:=iP W (.map #[] 0);have kk:∀c k,kAt W c k->kAt (W.alloc (.map #[] 0)) c k:=λc k hc=>(hx.block c (ag hc)).trans hc
 have hd:gk 0=some 5:=by kernel_rfl
 refine⟨by simp[h.lsz],by rw[sM];exact h.tsz,by rw[BJ];exact h.df,by rw[l8 (by simp)];exact h.s1,by rw[l8 (by simp)];exact h.s3,h.ext.trans hx,h.xtn,(hx.block xt (ag h.mem)).trans h.mem,
  λ_=>h.ext.size,λ_ _ _=>sZ hil,λj t hj ht hl=>?_,λ_=>⟨#[],0,[],heap_alloc_new W _,rfl,λk=>?_⟩,λk j hk hl=>?_⟩
 ·by_cases hj0:j=0
  ·subst hj0;rw[hd] at ht;simp only[Option.some.injEq] at ht;subst ht;exact⟨_,Bo (by rw[h.tsz];omega),rfl⟩
  ·rw[old j hj0] at hl;obtain⟨u,h1,h2⟩:=h.val j t hj ht hl;have n33:j≠33:=λhh=>by have:=h.ord j (.inl hh) hl;rw[hif] at this;cases this
   have n34:j≠34:=λhh=>by have:=h.ord j (.inr (.inl hh)) hl;rw[hif] at this;cases this
   exact⟨u,by rw[l8 (λhh=>vY (i:=0) (by omega) hj (λhh2=>hj0 hh2.symm) (hd.trans hh) ht)];exact h1,se (F5 h2 hj0 n33 n34) kk⟩
 ·cases hk:aE k with
  | none=>rfl
  | some j =>
   obtain⟨_,g0,_⟩:=aL k j hk;simp only[Option.bind_some]
   rw[old j (by omega),if_neg (λhl=>by have:=h.ord j (.inr (.inr ⟨k,hk⟩)) hl;rw[hif] at this;cases this)];rfl
 ·obtain⟨_,g0,_⟩:=aL k j hk;rw[old j (by omega)] at hl;exact getD_set_true (h.insd k j hk hl)
theorem sm{X:Op}(hr:i∈Region.ready .any fa listed)(hop:qB i=some X):∃o,fa[i]?=some o/\o.op=X/\o.guard=none/\o.dst=gk i/\listed.getD i true=false/\i<35:=by
 obtain⟨h1,o,h2,_⟩:=mem_ready.1 hr;have hlt:=(Array.getElem?_eq_some_iff.1 h2).1
 rw[xp] at hlt;refine⟨o,h2,?_,?_,?_,h1,hlt⟩
 ·unfold qB at hop;rw[h2] at hop;simpa using hop
 ·have:=Array.all_eq_true_iff_forall_mem.1 EH o (Array.mem_of_getElem? h2);simpa using this
 ·unfold gk;rw[h2];rfl
theorem tb{j:Nat}(hr:i∈Region.ready .any fa listed)(hd:mZ i j=true):listed.getD j false=true:=by
 obtain⟨_,o,h2,h3⟩:=mem_ready.1 hr;unfold mZ at hd;rw[h2] at hd;obtain⟨e,he,hb⟩:=Array.any_eq_true'.1 hd;simp only[Bool.and_eq_true,beq_iff_eq] at hb;rw[<- hb.2];exact h3 e he hb.1
theorem kT{o:Oper}(hg:o.guard=none)(y:Nat->Option Bool):Region.wanted o y=true:=by simp[Region.wanted,hg]
theorem nr{t:Nat}(h:a.tmps[t]?=some v):a.eval (.tmp t)=v:=by simp[Act.eval,h]
section
variable{Q:Exit->Act->World->Prop}{K:Act->World->Prop}
theorem pf{o:Oper}(ho:fa[i]?=some o)(hg:o.guard=none)(hrun:(execOp a.eval o).run Tryz.prog W=.ok (.value v) W')(hk:K (a.put o.dst v) W'):wpOp Tryz.prog fa Q i K a W:=by
 unfold wpOp;rw[ho];simp only
 rw[if_pos (kT hg _)];exact .inl (gB hrun hk)
abbrev WK(W0:World)(xt b0 i:Nat)(listed:Array Bool):Act->World->Prop:=λa' w'=>∃m,jE W0 xt b0 (listed.setIfInBounds i true) a' w' m
theorem Fe(h:jE W0 xt b0 listed a W m)(hr:i∈Region.ready .any fa listed)(hop:qB i=some (.move (.tmp 3)))(h0:i≠0)(hno:∀k,aE k≠some i)(h33:i=33\/i=34->listed.getD 0 false=true)(hE:∀W,wE xt b0 m W i (fP xt)):wpOp Tryz.prog fa Q i (WK W0 xt b0 i listed) a W:=by
 obtain⟨o,ho,h1,h2,h3,h4,h5⟩:=sm hr hop;refine pf (v:=fP xt) (W':=W) ho h2 ?_ ⟨m,h3▸h.push h5 h0 h4 rfl (Ext.refl W) h33 hno λt _=>hE W⟩;simp only[execOp,h1,nr h.s3]
 rfl
theorem yP(h:jE W0 xt b0 listed a W m)(hr:i∈Region.ready .any fa listed)(hop:qB i=some (.load 29 (.tmp 1)))(h0:i≠0)(hno:∀k,aE k≠some i)(h33:i=33\/i=34->listed.getD 0 false=true)(hE:∀W,wE xt b0 m W i (tq b0)):wpOp Tryz.prog fa Q i (WK W0 xt b0 i listed) a W:=by
 obtain⟨o,ho,h1,h2,h3,h4,h5⟩:=sm hr hop;refine pf (v:=tq b0) (W':=W) ho h2 ?_ ⟨m,h3▸h.push h5 h0 h4 rfl (Ext.refl W) h33 hno λt _=>hE W⟩;have hl:=ez (P:=Tryz.prog) (t:=29) (cs := [tq b0]) (by kernel_rfl) (w:=W) (b:=xt) (off:=0) h.mem (λj hj=>by
  have:j=0:=by simpa using hj
  subst this;rfl) rfl (v:=tq b0) (by rw[show jd Tryz.prog 29=false by kernel_rfl];rfl)
 simp only[execOp,h1,nr h.s1]
 simp[Instr.loadAt,Instr.sureAddr,hl]
theorem nz{j t:Nat}(h:jE W0 xt b0 listed a W m)(hr:i∈Region.ready .any fa listed)(hd:mZ i j=true)(hj:j<35)(ht:gk j=some t):∃v,a.tmps[t]?=some v/\wE xt b0 m W j v:=h.val j t hj ht (tb hr hd)
theorem xy{j t g:Nat}(h:jE W0 xt b0 listed a W m)(hr:i∈Region.ready .any fa listed)(hop:qB i=some (.makeFunc (.func g) #[.tmp t] #[]))(hd:mZ i j=true)(hj:j<35)(ht:gk j=some t)(hj2:∀v,wE xt b0 m W j v->v=tq b0)(h0:i≠0)(hno:∀k,aE k≠some i)(h33:i=33\/i=34->listed.getD 0 false=true)(hE:∀W,wE xt b0 m W i (fM g b0)):wpOp Tryz.prog fa Q i (WK W0 xt b0 i listed) a W:=by
 obtain⟨o,ho,h1,h2,h3,h4,h5⟩:=sm hr hop;obtain⟨v,hv,he⟩:=nz h hr hd hj ht;have:=hj2 v he
 subst this;refine pf (v:=fM g b0) (W':=W) ho h2 ?_ ⟨m,h3▸h.push h5 h0 h4 rfl (Ext.refl W) h33 hno λt _=>hE W⟩;simp only[execOp,h1]
 simp[nr hv];rfl
theorem ou{j t:Nat}{n:Int}(h:jE W0 xt b0 listed a W m)(hr:i∈Region.ready .any fa listed)(hop:qB i=some (.build 71 #[(0,.const (vi n)),(1,.tmp t)]))(hd:mZ i j=true)(hj:j<35)(ht:gk j=some t)(hb:∀v,wE xt b0 m W j v->∀w:World,(Instr.build 71 #[(0,vi n),(1,v)]).run Tryz.prog w=.ok (wV n v) w)(h0:i≠0)(hno:∀k,aE k≠some i)(h33:i=33\/i=34->listed.getD 0 false=true)(hE:∀v,wE xt b0 m W j v->wE xt b0 m W i (wV n v)):wpOp Tryz.prog fa Q i (WK W0 xt b0 i listed) a W:=by
 obtain⟨o,ho,h1,h2,h3,h4,h5⟩:=sm hr hop;obtain⟨v,hv,he⟩:=nz h hr hd hj ht;refine pf (v:=wV n v) (W':=W) ho h2 ?_ ⟨m,h3▸h.push h5 h0 h4 rfl (Ext.refl W) h33 hno λt _=>hE v he⟩;have hb1:=hb v he W
 have hc:a.eval (.const (vi n))=vi n:=rfl;simp only[execOp,h1]
 simp[nr hv,hc,hb1]
theorem B9(k:Int)(xt:Nat)(W:World):Calls Tryz.prog 42 #[vi k,tq xt] W λz W'=>∃c,z=.returned (fO xt c)/\W.heap.size<=c/\kAt W' c k/\Ext W W' :=
 Bu k (some ((xt:Blk),0)) noM noH W _ (ba _) λb0 W1 n1 k1=>⟨b0,rfl,k1.1.own.resolve_right λh=>h,k1.1.eq,n1.ext⟩
theorem FN{j t:Nat}{n:Int}(h:jE W0 xt b0 listed a W m)(hr:i∈Region.ready .any fa listed)(hop:qB i=some (.call { callee:=.value (.tmp t),args:=#[.const (vi n)],argTypes:=#[3] }))(hd:mZ i j=true)(hj:j<35)(ht:gk j=some t)(hj2:∀v,wE xt b0 m W j v->v=fP xt)(h0:i≠0)(hno:∀k,aE k≠some i)(h33:i=33\/i=34->listed.getD 0 false=true)(hE:∀W' c,xt<c->kAt W' c n->wE xt b0 m W' i (fO xt c)):wpOp Tryz.prog fa Q i (WK W0 xt b0 i listed) a W:=by
 obtain⟨o,ho,h1,h2,h3,h4,h5⟩:=sm hr hop;obtain⟨v,hv,he⟩:=nz h hr hd hj ht;have:=hj2 v he
 subst this;unfold wpOp;rw[ho];simp only
 rw[if_pos (kT h2 _)];refine .inl ?_;have hfn:∃fn b,Tryz.prog.funcs[42]?=some fn/\fn.body=some b/\fn.name ≠ "runtime.NumGoroutine":=⟨Tryz.f42,_,Tryz.func42,rfl,by decide⟩
 obtain⟨fn,b,hf1,hf2,hf3⟩:=hfn;have hrun:(execOp a.eval o).run Tryz.prog W=.ok (.enter 42 #[vi n,tq xt]) W:=by
  have hc:a.eval (.const (vi n))=vi n:=rfl;simp only[execOp,h1,resolve,nr hv,Deferred.ofValue,Sem.run_bind,Sem.run_pure,Result.andThen_ok,invoke]
  simp[callFunc,hf1,hf2,hf3,hc]
 unfold Oper.wp;rw[hrun];refine (B9 n xt W).mono λz W' ⟨c,hz,hc,hk,hx⟩=>?_;subst hz;exact⟨m,h3▸h.push h5 h0 h4 rfl hx h33 hno λt _=>hE W' c (by have:=h.xtn;have:=h.ext.size;omega) hk⟩
theorem F3(h:jE W0 xt b0 listed a W m)(hr:0∈Region.ready .any fa listed):wpOp Tryz.prog fa Q 0 (WK W0 xt b0 0 listed) a W:=by
 obtain⟨o,ho,h1,h2,h3,h4,h5⟩:=sm hr (X:=.makeMap 73 none) (by kernel_rfl);have hd:gk 0=some 5:=by kernel_rfl
 rw[hd] at h3;refine pf (v:=.map (some W.heap.size)) (W':=W.alloc (.map #[] 0)) ho h2 ?_ ⟨_,h3▸h.mk0 h4⟩;simp only[execOp,h1]
 rfl
theorem oC{t:Nat}{k:List UInt8}(h:jE W0 xt b0 listed a W m)(hr:i∈Region.ready .any fa listed)(hk:aE k=some i)(hop:qB i=some (.insert 73 (.tmp 5) (.const (.string (bs k))) (.tmp t)))(ht:jR i=t)(hd0:mZ i 0=true)(hd1:mZ i (i-1)=true):wpOp Tryz.prog fa Q i (WK W0 xt b0 i listed) a W:=by
 obtain⟨o,ho,h1,h2,h3,h4,h5⟩:=sm hr hop;obtain⟨g1,g2,_,_,g3,g4⟩:=aL k i hk;obtain⟨v,hv,_⟩:=nz h hr hd1 (by omega) g3;obtain⟨u,hu,he⟩:=nz h hr hd0 (by omega) (show gk 0=some 5 by kernel_rfl);have hu2:u=.map (some m):=he
 subst hu2;have hl0:=tb hr hd0
 obtain⟨es,c,L,m1,m2,m3⟩:=h.map hl0;have hil:listed.getD i false=false:=by
  have hlt:i<listed.size:=by rw[h.lsz];exact h5
  simp only[Array.getD_eq_getD_getElem?,Array.getElem?_eq_getElem hlt,Option.getD_some] at h4 |-;exact h4
 have hnone:lkp k L=none:=by rw[m3 k,hk];simp only[Option.bind_some];rw[hil];rfl
 have hrun:=r5 (P:=Tryz.prog) (W:=W) Tryz.underlying73 Tryz.underlying9 m1 m2 hnone v;unfold wpOp;rw[ho];simp only
 rw[if_pos (kT h2 _)];refine .inl ?_;rw[ht] at hv;have hc:a.eval (.const (.string (bs k)))=.string (bs k):=rfl
 have hrun2:(execOp a.eval o).run Tryz.prog W=.ok .skip { W with heap:=W.heap.setIfInBounds m (.map (es.push ⟨.string (bs k),v,c⟩) (c+1)) }:=by
  simp only[execOp,h1,nr hv,nr hu,hc]
  exact hrun
 unfold Oper.wp;rw[hrun2];refine⟨m,?_⟩;have:=h.ins hk h4 hl0 (tb hr hd1) m1 m2 m3 (by rw[ht];exact hv)
 rw[h3,g4];exact this
theorem DU{j t:Nat}(h:jE W0 xt b0 listed a W m)(hr:i∈Region.ready .any fa listed)(hop:qB i=some (.move (.tmp t))\/qB i=some (.assign (.tmp t)))(hd:mZ i j=true)(hj:j<35)(ht:gk j=some t)(hj2:∀v,wE xt b0 m W j v->v=.map (some m))(h0:i≠0)(hno:∀k,aE k≠some i)(h33:i=33\/i=34->listed.getD 0 false=true)(hE:∀W,wE xt b0 m W i (.map (some m))):wpOp Tryz.prog fa Q i (WK W0 xt b0 i listed) a W:=by
 obtain⟨v,hv,he⟩:=nz h hr hd hj ht;have:=hj2 v he
 subst this
 rcases hop with hop | hop
 ·obtain⟨o,ho,h1,h2,h3,h4,h5⟩:=sm hr hop;refine pf (v:=.map (some m)) (W':=W) ho h2 ?_ ⟨m,h3▸h.push h5 h0 h4 rfl (Ext.refl W) h33 hno λt _=>hE W⟩;simp only[execOp,h1,nr hv]
  rfl
 ·obtain⟨o,ho,h1,h2,h3,h4,h5⟩:=sm hr hop;refine pf (v:=.map (some m)) (W':=W) ho h2 ?_ ⟨m,h3▸h.push h5 h0 h4 rfl (Ext.refl W) h33 hno λt _=>hE W⟩;simp only[execOp,h1,nr hv]
  rfl
theorem EA(h:jE W0 xt b0 listed a W m):∀i,i<35->i∈Region.ready .any fa listed->wpOp Tryz.prog fa Q i (WK W0 xt b0 i listed) a W:=λi hi hr=>match i,hi with
 | 0,_=>F3 h hr
 | 1,_=>Fe h hr (by kernel_rfl) (by omega) (λk hk=>by have:=aL k _ hk;have h2:=bz hk;subst h2;exact absurd hk (by decide)) (λh=>by omega) (λ_=>rfl)
 | 2,_=>FN (j:=1) (t:=6) (n:=1) h hr (by kernel_rfl) (by kernel_rfl) (by omega) (by kernel_rfl) (λ_ he=>he) (by omega) (λk hk=>by have:=aL k _ hk;have h2:=bz hk;subst h2;exact absurd hk (by decide)) (λh=>by omega) (λ_ c hx hc=>⟨c,rfl,hx,hc⟩)
 | 3,_=>ou (j:=2) (t:=7) (n:=2) h hr (by kernel_rfl) (by kernel_rfl) (by omega) (by kernel_rfl) (λv he w=>by obtain⟨c,rfl,_⟩:=he;kernel_rfl) (by omega) (λk hk=>by have:=aL k _ hk;have h2:=bz hk;subst h2;exact absurd hk (by decide)) (λh=>by omega) (λv he=>by obtain⟨c,rfl,hc⟩:=he;exact⟨c,rfl,hc⟩)
 | 4,_=>oC (t:=8) (k := [111,112,101,110]) h hr rfl (by kernel_rfl) rfl (by kernel_rfl) (by kernel_rfl)
 | 5,_=>Fe h hr (by kernel_rfl) (by omega) (λk hk=>by have:=aL k _ hk;have h2:=bz hk;subst h2;exact absurd hk (by decide)) (λh=>by omega) (λ_=>rfl)
 | 6,_=>FN (j:=5) (t:=9) (n:=3) h hr (by kernel_rfl) (by kernel_rfl) (by omega) (by kernel_rfl) (λ_ he=>he) (by omega) (λk hk=>by have:=aL k _ hk;have h2:=bz hk;subst h2;exact absurd hk (by decide)) (λh=>by omega) (λ_ c hx hc=>⟨c,rfl,hx,hc⟩)
 | 7,_=>ou (j:=6) (t:=10) (n:=2) h hr (by kernel_rfl) (by kernel_rfl) (by omega) (by kernel_rfl) (λv he w=>by obtain⟨c,rfl,_⟩:=he;kernel_rfl) (by omega) (λk hk=>by have:=aL k _ hk;have h2:=bz hk;subst h2;exact absurd hk (by decide)) (λh=>by omega) (λv he=>by obtain⟨c,rfl,hc⟩:=he;exact⟨c,rfl,hc⟩)
 | 8,_=>oC (t:=11) (k := [99,108,111,115,101]) h hr rfl (by kernel_rfl) rfl (by kernel_rfl) (by kernel_rfl)
 | 9,_=>yP h hr (by kernel_rfl) (by omega) (λk hk=>by have:=aL k _ hk;have h2:=bz hk;subst h2;exact absurd hk (by decide)) (λh=>by omega) (λ_=>rfl)
 | 10,_=>xy (j:=9) (t:=12) (g:=46) h hr (by kernel_rfl) (by kernel_rfl) (by omega) (by kernel_rfl) (λ_ he=>he) (by omega) (λk hk=>by have:=aL k _ hk;have h2:=bz hk;subst h2;exact absurd hk (by decide)) (λh=>by omega) (λ_=>rfl)
 | 11,_=>ou (j:=10) (t:=13) (n:=7) h hr (by kernel_rfl) (by kernel_rfl) (by omega) (by kernel_rfl) (λv he w=>by rcases he with rfl;kernel_rfl) (by omega) (λk hk=>by have:=aL k _ hk;have h2:=bz hk;subst h2;exact absurd hk (by decide)) (λh=>by omega) (λv he=>by have he:v=fM 46 b0:=he;subst he;rfl)
 | 12,_=>oC (t:=14) (k := [99,97,108,108]) h hr rfl (by kernel_rfl) rfl (by kernel_rfl) (by kernel_rfl)
 | 13,_=>yP h hr (by kernel_rfl) (by omega) (λk hk=>by have:=aL k _ hk;have h2:=bz hk;subst h2;exact absurd hk (by decide)) (λh=>by omega) (λ_=>rfl)
 | 14,_=>xy (j:=13) (t:=15) (g:=47) h hr (by kernel_rfl) (by kernel_rfl) (by omega) (by kernel_rfl) (λ_ he=>he) (by omega) (λk hk=>by have:=aL k _ hk;have h2:=bz hk;subst h2;exact absurd hk (by decide)) (λh=>by omega) (λ_=>rfl)
 | 15,_=>ou (j:=14) (t:=16) (n:=2) h hr (by kernel_rfl) (by kernel_rfl) (by omega) (by kernel_rfl) (λv he w=>by rcases he with rfl;kernel_rfl) (by omega) (λk hk=>by have:=aL k _ hk;have h2:=bz hk;subst h2;exact absurd hk (by decide)) (λh=>by omega) (λv he=>by have he:v=fM 47 b0:=he;subst he;rfl)
 | 16,_=>oC (t:=17) (k := [114,117,110]) h hr rfl (by kernel_rfl) rfl (by kernel_rfl) (by kernel_rfl)
 | 17,_=>yP h hr (by kernel_rfl) (by omega) (λk hk=>by have:=aL k _ hk;have h2:=bz hk;subst h2;exact absurd hk (by decide)) (λh=>by omega) (λ_=>rfl)
 | 18,_=>xy (j:=17) (t:=18) (g:=48) h hr (by kernel_rfl) (by kernel_rfl) (by omega) (by kernel_rfl) (λ_ he=>he) (by omega) (λk hk=>by have:=aL k _ hk;have h2:=bz hk;subst h2;exact absurd hk (by decide)) (λh=>by omega) (λ_=>rfl)
 | 19,_=>ou (j:=18) (t:=19) (n:=1) h hr (by kernel_rfl) (by kernel_rfl) (by omega) (by kernel_rfl) (λv he w=>by rcases he with rfl;kernel_rfl) (by omega) (λk hk=>by have:=aL k _ hk;have h2:=bz hk;subst h2;exact absurd hk (by decide)) (λh=>by omega) (λv he=>by have he:v=fM 48 b0:=he;subst he;rfl)
 | 20,_=>oC (t:=20) (k := [99,117,116]) h hr rfl (by kernel_rfl) rfl (by kernel_rfl) (by kernel_rfl)
 | 21,_=>yP h hr (by kernel_rfl) (by omega) (λk hk=>by have:=aL k _ hk;have h2:=bz hk;subst h2;exact absurd hk (by decide)) (λh=>by omega) (λ_=>rfl)
 | 22,_=>xy (j:=21) (t:=21) (g:=49) h hr (by kernel_rfl) (by kernel_rfl) (by omega) (by kernel_rfl) (λ_ he=>he) (by omega) (λk hk=>by have:=aL k _ hk;have h2:=bz hk;subst h2;exact absurd hk (by decide)) (λh=>by omega) (λ_=>rfl)
 | 23,_=>ou (j:=22) (t:=22) (n:=1) h hr (by kernel_rfl) (by kernel_rfl) (by omega) (by kernel_rfl) (λv he w=>by rcases he with rfl;kernel_rfl) (by omega) (λk hk=>by have:=aL k _ hk;have h2:=bz hk;subst h2;exact absurd hk (by decide)) (λh=>by omega) (λv he=>by have he:v=fM 49 b0:=he;subst he;rfl)
 | 24,_=>oC (t:=23) (k := [118,97,108,115]) h hr rfl (by kernel_rfl) rfl (by kernel_rfl) (by kernel_rfl)
 | 25,_=>yP h hr (by kernel_rfl) (by omega) (λk hk=>by have:=aL k _ hk;have h2:=bz hk;subst h2;exact absurd hk (by decide)) (λh=>by omega) (λ_=>rfl)
 | 26,_=>xy (j:=25) (t:=24) (g:=50) h hr (by kernel_rfl) (by kernel_rfl) (by omega) (by kernel_rfl) (λ_ he=>he) (by omega) (λk hk=>by have:=aL k _ hk;have h2:=bz hk;subst h2;exact absurd hk (by decide)) (λh=>by omega) (λ_=>rfl)
 | 27,_=>ou (j:=26) (t:=25) (n:=1) h hr (by kernel_rfl) (by kernel_rfl) (by omega) (by kernel_rfl) (λv he w=>by rcases he with rfl;kernel_rfl) (by omega) (λk hk=>by have:=aL k _ hk;have h2:=bz hk;subst h2;exact absurd hk (by decide)) (λh=>by omega) (λv he=>by have he:v=fM 50 b0:=he;subst he;rfl)
 | 28,_=>oC (t:=26) (k := [107,101,112,116]) h hr rfl (by kernel_rfl) rfl (by kernel_rfl) (by kernel_rfl)
 | 29,_=>yP h hr (by kernel_rfl) (by omega) (λk hk=>by have:=aL k _ hk;have h2:=bz hk;subst h2;exact absurd hk (by decide)) (λh=>by omega) (λ_=>rfl)
 | 30,_=>xy (j:=29) (t:=27) (g:=51) h hr (by kernel_rfl) (by kernel_rfl) (by omega) (by kernel_rfl) (λ_ he=>he) (by omega) (λk hk=>by have:=aL k _ hk;have h2:=bz hk;subst h2;exact absurd hk (by decide)) (λh=>by omega) (λ_=>rfl)
 | 31,_=>ou (j:=30) (t:=28) (n:=2) h hr (by kernel_rfl) (by kernel_rfl) (by omega) (by kernel_rfl) (λv he w=>by rcases he with rfl;kernel_rfl) (by omega) (λk hk=>by have:=aL k _ hk;have h2:=bz hk;subst h2;exact absurd hk (by decide)) (λh=>by omega) (λv he=>by have he:v=fM 51 b0:=he;subst he;rfl)
 | 32,_=>oC (t:=29) (k := [100,111,110,101]) h hr rfl (by kernel_rfl) rfl (by kernel_rfl) (by kernel_rfl)
 | 33,_=>DU (j:=0) (t:=5) h hr (.inl (by kernel_rfl)) (by kernel_rfl) (by omega) (by kernel_rfl) (λ_ he=>he) (by omega) (λk hk=>by have:=aL k _ hk;have h2:=bz hk;subst h2;exact absurd hk (by decide)) (λ_=>tb hr (by kernel_rfl)) (λ_=>rfl)
 | 34,_=>DU (j:=33) (t:=30) h hr (.inr (by kernel_rfl)) (by kernel_rfl) (by omega) (by kernel_rfl) (λ_ he=>he) (by omega) (λk hk=>by have:=aL k _ hk;have h2:=bz hk;subst h2;exact absurd hk (by decide)) (λ_=>tb hr (by kernel_rfl)) (λ_=>rfl)
 | n+35,hi=>absurd hi (by omega)
theorem FV(hr:Region.ready .any fa listed = [])(hs:listed.size=35):∀i,i<35->listed.getD i false=true:=by
 intro i
 induction i using Nat.strongRecOn with
 | ind i ih =>
  intro hi
  cases hl:listed.getD i false with
  | true=>rfl
  | false =>
   have hlt:i<listed.size:=by omega
   have hu:listed.getD i true=false:=by
    simp only[Array.getD_eq_getD_getElem?,Array.getElem?_eq_getElem hlt,Option.getD_some] at hl |-;exact hl
   obtain⟨o,ho⟩:∃o,fa[i]?=some o:=⟨_,Array.getElem?_eq_getElem (by rw[xp];exact hi)⟩
   have hm:i∈Region.ready .any fa listed:=mem_ready.2 ⟨hu,o,ho,λe he _=>by
    have:=Fl;rw[List.all_eq_true] at this;have h1:=this i (List.mem_range.2 hi)
    rw[ho] at h1;have h2:=of_decide_eq_true (Array.all_eq_true_iff_forall_mem.1 h1 e he)
    exact ih e.on h2 (by omega)⟩
   rw[hr] at hm;simp at hm
end
end
def kI(b0 xt c1 c3:Nat)(k:List UInt8):Option Value :=
 (aE k).map λi=>match i with
  | 4=>wV 2 (fO xt c1)
  | 8=>wV 2 (fO xt c3)
  | 12=>wV 7 (fM 46 b0)
  | 16=>wV 2 (fM 47 b0)
  | 20=>wV 1 (fM 48 b0)
  | 24=>wV 1 (fM 49 b0)
  | 28=>wV 1 (fM 50 b0)
  | _=>wV 2 (fM 51 b0)
def FC(b0:Nat)(v:Value)(D:Hp):Prop:=∃(m xt c1 c3:Nat) (es:Array MapEntry) (c:Nat) (L:List (List UInt8 × Value)),v=.map (some m)/\D m=some (.map es c)/\pY es L/\(∀k,lkp k L=kI b0 xt c1 c3 k) /\
 D xt=some (.cells #[tq b0] 29 (0,0))/\D c1=some (.cells #[vi 1] 3 (0,0))/\D c3=some (.cells #[vi 3] 3 (0,0))
set_option maxHeartbeats 2000000 in
theorem iG(b0:Nat)(H:Hp):Gf Tryz.prog 27 #[tq b0] H (FC b0):=λW _=>by
 go_enter Tryz.func27,Tryz.ntmps27
 go_wp2_with (fail)
 rename_i Q1 K1 hK;refine wp_region_any (by kernel_rfl) ?_;show wpAny _ .any fa _ _ _ _ _;refine ru (λlisted a w=>∃m,jE (W.alloc (Obj.cells #[tq b0] 29)) W.heap.size b0 listed a w m) (λlisted a w i hi ⟨m,h⟩=>EA h i ?lt hi) (λlisted a w hr ⟨m,h⟩=>?fin) _ _ _ _ ?len ⟨0,?ini⟩
 case lt =>
  obtain⟨h1,o,h2,_⟩:=mem_ready.1 hi;have hlt:=(Array.getElem?_eq_some_iff.1 h2).1
  rw[xp] at hlt;exact hlt
 case fin =>
  have all:=FV hr h.lsz;obtain⟨es,c,L,m1,m2,m3⟩:=h.map (all 0 (by omega));obtain⟨v2,h2,e2⟩:=h.val 34 2 (by omega) (by kernel_rfl) (all 34 (by omega));have e2:v2=.map (some m):=e2
  subst e2;obtain⟨v8,h8,c1,e8,x1,k1⟩:=h.val 3 8 (by omega) (by kernel_rfl) (all 3 (by omega));obtain⟨v11,h11,c3,e11,x3,k3⟩:=h.val 7 11 (by omega) (by kernel_rfl) (all 7 (by omega));obtain⟨v14,h14,e14⟩:=h.val 11 14 (by omega) (by kernel_rfl) (all 11 (by omega));obtain⟨v17,h17,e17⟩:=h.val 15 17 (by omega) (by kernel_rfl) (all 15 (by omega));obtain⟨v20,h20,e20⟩:=h.val 19 20 (by omega) (by kernel_rfl) (all 19 (by omega));obtain⟨v23,h23,e23⟩:=h.val 23 23 (by omega) (by kernel_rfl) (all 23 (by omega));obtain⟨v26,h26,e26⟩:=h.val 27 26 (by omega) (by kernel_rfl) (all 27 (by omega));obtain⟨v29,h29,e29⟩:=h.val 31 29 (by omega) (by kernel_rfl) (all 31 (by omega));have own:=h.own (all 0 (by omega))
  have hsz:(W.alloc (Obj.cells #[tq b0] 29)).heap.size=W.heap.size+1:=by simp
  have hx:Ext W w:=(iP W _).trans h.ext;refine hK _ _ (wp_ret ⟨h.df,.map (some m),?_,.map (some m),aX W (ak w),rfl,hx,fW W _,dw W _,m,W.heap.size,c1,c3,es,c,L,rfl,?_,m2,λk=>?_,?_,?_,?_⟩)
  ·simp[results,Tryz.results27,h2]
  ·rw[gG (by omega)];exact m1
  ·rw[m3 k];unfold kI
   cases hk:aE k with
   | none=>rfl
   | some i =>
    simp only[Option.bind_some,Option.map_some]
    rw[all i (aL k i hk).1,if_pos rfl];have hkk:=bz hk
    unfold aE at hk
    repeat' split at hk
    all_goals (simp only[Option.some.injEq,reduceCtorEq] at hk)
    all_goals subst hk
    ·rw[show jR 4=8 from rfl,h8,e8];rfl
    ·rw[show jR 8=11 from rfl,h11,e11];rfl
    ·rw[show jR 12=14 from rfl,h14,show v14=_ from e14];rfl
    ·rw[show jR 16=17 from rfl,h17,show v17=_ from e17];rfl
    ·rw[show jR 20=20 from rfl,h20,show v20=_ from e20];rfl
    ·rw[show jR 24=23 from rfl,h23,show v23=_ from e23];rfl
    ·rw[show jR 28=26 from rfl,h26,show v26=_ from e26];rfl
    ·rw[show jR 32=29 from rfl,h29,show v29=_ from e29];rfl
  ·rw[gG (by omega)];exact h.mem
  ·rw[gG (by omega)];exact k1
  ·rw[gG (by omega)];exact k3
 case len =>
  show (unl fa.size (Array.replicate 35 false)).length<=35;rw[xp];decide
 case ini =>
  have z:∀i,(Array.replicate 35 false).getD i false=false:=λi=>by
   simp only[Array.getD_eq_getD_getElem?,Array.getElem?_replicate]
   split<;>rfl
  refine⟨by show (Array.replicate 35 false).size=35;simp,rfl,rfl,rfl,rfl,⟨rfl,rfl,rfl,Nat.le_refl _,λ_ _=>rfl⟩,by simp,heap_alloc_new W _,λh=>?_,λi _ h=>?_,λi t _ _ h=>?_,λh=>?_,λk i _ h=>?_⟩
  all_goals (exact absurd (h.symm.trans (z _)) (by simp))
set_option maxRecDepth 100000
def aH(d:Dsk)(ws:List (List UInt8)):DR:=match ws with
 | []=>bS d 1
 | w::r=>match aE w,r with
  | some 4,[a,b]=>two d a b λx y=>gO d ⟨1,x,y,0,0,POp.none⟩
  | some 8,[a,b]=>two d a b λx y=>gO d ⟨3,x,y,0,0,POp.none⟩
  | some 12,[t,c,q,a,k,y,n]=>bQ d t c q a k y n
  | some 16,[a,b]=>two d a b (mN d)
  | some 20,[a]=>one d a (nk d)
  | some 24,[a]=>one d a (kP d)
  | some 28,[a]=>one d a (kR d)
  | some 32,[a,b]=>two d a b (ln d)
  | _,_=>bS d 1
def aq(d:Dsk)(s:List UInt8):DR:=aH d (aJ s)
def mR(r:DR):List UInt8:=if r.2.2=0 then r.2.1 else [101,114,114,111,114,32]++Lib.itoa r.2.2
theorem uC{r:DR}(h:r.2.2=0):mR r=r.2.1:=if_pos h
theorem qQ{r:DR}(h:r.2.2≠0):mR r = [101,114,114,111,114,32]++Lib.itoa r.2.2:=if_neg h
def DM(H:Hp)(r:DR)(v:Value)(C':Array Value)(D:Hp):Prop:=v=.string (bs (mR r))/\∃γ q m d,C'=tC r.1.g γ q m d/\∀K:Hp,H.le K->D.le K->aK K r.1.g γ/\av K q m d r.1.l
theorem Be{P:Program}{W:World}{b1 t1:Nat}{z:Value}(s1:ee P t1=some 1)(a1:jd P t1=false)(h1:W.heap[b1]?=some (.cells #[z] t1 (0,0))):(AW [(b1,t1)]).run P W=.ok z W:=by
 have e1:=ez (P:=P) s1 (w:=W) (b:=b1) (off:=0) h1 (cs := [z]) (λj hj=>by
  have:j=0:=by simpa using hj
  subst this;rfl) rfl (v:=z) (by rw[a1];rfl)
 simp only[AW,List.mapM_cons,List.mapM_nil,Sem.run_bind,e1,Result.andThen_ok,Sem.run_pure]
section
variable{W W1 W2:World}{H H1:Hp}{b0 b1:Nat}{C:Array Value}{z:Value}
abbrev LR(W:World)(H:Hp)(b0:Nat)(r:DR):Ending->World->Prop:=RGg W b0 42 (DM H r) False
theorem FY(k0:Kn W (λb=>b=b0) H1 W1 b0 (Obj.cells C 42 (0,0)))(k1:Kn W (λb=>b=b0) H1 W1 b1 (Obj.cells #[z] 9 (0,0))):b1≠b0/\W.heap.size<=b1:=by
 have hne:b1≠b0:=λhe=>by
  have e:=k1.eq;rw[he,k0.eq] at e;simp at e
 exact⟨hne,k1.own.resolve_right hne⟩
theorem bJ{g:Grp}{γ:GP}{q:OL}{m d:Nat}{l:List Ent}{x:Int}{r:DR}(hr:r=bS ⟨g,l⟩ x)(hL:Lay H)(h63:we x)(hx0:x≠0)(hg:aK H g γ)(hE:av H q m d l)(hH:H.le (ak W))(hn:H b0=none)(n1:Now W (λb=>b=b0) H1 W1)
  (k0:Kn W (λb=>b=b0) H1 W1 b0 (Obj.cells (tC g γ q m d) 42 (0,0))) (k1:Kn W (λb=>b=b0) H1 W1 b1 (Obj.cells #[z] 9 (0,0))) (hx:Ext W1 W2) :
  Dr Tryz.prog (LR W H b0 r) (some (24,[b1])) [(b1,9)] (.panicking [{ v:=li x,recovered:=false }]) W2:=by
 obtain⟨hne,hge⟩:=FY k0 k1;have h0:W2.heap[b0]?=some (.cells (tC g γ q m d) 42 (0,0)):=(hx.block _ (ag k0.eq)).trans k0.eq
 have h1:W2.heap[b1]?=some (.cells #[z] 9 (0,0)):=(hx.block _ (ag k1.eq)).trans k1.eq;have hH2:H.le (ak W2):=λb o hb=>by
  have hb1:=hH b o hb;have hb2:W1.heap[b]?=some o:=(n1.mod.blk b (ag hb1) (λhe=>by rw[he,hn] at hb;cases hb)).trans hb1
  exact (hx.block b (ag hb2)).trans hb2
 refine CallsDIn.mono (zD b1 x W2 hL hH2 h63 h1) λe u' W3 ⟨k1',k2,k3,k4⟩=>⟨k1',k2,_,Be (by kernel_rfl) (by kernel_rfl) k3,?_⟩
 have hm:Mod (λb=>b=b0) W W3:=⟨k4.os.trans (hx.os.trans n1.mod.os),k4.tape.trans (hx.tape.trans n1.mod.tape),k4.output.trans (hx.output.trans n1.mod.output),Nat.le_trans n1.mod.size (Nat.le_trans hx.size k4.size),λb hb hb0=>by
  rw[k4.blk b (Nat.lt_of_lt_of_le hb (Nat.le_trans n1.mod.size hx.size)) (by omega),hx.block b (Nat.lt_of_lt_of_le hb n1.mod.size),n1.mod.blk b hb hb0]⟩
 refine⟨hm,.inl ⟨_,tC g γ q m d,noH,rfl,(k4.blk b0 (ag h0) (λh=>hne h.symm)).trans h0,ba _,λb o h=>(by cases h),?_⟩⟩;subst hr;rw[show Lib.itoa x=Lib.itoa (bS ⟨g,l⟩ x).2.2 from rfl,<- qQ (r:=bS ⟨g,l⟩ x) hx0];exact⟨rfl,γ,q,m,d,rfl,λK hk _=>⟨hg.mono hk,hE.mono hk⟩⟩
theorem jq{r:DR}{γ:GP}{q:OL}{m d:Nat}(h0:r.2.2=0)(n1:Now W (λb=>b=b0) H1 W1)(k0:Kn W (λb=>b=b0) H1 W1 b0 (Obj.cells (tC r.1.g γ q m d) 42 (0,0)))(k1:Kn W (λb=>b=b0) H1 W1 b1 (Obj.cells #[.string (bs r.2.1)] 9 (0,0)))
  (hp:∀K:Hp,H.le K->(aX W H1).le K->aK K r.1.g γ/\av K q m d r.1.l):Dr Tryz.prog (LR W H b0 r) (some (24,[b1])) [(b1,9)] .returning W1:=by
 refine CallsDIn.mono (B5 ⟨b1,0,none⟩ W1) λx u' W2 ⟨q1,q2,hx⟩=>⟨q1,by rw[q2];rfl,?_⟩
 have h1:W2.heap[b1]?=_:=(hx.block _ (ag k1.eq)).trans k1.eq;refine⟨_,Be (by kernel_rfl) (by kernel_rfl) h1,⟨hx.os.trans n1.mod.os,hx.tape.trans n1.mod.tape,hx.output.trans n1.mod.output,Nat.le_trans n1.mod.size hx.size,λb hb hb0=>?_⟩,.inl ⟨_,tC r.1.g γ q m d,aX W H1,rfl,(hx.block _ (ag k0.eq)).trans k0.eq,λb o hb=>?_,dw W H1,?_⟩⟩
 ·rw[hx.block b (Nat.lt_of_lt_of_le hb n1.mod.size),n1.mod.blk b hb hb0]
 ·have:=n1.sub b o (fW W H1 b o hb);exact (hx.block b (ag this)).trans this
 ·rw[<- uC h0];exact⟨rfl,γ,q,m,d,rfl,hp⟩
theorem fj{K:Hp}{p:OL}{n c:Nat}{w:List UInt8}{r:List (List UInt8)}(h:Strs K p n c (w::r))(hr:r ≠ []):∃p',Value.slice (ab p (0+(if (c:Int)=1 then 0 else 1 * ((1:Nat):Int)))) ((n:Int)-1).toNat ((c:Int)-1).toNat=vsl p' (n-1) (c-1)/\Strs K p' (n-1) (c-1) r:=by
 have hlen:=h.len;have hpos:0<r.length:=List.length_pos_iff.2 hr
 simp only[List.length_cons] at hlen;have hnc:=h.1
 have hcm:=h.2.1;refine⟨fR p 1,?_,by omega,by omega,?_⟩
 ·rw[if_neg (by omega),bD];simp only[vsl]
  congr 1
  ·omega
  ·omega
 ·have:=h.2.2.part 1 n (by omega) (Nat.le_refl _);rw[List.take_of_length_le (by simp;omega)] at this;simpa [hlen] using this
end
end Go.Proofs.YtfpmcmhihhnfgaaGreatDoor
