/- Contract: slices.Insert of replies. No conditions. -/
import Derived.Test.YtfpmcmhihhnfgaaGreatDoorKA1
set_option linter.unusedVariables false
set_option linter.unusedSimpArgs false
namespace Go.Proofs.YtfpmcmhihhnfgaaGreatDoor
open Go.RowKit
set_option maxRecDepth 100000
set_option maxHeartbeats 4000000
theorem B2(x0 x1 x2 x3 x4 x5:Int)(x6:OL)(x7 x8:Nat):Xw 112 #[vg #[vi x0,vi x1,vi x2,vi x3,vi x4,vi x5,vsl x6 x7 x8]] λ_ H0 _ _ C _ T=>(∀b0:Nat,(∀b1:Nat,(C H0 nK 140 #[vsl x6 x7 x8] λz W1 W2=>∃(x9:OL) (c0 c1:Nat),z=.returned (vsl x9 c0 c1)/\Fr W1 W2 H0 λH1=>T H1 nK (vg #[vi x0,vi x1,vi x2,vi x3,vi x4,vi x5,vsl x9 c0 c1])))) :=
 Xa (hi:={}) (args := [.agg [vI 0,vI 1,vI 2,vI 3,vI 4,vI 5,vS 6]]) (nv:=9) (e:=lk [.i x0,.i x1,.i x2,.i x3,.i x4,.i x5,.p x6,.n x7,.n x8]) Tryz.func112
theorem uV(x0 x1 x2 x3 x4 x5:Int)(x6:OL)(x7 x8:Nat):Xw 80 #[vg #[vi x0,vi x1,vi x2,vi x3,vi x4,vi x5,vsl x6 x7 x8]] λ_ H0 _ _ C _ T=>(∀b0:Nat,(∀b1:Nat,(C H0 nK 104 #[vsl x6 x7 x8,vi (-1)] λz W1 W2=>∃(x9:OL) (c0 c1:Nat),z=.returned (vsl x9 c0 c1)/\Fr W1 W2 H0 λH1=>T H1 nK (vg #[vi x0,vi x1,vi x2,vi x3,vi x4,vi x5,vsl x9 c0 c1])))) :=
 Xa (hi:={}) (args := [.agg [vI 0,vI 1,vI 2,vI 3,vI 4,vI 5,vS 6]]) (nv:=9) (e:=lk [.i x0,.i x1,.i x2,.i x3,.i x4,.i x5,.p x6,.n x7,.n x8]) Tryz.func80
theorem z7(x0 x1:Int)(x2:OL):Xw 180 #[vg #[vi x0,vi x1],vp (ab x2 0)] λ_ H0 _ _ _ _ T=>(∀b0:Nat,(∃x3:OL,aa H0 x2 0 [vp (ab x3 0)]/\(Ck (x3.isSome=true) (∃x4:Int,aa H0 x3 (0+1) [vi x4]/\T H0 nK (vb (decide (x0<=x4))))))) :=
 Xa (hi:={}) (args := [.agg [vI 0,vI 1],.ptrO 2 (.k 0)]) (nv:=3) (e:=lk [.i x0,.i x1,.p x2]) Tryz.func180
theorem zV(x0 x1 x2:Int):Xw 182 #[vg #[vi x0,vi x1],vi x2] λ_ H0 _ _ C _ T=>(∀b0:Nat,(C H0 nK 183 #[vi x0,vi x2] λz W1 W2=>∃x3:Int,z=.returned (vi x3)/\Ext W1 W2/\T H0 nK (vi x3))) :=
 Xa (hi:={}) (args := [.agg [vI 0,vI 1],vI 2]) (nv:=3) (e:=lk [.i x0,.i x1,.i x2]) Tryz.func182
theorem yY(x0:OL)(x1 x2:Nat)(x3:OL):Xw 189 #[vsl x0 x1 x2,Value.func (.func 180) #[] #[vp (ab x3 0)]] λ_ H0 _ _ C _ T=>(Ck (0<=(x1:Int)) (∃(I0:List Dat->Hp->Prop) (μ0:List Dat->Nat),I0 [.i 0] H0/\∀H1:Hp,∀x4:Int,I0 [.i x4] H1->(It (x4<(x1:Int)) (Ck ((0:Int)<=x4/\x4<(x1:Int)) (Ck (x0.isSome=true) (∃(x5 x6:Int),aa H1 x0 (0+(x4 * 2)) [vi x5,vi x6]/\(C H1 nK 180 #[vg #[vi x5,vi x6],vp (ab x3 0)] λz W1 W2=>∃x7:Bool,z=.returned (vb (x7))/\Ext W1 W2/\(It (x7=true) (T H1 nK (vi x4)) (Ck (ae .i64 (x4+1)) (I0 [.i (x4+1)] H1/\μ0 [.i (x4+1)]<μ0 [.i x4]))))))) (T H1 nK (vi (-1)))))) :=
 Xa (hi:={loops := [(2,.inv [(8,.pt (.int .i64))] [])]}) (args := [vS 0,.func 180 [] [.ptrO 3 (.k 0)]]) (nv:=4) (e:=lk [.p x0,.n x1,.n x2,.p x3]) Tryz.func189
theorem DA(x0:OL)(x1 x2:Nat)(x3:OL):Xw 179 #[vsl x0 x1 x2,Value.func (.func 180) #[] #[vp (ab x3 0)]] λM H0 W0 _ C Q T=>(C H0 nK 189 #[vsl x0 x1 x2,Value.func (.func 180) #[] #[vp (ab x3 0)]] λz W1 W2=>∃x4:Int,z=.returned (vi x4)/\Ext W1 W2/\(It (x4=(-1)) (T H0 nK (vsl x0 x1 x2)) (Ck (ae .i64 (x4+1)) (∃(I0:List Dat->Hp->Prop) (μ0:List Dat->Nat),I0 [.i (x4+1),.i x4] H0/\∀H1:Hp,∀(x5 x6:Int),I0 [.i x5,.i x6] H1->(Ck (0<=(x1:Int)) (It (x5<(x1:Int)) (Ck ((0:Int)<=x5/\x5<(x1:Int)) (Ck (x0.isSome=true) (∃(x7 x8:Int),aa H1 x0 (0+(x5 * 2)) [vi x7,vi x8]/\(∀b0:Nat,(C H1 nK 180 #[vg #[vi x7,vi x8],vp (ab x3 0)] λz W3 W4=>∃x9:Bool,z=.returned (vb (x9))/\Ext W3 W4/\(It (x9=true) (Ck (ae .i64 (x5+1)) (I0 [.i (x5+1),.i x6] H1/\μ0 [.i (x5+1),.i x6]<μ0 [.i x5,.i x6])) (Ck ((0:Int)<=x6/\x6<(x1:Int)) (Q H1 nK λW5=>Eo' (.storeO 184) [vp (ab x0 (0+(x6 * 2))),vg #[vi x7,vi x8]] W5 (.skip) λW6=>Tn W0 M H1 W5 W6 λH2=>(Ck (ae .i64 (x6+1)) (Ck (ae .i64 (x5+1)) (I0 [.i (x5+1),.i (x6+1)] H2/\μ0 [.i (x5+1),.i (x6+1)]<μ0 [.i x5,.i x6]))))))))))) (Ck (0<=x6) (Ck (x6<=(x1:Int)) (Ck ((x1:Int)<=(x2:Int)) (Q H1 nK λW3=>Eo' (.bi .clear #[91] 0) [Value.slice (ab x0 (0+(if (x2:Int)=x6 then 0 else x6 * ((2:Nat):Int)))) (((x1:Int)-x6):Int).toNat (((x2:Int)-x6):Int).toNat] W3 (.value (vt #[])) λW4=>Tn W0 M H1 W3 W4 λH2=>(Ck (x6<=(x2:Int)) (T H2 nK (vsl x0 (x6).toNat x2))))))))))))) :=
 Xa (hi:={loops := [(5,.inv [(6,.pt (.int .i64)),(5,.pt (.int .i64))] [])]}) (args := [vS 0,.func 180 [] [.ptrO 3 (.k 0)]]) (nv:=4) (e:=lk [.p x0,.n x1,.n x2,.p x3]) Tryz.func179
theorem FJ(x0:OL)(x1 x2:Nat)(x3:Int):Xw 181 #[vsl x0 x1 x2,vi x3,Value.func (.func 182) #[] #[]] λ_ H0 _ _ C Q T=>(Ck (0<=(x1:Int)) (∃(I0:List Dat->Hp->Prop) (μ0:List Dat->Nat),I0 [.n 0,.n x1] H0/\∀H1:Hp,∀(x4 x5:Nat),I0 [.n x4,.n x5] H1->(It ((x4:Int)<(x5:Int)) (Ck (ae .i64 ((x4:Int)+(x5:Int))) (Q H1 nK λW1=>∃x6:Int,Eo' (.bop .shr 111 (.tmp 21) (.const (Value.int .u64 1))) [Value.int .u64 (IntKind.wrap .u64 ((x4:Int)+(x5:Int))),Value.int .u64 1] W1 (.value (Value.int .u64 x6)) λW2=>Ext W1 W2/\(Ck (ae .i64 x6) (Ck ((0:Int)<=x6/\x6<(x1:Int)) (Ck (x0.isSome=true) (∃(x7 x8:Int),aa H1 x0 (0+(x6 * 2)) [vi x7,vi x8]/\(C H1 nK 182 #[vg #[vi x7,vi x8],vi x3] λz W3 W4=>∃x9:Int,z=.returned (vi x9)/\Ext W3 W4/\(It (x9<0) (Ck (ae .i64 (x6+1)) (Ck (0<=(x6+1)) (Ck (0<=(x5:Int)) (I0 [.n ((x6+1):Int).toNat,.n x5] H1/\μ0 [.n ((x6+1):Int).toNat,.n x5]<μ0 [.n x4,.n x5])))) (Ck (0<=(x4:Int)) (Ck (0<=x6) (I0 [.n x4,.n (x6).toNat] H1/\μ0 [.n x4,.n (x6).toNat]<μ0 [.n x4,.n x5]))))))))))) (It ((x4:Int)<(x1:Int)) (Ck ((0:Int)<=(x4:Int)/\(x4:Int)<(x1:Int)) (Ck (x0.isSome=true) (∃(x6 x7:Int),aa H1 x0 (0+((x4:Int) * 2)) [vi x6,vi x7]/\(C H1 nK 182 #[vg #[vi x6,vi x7],vi x3] λz W1 W2=>∃x8:Int,z=.returned (vi x8)/\Ext W1 W2/\T H1 nK (vt #[vi (x4:Int),vb (decide (x8=0))]))))) (T H1 nK (vt #[vi (x4:Int),vb (false)])))))) :=
 Xa (hi:={loops := [(3,.inv [(9,.nat),(10,.nat)] [])]}) (args := [vS 0,vI 3,.func 182 [] []]) (nv:=4) (e:=lk [.p x0,.n x1,.n x2,.i x3]) Tryz.func181
theorem DX(x0:OL)(x1 x2:Nat)(x3:Int)(x4:OL)(x5 x6:Nat):Xw 185 #[vsl x0 x1 x2,vi x3,vsl x4 x5 x6] λM H0 W0 _ C Q T=>(Ck (0<=x3) (Ck (x3<=(x1:Int)) (Ck ((x1:Int)<=(x2:Int)) (Ck (0<=(x5:Int)) (It ((x5:Int)=0) (T H0 nK (vsl x0 x1 x2)) (Ck (0<=(x1:Int)) (It (x3=(x1:Int)) (Q H0 nK λW1=>∃(x7:OL) (x8 x9:Nat),Eo' (.bi .append #[91,91] 91) [vsl x0 x1 x2,vsl x4 x5 x6] W1 (.value (vsl x7 x8 x9)) λW2=>Tn W0 M H0 W1 W2 λH1=>T H1 nK (vsl x7 x8 x9)) (Ck (ae .i64 ((x1:Int)+(x5:Int))) (Q H0 nK λW1=>∃x7:Int,Eo' (.bi .cap #[91] 3) [vsl x0 x1 x2] W1 (.value (vi x7)) λW2=>Ext W1 W2/\(It (x7<((x1:Int)+(x5:Int))) (Ck (x3<=(x2:Int)) (Ck (ae .i64 (((x1:Int)+(x5:Int))-x3)) (Q H0 nK λW3=>∃(x8:OL) (x9 c0:Nat),Eo' (.bi .append #[91,3] 91) [vsl x0 (x3).toNat x2,vi (((x1:Int)+(x5:Int))-x3)] W3 (.value (vsl x8 x9 c0)) λW4=>Tn W0 M H0 W3 W4 λH1=>(Ck (x3<=(x9:Int)) (Ck ((x9:Int)<=(c0:Int)) (Q H1 nK λW5=>∃c1:Int,Eo' (.bi .copy #[91,91] 3) [Value.slice (ab x8 (0+(if (c0:Int)=x3 then 0 else x3 * ((2:Nat):Int)))) (((x9:Int)-x3):Int).toNat (((c0:Int)-x3):Int).toNat,vsl x4 x5 x6] W5 (.value (vi c1)) λW6=>Tn W0 M H1 W5 W6 λH2=>(Ck (ae .i64 (x3+(x5:Int))) (Ck (0<=(x3+(x5:Int))) (Ck ((x3+(x5:Int))<=(x9:Int)) (Q H2 nK λW7=>∃c2:Int,Eo' (.bi .copy #[91,91] 3) [Value.slice (ab x8 (0+(if (c0:Int)=(x3+(x5:Int)) then 0 else (x3+(x5:Int)) * ((2:Nat):Int)))) (((x9:Int)-(x3+(x5:Int))):Int).toNat (((c0:Int)-(x3+(x5:Int))):Int).toNat,Value.slice (ab x0 (0+(if (x2:Int)=x3 then 0 else x3 * ((2:Nat):Int)))) (((x1:Int)-x3):Int).toNat (((x2:Int)-x3):Int).toNat] W7 (.value (vi c2)) λW8=>Tn W0 M H2 W7 W8 λH3=>T H3 nK (vsl x8 x9 c0))))))))))) (Ck (0<=((x1:Int)+(x5:Int))) (Ck (((x1:Int)+(x5:Int))<=(x2:Int)) (Ck (ae .i64 (x3+(x5:Int))) (Ck (0<=(x3+(x5:Int))) (Ck ((x3+(x5:Int))<=((x1:Int)+(x5:Int))) (Q H0 nK λW3=>∃x8:Bool,Eo' (.ext 195) [vsl x4 x5 x6,Value.slice (ab x0 (0+(if (x2:Int)=(x3+(x5:Int)) then 0 else (x3+(x5:Int)) * ((2:Nat):Int)))) ((((x1:Int)+(x5:Int))-(x3+(x5:Int))):Int).toNat (((x2:Int)-(x3+(x5:Int))):Int).toNat] W3 (.value (vb (x8))) λW4=>Ext W3 W4/\(It (x8=true) (Ck ((x1:Int)<=((x1:Int)+(x5:Int))) (Q H0 nK λW5=>∃x9:Int,Eo' (.bi .copy #[91,91] 3) [Value.slice (ab x0 (0+(if (x2:Int)=(x1:Int) then 0 else (x1:Int) * ((2:Nat):Int)))) ((((x1:Int)+(x5:Int))-(x1:Int)):Int).toNat (((x2:Int)-(x1:Int)):Int).toNat,vsl x4 x5 x6] W5 (.value (vi x9)) λW6=>Tn W0 M H0 W5 W6 λH1=>(Ck (x3<=((x1:Int)+(x5:Int))) (C H1 nK 196 #[Value.slice (ab x0 (0+(if (x2:Int)=x3 then 0 else x3 * ((2:Nat):Int)))) ((((x1:Int)+(x5:Int))-x3):Int).toNat (((x2:Int)-x3):Int).toNat,vi (x5:Int)] λz W7 W8=>z=.returned (vt #[])/\Ext W7 W8/\T H1 nK (vsl x0 (((x1:Int)+(x5:Int)):Int).toNat x2))))) (Ck (x3<=((x1:Int)+(x5:Int))) (Q H0 nK λW5=>∃x9:Int,Eo' (.bi .copy #[91,91] 3) [Value.slice (ab x0 (0+(if (x2:Int)=(x3+(x5:Int)) then 0 else (x3+(x5:Int)) * ((2:Nat):Int)))) ((((x1:Int)+(x5:Int))-(x3+(x5:Int))):Int).toNat (((x2:Int)-(x3+(x5:Int))):Int).toNat,Value.slice (ab x0 (0+(if (x2:Int)=x3 then 0 else x3 * ((2:Nat):Int)))) ((((x1:Int)+(x5:Int))-x3):Int).toNat (((x2:Int)-x3):Int).toNat] W5 (.value (vi x9)) λW6=>Tn W0 M H0 W5 W6 λH1=>(Q H1 nK λW7=>∃c0:Int,Eo' (.bi .copy #[91,91] 3) [Value.slice (ab x0 (0+(if (x2:Int)=x3 then 0 else x3 * ((2:Nat):Int)))) ((((x1:Int)+(x5:Int))-x3):Int).toNat (((x2:Int)-x3):Int).toNat,vsl x4 x5 x6] W7 (.value (vi c0)) λW8=>Tn W0 M H1 W7 W8 λH2=>T H2 nK (vsl x0 (((x1:Int)+(x5:Int)):Int).toNat x2))))))))))))))))))))) :=
 Xa (hi:={}) (args := [vS 0,vI 3,vS 4]) (nv:=7) (e:=lk [.p x0,.n x1,.n x2,.i x3,.p x4,.n x5,.n x6]) Tryz.func185
theorem Cw(x0:Nat)(x1:Bool)(x2:Int)(x3:Bool)(x4 x5 x6 x7 x8 x9:Int)(c0:OL)(c1 c2:Nat)(b0 b1:Nat)(M:Nat->Prop)(H0:Hp)(W0:World)(R:Ending->World->Prop)(hH:H0.le (ak W0))(hne:b0≠b1)(h0:W0.heap[b0]?=some (Obj.cells #[vp (some ⟨b1,0,none⟩),vb (x3)] 197 (0,0))/\M b0/\H0 b0=none)(h1:W0.heap[b1]?=some (Obj.cells #[vi x4,vi x5,vi x6,vi x7,vi x8,vi x9,vsl c0 c1 c2] 33 (0,0))/\M b1/\H0 b1=none)(h:let u0:=#[vi x4,vi x5,vi x6,vi x7,vi x8,vi x9,vsl c0 c1 c2];(It (x1=true) (Ck ((0:Int)<=(x0:Int)/\(x0:Int)<(c1:Int)) (Ck (c0.isSome=true) (Ck (0<=(0+((x0:Int) * 4))) (Es W0 M H0 nK λW1=>Eo' (.storeO 3) [vp (ab c0 ((0+((x0:Int) * 4))+2)),vi x5] W1 (.skip) λW2=>Tn W0 M H0 W1 W2 λH1=>Rt R W0 M H1 (λW=>Kn W0 M H1 W b0 (Obj.cells #[vp (some ⟨b1,0,none⟩),vb (x3)] 197 (0,0))/\Kn W0 M H1 W b1 (Obj.cells u0 33 (0,0))/\True) (vi 0))))) (Ck (0<=(c1:Int)) (It ((c1:Int)=3) (Rt R W0 M H0 (λW=>Kn W0 M H0 W b0 (Obj.cells #[vp (some ⟨b1,0,none⟩),vb (x3)] 197 (0,0))/\Kn W0 M H0 W b1 (Obj.cells u0 33 (0,0))/\True) (vi (-2))) (∀b2:Nat,(Cl' W0 M H0 (λW=>Kn W0 M H0 W b2 (Obj.cells #[vi x2,vi 0,vi x5,Value.slice none 0 0] 93 (0,0))/\True) 178 #[vsl c0 c1 c2,vi (x0:Int),Value.slice (some ⟨b2,0,none⟩) 1 1] λz W1 W2=>∃(c3:OL) (c4 c5:Nat),z=.returned (vsl c3 c4 c5)/\Tn W0 M H0 W1 W2 λH1=>Rt R W0 M H1 (λW=>Kn W0 M H1 W b0 (Obj.cells #[vp (some ⟨b1,0,none⟩),vb (x3)] 197 (0,0))/\Kn W0 M H1 W b1 (Obj.cells #[vi x4,vi x5,vi x6,vi x7,vi x8,vi x9,vsl c3 c4 c5] 33 (0,0))/\True) (vi 0))))))) :
 Calls Tryz.prog 161 #[vp (some ⟨b0,0,none⟩),vi (x0:Int),vb (x1),vi x2] W0 R :=
 nL (M:=M) (hi:={turns := [178]}) (o0:=⟨[.ptrK 1 0,.bool (.v 3)],197⟩) (o1:=⟨[vI 4,vI 5,vI 6,vI 7,vI 8,vI 9,vS 10],33⟩) (args := [.ptrK 0 0,vI 0,.bool (.v 1),vI 2]) (nv:=13) (e:=lk [.n x0,.b x1,.i x2,.b x3,.i x4,.i x5,.i x6,.i x7,.i x8,.i x9,.p c0,.n c1,.n c2]) Tryz.func161 hH hne h0 h1 h rfl
theorem Dz(x0:OL)(x1:Int)(x3:Bool)(x4 x5 x6 x7 x8 x9:Int)(c0:OL)(c1 c2:Nat)(c3 c4 c5 c6 c7 c8 c9 cA cB:Int)(b0 b1:Nat)(M:Nat->Prop)(H0:Hp)(W0:World)(R:Ending->World->Prop)(hH:H0.le (ak W0))(hne:b0≠b1)(h0:W0.heap[b0]?=some (Obj.cells #[vp (some ⟨b1,0,none⟩),vb (x3)] 197 (0,0))/\M b0/\H0 b0=none)(h1:W0.heap[b1]?=some (Obj.cells #[vi x4,vi x5,vi x6,vi x7,vi x8,vi x9,vsl c0 c1 c2] 33 (0,0))/\M b1/\H0 b1=none)(h:let u0:=#[vi x4,vi x5,vi x6,vi x7,vi x8,vi x9,vsl c0 c1 c2];(∀b2:Nat,(∀b3:Nat,(Ck (x0.isSome=true) (Ck (0<=x1) (Es W0 M H0 nK λW1=>Eo' (.storeO 3) [vp (ab x0 (x1+2)),vi x5] W1 (.skip) λW2=>Tn W0 M H0 W1 W2 λH1=>(∃cC:Int,aa H1 x0 (x1+1) [vi cC]/\(Es W0 M H1 nK λW3=>Eo' (.storeO 3) [vp (ab x0 (x1+1)),vi (if cC<c7 then c7 else cC)] W3 (.skip) λW4=>Tn W0 M H1 W3 W4 λH2=>(∃(cD:OL) (cE cF:Nat),aa H2 x0 (x1+3) [vsl cD cE cF]/\(Cl' W0 M H2 (λW=>Kn W0 M H2 W b2 (Obj.cells #[vp (ab x0 x1)] 216 (0,0))/\True) 179 #[vsl cD cE cF,Value.func (.func 180) #[] #[vp (some ⟨b2,0,none⟩)]] λz W5 W6=>∃(cG:OL) (cH cI:Nat),z=.returned (vsl cG cH cI)/\Tn W0 M H2 W5 W6 λH3=>(Es W0 M H3 nK λW7=>Eo' (.storeO 91) [vp (ab x0 (x1+3)),vsl cG cH cI] W7 (.skip) λW8=>Tn W0 M H3 W7 W8 λH4=>(∃cJ:Int,aa H4 x0 (x1+1) [vi cJ]/\(It (c6<=cJ) (Rt R W0 M H4 (λW=>Kn W0 M H4 W b0 (Obj.cells #[vp (some ⟨b1,0,none⟩),vb (x3)] 197 (0,0))/\Kn W0 M H4 W b1 (Obj.cells u0 33 (0,0))/\True) (vi (-4))) (∃(cK:OL) (cL cM:Nat),aa H4 x0 (x1+3) [vsl cK cL cM]/\(Cl' W0 M H4 nK 181 #[vsl cK cL cM,vi c6,Value.func (.func 182) #[] #[]] λz W9 W10=>∃(cN:Int) (cO:Bool),z=.returned (vt #[vi cN,vb (cO)])/\Ext W9 W10/\(It (cO=true) (∃(cP:OL) (cQ cR:Nat),aa H4 x0 (x1+3) [vsl cP cQ cR]/\(Ck ((0:Int)<=cN/\cN<(cQ:Int)) (Ck (cP.isSome=true) (Ck (0<=(0+(cN * 2))) (∃cS:Int,aa H4 cP ((0+(cN * 2))+1) [vi cS]/\Rt R W0 M H4 (λW=>Kn W0 M H4 W b0 (Obj.cells #[vp (some ⟨b1,0,none⟩),vb (x3)] 197 (0,0))/\Kn W0 M H4 W b1 (Obj.cells u0 33 (0,0))/\True) (vi cS)))))) (∃cP:Int,aa H4 x0 (x1+1) [vi cP]/\(Ck (ae .i64 (cP+3)) (It ((cP+3)<c6) (Rt R W0 M H4 (λW=>Kn W0 M H4 W b0 (Obj.cells #[vp (some ⟨b1,0,none⟩),vb (x3)] 197 (0,0))/\Kn W0 M H4 W b1 (Obj.cells u0 33 (0,0))/\True) (vi (-5))) (Cl' W0 M H4 nK 184 #[vg #[vi x6,vi x7,vi x8,vi x9],vg #[vi c8,vi c9,vi cA,vi cB]] λz W11 W12=>∃(cQ cR cS cT cU:Int),z=.returned (vt #[vg #[vi cQ,vi cR,vi cS,vi cT],vi cU])/\Ext W11 W12/\(∃(cV:OL) (cW cX:Nat),aa H4 x0 (x1+3) [vsl cV cW cX]/\(∀b4:Nat,(Cl' W0 M H4 (λW=>Kn W0 M H4 W b4 (Obj.cells #[vi c6,vi cU] 184 (0,0))/\True) 185 #[vsl cV cW cX,vi cN,Value.slice (some ⟨b4,0,none⟩) 1 1] λz W13 W14=>∃(cY:OL) (cZ d0:Nat),z=.returned (vsl cY cZ d0)/\Tn W0 M H4 W13 W14 λH5=>(Es W0 M H5 nK λW15=>Eo' (.storeO 91) [vp (ab x0 (x1+3)),vsl cY cZ d0] W15 (.skip) λW16=>Tn W0 M H5 W15 W16 λH6=>Rt R W0 M H6 (λW=>Kn W0 M H6 W b0 (Obj.cells #[vp (some ⟨b1,0,none⟩),vb (true)] 197 (0,0))/\Kn W0 M H6 W b1 (Obj.cells #[vi x4,vi x5,vi cQ,vi cR,vi cS,vi cT,vsl c0 c1 c2] 33 (0,0))/\True) (vi cU))))))))))))))))))))))))) :
 Calls Tryz.prog 163 #[vp (some ⟨b0,0,none⟩),vp (ab x0 x1),vg #[vi c3,vi c4,vi c5,vi c6,vi c7,vi c8,vi c9,vi cA,vi cB]] W0 R :=
 nL (M:=M) (hi:={turns := [179,185]}) (o0:=⟨[.ptrK 1 0,.bool (.v 3)],197⟩) (o1:=⟨[vI 4,vI 5,vI 6,vI 7,vI 8,vI 9,vS 10],33⟩) (args := [.ptrK 0 0,.ptrO 0 (.v 1),.agg [vI 14,vI 15,vI 16,vI 17,vI 18,vI 19,vI 20,vI 21,vI 22]]) (nv:=23) (e:=(upd  (upd (upd (upd (upd (upd (upd (upd (upd (upd (upd (upd (upd (upd (upd (upd (upd (upd (upd (upd (upd (λ_=>.i 0) 0 (.p x0)) 1 (.i x1)) 3 (.b x3)) 4 (.i x4)) 5 (.i x5)) 6 (.i x6)) 7 (.i x7)) 8 (.i x8)) 9 (.i x9)) 10 (.p c0)) 11 (.n c1)) 12 (.n c2)) 14 (.i c3)) 15 (.i c4)) 16 (.i c5)) 17 (.i c6)) 18 (.i c7)) 19 (.i c8)) 20 (.i c9)) 21 (.i cA)) 22 (.i cB))) Tryz.func163 hH hne h0 h1 h rfl
theorem AL(x3:Bool)(x4 x5 x6 x7 x8 x9:Int)(c0:OL)(c1 c2:Nat)(c3 c4 c5 c6 c7 c8 c9 cA cB:Int)(b0 b1:Nat)(M:Nat->Prop)(H0:Hp)(W0:World)(R:Ending->World->Prop)(hH:H0.le (ak W0))(hne:b0≠b1)(h0:W0.heap[b0]?=some (Obj.cells #[vp (some ⟨b1,0,none⟩),vb (x3)] 197 (0,0))/\M b0/\H0 b0=none)(h1:W0.heap[b1]?=some (Obj.cells #[vi x4,vi x5,vi x6,vi x7,vi x8,vi x9,vsl c0 c1 c2] 33 (0,0))/\M b1/\H0 b1=none)(h:(∀b2:Nat,(Ck (ae .i64 (x4+1)) (Cl' W0 M H0 nK 159 #[vsl c0 c1 c2,vi (if x5<c4 then c4 else x5)] λz W1 W2=>∃(cC:OL) (cD cE:Nat),let u0:=#[vi (x4+1),vi (if x5<c4 then c4 else x5),vi x6,vi x7,vi x8,vi x9,vsl cC cD cE];z=.returned (vsl cC cD cE)/\Fr W1 W2 H0 λH1=>(Cl' W0 M H1 nK 160 #[vsl cC cD cE,vi c5] λz W3 W4=>∃(cF:Int) (cG:Bool),z=.returned (vt #[vi cF,vb (cG)])/\Ext W3 W4/\(It (c3=1) (Cl' W0 M H1 (λW=>Kn W0 M H1 W b0 (Obj.cells #[vp (some ⟨b1,0,none⟩),vb (x3)] 197 (0,0))/\Kn W0 M H1 W b1 (Obj.cells u0 33 (0,0))/\True) 161 #[vp (some ⟨b0,0,none⟩),vi cF,vb (cG),vi c5] λz W5 W6=>∃(cH:Int) (cI:OL) (cJ:Bool) (cK cL cM cN cO cP:Int) (cQ:OL) (cR cS:Nat),let u2:=#[vi cK,vi cL,vi cM,vi cN,vi cO,vi cP,vsl cQ cR cS];z=.returned (vi cH)/\Bt W0 M H1 [(b0,Obj.cells #[vp (ab cI 0),vb (cJ)] 197 (0,0)),(b1,Obj.cells u2 33 (0,0))] W5 W6 λH2=>Rt R W0 M H2 (λW=>Kn W0 M H2 W b0 (Obj.cells #[vp (ab cI 0),vb (cJ)] 197 (0,0))/\Kn W0 M H2 W b1 (Obj.cells u2 33 (0,0))/\True) (vi cH)) (It (cG=true) (It (c3=3) (Ck (ae .i64 (cF+1)) (Cl' W0 M H1 nK 162 #[vsl cC cD cE,vi cF,vi (cF+1)] λz W5 W6=>∃(cH:OL) (cI cJ:Nat),z=.returned (vsl cH cI cJ)/\Tn W0 M H1 W5 W6 λH2=>Rt R W0 M H2 (λW=>Kn W0 M H2 W b0 (Obj.cells #[vp (some ⟨b1,0,none⟩),vb (x3)] 197 (0,0))/\Kn W0 M H2 W b1 (Obj.cells #[vi (x4+1),vi (if x5<c4 then c4 else x5),vi x6,vi x7,vi x8,vi x9,vsl cH cI cJ] 33 (0,0))/\True) (vi 0))) (Ck ((0:Int)<=cF/\cF<(cD:Int)) (Ck (cC.isSome=true) (Cl' W0 M H1 (λW=>Kn W0 M H1 W b0 (Obj.cells #[vp (some ⟨b1,0,none⟩),vb (x3)] 197 (0,0))/\Kn W0 M H1 W b1 (Obj.cells u0 33 (0,0))/\True) 163 #[vp (some ⟨b0,0,none⟩),vp (ab cC (0+(cF * 4))),vg #[vi c3,vi c4,vi c5,vi c6,vi c7,vi c8,vi c9,vi cA,vi cB]] λz W5 W6=>∃(cH:Int) (cI:OL) (cJ:Bool) (cK cL cM cN cO cP:Int) (cQ:OL) (cR cS:Nat),let u1:=#[vi cK,vi cL,vi cM,vi cN,vi cO,vi cP,vsl cQ cR cS];z=.returned (vi cH)/\Bt W0 M H1 [(b0,Obj.cells #[vp (ab cI 0),vb (cJ)] 197 (0,0)),(b1,Obj.cells u1 33 (0,0))] W5 W6 λH2=>Rt R W0 M H2 (λW=>Kn W0 M H2 W b0 (Obj.cells #[vp (ab cI 0),vb (cJ)] 197 (0,0))/\Kn W0 M H2 W b1 (Obj.cells u1 33 (0,0))/\True) (vi cH))))) (Rt R W0 M H1 (λW=>Kn W0 M H1 W b0 (Obj.cells #[vp (some ⟨b1,0,none⟩),vb (x3)] 197 (0,0))/\Kn W0 M H1 W b1 (Obj.cells u0 33 (0,0))/\True) (vi (-3)))))))))) :
 Calls Tryz.prog 142 #[vp (some ⟨b0,0,none⟩),vg #[vi c3,vi c4,vi c5,vi c6,vi c7,vi c8,vi c9,vi cA,vi cB]] W0 R :=
 nL (M:=M) (hi:={mods := [(161,[100,101]),(163,[100,101])],turns := [162,161,163]}) (o0:=⟨[.ptrK 1 0,.bool (.v 3)],197⟩) (o1:=⟨[vI 4,vI 5,vI 6,vI 7,vI 8,vI 9,vS 10],33⟩) (args := [.ptrK 0 0,.agg [vI 14,vI 15,vI 16,vI 17,vI 18,vI 19,vI 20,vI 21,vI 22]]) (nv:=23) (e:=(upd  (upd (upd (upd (upd (upd (upd (upd (upd (upd (upd (upd (upd (upd (upd (upd (upd (upd (upd (λ_=>.i 0) 3 (.b x3)) 4 (.i x4)) 5 (.i x5)) 6 (.i x6)) 7 (.i x7)) 8 (.i x8)) 9 (.i x9)) 10 (.p c0)) 11 (.n c1)) 12 (.n c2)) 14 (.i c3)) 15 (.i c4)) 16 (.i c5)) 17 (.i c6)) 18 (.i c7)) 19 (.i c8)) 20 (.i c9)) 21 (.i cA)) 22 (.i cB))) Tryz.func142 hH hne h0 h1 h rfl
theorem si{W:World}{a b o la ca:Nat}{R C:Array Value}{T T':Nat}(hne:a≠b)(ha:W.heap[a]?=some (.cells R T (0,0)))(hb:W.heap[b]?=some (.cells C T' (0,0)))(hC:C.size≠0) :
  (EK.sem (.ext 195) [vsl (some (a,0)) 1 1,vsl (some (b,o)) la ca]).run Tryz.prog W=.ok (.value (vb false)) W:=by
 show (callFunc 195 #[vsl (some (a,0)) 1 1,vsl (some (b,o)) la ca]).run Tryz.prog W=_;have hsz:∀w,(Go.sizeOf 184).run Tryz.prog w=.ok 2 w:=λw=>by
  obtain⟨ti,z,i1,i2,i3,_⟩:=aR hZ;exact hG i1 i3 w
 rw[run_callFunc_extern Tryz.func195 (by kernel_rfl) (by kernel_rfl) (by kernel_rfl) (e:=Extern.SlicesOverlaps.overlaps #[91,91] #[4]) (by kernel_rfl)];have:=Lib.run_overlaps_apart W 91 4 184 Tryz.underlying91 2 hsz ⟨a,0,none⟩ ⟨b,o,none⟩ 1 1 la ca hne T T' R.size C.size (by simp[World.shape?,ha]) (by simp[World.shape?,hb]) hC (by simp[World.frozen?,ha]) (by simp[World.frozen?,ha])
 have e1:vsl (some (a,0)) 1 1=.slice (some ⟨a,0,none⟩) 1 1:=rfl;have e2:vsl (some (b,o)) la ca=.slice (some ⟨b,o,none⟩) la ca:=rfl
 rw[e1,e2,this];rfl
theorem yH{H:Hp}{p:OL}{n c:Nat}{rows:List (List Value)}{g:Option Nat}(ho:Ow H 184 2 p n c rows g){i:Nat}(hi:i<=n){vb:Nat}{row:List Value}(hv:H vb=some (.cells row.toArray 184 (0,0)))(hl:row.length=2)(h1:∀v∈row,v.oneCell'=true)(hne:g≠some vb)(hb:n<=1099511627776) :
  Gt Tryz.prog 185 #[vsl p n c,vi i,vsl (some (vb,0)) 1 1] H g λv H' g'=>∃p' n' c',v=vsl p' n' c'/\Ow H' 184 2 p' n' c' (rows.take i++row::rows.drop i) g':=λW hH=>by
 have hn:=ho.1;have hc:=ho.2.2.1
 have h63:=ho.2.2.2.1;have hmx:maxLen=9223372036854775807:=rfl
 obtain⟨ti,z,i1,i2,i3,i4,i5,i6⟩:=aR hZ;have hone:∀r∈rows,∀v∈r,v.oneCell'=true:=λr hr=>(ho.2.1 r hr).2
 have hrow1:∀K:Hp,K vb=some (.cells row.toArray 184 (0,0))->Rows K (some (vb,0)) 1 2 [row]:=λK hK=>Rows.block hK rfl (λr hr=>by simp only[List.mem_singleton] at hr;subst hr;exact hl) (by simp[List.take_of_length_le (show row.length<=2 by omega)]);have hone1:∀r ∈ [row],∀v∈r,v.oneCell'=true:=λr hr=>by simp only[List.mem_singleton] at hr;subst hr;exact h1
 refine DX p n c i (some (vb,0)) 1 1 (λb=>g=some b) H W _ hH ⟨by omega,λ_=>⟨by omega,λ_=>⟨by omega,λ_=>⟨by omega,λ_=>⟨λh=>absurd h (by omega),λ_=>⟨by omega,λ_=>⟨λhin=>?_,λhin=>⟨in64 (by omega),λ_=>?_⟩⟩⟩⟩⟩⟩⟩⟩
 ·
  have hin':i=n:=by omega
  intro W1 n1 _;obtain⟨p',c',g',W',H',h2,h3,h4,h5,h6⟩:=bU (P:=Tryz.prog) Tryz.underlying91 i1 i2 i3 i4 i5 (by omega) n1.sub ho (hrow1 H hv) hone1 (by omega) (by omega) 91 (c2:=1);refine⟨p',n+1,c',W',h2,H',h3.own ho (λb hb=>.inr hb),Rt.gt hH ho.held g' ?_ ⟨p',n+1,c',rfl,?_⟩⟩
  ·exact h5.imp id (λh b hb=>by rw[h] at hb;simp only[Option.some.injEq] at hb;rw[<- hb];exact n1.mod.size)
  ·rw[hin',List.take_of_length_le (by omega),List.drop_of_length_le (by omega)];exact h4.merge (h5.imp id (λh b hb=>by rw[h] at hb;simp only[Option.some.injEq] at hb;rw[<- hb];exact n1.mod.size))
 ·intro W1 n1 _;refine⟨c,W1,AA (P:=Tryz.prog) Tryz.underlying91 _ p n c W1,Ext.refl _,λhcap=>⟨by omega,λ_=>⟨in64 (by omega),λ_=>?_⟩⟩,λhcap=>⟨by omega,λ_=>⟨by omega,λ_=>⟨in64 (by omega),λ_=>⟨by omega,λ_=>⟨by omega,λ_=>?_⟩⟩⟩⟩⟩⟩
  ·
   intro W3 n3 _;have ek:((n:Int)+((1:Nat):Int)-(i:Int))=((n+1-i:Nat):Int):=by omega
   rw[ek];obtain⟨c',zr,W4,H1,h2,h3,h4,h5⟩:=sI (P:=Tryz.prog) (tn:=3) (kq:=.i64) Tryz.underlying91 Tryz.underlying3 hZ (by omega) n3.sub (ho.take i hi) (k:=n+1-i) (by omega) (by omega) (by omega) (by omega) 91;have eit:((i:Int)).toNat=i:=by omega
   rw[eit];refine⟨some (W3.heap.size,0),i+(n+1-i),c',W4,h2,H1,h3.turned (λb hb=>⟨ho.held b hb,.inr hb⟩),by omega,λ_=>⟨by have:=h5.2.2.1;omega,λ_=>?_⟩⟩;have hnew:W.heap.size<=W3.heap.size:=n3.mod.size
   have hln:i+(n+1-i)=n+1:=by omega
   rw[hln] at h5 |-;have hc'n:=h5.2.2.1
   have hlr1:=h5.1;intro W5 n5 _;rw[bf];have et:bK (some (W3.heap.size,0)) c' i 2=fR (some (W3.heap.size,0)) (i * 2):=by unfold bK;rw[if_neg (by omega)]
   obtain⟨W6,H2,h7,h8,h9⟩:=lH (P:=Tryz.prog) Tryz.underlying91 i1 i3 (by omega) n5.sub h5 (hrow1 H1 (h4 _ _ hv)) hone1 (m:=1) (sl:=1) (c2:=1) (dl:=n+1-i) (dc:=c'-i) (k:=i) (by omega) (by simp[Nat.min_def];omega) (by omega) (off:=((i * 2:Nat):Int)) rfl 3;have ev1:vsl (bK (some (W3.heap.size,0)) c' i 2) (n+1-i) (c'-i)=.slice (ab (some (W3.heap.size,0)) ((i * 2:Nat):Int)) (n+1-i) (c'-i):=by rw[et,bD,Int.toNat_natCast]
   rw[ev1];refine⟨1,W6,h7,H2,h8.turned (λb hb=>⟨h5.held b hb,.inl (by simp only[Option.some.injEq] at hb;rw[<- hb];exact hnew)⟩),in64 (by omega),λ_=>⟨by omega,λ_=>⟨by omega,λ_=>?_⟩⟩⟩;intro W7 n7 _;have e11:((i:Int)+((1:Nat):Int))=((i+1:Nat):Int):=by omega
   rw[e11,bf,bf];have et2:bK (some (W3.heap.size,0)) c' (i+1) 2=fR (some (W3.heap.size,0)) ((i+1) * 2):=by unfold bK;rw[if_neg (by omega)]
   have ev2:vsl (bK (some (W3.heap.size,0)) c' (i+1) 2) (n+1-(i+1)) (c'-(i+1))=.slice (ab (some (W3.heap.size,0)) (((i+1) * 2:Nat):Int)) (n+1-(i+1)) (c'-(i+1)):=by rw[et2,bD,Int.toNat_natCast]
   have hgs:∀b,some W3.heap.size=some b->H b=none:=λb hb=>by simp only[Option.some.injEq] at hb;rw[<- hb];exact ao hH hnew
   have hH2:H.le H2:=h8.keep n5.sub h4 hgs;have hsrc:Rows H2 (bK p c i 2) (n-i) 2 (rows.drop i):=(ho.rows.tail hi hc).mono hH2
   obtain⟨W8,H3,ha,hb',hc'⟩:=lH (P:=Tryz.prog) Tryz.underlying91 i1 i3 (by omega) n7.sub h9 hsrc (λr hr=>hone r (List.mem_of_mem_drop hr)) (m:=n-i) (sl:=n-i) (c2:=c-i) (dl:=n+1-(i+1)) (dc:=c'-(i+1)) (k:=i+1) (by omega) (by simp) (by omega) (off:=(((i+1) * 2:Nat):Int)) rfl 3;rw[ev2];refine⟨_,W8,ha,H3,hb'.turned (λb hb=>⟨h9.held b hb,.inl (by simp only[Option.some.injEq] at hb;rw[<- hb];exact hnew)⟩),Rt.gt hH ho.held (some W3.heap.size) (.inr (λb hb=>by simp only[Option.some.injEq] at hb;rw[<- hb];exact hnew)) ⟨_,n+1,c',rfl,?_⟩⟩;have hfin:=hc'.merge (g:=g) (W0:=W) (H:=H) (.inr (λb hb=>by simp only[Option.some.injEq] at hb;rw[<- hb];exact hnew))
   have heq:∀A:List (List Value),A.length=n+1->A.take i=rows.take i->(A.take i ++ [row]++A.drop (i+1)).take (i+1)++rows.drop i++(A.take i ++ [row]++A.drop (i+1)).drop (i+1+(n-i))=rows.take i++row::rows.drop i:=λA hA hA2=>by
    have t1:(A.take i ++ [row]).length=i+1:=by simp;omega
    have t2:(A.take i ++ [row]++A.drop (i+1)).take (i+1)=A.take i ++ [row]:=by rw[<- t1,List.take_left]
    have t3:(A.take i ++ [row]++A.drop (i+1)).drop (i+1+(n-i)) = []:=List.drop_of_length_le (by simp only[List.length_append,List.length_drop,t1];omega);rw[t2,t3,hA2];simp
   rw[heq _ (by simp;omega) (by rw[List.take_append_of_le_length (by simp;omega),List.take_take,Nat.min_self])] at hfin;exact hfin
  ·
   intro W3 n3 _;have hcn:n+1<=c:=by omega
   obtain⟨q1,q2,q3,q4,q5⟩:=id ho
   rcases q5 with⟨rfl,_⟩ | ⟨b,C,rfl,rfl,q6,q7,q8⟩
   ·omega
   have ebn:((n:Int)+((1:Nat):Int))=((n+1:Nat):Int):=by omega
   have ei1:((i:Int)+((1:Nat):Int))=((i+1:Nat):Int):=by omega
   rw[ebn,ei1,bf,bf,bf];have et:∀k,k<c->∀a d,vsl (bK (some (b,0)) c k 2) a d=.slice (ab (some (b,0)) ((k * 2:Nat):Int)) a d:=λk hk a d=>by unfold bK;rw[if_neg (by omega),bD,Int.toNat_natCast]
   have hbv:vb≠b:=λh=>hne (by rw[h]);have ep:bK (some (b,0)) c (i+1) 2=some ((b:Blk),(if c=i+1 then 0 else (i+1) * 2)):=by
    unfold bK fR
    split
    ·rfl
    ·simp[m4]
   refine⟨false,W3,by rw[ep];exact si hbv (n3.sub _ _ hv) (n3.sub _ _ q6) (by omega),Ext.refl _,λh=>(by cases h),λ_=>⟨by omega,λ_=>?_⟩⟩;intro W5 n5 _;have hsrc:Rows H (bK (some (b,0)) c i 2) (n-i) 2 (rows.drop i):=ho.rows.tail hi hc
   rw[et (i+1) (by omega)];obtain⟨W6,H2,h7,h8,h9⟩:=ur (P:=Tryz.prog) Tryz.underlying91 i1 i3 (by omega) n5.sub ho hsrc (λr hr=>hone r (List.mem_of_mem_drop hr)) (m:=n-i) (sl:=n+1-i) (c2:=c-i) (dl:=n+1-(i+1)) (dc:=c-(i+1)) (k:=i+1) (by omega) (by simp[Nat.min_def];omega) (by omega) (by omega) (by omega) (off:=(((i+1) * 2:Nat):Int)) rfl 3;refine⟨_,W6,h7,H2,h8.own ho (λb hb=>.inr hb),?_⟩;intro W7 n7 _;rw[et i (by omega)];have hv2:H2 vb=some (.cells row.toArray 184 (0,0)):=by
    rw[h8.same vb (ag (n5.sub _ _ hv)) (λh=>hbv (by simpa using h.symm))];exact hv
   rw[show i+1+(n-i)=n+1 by omega] at h9;obtain⟨W8,H3,ha,hb',hc'⟩:=lH (P:=Tryz.prog) Tryz.underlying91 i1 i3 (by omega) n7.sub h9 (hrow1 H2 hv2) hone1 (m:=1) (sl:=1) (c2:=1) (dl:=n+1-i) (dc:=c-i) (k:=i) (by omega) (by simp[Nat.min_def];omega) (by omega) (off:=((i * 2:Nat):Int)) rfl 3;have en:(((n+1:Nat):Int)).toNat=n+1:=by omega
   rw[en];refine⟨_,W8,ha,H3,hb'.own h9 (λb hb=>.inr hb),Rt.gt hH ho.held _ (.inl rfl) ⟨_,n+1,c,rfl,?_⟩⟩;have hfin:=hc'.merge (g:=some b) (W0:=W) (H:=H) (.inl rfl)
   have heq:(rows.take (i+1)++rows.drop i).take i ++ [row]++(rows.take (i+1)++rows.drop i).drop (i+1)=rows.take i++row::rows.drop i:=by
    have t1:(rows.take (i+1)).length=i+1:=by simp;omega
    rw[List.take_append_of_le_length (by omega),List.take_take,Nat.min_eq_left (by omega),List.drop_append,List.drop_of_length_le (by omega),t1,Nat.sub_self];simp
   rw[heq] at hfin;exact hfin
theorem tM(r:Rep)(x:Int)(H:Hp):Gv Tryz.prog 182 #[.agg #[vi r.seq,vi r.val],vi x] H (vi (lQ r.seq x)):=λW hH =>
 zV _ _ _ noM H W _ hH λ_=>Cl.same (qP _ _ _) λ_ _ hx=>⟨_,rfl,hx,Rt.gv⟩
def ixK(f:Rep->Bool):Nat->List Rep->Int
 | _,[]=>-1
 | k,s::t=>if f s=true then k else ixK f (k+1) t
theorem s4(f:Rep->Bool):∀(l:List Rep) (k:Nat),(ixK f k l = -1/\∀s∈l,f s=false)\/∃j s,ixK f k l=((k+j:Nat):Int)/\l[j]?=some s/\f s=true/\∀t∈l.take j,f t=false
 | [],k=>.inl ⟨rfl,λs hs=>by simp at hs⟩
 | s::t,k=>by
  unfold ixK
  split
  ·rename_i h;exact .inr ⟨0,s,by simp,by simp,h,λt ht=>by simp at ht⟩
  ·rename_i h
   rcases s4 f t (k+1) with⟨h1,h2⟩ | ⟨j,u,h1,h2,h3,h4⟩
   ·refine .inl ⟨h1,λx hx=>?_⟩
    rcases List.mem_cons.1 hx with rfl | hx
    ·simpa using h
    ·exact h2 x hx
   ·refine .inr ⟨j+1,u,by rw[h1];congr 1;omega,by simpa using h2,h3,λx hx=>?_⟩;rw[List.take_succ_cons] at hx
    rcases List.mem_cons.1 hx with rfl | hx
    ·simpa using h
    ·exact h4 x hx
def nC(a:Int)(r:Rep):Bool:=decide (r.seq<=a)
theorem tR{H:Hp}{q r:OL}{a:Int}(hq:aa H q 0 [vp (ab r 0)])(hr:aa H r (0+1) [vi a])(x y:Int) :
  Gv Tryz.prog 180 #[.agg #[vi x,vi y],.pointer (ab q 0)] H (vb (decide (x<=a))):=λW hH =>
 z7 x y q noM H W _ hH λ_=>⟨r,hq,hr.isSome,λ_=>⟨a,hr,Rt.gv⟩⟩
theorem Bn{H:Hp}{q r:OL}{a:Int}(hq:aa H q 0 [vp (ab r 0)])(hr:aa H r (0+1) [vi a]){p:OL}{n c:Nat}{l:List Rep}(hk:bM H p n c l) :
  Gv Tryz.prog 189 #[vsl p n c,.func (.func 180) #[] #[.pointer (ab q 0)]] H (vi (ixK (nC a) 0 l)):=λW hH=>by
 have hn:=hk.len;have h63:=hk.lt63
 refine yY p n c q noM H W _ hH ⟨by omega,λ_=>⟨λv K=>match v with | [.i k]=>∃j:Nat,k=j/\j<=n/\H.le K/\ixK (nC a) j (l.drop j)=ixK (nC a) 0 l | _=>False,λv=>match v with | [.i k]=>n-k.toNat | _=>0,⟨0,rfl,by omega,Hp.le_refl H,by simp⟩,λK k hI=>?_⟩⟩;obtain⟨j,rfl,hj,hle,hf⟩:=hI;refine⟨λhlt=>⟨⟨by omega,hlt⟩,λ_=>?_⟩,λhge=>Rt.gv' ?_⟩
 ·obtain⟨s,hs,hat,_⟩:=(hk.mono hle).at' (k:=j) (by omega);rw[bB hs,ixK] at hf;refine⟨hat.isSome,λ_=>⟨_,_,hat,?_⟩⟩;refine Cl.same (tR (hq.mono hle) (hr.mono hle) _ _) λ_ _ hx=>⟨_,rfl,hx,λh=>Rt.gv' ?_,λh=>⟨in64 (by omega),λ_=>⟨⟨j+1,by omega,by omega,hle,?_⟩,by simp only;omega⟩⟩⟩
  ·have h':nC a s=true:=h;rw[<- hf,if_pos h']
  ·have h':¬nC a s=true:=h;rw[<- hf,if_neg h']
 ·rw[<- hf,List.drop_of_length_le (by omega)];rfl
set_option maxHeartbeats 1000000 in
theorem C3{H:Hp}{q u:OL}{a:Int}{g:Option Nat}(hq:aa (but g H) q 0 [vp (ab u 0)])(hu0:aa (but g H) u (0+1) [vi a]){p:OL}{n c:Nat}{l:List Rep}(ho:Ow H 184 2 p n c (l.map Rep.row) g) :
  Gt Tryz.prog 179 #[vsl p n c,.func (.func 180) #[] #[.pointer (ab q 0)]] H g λv H' g'=>∃n',v=vsl p n' c/\Ow H' 184 2 p n' c ((l.filter λs=>!nC a s).map Rep.row) g':=λW hH=>by
 have hn:n=l.length:=by rw[ho.1];simp
 have hc:=ho.2.2.1;have h63:=(bM.of_ow ho).lt63
 obtain⟨ti,z,i1,i2,i3,i4,i5,i6⟩:=aR hZ;refine DA p n c q (λb=>g=some b) H W _ hH ?_;refine Cl.same (Bn (hq.mono (pI g H)) (hu0.mono (pI g H)) (bM.of_ow ho)) λ_ _ hx=>⟨_,rfl,hx,?_⟩
 rcases s4 (nC a) l 0 with⟨h1,h2⟩ | ⟨j0,s0,h1,h2,h3,h4⟩
 ·rw[h1];refine⟨λ_=>Rt.gt hH ho.held g (.inl rfl) ⟨n,rfl,?_⟩,λh=>absurd rfl h⟩;rw[List.filter_eq_self.2 (λs hs=>by rw[h2 s hs];rfl)];exact ho.merge (.inl rfl)
 ·rw[h1,Nat.zero_add];have hj0:j0<l.length:=(List.getElem?_eq_some_iff.1 h2).1
  refine⟨λh=>absurd h (by omega),λ_=>⟨in64 (by omega),λ_=>?_⟩⟩;refine⟨λv K=>match v with | [.i x,.i y]=>∃j i:Nat,x=j/\y=i/\i<j/\j<=n/\(but g H).le K/\∃rows',Ow K 184 2 p n c rows' g/\rows'.drop j=(l.map Rep.row).drop j/\rows'.take i=((l.take j).filter λs=>!nC a s).map Rep.row | _=>False,
   λv=>match v with | [.i x,_]=>n-x.toNat | _=>0,⟨j0+1,j0,by omega,rfl,by omega,by omega,pI g H,_,ho,rfl,?_⟩,λK x y hI=>?_⟩
  ·rw[cq _ h2,h3,List.filter_eq_self.2 (λs hs=>by rw[h4 s hs];rfl)];simp
  obtain⟨j,i,rfl,rfl,hij,hj,hle,rows',ho',hd,ha'⟩:=hI;have hn':=ho'.1
  refine⟨by omega,λ_=>⟨λhlt=>⟨⟨by omega,hlt⟩,λ_=>?_⟩,λhge=>⟨by omega,λ_=>⟨by omega,λ_=>⟨by omega,λ_=>?_⟩⟩⟩⟩⟩
  ·have hjr:j<l.length:=by omega
   have hrj':rows'[j]?=some (Rep.row l[j]):=by
    have h5:(rows'.drop j)[0]?=((l.map Rep.row).drop j)[0]?:=by rw[hd]
    rw[List.getElem?_drop,List.getElem?_drop] at h5;simpa [List.getElem?_eq_getElem hjr] using h5
   have hs:l[j]?=some l[j]:=List.getElem?_eq_getElem hjr;generalize l[j]=s at hrj' hs;obtain⟨r',hr',_,hat⟩:=ho'.rows.at (k:=j) (by omega) (off:=0+(j:Int) * 2) (by omega)
   rw[hrj'] at hr';simp only[Option.some.injEq] at hr';subst hr';have hdn:rows'.drop (j+1)=(l.map Rep.row).drop (j+1):=by
    have e1:rows'.drop (j+1)=(rows'.drop j).drop 1:=by rw[List.drop_drop]
    rw[e1,hd,List.drop_drop]
   refine⟨hat.isSome,λ_=>⟨_,_,hat,λb0=>?_⟩⟩;refine Cl.same (tR (hq.mono hle) (hu0.mono hle) _ _) λ_ _ hx2=>⟨_,rfl,hx2,λh=>⟨in64 (by omega),λ_=>⟨⟨j+1,i,by omega,rfl,by omega,by omega,hle,rows',ho',hdn,?_⟩,by simp only;omega⟩⟩,λh=>⟨⟨by omega,by omega⟩,λ_=>?_⟩⟩
   ·have:nC a s=true:=h;rw[cq _ hs,this];simpa using ha'
   ·intro W5 n5 _;have hir:i<rows'.length:=by rw[<- hn'];omega
    obtain⟨W6,H2,hrun,hu,ho2⟩:=dr (P:=Tryz.prog) (t:=184) i1 n5.sub ho' (i:=i) (j:=0) (vs := [vi s.seq,vi s.val]) (v:=.agg #[vi s.seq,vi s.val]) (List.getElem?_eq_getElem hir) rfl i3 (by simp) (by simp)
     (λu hu=>by
      simp only[List.mem_cons,List.not_mem_nil,or_false] at hu
      rcases hu with rfl | rfl<;>rfl) (off:=0+(i:Int) * 2) (by omega)
    have hseg:fU rows'[i] 0 [vi s.seq,vi s.val]=s.row:=by
     have:=(ho'.2.1 _ (List.getElem_mem hir)).1;unfold fU;rw[List.drop_of_length_le (by simp;omega)];simp[Rep.row]
    rw[hseg] at ho2;refine⟨W6,hrun,H2,hu.own ho' (λb hb=>.inr hb),in64 (by omega),λ_=>⟨in64 (by omega),λ_=>⟨⟨j+1,i+1,by omega,by omega,by omega,by omega,hu.keep n5.sub hle (DS H),_,ho2,?_,?_⟩,by simp only;omega⟩⟩⟩
    ·rw[List.drop_set_of_lt (by omega)];exact hdn
    ·have:nC a s=false:=by simpa [nC] using h
     rw[cq _ hs,this];have e2:(rows'.set i s.row).take (i+1)=rows'.take i ++ [s.row]:=by
      rw[List.take_succ_eq_append_getElem (by simp;omega)];simp[List.take_set_of_le]
     rw[e2,ha'];simp
  ·have hjn:j=n:=by omega
   subst hjn;intro W3 n3 _;rw[bf];have hot:=ho'.take i (by omega)
   have hic:i<c:=by omega
   have et:i<c->vsl (bK p c i 2) (j-i) (c-i)=.slice (ab p ((i * 2:Nat):Int)) (j-i) (c-i):=λh=>by unfold bK;rw[if_neg (by omega),bD,Int.toNat_natCast]
   rw[et hic];obtain⟨W4,H2,hrun,hu,ho2⟩:=pJ (P:=Tryz.prog) Tryz.underlying91 i1 i2 i5 i6 n3.sub hot (m:=j-i) (dc:=c-i) (by omega) (off:=((i * 2:Nat):Int)) (λ_=>rfl) 0;refine⟨W4,hrun,H2,hu.own hot (λb hb=>.inr hb),by omega,λ_=>?_⟩;have ei:((i:Int)).toNat=i:=by omega
   rw[ei];refine Rt.gt hH ho.held g (.inl rfl) ⟨i,rfl,?_⟩;have e3:l.take j=l:=List.take_of_length_le (by omega)
   rw[e3] at ha';rw[ha'] at ho2;exact ho2.merge (.inl rfl)
theorem lV{l:List Rep}{x:Int}{i:Nat}(h1:∀k s,k<i->l[k]?=some s->s.seq<x)(h2:∀k s,i<=k->l[k]?=some s->x<=s.seq)(hi:i<=l.length):gR l x=i/\(gI l x=true↔∃s,l[i]?=some s/\s.seq=x)\/¬(l.Pairwise λa b=>a.seq<b.seq):=by
 by_cases hp:l.Pairwise λa b=>a.seq<b.seq
 ·left
  have e1:l.take i++l.drop i=l:=List.take_append_drop i l;constructor
  ·unfold gR;rw[<- e1,List.filter_append,List.filter_eq_self.2,List.filter_eq_nil_iff.2]
   ·simp;omega
   ·intro s hs;obtain⟨k,hk⟩:=List.mem_iff_getElem?.1 hs;rw[List.getElem?_drop] at hk;have:=h2 _ s (by omega) hk
    simp;omega
   ·intro s hs;obtain⟨k,hk⟩:=List.mem_iff_getElem?.1 hs;rw[List.getElem?_take] at hk
    split at hk
    ·rename_i hlt;have:=h1 _ s hlt hk
     simpa using this
    ·cases hk
  ·unfold gI;rw[List.any_eq_true];constructor
   ·rintro⟨s,hs,he⟩;obtain⟨k,hk⟩:=List.mem_iff_getElem?.1 hs;simp only[decide_eq_true_eq] at he;have hki:i<=k:=by
     rcases Nat.lt_or_ge k i with h | h
     ·have:=h1 k s h hk;omega
     ·exact h
    rcases Nat.eq_or_lt_of_le hki with rfl | hlt
    ·exact⟨s,hk,he⟩
    ·have hkl:k<l.length:=(List.getElem?_eq_some_iff.1 hk).1;have hil:i<l.length:=by omega
     have h3:=List.pairwise_iff_getElem.1 hp i k hil hkl hlt;have h4:=h2 i _ (Nat.le_refl _) (List.getElem?_eq_getElem hil)
     have h5:=(List.getElem?_eq_some_iff.1 hk).2;rw[h5] at h3;omega
   ·rintro⟨s,hs,he⟩;exact⟨s,List.mem_of_getElem? hs,by simpa using he⟩
 ·exact .inr hp
theorem FP{H:Hp}{p:OL}{n c:Nat}{l:List Rep}(hT:bM H p n c l)(ho:l.Pairwise λa b=>a.seq<b.seq)(hs:n<=4611686018427387903)(x:Int) :
  Gv Tryz.prog 181 #[vsl p n c,vi x,.func (.func 182) #[] #[]] H (.tuple #[vi (gR l x),vb (gI l x)]):=λW hH=>by
 have hn:=hT.len;refine FJ p n c x noM H W _ hH ⟨by omega,λ_=>?_⟩;refine⟨λv K=>match v with | [.n i,.n j]=>i<=j/\j<=n/\H.le K/\(∀(k:Nat) (s:Rep),k<i->l[k]?=some s->s.seq<x)/\(∀(k:Nat) (s:Rep),j<=k->l[k]?=some s->x<=s.seq) | _=>False,
  λv=>match v with | [.n i,.n j]=>j-i | _=>0,⟨by omega,by omega,Hp.le_refl H,λk s hk=>by omega,λk s hk hks=>by have:=(List.getElem?_eq_some_iff.1 hks).1;omega⟩,λK i j hI=>?_⟩
 obtain⟨hij,hj,hle,h1,h2⟩:=hI;refine⟨λhlt=>⟨in64 (by omega),λ_=>?_⟩,λhge=>?_⟩
 ·intro W1 _ _;refine⟨_,_,A9 _ _ _ (by omega) (by omega) W1,Ext.refl _,in64 (by omega),λ_=>⟨⟨by omega,by omega⟩,λ_=>?_⟩⟩;obtain⟨m,hm⟩:∃m:Nat,((i:Int)+j) / 2=m:=⟨(((i:Int)+j) / 2).toNat,by omega⟩
  rw[hm];have hmi:i<=m/\m<j:=by omega
  obtain⟨s,hs,hat,_⟩:=(hT.mono hle).at' (k:=m) (by omega);refine⟨hat.isSome,λ_=>⟨_,_,hat,?_⟩⟩;have hml:m<l.length:=by omega
  have hsm:=(List.getElem?_eq_some_iff.1 hs).2;have hpw:=List.pairwise_iff_getElem.1 ho
  refine Cl.same (tM s x K) λ_ _ hx=>⟨_,rfl,hx,λh0=>⟨in64 (by omega),λ_=>⟨by omega,λ_=>⟨by omega,λ_=>?_⟩⟩⟩,λh0=>⟨by omega,λ_=>⟨by omega,λ_=>?_⟩⟩⟩
  ·have hlt:s.seq<x:=by unfold lQ at h0;split at h0<;>(try split at h0)<;>omega
   rw[show ((m:Int)+1).toNat=m+1 by omega];refine⟨⟨by omega,by omega,hle,λk t hk hkt=>?_,h2⟩,by simp only;omega⟩
   rcases Nat.eq_or_lt_of_le (Nat.le_of_lt_succ hk) with rfl | hk'
   ·rw[hs] at hkt;simp only[Option.some.injEq] at hkt;rw[<- hkt];exact hlt
   ·have hkl:k<l.length:=by omega
    have h5:=hpw k m hkl hml hk';rw[hsm,(List.getElem?_eq_some_iff.1 hkt).2] at h5;omega
  ·have hge:x<=s.seq:=by unfold lQ at h0;split at h0<;>(try split at h0)<;>omega
   rw[show ((m:Int)).toNat=m by omega];refine⟨⟨by omega,by omega,hle,h1,λk t hk hkt=>?_⟩,by simp only;omega⟩
   rcases Nat.eq_or_lt_of_le hk with rfl | hk'
   ·rw[hs] at hkt;simp only[Option.some.injEq] at hkt;rw[<- hkt];exact hge
   ·have hkl:k<l.length:=(List.getElem?_eq_some_iff.1 hkt).1;have h5:=hpw m k hml hkl hk'
    rw[hsm,(List.getElem?_eq_some_iff.1 hkt).2] at h5;omega
 ·have hij2:i=j:=by omega
  subst hij2
  rcases lV h1 h2 (by omega) with⟨e1,e2⟩ | e
  ·refine⟨λhlt=>⟨⟨by omega,hlt⟩,λ_=>?_⟩,λhge2=>Rt.gv' ?_⟩
   ·obtain⟨s,hs,hat,_⟩:=(hT.mono hle).at' (k:=i) (by omega);refine⟨hat.isSome,λ_=>⟨_,_,hat,?_⟩⟩;refine Cl.same (tM s x K) λ_ _ hx=>⟨_,rfl,hx,Rt.gv' ?_⟩
    have hge:=h2 i s (Nat.le_refl _) hs;rw[e1]
    congr 3
    cases hb:gI l x with
    | true =>
     obtain⟨t,ht,he⟩:=e2.1 hb;rw[hs] at ht;simp only[Option.some.injEq] at ht;subst ht;rw[he];simp[lQ]
    | false =>
     have hne:s.seq≠x:=λhe=>by rw[e2.2 ⟨s,hs,he⟩] at hb;cases hb
     have hc:lQ s.seq x=1:=by unfold lQ;rw[if_neg (by omega),if_pos (by omega)]
     simp[hc]
   ·rw[e1]
    congr 3
    cases hb:gI l x with
    | true =>
     obtain⟨t,ht,_⟩:=e2.1 hb;have:=(List.getElem?_eq_some_iff.1 ht).1
     omega
    | false=>rfl
  ·exact absurd ho e
end Go.Proofs.YtfpmcmhihhnfgaaGreatDoor
