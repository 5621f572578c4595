/- Contracts: what deletes in a table of one's own, what inserts. No conditions. -/
import Derived.Test.YtfpmcmhihhnfgaaGreatDoorKS2
import Derived.Lib.Overlaps
set_option linter.unusedVariables false
set_option linter.unusedSimpArgs false
namespace Go.Proofs.YtfpmcmhihhnfgaaGreatDoor
open Go.RowKit
set_option maxRecDepth 100000
set_option maxHeartbeats 4000000
theorem Eh(x0:OL)(x1 x2:Nat)(x3 x4:Int):Xw 162 #[vsl x0 x1 x2,vi x3,vi x4] λM H0 W0 _ _ Q T=>(Ck (0<=(x1:Int)) (Q H0 nK λW1=>∃(x5:OL) (x6 x7:Nat),Eo' (.slice 31 true true true) [vsl x0 x1 x2,vi x3,vi x4,vi (x1:Int)] W1 (.value (vsl x5 x6 x7)) λW2=>Fr W1 W2 H0 λH1=>(It (x3=x4) (T H1 nK (vsl x0 x1 x2)) (Ck (0<=x3) (Ck (x3<=(x2:Int)) (Ck (0<=x4) (Ck (x4<=(x1:Int)) (Ck ((x1:Int)<=(x2:Int)) (Q H1 nK λW3=>∃(x8:OL) (x9 c0:Nat),Eo' (.bi .append #[31,31] 31) [vsl x0 (x3).toNat x2,Value.slice (ab x0 (0+(if (x2:Int)=x4 then 0 else x4 * ((4:Nat):Int)))) (((x1:Int)-x4):Int).toNat (((x2:Int)-x4):Int).toNat] W3 (.value (vsl x8 x9 c0)) λW4=>Tn W0 M H1 W3 W4 λH2=>(Ck (0<=(x9:Int)) (Ck ((x9:Int)<=(x1:Int)) (Ck ((x1:Int)<=(c0:Int)) (Q H2 nK λW5=>Eo' (.bi .clear #[31] 0) [Value.slice (ab x8 (0+(if (c0:Int)=(x9:Int) then 0 else (x9:Int) * ((4:Nat):Int)))) (((x1:Int)-(x9:Int)):Int).toNat (((c0:Int)-(x9:Int)):Int).toNat] W5 (.value (vt #[])) λW6=>Tn W0 M H2 W5 W6 λH3=>T H3 nK (vsl x8 x9 c0)))))))))))))) :=
 Xa (hi:={}) (args := [vS 0,vI 3,vI 4]) (nv:=5) (e:=lk [.p x0,.n x1,.n x2,.i x3,.i x4]) Tryz.func162
theorem Et(x0:OL)(x1 x2:Nat)(x3:Int)(x4:OL)(x5 x6:Nat):Xw 178 #[vsl x0 x1 x2,vi x3,vsl x4 x5 x6] λM H0 W0 _ C Q T=>(Ck (0<=x3) (Ck (x3<=(x1:Int)) (Ck ((x1:Int)<=(x2:Int)) (Ck (0<=(x5:Int)) (It ((x5:Int)=0) (T H0 nK (vsl x0 x1 x2)) (Ck (0<=(x1:Int)) (It (x3=(x1:Int)) (Q H0 nK λW1=>∃(x7:OL) (x8 x9:Nat),Eo' (.bi .append #[31,31] 31) [vsl x0 x1 x2,vsl x4 x5 x6] W1 (.value (vsl x7 x8 x9)) λW2=>Tn W0 M H0 W1 W2 λH1=>T H1 nK (vsl x7 x8 x9)) (Ck (ae .i64 ((x1:Int)+(x5:Int))) (Q H0 nK λW1=>∃x7:Int,Eo' (.bi .cap #[31] 3) [vsl x0 x1 x2] W1 (.value (vi x7)) λW2=>Ext W1 W2/\(It (x7<((x1:Int)+(x5:Int))) (Ck (x3<=(x2:Int)) (Ck (ae .i64 (((x1:Int)+(x5:Int))-x3)) (Q H0 nK λW3=>∃(x8:OL) (x9 c0:Nat),Eo' (.bi .append #[31,3] 31) [vsl x0 (x3).toNat x2,vi (((x1:Int)+(x5:Int))-x3)] W3 (.value (vsl x8 x9 c0)) λW4=>Tn W0 M H0 W3 W4 λH1=>(Ck (x3<=(x9:Int)) (Ck ((x9:Int)<=(c0:Int)) (Q H1 nK λW5=>∃c1:Int,Eo' (.bi .copy #[31,31] 3) [Value.slice (ab x8 (0+(if (c0:Int)=x3 then 0 else x3 * ((4:Nat):Int)))) (((x9:Int)-x3):Int).toNat (((c0:Int)-x3):Int).toNat,vsl x4 x5 x6] W5 (.value (vi c1)) λW6=>Tn W0 M H1 W5 W6 λH2=>(Ck (ae .i64 (x3+(x5:Int))) (Ck (0<=(x3+(x5:Int))) (Ck ((x3+(x5:Int))<=(x9:Int)) (Q H2 nK λW7=>∃c2:Int,Eo' (.bi .copy #[31,31] 3) [Value.slice (ab x8 (0+(if (c0:Int)=(x3+(x5:Int)) then 0 else (x3+(x5:Int)) * ((4:Nat):Int)))) (((x9:Int)-(x3+(x5:Int))):Int).toNat (((c0:Int)-(x3+(x5:Int))):Int).toNat,Value.slice (ab x0 (0+(if (x2:Int)=x3 then 0 else x3 * ((4:Nat):Int)))) (((x1:Int)-x3):Int).toNat (((x2:Int)-x3):Int).toNat] W7 (.value (vi c2)) λW8=>Tn W0 M H2 W7 W8 λH3=>T H3 nK (vsl x8 x9 c0))))))))))) (Ck (0<=((x1:Int)+(x5:Int))) (Ck (((x1:Int)+(x5:Int))<=(x2:Int)) (Ck (ae .i64 (x3+(x5:Int))) (Ck (0<=(x3+(x5:Int))) (Ck ((x3+(x5:Int))<=((x1:Int)+(x5:Int))) (Q H0 nK λW3=>∃x8:Bool,Eo' (.ext 187) [vsl x4 x5 x6,Value.slice (ab x0 (0+(if (x2:Int)=(x3+(x5:Int)) then 0 else (x3+(x5:Int)) * ((4:Nat):Int)))) ((((x1:Int)+(x5:Int))-(x3+(x5:Int))):Int).toNat (((x2:Int)-(x3+(x5:Int))):Int).toNat] W3 (.value (vb (x8))) λW4=>Ext W3 W4/\(It (x8=true) (Ck ((x1:Int)<=((x1:Int)+(x5:Int))) (Q H0 nK λW5=>∃x9:Int,Eo' (.bi .copy #[31,31] 3) [Value.slice (ab x0 (0+(if (x2:Int)=(x1:Int) then 0 else (x1:Int) * ((4:Nat):Int)))) ((((x1:Int)+(x5:Int))-(x1:Int)):Int).toNat (((x2:Int)-(x1:Int)):Int).toNat,vsl x4 x5 x6] W5 (.value (vi x9)) λW6=>Tn W0 M H0 W5 W6 λH1=>(Ck (x3<=((x1:Int)+(x5:Int))) (C H1 nK 188 #[Value.slice (ab x0 (0+(if (x2:Int)=x3 then 0 else x3 * ((4:Nat):Int)))) ((((x1:Int)+(x5:Int))-x3):Int).toNat (((x2:Int)-x3):Int).toNat,vi (x5:Int)] λz W7 W8=>z=.returned (vt #[])/\Ext W7 W8/\T H1 nK (vsl x0 (((x1:Int)+(x5:Int)):Int).toNat x2))))) (Ck (x3<=((x1:Int)+(x5:Int))) (Q H0 nK λW5=>∃x9:Int,Eo' (.bi .copy #[31,31] 3) [Value.slice (ab x0 (0+(if (x2:Int)=(x3+(x5:Int)) then 0 else (x3+(x5:Int)) * ((4:Nat):Int)))) ((((x1:Int)+(x5:Int))-(x3+(x5:Int))):Int).toNat (((x2:Int)-(x3+(x5:Int))):Int).toNat,Value.slice (ab x0 (0+(if (x2:Int)=x3 then 0 else x3 * ((4:Nat):Int)))) ((((x1:Int)+(x5:Int))-x3):Int).toNat (((x2:Int)-x3):Int).toNat] W5 (.value (vi x9)) λW6=>Tn W0 M H0 W5 W6 λH1=>(Q H1 nK λW7=>∃c0:Int,Eo' (.bi .copy #[31,31] 3) [Value.slice (ab x0 (0+(if (x2:Int)=x3 then 0 else x3 * ((4:Nat):Int)))) ((((x1:Int)+(x5:Int))-x3):Int).toNat (((x2:Int)-x3):Int).toNat,vsl x4 x5 x6] W7 (.value (vi c0)) λW8=>Tn W0 M H1 W7 W8 λH2=>T H2 nK (vsl x0 (((x1:Int)+(x5:Int)):Int).toNat x2))))))))))))))))))))) :=
 Xa (hi:={}) (args := [vS 0,vI 3,vS 4]) (nv:=7) (e:=lk [.p x0,.n x1,.n x2,.i x3,.p x4,.n x5,.n x6]) Tryz.func178
theorem EP(x0:OL)(x1 x2:Nat)(x3:OL):Xw 174 #[vsl x0 x1 x2,Value.func (.func 175) #[] #[vp (ab x3 0)]] λM H0 W0 _ C Q T=>(C H0 nK 173 #[vsl x0 x1 x2,Value.func (.func 175) #[] #[vp (ab x3 0)]] λz W1 W2=>∃x4:Int,z=.returned (vi x4)/\Ext W1 W2/\(It (x4=(-1)) (T H0 nK (vsl x0 x1 x2)) (Ck (ae .i64 (x4+1)) (∃(I0:List Dat->Hp->Prop) (μ0:List Dat->Nat),I0 [.i (x4+1),.i x4] H0/\∀H1:Hp,∀(x5 x6:Int),I0 [.i x5,.i x6] H1->(Ck (0<=(x1:Int)) (It (x5<(x1:Int)) (Ck ((0:Int)<=x5/\x5<(x1:Int)) (Ck (x0.isSome=true) (∃(x7 x8 x9:Int) (c0:OL) (c1 c2:Nat),aa H1 x0 (0+(x5 * 4)) [vi x7,vi x8,vi x9,vsl c0 c1 c2]/\(∀b0:Nat,(C H1 nK 175 #[vg #[vi x7,vi x8,vi x9,vsl c0 c1 c2],vp (ab x3 0)] λz W3 W4=>∃c3:Bool,z=.returned (vb (c3))/\Ext W3 W4/\(It (c3=true) (Ck (ae .i64 (x5+1)) (I0 [.i (x5+1),.i x6] H1/\μ0 [.i (x5+1),.i x6]<μ0 [.i x5,.i x6])) (Ck ((0:Int)<=x6/\x6<(x1:Int)) (Q H1 nK λW5=>Eo' (.storeO 93) [vp (ab x0 (0+(x6 * 4))),vg #[vi x7,vi x8,vi x9,vsl c0 c1 c2]] W5 (.skip) λW6=>Tn W0 M H1 W5 W6 λH2=>(Ck (ae .i64 (x6+1)) (Ck (ae .i64 (x5+1)) (I0 [.i (x5+1),.i (x6+1)] H2/\μ0 [.i (x5+1),.i (x6+1)]<μ0 [.i x5,.i x6]))))))))))) (Ck (0<=x6) (Ck (x6<=(x1:Int)) (Ck ((x1:Int)<=(x2:Int)) (Q H1 nK λW3=>Eo' (.bi .clear #[31] 0) [Value.slice (ab x0 (0+(if (x2:Int)=x6 then 0 else x6 * ((4:Nat):Int)))) (((x1:Int)-x6):Int).toNat (((x2:Int)-x6):Int).toNat] W3 (.value (vt #[])) λW4=>Tn W0 M H1 W3 W4 λH2=>(Ck (x6<=(x2:Int)) (T H2 nK (vsl x0 (x6).toNat x2))))))))))))) :=
 Xa (hi:={loops := [(5,.inv [(6,.pt (.int .i64)),(5,.pt (.int .i64))] [])]}) (args := [vS 0,.func 175 [] [.ptrO 3 (.k 0)]]) (nv:=4) (e:=lk [.p x0,.n x1,.n x2,.p x3]) Tryz.func174
theorem E2(x0:OL)(x1 x2:Nat)(x3:Int):Xw 159 #[vsl x0 x1 x2,vi x3] λM H0 W0 _ C _ T=>(∀b0:Nat,(C H0 nK 140 #[vsl x0 x1 x2] λz W1 W2=>∃(x4:OL) (x5 x6:Nat),z=.returned (vsl x4 x5 x6)/\Fr W1 W2 H0 λH1=>(C H1 (λW=>Kn W0 M H1 W b0 (Obj.cells #[vi x3] 3 (0,0))/\True) 174 #[vsl x4 x5 x6,Value.func (.func 175) #[] #[vp (some ⟨b0,0,none⟩)]] λz W3 W4=>∃(x7:OL) (x8 x9:Nat),z=.returned (vsl x7 x8 x9)/\Tn W0 M H1 W3 W4 λH2=>T H2 nK (vsl x7 x8 x9)))) :=
 Xa (hi:={turns := [174]}) (args := [vS 0,vI 3]) (nv:=4) (e:=lk [.p x0,.n x1,.n x2,.i x3]) Tryz.func159
theorem yi(x0:OL)(x1 x2:Nat)(x3:Int):Xw 104 #[vsl x0 x1 x2,vi x3] λM H0 W0 _ C Q T=>(∃(I0:List Dat->Hp->Prop) (μ0:List Dat->Nat),I0 [.n 0,.p none,.n 0,.n 0] H0/\∀H1:Hp,∀(x4:Nat) (x5:OL) (x6 x7:Nat),I0 [.n x4,.p (sh x5),.n x6,.n x7] H1->(Ck (0<=(x1:Int)) (It ((x4:Int)<(x1:Int)) (Ck ((0:Int)<=(x4:Int)/\(x4:Int)<(x1:Int)) (Ck (x0.isSome=true) (∃x8:Int,aa H1 x0 (0+((x4:Int) * 4)) [vi x8]/\(It (x8=x3) (Ck (ae .i64 ((x4:Int)+1)) (Ck (0<=((x4:Int)+1)) (Ck (0<=(x6:Int)) (Ck (0<=(x7:Int)) (I0 [.n (((x4:Int)+1):Int).toNat,.p (sh x5),.n x6,.n x7] H1/\μ0 [.n (((x4:Int)+1):Int).toNat,.p (sh x5),.n x6,.n x7]<μ0 [.n x4,.p (sh x5),.n x6,.n x7]))))) (∃(x9 c0 c1:Int) (c2:OL) (c3 c4:Nat),aa H1 x0 (0+((x4:Int) * 4)) [vi x9,vi c0,vi c1,vsl c2 c3 c4]/\(C H1 nK 136 #[vg #[vi x9,vi c0,vi c1,vsl c2 c3 c4]] λz W1 W2=>∃(c5 c6 c7:Int) (c8:OL) (c9 cA:Nat),z=.returned (vg #[vi c5,vi c6,vi c7,vsl c8 c9 cA])/\Fr W1 W2 H1 λH2=>(∀b0:Nat,(Q H2 (λW=>Kn W0 M H2 W b0 (Obj.cells #[vi c5,vi c6,vi c7,vsl c8 c9 cA] 93 (0,0))/\True) λW3=>∃(cB:OL) (cC cD:Nat),Eo' (.bi .append #[31,31] 31) [vsl x5 x6 x7,Value.slice (some ⟨b0,0,none⟩) 1 1] W3 (.value (vsl cB cC cD)) λW4=>Tn W0 M H2 W3 W4 λH3=>(Ck (ae .i64 ((x4:Int)+1)) (Ck (0<=((x4:Int)+1)) (Ck (0<=(cC:Int)) (Ck (0<=(cD:Int)) (I0 [.n (((x4:Int)+1):Int).toNat,.p (sh cB),.n cC,.n cD] H3/\μ0 [.n (((x4:Int)+1):Int).toNat,.p (sh cB),.n cC,.n cD]<μ0 [.n x4,.p (sh x5),.n x6,.n x7]))))))))))))) (T H1 nK (vsl x5 x6 x7))))) :=
 Xa (hi:={loops := [(3,.inv [(6,.nat),(5,.pt .sl)] [])]}) (args := [vS 0,vI 3]) (nv:=4) (e:=lk [.p x0,.n x1,.n x2,.i x3]) Tryz.func104
theorem zJ(x0:OL)(x1 x2:Nat)(x3:Int):Xw 132 #[vsl x0 x1 x2,vi x3] λM H0 W0 _ C Q T=>(∃(I0:List Dat->Hp->Prop) (μ0:List Dat->Nat),I0 [.n 0,.p none,.n 0,.n 0] H0/\∀H1:Hp,∀(x4:Nat) (x5:OL) (x6 x7:Nat),I0 [.n x4,.p (sh x5),.n x6,.n x7] H1->(Ck (0<=(x1:Int)) (It ((x4:Int)<(x1:Int)) (Ck ((0:Int)<=(x4:Int)/\(x4:Int)<(x1:Int)) (Ck (x0.isSome=true) (Ck (0<=(0+((x4:Int) * 4))) (∃x8:Int,aa H1 x0 ((0+((x4:Int) * 4))+2) [vi x8]/\(Ck (ae .i64 (x3-20)) (It ((x3-20)<=x8) (∃(x9 c0 c1:Int) (c2:OL) (c3 c4:Nat),aa H1 x0 (0+((x4:Int) * 4)) [vi x9,vi c0,vi c1,vsl c2 c3 c4]/\(C H1 nK 136 #[vg #[vi x9,vi c0,vi c1,vsl c2 c3 c4]] λz W1 W2=>∃(c5 c6 c7:Int) (c8:OL) (c9 cA:Nat),z=.returned (vg #[vi c5,vi c6,vi c7,vsl c8 c9 cA])/\Fr W1 W2 H1 λH2=>(∀b0:Nat,(Q H2 (λW=>Kn W0 M H2 W b0 (Obj.cells #[vi c5,vi c6,vi c7,vsl c8 c9 cA] 93 (0,0))/\True) λW3=>∃(cB:OL) (cC cD:Nat),Eo' (.bi .append #[31,31] 31) [vsl x5 x6 x7,Value.slice (some ⟨b0,0,none⟩) 1 1] W3 (.value (vsl cB cC cD)) λW4=>Tn W0 M H2 W3 W4 λH3=>(Ck (ae .i64 ((x4:Int)+1)) (Ck (0<=((x4:Int)+1)) (Ck (0<=(cC:Int)) (Ck (0<=(cD:Int)) (I0 [.n (((x4:Int)+1):Int).toNat,.p (sh cB),.n cC,.n cD] H3/\μ0 [.n (((x4:Int)+1):Int).toNat,.p (sh cB),.n cC,.n cD]<μ0 [.n x4,.p (sh x5),.n x6,.n x7]))))))))) (Ck (ae .i64 ((x4:Int)+1)) (Ck (0<=((x4:Int)+1)) (Ck (0<=(x6:Int)) (Ck (0<=(x7:Int)) (I0 [.n (((x4:Int)+1):Int).toNat,.p (sh x5),.n x6,.n x7] H1/\μ0 [.n (((x4:Int)+1):Int).toNat,.p (sh x5),.n x6,.n x7]<μ0 [.n x4,.p (sh x5),.n x6,.n x7]))))))))))) (T H1 nK (vsl x5 x6 x7))))) :=
 Xa (hi:={loops := [(3,.inv [(6,.nat),(5,.pt .sl)] [])]}) (args := [vS 0,vI 3]) (nv:=4) (e:=lk [.p x0,.n x1,.n x2,.i x3]) Tryz.func132
theorem CF(x0:OL)(x1 x2:Nat)(x3 x4 x5:Int)(x6:OL)(x7 x8:Nat):Xw 134 #[vsl x0 x1 x2,vg #[vi x3,vi x4,vi x5,vsl x6 x7 x8]] λM H0 W0 _ C Q T=>let u0:=#[vg #[vi x3,vi x4,vi x5,vsl x6 x7 x8]];(∀b0:Nat,(C H0 nK 101 #[vsl x0 x1 x2] λz W1 W2=>∃x9:Int,z=.returned (vi x9)/\Ext W1 W2/\(It (x9=0) (C H0 nK 130 u0 λz W3 W4=>∃c0:Int,z=.returned (vi c0)/\Ext W3 W4/\(It (c0=0) (∃(I0:List Dat->Hp->Prop) (μ0:List Dat->Nat),I0 [.n 0,.b (false),.p none,.n 0,.n 0] H0/\∀H1:Hp,∀(c1:Nat) (c2:Bool) (c3:OL) (c4 c5:Nat),I0 [.n c1,.b (c2),.p (sh c3),.n c4,.n c5] H1->(Ck (0<=(x1:Int)) (It ((c1:Int)<(x1:Int)) (It (c2=true) (Ck ((0:Int)<=(c1:Int)/\(c1:Int)<(x1:Int)) (Ck (x0.isSome=true) (∃c6:Int,aa H1 x0 (0+((c1:Int) * 4)) [vi c6]/\(It (c6=x3) (Ck (ae .i64 ((c1:Int)+1)) (Ck (0<=((c1:Int)+1)) (Ck (0<=(c4:Int)) (Ck (0<=(c5:Int)) (I0 [.n (((c1:Int)+1):Int).toNat,.b (c2),.p (sh c3),.n c4,.n c5] H1/\μ0 [.n (((c1:Int)+1):Int).toNat,.b (c2),.p (sh c3),.n c4,.n c5]<μ0 [.n c1,.b (c2),.p (sh c3),.n c4,.n c5]))))) (∃(c7 c8 c9:Int) (cA:OL) (cB cC:Nat),aa H1 x0 (0+((c1:Int) * 4)) [vi c7,vi c8,vi c9,vsl cA cB cC]/\(C H1 nK 136 #[vg #[vi c7,vi c8,vi c9,vsl cA cB cC]] λz W5 W6=>∃(cD cE cF:Int) (cG:OL) (cH cI:Nat),z=.returned (vg #[vi cD,vi cE,vi cF,vsl cG cH cI])/\Fr W5 W6 H1 λH2=>(∀b1:Nat,(Q H2 (λW=>Kn W0 M H2 W b1 (Obj.cells #[vi cD,vi cE,vi cF,vsl cG cH cI] 93 (0,0))/\True) λW7=>∃(cJ:OL) (cK cL:Nat),Eo' (.bi .append #[31,31] 31) [vsl c3 c4 c5,Value.slice (some ⟨b1,0,none⟩) 1 1] W7 (.value (vsl cJ cK cL)) λW8=>Tn W0 M H2 W7 W8 λH3=>(Ck (ae .i64 ((c1:Int)+1)) (Ck (0<=((c1:Int)+1)) (Ck (0<=(cK:Int)) (Ck (0<=(cL:Int)) (I0 [.n (((c1:Int)+1):Int).toNat,.b (c2),.p (sh cJ),.n cK,.n cL] H3/\μ0 [.n (((c1:Int)+1):Int).toNat,.b (c2),.p (sh cJ),.n cK,.n cL]<μ0 [.n c1,.b (c2),.p (sh c3),.n c4,.n c5]))))))))))))) (Ck ((0:Int)<=(c1:Int)/\(c1:Int)<(x1:Int)) (Ck (x0.isSome=true) (∃c6:Int,aa H1 x0 (0+((c1:Int) * 4)) [vi c6]/\(It (x3<=c6) (C H1 nK 136 u0 λz W5 W6=>∃(c7 c8 c9:Int) (cA:OL) (cB cC:Nat),z=.returned (vg #[vi c7,vi c8,vi c9,vsl cA cB cC])/\Fr W5 W6 H1 λH2=>(∀b1:Nat,(Q H2 (λW=>Kn W0 M H2 W b1 (Obj.cells #[vi c7,vi c8,vi c9,vsl cA cB cC] 93 (0,0))/\True) λW7=>∃(cD:OL) (cE cF:Nat),Eo' (.bi .append #[31,31] 31) [vsl c3 c4 c5,Value.slice (some ⟨b1,0,none⟩) 1 1] W7 (.value (vsl cD cE cF)) λW8=>Tn W0 M H2 W7 W8 λH3=>(∃cG:Int,aa H3 x0 (0+((c1:Int) * 4)) [vi cG]/\(It (cG=x3) (Ck (ae .i64 ((c1:Int)+1)) (Ck (0<=((c1:Int)+1)) (Ck (0<=(cE:Int)) (Ck (0<=(cF:Int)) (I0 [.n (((c1:Int)+1):Int).toNat,.b (true),.p (sh cD),.n cE,.n cF] H3/\μ0 [.n (((c1:Int)+1):Int).toNat,.b (true),.p (sh cD),.n cE,.n cF]<μ0 [.n c1,.b (c2),.p (sh c3),.n c4,.n c5]))))) (∃(cH cI cJ:Int) (cK:OL) (cL cM:Nat),aa H3 x0 (0+((c1:Int) * 4)) [vi cH,vi cI,vi cJ,vsl cK cL cM]/\(C H3 nK 136 #[vg #[vi cH,vi cI,vi cJ,vsl cK cL cM]] λz W9 W10=>∃(cN cO cP:Int) (cQ:OL) (cR cS:Nat),z=.returned (vg #[vi cN,vi cO,vi cP,vsl cQ cR cS])/\Fr W9 W10 H3 λH4=>(∀b2:Nat,(Q H4 (λW=>Kn W0 M H4 W b2 (Obj.cells #[vi cN,vi cO,vi cP,vsl cQ cR cS] 93 (0,0))/\True) λW11=>∃(cT:OL) (cU cV:Nat),Eo' (.bi .append #[31,31] 31) [vsl cD cE cF,Value.slice (some ⟨b2,0,none⟩) 1 1] W11 (.value (vsl cT cU cV)) λW12=>Tn W0 M H4 W11 W12 λH5=>(Ck (ae .i64 ((c1:Int)+1)) (Ck (0<=((c1:Int)+1)) (Ck (0<=(cU:Int)) (Ck (0<=(cV:Int)) (I0 [.n (((c1:Int)+1):Int).toNat,.b (true),.p (sh cT),.n cU,.n cV] H5/\μ0 [.n (((c1:Int)+1):Int).toNat,.b (true),.p (sh cT),.n cU,.n cV]<μ0 [.n c1,.b (c2),.p (sh c3),.n c4,.n c5])))))))))))))) (∃c7:Int,aa H1 x0 (0+((c1:Int) * 4)) [vi c7]/\(It (c7=x3) (Ck (ae .i64 ((c1:Int)+1)) (Ck (0<=((c1:Int)+1)) (Ck (0<=(c4:Int)) (Ck (0<=(c5:Int)) (I0 [.n (((c1:Int)+1):Int).toNat,.b (c2),.p (sh c3),.n c4,.n c5] H1/\μ0 [.n (((c1:Int)+1):Int).toNat,.b (c2),.p (sh c3),.n c4,.n c5]<μ0 [.n c1,.b (c2),.p (sh c3),.n c4,.n c5]))))) (∃(c8 c9 cA:Int) (cB:OL) (cC cD:Nat),aa H1 x0 (0+((c1:Int) * 4)) [vi c8,vi c9,vi cA,vsl cB cC cD]/\(C H1 nK 136 #[vg #[vi c8,vi c9,vi cA,vsl cB cC cD]] λz W5 W6=>∃(cE cF cG:Int) (cH:OL) (cI cJ:Nat),z=.returned (vg #[vi cE,vi cF,vi cG,vsl cH cI cJ])/\Fr W5 W6 H1 λH2=>(∀b1:Nat,(Q H2 (λW=>Kn W0 M H2 W b1 (Obj.cells #[vi cE,vi cF,vi cG,vsl cH cI cJ] 93 (0,0))/\True) λW7=>∃(cK:OL) (cL cM:Nat),Eo' (.bi .append #[31,31] 31) [vsl c3 c4 c5,Value.slice (some ⟨b1,0,none⟩) 1 1] W7 (.value (vsl cK cL cM)) λW8=>Tn W0 M H2 W7 W8 λH3=>(Ck (ae .i64 ((c1:Int)+1)) (Ck (0<=((c1:Int)+1)) (Ck (0<=(cL:Int)) (Ck (0<=(cM:Int)) (I0 [.n (((c1:Int)+1):Int).toNat,.b (c2),.p (sh cK),.n cL,.n cM] H3/\μ0 [.n (((c1:Int)+1):Int).toNat,.b (c2),.p (sh cK),.n cL,.n cM]<μ0 [.n c1,.b (c2),.p (sh c3),.n c4,.n c5])))))))))))))))) (It (c2=true) (Ck (0<=(c4:Int)) (It (3<(c4:Int)) (T H1 nK (vt #[Value.slice none 0 0,vi 2])) (T H1 nK (vt #[vsl c3 c4 c5,vi 0])))) (C H1 nK 136 u0 λz W5 W6=>∃(c6 c7 c8:Int) (c9:OL) (cA cB:Nat),z=.returned (vg #[vi c6,vi c7,vi c8,vsl c9 cA cB])/\Fr W5 W6 H1 λH2=>(∀b1:Nat,(Q H2 (λW=>Kn W0 M H2 W b1 (Obj.cells #[vi c6,vi c7,vi c8,vsl c9 cA cB] 93 (0,0))/\True) λW7=>∃(cC:OL) (cD cE:Nat),Eo' (.bi .append #[31,31] 31) [vsl c3 c4 c5,Value.slice (some ⟨b1,0,none⟩) 1 1] W7 (.value (vsl cC cD cE)) λW8=>Tn W0 M H2 W7 W8 λH3=>(Ck (0<=(cD:Int)) (It (3<(cD:Int)) (T H3 nK (vt #[Value.slice none 0 0,vi 2])) (T H3 nK (vt #[vsl cC cD cE,vi 0]))))))))))) (T H0 nK (vt #[Value.slice none 0 0,vi c0])))) (T H0 nK (vt #[Value.slice none 0 0,vi x9]))))) :=
 Xa (hi:={loops := [(10,.inv [(10,.nat),(9,.pt .bool),(8,.pt .sl)] [])]}) (args := [vS 0,.agg [vI 3,vI 4,vI 5,vS 6]]) (nv:=9) (e:=lk [.p x0,.n x1,.n x2,.i x3,.i x4,.i x5,.p x6,.n x7,.n x8]) Tryz.func134
theorem A7{H:Hp}{p:OL}{n c:Nat}{rows:List (List Value)}{g:Option Nat}(ho:Ow H 93 4 p n c rows g){i j:Nat}(hij:i<=j)(hj:j<=n)(hb:n<=1099511627776) :
  Gt Tryz.prog 162 #[vsl p n c,vi i,vi j] H g λv H' g'=>∃p' n' c',v=vsl p' n' c'/\Ow H' 93 4 p' n' c' (rows.take i++rows.drop j) g':=λW hH=>by
 have hn:=ho.1;have hc:=ho.2.2.1
 have h63:=ho.2.2.2.1;obtain⟨ti,z,i1,i2,i3,i4,i5,i6⟩:=aR js;refine Eh p n c i j (λb=>g=some b) H W _ hH ⟨by omega,λ_=>?_⟩;intro W1 n1 _;obtain⟨q,hq⟩:=yt (P:=Tryz.prog) Tryz.underlying31 i1 i3 p n c i j n hij hj hc W1;refine⟨q,_,_,W1,hq,Ext.refl _,noH,ba _,λb o h=>(by cases h),λH1 h01 _=>?_⟩;have ho1:Ow H1 93 4 p n c rows g:=ho.mono λb _ o h=>h01 b o h
 refine⟨λh=>?_,λhne=>⟨by omega,λ_=>⟨by omega,λ_=>⟨by omega,λ_=>⟨by omega,λ_=>⟨by omega,λ_=>?_⟩⟩⟩⟩⟩⟩
 ·have:i=j:=by omega
  subst this;refine Rt.gt hH ho.held g (.inl rfl) ⟨p,n,c,rfl,?_⟩;rw[List.take_append_drop];exact ho1.merge (.inl rfl)
 ·intro W3 n3 _;have hrd:Rows H1 (bK p c j 4) (n-j) 4 (rows.drop j):=ho1.rows.tail hj hc
  obtain⟨p',c',g',W',H',h2,h3,h4,h5,h6⟩:=bU (P:=Tryz.prog) Tryz.underlying31 i1 i2 i3 i4 i5 (by omega) n3.sub (ho1.take i (by omega)) hrd (λr hr v hv=>(ho.2.1 r (List.mem_of_mem_drop hr)).2 v hv) (by simp only[maxLen] at *;omega) (by omega) 31 (c2:=c-j);obtain⟨rfl,rfl,rfl⟩:=h6 (by omega);rw[bf];refine⟨p',i+(n-j),c',W',h2,H',h3.own (ho1.take i (by omega)) (λb hb=>.inr hb),by omega,λ_=>⟨by omega,λ_=>⟨by omega,λ_=>?_⟩⟩⟩;intro W5 n5 _;obtain⟨W6,H3,h7,h8,h9⟩:=pJ (P:=Tryz.prog) Tryz.underlying31 i1 i2 i5 i6 n5.sub h4 (m:=n-(i+(n-j))) (dc:=c'-(i+(n-j))) (by omega) (off:=0+(if (c':Int)=((i+(n-j):Nat):Int) then 0 else ((i+(n-j):Nat):Int) * ((4:Nat):Int))) (λh=>by rw[if_neg (by omega)];omega) 0;have e1:(((n:Int)-((i+(n-j):Nat):Int)):Int).toNat=n-(i+(n-j)):=by omega
  have e2:(((c':Int)-((i+(n-j):Nat):Int)):Int).toNat=c'-(i+(n-j)):=by omega
  rw[e1,e2];exact⟨W6,h7,H3,h8.own h4 (λb hb=>.inr hb),Rt.gt hH ho.held g' (.inl rfl) ⟨p',_,c',rfl,h9.merge (.inl rfl)⟩⟩
theorem tw{W:World}{a b o la ca:Nat}{R C:Array Value}{T T':Nat}(hne:a≠b)(ha:W.heap[a]?=some (.cells R T (0,0)))(hb:W.heap[b]?=some (.cells C T' (0,0)))(hC:C.size≠0) :
  (EK.sem (.ext 187) [vsl (some (a,0)) 1 1,vsl (some (b,o)) la ca]).run Tryz.prog W=.ok (.value (vb false)) W:=by
 show (callFunc 187 #[vsl (some (a,0)) 1 1,vsl (some (b,o)) la ca]).run Tryz.prog W=_;have hsz:∀w,(Go.sizeOf 93).run Tryz.prog w=.ok 4 w:=λw=>by
  obtain⟨ti,z,i1,i2,i3,_⟩:=aR js;exact hG i1 i3 w
 rw[run_callFunc_extern Tryz.func187 (by kernel_rfl) (by kernel_rfl) (by kernel_rfl) (e:=Extern.SlicesOverlaps.overlaps #[31,31] #[4]) (by kernel_rfl)];have:=Lib.run_overlaps_apart W 31 4 93 Tryz.underlying31 4 hsz ⟨a,0,none⟩ ⟨b,o,none⟩ 1 1 la ca hne T T' R.size C.size (by simp[World.shape?,ha]) (by simp[World.shape?,hb]) hC (by simp[World.frozen?,ha]) (by simp[World.frozen?,ha])
 have e1:vsl (some (a,0)) 1 1=.slice (some ⟨a,0,none⟩) 1 1:=rfl;have e2:vsl (some (b,o)) la ca=.slice (some ⟨b,o,none⟩) la ca:=rfl
 rw[e1,e2,this];rfl
theorem Ba{H:Hp}{p:OL}{n c:Nat}{rows:List (List Value)}{g:Option Nat}(ho:Ow H 93 4 p n c rows g){i:Nat}(hi:i<=n){vb:Nat}{row:List Value}(hv:H vb=some (.cells row.toArray 93 (0,0)))(hl:row.length=4)(h1:∀v∈row,v.oneCell'=true)(hne:g≠some vb)(hb:n<=1099511627776) :
  Gt Tryz.prog 178 #[vsl p n c,vi i,vsl (some (vb,0)) 1 1] H g λv H' g'=>∃p' n' c',v=vsl p' n' c'/\Ow H' 93 4 p' n' c' (rows.take i++row::rows.drop i) g':=λW hH=>by
 have hn:=ho.1;have hc:=ho.2.2.1
 have h63:=ho.2.2.2.1;have hmx:maxLen=9223372036854775807:=rfl
 obtain⟨ti,z,i1,i2,i3,i4,i5,i6⟩:=aR js;have hone:∀r∈rows,∀v∈r,v.oneCell'=true:=λr hr=>(ho.2.1 r hr).2
 have hrow1:∀K:Hp,K vb=some (.cells row.toArray 93 (0,0))->Rows K (some (vb,0)) 1 4 [row]:=λK hK=>Rows.block hK rfl (λr hr=>by simp only[List.mem_singleton] at hr;subst hr;exact hl) (by simp[<- hl]);have hone1:∀r ∈ [row],∀v∈r,v.oneCell'=true:=λr hr=>by simp only[List.mem_singleton] at hr;subst hr;exact h1
 refine Et p n c i (some (vb,0)) 1 1 (λb=>g=some b) H W _ hH ⟨by omega,λ_=>⟨by omega,λ_=>⟨by omega,λ_=>⟨by omega,λ_=>⟨λh=>absurd h (by omega),λ_=>⟨by omega,λ_=>⟨λhin=>?_,λhin=>⟨in64 (by omega),λ_=>?_⟩⟩⟩⟩⟩⟩⟩⟩
 ·
  have hin':i=n:=by omega
  intro W1 n1 _;obtain⟨p',c',g',W',H',h2,h3,h4,h5,h6⟩:=bU (P:=Tryz.prog) Tryz.underlying31 i1 i2 i3 i4 i5 (by omega) n1.sub ho (hrow1 H hv) hone1 (by omega) (by omega) 31 (c2:=1);refine⟨p',n+1,c',W',h2,H',h3.own ho (λb hb=>.inr hb),Rt.gt hH ho.held g' ?_ ⟨p',n+1,c',rfl,?_⟩⟩
  ·exact h5.imp id (λh b hb=>by rw[h] at hb;simp only[Option.some.injEq] at hb;rw[<- hb];exact n1.mod.size)
  ·rw[hin',List.take_of_length_le (by omega),List.drop_of_length_le (by omega)];exact h4.merge (h5.imp id (λh b hb=>by rw[h] at hb;simp only[Option.some.injEq] at hb;rw[<- hb];exact n1.mod.size))
 ·intro W1 n1 _;refine⟨c,W1,AA (P:=Tryz.prog) Tryz.underlying31 _ p n c W1,Ext.refl _,λhcap=>⟨by omega,λ_=>⟨in64 (by omega),λ_=>?_⟩⟩,λhcap=>⟨by omega,λ_=>⟨by omega,λ_=>⟨in64 (by omega),λ_=>⟨by omega,λ_=>⟨by omega,λ_=>?_⟩⟩⟩⟩⟩⟩
  ·
   intro W3 n3 _;have ek:((n:Int)+((1:Nat):Int)-(i:Int))=((n+1-i:Nat):Int):=by omega
   rw[ek];obtain⟨c',zr,W4,H1,h2,h3,h4,h5⟩:=sI (P:=Tryz.prog) (tn:=3) (kq:=.i64) Tryz.underlying31 Tryz.underlying3 js (by omega) n3.sub (ho.take i hi) (k:=n+1-i) (by omega) (by omega) (by omega) (by omega) 31;have eit:((i:Int)).toNat=i:=by omega
   rw[eit];refine⟨some (W3.heap.size,0),i+(n+1-i),c',W4,h2,H1,h3.turned (λb hb=>⟨ho.held b hb,.inr hb⟩),by omega,λ_=>⟨by have:=h5.2.2.1;omega,λ_=>?_⟩⟩;have hnew:W.heap.size<=W3.heap.size:=n3.mod.size
   have hln:i+(n+1-i)=n+1:=by omega
   rw[hln] at h5 |-;have hc'n:=h5.2.2.1
   have hlr1:=h5.1;intro W5 n5 _;rw[bf];have et:bK (some (W3.heap.size,0)) c' i 4=fR (some (W3.heap.size,0)) (i * 4):=by unfold bK;rw[if_neg (by omega)]
   obtain⟨W6,H2,h7,h8,h9⟩:=lH (P:=Tryz.prog) Tryz.underlying31 i1 i3 (by omega) n5.sub h5 (hrow1 H1 (h4 _ _ hv)) hone1 (m:=1) (sl:=1) (c2:=1) (dl:=n+1-i) (dc:=c'-i) (k:=i) (by omega) (by simp[Nat.min_def];omega) (by omega) (off:=((i * 4:Nat):Int)) rfl 3;have ev1:vsl (bK (some (W3.heap.size,0)) c' i 4) (n+1-i) (c'-i)=.slice (ab (some (W3.heap.size,0)) ((i * 4:Nat):Int)) (n+1-i) (c'-i):=by rw[et,bD,Int.toNat_natCast]
   rw[ev1];refine⟨1,W6,h7,H2,h8.turned (λb hb=>⟨h5.held b hb,.inl (by simp only[Option.some.injEq] at hb;rw[<- hb];exact hnew)⟩),in64 (by omega),λ_=>⟨by omega,λ_=>⟨by omega,λ_=>?_⟩⟩⟩;intro W7 n7 _;have e11:((i:Int)+((1:Nat):Int))=((i+1:Nat):Int):=by omega
   rw[e11,bf,bf];have et2:bK (some (W3.heap.size,0)) c' (i+1) 4=fR (some (W3.heap.size,0)) ((i+1) * 4):=by unfold bK;rw[if_neg (by omega)]
   have ev2:vsl (bK (some (W3.heap.size,0)) c' (i+1) 4) (n+1-(i+1)) (c'-(i+1))=.slice (ab (some (W3.heap.size,0)) (((i+1) * 4:Nat):Int)) (n+1-(i+1)) (c'-(i+1)):=by rw[et2,bD,Int.toNat_natCast]
   have hgs:∀b,some W3.heap.size=some b->H b=none:=λb hb=>by simp only[Option.some.injEq] at hb;rw[<- hb];exact ao hH hnew
   have hH2:H.le H2:=h8.keep n5.sub h4 hgs;have hsrc:Rows H2 (bK p c i 4) (n-i) 4 (rows.drop i):=(ho.rows.tail hi hc).mono hH2
   obtain⟨W8,H3,ha,hb',hc'⟩:=lH (P:=Tryz.prog) Tryz.underlying31 i1 i3 (by omega) n7.sub h9 hsrc (λr hr=>hone r (List.mem_of_mem_drop hr)) (m:=n-i) (sl:=n-i) (c2:=c-i) (dl:=n+1-(i+1)) (dc:=c'-(i+1)) (k:=i+1) (by omega) (by simp) (by omega) (off:=(((i+1) * 4:Nat):Int)) rfl 3;rw[ev2];refine⟨_,W8,ha,H3,hb'.turned (λb hb=>⟨h9.held b hb,.inl (by simp only[Option.some.injEq] at hb;rw[<- hb];exact hnew)⟩),Rt.gt hH ho.held (some W3.heap.size) (.inr (λb hb=>by simp only[Option.some.injEq] at hb;rw[<- hb];exact hnew)) ⟨_,n+1,c',rfl,?_⟩⟩;have hfin:=hc'.merge (g:=g) (W0:=W) (H:=H) (.inr (λb hb=>by simp only[Option.some.injEq] at hb;rw[<- hb];exact hnew))
   have heq:∀A:List (List Value),A.length=n+1->A.take i=rows.take i->(A.take i ++ [row]++A.drop (i+1)).take (i+1)++rows.drop i++(A.take i ++ [row]++A.drop (i+1)).drop (i+1+(n-i))=rows.take i++row::rows.drop i:=λA hA hA2=>by
    have t1:(A.take i ++ [row]).length=i+1:=by simp;omega
    have t2:(A.take i ++ [row]++A.drop (i+1)).take (i+1)=A.take i ++ [row]:=by rw[<- t1,List.take_left]
    have t3:(A.take i ++ [row]++A.drop (i+1)).drop (i+1+(n-i)) = []:=List.drop_of_length_le (by simp only[List.length_append,List.length_drop,t1];omega);rw[t2,t3,hA2];simp
   rw[heq _ (by simp;omega) (by rw[List.take_append_of_le_length (by simp;omega),List.take_take,Nat.min_self])] at hfin;exact hfin
  ·
   intro W3 n3 _;have hcn:n+1<=c:=by omega
   obtain⟨q1,q2,q3,q4,q5⟩:=id ho
   rcases q5 with⟨rfl,_⟩ | ⟨b,C,rfl,rfl,q6,q7,q8⟩
   ·omega
   have ebn:((n:Int)+((1:Nat):Int))=((n+1:Nat):Int):=by omega
   have ei1:((i:Int)+((1:Nat):Int))=((i+1:Nat):Int):=by omega
   rw[ebn,ei1,bf,bf,bf];have et:∀k,k<c->∀a d,vsl (bK (some (b,0)) c k 4) a d=.slice (ab (some (b,0)) ((k * 4:Nat):Int)) a d:=λk hk a d=>by unfold bK;rw[if_neg (by omega),bD,Int.toNat_natCast]
   have hbv:vb≠b:=λh=>hne (by rw[h]);have ep:bK (some (b,0)) c (i+1) 4=some ((b:Blk),(if c=i+1 then 0 else (i+1) * 4)):=by
    unfold bK fR
    split
    ·rfl
    ·simp[m4]
   refine⟨false,W3,by rw[ep];exact tw hbv (n3.sub _ _ hv) (n3.sub _ _ q6) (by omega),Ext.refl _,λh=>(by cases h),λ_=>⟨by omega,λ_=>?_⟩⟩;intro W5 n5 _;have hsrc:Rows H (bK (some (b,0)) c i 4) (n-i) 4 (rows.drop i):=ho.rows.tail hi hc
   rw[et (i+1) (by omega)];obtain⟨W6,H2,h7,h8,h9⟩:=ur (P:=Tryz.prog) Tryz.underlying31 i1 i3 (by omega) n5.sub ho hsrc (λr hr=>hone r (List.mem_of_mem_drop hr)) (m:=n-i) (sl:=n+1-i) (c2:=c-i) (dl:=n+1-(i+1)) (dc:=c-(i+1)) (k:=i+1) (by omega) (by simp[Nat.min_def];omega) (by omega) (by omega) (by omega) (off:=(((i+1) * 4:Nat):Int)) rfl 3;refine⟨_,W6,h7,H2,h8.own ho (λb hb=>.inr hb),?_⟩;intro W7 n7 _;rw[et i (by omega)];have hv2:H2 vb=some (.cells row.toArray 93 (0,0)):=by
    rw[h8.same vb (ag (n5.sub _ _ hv)) (λh=>hbv (by simpa using h.symm))];exact hv
   rw[show i+1+(n-i)=n+1 by omega] at h9;obtain⟨W8,H3,ha,hb',hc'⟩:=lH (P:=Tryz.prog) Tryz.underlying31 i1 i3 (by omega) n7.sub h9 (hrow1 H2 hv2) hone1 (m:=1) (sl:=1) (c2:=1) (dl:=n+1-i) (dc:=c-i) (k:=i) (by omega) (by simp[Nat.min_def];omega) (by omega) (off:=((i * 4:Nat):Int)) rfl 3;have en:(((n+1:Nat):Int)).toNat=n+1:=by omega
   rw[en];refine⟨_,W8,ha,H3,hb'.own h9 (λb hb=>.inr hb),Rt.gt hH ho.held _ (.inl rfl) ⟨_,n+1,c,rfl,?_⟩⟩;have hfin:=hc'.merge (g:=some b) (W0:=W) (H:=H) (.inl rfl)
   have heq:(rows.take (i+1)++rows.drop i).take i ++ [row]++(rows.take (i+1)++rows.drop i).drop (i+1)=rows.take i++row::rows.drop i:=by
    have t1:(rows.take (i+1)).length=i+1:=by simp;omega
    rw[List.take_append_of_le_length (by omega),List.take_take,Nat.min_eq_left (by omega),List.drop_append,List.drop_of_length_le (by omega),t1,Nat.sub_self];simp
   rw[heq] at hfin;exact hfin
theorem xg{H:Hp}{q:OL}{clock:Int}(hq:aa H q 0 [vi clock])(h20:-4611686018427387904<=clock/\clock<=4611686018427387904)(a b x:Int)(p:OL)(n c:Nat) :
  Gv Tryz.prog 175 #[.agg #[vi a,vi b,vi x,vsl p n c],.pointer (ab q 0)] H (vb (decide (x<clock-20))):=λW hH =>
 CS a b x p n c q noM H W _ hH λ_=>⟨clock,hq,in64 (by omega),λ_=>Rt.gv⟩
def ixP(f:Ses->Bool):Nat->List Ses->Int
 | _,[]=>-1
 | k,s::t=>if f s=true then k else ixP f (k+1) t
def old(clock:Int)(s:Ses):Bool:=decide (s.seen<clock-20)
theorem pG(f:Ses->Bool):∀(l:List Ses) (k:Nat),(ixP f k l = -1/\∀s∈l,f s=false)\/∃j s,ixP f k l=((k+j:Nat):Int)/\l[j]?=some s/\f s=true/\∀t∈l.take j,f t=false
 | [],k=>.inl ⟨rfl,λs hs=>by simp at hs⟩
 | s::t,k=>by
  unfold ixP
  split
  ·rename_i h;exact .inr ⟨0,s,by simp,by simp,h,λt ht=>by simp at ht⟩
  ·rename_i h
   rcases pG f t (k+1) with⟨h1,h2⟩ | ⟨j,u,h1,h2,h3,h4⟩
   ·refine .inl ⟨h1,λx hx=>?_⟩
    rcases List.mem_cons.1 hx with rfl | hx
    ·simpa using h
    ·exact h2 x hx
   ·refine .inr ⟨j+1,u,by rw[h1];congr 1;omega,by simpa using h2,h3,λx hx=>?_⟩;rw[List.take_succ_cons] at hx
    rcases List.mem_cons.1 hx with rfl | hx
    ·simpa using h
    ·exact h4 x hx
def Shaped(R:List Value->Ses->Prop):Prop:=∀(row:List Value) (s:Ses),R row s->∃p n c,row = [vi s.client,vi s.acked,vi s.seen,vsl p n c]
theorem dz.shaped(H:Hp):Shaped (dz H):=λ_ _ ⟨p,n,c,h,_⟩=>⟨p,n,c,h⟩
theorem AJ{H:Hp}{q:OL}{clock:Int}(hq:aa H q 0 [vi clock])(h20:-4611686018427387904<=clock/\clock<=4611686018427387904){p:OL}{n c:Nat}{rows:List (List Value)}{l:List Ses}{R:List Value->Ses->Prop}(hR:Shaped R)(hr:Rows H p n 4 rows)(ha:de R rows l)(hb:n<=1099511627776) :
  Gv Tryz.prog 173 #[vsl p n c,.func (.func 175) #[] #[.pointer (ab q 0)]] H (vi (ixP (old clock) 0 l)):=λW hH=>by
 have hn:n=l.length:=by rw[hr.len,ha.length]
 refine Au p n c q noM H W _ hH ⟨by omega,λ_=>⟨λv K=>match v with | [.i k]=>∃j:Nat,k=j/\j<=n/\H.le K/\ixP (old clock) j (l.drop j)=ixP (old clock) 0 l | _=>False,λv=>match v with | [.i k]=>n-k.toNat | _=>0,⟨0,rfl,by omega,Hp.le_refl H,by simp⟩,λK k hI=>?_⟩⟩;obtain⟨j,rfl,hj,hle,hf⟩:=hI;refine⟨λhlt=>⟨⟨by omega,hlt⟩,λ_=>?_⟩,λhge=>Rt.gv' ?_⟩
 ·obtain⟨row,hrow,_,hat⟩:=(hr.mono hle).at (k:=j) (by omega) (off:=0+(j:Int) * 4) (by omega)
  obtain⟨s,hs,hrs⟩:=ha.get hrow;obtain⟨p',m,d,rfl⟩:=hR _ _ hrs;rw[bB hs,ixP] at hf;refine⟨hat.isSome,λ_=>⟨_,_,_,p',m,d,hat,?_⟩⟩;refine Cl.same (xg (hq.mono hle) h20 _ _ _ p' m d) λ_ _ hx=>⟨_,rfl,hx,λh=>Rt.gv' ?_,λh=>⟨in64 (by omega),λ_=>⟨⟨j+1,by omega,by omega,hle,?_⟩,by simp only;omega⟩⟩⟩
  ·have h':old clock s=true:=h;rw[<- hf,if_pos h']
  ·have h':¬old clock s=true:=h;rw[<- hf,if_neg h']
 ·rw[<- hf,List.drop_of_length_le (by omega)];rfl
theorem cq{α:Type}(f:α->Bool){l:List α}{j:Nat}{s:α}(hs:l[j]?=some s):(l.take (j+1)).filter f=(l.take j).filter f++(if f s=true then [s] else []):=by
 obtain⟨h1,h2⟩:=List.getElem?_eq_some_iff.1 hs;rw[List.take_succ_eq_append_getElem h1,h2,List.filter_append]
 congr 1
 simp only[List.filter]
 split<;>simp_all
def but(g:Option Nat)(H:Hp):Hp:=λb=>if g=some b then none else H b
theorem pI(g:Option Nat)(H:Hp):(but g H).le H:=λb o h=>by
 unfold but at h
 split at h
 ·cases h
 ·exact h
theorem DS(H:Hp){g:Option Nat}:∀b,g=some b->but g H b=none:=λb h=>by unfold but;rw[if_pos h]
set_option maxHeartbeats 1000000 in
theorem EF{H:Hp}{q:OL}{clock:Int}{g:Option Nat}(hq:aa (but g H) q 0 [vi clock])(h20:-4611686018427387904<=clock/\clock<=4611686018427387904){p:OL}{n c:Nat}{rows:List (List Value)}{l:List Ses}{R:List Value->Ses->Prop}(hR:Shaped R)(ho:Ow H 93 4 p n c rows g)(ha:de R rows l)(hb:n<=1099511627776) :
  Gt Tryz.prog 174 #[vsl p n c,.func (.func 175) #[] #[.pointer (ab q 0)]] H g λv H' g'=>∃n' rows',v=vsl p n' c/\Ow H' 93 4 p n' c rows' g'/\de R rows' (l.filter λs=>!old clock s):=λW hH=>by
 have hn:n=l.length:=by rw[ho.1,ha.length]
 have hc:=ho.2.2.1;obtain⟨ti,z,i1,i2,i3,i4,i5,i6⟩:=aR js;refine EP p n c q (λb=>g=some b) H W _ hH ?_;refine Cl.same (AJ (hq.mono (pI g H)) h20 hR ho.rows ha hb) λ_ _ hx=>⟨_,rfl,hx,?_⟩
 rcases pG (old clock) l 0 with⟨h1,h2⟩ | ⟨j0,s0,h1,h2,h3,h4⟩
 ·rw[h1];refine⟨λ_=>Rt.gt hH ho.held g (.inl rfl) ⟨n,rows,rfl,ho.merge (.inl rfl),?_⟩,λh=>absurd rfl h⟩;rw[List.filter_eq_self.2 (λs hs=>by rw[h2 s hs];rfl)];exact ha
 ·rw[h1,Nat.zero_add];have hj0:j0<l.length:=(List.getElem?_eq_some_iff.1 h2).1
  refine⟨λh=>absurd h (by omega),λ_=>⟨in64 (by omega),λ_=>?_⟩⟩;refine⟨λv K=>match v with | [.i x,.i y]=>∃j i:Nat,x=j/\y=i/\i<j/\j<=n/\(but g H).le K/\∃rows',Ow K 93 4 p n c rows' g/\rows'.drop j=rows.drop j/\de R (rows'.take i) ((l.take j).filter λs=>!old clock s) | _=>False,
   λv=>match v with | [.i x,_]=>n-x.toNat | _=>0,⟨j0+1,j0,by omega,rfl,by omega,by omega,pI g H,rows,ho,rfl,?_⟩,λK x y hI=>?_⟩
  ·rw[cq _ h2,h3,List.filter_eq_self.2 (λs hs=>by rw[h4 s hs];rfl)];simp only[Bool.not_true,Bool.false_eq_true,if_false,List.append_nil]
   exact ha.take j0
  obtain⟨j,i,rfl,rfl,hij,hj,hle,rows',ho',hd,ha'⟩:=hI;have hn':=ho'.1
  refine⟨by omega,λ_=>⟨λhlt=>⟨⟨by omega,hlt⟩,λ_=>?_⟩,λhge=>⟨by omega,λ_=>⟨by omega,λ_=>⟨by omega,λ_=>?_⟩⟩⟩⟩⟩
  ·have hjr:j<rows.length:=by rw[<- ho.1];omega
   have hrj':rows'[j]?=some rows[j]:=by
    have h5:(rows'.drop j)[0]?=(rows.drop j)[0]?:=by rw[hd]
    rw[List.getElem?_drop,List.getElem?_drop] at h5;simpa [List.getElem?_eq_getElem hjr] using h5
   obtain⟨s,hs,hrs⟩:=ha.get (List.getElem?_eq_getElem hjr);obtain⟨p',m,d,hrow⟩:=hR _ _ hrs;obtain⟨r',hr',_,hat⟩:=ho'.rows.at (k:=j) (by omega) (off:=0+(j:Int) * 4) (by omega)
   rw[hrj'] at hr';simp only[Option.some.injEq] at hr';subst hr';rw[hrow] at hat hrs hrj';have hdn:rows'.drop (j+1)=rows.drop (j+1):=by
    have e1:rows'.drop (j+1)=(rows'.drop j).drop 1:=by rw[List.drop_drop]
    rw[e1,hd,List.drop_drop]
   refine⟨hat.isSome,λ_=>⟨_,_,_,p',m,d,hat,λb0=>?_⟩⟩;refine Cl.same (xg (hq.mono hle) h20 _ _ _ p' m d) λ_ _ hx2=>⟨_,rfl,hx2,λh=>⟨in64 (by omega),λ_=>⟨⟨j+1,i,by omega,rfl,by omega,by omega,hle,rows',ho',hdn,?_⟩,by simp only;omega⟩⟩,λh=>⟨⟨by omega,by omega⟩,λ_=>?_⟩⟩
   ·have:old clock s=true:=h;rw[cq _ hs,this];simpa using ha'
   ·intro W5 n5 _;have hir:i<rows'.length:=by rw[<- hn'];omega
    obtain⟨W6,H2,hrun,hu,ho2⟩:=dr (P:=Tryz.prog) (t:=93) i1 n5.sub ho' (i:=i) (j:=0) (vs := [vi s.client,vi s.acked,vi s.seen,vsl p' m d]) (v:=.agg #[vi s.client,vi s.acked,vi s.seen,vsl p' m d]) (List.getElem?_eq_getElem hir) rfl i3 (by simp) (by simp)
     (λu hu=>by
      simp only[List.mem_cons,List.not_mem_nil,or_false] at hu
      rcases hu with rfl | rfl | rfl | rfl<;>rfl) (off:=0+(i:Int) * 4) (by omega)
    have hseg:fU rows'[i] 0 [vi s.client,vi s.acked,vi s.seen,vsl p' m d] = [vi s.client,vi s.acked,vi s.seen,vsl p' m d]:=by
     have:=(ho'.2.1 _ (List.getElem_mem hir)).1;unfold fU;rw[List.drop_of_length_le (by simp;omega)];simp
    rw[hseg] at ho2;refine⟨W6,hrun,H2,hu.own ho' (λb hb=>.inr hb),in64 (by omega),λ_=>⟨in64 (by omega),λ_=>⟨⟨j+1,i+1,by omega,by omega,by omega,by omega,hu.keep n5.sub hle (DS H),_,ho2,?_,?_⟩,by simp only;omega⟩⟩⟩
    ·rw[List.drop_set_of_lt (by omega)];exact hdn
    ·have:old clock s=false:=by simpa [old] using h
     rw[cq _ hs,this];have e2:(rows'.set i [vi s.client,vi s.acked,vi s.seen,vsl p' m d]).take (i+1)=rows'.take i ++ [[vi s.client,vi s.acked,vi s.seen,vsl p' m d]]:=by
      rw[List.take_succ_eq_append_getElem (by simp;omega)];simp[List.take_set_of_le]
     rw[e2];exact ha'.append (.one hrs)
  ·have hjn:j=n:=by omega
   subst hjn;intro W3 n3 _;rw[bf];have hot:=ho'.take i (by omega)
   have hic:i<c:=by omega
   have et:i<c->vsl (bK p c i 4) (j-i) (c-i)=.slice (ab p ((i * 4:Nat):Int)) (j-i) (c-i):=λh=>by unfold bK;rw[if_neg (by omega),bD,Int.toNat_natCast]
   rw[et hic];obtain⟨W4,H2,hrun,hu,ho2⟩:=pJ (P:=Tryz.prog) Tryz.underlying31 i1 i2 i5 i6 n3.sub hot (m:=j-i) (dc:=c-i) (by omega) (off:=((i * 4:Nat):Int)) (λ_=>rfl) 0;refine⟨W4,hrun,H2,hu.own hot (λb hb=>.inr hb),by omega,λ_=>?_⟩;have ei:((i:Int)).toNat=i:=by omega
   rw[ei];refine Rt.gt hH ho.held g (.inl rfl) ⟨i,_,rfl,ho2.merge (.inl rfl),?_⟩;have e3:l.take j=l:=List.take_of_length_le (by omega)
   rw[e3] at ha';exact ha'
end Go.Proofs.YtfpmcmhihhnfgaaGreatDoor
