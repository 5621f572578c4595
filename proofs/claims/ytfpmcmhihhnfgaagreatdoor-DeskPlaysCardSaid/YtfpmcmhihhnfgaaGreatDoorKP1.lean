/- Logs, packed, as the document says it, over plain data. No conditions. -/
import Derived.Test.YtfpmcmhihhnfgaaGreatDoorKF3
set_option linter.unusedVariables false
set_option linter.unusedSimpArgs false
namespace Go.Proofs.YtfpmcmhihhnfgaaGreatDoor
open Go.RowKit
def aY(s:Sta)(l:List Ent):Int:=if s.err≠0 then s.err else if bg l≠0 then bg l else if 50<s.pos+l.length then 2 else 0
structure gT(s:Sta)(l:List Ent):Prop where
 base:dy s
 ents:∀e∈l,ip e
 len:s.pos+l.length<=50
theorem bG{s:Sta}{l:List Ent}:aY s l=0↔gT s l:=by
 unfold aY;constructor
 ·intro h
  by_cases h0:s.err=0
  ·by_cases h1:bg l=0
   ·rw[if_neg (by omega),if_neg (by omega)] at h
    by_cases h2:50<s.pos+(l.length:Int)
    ·rw[if_pos h2] at h;cases h
    ·exact⟨Sta.err_ok.1 h0,(go.1 h1).2,by omega⟩
   ·rw[if_neg (by omega),if_pos h1] at h;exact absurd h h1
  ·rw[if_pos h0] at h;exact absurd h h0
 ·intro h;have h0:=Sta.err_ok.2 h.base
  have h1:=(go (l:=l)).2 ⟨by have:=h.base.pos;have:=h.len;omega,h.ents⟩;rw[if_neg (by omega),if_neg (by omega),if_neg (by have:=h.len;omega)]
theorem gT.low{s:Sta}{l:List Ent}(h:gT s l):l.length<=50:=by have:=h.base.pos;have:=h.len;omega
def jP(s:Sta)(l:List Ent)(n:Int):Sta × List Ent × Int :=
 if aY s l≠0 then (Sta.zero,[],aY s l) else if n<0\/(l.length:Int)<n then (Sta.zero,[],3) else (aC s (l.take n.toNat),l.drop n.toNat,0)
def gS(s:Sta)(l:List Ent)(e:Ent):Sta × List Ent × Int × Int :=
 if aY s l≠0 then (Sta.zero,[],0,aY s l) else if e.err≠0 then (Sta.zero,[],0,e.err) else if s.pos+l.length=50 then (Sta.zero,[],0,2)
 else (s,l ++ [e],((aC s l).apply e).2.1,0)
section
variable{s:Sta}{l:List Ent}{e:Ent}{n:Int}
theorem sN(h:aY s l≠0):jP s l n=(Sta.zero,[],aY s l):=if_pos h
theorem jI(h:aY s l=0)(h1:n<0\/(l.length:Int)<n):jP s l n=(Sta.zero,[],3):=by unfold jP;rw[if_neg (by omega),if_pos h1]
theorem sy(h:aY s l=0)(h1:¬(n<0\/(l.length:Int)<n)):jP s l n=(aC s (l.take n.toNat),l.drop n.toNat,0):=by unfold jP;rw[if_neg (by omega),if_neg h1]
theorem px(h:aY s l≠0):gS s l e=(Sta.zero,[],0,aY s l):=if_pos h
theorem jH(h:aY s l=0)(h1:e.err≠0):gS s l e=(Sta.zero,[],0,e.err):=by unfold gS;rw[if_neg (by omega),if_pos h1]
theorem iU(h:aY s l=0)(h1:e.err=0)(h2:s.pos+(l.length:Int)=50):gS s l e=(Sta.zero,[],0,2):=by unfold gS;rw[if_neg (by omega),if_neg (by omega),if_pos h2]
theorem lC(h:aY s l=0)(h1:e.err=0)(h2:¬s.pos+(l.length:Int)=50):gS s l e=(s,l ++ [e],((aC s l).apply e).2.1,0):=by unfold gS;rw[if_neg (by omega),if_neg (by omega),if_neg h2]
theorem gT.cut(h:gT s l){k:Nat}(hk:k<=l.length):gT (aC s (l.take k)) (l.drop k)/\(aC s (l.take k)).pos=s.pos+k/\aC (aC s (l.take k)) (l.drop k)=aC s l:=by
 have ht:(l.take k).length=k:=by simp;omega
 have hd:(l.drop k).length=l.length-k:=by simp
 have hp:=h.len;obtain⟨o1,q1⟩:=kS h.base (λe he=>h.ents e (List.mem_of_mem_take he)) (by rw[ht];omega);rw[ht] at q1;refine⟨⟨o1,λe he=>h.ents e (List.mem_of_mem_drop he),by rw[q1,hd];omega⟩,q1,?_⟩;rw[<- iF,List.take_append_drop]
theorem gT.put(h:gT s l)(he:ip e)(hp:¬s.pos+(l.length:Int)=50):gT s (l ++ [e]):=by
 have:=h.len;refine⟨h.base,λx hx=>?_,by simp;omega⟩
 rcases List.mem_append.1 hx with hx | hx
 ·exact h.ents x hx
 ·simp only[List.mem_singleton] at hx;subst hx;exact he
end
set_option maxRecDepth 100000
set_option maxHeartbeats 4000000
theorem uw(x0 x1 x2 x3 x4 x5:Int)(x6:OL)(x7 x8:Nat)(x9:OL)(c0 c1:Nat):Xw 113 #[vg #[vi x0,vi x1,vi x2,vi x3,vi x4,vi x5,vsl x6 x7 x8,vsl x9 c0 c1]] λ_ H0 _ _ C _ T=>(∀b0:Nat,(C H0 nK 139 #[vg #[vi x0,vi x1,vi x2,vi x3,vi x4,vi x5,vsl x6 x7 x8]] λz W1 W2=>∃c2:Int,z=.returned (vi c2)/\Ext W1 W2/\(It (c2=0) (C H0 nK 97 #[vsl x9 c0 c1] λz W3 W4=>∃c3:Int,z=.returned (vi c3)/\Ext W3 W4/\(It (c3=0) (Ck (0<=(c0:Int)) (Ck (ae .i64 (x0+(c0:Int))) (It (50<(x0+(c0:Int))) (T H0 nK (vi 2)) (T H0 nK (vi 0))))) (T H0 nK (vi c3)))) (T H0 nK (vi c2))))) :=
 Xa (hi:={}) (args := [.agg [vI 0,vI 1,vI 2,vI 3,vI 4,vI 5,vS 6,vS 9]]) (nv:=12) (e:=lk [.i x0,.i x1,.i x2,.i x3,.i x4,.i x5,.p x6,.n x7,.n x8,.p x9,.n c0,.n c1]) Tryz.func113
theorem zY(x0 x1 x2 x3 x4 x5:Int)(x6:OL)(x7 x8:Nat)(x9:OL)(c0 c1:Nat):Xw 75 #[vg #[vi x0,vi x1,vi x2,vi x3,vi x4,vi x5,vsl x6 x7 x8,vsl x9 c0 c1]] λ_ H0 _ _ C _ T=>(∀b0:Nat,(C H0 nK 76 #[vg #[vi x0,vi x1,vi x2,vi x3,vi x4,vi x5,vsl x6 x7 x8]] λz W1 W2=>∃c2:Int,z=.returned (vi c2)/\Ext W1 W2/\(It (c2=0) (C H0 nK 81 #[vsl x9 c0 c1] λz W3 W4=>∃c3:Int,z=.returned (vi c3)/\Ext W3 W4/\(It (c3=0) (Ck (0<=(c0:Int)) (Ck (ae .i64 (x0+(c0:Int))) (It (50<(x0+(c0:Int))) (T H0 nK (vi 2)) (T H0 nK (vi 0))))) (T H0 nK (vi c3)))) (T H0 nK (vi c2))))) :=
 Xa (hi:={}) (args := [.agg [vI 0,vI 1,vI 2,vI 3,vI 4,vI 5,vS 6,vS 9]]) (nv:=12) (e:=lk [.i x0,.i x1,.i x2,.i x3,.i x4,.i x5,.p x6,.n x7,.n x8,.p x9,.n c0,.n c1]) Tryz.func75
theorem xE(x0 x1 x2 x3 x4 x5:Int)(x6:OL)(x7 x8:Nat)(x9:OL)(c0 c1:Nat)(c2:Int):Xw 96 #[vg #[vi x0,vi x1,vi x2,vi x3,vi x4,vi x5,vsl x6 x7 x8,vsl x9 c0 c1],vi c2] λ_ H0 _ _ C _ T=>let u0:=#[vi 0,vi 0,vi 0,vi 0,vi 0,vi 0,Value.slice none 0 0,Value.slice none 0 0];(∀b0:Nat,(∀b1:Nat,(C H0 nK 113 #[vg #[vi x0,vi x1,vi x2,vi x3,vi x4,vi x5,vsl x6 x7 x8,vsl x9 c0 c1]] λz W1 W2=>∃c3:Int,z=.returned (vi c3)/\Ext W1 W2/\(It (c3=0) (It (c2<0) (T H0 nK (vt #[vg u0,vi 3])) (Ck (0<=(c0:Int)) (It ((c0:Int)<c2) (T H0 nK (vt #[vg u0,vi 3])) (Ck (0<=c2) (Ck (c2<=(c1:Int)) (Ck (c2<=(c0:Int)) (Ck ((c0:Int)<=(c1:Int)) (C H0 nK 116 #[vg #[vi x0,vi x1,vi x2,vi x3,vi x4,vi x5,vsl x6 x7 x8],vsl x9 (c2).toNat c1] λz W3 W4=>∃(c4 c5 c6 c7 c8 c9:Int) (cA:OL) (cB cC:Nat),z=.returned (vg #[vi c4,vi c5,vi c6,vi c7,vi c8,vi c9,vsl cA cB cC])/\Fr W3 W4 H0 λH1=>(C H1 nK 66 #[Value.slice (ab x9 (0+(if (c1:Int)=c2 then 0 else c2 * ((9:Nat):Int)))) (((c0:Int)-c2):Int).toNat (((c1:Int)-c2):Int).toNat] λz W5 W6=>∃(cD:OL) (cE cF:Nat),z=.returned (vsl cD cE cF)/\Fr W5 W6 H1 λH2=>T H2 nK (vt #[vg #[vi c4,vi c5,vi c6,vi c7,vi c8,vi c9,vsl cA cB cC,vsl cD cE cF],vi 0])))))))))) (T H0 nK (vt #[vg u0,vi c3])))))) :=
 Xa (hi:={}) (args := [.agg [vI 0,vI 1,vI 2,vI 3,vI 4,vI 5,vS 6,vS 9],vI 12]) (nv:=13) (e:=lk [.i x0,.i x1,.i x2,.i x3,.i x4,.i x5,.p x6,.n x7,.n x8,.p x9,.n c0,.n c1,.i c2]) Tryz.func96
theorem C4(x0 x1 x2 x3 x4 x5:Int)(x6:OL)(x7 x8:Nat)(x9:OL)(c0 c1:Nat)(c2:Int):Xw 57 #[vg #[vi x0,vi x1,vi x2,vi x3,vi x4,vi x5,vsl x6 x7 x8,vsl x9 c0 c1],vi c2] λM H0 W0 _ C Q T=>let u0:=#[vi 0,vi 0,vi 0,vi 0,vi 0,vi 0,Value.slice none 0 0,Value.slice none 0 0];(∀b0:Nat,(∀b1:Nat,(C H0 nK 75 #[vg #[vi x0,vi x1,vi x2,vi x3,vi x4,vi x5,vsl x6 x7 x8,vsl x9 c0 c1]] λz W1 W2=>∃c3:Int,z=.returned (vi c3)/\Ext W1 W2/\(It (c3=0) (Ck (0<=(c0:Int)) (C H0 nK 52 #[vi c2,vi 0,vi (c0:Int)] λz W3 W4=>∃c4:Bool,z=.returned (vb (c4))/\Ext W3 W4/\(It (c4=true) (Ck (0<=c2) (Ck (c2<=(c1:Int)) (C H0 nK 79 #[vg #[vi x0,vi x1,vi x2,vi x3,vi x4,vi x5,vsl x6 x7 x8],vsl x9 (c2).toNat c1] λz W5 W6=>∃(c5 c6 c7 c8 c9 cA:Int) (cB:OL) (cC cD:Nat) (cE:OL) (cF cG:Nat) (cH:OL) (cI cJ:Nat),z=.returned (vt #[vg #[vi c5,vi c6,vi c7,vi c8,vi c9,vi cA,vsl cB cC cD],vsl cE cF cG,vsl cH cI cJ])/\Fr W5 W6 H0 λH1=>(∀b2:Nat,(Ck (c2<=(c0:Int)) (Ck ((c0:Int)<=(c1:Int)) (∀b3:Nat,(Q H1 (λW=>Kn W0 M H1 W b3 (Obj.cells #[] 84 (0,0))/\True) λW7=>∃(cK:OL) (cL cM:Nat),Eo' (.bi .append #[34,34] 34) [Value.slice (some ⟨b3,0,none⟩) 0 0,Value.slice (ab x9 (0+(if (c1:Int)=c2 then 0 else c2 * ((9:Nat):Int)))) (((c0:Int)-c2):Int).toNat (((c1:Int)-c2):Int).toNat] W7 (.value (vsl cK cL cM)) λW8=>Tn W0 M H1 W7 W8 λH2=>T H2 nK (vt #[vg #[vi c5,vi c6,vi c7,vi c8,vi c9,vi cA,vsl cB cC cD,vsl cK cL cM],vi 0]))))))))) (T H0 nK (vt #[vg u0,vi 3]))))) (T H0 nK (vt #[vg u0,vi c3])))))) :=
 Xa (hi:={}) (args := [.agg [vI 0,vI 1,vI 2,vI 3,vI 4,vI 5,vS 6,vS 9],vI 12]) (nv:=13) (e:=lk [.i x0,.i x1,.i x2,.i x3,.i x4,.i x5,.p x6,.n x7,.n x8,.p x9,.n c0,.n c1,.i c2]) Tryz.func57
theorem xu(x0 x1 x2 x3 x4 x5:Int)(x6:OL)(x7 x8:Nat)(x9:OL)(c0 c1:Nat)(c2 c3 c4 c5 c6 c7 c8 c9 cA:Int):Xw 89 #[vg #[vi x0,vi x1,vi x2,vi x3,vi x4,vi x5,vsl x6 x7 x8,vsl x9 c0 c1],vg #[vi c2,vi c3,vi c4,vi c5,vi c6,vi c7,vi c8,vi c9,vi cA]] λM H0 W0 _ C Q T=>let u3:=#[vi x0,vi x1,vi x2,vi x3,vi x4,vi x5,vsl x6 x7 x8];let u1:=#[vi c2,vi c3,vi c4,vi c5,vi c6,vi c7,vi c8,vi c9,vi cA];let u0:=#[vi 0,vi 0,vi 0,vi 0,vi 0,vi 0,Value.slice none 0 0,Value.slice none 0 0];(∀b0:Nat,(∀b1:Nat,(∀b2:Nat,(C H0 nK 113 #[vg #[vi x0,vi x1,vi x2,vi x3,vi x4,vi x5,vsl x6 x7 x8,vsl x9 c0 c1]] λz W1 W2=>∃cB:Int,z=.returned (vi cB)/\Ext W1 W2/\(It (cB=0) (C H0 nK 114 #[vg u1] λz W3 W4=>∃cC:Int,z=.returned (vi cC)/\Ext W3 W4/\(It (cC=0) (Ck (0<=(c0:Int)) (Ck (ae .i64 (x0+(c0:Int))) (It ((x0+(c0:Int))=50) (T H0 nK (vt #[vg u0,vi 0,vi 2])) (C H0 nK 116 #[vg u3,vsl x9 c0 c1] λz W5 W6=>∃(cD cE cF cG cH cI:Int) (cJ:OL) (cK cL:Nat),let u2:=#[vi cD,vi cE,vi cF,vi cG,vi cH,vi cI,vsl cJ cK cL];z=.returned (vg u2)/\Fr W5 W6 H0 λH1=>(C H1 nK 115 #[vg u2,vg u1] λz W7 W8=>∃(cM cN cO cP cQ cR:Int) (cS:OL) (cT cU:Nat) (cV:Int) (cW:Bool),z=.returned (vt #[vg #[vi cM,vi cN,vi cO,vi cP,vi cQ,vi cR,vsl cS cT cU],vi cV,vb (cW)])/\Fr W7 W8 H1 λH2=>(∀b3:Nat,(C H2 nK 112 #[vg u3] λz W9 W10=>∃(cX cY cZ d0 d1 d2:Int) (d3:OL) (d4 d5:Nat),z=.returned (vg #[vi cX,vi cY,vi cZ,vi d0,vi d1,vi d2,vsl d3 d4 d5])/\Fr W9 W10 H2 λH3=>(C H3 nK 66 #[vsl x9 c0 c1] λz W11 W12=>∃(d6:OL) (d7 d8:Nat),z=.returned (vsl d6 d7 d8)/\Fr W11 W12 H3 λH4=>(∀b4:Nat,(Q H4 (λW=>Kn W0 M H4 W b4 (Obj.cells u1 84 (0,0))/\True) λW13=>∃(d9:OL) (dA dB:Nat),Eo' (.bi .append #[34,34] 34) [vsl d6 d7 d8,Value.slice (some ⟨b4,0,none⟩) 1 1] W13 (.value (vsl d9 dA dB)) λW14=>Tn W0 M H4 W13 W14 λH5=>T H5 nK (vt #[vg #[vi cX,vi cY,vi cZ,vi d0,vi d1,vi d2,vsl d3 d4 d5,vsl d9 dA dB],vi cV,vi 0]))))))))))) (T H0 nK (vt #[vg u0,vi 0,vi cC])))) (T H0 nK (vt #[vg u0,vi 0,vi cB]))))))) :=
 Xa (hi:={}) (args := [.agg [vI 0,vI 1,vI 2,vI 3,vI 4,vI 5,vS 6,vS 9],.agg [vI 12,vI 13,vI 14,vI 15,vI 16,vI 17,vI 18,vI 19,vI 20]]) (nv:=21) (e:=lk [.i x0,.i x1,.i x2,.i x3,.i x4,.i x5,.p x6,.n x7,.n x8,.p x9,.n c0,.n c1,.i c2,.i c3,.i c4,.i c5,.i c6,.i c7,.i c8,.i c9,.i cA]) Tryz.func89
theorem vd(x0 x1 x2 x3 x4 x5:Int)(x6:OL)(x7 x8:Nat)(x9:OL)(c0 c1:Nat)(c2 c3 c4 c5 c6 c7 c8 c9 cA:Int):Xw 74 #[vg #[vi x0,vi x1,vi x2,vi x3,vi x4,vi x5,vsl x6 x7 x8,vsl x9 c0 c1],vg #[vi c2,vi c3,vi c4,vi c5,vi c6,vi c7,vi c8,vi c9,vi cA]] λM H0 W0 _ C Q T=>let u2:=#[vi x0,vi x1,vi x2,vi x3,vi x4,vi x5,vsl x6 x7 x8];let u1:=#[vi c2,vi c3,vi c4,vi c5,vi c6,vi c7,vi c8,vi c9,vi cA];let u0:=#[vi 0,vi 0,vi 0,vi 0,vi 0,vi 0,Value.slice none 0 0,Value.slice none 0 0];(∀b0:Nat,(∀b1:Nat,(∀b2:Nat,(C H0 nK 75 #[vg #[vi x0,vi x1,vi x2,vi x3,vi x4,vi x5,vsl x6 x7 x8,vsl x9 c0 c1]] λz W1 W2=>∃cB:Int,z=.returned (vi cB)/\Ext W1 W2/\(It (cB=0) (C H0 nK 99 #[vg u1] λz W3 W4=>∃cC:Int,z=.returned (vi cC)/\Ext W3 W4/\(It (cC=0) (Ck (0<=(c0:Int)) (Ck (ae .i64 (x0+(c0:Int))) (It ((x0+(c0:Int))=50) (T H0 nK (vt #[vg u0,vi 0,vi 2])) (∀b3:Nat,(Q H0 (λW=>Kn W0 M H0 W b3 (Obj.cells #[] 84 (0,0))/\True) λW5=>∃(cD:OL) (cE cF:Nat),Eo' (.bi .append #[34,34] 34) [Value.slice (some ⟨b3,0,none⟩) 0 0,vsl x9 c0 c1] W5 (.value (vsl cD cE cF)) λW6=>Tn W0 M H0 W5 W6 λH1=>(∀b4:Nat,(Q H1 (λW=>Kn W0 M H1 W b4 (Obj.cells u1 84 (0,0))/\True) λW7=>∃(cG:OL) (cH cI:Nat),Eo' (.bi .append #[34,34] 34) [vsl cD cE cF,Value.slice (some ⟨b4,0,none⟩) 1 1] W7 (.value (vsl cG cH cI)) λW8=>Tn W0 M H1 W7 W8 λH2=>(C H2 nK 79 #[vg u2,vsl cG cH cI] λz W9 W10=>∃(cJ cK cL cM cN cO:Int) (cP:OL) (cQ cR:Nat) (cS:OL) (cT cU:Nat) (cV:OL) (cW cX:Nat),z=.returned (vt #[vg #[vi cJ,vi cK,vi cL,vi cM,vi cN,vi cO,vsl cP cQ cR],vsl cS cT cU,vsl cV cW cX])/\Fr W9 W10 H2 λH3=>(∀b5:Nat,(Ck (0<=(cT:Int)) (Ck (ae .i64 ((cT:Int)-1)) (Ck ((0:Int)<=((cT:Int)-1)/\((cT:Int)-1)<(cT:Int)) (Ck (cS.isSome=true) (∃cY:Int,aa H3 cS (0+(((cT:Int)-1) * 1)) [vi cY]/\(C H3 nK 80 #[vg u2] λz W11 W12=>∃(cZ d0 d1 d2 d3 d4:Int) (d5:OL) (d6 d7:Nat),z=.returned (vg #[vi cZ,vi d0,vi d1,vi d2,vi d3,vi d4,vsl d5 d6 d7])/\Fr W11 W12 H3 λH4=>T H4 nK (vt #[vg #[vi cZ,vi d0,vi d1,vi d2,vi d3,vi d4,vsl d5 d6 d7,vsl cG cH cI],vi cY,vi 0])))))))))))))))) (T H0 nK (vt #[vg u0,vi 0,vi cC])))) (T H0 nK (vt #[vg u0,vi 0,vi cB]))))))) :=
 Xa (hi:={}) (args := [.agg [vI 0,vI 1,vI 2,vI 3,vI 4,vI 5,vS 6,vS 9],.agg [vI 12,vI 13,vI 14,vI 15,vI 16,vI 17,vI 18,vI 19,vI 20]]) (nv:=21) (e:=lk [.i x0,.i x1,.i x2,.i x3,.i x4,.i x5,.p x6,.n x7,.n x8,.p x9,.n c0,.n c1,.i c2,.i c3,.i c4,.i c5,.i c6,.i c7,.i c8,.i c9,.i cA]) Tryz.func74
theorem zL(x0:OL)(x1 x2:Nat):Xw 66 #[vsl x0 x1 x2] λM H0 W0 _ _ Q T=>(Q H0 nK λW1=>∃x3:Bool,Eo' (.bop .eql 34 (.tmp 3) (.const (Value.slice none 0 0))) [vsl x0 x1 x2,Value.slice none 0 0] W1 (.value (vb (x3))) λW2=>Ext W1 W2/\(It (x3=true) (T H0 nK (Value.slice none 0 0)) (∀b0:Nat,(Q H0 (λW=>Kn W0 M H0 W b0 (Obj.cells #[] 84 (0,0))/\True) λW3=>∃(x4:OL) (x5 x6:Nat),Eo' (.bi .append #[34,34] 34) [Value.slice (some ⟨b0,0,none⟩) 0 0,vsl x0 x1 x2] W3 (.value (vsl x4 x5 x6)) λW4=>Tn W0 M H0 W3 W4 λH1=>T H1 nK (vsl x4 x5 x6))))) :=
 Xa (hi:={}) (args := [vS 0]) (nv:=3) (e:=lk [.p x0,.n x1,.n x2]) Tryz.func66
abbrev kH(s:Sta)(v w:Value):Value:=.agg #[vi s.pos,vi s.clock,vi s.vals.a,vi s.vals.b,vi s.vals.c,vi s.vals.d,v,w]
section
variable{H:Hp}{p q:OL}{n c m d:Nat}{s:Sta}{l:List Ent}
theorem jz(hT:Tab H p n c s.table)(hE:av H q m d l):Gv Tryz.prog 113 #[kH s (vsl p n c) (vsl q m d)] H (vi (aY s l)):=λW hH=>by
 have hm:=hE.len;unfold aY;refine uw _ _ _ _ _ _ p n c q m d noM H W _ hH λb0=>?_;refine Cl.same (jJ hT) λ_ _ hx=>⟨_,rfl,hx,λh0=>?_,λh0=>Rt.gv' (by rw[if_pos h0])⟩
 rw[if_neg (by omega)];refine Cl.same (oy hE) λ_ _ hx=>⟨_,rfl,hx,λh1=>?_,λh1=>Rt.gv' (by rw[if_pos h1])⟩
 rw[if_neg (by omega)];have hpos:=(Sta.err_ok.1 h0).pos
 have h50:=(go.1 h1).1;exact⟨by omega,λ_=>⟨in64 (by omega),λ_=>⟨λh2=>Rt.gv' (by rw[if_pos (by omega)]),λh2=>Rt.gv' (by rw[if_neg (by omega)])⟩⟩⟩
theorem mE(hT:Tab H p n c s.table)(hE:av H q m d l):Gv Tryz.prog 75 #[kH s (vsl p n c) (vsl q m d)] H (vi (aY s l)):=λW hH=>by
 have hm:=hE.len;unfold aY;refine zY _ _ _ _ _ _ p n c q m d noM H W _ hH λb0=>?_;refine Cl.same (ns hT) λ_ _ hx=>⟨_,rfl,hx,λh0=>?_,λh0=>Rt.gv' (by rw[if_pos h0])⟩
 rw[if_neg (by omega)];refine Cl.same (qT hE) λ_ _ hx=>⟨_,rfl,hx,λh1=>?_,λh1=>Rt.gv' (by rw[if_pos h1])⟩
 rw[if_neg (by omega)];have hpos:=(Sta.err_ok.1 h0).pos
 have h50:=(go.1 h1).1;exact⟨by omega,λ_=>⟨in64 (by omega),λ_=>⟨λh2=>Rt.gv' (by rw[if_pos (by omega)]),λh2=>Rt.gv' (by rw[if_neg (by omega)])⟩⟩⟩
def wu(r:Sta × Int)(v:Value)(D:Hp):Prop:=∃p n c,v=.tuple #[r.1.val (vsl p n c),vi r.2]/\Tab D p n c r.1.table
def iE(r:Sta × List Ent × Int)(v:Value)(D:Hp):Prop:=∃p n c q m d,v=.tuple #[kH r.1 (vsl p n c) (vsl q m d),vi r.2.2]/\Tab D p n c r.1.table/\av D q m d r.2.1
def ia(r:Sta × List Ent × Int × Int)(v:Value)(D:Hp):Prop:=∃p n c q m d,v=.tuple #[kH r.1 (vsl p n c) (vsl q m d),vi r.2.2.1,vi r.2.2.2]/\Tab D p n c r.1.table/\av D q m d r.2.1
theorem wu.bad(D:Hp)(x:Int):wu (Sta.zero,x) (.tuple #[Sta.zero.val (Value.slice none 0 0),vi x]) D:=⟨none,0,0,rfl,Tab.nil _ _⟩
theorem iE.bad(D:Hp)(x:Int):iE (Sta.zero,[],x) (.tuple #[kH Sta.zero (Value.slice none 0 0) (Value.slice none 0 0),vi x]) D:=⟨none,0,0,none,0,0,rfl,Tab.nil _ _,av.nil _ _⟩
theorem ia.bad(D:Hp)(x y:Int):ia (Sta.zero,[],x,y) (.tuple #[kH Sta.zero (Value.slice none 0 0) (Value.slice none 0 0),vi x,vi y]) D:=⟨none,0,0,none,0,0,rfl,Tab.nil _ _,av.nil _ _⟩
theorem iD:fc Tryz.prog 84 9 72=true:=by kernel_rfl
theorem mK(hE:av H q m d l)(hb:m<=1099511627776):Gf Tryz.prog 66 #[vsl q m d] H λv D=>∃p' c' g,v=vsl p' m c'/\Ow D 84 9 p' m c' (l.map Ent.row) g:=λW hH=>by
 refine zL q m d noM H W _ hH ?_;intro W1 n1 _;refine⟨_,_,uW Tryz.underlying34 _ _ q m d W1,Ext.refl _,λh=>Rt.gfn ?_,λh b0=>?_⟩
 ·have hp:q=none:=by simpa using h
  subst hp;have hn:m=0:=by
   rcases Nat.eq_zero_or_pos m with h0 | h0
   ·exact h0
   ·obtain⟨r,_,hat,_⟩:=hE.at h0;have:=hat.isSome
    cases this
  subst hn;have hl:l = []:=List.length_eq_zero_iff.1 hE.len.symm
  subst hl;exact⟨none,0,none,rfl,Ow.nil _ _ _ _⟩
 ·intro W3 n3 _;obtain⟨p',c',g,W',H',h1,h2,h3,h4,h5⟩:=ig (P:=Tryz.prog) Tryz.underlying34 iD (by omega) n3 (some (b0,0)) hE.2.2.1 (qn l) (by omega) (by simp only[maxLen];omega) 34 (c:=d);refine⟨p',m,c',W',h1,H',h2,Rt.gfn ⟨p',c',g,rfl,h3.new (λb hb=>Nat.le_trans n3.mod.size (h4 b hb))⟩⟩
theorem yz(hT:Tab H p n c s.table)(hE:av H q m d l)(x:Int):Gf Tryz.prog 96 #[kH s (vsl p n c) (vsl q m d),vi x] H (iE (jP s l x)):=λW hH=>by
 have hm:=hE.len;have hcap:=hE.1
 refine xE _ _ _ _ _ _ p n c q m d x noM H W _ hH λb0 b1=>?_;refine Cl.same (jz hT hE) λ_ _ hx=>⟨_,rfl,hx,λh0=>?_,λh0=>Rt.gfn (by rw[sN h0];exact iE.bad _ _)⟩
 have ho:=bG.1 h0;refine⟨λh1=>Rt.gfn (by rw[jI h0 (by omega)];exact iE.bad _ _),λh1=>⟨by omega,λ_=>⟨λh2=>Rt.gfn (by rw[jI h0 (by omega)];exact iE.bad _ _),λh2=>?_⟩⟩⟩;rw[sy h0 (by omega)];obtain⟨k,rfl⟩:=Int.eq_ofNat_of_zero_le (show 0<=x by omega);rw[Int.toNat_natCast];obtain⟨hc,_,_⟩:=ho.cut (k:=k) (by omega);refine⟨by omega,λ_=>⟨by omega,λ_=>⟨by omega,λ_=>⟨by omega,λ_=>?_⟩⟩⟩⟩;refine Cl.fresh (ph hT ho.base (hE.take k (by omega)) (λe he=>ho.ents e (List.mem_of_mem_take he)) (by have:=ho.len;rw[List.length_take];omega)) ?_;rintro v W1 W2 D ⟨p1,n1,c1,rfl,hT1⟩ hx hD hf nn;refine⟨_,_,_,_,_,_,p1,n1,c1,rfl,hx,D,hD,hf,λH1 h1 hd1=>?_⟩;obtain⟨q',e1,hE'⟩:=(hE.mono h1).drop k (by omega);rw[e1];refine Cl.fresh (mK hE' (by have:=ho.low;omega)) ?_;rintro v W3 W4 D2 ⟨p2,c2,g2,rfl,hO⟩ hx hD2 hf2 nn2;refine⟨p2,_,c2,rfl,hx,D2,hD2,hf2,λH2 h2 hd2=>Rt.gfn ⟨p1,n1,c1,p2,_,c2,rfl,?_,?_⟩⟩
 ·exact hT1.mono (ai (Hp.le_trans hd1 h2) (λb o h=>Nat.le_trans nn.mod.size (hf b o h)))
 ·exact (av.of_ow hO (λe he=>hE.2.2.2 e (List.mem_of_mem_drop he))).mono (ai hd2 (λb o h=>Nat.le_trans nn2.mod.size (hf2 b o h)))
theorem Dj(hT:Tab H p n c s.table)(hE:av H q m d l)(x:Int):Gf Tryz.prog 57 #[kH s (vsl p n c) (vsl q m d),vi x] H (iE (jP s l x)):=λW hH=>by
 have hm:=hE.len;have hcap:=hE.1
 refine C4 _ _ _ _ _ _ p n c q m d x noM H W _ hH λb0 b1=>?_;refine Cl.same (mE hT hE) λ_ _ hx=>⟨_,rfl,hx,λh0=>?_,λh0=>Rt.gfn (by rw[sN h0];exact iE.bad _ _)⟩
 have ho:=bG.1 h0;refine⟨by omega,λ_=>?_⟩;refine Cl.same (bu x 0 (m:Int) H) λ_ _ hx=>⟨_,rfl,hx,λh1=>?_,λh1=>Rt.gfn (by rw[jI h0 (by simp[inR] at h1;omega)];exact iE.bad _ _)⟩
 have h2:0<=x/\x<=(m:Int):=by simpa [inR] using h1
 rw[sy h0 (by omega)];obtain⟨k,rfl⟩:=Int.eq_ofNat_of_zero_le (show 0<=x by omega);rw[Int.toNat_natCast];refine⟨by omega,λ_=>⟨by omega,λ_=>?_⟩⟩;have hlk:(l.take k).length=k:=by rw[List.length_take];omega
 refine Cl.fresh (j5 hT ho.base (hE.take k (by omega)) (λe he=>ho.ents e (List.mem_of_mem_take he)) (by have:=ho.len;omega)) ?_;rintro v W1 W2 D ⟨p1,n1,c1,pa,ca,ga,pb,cb,gb,rfl,hT1,_,_⟩ hx hD hf nn;refine⟨_,_,_,_,_,_,p1,n1,c1,pa,_,ca,pb,_,cb,rfl,hx,D,hD,hf,λH1 h1 hd1 b2=>⟨by omega,λ_=>⟨by omega,λ_ b3=>?_⟩⟩⟩;obtain⟨q',e1,hE'⟩:=(hE.mono h1).drop k (by omega);rw[e1];intro W3 n3 _;obtain⟨p2,c2,g2,W4,H4,r1,t1,o4,g4n,h4⟩:=ig (P:=Tryz.prog) Tryz.underlying34 iD (by omega) n3 (some (b3,0)) hE'.2.2.1 (qn _) (by have:=ho.low;omega) (by simp only[maxLen];have:=ho.low;omega) 34 (c:=d-k);refine⟨p2,_,c2,W4,r1,H4,t1,Rt.gfn ⟨p1,n1,c1,p2,_,c2,rfl,?_,?_⟩⟩
 ·exact hT1.mono (ai (Hp.le_trans hd1 h4) (λb o h=>Nat.le_trans nn.mod.size (hf b o h)))
 ·exact av.of_ow (o4.new (λb hb=>Nat.le_trans n3.mod.size (g4n b hb))) (λe he=>hE.2.2.2 e (List.mem_of_mem_drop he))
theorem pQ(e:Ent):∀v∈e.row,v.oneCell'=true:=λv hv=>qn [e] e.row (by simp) v hv
theorem yk(hT:Tab H p n c s.table)(hE:av H q m d l){e:Ent}(he64:e.in64):Gf Tryz.prog 89 #[kH s (vsl p n c) (vsl q m d),e.val] H (ia (gS s l e)):=λW hH=>by
 have hm:=hE.len;refine xu _ _ _ _ _ _ p n c q m d _ _ _ _ _ _ _ _ _ noM H W _ hH λb0 b1 b2=>?_;refine Cl.same (jz hT hE) λ_ _ hx=>⟨_,rfl,hx,λh0=>?_,λh0=>Rt.gfn (by rw[px h0];exact ia.bad _ _ _)⟩
 have ho:=bG.1 h0;have hpos:=ho.base.pos
 have hlen:=ho.len;refine Cl.same (pz e H) λ_ _ hx=>⟨_,rfl,hx,λh1=>?_,λh1=>Rt.gfn (by rw[jH h0 h1];exact ia.bad _ _ _)⟩
 refine⟨by omega,λ_=>⟨in64 (by omega),λ_=>⟨λh2=>Rt.gfn (by rw[iU h0 h1 (by omega)];exact ia.bad _ _ _),λh2=>?_⟩⟩⟩;rw[lC h0 h1 (by omega)];obtain⟨fo,fp⟩:=kS ho.base ho.ents ho.len;refine Cl.fresh (ph hT ho.base hE ho.ents ho.len) ?_;rintro v W1 W2 D ⟨p1,n1,c1,rfl,hT1⟩ hx hD hf nn;refine⟨_,_,_,_,_,_,p1,n1,c1,rfl,hx,D,hD,hf,λH1 hA hd1=>?_⟩;refine Cl.fresh (A2 (hT1.mono hd1) fo (by omega) (Ent.err_ok.1 h1)) ?_;rintro v W3 W4 D2 ⟨p2,n2,c2,es,g,rfl,_,_⟩ hx hD2 hf2 nn2;refine⟨_,_,_,_,_,_,p2,n2,c2,_,_,rfl,hx,D2,hD2,hf2,λH2 h2 hd2 b3=>?_⟩;refine Cl.fresh (kx ((hT.mono hA).mono h2) (Small.of_ok ho.base.table)) ?_;rintro v W5 W6 D3 ⟨p3,c3,es3,g3,rfl,hO3,he3⟩ hx hD3 hf3 nn3;refine⟨_,_,_,_,_,_,p3,n,c3,rfl,hx,D3,hD3,hf3,λH3 h3 hd3=>?_⟩;have hT3:=hO3.tab
 rw[he3] at hT3;refine Cl.fresh (mK (((hE.mono hA).mono h2).mono h3) (by omega)) ?_;rintro v W7 W8 D4 ⟨p4,c4,g4,rfl,hO4⟩ hx hD4 hf4 nn4;refine⟨p4,m,c4,rfl,hx,D4,hD4,hf4,λH4 h4 hd4 b4=>?_⟩;intro W9 n9 k9;have hO5:=hO4.mono λb _ o h=>hd4 b o h
 have hg4:∀b,g4=some b->W7.heap.size<=b:=λb hb=>by
  obtain⟨o,ho⟩:=hO4.held b hb;exact hf4 b o ho
 obtain⟨r1,y1,g1,W10,H5,run1,hu1,oa,hg1,_⟩:=aD (P:=Tryz.prog) Tryz.underlying34 iD (by omega) n9.sub hO5 (row:=e.row) k9.1.eq k9.1.off rfl (pQ e) (by simp only[maxLen];omega) (by omega) 34;have sz:=nn4.mod.size
 refine⟨r1,m+1,y1,W10,run1,H5,hu1.own hO5 (λb hb=>.inl (by have:=hg4 b hb;omega)),Rt.gfn ⟨p3,n,c3,r1,_,y1,rfl,?_,?_⟩⟩
 ·refine hT3.mono (ai (hu1.keep n9.sub (Hp.le_trans hd3 h4) (λb hb=>?_)) (λb o h=>Nat.le_trans nn3.mod.size (hf3 b o h)));exact ao (Hp.le_trans hd3 nn4.sub) (hg4 b hb)
 ·rw[show l.map Ent.row ++ [e.row]=(l ++ [e]).map Ent.row by simp] at oa;refine av.of_ow (oa.new λb hb=>?_) (λx hx=>?_)
  ·rcases hg1 with h | h
   ·have:=hg4 b (h▸hb);omega
   ·rw[h] at hb;simp only[Option.some.injEq] at hb;have:=n9.mod.size;omega
  ·rcases List.mem_append.1 hx with hx | hx
   ·exact hE.2.2.2 x hx
   ·simp only[List.mem_singleton] at hx;subst hx;exact he64
theorem wf(hT:Tab H p n c s.table)(hE:av H q m d l){e:Ent}(he64:e.in64):Gf Tryz.prog 74 #[kH s (vsl p n c) (vsl q m d),e.val] H (ia (gS s l e)):=λW hH=>by
 have hm:=hE.len;refine vd _ _ _ _ _ _ p n c q m d _ _ _ _ _ _ _ _ _ noM H W _ hH λb0 b1 b2=>?_;refine Cl.same (mE hT hE) λ_ _ hx=>⟨_,rfl,hx,λh0=>?_,λh0=>Rt.gfn (by rw[px h0];exact ia.bad _ _ _)⟩
 have ho:=bG.1 h0;have hpos:=ho.base.pos
 have hlen:=ho.len;refine Cl.same (tl e he64 H) λ_ _ hx=>⟨_,rfl,hx,λh1=>?_,λh1=>Rt.gfn (by rw[jH h0 h1];exact ia.bad _ _ _)⟩
 refine⟨by omega,λ_=>⟨in64 (by omega),λ_=>⟨λh2=>Rt.gfn (by rw[iU h0 h1 (by omega)];exact ia.bad _ _ _),λh2 b3=>?_⟩⟩⟩;rw[lC h0 h1 (by omega)];have hol:=ho.put (Ent.err_ok.1 h1) (by omega)
 intro W1 n1 _;obtain⟨p1,c1,g1,W2,H1,r1,t1,o1,g1n,h01⟩:=ig (P:=Tryz.prog) Tryz.underlying34 iD (by omega) n1 (some (b3,0)) hE.2.2.1 (qn _) (by omega) (by simp only[maxLen];omega) 34 (c:=d);refine⟨p1,m,c1,W2,r1,H1,t1,λb4=>?_⟩;have hg1:∀b,g1=some b->W.heap.size<=b:=λb hb=>Nat.le_trans n1.mod.size (g1n b hb)
 intro W3 n3 k3;obtain⟨p2,c2,g2,W4,H2,r2,u2,o2,hg2,_⟩:=aD (P:=Tryz.prog) Tryz.underlying34 iD (by omega) n3.sub o1 (row:=e.row) k3.1.eq k3.1.off rfl (pQ e) (by simp only[maxLen];omega) (by omega) 34;have h12:H.le H2:=u2.keep n3.sub h01 (λb hb=>ao hH (hg1 b hb))
 rw[show l.map Ent.row ++ [e.row]=(l ++ [e]).map Ent.row by simp] at o2;have h64:∀x∈l ++ [e],x.in64:=λx hx=>by
  rcases List.mem_append.1 hx with hx | hx
  ·exact hE.2.2.2 x hx
  ·simp only[List.mem_singleton] at hx;subst hx;exact he64
 have hE2:=av.of_ow o2 h64;have hg2':∀b,g2=some b->W.heap.size<=b:=λb hb=>by
  rcases hg2 with h | h
  ·exact hg1 b (h▸hb)
  ·rw[h] at hb;simp only[Option.some.injEq] at hb;have:=n3.mod.size;omega
 refine⟨p2,m+1,c2,W4,r2,H2,u2.own o1 (λb hb=>.inl (hg1 b hb)),?_⟩;refine Cl.fresh (j5 (hT.mono h12) hol.base hE2 hol.ents hol.len) ?_;rintro v W5 W6 D ⟨p3,n3,c3,pa,ca,ga,pb,cb,gb,rfl,_,ha,_⟩ hx hD hf nn;have hll:(l ++ [e]).length=m+1:=by simp;omega
 rw[hll] at ha |-;refine⟨_,_,_,_,_,_,p3,n3,c3,pa,m+1,ca,pb,m+1,cb,rfl,hx,D,hD,hf,λH3 h3 hd3 b5=>⟨by omega,λ_=>⟨in64 (by omega),λ_=>⟨by omega,λ_=>?_⟩⟩⟩⟩;have hI:=(nu.of_ow ha).mono hd3
 obtain⟨y,hy,hat⟩:=hI.at (k:=m) (by omega)
 rw[show (((m+1:Nat):Int)-1)=(m:Int) by omega];rw[mW,List.getElem?_append_right (by rw[nA];omega),nA,hm,Nat.sub_self] at hy;simp only[kF,List.getElem?_cons_zero,Option.some.injEq] at hy;subst hy;refine⟨hat.isSome,λ_=>⟨_,hat,?_⟩⟩;refine Cl.fresh (gX ((hT.mono h12).mono h3) ho.base.table) ?_;rintro v W7 W8 D4 ⟨p4,n4,c4,rfl,hT4⟩ hx hD4 hf4 nn4;refine⟨_,_,_,_,_,_,p4,n4,c4,rfl,hx,D4,hD4,hf4,λH4 h4 hd4=>Rt.gfn ⟨p4,n4,c4,p2,_,c2,rfl,?_,?_⟩⟩
 ·exact hT4.mono (ai hd4 (λb o h=>Nat.le_trans nn4.mod.size (hf4 b o h)))
 ·exact av.of_ow ((o2.mono λb _ o h=>h4 b o (h3 b o h)).new hg2') h64
end
end Go.Proofs.YtfpmcmhihhnfgaaGreatDoor
