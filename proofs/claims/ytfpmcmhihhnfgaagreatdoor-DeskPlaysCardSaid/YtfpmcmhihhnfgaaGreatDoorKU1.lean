/- States as plain data. No conditions. -/
import Derived.Test.YtfpmcmhihhnfgaaGreatDoorKS3
import Derived.Test.YtfpmcmhihhnfgaaGreatDoorKO2
set_option linter.unusedVariables false
set_option linter.unusedSimpArgs false
namespace Go.Proofs.YtfpmcmhihhnfgaaGreatDoor
open Go.RowKit
structure Sta where
 pos:Int
 clock:Int
 vals:V4
 table:List Ses
 deriving DecidableEq
def lh(clock:Int)(s:Ses):Bool:=decide (clock<s.seen\/s.seen<clock-20)
def Sta.err(s:Sta):Int :=
 if s.pos<0\/50<s.pos\/s.clock<0\/999<s.clock\/s.vals.ok=false then 3
 else if dm s.table=0 then (if s.table.any (lh s.clock)=true then 1 else 0) else dm s.table
def Sta.zero:Sta:=⟨0,0,V4.zero,[]⟩
theorem Sta.eq_iff(s t:Sta):s=t↔s.pos=t.pos/\s.clock=t.clock/\s.vals=t.vals/\s.table=t.table:=by cases s;cases t;simp
structure dy(s:Sta):Prop where
 pos:0<=s.pos/\s.pos<=50
 clock:0<=s.clock/\s.clock<=999
 vals:s.vals.ok=true
 table:fy s.table
 seen:∀x∈s.table,s.clock-20<=x.seen/\x.seen<=s.clock
theorem Sta.err_ok{s:Sta}:s.err=0↔dy s:=by
 unfold Sta.err;constructor
 ·intro h
  split at h
  ·cases h
  ·rename_i h1
   split at h
   ·rename_i h2
    split at h
    ·cases h
    ·rename_i h3;refine⟨by omega,by omega,by cases hv:s.vals.ok<;>simp_all,lP.1 h2,λx hx=>?_⟩;simp only[List.any_eq_true,not_exists,not_and] at h3;have:=h3 x hx
     simp only[lh,decide_eq_true_eq] at this;omega
   ·rename_i h2;exact absurd h h2
 ·intro h;have h1:=h.pos;have h2:=h.clock
  rw[if_neg (by rw[h.vals];simp;omega),if_pos (lP.2 h.table),if_neg];simp only[List.any_eq_true,not_exists,not_and]
  intro x hx;have:=h.seen x hx
  simp only[lh,decide_eq_true_eq]
  omega
theorem iq{s:Sta}(h:s.pos<0\/50<s.pos\/s.clock<0\/999<s.clock\/s.vals.ok=false):s.err=3:=by unfold Sta.err;rw[if_pos h]
theorem zI{s:Sta}(h:¬(s.pos<0\/50<s.pos\/s.clock<0\/999<s.clock\/s.vals.ok=false))(h2:¬dm s.table=0):s.err=dm s.table:=by unfold Sta.err;rw[if_neg h,if_neg h2]
theorem oN{s:Sta}(h:¬(s.pos<0\/50<s.pos\/s.clock<0\/999<s.clock\/s.vals.ok=false))(h2:dm s.table=0):s.err=if s.table.any (lh s.clock)=true then 1 else 0:=by unfold Sta.err;rw[if_neg h,if_pos h2]
set_option maxRecDepth 100000
set_option maxHeartbeats 4000000
theorem yG(x0 x1 x2 x3 x4 x5:Int)(x6:OL)(x7 x8:Nat):Xw 139 #[vg #[vi x0,vi x1,vi x2,vi x3,vi x4,vi x5,vsl x6 x7 x8]] λM H0 W0 _ C _ T=>(∀b0:Nat,(It (x0<0) (T H0 nK (vi 3)) (It (50<x0) (T H0 nK (vi 3)) (It (x1<0) (T H0 nK (vi 3)) (It (999<x1) (T H0 nK (vi 3)) (C H0 nK 150 #[vg #[vi x2,vi x3,vi x4,vi x5]] λz W1 W2=>∃x9:Bool,z=.returned (vb (x9))/\Ext W1 W2/\(It (x9=true) (C H0 nK 151 #[vsl x6 x7 x8] λz W3 W4=>∃c0:Int,z=.returned (vi c0)/\Ext W3 W4/\(It (c0=0) (C H0 (λW=>Kn W0 M H0 W b0 (Obj.cells #[vi x0,vi x1,vi x2,vi x3,vi x4,vi x5,vsl x6 x7 x8] 33 (0,0))/\True) 152 #[vsl x6 x7 x8,Value.func (.func 153) #[] #[vp (some ⟨b0,0,none⟩)]] λz W5 W6=>∃c1:Bool,z=.returned (vb (c1))/\Ext W5 W6/\(It (c1=true) (T H0 nK (vi 1)) (T H0 nK (vi 0)))) (T H0 nK (vi c0)))) (T H0 nK (vi 3))))))))) :=
 Xa (hi:={}) (args := [.agg [vI 0,vI 1,vI 2,vI 3,vI 4,vI 5,vS 6]]) (nv:=9) (e:=lk [.i x0,.i x1,.i x2,.i x3,.i x4,.i x5,.p x6,.n x7,.n x8]) Tryz.func139
theorem DY(x0 x1 x2:Int)(x3:OL)(x4 x5:Nat)(x6:OL):Xw 153 #[vg #[vi x0,vi x1,vi x2,vsl x3 x4 x5],vp (ab x6 0)] λ_ H0 _ _ _ _ T=>(∀b0:Nat,(Ck (x6.isSome=true) (∃x7:Int,aa H0 x6 (0+1) [vi x7]/\(It (x7<x2) (T H0 nK (vb (true))) (∃x8:Int,aa H0 x6 (0+1) [vi x8]/\(Ck (ae .i64 (x8-20)) (T H0 nK (vb (decide (x2<(x8-20))))))))))) :=
 Xa (hi:={}) (args := [.agg [vI 0,vI 1,vI 2,vS 3],.ptrO 6 (.k 0)]) (nv:=7) (e:=lk [.i x0,.i x1,.i x2,.p x3,.n x4,.n x5,.p x6]) Tryz.func153
theorem BF(x0:OL)(x1 x2:Nat)(x3:OL):Xw 173 #[vsl x0 x1 x2,Value.func (.func 153) #[] #[vp (ab x3 0)]] λ_ H0 _ _ C _ T=>(Ck (0<=(x1:Int)) (∃(I0:List Dat->Hp->Prop) (μ0:List Dat->Nat),I0 [.i 0] H0/\∀H1:Hp,∀x4:Int,I0 [.i x4] H1->(It (x4<(x1:Int)) (Ck ((0:Int)<=x4/\x4<(x1:Int)) (Ck (x0.isSome=true) (∃(x5 x6 x7:Int) (x8:OL) (x9 c0:Nat),aa H1 x0 (0+(x4 * 4)) [vi x5,vi x6,vi x7,vsl x8 x9 c0]/\(C H1 nK 153 #[vg #[vi x5,vi x6,vi x7,vsl x8 x9 c0],vp (ab x3 0)] λz W1 W2=>∃c1:Bool,z=.returned (vb (c1))/\Ext W1 W2/\(It (c1=true) (T H1 nK (vi x4)) (Ck (ae .i64 (x4+1)) (I0 [.i (x4+1)] H1/\μ0 [.i (x4+1)]<μ0 [.i x4]))))))) (T H1 nK (vi (-1)))))) :=
 Xa (hi:={loops := [(2,.inv [(8,.pt (.int .i64))] [])]}) (args := [vS 0,.func 153 [] [.ptrO 3 (.k 0)]]) (nv:=4) (e:=lk [.p x0,.n x1,.n x2,.p x3]) Tryz.func173
theorem uq(x0:OL)(x1 x2:Nat)(x3:OL):Xw 152 #[vsl x0 x1 x2,Value.func (.func 153) #[] #[vp (ab x3 0)]] λ_ H0 _ _ C _ T=>(C H0 nK 173 #[vsl x0 x1 x2,Value.func (.func 153) #[] #[vp (ab x3 0)]] λz W1 W2=>∃x4:Int,z=.returned (vi x4)/\Ext W1 W2/\T H0 nK (vb (decide (0<=x4)))) :=
 Xa (hi:={}) (args := [vS 0,.func 153 [] [.ptrO 3 (.k 0)]]) (nv:=4) (e:=lk [.p x0,.n x1,.n x2,.p x3]) Tryz.func152
theorem CZ(x0 x1 x2 x3 x4 x5:Int)(x6:OL)(x7 x8:Nat):Xw 76 #[vg #[vi x0,vi x1,vi x2,vi x3,vi x4,vi x5,vsl x6 x7 x8]] λ_ H0 _ _ C _ T=>(∀b0:Nat,(C H0 nK 52 #[vi x0,vi 0,vi 50] λz W1 W2=>∃x9:Bool,z=.returned (vb (x9))/\Ext W1 W2/\(It (x9=true) (C H0 nK 52 #[vi x1,vi 0,vi 999] λz W3 W4=>∃c0:Bool,z=.returned (vb (c0))/\Ext W3 W4/\(It (c0=true) (C H0 nK 100 #[vg #[vi x2,vi x3,vi x4,vi x5]] λz W5 W6=>∃c1:Bool,z=.returned (vb (c1))/\Ext W5 W6/\(It (c1=true) (C H0 nK 101 #[vsl x6 x7 x8] λz W7 W8=>∃c2:Int,z=.returned (vi c2)/\Ext W7 W8/\(It (c2=0) (∃(I0:List Dat->Hp->Prop) (μ0:List Dat->Nat),I0 [.n 0] H0/\∀H1:Hp,∀c3:Nat,I0 [.n c3] H1->(Ck (0<=(x7:Int)) (It ((c3:Int)<(x7:Int)) (Ck ((0:Int)<=(c3:Int)/\(c3:Int)<(x7:Int)) (Ck (x6.isSome=true) (Ck (0<=(0+((c3:Int) * 4))) (∃c4:Int,aa H1 x6 ((0+((c3:Int) * 4))+2) [vi c4]/\(Ck (ae .i64 (x1-20)) (C H1 nK 52 #[vi c4,vi (x1-20),vi x1] λz W9 W10=>∃c5:Bool,z=.returned (vb (c5))/\Ext W9 W10/\(It (c5=true) (Ck (ae .i64 ((c3:Int)+1)) (Ck (0<=((c3:Int)+1)) (I0 [.n (((c3:Int)+1):Int).toNat] H1/\μ0 [.n (((c3:Int)+1):Int).toNat]<μ0 [.n c3]))) (T H1 nK (vi 1))))))))) (T H1 nK (vi 0))))) (T H0 nK (vi c2)))) (T H0 nK (vi 3)))) (T H0 nK (vi 3)))) (T H0 nK (vi 3))))) :=
 Xa (hi:={loops := [(7,.inv [(4,.nat)] [])]}) (args := [.agg [vI 0,vI 1,vI 2,vI 3,vI 4,vI 5,vS 6]]) (nv:=9) (e:=lk [.i x0,.i x1,.i x2,.i x3,.i x4,.i x5,.p x6,.n x7,.n x8]) Tryz.func76
theorem Ae(x0:OL)(x1 x2:Nat)(x3:OL)(x4 x5:Nat):Xw 168 #[vsl x0 x1 x2,vsl x3 x4 x5] λ_ H0 _ _ _ Q T=>(Ck (0<=(x1:Int)) (Ck (0<=(x4:Int)) (It ((x1:Int)=(x4:Int)) (∃(I0:List Dat->Hp->Prop) (μ0:List Dat->Nat),I0 [.i 0] H0/\∀H1:Hp,∀x6:Int,I0 [.i x6] H1->(It (x6<(x1:Int)) (Ck ((0:Int)<=x6/\x6<(x1:Int)) (Ck (x0.isSome=true) (∃(x7 x8:Int),aa H1 x0 (0+(x6 * 2)) [vi x7,vi x8]/\(Ck ((0:Int)<=x6/\x6<(x4:Int)) (Ck (x3.isSome=true) (∃(x9 c0:Int),aa H1 x3 (0+(x6 * 2)) [vi x9,vi c0]/\(Q H1 nK λW1=>∃c1:Bool,Eo' (.bop .neq 184 (.tmp 19) (.tmp 23)) [vg #[vi x7,vi x8],vg #[vi x9,vi c0]] W1 (.value (vb (c1))) λW2=>Ext W1 W2/\(It (c1=true) (T H1 nK (vb (false))) (Ck (ae .i64 (x6+1)) (I0 [.i (x6+1)] H1/\μ0 [.i (x6+1)]<μ0 [.i x6])))))))))) (T H1 nK (vb (true))))) (T H0 nK (vb (false)))))) :=
 Xa (hi:={loops := [(4,.inv [(13,.pt (.int .i64))] [])]}) (args := [vS 0,vS 3]) (nv:=6) (e:=lk [.p x0,.n x1,.n x2,.p x3,.n x4,.n x5]) Tryz.func168
theorem Dm(x0 x1 x2:Int)(x3:OL)(x4 x5:Nat)(x6 x7 x8:Int)(x9:OL)(c0 c1:Nat):Xw 167 #[vg #[vi x0,vi x1,vi x2,vsl x3 x4 x5],vg #[vi x6,vi x7,vi x8,vsl x9 c0 c1]] λ_ H0 _ _ C _ T=>(∀b0:Nat,(∀b1:Nat,(It (x0=x6) (It (x1=x7) (It (x2=x8) (C H0 nK 168 #[vsl x3 x4 x5,vsl x9 c0 c1] λz W1 W2=>∃c2:Bool,z=.returned (vb (c2))/\Ext W1 W2/\T H0 nK (vb (c2))) (T H0 nK (vb (false)))) (T H0 nK (vb (false)))) (T H0 nK (vb (false)))))) :=
 Xa (hi:={}) (args := [.agg [vI 0,vI 1,vI 2,vS 3],.agg [vI 6,vI 7,vI 8,vS 9]]) (nv:=12) (e:=lk [.i x0,.i x1,.i x2,.p x3,.n x4,.n x5,.i x6,.i x7,.i x8,.p x9,.n c0,.n c1]) Tryz.func167
theorem zk(x0:OL)(x1 x2:Nat)(x3:OL)(x4 x5:Nat):Xw 169 #[vsl x0 x1 x2,vsl x3 x4 x5,Value.func (.func 167) #[] #[]] λ_ H0 _ _ C _ T=>(Ck (0<=(x1:Int)) (Ck (0<=(x4:Int)) (It ((x1:Int)=(x4:Int)) (∃(I0:List Dat->Hp->Prop) (μ0:List Dat->Nat),I0 [.i 0] H0/\∀H1:Hp,∀x6:Int,I0 [.i x6] H1->(It (x6<(x1:Int)) (Ck ((0:Int)<=x6/\x6<(x1:Int)) (Ck (x0.isSome=true) (∃(x7 x8 x9:Int) (c0:OL) (c1 c2:Nat),aa H1 x0 (0+(x6 * 4)) [vi x7,vi x8,vi x9,vsl c0 c1 c2]/\(∀b0:Nat,(Ck ((0:Int)<=x6/\x6<(x4:Int)) (Ck (x3.isSome=true) (∃(c3 c4 c5:Int) (c6:OL) (c7 c8:Nat),aa H1 x3 (0+(x6 * 4)) [vi c3,vi c4,vi c5,vsl c6 c7 c8]/\(∀b1:Nat,(C H1 nK 167 #[vg #[vi x7,vi x8,vi x9,vsl c0 c1 c2],vg #[vi c3,vi c4,vi c5,vsl c6 c7 c8]] λz W1 W2=>∃c9:Bool,z=.returned (vb (c9))/\Ext W1 W2/\(It (c9=true) (Ck (ae .i64 (x6+1)) (I0 [.i (x6+1)] H1/\μ0 [.i (x6+1)]<μ0 [.i x6])) (T H1 nK (vb (false))))))))))))) (T H1 nK (vb (true))))) (T H0 nK (vb (false)))))) :=
 Xa (hi:={loops := [(4,.inv [(17,.pt (.int .i64))] [])]}) (args := [vS 0,vS 3,.func 167 [] []]) (nv:=6) (e:=lk [.p x0,.n x1,.n x2,.p x3,.n x4,.n x5]) Tryz.func169
theorem zK(x0 x1 x2 x3 x4 x5:Int)(x6:OL)(x7 x8:Nat)(x9 c0 c1 c2 c3 c4:Int)(c5:OL)(c6 c7:Nat):Xw 147 #[vg #[vi x0,vi x1,vi x2,vi x3,vi x4,vi x5,vsl x6 x7 x8],vg #[vi x9,vi c0,vi c1,vi c2,vi c3,vi c4,vsl c5 c6 c7]] λ_ H0 _ _ C Q T=>(∀b0:Nat,(∀b1:Nat,(It (x0=x9) (It (x1=c0) (Q H0 nK λW1=>∃c8:Bool,Eo' (.bop .eql 30 (.tmp 20) (.tmp 22)) [vg #[vi x2,vi x3,vi x4,vi x5],vg #[vi c1,vi c2,vi c3,vi c4]] W1 (.value (vb (c8))) λW2=>Ext W1 W2/\(It (c8=true) (C H0 nK 169 #[vsl x6 x7 x8,vsl c5 c6 c7,Value.func (.func 167) #[] #[]] λz W3 W4=>∃c9:Bool,z=.returned (vb (c9))/\Ext W3 W4/\T H0 nK (vb (c9))) (T H0 nK (vb (false))))) (T H0 nK (vb (false)))) (T H0 nK (vb (false)))))) :=
 Xa (hi:={}) (args := [.agg [vI 0,vI 1,vI 2,vI 3,vI 4,vI 5,vS 6],.agg [vI 9,vI 10,vI 11,vI 12,vI 13,vI 14,vS 15]]) (nv:=18) (e:=lk [.i x0,.i x1,.i x2,.i x3,.i x4,.i x5,.p x6,.n x7,.n x8,.i x9,.i c0,.i c1,.i c2,.i c3,.i c4,.p c5,.n c6,.n c7]) Tryz.func147
theorem A0(x0 x1 x2 x3 x4 x5:Int)(x6:OL)(x7 x8:Nat)(x9 c0 c1 c2 c3 c4:Int)(c5:OL)(c6 c7:Nat):Xw 102 #[vg #[vi x0,vi x1,vi x2,vi x3,vi x4,vi x5,vsl x6 x7 x8],vg #[vi x9,vi c0,vi c1,vi c2,vi c3,vi c4,vsl c5 c6 c7]] λ_ H0 _ _ C Q T=>(∀b0:Nat,(∀b1:Nat,(It (x0=x9) (It (x1=c0) (Q H0 nK λW1=>∃c8:Bool,Eo' (.bop .eql 30 (.tmp 19) (.tmp 21)) [vg #[vi x2,vi x3,vi x4,vi x5],vg #[vi c1,vi c2,vi c3,vi c4]] W1 (.value (vb (c8))) λW2=>Ext W1 W2/\(It (c8=true) (C H0 nK 131 #[vsl x6 x7 x8,vsl c5 c6 c7] λz W3 W4=>∃c9:Bool,z=.returned (vb (c9))/\Ext W3 W4/\T H0 nK (vb (c9))) (T H0 nK (vb (false))))) (T H0 nK (vb (false)))) (T H0 nK (vb (false)))))) :=
 Xa (hi:={}) (args := [.agg [vI 0,vI 1,vI 2,vI 3,vI 4,vI 5,vS 6],.agg [vI 9,vI 10,vI 11,vI 12,vI 13,vI 14,vS 15]]) (nv:=18) (e:=lk [.i x0,.i x1,.i x2,.i x3,.i x4,.i x5,.p x6,.n x7,.n x8,.i x9,.i c0,.i c1,.i c2,.i c3,.i c4,.p c5,.n c6,.n c7]) Tryz.func102
theorem Dy:Xw 128 #[] λ_ H0 _ _ _ _ T=>(∀b0:Nat,T H0 nK (vg #[vi 0,vi 0,vi 0,vi 0,vi 0,vi 0,Value.slice none 0 0])) :=
 Xa (hi:={}) (args := []) (nv:=0) (e:=(λ_=>.i 0)) Tryz.func128
theorem DW(v:V4)(H:Hp):Gv Tryz.prog 150 #[.agg #[vi v.a,vi v.b,vi v.c,vi v.d]] H (vb v.ok):=λW _=>mV v.a v.b v.c v.d W
theorem vy(v:V4)(H:Hp):Gv Tryz.prog 100 #[.agg #[vi v.a,vi v.b,vi v.c,vi v.d]] H (vb v.ok):=λW _=>ci v.a v.b v.c v.d W
theorem uo(x y:Operand)(v u:V4)(w:World):(EK.sem (.bop .eql 30 x y) [vg #[vi v.a,vi v.b,vi v.c,vi v.d],vg #[vi u.a,vi u.b,vi u.c,vi u.d]]).run Tryz.prog w=.ok (.value (vb (decide (v=u)))) w:=by
 have h:=vV v.a v.b v.c v.d u.a u.b u.c u.d w;have g:=yT
 simp[EK.sem,eqGuard,g,h,V4.eq_iff]
theorem Eg{H:Hp}{q:OL}{clock:Int}(hq:aa H q (0+1) [vi clock])(h20:0<=clock/\clock<=999)(a b x:Int)(p:OL)(n c:Nat) :
  Gv Tryz.prog 153 #[.agg #[vi a,vi b,vi x,vsl p n c],.pointer (ab q 0)] H (vb (decide (clock<x\/x<clock-20))):=λW hH=>by
 refine DY a b x p n c q noM H W _ hH λb0=>⟨hq.isSome,λ_=>⟨clock,hq,λh=>Rt.gv' (by simp[h]),λh=>⟨clock,hq,in64 (by omega),λ_=>Rt.gv' (by simp[h])⟩⟩⟩
theorem zy{H:Hp}{q:OL}{clock:Int}(hq:aa H q (0+1) [vi clock])(h20:0<=clock/\clock<=999){p:OL}{n c:Nat}{l:List Ses}(hT:Tab H p n c l) :
  Gv Tryz.prog 173 #[vsl p n c,.func (.func 153) #[] #[.pointer (ab q 0)]] H (vi (ixP (lh clock) 0 l)):=λW hH=>by
 have hn:=hT.len;have h63:=hT.lt63
 refine BF p n c q noM H W _ hH ⟨by omega,λ_=>⟨λv K=>match v with | [.i k]=>∃j:Nat,k=j/\j<=n/\H.le K/\ixP (lh clock) j (l.drop j)=ixP (lh clock) 0 l | _=>False,λv=>match v with | [.i k]=>n-k.toNat | _=>0,⟨0,rfl,by omega,Hp.le_refl H,by simp⟩,λK k hI=>?_⟩⟩;obtain⟨j,rfl,hj,hle,hf⟩:=hI;refine⟨λhlt=>⟨⟨by omega,hlt⟩,λ_=>?_⟩,λhge=>Rt.gv' ?_⟩
 ·obtain⟨s,p',m,d,hs,hq',hat⟩:=(hT.mono hle).at (k:=j) (by omega)
  have hat0:=(hat (0+(j:Int) * 4) (by omega)).1;rw[bB hs,ixP] at hf;refine⟨hat0.isSome,λ_=>⟨_,_,_,p',m,d,hat0,?_⟩⟩;refine Cl.same (Eg (hq.mono hle) h20 _ _ _ p' m d) λ_ _ hx=>⟨_,rfl,hx,λh=>Rt.gv' ?_,λh=>⟨in64 (by omega),λ_=>⟨⟨j+1,by omega,by omega,hle,?_⟩,by simp only;omega⟩⟩⟩
  ·have h':lh clock s=true:=h;rw[<- hf,if_pos h']
  ·have h':¬lh clock s=true:=h;rw[<- hf,if_neg h']
 ·rw[<- hf,List.drop_of_length_le (by omega)];rfl
theorem CA(f:Ses->Bool)(l:List Ses):decide (0<=ixP f 0 l)=l.any f:=by
 rcases pG f l 0 with⟨h1,h2⟩ | ⟨j,u,h1,h2,h3,_⟩
 ·rw[h1]
  symm
  simp only[Int.reduceNeg,Int.reduceLE,decide_false,List.any_eq_false]
  exact λx hx=>by rw[h2 x hx];simp
 ·rw[h1,decide_eq_true (by omega)]
  symm
  exact List.any_eq_true.2 ⟨u,List.mem_of_getElem? h2,h3⟩
theorem uE{H:Hp}{q:OL}{clock:Int}(hq:aa H q (0+1) [vi clock])(h20:0<=clock/\clock<=999){p:OL}{n c:Nat}{l:List Ses}(hT:Tab H p n c l) :
  Gv Tryz.prog 152 #[vsl p n c,.func (.func 153) #[] #[.pointer (ab q 0)]] H (vb (l.any (lh clock))):=λW hH=>by
 refine uq p n c q noM H W _ hH ?_;exact Cl.same (zy hq h20 hT) λ_ _ hx=>⟨_,rfl,hx,Rt.gv' (by rw[CA])⟩
theorem jJ{H:Hp}{p:OL}{n c:Nat}{s:Sta}(hT:Tab H p n c s.table) :
  Gv Tryz.prog 139 #[.agg #[vi s.pos,vi s.clock,vi s.vals.a,vi s.vals.b,vi s.vals.c,vi s.vals.d,vsl p n c]] H (vi s.err):=λW hH=>by
 refine yG _ _ _ _ _ _ p n c noM H W _ hH λb0=>?_;refine⟨λh=>Rt.gv' (by rw[iq (by omega)]),λh1=>⟨λh=>Rt.gv' (by rw[iq (by omega)]),λh2=>⟨λh=>Rt.gv' (by rw[iq (by omega)]),λh3=>⟨λh=>Rt.gv' (by rw[iq (by omega)]),λh4=>?_⟩⟩⟩⟩;refine Cl.same (DW s.vals H) λ_ _ hx=>⟨_,rfl,hx,λh5=>?_,λh=>Rt.gv' (by rw[iq (by simp only[Bool.not_eq_true] at h;simp[h])])⟩
 have hn:¬(s.pos<0\/50<s.pos\/s.clock<0\/999<s.clock\/s.vals.ok=false):=by rw[h5];simp;omega
 refine Cl.same (Db hT) λ_ _ hx=>⟨_,rfl,hx,λh0=>?_,λh0=>Rt.gv' (by rw[zI hn h0])⟩
 refine Cl.sameK (v:=vb (s.table.any (lh s.clock))) (λW1 n1 kk=>⟨_,gF n1.sub kk.1.eq,?_⟩) λ_ _ hx=>⟨_,rfl,hx,λh=>Rt.gv' (by rw[oN hn h0,if_pos h]),λh=>Rt.gv' (by rw[oN hn h0,if_neg h])⟩
 have hle:=gM (o:=.cells #[vi s.pos,vi s.clock,vi s.vals.a,vi s.vals.b,vi s.vals.c,vi s.vals.d,vsl p n c] 33 (0,0)) kk.1.off;exact uE (q:=some (b0,0)) (clock:=s.clock) ⟨b0,0,rfl,_,_,_,cm ..,λj hj=>by
  have:j=0:=by simpa using hj
  subst this;exact⟨rfl,qj _⟩⟩ (by omega) (hT.mono hle)
theorem ns{H:Hp}{p:OL}{n c:Nat}{s:Sta}(hT:Tab H p n c s.table) :
  Gv Tryz.prog 76 #[.agg #[vi s.pos,vi s.clock,vi s.vals.a,vi s.vals.b,vi s.vals.c,vi s.vals.d,vsl p n c]] H (vi s.err):=λW hH=>by
 have hlen:=hT.len;have h63:=hT.lt63
 refine CZ _ _ _ _ _ _ p n c noM H W _ hH λb0=>?_;refine Cl.same (bu s.pos 0 50 H) λ_ _ hx=>⟨_,rfl,hx,λh1=>?_,λh=>Rt.gv' (by simp only[Bool.not_eq_true,ic] at h;rw[iq (by omega)])⟩
 refine Cl.same (bu s.clock 0 999 H) λ_ _ hx=>⟨_,rfl,hx,λh2=>?_,λh=>Rt.gv' (by simp only[Bool.not_eq_true,ic] at h;rw[iq (by omega)])⟩
 refine Cl.same (vy s.vals H) λ_ _ hx=>⟨_,rfl,hx,λh5=>?_,λh=>Rt.gv' (by rw[iq (by simp only[Bool.not_eq_true] at h;simp[h])])⟩
 rw[cd] at h1 h2;have hn:¬(s.pos<0\/50<s.pos\/s.clock<0\/999<s.clock\/s.vals.ok=false):=by rw[h5];simp;omega
 refine Cl.same (sK hT) λ_ _ hx=>⟨_,rfl,hx,λh0=>?_,λh0=>Rt.gv' (by rw[zI hn h0])⟩
 refine⟨λv K=>match v with | [.n j]=>j<=n/\H.le K/\(s.table.drop j).any (lh s.clock)=s.table.any (lh s.clock) | _=>False,λv=>match v with | [.n j]=>n-j | _=>0,⟨by omega,Hp.le_refl H,by simp⟩,λK j hI=>⟨by omega,λ_=>?_⟩⟩;obtain⟨hj,hle,hf⟩:=hI;have ht:((j:Int)+1).toNat=j+1:=by omega
 refine⟨λhlt=>⟨⟨by omega,hlt⟩,λ_=>?_⟩,λhge=>Rt.gv' ?_⟩
 ·obtain⟨x,q,m,d,hs,hq,hat⟩:=(hT.mono hle).at (k:=j) (by omega)
  obtain⟨hat0,_,_,hat2,_⟩:=hat (0+(j:Int) * 4) (by omega)
  rw[bB hs,List.any_cons] at hf;refine⟨hat0.isSome,λ_=>⟨by omega,λ_=>⟨_,hat2,in64 (by omega),λ_=>?_⟩⟩⟩;refine Cl.same (bu x.seen (s.clock-20) s.clock K) λ_ _ hx=>⟨_,rfl,hx,λh=>⟨in64 (by omega),λ_=>⟨by omega,λ_=>?_⟩⟩,λh=>Rt.gv' ?_⟩
  ·rw[ht];rw[cd] at h;refine⟨⟨by omega,hle,?_⟩,by simp only;omega⟩;rw[<- hf,show lh s.clock x=false from by simp[lh];omega,Bool.false_or]
  ·simp only[Bool.not_eq_true,ic] at h;rw[oN hn h0,if_pos];rw[<- hf,show lh s.clock x=true from by simp[lh];omega,Bool.true_or]
 ·rw[oN hn h0,if_neg];rw[<- hf,List.drop_of_length_le (by omega)];simp
abbrev Sta.val(s:Sta)(v:Value):Value:=.agg #[vi s.pos,vi s.clock,vi s.vals.a,vi s.vals.b,vi s.vals.c,vi s.vals.d,v]
theorem y9{H:Hp}{p p':OL}{n c n' c':Nat}{l m:List Rep}(hk:bM H p n c l)(hk':bM H p' n' c' m):Gv Tryz.prog 168 #[vsl p n c,vsl p' n' c'] H (vb (decide (l=m))):=λW hH=>by
 have hn:=hk.len;have hn':=hk'.len
 have h63:=hk.lt63;refine Ae p n c p' n' c' noM H W _ hH ⟨by omega,λ_=>⟨by omega,λ_=>⟨λh1=>?_,λh1=>Rt.gv' (by rw[decide_eq_false (λh=>h1 (by rw[hn,hn',h]))])⟩⟩⟩;refine⟨λv K=>match v with | [.i k]=>∃j:Nat,k=j/\j<=n/\H.le K/\(l.drop j=m.drop j↔l=m) | _=>False,λv=>match v with | [.i j]=>n-j.toNat | _=>0,⟨0,rfl,by omega,Hp.le_refl H,by simp⟩,λK k hI=>?_⟩;obtain⟨j,rfl,hj,hle,hf⟩:=hI;refine⟨λhlt=>⟨⟨by omega,hlt⟩,λ_=>?_⟩,λhge=>Rt.gv' ?_⟩
 ·obtain⟨r,hr,hat,_⟩:=(hk.mono hle).at' (k:=j) (by omega);obtain⟨r',hr',hat',_⟩:=(hk'.mono hle).at' (k:=j) (by omega);rw[oU hr hr'] at hf;refine⟨hat.isSome,λ_=>⟨_,_,hat,⟨by omega,by omega⟩,λ_=>⟨hat'.isSome,λ_=>⟨_,_,hat',?_⟩⟩⟩⟩;intro W1 _ _;refine⟨_,_,qZ ..,Ext.refl _,λh0=>Rt.gv' ?_,λh0=>⟨in64 (by omega),λ_=>?_⟩⟩
  ·simp only[Bool.not_eq_true',decide_eq_false_iff_not] at h0;rw[decide_eq_false];exact λhh=>h0 (hf.2 hh).1
  ·simp only[Bool.not_eq_true,Bool.not_eq_false',decide_eq_true_eq] at h0;refine⟨⟨j+1,by omega,by omega,hle,?_⟩,by simp only;omega⟩;rw[<- hf];exact⟨λh=>⟨h0,h⟩,λh=>h.2⟩
 ·rw[decide_eq_true];exact hf.1 (by rw[List.drop_of_length_le (by omega),List.drop_of_length_le (by omega)])
theorem Ds{H:Hp}{p p':OL}{n c n' c':Nat}{s t:Ses}(hk:bM H p n c s.kept)(hk':bM H p' n' c' t.kept) :
  Gv Tryz.prog 167 #[.agg #[vi s.client,vi s.acked,vi s.seen,vsl p n c],.agg #[vi t.client,vi t.acked,vi t.seen,vsl p' n' c']] H (vb (decide (s=t))):=λW hH=>by
 have no:¬(s.client=t.client/\s.acked=t.acked/\s.seen=t.seen/\s.kept=t.kept)->vb false=vb (decide (s=t)):=λh=>by rw[decide_eq_false (by rw[Ses.eq_iff];exact h)]
 refine Dm _ _ _ p n c _ _ _ p' n' c' noM H W _ hH λb0 b1=>⟨λh1=>⟨λh2=>⟨λh3=>?_,λh=>Rt.gv' (no (λhh=>h hh.2.2.1))⟩,λh=>Rt.gv' (no (λhh=>h hh.2.1))⟩,λh=>Rt.gv' (no (λhh=>h hh.1))⟩
 refine Cl.same (y9 hk hk') λ_ _ hx=>⟨_,rfl,hx,Rt.gv' ?_⟩
 simp only[Ses.eq_iff,h1,h2,h3,true_and]
theorem zw{H:Hp}{p p':OL}{n c n' c':Nat}{l m:List Ses}(hT:Tab H p n c l)(hT':Tab H p' n' c' m):Gv Tryz.prog 169 #[vsl p n c,vsl p' n' c',.func (.func 167) #[] #[]] H (vb (decide (l=m))):=λW hH=>by
 have hn:=hT.len;have hn':=hT'.len
 have h63:=hT.lt63;refine zk p n c p' n' c' noM H W _ hH ⟨by omega,λ_=>⟨by omega,λ_=>⟨λh1=>?_,λh1=>Rt.gv' (by rw[decide_eq_false (λh=>h1 (by rw[hn,hn',h]))])⟩⟩⟩;refine⟨λv K=>match v with | [.i k]=>∃j:Nat,k=j/\j<=n/\H.le K/\(l.drop j=m.drop j↔l=m) | _=>False,λv=>match v with | [.i j]=>n-j.toNat | _=>0,⟨0,rfl,by omega,Hp.le_refl H,by simp⟩,λK k hI=>?_⟩;obtain⟨j,rfl,hj,hle,hf⟩:=hI;refine⟨λhlt=>⟨⟨by omega,hlt⟩,λ_=>?_⟩,λhge=>Rt.gv' ?_⟩
 ·obtain⟨s,q,k,d,hs,hq,hat,_⟩:=(hT.mono hle).at' (k:=j) (by omega);obtain⟨s',q',k',d',hs',hq',hat',_⟩:=(hT'.mono hle).at' (k:=j) (by omega);rw[oU hs hs'] at hf;refine⟨hat.isSome,λ_=>⟨_,_,_,_,_,_,hat,λb0=>⟨⟨by omega,by omega⟩,λ_=>⟨hat'.isSome,λ_=>⟨_,_,_,_,_,_,hat',λb1=>?_⟩⟩⟩⟩⟩;refine Cl.same (Ds hq hq') λ_ _ hx=>⟨_,rfl,hx,λh0=>⟨in64 (by omega),λ_=>?_⟩,λh0=>Rt.gv' ?_⟩
  ·refine⟨⟨j+1,by omega,by omega,hle,?_⟩,by simp only;omega⟩;rw[<- hf];exact⟨λh=>⟨of_decide_eq_true h0,h⟩,λh=>h.2⟩
  ·rw[decide_eq_false];exact λh=>h0 (decide_eq_true (hf.2 h).1)
 ·rw[decide_eq_true (hf.1 (by rw[List.drop_of_length_le (by omega),List.drop_of_length_le (by omega)]))]
theorem zW{H:Hp}{p p':OL}{n c n' c':Nat}{s t:Sta}(hT:Tab H p n c s.table)(hT':Tab H p' n' c' t.table) :
  Gv Tryz.prog 147 #[s.val (vsl p n c),t.val (vsl p' n' c')] H (vb (decide (s=t))):=λW hH=>by
 have no:¬(s.pos=t.pos/\s.clock=t.clock/\s.vals=t.vals/\s.table=t.table)->vb false=vb (decide (s=t)):=λh=>by rw[decide_eq_false (by rw[Sta.eq_iff];exact h)]
 refine zK _ _ _ _ _ _ p n c _ _ _ _ _ _ p' n' c' noM H W _ hH λb0 b1=>⟨λh1=>⟨λh2=>λW1 _ _=>?_,λh=>Rt.gv' (no (λhh=>h hh.2.1))⟩,λh=>Rt.gv' (no (λhh=>h hh.1))⟩
 refine⟨_,_,uo ..,Ext.refl _,λh3=>?_,λh=>Rt.gv' (no (λhh=>h (decide_eq_true hh.2.2.1)))⟩;refine Cl.same (zw hT hT') λ_ _ hx=>⟨_,rfl,hx,Rt.gv' ?_⟩
 simp only[Sta.eq_iff,h1,h2,of_decide_eq_true h3,true_and]
theorem Ak{H:Hp}{p p':OL}{n c n' c':Nat}{s t:Sta}(hT:Tab H p n c s.table)(hT':Tab H p' n' c' t.table) :
  Gv Tryz.prog 102 #[s.val (vsl p n c),t.val (vsl p' n' c')] H (vb (decide (s=t))):=λW hH=>by
 have no:¬(s.pos=t.pos/\s.clock=t.clock/\s.vals=t.vals/\s.table=t.table)->vb false=vb (decide (s=t)):=λh=>by rw[decide_eq_false (by rw[Sta.eq_iff];exact h)]
 refine A0 _ _ _ _ _ _ p n c _ _ _ _ _ _ p' n' c' noM H W _ hH λb0 b1=>⟨λh1=>⟨λh2=>λW1 _ _=>?_,λh=>Rt.gv' (no (λhh=>h hh.2.1))⟩,λh=>Rt.gv' (no (λhh=>h hh.1))⟩
 refine⟨_,_,uo ..,Ext.refl _,λh3=>?_,λh=>Rt.gv' (no (λhh=>h (decide_eq_true hh.2.2.1)))⟩;refine Cl.same (DF hT hT') λ_ _ hx=>⟨_,rfl,hx,Rt.gv' ?_⟩
 simp only[Sta.eq_iff,h1,h2,of_decide_eq_true h3,true_and]
theorem Cx(H:Hp):Gv Tryz.prog 128 #[] H (Sta.zero.val (vsl none 0 0)):=λW hH=>Dy noM H W _ hH λb0=>Rt.gv
end Go.Proofs.YtfpmcmhihhnfgaaGreatDoor
