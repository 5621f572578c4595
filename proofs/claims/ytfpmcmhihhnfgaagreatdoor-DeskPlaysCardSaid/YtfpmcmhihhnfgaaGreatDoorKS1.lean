/- == and != on replies. No conditions. -/
import Derived.Test.YtfpmcmhihhnfgaaGreatDoorKD1
import Derived.ChangeKeysEq
import Derived.Test.YtfpmcmhihhnfgaaGreatDoorKPg
set_option linter.unusedVariables false
set_option linter.unusedSimpArgs false
namespace Go.Proofs.YtfpmcmhihhnfgaaGreatDoor
open Go.RowKit
theorem wC(a b:Value):(∀w,(part 3 #[a,b] 0).run Tryz.prog w=.ok a w)/\(∀w,(part 3 #[a,b] 1).run Tryz.prog w=.ok b w):=⟨λ_=>by kernel_rfl,λ_=>by kernel_rfl⟩
theorem Bm:Program.stoodInHeld Tryz.prog 184=false:=by kernel_rfl
theorem BM:Program.eqGuardType Tryz.prog Tryz.prog.depth 184=false:=by kernel_rfl
theorem yI(a b a' b':Int)(w:World):(Op.equalIn 10000 184 (.agg #[vi a,vi b]) (.agg #[vi a',vi b'])).run Tryz.prog w=.ok (decide (Rep.mk a b=Rep.mk a' b')) w:=by
 have hf:Tryz.prog.underlying 184=some (.struct (Tryz.prog.fieldsOf 184)):=by simp only[Program.fieldsOf,Tryz.underlying184]
 rw[run_equalIn_struct (P:=Tryz.prog) w 9999 _ _ _ hf Bm];have p0:∀(x y:Value) (w:World),(part 3 #[x,y] 0).run Tryz.prog w=.ok x w:=λx y=>(wC x y).1
 have p1:∀(x y:Value) (w:World),(part 3 #[x,y] 1).run Tryz.prog w=.ok y w:=λx y=>(wC x y).2;have e:∀(x y:Int) (w:World),(Op.equalIn 9999 3 (vi x) (vi y)).run Tryz.prog w=.ok (x==y) w:=λx y w=>run_equalIn_int w 9998 _ _ _ x y Tryz.underlying3
 simp only[Program.fieldsOf,Tryz.underlying184,Op.eqFields]
 by_cases h0:a=a'<;>by_cases h1:b=b'<;>simp[p0,p1,e,h0,h1]
theorem qZ(x y:Operand)(a b a' b':Int)(w:World):(EK.sem (.bop .neq 184 x y) [vg #[vi a,vi b],vg #[vi a',vi b']]).run Tryz.prog w=.ok (.value (vb (!decide (Rep.mk a b=Rep.mk a' b')))) w:=by
 simp[EK.sem,run_eqGuard_agg (P:=Tryz.prog) w .neq 184 x y _ _ BM,run_neq_struct,yI]
set_option maxRecDepth 100000
set_option maxHeartbeats 4000000
theorem zn(x0 x1 x2:Int):Xw 52 #[vi x0,vi x1,vi x2] λ_ H0 _ _ _ _ T=>(It (x1<=x0) (T H0 nK (vb (decide (x0<=x2)))) (T H0 nK (vb (false)))) :=
 Xa (hi:={}) (args := [vI 0,vI 1,vI 2]) (nv:=3) (e:=lk [.i x0,.i x1,.i x2]) Tryz.func52
theorem FI(x0 x1 x2:Int)(x3:OL)(x4 x5:Nat):Xw 172 #[vg #[vi x0,vi x1,vi x2,vsl x3 x4 x5]] λ_ H0 _ _ _ _ T=>(∀b0:Nat,(It (x0<1) (T H0 nK (vi 3)) (It (5<x0) (T H0 nK (vi 3)) (It (x1<0) (T H0 nK (vi 3)) (It (60<x1) (T H0 nK (vi 3)) (It (x2<0) (T H0 nK (vi 3)) (It (999<x2) (T H0 nK (vi 3)) (Ck (0<=(x4:Int)) (∃(I0:List Dat->Hp->Prop) (μ0:List Dat->Nat),I0 [.i 0,.i x1] H0/\∀H1:Hp,∀(x6 x7:Int),I0 [.i x6,.i x7] H1->(It (x6<(x4:Int)) (Ck ((0:Int)<=x6/\x6<(x4:Int)) (Ck (x3.isSome=true) (∃(x8 x9:Int),aa H1 x3 (0+(x6 * 2)) [vi x8,vi x9]/\(∀b1:Nat,(It (x8<=x7) (T H1 nK (vi 1)) (Ck (ae .i64 (x1+3)) (It ((x1+3)<x8) (T H1 nK (vi 1)) (It (60<x8) (T H1 nK (vi 1)) (It (x9<(-1)) (T H1 nK (vi 1)) (It (999<x9) (T H1 nK (vi 1)) (Ck (ae .i64 (x6+1)) (I0 [.i (x6+1),.i x8] H1/\μ0 [.i (x6+1),.i x8]<μ0 [.i x6,.i x7])))))))))))) (T H1 nK (vi 0)))))))))))) :=
 Xa (hi:={loops := [(5,.inv [(39,.pt (.int .i64)),(3,.pt (.int .i64))] [])]}) (args := [.agg [vI 0,vI 1,vI 2,vS 3]]) (nv:=6) (e:=lk [.i x0,.i x1,.i x2,.p x3,.n x4,.n x5]) Tryz.func172
theorem AC(x0 x1 x2:Int)(x3:OL)(x4 x5:Nat):Xw 130 #[vg #[vi x0,vi x1,vi x2,vsl x3 x4 x5]] λ_ H0 _ _ C _ T=>(∀b0:Nat,(C H0 nK 52 #[vi x0,vi 1,vi 5] λz W1 W2=>∃x6:Bool,z=.returned (vb (x6))/\Ext W1 W2/\(It (x6=true) (C H0 nK 52 #[vi x1,vi 0,vi 60] λz W3 W4=>∃x7:Bool,z=.returned (vb (x7))/\Ext W3 W4/\(It (x7=true) (C H0 nK 52 #[vi x2,vi 0,vi 999] λz W5 W6=>∃x8:Bool,z=.returned (vb (x8))/\Ext W5 W6/\(It (x8=true) (∃(I0:List Dat->Hp->Prop) (μ0:List Dat->Nat),I0 [.n 0] H0/\∀H1:Hp,∀x9:Nat,I0 [.n x9] H1->(Ck (0<=(x4:Int)) (It ((x9:Int)<(x4:Int)) (Ck ((0:Int)<=(x9:Int)/\(x9:Int)<(x4:Int)) (Ck (x3.isSome=true) (∃c0:Int,aa H1 x3 (0+((x9:Int) * 2)) [vi c0]/\(Ck (ae .i64 (x1+1)) (Ck (ae .i64 (x1+3)) (C H1 nK 52 #[vi c0,vi (x1+1),vi (if (x1+3)<60 then (x1+3) else 60)] λz W7 W8=>∃c1:Bool,z=.returned (vb (c1))/\Ext W7 W8/\(It (c1=true) (Ck (0<=(0+((x9:Int) * 2))) (∃c2:Int,aa H1 x3 ((0+((x9:Int) * 2))+1) [vi c2]/\(C H1 nK 52 #[vi c2,vi (-1),vi 999] λz W9 W10=>∃c3:Bool,z=.returned (vb (c3))/\Ext W9 W10/\(It (c3=true) (It (0<(x9:Int)) (Ck (ae .i64 ((x9:Int)-1)) (Ck ((0:Int)<=((x9:Int)-1)/\((x9:Int)-1)<(x4:Int)) (∃c4:Int,aa H1 x3 (0+(((x9:Int)-1) * 2)) [vi c4]/\(∃c5:Int,aa H1 x3 (0+((x9:Int) * 2)) [vi c5]/\(It (c5<=c4) (T H1 nK (vi 1)) (Ck (ae .i64 ((x9:Int)+1)) (Ck (0<=((x9:Int)+1)) (I0 [.n (((x9:Int)+1):Int).toNat] H1/\μ0 [.n (((x9:Int)+1):Int).toNat]<μ0 [.n x9])))))))) (Ck (ae .i64 ((x9:Int)+1)) (Ck (0<=((x9:Int)+1)) (I0 [.n (((x9:Int)+1):Int).toNat] H1/\μ0 [.n (((x9:Int)+1):Int).toNat]<μ0 [.n x9])))) (T H1 nK (vi 1)))))) (T H1 nK (vi 1))))))))) (T H1 nK (vi 0))))) (T H0 nK (vi 3)))) (T H0 nK (vi 3)))) (T H0 nK (vi 3))))) :=
 Xa (hi:={loops := [(4,.inv [(3,.nat)] [])]}) (args := [.agg [vI 0,vI 1,vI 2,vS 3]]) (nv:=6) (e:=lk [.i x0,.i x1,.i x2,.p x3,.n x4,.n x5]) Tryz.func130
theorem B7(x0:OL)(x1 x2:Nat):Xw 151 #[vsl x0 x1 x2] λ_ H0 _ _ C _ T=>(Ck (0<=(x1:Int)) (It (3<(x1:Int)) (T H0 nK (vi 2)) (∃(I0:List Dat->Hp->Prop) (μ0:List Dat->Nat),I0 [.i 0] H0/\∀H1:Hp,∀x3:Int,I0 [.i x3] H1->(It (x3<(x1:Int)) (Ck ((0:Int)<=x3/\x3<(x1:Int)) (Ck (x0.isSome=true) (∃(x4 x5 x6:Int) (x7:OL) (x8 x9:Nat),aa H1 x0 (0+(x3 * 4)) [vi x4,vi x5,vi x6,vsl x7 x8 x9]/\(∀b0:Nat,(C H1 nK 172 #[vg #[vi x4,vi x5,vi x6,vsl x7 x8 x9]] λz W1 W2=>∃c0:Int,z=.returned (vi c0)/\Ext W1 W2/\(It (c0=0) (Ck (ae .i64 (x3+1)) (I0 [.i (x3+1)] H1/\μ0 [.i (x3+1)]<μ0 [.i x3])) (T H1 nK (vi c0)))))))) (∃(I1:List Dat->Hp->Prop) (μ1:List Dat->Nat),I1 [.i 0,.i 0] H1/\∀H2:Hp,∀(x4 x5:Int),I1 [.i x4,.i x5] H2->(It (x4<(x1:Int)) (Ck ((0:Int)<=x4/\x4<(x1:Int)) (Ck (x0.isSome=true) (∃(x6 x7 x8:Int) (x9:OL) (c0 c1:Nat),aa H2 x0 (0+(x4 * 4)) [vi x6,vi x7,vi x8,vsl x9 c0 c1]/\(∀b0:Nat,(It (x6<=x5) (T H2 nK (vi 1)) (Ck (ae .i64 (x4+1)) (I1 [.i (x4+1),.i x6] H2/\μ1 [.i (x4+1),.i x6]<μ1 [.i x4,.i x5]))))))) (T H2 nK (vi 0)))))))) :=
 Xa (hi:={loops := [(4,.inv [(14,.pt (.int .i64))] []),(12,.inv [(26,.pt (.int .i64)),(6,.pt (.int .i64))] [])]}) (args := [vS 0]) (nv:=3) (e:=lk [.p x0,.n x1,.n x2]) Tryz.func151
theorem Ax(x0:OL)(x1 x2:Nat):Xw 101 #[vsl x0 x1 x2] λ_ H0 _ _ C _ T=>(Ck (0<=(x1:Int)) (It (3<(x1:Int)) (T H0 nK (vi 2)) (∃(I0:List Dat->Hp->Prop) (μ0:List Dat->Nat),I0 [.n 0] H0/\∀H1:Hp,∀x3:Nat,I0 [.n x3] H1->(It ((x3:Int)<(x1:Int)) (Ck ((0:Int)<=(x3:Int)/\(x3:Int)<(x1:Int)) (Ck (x0.isSome=true) (∃(x4 x5 x6:Int) (x7:OL) (x8 x9:Nat),aa H1 x0 (0+((x3:Int) * 4)) [vi x4,vi x5,vi x6,vsl x7 x8 x9]/\(C H1 nK 130 #[vg #[vi x4,vi x5,vi x6,vsl x7 x8 x9]] λz W1 W2=>∃c0:Int,z=.returned (vi c0)/\Ext W1 W2/\(It (c0=0) (Ck (ae .i64 ((x3:Int)+1)) (Ck (0<=((x3:Int)+1)) (I0 [.n (((x3:Int)+1):Int).toNat] H1/\μ0 [.n (((x3:Int)+1):Int).toNat]<μ0 [.n x3]))) (T H1 nK (vi c0))))))) (∃(I1:List Dat->Hp->Prop) (μ1:List Dat->Nat),I1 [.n 1] H1/\∀H2:Hp,∀x4:Nat,I1 [.n x4] H2->(It ((x4:Int)<(x1:Int)) (Ck (ae .i64 ((x4:Int)-1)) (Ck ((0:Int)<=((x4:Int)-1)/\((x4:Int)-1)<(x1:Int)) (Ck (x0.isSome=true) (∃x5:Int,aa H2 x0 (0+(((x4:Int)-1) * 4)) [vi x5]/\(Ck ((0:Int)<=(x4:Int)/\(x4:Int)<(x1:Int)) (∃x6:Int,aa H2 x0 (0+((x4:Int) * 4)) [vi x6]/\(It (x6<=x5) (T H2 nK (vi 1)) (Ck (ae .i64 ((x4:Int)+1)) (Ck (0<=((x4:Int)+1)) (I1 [.n (((x4:Int)+1):Int).toNat] H2/\μ1 [.n (((x4:Int)+1):Int).toNat]<μ1 [.n x4])))))))))) (T H2 nK (vi 0)))))))) :=
 Xa (hi:={loops := [(4,.inv [(3,.nat)] []),(10,.inv [(5,.nat)] [])]}) (args := [vS 0]) (nv:=3) (e:=lk [.p x0,.n x1,.n x2]) Tryz.func101
theorem Cm(x0:OL)(x1 x2:Nat)(x3:Int):Xw 133 #[vsl x0 x1 x2,vi x3] λ_ H0 _ _ _ _ T=>(∃(I0:List Dat->Hp->Prop) (μ0:List Dat->Nat),I0 [.n 0] H0/\∀H1:Hp,∀x4:Nat,I0 [.n x4] H1->(Ck (0<=(x1:Int)) (It ((x4:Int)<(x1:Int)) (Ck ((0:Int)<=(x4:Int)/\(x4:Int)<(x1:Int)) (Ck (x0.isSome=true) (∃x5:Int,aa H1 x0 (0+((x4:Int) * 4)) [vi x5]/\(It (x5=x3) (T H1 nK (vi (x4:Int))) (Ck (ae .i64 ((x4:Int)+1)) (Ck (0<=((x4:Int)+1)) (I0 [.n (((x4:Int)+1):Int).toNat] H1/\μ0 [.n (((x4:Int)+1):Int).toNat]<μ0 [.n x4]))))))) (T H1 nK (vi (-1)))))) :=
 Xa (hi:={loops := [(2,.inv [(5,.nat)] [])]}) (args := [vS 0,vI 3]) (nv:=4) (e:=lk [.p x0,.n x1,.n x2,.i x3]) Tryz.func133
theorem CW(x0 x1 x2:Int)(x3:OL)(x4 x5:Nat)(x6 x7 x8:Int)(x9:OL)(c0 c1:Nat):Xw 149 #[vg #[vi x0,vi x1,vi x2,vsl x3 x4 x5],vg #[vi x6,vi x7,vi x8,vsl x9 c0 c1]] λ_ H0 _ _ _ Q T=>(∀b0:Nat,(∀b1:Nat,(It (x0=x6) (It (x1=x7) (It (x2=x8) (Ck (0<=(x4:Int)) (Ck (0<=(c0:Int)) (It ((x4:Int)=(c0:Int)) (∃(I0:List Dat->Hp->Prop) (μ0:List Dat->Nat),I0 [.n 0] H0/\∀H1:Hp,∀c2:Nat,I0 [.n c2] H1->(It ((c2:Int)<(x4:Int)) (Ck ((0:Int)<=(c2:Int)/\(c2:Int)<(x4:Int)) (Ck (x3.isSome=true) (∃(c3 c4:Int),aa H1 x3 (0+((c2:Int) * 2)) [vi c3,vi c4]/\(Ck ((0:Int)<=(c2:Int)/\(c2:Int)<(c0:Int)) (Ck (x9.isSome=true) (∃(c5 c6:Int),aa H1 x9 (0+((c2:Int) * 2)) [vi c5,vi c6]/\(Q H1 nK λW1=>∃c7:Bool,Eo' (.bop .neq 184 (.tmp 45) (.tmp 50)) [vg #[vi c3,vi c4],vg #[vi c5,vi c6]] W1 (.value (vb (c7))) λW2=>Ext W1 W2/\(It (c7=true) (T H1 nK (vb (false))) (Ck (ae .i64 ((c2:Int)+1)) (Ck (0<=((c2:Int)+1)) (I0 [.n (((c2:Int)+1):Int).toNat] H1/\μ0 [.n (((c2:Int)+1):Int).toNat]<μ0 [.n c2]))))))))))) (T H1 nK (vb (true))))) (T H0 nK (vb (false)))))) (T H0 nK (vb (false)))) (T H0 nK (vb (false)))) (T H0 nK (vb (false)))))) :=
 Xa (hi:={loops := [(4,.inv [(5,.nat)] [])]}) (args := [.agg [vI 0,vI 1,vI 2,vS 3],.agg [vI 6,vI 7,vI 8,vS 9]]) (nv:=12) (e:=lk [.i x0,.i x1,.i x2,.p x3,.n x4,.n x5,.i x6,.i x7,.i x8,.p x9,.n c0,.n c1]) Tryz.func149
theorem BR(x0:OL)(x1 x2:Nat)(x3:OL)(x4 x5:Nat):Xw 131 #[vsl x0 x1 x2,vsl x3 x4 x5] λ_ H0 _ _ C _ T=>(Ck (0<=(x1:Int)) (Ck (0<=(x4:Int)) (It ((x1:Int)=(x4:Int)) (∃(I0:List Dat->Hp->Prop) (μ0:List Dat->Nat),I0 [.n 0] H0/\∀H1:Hp,∀x6:Nat,I0 [.n x6] H1->(It ((x6:Int)<(x1:Int)) (Ck ((0:Int)<=(x6:Int)/\(x6:Int)<(x1:Int)) (Ck (x0.isSome=true) (∃(x7 x8 x9:Int) (c0:OL) (c1 c2:Nat),aa H1 x0 (0+((x6:Int) * 4)) [vi x7,vi x8,vi x9,vsl c0 c1 c2]/\(Ck ((0:Int)<=(x6:Int)/\(x6:Int)<(x4:Int)) (Ck (x3.isSome=true) (∃(c3 c4 c5:Int) (c6:OL) (c7 c8:Nat),aa H1 x3 (0+((x6:Int) * 4)) [vi c3,vi c4,vi c5,vsl c6 c7 c8]/\(C H1 nK 149 #[vg #[vi x7,vi x8,vi x9,vsl c0 c1 c2],vg #[vi c3,vi c4,vi c5,vsl c6 c7 c8]] λz W1 W2=>∃c9:Bool,z=.returned (vb (c9))/\Ext W1 W2/\(It (c9=true) (Ck (ae .i64 ((x6:Int)+1)) (Ck (0<=((x6:Int)+1)) (I0 [.n (((x6:Int)+1):Int).toNat] H1/\μ0 [.n (((x6:Int)+1):Int).toNat]<μ0 [.n x6]))) (T H1 nK (vb (false))))))))))) (T H1 nK (vb (true))))) (T H0 nK (vb (false)))))) :=
 Xa (hi:={loops := [(4,.inv [(5,.nat)] [])]}) (args := [vS 0,vS 3]) (nv:=6) (e:=lk [.p x0,.n x1,.n x2,.p x3,.n x4,.n x5]) Tryz.func131
theorem oI(a last:Int)(r:Rep)(t:List Rep):dj a last (r::t)=(decide (last<r.seq/\r.seq<=a+3/\r.seq<=60/\-1<=r.val/\r.val<=999)&&dj a r.seq t):=rfl
theorem fg{s:Ses}(h:s.client<1\/5<s.client\/s.acked<0\/60<s.acked\/s.seen<0\/999<s.seen):vi 3=vi s.err:=by unfold Ses.err;rw[if_pos h]
theorem tx{s:Ses}(h:¬(s.client<1\/5<s.client\/s.acked<0\/60<s.acked\/s.seen<0\/999<s.seen))(hk:dj s.acked s.acked s.kept=false):vi 1=vi s.err:=by unfold Ses.err;rw[if_neg h,hk];rfl
theorem uI{s:Ses}(h:¬(s.client<1\/5<s.client\/s.acked<0\/60<s.acked\/s.seen<0\/999<s.seen))(hk:dj s.acked s.acked s.kept=true):vi 0=vi s.err:=by unfold Ses.err;rw[if_neg h,hk];rfl
theorem bM.at'{H:Hp}{p:OL}{n c:Nat}{l:List Rep}(h:bM H p n c l){k:Nat}(hk:k<n):∃r:Rep,l[k]?=some r/\aa H p (0+(k:Int) * 2) [vi r.seq,vi r.val]/\aa H p (0+(k:Int) * 2) [vi r.seq]/\aa H p (0+(k:Int) * 2+1) [vi r.val]:=by
 obtain⟨r,h1,h2⟩:=h.at hk;exact⟨r,h1,h2 _ (by omega)⟩
theorem bu(a lo hi:Int)(H:Hp):Gv Tryz.prog 52 #[vi a,vi lo,vi hi] H (vb (inR a lo hi)):=λW hH =>
 zn a lo hi noM H W _ hH ⟨λh=>Rt.gv' (by simp[inR,h]),λh=>Rt.gv' (by simp[inR,h])⟩
theorem Fx{H:Hp}{p:OL}{n c:Nat}{s:Ses}(hk:bM H p n c s.kept):Gv Tryz.prog 172 #[.agg #[vi s.client,vi s.acked,vi s.seen,vsl p n c]] H (vi s.err):=λW hH=>by
 refine FI _ _ _ p n c noM H W _ hH ?_;intro b0;refine⟨λh=>Rt.gv' (fg (by omega)),λh1=>⟨λh=>Rt.gv' (fg (by omega)),λh2=>⟨λh=>Rt.gv' (fg (by omega)),λh3=>⟨λh=>Rt.gv' (fg (by omega)),λh4=>⟨λh=>Rt.gv' (fg (by omega)),λh5=>⟨λh=>Rt.gv' (fg (by omega)),λh6=>?_⟩⟩⟩⟩⟩⟩;have hr:¬(s.client<1\/5<s.client\/s.acked<0\/60<s.acked\/s.seen<0\/999<s.seen):=by omega
 refine⟨by omega,λ_=>⟨λl K=>match l with | [.i k,.i last]=>∃j:Nat,k=j/\j<=n/\H.le K/\dj s.acked last (s.kept.drop j)=dj s.acked s.acked s.kept | _=>False,
  λl=>match l with | [.i k,_]=>n-k.toNat | _=>0,⟨0,rfl,by omega,Hp.le_refl H,by simp⟩,λK k last hI=>?_⟩⟩
 obtain⟨j,rfl,hj,hle,hok⟩:=hI;have hl63:=hk.lt63
 refine⟨λhlt=>⟨⟨by omega,hlt⟩,λ_=>?_⟩,λhge=>?_⟩
 ·obtain⟨r,hr1,hr2,_⟩:=(hk.mono hle).at' (k:=j) (by omega);refine⟨hr2.isSome,λ_=>⟨r.seq,r.val,hr2,λb1=>?_⟩⟩;rw[bB hr1,oI] at hok;have no:¬(last<r.seq/\r.seq<=s.acked+3/\r.seq<=60/\-1<=r.val/\r.val<=999)->vi 1=vi s.err:=λh=>tx hr (by rw[<- hok];simp only[decide_eq_false h,Bool.false_and])
  refine⟨λh=>Rt.gv' (no (by omega)),λg1=>⟨in64 (by omega),λ_=>⟨λh=>Rt.gv' (no (by omega)),λg2=>⟨λh=>Rt.gv' (no (by omega)),λg3=>⟨λh=>Rt.gv' (no (by omega)),λg4=>⟨λh=>Rt.gv' (no (by omega)),λg5=>⟨in64 (by omega),λ_=>?_⟩⟩⟩⟩⟩⟩⟩;refine⟨⟨j+1,by omega,by omega,hle,?_⟩,by simp only;omega⟩;rw[<- hok,decide_eq_true (by omega),Bool.true_and]
 ·refine Rt.gv' (uI hr ?_);rw[<- hok,List.drop_of_length_le (by have:=hk.len;omega)];rfl
def gW(s:Ses)(j:Nat):Int:=if j=0 then s.acked else ((s.kept[j-1]?).map Rep.seq).getD 0
theorem s6{H:Hp}{p:OL}{n c:Nat}{s:Ses}(hk:bM H p n c s.kept):Gv Tryz.prog 130 #[.agg #[vi s.client,vi s.acked,vi s.seen,vsl p n c]] H (vi s.err):=λW hH=>by
 refine AC _ _ _ p n c noM H W _ hH ?_;intro b0;refine Cl.same (bu _ _ _ _) λ_ _ hx=>⟨_,rfl,hx,λh1=>?_,λh=>Rt.gv' (fg (by rw[cd] at h;omega))⟩
 refine Cl.same (bu _ _ _ _) λ_ _ hx=>⟨_,rfl,hx,λh2=>?_,λh=>Rt.gv' (fg (by rw[cd] at h;omega))⟩
 refine Cl.same (bu _ _ _ _) λ_ _ hx=>⟨_,rfl,hx,λh3=>?_,λh=>Rt.gv' (fg (by rw[cd] at h;omega))⟩
 rw[cd] at h1 h2 h3;have hr:¬(s.client<1\/5<s.client\/s.acked<0\/60<s.acked\/s.seen<0\/999<s.seen):=by omega
 refine⟨λl K=>match l with | [.n j]=>j<=n/\H.le K/\s.acked<=gW s j/\dj s.acked (gW s j) (s.kept.drop j)=dj s.acked s.acked s.kept | _=>False,
  λl=>match l with | [.n j]=>n-j | _=>0,⟨by omega,Hp.le_refl H,by simp[gW],by simp[gW]⟩,λK j hI=>?_⟩
 obtain⟨hj,hle,hla,hok⟩:=hI;have hl63:=hk.lt63
 refine⟨by omega,λ_=>⟨λhlt=>⟨⟨by omega,hlt⟩,λ_=>?_⟩,λhge=>?_⟩⟩
 ·obtain⟨r,hr1,_,hr2,hr3⟩:=(hk.mono hle).at' (k:=j) (by omega);refine⟨hr2.isSome,λ_=>⟨r.seq,hr2,in64 (by omega),λ_=>⟨in64 (by omega),λ_=>?_⟩⟩⟩;rw[bB hr1,oI] at hok;have no:¬(gW s j<r.seq/\r.seq<=s.acked+3/\r.seq<=60/\-1<=r.val/\r.val<=999)->vi 1=vi s.err:=λh=>tx hr (by rw[<- hok];simp only[decide_eq_false h,Bool.false_and])
  have hl1:gW s (j+1)=r.seq:=by rw[gW,if_neg (by omega),Nat.add_sub_cancel,hr1];rfl
  have ht:((j:Int)+1).toNat=j+1:=by omega
  refine Cl.same (bu _ _ _ _) λ_ _ hx=>⟨_,rfl,hx,λg1=>?_,λh=>Rt.gv' (no (λhh=>h (by rw[cd];split<;>omega)))⟩
  rw[cd] at g1;refine⟨by omega,λ_=>⟨r.val,hr3,?_⟩⟩;refine Cl.same (bu _ _ _ _) λ_ _ hx=>⟨_,rfl,hx,λg2=>?_,λh=>Rt.gv' (no (by rw[cd] at h;omega))⟩
  rw[cd] at g2;have g1':s.acked<r.seq/\r.seq<=s.acked+3/\r.seq<=60:=by split at g1<;>omega
  have hnext:gW s j<r.seq->dj s.acked (gW s (j+1)) (s.kept.drop (j+1))=dj s.acked s.acked s.kept:=λh=>by rw[hl1,<- hok,decide_eq_true (by omega),Bool.true_and]
  refine⟨λhj0=>⟨in64 (by omega),λ_=>⟨⟨by omega,by omega⟩,λ_=>?_⟩⟩,λhj0=>?_⟩
  ·obtain⟨q,hq1,hq2⟩:=(hk.mono hle).at (k:=j-1) (by omega)
   have hq3:=(hq2 (0+((j:Int)-1) * 2) (by omega)).2.1;have hl:gW s j=q.seq:=by rw[gW,if_neg (by omega),hq1];rfl
   refine⟨q.seq,hq3,r.seq,hr2,λh=>Rt.gv' (no (by omega)),λh=>⟨in64 (by omega),λ_=>⟨by omega,λ_=>?_⟩⟩⟩;rw[ht];exact⟨⟨by omega,hle,by omega,hnext (by omega)⟩,by simp only;omega⟩
  ·have hl:gW s j=s.acked:=by rw[gW,if_pos (by omega)]
   refine⟨in64 (by omega),λ_=>⟨by omega,λ_=>?_⟩⟩;rw[ht];exact⟨⟨by omega,hle,by omega,hnext (by omega)⟩,by simp only;omega⟩
 ·refine Rt.gv' (uI hr ?_);rw[<- hok,List.drop_of_length_le (by have:=hk.len;omega)];rfl
theorem Tab.at'{H:Hp}{p:OL}{n c:Nat}{l:List Ses}(h:Tab H p n c l){k:Nat}(hk:k<n):∃(s:Ses) (q:OL) (m d:Nat),l[k]?=some s/\bM H q m d s.kept /\
  aa H p (0+(k:Int) * 4) [vi s.client,vi s.acked,vi s.seen,vsl q m d]/\aa H p (0+(k:Int) * 4) [vi s.client]:=by
 obtain⟨s,q,m,d,h1,h2,h3⟩:=h.at hk;exact⟨s,q,m,d,h1,h2,(h3 _ (by omega)).1,(h3 _ (by omega)).2.1⟩
theorem wW{l:List Ses}(h:3<l.length):vi 2=vi (dm l):=by unfold dm;rw[if_pos h]
theorem tN{l:List Ses}(h:¬3<l.length){e:Int}(he:e≠0)(hf:bL l=e):vi e=vi (dm l):=by unfold dm;rw[if_neg h,hf,if_neg he]
theorem xj{l:List Ses}(h:¬3<l.length)(hf:bL l=0)(ho:eg 0 l=false):vi 1=vi (dm l):=by unfold dm;rw[if_neg h,hf,if_pos rfl,ho];rfl
theorem DH{l:List Ses}(h:¬3<l.length)(hf:bL l=0)(ho:eg 0 l=true):vi 0=vi (dm l):=by unfold dm;rw[if_neg h,hf,if_pos rfl,ho];rfl
theorem Db{H:Hp}{p:OL}{n c:Nat}{l:List Ses}(hT:Tab H p n c l):Gv Tryz.prog 151 #[vsl p n c] H (vi (dm l)):=λW hH=>by
 have hn:=hT.len;refine B7 p n c noM H W _ hH ⟨by omega,λ_=>⟨λh=>Rt.gv' (wW (by omega)),λh3=>?_⟩⟩;have hl:¬3<l.length:=by omega
 refine⟨λv K=>match v with | [.i k]=>∃j:Nat,k=j/\j<=n/\H.le K/\bL (l.drop j)=bL l | _=>False,λv=>match v with | [.i k]=>n-k.toNat | _=>0,⟨0,rfl,by omega,Hp.le_refl H,by simp⟩,λK k hI=>?_⟩;obtain⟨j,rfl,hj,hle,hf⟩:=hI;refine⟨λhlt=>⟨⟨by omega,hlt⟩,λ_=>?_⟩,λhge=>?_⟩
 ·obtain⟨s,q,m,d,hs,hq,hat,_⟩:=(hT.mono hle).at' (k:=j) (by omega);rw[bB hs,bL] at hf;refine⟨hat.isSome,λ_=>⟨_,_,_,q,m,d,hat,λb0=>?_⟩⟩;refine Cl.same (Fx hq) λ_ _ hx=>⟨_,rfl,hx,λh0=>⟨in64 (by omega),λ_=>⟨⟨j+1,by omega,by omega,hle,?_⟩,by simp only;omega⟩⟩,λh0=>Rt.gv' (tN hl h0 ?_)⟩
  ·rw[<- hf,if_pos h0]
  ·rw[<- hf,if_neg h0]
 ·have hf0:bL l=0:=by rw[<- hf,List.drop_of_length_le (by omega)];rfl
  refine⟨λv K=>match v with | [.i k,.i last]=>∃j:Nat,k=j/\j<=n/\H.le K/\eg last (l.drop j)=eg 0 l | _=>False,λv=>match v with | [.i k,_]=>n-k.toNat | _=>0,⟨0,rfl,by omega,hle,by simp⟩,λK' k last hI=>?_⟩;obtain⟨i,rfl,hi,hle',ho⟩:=hI;refine⟨λhlt=>⟨⟨by omega,hlt⟩,λ_=>?_⟩,λhge=>?_⟩
  ·obtain⟨s,q,m,d,hs,hq,hat,_⟩:=(hT.mono hle').at' (k:=i) (by omega);rw[bB hs,eg] at ho;refine⟨hat.isSome,λ_=>⟨_,_,_,q,m,d,hat,λb0=>⟨λh0=>Rt.gv' (xj hl hf0 ?_),λh0=>⟨in64 (by omega),λ_=>⟨⟨i+1,by omega,by omega,hle',?_⟩,by simp only;omega⟩⟩⟩⟩⟩
   ·rw[<- ho,decide_eq_false (by omega),Bool.false_and]
   ·rw[<- ho,decide_eq_true (by omega),Bool.true_and]
  ·refine Rt.gv' (DH hl hf0 ?_);rw[<- ho,List.drop_of_length_le (by omega)];rfl
def kL(l:List Ses)(i:Nat):Int:=((l[i]?).map Ses.client).getD 0
theorem sK{H:Hp}{p:OL}{n c:Nat}{l:List Ses}(hT:Tab H p n c l):Gv Tryz.prog 101 #[vsl p n c] H (vi (dm l)):=λW hH=>by
 have hn:=hT.len;refine Ax p n c noM H W _ hH ⟨by omega,λ_=>⟨λh=>Rt.gv' (wW (by omega)),λh3=>?_⟩⟩;have hl:¬3<l.length:=by omega
 refine⟨λv K=>match v with | [.n j]=>j<=n/\H.le K/\bL (l.drop j)=bL l | _=>False,λv=>match v with | [.n j]=>n-j | _=>0,⟨by omega,Hp.le_refl H,by simp⟩,λK j hI=>?_⟩;obtain⟨hj,hle,hf⟩:=hI;have ht:((j:Int)+1).toNat=j+1:=by omega
 refine⟨λhlt=>⟨⟨by omega,hlt⟩,λ_=>?_⟩,λhge=>?_⟩
 ·obtain⟨s,q,m,d,hs,hq,hat,_⟩:=(hT.mono hle).at' (k:=j) (by omega);rw[bB hs,bL] at hf;refine⟨hat.isSome,λ_=>⟨_,_,_,q,m,d,hat,?_⟩⟩;refine Cl.same (s6 hq) λ_ _ hx=>⟨_,rfl,hx,λh0=>⟨in64 (by omega),λ_=>⟨by omega,λ_=>?_⟩⟩,λh0=>Rt.gv' (tN hl h0 ?_)⟩
  ·rw[ht];refine⟨⟨by omega,hle,?_⟩,by simp only;omega⟩;rw[<- hf,if_pos h0]
  ·rw[<- hf,if_neg h0]
 ·have hf0:bL l=0:=by rw[<- hf,List.drop_of_length_le (by omega)];rfl
  have hone:=lm.1 hf0;refine⟨λv K=>match v with | [.n j]=>1<=j/\(j<=n\/j=1)/\H.le K/\eg (kL l (j-1)) (l.drop j)=eg 0 l | _=>False,λv=>match v with | [.n j]=>n-j | _=>0,⟨by omega,by omega,hle,?_⟩,λK' i hI=>?_⟩
  ·cases l with
   | nil=>rfl
   | cons s t =>
    have:=(Ses.err_ok (hone s (List.mem_cons_self ..))).1;simp only[eg]
    rw[decide_eq_true (by omega),Bool.true_and];rfl
  obtain⟨hi1,hi,hle',ho⟩:=hI;have ht:((i:Int)+1).toNat=i+1:=by omega
  refine⟨λhlt=>⟨in64 (by omega),λ_=>⟨⟨by omega,by omega⟩,λ_=>?_⟩⟩,λhge=>?_⟩
  ·obtain⟨s,q,m,d,hs,hq,hat,hat2⟩:=(hT.mono hle').at' (k:=i) (by omega);obtain⟨s',q',m',d',hs',hq',hat'⟩:=(hT.mono hle').at (k:=i-1) (by omega)
   have h4:=(hat' (0+((i:Int)-1) * 4) (by omega)).2.1;have hc:kL l (i-1)=s'.client:=by simp only[kL,hs',Option.map_some,Option.getD_some]
   have hc2:kL l (i+1-1)=s.client:=by simp only[kL,Nat.add_sub_cancel,hs,Option.map_some,Option.getD_some]
   rw[bB hs,eg,hc] at ho;refine⟨hat.isSome,λ_=>⟨_,h4,⟨by omega,hlt⟩,λ_=>⟨_,hat2,λh0=>Rt.gv' (xj hl hf0 ?_),λh0=>⟨in64 (by omega),λ_=>⟨by omega,λ_=>?_⟩⟩⟩⟩⟩
   ·rw[<- ho,decide_eq_false (by omega),Bool.false_and]
   ·rw[ht];refine⟨⟨by omega,by omega,hle',?_⟩,by simp only;omega⟩;rw[hc2,<- ho,decide_eq_true (by omega),Bool.true_and]
  ·refine Rt.gv' (DH hl hf0 ?_);rw[<- ho,List.drop_of_length_le (by omega)];rfl
def jG(c:Int):Nat->List Ses->Int
 | _,[]=>-1
 | k,s::t=>if s.client=c then k else jG c (k+1) t
theorem Ct{H:Hp}{p:OL}{n c:Nat}{l:List Ses}(hT:Tab H p n c l)(x:Int):Gv Tryz.prog 133 #[vsl p n c,vi x] H (vi (jG x 0 l)):=λW hH=>by
 have hn:=hT.len;have h63:=hT.lt63
 refine Cm p n c x noM H W _ hH ⟨λv K=>match v with | [.n j]=>j<=n/\H.le K/\jG x j (l.drop j)=jG x 0 l | _=>False,λv=>match v with | [.n j]=>n-j | _=>0,⟨by omega,Hp.le_refl H,by simp⟩,λK j hI=>?_⟩;obtain⟨hj,hle,hf⟩:=hI;have ht:((j:Int)+1).toNat=j+1:=by omega
 refine⟨by omega,λ_=>⟨λhlt=>⟨⟨by omega,hlt⟩,λ_=>?_⟩,λhge=>?_⟩⟩
 ·obtain⟨s,q,m,d,hs,hq,_,hat⟩:=(hT.mono hle).at' (k:=j) (by omega);rw[bB hs,jG] at hf;refine⟨hat.isSome,λ_=>⟨_,hat,λh0=>Rt.gv' (by rw[<- hf,if_pos h0]),λh0=>⟨in64 (by omega),λ_=>⟨by omega,λ_=>?_⟩⟩⟩⟩;rw[ht];exact⟨⟨by omega,hle,by rw[<- hf,if_neg h0]⟩,by simp only;omega⟩
 ·refine Rt.gv' ?_;rw[<- hf,List.drop_of_length_le (by omega)];rfl
theorem Ses.eq_iff(s t:Ses):s=t↔s.client=t.client/\s.acked=t.acked/\s.seen=t.seen/\s.kept=t.kept:=by cases s;cases t;simp
theorem oU{α:Type}[DecidableEq α]{l m:List α}{k:Nat}{x y:α}(hx:l[k]?=some x)(hy:m[k]?=some y):(l.drop k=m.drop k)↔(x=y/\l.drop (k+1)=m.drop (k+1)):=by
 rw[bB hx,bB hy,List.cons.injEq]
theorem DD{H:Hp}{p p':OL}{n c n' c':Nat}{s t:Ses}(hk:bM H p n c s.kept)(hk':bM H p' n' c' t.kept) :
  Gv Tryz.prog 149 #[.agg #[vi s.client,vi s.acked,vi s.seen,vsl p n c],.agg #[vi t.client,vi t.acked,vi t.seen,vsl p' n' c']] H (vb (decide (s=t))):=λW hH=>by
 have no:¬(s.client=t.client/\s.acked=t.acked/\s.seen=t.seen/\s.kept=t.kept)->vb false=vb (decide (s=t)):=λh=>by rw[decide_eq_false (by rw[Ses.eq_iff];exact h)]
 have hn:=hk.len;have hn':=hk'.len
 have h63:=hk.lt63;refine CW _ _ _ p n c _ _ _ p' n' c' noM H W _ hH ?_;intro b0 b1;refine⟨λh1=>⟨λh2=>⟨λh3=>⟨by omega,λ_=>⟨by omega,λ_=>⟨λh4=>?_,λh4=>Rt.gv' (no (λh=>h4 (by rw[hn,hn',h.2.2.2])))⟩⟩⟩,λh=>Rt.gv' (no (λhh=>h hh.2.2.1))⟩,λh=>Rt.gv' (no (λhh=>h hh.2.1))⟩,λh=>Rt.gv' (no (λhh=>h hh.1))⟩;refine⟨λv K=>match v with | [.n j]=>j<=n/\H.le K/\(s.kept.drop j=t.kept.drop j↔s.kept=t.kept) | _=>False,λv=>match v with | [.n j]=>n-j | _=>0,⟨by omega,Hp.le_refl H,by simp⟩,λK j hI=>?_⟩;obtain⟨hj,hle,hf⟩:=hI;have ht:((j:Int)+1).toNat=j+1:=by omega
 refine⟨λhlt=>⟨⟨by omega,hlt⟩,λ_=>?_⟩,λhge=>Rt.gv' ?_⟩
 ·obtain⟨r,hr,hat,_⟩:=(hk.mono hle).at' (k:=j) (by omega);obtain⟨r',hr',hat',_⟩:=(hk'.mono hle).at' (k:=j) (by omega);rw[oU hr hr'] at hf;refine⟨hat.isSome,λ_=>⟨_,_,hat,⟨by omega,by omega⟩,λ_=>⟨hat'.isSome,λ_=>⟨_,_,hat',?_⟩⟩⟩⟩;intro W1 _ _;refine⟨_,_,qZ ..,Ext.refl _,λh0=>Rt.gv' (no (λhh=>?_)),λh0=>⟨in64 (by omega),λ_=>⟨by omega,λ_=>?_⟩⟩⟩
  ·simp only[Bool.not_eq_true',decide_eq_false_iff_not] at h0;exact h0 (hf.2 hh.2.2.2).1
  ·simp only[Bool.not_eq_true,Bool.not_eq_false',decide_eq_true_eq] at h0;rw[ht];refine⟨⟨by omega,hle,?_⟩,by simp only;omega⟩;rw[<- hf];exact⟨λh=>⟨h0,h⟩,λh=>h.2⟩
 ·rw[decide_eq_true];rw[Ses.eq_iff];exact⟨h1,h2,h3,hf.1 (by rw[List.drop_of_length_le (by omega),List.drop_of_length_le (by omega)])⟩
theorem DF{H:Hp}{p p':OL}{n c n' c':Nat}{l m:List Ses}(hT:Tab H p n c l)(hT':Tab H p' n' c' m):Gv Tryz.prog 131 #[vsl p n c,vsl p' n' c'] H (vb (decide (l=m))):=λW hH=>by
 have hn:=hT.len;have hn':=hT'.len
 have h63:=hT.lt63;refine BR p n c p' n' c' noM H W _ hH ⟨by omega,λ_=>⟨by omega,λ_=>⟨λh1=>?_,λh1=>Rt.gv' (by rw[decide_eq_false (λh=>h1 (by rw[hn,hn',h]))])⟩⟩⟩;refine⟨λv K=>match v with | [.n j]=>j<=n/\H.le K/\(l.drop j=m.drop j↔l=m) | _=>False,λv=>match v with | [.n j]=>n-j | _=>0,⟨by omega,Hp.le_refl H,by simp⟩,λK j hI=>?_⟩;obtain⟨hj,hle,hf⟩:=hI;have ht:((j:Int)+1).toNat=j+1:=by omega
 refine⟨λhlt=>⟨⟨by omega,hlt⟩,λ_=>?_⟩,λhge=>Rt.gv' ?_⟩
 ·obtain⟨s,q,k,d,hs,hq,hat,_⟩:=(hT.mono hle).at' (k:=j) (by omega);obtain⟨s',q',k',d',hs',hq',hat',_⟩:=(hT'.mono hle).at' (k:=j) (by omega);rw[oU hs hs'] at hf;refine⟨hat.isSome,λ_=>⟨_,_,_,_,_,_,hat,⟨by omega,by omega⟩,λ_=>⟨hat'.isSome,λ_=>⟨_,_,_,_,_,_,hat',?_⟩⟩⟩⟩;refine Cl.same (DD hq hq') λ_ _ hx=>⟨_,rfl,hx,λh0=>⟨in64 (by omega),λ_=>⟨by omega,λ_=>?_⟩⟩,λh0=>Rt.gv' ?_⟩
  ·rw[ht];refine⟨⟨by omega,hle,?_⟩,by simp only;omega⟩;rw[<- hf];exact⟨λh=>⟨of_decide_eq_true h0,h⟩,λh=>h.2⟩
  ·rw[decide_eq_false];exact λh=>h0 (decide_eq_true (hf.2 h).1)
 ·rw[decide_eq_true (hf.1 (by rw[List.drop_of_length_le (by omega),List.drop_of_length_le (by omega)]))]
end Go.Proofs.YtfpmcmhihhnfgaaGreatDoor
