/- Entries as plain data, and what the document says of one. No conditions. -/
import Derived.Test.YtfpmcmhihhnfgaaGreatDoorKS1
import Derived.Test.YtfpmcmhihhnfgaaGreatDoorKO1
set_option linter.unusedVariables false
set_option linter.unusedSimpArgs false
namespace Go.Proofs.YtfpmcmhihhnfgaaGreatDoor
open Go.RowKit
structure Ent where
 kind:Int
 time:Int
 client:Int
 seq:Int
 ack:Int
 op:POp
 deriving DecidableEq
def POp.none:POp:=⟨0,0,0,0⟩
def Ent.zero:Ent:=⟨0,0,0,0,0,POp.none⟩
def Ent.err(e:Ent):Int :=
 if e.kind<1\/3<e.kind then 4
 else if e.time<0\/999<e.time\/e.client<1\/5<e.client then 3
 else if e.kind=2 then (if e.seq<1\/60<e.seq\/e.ack<0\/e.seq<=e.ack then 3 else e.op.err)
 else if e.seq=0/\e.ack=0/\e.op=POp.none then 0 else 1
theorem m9{e:Ent}(h:e.kind<1\/3<e.kind):e.err=4:=by unfold Ent.err;rw[if_pos h]
theorem gY{e:Ent}(h0:¬(e.kind<1\/3<e.kind))(h:e.time<0\/999<e.time\/e.client<1\/5<e.client):e.err=3:=by unfold Ent.err;rw[if_neg h0,if_pos h]
theorem jY{e:Ent}(h0:¬(e.kind<1\/3<e.kind))(h1:¬(e.time<0\/999<e.time\/e.client<1\/5<e.client))(h2:e.kind=2):e.err=if e.seq<1\/60<e.seq\/e.ack<0\/e.seq<=e.ack then 3 else e.op.err:=by unfold Ent.err;rw[if_neg h0,if_neg h1,if_pos h2]
theorem iT{e:Ent}(h0:¬(e.kind<1\/3<e.kind))(h1:¬(e.time<0\/999<e.time\/e.client<1\/5<e.client))(h2:¬e.kind=2):e.err=if e.seq=0/\e.ack=0/\e.op=POp.none then 0 else 1:=by unfold Ent.err;rw[if_neg h0,if_neg h1,if_neg h2]
set_option maxRecDepth 100000
abbrev POp.vals(x:POp):Value:=.agg #[vi x.kind,vi x.key,vi x.to,vi x.n]
abbrev Ent.val(e:Ent):Value:=.agg #[vi e.kind,vi e.time,vi e.client,vi e.seq,vi e.ack,vi e.op.kind,vi e.op.key,vi e.op.to,vi e.op.n]
theorem sq(a b c d:Value):(∀w,(part 3 #[a,b,c,d] 0).run Tryz.prog w=.ok a w)/\(∀w,(part 3 #[a,b,c,d] 1).run Tryz.prog w=.ok b w)/\(∀w,(part 3 #[a,b,c,d] 2).run Tryz.prog w=.ok c w)/\(∀w,(part 3 #[a,b,c,d] 3).run Tryz.prog w=.ok d w) :=
 ⟨λ_=>by kernel_rfl,λ_=>by kernel_rfl,λ_=>by kernel_rfl,λ_=>by kernel_rfl⟩
theorem Ca:Program.stoodInHeld Tryz.prog 82=false:=by kernel_rfl
theorem Cc:Program.eqGuardType Tryz.prog Tryz.prog.depth 82=false:=by kernel_rfl
theorem tK(x y:POp)(n:Nat)(w:World):(Op.equalIn (n+2) 82 x.vals y.vals).run Tryz.prog w=.ok (decide (x=y)) w:=by
 have hf:Tryz.prog.underlying 82=some (.struct (Tryz.prog.fieldsOf 82)):=by simp only[Program.fieldsOf,Tryz.underlying82]
 rw[run_equalIn_struct (P:=Tryz.prog) w (n+1) _ _ _ hf Ca];obtain⟨x0,x1,x2,x3⟩:=x;obtain⟨y0,y1,y2,y3⟩:=y;have p0:∀(a b c d:Value) (w:World),(part 3 #[a,b,c,d] 0).run Tryz.prog w=.ok a w:=λa b c d=>(sq a b c d).1
 have p1:∀(a b c d:Value) (w:World),(part 3 #[a,b,c,d] 1).run Tryz.prog w=.ok b w:=λa b c d=>(sq a b c d).2.1;have p2:∀(a b c d:Value) (w:World),(part 3 #[a,b,c,d] 2).run Tryz.prog w=.ok c w:=λa b c d=>(sq a b c d).2.2.1
 have p3:∀(a b c d:Value) (w:World),(part 3 #[a,b,c,d] 3).run Tryz.prog w=.ok d w:=λa b c d=>(sq a b c d).2.2.2;have e:∀(a b:Int) (w:World),(Op.equalIn (n+1) 3 (vi a) (vi b)).run Tryz.prog w=.ok (a==b) w:=λa b w=>run_equalIn_int w n _ _ _ a b Tryz.underlying3
 simp only[Program.fieldsOf,Tryz.underlying82,Op.eqFields]
 by_cases h0:x0=y0<;>by_cases h1:x1=y1<;>by_cases h2:x2=y2<;>by_cases h3:x3=y3<;>simp[p0,p1,p2,p3,e,h0,h1,h2,h3]
theorem Bb(a b:Operand)(x y:POp)(w:World):(EK.sem (.bop .neq 82 a b) [x.vals,y.vals]).run Tryz.prog w=.ok (.value (vb (!decide (x=y)))) w:=by
 have:=tK x y 9998 w;simp[EK.sem,run_eqGuard_agg (P:=Tryz.prog) w .neq 82 a b _ _ Cc,run_neq_struct,this]
section
variable(a0 a1 a2 a3 a4 a5 a6 a7 a8:Value)(w:World)
theorem pe0:(part 3 #[a0,a1,a2,a3,a4,a5,a6,a7,a8] 0).run Tryz.prog w=.ok a0 w:=by kernel_rfl
theorem pe1:(part 3 #[a0,a1,a2,a3,a4,a5,a6,a7,a8] 1).run Tryz.prog w=.ok a1 w:=by kernel_rfl
theorem pe2:(part 3 #[a0,a1,a2,a3,a4,a5,a6,a7,a8] 2).run Tryz.prog w=.ok a2 w:=by kernel_rfl
theorem pe3:(part 3 #[a0,a1,a2,a3,a4,a5,a6,a7,a8] 3).run Tryz.prog w=.ok a3 w:=by kernel_rfl
theorem pe4:(part 3 #[a0,a1,a2,a3,a4,a5,a6,a7,a8] 4).run Tryz.prog w=.ok a4 w:=by kernel_rfl
theorem pe5:(part 82 #[a0,a1,a2,a3,a4,a5,a6,a7,a8] 5).run Tryz.prog w=.ok (.agg #[a5,a6,a7,a8]) w:=by kernel_rfl
end
theorem Ad:Program.stoodInHeld Tryz.prog 84=false:=by kernel_rfl
theorem AB:Program.eqGuardType Tryz.prog Tryz.prog.depth 84=false:=by kernel_rfl
theorem xO(x y:Ent)(w:World):(Op.equalIn 10000 84 x.val y.val).run Tryz.prog w=.ok (decide (x=y)) w:=by
 have hf:Tryz.prog.underlying 84=some (.struct (Tryz.prog.fieldsOf 84)):=by simp only[Program.fieldsOf,Tryz.underlying84]
 rw[run_equalIn_struct (P:=Tryz.prog) w 9999 _ _ _ hf Ad];obtain⟨x0,x1,x2,x3,x4,xo⟩:=x;obtain⟨y0,y1,y2,y3,y4,yo⟩:=y;have e:∀(a b:Int) (w:World),(Op.equalIn 9999 3 (vi a) (vi b)).run Tryz.prog w=.ok (a==b) w:=λa b w=>run_equalIn_int w 9998 _ _ _ a b Tryz.underlying3
 have eo:∀w:World,(Op.equalIn 9999 82 (.agg #[vi xo.kind,vi xo.key,vi xo.to,vi xo.n]) (.agg #[vi yo.kind,vi yo.key,vi yo.to,vi yo.n])).run Tryz.prog w=.ok (decide (xo=yo)) w:=λw=>tK xo yo 9997 w;simp only[Program.fieldsOf,Tryz.underlying84,Op.eqFields]
 by_cases h0:x0=y0<;>by_cases h1:x1=y1<;>by_cases h2:x2=y2<;>by_cases h3:x3=y3<;>by_cases h4:x4=y4<;>simp[pe0,pe1,pe2,pe3,pe4,pe5,e,eo,h0,h1,h2,h3,h4]
 by_cases h5:xo=yo
 ·rw[if_pos h5,decide_eq_true h5]
 ·rw[if_neg h5,decide_eq_false h5]
theorem yw(a b:Operand)(x y:Ent)(w:World):(EK.sem (.bop .neq 84 a b) [x.val,y.val]).run Tryz.prog w=.ok (.value (vb (!decide (x=y)))) w:=by
 simp[EK.sem,run_eqGuard_agg (P:=Tryz.prog) w .neq 84 a b _ _ AB,run_neq_struct,xO]
set_option maxRecDepth 100000
set_option maxHeartbeats 4000000
theorem wl(x0 x1 x2 x3 x4 x5 x6 x7 x8:Int):Xw 114 #[vg #[vi x0,vi x1,vi x2,vi x3,vi x4,vi x5,vi x6,vi x7,vi x8]] λ_ H0 _ _ C Q T=>(∀b0:Nat,(∀b1:Nat,(It (x0<1) (T H0 nK (vi 4)) (It (3<x0) (T H0 nK (vi 4)) (It (x1<0) (T H0 nK (vi 3)) (It (999<x1) (T H0 nK (vi 3)) (It (x2<1) (T H0 nK (vi 3)) (It (5<x2) (T H0 nK (vi 3)) (It (x0=2) (It (x3<1) (T H0 nK (vi 3)) (It (60<x3) (T H0 nK (vi 3)) (It (x4<0) (T H0 nK (vi 3)) (It (x3<=x4) (T H0 nK (vi 3)) (C H0 nK 141 #[vg #[vi x5,vi x6,vi x7,vi x8]] λz W1 W2=>∃x9:Int,z=.returned (vi x9)/\Ext W1 W2/\T H0 nK (vi x9)))))) (Q H0 nK λW1=>∃x9:Bool,Eo' (.bop .neq 84 (.tmp 71) (.tmp 72)) [vg #[vi x0,vi x1,vi x2,vi x3,vi x4,vi x5,vi x6,vi x7,vi x8],vg #[vi x0,vi x1,vi x2,vi 0,vi 0,vi 0,vi 0,vi 0,vi 0]] W1 (.value (vb (x9))) λW2=>Ext W1 W2/\(It (x9=true) (T H0 nK (vi 1)) (T H0 nK (vi 0))))))))))))) :=
 Xa (hi:={}) (args := [.agg [vI 0,vI 1,vI 2,vI 3,vI 4,vI 5,vI 6,vI 7,vI 8]]) (nv:=9) (e:=lk [.i x0,.i x1,.i x2,.i x3,.i x4,.i x5,.i x6,.i x7,.i x8]) Tryz.func114
theorem zt(x0 x1 x2 x3 x4 x5 x6 x7 x8:Int):Xw 99 #[vg #[vi x0,vi x1,vi x2,vi x3,vi x4,vi x5,vi x6,vi x7,vi x8]] λ_ H0 _ _ C Q T=>(∀b0:Nat,(C H0 nK 52 #[vi x0,vi 1,vi 3] λz W1 W2=>∃x9:Bool,z=.returned (vb (x9))/\Ext W1 W2/\(It (x9=true) (C H0 nK 52 #[vi x1,vi 0,vi 999] λz W3 W4=>∃c0:Bool,z=.returned (vb (c0))/\Ext W3 W4/\(It (c0=true) (C H0 nK 52 #[vi x2,vi 1,vi 5] λz W5 W6=>∃c1:Bool,z=.returned (vb (c1))/\Ext W5 W6/\(It (c1=true) (It (x0=2) (C H0 nK 52 #[vi x3,vi 1,vi 60] λz W7 W8=>∃c2:Bool,z=.returned (vb (c2))/\Ext W7 W8/\(It (c2=true) (Ck (ae .i64 (x3-1)) (C H0 nK 52 #[vi x4,vi 0,vi (x3-1)] λz W9 W10=>∃c3:Bool,z=.returned (vb (c3))/\Ext W9 W10/\(It (c3=true) (C H0 nK 129 #[vg #[vi x5,vi x6,vi x7,vi x8]] λz W11 W12=>∃c4:Int,z=.returned (vi c4)/\Ext W11 W12/\T H0 nK (vi c4)) (T H0 nK (vi 3))))) (T H0 nK (vi 3)))) (It (x3=0) (It (x4=0) (Q H0 nK λW7=>∃c2:Bool,Eo' (.bop .neq 82 (.tmp 30) (.tmp 31)) [vg #[vi x5,vi x6,vi x7,vi x8],vg #[vi 0,vi 0,vi 0,vi 0]] W7 (.value (vb (c2))) λW8=>Ext W7 W8/\(It (c2=true) (T H0 nK (vi 1)) (T H0 nK (vi 0)))) (T H0 nK (vi 1))) (T H0 nK (vi 1)))) (T H0 nK (vi 3)))) (T H0 nK (vi 3)))) (T H0 nK (vi 4))))) :=
 Xa (hi:={}) (args := [.agg [vI 0,vI 1,vI 2,vI 3,vI 4,vI 5,vI 6,vI 7,vI 8]]) (nv:=9) (e:=lk [.i x0,.i x1,.i x2,.i x3,.i x4,.i x5,.i x6,.i x7,.i x8]) Tryz.func99
theorem yp(x:POp)(H:Hp):Gv Tryz.prog 141 #[x.vals] H (vi x.err):=λW _=>Bc x.kind x.key x.to x.n W
theorem Cb(x:POp)(H:Hp):Gv Tryz.prog 129 #[x.vals] H (vi x.err):=λW _=>BZ x.kind x.key x.to x.n W
theorem pz(e:Ent)(H:Hp):Gv Tryz.prog 114 #[e.val] H (vi e.err):=λW hH=>by
 refine wl _ _ _ _ _ _ _ _ _ noM H W _ hH λb0 b1=>?_;refine⟨λh=>Rt.gv' (by rw[m9 (by omega)]),λk1=>⟨λh=>Rt.gv' (by rw[m9 (by omega)]),λk2=>?_⟩⟩;have h0:¬(e.kind<1\/3<e.kind):=by omega
 refine⟨λh=>Rt.gv' (by rw[gY h0 (by omega)]),λk3=>⟨λh=>Rt.gv' (by rw[gY h0 (by omega)]),λk4=>⟨λh=>Rt.gv' (by rw[gY h0 (by omega)]),λk5=>⟨λh=>Rt.gv' (by rw[gY h0 (by omega)]),λk6=>?_⟩⟩⟩⟩;have h1:¬(e.time<0\/999<e.time\/e.client<1\/5<e.client):=by omega
 refine⟨λhc=>?_,λhc=>?_⟩
 ·have no:(e.seq<1\/60<e.seq\/e.ack<0\/e.seq<=e.ack)->vi 3=vi e.err:=λh=>by rw[jY h0 h1 hc,if_pos h]
  refine⟨λh=>Rt.gv' (no (by omega)),λj1=>⟨λh=>Rt.gv' (no (by omega)),λj2=>⟨λh=>Rt.gv' (no (by omega)),λj3=>⟨λh=>Rt.gv' (no (by omega)),λj4=>?_⟩⟩⟩⟩;refine Cl.same (yp e.op H) λ_ _ hx=>⟨_,rfl,hx,Rt.gv' (by rw[jY h0 h1 hc,if_neg (by omega)])⟩
 ·intro W1 _ _;refine⟨_,_,yw _ _ e ⟨e.kind,e.time,e.client,0,0,POp.none⟩ _,Ext.refl _,λh=>Rt.gv' ?_,λh=>Rt.gv' ?_⟩
  ·simp only[Bool.not_eq_true',decide_eq_false_iff_not] at h;rw[iT h0 h1 hc,if_neg];rintro⟨g1,g2,g3⟩;exact h (by cases e;simp_all)
  ·simp only[Bool.not_eq_true,Bool.not_eq_false',decide_eq_true_eq] at h;rw[iT h0 h1 hc,if_pos];rw[h];exact⟨rfl,rfl,rfl⟩
theorem tl(e:Ent)(hs:-9223372036854775808<=e.seq/\e.seq<=9223372036854775807)(H:Hp):Gv Tryz.prog 99 #[e.val] H (vi e.err):=λW hH=>by
 refine zt _ _ _ _ _ _ _ _ _ noM H W _ hH λb0=>?_;refine Cl.same (bu e.kind 1 3 H) λ_ _ hx=>⟨_,rfl,hx,λk1=>?_,λh=>Rt.gv' (by simp only[Bool.not_eq_true,ic] at h;rw[m9 (by omega)])⟩
 rw[cd] at k1;have h0:¬(e.kind<1\/3<e.kind):=by omega
 refine Cl.same (bu e.time 0 999 H) λ_ _ hx=>⟨_,rfl,hx,λk2=>?_,λh=>Rt.gv' (by simp only[Bool.not_eq_true,ic] at h;rw[gY h0 (by omega)])⟩
 refine Cl.same (bu e.client 1 5 H) λ_ _ hx=>⟨_,rfl,hx,λk3=>?_,λh=>Rt.gv' (by simp only[Bool.not_eq_true,ic] at h;rw[gY h0 (by omega)])⟩
 rw[cd] at k2 k3;have h1:¬(e.time<0\/999<e.time\/e.client<1\/5<e.client):=by omega
 refine⟨λhc=>?_,λhc=>?_⟩
 ·have no:(e.seq<1\/60<e.seq\/e.ack<0\/e.seq<=e.ack)->vi 3=vi e.err:=λh=>by rw[jY h0 h1 hc,if_pos h]
  refine Cl.same (bu e.seq 1 60 H) λ_ _ hx=>⟨_,rfl,hx,λk4=>?_,λh=>Rt.gv' (by simp only[Bool.not_eq_true,ic] at h;exact no (by omega))⟩
  rw[cd] at k4;refine⟨in64 (by omega),λ_=>Cl.same (bu e.ack 0 (e.seq-1) H) λ_ _ hx=>⟨_,rfl,hx,λk5=>?_,λh=>Rt.gv' (by simp only[Bool.not_eq_true,ic] at h;exact no (by omega))⟩⟩;rw[cd] at k5;exact Cl.same (Cb e.op H) λ_ _ hx=>⟨_,rfl,hx,Rt.gv' (by rw[jY h0 h1 hc,if_neg (by omega)])⟩
 ·have no:¬(e.seq=0/\e.ack=0/\e.op=POp.none)->vi 1=vi e.err:=λh=>by rw[iT h0 h1 hc,if_neg h]
  refine⟨λg1=>⟨λg2=>λW1 _ _=>?_,λh=>Rt.gv' (no (λhh=>h hh.2.1))⟩,λh=>Rt.gv' (no (λhh=>h hh.1))⟩;refine⟨_,_,Bb _ _ e.op POp.none _,Ext.refl _,λh=>Rt.gv' ?_,λh=>Rt.gv' ?_⟩
  ·simp only[Bool.not_eq_true',decide_eq_false_iff_not] at h;exact no (λhh=>h hh.2.2)
  ·simp only[Bool.not_eq_true,Bool.not_eq_false',decide_eq_true_eq] at h;rw[iT h0 h1 hc,if_pos ⟨g1,g2,h⟩]
end Go.Proofs.YtfpmcmhihhnfgaaGreatDoor
