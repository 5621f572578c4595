/- op.Do and the reference's DoOf. No conditions. -/
import Derived.Test.YtfpmcmhihhnfgaaGreatDoorKO1
import Derived.ChangeKeysEq
set_option linter.unusedVariables false
set_option linter.unusedSimpArgs false
namespace Go.Proofs.YtfpmcmhihhnfgaaGreatDoor
open Go.RowKit
theorem Cr(v:V4)(k key to n:Int)(w:World)(hx:POp.err ⟨k,key,to,n⟩=0)(hv:v.ok=true) :
  Calls Tryz.prog 184 #[v.val,POp.val ⟨k,key,to,n⟩] w λe w'=>e=.returned (.tuple #[(POp.turn ⟨k,key,to,n⟩ v).1.val,.int .i64 (POp.turn ⟨k,key,to,n⟩ v).2])/\Below w.heap.size w w':=by
 rcases (dt hx).1 with h | h | h | h
 all_goals simp only at h;subst h
 ·exact Ac v key to n w hx hv
 ·exact zc v key to n w hx hv
 ·exact AH v key to n w hx hv
 ·exact AQ v key to n w hx hv
theorem DL(a b c d:Value):(∀w,(part 3 #[a,b,c,d] 0).run Tryz.prog w=.ok a w)/\(∀w,(part 3 #[a,b,c,d] 1).run Tryz.prog w=.ok b w)/\(∀w,(part 3 #[a,b,c,d] 2).run Tryz.prog w=.ok c w)/\(∀w,(part 3 #[a,b,c,d] 3).run Tryz.prog w=.ok d w) :=
 ⟨λ_=>by kernel_rfl,λ_=>by kernel_rfl,λ_=>by kernel_rfl,λ_=>by kernel_rfl⟩
theorem xF:Tryz.prog.cellsOf 3=1:=by kernel_rfl
theorem V4.eq_iff(v u:V4):v=u↔v.a=u.a/\v.b=u.b/\v.c=u.c/\v.d=u.d:=by
 cases v;cases u;simp
theorem zX:(Tryz.prog.info? 3).isSome=true:=by kernel_rfl
theorem rB(a b c d a' b' c' d':Int)(w:World):(Op.equal 30 (.agg #[.int .i64 a,.int .i64 b,.int .i64 c,.int .i64 d]) (.agg #[.int .i64 a',.int .i64 b',.int .i64 c',.int .i64 d'])).run Tryz.prog w=.ok (decide (V4.mk a b c d=V4.mk a' b' c' d')) w:=by
 obtain⟨i,hi⟩:=Option.isSome_iff_exists.1 zX;unfold Op.equal Op.maxDepth;rw[run_equalIn_array (P:=Tryz.prog) w 9999 _ _ Tryz.underlying30 hi];obtain⟨p0,p1,p2,p3⟩:=DL (.int .i64 a) (.int .i64 b) (.int .i64 c) (.int .i64 d);obtain⟨r0,r1,r2,r3⟩:=DL (.int .i64 a') (.int .i64 b') (.int .i64 c') (.int .i64 d');have e:∀(x y:Int) (w:World),(Op.equalIn 9999 3 (.int .i64 x) (.int .i64 y)).run Tryz.prog w=.ok (x==y) w:=λx y w=>run_equalIn_int w 9998 _ _ _ x y Tryz.underlying3
 simp only[show List.range 4 = [0,1,2,3] from rfl,Op.eqItems,Sem.run_bind,xF,Nat.mul_one,p0,p1,p2,p3,r0,r1,r2,r3,Result.andThen_ok,e]
 have z:∀x:Int,(x==x)=true:=λx=>beq_self_eq_true x
 by_cases h0:a=a'
 ·subst h0
  by_cases h1:b=b'
  ·subst h1
   by_cases h2:c=c'
   ·subst h2
    by_cases h3:d=d'
    ·subst h3;simp[p1,p2,p3,r1,r2,r3,e]
    ·simp[h3,p1,p2,p3,r1,r2,r3,e]
   ·simp[h2,p1,p2,r1,r2,e]
  ·simp[h1,p1,r1,e]
 ·simp[h0]
theorem vV(a b c d a' b' c' d':Int)(w:World):(binOp .eql 30 (.agg #[.int .i64 a,.int .i64 b,.int .i64 c,.int .i64 d]) (.agg #[.int .i64 a',.int .i64 b',.int .i64 c',.int .i64 d'])).run Tryz.prog w=.ok (.bool (decide (V4.mk a b c d=V4.mk a' b' c' d'))) w:=by
 simp only[binOp,Sem.run_bind,rB,Result.andThen_ok,Sem.run_pure]
theorem yT:Program.eqGuardType Tryz.prog Tryz.prog.depth 30=false:=by kernel_rfl
end Go.Proofs.YtfpmcmhihhnfgaaGreatDoor
