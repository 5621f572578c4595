/- A symbolic run of a function's code: loops. No conditions. -/
import Derived.Test.YtfpmcmhihhnfgaaGreatDoorKE2
import Derived.LoopN
import Derived.LoopNIn
import Derived.RangeFuncLeaves
import Derived.KernelRfl
import Derived.IntWalk
set_option linter.unusedVariables false
set_option linter.unusedSimpArgs false
namespace Go.Proofs.YtfpmcmhihhnfgaaGreatDoor
open Go.RowKit
theorem Dat.int_i(x:Int):(Dat.i x).int=x:=rfl
theorem Dat.int_n(x:Nat):(Dat.n x).int=(x:Int):=rfl
theorem Dat.bool_b(x:Bool):(Dat.b x).bool=x:=rfl
theorem Dat.ptr_p(x:OL):(Dat.p x).ptr=x:=rfl
theorem Dat.str_s(x:ByteArray):(Dat.s x).str=x:=rfl
theorem Dat.val_v(x:Value):(Dat.v x).val=x:=rfl
theorem jb:∀(q:List Pq) (n m:Nat),m<=n->cv m (mkQ n q).2.1=true
 | [],_,_,_=>rfl
 | .nat::r,n,m,h | .pt (.int _)::r,n,m,h | .pt .bool::r,n,m,h | .pt .str::r,n,m,h | .pt .ptr::r,n,m,h | .pt .val::r,n,m,h=>by
  simp only[mkQ,cv,Bool.and_eq_true,decide_eq_true_eq]
  exact⟨h,jb r (n+1) m (by omega)⟩
 | .pt .sl::r,n,m,h=>by
  simp only[mkQ,cv,Bool.and_eq_true,decide_eq_true_eq]
  exact⟨h,by omega,by omega,jb r (n+3) m (by omega)⟩
def sY(pq:List Pq)(vs:List SV):List Sb:=((pq.zip vs).map λp=>kp p.1 p.2).flatten
theorem oS(ρ:Nat->Nat)(e:Env)(ρ':Nat->Nat):∀(pq:List Pq) (vs:List SV) (ds:List SD) (n:Nat) (e1:Env),lq pq vs=some ds->(∀c∈sY pq vs,c.den e=true) ->
  ∃e',er e1 (mkQ n pq).2.1 e'/\(mkQ n pq).2.2.1.map (SD.den ρ' e')=ds.map (SD.den ρ e)/\SV.dens ρ' e' (mkQ n pq).1=SV.dens ρ e vs
 | [],[],ds,n,e1,h,_=>by
  simp only[lq,Option.some.injEq] at h;subst h;exact⟨e1,.nil e1,rfl,rfl⟩
 | [],_::_,ds,n,e1,h,_=>by simp[lq] at h
 | q::r,[],ds,n,e1,h,_=>by simp[lq] at h
 | q::r,v::vs,ds,n,e1,h,hn=>by
  simp only[lq] at h
  split at h
  ·rename_i d ds' hd hds;simp only[Option.some.injEq] at h;subst h;have hn0:∀c∈kp q v,c.den e=true:=λc hc=>hn c (by simp[sY];exact .inl hc)
   have hnr:∀c∈sY r vs,c.den e=true:=λc hc=>hn c (by
    simp only[sY,List.zip_cons_cons,List.map_cons,List.flatten_cons,List.mem_append]
    exact .inr hc)
   have one:∀(k:Pk) (dv:Dat),(match k,dv with | .i,.i _ | .n,.n _ | .b,.b _ | .p,.p _ | .s,.s _ | .v,.v _=>True | _,_=>False) ->
     ∃e',er e1 ((n,k)::(mkQ (n+1) r).2.1) e'/\e' n=dv/\(mkQ (n+1) r).2.2.1.map (SD.den ρ' e')=ds'.map (SD.den ρ e)/\SV.dens ρ' e' (mkQ (n+1) r).1=SV.dens ρ e vs:=λk dv hk=>by
    obtain⟨e',h1,h2,h3⟩:=oS ρ e ρ' r vs ds' (n+1) (upd e1 n dv) hds hnr;refine⟨e',.cons _ _ _ _ dv _ hk h1,?_,h2,h3⟩;rw[h1.old (jb r (n+1) (n+1) (Nat.le_refl _)) n (by omega)];unfold upd;rw[if_pos rfl]
   unfold FG at hd
   split at hd
   ·
    rename_i x;simp only[Option.some.injEq] at hd;subst hd;have hx:0<=x.den e:=(Sb.prop_iff e (.le (.k 0) x)).2 (hn0 _ (by simp[kp]))
    obtain⟨e',h1,h2,h3,h4⟩:=one .n (.n (x.den e).toNat) trivial;refine⟨e',h1,?_,?_⟩
    ·simp only[mkQ,List.map_cons,List.cons_append,List.nil_append,SD.den,Sx.den,h2,Dat.int_i,Dat.int_n,Int.toNat_natCast,h3]
    ·simp only[mkQ,SV.dens,SV.den,Sx.den,h2,Dat.int_i,Dat.int_n,Int.toNat_natCast,h4]
     congr 2
     omega
   ·rename_i k k' x
    split at hd
    ·rename_i hk;subst hk;simp only[Option.some.injEq] at hd;subst hd;obtain⟨e',h1,h2,h3,h4⟩:=one .i (.i (x.den e)) trivial;refine⟨e',h1,?_,?_⟩
     ·simp only[mkQ,List.map_cons,List.cons_append,List.nil_append,SD.den,Sx.den,h2,Dat.int_i,Dat.int_n,Int.toNat_natCast,h3]
     ·simp only[mkQ,SV.dens,SV.den,Sx.den,h2,Dat.int_i,Dat.int_n,Int.toNat_natCast,h4]
    ·cases hd
   ·rename_i b;simp only[Option.some.injEq] at hd;subst hd;obtain⟨e',h1,h2,h3,h4⟩:=one .b (.b (b.den e)) trivial;refine⟨e',h1,?_,?_⟩
    ·simp only[mkQ,List.map_cons,List.cons_append,List.nil_append,SD.den,Sb.den,h2,Dat.bool_b,h3]
    ·simp only[mkQ,SV.dens,SV.den,Sb.den,h2,Dat.bool_b,h4]
   ·rename_i i;simp only[Option.some.injEq] at hd;subst hd;obtain⟨e',h1,h2,h3,h4⟩:=one .s (.s (e i).str) trivial;refine⟨e',h1,?_,?_⟩
    ·simp only[mkQ,List.map_cons,List.cons_append,List.nil_append,SD.den,h2,Dat.str_s,h3]
    ·simp only[mkQ,SV.dens,SV.den,h2,Dat.str_s,h4]
   ·rename_i s;simp only[Option.some.injEq] at hd;subst hd;obtain⟨e',h1,h2,h3,h4⟩:=one .s (.s s) trivial;refine⟨e',h1,?_,?_⟩
    ·simp only[mkQ,List.map_cons,List.cons_append,List.nil_append,SD.den,h2,Dat.str_s,h3]
    ·simp only[mkQ,SV.dens,SV.den,h2,Dat.str_s,h4]
   ·
    rename_i i off len cap;simp only[Option.some.injEq] at hd;subst hd;have hx:0<=len.den e:=(Sb.prop_iff e (.le (.k 0) len)).2 (hn0 _ (by simp[kp]))
    have hy:0<=cap.den e:=(Sb.prop_iff e (.le (.k 0) cap)).2 (hn0 _ (by simp[kp]));obtain⟨e',h1,h2,h3⟩:=oS ρ e ρ' r vs ds' (n+3) (upd (upd (upd e1 n (.p ((e i).ptr.map λa=>a.shift (off.den e).toNat))) (n+1) (.n (len.den e).toNat)) (n+2) (.n (cap.den e).toNat)) hds hnr;have hg:∀j,j<n+3->e' j=upd (upd (upd e1 n (.p ((e i).ptr.map λa=>a.shift (off.den e).toNat))) (n+1) (.n (len.den e).toNat)) (n+2) (.n (cap.den e).toNat) j:=λj hj=>h1.old (jb r (n+3) (n+3) (Nat.le_refl _)) j hj
    have g0:e' n=.p ((e i).ptr.map λa=>a.shift (off.den e).toNat):=by rw[hg n (by omega)];simp[upd]
    have g1:e' (n+1)=.n (len.den e).toNat:=by rw[hg (n+1) (by omega)];simp[upd]
    have g2:e' (n+2)=.n (cap.den e).toNat:=by rw[hg (n+2) (by omega)];simp[upd]
    refine⟨e',.cons _ _ _ _ (.p _) _ trivial (.cons _ _ _ _ (.n _) _ trivial (.cons _ _ _ _ (.n _) _ trivial h1)),?_,?_⟩
    ·simp only[mkQ,List.map_cons,List.cons_append,List.nil_append,SD.den,Sx.den,g0,g1,g2,Dat.int_i,Dat.int_n,Dat.ptr_p,Int.toNat_natCast,h2]
     cases (e i).ptr<;>simp
    ·simp only[mkQ,SV.dens,SV.den,Sx.den,g0,g1,g2,Dat.int_i,Dat.int_n,Dat.ptr_p,Int.toNat_natCast,h3]
     cases (e i).ptr<;>simp[ab]
   ·
    rename_i nn cc;simp only[Option.some.injEq] at hd;subst hd;obtain⟨e',h1,h2,h3⟩:=oS ρ e ρ' r vs ds' (n+3) (upd (upd (upd e1 n (.p none)) (n+1) (.n nn)) (n+2) (.n cc)) hds hnr;have hg:∀j,j<n+3->e' j=upd (upd (upd e1 n (.p none)) (n+1) (.n nn)) (n+2) (.n cc) j:=λj hj=>h1.old (jb r (n+3) (n+3) (Nat.le_refl _)) j hj
    have g0:e' n=.p none:=by rw[hg n (by omega)];simp[upd]
    have g1:e' (n+1)=.n nn:=by rw[hg (n+1) (by omega)];simp[upd]
    have g2:e' (n+2)=.n cc:=by rw[hg (n+2) (by omega)];simp[upd]
    refine⟨e',.cons _ _ _ _ (.p _) _ trivial (.cons _ _ _ _ (.n _) _ trivial (.cons _ _ _ _ (.n _) _ trivial h1)),?_,?_⟩
    ·simp only[mkQ,List.map_cons,List.cons_append,List.nil_append,SD.den,Sx.den,g0,g1,g2,Dat.int_i,Dat.int_n,Dat.ptr_p,Int.toNat_natCast,h2]
     simp
    ·simp only[mkQ,SV.dens,SV.den,Sx.den,g0,g1,g2,Dat.int_i,Dat.int_n,Dat.ptr_p,Int.toNat_natCast,h3]
     simp[ab]
   ·rename_i i off;simp only[Option.some.injEq] at hd;subst hd;obtain⟨e',h1,h2,h3,h4⟩:=one .p (.p ((e i).ptr.map λa=>a.shift (off.den e).toNat)) trivial;refine⟨e',h1,?_,?_⟩
    ·simp only[mkQ,List.map_cons,List.cons_append,List.nil_append,SD.den,Sx.den,h2,Dat.ptr_p,h3]
     cases (e i).ptr<;>simp
    ·simp only[mkQ,SV.dens,SV.den,Sx.den,h2,Dat.ptr_p,h4]
     cases (e i).ptr<;>simp[ab]
   ·simp only[Option.some.injEq] at hd;subst hd;obtain⟨e',h1,h2,h3,h4⟩:=one .p (.p none) trivial;refine⟨e',h1,?_,?_⟩
    ·simp only[mkQ,List.map_cons,List.cons_append,List.nil_append,SD.den,Sx.den,h2,Dat.ptr_p,h3]
     simp
    ·simp only[mkQ,SV.dens,SV.den,Sx.den,h2,Dat.ptr_p,h4]
     simp[ab]
   ·simp only[Option.some.injEq] at hd;subst hd;obtain⟨e',h1,h2,h3,h4⟩:=one .v (.v (v.den ρ e)) trivial;refine⟨e',h1,?_,?_⟩
    ·simp only[mkQ,List.map_cons,List.cons_append,List.nil_append,SD.den,SV.den,h2,Dat.val_v,h3]
    ·simp only[mkQ,SV.dens,SV.den,h2,Dat.val_v,h4]
   ·cases hd
  ·cases h
theorem z6{v w:Value}(h:Ay v w=true):v=w:=by
 unfold Ay at h
 split at h<;>simp_all
mutual
theorem wN(ρ:Nat->Nat)(e:Env):∀(a b:SV),SV.same a b=true->a.den ρ e=b.den ρ e
 | .undef,b,h=>by cases b<;>simp[SV.same] at h<;>rfl
 | .int k x,b,h=>by cases b<;>simp[SV.same] at h;obtain⟨rfl,rfl⟩:=h;rfl
 | .bool x,b,h=>by cases b<;>simp[SV.same] at h;subst h;rfl
 | .str x,b,h=>by cases b<;>simp[SV.same] at h;subst h;rfl
 | .o x,b,h=>by cases b<;>simp[SV.same] at h;subst h;rfl
 | .yl x,b,h=>by cases b<;>simp[SV.same] at h;subst h;rfl
 | .ptrK k x,b,h=>by cases b<;>simp[SV.same] at h;obtain⟨rfl,rfl⟩:=h;rfl
 | .ptrO k x,b,h=>by cases b<;>simp[SV.same] at h;obtain⟨rfl,rfl⟩:=h;rfl
 | .slK k x y z,b,h=>by cases b<;>simp[SV.same] at h;obtain⟨⟨⟨rfl,rfl⟩,rfl⟩,rfl⟩:=h;rfl
 | .slO k x y z,b,h=>by cases b<;>simp[SV.same] at h;obtain⟨⟨⟨rfl,rfl⟩,rfl⟩,rfl⟩:=h;rfl
 | .agg l,b,h=>by cases b<;>simp[SV.same] at h;simp only[SV.den,iZ ρ e l _ h]
 | .tup l,b,h=>by cases b<;>simp[SV.same] at h;simp only[SV.den,iZ ρ e l _ h]
 | .func f l m,b,h=>by cases b<;>simp[SV.same] at h;obtain⟨⟨rfl,h1⟩,h2⟩:=h;simp only[SV.den,iZ ρ e l _ h1,iZ ρ e m _ h2]
 | .c v,b,h=>by
  cases b<;>simp[SV.same] at h
  simp only[SV.den,z6 h]
theorem iZ(ρ:Nat->Nat)(e:Env):∀(a b:List SV),SV.sames a b=true->SV.dens ρ e a=SV.dens ρ e b
 | [],b,h=>by cases b<;>simp[SV.sames] at h;rfl
 | x::l,b,h=>by
  cases b with
  | nil=>simp[SV.sames] at h
  | cons y m =>
   simp only[SV.sames,Bool.and_eq_true] at h;simp only[SV.dens,wN ρ e x y h.1,iZ ρ e l m h.2]
end
theorem kY:∀{A B:List (Option SV)},hP A B=true->A.length=B.length/\∀{t:Nat} {v:SV},A[t]?=some (some v)->∃w,B[t]?=some (some w)/\SV.same v w=true
 | [],[],_=>⟨rfl,λh=>by simp at h⟩
 | [],_::_,h=>by simp[hP] at h
 | none::r,[],h=>by simp[hP] at h
 | some _::r,[],h=>by simp[hP] at h
 | none::r,q::s,h=>by
  simp only[hP] at h;obtain⟨h1,h2⟩:=kY h;refine⟨by simp[h1],λ{t v} ht=>?_⟩
  cases t with
  | zero=>simp at ht
  | succ t=>simpa using h2 (by simpa using ht)
 | some u::r,none::s,h=>by simp[hP] at h
 | some u::r,some w::s,h=>by
  simp only[hP,Bool.and_eq_true] at h;obtain⟨h1,h2⟩:=kY h.2;refine⟨by simp[h1],λ{t v} ht=>?_⟩
  cases t with
  | zero=>simp at ht;subst ht;exact⟨w,by simp,h.1⟩
  | succ t=>simpa using h2 (by simpa using ht)
theorem iH{bk:List Nat}:∀{A B:List (Option ay)} {n:Nat},fX bk n A B=true->∀{t:Nat} {v:ay},A[t]?=some (some v)->∃w,B[t]?=some (some w)/\v.ty=w.ty/\(n+t∈bk\/SV.sames v.cs w.cs=true)
 | [],_,_,_,t,v,ht=>by simp at ht
 | none::r,[],_,h,_,_,_=>by simp[fX] at h
 | some _::r,[],_,h,_,_,_=>by simp[fX] at h
 | none::r,q::s,n,h,t,v,ht=>by
  simp only[fX] at h
  cases t with
  | zero=>simp at ht
  | succ t =>
   obtain⟨w,h1,h2,h3⟩:=iH h (by simpa using ht);exact⟨w,by simpa using h1,h2,by rw[show n+(t+1)=n+1+t by omega];exact h3⟩
 | some u::r,none::s,_,h,t,v,ht=>by simp[fX] at h
 | some u::r,some w::s,n,h,t,v,ht=>by
  simp only[fX,Bool.and_eq_true,decide_eq_true_eq,Bool.or_eq_true,List.contains_iff_mem] at h
  cases t with
  | zero=>simp at ht;subst ht;exact⟨w,by simp,h.1.1,h.1.2⟩
  | succ t =>
   obtain⟨w,h1,h2,h3⟩:=iH h.2 (by simpa using ht);exact⟨w,by simpa using h1,h2,by rw[show n+(t+1)=n+1+t by omega];exact h3⟩
theorem gu:∀{l:List Nat} {tm:List (Option SV)},(kz tm l).length=tm.length/\∀{t:Nat} {v:SV},(kz tm l)[t]?=some (some v)->tm[t]?=some (some v)/\t ∉ l
 | [],tm=>⟨rfl,λh=>⟨h,by simp⟩⟩
 | k::r,tm=>by
  obtain⟨h1,h2⟩:=gu (l:=r) (tm:=tm.set k none);refine⟨by rw[kz,kg];rw[kz] at h1;rw[h1];simp,λ{t v} h=>?_⟩;obtain⟨h3,h4⟩:=h2 h;rw[List.getElem?_set] at h3
  split at h3
  ·split at h3<;>cases h3
  ·rename_i hne;exact⟨h3,by simp[h4];exact λh=>hne h.symm⟩
section
variable{Df:List Deferred}
theorem oz{ρ:Nat->Nat}{e:Env}{a:Act}:∀(ts:List Nat) (vs:List SV) (tm:List (Option SV)),fQ ρ e tm a->(∀(i t:Nat) (v:SV),ts[i]?=some t->vs[i]?=some v->a.tmps[t]?=some (v.den ρ e))->fQ ρ e (jr tm ts vs) a
 | [],_,tm,h,_=>by simpa [jr] using h
 | t::ts,[],tm,h,_=>by simpa [jr] using h
 | t::ts,v::vs,tm,h,hv=>by
  rw[jr];refine oz ts vs _ ⟨by simp[h.1],λt' v' ht=>?_⟩ (λi t' v' h1 h2=>hv (i+1) t' v' (by simpa using h1) (by simpa using h2));rw[List.getElem?_set] at ht
  split at ht
  ·rename_i hh;subst hh
   split at ht
   ·simp only[Option.some.injEq] at ht;subst ht;exact hv 0 _ _ rfl rfl
   ·cases ht
  ·exact h.2 t' v' ht
theorem oZ{S:St}:∀{ts:List Nat} {vs:List SV},mz S ts=some vs->ts.length=vs.length/\∀{i t:Nat} {v:SV},ts[i]?=some t->vs[i]?=some v->S.tm[t]?=some (some v)
 | [],vs,h=>by
  simp only[mz,Option.some.injEq] at h;subst h;exact⟨rfl,λh=>by simp at h⟩
 | t0::ts,vs,h=>by
  simp only[mz] at h
  split at h
  ·rename_i v ws hv hw;simp only[Option.some.injEq] at h;subst h;obtain⟨h1,h2⟩:=oZ hw;refine⟨by simp[h1],λ{i t v'} ht hv'=>?_⟩
   cases i with
   | zero =>
    simp only[List.getElem?_cons_zero,Option.some.injEq] at ht hv';subst ht;subst hv'
    cases hh:S.tm[t0]? with
    | none=>rw[hh] at hv;cases hv
    | some q=>rw[hh] at hv;simp only[Option.join_some] at hv;rw[hv]
   | succ i=>exact h2 (by simpa using ht) (by simpa using hv')
  ·cases h
theorem iJ:∀(bl:List (Nat × List Pq)) (vs:List SV) (h:List (Option ay)),(cy h bl vs).length=h.length
 | [],_,h=>by simp[cy]
 | (k,q)::r,vs,h=>by
  rw[cy,iJ]
  split<;>simp
theorem iY:∀{bl:List (Nat × List Pq)} {h:List (Option ay)} {vs:List SV} {k:Nat} {o':ay},(cy h bl vs)[k]?=some (some o')->∃o,h[k]?=some (some o)/\o'.ty=o.ty /\
  ((o'=o/\k ∉ bl.map (·.1))\/∃pre q post,bl=pre++(k,q)::post/\o'.cs=(vs.drop ((pre.map λp=>p.2.length).sum)).take q.length)
 | [],h,vs,k,o',ho=>⟨o',by simpa [cy] using ho,rfl,.inl ⟨rfl,by simp⟩⟩
 | (k0,q0)::r,h,vs,k,o',ho=>by
  rw[cy] at ho;obtain⟨o,h1,h2,h3⟩:=iY ho
  rcases h3 with⟨rfl,h3⟩ | ⟨pre,q,post,rfl,h3⟩
  ·by_cases hk:k0=k
   ·subst hk
    split at h1
    ·rename_i o0 ho0;have hh:h[k0]?=some (some o0):=by
      cases hx:h[k0]? with
      | none=>rw[hx] at ho0;cases ho0
      | some x=>rw[hx] at ho0;simp only[Option.join_some] at ho0;rw[ho0]
     rw[List.getElem?_set,if_pos rfl,if_pos (gJ hh)] at h1;simp only[Option.some.injEq] at h1;subst h1;exact⟨o0,hh,rfl,.inr ⟨[],q0,r,rfl,by simp⟩⟩
    ·rename_i hn;rw[h1] at hn;simp at hn
   ·have hh:h[k]?=some (some o'):=by
     split at h1
     ·rwa [List.getElem?_set,if_neg hk] at h1
     ·exact h1
    exact⟨o',hh,rfl,.inl ⟨rfl,by simp only[List.map_cons,List.mem_cons,not_or];exact⟨λh=>hk h.symm,h3⟩⟩⟩
  ·have hh:∃o2,h[k]?=some (some o2)/\o2.ty=o.ty:=by
    split at h1
    ·rename_i o0 ho0;rw[List.getElem?_set] at h1
     split at h1
     ·rename_i hk;subst hk
      split at h1
      ·simp only[Option.some.injEq] at h1;subst h1;refine⟨o0,?_,rfl⟩
       cases hx:h[k0]? with
       | none=>rw[hx] at ho0;cases ho0
       | some x=>rw[hx] at ho0;simp only[Option.join_some] at ho0;rw[ho0]
      ·cases h1
     ·exact⟨o,h1,rfl⟩
    ·exact⟨o,h1,rfl⟩
   obtain⟨o2,hh,ht⟩:=hh;refine⟨o2,hh,h2.trans ht.symm,.inr ⟨(k0,q0)::pre,q,post,rfl,?_⟩⟩;rw[h3,List.drop_drop];simp
theorem oB{S:St}:∀{bl:List (Nat × List Pq)} {vs:List SV},jy S bl=some vs->∀(pre:List (Nat × List Pq)) (k:Nat) (q:List Pq) (post:List (Nat × List Pq)),bl=pre++(k,q)::post->∀o,S.h[k]?=some (some o)->o.cs=(vs.drop ((pre.map λp=>p.2.length).sum)).take q.length
 | [],vs,h,pre,k,q,post,hp,o,ho=>by simp at hp
 | (k0,q0)::r,vs,h,pre,k,q,post,hp,o,ho=>by
  simp only[jy] at h
  split at h
  ·rename_i o0 l ho0 hl
   split at h
   ·rename_i hlen;simp only[Option.some.injEq] at h;subst h
    cases pre with
    | nil =>
     simp only[List.nil_append,List.cons.injEq,Prod.mk.injEq] at hp;obtain⟨⟨rfl,rfl⟩,rfl⟩:=hp;rw[ho] at ho0;simp only[Option.join_some,Option.some.injEq] at ho0;subst ho0;simp[<- hlen]
    | cons p pre =>
     simp only[List.cons_append,List.cons.injEq] at hp;obtain⟨rfl,hp⟩:=hp;have:=oB hl pre k q post hp o ho
     rw[this];simp only[List.map_cons,List.sum_cons]
     rw[<- hlen,<- List.drop_drop,List.drop_left]
   ·cases h
  ·cases h
section
variable{P:Program}{W0:World}{M:Nat->Prop}{R:Ending->World->Prop}{hi:dq}
theorem r9{S S2:St}{ρ ρ2:Nat->Nat}{e e2:Env}{H2:Hp}{a2:Act}{W2:World}{ts wr:List Nat}{bl:List (Nat × List Pq)}{pq:List Pq}{n dp:Nat}{tv bv:List SV}{vals:List SD}
  (hf:S.fits=true) (hpc:∀p∈S.pc,p.1.den e=p.2) {X:List (Nat × Obj)} (hr:Rel Df W0 M S2 ρ2 e2 X H2 a2 W2) (htv:mz S2 ts=some tv) (hbv:jy S2 bl=some bv) (hn:n=ts.length)
  (hsd:lq pq (tv++bv)=some vals) (hnat:∀c∈sY pq (tv++bv),c.den e2=true) (he:∀i,i<S.nv->e2 i=e i) (hk:∀k,k<S.h.length->ρ2 k=ρ k)
  (hlen:S.tm.length=S2.tm.length) (hts:∀(t:Nat) (v:SV),(kz S.tm (wr++ts))[t]?=some (some v)->∃w,S2.tm[t]?=some (some w)/\∀ρ e,v.den ρ e=w.den ρ e)
  (hos:∀(k:Nat) (o:ay),S.h[k]?=some (some o)->∃w,S2.h[k]?=some (some w)/\o.ty=w.ty/\(k∈bl.map (·.1)\/∀ρ e,SV.dens ρ e o.cs=SV.dens ρ e w.cs)) :
  ∃e',er e (mkQ S.nv pq).2.1 e'/\Rel Df W0 M { S with tm:=jr (kz S.tm (wr++ts)) ts ((mkQ S.nv pq).1.take n),h:=cy S.h bl ((mkQ S.nv pq).1.drop n),nv:=(mkQ S.nv pq).2.2.2,dp:=dp } ρ e' X H2 a2 W2 /\
   (mkQ S.nv pq).2.2.1.map (SD.den ρ e')=vals.map (SD.den ρ2 e2):=by
 obtain⟨e',h1,h2,h3⟩:=oS ρ2 e2 ρ pq (tv++bv) vals S.nv e hsd hnat
 have hold:=h1.old (jb pq S.nv S.nv (Nat.le_refl _));have hee:∀i,i<S.nv->e' i=e2 i:=λi hi=>(hold i hi).trans (he i hi).symm
 have hkk:∀k,k<S.h.length->ρ k=ρ2 k:=λk h=>(hk k h).symm;obtain⟨l1,l2⟩:=oZ htv;simp only[St.fits,Bool.and_eq_true] at hf;obtain⟨⟨f1,f2⟩,f3⟩:=hf;have htl:(tv++bv).take n=tv:=by rw[hn,l1];simp
 have hbl:(tv++bv).drop n=bv:=by rw[hn,l1];simp
 have htake:SV.dens ρ e' ((mkQ S.nv pq).1.take n)=SV.dens ρ2 e2 tv:=by rw[iS,h3,<- iS,htl]
 have hdrop:SV.dens ρ e' ((mkQ S.nv pq).1.drop n)=SV.dens ρ2 e2 bv:=by rw[iN,h3,<- iN,hbl]
 have hh:∀{k:Nat} {o':ay},(cy S.h bl ((mkQ S.nv pq).1.drop n))[k]?=some (some o')->∃w,S2.h[k]?=some (some w)/\k<S.h.length/\o'.den ρ e'=w.den ρ2 e2:=λ{k o'} ho=>by
  obtain⟨o,c1,c2,c3⟩:=iY ho;obtain⟨w,w1,w2,w3⟩:=hos k o c1;refine⟨w,w1,gJ c1,?_⟩;have hcs:SV.dens ρ e' o'.cs=SV.dens ρ2 e2 w.cs:=by
   rcases c3 with⟨rfl,hnb⟩ | ⟨pre,q,post,hp,c3⟩
   ·have h4:=w3.resolve_left hnb;rw[SV.dens_congr hee hkk _ (ka f2 c1)];exact h4 ρ2 e2
   ·rw[c3,iS,iN,hdrop,<- iN,<- iS,oB hbv pre k q post hp w w1]
  simp only[ay.den,hcs,c2,w2]
 refine⟨e',h1,⟨?_,hr.df,⟨λk o ho=>?_,λk j o o' ho ho' hj=>?_,λk o ho=>?_,λk o ho=>?_,hr.mem.sub,hr.mem.mod,hr.mem.xk,hr.mem.xo,hr.mem.xd,λp hp k o ho=>?_⟩,λp hp=>?_⟩,h2⟩
 ·refine oz _ _ _ ⟨by rw[gu.1,hlen];exact hr.tm.1,λt v ht=>?_⟩ (λi t v hi hv=>?_)
  ·obtain⟨w,w1,w2⟩:=hts t v ht;rw[SV.den_congr hee hkk v (gU f1 (gu.2 ht).1),w2 ρ2 e2];exact hr.tm.2 t w w1
  ·have hlt:i<tv.length:=by
    have:=(List.getElem?_eq_some_iff.1 hi).1;omega
   have hvw:v.den ρ e'=(tv[i]).den ρ2 e2:=by
    have:=congrArg (λl=>l[i]?) htake;simp only[im,hv,Option.map_some,List.getElem?_eq_getElem hlt,Option.some.injEq] at this;exact this
   rw[hvw];exact hr.tm.2 t _ (l2 hi (List.getElem?_eq_getElem hlt))
 ·obtain⟨w,w1,w2,w3⟩:=hh ho;rw[hkk k w2,w3];exact hr.mem.kn k w w1
 ·obtain⟨w,w1,w2,w3⟩:=hh ho;obtain⟨u,u1,u2,u3⟩:=hh ho';rw[hkk k w2,hkk j u2] at hj;exact hr.mem.inj _ _ _ _ w1 u1 hj
 ·obtain⟨w,w1,w2,w3⟩:=hh ho;rw[hkk k w2];exact hr.mem.old _ _ w1
 ·obtain⟨w,w1,w2,w3⟩:=hh ho;rw[hkk k w2];exact hr.mem.dis _ _ w1
 ·obtain⟨w,w1,w2,w3⟩:=hh ho;rw[hkk k w2];exact hr.mem.xr p hp k w w1
 ·rw[Sb.den_congr hold p.1 (i8 f3 p hp)];exact hpc p hp
end
end
section
variable{Df:List Deferred}
open Classical
noncomputable def nl(W:World)(S:Nat->Prop):Hp:=λb=>if S b then W.heap[b]? else none
theorem pR(W:World)(S:Nat->Prop):(nl W S).le (ak W):=λb o h=>by
 unfold nl at h
 split at h
 ·exact h
 ·cases h
theorem co{W:World}{S:Nat->Prop}{b:Nat}(h:S b):nl W S b=W.heap[b]?:=by unfold nl;rw[if_pos h]
theorem od{W:World}{S:Nat->Prop}{b:Nat}(h:¬S b):nl W S b=none:=by unfold nl;rw[if_neg h]
theorem qk(H:Hp):H.cells.le H:=λb o h=>by
 unfold Hp.cells at h
 split at h
 ·rename_i C t fz hh;rw[hh,h]
 ·cases h
theorem tX(H:Hp):H.cells.cells=H.cells:=by
 funext b
 simp only[Hp.cells]
 cases h:H b with
 | none=>rfl
 | some o=>cases o<;>rfl
theorem nJ{H:Hp}{b:Nat}{o:Obj}(hc:H.cells=H)(h:H b=some o):isC o=true:=by
 rw[<- hc] at h;unfold Hp.cells at h
 split at h
 ·simp only[Option.some.injEq] at h;subst h;rfl
 ·cases h
def bE(A B:Hp):Hp:=λb=>match A b with
 | some o=>some o
 | none=>B b
theorem gm(A B:Hp):A.le (bE A B):=λb o h=>by unfold bE;rw[h]
theorem mS{A B:Hp}{W:World}(ha:A.le (ak W))(hb:B.le (ak W)):B.le (bE A B):=λb o h=>by
 unfold bE
 cases hh:A b with
 | none=>exact h
 | some q =>
  have h1:=ha b q hh;have h2:=hb b o h
  rw[h1] at h2;exact h2
theorem mH{A B:Hp}{W:World}(ha:A.le (ak W))(hb:B.le (ak W)):(bE A B).le (ak W):=λb o h=>by
 unfold bE at h
 split at h
 ·rename_i q hh;rw[<- h];exact ha b q hh
 ·exact hb b o h
theorem qR{ρ:Nat->Nat}{e:Env}:∀{ps:List Nat} {vs:List SV} {tm:List (Option SV)} {a:Act},fQ ρ e tm a ->
  fQ ρ e (rr tm ps vs) { a with tmps:=(ps.zip (SV.dens ρ e vs)).foldl (λt (p,v)=>t.setIfInBounds p v) a.tmps }
 | [],vs,tm,a,h=>by cases vs<;>exact h
 | t::ts,[],tm,a,h=>h
 | t::ts,v::vs,tm,a,h=>by
  simp only[rr,SV.dens,List.zip_cons_cons,List.foldl_cons]
  refine qR (ps:=ts) (vs:=vs) (tm:=tm.set t (some v)) (a:={ a with tmps:=a.tmps.setIfInBounds t (v.den ρ e) }) ⟨by simp[h.1],λt' u ht=>?_⟩
  by_cases he:t=t'
  ·subst he;have hlt:t<tm.length:=by
    have:=(List.getElem?_eq_some_iff.1 ht).1;simpa using this
   rw[List.getElem?_set_self hlt,Option.some.injEq,Option.some.injEq] at ht;subst ht;simp only
   rw[Array.getElem?_setIfInBounds,if_pos rfl,if_pos (by rw[h.1];exact hlt)]
  ·rw[List.getElem?_set_ne he] at ht;simp only
   rw[Array.getElem?_setIfInBounds_ne he];exact h.2 t' u ht
section
variable{P:Program}{W0:World}{M:Nat->Prop}{S:St}{ρ:Nat->Nat}{e:Env}{H:Hp}{a:Act}{W:World}
theorem Rel.putX{l:Nat}{o o':Obj}(hr:Rel Df W0 M S ρ e [(l,o)] H a W)(ho:∀ds,o≠.deferred ds)(ho':∀ds,o'≠.deferred ds):Rel Df W0 M S ρ e [(l,o')] H a (W.putObj l o'):=by
 have hin:(l,o) ∈ [(l,o)]:=List.mem_singleton_self _;have hlt:l<W.heap.size:=ag (hr.mem.xk _ hin)
 have hold:∀b,b≠l->(W.putObj l o').heap[b]?=W.heap[b]?:=λb hb=>World.putObj_heap_other hb;have hone:∀p ∈ [(l,o')],p=(l,o'):=λp hp=>by simpa using hp
 refine⟨hr.tm,?_,⟨λk ob hk=>?_,hr.mem.inj,hr.mem.old,hr.mem.dis,λb ob hb=>?_,⟨hr.mem.mod.os,hr.mem.mod.tape,hr.mem.mod.output,by simpa using hr.mem.mod.size,λb hb hn=>?_⟩,λp hp=>?_,λp hp=>?_,λp hp=>?_,λp hp k ob hk=>?_⟩,hr.pc⟩
 ·rw[hr.df];have d1:∀{q:Obj},(∀ds,q≠.deferred ds)->oJ [(l,q)] = []:=λ{q} hq=>by cases q<;>first | rfl | exact absurd rfl (hq _)
  rw[d1 ho,d1 ho']
 ·rw[hold _ (hr.mem.xr _ hin k ob hk)];exact hr.mem.kn k ob hk
 ·have hne:b≠l:=λh=>by rw[h,hr.mem.xd _ hin] at hb;cases hb
  have:=hr.mem.sub b ob hb;simp only[ak] at this |-;rw[hold b hne,this]
 ·have hne:b≠l:=λh=>by
   rcases hr.mem.xo _ hin with h1 | h1
   ·simp only at h1;omega
   ·exact hn (h▸h1)
  rw[hold b hne,hr.mem.mod.blk b hb hn]
 ·rw[hone p hp];exact World.putObj_heap_same hlt
 ·rw[hone p hp];exact hr.mem.xo (l,o) hin
 ·rw[hone p hp];exact hr.mem.xd (l,o) hin
 ·rw[hone p hp];exact hr.mem.xr _ hin k ob hk
theorem Rel.shut{l:Nat}{o:Obj}(hr:Rel Df W0 M S ρ e [(l,o)] H a W)(o':Obj):Rel Df W0 M S ρ e [] H { a with defers:=Df } (W.putObj l o'):=by
 have hin:(l,o) ∈ [(l,o)]:=List.mem_singleton_self _;have hold:∀b,b≠l->(W.putObj l o').heap[b]?=W.heap[b]?:=λb hb=>World.putObj_heap_other hb
 refine⟨hr.tm,rfl,⟨λk ob hk=>?_,hr.mem.inj,hr.mem.old,hr.mem.dis,λb ob hb=>?_,⟨hr.mem.mod.os,hr.mem.mod.tape,hr.mem.mod.output,by simpa using hr.mem.mod.size,λb hb hn=>?_⟩,λp hp=>by simp at hp,λp hp=>by simp at hp,λp hp=>by simp at hp,λp hp=>by simp at hp⟩,hr.pc⟩
 ·rw[hold _ (hr.mem.xr _ hin k ob hk)];exact hr.mem.kn k ob hk
 ·have hne:b≠l:=λh=>by rw[h,hr.mem.xd _ hin] at hb;cases hb
  have:=hr.mem.sub b ob hb;simp only[ak] at this |-;rw[hold b hne,this]
 ·have hne:b≠l:=λh=>by
   rcases hr.mem.xo _ hin with h1 | h1
   ·simp only at h1;omega
   ·exact hn (h▸h1)
  rw[hold b hne,hr.mem.mod.blk b hb hn]
end
end
section
variable{Df:List Deferred}
section
open Classical
variable{P:Program}{R:Ending->World->Prop}{hi:dq}
theorem XOk.cel{X:List (Nat × Obj)}(h:XOk X):∀p∈X,isC p.2=false:=λp hp=>by
 rcases h with rfl | ⟨D,rfl⟩
 ·simp at hp
 ·simp at hp;subst hp;rfl
set_option maxHeartbeats 1000000 in
theorem vh:∀(c:Code) {Df:List Deferred} {W0:World} {M:Nat->Prop} {rd:Option Nat} {S:St} {K:Xt->St->VC} {L:List (List Dat->Hp->Prop)} {Q:Exit->Act->World->Prop} {B:ir} {X:List (Nat × Obj)} {ρ:Nat->Nat} {e:Env} {H:Hp} {a:Act} {W:World},
  jX c=true->gh c=true->(rd=none\/rfs c=0)->(X = []\/rfs c=0)->(∀p∈X,isC p.2=false)->(hi.pn=true->rfs c=0/\Pn Df P R hi B X Q) ->
  (exC P hi c S K).den P W0 M R ρ e H L->Rel Df W0 M S ρ e X H a W->L.length=S.dp->Agr B S ρ e->ri Df P W0 M R L B X (rfs c) K Q->c.wpIn (Fw rd) 0 P Q a W:=by
 intro c
 induction c with
 | skip =>
  intro Df W0 M rd S K L Q B X ρ e H a W ho hn hrd hX hXc hpn h hr hl hb hk;exact wpIn_skip (hk .normal S ρ e H L X a W (.inl rfl) ⟨[],rfl⟩ hl hb h hr)
 | exit id =>
  intro Df W0 M rd S K L Q B X ρ e H a W ho hn hrd hX hXc hpn h hr hl hb hk;exact wpIn_exit (hk (.exit id) S ρ e H L X a W (.inl rfl) ⟨[],rfl⟩ hl hb h hr)
 | ret =>
  intro Df W0 M rd S K L Q B X ρ e H a W ho hn hrd hX hXc hpn h hr hl hb hk;exact wpIn_ret (hk .ret S ρ e H L X a W (.inl rfl) ⟨[],rfl⟩ hl hb h hr)
 | seq x y ihx ihy =>
  intro Df W0 M rd S K L Q B X ρ e H a W ho hn hrd hX hXc hpn h hr hl hb hk;simp only[jX,Bool.and_eq_true,decide_eq_true_eq] at ho;simp only[gh,Bool.and_eq_true] at hn;simp only[rfs] at hrd hX hk hpn;have up:∀{X':List (Nat × Obj)},(X'=X\/(rfs x≠0/\XOk X'))->(X'=X\/(rfs x+rfs y≠0/\XOk X')):=λh=>h.imp id λ⟨h1,h2⟩=>⟨by omega,h2⟩
  refine wpIn_seq (ihx ho.1.2 hn.1 (hrd.imp id (by omega)) (hX.imp id (by omega)) hXc (λhp=>⟨by have:=(hpn hp).1;omega,λps ρ a W q1 q2 q3 q4=>(hpn hp).2 ps ρ a W q1 q2 q3 q4⟩) h hr hl hb (λz S' ρ' e' H' L' X' a' W' hx hp hl' hb' hd hr'=>?_))
  cases z with
  | normal =>
   refine ihy ho.2 hn.2 (hrd.imp id (by omega)) ?_ ?_ (λhp=>⟨by have:=(hpn hp).1;omega,by
    rcases hx with rfl | ⟨h1,_⟩
    ·exact (hpn hp).2
    ·exact absurd (hpn hp).1 (by omega)⟩) hd hr' hl' hb' ?_
   ·rcases hx with rfl | ⟨h1,_⟩
    ·exact hX.imp id (by omega)
    ·exact .inr (by omega)
   ·rcases hx with rfl | ⟨_,h2⟩
    ·exact hXc
    ·exact h2.cel
   ·intro z S2 ρ2 e2 H2 L2 X2 a2 W2 hx2 hp2 hl2 hb2 hd2 hr2;refine (hk.more hp) z S2 ρ2 e2 H2 L2 X2 a2 W2 ?_ hp2 hl2 hb2 hd2 hr2
    rcases hx2 with rfl | ⟨h1,h2⟩
    ·exact up hx
    ·exact .inr ⟨by omega,h2⟩
  | ret=>exact hk .ret S' ρ' e' H' L' X' a' W' (up hx) hp hl' hb' hd hr'
  | exit i=>exact hk (.exit i) S' ρ' e' H' L' X' a' W' (up hx) hp hl' hb' hd hr'
 | cond cc x y ihx ihy =>
  intro Df W0 M rd S K L Q B X ρ e H a W ho hn hrd hX hXc hpn h hr hl hb hk;simp only[jX,Bool.and_eq_true] at ho;simp only[gh,Bool.and_eq_true] at hn;simp only[rfs] at hrd hX hk hpn;have hkx:ri Df P W0 M R L B X (rfs x) K Q:=λz S' ρ' e' H' L' X' a' W' hx=>hk z S' ρ' e' H' L' X' a' W' (hx.imp id λ⟨h1,h2⟩=>⟨by omega,h2⟩)
  have hky:ri Df P W0 M R L B X (rfs y) K Q:=λz S' ρ' e' H' L' X' a' W' hx=>hk z S' ρ' e' H' L' X' a' W' (hx.imp id λ⟨h1,h2⟩=>⟨by omega,h2⟩);simp only[exC] at h
  split at h
  ·rename_i sb hsb;obtain⟨S',h1,h2,h5⟩:=kv h hr;have hev:=aw hr.tm hsb
   rcases h5 with⟨h5,h6⟩ | ⟨h5,h6⟩
   ·refine wpIn_cond_true (by rw[hev];simp only[SV.den,h5]) (ihx ho.1 hn.1 (hrd.imp id (by omega)) (hX.imp id (by omega)) hXc (λhp=>⟨by have:=(hpn hp).1;omega,(hpn hp).2⟩) h6 h1 (by rw[h2.1];exact hl) (hb.sim h2) hkx)
   ·refine wpIn_cond_false (by rw[hev];simp only[SV.den,h5]) (ihy ho.2 hn.2 (hrd.imp id (by omega)) (hX.imp id (by omega)) hXc (λhp=>⟨by have:=(hpn hp).1;omega,(hpn hp).2⟩) h6 h1 (by rw[h2.1];exact hl) (hb.sim h2) hky)
  ·exact h.elim
 | block id b ih =>
  intro Df W0 M rd S K L Q B X ρ e H a W ho hn hrd hX hXc hpn h hr hl hb hk;simp only[jX] at ho;simp only[gh] at hn;simp only[rfs] at hrd hX hk hpn;refine wpIn_block (ih ho hn hrd hX hXc (λhp=>⟨(hpn hp).1,λps ρ a W q1 q2 q3 q4=>(hpn hp).2 ps ρ a W q1 q2 q3 q4⟩) h hr hl hb (λz S' ρ' e' H' L' X' a' W' hx hp hl' hb' hd hr'=>?_))
  cases z with
  | normal=>exact hk .normal S' ρ' e' H' L' X' a' W' hx hp hl' hb' hd hr'
  | ret=>exact hk .ret S' ρ' e' H' L' X' a' W' hx hp hl' hb' hd hr'
  | exit i =>
   dsimp only at hd;simp only[Xt.toExit,Exit.inBlock]
   split
   ·rename_i hi';rw[if_pos hi'] at hd;exact hk .normal S' ρ' e' H' L' X' a' W' hx hp hl' hb' hd hr'
   ·rename_i hi';rw[if_neg hi'] at hd;exact hk (.exit i) S' ρ' e' H' L' X' a' W' hx hp hl' hb' hd hr'
 | region id ops draw =>
  intro Df W0 M rd S K L Q B X ρ e H a W ho hn hrd hX hXc hpn h hr hl hb hk;simp only[exC] at h;have hnd:∀(i:Nat) (o:Oper),ops[i]?=some o->gl o.op=true:=λi o hio=>by
   simp only[gh,Array.all_eq_true'] at hn;exact hn o (Array.mem_of_getElem? hio)
  have hg:sT Df P W0 M R X L B S.dp (K .normal) (Q .normal):=λS' ρ' e' H' a' W' hdp hb' h' hr'=>hk .normal S' ρ' e' H' L X a' W' (.inl rfl) ⟨[],rfl⟩ (by rw[hdp];exact hl) hb' h' hr'
  split at h
  ·rename_i hd;subst hd;rw[Br] at h;exact xw hnd hXc h hr hb (λhh=>(hpn hh).2) hg
  ·rename_i hd;simp only[Bool.not_eq_true] at hd;subst hd;rw[Br] at h;have:=tO (rd:=rd) (λp hp=>by
    obtain⟨i,hi1⟩:=List.mem_iff_getElem?.1 hp;have h2:=List.mem_zipIdx hp
    obtain⟨_,h3,h4⟩:=h2;exact hnd p.2 p.1 (by simp only[Nat.sub_zero] at h4;rw[h4,Array.getElem_toList,Array.getElem?_eq_getElem])) h hr hb (λhp=>(hpn hp).2) hg
   have hm:(ops.toList.zipIdx.map (·.1))=ops.toList:=by
    simp[List.zipIdx_map_fst]
   rw[hm] at this;exact wpIn_region_list this
 | loop b ih =>
  intro Df W0 M rd S K L Q B X ρ e H a W ho hn hrd hX hXc hpn h hr hl hb hk;simp only[jX,Bool.and_eq_true,decide_eq_true_eq] at ho;simp only[gh] at hn;simp only[rfs,ho.1] at hk;have hxx:∀{X':List (Nat × Obj)},(X'=X\/(rfs b≠0/\XOk X'))->X'=X:=λh=>h.elim id λ⟨h1,_⟩=>absurd ho.1 h1
  simp only[exC] at h
  split at h
  ·exact h.elim
  ·split at h
   ·exact h.elim
   ·rename_i id _ _ n hh;refine wpIn_loop_rounds n ?_;have key:∀(n:Nat) {S:St} {L':List (List Dat->Hp->Prop)} {ρ:Nat->Nat} {e:Env} {H:Hp} {a:Act} {W:World},(VC.den P W0 M R (Nat.rec (motive:=λ_=>St->VC) (λ_=>.fail 10)
      (λ_ again S=>exC P hi b S λx S=>match x with | .normal=>again S | x=>K x S) n S) ρ e H L')->Rel Df W0 M S ρ e X H a W->L'.length=S.dp->Agr B S ρ e->(∃pre,L'=pre++L)->Code.roundsIn (Fw rd) 0 P b Q n a W:=by
     intro n
     induction n with
     | zero=>intro S L' ρ e H a W h _ _ _ _;exact h.elim
     | succ n ihn =>
      intro S L' ρ e H a W h hr hl hb hp;rw[roundsIn_succ];refine ih ho.2 hn (.inr ho.1) (.inr ho.1) hXc (λhp=>⟨ho.1,λps ρ a W q1 q2 q3 q4=>(hpn hp).2 ps ρ a W q1 q2 q3 q4⟩) h hr hl hb (λz S' ρ' e' H' L2 X' a' W' hx hp2 hl' hb' hd hr'=>?_);obtain rfl:=hxx hx;obtain⟨p1,rfl⟩:=hp;obtain⟨p2,rfl⟩:=hp2
      cases z with
      | normal=>exact ihn hd hr' hl' hb' ⟨p2++p1,by rw[List.append_assoc]⟩
      | ret=>exact hk .ret S' ρ' e' H' _ _ a' W' (.inl rfl) ⟨p2++p1,by rw[List.append_assoc]⟩ hl' hb' hd hr'
      | exit i=>exact hk (.exit i) S' ρ' e' H' _ _ a' W' (.inl rfl) ⟨p2++p1,by rw[List.append_assoc]⟩ hl' hb' hd hr'
    exact key n h hr hl hb ⟨[],rfl⟩
   ·rename_i id _ _ slots blks hh
    split at h
    ·rename_i bl tv hbl htv
     split at h
     ·exact h.elim
     ·rename_i bv hbv
      split at h
      ·exact h.elim
      ·rename_i ini hini
       split at h
       ·exact h.elim
       ·rename_i hff;simp only[Bool.not_eq_true,Bool.not_eq_false',Bool.and_eq_true,decide_eq_true_eq] at hff;obtain⟨⟨hf,hfr⟩,hnv⟩:=hff;obtain⟨S1,r1,sim1,hn1,h1⟩:=gE h hr;obtain⟨I,μ,hI0,hbody⟩:=h1;have s1dp:=sim1.1
        obtain⟨e0,u0,rel0,d0⟩:=r9 (S:=S) (S2:=S) (ρ:=ρ) (ρ2:=ρ) (e:=e) (e2:=e) (bl:=bl) (ts:=slots.map (·.1)) (wr:=kU b) (n:=slots.length) (dp:=S1.dp+1) hf hr.pc hr htv hbv (by simp) hini hn1 (λ_ _=>rfl) (λ_ _=>rfl) rfl
         (λt v ht=>⟨v,(gu.2 ht).1,λ_ _=>rfl⟩) (λk o ho=>⟨o,ho,rfl,.inr (λ_ _=>rfl)⟩)
        refine wc (λn a W=>∃e' H',er e (mkQ S.nv (slots.map (·.2)++(bl.map (·.2)).flatten)).2.1 e' /\
         Rel Df W0 M { S with tm:=jr (kz S.tm (kU b++slots.map (·.1))) (slots.map (·.1)) ((mkQ S.nv (slots.map (·.2)++(bl.map (·.2)).flatten)).1.take slots.length),h:=cy S.h bl ((mkQ S.nv (slots.map (·.2)++(bl.map (·.2)).flatten)).1.drop slots.length),nv:=(mkQ S.nv (slots.map (·.2)++(bl.map (·.2)).flatten)).2.2.2,dp:=S1.dp+1 } ρ e' X H' a W /\
         I ((mkQ S.nv (slots.map (·.2)++(bl.map (·.2)).flatten)).2.2.1.map (SD.den ρ e')) H'/\μ ((mkQ S.nv (slots.map (·.2)++(bl.map (·.2)).flatten)).2.2.1.map (SD.den ρ e'))=n)
         ⟨_,e0,H,u0,rel0,by rw[d0];exact hI0,rfl⟩ ?_
        rintro n a1 W1 ⟨e1,H1,u1,rel1,hI1,rfl⟩;have hb1:=o5 u1 (hbody H1) hI1
        have hold1:=u1.old (jb _ S.nv S.nv (Nat.le_refl _));refine ih ho.2 hn (.inr ho.1) (.inr ho.1) hXc (λhp=>⟨ho.1,λps ρ a W q1 q2 q3 q4=>((hpn hp).2.base hb) ps ρ a W q1 q2 q3 q4⟩) hb1 rel1 (by simp[hl,s1dp]) (B:=⟨S.nv,S.h.length,ρ,e⟩) ⟨hnv,by simp[iJ],hold1,λ_ _=>rfl⟩ (λz S2 ρ2 e2 H2 L2 X2 a2 W2 hx hp2 hl2 hb2 hd2 hr2=>?_);obtain rfl:=hxx hx;obtain⟨pre,rfl⟩:=hp2;have hB2:Agr B S2 ρ2 e2:=⟨Nat.le_trans hb.n hb2.n,Nat.le_trans hb.m hb2.m,λi hi'=>(hb2.e i (Nat.lt_of_lt_of_le hi' hb.n)).trans (hb.e i hi'),λk hk'=>(hb2.r k (Nat.lt_of_lt_of_le hk' hb.m)).trans (hb.r k hk')⟩
        have hK:∀x,(K x S2).den P W0 M R ρ2 e2 H2 (pre++(λl K=>I l K/\μ l<μ ((mkQ S.nv (slots.map (·.2)++(bl.map (·.2)).flatten)).2.2.1.map (SD.den ρ e1)))::L)->Q x.toExit a2 W2:=λx hx =>
         hk x S2 ρ2 e2 H2 _ _ a2 W2 (.inl rfl) ⟨pre ++ [_],by rw[List.append_assoc];rfl⟩ hl2 hB2 hx hr2
        cases z with
        | ret=>exact hK .ret hd2
        | exit i=>exact hK (.exit i) hd2
        | normal =>
         simp only[Xt.toExit,Exit.then]
         dsimp only at hd2
         split at hd2
         ·rename_i tv2 bv2 htv2 hbv2
          split at hd2
          ·exact hd2.elim
          ·rename_i vals hvals
           split at hd2
           ·rename_i hkept;simp only[Bool.and_eq_true] at hkept;obtain⟨S3,r3,sim3,hn3,h3⟩:=gE hd2 hr2;obtain⟨g1,g2⟩:=kY hkept.1;obtain⟨e4,u4,rel4,d4⟩:=r9 (S:=S) (S2:=S2) (ρ:=ρ) (ρ2:=ρ2) (e:=e) (e2:=e2) (bl:=bl) (ts:=slots.map (·.1)) (wr:=kU b) (n:=slots.length) (dp:=S1.dp+1) hf hr.pc hr2 htv2 hbv2 (by simp) hvals hn3 hb2.e hb2.r (by rw[<- g1,gu.1])
             (λt v ht=>by
              obtain⟨w,w1,w2⟩:=g2 ht;exact⟨w,w1,λρ e=>wN ρ e _ _ w2⟩) (λk o ho=>by
              obtain⟨w,w1,w2,w3⟩:=iH hkept.2 ho;exact⟨w,w1,w2,w3.imp (by simp) (λh ρ e=>iZ ρ e _ _ h)⟩)
            have hidx:S2.dp-1-S1.dp=pre.length:=by
             simp only[List.length_append,List.length_cons] at hl2;omega
            simp only[VC.den] at h3;rw[hidx] at h3;have hget:(pre++(λl K=>I l K/\μ l<μ ((mkQ S.nv (slots.map (·.2)++(bl.map (·.2)).flatten)).2.2.1.map (SD.den ρ e1)))::L).getD pre.length (λ_ _=>False)=(λl K=>I l K/\μ l<μ ((mkQ S.nv (slots.map (·.2)++(bl.map (·.2)).flatten)).2.2.1.map (SD.den ρ e1))):=by
             simp
            rw[hget,<- d4] at h3;exact⟨_,h3.2,e4,H2,u4,rel4,h3.1,rfl⟩
           ·exact hd2.elim
         ·exact hd2.elim
    ·exact h.elim
   ·exact h.elim
 | rangeFunc g ps assign body iha ihb =>
  intro Df W0 M rd S K L Q B X ρ e H a W ho hn hrd hX hXc hpn h hr hl hb hk;obtain rfl:X = []:=hX.elim id λh=>by simp[rfs] at h
  obtain rfl:rd=none:=hrd.elim id λh=>by simp[rfs] at h
  simp only[jX,Bool.and_eq_true,decide_eq_true_eq] at ho;obtain⟨⟨⟨⟨⟨oa,ob⟩,na⟩,nb⟩,ra⟩,rb⟩:=ho;simp only[exC] at h
  split at h
  ·exact h.elim
  rename_i hpf
  split at h
  ·rename_i gf lb pars blks hg hh
   split at h
   ·rename_i bl hbl
    split at h
    ·rename_i bv hbv
     split at h
     ·rename_i ini hini
      split at h
      ·exact h.elim
      ·rename_i hff;simp only[Bool.not_eq_true,Bool.not_eq_false',Bool.and_eq_true,decide_eq_true_eq] at hff;obtain⟨⟨⟨⟨⟨⟨⟨⟨hf,hlb⟩,hfc⟩,hnv1⟩,hfp⟩,hnv2⟩,hps⟩,hhf⟩,hfn⟩:=hff;obtain⟨S1,r1,sim1,hn1,h1⟩:=gE h hr;obtain⟨own,N,item,I,Hi,H1,T,hin,hround,hafter⟩:=h1;obtain⟨e0,u0,rel0,d0⟩:=r9 (S:=S) (S2:=S) (ρ:=ρ) (ρ2:=ρ) (e:=e) (e2:=e) (bl:=bl) (ts := []) (wr:=List.range S.tm.length) (n:=0) (dp:=S.dp) (tv := []) (bv:=bv) (pq:=(bl.map λx:Nat × List Pq=>x.2).flatten) (vals:=ini) hf hr.pc hr rfl hbv rfl hini hn1 (λ_ _=>rfl) (λ_ _=>rfl) rfl
        (λt v ht=>by
         obtain⟨h1,h2⟩:=gu.2 ht;have:=(List.getElem?_eq_some_iff.1 h1).1
         exact absurd (List.mem_append_left _ (List.mem_range.2 this)) h2) (λk o ho=>⟨o,ho,rfl,.inr (λ_ _=>rfl)⟩)
       have hold:∀{e':Env},er e (mkQ S.nv (bl.map (·.2)).flatten).2.1 e'->∀i,i<S.nv->e' i=e i:=λu=>u.old hfc;generalize hq:mkQ S.nv (bl.map (·.2)).flatten=q at *;generalize hp:D7 q.2.2.2 pars=pp at *;rw[List.drop_zero] at rel0;generalize hhH:cy S.h bl q.1=hH at *;have hcase:∀{k:Nat} {o:ay},hH[k]?=some (some o)->∃o',S.h[k]?=some (some o'):=λ{k o} hk=>by
        rw[<- hhH] at hk;obtain⟨o',h1,_⟩:=iY hk;exact⟨o',h1⟩
       obtain⟨fn0,hfn0,hfb,hfnm⟩:∃fn0,P.funcs[gf]?=some fn0/\fn0.body.isSome=true/\fn0.name ≠ "runtime.NumGoroutine":=by
        unfold nO at hfn
        split at hfn
        ·rename_i fn0 h0;simp only[Bool.and_eq_true,decide_eq_true_eq] at hfn;exact⟨fn0,h0,hfn.1,hfn.2⟩
        ·cases hfn
       simp only[St.fits,Bool.and_eq_true] at hf;obtain⟨⟨f1,f2⟩,f3⟩:=hf;have hHlt:∀b o,H b=some o->b<W.heap.size:=λb o h=>ag (hr.mem.sub b o h)
       let KNB:Nat->Prop:=λb=>∃(k:Nat) (o:ay),hH[k]?=some (some o)/\ρ k=b
       have hKN0:∀b,KNB b->H b=none/\(W0.heap.size<=b\/M b)/\b<W.heap.size:=λb ⟨k,o,h1,h2⟩=>by
        obtain⟨o',h3⟩:=hcase h1;exact⟨h2▸hr.mem.dis k o' h3,h2▸hr.mem.old k o' h3,h2▸ag (hr.mem.kn k o' h3)⟩
       refine wpIn_rangeFunc λfn hfnT=>?_;obtain⟨rec,hrec⟩:∃rec:LoopState->Option Code->Loop,rec=λst pe=>{ state:=st,pending:=pe,fn,tmps:=a.tmps,params:=ps,assign,body,defers:=W.heap.size }:=⟨_,rfl⟩
       obtain⟨W1,hW1⟩:∃W1,(W.alloc (.deferred (some []))).alloc (.loop (rec .ready none))=W1:=⟨_,rfl⟩
       have w1:∀b,b<W.heap.size->W1.heap[b]?=W.heap[b]?:=λb hb=>by
        rw[<- hW1,Below.heap_alloc _ _ _ (by simp;omega),Below.heap_alloc _ _ _ hb]
       have wL:W1.heap[W.heap.size+1]?=some (.loop (rec .ready none)):=by
        rw[<- hW1];have:=World.alloc_heap_new (W.alloc (.deferred (some []))) (.loop (rec .ready none));rwa [World.size_alloc] at this
       have wD:W1.heap[W.heap.size]?=some (.deferred (some [])):=by
        rw[<- hW1];exact (Below.heap_alloc _ _ _ (by simp)).trans (World.alloc_heap_new W _)
       have wS:W.heap.size+2=W1.heap.size:=by rw[<- hW1];simp
       have hH1:H.le (ak W1):=λb o h=>by
        have:=hr.mem.sub b o h;simp only[ak] at this |-;rw[w1 b (hHlt b o h),this]
       let J:Nat->Hp->(Nat->Prop)->Prop:=λk HJ FT=>∃(e':Env) (H1:Hp) (T:Nat->Prop),er e q.2.1 e'/\I (q.2.2.1.map (SD.den ρ e')) k H1 T/\(∀b,T b->∃o,H1 b=some o)/\(∀b,FT b↔(KNB b\/T b)) /\
        (∀(j:Nat) (o:ay),hH[j]?=some (some o)->HJ (ρ j)=some (o.den ρ e'))/\H1.le HJ/\(H1 (W.heap.size+1)=none/\H1 W.heap.size=none)/\(∀b,KNB b->H1 b=none)/\HJ (W.heap.size+1)=some (.loop (rec .ready none))/\HJ W.heap.size=some (.deferred (some []))
       have hrounds:∀k HJ FT V vals D,k<N->J k HJ FT->HJ.le (ak V)->item k vals D->D.le (ak V)->D.cells=D->(∀b,FT b->D b=none) ->
         YieldAt (Fw none) 0 P (W.heap.size+1) vals.toArray V λz V'=>z=.returned (.bool true)/\∃HJ' FT',J (k+1) HJ' FT'/\HJ'.le (ak V')/\Mod FT V V'/\(∀b,FT' b->(FT b\/V.heap.size<=b)/\D b=none)/\(∀b,FT' b->∃o,HJ' b=some o)/\(∀b o,HJ' b=some o->(∃q,HJ b=some q)\/(∃q,D b=some q)\/V.heap.size<=b):=by
        rintro k HJ FT V vals D hkN ⟨ec,Hc,Tc,uc,hIc,hTc,hFT,hkc,hHc,hcc,hKc,hLc,hDc⟩ hJV hitem hDV hDcel hFD;have vL:=hJV _ _ hLc
        have vD:=hJV _ _ hDc;simp only[ak] at vL vD;have hLlt:=ag vL
        have hHcV:=Hp.le_trans hHc hJV;have hTL:∀b,FT b->b≠W.heap.size+1/\b≠W.heap.size:=λb hb=>by
         rcases (hFT b).1 hb with h1 | h1
         ·have:=(hKN0 b h1).2.2;omega
         ·obtain⟨o,h2⟩:=hTc b h1;exact⟨λh=>(by rw[h,hcc.1] at h2;cases h2),λh=>(by rw[h,hcc.2] at h2;cases h2)⟩
        have hHcL:∀b o,(W.heap.size+1=b\/W.heap.size=b)->bE Hc D b=some o->False:=λb o hb ho=>by
         have hle:=mH hHcV hDV b o ho;have hcb:Hc b=none:=hb.elim (λh=>h▸hcc.1) (λh=>h▸hcc.2)
         have hcel:isC o=true:=by
          unfold bE at ho;rw[hcb] at ho;exact nJ hDcel ho
         simp only[ak] at hle
         rcases hb with rfl | rfl
         ·rw[vL,Option.some.injEq] at hle;subst hle;cases hcel
         ·rw[vD,Option.some.injEq] at hle;subst hle;cases hcel
        have hR:=o5 uc (hround k vals V (λb=>FT b\/b=W.heap.size+1) Hc Tc D (bE Hc D) hkN (Nat.le_trans hr.mem.mod.size (by omega)) hitem (λb hb=>⟨.inl ((hFT b).2 (.inr hb)),hFD b ((hFT b).2 (.inr hb))⟩) (gm Hc D) (mS hHcV hDV)) hIc;obtain⟨e2,u2,hvals,hden⟩:=bR hR;have hold2:∀i,i<q.2.2.2->e2 i=ec i:=u2.old hfp
        have hold1:∀i,i<S.nv->e2 i=e i:=λi hi=>(hold2 i (by omega)).trans (hold uc i hi);have hsz:vals.toArray.size=ps.size:=by rw[hvals];simp[bA,hps]
        have hy:=run_yield (P:=P) (args:=vals.toArray) vL (by rw[hrec];exact hsz);refine⟨_,_,_,_,hy,?_⟩;rw[hrec];simp only
        have rel2:Rel [] V (λb=>FT b\/b=W.heap.size+1) { S with tm:=rr S.tm ps.toList pp.1,h:=hH,nv:=pp.2.2,dp:=S.dp+1 } ρ e2 [(W.heap.size+1,.loop (rec .ready none))] (bE Hc D) { tmps:=(ps.zip vals.toArray).foldl (λt (p,v)=>t.setIfInBounds p v) a.tmps,defers := [] } V:=by
         have htm:=qR (ρ:=ρ) (e:=e2) (ps:=ps.toList) (vs:=pp.1) (tm:=S.tm) (a:={ tmps:=a.tmps,defers := [] }) ⟨hr.tm.1,λt v ht=>by
          rw[SV.den_congr hold1 (λ_ _=>rfl) v (gU f1 ht)];exact hr.tm.2 t v ht⟩
         rw[<- hvals] at htm;have hfold:(ps.zip vals.toArray).foldl (λt (p,v)=>t.setIfInBounds p v) a.tmps=(ps.toList.zip vals).foldl (λt (p,v)=>t.setIfInBounds p v) a.tmps:=by
          rw[<- Array.foldl_toList,Array.toList_zip]
         rw[hfold];have hcon:∀{j:Nat} {o:ay},hH[j]?=some (some o)->o.den ρ e2=o.den ρ ec:=λ{j o} hj=>by
          simp only[ay.den,SV.dens_congr hold2 (λ_ _=>rfl) o.cs (ka hhf hj)]
         refine⟨htm,rfl,⟨λj o hj=>?_,λi j o o' hi' hj he=>?_,λj o hj=>?_,λj o hj=>?_,mH hHcV hDV,Mod.refl _ _,λp hp=>?_,λp hp=>?_,λp hp=>?_,λp hp j o hj=>?_⟩,λp hp=>?_⟩
         ·rw[hcon hj];exact hJV _ _ (hkc j o hj)
         ·obtain⟨o1,h1⟩:=hcase hi';obtain⟨o2,h2⟩:=hcase hj;exact hr.mem.inj i j o1 o2 h1 h2 he
         ·exact .inr (.inl ((hFT _).2 (.inl ⟨j,o,hj,rfl⟩)))
         ·unfold bE;rw[hKc _ ⟨j,o,hj,rfl⟩];exact hFD _ ((hFT _).2 (.inl ⟨j,o,hj,rfl⟩))
         ·simp only[List.mem_singleton] at hp;subst hp;exact vL
         ·simp only[List.mem_singleton] at hp;subst hp;exact .inr (.inr rfl)
         ·simp only[List.mem_singleton] at hp;subst hp
          cases hh:bE Hc D (W.heap.size+1) with
          | none=>rfl
          | some o=>exact (hHcL _ o (.inl rfl) hh).elim
         ·simp only[List.mem_singleton] at hp;subst hp;exact (hTL _ ((hFT _).2 (.inl ⟨j,o,hj,rfl⟩))).1
         ·rw[Sb.den_congr hold1 p.1 (i8 f3 p hp)];exact hr.pc p hp
        have hB2:Agr ⟨S.nv,S.h.length,ρ,e⟩ { S with tm:=rr S.tm ps.toList pp.1,h:=hH,nv:=pp.2.2,dp:=S.dp+1 } ρ e2:=⟨by simp only;omega,by rw[<- hhH];simp[iJ],hold1,λ_ _=>rfl⟩
        have hXr:∀st pe,∀p ∈ [(W.heap.size+1,Obj.loop (rec st pe))],isC p.2=false:=λst pe p hp=>by simp at hp;subst hp;rfl
        have hnd:∀(st:LoopState) (pe:Option Code),∀ds,Obj.loop (rec st pe)≠.deferred ds:=λ_ _ _ h=>by cases h
        refine roundIn_of_wpIn (F:=Fw none) trivial ?_;refine iha (rd:=some (W.heap.size+1)) ra na (.inr oa) (.inr oa) (hXr .ready none) (λhp=>absurd hp hpf) hden rel2 (by simp[hl]) hB2 (λz S3 ρ3 e3 H3 L3 X3 a3 W3 hx3 hp3 hl3 hb3 hd3 hr3=>?_);obtain rfl:X3 = [(W.heap.size+1,.loop (rec .ready none))]:=hx3.elim id λh=>absurd oa h.1
        cases z with
        | ret=>exact hd3.elim
        | exit i=>exact hd3.elim
        | normal =>
         have x3:=hr3.mem.xk _ (List.mem_singleton_self _);refine⟨_,run_beginRound x3 (by rw[hrec]),?_⟩;have hr4:=hr3.putX (o':=.loop { rec .ready none with state:=.busy }) (hnd _ _) (λ_ h=>by cases h)
         have hbusy:({ rec .ready none with state:=.busy }:Loop)=rec .busy none:=by rw[hrec]
         rw[hbusy] at hr4 |-;refine ihb (rd:=some (W.heap.size+1)) rb nb (.inr ob) (.inr ob) (hXr .busy none) (λhp=>absurd hp hpf) hd3 hr4 hl3 hb3 (λz S5 ρ5 e5 H5 L5 X5 a5 W5 hx5 hp5 hl5 hb5 hd5 hr5=>?_);obtain rfl:X5 = [(W.heap.size+1,.loop (rec .busy none))]:=hx5.elim id λh=>absurd ob h.1
         cases z with
         | ret=>exact hd5.elim
         | exit i=>exact hd5.elim
         | normal =>
          dsimp only at hd5
          split at hd5
          ·rename_i bv5 hbv5
           split at hd5
           ·rename_i vals5 hv5
            split at hd5
            ·rename_i hkept;simp only[Bool.and_eq_true,decide_eq_true_eq] at hkept;obtain⟨S6,r6,sim6,hn6,h6⟩:=gE hd5 hr5;obtain⟨e7,u7,rel7,d7⟩:=r9 (S:=S) (S2:=S5) (ρ:=ρ) (ρ2:=ρ5) (e:=e) (e2:=e5) (bl:=bl) (ts := []) (wr:=List.range S.tm.length) (n:=0) (dp:=S.dp) (tv := []) (bv:=bv5) (pq:=(bl.map λx:Nat × List Pq=>x.2).flatten) (vals:=vals5) (by simp only[St.fits,Bool.and_eq_true];exact⟨⟨f1,f2⟩,f3⟩) hr.pc hr5 rfl hbv5 rfl hv5 hn6 (λi hi=>hb5.e i hi) (λk hk=>hb5.r k hk) hkept.2
              (λt v ht=>by
               obtain⟨h1,h2⟩:=gu.2 ht;have:=(List.getElem?_eq_some_iff.1 h1).1
               exact absurd (List.mem_append_left _ (List.mem_range.2 this)) h2) (λk o ho=>by
               obtain⟨w,w1,w2,w3⟩:=iH hkept.1 ho;exact⟨w,w1,w2,w3.imp (by simp) (λh ρ e=>iZ ρ e _ _ h)⟩)
             rw[hq] at u7 rel7 d7;rw[List.drop_zero,hhH] at rel7;obtain⟨pre3,rfl⟩:=hp3;obtain⟨pre5,rfl⟩:=hp5;have hidx:S5.dp-1-S.dp=(pre5++pre3).length:=by
              simp only[List.length_append,List.length_cons] at hl5 |-;omega
             simp only[VC.den] at h6;rw[hidx,<- List.append_assoc,<- d7] at h6;have hget:((pre5++pre3)++(λ(d:List Dat) (K:Hp)=>∃(T':Nat->Prop) (K':Hp),K'.le K/\I d (k+1) K' T'/\(∀b o,K' b=some o->(∃q,Hc b=some q)\/(∃q,D b=some q)\/V.heap.size<=b)/\∀b,T' b->(Tc b\/V.heap.size<=b)/\(∃o,K' b=some o)/\D b=none)::L).getD (pre5++pre3).length (λ_ _=>False)=(λ(d:List Dat) (K:Hp)=>∃(T':Nat->Prop) (K':Hp),K'.le K/\I d (k+1) K' T'/\(∀b o,K' b=some o->(∃q,Hc b=some q)\/(∃q,D b=some q)\/V.heap.size<=b)/\∀b,T' b->(Tc b\/V.heap.size<=b)/\(∃o,K' b=some o)/\D b=none):=by
              simp
             rw[hget] at h6;obtain⟨T7,K7,hK7,hI7,hdom7,hT7⟩:=h6;have x5:=rel7.mem.xk _ (List.mem_singleton_self _)
             have hend:=run_endRound (P:=P) none x5;have hready:({ rec .busy none with state:=if (none:Option Code).isNone=true then .ready else .done,pending:=none }:Loop)=rec .ready none:=by rw[hrec];rfl
             rw[hready] at hend;refine⟨_,_,hend,rfl,?_⟩;have hlt5:=ag x5
             have w6:∀b,b≠W.heap.size+1->(W5.putObj (W.heap.size+1) (.loop (rec .ready none))).heap[b]?=W5.heap[b]?:=λb hb=>World.putObj_heap_other hb;have w6l:(W5.putObj (W.heap.size+1) (.loop (rec .ready none))).heap[W.heap.size+1]?=some (.loop (rec .ready none)):=World.putObj_heap_same hlt5
             have hmod:∀b,b<V.heap.size->¬FT b->(W5.putObj (W.heap.size+1) (.loop (rec .ready none))).heap[b]?=V.heap[b]?:=λb hb hnb=>by
              by_cases he:b=W.heap.size+1
              ·rw[he,w6l,vL]
              ·rw[w6 b he,rel7.mem.mod.blk b hb (λh=>h.elim hnb he)]
             have hkn7:∀(j:Nat) (o:ay),hH[j]?=some (some o)->(W5.putObj (W.heap.size+1) (.loop (rec .ready none))).heap[ρ j]?=some (o.den ρ e7):=λj o hj=>by
              rw[w6 _ (rel7.mem.xr _ (List.mem_singleton_self _) j o hj)];exact rel7.mem.kn j o hj
             have hH5:∀b o,H5 b=some o->(W5.putObj (W.heap.size+1) (.loop (rec .ready none))).heap[b]?=some o:=λb o hbo=>by
              have hne:b≠W.heap.size+1:=λh=>by
               have:=rel7.mem.xd _ (List.mem_singleton_self _);simp only at this;rw[h,this] at hbo;cases hbo
              rw[w6 b hne];exact rel7.mem.sub b o hbo
             have hDD:(W5.putObj (W.heap.size+1) (.loop (rec .ready none))).heap[W.heap.size]?=some (.deferred (some [])):=by
              rw[hmod W.heap.size (ag vD) (λh=>(hTL _ h).2 rfl),vD]
             have hDL:D (W.heap.size+1)=none/\D W.heap.size=none:=by
              constructor
              ·cases hh:D (W.heap.size+1) with
               | none=>rfl
               | some o =>
                have h1:=hDV _ _ hh;have h2:=nJ hDcel hh
                simp only[ak] at h1;rw[vL,Option.some.injEq] at h1;subst h1;cases h2
              ·cases hh:D W.heap.size with
               | none=>rfl
               | some o =>
                have h1:=hDV _ _ hh;have h2:=nJ hDcel hh
                simp only[ak] at h1;rw[vD,Option.some.injEq] at h1;subst h1;cases h2
             have hK7n:∀b,Hc b=none->D b=none->b<V.heap.size->K7 b=none:=λb h1 h2 h3=>by
              cases hh:K7 b with
              | none=>rfl
              | some o =>
               rcases hdom7 b o hh with⟨q,h⟩ | ⟨q,h⟩ | h
               ·rw[h1] at h;cases h
               ·rw[h2] at h;cases h
               ·omega
             refine⟨nl (W5.putObj (W.heap.size+1) (.loop (rec .ready none))) (λb=>KNB b\/(∃o,K7 b=some o)\/b=W.heap.size+1\/b=W.heap.size),λb=>KNB b\/T7 b,
              ⟨e7,K7,T7,u7,hI7,λb hb=>(hT7 b hb).2.1,λb=>Iff.rfl,λj o hj=>?_,λb o hbo=>?_,⟨hK7n _ hcc.1 hDL.1 hLlt,hK7n _ hcc.2 hDL.2 (by omega)⟩,λb ⟨j,o,h1,h2⟩=>?_,?_,?_⟩,pR _ _,⟨rel7.mem.mod.os,rel7.mem.mod.tape,rel7.mem.mod.output,by simpa using rel7.mem.mod.size,hmod⟩,λb hb=>?_,λb hb=>?_,λb o hb=>?_⟩
             ·rw[co (.inl ⟨j,o,hj,rfl⟩)];exact hkn7 j o hj
             ·rw[co (.inr (.inl ⟨o,hbo⟩))];exact hH5 b o (hK7 b o hbo)
             ·have:=rel7.mem.dis j o h1;rw[h2] at this
              cases hh:K7 b with
              | none=>rfl
              | some o'=>rw[hK7 b o' hh] at this;cases this
             ·rw[co (.inr (.inr (.inl rfl)))];exact w6l
             ·rw[co (.inr (.inr (.inr rfl)))];exact hDD
             ·rcases hb with hb | hb
              ·exact⟨.inl ((hFT b).2 (.inl hb)),hFD b ((hFT b).2 (.inl hb))⟩
              ·obtain⟨h1,_,h3⟩:=hT7 b hb;exact⟨h1.imp (λh=>(hFT b).2 (.inr h)) id,h3⟩
             ·rcases hb with⟨j,o,h1,h2⟩ | hb
              ·exact⟨_,by rw[co (.inl ⟨j,o,h1,h2⟩),<- h2];exact hkn7 j o h1⟩
              ·obtain⟨_,⟨o,h1⟩,_⟩:=hT7 b hb;exact⟨_,by rw[co (.inr (.inl ⟨o,h1⟩))];exact hH5 b _ (hK7 b o h1)⟩
             ·have hS:KNB b\/(∃o,K7 b=some o)\/b=W.heap.size+1\/b=W.heap.size:=Classical.byContradiction λhn=>by
               rw[od hn] at hb;cases hb
              rcases hS with⟨j,o',h1,h2⟩ | ⟨o',h⟩ | h | h
              ·exact .inl ⟨_,h2▸hkc j o' h1⟩
              ·rcases hdom7 b o' h with⟨q,h⟩ | h | h
               ·exact .inl ⟨q,hHc b q h⟩
               ·exact .inr (.inl h)
               ·exact .inr (.inr h)
              ·exact .inl ⟨_,h▸hLc⟩
              ·exact .inl ⟨_,h▸hDc⟩
            ·exact hd5.elim
           ·exact hd5.elim
          ·exact hd5.elim
       have hown:∀b,own b->b<W.heap.size:=λb hb=>by
        obtain⟨_,⟨o,h1⟩,_⟩:=hin.own b hb;exact hHlt b o (hin.hi b o h1)
       have hTlt:∀b,T b->b<W.heap.size:=λb hb=>by
        obtain⟨_,⟨o,h1⟩,_⟩:=hin.tn b hb;exact hHlt b _ (hin.h1 b _ h1)
       have hkn0:∀(j:Nat) (o:ay),hH[j]?=some (some o)->W1.heap[ρ j]?=some (o.den ρ e0):=λj o hj=>by
        rw[w1 _ (hKN0 _ ⟨j,o,hj,rfl⟩).2.2];exact rel0.mem.kn j o hj
       have hlt1:∀b,W.heap.size<=b->H1 b=none:=λb hb=>by
        cases hh:H1 b with
        | none=>rfl
        | some o=>have:=hHlt b o (hin.h1 b o hh);omega
       have hcall:=hin.it (W.heap.size+1) J hrounds W1 (nl W1 (λb=>KNB b\/(∃o,H1 b=some o)\/b=W.heap.size+1\/b=W.heap.size)) (λb=>KNB b\/T b) (Hp.le_trans hin.hi hH1) (pR _ _)
        ⟨e0,H1,T,u0,by rw[d0];exact hin.ini,λb hb=>(hin.tn b hb).2.1,λb=>Iff.rfl,λj o hj=>by rw[co (.inl ⟨j,o,hj,rfl⟩)];exact hkn0 j o hj,
         λb o hbo=>by rw[co (.inr (.inl ⟨o,hbo⟩))];exact hH1 b o (hin.h1 b o hbo),⟨hlt1 _ (by omega),hlt1 _ (by omega)⟩,λb hb=>(by
          cases hh:H1 b with
          | none=>rfl
          | some o=>have:=hin.h1 b o hh;rw[(hKN0 b hb).1] at this;cases this),
         by rw[co (.inr (.inr (.inl rfl)))];exact wL,by rw[co (.inr (.inr (.inr rfl)))];exact wD⟩
        (λb hb=>by
         obtain⟨h1,⟨o,h2⟩,h3⟩:=hin.own b hb;refine⟨od ?_,o,h2⟩;have h4:=hin.hi b o h2
         rintro (h | ⟨o',h⟩ | h | h)
         ·rw[(hKN0 b h).1] at h4;cases h4
         ·rw[h1] at h;cases h
         ·have:=hown b hb;omega
         ·have:=hown b hb;omega)
        (λb hb=>by
         rcases hb with⟨j,o,h1,h2⟩ | hb
         ·refine⟨?_,_,by rw[co (.inl ⟨j,o,h1,h2⟩),<- h2];exact hkn0 j o h1⟩
          cases hh:Hi b with
          | none=>rfl
          | some o'=>have:=hin.hi b o' hh;rw[(hKN0 b ⟨j,o,h1,h2⟩).1] at this;cases this
         ·obtain⟨h1,⟨o,h2⟩,_⟩:=hin.tn b hb;exact⟨h1,_,by rw[co (.inr (.inl ⟨o,h2⟩))];exact hH1 b _ (hin.h1 b _ h2)⟩)
       have hev:a.eval g=.func (.func gf) #[] (SV.dens ρ e lb).toArray:=aw hr.tm hg;refine⟨W.heap.size+1,[{ target:=.collected W.heap.size,args:=#[] }],W1,{ target:=.fn (.func gf) (SV.dens ρ e lb).toArray,args:=#[.func (.yield (W.heap.size+1)) #[] #[]] },W1,gf,
        #[.func (.yield (W.heap.size+1)) #[] #[]]++(SV.dens ρ e lb).toArray,W1,?_,?_,λ_ _=>trivial,?_,λh=>(by cases h),?_⟩
       ·rw[<- hW1,hrec];exact run_enterLoop_outer _ _ _ _ _
       ·simp only[resolve,hev]
        simp[go_sem]
       ·obtain⟨bd,hbd⟩:=Option.isSome_iff_exists.1 hfb;simp[invoke,callFunc,hfn0,hfnm,hbd]
       ·have harr:#[Value.func (.yield (W.heap.size+1)) #[] #[]]++(SV.dens ρ e lb).toArray=(Value.func (.yield (W.heap.size+1)) #[] #[]::SV.dens ρ e lb).toArray:=by
         apply Array.ext';simp
        rw[harr];refine qg (hcall.mono λz W' ⟨⟨v,hz⟩,HJ',FT',hJ,hJW,hmod⟩=>?_);subst hz;obtain⟨eN,HN,TN,uN,hIN,_,_,hkN,hHN,hcN,hKN,hLN,hDN⟩:=hJ;have vL:=hJW _ _ hLN
        have vD:=hJW _ _ hDN;simp only[ak] at vL vD;have hend:=run_endLoop (P:=P) vL (by rw[hrec];simp)
        obtain⟨oX,hoX⟩:∃oX,Obj.loop { rec .ready none with state:=.exhausted }=oX:=⟨_,rfl⟩
        have hpe:(rec .ready none).pending=none:=by rw[hrec]
        rw[hoX,hpe] at hend;refine⟨_,_,hend,?_⟩;simp only
        have hlt5:=ag vL;have w6:∀b,b≠W.heap.size+1->(W'.putObj (W.heap.size+1) oX).heap[b]?=W'.heap[b]?:=λb hb=>World.putObj_heap_other hb
        have hHNW:=Hp.le_trans hHN hJW;have hneD:∀(j:Nat) (o:ay),hH[j]?=some (some o)->ρ j≠W.heap.size+1/\ρ j≠W.heap.size:=λj o hj=>by
         have:=(hKN0 _ ⟨j,o,hj,rfl⟩).2.2;omega
        have holdN:=hold uN;refine hk .normal { S with h:=hH,nv:=q.2.2.2 } ρ eN HN L [(W.heap.size,.deferred (some []))] _ _ (.inr ⟨by simp[rfs],.inr ⟨_,rfl⟩⟩) ⟨[],rfl⟩ hl ⟨by have:=hb.n;simp only;omega,by rw[<- hhH];simpa [iJ] using hb.m,λi hi=>(holdN i (Nat.lt_of_lt_of_le hi hb.n)).trans (hb.e i hi),hb.r⟩ (o5 uN (hafter HN TN) hIN) ?_;refine⟨⟨hr.tm.1,λt v ht=>?_⟩,?_,⟨λj o hj=>?_,λi j o o' hi' hj he=>?_,λj o hj=>?_,λj o hj=>hKN _ ⟨j,o,hj,rfl⟩,λb o hbo=>?_,⟨?_,?_,?_,?_,λb hb1 hnb=>?_⟩,λp hp=>?_,λp hp=>?_,λp hp=>?_,λp hp j o hj=>?_⟩,λp hp=>?_⟩
        ·rw[SV.den_congr holdN (λ_ _=>rfl) v (gU f1 ht)];exact hr.tm.2 t v ht
        ·have hd0:=hr.df;simp only[oJ,List.filterMap_nil] at hd0;simp[oJ,hd0]
        ·rw[w6 _ (hneD j o hj).1];exact hJW _ _ (hkN j o hj)
        ·obtain⟨o1,h1⟩:=hcase hi';obtain⟨o2,h2⟩:=hcase hj;exact hr.mem.inj i j o1 o2 h1 h2 he
        ·obtain⟨o1,h1⟩:=hcase hj;exact hr.mem.old j o1 h1
        ·have h1:=hHNW b o hbo;simp only[ak] at h1 |-;have hne:b≠W.heap.size+1:=λh=>by
          rw[h,hcN.1] at hbo;cases hbo
         rw[w6 b hne,h1]
        ·rw[show (W'.putObj (W.heap.size+1) oX).os=W'.os from rfl,hmod.os,<- hW1];exact hr.mem.mod.os
        ·rw[show (W'.putObj (W.heap.size+1) oX).tape=W'.tape from rfl,hmod.tape,<- hW1];exact hr.mem.mod.tape
        ·rw[show (W'.putObj (W.heap.size+1) oX).output=W'.output from rfl,hmod.output,<- hW1];exact hr.mem.mod.output
        ·have h1:=hmod.size;have h2:=hr.mem.mod.size
         have h3:(W'.putObj (W.heap.size+1) oX).heap.size=W'.heap.size:=by simp
         omega
        ·have h2:=hr.mem.mod.size;rw[w6 b (by omega),hmod.blk b (by omega) (λh=>?_),w1 b (by omega),hr.mem.mod.blk b hb1 hnb]
         rcases h with h | h | h
         ·obtain⟨_,_,h3⟩:=hin.own b h;exact h3.elim (λh4=>by omega) hnb
         ·exact (hKN0 b h).2.1.elim (λh4=>by omega) hnb
         ·obtain⟨_,_,h3⟩:=hin.tn b h;exact h3.elim (λh4=>by omega) hnb
        ·simp only[List.mem_singleton] at hp;subst hp;simp only
         rw[w6 _ (by omega)];exact vD
        ·simp only[List.mem_singleton] at hp;subst hp;exact .inl hr.mem.mod.size
        ·simp only[List.mem_singleton] at hp;subst hp;exact hcN.2
        ·simp only[List.mem_singleton] at hp;subst hp;exact (hneD j o hj).2
        ·rw[Sb.den_congr holdN p.1 (i8 f3 p hp)];exact hr.pc p hp
     ·exact h.elim
    ·exact h.elim
   ·exact h.elim
  ·exact h.elim
 | _=>intro Df W0 M rd S K L Q B X ρ e H a W _ _ _ _ _ _ h _ _ _ _;exact h.elim
variable{W0:World}{M:Nat->Prop}{X:List (Nat × Obj)}
theorem oR{S:St}{ρ:Nat->Nat}{e:Env}{X:List (Nat × Obj)}{H:Hp}{a:Act}{W:World}(hr:Rel Df W0 M S ρ e X H a W):∀{l:List ResultVar} {vs:List SV},qx P S l=some vs ->
  (l.mapM (m:=Sem) fun
   | .tmp t=>pure (a.tmps.getD t Go.undef)
   | .cell x t=>do loadVar t (<- asAddr (a.tmps.getD x Go.undef))).run P W=.ok (SV.dens ρ e vs) W
 | [],vs,h=>by
  simp only[qx,Option.some.injEq] at h;subst h;rfl
 | .tmp t::r,vs,h=>by
  simp only[qx] at h
  split at h
  ·rename_i v ws hv hw;simp only[Option.some.injEq] at h;subst h;have h1:=lG hr.tm hv
   have ih:=oR hr hw;have hg:a.tmps.getD t Go.undef=v.den ρ e:=by rw[Array.getD_eq_getD_getElem?,h1];rfl
   rw[List.mapM_cons];simp only[Sem.run_bind,Sem.run_pure,Result.andThen_ok,ih,SV.dens,hg]
  ·cases h
 | .cell t ty::r,vs,h=>by
  simp only[qx] at h
  split at h
  ·rename_i k off hk
   split at h
   ·rename_i v ws hv hw;simp only[Option.some.injEq] at h;subst h;simp only[Option.bind_eq_some_iff] at hv;obtain⟨ob,hob,hv⟩:=hv;have h1:=lG hr.tm hk
    have ih:=oR hr hw;have hl:=w8 (P:=P) (o:={ dst:=none,op:=.load ty (.tmp t),type:=0,pos := "",after:=#[],guard:=none }) (W:=W) hr.toT rfl
    have hst:step P S { dst:=none,op:=.load ty (.tmp t),type:=0,pos := "",after:=#[],guard:=none }=.ld k (.k 0) ty (some off):=by
     simp only[step,ev,hk,hob,hv]
    rw[hst] at hl;have hrun:=hl ob v (qb hr hob).1 (qb hr hob).2 hv
    simp only[execOp,Instr.loadAt,Act.eval,Array.getD_eq_getD_getElem?,h1,Option.getD_some,SV.den,Instr.sureAddr,Sem.run_bind,Sem.run_pure,Result.andThen_ok] at hrun;have hld:(loadVar ty ⟨ρ k,off,none⟩).run P W=.ok (v.den ρ e) W:=by
     cases hx:(loadVar ty ⟨ρ k,off,none⟩).run P W with
     | ok u w =>
      rw[hx] at hrun;simp only[Result.andThen_ok] at hrun
      injection hrun with q1 q2
      injection q1 with q1
      rw[q1,q2]
     | halt u w=>rw[hx] at hrun;cases hrun
    have hg:a.tmps.getD t Go.undef=.pointer (some ⟨ρ k,off,none⟩):=by rw[Array.getD_eq_getD_getElem?,h1];rfl
    rw[List.mapM_cons];have ha:(asAddr (a.tmps.getD t Go.undef)).run P W=.ok ⟨ρ k,off,none⟩ W:=by rw[hg];rfl
    simp only[Sem.run_bind,Sem.run_pure,Result.andThen_ok,ha,hld,ih,SV.dens]
   ·cases h
  ·cases h
theorem xY{S:St}{l r:List ResultVar}{i ty:Nat}{off:Sx}(h:uU S l=some (i,off,ty,r)):∃t,l=.cell t ty::r/\(S.tm[t]?).join=some (.ptrO i off):=by
 unfold uU at h
 split at h
 ·rename_i t ty' r'
  split at h
  ·rename_i i' off' ht;simp only[Option.some.injEq,Prod.mk.injEq] at h;obtain⟨rfl,rfl,rfl,rfl⟩:=h;exact⟨t,rfl,ht⟩
  ·cases h
 ·cases h
theorem tZ{n:Nat}{fn:Func}{S:St}{ρ:Nat->Nat}{e:Env}{H:Hp}{L:List (List Dat->Hp->Prop)}{a:Act}{W:World}(h:(kC P n fn S).den P W0 M R ρ e H L)(hr:Rel Df W0 M S ρ e X H a W) :
  ∃v,(results fn a.tmps).run P W=.ok v W/\R (.returned v) W:=by
 unfold kC at h;have hout:∀vs:List Value,(fn.results.toList.mapM (m:=Sem) fun
   | .tmp t=>pure (a.tmps.getD t Go.undef)
   | .cell x t=>do loadVar t (<- asAddr (a.tmps.getD x Go.undef))).run P W=.ok vs W->(results fn a.tmps).run P W=.ok (match vs with | [v]=>v | vs=>.tuple vs.toArray) W:=λvs h1=>by
  unfold results;rw[Array.mapM_eq_mapM_toList];simp only[Sem.run_bind,Sem.run_map]
  erw [h1]
  simp only[Result.andThen_ok,Sem.run_pure]
  congr 1
  match vs with
  | []=>rfl
  | [v]=>rfl
  | u::v::r=>simp
 split at h
 ·rename_i i off ty r hep;obtain⟨t,hl,ht⟩:=xY hep
  split at h
  ·exact h.elim
  ·rename_i zs hz;dsimp only at h
   split at h
   ·exact h.elim
   ·rename_i hff;simp only[Bool.not_eq_true,Bool.not_eq_false',Bool.and_eq_true,decide_eq_true_eq] at hff;obtain⟨⟨⟨⟨hf,hfr⟩,hnv⟩,hagg⟩,hne⟩:=hff
    split at h
    ·rename_i vs hvs;obtain⟨e',hu,hrow,hret⟩:=bR h;have hold:=hu.old hfr
     have hr':=(hr.congr hf hold (λ_ _=>rfl)).next (mkP S.nv (zs.map ja)).2.2;have hres:=oR (P:=P) hr' hvs
     obtain⟨b,o,hp,C,T,fz,hb,hc⟩:=hrow.mono hr.mem.sub;obtain⟨sz,zv,hsz,hzs,hzl,_⟩:=g8 hz;have hpl:∀(l:List Pt) (n:Nat),(mkP n l).1.length=l.length:=by
      intro l
      induction l with
      | nil=>intro n;rfl
      | cons p r ih=>intro n;cases p<;>simp[mkP,ih]
     have hlen:(SV.dens ρ e' (mkP S.nv (zs.map ja)).1).length=sz:=by rw[bA,hpl,List.length_map,hzl]
     have hld:=ez (P:=P) hsz (w:=W) (b:=b) (off:=o+(off.den e).toNat) (T:=T) (fz:=fz) hb (λj hj=>(hc j hj).1) hlen (v:=.agg (SV.dens ρ e' (mkP S.nv (zs.map ja)).1).toArray) (by rw[if_pos hagg]);have h1:=lG hr.tm ht
     have hg:a.tmps.getD t Go.undef=.pointer (some ⟨b,o+(off.den e).toNat,none⟩):=by
      rw[Array.getD_eq_getD_getElem?,h1];simp[SV.den,hp,ab,kw]
     have ha:(asAddr (a.tmps.getD t Go.undef)).run P W=.ok ⟨b,o+(off.den e).toNat,none⟩ W:=by rw[hg];rfl
     refine⟨_,hout (.agg (SV.dens ρ e' (mkP S.nv (zs.map ja)).1).toArray::SV.dens ρ e' vs) ?_,?_⟩
     ·rw[hl,List.mapM_cons];simp only[Sem.run_bind,Sem.run_pure,Result.andThen_ok,ha,hld]
      erw [hres]
      simp only[Result.andThen_ok,Sem.run_pure]
     ·have hR:=hret W hr.now (fY hr' (bO S _));have hvn:vs ≠ []:=λhv=>by
       subst hv
       cases r with
       | nil=>simp at hne
       | cons x r=>cases x<;>simp only[qx] at hvs<;>split at hvs<;>first | cases hvs | (split at hvs<;>cases hvs)
      cases vs with
      | nil=>exact absurd rfl hvn
      | cons u us=>exact hR
    ·exact h.elim
 ·have hres:∀vs,qx P S fn.results.toList=some vs->(results fn a.tmps).run P W=.ok (match vs with | [v]=>v.den ρ e | vs=>.tuple (SV.dens ρ e vs).toArray) W:=λvs hv=>by
   have h1:=hout _ (oR (P:=P) hr hv);rw[h1]
   match vs with
   | []=>rfl
   | [v]=>rfl
   | u::v::r=>simp[SV.dens]
  split at h
  ·rename_i v hv;exact⟨_,hres _ hv,h W hr.now (fY hr (bO S _))⟩
  ·rename_i vs hn hv;refine⟨_,hres _ hv,?_⟩;have:=h W hr.now (fY hr (bO S _))
   split
   ·rename_i v;exact (hn v rfl).elim
   ·exact this
  ·exact h.elim
theorem tU{tmps:Array Value}{ρ:Nat->Nat}:∀{res:List (Nat × Nat × Nat)} {l:List ResultVar},k8 res l=true->(∀p∈res,tmps[p.1]?=some (.pointer (some ⟨ρ p.2.1,0,none⟩)))->∀w:World,
  (l.mapM (m:=Sem) fun
   | .tmp t=>pure (tmps.getD t Go.undef)
   | .cell x t=>do loadVar t (<- asAddr (tmps.getD x Go.undef))).run P w=((rcR ρ (res.map (·.2))).mapM (m:=Sem) λp=>loadVar p.2 ⟨p.1,0,none⟩).run P w
 | [],[],_,_,w=>rfl
 | [],_::_,h,_,_=>by simp[k8] at h
 | _::_,[],h,_,_=>by simp[k8] at h
 | _::_,.tmp _::_,h,_,_=>by simp[k8] at h
 | (t',k,ty')::res,.cell t ty::l,h,hp,w=>by
  simp only[k8,Bool.and_eq_true,decide_eq_true_eq] at h;obtain⟨⟨rfl,rfl⟩,h⟩:=h;have h0:=hp _ (List.mem_cons_self ..)
  have ih:=tU h (λp hp'=>hp p (List.mem_cons_of_mem _ hp'));have hg:tmps.getD t Go.undef=.pointer (some ⟨ρ k,0,none⟩):=by rw[Array.getD_eq_getD_getElem?,h0];rfl
  have ha:∀w:World,(asAddr (tmps.getD t Go.undef)).run P w=.ok ⟨ρ k,0,none⟩ w:=λw=>by rw[hg];rfl
  simp only[rcR,List.map_cons,List.mapM_cons,Sem.run_bind,ha,Result.andThen_ok]
  congr 1
  funext v w'
  have:=ih w';simp only[rcR] at this;rw[this]
theorem Dw{fn:Func}{tmps:Array Value}{ρ:Nat->Nat}{res:List (Nat × Nat × Nat)}(h:k8 res fn.results.toList=true)(hp:∀p∈res,tmps[p.1]?=some (.pointer (some ⟨ρ p.2.1,0,none⟩))){w:World}{v:Value}
  (hv:(AW (rcR ρ (res.map (·.2)))).run P w=.ok v w):(results fn tmps).run P w=.ok v w:=by
 have h1:=tU (P:=P) h hp w;rw[<- hv];unfold results AW;rw[Array.mapM_eq_mapM_toList];simp only[Sem.run_bind,Sem.run_map]
 erw [h1]
 generalize ((rcR ρ (res.map (·.2))).mapM (m:=Sem) λp=>loadVar p.2 ⟨p.1,0,none⟩).run P w=r
 cases r with
 | halt x w=>rfl
 | ok vs w =>
  simp only[Result.andThen_ok,Sem.run_pure]
  congr 1
  match vs with
  | []=>rfl
  | [v]=>rfl
  | u::v::r=>simp
def dfA(ρ:Nat->Nat)(g:Nat)(ks:List Nat):Deferred:={ target:=.fn (.func g) (ks.map λk=>Value.pointer (some ⟨ρ k,0,none⟩)).toArray,args:=#[] }
theorem tD{fn:Func}{tmps:Array Value}{ρ ρ0:Nat->Nat}{res:List (Nat × Nat × Nat)}{g:Nat}{ks:List Nat}{mode:FrameMode}{W:World}(hres:k8 res fn.results.toList=true)
  (hp:∀p∈res,tmps[p.1]?=some (.pointer (some ⟨ρ p.2.1,0,none⟩))) (hk:∀k∈ks,ρ k=ρ0 k) (hg:nO P g=true) (hm:mode≠.run) (h:Dr P R (dfR ρ (some (g,ks))) (rcR ρ (res.map (·.2))) mode W) :
  LeavesInM (Fw none) 0 P fn tmps R [dfA ρ0 g ks] mode W:=by
 have hks:ks.map (λk=>Value.pointer (some ⟨ρ0 k,0,none⟩))=ks.map (λk=>Value.pointer (some ⟨ρ k,0,none⟩)):=List.map_congr_left λk hk'=>by rw[hk k hk']
 unfold nO at hg
 split at hg
 ·rename_i fb hfb;simp only[Bool.and_eq_true,decide_eq_true_eq] at hg;obtain⟨bd,hbd⟩:=Option.isSome_iff_exists.1 hg.1;refine⟨hm,.inr ⟨λh'=>(by cases h'),.func g,_,g,#[]++(ks.map λk=>Value.pointer (some ⟨ρ0 k,0,none⟩)).toArray,rfl,?_,λ_ _=>trivial,?_⟩⟩
  ·simp[dfA,invoke,callFunc,hfb,hg.2,hbd]
  ·simp only[Dr,dfR,Option.map_some,List.map_map] at h;have ha:(#[]++(ks.map λk=>Value.pointer (some ⟨ρ0 k,0,none⟩)).toArray)=(ks.map ((λk=>Value.pointer (some ⟨k,0,none⟩)) ∘ ρ)).toArray:=by
    rw[hks];simp
   rw[ha];refine CallsDIn.mono h λx u' w' ⟨⟨v,hv⟩,hset,v',hrun,hR⟩=>?_;subst hv;simp only[hset]
   exact⟨v',Dw hres hp hrun,hR⟩
 ·cases hg
theorem sV{fn:Func}{B:ir}(hd:hi.df=none):Pn [] P R hi B [] (bodyPostM (Fw none) 0 P fn R):=λps ρ a W _ hdf _ h=>by
 have hdf':a.defers = []:=hdf;show LeavesInM (Fw none) 0 P fn a.tmps R a.defers (.panicking ps) W;rw[hdf'];rw[hd] at h;exact h
theorem Ce{fn:Func}{B:ir}{g:Nat}{ks:List Nat}(hd:hi.df=some (g,ks))(hk:∀k∈ks,k<B.m)(hg:nO P g=true)(hres:k8 hi.res fn.results.toList=true):Pn [dfA B.ρ g ks] P R hi B [] (bodyPostM (Fw none) 0 P fn R):=λps ρ a W hρ hdf hp h=>by
 have hdf':a.defers = [dfA B.ρ g ks]:=hdf;show LeavesInM (Fw none) 0 P fn a.tmps R a.defers (.panicking ps) W;rw[hdf'];rw[hd] at h;exact tD hres hp (λk hk'=>hρ k (hk k hk')) hg (by simp) h
theorem sj{n:Nat}{fn:Func}{S:St}{ρ:Nat->Nat}{e:Env}{H:Hp}{L:List (List Dat->Hp->Prop)}{a:Act}{W:World}(hX:XOk X)(hd:(kC P n fn S).den P W0 M R ρ e H L)(hr:Rel [] W0 M S ρ e X H a W):LeavesInM (Fw none) 0 P fn a.tmps R a.defers .returning W:=by
 rcases hX with rfl | ⟨D,rfl⟩
 ·obtain⟨v,h1,h2⟩:=tZ hd hr;have hdf:a.defers = []:=hr.df
  rw[hdf];exact⟨v,h1,h2⟩
 ·have hdf:a.defers = [{ target:=.collected D,args:=#[] }]:=hr.df;have hk:=hr.mem.xk _ (List.mem_singleton_self _)
  obtain⟨v,h1,h2⟩:=tZ hd (hr.shut (.deferred none));rw[hdf];exact⟨by simp,.inl ⟨D,_,rfl,run_takeDeferred hk,v,h1,h2⟩⟩
theorem xb{n m:Nat}:∀{vs:List SV},SV.lts n m vs=true->vs.all SV.isBlk=true->∀k∈vs.map SV.blk,k<m
 | [],_,_,k,hk=>by simp at hk
 | v::vs,h,h2,k,hk=>by
  simp only[SV.lts,Bool.and_eq_true,List.all_cons] at h h2
  rcases List.mem_cons.1 hk with rfl | hk
  ·cases v<;>simp_all [SV.isBlk,SV.lt,SV.blk]
  ·exact xb h.2 h2.2 k hk
theorem tk(ρ:Nat->Nat)(e:Env):∀{vs:List SV},vs.all SV.isBlk=true->SV.dens ρ e vs=(vs.map SV.blk).map λk=>Value.pointer (some ⟨ρ k,0,none⟩)
 | [],_=>rfl
 | v::vs,h=>by
  simp only[List.all_cons,Bool.and_eq_true] at h;simp only[SV.dens,List.map_cons]
  rw[tk ρ e h.2]
  congr 1
  unfold SV.isBlk at h
  split at h
  ·rfl
  ·cases h.1
theorem ut{id:Nat}{S:St}{ops:Array Oper}{g d:Nat}{vs:List SV}{ks:List Nat}{ρ:Nat->Nat}{e:Env}{H:Hp}{a:Act}{W:World}{Q:Exit->Act->World->Prop}(h:rL S ops=some (g,d,vs,ks))(hr:Rel [] W0 M S ρ e [] H a W)
  (hq:∀a',Rel [dfA ρ g ks] W0 M { S with tm:=S.tm.set d (some (.func g [] vs)) } ρ e [] H a' W->Q .normal a' W):(Code.region id ops false).wpIn (Fw none) 0 P Q a W/\∀k∈ks,k<S.h.length:=by
 unfold rL at h
 split at h
 ·rename_i o1 o2 hops
  split at h
  ·rename_i f first capt d1 c h1 h2 h3 h4 h5 h6
   split at h
   ·rename_i t vs' hc hargs hfirst hev
    split at h
    ·rename_i htd;obtain⟨rfl,hlt,hlts⟩:=htd
     split at h
     ·rename_i hall;simp only[Option.some.injEq,Prod.mk.injEq] at h;obtain⟨rfl,rfl,rfl,rfl⟩:=h;refine⟨wpIn_region_list ?_,xb hlts hall⟩;rw[hops];have hw1:Region.wanted o1 (yielded ops a.tmps)=true:=by simp[Region.wanted,h1]
      have hst:step P S o1=.val [] (.func f [] vs'):=by
       simp only[step,h3,hfirst,evs,hev]
      have hs:=hU (P:=P) (W:=W) (o:=o1) hr.toT;rw[hst] at hs;have hrun1:=hs (λc hc=>by simp at hc)
      simp only[wpListIn]
      rw[if_pos hw1];refine⟨λ_ _=>trivial,?_⟩;rw[Oper.semAt_none,hrun1];simp only[Oper.uponIn]
      have hr1:=hr.put o1.dst (.func f [] vs');rw[h4] at hr1 |-;have hw2:Region.wanted o2 (yielded ops (a.put (some t) ((SV.func f [] vs').den ρ e)).tmps)=true:=by simp[Region.wanted,h2]
      rw[if_pos hw2];refine⟨λ_ _=>trivial,?_⟩;have hslot:(a.put (some t) ((SV.func f [] vs').den ρ e)).eval (.tmp t)=.func (.func f) #[] (SV.dens ρ e vs').toArray:=by
       have:=aw (S:=S.put (some t) (.func f [] vs')) hr1.tm (x:=.tmp t) (v:=.func f [] vs') (by
        simp only[ev,St.put]
        rw[List.getElem?_set_self hlt];rfl)
       rw[this];rfl
      have hargs':c.args=#[]:=by
       apply Array.ext';simpa using hargs
      have hrun2:(execOp (a.put (some t) ((SV.func f [] vs').den ρ e)).eval o2).run P W=.ok (.defer (dfA ρ f (vs'.map SV.blk))) W:=by
       simp only[execOp,h5,resolve,hc,hslot,Deferred.ofValue,hargs',Sem.run_bind,Sem.run_pure,Result.andThen_ok,dfA,tk ρ e hall]
       simp
      rw[Oper.semAt_none,hrun2];simp only[Oper.uponIn,h6,Act.put]
      refine hq _ ⟨hr1.tm,?_,hr.mem,hr.pc⟩;have hdf:a.defers = []:=hr.df
      simp[oJ,hdf]
     ·cases h
    ·cases h
   ·cases h
  ·cases h
 ·cases h
theorem EM{n:Nat}{fn:Func}(hp:hi.pn=true)(hd:hi.df=none)(hres:k8 hi.res fn.results.toList=true):∀(c:Code) {S:St} {B:ir} {ρ:Nat->Nat} {e:Env} {H:Hp} {a:Act} {W:World} {L:List (List Dat->Hp->Prop)},
  jX c=true->rfs c=0->(exT P hi n fn c S).den P W0 M R ρ e H L->Rel [] W0 M S ρ e [] H a W->L.length=S.dp->Agr B S ρ e->c.wpIn (Fw none) 0 P (bodyPostM (Fw none) 0 P fn R) a W:=by
 have plain:∀(c:Code) {S:St} {B:ir} {ρ:Nat->Nat} {e:Env} {H:Hp} {a:Act} {W:World} {L:List (List Dat->Hp->Prop)} {Q:Exit->Act->World->Prop} (K:St->VC),jX c=true->rfs c=0->gh c=true ->
   (exC P hi c S λx S=>match x with | .normal=>K S | .ret=>kC P n fn S | .exit _=>.fail 20).den P W0 M R ρ e H L->Rel [] W0 M S ρ e [] H a W->L.length=S.dp->Agr B S ρ e ->
   (∀(S':St) (ρ':Nat->Nat) (e':Env) (H':Hp) (L':List (List Dat->Hp->Prop)) (a':Act) (W':World),L'.length=S'.dp->Agr B S' ρ' e'->(K S').den P W0 M R ρ' e' H' L'->Rel [] W0 M S' ρ' e' [] H' a' W'->Q .normal a' W') ->
   (∀a' W',LeavesInM (Fw none) 0 P fn a'.tmps R a'.defers .returning W'->Q .ret a' W')->(∀ps a' W',bodyPostM (Fw none) 0 P fn R (.panic ps) a' W'->Q (.panic ps) a' W')->c.wpIn (Fw none) 0 P Q a W:=by
  intro c S B ρ e H a W L Q K ho hz hn h hr hl hb hk hq hqp;refine vh (rd:=none) c ho hn (.inl rfl) (.inl rfl) (λp hp=>by simp at hp) (λ_=>⟨hz,λps ρ' a' W' q1 q2 q3 q4=>hqp ps a' W' (sV (B:=B) hd ps ρ' a' W' q1 q2 q3 q4)⟩) h hr hl hb (λx S' ρ' e' H' L' X' a' W' hx _ hl' hb' hd' hr'=>?_);obtain rfl:X' = []:=hx.elim id λh=>absurd hz h.1
  cases x with
  | normal=>exact hk S' ρ' e' H' L' a' W' hl' hb' hd' hr'
  | ret=>exact hq a' W' (sj (.inl rfl) hd' hr')
  | exit i=>exact hd'.elim
 intro c;have last:∀(c:Code) {S:St} {B:ir} {ρ:Nat->Nat} {e:Env} {H:Hp} {a:Act} {W:World} {L:List (List Dat->Hp->Prop)},jX c=true->rfs c=0->(if gh c then exC P hi c S λx S=>match x with | .normal | .ret=>kC P n fn S | .exit _=>.fail 20 else .fail 64).den P W0 M R ρ e H L ->
   Rel [] W0 M S ρ e [] H a W->L.length=S.dp->Agr B S ρ e->c.wpIn (Fw none) 0 P (bodyPostM (Fw none) 0 P fn R) a W:=by
  intro c S B ρ e H a W L ho hz h hr hl hb
  split at h
  ·rename_i hn;exact plain c (λS=>kC P n fn S) ho hz hn (by
    have e0:(λ(x:Xt) (S:St)=>match x with | .normal=>kC P n fn S | .ret=>kC P n fn S | .exit _=>.fail 20)=(λ(x:Xt) (S:St)=>match x with | .normal | .ret=>kC P n fn S | .exit _=>.fail 20):=by
     funext x S;cases x<;>rfl
    rw[e0];exact h) hr hl hb (λS' ρ' e' H' L' a' W' _ _ hd' hr'=>sj (.inl rfl) hd' hr') (λ_ _ h=>h) (λ_ _ _ h=>h)
  ·exact h.elim
 induction c with
 | seq x y ihx ihy =>
  intro S B ρ e H a W L ho hz h hr hl hb;simp only[jX,Bool.and_eq_true,decide_eq_true_eq] at ho;simp only[rfs] at hz;simp only[exT] at h
  split at h
  ·rename_i g d vs ks hdo
   split at h
   ·rename_i hck;simp only[Bool.and_eq_true] at hck;obtain⟨⟨hg,hf⟩,hny⟩:=hck
    split at hdo
    ·rename_i id ops;refine wpIn_seq (ut hdo hr (λa' hr'=>?_)).1;have hks:=(ut (P:=P) (Q:=λ_ _ _=>True) (id:=0) hdo hr (λ_ _=>trivial)).2
     refine vh (hi:={ hi with df:=some (g,ks) }) (rd:=none) (B:=⟨S.nv,S.h.length,ρ,e⟩) y ho.2 hny (.inl rfl) (.inl rfl) (λp hp=>by simp at hp) (λ_=>⟨by omega,Ce rfl hks hg hres⟩) h hr' hl ⟨Nat.le_refl _,Nat.le_refl _,λ_ _=>rfl,λ_ _=>rfl⟩ (λz S' ρ' e' H' L' X' a2 W' hx _ hl' hb' hd' hr2=>?_);obtain rfl:X' = []:=hx.elim (λh=>h) λh=>absurd (show rfs y=0 by omega) h.1;have key:(vl { hi with df:=some (g,ks) } S').den P W0 M R ρ' e' H' L'->LeavesInM (Fw none) 0 P fn a2.tmps R a2.defers .returning W':=λhdo'=>by
      unfold vl at hdo'
      split at hdo'
      ·rename_i hrs;obtain⟨_,hpins⟩:=mA hr2.tm hrs;have hdf:a2.defers = [dfA ρ g ks]:=hr2.df
       rw[hdf];exact tD hres hpins (λk hk=>hb'.r k (hks k hk)) hg (by simp) (hdo' W' hr2.now (fY hr2 (bO S' _)))
      ·exact hdo'.elim
     cases z with
     | normal=>exact key hd'
     | ret=>exact key hd'
     | exit i=>exact hd'.elim
    ·cases hdo
   ·exact h.elim
  ·split at h
   ·rename_i hnx;refine wpIn_seq (plain x (λS=>exT P hi n fn y S) ho.1.2 (by omega) hnx h hr hl hb (λS' ρ' e' H' L' a' W' hl' hb' hd' hr'=>ihy ho.2 (by omega) hd' hr' hl' hb') (λ_ _ h=>h) (λ_ _ _ h=>h))
   ·exact h.elim
 | _=>intro S B ρ e H a W L ho hz h hr hl hb;exact last _ ho hz h hr hl hb
theorem ta{fn:Func}{args:List SV}{ρ:Nat->Nat}{e:Env}:fQ ρ e (args.map some++List.replicate (fn.ntmps-args.length) (some .undef)) { tmps:=(SV.dens ρ e args).toArray++Array.replicate (fn.ntmps-(SV.dens ρ e args).toArray.size) undef,defers := [] }:=by
 refine⟨?_,λt v ht=>?_⟩
 ·simp[bA]
 ·have hl:(SV.dens ρ e args).length=args.length:=bA _ _ _
  rcases Nat.lt_or_ge t args.length with hlt | hge
  ·rw[List.getElem?_append_left (by simpa using hlt)] at ht;rw[Array.getElem?_append_left (by simpa [hl] using hlt)];simp only[List.getElem?_map,List.getElem?_toArray,im] at ht |-
   cases hx:args[t]? with
   | none=>rw[hx] at ht;cases ht
   | some q=>rw[hx] at ht;simp only[Option.map_some,Option.some.injEq] at ht |-;rw[ht]
  ·rw[List.getElem?_append_right (by simpa using hge)] at ht;simp only[List.length_map] at ht;rw[Array.getElem?_append_right (by simpa [hl] using hge)];rw[List.getElem?_replicate] at ht
   split at ht
   ·rename_i hlt;simp only[Option.some.injEq] at ht;subst ht;simp[hl,hlt,SV.den]
   ·cases ht
theorem wd{f:FuncId}{fn:Func}(hf:P.funcs[f]?=some fn){args:List SV}{h:List (Option ay)}{nv:Nat}{pc:List (Sb × Bool)}{ρ:Nat->Nat}{e:Env}{H:Hp}{W:World}
  (hv:(exF P hi fn args h nv pc).den P W0 M R ρ e H []) (hat:At W0 M ρ e h [] H W) (hpc:∀p∈pc,p.1.den e=p.2):Calls P f (SV.dens ρ e args).toArray W R:=by
 unfold exF at hv
 split at hv
 ·exact hv.elim
 ·rename_i c hc
  split at hv
  ·exact hv.elim
  rename_i hdf;have hdf':hi.df=none:=by simpa using hdf
  split at hv
  ·split at hv
   ·exact hv.elim
   rename_i hck;simp only[Bool.not_eq_true,Bool.not_eq_false',Bool.and_eq_true] at hck;refine (callsIn_wide (n:=0)).1 (callsIn_of_wp_marks (F:=Fw none) hf hc trivial (vh (Df := []) (rd:=none) (B:=⟨0,0,ρ,e⟩) (X := []) c hck.1.1 hck.1.2 (.inl rfl) (.inl rfl) (λp hp=>by simp at hp) (λhp=>⟨by have h1:=hck.2;rw[hp] at h1;simpa using h1,sV hdf'⟩) hv ⟨ta,rfl,hat,hpc⟩ rfl ⟨Nat.zero_le _,Nat.zero_le _,λ_ _=>rfl,λ_ _=>rfl⟩ (λx S ρ' e' H' L' X' a' W' hx hp hl hb hd hr=>?_)));have hXo:XOk X':=hx.elim (λh=>.inl h) λh=>h.2
   cases x with
   | normal=>exact sj hXo hd hr
   | ret=>exact sj hXo hd hr
   | exit i=>exact hd.elim
  ·split at hv
   ·exact hv.elim
   rename_i hck;simp only[Bool.not_eq_true,Bool.not_eq_false',Bool.and_eq_true,decide_eq_true_eq] at hck;obtain⟨⟨⟨h1,h2⟩,h3⟩,h4⟩:=hck;exact (callsIn_wide (n:=0)).1 (callsIn_of_wp_marks (F:=Fw none) hf hc trivial (EM h2 hdf' h4 (B:=⟨0,0,ρ,e⟩) c h1 h3 hv ⟨ta,rfl,hat,hpc⟩ rfl ⟨Nat.zero_le _,Nat.zero_le _,λ_ _=>rfl,λ_ _=>rfl⟩))
theorem AM{f:FuncId}{fn:Func}(hf:P.funcs[f]?=some fn)(hi:dq){args:List SV}{nv:Nat}{e:Env}{H:Hp}{W:World}(hH:H.le (ak W))
  (hv:(exF P hi fn args [] nv []).den P W M R (λ_=>0) e H []):Calls P f (SV.dens (λ_=>0) e args).toArray W R :=
 wd hf hv ⟨λk o h=>by simp at h,λk j o o' h=>by simp at h,λk o h=>by simp at h,λk o h=>by simp at h,hH,Mod.refl _ _,λp h=>by simp at h,λp h=>by simp at h,λp h=>by simp at h,λp h=>by simp at h⟩ (λp h=>by simp at h)
def yg(b0:Nat):Nat->Nat
 | 0=>b0
 | _=>0
theorem xD{f:FuncId}{fn:Func}(hf:P.funcs[f]?=some fn)(hi:dq){args:List SV}{nv:Nat}{e:Env}{H:Hp}{W:World}{o0:ay}{b0:Nat}(hH:H.le (ak W))
  (h0:W.heap[b0]?=some (o0.den (yg b0) e)/\M b0/\H b0=none)
  (hv:(exF P hi fn args [some o0] nv []).den P W M R (yg b0) e H []):Calls P f (SV.dens (yg b0) e args).toArray W R:=by
 have key:∀(k:Nat) (o:ay),([some o0]:List (Option ay))[k]?=some (some o)->(k=0/\o=o0):=λk o h=>by
  match k,h with
  | 0,h=>exact⟨rfl,by simpa using h.symm⟩
  | n+1,h=>simp at h
 refine wd hf hv ⟨λk o h=>?_,λk j o o' h h' he=>?_,λk o h=>?_,λk o h=>?_,hH,Mod.refl _ _,λp h=>by simp at h,λp h=>by simp at h,λp h=>by simp at h,λp h=>by simp at h⟩ (λp h=>by simp at h)
 ·obtain⟨rfl,rfl⟩:=key k o h;exact h0.1
 ·obtain⟨rfl,rfl⟩:=key k o h;obtain⟨rfl,rfl⟩:=key j o' h';rfl
 ·obtain⟨rfl,rfl⟩:=key k o h;exact .inr h0.2.1
 ·obtain⟨rfl,rfl⟩:=key k o h;exact h0.2.2
def th(b0 b1:Nat):Nat->Nat
 | 0=>b0
 | 1=>b1
 | _=>0
theorem yb{f:FuncId}{fn:Func}(hf:P.funcs[f]?=some fn)(hi:dq){args:List SV}{nv:Nat}{e:Env}{H:Hp}{W:World}{o0 o1:ay}{b0 b1:Nat}(hH:H.le (ak W))(hne:b0≠b1)
  (h0:W.heap[b0]?=some (o0.den (th b0 b1) e)/\M b0/\H b0=none) (h1:W.heap[b1]?=some (o1.den (th b0 b1) e)/\M b1/\H b1=none)
  (hv:(exF P hi fn args [some o0,some o1] nv []).den P W M R (th b0 b1) e H []):Calls P f (SV.dens (th b0 b1) e args).toArray W R:=by
 have key:∀(k:Nat) (o:ay),([some o0,some o1]:List (Option ay))[k]?=some (some o)->(k=0/\o=o0)\/(k=1/\o=o1):=λk o h=>by
  match k,h with
  | 0,h=>exact .inl ⟨rfl,by simpa using h.symm⟩
  | 1,h=>exact .inr ⟨rfl,by simpa using h.symm⟩
  | n+2,h=>simp at h
 refine wd hf hv ⟨λk o h=>?_,λk j o o' h h' he=>?_,λk o h=>?_,λk o h=>?_,hH,Mod.refl _ _,λp h=>by simp at h,λp h=>by simp at h,λp h=>by simp at h,λp h=>by simp at h⟩ (λp h=>by simp at h)
 ·rcases key k o h with⟨rfl,rfl⟩ | ⟨rfl,rfl⟩
  ·exact h0.1
  ·exact h1.1
 ·rcases key k o h with⟨rfl,rfl⟩ | ⟨rfl,rfl⟩<;>rcases key j o' h' with⟨rfl,rfl⟩ | ⟨rfl,rfl⟩
  ·rfl
  ·exact (hne he).elim
  ·exact (hne he.symm).elim
  ·rfl
 ·rcases key k o h with⟨rfl,rfl⟩ | ⟨rfl,rfl⟩
  ·exact .inr h0.2.1
  ·exact .inr h1.2.1
 ·rcases key k o h with⟨rfl,rfl⟩ | ⟨rfl,rfl⟩
  ·exact h0.2.2
  ·exact h1.2.2
end
end
theorem vn{P:Program}{W0:World}{M:Nat->Prop}{R:Ending->World->Prop}{ρ:Nat->Nat}{e:Env}{H:Hp}{L:List (List Dat->Hp->Prop)}{U V:VC}{B:Prop}(h:B)(e1:U=V)(e2:V.den P W0 M R ρ e H L=B):U.den P W0 M R ρ e H L:=e1▸e2.mpr h
theorem yx{P:Program}{M:Nat->Prop}{R:Ending->World->Prop}{f:FuncId}{fn:Func}(hf:P.funcs[f]?=some fn){hi:dq}{args:List SV}{nv:Nat}{e:Env}{H:Hp}{W:World}{A:Array Value}{V:VC}{B:Prop}(hH:H.le (ak W))(h:B)
  (e1:exF P hi fn args [] nv []=V) (e2:V.den P W M R (λ_=>0) e H []=B:=by kernel_rfl) (ha:(SV.dens (λ_=>0) e args).toArray=A:=by kernel_rfl):Calls P f A W R :=
 ha▸AM (M:=M) hf hi hH (vn h e1 e2)
theorem nL{P:Program}{M:Nat->Prop}{R:Ending->World->Prop}{f:FuncId}{fn:Func}(hf:P.funcs[f]?=some fn){hi:dq}{args:List SV}{nv:Nat}{e:Env}{H:Hp}{W:World}{A:Array Value}{V:VC}{B:Prop}{o0 o1:ay}{b0 b1:Nat}{O0 O1:Obj}(hH:H.le (ak W))(hne:b0≠b1)
  (h0:W.heap[b0]?=some O0/\M b0/\H b0=none) (h1:W.heap[b1]?=some O1/\M b1/\H b1=none) (h:B)
  (e1:exF P hi fn args [some o0,some o1] nv []=V) (e2:V.den P W M R (th b0 b1) e H []=B:=by kernel_rfl) (ha:(SV.dens (th b0 b1) e args).toArray=A:=by kernel_rfl) (g0:o0.den (th b0 b1) e=O0:=by kernel_rfl) (g1:o1.den (th b0 b1) e=O1:=by kernel_rfl):Calls P f A W R:=by
 subst g0 g1;exact ha▸yb (M:=M) hf hi hH hne h0 h1 (vn h e1 e2)
theorem aO{P:Program}{M:Nat->Prop}{R:Ending->World->Prop}{f:FuncId}{fn:Func}(hf:P.funcs[f]?=some fn){hi:dq}{args:List SV}{nv:Nat}{e:Env}{H:Hp}{W:World}{A:Array Value}{V:VC}{B:Prop}{o0:ay}{b0:Nat}{O0:Obj}(hH:H.le (ak W))
  (h0:W.heap[b0]?=some O0/\M b0/\H b0=none) (h:B)
  (e1:exF P hi fn args [some o0] nv []=V) (e2:V.den P W M R (yg b0) e H []=B:=by kernel_rfl) (ha:(SV.dens (yg b0) e args).toArray=A:=by kernel_rfl) (g0:o0.den (yg b0) e=O0:=by kernel_rfl):Calls P f A W R:=by
 subst g0;exact ha▸xD (M:=M) hf hi hH h0 (vn h e1 e2)
abbrev vi(x:Int):Value:=.int .i64 x
abbrev vs(x:ByteArray):Value:=.string x
abbrev vg(x:Array Value):Value:=.agg x
abbrev vt(x:Array Value):Value:=.tuple x
abbrev vp(x:Option Addr):Value:=.pointer x
abbrev vb(x:Bool):Value:=.bool x
abbrev vsl(p:OL)(n c:Nat):Value:=.slice (ab p 0) n c
def noM:Nat->Prop:=λ_=>False
def noH:Hp:=λ_=>none
def nK:World->Prop:=λ_=>True
def Rt(R:Ending->World->Prop)(W0:World)(M:Nat->Prop)(H:Hp)(kn:World->Prop)(v:Value):Prop:=∀W,Now W0 M H W->kn W->R (.returned v) W
def Cl(P:Program)(W0:World)(M:Nat->Prop)(H:Hp)(kn:World->Prop)(f:Nat)(args:Array Value)(Φ:Ending->World->World->Prop):Prop:=∀W,Now W0 M H W->kn W->Calls P f args W λz W'=>Φ z W W'
def Clp(P:Program)(W0:World)(M:Nat->Prop)(H:Hp)(kn:World->Prop)(f:Nat)(args:Array Value)(Φ:Ending->World->World->Prop)(Ψ:List PanicEntry->World->Prop):Prop:=∀W,Now W0 M H W->kn W->Calls P f args W λz W'=>Φ z W W'\/∃ps,z=.panicked ps/\Ψ ps W'
def Es(W0:World)(M:Nat->Prop)(H:Hp)(kn:World->Prop)(Φ:World->Prop):Prop:=∀W,Now W0 M H W->kn W->Φ W
def Eo(P:Program)(q:EK)(args:List Value)(W:World)(r:Next)(K:World->Prop):Prop:=∃W',(q.sem args).run P W=.ok r W'/\K W'
def Fr(W W':World)(H:Hp)(K:Hp->Prop):Prop:=Ext W W'/\∃D:Hp,D.le (ak W')/\(∀b o,D b=some o->W.heap.size<=b)/\∀H':Hp,H.le H'->D.le H'->K H'
def Tn(W0:World)(M:Nat->Prop)(H:Hp)(W W':World)(K:Hp->Prop):Prop:=∃H',gH W0 M H W H' W'/\K H'
def Md(l:List (Nat × Obj))(W W':World)(K:Prop):Prop:=Mod (λb=>∃p∈l,p.1=b) W W'/\(∀p∈l,W'.heap[p.1]?=some p.2)/\K
def Bt(W0:World)(M:Nat->Prop)(H:Hp)(l:List (Nat × Obj))(W W':World)(K:Hp->Prop):Prop:=∃Wm H',Mod (λb=>∃p∈l,p.1=b) W Wm/\(∀p∈l,Wm.heap[p.1]?=some p.2)/\gH W0 M H Wm H' W'/\K H'
def Yl(P:Program)(W0:World)(M:Nat->Prop)(H:Hp)(kn:World->Prop)(l:Nat)(args:List Value)(K:Hp->Prop):Prop:=∀W,Now W0 M H W->kn W->YieldAt (Fw none) 0 P l args.toArray W λx W'=>x=.returned (.bool true)/\∃H',gH W0 M H W H' W'/\K H'
theorem ba(H:Hp):noH.le H:=λ_ _ h=>by cases h
theorem Now.ext{W0 W:World}{H:Hp}(h:Now W0 noM H W):Ext W0 W:=⟨h.mod.os,h.mod.tape,h.mod.output,h.mod.size,λb hb=>h.mod.blk b hb (λh=>h)⟩
theorem Ext.refl(W:World):Ext W W:=Below.refl _ _
theorem Ext.trans{A B C:World}(h:Ext A B)(k:Ext B C):Ext A C:=Below.trans h (k.mono h.size)
theorem in64{n:Int}(h:-9223372036854775808<=n/\n<=9223372036854775807):ae .i64 n:=by unfold ae;rw[IntKind.wrap_i64];omega
section
variable{P:Program}{W0:World}{M:Nat->Prop}{H:Hp}{kn:World->Prop}{f:Nat}{args:Array Value}{Φ:Ending->World->World->Prop}{R:Ending->World->Prop}{v:Value}
def Gv(P:Program)(f:Nat)(args:Array Value)(H:Hp)(v:Value):Prop:=∀W,H.le (ak W)->Calls P f args W λz W'=>z=.returned v/\Ext W W'
def Gf(P:Program)(f:Nat)(args:Array Value)(H:Hp)(post:Value->Hp->Prop):Prop:=∀W,H.le (ak W)->Calls P f args W λz W'=>∃v D,z=.returned v/\Ext W W'/\D.le (ak W')/\(∀b o,D b=some o->W.heap.size<=b)/\post v D
theorem Cl.same(hc:Gv P f args H v)(hk:∀W W',Ext W W'->Φ (.returned v) W W'):Cl P W0 M H kn f args Φ:=λW n _=>(hc W n.sub).mono λz W' ⟨hz,hx⟩=>by subst hz;exact hk W W' hx
theorem Cl.sameK(hc:∀W,Now W0 M H W->kn W->∃H1:Hp,H1.le (ak W)/\Gv P f args H1 v)(hk:∀W W',Ext W W'->Φ (.returned v) W W'):Cl P W0 M H kn f args Φ:=λW n k=>by
 obtain⟨H1,h1,h2⟩:=hc W n k;exact (h2 W h1).mono λz W' ⟨hz,hx⟩=>by subst hz;exact hk W W' hx
theorem Cl.fresh{post:Value->Hp->Prop}(hc:Gf P f args H post)(hk:∀v W W' D,post v D->Ext W W'->D.le (ak W')->(∀b o,D b=some o->W.heap.size<=b)->Now W0 M H W->Φ (.returned v) W W'):Cl P W0 M H kn f args Φ:=λW n _=>(hc W n.sub).mono λz W' ⟨v,D,hz,hx,h1,h2,h3⟩=>by subst hz;exact hk v W W' D h3 hx h1 h2 n
theorem Rt.gv{v:Value}:Rt (λz W'=>z=.returned v/\Ext W0 W') W0 noM H kn v:=λ_ n _=>⟨rfl,n.ext⟩
theorem Rt.gf{post:Value->Hp->Prop}{D:Hp}(hD:D.le H)(hf:∀b o,D b=some o->W0.heap.size<=b)(hp:post v D) :
  Rt (λz W'=>∃v D,z=.returned v/\Ext W0 W'/\D.le (ak W')/\(∀b o,D b=some o->W0.heap.size<=b)/\post v D) W0 noM H kn v:=λ_ n _=>⟨v,D,rfl,n.ext,Hp.le_trans hD n.sub,hf,hp⟩
def bh(H:Hp)(b:Nat)(o:Obj):Hp:=λk=>if k=b then some o else H k
theorem gF{W:World}{b:Nat}{o:Obj}(h:H.le (ak W))(hb:W.heap[b]?=some o):(bh H b o).le (ak W):=λk q hk=>by
 unfold bh at hk
 split at hk
 ·rename_i he;subst he;rw[<- hk];exact hb
 ·exact h k q hk
theorem gM{b:Nat}{o:Obj}(h:H b=none):H.le (bh H b o):=λk q hk=>by
 unfold bh
 split
 ·rename_i he;subst he;rw[h] at hk;cases hk
 ·exact hk
theorem cm(H:Hp)(b:Nat)(o:Obj):bh H b o b=some o:=by unfold bh;rw[if_pos rfl]
end
abbrev vI(n:Nat):SV:=.int .i64 (.v n)
abbrev vS(n:Nat):SV:=.slO n (.k 0) (.v (n+1)) (.v (n+2))
abbrev Ck(P Q:Prop):Prop:=P/\(P->Q)
abbrev It(C A B:Prop):Prop:=(C->A)/\(¬C->B)
abbrev sh(p:OL):OL:=p.map λa=>a.shift 0
def lk(l:List Dat):Env:=λi=>l.getD i (.i 0)
end Go.Proofs.YtfpmcmhihhnfgaaGreatDoor
