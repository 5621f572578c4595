/- A symbolic run of a function's code: names and blocks that are new. No conditions. -/
import Derived.Test.YtfpmcmhihhnfgaaGreatDoorKE1
import Derived.Laws.Strings3
import Derived.Laws.Concat
import Derived.OrdersIn
set_option linter.unusedVariables false
set_option linter.unusedSimpArgs false
namespace Go.Proofs.YtfpmcmhihhnfgaaGreatDoor
open Go.RowKit
section
variable{Df:List Deferred}
theorem Sx.den_congr{n:Nat}{e e':Env}(h:∀i,i<n->e' i=e i):∀x:Sx,x.lt n=true->x.den e'=x.den e
  | .k _,_=>rfl
  | .v i,hx=>by simp only[Sx.lt,decide_eq_true_eq] at hx;simp only[Sx.den,h i hx]
  | .slen i,hx=>by simp only[Sx.lt,decide_eq_true_eq] at hx;simp only[Sx.den,h i hx]
  | .add a b,hx | .sub a b,hx | .mul a b,hx | .mn a b,hx | .mx a b,hx | .skip a b _,hx=>by
    simp only[Sx.lt,Bool.and_eq_true] at hx
    simp only[Sx.den,Sx.den_congr h a hx.1,Sx.den_congr h b hx.2]
  | .wrap _ a,hx=>by
    simp only[Sx.lt] at hx
    simp only[Sx.den,Sx.den_congr h a hx]
theorem Sb.den_congr{n:Nat}{e e':Env}(h:∀i,i<n->e' i=e i):∀x:Sb,x.fits n=true->x.den e'=x.den e
  | .k _,_=>rfl
  | .v i,hx=>by simp only[Sb.fits,decide_eq_true_eq] at hx;simp only[Sb.den,h i hx]
  | .isp i,hx=>by simp only[Sb.fits,decide_eq_true_eq] at hx;simp only[Sb.den,h i hx]
  | .lt a b,hx | .le a b,hx | .eq a b,hx | .idx a b,hx=>by
    simp only[Sb.fits,Bool.and_eq_true] at hx
    simp only[Sb.den,Sx.den_congr h a hx.1,Sx.den_congr h b hx.2]
  | .not a,hx=>by
    simp only[Sb.fits] at hx
    simp only[Sb.den,Sb.den_congr h a hx]
  | .beq a b,hx=>by
    simp only[Sb.fits,Bool.and_eq_true] at hx
    simp only[Sb.den,Sb.den_congr h a hx.1,Sb.den_congr h b hx.2]
  | .rng _ a,hx=>by
    simp only[Sb.fits] at hx
    simp only[Sb.den,Sx.den_congr h a hx]
mutual
theorem SV.den_congr{n m:Nat}{e e':Env}{ρ ρ':Nat->Nat}(h:∀i,i<n->e' i=e i)(hk:∀k,k<m->ρ' k=ρ k):∀v:SV,v.lt n m=true->v.den ρ' e'=v.den ρ e
  | .undef,_=>rfl
  | .c _,_=>rfl
  | .int _ x,hx=>by simp only[SV.lt] at hx;simp only[SV.den,Sx.den_congr h x hx]
  | .bool x,hx=>by simp only[SV.lt] at hx;simp only[SV.den,Sb.den_congr h x hx]
  | .str i,hx=>by simp only[SV.lt,decide_eq_true_eq] at hx;simp only[SV.den,h i hx]
  | .o i,hx=>by simp only[SV.lt,decide_eq_true_eq] at hx;simp only[SV.den,h i hx]
  | .yl i,hx=>by simp only[SV.lt,decide_eq_true_eq] at hx;simp only[SV.den,h i hx]
  | .ptrK k _,hx=>by simp only[SV.lt,decide_eq_true_eq] at hx;simp only[SV.den,hk k hx]
  | .slK k _ _ _,hx=>by simp only[SV.lt,decide_eq_true_eq] at hx;simp only[SV.den,hk k hx]
  | .ptrO i off,hx=>by
    simp only[SV.lt,Bool.and_eq_true,decide_eq_true_eq] at hx
    simp only[SV.den,h i hx.1,Sx.den_congr h off hx.2]
  | .slO i off len cap,hx=>by
    simp only[SV.lt,Bool.and_eq_true,decide_eq_true_eq] at hx
    simp only[SV.den,h i hx.1.1.1,Sx.den_congr h off hx.1.1.2,Sx.den_congr h len hx.1.2,Sx.den_congr h cap hx.2]
  | .agg cs,hx=>by simp only[SV.lt] at hx;simp only[SV.den,SV.dens_congr h hk cs hx]
  | .tup cs,hx=>by simp only[SV.lt] at hx;simp only[SV.den,SV.dens_congr h hk cs hx]
  | .func _ a b,hx=>by
    simp only[SV.lt,Bool.and_eq_true] at hx
    simp only[SV.den,SV.dens_congr h hk a hx.1,SV.dens_congr h hk b hx.2]
theorem SV.dens_congr{n m:Nat}{e e':Env}{ρ ρ':Nat->Nat}(h:∀i,i<n->e' i=e i)(hk:∀k,k<m->ρ' k=ρ k):∀l:List SV,SV.lts n m l=true->SV.dens ρ' e' l=SV.dens ρ e l
  | [],_=>rfl
  | v::r,hx=>by
    simp only[SV.lts,Bool.and_eq_true] at hx
    simp only[SV.dens,SV.den_congr h hk v hx.1,SV.dens_congr h hk r hx.2]
end
theorem gU{n m:Nat}:∀{tm:List (Option SV)},nB n m tm=true->∀{t:Nat} {v:SV},tm[t]?=some (some v)->v.lt n m=true
  | [],_,t,v,h=>by simp at h
  | none::r,hf,t,v,h=>by
    simp only[nB] at hf
    cases t with
    | zero=>simp at h
    | succ t=>exact gU hf (by simpa using h)
  | some u::r,hf,t,v,h=>by
    simp only[nB,Bool.and_eq_true] at hf
    cases t with
    | zero=>simp at h;rw[<- h];exact hf.1
    | succ t=>exact gU hf.2 (by simpa using h)
theorem ka{n m:Nat}:∀{h:List (Option ay)},pU n m h=true->∀{t:Nat} {o:ay},h[t]?=some (some o)->SV.lts n m o.cs=true
  | [],_,t,v,h=>by simp at h
  | none::r,hf,t,v,h=>by
    simp only[pU] at hf
    cases t with
    | zero=>simp at h
    | succ t=>exact ka hf (by simpa using h)
  | some u::r,hf,t,v,h=>by
    simp only[pU,Bool.and_eq_true] at hf
    cases t with
    | zero=>simp at h;rw[<- h];exact hf.1
    | succ t=>exact ka hf.2 (by simpa using h)
theorem i8{n:Nat}:∀{pc:List (Sb × Bool)},sB n pc=true->∀p∈pc,p.1.fits n=true
  | [],_,p,h=>by simp at h
  | q::r,hf,p,h=>by
    simp only[sB,Bool.and_eq_true] at hf
    rcases List.mem_cons.1 h with rfl | h
    · exact hf.1
    · exact i8 hf.2 p h
section
variable{W0:World}{M:Nat->Prop}{S:St}{ρ ρ':Nat->Nat}{e e':Env}{X:List (Nat × Obj)}{H:Hp}{a:Act}{W:World}
theorem xV{n m:Nat}(h:∀i,i<n->e' i=e i)(hk:∀k,k<m->ρ' k=ρ k){o:ay}(hx:SV.lts n m o.cs=true):o.den ρ' e'=o.den ρ e:=by
  simp only[ay.den,SV.dens_congr h hk _ hx]
theorem gJ{h:List (Option ay)}{k:Nat}{o:ay}(hk:h[k]?=some (some o)):k<h.length:=by
  rcases Nat.lt_or_ge k h.length with hh | hh
  · exact hh
  · rw[List.getElem?_eq_none hh] at hk;cases hk
theorem Rel.congr(hr:Rel Df W0 M S ρ e X H a W)(hf:S.fits=true)(h:∀i,i<S.nv->e' i=e i)(hk:∀k,k<S.h.length->ρ' k=ρ k):Rel Df W0 M S ρ' e' X H a W:=by
  simp only[St.fits,Bool.and_eq_true] at hf
  obtain⟨⟨f1,f2⟩,f3⟩:=hf
  refine⟨⟨hr.tm.1,λt v ht=>?_⟩,hr.df,⟨λk o ho=>?_,λk j o o' ho ho' he=>?_,λk o ho=>?_,λk o ho=>?_,hr.mem.sub,hr.mem.mod,hr.mem.xk,hr.mem.xo,hr.mem.xd,λp hp k o ho=>?_⟩,λp hp=>?_⟩
  · rw[SV.den_congr h hk v (gU f1 ht)];exact hr.tm.2 t v ht
  · rw[hk k (gJ ho),xV h hk (ka f2 ho)];exact hr.mem.kn k o ho
  · rw[hk k (gJ ho),hk j (gJ ho')] at he;exact hr.mem.inj k j o o' ho ho' he
  · rw[hk k (gJ ho)];exact hr.mem.old k o ho
  · rw[hk k (gJ ho)];exact hr.mem.dis k o ho
  · rw[hk k (gJ ho)];exact hr.mem.xr p hp k o ho
  · rw[Sb.den_congr h p.1 (i8 f3 p hp)];exact hr.pc p hp
inductive er:Env->List (Nat × Pk)->Env->Prop where
  | nil (e:Env):er e [] e
  | cons (e e':Env) (i:Nat) (k:Pk) (d:Dat) (r:List (Nat × Pk)) (hk:(match k,d with
      | .i,.i _ | .n,.n _ | .b,.b _ | .p,.p _ | .s,.s _ | .v,.v _=>True
      | _,_=>False)) (h:er (upd e i d) r e'):er e ((i,k)::r) e'
theorem bR:∀{fr:List (Nat × Pk)} {e:Env} {K:Env->Prop},exL e K fr->∃e',er e fr e'/\K e'
  | [],e,K,h=>⟨e,.nil e,h⟩
  | (i,.i)::r,e,K,h | (i,.n)::r,e,K,h | (i,.b)::r,e,K,h | (i,.p)::r,e,K,h | (i,.s)::r,e,K,h | (i,.v)::r,e,K,h=>by
    obtain⟨x,hx⟩:=h
    obtain⟨e',hu,hk⟩:=bR hx
    exact⟨e',.cons _ _ _ _ _ _ trivial hu,hk⟩
theorem o5{fr:List (Nat × Pk)}{e e':Env}(hu:er e fr e'):∀{K:Env->Prop},qu e K fr->K e':=by
  induction hu with
  | nil e=>exact λh=>h
  | cons e e' i k d r hk h ih =>
    intro K hh
    cases k<;>cases d<;>first | exact hk.elim | exact ih (hh _)
theorem er.old{n:Nat}{fr:List (Nat × Pk)}{e e':Env}(hu:er e fr e'):cv n fr=true->∀i,i<n->e' i=e i:=by
  induction hu with
  | nil e=>exact λ_ _ _=>rfl
  | cons e e' j k d r hk h ih =>
    intro hf i hi
    simp only[cv,Bool.and_eq_true,decide_eq_true_eq] at hf
    rw[ih hf.2 i hi]
    unfold upd
    rw[if_neg (by omega)]
theorem er.app{fr fr2:List (Nat × Pk)}{e e':Env}(hu:er e (fr++fr2) e'):∃e1,er e fr e1/\er e1 fr2 e':=by
  induction fr generalizing e with
  | nil=>exact⟨e,.nil e,hu⟩
  | cons p r ih =>
    cases hu with
    | cons _ _ i k d _ hk h =>
      obtain⟨e1,h1,h2⟩:=ih h
      exact⟨e1,.cons _ _ _ _ _ _ hk h1,h2⟩
theorem jc{n:Nat}:∀{fr fr2:List (Nat × Pk)},cv n fr=true->cv n fr2=true->cv n (fr++fr2)=true
  | [],_,_,h=>h
  | p::r,fr2,h,h2=>by
    simp only[cv,Bool.and_eq_true,List.cons_append] at h |-
    exact⟨h.1,jc h.2 h2⟩
end
end
section
variable{Df:List Deferred}
theorem Mod.refl(M:Nat->Prop)(W:World):Mod M W W:=⟨rfl,rfl,rfl,Nat.le_refl _,λ_ _ _=>rfl⟩
theorem Mod.trans{M N:Nat->Prop}{A B C:World}(h:Mod M A B)(k:Mod N B C)(hn:∀b,b<A.heap.size->N b->M b):Mod M A C :=
  ⟨k.os.trans h.os,k.tape.trans h.tape,k.output.trans h.output,Nat.le_trans h.size k.size,λb hb hm=>(k.blk b (Nat.lt_of_lt_of_le hb h.size) (λhh=>hm (hn b hb hh))).trans (h.blk b hb hm)⟩
theorem Ext.mod{A B:World}(h:Ext A B)(N:Nat->Prop):Mod N A B:=⟨h.os,h.tape,h.output,h.size,λb hb _=>h.block b hb⟩
theorem Hp.le_refl(H:Hp):H.le H:=λ_ _ h=>h
theorem Hp.le_trans{A B C:Hp}(h:A.le B)(k:B.le C):A.le C:=λb o hh=>k b o (h b o hh)
theorem Ext.hp{A B:World}(h:Ext A B):(ak A).le (ak B):=λb o hb=>by
  have hlt:b<A.heap.size:=by
    rcases Nat.lt_or_ge b A.heap.size with hh | hh
    · exact hh
    · simp only[ak,Array.getElem?_eq_none hh] at hb;cases hb
  simp only[ak] at hb |-
  rw[h.block b hlt,hb]
theorem ag{W:World}{b:Nat}{o:Obj}(h:W.heap[b]?=some o):b<W.heap.size:=by
  rcases Nat.lt_or_ge b W.heap.size with hh | hh
  · exact hh
  · rw[Array.getElem?_eq_none hh] at h;cases h
section
variable{W0:World}{M:Nat->Prop}{S:St}{ρ:Nat->Nat}{e:Env}{X:List (Nat × Obj)}{H:Hp}{a:Act}{W:World}
theorem fQ.put{tm:List (Option SV)}(h:fQ ρ e tm a)(t:Nat)(v:SV):fQ ρ e (tm.set t (some v)) { a with tmps:=a.tmps.setIfInBounds t (v.den ρ e) }:=by
  refine⟨by simp[h.1],λt' v' ht=>?_⟩
  rw[List.getElem?_set] at ht
  simp only[Array.getElem?_setIfInBounds]
  split at ht
  · rename_i hh
    subst hh
    split at ht
    · rename_i hl
      simp only[Option.some.injEq] at ht
      subst ht
      simp[h.1,hl]
    · cases ht
  · rename_i hh
    rw[if_neg hh]
    exact h.2 t' v' ht
theorem Rel.put(hr:Rel Df W0 M S ρ e X H a W)(d:Option Nat)(v:SV):Rel Df W0 M (S.put d v) ρ e X H (a.put d (v.den ρ e)) W:=by
  cases d with
  | none=>exact hr
  | some t=>exact⟨hr.tm.put t v,hr.df,hr.mem,hr.pc⟩
theorem Rel.know(hr:Rel Df W0 M S ρ e X H a W){c:Sb}{b:Bool}(hc:c.den e=b):Rel Df W0 M { S with pc:=(c,b)::S.pc } ρ e X H a W :=
  ⟨hr.tm,hr.df,hr.mem,λp hp=>by
    rcases List.mem_cons.1 hp with rfl | hp
    · exact hc
    · exact hr.pc p hp⟩
theorem Rel.next(hr:Rel Df W0 M S ρ e X H a W)(n:Nat):Rel Df W0 M { S with nv:=n } ρ e X H a W:=⟨hr.tm,hr.df,hr.mem,hr.pc⟩
theorem aF(S:St)(d:Option Nat)(v:SV):(S.put d v).dp=S.dp:=by cases d<;>rfl
theorem Rel.alloc(hr:Rel Df W0 M S ρ e X H a W)(hf:S.fits=true){cs:List SV}(hcs:SV.lts S.nv S.h.length cs=true)(t:Nat) :
    Rel Df W0 M { S with h:=S.h ++ [some { cs:=cs,ty:=t }] } (upd ρ S.h.length W.heap.size) e X H a (W.alloc (.cells (SV.dens ρ e cs).toArray t (0,0))):=by
  have hk:∀k,k<S.h.length->upd ρ S.h.length W.heap.size k=ρ k:=λk hk=>by unfold upd;rw[if_neg (by omega)]
  have hr':=hr.congr (ρ':=upd ρ S.h.length W.heap.size) (e':=e) hf (λ_ _=>rfl) hk
  have hlt:∀{k o},S.h[k]?=some (some o)->ρ k<W.heap.size:=λh=>ag (hr.mem.kn _ _ h)
  have hold:∀b,b<W.heap.size->(W.alloc (.cells (SV.dens ρ e cs).toArray t (0,0))).heap[b]?=W.heap[b]?:=λb hb=>Below.heap_alloc _ _ _ hb
  have hnew:(W.alloc (.cells (SV.dens ρ e cs).toArray t (0,0))).heap[W.heap.size]?=some (.cells (SV.dens ρ e cs).toArray t (0,0)):=by
    show (W.heap.push _)[W.heap.size]?=_
    simp
  have hup:upd ρ S.h.length W.heap.size S.h.length=W.heap.size:=by unfold upd;rw[if_pos rfl]
  have hget:∀{k:Nat} {o:ay},(S.h ++ [some { cs:=cs,ty:=t }])[k]?=some (some o)->(k<S.h.length/\S.h[k]?=some (some o))\/(k=S.h.length/\o={ cs:=cs,ty:=t }):=λ{k o} h=>by
    rcases Nat.lt_or_ge k S.h.length with hh | hh
    · rw[List.getElem?_append_left hh] at h;exact .inl ⟨hh,h⟩
    · rw[List.getElem?_append_right hh] at h
      have:k-S.h.length=0:=by
        rcases Nat.eq_zero_or_pos (k-S.h.length) with h0 | h0
        · exact h0
        · rw[List.getElem?_eq_none (by simp;omega)] at h;cases h
      rw[this] at h
      simp only[List.getElem?_cons_zero,Option.some.injEq] at h
      exact .inr ⟨by omega,h.symm⟩
  refine⟨hr'.tm,hr.df,⟨λk o ho=>?_,λk j o o' ho ho' he=>?_,λk o ho=>?_,λk o ho=>?_,λb o hb=>?_,?_,λp hp=>?_,hr.mem.xo,hr.mem.xd,λp hp k o ho=>?_⟩,hr'.pc⟩
  · rcases hget ho with⟨h1,h2⟩ | ⟨rfl,rfl⟩
    · rw[hk k h1,hold _ (hlt h2)]
      have:=hr'.mem.kn k o h2
      rw[hk k h1] at this
      exact this
    · rw[hup,hnew]
      simp only[ay.den,SV.dens_congr (e:=e) (e':=e) (n:=S.nv) (λ_ _=>rfl) hk cs hcs]
  · rcases hget ho with⟨h1,h2⟩ | ⟨rfl,rfl⟩<;>rcases hget ho' with⟨h3,h4⟩ | ⟨rfl,rfl⟩
    · rw[hk _ h1,hk _ h3] at he;exact hr.mem.inj _ _ _ _ h2 h4 he
    · rw[hk _ h1,hup] at he;have:=hlt h2;omega
    · rw[hk _ h3,hup] at he;have:=hlt h4;omega
    · rfl
  · rcases hget ho with⟨h1,h2⟩ | ⟨rfl,rfl⟩
    · rw[hk _ h1];exact hr.mem.old _ _ h2
    · rw[hup];exact .inl hr.mem.mod.size
  · rcases hget ho with⟨h1,h2⟩ | ⟨rfl,rfl⟩
    · rw[hk _ h1];exact hr.mem.dis _ _ h2
    · rw[hup]
      cases hh:H W.heap.size with
      | none=>rfl
      | some o=>have:=ag (hr.mem.sub _ _ hh);omega
  · have h1:=hr.mem.sub b o hb
    have h2:=ag h1
    simp only[ak] at h1 |-
    rw[hold b h2,h1]
  · exact hr.mem.mod.trans (N:=λ_=>False) ⟨rfl,rfl,rfl,by simp,λb hb _=>hold b hb⟩ (λ_ _ h=>h.elim)
  · have h1:=hr.mem.xk p hp
    rw[hold _ (ag h1),h1]
  · rcases hget ho with⟨h1,h2⟩ | ⟨rfl,rfl⟩
    · rw[hk _ h1];exact hr.mem.xr p hp _ _ h2
    · rw[hup];have:=ag (hr.mem.xk p hp);omega
theorem Rel.store(hr:Rel Df W0 M S ρ e X H a W){k:Nat}{ob:ay}(hk:S.h[k]?=some (some ob))(cs:List SV) :
    Rel Df W0 M (S.setObj k { ob with cs:=cs }) ρ e X H a (W.setRow (ρ k) (SV.dens ρ e cs).toArray):=by
  have hkn:=hr.mem.kn k ob hk
  have hsame:∀b,b≠ρ k->(W.setRow (ρ k) (SV.dens ρ e cs).toArray).heap[b]?=W.heap[b]?:=λb hb=>setRow_other _ _ _ _ hb
  have hget:∀{j:Nat} {o:ay},(S.h.set k (some { ob with cs:=cs }))[j]?=some (some o)->(j=k/\o={ ob with cs:=cs })\/(j≠k/\S.h[j]?=some (some o)):=λ{j o} h=>by
    rw[List.getElem?_set] at h
    split at h
    · rename_i hh
      split at h
      · simp only[Option.some.injEq] at h;exact .inl ⟨hh.symm,h.symm⟩
      · cases h
    · rename_i hh;exact .inr ⟨λh'=>hh h'.symm,h⟩
  have hany:∀{j:Nat} {o:ay},(S.h.set k (some { ob with cs:=cs }))[j]?=some (some o)->∃o',S.h[j]?=some (some o'):=λh=>by
    rcases hget h with⟨rfl,_⟩ | ⟨_,h⟩
    · exact⟨_,hk⟩
    · exact⟨_,h⟩
  refine⟨hr.tm,hr.df,⟨λj o ho=>?_,λi j o o' ho ho' he=>?_,λj o ho=>?_,λj o ho=>?_,λb o hb=>?_,?_,λp hp=>?_,hr.mem.xo,hr.mem.xd,λp hp j o ho=>?_⟩,hr.pc⟩
  · rcases hget ho with⟨rfl,rfl⟩ | ⟨hne,hj⟩
    · exact setRow_heap _ _ _ _ _ _ hkn
    · rw[hsame _ (λhe=>hne (hr.mem.inj _ _ _ _ hj hk he))]
      exact hr.mem.kn j o hj
  · obtain⟨o1,h1⟩:=hany ho
    obtain⟨o2,h2⟩:=hany ho'
    exact hr.mem.inj _ _ _ _ h1 h2 he
  · obtain⟨o1,h1⟩:=hany ho;exact hr.mem.old _ _ h1
  · obtain⟨o1,h1⟩:=hany ho;exact hr.mem.dis _ _ h1
  · have hne:b≠ρ k:=λh=>by rw[h,hr.mem.dis k ob hk] at hb;cases hb
    simp only[ak]
    rw[hsame b hne]
    exact hr.mem.sub b o hb
  · refine hr.mem.mod.trans (N:=λb=>b=ρ k) ⟨rfl,rfl,rfl,by simp,λb _ hb=>hsame b hb⟩ (λb hb h=>?_)
    rcases hr.mem.old k ob hk with h1 | h1
    · omega
    · rw[h];exact h1
  · rw[hsame _ (λh=>hr.mem.xr p hp k ob hk h.symm)]
    exact hr.mem.xk p hp
  · obtain⟨o1,h1⟩:=hany ho;exact hr.mem.xr p hp _ _ h1
theorem Rel.ext(hr:Rel Df W0 M S ρ e X H a W){W':World}(h:Ext W W'):Rel Df W0 M S ρ e X H a W':=by
  have hsame:∀{b o},W.heap[b]?=some o->W'.heap[b]?=some o:=λhb=>by rw[h.block _ (ag hb),hb]
  exact⟨hr.tm,hr.df,⟨λk o ho=>hsame (hr.mem.kn k o ho),hr.mem.inj,hr.mem.old,hr.mem.dis,λb o hb=>hsame (hr.mem.sub b o hb),hr.mem.mod.trans (h.mod (λ_=>False)) (λ_ _ h=>h.elim),λp hp=>hsame (hr.mem.xk p hp),hr.mem.xo,hr.mem.xd,hr.mem.xr⟩,hr.pc⟩
theorem Rel.hold(hr:Rel Df W0 M S ρ e X H a W){H':Hp}(hs:H'.le (ak W))(hd:∀b o,H' b=some o->(∃o',H b=some o')\/((∀k ob,S.h[k]?=some (some ob)->ρ k≠b)/\∀p∈X,p.1≠b)):Rel Df W0 M S ρ e X H' a W:=by
  refine⟨hr.tm,hr.df,⟨hr.mem.kn,hr.mem.inj,hr.mem.old,λk o ho=>?_,hs,hr.mem.mod,hr.mem.xk,hr.mem.xo,λp hp=>?_,hr.mem.xr⟩,hr.pc⟩
  · cases hh:H' (ρ k) with
    | none=>rfl
    | some ob =>
      rcases hd _ _ hh with⟨o',h1⟩ | ⟨h1,_⟩
      · rw[hr.mem.dis k o ho] at h1;cases h1
      · exact (h1 k o ho rfl).elim
  · cases hh:H' p.1 with
    | none=>rfl
    | some ob =>
      rcases hd _ _ hh with⟨o',h1⟩ | ⟨_,h1⟩
      · rw[hr.mem.xd p hp] at h1;cases h1
      · exact (h1 p hp rfl).elim
theorem kZ:∀{l:List (Nat × ay)} {S:St} {j:Nat} {o:ay},(bN S l).h[j]?=some (some o)->(∃p∈l,p.1=j/\p.2=o)\/((∀p∈l,p.1≠j\/S.h.length<=j)/\S.h[j]?=some (some o))
  | [],S,j,o,h=>.inr ⟨λp hp=>by simp at hp,h⟩
  | (k,q)::r,S,j,o,h=>by
    rcases kZ (l:=r) (S:=S.setObj k q) h with⟨p,hp,h1⟩ | ⟨h1,h2⟩
    · exact .inl ⟨p,List.mem_cons_of_mem _ hp,h1⟩
    · simp only[St.setObj] at h1 h2
      rw[List.getElem?_set] at h2
      split at h2
      · rename_i hh
        split at h2
        · simp only[Option.some.injEq] at h2
          exact .inl ⟨(k,q),List.mem_cons_self ..,hh,h2⟩
        · cases h2
      · rename_i hh
        refine .inr ⟨λp hp=>?_,h2⟩
        rcases List.mem_cons.1 hp with rfl | hp
        · exact .inl hh
        · have:=h1 p hp
          simpa using this
theorem aM:∀(l:List (Nat × ay)) (S:St),(bN S l).tm=S.tm/\(bN S l).nv=S.nv/\(bN S l).pc=S.pc/\(bN S l).dp=S.dp
  | [],_=>⟨rfl,rfl,rfl,rfl⟩
  | (k,q)::r,S=>aM r (S.setObj k q)
theorem Rel.mods(hr:Rel Df W0 M S ρ e X H a W){W':World}{l:List (Nat × ay)}(hl:∀p∈l,∃o,S.h[p.1]?=some (some o))(hm:Mod (λb=>∃p∈l,ρ p.1=b) W W')(hc:∀p∈l,W'.heap[ρ p.1]?=some (p.2.den ρ e)) :
    Rel Df W0 M (bN S l) ρ e X H a W':=by
  obtain⟨r1,r2,r3,r4⟩:=aM l S
  have hany:∀{j:Nat} {o:ay},(bN S l).h[j]?=some (some o)->∃o',S.h[j]?=some (some o'):=λ{j o} h=>by
    rcases kZ h with⟨p,hp,rfl,_⟩ | ⟨_,h⟩
    · exact hl p hp
    · exact⟨_,h⟩
  have hkeep:∀{b o},W.heap[b]?=some o->(∀p∈l,ρ p.1≠b)->W'.heap[b]?=some o:=λ{b o} hb hn=>by
    rw[hm.blk b (ag hb) (λ⟨p,hp,he⟩=>hn p hp he),hb]
  refine⟨by rw[r1];exact hr.tm,hr.df,⟨λj o ho=>?_,λi j o o' ho ho' he=>?_,λj o ho=>?_,λj o ho=>?_,λb o hb=>?_,?_,λp hp=>?_,hr.mem.xo,hr.mem.xd,λp hp j o ho=>?_⟩,by rw[r3];exact hr.pc⟩
  · rcases kZ ho with⟨p,hp,rfl,rfl⟩ | ⟨hn,h⟩
    · exact hc p hp
    · refine hkeep (hr.mem.kn j o h) (λp hp he=>?_)
      obtain⟨o',ho'⟩:=hl p hp
      have:=hr.mem.inj _ _ _ _ ho' h he
      rcases hn p hp with h1 | h1
      · exact h1 this
      · have:=gJ h;omega
  · obtain⟨o1,h1⟩:=hany ho
    obtain⟨o2,h2⟩:=hany ho'
    exact hr.mem.inj _ _ _ _ h1 h2 he
  · obtain⟨o1,h1⟩:=hany ho;exact hr.mem.old _ _ h1
  · obtain⟨o1,h1⟩:=hany ho;exact hr.mem.dis _ _ h1
  · refine hkeep (hr.mem.sub b o hb) (λp hp he=>?_)
    obtain⟨o',ho'⟩:=hl p hp
    have:=hr.mem.dis _ _ ho'
    rw[he,hb] at this;cases this
  · refine hr.mem.mod.trans hm (λb hb ⟨p,hp,he⟩=>?_)
    obtain⟨o',ho'⟩:=hl p hp
    rcases hr.mem.old _ _ ho' with h1 | h1
    · omega
    · rw[<- he];exact h1
  · refine hkeep (hr.mem.xk p hp) (λq hq he=>?_)
    obtain⟨o',ho'⟩:=hl q hq
    exact hr.mem.xr p hp _ _ ho' he
  · obtain⟨o1,h1⟩:=hany ho;exact hr.mem.xr p hp _ _ h1
theorem Rel.turn(hr:Rel Df W0 M S ρ e X H a W){W':World}{H':Hp}(h:gH W0 M H W H' W'):Rel Df W0 M S ρ e X H' a W':=by
  have hkeep:∀{b o},W.heap[b]?=some o->H b=none->W'.heap[b]?=some o:=λ{b o} hb hn=>by
    rw[h.mod.blk b (ag hb) (λ⟨⟨o,ho⟩,_⟩=>by rw[hn] at ho;cases ho),hb]
  have hnone:∀{b},H b=none->b<W.heap.size->H' b=none:=λ{b} hn hlt=>by
    cases hh:H' b with
    | none=>rfl
    | some o =>
      rcases h.dom b o hh with⟨o',h1⟩ | h1
      · rw[hn] at h1;cases h1
      · omega
  refine⟨hr.tm,hr.df,⟨λk o ho=>hkeep (hr.mem.kn k o ho) (hr.mem.dis k o ho),hr.mem.inj,hr.mem.old,λk o ho=>hnone (hr.mem.dis k o ho) (ag (hr.mem.kn k o ho)),h.sub,?_,λp hp=>hkeep (hr.mem.xk p hp) (hr.mem.xd p hp),hr.mem.xo,λp hp=>hnone (hr.mem.xd p hp) (ag (hr.mem.xk p hp)),hr.mem.xr⟩,hr.pc⟩
  refine hr.mem.mod.trans h.mod (λb hb ⟨_,h1⟩=>?_)
  rcases h1 with h1 | h1
  · omega
  · exact h1
theorem fY(hr:Rel Df W0 M S ρ e X H a W):∀{l:List (Nat × ay)},(∀p∈l,S.h[p.1]?=some (some p.2))->KN W0 M H W ρ e l
  | [],_=>trivial
  | (k,o)::r,h=>by
    have h0:=h (k,o) (List.mem_cons_self ..)
    exact⟨⟨hr.mem.kn k o h0,hr.mem.old k o h0,hr.mem.dis k o h0⟩,fY hr (λp hp=>h p (List.mem_cons_of_mem _ hp))⟩
theorem bO(S:St)(vs:List SV):∀p∈mB S vs,S.h[p.1]?=some (some p.2):=by
  intro p hp
  unfold mB at hp
  rw[List.mem_filterMap] at hp
  obtain⟨k,_,hk⟩:=hp
  simp only[Option.map_eq_some_iff] at hk
  obtain⟨o,ho,rfl⟩:=hk
  cases hh:S.h[k]? with
  | none=>rw[hh] at ho;cases ho
  | some q=>rw[hh] at ho;simp only[Option.join_some] at ho;rw[ho]
theorem Rel.now(hr:Rel Df W0 M S ρ e X H a W):Now W0 M H W:=⟨hr.mem.sub,hr.mem.mod⟩
end
end
section
variable{Df:List Deferred}
section
variable{P:Program}{W0:World}{M:Nat->Prop}{R:Ending->World->Prop}{hi:dq}{S:St}{ρ:Nat->Nat}{e:Env}{X:List (Nat × Obj)}{H:Hp}{L:List (List Dat->Hp->Prop)}{a:Act}{W:World}
theorem aa.mono{H K:Hp}{p:OL}{off:Int}{cs:List Value}(h:aa H p off cs)(hk:H.le K):aa K p off cs:=by
  obtain⟨b,o,h1,C,T,fz,h2,h3⟩:=h
  exact⟨b,o,h1,C,T,fz,hk b _ h2,h3⟩
def Sim(S S':St):Prop:=S'.dp=S.dp/\S'.tm=S.tm/\S'.h=S.h/\S'.nv=S.nv/\S'.ll=S.ll
theorem Sim.refl(S:St):Sim S S:=⟨rfl,rfl,rfl,rfl,rfl⟩
theorem Sim.trans{A B C:St}(h:Sim A B)(k:Sim B C):Sim A C:=⟨k.1.trans h.1,k.2.1.trans h.2.1,k.2.2.1.trans h.2.2.1,k.2.2.2.1.trans h.2.2.2.1,k.2.2.2.2.trans h.2.2.2.2⟩
structure ir where
  n:Nat
  m:Nat
  ρ:Nat->Nat
  e:Env
structure Agr(B:ir)(S:St)(ρ:Nat->Nat)(e:Env):Prop where
  n:B.n<=S.nv
  m:B.m<=S.h.length
  e:∀i,i<B.n->e i=B.e i
  r:∀k,k<B.m->ρ k=B.ρ k
theorem Agr.sim{B:ir}{S S':St}{ρ:Nat->Nat}{e:Env}(h:Agr B S ρ e)(s:Sim S S'):Agr B S' ρ e:=⟨by rw[s.2.2.2.1];exact h.n,by rw[s.2.2.1];exact h.m,h.e,h.r⟩
theorem Agr.put{B:ir}{S:St}{ρ:Nat->Nat}{e:Env}(h:Agr B S ρ e)(d:Option Nat)(v:SV):Agr B (S.put d v) ρ e:=by cases d<;>exact⟨h.n,h.m,h.e,h.r⟩
theorem Agr.next{B:ir}{S:St}{ρ:Nat->Nat}{e e':Env}(h:Agr B S ρ e){n:Nat}(hn:S.nv<=n)(he:∀i,i<S.nv->e' i=e i):Agr B { S with nv:=n } ρ e' :=
  ⟨Nat.le_trans h.n hn,h.m,λi hi=>(he i (Nat.lt_of_lt_of_le hi h.n)).trans (h.e i hi),h.r⟩
theorem oE:∀(l:List (Nat × ay)) (S:St),(bN S l).h.length=S.h.length
  | [],_=>rfl
  | (k,q)::r,S=>by rw[bN,oE r];simp[St.setObj]
theorem Agr.objs{B:ir}{S:St}{ρ:Nat->Nat}{e:Env}(h:Agr B S ρ e)(l:List (Nat × ay)):Agr B (bN S l) ρ e :=
  ⟨by rw[(aM l S).2.1];exact h.n,by rw[oE];exact h.m,h.e,h.r⟩
theorem gE:∀{cs:List Sb} {S:St} {K:St->VC},(sf S cs K).den P W0 M R ρ e H L->Rel Df W0 M S ρ e X H a W ->
    ∃S',Rel Df W0 M S' ρ e X H a W/\Sim S S'/\(∀c∈cs,c.den e=true)/\(K S').den P W0 M R ρ e H L
  | [],S,K,h,hr=>⟨S,hr,Sim.refl S,λc hc=>by simp at hc,h⟩
  | c::r,S,K,h,hr=>by
    simp only[sf] at h
    split at h
    · rename_i hd
      obtain⟨S',h1,h2,h5,h6⟩:=gE h hr
      refine⟨S',h1,h2,λc' hc'=>?_,h6⟩
      rcases List.mem_cons.1 hc' with rfl | hc'
      · exact mt hr.pc hd
      · exact h5 c' hc'
    · obtain⟨hp,hk⟩:=h
      have hc:=(Sb.prop_iff e c).1 hp
      obtain⟨S',h1,h2,h5,h6⟩:=gE (hk hp) (hr.know hc)
      refine⟨S',h1,h2,λc' hc'=>?_,h6⟩
      rcases List.mem_cons.1 hc' with rfl | hc'
      · exact hc
      · exact h5 c' hc'
theorem kv:∀{c:Sb} {A B:St->VC},(n8 S c A B).den P W0 M R ρ e H L->Rel Df W0 M S ρ e X H a W ->
    ∃S',Rel Df W0 M S' ρ e X H a W/\Sim S S'/\((c.den e=true/\(A S').den P W0 M R ρ e H L)\/(c.den e=false/\(B S').den P W0 M R ρ e H L))
  | .not c,A,B,h,hr=>by
    obtain⟨S',h1,h2,h5⟩:=kv (c:=c) (A:=B) (B:=A) h hr
    refine⟨S',h1,h2,?_⟩
    rcases h5 with⟨h5,h6⟩ | ⟨h5,h6⟩
    · exact .inr ⟨by simp[Sb.den,h5],h6⟩
    · exact .inl ⟨by simp[Sb.den,h5],h6⟩
  | .k c,A,B,h,hr | .v c,A,B,h,hr | .lt c _,A,B,h,hr | .le c _,A,B,h,hr | .eq c _,A,B,h,hr | .beq c _,A,B,h,hr | .rng c _,A,B,h,hr | .idx c _,A,B,h,hr | .isp c,A,B,h,hr=>by
    simp only[n8] at h
    split at h
    · rename_i hd
      exact⟨S,hr,Sim.refl S,.inl ⟨mt hr.pc hd,h⟩⟩
    · rename_i hd
      exact⟨S,hr,Sim.refl S,.inr ⟨mt hr.pc hd,h⟩⟩
    · obtain⟨ht,hf⟩:=h
      rw[Sb.prop_iff] at ht hf
      cases hc:Sb.den e _ with
      | true=>exact⟨_,hr.know hc,⟨rfl,rfl,rfl,rfl,rfl⟩,.inl ⟨rfl,ht hc⟩⟩
      | false=>exact⟨_,hr.know hc,⟨rfl,rfl,rfl,rfl,rfl⟩,.inr ⟨rfl,hf (by rw[hc];exact Bool.false_ne_true)⟩⟩
theorem kj{x:Sx}{d:Option Nat}{K:St->VC}:∀{vs:List SV} {j i:Nat} {v:SV},(sg S x d K j vs).den P W0 M R ρ e H L->Rel Df W0 M S ρ e X H a W->vs[i]?=some v->x.den e=((j+i:Nat):Int) ->
    ∃S',Rel Df W0 M S' ρ e X H a W/\Sim S S'/\(K (S'.put d v)).den P W0 M R ρ e H L
  | [],j,i,v,_,_,hv,_=>by simp at hv
  | u::r,j,i,v,h,hr,hv,hx=>by
    simp only[sg] at h
    obtain⟨h1,h2⟩:=h
    cases i with
    | zero =>
      simp only[List.getElem?_cons_zero,Option.some.injEq] at hv
      subst hv
      have hc:(Sb.eq x (.k j)).prop e:=by simp only[Sb.prop,Sx.den];rw[hx];simp
      exact⟨_,hr.know ((Sb.prop_iff e _).1 hc),⟨rfl,rfl,rfl,rfl,rfl⟩,h1 hc⟩
    | succ i=>exact kj (j:=j+1) h2 hr (by simpa using hv) (by rw[hx];congr 1;omega)
def sT(Df:List Deferred)(P:Program)(W0:World)(M:Nat->Prop)(R:Ending->World->Prop)(X:List (Nat × Obj))(L:List (List Dat->Hp->Prop))(B:ir)(dp:Nat)(K:St->VC)(next:Act->World->Prop):Prop :=
  ∀(S:St) (ρ:Nat->Nat) (e:Env) (H:Hp) (a:Act) (W:World),S.dp=dp->Agr B S ρ e->(K S).den P W0 M R ρ e H L->Rel Df W0 M S ρ e X H a W->next a W
theorem gB{o:Oper}{next:Act->World->Prop}{Q:Exit->Act->World->Prop}{v:Value}{W':World}(h:(execOp a.eval o).run P W=.ok (.value v) W')(hn:next (a.put o.dst v) W'):o.wp P a W next Q:=by
  unfold Oper.wp
  rw[h]
  exact hn
theorem ij:∀{ks:List Nat} {nv:Nat} {l:List (Nat × ay)} {f:List (Nat × Pk)} {n:Nat},ex P S nv ks=some (l,f,n)->∀p∈l,∃o,S.h[p.1]?=some (some o)
  | [],nv,l,f,n,h,p,hp=>by
    simp only[ex,Option.some.injEq,Prod.mk.injEq] at h
    obtain⟨rfl,_⟩:=h
    simp at hp
  | k::r,nv,l,f,n,h,p,hp=>by
    simp only[ex] at h
    split at h
    · cases h
    · rename_i ob hob
      split at h
      · rename_i l' f' n' hh
        simp only[Option.some.injEq,Prod.mk.injEq] at h
        obtain⟨rfl,_⟩:=h
        rcases List.mem_cons.1 hp with rfl | hp
        · exact⟨ob,by
            cases hq:S.h[k]? with
            | none=>rw[hq] at hob;cases hob
            | some q=>rw[hq] at hob;simp only[Option.join_some] at hob;rw[hob]⟩
        · exact ij hh p hp
      · cases h
theorem iI(hr:Rel Df W0 M S ρ e X H a W){W':World}{cls:CC}{K:Hp->Prop}(hm:∀l,cls=.mods l\/cls=.both l->∀p∈l,∃o,S.h[p.1]?=some (some o))(h:cls.post W0 M ρ e H W W' K) :
    ∃H',Rel Df W0 M (match cls with | .mods l=>bN S l | .both l=>bN S l | _=>S) ρ e X H' a W'/\K H':=by
  cases cls with
  | same=>exact⟨H,hr.ext h.1,h.2⟩
  | fresh =>
    obtain⟨hx,D,hD,hfresh,hk⟩:=h
    have hsep:∀b o,D b=some o->H b=none:=λb o hb=>by
      cases hh:H b with
      | none=>rfl
      | some q=>have:=ag (hr.mem.sub b q hh);have:=hfresh b o hb;omega
    have h1:H.le (λb=>(H b).orElse λ_=>D b):=λb o hb=>by simp[hb]
    have h2:D.le (λb=>(H b).orElse λ_=>D b):=λb o hb=>by simp[hsep b o hb,hb]
    refine⟨_,(hr.ext hx).hold (λb o hb=>?_) (λb o hb=>?_),hk _ h1 h2⟩
    · cases hh:H b with
      | none=>simp only[hh,Option.orElse_none] at hb;exact hD b o hb
      | some q=>simp only[hh,Option.orElse_some] at hb;rw[<- hb];exact (hr.ext hx).mem.sub b q hh
    · cases hh:H b with
      | none =>
        simp only[hh,Option.orElse_none] at hb
        have hge:=hfresh b o hb
        refine .inr ⟨λk ob hk he=>?_,λp hp he=>?_⟩
        · have:=ag (hr.mem.kn k ob hk);omega
        · have:=ag (hr.mem.xk p hp);omega
      | some q=>exact .inl ⟨q,rfl⟩
  | mods l =>
    obtain⟨h1,h2,h3⟩:=h
    rw[nw] at h1
    replace h2:=mD h2
    exact⟨H,hr.mods (hm l (.inl rfl)) h1 h2,h3⟩
  | both l =>
    obtain⟨Wm,H',h1,h2,h3,h4⟩:=h
    rw[nw] at h1
    replace h2:=mD h2
    exact⟨H',(hr.mods (hm l (.inr rfl)) h1 h2).turn h3,h4⟩
  | turn =>
    obtain⟨H',h1,h2⟩:=h
    exact⟨H',hr.turn h1,h2⟩
theorem nS(hr:Rel Df W0 M S ρ e X H a W){W':World}{cls:CC}{K:Hp->Prop}(hn:∀l,cls≠.mods l/\cls≠.both l)(h:cls.post W0 M ρ e H W W' K) :
    ∃H',Rel Df W0 M S ρ e X H' a W'/\K H':=by
  obtain⟨H',h1,h2⟩:=iI hr (λl hl=>(hl.elim (hn l).1 (hn l).2).elim) h
  refine⟨H',?_,h2⟩
  cases cls with
  | mods l=>exact ((hn l).1 rfl).elim
  | both l=>exact ((hn l).2 rfl).elim
  | _=>exact h1
theorem j9(b c:Bool)(l:List (Nat × ay)):(if b=true then CC.turn else if c=true then CC.fresh else CC.same)≠.mods l/\(if b=true then CC.turn else if c=true then CC.fresh else CC.same)≠.both l:=by
  split
  · simp
  · split<;>simp
def DJ(b:Nat):Option Nat->Value
  | some n=>.slice (some ⟨b,0,none⟩) n n
  | none=>.pointer (some ⟨b,0,none⟩)
theorem ye{rid ix:Nat}{o:Oper}{K:St->VC}{next:Act->World->Prop}{Q:Exit->Act->World->Prop}(h:(vZ P rid ix S o K).den P W0 M R ρ e H L)(hr:Rel Df W0 M S ρ e X H a W)
    {B:ir} (hb:Agr B S ρ e) (hk:sT Df P W0 M R X L B S.dp K next):o.wp P a W next Q:=by
  have hs:=hU (P:=P) (W:=W) (o:=o) hr.toT
  unfold vZ at h
  split at h
  · rename_i cs t len hst
    rw[hst] at hs
    split at h
    · rename_i hf
      simp only[Bool.and_eq_true] at hf
      obtain⟨sv,hsv⟩:∃sv:SV,Bg S.nv len=sv:=⟨_,rfl⟩
      rw[hsv] at h
      have hold:∀i,i<S.nv->upd e S.nv (.p (some ((W.heap.size:Blk),0))) i=e i:=λi hi=>by unfold upd;rw[if_neg (by omega)]
      have hnone:H W.heap.size=none:=by
        cases hh:H W.heap.size with
        | none=>rfl
        | some q=>have:=ag (hr.mem.sub _ q hh);omega
      have hr1:=(hr.congr hf.1 hold (λ_ _=>rfl)).next (S.nv+1)
      have hx:Ext W (W.alloc (.cells (SV.dens ρ e cs).toArray t (0,0))):=Below.alloc (Below.refl _ _) (Nat.le_refl _) _
      have hpost:CC.post W0 M ρ (upd e S.nv (.p (some ((W.heap.size:Blk),0)))) H W (W.alloc (.cells (SV.dens ρ e cs).toArray t (0,0)))
          (λH'=>VC.den P W0 M R (K ({ S with nv:=S.nv+1 }.put o.dst sv)) ρ (upd e S.nv (.p (some ((W.heap.size:Blk),0)))) H' L) .fresh:=by
        refine⟨hx,λb=>if b=W.heap.size then some (.cells (SV.dens ρ e cs).toArray t (0,0)) else none,λb o hbo=>?_,λb o hbo=>?_,λH' h1 h2=>?_⟩
        · dsimp only at hbo
          split at hbo
          · rename_i hbe
            cases hbo
            rw[hbe]
            show (W.heap.push _)[W.heap.size]?=_
            simp
          · cases hbo
        · dsimp only at hbo
          split at hbo
          · rename_i hbe;omega
          · cases hbo
        · exact h _ H' ⟨W.heap.size,rfl,hr.mem.mod.size,hnone,h2 _ _ (if_pos rfl)⟩ h1
      obtain⟨H',hr2,hd⟩:=iI hr1 (cls:=.fresh) (λl hl=>by rcases hl with hl | hl<;>cases hl) hpost
      have hr3:=hr2.put o.dst sv
      refine gB hs (hk _ _ _ _ _ _ (by rw[aF]) ((hb.next (Nat.le_succ _) hold).put _ _) hd ?_)
      have e1:SV.den ρ (upd e S.nv (.p (some ((W.heap.size:Blk),0)))) sv=DJ W.heap.size len:=by
        subst hsv
        cases len<;>simp[Bg,DJ,SV.den,Sx.den,upd,ab,Dat.ptr,Loc.addr]
      rw[e1] at hr3
      cases len<;>exact hr3
    · exact h.elim
  · exact h.elim
theorem uA{rid ix:Nat}{o:Oper}{K:St->VC}{next:Act->World->Prop}{Q:Exit->Act->World->Prop}(h:(dg P hi rid ix S o K).den P W0 M R ρ e H L)(hr:Rel Df W0 M S ρ e X H a W)
    {B:ir} (hb:Agr B S ρ e) (hk:sT Df P W0 M R X L B S.dp K next):o.wp P a W next Q:=by
  have hs:=hU (P:=P) (W:=W) (o:=o) hr.toT
  unfold dg at h
  split at h
  · rename_i cs v hst
    rw[hst] at hs
    obtain⟨S',h1,h2,h5,h6⟩:=gE h hr
    exact gB (hs h5) (hk _ _ _ _ _ _ (by rw[aF,h2.1]) ((hb.sim h2).put _ _) h6 (h1.put _ _))
  · rename_i cs t len hst
    rw[hst] at hs
    split at h
    · rename_i hf
      simp only[Bool.and_eq_true] at hf
      have hk':=h W.heap.size
      have hr':=(hr.alloc hf.1 hf.2 t)
      have hup:upd ρ S.h.length W.heap.size S.h.length=W.heap.size:=by unfold upd;rw[if_pos rfl]
      refine gB hs (hk _ _ _ _ _ _ (by rw[aF]) (Agr.put (S:={ S with h:=S.h ++ [some { cs:=cs,ty:=t }] }) ⟨hb.n,by simp;have:=hb.m;omega,hb.e,λk hk=>(by unfold upd;rw[if_neg (by have:=hb.m;omega)];exact hb.r k hk)⟩ _ _) hk' ?_)
      cases len with
      | none =>
        have:=hr'.put o.dst (.ptrK S.h.length 0)
        simp only[SV.den,hup] at this
        exact this
      | some n =>
        have:=hr'.put o.dst (.slK S.h.length 0 n n)
        simp only[SV.den,hup] at this
        exact this
    · exact h.elim
  · rename_i k off cs hst
    rw[hst] at hs
    split at h
    · rename_i ob hob
      obtain⟨k1,k2⟩:=qb hr hob
      obtain⟨_,hrun⟩:=hs ob k1 k2
      have hr':=(hr.store k1 (bW ob.cs off cs)).put o.dst .undef
      unfold Oper.wp
      rw[hrun]
      exact hk _ _ _ _ _ _ (by rw[aF];rfl) (Agr.put (S:=S.setObj k { ob with cs:=bW ob.cs off cs }) ⟨hb.n,by simp[St.setObj];exact hb.m,hb.e,hb.r⟩ _ _) h hr'
    · exact h.elim
  · rename_i i off t kn hst
    rw[hst] at hs
    split at h
    · rename_i j
      split at h
      · rename_i ob hob
        split at h
        · rename_i v hv
          obtain⟨k1,k2⟩:=qb hr hob
          exact gB (hs ob v k1 k2 hv) (hk _ _ _ _ _ _ (by rw[aF]) (hb.put _ _) h (hr.put _ _))
        · exact h.elim
      · exact h.elim
    · split at h
      · exact h.elim
      · rename_i zs hz
        dsimp only at h
        split at h
        · exact h.elim
        · rename_i hff
          simp only[Bool.not_eq_true,Bool.not_eq_false',Bool.and_eq_true,decide_eq_true_eq] at hff
          have hpl:∀(l:List Pt) (n:Nat),(mkP n l).1.length=l.length:=by
            intro l
            induction l with
            | nil=>intro n;rfl
            | cons p r ih=>intro n;cases p<;>simp[mkP,ih]
          have hlen:(mkP S.nv (zs.map ja)).1.length=zs.length:=by rw[hpl];simp
          split at h
          · rename_i hagg
            obtain⟨e',hu,hrow,hd⟩:=bR h
            have hold:=hu.old hff.1.2
            have hr':=(hr.congr hff.1.1 hold (λ_ _=>rfl)).next (mkP S.nv (zs.map ja)).2.2
            refine gB (hs zs _ hz (by rw[bA,hlen]) (hrow.mono hr.mem.sub) (.agg (SV.dens ρ e' (mkP S.nv (zs.map ja)).1).toArray) (by rw[if_pos hagg])) (hk _ _ _ _ _ _ (by rw[aF]) ((hb.next hff.2 hold).put _ _) hd ?_)
            exact hr'.put o.dst (.agg (mkP S.nv (zs.map ja)).1)
          · rename_i hagg
            split at h
            · rename_i v hq
              obtain⟨e',hu,hrow,hd⟩:=bR h
              have hold:=hu.old hff.1.2
              have hr':=(hr.congr hff.1.1 hold (λ_ _=>rfl)).next (mkP S.nv (zs.map ja)).2.2
              have hl1:zs.length=1:=by rw[<- hlen,hq];rfl
              refine gB (hs zs _ hz (by rw[bA];simp[hl1]) (hrow.mono hr.mem.sub) (v.den ρ e') (by rw[if_neg hagg];rfl)) (hk _ _ _ _ _ _ (by rw[aF]) ((hb.next hff.2 hold).put _ _) hd ?_)
              exact hr'.put o.dst v
            · exact h.elim
  · rename_i x vs hst
    rw[hst] at hs
    obtain⟨hp,hc⟩:=h
    have hc':=hc hp
    simp only[Sb.prop,Sx.den] at hp
    have hlt:(x.den e).toNat<vs.length:=by omega
    obtain⟨v,hv⟩:∃v,vs[(x.den e).toNat]?=some v:=⟨_,List.getElem?_eq_getElem hlt⟩
    obtain⟨S',h1,h2,h3⟩:=kj hc' hr hv (by simp;omega)
    exact gB (hs _ v (by omega) hv) (hk _ _ _ _ _ _ (by rw[aF,h2.1]) ((hb.sim h2).put _ _) h3 (h1.put _ _))
  · rename_i f as ty hst
    rw[hst] at hs
    split at h
    · exact h.elim
    · rename_i pat fr nv hpat
      split at h
      · exact h.elim
      · rename_i hff
        simp only[Bool.not_eq_true,Bool.not_eq_false',Bool.and_eq_true,decide_eq_true_eq] at hff
        unfold Oper.wp
        rw[hs]
        split at h
        · rename_i ixs hix
          split at h
          · rename_i l fr2 nv2 hnc
            split at h
            · exact h.elim
            · rename_i hf2
              simp only[Bool.not_eq_true,Bool.not_eq_false',Bool.and_eq_true,decide_eq_true_eq] at hf2
              refine (h W hr.now (fY hr (bO S as))).mono λx W' hx=>?_
              obtain⟨e',hu,rfl,hpost⟩:=bR hx
              have hold:=hu.old (jc hff.1.2 hf2.1)
              have hr':=(hr.congr hff.1.1 hold (λ_ _=>rfl)).next nv2
              have hin:∀p∈l,∃o,({ S with nv:=nv2 }:St).h[p.1]?=some (some o):=λp hp=>ij hnc p hp
              cases hto:hi.turns.contains f with
              | true =>
                rw[hto,if_pos rfl] at hpost
                obtain⟨H',hr2,hd⟩:=iI hr' (cls:=.both l) (λl' hl' p hp=>by rcases hl' with hl' | hl'<;>cases hl';exact hin p hp) hpost
                exact hk _ _ _ _ _ _ (by rw[aF];exact (aM l _).2.2.2) (((hb.next hf2.2 hold).objs l).put _ _) hd (hr2.put _ _)
              | false =>
                rw[hto,if_neg Bool.false_ne_true] at hpost
                obtain⟨H',hr2,hd⟩:=iI hr' (cls:=.mods l) (λl' hl' p hp=>by rcases hl' with hl' | hl'<;>cases hl';exact hin p hp) hpost
                exact hk _ _ _ _ _ _ (by rw[aF];exact (aM l _).2.2.2) (((hb.next hf2.2 hold).objs l).put _ _) hd (hr2.put _ _)
          · exact h.elim
        · refine (h W hr.now (fY hr (bO S as))).mono λx W' hx=>?_
          obtain⟨e',hu,rfl,hpost⟩:=bR hx
          have hold:=hu.old hff.1.2
          have hr':=(hr.congr hff.1.1 hold (λ_ _=>rfl)).next nv
          obtain⟨H',hr2,hd⟩:=nS hr' (j9 _ _) hpost
          exact hk _ _ _ _ _ _ (by rw[aF]) ((hb.next hff.2 hold).put _ _) hd (hr2.put _ _)
  · rename_i q as ty turns hst
    rw[hst] at hs
    split at h
    · obtain⟨W',hrun,hpost⟩:=h W hr.now (fY hr (bO S as))
      obtain⟨H',hr2,hd⟩:=iI hr (cls:=.turn) (λl' hl'=>by rcases hl' with hl' | hl'<;>cases hl') hpost
      unfold Oper.wp
      rw[hs,hrun]
      exact hk _ _ _ _ _ _ (by rw[aF]) (hb.put _ _) hd (hr2.put _ _)
    · rename_i ty'
      split at h
      · exact h.elim
      · rename_i pat fr nv hpat
        split at h
        · exact h.elim
        · rename_i hff
          simp only[Bool.not_eq_true,Bool.not_eq_false',Bool.and_eq_true,decide_eq_true_eq] at hff
          obtain⟨e',hu,W',hrun,hpost⟩:=bR (h W hr.now (fY hr (bO S as)))
          have hold:=hu.old hff.1.2
          have hr':=(hr.congr hff.1.1 hold (λ_ _=>rfl)).next nv
          obtain⟨H',hr2,hd⟩:=nS hr' (j9 _ _) hpost
          unfold Oper.wp
          rw[hs,hrun]
          exact hk _ _ _ _ _ _ (by rw[aF]) ((hb.next hff.2 hold).put _ _) hd (hr2.put _ _)
  · exact h.elim
end
end
section
variable{Df:List Deferred}
section
variable{P:Program}{W0:World}{M:Nat->Prop}{R:Ending->World->Prop}{hi:dq}{X:List (Nat × Obj)}
theorem nN{S:St}{ops:List Oper}{o:Oper}(h:iL ops S o=.yes)(y:Nat->Option Bool):Region.wanted o y=true:=by
  unfold iL at h
  split at h
  · rename_i hg;simp[Region.wanted,hg]
  · split at h
    · split at h<;>cases h
    · cases h
theorem lG{S:St}{ρ:Nat->Nat}{e:Env}{a:Act}(hr:fQ ρ e S.tm a){d:Nat}{v:SV}(h:(S.tm[d]?).join=some v):a.tmps[d]?=some (v.den ρ e):=by
  refine hr.2 d v ?_
  cases hh:S.tm[d]? with
  | none=>rw[hh] at h;cases h
  | some q=>rw[hh] at h;simp only[Option.join_some] at h;rw[h]
theorem pk{S:St}{ρ:Nat->Nat}{e:Env}{a:Act}(hr:fQ ρ e S.tm a){ops:Array Oper}{o:Oper}(h:iL ops.toList S o=.no):Region.wanted o (yielded ops a.tmps)=false:=by
  unfold iL at h
  split at h
  · cases h
  · rename_i j want hg
    split at h
    · rename_i d hd
      split at h
      · cases h
      · rename_i hu
        have:=lG hr hu
        simp only[Array.getElem?_toList] at hd
        simp only[Region.wanted,hg,yielded,hd,Option.bind_some,this,SV.den,Go.undef]
        cases want<;>rfl
      · cases h
    · cases h
theorem pA{S:St}{ρ:Nat->Nat}{e:Env}{a:Act}(hr:fQ ρ e S.tm a){ops:Array Oper}{o:Oper}{c:Sb}{want:Bool}(h:iL ops.toList S o=.br c want):Region.wanted o (yielded ops a.tmps)=(c.den e==want):=by
  unfold iL at h
  split at h
  · cases h
  · rename_i j want' hg
    split at h
    · rename_i d hd
      split at h
      · rename_i c' hu
        simp only[Gd.br.injEq] at h
        obtain⟨rfl,rfl⟩:=h
        have:=lG hr hu
        simp only[Array.getElem?_toList] at hd
        simp only[Region.wanted,hg,yielded,hd,Option.bind_some,this,SV.den]
        rfl
      · cases h
      · cases h
    · cases h
theorem qg{rd:Option Nat}{n:Nat}{f:FuncId}{args:Array Value}{w:World}{R:Ending->World->Prop}(h:Calls P f args w R):CallsIn (Fw rd) n P f args w R:=(callsIn_wide (n:=n)).2 h
theorem ys{rd:Option Nat}{n:Nat}{row:String}{args:Array Value}{w:World}{R:Value->World->Prop}(h:Rows P row args w R):RowsIn (Fw rd) n P row args w R:=λc cs _=>by
  obtain⟨v,w',r,s⟩:=h c cs
  exact⟨v,w',r,stepsIn_wide.2 s⟩
theorem o7{rd:Option Nat}{o:Oper}(hd:gl o.op=true)(f:Operand->Value):Oper.semAt rd f o=execOp f o:=Oper.semAt_eq rd f o λc hc=>by rw[hc] at hd;cases hd
theorem lY{rd:Option Nat}{o:Oper}(hd:gl o.op=true){a:Act}{W:World}{next:Act->World->Prop}{Q:Exit->Act->World->Prop}(h:o.wp P a W next Q):o.wpIn (Fw rd) 0 P a W next Q:=by
  refine⟨λ_ _=>trivial,?_⟩
  rw[o7 hd]
  unfold Oper.wp at h
  generalize (execOp a.eval o).run P W=r at h |-
  cases r with
  | ok x w' =>
    cases x<;>simp only[Oper.upon,Oper.uponIn] at h |- <;>
      first
        | exact h
        | exact⟨λh'=>(by cases h'),qg h⟩
        | exact⟨λh'=>(by cases h'),ys h⟩
  | halt x w'=>cases x<;>simp only[Oper.upon,Oper.uponIn] at h |-<;>exact h
theorem wK{S:St}{ρ:Nat->Nat}{e:Env}{a:Act}(hr:fQ ρ e S.tm a){o:Oper}{i:Nat}{as:List SV}(h:mj S o=some (i,as))(W:World):(execOp a.eval o).run P W=(Instr.yield (e i).nat (SV.dens ρ e as).toArray).run P W:=by
  unfold mj at h
  split at h
  · rename_i c hop
    split at h
    · rename_i f hc
      split at h
      · rename_i j bs hf has
        simp only[Option.some.injEq,Prod.mk.injEq] at h
        obtain⟨rfl,rfl⟩:=h
        have h1:=ki hr has
        have h2:(Array.map a.eval c.args)=(SV.dens ρ e bs).toArray:=by
          apply Array.ext'
          simp[h1]
        simp only[execOp,hop,resolve,hc,Deferred.ofValue,aw hr hf,SV.den,Sem.run_bind,Sem.run_pure,Result.andThen_ok,invoke,h2]
        rw[Array.empty_append]
      · cases h
    · cases h
  · cases h
theorem pE{rd:Option Nat}{n l:Nat}{args:Array Value}{W:World}{Φ:Ending->World->Prop}(h:YieldAt (Fw none) n P l args W Φ):YieldAt (Fw rd) n P l args W Φ:=by
  obtain⟨fn,tmps,assign,body,h1,h2,h3⟩:=h
  exact⟨fn,tmps,assign,body,h1,h2,h3⟩
def Pn(Df:List Deferred)(P:Program)(R:Ending->World->Prop)(hi:dq)(B:ir)(X:List (Nat × Obj))(Q:Exit->Act->World->Prop):Prop :=
  ∀(ps:List PanicEntry) (ρ:Nat->Nat) (a:Act) (W:World),(∀k,k<B.m->ρ k=B.ρ k)->a.defers=oJ X++Df->(∀p∈hi.res,a.tmps[p.1]?=some (.pointer (some ⟨ρ p.2.1,0,none⟩))) ->
    Dr P R (dfR ρ hi.df) (rcR ρ (hi.res.map (·.2))) (.panicking ps) W->Q (.panic ps) a W
theorem Pn.base{B:ir}{S:St}{ρ:Nat->Nat}{e:Env}{Q:Exit->Act->World->Prop}(h:Pn Df P R hi B X Q)(hb:Agr B S ρ e):Pn Df P R hi ⟨S.nv,S.h.length,ρ,e⟩ X Q :=
  λps ρ' a W hr=>h ps ρ' a W λk hk=>(hr k (Nat.lt_of_lt_of_le hk hb.m)).trans (hb.r k hk)
theorem mA{S:St}{ρ:Nat->Nat}{e:Env}{a:Act}(hr:fQ ρ e S.tm a)(h:wO hi S=true):hi.pn=true/\∀p∈hi.res,a.tmps[p.1]?=some (.pointer (some ⟨ρ p.2.1,0,none⟩)):=by
  unfold wO at h
  rw[Bool.and_eq_true,List.all_eq_true] at h
  refine⟨h.1,λp hp=>?_⟩
  have h2:=h.2 p hp
  split at h2
  · rename_i k hk
    have:=lG hr hk
    have hkp:=of_decide_eq_true h2
    rw[this,<- hkp]
    rfl
  · cases h2
theorem xi{S:St}{ρ:Nat->Nat}{e:Env}{H:Hp}{L:List (List Dat->Hp->Prop)}{a:Act}{W:World}{o:Oper}{K:St->VC}{next:Act->World->Prop}{Q:Exit->Act->World->Prop}(h:(ry P hi S o K).den P W0 M R ρ e H L)(hr:Rel Df W0 M S ρ e X H a W)
    {B:ir} (hb:Agr B S ρ e) (hpn:hi.pn=true->Pn Df P R hi B X Q) (hk:sT Df P W0 M R X L B S.dp K next):o.wp P a W next Q:=by
  unfold ry at h
  split at h
  · exact h.elim
  rename_i hres
  simp only[Bool.not_eq_true,Bool.not_eq_false'] at hres
  obtain⟨hp1,hpins⟩:=mA hr.tm hres
  have hs:=hU (P:=P) (W:=W) (o:=o) hr.toT
  split at h
  · rename_i x hop
    split at h
    · rename_i v hv
      obtain⟨⟨t,u,hd⟩,hx⟩:=h W hr.now (fY hr (bO S _))
      have hrun:(execOp a.eval o).run P W=.halt (.panic (v.den ρ e)) W:=by
        have hpi:∀(w:World),(Instr.panic (.iface t u)).run P w=.halt (.panic (.iface t u)) w:=λ_=>rfl
        simp only[execOp,hop,aw hr.tm hv,hd,Sem.run_bind,hpi]
        rfl
      unfold Oper.wp
      rw[hrun]
      exact hpn hp1 _ ρ a W hb.r hr.df hpins hx
    · exact h.elim
  · split at h
    · rename_i f as ty hst
      rw[hst] at hs
      split at h
      · exact h.elim
      · rename_i pat fr nv hpat
        split at h
        · exact h.elim
        · rename_i hff
          simp only[Bool.not_eq_true,Bool.not_eq_false',Bool.and_eq_true,decide_eq_true_eq] at hff
          unfold Oper.wp
          rw[hs]
          split at h
          · rename_i ixs hix
            split at h
            · rename_i l fr2 nv2 hnc
              split at h
              · exact h.elim
              · rename_i hf2
                simp only[Bool.not_eq_true,Bool.not_eq_false',Bool.and_eq_true,decide_eq_true_eq] at hf2
                refine (h W hr.now (fY hr (bO S _))).mono λx W' hx=>?_
                rcases hx with hx | ⟨ps,rfl,hx⟩
                · obtain⟨e',hu,rfl,hpost⟩:=bR hx
                  have hold:=hu.old (jc hff.1.2 hf2.1)
                  have hr':=(hr.congr hff.1.1 hold (λ_ _=>rfl)).next nv2
                  have hin:∀p∈l,∃o,({ S with nv:=nv2 }:St).h[p.1]?=some (some o):=λp hp=>ij hnc p hp
                  cases hto:hi.turns.contains f with
                  | true =>
                    rw[hto,if_pos rfl] at hpost
                    obtain⟨H',hr2,hd⟩:=iI hr' (cls:=.both l) (λl' hl' p hp=>by rcases hl' with hl' | hl'<;>cases hl';exact hin p hp) hpost
                    exact hk _ _ _ _ _ _ (by rw[aF];exact (aM l _).2.2.2) (((hb.next hf2.2 hold).objs l).put _ _) hd (hr2.put _ _)
                  | false =>
                    rw[hto,if_neg Bool.false_ne_true] at hpost
                    obtain⟨H',hr2,hd⟩:=iI hr' (cls:=.mods l) (λl' hl' p hp=>by rcases hl' with hl' | hl'<;>cases hl';exact hin p hp) hpost
                    exact hk _ _ _ _ _ _ (by rw[aF];exact (aM l _).2.2.2) (((hb.next hf2.2 hold).objs l).put _ _) hd (hr2.put _ _)
                · exact hpn hp1 ps ρ a W' hb.r hr.df hpins hx
            · exact h.elim
          · refine (h W hr.now (fY hr (bO S _))).mono λx W' hx=>?_
            rcases hx with hx | ⟨ps,rfl,hx⟩
            · obtain⟨e',hu,rfl,hpost⟩:=bR hx
              have hold:=hu.old hff.1.2
              have hr':=(hr.congr hff.1.1 hold (λ_ _=>rfl)).next nv
              obtain⟨H',hr2,hd⟩:=nS hr' (j9 _ _) hpost
              exact hk _ _ _ _ _ _ (by rw[aF]) ((hb.next hff.2 hold).put _ _) hd (hr2.put _ _)
            · exact hpn hp1 ps ρ a W' hb.r hr.df hpins hx
    · exact h.elim
theorem tO{rd:Option Nat}{L:List (List Dat->Hp->Prop)}{B:ir}{rid:Nat}{ops:Array Oper}{K:St->VC}{Q:Exit->Act->World->Prop}:∀{l:List (Oper × Nat)} {S:St} {ρ:Nat->Nat} {e:Env} {H:Hp} {a:Act} {W:World},(∀p∈l,gl p.1.op=true) ->
    (jN P hi rid ops.toList l S K).den P W0 M R ρ e H L->Rel Df W0 M S ρ e X H a W->Agr B S ρ e->(hi.pn=true->Pn Df P R hi B X Q)->sT Df P W0 M R X L B S.dp K (Q .normal)->wpListIn (Fw rd) 0 P ops Q (l.map (·.1)) a W
  | [],S,ρ,e,H,a,W,_,h,hr,hb,_,hk=>hk S ρ e H a W rfl hb h hr
  | (o,ix)::r,S,ρ,e,H,a,W,hnd,h,hr,hb,hpn,hk=>by
    have hgo:sT Df P W0 M R X L B S.dp (λS=>jN P hi rid ops.toList r S K) (wpListIn (Fw rd) 0 P ops Q (r.map (·.1))):=λS' ρ' e' H' a' W' hd hb' h' hr'=>tO (λp hp=>hnd p (List.mem_cons_of_mem _ hp)) h' hr' hb' hpn (hd▸hk)
    have hno:=hnd _ (List.mem_cons_self ..)
    simp only[List.map_cons,wpListIn]
    simp only[jN] at h
    split at h
    · rename_i hg
      rw[if_pos (nN hg _)]
      split at h
      · rename_i i as hy
        refine⟨λ_ _=>trivial,?_⟩
        rw[o7 hno,wK hr.tm hy]
        obtain⟨fn,tmps,assign,body,h1,h2⟩:=pE (rd:=rd) (h W hr.now (fY hr (bO S as)))
        rw[h1]
        refine⟨λh'=>(by cases h'),h2.mono λx W' hx=>?_⟩
        obtain⟨rfl,H',htn,hd⟩:=hx
        obtain⟨H2,hr2,hd2⟩:=iI hr (cls:=.turn) (K:=λH'=>(jN P hi rid ops.toList r (S.put o.dst (.bool (.k true))) K).den P W0 M R ρ e H' L) (λl' hl'=>by rcases hl' with hl' | hl'<;>cases hl') ⟨H',htn,hd⟩
        exact hgo _ _ _ _ _ _ (by rw[aF]) (hb.put _ _) hd2 (hr2.put _ (.bool (.k true)))
      · split at h
        · exact lY hno (ye h hr hb hgo)
        · split at h
          · exact lY hno (xi h hr hb hpn hgo)
          · exact lY hno (uA h hr hb hgo)
    · rename_i hg
      rw[pk hr.tm hg,if_neg Bool.false_ne_true]
      exact⟨λ_ _=>trivial,hgo _ _ _ _ _ _ (by rw[aF]) (hb.put _ _) h (hr.put _ _)⟩
    · rename_i c want hg
      rw[pA hr.tm hg]
      obtain⟨S',h1,h2,h5⟩:=kv h hr
      have hw:(if want then c else Sb.not c).den e=(c.den e==want):=by
        cases want<;>simp[Sb.den]
      rw[hw] at h5
      rcases h5 with⟨h5,h6⟩ | ⟨h5,h6⟩
      · rw[h5,if_pos rfl]
        split at h6
        · exact lY hno (xi h6 h1 (hb.sim h2) hpn (h2.1▸hgo))
        · exact lY hno (uA h6 h1 (hb.sim h2) (h2.1▸hgo))
      · rw[h5,if_neg Bool.false_ne_true]
        exact⟨λ_ _=>trivial,hgo _ _ _ _ _ _ (by rw[aF,h2.1]) ((hb.sim h2).put _ _) h6 (h1.put _ _)⟩
    · exact h.elim
def Xt.toExit:Xt->Exit
  | .normal=>.normal
  | .ret=>.ret
  | .exit i=>.exit i
def XOk(X:List (Nat × Obj)):Prop:=X = []\/∃D,X = [(D,.deferred (some []))]
def ri(Df:List Deferred)(P:Program)(W0:World)(M:Nat->Prop)(R:Ending->World->Prop)(L:List (List Dat->Hp->Prop))(B:ir)(X:List (Nat × Obj))(n:Nat)(K:Xt->St->VC)(Q:Exit->Act->World->Prop):Prop :=
  ∀(x:Xt) (S:St) (ρ:Nat->Nat) (e:Env) (H:Hp) (L':List (List Dat->Hp->Prop)) (X':List (Nat × Obj)) (a:Act) (W:World),(X'=X\/(n≠0/\XOk X'))->(∃pre,L'=pre++L)->L'.length=S.dp->Agr B S ρ e->(K x S).den P W0 M R ρ e H L'->Rel Df W0 M S ρ e X' H a W->Q x.toExit a W
theorem ri.more{L L':List (List Dat->Hp->Prop)}{B:ir}{X:List (Nat × Obj)}{n:Nat}{K:Xt->St->VC}{Q:Exit->Act->World->Prop}(h:ri Df P W0 M R L B X n K Q)(hp:∃pre,L'=pre++L):ri Df P W0 M R L' B X n K Q:=by
  obtain⟨pre,rfl⟩:=hp
  intro x S ρ e H L2 X' a W hx ⟨pre2,hp2⟩ hl hb hd hr
  exact h x S ρ e H L2 X' a W hx ⟨pre2++pre,by rw[hp2,List.append_assoc]⟩ hl hb hd hr
theorem wc{F:Fence}{n₀:Nat}{c:Code}{Q:Exit->Act->World->Prop}{a:Act}{w:World}(I:Nat->Act->World->Prop)(h₀:∃n,I n a w)
    (round:∀n a w,I n a w->c.wpIn F n₀ P (Exit.then (λa' w'=>∃m,m<n/\I m a' w') Q) a w):(Code.loop c).wpIn F n₀ P Q a w:=by
  have least:∀(p:Nat->Prop),(∃n,p n)->∃n,p n/\∀m,p m->n<=m:=by
    intro p ⟨n,hn⟩
    induction n using Nat.strongRecOn with
    | _ n ih =>
      by_cases h:∃m,m<n/\p m
      · obtain⟨m,hm,hp⟩:=h
        exact ih m hm hp
      · exact⟨n,hn,λm hm=>by
          rcases Nat.lt_or_ge m n with h1 | h1
          · exact (h ⟨m,h1,hm⟩).elim
          · exact h1⟩
  have hμ:∀(a:Act) (w:World),∃n,(∃n,I n a w)->(I n a w/\∀m,I m a w->n<=m):=λa w=>by
    by_cases h:∃n,I n a w
    · obtain⟨n,hn⟩:=least (λn=>I n a w) h
      exact⟨n,λ_=>hn⟩
    · exact⟨0,λh'=>(h h').elim⟩
  refine wpIn_loop (λa w=>∃n,I n a w) (λa w=>Classical.choose (hμ a w)) h₀ (λa w hI=>?_)
  have h1:=Classical.choose_spec (hμ a w) hI
  refine wpIn_mono (round _ a w h1.1) (λx a' w' hq=>?_)
  cases x with
  | normal =>
    obtain⟨m,hm,hI'⟩:=hq
    refine⟨⟨m,hI'⟩,?_⟩
    have h2:=Classical.choose_spec (hμ a' w') ⟨m,hI'⟩
    exact Nat.lt_of_le_of_lt (h2.2 m hI') hm
  | _=>exact hq
end
end
section
variable{Df:List Deferred}
def np(P:Program)(f:Operand->Value)(o:Oper)(W:World)(post:Value->World->Prop):Prop :=
  match (execOp f o).run P W with
  | .ok (.value v) W'=>post v W'
  | .ok .skip W'=>post Go.undef W'
  | .ok (.enter g args) W'=>Calls P g args W' λx W''=>∃v,x=.returned v/\post v W''
  | _=>False
theorem np.wp{P:Program}{o:Oper}{a:Act}{W:World}{post:Value->World->Prop}{next:Act->World->Prop}{Q:Exit->Act->World->Prop}(h:np P a.eval o W post)
    (hn:∀v W',post v W'->next (a.put o.dst v) W'):o.wp P a W next Q:=by
  unfold np at h
  unfold Oper.wp
  generalize (execOp a.eval o).run P W=r at *
  split at h
  · exact hn _ _ h
  · exact hn _ _ h
  · refine h.mono λx W'' hx=>?_
    obtain⟨v,rfl,hp⟩:=hx
    exact hn _ _ hp
  · exact h.elim
theorem gy{P:Program}{f:Operand->Value}{o:Oper}{W W':World}{post:Value->World->Prop}{v:Value}(h:(execOp f o).run P W=.ok (.value v) W')(hp:post v W'):np P f o W post:=by
  unfold np
  rw[h]
  exact hp
section
variable(P:Program)(hi:dq)(rid ix:Nat)(S:St)(o:Oper)
def j7(ρ:Nat->Nat)(H:Hp)(b:Nat):Prop:=match step P S o with
  | .sto k _ _=>ρ k=b
  | .call f as _=>match hi.mods.lookup f with
    | some ixs=>(∃k∈m5 as ixs,ρ k=b)\/(hi.turns.contains f=true/\∃q,H b=some q)
    | none=>hi.turns.contains f=true/\∃q,H b=some q
  | .esc _ _ ty turns=>(ty=none\/(turns&&!(hi.keeps.contains (rid,ix)))=true)/\∃q,H b=some q
  | _=>False
def turned:Prop:=match step P S o with
  | .call f _ _=>hi.turns.contains f=true
  | .esc _ _ ty turns=>ty=none\/(turns&&!(hi.keeps.contains (rid,ix)))=true
  | _=>False
end
structure Aft(Df:List Deferred)(P:Program)(W0:World)(M:Nat->Prop)(R:Ending->World->Prop)(X:List (Nat × Obj))(L:List (List Dat->Hp->Prop))(S:St)(ρ:Nat->Nat)(e:Env)(H:Hp)(W:World)
    (K:St->VC) (dst:Option Nat) (ac:Act) (tch:Nat->Prop) (trn:Prop) (v:Value) (W':World) (S':St) (ρ':Nat->Nat) (e':Env) (H':Hp):Prop where
  dp:S'.dp=S.dp
  agr:Agr ⟨S.nv,S.h.length,ρ,e⟩ S' ρ' e'
  den:(K S').den P W0 M R ρ' e' H' L
  rel:Rel Df W0 M S' ρ' e' X H' (ac.put dst v) W'
  ll:S'.ll=S.ll
  tm:∀t:Nat,dst≠some t->S'.tm[t]?=S.tm[t]?
  kn:∀(k:Nat) (o:ay),S.h[k]?=some (some o)->∃o':ay,S'.h[k]?=some (some o')
  hle:¬trn->H.le H'
  keep:∀(b:Nat) (o:Obj),W.heap[b]?=some o->¬tch b->W'.heap[b]?=some o
section
variable{P:Program}{W0:World}{M:Nat->Prop}{R:Ending->World->Prop}{hi:dq}{S:St}{ρ:Nat->Nat}{e:Env}{X:List (Nat × Obj)}{H:Hp}{L:List (List Dat->Hp->Prop)}{a:Act}{W:World}
theorem bY(S:St)(d:Option Nat)(v:SV):(S.put d v).ll=S.ll:=by cases d<;>rfl
theorem eb(S:St)(d:Option Nat)(v:SV):(S.put d v).h=S.h:=by cases d<;>rfl
theorem bZ(S:St)(d:Option Nat)(v:SV)(t:Nat)(h:d≠some t):(S.put d v).tm[t]?=S.tm[t]?:=by
  cases d with
  | none=>rfl
  | some k=>simp only[St.put];rw[List.getElem?_set_ne (λhk=>h (by rw[hk]))]
theorem Agr.self(S:St)(ρ:Nat->Nat)(e:Env):Agr ⟨S.nv,S.h.length,ρ,e⟩ S ρ e:=⟨Nat.le_refl _,Nat.le_refl _,λ_ _=>rfl,λ_ _=>rfl⟩
theorem Agr.trans{B:ir}{S S':St}{ρ ρ':Nat->Nat}{e e':Env}(h:Agr B S ρ e)(k:Agr ⟨S.nv,S.h.length,ρ,e⟩ S' ρ' e'):Agr B S' ρ' e' :=
  ⟨Nat.le_trans h.n k.n,Nat.le_trans h.m k.m,λi hi=>(k.e i (Nat.lt_of_lt_of_le hi h.n)).trans (h.e i hi),λi hi=>(k.r i (Nat.lt_of_lt_of_le hi h.m)).trans (h.r i hi)⟩
theorem iV:∀(l:List (Nat × ay)) (S:St),(bN S l).ll=S.ll
  | [],_=>rfl
  | (k,q)::r,S=>iV r (S.setObj k q)
theorem gV:∀(l:List (Nat × ay)) (S:St) {j:Nat} {o:ay},S.h[j]?=some (some o)->∃o',(bN S l).h[j]?=some (some o')
  | [],_,_,o,h=>⟨o,h⟩
  | (k,q)::r,S,j,o,h=>by
    rw[bN]
    by_cases hk:k=j
    · subst hk
      refine gV r (S.setObj k q) (o:=q) ?_
      simp only[St.setObj]
      rw[List.getElem?_set,if_pos rfl,if_pos (gJ h)]
    · refine gV r (S.setObj k q) (o:=o) ?_
      simp only[St.setObj]
      rw[List.getElem?_set,if_neg hk];exact h
theorem ik:∀{ks:List Nat} {nv:Nat} {l:List (Nat × ay)} {f:List (Nat × Pk)} {n:Nat},ex P S nv ks=some (l,f,n)->∀p∈l,p.1∈ks
  | [],nv,l,f,n,h,p,hp=>by
    simp only[ex,Option.some.injEq,Prod.mk.injEq] at h
    obtain⟨rfl,_⟩:=h
    simp at hp
  | k::r,nv,l,f,n,h,p,hp=>by
    simp only[ex] at h
    split at h
    · cases h
    · rename_i ob hob
      split at h
      · rename_i l' f' n' hh
        simp only[Option.some.injEq,Prod.mk.injEq] at h
        obtain⟨rfl,_⟩:=h
        rcases List.mem_cons.1 hp with rfl | hp
        · exact List.mem_cons_self ..
        · exact List.mem_cons_of_mem _ (ik hh p hp)
      · cases h
theorem kb(hr:Rel Df W0 M S ρ e X H a W){W':World}{cls:CC}{K:Hp->Prop}(hm:∀l,cls=.mods l\/cls=.both l->∀p∈l,∃o,S.h[p.1]?=some (some o))(h:cls.post W0 M ρ e H W W' K) :
    ∃H',Rel Df W0 M (match cls with | .mods l=>bN S l | .both l=>bN S l | _=>S) ρ e X H' a W'/\K H'/\((match cls with | .turn=>False | .both _=>False | _=>True)->H.le H') /\
      (∀b o,W.heap[b]?=some o->¬(match cls with | .mods l=>∃p∈l,ρ p.1=b | .both l=>(∃p∈l,ρ p.1=b)\/∃q,H b=some q | .turn=>∃q,H b=some q | _=>False)->W'.heap[b]?=some o):=by
  cases cls with
  | same =>
    refine⟨H,hr.ext h.1,h.2,λ_=>Hp.le_refl H,λb o hb _=>?_⟩
    rw[h.1.block b (ag hb),hb]
  | fresh =>
    obtain⟨hx,D,hD,hfresh,hk⟩:=h
    have hsep:∀b o,D b=some o->H b=none:=λb o hb=>by
      cases hh:H b with
      | none=>rfl
      | some q=>have:=ag (hr.mem.sub b q hh);have:=hfresh b o hb;omega
    have h1:H.le (λb=>(H b).orElse λ_=>D b):=λb o hb=>by simp[hb]
    have h2:D.le (λb=>(H b).orElse λ_=>D b):=λb o hb=>by simp[hsep b o hb,hb]
    refine⟨_,(hr.ext hx).hold (λb o hb=>?_) (λb o hb=>?_),hk _ h1 h2,λ_=>h1,λb o hb _=>?_⟩
    · cases hh:H b with
      | none=>simp only[hh,Option.orElse_none] at hb;exact hD b o hb
      | some q=>simp only[hh,Option.orElse_some] at hb;rw[<- hb];exact (hr.ext hx).mem.sub b q hh
    · cases hh:H b with
      | none =>
        simp only[hh,Option.orElse_none] at hb
        have hge:=hfresh b o hb
        refine .inr ⟨λk ob hk he=>?_,λp hp he=>?_⟩
        · have:=ag (hr.mem.kn k ob hk);omega
        · have:=ag (hr.mem.xk p hp);omega
      | some q=>exact .inl ⟨q,rfl⟩
    · rw[hx.block b (ag hb),hb]
  | mods l =>
    obtain⟨h1,h2,h3⟩:=h
    rw[nw] at h1
    replace h2:=mD h2
    refine⟨H,hr.mods (hm l (.inl rfl)) h1 h2,h3,λ_=>Hp.le_refl H,λb o hb hn=>?_⟩
    rw[h1.blk b (ag hb) hn,hb]
  | both l =>
    obtain⟨Wm,H',h1,h2,h3,h4⟩:=h
    rw[nw] at h1
    replace h2:=mD h2
    refine⟨H',(hr.mods (hm l (.inr rfl)) h1 h2).turn h3,h4,λhn=>hn.elim,λb o hb hn=>?_⟩
    have e1:=h1.blk b (ag hb) (λhh=>hn (.inl hh))
    have hb2:Wm.heap[b]?=some o:=by rw[e1,hb]
    rw[h3.mod.blk b (ag hb2) (λhh=>hn (.inr hh.1)),hb2]
  | turn =>
    obtain⟨H',h1,h2⟩:=h
    refine⟨H',hr.turn h1,h2,λhn=>hn.elim,λb o hb hn=>?_⟩
    rw[h1.mod.blk b (ag hb) (λhh=>hn hh.1),hb]
theorem lL(hr:Rel Df W0 M S ρ e X H a W){W':World}{b c:Bool}{K:Hp->Prop}(h:(if b=true then CC.turn else if c=true then CC.fresh else CC.same).post W0 M ρ e H W W' K) :
    ∃H',Rel Df W0 M S ρ e X H' a W'/\K H'/\(¬b=true->H.le H')/\(∀n o,W.heap[n]?=some o->¬(b=true/\∃q,H n=some q)->W'.heap[n]?=some o):=by
  obtain⟨H',h1,h2,h3,h4⟩:=kb hr (cls:=if b=true then CC.turn else if c=true then CC.fresh else CC.same) (λl hl=>(hl.elim (j9 b c l).1 (j9 b c l).2).elim) h
  cases b with
  | true=>exact⟨H',h1,h2,λhn=>(hn rfl).elim,λn o hn hq=>h4 n o hn (λhh=>hq ⟨rfl,hh⟩)⟩
  | false =>
    cases c with
    | true=>exact⟨H',h1,h2,λ_=>h3 (by simp),λn o hn _=>h4 n o hn (λhh=>hh)⟩
    | false=>exact⟨H',h1,h2,λ_=>h3 (by simp),λn o hn _=>h4 n o hn (λhh=>hh)⟩
theorem v6{rid ix:Nat}{o:Oper}{K:St->VC}(h:(dg P hi rid ix S o K).den P W0 M R ρ e H L)(hr:Rel Df W0 M S ρ e X H a W) :
    np P a.eval o W λv W'=>∃S' ρ' e' H',Aft Df P W0 M R X L S ρ e H W K o.dst a (j7 P hi rid ix S o ρ H) (turned P hi rid ix S o) v W' S' ρ' e' H':=by
  have hs:=hU (P:=P) (W:=W) (o:=o) hr.toT
  have hb:=Agr.self S ρ e
  unfold dg at h
  unfold j7 turned
  split at h
  · rename_i cs v hst
    rw[hst] at hs
    obtain⟨S',h1,h2,h5,h6⟩:=gE h hr
    refine gy (hs h5) ⟨_,_,_,_,by rw[aF,h2.1],(hb.sim h2).put _ _,h6,h1.put _ _,by rw[bY,h2.2.2.2.2],λt ht=>by rw[bZ _ _ _ _ ht,h2.2.1],λk ob hk=>⟨ob,by rw[eb,h2.2.2.1];exact hk⟩,λ_=>Hp.le_refl H,λ_ _ hb' _=>hb'⟩
  · rename_i cs t len hst
    rw[hst] at hs
    split at h
    · rename_i hf
      simp only[Bool.and_eq_true] at hf
      have hk':=h W.heap.size
      have hr':=(hr.alloc hf.1 hf.2 t)
      have hup:upd ρ S.h.length W.heap.size S.h.length=W.heap.size:=by unfold upd;rw[if_pos rfl]
      refine gy hs ⟨_,_,_,_,by rw[aF],Agr.put (S:={ S with h:=S.h ++ [some { cs:=cs,ty:=t }] }) ⟨hb.n,by simp,hb.e,λk hk=>(by unfold upd;rw[if_neg (by simp only at hk;omega)])⟩ _ _,hk',?_,by rw[bY],λt ht=>by rw[bZ _ _ _ _ ht],λk ob hk=>⟨ob,by rw[eb];simp only;rw[List.getElem?_append_left (gJ hk)];exact hk⟩,λ_=>Hp.le_refl H,λb ob hb' _=>?_⟩
      · cases len with
        | none =>
          have:=hr'.put o.dst (.ptrK S.h.length 0)
          simp only[SV.den,hup] at this
          exact this
        | some n =>
          have:=hr'.put o.dst (.slK S.h.length 0 n n)
          simp only[SV.den,hup] at this
          exact this
      · rw[Below.heap_alloc _ _ _ (ag hb'),hb']
    · exact h.elim
  · rename_i k off cs hst
    rw[hst] at hs
    split at h
    · rename_i ob hob
      obtain⟨k1,k2⟩:=qb hr hob
      obtain⟨_,hrun⟩:=hs ob k1 k2
      have hr':=(hr.store k1 (bW ob.cs off cs)).put o.dst .undef
      unfold np
      rw[hrun]
      refine⟨_,_,_,_,by rw[aF];rfl,Agr.put (S:=S.setObj k { ob with cs:=bW ob.cs off cs }) ⟨hb.n,by simp[St.setObj],hb.e,hb.r⟩ _ _,h,hr',by rw[bY];rfl,λt ht=>by rw[bZ _ _ _ _ ht];rfl,λj oj hj=>?_,λ_=>Hp.le_refl H,λb o' hb' hn=>?_⟩
      · rw[eb]
        simp only[St.setObj]
        by_cases hjk:k=j
        · exact⟨_,by rw[List.getElem?_set,if_pos hjk,if_pos (gJ k1)]⟩
        · exact⟨oj,by rw[List.getElem?_set,if_neg hjk];exact hj⟩
      · simp only[hst] at hn
        rw[setRow_other _ _ _ _ (λhh=>hn hh.symm)];exact hb'
    · exact h.elim
  · rename_i i off t kn hst
    rw[hst] at hs
    split at h
    · rename_i j
      split at h
      · rename_i ob hob
        split at h
        · rename_i v hv
          obtain⟨k1,k2⟩:=qb hr hob
          exact gy (hs ob v k1 k2 hv) ⟨_,_,_,_,by rw[aF],hb.put _ _,h,hr.put _ _,by rw[bY],λt ht=>by rw[bZ _ _ _ _ ht],λk ob hk=>⟨ob,by rw[eb];exact hk⟩,λ_=>Hp.le_refl H,λ_ _ hb' _=>hb'⟩
        · exact h.elim
      · exact h.elim
    · split at h
      · exact h.elim
      · rename_i zs hz
        dsimp only at h
        split at h
        · exact h.elim
        · rename_i hff
          simp only[Bool.not_eq_true,Bool.not_eq_false',Bool.and_eq_true,decide_eq_true_eq] at hff
          have hpl:∀(l:List Pt) (n:Nat),(mkP n l).1.length=l.length:=by
            intro l
            induction l with
            | nil=>intro n;rfl
            | cons p r ih=>intro n;cases p<;>simp[mkP,ih]
          have hlen:(mkP S.nv (zs.map ja)).1.length=zs.length:=by rw[hpl];simp
          split at h
          · rename_i hagg
            obtain⟨e',hu,hrow,hd⟩:=bR h
            have hold:=hu.old hff.1.2
            have hr':=(hr.congr hff.1.1 hold (λ_ _=>rfl)).next (mkP S.nv (zs.map ja)).2.2
            exact gy (hs zs _ hz (by rw[bA,hlen]) (hrow.mono hr.mem.sub) (.agg (SV.dens ρ e' (mkP S.nv (zs.map ja)).1).toArray) (by rw[if_pos hagg])) ⟨_,_,_,_,by rw[aF],(hb.next hff.2 hold).put _ _,hd,hr'.put o.dst (.agg (mkP S.nv (zs.map ja)).1),by rw[bY],λt ht=>by rw[bZ _ _ _ _ ht],λk ob hk=>⟨ob,by rw[eb];exact hk⟩,λ_=>Hp.le_refl H,λ_ _ hb' _=>hb'⟩
          · rename_i hagg
            split at h
            · rename_i v hq
              obtain⟨e',hu,hrow,hd⟩:=bR h
              have hold:=hu.old hff.1.2
              have hr':=(hr.congr hff.1.1 hold (λ_ _=>rfl)).next (mkP S.nv (zs.map ja)).2.2
              have hl1:zs.length=1:=by rw[<- hlen,hq];rfl
              exact gy (hs zs _ hz (by rw[bA];simp[hl1]) (hrow.mono hr.mem.sub) (v.den ρ e') (by rw[if_neg hagg];rfl)) ⟨_,_,_,_,by rw[aF],(hb.next hff.2 hold).put _ _,hd,hr'.put o.dst v,by rw[bY],λt ht=>by rw[bZ _ _ _ _ ht],λk ob hk=>⟨ob,by rw[eb];exact hk⟩,λ_=>Hp.le_refl H,λ_ _ hb' _=>hb'⟩
            · exact h.elim
  · rename_i x vs hst
    rw[hst] at hs
    obtain⟨hp,hc⟩:=h
    have hc':=hc hp
    simp only[Sb.prop,Sx.den] at hp
    have hlt:(x.den e).toNat<vs.length:=by omega
    obtain⟨v,hv⟩:∃v,vs[(x.den e).toNat]?=some v:=⟨_,List.getElem?_eq_getElem hlt⟩
    obtain⟨S',h1,h2,h3⟩:=kj hc' hr hv (by simp;omega)
    exact gy (hs _ v (by omega) hv) ⟨_,_,_,_,by rw[aF,h2.1],(hb.sim h2).put _ _,h3,h1.put _ _,by rw[bY,h2.2.2.2.2],λt ht=>by rw[bZ _ _ _ _ ht,h2.2.1],λk ob hk=>⟨ob,by rw[eb,h2.2.2.1];exact hk⟩,λ_=>Hp.le_refl H,λ_ _ hb' _=>hb'⟩
  · rename_i f as ty hst
    rw[hst] at hs
    split at h
    · exact h.elim
    · rename_i pat fr nv hpat
      split at h
      · exact h.elim
      · rename_i hff
        simp only[Bool.not_eq_true,Bool.not_eq_false',Bool.and_eq_true,decide_eq_true_eq] at hff
        unfold np
        rw[hs]
        split at h
        · rename_i ixs hix
          split at h
          · rename_i l fr2 nv2 hnc
            split at h
            · exact h.elim
            · rename_i hf2
              simp only[Bool.not_eq_true,Bool.not_eq_false',Bool.and_eq_true,decide_eq_true_eq] at hf2
              refine (h W hr.now (fY hr (bO S as))).mono λx W' hx=>?_
              obtain⟨e',hu,rfl,hpost⟩:=bR hx
              have hold:=hu.old (jc hff.1.2 hf2.1)
              have hr':=(hr.congr hff.1.1 hold (λ_ _=>rfl)).next nv2
              have hin:∀p∈l,∃o,({ S with nv:=nv2 }:St).h[p.1]?=some (some o):=λp hp=>ij hnc p hp
              cases hto:hi.turns.contains f with
              | true =>
                rw[hto,if_pos rfl] at hpost
                obtain⟨H',hr2,hd,hle,hkeep⟩:=kb hr' (cls:=.both l) (λl' hl' p hp=>by rcases hl' with hl' | hl'<;>cases hl';exact hin p hp) hpost
                refine⟨_,rfl,_,_,_,_,by rw[aF];exact (aM l _).2.2.2,((hb.next hf2.2 hold).objs l).put _ _,hd,hr2.put _ _,by rw[bY,iV],λt ht=>by rw[bZ _ _ _ _ ht,(aM l _).1],λk ob hk=>by rw[eb];exact gV l { S with nv:=nv2 } hk,λhn=>(hn (by simp only[turned,hst];exact hto)).elim,λb o' hb' hn=>hkeep b o' hb' (λhh=>hn ?_)⟩
                simp only[j7,hst,hix]
                rcases hh with⟨p,hp,he⟩ | hh
                · exact .inl ⟨p.1,ik hnc p hp,he⟩
                · exact .inr ⟨hto,hh⟩
              | false =>
              rw[hto,if_neg Bool.false_ne_true] at hpost
              obtain⟨H',hr2,hd,hle,hkeep⟩:=kb hr' (cls:=.mods l) (λl' hl' p hp=>by rcases hl' with hl' | hl'<;>cases hl';exact hin p hp) hpost
              refine⟨_,rfl,_,_,_,_,by rw[aF];exact (aM l _).2.2.2,((hb.next hf2.2 hold).objs l).put _ _,hd,hr2.put _ _,by rw[bY,iV],λt ht=>by rw[bZ _ _ _ _ ht,(aM l _).1],λk ob hk=>by rw[eb];exact gV l { S with nv:=nv2 } hk,λ_=>hle (by simp),λb o' hb' hn=>hkeep b o' hb' (λ⟨p,hp,he⟩=>hn ?_)⟩
              simp only[j7,hst,hix]
              exact .inl ⟨p.1,ik hnc p hp,he⟩
          · exact h.elim
        · rename_i hix
          refine (h W hr.now (fY hr (bO S as))).mono λx W' hx=>?_
          obtain⟨e',hu,rfl,hpost⟩:=bR hx
          have hold:=hu.old hff.1.2
          have hr':=(hr.congr hff.1.1 hold (λ_ _=>rfl)).next nv
          obtain⟨H',hr2,hd,hle,hkeep⟩:=lL hr' hpost
          refine⟨_,rfl,_,_,_,_,by rw[aF],(hb.next hff.2 hold).put _ _,hd,hr2.put _ _,by rw[bY],λt ht=>by rw[bZ _ _ _ _ ht],λk ob hk=>⟨ob,by rw[eb];exact hk⟩,λhn=>hle (λhh=>hn ?_),λb o' hb' hn=>hkeep b o' hb' (λhh=>hn ?_)⟩
          · simp only[hst];exact hh
          · simp only[hst,hix];exact hh
  · rename_i q as ty turns hst
    rw[hst] at hs
    split at h
    · obtain⟨W',hrun,hpost⟩:=h W hr.now (fY hr (bO S as))
      obtain⟨H',hr2,hd,hle,hkeep⟩:=kb hr (cls:=.turn) (λl' hl'=>by rcases hl' with hl' | hl'<;>cases hl') hpost
      unfold np
      rw[hs,hrun]
      refine⟨_,_,_,_,by rw[aF],hb.put _ _,hd,hr2.put _ _,by rw[bY],λt ht=>by rw[bZ _ _ _ _ ht],λk ob hk=>⟨ob,by rw[eb];exact hk⟩,λhn=>(hn ?_).elim,λb o' hb' hn=>hkeep b o' hb' (λhh=>hn ?_)⟩
      · simp[hst]
      · simp only[hst];exact⟨.inl trivial,hh⟩
    · rename_i ty'
      split at h
      · exact h.elim
      · rename_i pat fr nv hpat
        split at h
        · exact h.elim
        · rename_i hff
          simp only[Bool.not_eq_true,Bool.not_eq_false',Bool.and_eq_true,decide_eq_true_eq] at hff
          obtain⟨e',hu,W',hrun,hpost⟩:=bR (h W hr.now (fY hr (bO S as)))
          have hold:=hu.old hff.1.2
          have hr':=(hr.congr hff.1.1 hold (λ_ _=>rfl)).next nv
          obtain⟨H',hr2,hd,hle,hkeep⟩:=lL hr' hpost
          unfold np
          rw[hs,hrun]
          refine⟨_,_,_,_,by rw[aF],(hb.next hff.2 hold).put _ _,hd,hr2.put _ _,by rw[bY],λt ht=>by rw[bZ _ _ _ _ ht],λk ob hk=>⟨ob,by rw[eb];exact hk⟩,λhn=>hle (λhh=>hn ?_),λb o' hb' hn=>hkeep b o' hb' (λhh=>hn ?_)⟩
          · simp only[hst];exact .inr hh
          · simp only[hst];exact⟨.inr hh.1,hh.2⟩
  · exact h.elim
end
def lW(P:Program)(f:Operand->Value)(o:Oper)(W:World)(post:Value->World->Prop)(pq:List PanicEntry->World->Prop):Prop :=
  match (execOp f o).run P W with
  | .ok (.enter g args) W'=>Calls P g args W' λx W''=>(∃v,x=.returned v/\post v W'')\/∃ps,x=.panicked ps/\pq ps W''
  | _=>False
theorem lW.wp{P:Program}{o:Oper}{a:Act}{W:World}{post:Value->World->Prop}{pq:List PanicEntry->World->Prop}{next:Act->World->Prop}{Q:Exit->Act->World->Prop}(h:lW P a.eval o W post pq)
    (hn:∀v W',post v W'->next (a.put o.dst v) W') (hq:∀ps W',pq ps W'->Q (.panic ps) a W'):o.wp P a W next Q:=by
  unfold lW at h
  unfold Oper.wp
  generalize (execOp a.eval o).run P W=r at *
  split at h
  · refine h.mono λx W'' hx=>?_
    rcases hx with⟨v,rfl,hp⟩ | ⟨ps,rfl,hp⟩
    · exact hn _ _ hp
    · exact hq _ _ hp
  · exact h.elim
section
variable{P:Program}{W0:World}{M:Nat->Prop}{R:Ending->World->Prop}{hi:dq}{S:St}{ρ:Nat->Nat}{e:Env}{X:List (Nat × Obj)}{H:Hp}{L:List (List Dat->Hp->Prop)}{a:Act}{W:World}
theorem yK{rid ix:Nat}{o:Oper}{K:St->VC}(hcall:∃f as ty,step P S o=.call f as ty)(h:(ry P hi S o K).den P W0 M R ρ e H L)(hr:Rel Df W0 M S ρ e X H a W) :
    (hi.pn=true/\∀p∈hi.res,a.tmps[p.1]?=some (.pointer (some ⟨ρ p.2.1,0,none⟩)))/\lW P a.eval o W (λv W'=>∃S' ρ' e' H',Aft Df P W0 M R X L S ρ e H W K o.dst a (j7 P hi rid ix S o ρ H) (turned P hi rid ix S o) v W' S' ρ' e' H')
      (λps W'=>Dr P R (dfR ρ hi.df) (rcR ρ (hi.res.map (·.2))) (.panicking ps) W'):=by
  have hs:=hU (P:=P) (W:=W) (o:=o) hr.toT
  have hb:=Agr.self S ρ e
  unfold ry at h
  unfold j7 turned
  split at h
  · exact h.elim
  rename_i hres
  simp only[Bool.not_eq_true,Bool.not_eq_false'] at hres
  refine⟨mA hr.tm hres,?_⟩
  split at h
  · rename_i x hop
    obtain⟨f,as,ty,hc⟩:=hcall
    exfalso
    unfold step at hc
    rw[hop] at hc
    cases hc
  split at h
  · skip
    rename_i f as ty hst
    rw[hst] at hs
    split at h
    · exact h.elim
    · rename_i pat fr nv hpat
      split at h
      · exact h.elim
      · rename_i hff
        simp only[Bool.not_eq_true,Bool.not_eq_false',Bool.and_eq_true,decide_eq_true_eq] at hff
        unfold lW
        rw[hs]
        split at h
        · rename_i ixs hix
          split at h
          · rename_i l fr2 nv2 hnc
            split at h
            · exact h.elim
            · rename_i hf2
              simp only[Bool.not_eq_true,Bool.not_eq_false',Bool.and_eq_true,decide_eq_true_eq] at hf2
              refine (h W hr.now (fY hr (bO S _))).mono λx W' hx=>?_
              rcases hx with hx | ⟨ps,rfl,hx⟩
              rotate_left
              · exact .inr ⟨ps,rfl,hx⟩
              refine .inl ?_
              obtain⟨e',hu,rfl,hpost⟩:=bR hx
              have hold:=hu.old (jc hff.1.2 hf2.1)
              have hr':=(hr.congr hff.1.1 hold (λ_ _=>rfl)).next nv2
              have hin:∀p∈l,∃o,({ S with nv:=nv2 }:St).h[p.1]?=some (some o):=λp hp=>ij hnc p hp
              cases hto:hi.turns.contains f with
              | true =>
                rw[hto,if_pos rfl] at hpost
                obtain⟨H',hr2,hd,hle,hkeep⟩:=kb hr' (cls:=.both l) (λl' hl' p hp=>by rcases hl' with hl' | hl'<;>cases hl';exact hin p hp) hpost
                refine⟨_,rfl,_,_,_,_,by rw[aF];exact (aM l _).2.2.2,((hb.next hf2.2 hold).objs l).put _ _,hd,hr2.put _ _,by rw[bY,iV],λt ht=>by rw[bZ _ _ _ _ ht,(aM l _).1],λk ob hk=>by rw[eb];exact gV l { S with nv:=nv2 } hk,λhn=>(hn (by simp only[turned,hst];exact hto)).elim,λb o' hb' hn=>hkeep b o' hb' (λhh=>hn ?_)⟩
                simp only[j7,hst,hix]
                rcases hh with⟨p,hp,he⟩ | hh
                · exact .inl ⟨p.1,ik hnc p hp,he⟩
                · exact .inr ⟨hto,hh⟩
              | false =>
              rw[hto,if_neg Bool.false_ne_true] at hpost
              obtain⟨H',hr2,hd,hle,hkeep⟩:=kb hr' (cls:=.mods l) (λl' hl' p hp=>by rcases hl' with hl' | hl'<;>cases hl';exact hin p hp) hpost
              refine⟨_,rfl,_,_,_,_,by rw[aF];exact (aM l _).2.2.2,((hb.next hf2.2 hold).objs l).put _ _,hd,hr2.put _ _,by rw[bY,iV],λt ht=>by rw[bZ _ _ _ _ ht,(aM l _).1],λk ob hk=>by rw[eb];exact gV l { S with nv:=nv2 } hk,λ_=>hle (by simp),λb o' hb' hn=>hkeep b o' hb' (λ⟨p,hp,he⟩=>hn ?_)⟩
              simp only[j7,hst,hix]
              exact .inl ⟨p.1,ik hnc p hp,he⟩
          · exact h.elim
        · rename_i hix
          refine (h W hr.now (fY hr (bO S _))).mono λx W' hx=>?_
          rcases hx with hx | ⟨ps,rfl,hx⟩
          rotate_left
          · exact .inr ⟨ps,rfl,hx⟩
          refine .inl ?_
          obtain⟨e',hu,rfl,hpost⟩:=bR hx
          have hold:=hu.old hff.1.2
          have hr':=(hr.congr hff.1.1 hold (λ_ _=>rfl)).next nv
          obtain⟨H',hr2,hd,hle,hkeep⟩:=lL hr' hpost
          refine⟨_,rfl,_,_,_,_,by rw[aF],(hb.next hff.2 hold).put _ _,hd,hr2.put _ _,by rw[bY],λt ht=>by rw[bZ _ _ _ _ ht],λk ob hk=>⟨ob,by rw[eb];exact hk⟩,λhn=>hle (λhh=>hn ?_),λb o' hb' hn=>hkeep b o' hb' (λhh=>hn ?_)⟩
          · simp only[hst];exact hh
          · simp only[hst,hix];exact hh
  · exact h.elim
end
end
section
variable{Df:List Deferred}
def holds(n:Option (Nat × Obj))(W:World):Prop:=match n with
  | none=>True
  | some (b,o)=>W.heap[b]?=some o
def pP(W0:World)(M:Nat->Prop)(S:St)(ρ:Nat->Nat)(H:Hp)(ix:Nat):Option (Nat × Obj)->Prop
  | none=>True
  | some (b,ob)=>(∃k,(ix,some k)∈S.ll/\b=ρ k/\∃o:ay,S.h[k]?=some (some o))\/((ix,none)∈S.ll/\H b=some ob)\/(b<W0.heap.size/\¬M b)
def jg(P:Program):R1->Bool
  | .val _ _ | .cas _ _ | .ld _ _ _ _=>true
  | .esc q as ty turns=>mb P q as&&ty.isSome&&!turns
  | _=>false
def qK(e:Env):List SV->Prop
  | [.str n,.int .i64 x]=>0<=x.den e/\x.den e<=((e n).str.size:Int)
  | [a,b]=>∃x y,jD a=some x/\jD b=some y/\x.den e<=8388608/\y.den e<=8388608
  | _=>False
theorem ue{ρ:Nat->Nat}{e:Env}{v:SV}{x:Sx}(h:jD v=some x):∃s:ByteArray,v.den ρ e=.string s/\x.den e=(s.size:Int):=by
  unfold jD at h
  split at h
  · simp only[Option.some.injEq] at h;subst h;exact⟨_,rfl,rfl⟩
  · simp only[Option.some.injEq] at h;subst h;exact⟨_,rfl,rfl⟩
  · cases h
theorem Dq{P:Program}{q:EK}{as:List SV}{ρ:Nat->Nat}{e:Env}(h:mb P q as=true)(hc:qK e as):∃v,∀W,(q.sem (SV.dens ρ e as)).run P W=.ok (.value v) W:=by
  unfold mb at h
  split at h
  · rename_i t n x
    split at h
    · rename_i ht
      refine⟨.string ((e n).str.extract (x.den e).toNat (e n).str.size),λW=>?_⟩
      have h1:=run_slice_string_from_if (P:=P) W t (e n).str .i64 (x.den e) ht
      rw[if_pos (show 0<=x.den e/\x.den e<=((e n).str.size:Int) from hc)] at h1
      simp[EK.sem,SV.dens,SV.den,Instr.sliceAt,run_underlying ht,h1]
    · cases h
  · rename_i t n x
    split at h
    · rename_i ht
      refine⟨.string ((e n).str.extract 0 (x.den e).toNat),λW=>?_⟩
      have h1:=run_slice_string_to_if (P:=P) W t (e n).str .i64 (x.den e) ht
      rw[if_pos (show 0<=x.den e/\x.den e<=((e n).str.size:Int) from hc)] at h1
      simp[EK.sem,SV.dens,SV.den,Instr.sliceAt,run_underlying ht,h1]
    · cases h
  · rename_i t x y a b
    simp only[Bool.and_eq_true,Option.isSome_iff_exists] at h
    obtain⟨⟨u,hu⟩,w,hw⟩:=h
    have hc2:∃x y,jD a=some x/\jD b=some y/\x.den e<=8388608/\y.den e<=8388608:=by
      unfold qK at hc
      split at hc
      · rename_i n z heq
        simp only[List.cons.injEq,and_true] at heq
        obtain⟨rfl,rfl⟩:=heq
        cases hw
      · rename_i a' b' _ heq
        simp only[List.cons.injEq,and_true] at heq
        obtain⟨rfl,rfl⟩:=heq
        exact hc
      · exact hc.elim
    obtain⟨u',w',h1,h2,h3,h4⟩:=hc2
    obtain⟨sa,d1,e1⟩:=ue (ρ:=ρ) (e:=e) h1
    obtain⟨sb,d2,e2⟩:=ue (ρ:=ρ) (e:=e) h2
    refine⟨.string (sa++sb),λW=>?_⟩
    have hrun:=run_string_add_sum (P:=P) W sa sb (by omega)
    simp only[EK.sem,SV.dens,d1,d2,eqGuard,List.getD_cons_zero,List.getD_cons_succ,binOp_string_add]
    simp[hrun]
  · cases h
theorem u9{P:Program}{W0:World}{M:Nat->Prop}{R:Ending->World->Prop}{ρ:Nat->Nat}{e:Env}{H:Hp}{L:List (List Dat->Hp->Prop)}{as:List SV}{r:VC}(h:(wm as r).den P W0 M R ρ e H L):qK e as/\r.den P W0 M R ρ e H L:=by
  unfold wm at h
  split at h
  · obtain⟨h1,h2⟩:=h
    obtain⟨h3,h4⟩:=h2 h1
    exact⟨⟨h1,h3⟩,h4 h3⟩
  · rename_i a b hne
    split at h
    · rename_i x y hx hy
      obtain⟨h1,h2⟩:=h
      obtain⟨h3,h4⟩:=h2 h1
      refine⟨?_,h4 h3⟩
      unfold qK
      split
      · rename_i n z heq
        simp only[List.cons.injEq,and_true] at heq
        exact (hne _ _ heq.1 heq.2).elim
      · rename_i a' b' _ heq
        simp only[List.cons.injEq,and_true] at heq
        obtain⟨rfl,rfl⟩:=heq
        exact⟨x,y,hx,hy,h1,h3⟩
      · rename_i hne2
        exact hne2 _ _ rfl
    · exact h.elim
  · exact h.elim
structure Pd where
  ix:Nat
  o:Oper
  v:Value
  need:Option (Nat × Obj)
structure Ah where
  ix:Nat
  o:Oper
  b:Nat
  obj:Obj
  vf:Nat->Value
  pr:Bool
def Ah.aft(x:Ah)(w:World):World:=if x.pr then w else w.alloc x.obj
def xob:List Ah->List (Nat × Obj)
  | [] => []
  | x::l=>if x.pr then xob l else (x.b,x.obj)::xob l
theorem iK:∀(l m:List Ah),xob (l++m)=xob l++xob m
  | [],_=>rfl
  | x::l,m=>by
    rw[List.cons_append,xob,xob,iK l m]
    split<;>rfl
theorem ug{x:Ah}(h:x.pr=false)(l:List Ah):xob (x::l)=(x.b,x.obj)::xob l:=by rw[xob,h];rfl
theorem tQ{x:Ah}(h:x.pr=true)(l:List Ah):xob (x::l)=xob l:=by rw[xob,h];rfl
def bj:List Pd->Act->Act
  | [],a=>a
  | d::D,a=>(bj D a).put d.o.dst d.v
section
variable{P:Program}{W0:World}{M:Nat->Prop}{R:Ending->World->Prop}{hi:dq}{S:St}{ρ:Nat->Nat}{e:Env}{X:List (Nat × Obj)}{H:Hp}{L:List (List Dat->Hp->Prop)}{a:Act}{W:World}
theorem uH{rid ix:Nat}{o:Oper}{K:St->VC}(hp:jg P (step P S o)=true)(h:(dg P hi rid ix S o K).den P W0 M R ρ e H L)(hr:Rel Df W0 M S ρ e X H a W)
    (hll:∀i off t kn,step P S o=.ld i off t kn->(ix,kn.map λ_=>i)∈S.ll\/(kn=none/\Ep W0 M (e i).ptr)) (hct:∀q as ty turns,step P S o=.esc q as ty turns->qK e as) :
    ∃v need S' ρ' e' H',(∀W',holds need W'->(execOp a.eval o).run P W'=.ok (.value v) W')/\holds need W/\pP W0 M S ρ H ix need/\Aft Df P W0 M R X L S ρ e H W K o.dst a (λ_=>False) False v W S' ρ' e' H':=by
  have hs:=λW'=>hU (P:=P) (W:=W') (o:=o) hr.toT
  have hb:=Agr.self S ρ e
  unfold dg at h
  split at h
  · rename_i cs v hst
    simp only[hst] at hs
    obtain⟨S',h1,h2,h5,h6⟩:=gE h hr
    exact⟨_,none,_,_,_,_,λW' _=>hs W' h5,trivial,trivial,⟨by rw[aF,h2.1],(hb.sim h2).put _ _,h6,h1.put _ _,by rw[bY,h2.2.2.2.2],λt ht=>by rw[bZ _ _ _ _ ht,h2.2.1],λk ob hk=>⟨ob,by rw[eb,h2.2.2.1];exact hk⟩,λ_=>Hp.le_refl H,λ_ _ hb' _=>hb'⟩⟩
  · rename_i cs t len hst;rw[hst] at hp;cases hp
  · rename_i k off cs hst;rw[hst] at hp;cases hp
  · rename_i i off t kn hst
    have hl:=hll _ _ _ _ hst
    simp only[hst] at hs
    split at h
    · rename_i j
      split at h
      · rename_i ob hob
        split at h
        · rename_i v hv
          obtain⟨k1,k2⟩:=qb hr hob
          exact⟨_,some (ρ i,ob.den ρ e),_,_,_,_,λW' hW'=>hs W' ob v k1 hW' hv,k2,.inl ⟨i,hl.resolve_right (λh=>by cases h.1),rfl,ob,k1⟩,⟨by rw[aF],hb.put _ _,h,hr.put _ _,by rw[bY],λt ht=>by rw[bZ _ _ _ _ ht],λk ob hk=>⟨ob,by rw[eb];exact hk⟩,λ_=>Hp.le_refl H,λ_ _ hb' _=>hb'⟩⟩
        · exact h.elim
      · exact h.elim
    · split at h
      · exact h.elim
      · rename_i zs hz
        dsimp only at h
        split at h
        · exact h.elim
        · rename_i hff
          simp only[Bool.not_eq_true,Bool.not_eq_false',Bool.and_eq_true,decide_eq_true_eq] at hff
          have hpl:∀(l:List Pt) (n:Nat),(mkP n l).1.length=l.length:=by
            intro l
            induction l with
            | nil=>intro n;rfl
            | cons p r ih=>intro n;cases p<;>simp[mkP,ih]
          have hlen:(mkP S.nv (zs.map ja)).1.length=zs.length:=by rw[hpl];simp
          split at h
          · rename_i hagg
            obtain⟨e',hu,⟨b,o',h1,C,T,fz,h2,h3⟩,hd⟩:=bR h
            have hold:=hu.old hff.1.2
            have hr':=(hr.congr hff.1.1 hold (λ_ _=>rfl)).next (mkP S.nv (zs.map ja)).2.2
            exact⟨_,some (b,.cells C T fz),_,_,_,_,λW' hW'=>hs W' zs _ hz (by rw[bA,hlen]) ⟨b,o',h1,C,T,fz,hW',h3⟩ (.agg (SV.dens ρ e' (mkP S.nv (zs.map ja)).1).toArray) (by rw[if_pos hagg]),hr.mem.sub _ _ h2,.inr (hl.imp (λhl=>⟨hl,h2⟩) λ⟨_,b',o'',hb',ho⟩=>by
                rw[h1] at hb'
                simp only[Option.some.injEq,Prod.mk.injEq,Blk.mk.injEq] at hb'
                rw[hb'.1.1];exact ho),⟨by rw[aF],(hb.next hff.2 hold).put _ _,hd,hr'.put o.dst (.agg (mkP S.nv (zs.map ja)).1),by rw[bY],λt ht=>by rw[bZ _ _ _ _ ht],λk ob hk=>⟨ob,by rw[eb];exact hk⟩,λ_=>Hp.le_refl H,λ_ _ hb' _=>hb'⟩⟩
          · rename_i hagg
            split at h
            · rename_i v hq
              obtain⟨e',hu,⟨b,o',h1,C,T,fz,h2,h3⟩,hd⟩:=bR h
              have hold:=hu.old hff.1.2
              have hr':=(hr.congr hff.1.1 hold (λ_ _=>rfl)).next (mkP S.nv (zs.map ja)).2.2
              have hl1:zs.length=1:=by rw[<- hlen,hq];rfl
              exact⟨_,some (b,.cells C T fz),_,_,_,_,λW' hW'=>hs W' zs _ hz (by rw[bA];simp[hl1]) ⟨b,o',h1,C,T,fz,hW',h3⟩ (v.den ρ e') (by rw[if_neg hagg];rfl),hr.mem.sub _ _ h2,.inr (hl.imp (λhl=>⟨hl,h2⟩) λ⟨_,b',o'',hb',ho⟩=>by
                rw[h1] at hb'
                simp only[Option.some.injEq,Prod.mk.injEq,Blk.mk.injEq] at hb'
                rw[hb'.1.1];exact ho),⟨by rw[aF],(hb.next hff.2 hold).put _ _,hd,hr'.put o.dst v,by rw[bY],λt ht=>by rw[bZ _ _ _ _ ht],λk ob hk=>⟨ob,by rw[eb];exact hk⟩,λ_=>Hp.le_refl H,λ_ _ hb' _=>hb'⟩⟩
            · exact h.elim
  · rename_i x vs hst
    simp only[hst] at hs
    obtain⟨hp,hc⟩:=h
    have hc':=hc hp
    simp only[Sb.prop,Sx.den] at hp
    have hlt:(x.den e).toNat<vs.length:=by omega
    obtain⟨v,hv⟩:∃v,vs[(x.den e).toNat]?=some v:=⟨_,List.getElem?_eq_getElem hlt⟩
    obtain⟨S',h1,h2,h3⟩:=kj hc' hr hv (by simp;omega)
    exact⟨_,none,_,_,_,_,λW' _=>hs W' _ v (by omega) hv,trivial,trivial,⟨by rw[aF,h2.1],(hb.sim h2).put _ _,h3,h1.put _ _,by rw[bY,h2.2.2.2.2],λt ht=>by rw[bZ _ _ _ _ ht,h2.2.1],λk ob hk=>⟨ob,by rw[eb,h2.2.2.1];exact hk⟩,λ_=>Hp.le_refl H,λ_ _ hb' _=>hb'⟩⟩
  · rename_i f as ty hst;rw[hst] at hp;cases hp
  · rename_i q as ty turns hst
    rw[hst] at hp
    simp only[jg,Bool.and_eq_true,Bool.not_eq_true'] at hp
    obtain⟨⟨hcut,hty⟩,htu⟩:=hp
    obtain⟨v0,hv0⟩:=Dq (ρ:=ρ) hcut (hct _ _ _ _ hst)
    simp only[hst] at hs
    split at h
    · cases hty
    · rename_i ty'
      split at h
      · exact h.elim
      · rename_i pat fr nv hpat
        split at h
        · exact h.elim
        · rename_i hff
          simp only[Bool.not_eq_true,Bool.not_eq_false',Bool.and_eq_true,decide_eq_true_eq] at hff
          obtain⟨e',hu,W',hrun,hpost⟩:=bR (h W hr.now (fY hr (bO S as)))
          have hold:=hu.old hff.1.2
          have hr':=(hr.congr hff.1.1 hold (λ_ _=>rfl)).next nv
          rw[hv0 W] at hrun
          simp only[Result.ok.injEq,Next.value.injEq] at hrun
          obtain⟨hvv,rfl⟩:=hrun
          obtain⟨H',hr2,hd,hle,hkeep⟩:=lL hr' hpost
          refine⟨v0,none,_,_,_,_,λW' _=>(hs W').trans (hv0 W'),trivial,trivial,⟨by rw[aF],(hb.next hff.2 hold).put _ _,hd,?_,by rw[bY],λt ht=>by rw[bZ _ _ _ _ ht],λk ob hk=>⟨ob,by rw[eb];exact hk⟩,λ_=>hle (by simp[htu]),λ_ _ hb' _=>hb'⟩⟩
          rw[hvv]
          exact hr2.put _ _
  · exact h.elim
theorem Rel.ahead(hr:Rel Df W0 M S ρ e X H a W){d:Option Nat}{v:Value}(hd:∀t,d=some t->∀u,S.tm[t]?≠some (some u))(obj:Obj)(hob:∀ds,obj≠.deferred ds):Rel Df W0 M S ρ e ((W.heap.size,obj)::X) H (a.put d v) (W.alloc obj):=by
  have hold:∀b,b<W.heap.size->(W.alloc obj).heap[b]?=W.heap[b]?:=λb hb=>Below.heap_alloc _ _ _ hb
  have hnew:(W.alloc obj).heap[W.heap.size]?=some obj:=by
    show (W.heap.push _)[W.heap.size]?=_
    simp
  refine⟨⟨?_,λt u ht=>?_⟩,?_,⟨λk o ho=>?_,hr.mem.inj,hr.mem.old,hr.mem.dis,λb o hb=>?_,?_,λp hp=>?_,λp hp=>?_,λp hp=>?_,λp hp k o ho=>?_⟩,hr.pc⟩
  · cases d<;>simp[Act.put,hr.tm.1]
  · cases d with
    | none=>exact hr.tm.2 t u ht
    | some t0 =>
      have hne:t0≠t:=λhh=>hd t0 rfl u (hh▸ht)
      simp only[Act.put]
      rw[Array.getElem?_setIfInBounds_ne hne]
      exact hr.tm.2 t u ht
  · have hdf:oJ ((W.heap.size,obj)::X)=oJ X:=by
      cases obj<;>first | rfl | exact absurd rfl (hob _)
    rw[hdf]
    cases d<;>exact hr.df
  · have:=hr.mem.kn k o ho
    rw[hold _ (ag this),this]
  · have h1:=hr.mem.sub b o hb
    have h2:=ag h1
    simp only[ak] at h1 |-
    rw[hold b h2,h1]
  · exact hr.mem.mod.trans (N:=λ_=>False) ⟨rfl,rfl,rfl,by simp,λb hb _=>hold b hb⟩ (λ_ _ h=>h.elim)
  · rcases List.mem_cons.1 hp with rfl | hp
    · exact hnew
    · have h1:=hr.mem.xk p hp
      rw[hold _ (ag h1),h1]
  · rcases List.mem_cons.1 hp with rfl | hp
    · exact .inl hr.mem.mod.size
    · exact hr.mem.xo p hp
  · rcases List.mem_cons.1 hp with rfl | hp
    · cases hh:H W.heap.size with
      | none=>rfl
      | some o=>have:=ag (hr.mem.sub _ _ hh);omega
    · exact hr.mem.xd p hp
  · rcases List.mem_cons.1 hp with rfl | hp
    · have:=ag (hr.mem.kn k o ho)
      show ρ k≠W.heap.size
      omega
    · exact hr.mem.xr p hp k o ho
theorem Rel.loose(hr:Rel Df W0 M S ρ e X H a W){d:Option Nat}{v:Value}(hd:∀t,d=some t->∀u,S.tm[t]?≠some (some u)):Rel Df W0 M S ρ e X H (a.put d v) W:=by
  refine⟨⟨?_,λt u ht=>?_⟩,?_,hr.mem,hr.pc⟩
  · cases d<;>simp[Act.put,hr.tm.1]
  · cases d with
    | none=>exact hr.tm.2 t u ht
    | some t0 =>
      have hne:t0≠t:=λhh=>hd t0 rfl u (hh▸ht)
      simp only[Act.put]
      rw[Array.getElem?_setIfInBounds_ne hne]
      exact hr.tm.2 t u ht
  · cases d<;>exact hr.df
theorem Rel.took{X1 X2:List (Nat × Obj)}{b t:Nat}{cs:List SV}(hr:Rel Df W0 M S ρ e (X1++(b,.cells (SV.dens ρ e cs).toArray t (0,0))::X2) H a W)(hf:S.fits=true)(hcs:SV.lts S.nv S.h.length cs=true)
    (hx:∀p∈X1++X2,p.1≠b):Rel Df W0 M { S with h:=S.h ++ [some { cs:=cs,ty:=t }] } (upd ρ S.h.length b) e (X1++X2) H a W:=by
  have hin:(b,Obj.cells (SV.dens ρ e cs).toArray t (0,0))∈X1++(b,.cells (SV.dens ρ e cs).toArray t (0,0))::X2:=by simp
  have hsub:∀p∈X1++X2,p∈X1++(b,.cells (SV.dens ρ e cs).toArray t (0,0))::X2:=λp hp=>by
    rw[List.mem_append] at hp |-
    exact hp.imp id (List.mem_cons_of_mem _)
  have hk:∀k,k<S.h.length->upd ρ S.h.length b k=ρ k:=λk hk=>by unfold upd;rw[if_neg (by omega)]
  have hr':=hr.congr (ρ':=upd ρ S.h.length b) (e':=e) hf (λ_ _=>rfl) hk
  have hup:upd ρ S.h.length b S.h.length=b:=by unfold upd;rw[if_pos rfl]
  have hget:∀{k:Nat} {o:ay},(S.h ++ [some { cs:=cs,ty:=t }])[k]?=some (some o)->(k<S.h.length/\S.h[k]?=some (some o))\/(k=S.h.length/\o={ cs:=cs,ty:=t }):=λ{k o} h=>by
    rcases Nat.lt_or_ge k S.h.length with hh | hh
    · rw[List.getElem?_append_left hh] at h;exact .inl ⟨hh,h⟩
    · rw[List.getElem?_append_right hh] at h
      have:k-S.h.length=0:=by
        rcases Nat.eq_zero_or_pos (k-S.h.length) with h0 | h0
        · exact h0
        · rw[List.getElem?_eq_none (by simp;omega)] at h;cases h
      rw[this] at h
      simp only[List.getElem?_cons_zero,Option.some.injEq] at h
      exact .inr ⟨by omega,h.symm⟩
  refine⟨hr'.tm,hr.df.trans (by simp[oJ,List.filterMap_append]),⟨λk o ho=>?_,λk j o o' ho ho' he=>?_,λk o ho=>?_,λk o ho=>?_,hr.mem.sub,hr.mem.mod,λp hp=>hr.mem.xk p (hsub p hp),λp hp=>hr.mem.xo p (hsub p hp),λp hp=>hr.mem.xd p (hsub p hp),λp hp k o ho=>?_⟩,hr'.pc⟩
  · rcases hget ho with⟨h1,h2⟩ | ⟨rfl,rfl⟩
    · exact hr'.mem.kn k o h2
    · rw[hup]
      have:=hr.mem.xk _ hin
      rw[this]
      simp only[ay.den,SV.dens_congr (e:=e) (e':=e) (n:=S.nv) (λ_ _=>rfl) hk cs hcs]
  · rcases hget ho with⟨h1,h2⟩ | ⟨rfl,rfl⟩<;>rcases hget ho' with⟨h3,h4⟩ | ⟨rfl,rfl⟩
    · rw[hk _ h1,hk _ h3] at he;exact hr.mem.inj _ _ _ _ h2 h4 he
    · rw[hk _ h1,hup] at he;exact (hr.mem.xr _ hin _ _ h2 he).elim
    · rw[hk _ h3,hup] at he;exact (hr.mem.xr _ hin _ _ h4 he.symm).elim
    · rfl
  · rcases hget ho with⟨h1,h2⟩ | ⟨rfl,rfl⟩
    · rw[hk _ h1];exact hr.mem.old _ _ h2
    · rw[hup];exact hr.mem.xo _ hin
  · rcases hget ho with⟨h1,h2⟩ | ⟨rfl,rfl⟩
    · rw[hk _ h1];exact hr.mem.dis _ _ h2
    · rw[hup];exact hr.mem.xd _ hin
  · rcases hget ho with⟨h1,h2⟩ | ⟨rfl,rfl⟩
    · rw[hk _ h1];exact hr.mem.xr p (hsub p hp) _ _ h2
    · rw[hup];exact λh=>hx p hp h.symm
theorem Rel.drew(hr:Rel Df W0 M S ρ e X H a W):Rel Df W0 M S ρ e X H a { W with drawn:=W.drawn+1 } :=
  ⟨hr.tm,hr.df,⟨hr.mem.kn,hr.mem.inj,hr.mem.old,hr.mem.dis,hr.mem.sub,⟨hr.mem.mod.os,hr.mem.mod.tape,hr.mem.mod.output,hr.mem.mod.size,hr.mem.mod.blk⟩,hr.mem.xk,hr.mem.xo,hr.mem.xd,hr.mem.xr⟩,hr.pc⟩
end
section
variable{P:Program}{ops:Array Oper}
theorem mP(D1 D2:List Pd)(a:Act):bj (D1++D2) a=bj D1 (bj D2 a):=by
  induction D1 with
  | nil=>rfl
  | cons d D1 ih=>simp only[List.cons_append,bj,ih]
theorem jZ{D:List Pd}{dst:Option Nat}(v:Value)(a:Act)(h:∀d∈D,∀t,d.o.dst=some t->dst≠some t):bj D (a.put dst v)=(bj D a).put dst v:=by
  induction D with
  | nil=>rfl
  | cons d D ih =>
    simp only[bj]
    rw[ih (λd' hd=>h d' (List.mem_cons_of_mem _ hd))]
    exact (Act.put_comm (bj D a) (x:=d.o.dst) (y:=dst) d.v v (h d (List.mem_cons_self ..))).symm
theorem iR{D:List Pd}{o:Oper}(hs:∀cs b,o.op≠.select cs b)(a:Act)(h:∀d∈D,∀t,d.o.dst=some t->t ∉ o.looksAt ops):execOp (bj D a).eval o=execOp a.eval o:=by
  induction D with
  | nil=>rfl
  | cons d D ih =>
    simp only[bj]
    rw[execOp_put (ops:=ops) o hs _ d.o.dst d.v (h d (List.mem_cons_self ..)),ih (λd' hd=>h d' (List.mem_cons_of_mem _ hd))]
theorem eu{D:List Pd}{o:Oper}(a:Act)(h:∀d∈D,∀t,d.o.dst=some t->t ∉ o.looksAt ops):Region.wanted o (yielded ops (bj D a).tmps)=Region.wanted o (yielded ops a.tmps):=by
  induction D with
  | nil=>rfl
  | cons d D ih =>
    simp only[bj]
    rw[wanted_put (ops:=ops) o _ d.o.dst d.v (h d (List.mem_cons_self ..)),ih (λd' hd=>h d' (List.mem_cons_of_mem _ hd))]
theorem jL(D:List Pd)(a:Act):(bj D a).tmps.size=a.tmps.size:=by
  induction D with
  | nil=>rfl
  | cons d D ih =>
    simp only[bj]
    cases d.o.dst<;>simp[Act.put,ih]
def rS(P:Program)(ops:Array Oper)(d:Pd)(a:Act):Prop :=
  (Region.wanted d.o (yielded ops a.tmps)=true/\∀W,holds d.need W->(execOp a.eval d.o).run P W=.ok (.value d.v) W)\/(Region.wanted d.o (yielded ops a.tmps)=false/\d.v=Go.undef)
def PdL(P:Program)(ops:Array Oper):List Pd->Act->Prop
  | [],_=>True
  | d::D,a=>rS P ops d (bj D a)/\PdL P ops D a
theorem rS.put{d:Pd}{a:Act}(hs:∀cs b,d.o.op≠.select cs b){dst:Option Nat}(v:Value)(h:∀t,dst=some t->t ∉ d.o.looksAt ops)(hp:rS P ops d a):rS P ops d (a.put dst v):=by
  unfold rS at *
  rw[execOp_put (ops:=ops) d.o hs a dst v h,wanted_put (ops:=ops) d.o a dst v h]
  exact hp
theorem PdL.put{D:List Pd}{a:Act}{dst:Option Nat}(v:Value)(hs:∀d∈D,∀cs b,d.o.op≠.select cs b)(h:∀d∈D,∀t,dst=some t->t ∉ d.o.looksAt ops)(h2:∀d∈D,∀t,d.o.dst=some t->dst≠some t)
    (hp:PdL P ops D a):PdL P ops D (a.put dst v):=by
  induction D with
  | nil=>trivial
  | cons d D ih =>
    obtain⟨h0,h1⟩:=hp
    refine⟨?_,ih (λd' hd=>hs d' (List.mem_cons_of_mem _ hd)) (λd' hd=>h d' (List.mem_cons_of_mem _ hd)) (λd' hd=>h2 d' (List.mem_cons_of_mem _ hd)) h1⟩
    rw[jZ v a (λd' hd=>h2 d' (List.mem_cons_of_mem _ hd))]
    exact h0.put (hs d (List.mem_cons_self ..)) v (h d (List.mem_cons_self ..))
theorem PdL.at{D1 D2:List Pd}{d:Pd}{a:Act}(hp:PdL P ops (D1++d::D2) a):rS P ops d (bj D2 a):=by
  induction D1 with
  | nil=>exact hp.1
  | cons d' D1 ih=>exact ih hp.2
theorem PdL.mid{D1 D2:List Pd}{d:Pd}{a:Act}(hs:∀d∈D2,∀cs b,d.o.op≠.select cs b)(h:∀d'∈D2,∀t,d.o.dst=some t->t ∉ d'.o.looksAt ops)(h2:∀d'∈D2,∀t,d'.o.dst=some t->d.o.dst≠some t)
    (hp:PdL P ops (D1++d::D2) a):PdL P ops (D1++D2) (a.put d.o.dst d.v):=by
  induction D1 with
  | nil=>exact PdL.put d.v hs h h2 hp.2
  | cons d' D1 ih =>
    obtain⟨h0,h1⟩:=hp
    refine⟨?_,ih h1⟩
    have:bj (D1++D2) (a.put d.o.dst d.v)=bj (D1++d::D2) a:=by
      rw[mP,mP,bj,jZ d.v a h2]
    show rS P ops d' (bj (D1++D2) (a.put d.o.dst d.v))
    rw[this]
    exact h0
end
end
section
variable{Df:List Deferred}
structure jO(ops:Array Oper)(bef:List Nat):Prop where
  sel:∀(j:Nat) (o:Oper) (cs:Array SelectCase) (b:Bool),ops[j]?=some o->o.op≠.select cs b
  bfr:zh ops.toList bef=true
  all:pC ops bef=true
  rng:∀(j:Nat) (o:Oper),ops[j]?=some o->∀q∈am o,q<ops.size
theorem r8{α:Type}{l:List α}{j:Nat}{x:α}(h:l[j]?=some x):(x,j)∈l.zipIdx:=by
  rw[List.mem_zipIdx_iff_getElem?]
  exact h
structure ql(ops:Array Oper)(y:Oper)(j:Nat):Prop where
  has:∃t,y.dst=some t
  by_:∃bef,jO ops bef/\∀(i:Nat) (x:Oper),ops[i]?=some x->(i=j\/x.dst≠y.dst)/\∀t,x.dst=some t->t∈y.looksAt ops->i≠j/\mg bef i j=true
theorem ql.ne{ops:Array Oper}{y x:Oper}{i j:Nat}(h:ql ops y j)(hx:ops[i]?=some x):i=j\/x.dst≠y.dst:=by
  obtain⟨_,bef,_,hq⟩:=h
  exact (hq i x hx).1
theorem jO.loose{ops:Array Oper}{bef:List Nat}(hf:jO ops bef){j:Nat}{y:Oper}(h1:oM ops bef (y,j)=true):ql ops y j:=by
  unfold oM at h1
  simp only[Bool.and_eq_true,List.all_eq_true] at h1
  obtain⟨h1,h2⟩:=h1
  refine⟨Option.isSome_iff_exists.1 h1,bef,hf,λi x hx=>?_⟩
  have h3:=h2 (x,i) (r8 (by rw[Array.getElem?_toList];exact hx))
  simp only[Bool.or_eq_true,decide_eq_true_eq] at h3
  refine⟨h3.1,λt ht hm=>?_⟩
  have h4:=h3.2
  simp only[ht,Bool.or_eq_true,Bool.not_eq_true',Bool.and_eq_true,decide_eq_true_eq] at h4
  rcases h4 with h4 | h4
  · rw[List.contains_iff_mem.2 hm] at h4;cases h4
  · exact h4
theorem jO.allocL{ops:Array Oper}{bef:List Nat}(hf:jO ops bef){j:Nat}{y:Oper}(hy:ops[j]?=some y)(ha:dn y.op=true):ql ops y j:=by
  have h:=hf.all
  unfold pC at h
  rw[List.all_eq_true] at h
  have h1:=h (y,j) (r8 (by rw[Array.getElem?_toList];exact hy))
  simp only[ha,Bool.not_true,Bool.false_or] at h1
  exact hf.loose h1
theorem jO.before{ops:Array Oper}{bef:List Nat}(hf:jO ops bef){listed:Array Bool}(down:∀(j:Nat) (o:Oper),listed[j]?=some true->ops[j]?=some o->∀q∈am o,listed[q]?=some true){i:Nat}(hi:i<ops.size) :
    ∀(j:Nat) (o:Oper),ops[j]?=some o->(∀q∈am o,listed[q]?=some true)->mg bef i j=true->listed[i]?=some true:=by
  intro j
  induction j using Nat.strongRecOn with
  | _ j ih =>
    intro o ho hp hb
    have h:=hf.bfr
    unfold zh at h
    rw[List.all_eq_true] at h
    have h1:=h (o,j) (r8 (by rw[Array.getElem?_toList];exact ho))
    rw[List.all_eq_true] at h1
    have h2:=h1 i (by simp[hi])
    simp only[hb,Bool.not_true,Bool.false_or,List.any_eq_true,Bool.and_eq_true,decide_eq_true_eq,Bool.or_eq_true] at h2
    obtain⟨q,hq,hlt,h3⟩:=h2
    rcases h3 with rfl | h3
    · exact hp q hq
    · have hqs:=hf.rng j o ho q hq
      obtain⟨oq,hoq⟩:∃oq,ops[q]?=some oq:=⟨_,Array.getElem?_eq_getElem hqs⟩
      exact ih q hlt oq hoq (down q oq (hp q hq) hoq) h3
theorem pj{listed:Array Bool}{i j:Nat}(hi:i<listed.size):(listed.setIfInBounds i true)[j]?=if i=j then some true else listed[j]?:=by
  rw[Array.getElem?_setIfInBounds]
  split
  · rename_i h;subst h;simp[hi]
  · rfl
theorem lE{ops:Array Oper}{listed:Array Bool}(hz:listed.size=ops.size){j:Nat}:j∈Region.ready .any ops listed↔listed[j]?=some false/\∃o,ops[j]?=some o/\∀q∈am o,listed[q]?=some true:=by
  rw[mem_ready]
  have hg:∀(q:Nat),listed.getD q false=true↔listed[q]?=some true:=λq=>by
    rw[Array.getD_eq_getD_getElem?]
    cases listed[q]?<;>simp
  constructor
  · rintro⟨h0,o,ho,h⟩
    have hj:j<listed.size:=by rw[hz];exact (Array.getElem?_eq_some_iff.1 ho).1
    refine⟨?_,o,ho,λq hq=>?_⟩
    · rw[Array.getD_eq_getD_getElem?,Array.getElem?_eq_getElem hj] at h0
      rw[Array.getElem?_eq_getElem hj]
      simpa using h0
    · unfold am at hq
      rw[List.mem_filterMap] at hq
      obtain⟨ed,he,hq⟩:=hq
      split at hq
      · rename_i hb
        simp only[Option.some.injEq] at hq
        subst hq
        exact (hg _).1 (h ed (by simpa using he) hb)
      · cases hq
  · rintro⟨h0,o,ho,h⟩
    refine⟨?_,o,ho,λed he hb=>?_⟩
    · rw[Array.getD_eq_getD_getElem?,h0];rfl
    · refine (hg _).2 (h _ ?_)
      unfold am
      rw[List.mem_filterMap]
      exact⟨ed,by simpa using he,by rw[if_pos hb]⟩
def su:Value->Bool
  | .agg _=>true
  | _=>false
structure Inv(Df:List Deferred)(X0:List (Nat × Obj))(P:Program)(W0:World)(M:Nat->Prop)(B:ir)(dp:Nat)(ops:Array Oper)(fuel:Nat)(listed:Array Bool)(r:List (Oper × Nat))(S:St)(D:List Pd)(Xi:List Ah)(a:Act)(W:World)(ρ:Nat->Nat)(e:Env)(H:Hp):Prop where
  sz:listed.size=ops.size
  cnt:D.length+r.length<=fuel+Xi.length
  rops:∀p∈r,ops[p.2]?=some p.1
  rnd:(r.map (·.2)).Nodup
  dops:∀d∈D,ops[d.ix]?=some d.o
  dnd:(D.map (·.ix)).Nodup
  disj:∀d∈D,∀p∈r,d.ix≠p.2
  un:∀i:Nat,listed[i]?=some false↔(∃d∈D,d.ix=i)\/((∃p∈r,p.2=i)/\∀x∈Xi,x.ix≠i)
  xr:∀x∈Xi,(x.o,x.ix)∈r
  xnd:(Xi.map (·.ix)).Nodup
  xbd:((xob Xi).map (·.1)).Nodup
  xal:∀x∈Xi,ql ops x.o x.ix/\(x.pr=false->dn x.o.op=true/\(∀b,su (x.vf b)=false)/\isC x.obj=true)/\(x.pr=true->fi x.o.op=true/\∀b c,x.vf b=x.vf c)
  down:∀(j:Nat) (o:Oper),listed[j]?=some true->ops[j]?=some o->∀q∈am o,listed[q]?=some true
  rel:Rel Df W0 M S ρ e (xob Xi++X0) H (bj D a) W
  pdl:PdL P ops D a
  hold:∀d∈D,holds d.need W
  tag:∀d∈D,pP W0 M S ρ H d.ix d.need
  apr:∀d∈D,∀p∈r,d.ix∈am p.1\/Oper.apart ops d.o p.1=true
  apd:D.Pairwise λn d=>d.ix∈am n.o\/Oper.apart ops d.o n.o=true
  prd:D.Pairwise λn d=>n.ix ∉ am d.o
  prr:∀d∈D,d.ix ∉ am d.o/\∀p∈r,p.2 ∉ am d.o
  al:∀p∈r,ql ops p.1 p.2->(dn p.1.op||fi p.1.op)=true->∀t,p.1.dst=some t->∀v,S.tm[t]?≠some (some v)
  ah:∀x∈Xi,(∀w,(execOp (bj D a).eval x.o).run P w=.ok (.value (x.vf w.heap.size)) (x.aft w))/\(∀t,x.o.dst=some t->t<a.tmps.size->(bj D a).tmps[t]?=some (x.vf x.b))/\Region.wanted x.o (yielded ops (bj D a).tmps)=true
  agr:Agr B S ρ e
  dp:S.dp=dp
  x0:∀p∈X0,isC p.2=false
theorem wo{l m:List Nat}(hl:l.Nodup)(h:∀x∈l,x∈m):l.length<=m.length:=by
  induction l generalizing m with
  | nil=>simp
  | cons a l ih =>
    have ha:=h a (List.mem_cons_self ..)
    have hn:∀x∈l,x∈m.erase a:=λx hx=>by
      have hne:x≠a:=λhh=>(List.nodup_cons.1 hl).1 (hh▸hx)
      exact (List.mem_erase_of_ne hne).2 (h x (List.mem_cons_of_mem _ hx))
    have:=ih (List.nodup_cons.1 hl).2 hn
    rw[List.length_erase_of_mem ha] at this
    have:0<m.length:=List.length_pos_of_mem ha
    simp only[List.length_cons]
    omega
section
variable{X0:List (Nat × Obj)}{P:Program}{W0:World}{M:Nat->Prop}{R:Ending->World->Prop}{L:List (List Dat->Hp->Prop)}{B:ir}{dp:Nat}{ops:Array Oper}{bef:List Nat}{fuel:Nat}{listed:Array Bool}{r:List (Oper × Nat)}{S S':St}{D:List Pd}{Xi:List Ah}{a:Act}{W:World}{ρ ρ':Nat->Nat}{e e':Env}{H H':Hp}{o:Oper}{ix:Nat}
theorem Inv.lt(h:Inv Df X0 P W0 M B dp ops fuel listed r S D Xi a W ρ e H){i:Nat}{o:Oper}(ho:ops[i]?=some o):i<listed.size:=by
  rw[h.sz];exact (Array.getElem?_eq_some_iff.1 ho).1
theorem Inv.not_un(h:Inv Df X0 P W0 M B dp ops fuel listed r S D Xi a W ρ e H){i:Nat}(hi:i<ops.size)(hn:listed[i]?≠some false):listed[i]?=some true:=by
  rw[<- h.sz] at hi
  rw[Array.getElem?_eq_getElem hi] at hn |-
  cases hh:listed[i] with
  | true=>rfl
  | false=>rw[hh] at hn;exact (hn rfl).elim
theorem Inv.xl(h:Inv Df X0 P W0 M B dp ops fuel listed r S D Xi a W ρ e H){x:Ah}(hx:x∈Xi):listed[x.ix]?=some true:=by
  have hr:=h.xr x hx
  refine h.not_un (Array.getElem?_eq_some_iff.1 (h.rops _ hr)).1 (λhu=>?_)
  rcases (h.un _).1 hu with⟨d,hd,he⟩ | ⟨_,hn⟩
  · exact h.disj d hd _ hr he
  · exact hn x hx rfl
theorem Inv.du(h:Inv Df X0 P W0 M B dp ops fuel listed r S D Xi a W ρ e H){d:Pd}(hd:d∈D):listed[d.ix]?=some false:=(h.un _).2 (.inl ⟨d,hd,rfl⟩)
theorem Inv.pu(h:Inv Df X0 P W0 M B dp ops fuel listed r S D Xi a W ρ e H){p:Oper × Nat}(hp:p∈r)(hx:∀x∈Xi,x.ix≠p.2):listed[p.2]?=some false:=(h.un _).2 (.inr ⟨⟨p,hp,rfl⟩,hx⟩)
theorem Inv.clear(hf:jO ops bef)(h:Inv Df X0 P W0 M B dp ops fuel listed r S D Xi a W ρ e H){i:Nat}{o:Oper}(ho:ops[i]?=some o)(hu:listed[i]?=some false){x:Ah}(hx:x∈Xi) :
    (∀t,o.dst=some t->t ∉ x.o.looksAt ops)/\o.dst≠x.o.dst:=by
  have hr:=h.xr x hx
  have hl:=h.xl hx
  obtain⟨⟨_,bef',hf',hq⟩,_⟩:=h.xal x hx
  obtain⟨h2,h3⟩:=hq _ _ ho
  refine⟨λt ht hm=>?_,?_⟩
  · have:=hf'.before h.down (Array.getElem?_eq_some_iff.1 ho).1 _ _ (h.rops _ hr) (h.down _ _ hl (h.rops _ hr)) (h3 t ht hm).2
    rw[hu] at this;cases this
  · rcases h2 with h2 | h2
    · rw[h2,hl] at hu;cases hu
    · exact h2
theorem sE(hf:jO ops bef)(h:Inv Df X0 P W0 M B dp ops fuel listed r S D Xi a W ρ e H){i:Nat}{o:Oper}(ho:ops[i]?=some o)(hu:listed[i]?=some false)(v:Value){x:Ah}(hx:x∈Xi) :
    (∀w,(execOp ((bj D a).put o.dst v).eval x.o).run P w=.ok (.value (x.vf w.heap.size)) (x.aft w))/\(∀t,x.o.dst=some t->t<a.tmps.size->((bj D a).put o.dst v).tmps[t]?=some (x.vf x.b))/\Region.wanted x.o (yielded ops ((bj D a).put o.dst v).tmps)=true:=by
  obtain⟨h1,h2⟩:=h.clear hf ho hu hx
  obtain⟨g1,g2,g3⟩:=h.ah x hx
  refine⟨λw=>?_,λt ht hlt=>?_,?_⟩
  · rw[execOp_put (ops:=ops) x.o (λcs b=>hf.sel _ _ cs b (h.rops _ (h.xr x hx))) _ _ _ h1]
    exact g1 w
  · have:=g2 t ht hlt
    cases hd:o.dst with
    | none=>exact this
    | some t' =>
      have hne:t'≠t:=λhh=>h2 (by rw[hd,ht,hh])
      simp only[Act.put]
      rw[Array.getElem?_setIfInBounds_ne hne]
      exact this
  · have h4:=eu (ops:=ops) (D := [⟨i,o,v,none⟩]) (o:=x.o) (bj D a) (λd hd=>by
      simp only[List.mem_singleton] at hd
      subst hd
      exact h1)
    exact h4.trans g3
theorem Inv.sim(h:Inv Df X0 P W0 M B dp ops fuel listed r S D Xi a W ρ e H)(hs:Sim S S')(hr:Rel Df W0 M S' ρ e (xob Xi++X0) H (bj D a) W):Inv Df X0 P W0 M B dp ops fuel listed r S' D Xi a W ρ e H :=
  { h with rel:=hr,tag:=λd hd=>by
            have:=h.tag d hd
            cases hn:d.need with
            | none=>trivial
            | some q=>rw[hn] at this;simp only[pP] at this |-;rw[hs.2.2.2.2,hs.2.2.1];exact this
           al:=λp hp hlo ha t ht v=>by rw[hs.2.1];exact h.al p hp hlo ha t ht v
           agr:=h.agr.sim hs,dp:=hs.1.trans h.dp }
theorem Inv.ll(h:Inv Df X0 P W0 M B dp ops fuel listed r S D Xi a W ρ e H)(q:Nat × Option Nat):Inv Df X0 P W0 M B dp ops fuel listed r { S with ll:=q::S.ll } D Xi a W ρ e H :=
  { h with rel:=⟨h.rel.tm,h.rel.df,h.rel.mem,h.rel.pc⟩
           tag:=λd hd=>by
            have:=h.tag d hd
            cases hn:d.need with
            | none=>trivial
            | some q =>
              rw[hn] at this
              rcases this with⟨k,h1,h2⟩ | ⟨h1,h2⟩ | h1
              · exact .inl ⟨k,List.mem_cons_of_mem _ h1,h2⟩
              · exact .inr (.inl ⟨List.mem_cons_of_mem _ h1,h2⟩)
              · exact .inr (.inr h1)
           agr:=⟨h.agr.n,h.agr.m,h.agr.e,h.agr.r⟩ }
theorem pP.mono{ix:Nat}{n:Option (Nat × Obj)}(h:pP W0 M S ρ H ix n)(hll:S'.ll=S.ll)(hkn:∀(k:Nat) (o:ay),S.h[k]?=some (some o)->∃o':ay,S'.h[k]?=some (some o'))(hr:∀k,k<S.h.length->ρ' k=ρ k)(hH:(ix,none)∈S.ll->H.le H'):pP W0 M S' ρ' H' ix n:=by
  cases n with
  | none=>trivial
  | some q =>
    rcases h with⟨k,h1,h2,ob,h3⟩ | ⟨h1,h2⟩ | h1
    · exact .inl ⟨k,by rw[hll];exact h1,by rw[hr k (gJ h3)];exact h2,hkn k ob h3⟩
    · exact .inr (.inl ⟨by rw[hll];exact h1,hH h1 _ _ h2⟩)
    · exact .inr (.inr h1)
theorem Inv.push(hf:jO ops bef){K:St->VC}(h:Inv Df X0 P W0 M B dp ops fuel listed ((o,ix)::r) S D Xi a W ρ e H)(hx:∀x∈Xi,x.ix≠ix)(hr1:og ((o,ix)::r) o=true)(hap:fq ops o ix r=true)
    {v:Value} {need:Option (Nat × Obj)} (hp:rS P ops ⟨ix,o,v,need⟩ (bj D a)) (hh:holds need W) (ht:pP W0 M S ρ H ix need)
    (ha:Aft Df P W0 M R (xob Xi++X0) L S ρ e H W K o.dst (bj D a) (λ_=>False) False v W S' ρ' e' H') :
    Inv Df X0 P W0 M B dp ops fuel listed r S' (⟨ix,o,v,need⟩::D) Xi a W ρ' e' H':=by
  have hin:(o,ix)∈(o,ix)::r:=List.mem_cons_self ..
  have ho:=h.rops _ hin
  have hu:listed[ix]?=some false:=h.pu hin hx
  have hrn:=h.rnd
  simp only[List.map_cons,List.nodup_cons] at hrn
  have hr2:∀q∈am o,q≠ix/\∀p∈r,p.2≠q:=λq hq=>by
    unfold og at hr1
    rw[List.all_eq_true] at hr1
    have:=hr1 q hq
    simp only[List.map_cons,Bool.not_eq_true',List.contains_eq_mem,List.mem_cons,List.mem_map,decide_eq_false_iff_not,not_or,not_exists,not_and] at this
    exact⟨this.1,λp hp=>this.2 p hp⟩
  refine⟨h.sz,?_,λp hp=>h.rops p (List.mem_cons_of_mem _ hp),hrn.2,?_,?_,?_,λi=>?_,λx hx'=>?_,h.xnd,h.xbd,h.xal,h.down,ha.rel,⟨hp,h.pdl⟩,?_,?_,?_,?_,?_,?_,?_,λx hx'=>sE hf h ho hu v hx',h.agr.trans ha.agr,ha.dp.trans h.dp,h.x0⟩
  · have:=h.cnt;simp only[List.length_cons] at this |-;omega
  · intro d hd
    rcases List.mem_cons.1 hd with rfl | hd
    · exact ho
    · exact h.dops d hd
  · simp only[List.map_cons,List.nodup_cons]
    refine⟨λhm=>?_,h.dnd⟩
    obtain⟨d,hd,he⟩:=List.mem_map.1 hm
    exact h.disj d hd _ hin he
  · intro d hd p hp'
    rcases List.mem_cons.1 hd with rfl | hd
    · exact λhe=>hrn.1 (List.mem_map.2 ⟨p,hp',he.symm⟩)
    · exact h.disj d hd p (List.mem_cons_of_mem _ hp')
  · rw[h.un i]
    constructor
    · rintro (⟨d,hd,he⟩ | ⟨⟨p,hp',he⟩,hn⟩)
      · exact .inl ⟨d,List.mem_cons_of_mem _ hd,he⟩
      · rcases List.mem_cons.1 hp' with rfl | hp'
        · exact .inl ⟨_,List.mem_cons_self ..,he⟩
        · exact .inr ⟨⟨p,hp',he⟩,hn⟩
    · rintro (⟨d,hd,he⟩ | ⟨⟨p,hp',he⟩,hn⟩)
      · rcases List.mem_cons.1 hd with rfl | hd
        · exact .inr ⟨⟨_,hin,he⟩,λx hx' he'=>hx x hx' (he'.trans he.symm)⟩
        · exact .inl ⟨d,hd,he⟩
      · exact .inr ⟨⟨p,List.mem_cons_of_mem _ hp',he⟩,hn⟩
  · rcases List.mem_cons.1 (h.xr x hx') with he | hm
    · exact (hx x hx' (congrArg Prod.snd he)).elim
    · exact hm
  · intro d hd
    rcases List.mem_cons.1 hd with rfl | hd
    · exact hh
    · exact h.hold d hd
  · intro d hd
    rcases List.mem_cons.1 hd with rfl | hd
    · exact ht.mono ha.ll ha.kn ha.agr.r (λ_=>ha.hle (λh=>h))
    · exact (h.tag d hd).mono ha.ll ha.kn ha.agr.r (λ_=>ha.hle (λh=>h))
  · intro d hd p hp'
    rcases List.mem_cons.1 hd with rfl | hd
    · unfold fq at hap
      rw[List.all_eq_true] at hap
      have:=hap p hp'
      simp only[Bool.or_eq_true,List.contains_iff_mem] at this
      exact this
    · exact h.apr d hd p (List.mem_cons_of_mem _ hp')
  · rw[List.pairwise_cons]
    exact⟨λd hd=>h.apr d hd _ hin,h.apd⟩
  · rw[List.pairwise_cons]
    exact⟨λd hd=>(h.prr d hd).2 _ hin,h.prd⟩
  · intro d hd
    rcases List.mem_cons.1 hd with rfl | hd
    · exact⟨λhq=>(hr2 _ hq).1 rfl,λp hp' hq=>(hr2 _ hq).2 p hp' rfl⟩
    · exact⟨(h.prr d hd).1,λp hp'=>(h.prr d hd).2 p (List.mem_cons_of_mem _ hp')⟩
  · intro p hp' hlo hal t ht' u
    have hne:o.dst≠some t:=λhe=>by
      rcases hlo.ne ho with h1 | h1
      · exact hrn.1 (List.mem_map.2 ⟨p,hp',h1.symm⟩)
      · exact h1 (he.trans ht'.symm)
    rw[ha.tm t hne]
    exact h.al p (List.mem_cons_of_mem _ hp') hlo hal t ht' u
end
end
section
variable{Df:List Deferred}
section
variable{X0:List (Nat × Obj)}{P:Program}{W0:World}{M:Nat->Prop}{R:Ending->World->Prop}{hi:dq}{L:List (List Dat->Hp->Prop)}{B:ir}{dp:Nat}{ops:Array Oper}{bef:List Nat}{fuel:Nat}{listed:Array Bool}{r:List (Oper × Nat)}{S S':St}{D:List Pd}{Xi:List Ah}{a:Act}{W:World}{ρ ρ':Nat->Nat}{e e':Env}{H H':Hp}{o:Oper}{ix rid:Nat}{Q:Exit->Act->World->Prop}
theorem iB(h:dn o.op=true):step P S o=.bad\/∃cs t len,step P S o=.new cs t len:=by
  unfold dn at h
  split at h
  · rename_i t hop
    simp only[step,hop]
    split
    · exact .inr ⟨_,_,_,rfl⟩
    · exact .inl rfl
  · rename_i t x hop
    simp only[step,hop]
    split
    · exact .inr ⟨_,_,_,rfl⟩
    · exact .inl rfl
  · rename_i t n ps hop
    simp only[step,hop]
    split
    · split
      · split
        · split
          · exact .inr ⟨_,_,_,rfl⟩
          · exact .inl rfl
        · exact .inl rfl
      · exact .inl rfl
    · exact .inl rfl
  · rename_i t l c hop
    simp only[step,hop]
    split
    · unfold Bd
      split
      · split
        · split
          · exact .inr ⟨_,_,_,rfl⟩
          · exact .inl rfl
        · exact .inl rfl
      · exact .inl rfl
    · rename_i hn;rw[hn] at h;cases h
  · cases h
theorem Rel.have{X:List (Nat × Obj)}(hr:Rel Df W0 M S ρ e X H a W)(d:Option Nat)(v:SV)(h:∀t,d=some t->t<a.tmps.size->a.tmps[t]?=some (v.den ρ e)):Rel Df W0 M (S.put d v) ρ e X H a W:=by
  cases d with
  | none=>exact hr
  | some t =>
    refine⟨⟨by simp[St.put,hr.tm.1],λt' u ht=>?_⟩,hr.df,hr.mem,hr.pc⟩
    simp only[St.put] at ht
    rw[List.getElem?_set] at ht
    split at ht
    · rename_i he
      subst he
      split at ht
      · rename_i hlt
        simp only[Option.some.injEq] at ht
        subst ht
        exact h t rfl (by rw[hr.tm.1];exact hlt)
      · cases ht
    · exact hr.tm.2 t' u ht
theorem Inv.took(hf:jO ops bef){K:St->VC}(h:Inv Df X0 P W0 M B dp ops fuel listed ((o,ix)::r) S D Xi a W ρ e H){x:Ah}(hx:x∈Xi)(hxi:x.ix=ix)(hpr:x.pr=false)(hd:(dg P hi rid ix S o K).den P W0 M R ρ e H L) :
    ∃S' ρ' Xi',Inv Df X0 P W0 M B dp ops fuel listed r S' D Xi' a W ρ' e H/\(K S').den P W0 M R ρ' e H L:=by
  have hin:(o,ix)∈(o,ix)::r:=List.mem_cons_self ..
  have hrn:=h.rnd
  simp only[List.map_cons,List.nodup_cons] at hrn
  have hxo:x.o=o:=by
    rcases List.mem_cons.1 (h.xr x hx) with he | hm
    · exact congrArg Prod.fst he
    · exact (hrn.1 (List.mem_map.2 ⟨_,hm,hxi⟩)).elim
  have hal:=((h.xal x hx).2.1 hpr).1
  rw[hxo] at hal
  obtain⟨X1,X2,rfl⟩:=List.append_of_mem hx
  obtain⟨g1,g2,_⟩:=h.ah x hx
  have hft:∀w,x.aft w=w.alloc x.obj:=λw=>by unfold Ah.aft;rw[hpr];rfl
  simp only[hft] at g1
  rw[hxo] at g1 g2
  rcases iB (P:=P) (S:=S) hal with hst | ⟨cs,t,len,hst⟩
  · unfold dg at hd
    rw[hst] at hd
    exact hd.elim
  · have hs:=λw=>hU (P:=P) (W:=w) (o:=o) h.rel.toT
    simp only[hst] at hs
    have hs':∀w,(execOp (bj D a).eval o).run P w=_:=hs
    unfold dg at hd
    rw[hst] at hd
    dsimp only at hd
    split at hd
    · rename_i hfit
      simp only[Bool.and_eq_true] at hfit
      have hd':=hd x.b
      have hobj:x.obj=.cells (SV.dens ρ e cs).toArray t (0,0):=by
        have h1:=(g1 W).symm.trans (hs' W)
        simp only[Result.ok.injEq] at h1
        have h2:=congrArg (λw:World=>w.heap[W.heap.size]?) h1.2
        simp only[World.alloc] at h2
        simpa using h2
      have hval:x.vf x.b=(match (generalizing:=false) len with | none=>Value.pointer (some ⟨x.b,0,none⟩) | some n=>.slice (some ⟨x.b,0,none⟩) n n):=by
        have h1:=(g1 { W with heap:=Array.replicate x.b x.obj }).symm.trans (hs' { W with heap:=Array.replicate x.b x.obj })
        simp only[Result.ok.injEq] at h1
        have h2:=h1.1
        simp only[Array.size_replicate,Next.value.injEq] at h2
        exact h2
      have hrel:=h.rel
      rw[iK,ug hpr,hobj,List.append_assoc,List.cons_append] at hrel
      have hbd:=h.xbd
      rw[iK,ug hpr,List.map_append,List.map_cons,List.nodup_append,List.nodup_cons] at hbd
      have hr1:=hrel.took hfit.1 hfit.2 (λp hp he=>by
        rw[<- List.append_assoc] at hp
        rcases List.mem_append.1 hp with hp | hp
        · rcases List.mem_append.1 hp with hy | hy
          · exact hbd.2.2 p.1 (List.mem_map.2 ⟨p,hy,rfl⟩) x.b (List.mem_cons_self ..) he
          · exact hbd.2.1.1 (List.mem_map.2 ⟨p,hy,he⟩)
        · have hds:=h.x0 p hp
          have k1:=hrel.mem.xk p (List.mem_append_right _ (List.mem_cons_of_mem _ (List.mem_append_right _ hp)))
          have k2:=hrel.mem.xk (x.b,.cells (SV.dens ρ e cs).toArray t (0,0)) (List.mem_append_right _ (List.mem_cons_self ..))
          rw[he,k2,Option.some.injEq] at k1
          rw[<- k1] at hds
          cases hds)
      rw[<- List.append_assoc,<- iK] at hr1
      have hup:upd ρ S.h.length x.b S.h.length=x.b:=by unfold upd;rw[if_pos rfl]
      have hnd:=h.xnd
      rw[List.map_append,List.map_cons,List.nodup_append,List.nodup_cons] at hnd
      have hxne:∀y∈X1++X2,y.ix≠x.ix:=λy hy he=>by
        rcases List.mem_append.1 hy with hy | hy
        · exact hnd.2.2 y.ix (List.mem_map.2 ⟨y,hy,rfl⟩) x.ix (List.mem_cons_self ..) he
        · exact hnd.2.1.1 (List.mem_map.2 ⟨y,hy,he⟩)
      have hsub:∀y∈X1++X2,y∈X1++x::X2:=λy hy=>by
        rw[List.mem_append] at hy |-
        exact hy.imp id (List.mem_cons_of_mem _)
      refine⟨_,_,X1++X2,⟨h.sz,?_,λp hp=>h.rops p (List.mem_cons_of_mem _ hp),hrn.2,h.dops,h.dnd,λd hd p hp=>h.disj d hd p (List.mem_cons_of_mem _ hp),λi=>?_,λy hy=>?_,?_,?_,λy hy=>h.xal y (hsub y hy),h.down,
        Rel.have hr1 o.dst (match (generalizing:=false) len with | none=>.ptrK S.h.length 0 | some n=>.slK S.h.length 0 n n) (λt ht hlt=>?_),h.pdl,h.hold,λd hd=>?_,λd hd p hp=>h.apr d hd p (List.mem_cons_of_mem _ hp),h.apd,h.prd,λd hd=>⟨(h.prr d hd).1,λp hp=>(h.prr d hd).2 p (List.mem_cons_of_mem _ hp)⟩,λp hp hlo ha t ht u=>?_,λy hy=>h.ah y (hsub y hy),?_,?_,h.x0⟩,hd'⟩
      · have:=h.cnt
        simp only[List.length_cons,List.length_append] at this |-
        omega
      · rw[h.un i]
        constructor
        · rintro (hd | ⟨⟨p,hp,he⟩,hn⟩)
          · exact .inl hd
          · rcases List.mem_cons.1 hp with rfl | hp
            · exact (hn x (by simp) (hxi.trans he)).elim
            · exact .inr ⟨⟨p,hp,he⟩,λy hy=>hn y (hsub y hy)⟩
        · rintro (hd | ⟨⟨p,hp,he⟩,hn⟩)
          · exact .inl hd
          · refine .inr ⟨⟨p,List.mem_cons_of_mem _ hp,he⟩,λy hy=>?_⟩
            rcases List.mem_append.1 hy with hy | hy
            · exact hn y (List.mem_append_left _ hy)
            · rcases List.mem_cons.1 hy with rfl | hy
              · exact λhh=>hrn.1 (List.mem_map.2 ⟨p,hp,he.trans (hh.symm.trans hxi)⟩)
              · exact hn y (List.mem_append_right _ hy)
      · rcases List.mem_cons.1 (h.xr y (hsub y hy)) with he | hm
        · exact (hxne y hy ((congrArg Prod.snd he).trans hxi.symm)).elim
        · exact hm
      · rw[List.map_append,List.nodup_append]
        exact⟨hnd.1,hnd.2.1.2,λu hu v hv=>hnd.2.2 u hu v (List.mem_cons_of_mem _ hv)⟩
      · rw[iK,List.map_append,List.nodup_append]
        exact⟨hbd.1,hbd.2.1.2,λu hu v hv=>hbd.2.2 u hu v (List.mem_cons_of_mem _ hv)⟩
      · rw[jL] at hlt
        rw[g2 t ht hlt,hval]
        cases len<;>simp only[SV.den,hup]
      · refine (h.tag d hd).mono (by rw[bY]) (λk ob hk=>⟨ob,by rw[eb];simp only;rw[List.getElem?_append_left (gJ hk)];exact hk⟩) (λk hk=>by unfold upd;rw[if_neg (by omega)]) (λ_=>Hp.le_refl H)
      · have hne:o.dst≠some t:=λhe=>by
          rcases hlo.ne (h.rops _ hin) with h1 | h1
          · exact hrn.1 (List.mem_map.2 ⟨p,hp,h1.symm⟩)
          · exact h1 (he.trans ht.symm)
        rw[bZ _ _ _ _ hne]
        exact h.al p (List.mem_cons_of_mem _ hp) hlo ha t ht u
      · refine h.agr.trans (Agr.put (S:={ S with h:=S.h ++ [some { cs:=cs,ty:=t }] }) ⟨Nat.le_refl _,by simp,λ_ _=>rfl,λk hk=>?_⟩ _ _)
        unfold upd
        rw[if_neg (by simp only at hk;omega)]
      · rw[aF];exact h.dp
    · exact hd.elim
theorem Az{a:Act}{d:Option Nat}{v:Value}(h:∀t,d=some t->t<a.tmps.size->a.tmps[t]?=some v):a.put d v=a:=by
  cases d with
  | none=>rfl
  | some t =>
    by_cases hlt:t<a.tmps.size
    · have h1:=h t rfl hlt
      have h3:a.tmps.setIfInBounds t v=a.tmps:=by
        apply Array.ext_getElem?
        intro i
        rw[Array.getElem?_setIfInBounds]
        split
        · rename_i hi
          subst hi
          simp only[hlt,if_true,h1]
        · rfl
      simp only[Act.put,h3]
    · have h3:a.tmps.setIfInBounds t v=a.tmps:=Array.setIfInBounds_eq_of_size_le (by omega)
      simp only[Act.put,h3]
theorem kf(h:fi o.op=true):step P S o=.bad\/∃v,step P S o=.val [] v:=by
  unfold fi at h
  split at h
  · rename_i t ps hop
    simp only[step,hop]
    split
    · split
      · split
        · exact .inr ⟨_,rfl⟩
        · exact .inl rfl
      · exact .inl rfl
    · split
      · split
        · exact .inr ⟨_,rfl⟩
        · exact .inl rfl
      · exact .inl rfl
    · exact .inl rfl
  · cases h
theorem vU(h:fi o.op=true):mj S o=none:=by
  unfold mj
  split
  · rename_i c hop
    rw[hop] at h
    cases h
  · rfl
theorem Inv.tookP{K:St->VC}(h:Inv Df X0 P W0 M B dp ops fuel listed ((o,ix)::r) S D Xi a W ρ e H){x:Ah}(hx:x∈Xi)(hxi:x.ix=ix)(hpr:x.pr=true)(hd:(dg P hi rid ix S o K).den P W0 M R ρ e H L) :
    ∃S' ρ' e' H' Xi',Inv Df X0 P W0 M B dp ops fuel listed r S' D Xi' a W ρ' e' H'/\(K S').den P W0 M R ρ' e' H' L:=by
  have hin:(o,ix)∈(o,ix)::r:=List.mem_cons_self ..
  have hrn:=h.rnd
  simp only[List.map_cons,List.nodup_cons] at hrn
  have hxo:x.o=o:=by
    rcases List.mem_cons.1 (h.xr x hx) with he | hm
    · exact congrArg Prod.fst he
    · exact (hrn.1 (List.mem_map.2 ⟨_,hm,hxi⟩)).elim
  obtain⟨hbu,hvf⟩:=(h.xal x hx).2.2 hpr
  rw[hxo] at hbu
  rcases kf (P:=P) (S:=S) hbu with hst | ⟨sv,hst⟩
  · unfold dg at hd
    rw[hst] at hd
    exact hd.elim
  obtain⟨v,need,S',ρ',e',H',g1,g2,_,g4⟩:=uH (by rw[hst];rfl) hd h.rel (λi off t kn hk=>by rw[hst] at hk;cases hk) (λq as ty turns hk=>by rw[hst] at hk;cases hk)
  obtain⟨X1,X2,rfl⟩:=List.append_of_mem hx
  obtain⟨k1,k2,_⟩:=h.ah x hx
  rw[hxo] at k1 k2
  have hv:v=x.vf x.b:=by
    have h1:=(g1 W g2).symm.trans (k1 W)
    simp only[Result.ok.injEq,Next.value.injEq] at h1
    rw[h1.1]
    exact hvf _ _
  have hrel:=g4.rel
  rw[Az (a:=bj D a) (d:=o.dst) (v:=v) (λt ht hlt=>by rw[jL] at hlt;rw[k2 t ht hlt,hv]),iK,tQ hpr,<- iK] at hrel
  have hbd:=h.xbd
  rw[iK,tQ hpr,<- iK] at hbd
  have hnd:=h.xnd
  rw[List.map_append,List.map_cons,List.nodup_append,List.nodup_cons] at hnd
  have hxne:∀y∈X1++X2,y.ix≠x.ix:=λy hy he=>by
    rcases List.mem_append.1 hy with hy | hy
    · exact hnd.2.2 y.ix (List.mem_map.2 ⟨y,hy,rfl⟩) x.ix (List.mem_cons_self ..) he
    · exact hnd.2.1.1 (List.mem_map.2 ⟨y,hy,he⟩)
  have hsub:∀y∈X1++X2,y∈X1++x::X2:=λy hy=>by
    rw[List.mem_append] at hy |-
    exact hy.imp id (List.mem_cons_of_mem _)
  refine⟨_,_,_,_,X1++X2,⟨h.sz,?_,λp hp=>h.rops p (List.mem_cons_of_mem _ hp),hrn.2,h.dops,h.dnd,λd hd p hp=>h.disj d hd p (List.mem_cons_of_mem _ hp),λi=>?_,λy hy=>?_,?_,hbd,λy hy=>h.xal y (hsub y hy),h.down,
    hrel,h.pdl,h.hold,λd hd=>(h.tag d hd).mono g4.ll g4.kn g4.agr.r (λ_=>g4.hle (λh=>h)),λd hd p hp=>h.apr d hd p (List.mem_cons_of_mem _ hp),h.apd,h.prd,λd hd=>⟨(h.prr d hd).1,λp hp=>(h.prr d hd).2 p (List.mem_cons_of_mem _ hp)⟩,λp hp hlo ha t ht u=>?_,λy hy=>h.ah y (hsub y hy),h.agr.trans g4.agr,g4.dp.trans h.dp,h.x0⟩,g4.den⟩
  · have:=h.cnt
    simp only[List.length_cons,List.length_append] at this |-
    omega
  · rw[h.un i]
    constructor
    · rintro (hd | ⟨⟨p,hp,he⟩,hn⟩)
      · exact .inl hd
      · rcases List.mem_cons.1 hp with rfl | hp
        · exact (hn x (by simp) (hxi.trans he)).elim
        · exact .inr ⟨⟨p,hp,he⟩,λy hy=>hn y (hsub y hy)⟩
    · rintro (hd | ⟨⟨p,hp,he⟩,hn⟩)
      · exact .inl hd
      · refine .inr ⟨⟨p,List.mem_cons_of_mem _ hp,he⟩,λy hy=>?_⟩
        rcases List.mem_append.1 hy with hy | hy
        · exact hn y (List.mem_append_left _ hy)
        · rcases List.mem_cons.1 hy with rfl | hy
          · exact λhh=>hrn.1 (List.mem_map.2 ⟨p,hp,he.trans (hh.symm.trans hxi)⟩)
          · exact hn y (List.mem_append_right _ hy)
  · rcases List.mem_cons.1 (h.xr y (hsub y hy)) with he | hm
    · exact (hxne y hy ((congrArg Prod.snd he).trans hxi.symm)).elim
    · exact hm
  · rw[List.map_append,List.nodup_append]
    exact⟨hnd.1,hnd.2.1.2,λu hu v hv=>hnd.2.2 u hu v (List.mem_cons_of_mem _ hv)⟩
  · have hne:o.dst≠some t:=λhe=>by
      rcases hlo.ne (h.rops _ hin) with h1 | h1
      · exact hrn.1 (List.mem_map.2 ⟨p,hp,h1.symm⟩)
      · exact h1 (he.trans ht.symm)
    rw[g4.tm t hne]
    exact h.al p (List.mem_cons_of_mem _ hp) hlo ha t ht u
theorem C8{i:Nat}{as:List SV}(h:mj S o=some (i,as)):step P S o=.bad:=by
  unfold mj at h
  split at h
  · rename_i c hop
    split at h
    · rename_i f hc
      split at h
      · rename_i j bs hf has
        simp only[step,hop,hc,has,hf]
      · cases h
    · cases h
  · cases h
theorem zf(h:dn o.op=true):mj S o=none:=by
  unfold mj
  split
  · rename_i c hop
    rw[hop] at h
    cases h
  · rfl
theorem CH(h:jg P (step P S o)=true):mj S o=none:=by
  cases hy:mj S o with
  | none=>rfl
  | some q =>
    obtain⟨i,as⟩:=q
    rw[C8 hy] at h
    cases h
theorem ko:∀{ks:List Nat} {nv:Nat} {l:List (Nat × ay)} {f:List (Nat × Pk)} {n:Nat},ex P S nv ks=some (l,f,n)->∀k∈ks,∃o:ay,S.h[k]?=some (some o)
  | [],nv,l,f,n,h,p,hp=>by simp at hp
  | k::r,nv,l,f,n,h,p,hp=>by
    simp only[ex] at h
    split at h
    · cases h
    · rename_i ob hob
      split at h
      · rename_i l' f' n' hh
        rcases List.mem_cons.1 hp with rfl | hp
        · exact⟨ob,oY hob⟩
        · exact ko hh p hp
      · cases h
theorem uY(h:∀f as ty,step P S o≠.call f as ty)(hop:∀x,o.op≠.panic x):qh P hi S o=false:=by
  unfold qh
  split
  · rename_i x hx;exact (hop x hx).elim
  · split
    · rename_i f as ty hst;exact (h f as ty hst).elim
    · rfl
  · rfl
theorem pw{x:Operand}(h:o.op=.panic x):step P S o=.bad:=by
  unfold step
  rw[h]
theorem Cy(h:jg P (step P S o)=true):qh P hi S o=false :=
  uY (λf as ty hc=>by rw[hc] at h;cases h) (λx hx=>by rw[pw hx] at h;cases h)
theorem Av(h:dn o.op=true):qh P hi S o=false :=
  uY (λf as ty hc=>by rcases iB (P:=P) (S:=S) h with h2 | ⟨cs,t,len,h2⟩<;>rw[h2] at hc<;>cases hc) (λx hx=>by rw[hx] at h;cases h)
theorem yZ(h:fi o.op=true):qh P hi S o=false :=
  uY (λf as ty hc=>by rcases kf (P:=P) (S:=S) h with h2 | ⟨v,h2⟩<;>rw[h2] at hc<;>cases hc) (λx hx=>by rw[hx] at h;cases h)
theorem pd{K:St->VC}(hy:mj S o=none)(hsp:qh P hi S o=false)(hp:jg P (step P S o)=false)(h:(cl P hi rid ops bef o ix r S K).den P W0 M R ρ e H L) :
    gj P ops bef S ix r=true/\(dg P hi rid ix S o K).den P W0 M R ρ e H L/\∀p∈S.ll,mg bef p.1 ix=true \/
      ((∀b,j7 P hi rid ix S o ρ H b->(∃k,(∃ob:ay,S.h[k]?=some (some ob))/\ρ k=b/\p.2≠some k)\/((∃q,H b=some q)/\p.2≠none))/\(turned P hi rid ix S o->p.2≠none)):=by
  unfold cl at h
  rw[hy] at h
  dsimp only at h
  rw[if_neg (by rw[hsp];exact Bool.false_ne_true)] at h
  unfold j7 turned
  split at h
  · rename_i hst;rw[hst] at hp;cases hp
  · rename_i hst;rw[hst] at hp;cases hp
  · rename_i hst;rw[hst] at hp;cases hp
  · rename_i cs t len hst
    split at h
    · rename_i hc
      refine⟨hc,h,λp hp=>.inr ⟨λb hb=>?_,λht=>?_⟩⟩
      · simp only[hst] at hb
      · simp only[hst] at ht
    · exact h.elim
  · rename_i k off cs hst
    split at h
    · rename_i hc
      simp only[Bool.and_eq_true] at hc
      refine⟨hc.1,h,λp hp=>?_⟩
      have h2:=hc.2
      unfold rp at h2
      rw[List.all_eq_true] at h2
      have h3:=h2 p hp
      simp only[Bool.or_eq_true] at h3
      refine h3.imp id (λh3=>⟨λb hb=>?_,λht=>?_⟩)
      · simp only[hst] at hb
        unfold dg at h
        rw[hst] at h
        dsimp only at h
        split at h
        · rename_i ob hob
          refine .inl ⟨k,⟨ob,oY hob⟩,hb,λhh=>?_⟩
          rw[hh] at h3
          simp at h3
        · exact h.elim
      · simp only[hst] at ht
    · exact h.elim
  · rename_i f as ty hst
    cases hix:hi.mods.lookup f with
    | some ixs =>
      rw[hix] at h
      dsimp only at h
      split at h
      · rename_i hc
        rw[Bool.and_eq_true,Bool.and_eq_true] at hc
        refine⟨hc.1,h,λp hp=>?_⟩
        have h2:=hc.2.1
        have h5:=hc.2.2
        unfold rp at h2
        rw[List.all_eq_true] at h2
        have h3:=h2 p hp
        simp only[Bool.or_eq_true] at h3
        have h6:hi.turns.contains f=true->mg bef p.1 ix=true\/p.2≠none:=λhto=>by
          rw[hto] at h5
          simp only[Bool.not_true,Bool.false_or] at h5
          unfold iu at h5
          rw[List.all_eq_true] at h5
          have h7:=h5 p hp
          simp only[Bool.or_eq_true] at h7
          exact h7.imp id (λh7 hh=>by rw[hh] at h7;cases h7)
        rcases h3 with h3 | h3
        · exact .inl h3
        by_cases ho:mg bef p.1 ix=true
        · exact .inl ho
        refine .inr ⟨λb hb=>?_,λht=>?_⟩
        · simp only[hst,hix] at hb
          rcases hb with⟨k,hk,he⟩ | ⟨hto,hq⟩
          · unfold dg at h
            rw[hst] at h
            dsimp only at h
            split at h
            · exact h.elim
            · split at h
              · exact h.elim
              · simp only[hix] at h
                split at h
                · rename_i l fr2 nv2 hnc
                  refine .inl ⟨k,ko hnc k hk,he,λhh=>?_⟩
                  rw[hh] at h3
                  simp only[Bool.not_eq_true',List.contains_eq_mem,decide_eq_false_iff_not] at h3
                  exact h3 hk
                · exact h.elim
          · exact .inr ⟨hq,(h6 hto).resolve_left ho⟩
        · simp only[hst] at ht
          exact (h6 ht).resolve_left ho
      · exact h.elim
    | none =>
      rw[hix] at h
      dsimp only at h
      split at h
      · rename_i hc
        rw[Bool.and_eq_true] at hc
        refine⟨hc.1,h,λp hp=>?_⟩
        have h2:=hc.2
        simp only[Bool.or_eq_true,Bool.not_eq_true'] at h2
        rcases h2 with h2 | h2
        · refine .inr ⟨λb hb=>?_,λht=>?_⟩
          · simp only[hst,hix] at hb
            rw[hb.1] at h2;cases h2
          · simp only[hst] at ht
            rw[ht] at h2;cases h2
        · unfold iu at h2
          rw[List.all_eq_true] at h2
          have h3:=h2 p hp
          simp only[Bool.or_eq_true] at h3
          refine h3.imp id (λh3=>⟨λb hb=>?_,λht hn=>?_⟩)
          · simp only[hst,hix] at hb
            exact .inr ⟨hb.2,λhn=>by rw[hn] at h3;cases h3⟩
          · rw[hn] at h3;cases h3
      · exact h.elim
  · rename_i q as ty turns hst
    rw[hst] at hp
    rw[if_neg (show ¬(mb P q as&&ty.isSome&&!turns)=true from λhh=>by
      have hp2:(mb P q as&&ty.isSome&&!turns)=false:=hp
      rw[hh] at hp2;cases hp2)] at h
    split at h
    · rename_i hc
      simp only[Bool.and_eq_true] at hc
      refine⟨hc.1,h,λp hp=>?_⟩
      have h2:=hc.2
      rw[Bool.or_eq_true] at h2
      rcases h2 with h2 | h2
      · rw[Bool.and_eq_true] at h2
        refine .inr ⟨λb hb=>?_,λht=>?_⟩
        · simp only[hst] at hb
          rcases hb.1 with h4 | h4
          · rw[h4] at h2;cases h2.1
          · rw[h4] at h2;cases h2.2
        · simp only[hst] at ht
          rcases ht with h4 | h4
          · rw[h4] at h2;cases h2.1
          · rw[h4] at h2;cases h2.2
      · unfold iu at h2
        rw[List.all_eq_true] at h2
        have h3:=h2 p hp
        simp only[Bool.or_eq_true] at h3
        refine h3.imp id (λh3=>⟨λb hb=>?_,λht hn=>?_⟩)
        · simp only[hst] at hb
          exact .inr ⟨hb.2,λhn=>by rw[hn] at h3;cases h3⟩
        · rw[hn] at h3;cases h3
    · exact h.elim
  · exact h.elim
theorem xf{K:St->VC}(h:(vr P hi rid ops bef o ix r S K).den P W0 M R ρ e H L) :
    (∃f as ty,step P S o=.call f as ty)/\gj P ops bef S ix r=true/\po hi ops=true/\(ry P hi S o K).den P W0 M R ρ e H L/\∀p∈S.ll,mg bef p.1 ix=true \/
      ((∀b,j7 P hi rid ix S o ρ H b->(∃k,(∃ob:ay,S.h[k]?=some (some ob))/\ρ k=b/\p.2≠some k)\/((∃q,H b=some q)/\p.2≠none))/\(turned P hi rid ix S o->p.2≠none)):=by
  unfold vr at h
  unfold j7 turned
  split at h
  · skip
    rename_i f as ty hst
    cases hix:hi.mods.lookup f with
    | some ixs =>
      rw[hix] at h
      dsimp only at h
      split at h
      · rename_i hc
        rw[Bool.and_eq_true] at hc
        have hra:=hc.2
        replace hc:=hc.1
        rw[Bool.and_eq_true,Bool.and_eq_true] at hc
        refine⟨⟨_,_,_,hst⟩,hc.1,hra,h,λp hp=>?_⟩
        have h2:=hc.2.1
        have h5:=hc.2.2
        unfold rp at h2
        rw[List.all_eq_true] at h2
        have h3:=h2 p hp
        simp only[Bool.or_eq_true] at h3
        have h6:hi.turns.contains f=true->mg bef p.1 ix=true\/p.2≠none:=λhto=>by
          rw[hto] at h5
          simp only[Bool.not_true,Bool.false_or] at h5
          unfold iu at h5
          rw[List.all_eq_true] at h5
          have h7:=h5 p hp
          simp only[Bool.or_eq_true] at h7
          exact h7.imp id (λh7 hh=>by rw[hh] at h7;cases h7)
        rcases h3 with h3 | h3
        · exact .inl h3
        by_cases ho:mg bef p.1 ix=true
        · exact .inl ho
        refine .inr ⟨λb hb=>?_,λht=>?_⟩
        · simp only[hst,hix] at hb
          rcases hb with⟨k,hk,he⟩ | ⟨hto,hq⟩
          · unfold ry at h
            split at h
            · exact h.elim
            split at h
            · rename_i x hx;rw[pw hx] at hst;cases hst
            rw[hst] at h
            dsimp only at h
            split at h
            · exact h.elim
            · split at h
              · exact h.elim
              · simp only[hix] at h
                split at h
                · rename_i l fr2 nv2 hnc
                  refine .inl ⟨k,ko hnc k hk,he,λhh=>?_⟩
                  rw[hh] at h3
                  simp only[Bool.not_eq_true',List.contains_eq_mem,decide_eq_false_iff_not] at h3
                  exact h3 hk
                · exact h.elim
          · exact .inr ⟨hq,(h6 hto).resolve_left ho⟩
        · simp only[hst] at ht
          exact (h6 ht).resolve_left ho
      · exact h.elim
    | none =>
      rw[hix] at h
      dsimp only at h
      split at h
      · rename_i hc
        rw[Bool.and_eq_true] at hc
        have hra:=hc.2
        replace hc:=hc.1
        rw[Bool.and_eq_true] at hc
        refine⟨⟨_,_,_,hst⟩,hc.1,hra,h,λp hp=>?_⟩
        have h2:=hc.2
        simp only[Bool.or_eq_true,Bool.not_eq_true'] at h2
        rcases h2 with h2 | h2
        · refine .inr ⟨λb hb=>?_,λht=>?_⟩
          · simp only[hst,hix] at hb
            rw[hb.1] at h2;cases h2
          · simp only[hst] at ht
            rw[ht] at h2;cases h2
        · unfold iu at h2
          rw[List.all_eq_true] at h2
          have h3:=h2 p hp
          simp only[Bool.or_eq_true] at h3
          refine h3.imp id (λh3=>⟨λb hb=>?_,λht hn=>?_⟩)
          · simp only[hst,hix] at hb
            exact .inr ⟨hb.2,λhn=>by rw[hn] at h3;cases h3⟩
          · rw[hn] at h3;cases h3
      · exact h.elim
  · exact h.elim
theorem sP(S:St)(l:List (Nat × Option Nat))(x:Operand):ev { S with ll:=l } x=ev S x:=by cases x<;>rfl
theorem E9(S:St)(l:List (Nat × Option Nat))(xs:List Operand):evs { S with ll:=l } xs=evs S xs:=by
  induction xs with
  | nil=>rfl
  | cons x r ih=>simp only[evs,sP,ih]
theorem BW(S:St)(l:List (Nat × Option Nat))(xs:List (Nat × Operand)):l6 { S with ll:=l } xs=l6 S xs:=by
  induction xs with
  | nil=>rfl
  | cons x r ih =>
    obtain⟨i,x⟩:=x
    simp only[l6,sP,ih]
theorem uG(S:St)(l:List (Nat × Option Nat))(v:SV):lZ { S with ll:=l } v=lZ S v:=rfl
theorem yD(S:St)(l:List (Nat × Option Nat))(v:Option Operand):kN { S with ll:=l } v=kN S v:=by
  cases v<;>simp only[kN,rQ,sP,uG]
theorem yV(S:St)(l:List (Nat × Option Nat))(v:Option Operand):iy { S with ll:=l } v=iy S v:=by
  cases v<;>simp only[iy,sP,uG]
theorem Dx(P:Program)(S:St)(l:List (Nat × Option Nat))(o:Oper):step P { S with ll:=l } o=step P S o:=by
  have h1:ev { S with ll:=l }=ev S:=funext (sP S l)
  have h2:lZ { S with ll:=l }=lZ S:=rfl
  unfold step
  simp only[h1,h2,E9,BW,yD,yV]
theorem E6(hf:jO ops bef){K:St->VC}(G:Prop)
    (hend:∀S D Xi ρ e H,Inv Df X0 P W0 M B dp ops fuel listed [] S D Xi a W ρ e H->(K S).den P W0 M R ρ e H L->G)
    (hhead:∀o ix r S D Xi ρ e H S1,Inv Df X0 P W0 M B dp ops fuel listed ((o,ix)::r) S D Xi a W ρ e H->(gr P hi rid ops bef ((o,ix)::r) S K).den P W0 M R ρ e H L->Inv Df X0 P W0 M B dp ops fuel listed ((o,ix)::r) S1 D Xi a W ρ e H ->
      og ((o,ix)::r) o=true->Region.wanted o (yielded ops (bj D a).tmps)=true->(∀x∈Xi,x.ix≠ix)->jg P (step P S1 o)=false->(cl P hi rid ops bef o ix r S1 λS=>gr P hi rid ops bef r S K).den P W0 M R ρ e H L->G) :
    ∀(r:List (Oper × Nat)) (S:St) (D:List Pd) (Xi:List Ah) (ρ:Nat->Nat) (e:Env) (H:Hp),Inv Df X0 P W0 M B dp ops fuel listed r S D Xi a W ρ e H->(gr P hi rid ops bef r S K).den P W0 M R ρ e H L->G:=by
  intro r
  induction r with
  | nil=>exact λS D Xi ρ e H h hd=>hend S D Xi ρ e H h hd
  | cons p r ih =>
    obtain⟨o,ix⟩:=p
    intro S D Xi ρ e H h hd
    have hd0:=hd
    rw[gr] at hd
    split at hd
    · exact hd.elim
    · rename_i hr1
      simp only[Bool.not_eq_true,Bool.not_eq_false'] at hr1
      have sub:∀S1,Inv Df X0 P W0 M B dp ops fuel listed ((o,ix)::r) S1 D Xi a W ρ e H->Region.wanted o (yielded ops (bj D a).tmps)=true->(cl P hi rid ops bef o ix r S1 λS=>gr P hi rid ops bef r S K).den P W0 M R ρ e H L->G:=λS1 h1 hw hd1=>by
        by_cases hx:∃x∈Xi,x.ix=ix
        · obtain⟨x,hx,hxi⟩:=hx
          have hxo:x.o=o:=by
            rcases List.mem_cons.1 (h.xr x hx) with he | hm
            · exact congrArg Prod.fst he
            · have hrn:=h.rnd
              simp only[List.map_cons,List.nodup_cons] at hrn
              exact (hrn.1 (List.mem_map.2 ⟨_,hm,hxi⟩)).elim
          cases hpr:x.pr with
          | true =>
            have hbu:=((h.xal x hx).2.2 hpr).1
            rw[hxo] at hbu
            have hd2:(dg P hi rid ix S1 o λS=>gr P hi rid ops bef r S K).den P W0 M R ρ e H L:=by
              unfold cl at hd1
              rw[vU hbu] at hd1
              dsimp only at hd1
              rw[if_neg (by rw[yZ hbu];exact Bool.false_ne_true)] at hd1
              rcases kf (P:=P) (S:=S1) hbu with h2 | ⟨sv,h2⟩
              · rw[h2] at hd1
                exact hd1.elim
              · simp only[h2] at hd1
                split at hd1
                · exact hd1
                · exact hd1.elim
            obtain⟨S',ρ',e',H',Xi',h3,h4⟩:=h1.tookP hx hxi hpr hd2
            exact ih S' D Xi' ρ' e' H' h3 h4
          | false =>
          have hal:=((h.xal x hx).2.1 hpr).1
          rw[hxo] at hal
          have hnp:jg P (step P S1 o)=false:=by
            rcases iB (P:=P) (S:=S1) hal with h2 | ⟨cs,t,len,h2⟩<;>rw[h2]<;>rfl
          obtain⟨_,hd2,_⟩:=pd (zf hal) (Av hal) hnp hd1
          obtain⟨S',ρ',Xi',h3,h4⟩:=h1.took hf hx hxi hpr hd2
          exact ih S' D Xi' ρ' e H h3 h4
        · have hx':∀x∈Xi,x.ix≠ix:=λx hxm he=>hx ⟨x,hxm,he⟩
          cases hpu:jg P (step P S1 o) with
          | false=>exact hhead o ix r S D Xi ρ e H S1 h hd0 h1 hr1 hw hx' hpu hd1
          | true =>
            have key:∀S2,Inv Df X0 P W0 M B dp ops fuel listed ((o,ix)::r) S2 D Xi a W ρ e H->jg P (step P S2 o)=true->(∀i off t kn,step P S2 o=.ld i off t kn->(ix,kn.map λ_=>i)∈S2.ll\/(kn=none/\Ep W0 M (e i).ptr))->fq ops o ix r=true ->
                (∀q as ty turns,step P S2 o=.esc q as ty turns->qK e as) ->
                (dg P hi rid ix S2 o λS=>gr P hi rid ops bef r S K).den P W0 M R ρ e H L->G:=λS2 h2 hpu2 hll hap hct hd2=>by
              obtain⟨v,need,S',ρ',e',H',g1,g2,g3,g4⟩:=uH hpu2 hd2 h2.rel hll hct
              exact ih S' _ Xi ρ' e' H' (h2.push hf hx' hr1 hap (.inl ⟨hw,g1⟩) g2 g3 g4) g4.den
            unfold cl at hd1
            rw[CH hpu] at hd1
            dsimp only at hd1
            rw[if_neg (by rw[Cy hpu];exact Bool.false_ne_true)] at hd1
            split at hd1
            · rename_i cs v hst
              split at hd1
              · rename_i hap
                exact key S1 h1 hpu (λi off t kn hk=>by rw[hst] at hk;cases hk) hap (λq as ty turns hk=>by rw[hst] at hk;cases hk) hd1
              · exact hd1.elim
            · rename_i x vs hst
              split at hd1
              · rename_i hap
                exact key S1 h1 hpu (λi off t kn hk=>by rw[hst] at hk;cases hk) hap (λq as ty turns hk=>by rw[hst] at hk;cases hk) hd1
              · exact hd1.elim
            · rename_i i off t kn hst
              split at hd1
              · rename_i hap
                split at hd1
                · rename_i hod
                  simp only[Bool.and_eq_true,Option.isNone_iff_eq_none] at hod
                  refine key S1 h1 hpu (λi' off' t' kn' hk=>?_) hap (λq as ty turns hk=>by rw[hst] at hk;cases hk) hd1.2
                  rw[hst] at hk
                  injection hk with e1 e2 e3 e4
                  subst e1;subst e4
                  exact .inr ⟨hod.1,hd1.1⟩
                have hst2:step P { S1 with ll:=(ix,kn.map λ_=>i)::S1.ll } o=step P S1 o:=Dx ..
                refine key _ (h1.ll _) (by rw[hst2];exact hpu) (λi' off' t' kn' hk=>?_) hap (λq as ty turns hk=>by rw[hst2,hst] at hk;cases hk) hd1
                rw[hst2,hst] at hk
                injection hk with e1 e2 e3 e4
                subst e1;subst e4
                exact .inl (List.mem_cons_self ..)
              · exact hd1.elim
            · rename_i hst;rw[hst] at hpu;cases hpu
            · rename_i hst;rw[hst] at hpu;cases hpu
            · rename_i hst;rw[hst] at hpu;cases hpu
            · rename_i q as ty turns hst
              have hpu2:=hpu
              rw[hst] at hpu2
              rw[if_pos (show (mb P q as&&ty.isSome&&!turns)=true from hpu2)] at hd1
              split at hd1
              · rename_i hap
                obtain⟨hc1,hc2⟩:=u9 hd1
                refine key S1 h1 hpu (λi off t kn hk=>by rw[hst] at hk;cases hk) hap (λq' as' ty' turns' hk=>?_) hc2
                rw[hst] at hk
                injection hk with e1 e2 e3 e4
                rw[<- e2]
                exact hc1
              · exact hd1.elim
            · exact hd1.elim
      have unw:∀S1,Inv Df X0 P W0 M B dp ops fuel listed ((o,ix)::r) S1 D Xi a W ρ e H->Region.wanted o (yielded ops (bj D a).tmps)=false->fq ops o ix r=true->(gr P hi rid ops bef r (S1.put o.dst .undef) K).den P W0 M R ρ e H L->(∀x∈Xi,x.ix≠ix)->G:=λS1 h1 hw hap hd1 hx=>by
        refine ih _ _ Xi ρ e H (h1.push (S':=S1.put o.dst .undef) (ρ':=ρ) (e':=e) (H':=H) (K:=λS=>gr P hi rid ops bef r S K) (v:=Go.undef) (need:=none) (R:=R) (L:=L) hf hx hr1 hap (.inr ⟨hw,rfl⟩) trivial trivial ⟨aF ..,(Agr.self S1 ρ e).put _ _,hd1,h1.rel.put o.dst .undef,bY ..,λt ht=>bZ _ _ _ _ ht,λk ob hk=>⟨ob,by rw[eb];exact hk⟩,λ_=>Hp.le_refl H,λ_ _ hb _=>hb⟩) hd1
      have guarded:∀x∈Xi,x.ix=ix->Region.wanted o (yielded ops (bj D a).tmps)=true:=λx hx hxi=>by
        have hxo:x.o=o:=by
          rcases List.mem_cons.1 (h.xr x hx) with he | hm
          · exact congrArg Prod.fst he
          · have hrn:=h.rnd
            simp only[List.map_cons,List.nodup_cons] at hrn
            exact (hrn.1 (List.mem_map.2 ⟨_,hm,hxi⟩)).elim
        have hg:=(h.ah x hx).2.2
        rw[hxo] at hg
        exact hg
      split at hd
      · rename_i hg
        exact sub S h (nN hg _) hd
      · rename_i hg
        split at hd
        · rename_i hap
          exact unw S h (pk h.rel.tm hg) hap hd (λx hx hxi=>by have h9:=guarded x hx hxi;rw[pk h.rel.tm hg] at h9;cases h9)
        · exact hd.elim
      · rename_i c want hg
        have hwc:=pA h.rel.tm hg
        obtain⟨S1,h1,h2,h5⟩:=kv hd h.rel
        have hw:(if want then c else Sb.not c).den e=(c.den e==want):=by
          cases want<;>simp[Sb.den]
        rw[hw] at h5
        rcases h5 with⟨h5,h6⟩ | ⟨h5,h6⟩
        · exact sub S1 (h.sim h2 h1) (by rw[hwc,h5]) h6
        · split at h6
          · rename_i hap
            exact unw S1 (h.sim h2 h1) (by rw[hwc,h5]) hap h6 (λx hx hxi=>by have h9:=guarded x hx hxi;rw[hwc,h5] at h9;cases h9)
          · exact h6.elim
      · exact hd.elim
end
end
section
variable{Df:List Deferred}
section
variable{rd:Option Nat}{X0:List (Nat × Obj)}{P:Program}{W0:World}{M:Nat->Prop}{R:Ending->World->Prop}{hi:dq}{L:List (List Dat->Hp->Prop)}{B:ir}{dp:Nat}{ops:Array Oper}{bef:List Nat}{fuel:Nat}{listed:Array Bool}{r:List (Oper × Nat)}{S S':St}{D:List Pd}{Xi:List Ah}{a:Act}{W:World}{ρ ρ':Nat->Nat}{e e':Env}{H H':Hp}{o:Oper}{ix rid:Nat}{Q:Exit->Act->World->Prop}
theorem ni(h:Inv Df X0 P W0 M B dp ops fuel listed r S D Xi a W ρ e H){i:Nat}{oi:Oper}(ho:ops[i]?=some oi)(hp:∀q∈am oi,listed[q]?=some true) :
    ∀(j:Nat) (o:Oper),(listed.setIfInBounds i true)[j]?=some true->ops[j]?=some o->∀q∈am o,(listed.setIfInBounds i true)[q]?=some true:=by
  intro j o hj hoj q hq
  rw[pj (h.lt ho)] at hj |-
  split
  · rfl
  · split at hj
    · rename_i hij
      subst hij
      rw[ho] at hoj
      simp only[Option.some.injEq] at hoj
      subst hoj
      exact hp q hq
    · exact h.down j o hj hoj q hq
theorem r7{i:Nat}(hi:i<listed.size)(j:Nat):(listed.setIfInBounds i true)[j]?=some false↔j≠i/\listed[j]?=some false:=by
  rw[pj hi]
  split
  · rename_i hij
    simp[hij]
  · rename_i hij
    exact⟨λhh=>⟨λh=>hij h.symm,hh⟩,λhh=>hh.2⟩
theorem oW{listed:Array Bool}{d:Pd}{o:Oper}(hd:listed[d.ix]?=some false)(hp:∀q∈am o,listed[q]?=some true)(h:d.ix∈am o\/Oper.apart ops d.o o=true):Oper.apart ops d.o o=true:=by
  rcases h with h | h
  · rw[hp _ h] at hd;cases hd
  · exact h
theorem va{f g:Operand->Value}{post:Value->World->Prop}(he:execOp f o=execOp g o)(h:np P f o W post):np P g o W post:=by
  unfold np at *
  rw[<- he]
  exact h
theorem yX(hdf:∀(i:Nat) (o:Oper),ops[i]?=some o->gl o.op=true)(hf:jO ops bef)(h:Inv Df X0 P W0 M B dp ops (fuel+1) listed r S D Xi a W ρ e H){d:Pd}(hd:d∈D)(hp:∀q∈am d.o,listed[q]?=some true){next:Act->World->Prop}
    (hn:∀D' a',Inv Df X0 P W0 M B dp ops fuel (listed.setIfInBounds d.ix true) r S D' Xi a' W ρ e H->next a' W):wpOpIn (Fw rd) 0 P ops Q d.ix next a W:=by
  have ho:=h.dops d hd
  have hlt:=h.lt ho
  obtain⟨D1,D2,rfl⟩:=List.append_of_mem hd
  have hapd:=h.apd
  rw[List.pairwise_append,List.pairwise_cons] at hapd
  have hin2:∀d2∈D2,d2∈D1++d::D2:=λd2 h2=>List.mem_append_right _ (List.mem_cons_of_mem _ h2)
  have hap:∀d2∈D2,(∀t,d2.o.dst=some t->t ∉ d.o.looksAt ops)/\(∀t,d2.o.dst=some t->d.o.dst≠some t)/\(∀t,d.o.dst=some t->t ∉ d2.o.looksAt ops):=λd2 h2 =>
    Oper.apart_spec (oW (h.du (hin2 d2 h2)) hp (hapd.2.1.1 d2 h2))
  have hsel:∀d'∈D1++d::D2,∀cs b,d'.o.op≠.select cs b:=λd' hd cs b=>hf.sel _ _ cs b (h.dops d' hd)
  have hpend:=PdL.at h.pdl
  unfold rS at hpend
  rw[iR (ops:=ops) (hsel d hd) a (λd2 h2=>(hap d2 h2).1),eu (ops:=ops) a (λd2 h2=>(hap d2 h2).1)] at hpend
  have hputs:bj (D1++D2) (a.put d.o.dst d.v)=bj (D1++d::D2) a:=by
    rw[mP,mP,bj,jZ d.v a (λd2 h2=>(hap d2 h2).2.1)]
  have hsub:∀d'∈D1++D2,d'∈D1++d::D2:=λd' hd'=>by
    rw[List.mem_append] at hd' |-
    exact hd'.imp id (List.mem_cons_of_mem _)
  have hnd:=h.dnd
  rw[List.map_append,List.map_cons,List.nodup_append,List.nodup_cons] at hnd
  have hne:∀d'∈D1++D2,d'.ix≠d.ix:=λd' hd' he=>by
    rcases List.mem_append.1 hd' with hh | hh
    · exact hnd.2.2 d'.ix (List.mem_map.2 ⟨d',hh,rfl⟩) d.ix (List.mem_cons_self ..) he
    · exact hnd.2.1.1 (List.mem_map.2 ⟨d',hh,he⟩)
  have hpw:∀{r:Pd->Pd->Prop},(D1++d::D2).Pairwise r->(D1++D2).Pairwise r:=λ{r} hh=>by
    rw[List.pairwise_append,List.pairwise_cons] at hh
    rw[List.pairwise_append]
    exact⟨hh.1,hh.2.1.2,λx hx y hy=>hh.2.2 x hx y (List.mem_cons_of_mem _ hy)⟩
  have hinv:Inv Df X0 P W0 M B dp ops fuel (listed.setIfInBounds d.ix true) r S (D1++D2) Xi (a.put d.o.dst d.v) W ρ e H:=by
    refine⟨by simp[h.sz],?_,h.rops,h.rnd,λd' hd'=>h.dops d' (hsub d' hd'),?_,λd' hd'=>h.disj d' (hsub d' hd'),λi=>?_,h.xr,h.xnd,h.xbd,h.xal,ni h ho hp,by rw[hputs];exact h.rel,
      PdL.mid (λd2 h2=>hsel d2 (hin2 d2 h2)) (λd2 h2=>(hap d2 h2).2.2) (λd2 h2=>(hap d2 h2).2.1) h.pdl,λd' hd'=>h.hold d' (hsub d' hd'),λd' hd'=>h.tag d' (hsub d' hd'),λd' hd'=>h.apr d' (hsub d' hd'),hpw h.apd,hpw h.prd,
      λd' hd'=>h.prr d' (hsub d' hd'),h.al,λx hx=>?_,h.agr,h.dp,h.x0⟩
    · have:=h.cnt
      simp only[List.length_append,List.length_cons] at this |-
      omega
    · rw[List.map_append,List.nodup_append]
      exact⟨hnd.1,hnd.2.1.2,λu hu v hv=>hnd.2.2 u hu v (List.mem_cons_of_mem _ hv)⟩
    · rw[r7 hlt,h.un i]
      constructor
      · rintro⟨hi,⟨d',hd',he⟩ | hr⟩
        · refine .inl ⟨d',?_,he⟩
          rw[List.mem_append,List.mem_cons] at hd'
          rw[List.mem_append]
          rcases hd' with hh | rfl | hh
          · exact .inl hh
          · exact (hi he.symm).elim
          · exact .inr hh
        · exact .inr hr
      · rintro (⟨d',hd',he⟩ | ⟨⟨p,hp',he⟩,hx⟩)
        · exact⟨λhh=>hne d' hd' (he.trans hh),.inl ⟨d',hsub d' hd',he⟩⟩
        · exact⟨λhh=>h.disj d hd p hp' (hh.symm.trans he.symm),.inr ⟨⟨p,hp',he⟩,hx⟩⟩
    · obtain⟨g1,g2,g3⟩:=h.ah x hx
      rw[hputs]
      refine⟨g1,λt ht hlt'=>g2 t ht ?_,g3⟩
      cases hdd:d.o.dst<;>simpa [Act.put,hdd] using hlt'
  have hnx:=hn _ _ hinv
  unfold wpOpIn
  simp only[ho]
  rcases hpend with⟨hw,hrun⟩ | ⟨hw,hv⟩
  · rw[if_pos hw]
    refine lY (hdf _ _ ho) ?_
    unfold Oper.wp
    rw[hrun W (h.hold d hd)]
    exact hnx
  · rw[hw,if_neg Bool.false_ne_true,<- hv]
    exact⟨λ_ _=>trivial,hnx⟩
theorem vW(hdf:∀(i:Nat) (o:Oper),ops[i]?=some o->gl o.op=true)(hf:jO ops bef)(h:Inv Df X0 P W0 M B dp ops (fuel+1) listed r S D Xi a W ρ e H){i:Nat}(hi':(o,i)∈r)(hxi:∀x∈Xi,x.ix≠i)(hp:∀q∈am o,listed[q]?=some true)(hal:dn o.op=true)(hg:Region.wanted o (yielded ops (bj D a).tmps)=true)
    {S1:St} (h1:Inv Df X0 P W0 M B dp ops (fuel+1) listed r S1 D Xi a W ρ e H) (hnew:DK (step P S1 o)=true) {next:Act->World->Prop}
    (hn:∀Xi' a' W',Inv Df X0 P W0 M B dp ops fuel (listed.setIfInBounds i true) r S D Xi' a' W' ρ e H->next a' W'):wpOpIn (Fw rd) 0 P ops Q i next a W:=by
  have ho:=h.rops _ hi'
  have hlt:=h.lt ho
  have hdl:∀d∈D,(∀t,d.o.dst=some t->t ∉ o.looksAt ops)/\(∀t,d.o.dst=some t->o.dst≠some t)/\(∀t,o.dst=some t->t ∉ d.o.looksAt ops):=λd hd =>
    Oper.apart_spec (oW (h.du hd) hp (h.apr d hd _ hi'))
  have hsel:∀d∈D,∀cs b,d.o.op≠.select cs b:=λd hd cs b=>hf.sel _ _ cs b (h.dops d hd)
  have hso:∀cs b,o.op≠.select cs b:=λcs b=>hf.sel _ _ cs b ho
  rcases iB (P:=P) (S:=S1) hal with hst | ⟨cs,t,len,hst⟩
  · rw[hst] at hnew;cases hnew
  have hs:=λw=>hU (P:=P) (W:=w) (o:=o) h1.rel.toT
  simp only[hst] at hs
  have hs':∀w,(execOp (bj D a).eval o).run P w=_:=hs
  have hrun:=hs' W
  rw[iR (ops:=ops) hso a (λd hd=>(hdl d hd).1)] at hrun
  have hu:listed[i]?=some false:=h.pu hi' hxi
  have hputs:∀v,bj D (a.put o.dst v)=(bj D a).put o.dst v:=λv=>jZ v a (λd hd=>(hdl d hd).2.1)
  have hlo:=hf.allocL ho hal
  have hinv:∀(vf:Nat->Value),(∀b,su (vf b)=false)->(∀w,(execOp (bj D a).eval o).run P w=.ok (.value (vf w.heap.size)) (w.alloc (.cells (SV.dens ρ e cs).toArray t (0,0)))) ->
      Inv Df X0 P W0 M B dp ops fuel (listed.setIfInBounds i true) r S D (⟨i,o,W.heap.size,.cells (SV.dens ρ e cs).toArray t (0,0),vf,false⟩::Xi) (a.put o.dst (vf W.heap.size)) (W.alloc (.cells (SV.dens ρ e cs).toArray t (0,0))) ρ e H:=λvf hag hvf=>by
    refine⟨by simp[h.sz],?_,h.rops,h.rnd,h.dops,h.dnd,h.disj,λj=>?_,λx hx=>?_,?_,?_,λx hx=>?_,ni h ho hp,?_,PdL.put _ hsel (λd hd=>(hdl d hd).2.2) (λd hd=>(hdl d hd).2.1) h.pdl,λd hd=>?_,h.tag,h.apr,h.apd,h.prd,h.prr,h.al,λx hx=>?_,h.agr,h.dp,h.x0⟩
    · have:=h.cnt;simp only[List.length_cons];omega
    · rw[r7 hlt,h.un j]
      constructor
      · rintro⟨hj,hh | ⟨hh,hx⟩⟩
        · exact .inl hh
        · refine .inr ⟨hh,λx hxm=>?_⟩
          rcases List.mem_cons.1 hxm with rfl | hxm
          · exact λh=>hj h.symm
          · exact hx x hxm
      · rintro (⟨d,hd,he⟩ | ⟨hh,hx⟩)
        · exact⟨λhj=>h.disj d hd _ hi' (he.trans hj),.inl ⟨d,hd,he⟩⟩
        · exact⟨λhj=>hx _ (List.mem_cons_self ..) hj.symm,.inr ⟨hh,λx hxm=>hx x (List.mem_cons_of_mem _ hxm)⟩⟩
    · rcases List.mem_cons.1 hx with rfl | hx
      · exact hi'
      · exact h.xr x hx
    · simp only[List.map_cons,List.nodup_cons]
      refine⟨λhm=>?_,h.xnd⟩
      obtain⟨x,hx,he⟩:=List.mem_map.1 hm
      exact hxi x hx he
    · rw[ug rfl,List.map_cons,List.nodup_cons]
      refine⟨λhm=>?_,h.xbd⟩
      obtain⟨x,hx,he⟩:=List.mem_map.1 hm
      have:=ag (h.rel.mem.xk x (List.mem_append_left _ hx))
      simp only at he
      omega
    · rcases List.mem_cons.1 hx with rfl | hx
      · exact⟨hlo,λ_=>⟨hal,hag,rfl⟩,λhh=>(by cases hh)⟩
      · exact h.xal x hx
    · rw[hputs,ug rfl]
      exact h.rel.ahead (λt' ht' u=>h.al _ hi' hlo (by rw[hal];rfl) t' ht' u) _ (λ_ hh=>by cases hh)
    · have:=h.hold d hd
      cases hnd:d.need with
      | none=>trivial
      | some q =>
        rw[hnd] at this
        simp only[holds] at this |-
        rw[Below.heap_alloc _ _ _ (ag this)]
        exact this
    · rw[hputs]
      rcases List.mem_cons.1 hx with rfl | hx
      · have hown:∀t',o.dst=some t'->t' ∉ o.looksAt ops:=λt' ht' hm=>by
          obtain⟨_,bef',_,hq⟩:=hlo
          exact ((hq _ _ ho).2 t' ht' hm).1 rfl
        refine⟨λw=>?_,λt' ht' hlt'=>?_,?_⟩
        rotate_left 2
        · have h4:=eu (ops:=ops) (D := [⟨i,o,vf W.heap.size,none⟩]) (o:=o) (bj D a) (λd hd=>by
            simp only[List.mem_singleton] at hd
            subst hd
            exact hown)
          exact h4.trans hg
        · rw[execOp_put (ops:=ops) o hso _ _ _ hown]
          exact hvf w
        · have ht2:o.dst=some t':=ht'
          simp only[Act.put,ht2] at hlt' |-
          rw[Array.getElem?_setIfInBounds,if_pos rfl,if_pos (by simpa [jL] using hlt')]
      · obtain⟨g1,g2,g3⟩:=sE hf h ho hu (vf W.heap.size) hx
        refine⟨g1,λt' ht' hlt'=>g2 t' ht' ?_,g3⟩
        cases hdd:o.dst<;>simpa [Act.put,hdd] using hlt'
  unfold wpOpIn
  simp only[ho]
  have hw:Region.wanted o (yielded ops a.tmps)=true:=by rw[<- eu (ops:=ops) a (λd hd=>(hdl d hd).1)];exact hg
  rw[if_pos hw]
  refine lY (hdf _ _ ho) ?_
  unfold Oper.wp
  rw[hrun]
  cases len with
  | none=>exact hn _ _ _ (hinv (λb=>.pointer (some ⟨b,0,none⟩)) (λ_=>rfl) hs')
  | some n=>exact hn _ _ _ (hinv (λb=>.slice (some ⟨b,0,none⟩) n n) (λ_=>rfl) hs')
theorem lf{X:List (Nat × Obj)}{a:Act}(hr:Rel Df W0 M S ρ e X H a W)(h:jt ops.toList S o=true):Region.wanted o (yielded ops a.tmps)=true:=by
  unfold jt at h
  split at h
  · rename_i hg;exact nN hg _
  · rename_i c want hg
    rw[pA hr.tm hg,mt hr.pc (by simpa using h)]
    simp
  · cases h
def wJ(u v:Option SV):Prop:=u=v\/∃x y,u=some (.c x)/\v=some (.c y)/\su x=false/\su y=false
def l7(l m:List (Option SV)):Prop:=l.length=m.length/\∀t:Nat,wJ (l[t]?).join (m[t]?).join
inductive pN:List (Nat × SV)->List (Nat × SV)->Prop
  | nil:pN [] []
  | cons {i:Nat} {u v:SV} {l m:List (Nat × SV)}:wJ (some u) (some v)->pN l m->pN ((i,u)::l) ((i,v)::m)
theorem l7.set{l m:List (Option SV)}(h:l7 l m)(t:Nat){x y:Value}(hx:su x=false)(hy:su y=false):l7 (l.set t (some (.c x))) (m.set t (some (.c y))):=by
  refine⟨by simp[h.1],λu=>?_⟩
  rw[List.getElem?_set,List.getElem?_set,h.1]
  by_cases hu:t=u
  · rw[if_pos hu,if_pos hu]
    split
    · exact .inr ⟨x,y,rfl,rfl,hx,hy⟩
    · exact .inl rfl
  · rw[if_neg hu,if_neg hu]
    exact h.2 u
theorem lw{ps:List Nat}:∀(r:List (Oper × Nat)) {l m:List (Option SV)},l7 l m->fQ ρ e m a ->
    (∀q∈r,dn q.1.op=true->q.2∈ps->∀t,q.1.dst=some t->t<a.tmps.size->∃v,su v=false/\a.tmps[t]?=some v)->∃m',fQ ρ e m' a/\l7 (ml l ps r) m'
  | [],l,m,h,hr,_=>⟨m,hr,h⟩
  | q::r,l,m,h,hr,hq=>by
    have hq':=λq' (h':q'∈r)=>hq q' (List.mem_cons_of_mem _ h')
    unfold ml
    split
    · rename_i hc
      simp only[Bool.and_eq_true,List.contains_iff_mem] at hc
      split
      · rename_i t ht
        by_cases hlt:t<a.tmps.size
        · obtain⟨v,hv,hat⟩:=hq q (List.mem_cons_self ..) hc.1 hc.2 t ht hlt
          refine lw r (h.set t (x:=.slice none 0 0) (y:=v) rfl hv) ⟨by simp[hr.1],λu w hu=>?_⟩ hq'
          rw[List.getElem?_set] at hu
          split at hu
          · rename_i htu
            subst htu
            split at hu
            · simp only[Option.some.injEq] at hu
              subst hu
              exact hat
            · cases hu
          · exact hr.2 u w hu
        · have hl:∀x,l.set t x=l:=λx=>List.set_eq_of_length_le (by rw[h.1,<- hr.1];exact Nat.not_lt.1 hlt)
          rw[hl]
          exact lw r h hr hq'
      · exact lw r h hr hq'
    · exact lw r h hr hq'
theorem l9{S1 S2:St}(h:l7 S1.tm S2.tm):∀{ps:List (Nat × Operand)} {l:List (Nat × SV)},l6 S1 ps=some l->∃m,l6 S2 ps=some m/\pN l m
  | [],l,hl=>by
    simp only[l6,Option.some.injEq] at hl
    subst hl
    exact⟨[],rfl,.nil⟩
  | (i,x)::r,l,hl=>by
    simp only[l6] at hl
    split at hl
    · rename_i u us hu hus
      simp only[Option.some.injEq] at hl
      subst hl
      obtain⟨m,hm,ham⟩:=l9 h hus
      have:∃v,ev S2 x=some v/\wJ (some u) (some v):=by
        cases x with
        | tmp t =>
          have ht:=h.2 t
          simp only[ev] at hu |-
          rw[hu] at ht
          rcases ht with ht | ⟨a,b,h1,h2,h3,h4⟩
          · exact⟨u,ht.symm,.inl rfl⟩
          · exact⟨.c b,h2,.inr ⟨a,b,h1,rfl,h3,h4⟩⟩
        | const c=>exact⟨u,hu,.inl rfl⟩
        | func f=>exact⟨u,hu,.inl rfl⟩
        | global g=>exact⟨u,hu,.inl rfl⟩
      obtain⟨v,hv,hav⟩:=this
      exact⟨(i,v)::m,by simp only[l6,hv,hm],.cons hav ham⟩
    · cases hl
theorem tL{u v:SV}(h:wJ (some u) (some v)){l:List SV}(hl:cz u=some l):∃m,cz v=some m/\m.length=l.length:=by
  rcases h with h | ⟨x,y,h1,h2,h3,h4⟩
  · simp only[Option.some.injEq] at h
    subst h
    exact⟨l,hl,rfl⟩
  · simp only[Option.some.injEq] at h1 h2
    subst h1 h2
    have hx:cz (.c x)=some [.c x]:=by
      cases x<;>first | rfl | (simp only[su] at h3;cases h3)
    have hy:cz (.c y)=some [.c y]:=by
      cases y<;>first | rfl | (simp only[su] at h4;cases h4)
    rw[hx] at hl
    simp only[Option.some.injEq] at hl
    subst hl
    exact⟨_,hy,rfl⟩
theorem ky:∀(vs cs:List SV) (off:Nat),(bW cs off vs).length=cs.length
  | [],_,_=>rfl
  | v::r,cs,off=>by
    rw[bW,ky r,List.length_set]
theorem oF{place:Nat->Option (Nat × Nat)}{l m:List (Nat × SV)}(h:pN l m):∀{cs ds cs':List SV},cs.length=ds.length->lU place cs l=some cs'->∃ds',lU place ds m=some ds':=by
  induction h with
  | nil=>exact λ_ _=>⟨_,rfl⟩
  | cons hu _ ih =>
    intro cs ds cs' hlen hf
    simp only[lU] at hf |-
    split at hf
    · rename_i off n vs hp hv
      split at hf
      · rename_i hc
        obtain⟨ws,hw,hwl⟩:=tL hu hv
        simp only[hp,hw]
        rw[if_pos ⟨by omega,by omega⟩]
        exact ih (by rw[ky,ky,hlen]) hf
      · cases hf
    · cases hf
theorem vu{S1 S2:St}(h:l7 S1.tm S2.tm)(hb:fi o.op=true)(hv:zF (step P S1 o)=true):∃v,step P S2 o=.val [] v:=by
  unfold fi at hb
  split at hb
  · rename_i t ps hop
    simp only[step,hop] at hv |-
    split at hv
    · rename_i l zs fs hl hz hu
      obtain⟨m,hm,ham⟩:=l9 h hl
      simp only[hm,hz,hu]
      split at hv
      · rename_i pl hpl
        split at hv
        · rename_i cs hcs
          obtain⟨ds,hds⟩:=oF ham rfl hcs
          simp only[hds]
          exact⟨_,rfl⟩
        · cases hv
      · cases hv
    · rename_i l zs n el hl hz hu
      obtain⟨m,hm,ham⟩:=l9 h hl
      simp only[hm,hz,hu]
      split at hv
      · rename_i sz hsz
        split at hv
        · rename_i cs hcs
          obtain⟨ds,hds⟩:=oF ham rfl hcs
          simp only[hds]
          exact⟨_,rfl⟩
        · cases hv
      · cases hv
    · cases hv
  · cases hb
theorem xB{q:Op}(h:fi q=true):dn q=false:=by
  unfold fi at h
  split at h
  · rfl
  · cases h
theorem tE(hdf:∀(i:Nat) (o:Oper),ops[i]?=some o->gl o.op=true)(hf:jO ops bef)(h:Inv Df X0 P W0 M B dp ops (fuel+1) listed r S D Xi a W ρ e H){i:Nat}(hi':(o,i)∈r)(hxi:∀x∈Xi,x.ix≠i)(hp:∀q∈am o,listed[q]?=some true)(hbu:fi o.op=true)(hlo:ql ops o i)(hg:Region.wanted o (yielded ops (bj D a).tmps)=true)
    {S1:St} {r1:List (Oper × Nat)} (hr1:∀q∈r1,q∈r) (h1:Inv Df X0 P W0 M B dp ops (fuel+1) listed r S1 D Xi a W ρ e H) (hval:zF (step P { S1 with tm:=ml S1.tm (am o) r1 } o)=true) {next:Act->World->Prop}
    (hn:∀Xi' a',Inv Df X0 P W0 M B dp ops fuel (listed.setIfInBounds i true) r S D Xi' a' W ρ e H->next a' W):wpOpIn (Fw rd) 0 P ops Q i next a W:=by
  have ho:=h.rops _ hi'
  have hlt:=h.lt ho
  have hdl:∀d∈D,(∀t,d.o.dst=some t->t ∉ o.looksAt ops)/\(∀t,d.o.dst=some t->o.dst≠some t)/\(∀t,o.dst=some t->t ∉ d.o.looksAt ops):=λd hd =>
    Oper.apart_spec (oW (h.du hd) hp (h.apr d hd _ hi'))
  have hsel:∀d∈D,∀cs b,d.o.op≠.select cs b:=λd hd cs b=>hf.sel _ _ cs b (h.dops d hd)
  have hso:∀cs b,o.op≠.select cs b:=λcs b=>hf.sel _ _ cs b ho
  have hu:listed[i]?=some false:=h.pu hi' hxi
  obtain⟨tm',ht1,ht2⟩:=lw (ρ:=ρ) (e:=e) (a:=bj D a) (ps:=am o) r1 (l:=S1.tm) (m:=S1.tm) ⟨rfl,λ_=>.inl rfl⟩ h1.rel.tm (λq hq hqa hqp t ht hlt=>by
    have hl:=hp _ hqp
    have hx:∃x∈Xi,x.ix=q.2:=by
      refine Classical.byContradiction λhh=>?_
      rw[h.pu (hr1 q hq) (λx hx he=>hh ⟨x,hx,he⟩)] at hl
      cases hl
    obtain⟨x,hx,hxq⟩:=hx
    have hxo:x.o=q.1:=by
      have k1:=h.rops _ (h.xr x hx)
      have k2:=h.rops _ (hr1 q hq)
      simp only at k1
      rw[hxq,k2] at k1
      simpa using k1.symm
    have hpr:x.pr=false:=by
      cases hpr:x.pr with
      | false=>rfl
      | true =>
        have:=((h.xal x hx).2.2 hpr).1
        rw[hxo] at this
        rw[xB this] at hqa
        cases hqa
    refine⟨x.vf x.b,((h.xal x hx).2.1 hpr).2.1 _,(h.ah x hx).2.1 t (by rw[hxo];exact ht) (by rw[jL] at hlt;exact hlt)⟩)
  obtain⟨sv,hst⟩:=vu (S2:={ S1 with tm:=tm' }) ht2 hbu hval
  have hs:=λw=>hU (P:=P) (W:=w) (o:=o) (S:={ S1 with tm:=tm' }) (ρ:=ρ) (e:=e) (a:=bj D a) ⟨ht1,h1.rel.pc⟩
  simp only[hst] at hs
  obtain⟨v,hrunD⟩:∃v,∀w,(execOp (bj D a).eval o).run P w=.ok (.value v) w:=⟨_,λw=>hs w (λc hc=>by simp at hc)⟩
  have hrun:=hrunD W
  rw[iR (ops:=ops) hso a (λd hd=>(hdl d hd).1)] at hrun
  have hputs:∀v,bj D (a.put o.dst v)=(bj D a).put o.dst v:=λv=>jZ v a (λd hd=>(hdl d hd).2.1)
  have hown:∀t',o.dst=some t'->t' ∉ o.looksAt ops:=λt' ht' hm=>by
    obtain⟨_,bef',_,hq⟩:=hlo
    exact ((hq _ _ ho).2 t' ht' hm).1 rfl
  have hinv:Inv Df X0 P W0 M B dp ops fuel (listed.setIfInBounds i true) r S D (⟨i,o,0,.cells #[] 0 (0,0),λ_=>v,true⟩::Xi) (a.put o.dst v) W ρ e H:=by
    refine⟨by simp[h.sz],?_,h.rops,h.rnd,h.dops,h.dnd,h.disj,λj=>?_,λx hx=>?_,?_,?_,λx hx=>?_,ni h ho hp,?_,PdL.put _ hsel (λd hd=>(hdl d hd).2.2) (λd hd=>(hdl d hd).2.1) h.pdl,h.hold,h.tag,h.apr,h.apd,h.prd,h.prr,h.al,λx hx=>?_,h.agr,h.dp,h.x0⟩
    · have:=h.cnt;simp only[List.length_cons];omega
    · rw[r7 hlt,h.un j]
      constructor
      · rintro⟨hj,hh | ⟨hh,hx⟩⟩
        · exact .inl hh
        · refine .inr ⟨hh,λx hxm=>?_⟩
          rcases List.mem_cons.1 hxm with rfl | hxm
          · exact λh=>hj h.symm
          · exact hx x hxm
      · rintro (⟨d,hd,he⟩ | ⟨hh,hx⟩)
        · exact⟨λhj=>h.disj d hd _ hi' (he.trans hj),.inl ⟨d,hd,he⟩⟩
        · exact⟨λhj=>hx _ (List.mem_cons_self ..) hj.symm,.inr ⟨hh,λx hxm=>hx x (List.mem_cons_of_mem _ hxm)⟩⟩
    · rcases List.mem_cons.1 hx with rfl | hx
      · exact hi'
      · exact h.xr x hx
    · simp only[List.map_cons,List.nodup_cons]
      refine⟨λhm=>?_,h.xnd⟩
      obtain⟨x,hx,he⟩:=List.mem_map.1 hm
      exact hxi x hx he
    · rw[tQ rfl]
      exact h.xbd
    · rcases List.mem_cons.1 hx with rfl | hx
      · exact⟨hlo,λhh=>(by cases hh),λ_=>⟨hbu,λ_ _=>rfl⟩⟩
      · exact h.xal x hx
    · rw[hputs,tQ rfl]
      exact h.rel.loose (λt' ht' u=>h.al _ hi' hlo (by rw[hbu,Bool.or_true]) t' ht' u)
    · rw[hputs]
      rcases List.mem_cons.1 hx with rfl | hx
      · refine⟨λw=>?_,λt' ht' hlt'=>?_,?_⟩
        · rw[execOp_put (ops:=ops) o hso _ _ _ hown]
          exact hrunD w
        · have ht2:o.dst=some t':=ht'
          simp only[Act.put,ht2] at hlt' |-
          rw[Array.getElem?_setIfInBounds,if_pos rfl,if_pos (by simpa [jL] using hlt')]
        · have h4:=eu (ops:=ops) (D := [⟨i,o,v,none⟩]) (o:=o) (bj D a) (λd hd=>by
            simp only[List.mem_singleton] at hd
            subst hd
            exact hown)
          exact h4.trans hg
      · obtain⟨g1,g2,g3⟩:=sE hf h ho hu v hx
        refine⟨g1,λt' ht' hlt'=>g2 t' ht' ?_,g3⟩
        cases hdd:o.dst<;>simpa [Act.put,hdd] using hlt'
  unfold wpOpIn
  simp only[ho]
  have hw:Region.wanted o (yielded ops a.tmps)=true:=by rw[<- eu (ops:=ops) a (λd hd=>(hdl d hd).1)];exact hg
  rw[if_pos hw]
  refine lY (hdf _ _ ho) ?_
  unfold Oper.wp
  rw[hrun]
  exact hn _ _ hinv
theorem vc{K:St->VC}(hp:jg P (step P S o)=false)(h:(cl P hi rid ops bef o ix r S K).den P W0 M R ρ e H L):gj P ops bef S ix r=true:=by
  cases hy:mj S o with
  | none =>
    cases hsp:qh P hi S o with
    | false=>exact (pd hy hsp hp h).1
    | true =>
      unfold cl at h
      rw[hy] at h
      dsimp only at h
      rw[if_pos hsp] at h
      exact (xf h).2.1
  | some q =>
    obtain⟨i,as⟩:=q
    unfold cl at h
    rw[hy] at h
    dsimp only at h
    split at h
    · rename_i hc
      simp only[Bool.and_eq_true] at hc
      exact hc.1
    · exact h.elim
theorem mq(hdf:∀(i:Nat) (o:Oper),ops[i]?=some o->gl o.op=true)(hf:jO ops bef){K:St->VC}(h:Inv Df X0 P W0 M B dp ops (fuel+1) listed ((o,ix)::r) S D Xi a W ρ e H)(hp:∀q∈am o,listed[q]?=some true)(hw:Region.wanted o (yielded ops (bj D a).tmps)=true)(hxi:∀x∈Xi,x.ix≠ix)
    {tc:Nat->Prop} {tu:Prop} (hll:∀p∈S.ll,mg bef p.1 ix=true\/((∀b,tc b->(∃k,(∃ob:ay,S.h[k]?=some (some ob))/\ρ k=b/\p.2≠some k)\/((∃q,H b=some q)/\p.2≠none))/\(tu->p.2≠none)))
    (hcore:(∀d∈D,∀t,d.o.dst=some t->t ∉ o.looksAt ops)->∀n0:Act->World->Prop,(∀v W',(∃S' ρ' e' H',Aft Df P W0 M R (xob Xi++X0) L S ρ e H W K o.dst (bj D a) tc tu v W' S' ρ' e' H')->n0 (a.put o.dst v) W')->o.wpIn (Fw rd) 0 P a W n0 Q) {next:Act->World->Prop}
    (hn:∀S' ρ' e' H' a' W',Inv Df X0 P W0 M B dp ops fuel (listed.setIfInBounds ix true) r S' D Xi a' W' ρ' e' H'->(K S').den P W0 M R ρ' e' H' L->next a' W'):wpOpIn (Fw rd) 0 P ops Q ix next a W:=by
  have hin:(o,ix)∈(o,ix)::r:=List.mem_cons_self ..
  have ho:=h.rops _ hin
  have hlt:=h.lt ho
  have hu:listed[ix]?=some false:=h.pu hin hxi
  have hdl:∀d∈D,(∀t,d.o.dst=some t->t ∉ o.looksAt ops)/\(∀t,d.o.dst=some t->o.dst≠some t)/\(∀t,o.dst=some t->t ∉ d.o.looksAt ops):=λd hd =>
    Oper.apart_spec (oW (h.du hd) hp (h.apr d hd _ hin))
  have hsel:∀d∈D,∀cs b,d.o.op≠.select cs b:=λd hd cs b=>hf.sel _ _ cs b (h.dops d hd)
  have hso:∀cs b,o.op≠.select cs b:=λcs b=>hf.sel _ _ cs b ho
  have hputs:∀v,bj D (a.put o.dst v)=(bj D a).put o.dst v:=λv=>jZ v a (λd hd=>(hdl d hd).2.1)
  have hrn:=h.rnd
  simp only[List.map_cons,List.nodup_cons] at hrn
  rw[eu (ops:=ops) a (λd hd=>(hdl d hd).1)] at hw
  unfold wpOpIn
  simp only[ho]
  rw[if_pos hw]
  refine hcore (λd hd=>(hdl d hd).1) next (λv W' hpost=>?_)
  obtain⟨S',ρ',e',H',ha⟩:=hpost
  have hnot:∀d∈D,∀tg,(d.ix,tg)∈S.ll->((∀b,tc b->(∃k,(∃ob:ay,S.h[k]?=some (some ob))/\ρ k=b/\tg≠some k)\/((∃q,H b=some q)/\tg≠none))/\(tu->tg≠none)):=λd hd tg hm=>by
    rcases hll _ hm with hb | hb
    · have:=hf.before h.down (Array.getElem?_eq_some_iff.1 (h.dops d hd)).1 _ _ ho hp hb
      rw[h.du hd] at this;cases this
    · exact hb
  refine hn S' ρ' e' H' _ _ ⟨by simp[h.sz],?_,λp hp=>h.rops p (List.mem_cons_of_mem _ hp),hrn.2,h.dops,h.dnd,λd hd p hp=>h.disj d hd p (List.mem_cons_of_mem _ hp),λi=>?_,λx hx=>?_,h.xnd,h.xbd,h.xal,ni h ho hp,by rw[hputs];exact ha.rel,PdL.put _ hsel (λd hd=>(hdl d hd).2.2) (λd hd=>(hdl d hd).2.1) h.pdl,λd hd=>?_,λd hd=>?_,λd hd p hp=>h.apr d hd p (List.mem_cons_of_mem _ hp),h.apd,h.prd,λd hd=>⟨(h.prr d hd).1,λp hp=>(h.prr d hd).2 p (List.mem_cons_of_mem _ hp)⟩,λp hp' hlo hal t ht' u=>?_,λx hx=>?_,h.agr.trans ha.agr,ha.dp.trans h.dp,h.x0⟩ ha.den
  · have:=h.cnt;simp only[List.length_cons] at this |-;omega
  · rw[r7 hlt,h.un i]
    constructor
    · rintro⟨hj,hh | ⟨⟨p,hp',he⟩,hx⟩⟩
      · exact .inl hh
      · rcases List.mem_cons.1 hp' with rfl | hp'
        · exact (hj he.symm).elim
        · exact .inr ⟨⟨p,hp',he⟩,hx⟩
    · rintro (⟨d,hd,he⟩ | ⟨⟨p,hp',he⟩,hx⟩)
      · exact⟨λhj=>h.disj d hd _ hin (he.trans hj),.inl ⟨d,hd,he⟩⟩
      · exact⟨λhj=>hrn.1 (List.mem_map.2 ⟨p,hp',he.trans hj⟩),.inr ⟨⟨p,List.mem_cons_of_mem _ hp',he⟩,hx⟩⟩
  · rcases List.mem_cons.1 (h.xr x hx) with he | hm
    · exact (hxi x hx (congrArg Prod.snd he)).elim
    · exact hm
  · have h0:=h.hold d hd
    have ht:=h.tag d hd
    cases hnd:d.need with
    | none=>trivial
    | some q =>
      obtain⟨b,ob⟩:=q
      rw[hnd] at h0 ht
      rcases ht with ht | ht | ⟨ht1,ht2⟩
      case inr.inr =>
        have e1:=h.rel.mem.mod.blk b ht1 ht2
        have e2:=ha.rel.mem.mod.blk b ht1 ht2
        show _=some ob
        rw[e2,<- e1];exact h0
      all_goals refine ha.keep b ob h0 (λhtc=>?_)
      · obtain⟨k,hk1,hk2,ok,hk3⟩:=ht
        rcases (hnot d hd _ hk1).1 b htc with⟨k',⟨ob',hk4⟩,hk5,hk6⟩ | ⟨⟨q,hq⟩,_⟩
        · exact hk6 (congrArg some (h.rel.mem.inj _ _ _ _ hk3 hk4 (hk2.symm.trans hk5.symm)))
        · rw[hk2,h.rel.mem.dis _ _ hk3] at hq;cases hq
      · obtain⟨hk1,hk2⟩:=ht
        rcases (hnot d hd _ hk1).1 b htc with⟨k',⟨ob',hk4⟩,hk5,hk6⟩ | ⟨_,hk6⟩
        · rw[<- hk5,h.rel.mem.dis _ _ hk4] at hk2;cases hk2
        · exact hk6 rfl
  · exact (h.tag d hd).mono ha.ll ha.kn ha.agr.r (λhm=>ha.hle (λht=>(hnot d hd _ hm).2 ht rfl))
  · have hne:o.dst≠some t:=λhe=>by
      rcases hlo.ne ho with h1 | h1
      · exact hrn.1 (List.mem_map.2 ⟨p,hp',h1.symm⟩)
      · exact h1 (he.trans ht'.symm)
    rw[ha.tm t hne]
    exact h.al p (List.mem_cons_of_mem _ hp') hlo hal t ht' u
  · rw[hputs]
    obtain⟨g1,g2,g3⟩:=sE hf h ho hu v hx
    refine⟨g1,λt' ht' hlt'=>g2 t' ht' ?_,g3⟩
    cases hdd:o.dst<;>simpa [Act.put,hdd] using hlt'
theorem uj{f g:Operand->Value}{post:Value->World->Prop}{pq:List PanicEntry->World->Prop}(he:execOp f o=execOp g o)(h:lW P f o W post pq):lW P g o W post pq:=by
  unfold lW at *
  rw[<- he];exact h
theorem uM(a:Act)(d:Option Nat)(v:Value):(a.put d v).defers=a.defers:=by cases d<;>rfl
theorem ow:∀(D:List Pd) (a:Act),(bj D a).defers=a.defers
  | [],_=>rfl
  | d::D,a=>by rw[bj,uM,ow D a]
theorem mT:∀(D:List Pd) (a:Act) (t:Nat),(∀d∈D,d.o.dst≠some t)->(bj D a).tmps[t]?=a.tmps[t]?
  | [],_,_,_=>rfl
  | d::D,a,t,h=>by
    have h1:=h d (List.mem_cons_self ..)
    rw[bj,<- mT D a t λd' hd'=>h d' (List.mem_cons_of_mem _ hd')]
    cases hd:d.o.dst with
    | none=>rfl
    | some t' =>
      have hne:t'≠t:=λhe=>h1 (by rw[hd,he])
      simp[Act.put,Array.getElem?_setIfInBounds,hne]
theorem ud:∀(Xi:List Ah) (X0:List (Nat × Obj)),(∀x∈Xi,x.pr=false->isC x.obj=true)->oJ (xob Xi++X0)=oJ X0
  | [],_,_=>rfl
  | x::Xi,X0,h=>by
    have ih:=ud Xi X0 λy hy=>h y (List.mem_cons_of_mem _ hy)
    cases hp:x.pr with
    | true=>rw[tQ hp];exact ih
    | false =>
      have hc:=h x (List.mem_cons_self ..) hp
      rw[ug hp,List.cons_append]
      unfold oJ at ih |-
      rw[List.filterMap_cons]
      cases ho:x.obj<;>simp only[ho,isC] at hc |-<;>first | exact ih | cases hc
theorem yv(hdf:∀(i:Nat) (o:Oper),ops[i]?=some o->gl o.op=true)(hf:jO ops bef){K:St->VC}(h:Inv Df X0 P W0 M B dp ops (fuel+1) listed ((o,ix)::r) S D Xi a W ρ e H)(hp:∀q∈am o,listed[q]?=some true)(hw:Region.wanted o (yielded ops (bj D a).tmps)=true)(hxi:∀x∈Xi,x.ix≠ix)
    (hnp:jg P (step P S o)=false) (hpn:hi.pn=true->Pn Df P R hi B X0 Q) (hd:(cl P hi rid ops bef o ix r S K).den P W0 M R ρ e H L) {next:Act->World->Prop}
    (hn:∀S' ρ' e' H' a' W',Inv Df X0 P W0 M B dp ops fuel (listed.setIfInBounds ix true) r S' D Xi a' W' ρ' e' H'->(K S').den P W0 M R ρ' e' H' L->next a' W'):wpOpIn (Fw rd) 0 P ops Q ix next a W:=by
  have hin:(o,ix)∈(o,ix)::r:=List.mem_cons_self ..
  have ho:=h.rops _ hin
  have hso:∀cs b,o.op≠.select cs b:=λcs b=>hf.sel _ _ cs b ho
  cases hy:mj S o with
  | none =>
    cases hsp:qh P hi S o with
    | true =>
      unfold cl at hd
      rw[hy] at hd
      dsimp only at hd
      rw[if_pos hsp] at hd
      obtain⟨hcall,_,hra,hone,hll⟩:=xf hd
      refine mq hdf hf h hp hw hxi hll (λhdl n0 hn0=>?_) hn
      obtain⟨⟨hp1,hpins⟩,hg⟩:=yK (rid:=rid) (ix:=ix) hcall hone h.rel
      have hg':lW P a.eval o W _ _:=uj (iR (ops:=ops) hso a hdl) hg
      refine lY (hdf _ _ ho) (lW.wp hg' hn0 λps W' hx=>hpn hp1 ps ρ a W' h.agr.r ?_ (λp hpm=>?_) hx)
      · have h1:=h.rel.df
        rw[ow] at h1
        rw[h1,ud _ _ λx hx hpr=>((h.xal x hx).2.1 hpr).2.2]
      · rw[<- mT D a p.1 λd hd2 he=>?_]
        · exact hpins p hpm
        · unfold po at hra
          rw[List.all_eq_true] at hra
          have h2:=hra p hpm
          rw[List.all_eq_true] at h2
          have h3:=h2 d.o (by rw[Array.mem_toList_iff];exact Array.mem_of_getElem? (h.dops d hd2))
          rw[he] at h3
          simp at h3
    | false =>
    obtain⟨_,hone,hll⟩:=pd hy hsp hnp hd
    refine mq hdf hf h hp hw hxi hll (λhdl n0 hn0=>?_) hn
    have hg:=v6 hone h.rel
    replace hg:=va (iR (ops:=ops) hso a hdl) hg
    exact lY (hdf _ _ ho) (np.wp (post:=λv W'=>∃S' ρ' e' H',Aft Df P W0 M R (xob Xi++X0) L S ρ e H W K o.dst (bj D a) (j7 P hi rid ix S o ρ H) (turned P hi rid ix S o) v W' S' ρ' e' H') hg hn0)
  | some q =>
    obtain⟨i,as⟩:=q
    unfold cl at hd
    rw[hy] at hd
    dsimp only at hd
    split at hd
    · rename_i hc
      simp only[Bool.and_eq_true] at hc
      refine mq (tc:=λb=>∃q,H b=some q) (tu:=True) hdf hf h hp hw hxi (λp hp=>?_) (λhdl n0 hn0=>?_) hn
      · have h2:=hc.2
        unfold iu at h2
        rw[List.all_eq_true] at h2
        have h3:=h2 p hp
        simp only[Bool.or_eq_true] at h3
        refine h3.imp id (λh3=>?_)
        have hne:p.2≠none:=λhn=>by rw[hn] at h3;cases h3
        exact⟨λb hb=>.inr ⟨hb,hne⟩,λ_=>hne⟩
      · refine⟨λ_ _=>trivial,?_⟩
        rw[o7 (hdf _ _ ho),<- iR (ops:=ops) hso a hdl,wK h.rel.tm hy]
        obtain⟨fn,tmps,assign,body,h1,h2⟩:=pE (rd:=rd) (hd W h.rel.now (fY h.rel (bO S as)))
        rw[h1]
        refine⟨λh'=>(by cases h'),h2.mono λx W' hx=>?_⟩
        obtain⟨rfl,H',htn,hd'⟩:=hx
        obtain⟨H2,hr2,hd2⟩:=iI h.rel (cls:=.turn) (K:=λH'=>(K (S.put o.dst (.bool (.k true)))).den P W0 M R ρ e H' L) (λl' hl'=>by rcases hl' with hl' | hl'<;>cases hl') ⟨H',htn,hd'⟩
        exact hn0 (.bool true) W' ⟨_,ρ,e,H2,aF ..,(Agr.self S ρ e).put _ _,hd2,hr2.put _ (.bool (.k true)),bY ..,λt ht=>bZ _ _ _ _ ht,λk ob hk=>⟨ob,by rw[eb];exact hk⟩,λhh=>absurd trivial hh,λb ob hb hnb=>(htn.mod.blk b (ag hb) (λhh=>hnb hh.1)).trans hb⟩
    · exact hd.elim
theorem zE(hf:jO ops bef)(h:Inv Df X0 P W0 M B dp ops fuel listed r S D Xi a W ρ e H)(hd:D ≠ [])(hr:Region.ready .any ops listed = []):False:=by
  obtain⟨D',d,rfl⟩:∃D' d,D=D' ++ [d]:=⟨D.dropLast,D.getLast hd,(List.dropLast_concat_getLast hd).symm⟩
  have hm:d∈D' ++ [d]:=by simp
  have:d.ix∈Region.ready .any ops listed:=(lE h.sz).2 ⟨h.du hm,d.o,h.dops d hm,λq hq=>h.not_un (hf.rng _ _ (h.dops d hm) q hq) (λhu=>by
    rcases (h.un q).1 hu with⟨d',hd',he⟩ | ⟨⟨p,hp,he⟩,_⟩
    · rcases List.mem_append.1 hd' with h1 | h1
      · have:=h.prd
        rw[List.pairwise_append] at this
        exact this.2.2 d' h1 d (by simp) (he▸hq)
      · simp only[List.mem_singleton] at h1
        subst h1
        exact (h.prr d' hm).1 (he▸hq)
    · exact (h.prr d hm).2 p hp (he▸hq))⟩
  rw[hr] at this
  cases this
theorem CX(hdf:∀(i:Nat) (o:Oper),ops[i]?=some o->gl o.op=true)(hf:jO ops bef)(hpn:hi.pn=true->Pn Df P R hi B X0 Q){K:St->VC}(hk:sT Df P W0 M R X0 L B dp K (Q .normal)):∀(fuel:Nat) (listed:Array Bool) (r:List (Oper × Nat)) (S:St) (D:List Pd) (Xi:List Ah) (a:Act) (W:World) (ρ:Nat->Nat) (e:Env) (H:Hp),
    Inv Df X0 P W0 M B dp ops fuel listed r S D Xi a W ρ e H->(gr P hi rid ops bef r S K).den P W0 M R ρ e H L->wpAnyIn (Fw rd) 0 P .any ops Q fuel listed a W:=by
  have fin:∀{fuel:Nat} {listed:Array Bool} {a:Act} {W:World} {S D Xi ρ e H},Inv Df X0 P W0 M B dp ops fuel listed [] S D Xi a W ρ e H->(K S).den P W0 M R ρ e H L->D = []->Q .normal a W:=λ{fuel listed a W S D Xi ρ e H} h hd he=>by
    subst he
    have hX:Xi = []:=by
      cases Xi with
      | nil=>rfl
      | cons x Xi=>have:=h.xr x (List.mem_cons_self ..);simp at this
    subst hX
    exact hk S ρ e H a W h.dp h.agr hd h.rel
  intro fuel
  induction fuel with
  | zero =>
    intro listed r S D Xi a W ρ e H h hd
    refine E6 hf (wpAnyIn (Fw rd) 0 P .any ops Q 0 listed a W) (λS D Xi ρ e H h hd=>?_) (λo ix r S D Xi ρ e H S1 h _ _ _ _ hx _ _=>?_) r S D Xi ρ e H h hd
    · have hD:D = []:=by
        have hX:Xi = []:=by
          cases Xi with
          | nil=>rfl
          | cons x Xi=>have:=h.xr x (List.mem_cons_self ..);simp at this
        have:=h.cnt
        rw[hX] at this
        simp only[List.length_nil] at this
        exact List.length_eq_zero_iff.1 (by omega)
      refine⟨?_,fin h hd hD⟩
      cases hr:Region.ready .any ops listed with
      | nil=>rfl
      | cons j l =>
        have:j∈Region.ready .any ops listed:=by rw[hr];exact List.mem_cons_self ..
        have:=((lE h.sz).1 this).1
        rcases (h.un j).1 this with⟨d,hd,_⟩ | ⟨⟨p,hp,_⟩,_⟩
        · rw[hD] at hd;simp at hd
        · simp at hp
    · exfalso
      have h1:=wo (l:=Xi.map (·.ix)) (m:=r.map (·.2)) h.xnd (λy hy=>by
        obtain⟨x,hxm,rfl⟩:=List.mem_map.1 hy
        rcases List.mem_cons.1 (h.xr x hxm) with he | hm
        · exact (hx x hxm (congrArg Prod.snd he)).elim
        · exact List.mem_map.2 ⟨_,hm,rfl⟩)
      have h2:=h.cnt
      simp only[List.length_map,List.length_cons] at h1 h2
      omega
  | succ fuel ih =>
    intro listed r S D Xi a W ρ e H h hd
    refine⟨λhr=>?_,λi hi'=>?_⟩
    · refine E6 hf (Q .normal a W) (λS D Xi ρ e H h hd=>?_) (λo ix r S D Xi ρ e H S1 h _ _ hr1 _ hx _ _=>?_) r S D Xi ρ e H h hd
      · by_cases hD:D = []
        · exact fin h hd hD
        · exact (zE hf h hD hr).elim
      · exfalso
        by_cases hD:D = []
        · subst hD
          have hin:(o,ix)∈(o,ix)::r:=List.mem_cons_self ..
          have:ix∈Region.ready .any ops listed:=(lE h.sz).2 ⟨h.pu hin hx,o,h.rops _ hin,λq hq=>h.not_un (hf.rng _ _ (h.rops _ hin) q hq) (λhu=>by
            rcases (h.un q).1 hu with⟨d,hd,_⟩ | ⟨⟨p,hp,he⟩,_⟩
            · simp at hd
            · unfold og at hr1
              rw[List.all_eq_true] at hr1
              have:=hr1 q hq
              rw[Bool.not_eq_true',List.contains_eq_mem,decide_eq_false_iff_not] at this
              exact this (List.mem_map.2 ⟨p,hp,he⟩))⟩
          rw[hr] at this
          cases this
        · exact zE hf h hD hr
    · obtain⟨hiu,oi,hoi,hip⟩:=(lE h.sz).1 hi'
      refine E6 hf (wpOpIn (Fw rd) 0 P ops Q i (wpAnyIn (Fw rd) 0 P .any ops Q fuel (listed.setIfInBounds i true)) a W) (λS D Xi ρ e H h hd=>?_) (λo ix r S D Xi ρ e H S1 h hd h1 hr1 hw hx hnp hd1=>?_) r S D Xi ρ e H h hd
      · rcases (h.un i).1 hiu with⟨d,hdm,rfl⟩ | ⟨⟨p,hp,_⟩,_⟩
        · rw[h.dops d hdm] at hoi
          simp only[Option.some.injEq] at hoi
          subst hoi
          exact yX hdf hf h hdm hip (λD' a' h'=>ih _ _ _ _ _ _ _ _ _ _ h' hd)
        · simp at hp
      · rcases (h.un i).1 hiu with⟨d,hdm,rfl⟩ | ⟨⟨p,hp,he⟩,hxi⟩
        · rw[h.dops d hdm] at hoi
          simp only[Option.some.injEq] at hoi
          subst hoi
          exact yX hdf hf h hdm hip (λD' a' h'=>ih _ _ _ _ _ _ _ _ _ _ h' hd)
        · obtain⟨op,j⟩:=p
          simp only at he
          subst he
          have hop:=h.rops _ hp
          simp only at hop
          rw[hop] at hoi
          simp only[Option.some.injEq] at hoi
          subst hoi
          rcases List.mem_cons.1 hp with hh | hh
          · simp only[Prod.mk.injEq] at hh
            obtain⟨rfl,rfl⟩:=hh
            exact yv hdf hf h1 hip hw hx hnp hpn hd1 (λS' ρ' e' H' a' W' h' hd'=>ih _ _ _ _ _ _ _ _ _ _ h' hd')
          · have hah:=vc hnp hd1
            unfold gj at hah
            rw[List.all_eq_true] at hah
            have h2:=hah _ hh
            simp only[Bool.or_eq_true,Bool.and_eq_true] at h2
            rcases h2 with (h2 | ⟨⟨h2,h3⟩,h4⟩) | ⟨⟨⟨h2,h3⟩,h4⟩,h6⟩
            · have h5:=hf.before h.down (Array.getElem?_eq_some_iff.1 (h.rops _ (List.mem_cons_self ..))).1 _ _ hop hip h2
              rw[h.pu (List.mem_cons_self ..) hx] at h5
              cases h5
            · exact vW hdf hf h hp hxi hip h2 (lf h1.rel h3) h1 h4 (λXi' a' W' h'=>ih _ _ _ _ _ _ _ _ _ _ h' hd)
            · exact tE hdf hf h hp hxi hip h2 (hf.loose h3) (lf h1.rel h4) (r1:=r) (λq hq=>List.mem_cons_of_mem _ hq) h1 h6 (λXi' a' h'=>ih _ _ _ _ _ _ _ _ _ _ h' hd)
theorem rz:∀{l:List Nat} {tm:List (Option SV)} {t:Nat},t∈l->∀v,(kg tm l)[t]?≠some (some v):=by
  have keep:∀{l:List Nat} {tm:List (Option SV)} {t:Nat} {v:SV},(kg tm l)[t]?=some (some v)->tm[t]?=some (some v):=by
    intro l
    induction l with
    | nil=>exact λh=>h
    | cons k l ih =>
      intro tm t v h
      have:=ih (tm:=tm.set k none) h
      rw[List.getElem?_set] at this
      split at this
      · split at this<;>cases this
      · exact this
  intro l
  induction l with
  | nil=>intro tm t h;simp at h
  | cons k l ih =>
    intro tm t h v hv
    rcases List.mem_cons.1 h with rfl | h
    · have:=keep (l:=l) (tm:=tm.set t none) hv
      rw[List.getElem?_set] at this
      split at this
      · split at this<;>cases this
      · rename_i hh;exact hh rfl
    · exact ih (tm:=tm.set k none) h v hv
theorem uk{l:List Nat}:∀{tm:List (Option SV)},fQ ρ e tm a->fQ ρ e (kg tm l) a:=by
  induction l with
  | nil=>exact λh=>h
  | cons k l ih =>
    intro tm h
    refine ih (tm:=tm.set k none) ⟨by simp[h.1],λt v ht=>?_⟩
    rw[List.getElem?_set] at ht
    split at ht
    · split at ht<;>cases ht
    · exact h.2 t v ht
theorem xw{id:Nat}{K:St->VC}(hdf:∀(i:Nat) (o:Oper),ops[i]?=some o->gl o.op=true)(hX0:∀p∈X0,isC p.2=false)(h:(vk P hi id ops S K).den P W0 M R ρ e H L)(hr:Rel Df W0 M S ρ e X0 H a W)(hb:Agr B S ρ e)(hpn:hi.pn=true->Pn Df P R hi B X0 Q)(hk:sT Df P W0 M R X0 L B S.dp K (Q .normal)):(Code.region id ops true).wpIn (Fw rd) 0 P Q a W:=by
  unfold vk at h
  dsimp only at h
  split at h
  · rename_i hc
    simp only[Bool.and_eq_true,decide_eq_true_eq,List.all_eq_true,List.mem_range,List.contains_iff_mem] at hc
    obtain⟨⟨⟨⟨⟨⟨⟨hm,c1⟩,c2⟩,c3⟩,c4⟩,c5⟩,c6⟩,c7⟩:=hc
    have hsl:∀(j:Nat) (o:Oper) (cs:Array SelectCase) (b:Bool),ops[j]?=some o->o.op≠.select cs b:=λj o cs b ho hs=>by
      have:=(List.all_eq_true.1 c3) o (by rw[Array.mem_toList_iff];exact Array.mem_of_getElem? ho)
      rw[hs] at this
      cases this
    have hf:jO ops (Fo ops.toList):=⟨hsl,c1,c2,λj o ho q hq=>c4 o (by rw[Array.mem_toList_iff];exact Array.mem_of_getElem? ho) q hq⟩
    refine wpIn_region_any hm (CX hdf hf hpn (dp:=S.dp) (B:=B) (W0:=W0) (M:=M) (R:=R) (L:=L) hk _ _ _ _ [] [] _ _ ρ e H ?_ h)
    have hlen:(oG ops.size ops.toList.zipIdx).length=ops.size:=c5
    have hmem:∀{p:Oper × Nat},p∈(oG ops.size ops.toList.zipIdx).filterMap (λp=>ops[p.2]?.map λo=>(o,p.2))->ops[p.2]?=some p.1:=λ{p} hp=>by
      obtain⟨q,_,hq⟩:=List.mem_filterMap.1 hp
      simp only[Option.map_eq_some_iff] at hq
      obtain⟨o,ho,rfl⟩:=hq
      exact ho
    have hix:((oG ops.size ops.toList.zipIdx).filterMap (λp=>ops[p.2]?.map λo=>(o,p.2))).map (·.2)=(oG ops.size ops.toList.zipIdx).map (·.2):=by
      have:∀l:List (Oper × Nat),(∀p∈l,∃o,ops[p.2]?=some o)->(l.filterMap (λp=>ops[p.2]?.map λo=>(o,p.2))).map (·.2)=l.map (·.2):=λl=>by
        induction l with
        | nil=>exact λ_=>rfl
        | cons p l ih =>
          intro hl
          obtain⟨o,ho⟩:=hl p (List.mem_cons_self ..)
          rw[List.filterMap_cons]
          simp only[ho,Option.map_some,List.map_cons]
          rw[ih (λp hp=>hl p (List.mem_cons_of_mem _ hp))]
      refine this _ (λp hp=>?_)
      have:=c7 p hp
      split at this
      · rename_i o ho;exact⟨o,ho⟩
      · cases this
    have hnd:((oG ops.size ops.toList.zipIdx).map (·.2)).Nodup:=by
      have key:∀(l:List Nat) (n:Nat),l.length=n->(∀i,i<n->i∈l)->l.Nodup:=by
        intro l n hl hall
        refine Classical.byContradiction (λhnn=>?_)
        have hd:∃(x:Nat) (l':List Nat),x∈l'/\l.length=l'.length+1/\∀y∈l,y∈l':=by
          clear hl hall
          induction l with
          | nil=>exact (hnn List.nodup_nil).elim
          | cons x l ih =>
            by_cases hx:x∈l
            · exact⟨x,l,hx,rfl,λy hy=>by
                rcases List.mem_cons.1 hy with rfl | hy
                · exact hx
                · exact hy⟩
            · have hl':¬l.Nodup:=λh=>hnn (List.nodup_cons.2 ⟨hx,h⟩)
              obtain⟨z,l',h1,h2,h3⟩:=ih hl'
              exact⟨z,x::l',List.mem_cons_of_mem _ h1,by simp[h2],λy hy=>by
                rcases List.mem_cons.1 hy with rfl | hy
                · exact List.mem_cons_self ..
                · exact List.mem_cons_of_mem _ (h3 y hy)⟩
        obtain⟨x,l',_,h2,h3⟩:=hd
        have:=wo (l:=List.range n) (m:=l') List.nodup_range (λy hy=>h3 y (hall y (List.mem_range.1 hy)))
        rw[List.length_range] at this
        omega
      exact key _ ops.size (by rw[List.length_map,hlen]) c6
    have hall:∀i,i<ops.size->∃p∈(oG ops.size ops.toList.zipIdx).filterMap (λp=>ops[p.2]?.map λo=>(o,p.2)),p.2=i:=λi hi=>by
      have h1:=c6 i hi
      rw[<- hix] at h1
      obtain⟨p,hp,he⟩:=List.mem_map.1 h1
      exact⟨p,hp,he⟩
    refine⟨by simp,?_,λp hp=>hmem hp,by rw[hix];exact hnd,λd hd=>by simp at hd,by simp,λd hd=>by simp at hd,λi=>?_,λx hx=>by simp at hx,by simp,by simp[xob],λx hx=>by simp at hx,λj o hj=>?_,?_,trivial,λd hd=>by simp at hd,λd hd=>by simp at hd,λd hd=>by simp at hd,List.Pairwise.nil,List.Pairwise.nil,λd hd=>by simp at hd,λp hp _ ha t ht v=>?_,λx hx=>by simp at hx,⟨hb.n,hb.m,hb.e,hb.r⟩,rfl,hX0⟩
    · have:=congrArg List.length hix
      simp only[List.length_map] at this
      simp only[List.length_nil]
      omega
    · rw[Array.getElem?_replicate]
      constructor
      · intro hh
        split at hh
        · rename_i hlt
          exact .inr ⟨hall i hlt,λx hx=>by simp at hx⟩
        · cases hh
      · rintro (⟨d,hd,_⟩ | ⟨⟨p,hp,rfl⟩,_⟩)
        · simp at hd
        · rw[if_pos (Array.getElem?_eq_some_iff.1 (hmem hp)).1]
    · rw[Array.getElem?_replicate] at hj
      split at hj<;>simp at hj
    · exact Rel.drew ⟨uk hr.tm,hr.df,hr.mem,hr.pc⟩
    · refine rz (List.mem_filterMap.2 ⟨p.1,?_,?_⟩) v
      · rw[Array.mem_toList_iff];exact Array.mem_of_getElem? (hmem hp)
      · rw[if_pos ha];exact ht
  · exact h.elim
end
end
end Go.Proofs.YtfpmcmhihhnfgaaGreatDoor
