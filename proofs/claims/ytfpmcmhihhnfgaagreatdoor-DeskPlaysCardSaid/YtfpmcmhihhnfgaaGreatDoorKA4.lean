/- Contracts: what opens, what calls. No conditions. -/
import Derived.Test.YtfpmcmhihhnfgaaGreatDoorKI1
import Derived.Test.YtfpmcmhihhnfgaaGreatDoorKA3
import Derived.Test.YtfpmcmhihhnfgaaGreatDoorKA2
set_option linter.unusedVariables false
set_option linter.unusedSimpArgs false
namespace Go.Proofs.YtfpmcmhihhnfgaaGreatDoor
open Go.RowKit
abbrev POp.vals'(x:POp):Value:=.agg #[vi x.kind,vi x.key,vi x.to,vi x.n]
theorem ED(x:POp){v:V4}(hx:x.err=0)(hv:v.ok=true)(H:Hp):Gv Tryz.prog 184 #[.agg #[vi v.a,vi v.b,vi v.c,vi v.d],x.vals'] H (.tuple #[.agg #[vi (x.turn v).1.a,vi (x.turn v).1.b,vi (x.turn v).1.c,vi (x.turn v).1.d],vi (x.turn v).2]):=λW _=>Cr v x.kind x.key x.to x.n W hx hv
abbrev Sta.cells(s:Sta)(v:Value):Array Value:=#[vi s.pos,vi s.clock,vi s.vals.a,vi s.vals.b,vi s.vals.c,vi s.vals.d,v]
abbrev qi(b1:Nat)(d:Bool):Array Value:=#[.pointer (some ⟨b1,0,none⟩),vb d]
def wG(H:Hp)(F:Nat->Prop)(b1:Nat)(r:Sta × Int × Bool)(v:Value)(D0 D1:Array Value)(H':Hp):Prop :=
 ∃p n c es g,v=vi r.2.1/\D0=qi b1 r.2.2/\D1=r.1.cells (vsl p n c)/\fS H' p n c es g/\es.map Cel.s=r.1.table/\∀b,lp g es b->F b\/H b=none
theorem Rt.mp{W0:World}{Mb:Nat->Prop}{b0 b1:Nat}{H K:Hp}{kn:World->Prop}{T0 T1:Nat}{r r':Sta × Int × Bool}{p:OL}{n c:Nat}{es:List Cel}{g:Option Nat}(hr:r'=r)(hH:H.le (ak W0))(h0:H b0=none)(h1:H b1=none)(hMb:∀b,Mb b->∃o,H b=some o)
  (hkn:∀W,kn W->W.heap[b0]?=some (.cells (qi b1 r.2.2) T0 (0,0))/\W.heap[b1]?=some (.cells (r.1.cells (vsl p n c)) T1 (0,0))) (hT:fS K p n c es g) (he:es.map Cel.s=r.1.table) (hf:∀b,lp g es b->Mb b\/W0.heap.size<=b) :
  Rt (λz W'=>∃v D0 D1 H',z=.returned v/\W'.heap[b0]?=some (.cells D0 T0 (0,0))/\W'.heap[b1]?=some (.cells D1 T1 (0,0)) /\
   Mod (λb=>b=b0\/b=b1\/Mb b) W0 W'/\H'.le (ak W')/\(∀b o,H' b=some o->(∃o',H b=some o')\/W0.heap.size<=b)/\wG H Mb b1 r' v D0 D1 H') W0 (λb=>b=b0\/b=b1\/Mb b) K kn (vi r.2.1):=by
 subst hr;refine Rt.gb hH h0 h1 hMb hkn ⟨p,n,c,es,g,rfl,rfl,rfl,hT.mono' λb hb o ho=>?_,he,λb hb=>(hf b hb).imp id λh=>ao hH h⟩;unfold mergeM;rw[if_neg (λhh=>?_)]
 ·exact ho
 ·rcases hf b hb with h | h
  ·exact hh.2 h
  ·omega
def Sta.opens(t:Sta)(x:Int):Sta × Int × Bool :=
 if b9 t.table x=true then ({ t with table:=bX t.table { bI t.table x with seen:=t.clock } },0,false)
 else if t.table.length=3 then (t,-2,false)
 else ({ t with table:=bX t.table ⟨x,0,t.clock,[]⟩ },0,false)
theorem s7:fc Tryz.prog 91 1 24=true:=by kernel_rfl
theorem lx{g:Option Nat}{es:List Cel}{i:Nat}{a a':Cel}{S:Nat}(ha:es[i]?=some a)(hk:a'.k=a.k\/∀b,a'.k=some b->S<=b):∀b,lp g (es.set i a') b->lp g es b\/S<=b:=λb hb=>by
 rcases hb with hb | ⟨x,hx,hb⟩
 ·exact .inl (.inl hb)
 ·rcases List.mem_or_eq_of_mem_set hx with hx | rfl
  ·exact .inl (.inr ⟨x,hx,hb⟩)
  ·rcases hk with hk | hk
   ·exact .inl (.inr ⟨a,List.mem_of_getElem? ha,hk▸hb⟩)
   ·exact .inr (hk b hb)
set_option maxHeartbeats 1000000 in
theorem Cd{H:Hp}{p:OL}{n c:Nat}{es:List Cel}{g:Option Nat}(hT:fS H p n c es g){t:Sta}(ht:es.map Cel.s=t.table)(hi:Inc t.table)(hn3:n<=3)(x:Int)(b0 b1:Nat) :
  Gb Tryz.prog 161 #[.pointer (some ⟨b0,0,none⟩),vi (aS t.table x),vb (b9 t.table x),vi x] H (lp g es) b0 b1 (qi b1 false) 197 (t.cells (vsl p n c)) 33 (wG H (lp g es) b1 (t.opens x)):=λW hH e0 e1 hne h0 h1=>by
 have hlen:n=t.table.length:=by rw[<- ht,hT.len];simp
 refine Cw (aS t.table x) (b9 t.table x) x false t.pos t.clock t.vals.a t.vals.b t.vals.c t.vals.d p n c b0 b1 (λb=>b=b0\/b=b1\/lp g es b) H W _ hH hne ⟨e0,.inl rfl,h0⟩ ⟨e1,.inr (.inl rfl),h1⟩ ⟨λhh=>?_,λhh=>⟨by omega,λ_=>⟨λhl=>?_,λhl b2=>?_⟩⟩⟩
 ·obtain⟨a,ha,has,hac⟩:=rR (c:=x) (by rw[ht];exact hi) (by rw[ht];exact hh);rw[ht] at ha has;have hlt:=mu hi hh
  have hc4:=mf hT.own ha (off:=0+(aS t.table x:Int) * 4) (by omega);refine⟨⟨by omega,by omega⟩,λ_=>⟨hc4.1.isSome,λ_=>⟨by omega,λ_=>?_⟩⟩⟩;intro W1 n1 _;obtain⟨ti,z,i1,i2,i3,i4,i5,i6⟩:=aR fm;have ham:=List.mem_of_getElem? ha
  obtain⟨W2,H1,hrun,hu,hT1⟩:=(hT.x (aS t.table x)).store n1.sub ha (t:=3) (j:=2) (v:=vi t.clock) (a':=⟨{ a.s with seen:=t.clock },a.p,a.n,a.c,a.k⟩) i1 i3 rfl rfl (by omega) rfl (hT.one a ham) (hT.gap a ham) (λl b hb hl=>show fu a.k b.k from jf hT.two ha hb (λh=>hl h.symm)) (off:=0+(aS t.table x:Int) * 4+2) (by omega);refine⟨W2,hrun,H1,hu.own hT.own (λb hb=>.inr (.inr (.inr (.inl hb)))),?_⟩;refine Rt.mp (r:=({ t with table:=bX t.table { bI t.table x with seen:=t.clock } },0,false)) (by unfold Sta.opens;rw[if_pos hh]) hH h0 h1 hT.foot (λW k=>⟨k.1.eq,k.2.1.eq⟩) hT1 ?_ (lx ha (.inl rfl))
  ·rw[List.map_set,ht];have:=oQ hi (s:={ a.s with seen:=t.clock }) (by simp only[hac];exact hh)
   simp only[hac] at this;rw[has] at this;have hcf:(bI t.table x).client=x:=by rw[<- has];exact hac
   simp only[has,hcf]
   exact this
 ·exact Rt.mp (r:=(t,-2,false)) (by unfold Sta.opens;rw[if_neg hh,if_pos (by omega)]) hH h0 h1 hT.foot (λW k=>⟨k.1.eq,k.2.1.eq⟩) hT ht (λb hb=>.inl hb)
 ·have hh':b9 t.table x=false:=by simpa using hh
  have hpl:=BA t.table x;have hv:[vi x,vi 0,vi t.clock,Value.slice none 0 0]=(⟨⟨x,0,t.clock,[]⟩,none,0,0,none⟩:Cel).row:=rfl
  refine Cl.turnK (g:=g) (b:=b2) (o:=.cells #[vi x,vi 0,vi t.clock,Value.slice none 0 0] 93 (0,0)) (λ_ k=>k.1) (λhb2=>Ba (hT.own.mono λb _ o h=>gM hb2 b o h) (i:=aS t.table x) (by omega) (vb:=b2) (row := [vi x,vi 0,vi t.clock,Value.slice none 0 0]) (cm ..) rfl (yW ⟨⟨x,0,t.clock,[]⟩,none,0,0,none⟩) (λh=>by
   obtain⟨o,h2⟩:=hT.own.held b2 h;rw[hb2] at h2;cases h2) (by omega)) ?_
  rintro v W1 W2 H' g' ⟨p',n',c',rfl,ho'⟩ hu hg' n1 hb2 hlt;have hgb:g'≠some b2:=λh=>by
   rcases hg' with h1 | h1
   ·obtain⟨o,h2⟩:=hT.own.held b2 (h1▸h);rw[hb2] at h2;cases h2
   ·have:=h1 b2 h;omega
  have ho2:=oP ho' hgb;rw[hv,<- List.map_take,<- List.map_drop,<- List.map_cons,<- List.map_append] at ho2;have htwo:=hT.two
  rw[<- List.take_append_drop (aS t.table x) es,List.pairwise_append] at htwo;obtain⟨t1,t2,t3⟩:=htwo;have hmem:∀a,a∈es.take (aS t.table x)++(⟨⟨x,0,t.clock,[]⟩,none,0,0,none⟩:Cel)::es.drop (aS t.table x)->a∈es\/a=⟨⟨x,0,t.clock,[]⟩,none,0,0,none⟩:=λa ha=>by
   rcases List.mem_append.1 ha with ha | ha
   ·exact .inl (List.mem_of_mem_take ha)
   ·rcases List.mem_cons.1 ha with ha | ha
    ·exact .inr ha
    ·exact .inl (List.mem_of_mem_drop ha)
  have hT2:=fS.upd n1.sub hu (λa ha=>by
   rcases hmem a ha with ha | rfl
   ·exact hT.one a ha
   ·exact Ow.nil _ _ _ _) (λa ha=>by
   rcases hmem a ha with ha | rfl
   ·exact hT.gap a ha
   ·exact λb _ h=>by cases h) (by
   rw[List.pairwise_append,List.pairwise_cons];refine⟨t1,⟨λb _ x hx=>(by cases hx),t2⟩,λa ha b hb=>?_⟩
   rcases List.mem_cons.1 hb with rfl | hb
   ·exact λb _ h=>by cases h
   ·exact t3 a ha b hb) ho2 hg'
  refine⟨p',n',c',rfl,less b2 H',hu.own hT.own (λb hb=>.inr (.inr (.inr (.inl hb)))),?_⟩;refine Rt.mp (r:=({ t with table:=bX t.table ⟨x,0,t.clock,[]⟩ },0,false)) (by unfold Sta.opens;rw[if_neg hh,if_neg (by omega)]) hH h0 h1 hT.foot (λW k=>⟨k.1.eq,k.2.1.eq⟩) hT2 ?_ (λb hb=>?_)
  ·rw[List.map_append,List.map_cons,List.map_take,List.map_drop,ht];exact xh hi (s:=⟨x,0,t.clock,[]⟩) hh'
  ·rcases hb with hb | ⟨a,ha,hb⟩
   ·rcases hg' with h | h
    ·exact .inl (.inl (h▸hb))
    ·exact .inr (Nat.le_trans n1.mod.size (h b hb))
   ·rcases hmem a ha with ha | rfl
    ·exact .inl (.inr ⟨a,ha,hb⟩)
    ·cases hb
theorem s8(l:List Rep)(m:Int):(l.filter λs=>!nC m s)=l.filter λr=>decide (m<r.seq):=by
 congr 1
 funext r
 unfold nC
 by_cases h:r.seq<=m
 ·rw[decide_eq_true h,decide_eq_false (by omega)];rfl
 ·rw[decide_eq_false h,decide_eq_true (by omega)];rfl
set_option maxRecDepth 100000 in
set_option maxHeartbeats 4000000 in
theorem BX{H:Hp}{p:OL}{n c:Nat}{es:List Cel}{g:Option Nat}(hT:fS H p n c es g){t:Sta}(ht:es.map Cel.s=t.table)(hi:Inc t.table){e:Ent}(hh:b9 t.table e.client=true)(hok:(bI t.table e.client).err=0)(hv:t.vals.ok=true)(hop:e.op.err=0)(hack:e.ack<=60)(b0 b1:Nat) :
  Gb Tryz.prog 163 #[.pointer (some ⟨b0,0,none⟩),.pointer (ab p (0+(aS t.table e.client:Int) * 4)),e.val] H (lp g es) b0 b1 (qi b1 false) 197 (t.cells (vsl p n c)) 33 (wG H (lp g es) b1 (t.calls ((bI t.table e.client).ack t.clock e.ack) e)):=λW hH e0 e1 hne h0 h1=>by
 obtain⟨a,ha,has,hac⟩:=rR (c:=e.client) (by rw[ht];exact hi) (by rw[ht];exact hh);rw[ht] at ha has;generalize hi0:aS t.table e.client=i at ha |-;have hset:∀x:Ses,x.client=e.client->t.table.set i x=bX t.table x:=λx hx=>by
  rw[<- hi0,<- hx];exact oQ hi (by rw[hx];exact hh)
 have hxc:((bI t.table e.client).ack t.clock e.ack).client=e.client:=by rw[<- has];exact hac
 have hxi:mM ((bI t.table e.client).ack t.clock e.ack).kept:=(dh.1 (aP.1 hok).2.2.2).2.filter _;have hxk:((bI t.table e.client).ack t.clock e.ack).kept.length<=3:=Nat.le_trans (List.length_filter_le _ _) (jT hok)
 have hxa:0<=((bI t.table e.client).ack t.clock e.ack).acked/\((bI t.table e.client).ack t.clock e.ack).acked<=60:=by
  have:=(aP.1 hok).2.1;simp only[Ses.ack];omega
 rw[<- has] at hxc hxi hxk hxa |-;clear hok hh;have ham:=List.mem_of_getElem? ha
 have hilt:=(List.getElem?_eq_some_iff.1 ha).1;obtain⟨ti,z,i1,i2,i3,i4,i5,i6⟩:=aR fm;obtain⟨ui,uz,u1,u2,u3,u4,u5,u6⟩:=aR s7;have em:(if a.s.acked<e.ack then e.ack else a.s.acked)=max a.s.acked e.ack:=by omega
 have hc0:=mf hT.own ha (off:=0+(i:Int) * 4) (by omega);refine Dz p (0+(i:Int) * 4) false t.pos t.clock t.vals.a t.vals.b t.vals.c t.vals.d p n c e.kind e.time e.client e.seq e.ack e.op.kind e.op.key e.op.to e.op.n b0 b1 (λb=>b=b0\/b=b1\/lp g es b) H W _ hH hne ⟨e0,.inl rfl,h0⟩ ⟨e1,.inr (.inl rfl),h1⟩ λb2 b3=>⟨hc0.1.isSome,λ_=>⟨by omega,λ_=>?_⟩⟩
 intro W1 n1 _;obtain⟨W2,H1,hrun1,hu1,hT1⟩:=(hT.x i).store n1.sub ha (t:=3) (j:=2) (v:=vi t.clock) (a':=⟨{ a.s with seen:=t.clock },a.p,a.n,a.c,a.k⟩) i1 i3 rfl rfl (by omega) rfl (hT.one a ham) (hT.gap a ham) (λl b hb hl=>show fu a.k b.k from jf hT.two ha hb (λh=>hl h.symm)) (off:=0+(i:Int) * 4+2) (by omega);have ha1:(es.set i ⟨{ a.s with seen:=t.clock },a.p,a.n,a.c,a.k⟩)[i]?=some ⟨{ a.s with seen:=t.clock },a.p,a.n,a.c,a.k⟩:=List.getElem?_set_self hilt
 have hc1:=mf hT1.own ha1 (off:=0+(i:Int) * 4) (by omega);have hgM:∀b,g=some b->W.heap.size<=b\/(b=b0\/b=b1\/lp g es b):=λb hb=>.inr (.inr (.inr (.inl hb)))
 refine⟨W2,hrun1,H1,hu1.own hT.own hgM,a.s.acked,hc1.2.1,?_⟩;rw[em];intro W3 n3 _;have ham1:=List.mem_of_getElem? ha1
 have q1:=hT1.one _ ham1;have q2:=hT1.gap _ ham1
 have q3:=λ(l:Nat) (b:Cel) (hb:(es.set i ⟨{ a.s with seen:=t.clock },a.p,a.n,a.c,a.k⟩)[l]?=some b) (hl:l≠i)=>jf hT1.two ha1 hb (λh=>hl h.symm);obtain⟨W4,H2,hrun2,hu2,hT2⟩:=(hT1.x i).store n3.sub ha1 (t:=3) (j:=1) (v:=vi (max a.s.acked e.ack)) (a':=⟨⟨a.s.client,max a.s.acked e.ack,t.clock,a.s.kept⟩,a.p,a.n,a.c,a.k⟩) i1 i3 rfl rfl (by omega) rfl q1 q2 q3 (off:=0+(i:Int) * 4+1) (by omega);rw[List.set_set] at hT2;have ha2:(es.set i ⟨⟨a.s.client,max a.s.acked e.ack,t.clock,a.s.kept⟩,a.p,a.n,a.c,a.k⟩)[i]?=some ⟨⟨a.s.client,max a.s.acked e.ack,t.clock,a.s.kept⟩,a.p,a.n,a.c,a.k⟩:=List.getElem?_set_self hilt
 have ham2:=List.mem_of_getElem? ha2;have hc2:=mf hT2.own ha2 (off:=0+(i:Int) * 4) (by omega)
 refine⟨W4,hrun2,H2,hu2.own hT1.own hgM,a.p,a.n,a.c,hc2.2.2.2,?_⟩;have hkM:∀b,a.k=some b->W.heap.size<=b\/(b=b0\/b=b1\/lp g es b):=λb hb=>.inr (.inr (.inr (.inr ⟨a,ham,hb⟩)))
 have hown2:Ow H2 184 2 a.p a.n a.c (a.s.kept.map Rep.row) a.k:=(hT2.one _ ham2 :)
 refine Cl.turnK (g:=a.k) (b:=b2) (o:=.cells #[.pointer (ab p (0+(i:Int) * 4))] 216 (0,0)) (λ_ k=>k.1) (λhb2=>C3 (q:=some (b2,0)) (u:=fR p (0+(i:Int) * 4).toNat) (a:=max a.s.acked e.ack) ?_ ?_ (hown2.mono λb _ o h=>gM hb2 b o h)) ?_
 ·rw[<- bD];refine⟨b2,0,rfl,#[.pointer (ab p (0+(i:Int) * 4))],216,(0,0),?_,λj hj=>?_⟩
  ·unfold but;rw[if_neg (λh=>by
    obtain⟨o,h2⟩:=hown2.held b2 h;rw[hb2] at h2;cases h2)]
   exact cm ..
  ·have:j=0:=by simpa using hj
   subst this;exact⟨rfl,qj _⟩
 ·have ho:=hT2.own.mono (K:=but a.k (bh H2 b2 (.cells #[.pointer (ab p (0+(i:Int) * 4))] 216 (0,0)))) λb hb o h=>by
   unfold but;rw[if_neg (λh2=>hT2.gap _ ham2 b hb h2)];exact gM hb2 b o h
  have:=(mf ho ha2 (off:=0+(i:Int) * 4) (by omega)).2.1;exact aa.shift (by rw[Int.zero_add 1];exact this) (by omega) (by omega)
 rintro v W5 W6 H' k' ⟨n',rfl,ho'⟩ hu3 hk' n5 hb2 hlt2;have hkb:k'≠some b2:=λh=>by
  rcases hk' with h1 | h1
  ·obtain⟨o,h2⟩:=hown2.held b2 (h1▸h);rw[hb2] at h2;cases h2
  ·have:=h1 b2 h;omega
 have ho3:=oP ho' hkb;rw[s8] at ho3;obtain⟨hX3,hg3,hr3⟩:=hT2.turnK n5.sub ha2 hu3 hk';refine⟨a.p,n',a.c,rfl,less b2 H',hu3.own hown2 hkM,?_⟩;intro W7 n7 _;obtain⟨W8,H4,hrun4,hu4,hT4⟩:=hX3.store n7.sub ha2 (t:=91) (j:=3) (v:=vsl a.p n' a.c) (a':=⟨a.s.ack t.clock e.ack,a.p,n',a.c,k'⟩) u1 u3 rfl rfl (by omega) rfl ho3 hg3 hr3 (off:=0+(i:Int) * 4+3) (by omega);rw[List.set_set] at hT4;generalize hx:a.s.ack t.clock e.ack=x at hxc hxi hxk hxa hT4 |-;have ha4:(es.set i ⟨x,a.p,n',a.c,k'⟩)[i]?=some ⟨x,a.p,n',a.c,k'⟩:=List.getElem?_set_self hilt
 have ham4:=List.mem_of_getElem? ha4;have hc4:=mf hT4.own ha4 (off:=0+(i:Int) * 4) (by omega)
 have hk4:k'=a.k\/∀b,k'=some b->W.heap.size<=b:=hk'.imp id λh b hb=>Nat.le_trans n5.mod.size (h b hb);have hown4:Ow H4 184 2 a.p n' a.c (x.kept.map Rep.row) k':=(hT4.one _ ham4 :)
 have hkept4:bM H4 a.p n' a.c x.kept:=bM.of_ow hown4;have hn':=hkept4.len
 have hmap:(es.set i ⟨x,a.p,n',a.c,k'⟩).map Cel.s=bX t.table x:=by rw[List.map_set,ht];exact hset x hxc
 refine⟨W8,hrun4,H4,hu4.own hX3.own hgM,x.acked,hc4.2.1,λhs=>?_,λhs=>⟨a.p,n',a.c,hc4.2.2.2,?_⟩⟩
 ·exact Rt.mp (r:=({ t with table:=bX t.table x },-4,false)) (by unfold Sta.calls;rw[if_pos hs]) hH h0 h1 hT.foot (λW k=>⟨k.1.eq,k.2.1.eq⟩) hT4 hmap (lx ha hk4)
 refine Cl.same (FP hkept4 hxi (by omega) e.seq) λ_ _ hx2=>⟨_,_,rfl,hx2,λhf=>⟨a.p,n',a.c,hc4.2.2.2,?_⟩,λhf=>⟨x.acked,hc4.2.1,in64 (by omega),λ_=>⟨λhfar=>?_,λhfar=>?_⟩⟩⟩
 ·obtain⟨_,_,j3,_,_⟩:=jW e.seq x.kept hxi;obtain⟨r,r1,r2,r3⟩:=j3 hf;have hpl:=Du hxi hf
  obtain⟨r',hr',hat⟩:=hkept4.at (k:=gR x.kept e.seq) (by omega)
  rw[r1] at hr';simp only[Option.some.injEq] at hr';subst hr';have h3:=hat (0+(gR x.kept e.seq:Int) * 2) (by omega)
  refine⟨⟨by omega,by omega⟩,λ_=>⟨h3.1.isSome,λ_=>⟨by omega,λ_=>⟨_,h3.2.2,?_⟩⟩⟩⟩;rw[<- r3];exact Rt.mp (r:=({ t with table:=bX t.table x },(jw x.kept e.seq).val,false)) (by unfold Sta.calls;rw[if_neg hs,if_pos hf]) hH h0 h1 hT.foot (λW k=>⟨k.1.eq,k.2.1.eq⟩) hT4 hmap (lx ha hk4)
 ·exact Rt.mp (r:=({ t with table:=bX t.table x },-5,false)) (by unfold Sta.calls;rw[if_neg hs,if_neg hf,if_pos hfar]) hH h0 h1 hT.foot (λW k=>⟨k.1.eq,k.2.1.eq⟩) hT4 hmap (lx ha hk4)
 ·refine Cl.same (ED e.op hop hv H4) λ_ _ hx3=>⟨_,_,_,_,_,rfl,hx3,a.p,n',a.c,hc4.2.2.2,λb4=>?_⟩
  generalize hr:e.op.turn t.vals=r;have hf':gI x.kept e.seq=false:=by simpa using hf
  have hpl:=wx x.kept e.seq;have hkM4:∀b,k'=some b->W.heap.size<=b\/(b=b0\/b=b1\/lp g es b):=λb hb=>by
   rcases hk4 with h | h
   ·exact hkM b (h▸hb)
   ·exact .inl (h b hb)
  refine Cl.turnK (g:=k') (b:=b4) (o:=.cells #[vi e.seq,vi r.2] 184 (0,0)) (λ_ k=>k.1) (λhb4=>yH (hown4.mono λb _ o h=>gM hb4 b o h) (i:=gR x.kept e.seq) (by omega) (vb:=b4) (row := [vi e.seq,vi r.2]) (cm ..) rfl (λv hv=>by
    simp only[List.mem_cons,List.not_mem_nil,or_false] at hv
    rcases hv with rfl | rfl<;>rfl) (λh=>by
    obtain⟨o,h2⟩:=hown4.held b4 h;rw[hb4] at h2;cases h2) (by omega)) ?_
  rintro v W9 W10 H5 k2 ⟨p5,n5',c5,rfl,ho5⟩ hu5 hk5 n9 hb4 hlt4;have hkb4:k2≠some b4:=λh=>by
   rcases hk5 with h1 | h1
   ·obtain⟨o,h2⟩:=hown4.held b4 (h1▸h);rw[hb4] at h2;cases h2
   ·have:=h1 b4 h;omega
  have ho6:=oP ho5 hkb4;have hput:(x.kept.map Rep.row).take (gR x.kept e.seq) ++ [vi e.seq,vi r.2]::(x.kept.map Rep.row).drop (gR x.kept e.seq)=(mO x.kept ⟨e.seq,r.2⟩).map Rep.row:=by
   rw[<- ux hxi (s:=⟨e.seq,r.2⟩) hf',List.map_append,List.map_cons,List.map_take,List.map_drop];rfl
  rw[hput] at ho6;obtain⟨hX6,hg6,hr6⟩:=hT4.turnK n9.sub ha4 hu5 hk5;refine⟨p5,n5',c5,rfl,less b4 H5,hu5.own hown4 hkM4,?_⟩;intro W11 n11 _;obtain⟨W12,H7,hrun7,hu7,hT7⟩:=hX6.store n11.sub ha4 (t:=91) (j:=3) (v:=vsl p5 n5' c5) (a':=⟨{ x with kept:=mO x.kept ⟨e.seq,r.2⟩ },p5,n5',c5,k2⟩) u1 u3 rfl rfl (by omega) rfl ho6 hg6 hr6 (off:=0+(i:Int) * 4+3) (by omega);rw[List.set_set] at hT7;refine⟨W12,hrun7,H7,hu7.own hX6.own hgM,?_⟩;refine Rt.mp (r:=({ t with vals:=r.1,table:=bX t.table { x with kept:=mO x.kept ⟨e.seq,r.2⟩ } },r.2,true)) (by unfold Sta.calls;rw[if_neg hs,if_neg hf,if_neg hfar,hr]) hH h0 h1 hT.foot (λW k=>⟨k.1.eq,k.2.1.eq⟩) hT7 ?_ (lx ha ?_)
  ·rw[List.map_set,ht];exact hset _ hxc
  ·rcases hk5 with h | h
   ·rw[h];exact hk4
   ·exact .inr λb hb=>Nat.le_trans n9.mod.size (h b hb)
set_option maxRecDepth 100000 in
set_option maxHeartbeats 4000000 in
theorem AZ{H:Hp}{p:OL}{n c:Nat}{s:Sta}(hT:Tab H p n c s.table)(hs:dy s)(hp:s.pos<50){e:Ent}(he:ip e)(b0 b1:Nat) :
  Gb Tryz.prog 142 #[.pointer (some ⟨b0,0,none⟩),e.val] H noM b0 b1 (qi b1 false) 197 (s.cells (vsl p n c)) 33 (wG H noM b1 (s.apply e)):=λW hH e0 e1 hne h0 h1=>by
 have hpos:=hs.pos;have hck:=hs.clock
 have het:=he.time;have hsm:=Small.of_ok hs.table
 have em:(if s.clock<e.time then e.time else s.clock)=max s.clock e.time:=by omega
 refine AL false s.pos s.clock s.vals.a s.vals.b s.vals.c s.vals.d p n c e.kind e.time e.client e.seq e.ack e.op.kind e.op.key e.op.to e.op.n b0 b1 (λb=>b=b0\/b=b1\/noM b) H W _ hH hne ⟨e0,.inl rfl,h0⟩ ⟨e1,.inr (.inl rfl),h1⟩ λb2=>⟨in64 (by omega),λ_=>?_⟩
 rw[em];have htok:=Sta.tick_ok hs het hp
 refine Cl.fresh (Co hT hsm hs.table.ord (clock:=max s.clock e.time) (by omega)) ?_;rintro v W1 W2 D ⟨p1,n1,c1,es,g,rfl,hO,hes⟩ hx hD hf nw1;refine⟨p1,n1,c1,rfl,hx,D,hD,hf,λH1 h01 hD1=>?_⟩;have hO1:=hO.mono hD1
 have hft:es.map Cel.s=(s.tick e.time).table:=hes;have hnew:∀b,lp g es b->W.heap.size<=b:=λb hb=>by
  obtain⟨o,h⟩:=hO.foot b hb;exact Nat.le_trans nw1.mod.size (hf b o h)
 have hTab:=hO1.tab;rw[hft] at hTab;have hn1:=hTab.len
 have hl3:=htok.table.len;refine Cl.same (EO hTab htok.table.ord (by omega) e.client) λ_ _ hx2=>⟨_,_,rfl,hx2,λhk=>?_,λhk=>?_⟩
 ·refine Cl.both (Cd hO1 hft htok.table.ord (by omega) e.client b0 b1) (λb hb=>⟨hO1.foot b hb,.inl (hnew b hb)⟩) (λW k=>⟨k.1,k.2.1⟩) (λ_ _=>hne) ?_;rintro v W3 W4 D0 D1 H' ⟨p2,n2,c2,es2,g2,rfl,rfl,rfl,hO2,he2,hf2⟩ n3 hd hbt;refine⟨_,some (b1,0),_,_,_,_,_,_,_,p2,n2,c2,rfl,hbt _ ?_⟩;refine Rt.mp (r:=(s.tick e.time).opens e.client) (by unfold Sta.apply Sta.does Sta.opens;rw[if_pos hk]) hH h0 h1 (λb hb=>hb.elim) (λW k=>⟨k.1.eq,k.2.1.eq⟩) hO2 he2 (λb hb=>.inr ?_)
  rcases hf2 b hb with h | h
  ·exact hnew b h
  ·obtain⟨o,ho⟩:=hO2.foot b hb
   rcases hd b o ho with⟨o',h'⟩ | h'
   ·rw[h] at h';cases h'
   ·exact Nat.le_trans n3.mod.size h'
 ·refine⟨λhh=>⟨λhk3=>?_,λhk3=>?_⟩,λhh=>?_⟩
  ·have hpl:=mu htok.table.ord hh;refine⟨in64 (by omega),λ_=>?_⟩;refine Cl.turn (A7 hO1.own (i:=aS (s.tick e.time).table e.client) (j:=aS (s.tick e.time).table e.client+1) (by omega) (by omega) (by omega)) ?_;rintro v W3 W4 H' g' ⟨p2,n2,c2,rfl,ho'⟩ hu hg' n3;rw[<- List.map_take,<- List.map_drop,<- List.map_append] at ho';have hsub:(es.take (aS (s.tick e.time).table e.client)++es.drop (aS (s.tick e.time).table e.client+1)).Sublist es:=by
    conv=>rhs;rw[<- List.take_append_drop (aS (s.tick e.time).table e.client) es]
    refine List.Sublist.append (List.Sublist.refl _) ?_;rw[<- List.drop_drop];exact List.drop_sublist _ _
   have hO2:=fS.upd n3.sub hu (λa ha=>hO1.one a (hsub.mem ha)) (λa ha=>hO1.gap a (hsub.mem ha)) (hO1.two.sublist hsub) ho' hg';refine⟨p2,n2,c2,rfl,H',hu.own hO1.own (λb hb=>.inl (hnew b (.inl hb))),?_⟩;refine Rt.mp (r:=({ s.tick e.time with table:=fZ (s.tick e.time).table e.client },0,false)) (by unfold Sta.apply Sta.does;rw[if_neg hk,if_pos hh,if_pos hk3]) hH h0 h1 (λb hb=>hb.elim) (λW k=>⟨k.1.eq,k.2.1.eq⟩) hO2 ?_ (λb hb=>.inr ?_)
   ·rw[List.map_append,List.map_take,List.map_drop,hft];exact C9 htok.table.ord hh
   ·rcases hb with hb | ⟨a,ha,hb⟩
    ·rcases hg' with h | h
     ·exact hnew b (.inl (h▸hb))
     ·exact Nat.le_trans n3.mod.size (h b hb)
    ·exact hnew b (.inr ⟨a,hsub.mem ha,hb⟩)
  ·have hpl:=mu htok.table.ord hh;have hk2:e.kind=2:=by have:=he.kind;omega
   obtain⟨q1,q2,q3⟩:=he.call hk2;obtain⟨m1,m2⟩:=ng htok.table.ord hh;obtain⟨a,ha,_⟩:=rR (c:=e.client) (by rw[hft];exact htok.table.ord) (by rw[hft];exact hh);rw[hft] at ha;refine⟨⟨by omega,by omega⟩,λ_=>⟨(mf hO1.own ha (off:=0+(aS (s.tick e.time).table e.client:Int) * 4) (by omega)).1.isSome,λ_=>?_⟩⟩;refine Cl.both (BX hO1 hft htok.table.ord hh (htok.table.one _ m1) htok.vals q3 (by omega) b0 b1) (λb hb=>⟨hO1.foot b hb,.inl (hnew b hb)⟩) (λW k=>⟨k.1,k.2.1⟩) (λ_ _=>hne) ?_;rintro v W3 W4 D0 D1 H' ⟨p2,n2,c2,es2,g2,rfl,rfl,rfl,hO2,he2,hf2⟩ n3 hd hbt;refine⟨_,some (b1,0),_,_,_,_,_,_,_,p2,n2,c2,rfl,hbt _ ?_⟩;refine Rt.mp (r:=(s.tick e.time).calls ((bI (s.tick e.time).table e.client).ack (s.tick e.time).clock e.ack) e) (by unfold Sta.apply Sta.does;rw[if_neg hk,if_pos hh,if_neg hk3]) hH h0 h1 (λb hb=>hb.elim) (λW k=>⟨k.1.eq,k.2.1.eq⟩) hO2 he2 (λb hb=>.inr ?_)
   rcases hf2 b hb with h | h
   ·exact hnew b h
   ·obtain⟨o,ho⟩:=hO2.foot b hb
    rcases hd b o ho with⟨o',h'⟩ | h'
    ·rw[h] at h';cases h'
    ·exact Nat.le_trans n3.mod.size h'
  ·exact Rt.mp (r:=(s.tick e.time,-3,false)) (by unfold Sta.apply Sta.does;rw[if_neg hk,if_neg hh]) hH h0 h1 (λb hb=>hb.elim) (λW k=>⟨k.1.eq,k.2.1.eq⟩) hO1 hft (λb hb=>.inr (hnew b hb))
end Go.Proofs.YtfpmcmhihhnfgaaGreatDoor
