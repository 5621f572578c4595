/- Plain laws of tables. No conditions. -/
import Derived.Test.YtfpmcmhihhnfgaaGreatDoorKS3
set_option linter.unusedVariables false
set_option linter.unusedSimpArgs false
namespace Go.Proofs.YtfpmcmhihhnfgaaGreatDoor
open Go.RowKit
abbrev Inc(l:List Ses):Prop:=l.Pairwise λa b=>a.client<b.client
theorem sH{a:Int}:∀{l:List Rep} {last:Int},dj a last l=true->last<=a+3->(l.length:Int)<=a+3-last
 | [],last,_,h=>by simp;omega
 | r::t,last,hk,h=>by
  simp only[dj,Bool.and_eq_true,decide_eq_true_eq] at hk;have:=sH hk.2 (by omega)
  simp only[List.length_cons]
  omega
theorem jT{s:Ses}(h:s.err=0):s.kept.length<=3:=by
 have h1:=Ses.err_ok h;have:=sH h1.2.2.2 (by omega)
 omega
theorem ff(c:Int):∀(l:List Ses),Inc l->l.take (aS l c)=l.filter (λx=>decide (x.client<c))/\l.drop (aS l c+if b9 l c=true then 1 else 0)=l.filter (λx=>decide (c<x.client)) /\
  (b9 l c=true->∃s,l[aS l c]?=some s/\s.client=c/\bI l c=s)/\fZ l c=l.filter (λx=>decide (x.client<c))++l.filter (λx=>decide (c<x.client))/\(b9 l c=false->bI l c=Ses.zero/\fZ l c=l)
 | [],_=>by simp[aS,b9,fZ,bI]
 | s::t,h=>by
  rw[Inc,List.pairwise_cons] at h;obtain⟨i1,i2,i3,i4,i5⟩:=ff c t h.2
  rcases Int.lt_trichotomy s.client c with hlt | heq | hgt
  ·have hp:aS (s::t) c=aS t c+1:=by simp[aS,hlt]
   have hh:b9 (s::t) c=b9 t c:=by
    have:s.client≠c:=by omega
    simp[b9,this]
   have hf:bI (s::t) c=bI t c:=by
    have:s.client≠c:=by omega
    simp[bI,this]
   have hng:¬c<s.client:=by omega
   have hne:s.client≠c:=by omega
   refine⟨?_,?_,λhx=>?_,?_,λhx=>?_⟩
   ·rw[hp,List.take_succ_cons,i1];simp[hlt]
   ·rw[hp,hh,show aS t c+1+(if b9 t c=true then 1 else 0)=(aS t c+if b9 t c=true then 1 else 0)+1 by omega,List.drop_succ_cons,i2];simp[hng]
   ·rw[hp,hf];rw[hh] at hx;simpa using i3 hx
   ·rw[fZ] at i4;rw[fZ,List.filter_cons,if_pos (by simpa using hne),i4,List.filter_cons,if_pos (by simpa using hlt),List.filter_cons,if_neg (by simpa using hng)];rfl
   ·rw[hh] at hx;obtain⟨j1,j2⟩:=i5 hx;refine⟨by rw[hf,j1],?_⟩;rw[fZ] at j2;rw[fZ,List.filter_cons,if_pos (by simpa using hne),j2]
  ·have hall:∀x∈t,c<x.client:=λx hx=>by have:=h.1 x hx;omega
   have hz:t.filter (λx=>decide (x.client<c)) = []:=List.filter_eq_nil_iff.2 λx hx=>by have:=hall x hx;simp;omega
   have hy:t.filter (λx=>decide (c<x.client))=t:=List.filter_eq_self.2 λx hx=>by have:=hall x hx;simpa using this
   have hd:t.filter (λx=>decide (x.client≠c))=t:=List.filter_eq_self.2 λx hx=>by have:=hall x hx;simp;omega
   have hp:aS (s::t) c=0:=by simp[aS,heq,hz]
   have hh:b9 (s::t) c=true:=by simp[b9,heq]
   have h1:¬s.client<c:=by omega
   have h2:¬c<s.client:=by omega
   refine⟨?_,?_,λ_=>⟨s,?_,heq,?_⟩,?_,λhx=>(by rw[hh] at hx;cases hx)⟩
   ·rw[hp];simp[h1,hz]
   ·rw[hp,hh];simp[h2,hy]
   ·rw[hp];rfl
   ·simp[bI,heq]
   ·rw[fZ,List.filter_cons,if_neg (by simpa using heq),hd,List.filter_cons,if_neg (by simpa using h1),hz,List.filter_cons,if_neg (by simpa using h2),hy];rfl
  ·have hall:∀x∈t,c<x.client:=λx hx=>by have:=h.1 x hx;omega
   have hz:t.filter (λx=>decide (x.client<c)) = []:=List.filter_eq_nil_iff.2 λx hx=>by have:=hall x hx;simp;omega
   have hy:t.filter (λx=>decide (c<x.client))=t:=List.filter_eq_self.2 λx hx=>by have:=hall x hx;simpa using this
   have hd:t.filter (λx=>decide (x.client≠c))=t:=List.filter_eq_self.2 λx hx=>by have:=hall x hx;simp;omega
   have h1:¬s.client<c:=by omega
   have hne:s.client≠c:=by omega
   have hp:aS (s::t) c=0:=by simp[aS,h1,hz]
   have hh:b9 (s::t) c=false:=by
    simp only[b9,List.any_cons,Bool.or_eq_false_iff,decide_eq_false_iff_not,List.any_eq_false,decide_eq_true_eq]
    exact⟨hne,λx hx=>by have:=hall x hx;omega⟩
   refine⟨?_,?_,λhx=>(by rw[hh] at hx;cases hx),?_,λ_=>⟨?_,?_⟩⟩
   ·rw[hp];simp[h1,hz]
   ·rw[hp,hh];simp[hgt,hy]
   ·rw[fZ,List.filter_cons,if_pos (by simpa using hne),hd,List.filter_cons,if_neg (by simpa using h1),hz,List.filter_cons,if_pos (by simpa using hgt),hy];rfl
   ·have:(s::t).find? (λx=>decide (x.client=c))=none:=List.find?_eq_none.2 λx hx=>by
     rcases List.mem_cons.1 hx with rfl | hx
     ·simpa using hne
     ·have:=hall x hx;simp;omega
    simp[bI,this]
   ·rw[fZ,List.filter_cons,if_pos (by simpa using hne),hd]
theorem C9{l:List Ses}(h:Inc l){c:Int}(hh:b9 l c=true):l.take (aS l c)++l.drop (aS l c+1)=fZ l c:=by
 obtain⟨i1,i2,_,i4,_⟩:=ff c l h;rw[hh] at i2;simp only[if_true] at i2;rw[i1,i2,i4]
theorem CT{l:List Ses}(h:Inc l){s:Ses}(hh:b9 l s.client=true):(l.take (aS l s.client)++l.drop (aS l s.client+1)).take (aS l s.client)++s::(l.take (aS l s.client)++l.drop (aS l s.client+1)).drop (aS l s.client)=bX l s:=by
 obtain⟨i1,i2,i3,_,_⟩:=ff s.client l h;rw[hh] at i2;simp only[if_true] at i2;obtain⟨x,hx,_⟩:=i3 hh;have hlen:(l.take (aS l s.client)).length=aS l s.client:=by
  have:=(List.getElem?_eq_some_iff.1 hx).1;simp;omega
 have e1:(l.take (aS l s.client)++l.drop (aS l s.client+1)).take (aS l s.client)=l.take (aS l s.client):=by
  conv=>lhs;rw[List.take_append,hlen,Nat.sub_self,List.take_zero,List.append_nil,List.take_of_length_le (by omega)]
 have e2:(l.take (aS l s.client)++l.drop (aS l s.client+1)).drop (aS l s.client)=l.drop (aS l s.client+1):=by
  conv=>lhs;rw[List.drop_append,hlen,Nat.sub_self,List.drop_zero,List.drop_of_length_le (by omega),List.nil_append]
 rw[e1,e2,i1,i2];rfl
theorem xh{l:List Ses}(h:Inc l){s:Ses}(hh:b9 l s.client=false):l.take (aS l s.client)++s::l.drop (aS l s.client)=bX l s:=by
 obtain⟨i1,i2,_,_,_⟩:=ff s.client l h;rw[hh] at i2;simp only[Bool.false_eq_true,if_false,Nat.add_zero] at i2;rw[i1,i2];rfl
theorem BA(l:List Ses)(c:Int):aS l c<=l.length:=List.length_filter_le _ _
theorem mu{l:List Ses}(h:Inc l){c:Int}(hh:b9 l c=true):aS l c<l.length:=by
 obtain⟨_,_,i3,_,_⟩:=ff c l h;obtain⟨x,hx,_⟩:=i3 hh;exact (List.getElem?_eq_some_iff.1 hx).1
theorem xq{l:List Ses}(h:Inc l)(s:Ses):(bX l s).length=l.length+(if b9 l s.client=true then 0 else 1):=by
 cases hh:b9 l s.client with
 | true =>
  rw[<- CT h hh];have:=mu h hh
  simp;omega
 | false =>
  rw[<- xh h hh];have:=BA l s.client
  simp;omega
theorem hM.fin{W:World}{H Dk:Hp}{p:OL}{n c:Nat}{rows:List (List Value)}{l:List Ses}{g:Option Nat}(ho:Ow H 93 4 p n c rows g)(ha:de (dz Dk) rows l)(hD:Dk.le H)(hf:∀b o,Dk b=some o->W.heap.size<=b)(hg:∀b,g=some b->Dk b=none)(hn:∀b,g=some b->W.heap.size<=b) :
  hM (aX W H) p n c l g:=⟨rows,Dk,ho.new hn,ai hD hf,hg,ha⟩
theorem hM.nil(D:Hp)(p:OL):hM D p 0 0 [] none:=⟨[],noH,Ow.nil _ _ _ _,ba _,λb h=>(by cases h),.nil⟩
theorem Bq{W W3:World}{g g':Option Nat}(hg:∀b,g=some b->W.heap.size<=b)(hs:W.heap.size<=W3.heap.size)(hg':g'=g\/∀b,g'=some b->W3.heap.size<=b):∀b,g'=some b->W.heap.size<=b:=λb hb=>by
 rcases hg' with rfl | h
 ·exact hg b hb
 ·exact Nat.le_trans hs (h b hb)
theorem yO(l:List Ses)(clock:Int):(l.filter λs=>!old clock s)=gZ l clock:=by
 unfold gZ
 congr 1
 funext s
 unfold old
 by_cases h:s.seen<clock-20
 ·rw[decide_eq_true h,decide_eq_false (by omega)];rfl
 ·rw[decide_eq_false h,decide_eq_true (by omega)];rfl
structure Small(l:List Ses):Prop where
 len:l.length<=1099511627776
 one:∀s∈l,s.kept.length<=8796093022208
theorem Small.of_ok{l:List Ses}(h:fy l):Small l:=⟨by have:=h.len;omega,λs hs=>by have:=jT (h.one s hs);omega⟩
theorem Tab.one{H:Hp}{p:OL}{n c:Nat}{l:List Ses}(h:Tab H p n c l){k:Nat}{s:Ses}(hs:l[k]?=some s):Tab H (bK p c k 4) 1 (c-k) [s]:=by
 have hn:=h.len;have hk:=(List.getElem?_eq_some_iff.1 hs).1
 obtain⟨h1,h2,rows,h3,h4⟩:=h;obtain⟨row,hr,hrs⟩:=h4.get' hs;refine⟨by omega,by omega,[row],?_,.one hrs⟩;have:=h3.tail (lo:=k) (c:=c) (by omega) h1
 have h5:=this.take 1 (by omega);rw[bB hr] at h5;exact h5
def Ses.val(s:Ses)(v:Value):Value:=.agg #[vi s.client,vi s.acked,vi s.seen,v]
theorem yy(W:World){W1 W':World}{g g':Option Nat}{H H':Hp}(hu:Upd g W1 W' H H')(hH:H.le (ak W1))(hg:g'=g\/∀b,g'=some b->W1.heap.size<=b):(aN W g H).le (aN W g' H'):=λb o hb=>by
 unfold aN at hb |-
 split at hb
 ·rename_i hh;have hlt:=ag (hH b o hb)
  have hne:g'≠some b:=λh=>by
   rcases hg with h1 | h1
   ·exact hh.2 (h1▸h)
   ·have:=h1 b h;omega
  rw[if_pos ⟨hh.1,hne⟩,hu.same b hlt hh.2];exact hb
 ·cases hb
theorem kr{W:World}{K:Hp}{p:OL}{n c:Nat}{rows:List (List Value)}{L:List Ses}{g:Option Nat}(ho:Ow K 93 4 p n c rows g)(hg:∀b,g=some b->W.heap.size<=b)(ha:de (dz (aN W g K)) rows L){q:OL}{m d:Nat}{s:Ses}(hk:bM K q m d s.kept)
  (hb:m<=8796093022208) (hn:n<=1099511627776) {Φ:OL->Nat->Nat->Hp->Prop}
  (next:∀p2 c2 g2 rows2 H3,(∀Hx:Hp,Hx.le K->(∀b,g=some b->Hx b=none)->Hx.le H3)->Ow H3 93 4 p2 (n+1) c2 rows2 g2->(∀b,g2=some b->W.heap.size<=b)->de (dz (aN W g2 H3)) rows2 (L ++ [s])->Φ p2 (n+1) c2 H3) :
  Cl Tryz.prog W noM K nK 136 #[vg #[vi s.client,vi s.acked,vi s.seen,vsl q m d]] λz W1 W2=>∃x15:Int,∃x16:Int,∃x17:Int,∃x18:OL,∃x19:Nat,∃x20:Nat,z=.returned (vg #[vi x15,vi x16,vi x17,vsl x18 x19 x20])/\Fr W1 W2 K λH2 =>
   ∀b0:Nat,Es W noM H2 (λW1=>Kn W noM H2 W1 b0 (Obj.cells #[vi x15,vi x16,vi x17,vsl x18 x19 x20] 93 (0,0))/\True) λW3=>∃x21:OL,∃x22:Nat,∃x23:Nat,Eo Tryz.prog (.bi .append #[31,31] 31) [vsl p n c,Value.slice (some ⟨b0,0,none⟩) 1 1] W3 (.value (vsl x21 x22 x23)) λW4=>Tn W noM H2 W3 W4 λH3=>Φ x21 x22 x23 H3:=by
 refine Cl.fresh (yS hk hb) ?_;rintro v W1 W2 D2 ⟨q2,d2,rfl,hq2⟩ hx hD2 hf2 n1;refine⟨_,_,_,q2,m,d2,rfl,hx,D2,hD2,hf2,λH2 h12 hD3 b0 W3 n3 k3=>?_⟩;have ho2:Ow H2 93 4 p n c rows g:=ho.mono λb _ o h=>h12 b o h
 obtain⟨p2,c2,g2,W4,H3,h1,hu,ho3,hg2,_⟩:=aD (P:=Tryz.prog) Tryz.underlying31 js (by omega) n3.sub ho2 (row := [vi s.client,vi s.acked,vi s.seen,vsl q2 m d2]) k3.1.eq k3.1.off rfl (λv hv=>by
  simp only[List.mem_cons,List.not_mem_nil,or_false] at hv
  rcases hv with rfl | rfl | rfl | rfl<;>rfl) (by simp only[maxLen];omega) (by omega) 31
 have hg2':g2=g\/∀b,g2=some b->W3.heap.size<=b:=hg2.imp id λh b hb=>by rw[h] at hb;simp only[Option.some.injEq] at hb;omega
 refine⟨p2,n+1,c2,W4,h1,H3,hu.own ho2 (λb hb=>.inl (hg b hb)),next p2 c2 g2 _ H3 (λHx hx2 hx3=>hu.keep n3.sub (Hp.le_trans hx2 h12) hx3) ho3 (Bq hg n3.mod.size hg2') ?_⟩;have hr:=yy W hu n3.sub hg2'
 have hD2r:D2.le (aN W g H2):=rH hD3 (λb o h=>Nat.le_trans n1.mod.size (hf2 b o h)) (λb hb=>by
  cases hh:D2 b with
  | none=>rfl
  | some o=>have h1:=hf2 b o hh;have h2:=ho.lt n1.sub b hb;omega)
 exact (ha.mono λ_ _ h=>h.mono (Hp.le_trans (iO W g h12) hr)).append (.one ⟨q2,m,d2,rfl,hq2.mono (Hp.le_trans hD2r hr)⟩)
theorem di(f:Ses->Bool){l:List Ses}{j:Nat}{s:Ses}(hs:l[j]?=some s):(l.take (j+1)).filter f=(l.take j).filter f++(if f s=true then [s] else []):=cq f hs
structure Out(W:World)(H K:Hp)(p:OL)(n c:Nat)(L:List Ses):Prop where
 le:H.le K
 own:∃rows g,Ow K 93 4 p n c rows g/\(∀b,g=some b->W.heap.size<=b)/\de (dz (aN W g K)) rows L
theorem Out.nil{W:World}(H:Hp):Out W H H none 0 0 []:=⟨Hp.le_refl H,[],none,Ow.nil _ _ _ _,λb h=>(by cases h),.nil⟩
theorem Out.fin{W:World}{H K:Hp}{p:OL}{n c:Nat}{L:List Ses}(h:Out W H K p n c L):∃g,hM (aX W K) p n c L g:=by
 obtain⟨rows,g,h1,h2,h3⟩:=h.own;exact⟨g,hM.fin h1 h3 (m7 W g K) (λb o hb=>dw W K b o (me W g K b o hb)) (vo W K) h2⟩
theorem Out.len{W:World}{H K:Hp}{p:OL}{n c:Nat}{L:List Ses}(h:Out W H K p n c L):n=L.length:=by
 obtain⟨rows,g,h1,h2,h3⟩:=h.own;rw[h1.1,h3.length]
theorem qU{H:Hp}{p:OL}{n c:Nat}{l:List Ses}(hT:Tab H p n c l)(hs:Small l)(x:Int):Gf Tryz.prog 104 #[vsl p n c,vi x] H λv D=>∃p' n' c' g,v=vsl p' n' c'/\hM D p' n' c' (fZ l x) g:=λW hH=>by
 have hn:=hT.len;have hsl:=hs.len
 refine yi p n c x noM H W _ hH ⟨λv K=>match v with | [.n k,.p q,.n a,.n d]=>k<=n/\Out W H K q a d (fZ (l.take k) x) | _=>False,λv=>match v with | [.n k,_,_,_]=>n-k | _=>0,⟨by omega,Out.nil H⟩,λK j q a d hI=>?_⟩;rw[bT] at hI;obtain⟨hj,hO⟩:=hI;refine⟨by omega,λ_=>⟨λhlt=>⟨⟨by omega,hlt⟩,λ_=>?_⟩,λhge=>Rt.gfn ?_⟩⟩
 ·obtain⟨s,q',m,e,hsj,hq,hat,hat1⟩:=(hT.mono hO.le).at' (k:=j) (by omega);have ht:((j:Int)+1).toNat=j+1:=by omega
  have hal:a<=1099511627776:=by
   have:=hO.len;have h2:(fZ (l.take j) x).length<=(l.take j).length:=List.length_filter_le _ _
   rw[List.length_take] at h2;omega
  refine⟨hat.isSome,λ_=>⟨_,hat1,λh=>?_,λh=>?_⟩⟩
  ·refine⟨in64 (by omega),λ_=>⟨by omega,λ_=>⟨by omega,λ_=>⟨by omega,λ_=>?_⟩⟩⟩⟩;rw[bT,ht];refine⟨⟨by omega,?_⟩,by simp only;omega⟩;rw[fZ,di _ hsj,if_neg (by simpa using h),List.append_nil];exact hO
  ·refine⟨_,_,_,q',m,e,hat,?_⟩;obtain⟨hle,rows,g,ho,hg,ha⟩:=hO;refine kr ho hg ha hq (by rw[hq.len];exact hs.one s (List.mem_of_getElem? hsj)) hal ?_;intro p2 c2 g2 rows2 H3 hkeep ho3 hg3 ha3;refine⟨in64 (by omega),λ_=>⟨by omega,λ_=>⟨by omega,λ_=>⟨by omega,λ_=>?_⟩⟩⟩⟩;rw[bT,ht];refine⟨⟨by omega,hkeep H hle (λb hb=>ao hH (hg b hb)),rows2,g2,ho3,hg3,?_⟩,by simp only;omega⟩;rw[fZ,di _ hsj,if_pos (by simpa using h)];exact ha3
 ·have e3:l.take j=l:=List.take_of_length_le (by omega);rw[e3] at hO;obtain⟨g,hg⟩:=hO.fin;exact⟨q,a,d,g,rfl,hg⟩
theorem zz{H:Hp}{p:OL}{n c:Nat}{l:List Ses}(hT:Tab H p n c l)(hs:Small l){x:Int}(h20:-4611686018427387904<=x/\x<=4611686018427387904):Gf Tryz.prog 132 #[vsl p n c,vi x] H λv D=>∃p' n' c' g,v=vsl p' n' c'/\hM D p' n' c' (gZ l x) g:=λW hH=>by
 have hn:=hT.len;have hsl:=hs.len
 refine zJ p n c x noM H W _ hH ⟨λv K=>match v with | [.n k,.p q,.n a,.n d]=>k<=n/\Out W H K q a d (gZ (l.take k) x) | _=>False,λv=>match v with | [.n k,_,_,_]=>n-k | _=>0,⟨by omega,Out.nil H⟩,λK j q a d hI=>?_⟩;rw[bT] at hI;obtain⟨hj,hO⟩:=hI;refine⟨by omega,λ_=>⟨λhlt=>⟨⟨by omega,hlt⟩,λ_=>?_⟩,λhge=>Rt.gfn ?_⟩⟩
 ·obtain⟨s,q',m,e,hsj,hq,hat⟩:=(hT.mono hO.le).at (k:=j) (by omega)
  have ht:((j:Int)+1).toNat=j+1:=by omega
  have hal:a<=1099511627776:=by
   have:=hO.len;have h2:(gZ (l.take j) x).length<=(l.take j).length:=List.length_filter_le _ _
   rw[List.length_take] at h2;omega
  have h0:=hat (0+(j:Int) * 4) (by omega)
  refine⟨h0.1.isSome,λ_=>⟨by omega,λ_=>⟨_,h0.2.2.2.1,in64 (by omega),λ_=>⟨λh=>?_,λh=>?_⟩⟩⟩⟩
  ·refine⟨_,_,_,q',m,e,h0.1,?_⟩;obtain⟨hle,rows,g,ho,hg,ha⟩:=hO;refine kr ho hg ha hq (by rw[hq.len];exact hs.one s (List.mem_of_getElem? hsj)) hal ?_;intro p2 c2 g2 rows2 H3 hkeep ho3 hg3 ha3;refine⟨in64 (by omega),λ_=>⟨by omega,λ_=>⟨by omega,λ_=>⟨by omega,λ_=>?_⟩⟩⟩⟩;rw[bT,ht];refine⟨⟨by omega,hkeep H hle (λb hb=>ao hH (hg b hb)),rows2,g2,ho3,hg3,?_⟩,by simp only;omega⟩;rw[gZ,di _ hsj,if_pos (by simpa using h)];exact ha3
  ·refine⟨in64 (by omega),λ_=>⟨by omega,λ_=>⟨by omega,λ_=>⟨by omega,λ_=>?_⟩⟩⟩⟩;rw[bT,ht];refine⟨⟨by omega,?_⟩,by simp only;omega⟩;rw[gZ,di _ hsj,if_neg (by simpa using h),List.append_nil];exact hO
 ·have e3:l.take j=l:=List.take_of_length_le (by omega);rw[e3] at hO;obtain⟨g,hg⟩:=hO.fin;exact⟨q,a,d,g,rfl,hg⟩
theorem oD(x:Int):∀(l:List Ses) (k:Nat),(jG x k l = -1/\b9 l x=false/\bI l x=Ses.zero)\/∃j s,jG x k l=((k+j:Nat):Int)/\l[j]?=some s/\b9 l x=true/\bI l x=s
 | [],k=>.inl ⟨rfl,rfl,rfl⟩
 | s::t,k=>by
  unfold jG
  split
  ·rename_i h;exact .inr ⟨0,s,by simp,by simp,by simp[b9,h],by simp[bI,h]⟩
  ·rename_i h;have hh:b9 (s::t) x=b9 t x:=by simp[b9,h]
   have hf:bI (s::t) x=bI t x:=by simp[bI,h]
   rw[hh,hf]
   rcases oD x t (k+1) with h1 | ⟨j,u,h1,h2,h3⟩
   ·exact .inl h1
   ·exact .inr ⟨j+1,u,by rw[h1];congr 1;omega,by simpa using h2,h3⟩
def kE(l:List Ses)(s:Ses)(done:Bool)(k:Nat):List Ses:=if done=true then bX (l.take k) s else (l.take k).filter λx=>decide (x.client<s.client)
theorem nD{l:List Ses}{s t:Ses}{k:Nat}(ht:l[k]?=some t)(h:s.client<=t.client):bX (l.take (k+1)) s=bX (l.take k) s++(if t.client=s.client then [] else [t]):=by
 unfold bX;rw[di _ ht,di _ ht,if_neg (by simp;omega),List.append_nil,List.append_assoc,List.cons_append]
 congr 3
 by_cases he:t.client=s.client
 ·rw[if_neg (by simp;omega),if_pos he]
 ·rw[if_pos (by simp;omega),if_neg he]
theorem sX{l:List Ses}{s:Ses}(h:∀x∈l,x.client<s.client):bX l s=l.filter (λx=>decide (x.client<s.client)) ++ [s]:=by
 unfold bX
 congr 1
 rw[List.filter_eq_nil_iff.2 λx hx=>by have:=h x hx;simp;omega]
set_option maxHeartbeats 1000000 in
theorem BT{H:Hp}{p:OL}{n c:Nat}{l:List Ses}(hT:Tab H p n c l){s:Ses}{q0:OL}{m0 d0:Nat}(hk:bM H q0 m0 d0 s.kept) :
  Gf Tryz.prog 134 #[vsl p n c,.agg #[vi s.client,vi s.acked,vi s.seen,vsl q0 m0 d0]] H λv D=>∃p' n' c',v=.tuple #[vsl p' n' c',vi (lR l s).2]/\Tab D p' n' c' (lR l s).1:=λW hH=>by
 have tn:∀D:Hp,Tab D none 0 0 []:=λD=>(hM.nil D none).tab;have hn:=hT.len
 refine CF p n c _ _ _ q0 m0 d0 noM H W _ hH λb0=>?_;refine Cl.same (sK hT) λ_ _ hx=>⟨_,rfl,hx,λh0=>?_,λh0=>Rt.gfn ⟨none,0,0,?_,?_⟩⟩
 ·have hok:=lP.1 h0;have hs:=Small.of_ok hok
  have hl3:=hok.len;refine Cl.same (s6 hk) λ_ _ hxo=>⟨_,rfl,hxo,λhe=>?_,λhe=>Rt.gfn ⟨none,0,0,?_,?_⟩⟩
  ·have hk3:=jT he;have hm0:m0<=8796093022208:=by have:=hk.len;omega
   refine⟨λv K=>match v with | [.n k,.b done,.p q,.n a,.n d]=>k<=n/\Out W H K q a d (kE l s done k)/\(done=false->∀(j:Nat) (t:Ses),j<k->l[j]?=some t->t.client<s.client)/\(done=true->∀(j:Nat) (t:Ses),k<=j->l[j]?=some t->s.client<t.client) | _=>False,
    λv=>match v with | [.n k,_,_,_,_]=>n-k | _=>0,⟨by omega,Out.nil H,λ_ j t h=>by omega,λh=>by cases h⟩,λK j done q a d hI=>?_⟩
   rw[bT] at hI;obtain⟨hj,hO,hlow,hhigh⟩:=hI;have hal:a<=4:=by
    have h1:=hO.len;have h2:(kE l s done j).length<=(l.take j).length+1:=by
     unfold kE
     split
     ·have:(bX (l.take j) s).length=((l.take j).filter λx=>decide (x.client<s.client)).length+(((l.take j).filter λx=>decide (s.client<x.client)).length+1):=by simp[bX]
      rw[this];have h3:∀(L:List Ses),(L.filter λx=>decide (x.client<s.client)).length+(L.filter λx=>decide (s.client<x.client)).length<=L.length:=by
       intro L
       induction L with
       | nil=>simp
       | cons x L ih =>
        simp only[List.filter_cons]
        split<;>split<;>simp only[List.length_cons,decide_eq_true_eq] at *<;>omega
      have:=h3 (l.take j);omega
     ·have:=List.length_filter_le (λx:Ses=>decide (x.client<s.client)) (l.take j);omega
    rw[List.length_take] at h2;omega
   refine⟨by omega,λ_=>⟨λhlt=>?_,λhge=>?_⟩⟩
   ·obtain⟨t,q',m,e,htj,hq,hat,hat1⟩:=(hT.mono hO.le).at' (k:=j) (by omega);have htn:((j:Int)+1).toNat=j+1:=by omega
    have hmt:m<=8796093022208:=by rw[hq.len];exact hs.one t (List.mem_of_getElem? htj)
    have hjl:=(List.getElem?_eq_some_iff.1 htj).1;have hlater:∀(i:Nat) (u:Ses),j+1<=i->l[i]?=some u->t.client<u.client:=λi u hi hu=>by
     have hil:=(List.getElem?_eq_some_iff.1 hu).1;have:=List.pairwise_iff_getElem.1 hok.ord j i hjl hil (by omega)
     rw[(List.getElem?_eq_some_iff.1 htj).2,(List.getElem?_eq_some_iff.1 hu).2] at this;exact this
    refine⟨λhd=>?_,λhd=>?_⟩
    ·
     have hgt:=hhigh hd j t (Nat.le_refl _) htj;subst hd;have hnx:∀(i:Nat) (u:Ses),j+1<=i->l[i]?=some u->s.client<u.client:=λi u hi hu=>hhigh rfl i u (by omega) hu
     refine⟨⟨by omega,hlt⟩,λ_=>⟨hat.isSome,λ_=>⟨_,hat1,λh=>absurd h (by omega),λh=>⟨_,_,_,q',m,e,hat,?_⟩⟩⟩⟩;obtain⟨hle,rows,g,ho,hg,ha⟩:=hO;refine kr ho hg ha hq hmt (by omega) ?_;intro p2 c2 g2 rows2 H3 hkeep ho3 hg3 ha3;refine⟨in64 (by omega),λ_=>⟨by omega,λ_=>⟨by omega,λ_=>⟨by omega,λ_=>?_⟩⟩⟩⟩;rw[bT,htn];refine⟨⟨by omega,⟨hkeep H hle (λb hb=>ao hH (hg b hb)),rows2,g2,ho3,hg3,?_⟩,λh=>(by cases h),λ_=>hnx⟩,by simp only;omega⟩;simp only[kE,if_true] at ha3 |-;rw[nD htj (by omega),if_neg (by omega)];exact ha3
    ·have hd':done=false:=by simpa using hd
     subst hd';have hlow':=hlow rfl
     refine⟨⟨by omega,hlt⟩,λ_=>⟨hat.isSome,λ_=>⟨_,hat1,λhge=>?_,λhls=>⟨_,hat1,λh=>absurd h (by omega),λh=>⟨_,_,_,q',m,e,hat,?_⟩⟩⟩⟩⟩
     ·
      have hkK:bM K q0 m0 d0 s.kept:=hk.mono hO.le;have hltake:∀x∈l.take j,x.client<s.client:=λx hx=>by
       obtain⟨i,hi⟩:=List.mem_iff_getElem?.1 hx;rw[List.getElem?_take] at hi
       split at hi
       ·rename_i hij;exact hlow' i x hij hi
       ·cases hi
      obtain⟨hle,rows,g,ho,hg,ha⟩:=hO;refine kr ho hg ha hkK hm0 (by omega) ?_;intro p2 c2 g2 rows2 H3 hkeep ho3 hg3 ha3;have hle3:=hkeep H hle (λb hb=>ao hH (hg b hb))
      obtain⟨t3,q3,m3,e3,ht3,hq3,hat3,hat31⟩:=(hT.mono hle3).at' (k:=j) (by omega);rw[htj] at ht3;simp only[Option.some.injEq] at ht3;subst ht3;have hL:kE l s false j ++ [s]=bX (l.take j) s:=by simp only[kE,Bool.false_eq_true,if_false];rw[sX hltake]
      rw[hL] at ha3;refine⟨_,hat31,λh=>⟨in64 (by omega),λ_=>⟨by omega,λ_=>⟨by omega,λ_=>⟨by omega,λ_=>?_⟩⟩⟩⟩,λh=>⟨_,_,_,q3,m3,e3,hat3,?_⟩⟩
      ·rw[bT,htn];refine⟨⟨by omega,⟨hle3,rows2,g2,ho3,hg3,?_⟩,λh=>(by cases h),λ_ i u hi hu=>by have:=hlater i u hi hu;omega⟩,by simp only;omega⟩;simp only[kE,if_true]
       rw[nD htj (by omega),if_pos h,List.append_nil];exact ha3
      ·refine kr ho3 hg3 ha3 hq3 (by rw[hq3.len];exact hs.one t (List.mem_of_getElem? htj)) (by omega) ?_;intro p4 c4 g4 rows4 H5 hkeep5 ho5 hg5 ha5;refine⟨in64 (by omega),λ_=>⟨by omega,λ_=>⟨by omega,λ_=>⟨by omega,λ_=>?_⟩⟩⟩⟩;rw[bT,htn];refine⟨⟨by omega,⟨hkeep5 H hle3 (λb hb=>ao hH (hg3 b hb)),rows4,g4,ho5,hg5,?_⟩,λh=>(by cases h),λ_ i u hi hu=>by have:=hlater i u hi hu;omega⟩,by simp only;omega⟩;simp only[kE,if_true]
       rw[nD htj (by omega),if_neg h];exact ha5
     ·
      obtain⟨hle,rows,g,ho,hg,ha⟩:=hO;refine kr ho hg ha hq hmt (by omega) ?_;intro p2 c2 g2 rows2 H3 hkeep ho3 hg3 ha3;refine⟨in64 (by omega),λ_=>⟨by omega,λ_=>⟨by omega,λ_=>⟨by omega,λ_=>?_⟩⟩⟩⟩;rw[bT,htn];refine⟨⟨by omega,⟨hkeep H hle (λb hb=>ao hH (hg b hb)),rows2,g2,ho3,hg3,?_⟩,λ_ i u hi hu=>?_,λh=>(by cases h)⟩,by simp only;omega⟩
      ·simp only[kE,Bool.false_eq_true,if_false] at ha3 |-;rw[di _ htj,if_pos (by simp;omega)];exact ha3
      ·rcases Nat.eq_or_lt_of_le (Nat.le_of_lt_succ hi) with rfl | h2
       ·rw[htj] at hu;simp only[Option.some.injEq] at hu;rw[<- hu];omega
       ·exact hlow' i u h2 hu
   ·have hjn:j=n:=by omega
    have e3:l.take j=l:=List.take_of_length_le (by omega);refine⟨λhd=>?_,λhd=>?_⟩
    ·subst hd;have hlen:=hO.len
     simp only[kE,if_true,e3] at hO hlen;obtain⟨g,hO2⟩:=hO.fin;refine⟨by omega,λ_=>⟨λh=>Rt.gfn ⟨none,0,0,?_,?_⟩,λh=>Rt.gfn ⟨q,a,d,?_,?_⟩⟩⟩
     ·rw[lR,if_pos h0,if_pos he,if_pos (by omega)];rfl
     ·rw[lR,if_pos h0,if_pos he,if_pos (by omega)];exact tn _
     ·rw[lR,if_pos h0,if_pos he,if_neg (by omega)]
     ·rw[lR,if_pos h0,if_pos he,if_neg (by omega)];exact hO2.tab
    ·have hd':done=false:=by simpa using hd
     subst hd';have hlow':=hlow rfl
     have hall:∀x∈l,x.client<s.client:=λx hx=>by
      obtain⟨i,hi⟩:=List.mem_iff_getElem?.1 hx;exact hlow' i x (by have:=(List.getElem?_eq_some_iff.1 hi).1;omega) hi
     have hkK:bM K q0 m0 d0 s.kept:=hk.mono hO.le;have hlen:=hO.len
     obtain⟨hle,rows,g,ho,hg,ha⟩:=hO;refine kr ho hg ha hkK hm0 (by omega) ?_;intro p2 c2 g2 rows2 H3 hkeep ho3 hg3 ha3;have hL:kE l s false j ++ [s]=bX l s:=by simp only[kE,Bool.false_eq_true,if_false,e3];rw[sX hall]
     have hlen2:a+1=(bX l s).length:=by rw[<- hL,hlen];simp
     rw[hL] at ha3;obtain⟨g5,hO2⟩:=(Out.mk (hkeep H hle (λb hb=>ao hH (hg b hb))) ⟨rows2,g2,ho3,hg3,ha3⟩).fin;refine⟨by omega,λ_=>⟨λh=>Rt.gfn ⟨none,0,0,?_,?_⟩,λh=>Rt.gfn ⟨p2,a+1,c2,?_,?_⟩⟩⟩
     ·rw[lR,if_pos h0,if_pos he,if_pos (by omega)];rfl
     ·rw[lR,if_pos h0,if_pos he,if_pos (by omega)];exact tn _
     ·rw[lR,if_pos h0,if_pos he,if_neg (by omega)]
     ·rw[lR,if_pos h0,if_pos he,if_neg (by omega)];exact hO2.tab
  ·rw[lR,if_pos h0,if_neg he];rfl
  ·rw[lR,if_pos h0,if_neg he];exact tn _
 ·rw[lR,if_neg h0];rfl
 ·rw[lR,if_neg h0];exact tn _
end Go.Proofs.YtfpmcmhihhnfgaaGreatDoor
