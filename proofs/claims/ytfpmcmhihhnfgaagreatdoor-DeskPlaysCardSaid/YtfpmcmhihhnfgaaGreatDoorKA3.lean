/- Tables whose every array is one's own. No conditions. -/
import Derived.Test.YtfpmcmhihhnfgaaGreatDoorKA1
set_option linter.unusedVariables false
set_option linter.unusedSimpArgs false
namespace Go.Proofs.YtfpmcmhihhnfgaaGreatDoor
open Go.RowKit
structure Cel where
 s:Ses
 p:OL
 n:Nat
 c:Nat
 k:Option Nat
def Cel.row(a:Cel):List Value := [vi a.s.client,vi a.s.acked,vi a.s.seen,vsl a.p a.n a.c]
def Cel.own(D:Hp)(a:Cel):Prop:=Ow D 184 2 a.p a.n a.c (a.s.kept.map Rep.row) a.k
def fu(k j:Option Nat):Prop:=∀b,k=some b->j≠some b
theorem fu.symm{k j:Option Nat}(h:fu k j):fu j k:=λb hj hk=>h b hk hj
structure fS(D:Hp)(p:OL)(n c:Nat)(es:List Cel)(g:Option Nat):Prop where
 own:Ow D 93 4 p n c (es.map Cel.row) g
 one:∀a∈es,a.own D
 gap:∀a∈es,fu g a.k
 two:es.Pairwise λa b=>fu a.k b.k
theorem Cel.own.kept{D:Hp}{a:Cel}(h:a.own D):bM D a.p a.n a.c a.s.kept:=bM.of_ow h
theorem Cel.own.held{D:Hp}{a:Cel}(h:a.own D):∀b,a.k=some b->∃o,D b=some o:=Ow.held h
theorem Cel.own.mono'{D K:Hp}{a:Cel}(h:a.own D)(hk:∀b,a.k=some b->∀o,D b=some o->K b=some o):a.own K:=Ow.mono h hk
theorem zG(D:Hp){es:List Cel}(h:∀a∈es,a.own D):de (dz D) (es.map Cel.row) (es.map Cel.s):=by
 induction es with
 | nil=>exact .nil
 | cons a l ih=>exact .cons _ _ _ _ ⟨a.p,a.n,a.c,rfl,(h a (List.mem_cons_self ..)).kept⟩ (ih λx hx=>h x (List.mem_cons_of_mem _ hx))
theorem fS.tab{D:Hp}{p:OL}{n c:Nat}{es:List Cel}{g:Option Nat}(h:fS D p n c es g):Tab D p n c (es.map Cel.s):=⟨h.own.2.2.1,h.own.2.2.2.1,_,h.own.rows,zG D h.one⟩
theorem fS.len{D:Hp}{p:OL}{n c:Nat}{es:List Cel}{g:Option Nat}(h:fS D p n c es g):n=es.length:=by have:=h.own.1;simpa using this
theorem fS.nil(D:Hp)(p:OL):fS D p 0 0 [] none:=⟨Ow.nil _ _ _ _,λa h=>by simp at h,λa h=>by simp at h,.nil⟩
theorem fS.mono{D K:Hp}{p:OL}{n c:Nat}{es:List Cel}{g:Option Nat}(h:fS D p n c es g)(hk:D.le K):fS K p n c es g:=⟨h.own.mono λb _ o ho=>hk b o ho,λa ha=>(h.one a ha).mono' λb _ o ho=>hk b o ho,h.gap,h.two⟩
def lp(g:Option Nat)(es:List Cel):Nat->Prop:=λb=>g=some b\/∃a∈es,a.k=some b
theorem fS.foot{D:Hp}{p:OL}{n c:Nat}{es:List Cel}{g:Option Nat}(h:fS D p n c es g):∀b,lp g es b->∃o,D b=some o:=λb hb=>by
 rcases hb with hb | ⟨a,ha,hb⟩
 ·exact h.own.held b hb
 ·exact (h.one a ha).held b hb
theorem fS.mono'{D K:Hp}{p:OL}{n c:Nat}{es:List Cel}{g:Option Nat}(h:fS D p n c es g)(hk:∀b,lp g es b->∀o,D b=some o->K b=some o):fS K p n c es g:=⟨h.own.mono λb hb=>hk b (.inl hb),λa ha=>(h.one a ha).mono' λb hb=>hk b (.inr ⟨a,ha,hb⟩),h.gap,h.two⟩
theorem fS.upd{W1 W2:World}{H H':Hp}{p':OL}{n' c':Nat}{es':List Cel}{g g':Option Nat}(hH:H.le (ak W1))(hu:Upd g W1 W2 H H')(one:∀a∈es',a.own H)(gap:∀a∈es',fu g a.k)(two:es'.Pairwise λa b=>fu a.k b.k)
  (ho':Ow H' 93 4 p' n' c' (es'.map Cel.row) g') (hg':g'=g\/∀b,g'=some b->W1.heap.size<=b):fS H' p' n' c' es' g':=by
 refine⟨ho',λa ha=>(one a ha).mono' λb hb o ho=>?_,λa ha=>?_,two⟩
 ·have h1:=ag (hH b o ho);rw[hu.same b h1 (λh=>gap a ha b h hb)];exact ho
 ·rcases hg' with rfl | h
  ·exact gap a ha
  ·intro b hb hk;obtain⟨o,ho⟩:=(one a ha).held b hk;have h1:=ag (hH b o ho)
   have:=h b hb;omega
theorem xK{H:Hp}{p:OL}{n c:Nat}{l:List Rep}(hk:bM H p n c l)(hb:n<=8796093022208):Gf Tryz.prog 155 #[vsl p n c] H λv D=>∃p' c' k,v=vsl p' n c'/\Ow D 184 2 p' n c' (l.map Rep.row) k:=λW hH=>by
 refine zm p n c noM H W _ hH ?_;intro W1 n1 _;refine⟨_,_,uW Tryz.underlying91 _ _ p n c W1,Ext.refl _,λh=>Rt.gfn ?_,λh b0=>?_⟩
 ·have hp:p=none:=by simpa using h
  subst hp;have hn:n=0:=by
   rcases Nat.eq_zero_or_pos n with h0 | h0
   ·exact h0
   ·obtain⟨r,_,_,hat⟩:=hk.2.2.at h0 (off:=0) (by simp);have:=hat.isSome
    cases this
  subst hn;have hl:l = []:=List.length_eq_zero_iff.1 hk.len.symm
  subst hl;exact⟨none,0,none,rfl,Ow.nil _ _ _ _⟩
 ·intro W3 n3 _;obtain⟨p',c',g,W',H',h1,h2,h3,h4,h5⟩:=ig (P:=Tryz.prog) Tryz.underlying91 hZ (by omega) n3 (some (b0,0)) hk.2.2 (nq l) (by omega) (by simp only[maxLen];omega) 91 (c:=c);refine⟨p',n,c',W',h1,H',h2,Rt.gfn ⟨p',c',g,rfl,h3.new (λb hb=>Nat.le_trans n3.mod.size (h4 b hb))⟩⟩
theorem zq{H:Hp}{p:OL}{n c:Nat}{l:List Ses}(hT:Tab H p n c l)(hsm:Small l):Gf Tryz.prog 140 #[vsl p n c] H λv D=>∃p' c' es g,v=vsl p' n c'/\fS D p' n c' es g/\es.map Cel.s=l:=λW hH=>by
 have hbl:=hT.len;have hbk:=hsm.one
 have hbn:=hsm.len;obtain⟨_,_,rows,hr,ha⟩:=hT;have hn:n=l.length:=by rw[hr.len,ha.length]
 refine Ft p n c noM H W _ hH (Cl.fresh (zC hr (zB ha) (by omega)) ?_);rintro v W1 W2 D ⟨p',c',g,rfl,ho⟩ hx hD hf hn1;have hsz:=hn1.mod.size
 have hg:∀b,g=some b->W.heap.size<=b:=λb hb=>by
  obtain⟨o,h⟩:=ho.held b hb;exact Nat.le_trans hsz (hf b o h)
 have hgH:∀b,g=some b->H b=none:=λb hb=>ao hH (hg b hb);refine⟨p',n,c',rfl,hx,D,hD,hf,λH1 h01 hD1=>⟨by omega,λ_=>?_⟩⟩;refine⟨λv K=>match v with | [.i k]=>∃j:Nat,k=j/\j<=n/\H.le K/\∃rows' es,Ow K 93 4 p' n c' rows' g/\rows'.take j=es.map Cel.row/\es.map Cel.s=l.take j/\(∀a∈es,a.own (aN W g K))/\(es.Pairwise λa b=>fu a.k b.k)/\rows'.drop j=rows.drop j | _=>False,
  λv=>match v with | [.i k]=>n-k.toNat | _=>0,⟨0,rfl,by omega,h01,rows,[],ho.mono (λb _ o h=>hD1 b o h),rfl,rfl,λa h=>by simp at h,.nil,rfl⟩,λK k hI=>?_⟩
 obtain⟨j,rfl,hj,hle,rows',es,ho',ht',hs',hown,htwo,hd'⟩:=hI;have hn':n=rows'.length:=ho'.1
 refine⟨λhlt=>⟨⟨by omega,hlt⟩,λ_=>?_⟩,λhge=>Rt.gfn ?_⟩
 ·have hjr:j<rows.length:=by rw[<- hr.len];omega
  obtain⟨s,hs,q,m,d,hrow,hq⟩:=ha.get (List.getElem?_eq_getElem hjr);have hrj':rows'[j]?=some (rows[j]):=by
   have h1:(rows'.drop j)[0]?=(rows.drop j)[0]?:=by rw[hd']
   rw[List.getElem?_drop,List.getElem?_drop] at h1;simpa [List.getElem?_eq_getElem hjr] using h1
  rw[hrow] at hrj';obtain⟨r',hr',_,hat⟩:=ho'.rows.at (k:=j) (by omega) (off:=0+(j:Int) * 4) (by omega)
  rw[hrj'] at hr';simp only[Option.some.injEq] at hr';subst hr';refine⟨hat.isSome,λ_=>⟨by omega,λ_=>⟨q,m,d,hat.sub (by omega) (j:=3) rfl (by simp),?_⟩⟩⟩;have hml:m=s.kept.length:=hq.len
  refine Cl.fresh (xK (hq.mono hle) (by rw[hml];exact hbk s (List.mem_of_getElem? hs))) ?_;rintro v W3 W4 D2 ⟨q',d',k',rfl,hq'⟩ hx2 hD2 hf2 hn3;have hsz2:=hn3.mod.size
  refine⟨q',m,d',rfl,hx2,D2,hD2,hf2,λH3 h23 hD3=>?_⟩;intro W5 n5 _;obtain⟨ti,z,i1,i2,i3,i4,i5,i6⟩:=aR (show fc Tryz.prog 91 1 24=true by kernel_rfl);have ho3:Ow H3 93 4 p' n c' rows' g:=ho'.mono (λb _ o h=>h23 b o h)
  obtain⟨W6,H4,hrun,hu,ho4⟩:=dr (P:=Tryz.prog) (t:=91) i1 n5.sub ho3 (i:=j) (j:=3) (vs := [vsl q' m d']) (v:=vsl q' m d') hrj' rfl i3 (by simp) (by simp) (λu hu=>by simp only[List.mem_singleton] at hu;subst hu;rfl) (off:=0+(j:Int) * 4+3) (by omega);have hlt2:l.take (j+1)=l.take j ++ [s]:=by
   rw[List.take_succ_eq_append_getElem (by omega),(List.getElem?_eq_some_iff.1 hs).2]
  have hr3:(aN W g K).le (aN W g H4):=Hp.le_trans (iO W g h23) (jM W hu n5.sub);have hnew:∀b,k'=some b->W3.heap.size<=b:=λb hb=>by
   obtain⟨o,h⟩:=hq'.held b hb;exact hf2 b o h
  have hkeep:D2.le (aN W g H4):=by
   refine Hp.le_trans (rH (W:=W) (g:=g) hD3 (λb o hb=>Nat.le_trans hsz2 (hf2 b o hb)) (λb hb=>?_)) (jM W hu n5.sub)
   cases hh:D2 b with
   | none=>rfl
   | some o =>
    have h1:=hf2 b o hh;have h2:=ho'.lt hn3.sub b hb
    omega
  refine⟨W6,hrun,H4,hu.turned (λb hb=>⟨ho3.held b hb,.inl (hg b hb)⟩),in64 (by omega),λ_=>⟨⟨j+1,by omega,by omega,?_,_,es ++ [⟨s,q',m,d',k'⟩],ho4,?_,?_,?_,?_,?_⟩,by simp only;omega⟩⟩
  ·exact hu.keep n5.sub (Hp.le_trans hle h23) hgH
  ·rw[List.take_succ_eq_append_getElem (by simp;omega),List.map_append,<- ht'];simp[List.take_set_of_le,fU,Cel.row]
  ·rw[List.map_append,hs',hlt2];rfl
  ·intro a ha
   rcases List.mem_append.1 ha with ha | ha
   ·exact (hown a ha).mono' λb _ o h=>hr3 b o h
   ·simp only[List.mem_singleton] at ha;subst ha;exact Ow.mono hq' λb _ o h=>hkeep b o h
  ·rw[List.pairwise_append];refine⟨htwo,List.pairwise_singleton ..,λa ha b hb=>?_⟩;simp only[List.mem_singleton] at hb;subst hb;intro x hx hx2;obtain⟨o,h⟩:=(hown a ha).held x hx;have h1:=ag (hn3.sub x o (m7 W g K x o h))
   have:=hnew x hx2;omega
  ·rw[List.drop_set_of_lt (by omega)];have:rows'.drop (j+1)=(rows'.drop j).drop 1:=by rw[List.drop_drop]
   rw[this,hd',List.drop_drop]
 ·have hjn:j=n:=by omega
  subst hjn;rw[List.take_of_length_le (by omega)] at ht' hs';have hgr:=vo W (g:=g) K
  refine⟨p',c',es,g,rfl,⟨ht'▸ho'.new hg,λa ha=>(hown a ha).mono' λb _ o h=>me W g K b o h,λa ha b hb hk=>?_,htwo⟩,hs'⟩;obtain⟨o,h⟩:=(hown a ha).held b hk;rw[hgr b hb] at h;cases h
def qM(es:List Cel)(row:List Value)(s:Ses):Prop:=∃a∈es,row=a.row/\a.s=s
theorem qM.shaped(es:List Cel):Shaped (qM es):=λ_ _ ⟨a,_,h,h2⟩=>by subst h2;exact⟨a.p,a.n,a.c,h⟩
theorem pm{es:List Cel}:∀{fs:List Cel},(∀a∈fs,a∈es)->de (qM es) (fs.map Cel.row) (fs.map Cel.s)
 | [],_=>.nil
 | a::l,h=>.cons _ _ _ _ ⟨a,h a (List.mem_cons_self ..),rfl,rfl⟩ (pm λx hx=>h x (List.mem_cons_of_mem _ hx))
theorem tI{es:List Cel}(hi:∀a∈es,∀b∈es,a.s=b.s->a=b):∀{fs:List Cel} {rows:List (List Value)},(∀a∈fs,a∈es)->de (qM es) rows (fs.map Cel.s)->rows=fs.map Cel.row
 | [],_,_,.nil=>rfl
 | a::_,_,h,.cons r _ rs _ ⟨x,hx,h1,h2⟩ t=>by
  have:x=a:=hi x hx a (h a (List.mem_cons_self ..)) h2;subst this;rw[List.map_cons,h1,tI hi (λy hy=>h y (List.mem_cons_of_mem _ hy)) t]
theorem CN{es:List Cel}(h:Inc (es.map Cel.s)):∀a∈es,∀b∈es,a.s=b.s->a=b:=by
 have h':es.Pairwise λa b=>a.s.client<b.s.client:=by
  rw[Inc,List.pairwise_map] at h;exact h
 clear h
 induction es with
 | nil=>intro a ha;simp at ha
 | cons x l ih =>
  rw[List.pairwise_cons] at h';intro a ha b hb he
  rcases List.mem_cons.1 ha with h1 | h1<;>rcases List.mem_cons.1 hb with h2 | h2
  ·rw[h1,h2]
  ·subst h1;have:=h'.1 b h2;rw[he] at this;omega
  ·subst h2;have:=h'.1 a h1;rw[he] at this;omega
  ·exact ih h'.2 a h1 b h2 he
theorem pg(f:Ses->Bool)(es:List Cel):(es.filter λa=>f a.s).map Cel.s=(es.map Cel.s).filter f:=by
 induction es with
 | nil=>rfl
 | cons a l ih =>
  simp only[List.filter_cons,List.map_cons]
  split
  ·rw[List.map_cons,ih]
  ·exact ih
theorem Co{H:Hp}{p:OL}{n c:Nat}{l:List Ses}(hT:Tab H p n c l)(hs:Small l)(hi:Inc l){clock:Int}(h20:-4611686018427387904<=clock/\clock<=4611686018427387904) :
  Gf Tryz.prog 159 #[vsl p n c,vi clock] H λv D=>∃p' n' c' es g,v=vsl p' n' c'/\fS D p' n' c' es g/\es.map Cel.s=gZ l clock:=λW hH=>by
 have hn:=hT.len;refine E2 p n c clock noM H W _ hH λb0=>?_;refine Cl.fresh (zq hT hs) ?_;rintro v W1 W2 D ⟨p',c',es,g,rfl,hO,hes⟩ hx hD hf n1;refine⟨p',n,c',rfl,hx,D,hD,hf,λH1 h01 hD1=>?_⟩;have hO1:=hO.mono hD1
 have ho1:=hO1.own;have hnew:∀b,lp g es b->W.heap.size<=b:=λb hb=>by
  obtain⟨o,h⟩:=hO.foot b hb;exact Nat.le_trans n1.mod.size (hf b o h)
 have hc:=λhb0:H1 b0=none=>EF (H:=bh H1 b0 (.cells #[vi clock] 3 (0,0))) (g:=g) (q:=some (b0,0)) (p:=p') (n:=n) (c:=c') (R:=qM es) (clock:=clock) (l:=es.map Cel.s) ⟨b0,0,rfl,#[vi clock],3,(0,0),by
   unfold but;rw[if_neg (λh=>by
    obtain⟨o,h2⟩:=ho1.held b0 h;rw[hb0] at h2;cases h2)]
   exact cm ..,λj hj=>by
    have:j=0:=by simpa using hj
    subst this;exact⟨rfl,qj _⟩⟩ h20 (qM.shaped es) (ho1.mono λb _ o h=>gM hb0 b o h) (pm λa ha=>ha) (by rw[hn];exact hs.len)
 refine Cl.turnK (g:=g) (b:=b0) (o:=.cells #[vi clock] 3 (0,0)) (λ_ k=>k.1) hc ?_
 ·rintro v W3 W4 H' g' ⟨n',rows',rfl,ho',ha'⟩ hu hg' n3 hb0 hlt;have hgb:g'≠some b0:=λh=>by
   rcases hg' with h1 | h1
   ·obtain⟨o,h2⟩:=ho1.held b0 (h1▸h);rw[hb0] at h2;cases h2
   ·have:=h1 b0 h;omega
  have ho2:=oP ho' hgb;rw[<- pg] at ha';have hrow:=tI (CN (by rw[hes];exact hi)) (λa ha=>(List.mem_filter.1 ha).1) ha'
  subst hrow;have hO2:=fS.upd n3.sub hu (es':=es.filter λa=>!old clock a.s) (λa ha=>hO1.one a (List.mem_filter.1 ha).1) (λa ha=>hO1.gap a (List.mem_filter.1 ha).1) (hO1.two.filter _) ho2 hg'
  refine⟨p',n',c',rfl,less b0 H',hu.own ho1 (λb hb=>.inl (hnew b (.inl hb))),Rt.gfn ⟨p',n',c',_,g',rfl,hO2.mono' λb hb o ho=>?_,?_⟩⟩
  ·rw[gG]
   ·exact ho
   ·rcases hb with hb | ⟨a,ha,hb⟩
    ·rcases hg' with h1 | h1
     ·exact hnew b (.inl (h1▸hb))
     ·exact Nat.le_trans n3.mod.size (h1 b hb)
    ·exact hnew b (.inr ⟨a,(List.mem_filter.1 ha).1,hb⟩)
  ·rw[pg (λs=>!old clock s),hes,yO]
structure wP(D:Hp)(p:OL)(n c:Nat)(es:List Cel)(g:Option Nat)(i:Nat):Prop where
 own:Ow D 93 4 p n c (es.map Cel.row) g
 one:∀(j:Nat) a,es[j]?=some a->j≠i->a.own D
 gap:∀(j:Nat) a,es[j]?=some a->j≠i->fu g a.k
 two:∀(j l:Nat) a b,es[j]?=some a->es[l]?=some b->j≠l->j≠i->l≠i->fu a.k b.k
theorem jf{es:List Cel}(h:es.Pairwise λa b=>fu a.k b.k){j l:Nat}{a b:Cel}(hj:es[j]?=some a)(hl:es[l]?=some b)(hne:j≠l):fu a.k b.k:=by
 obtain⟨j1,j2⟩:=List.getElem?_eq_some_iff.1 hj;obtain⟨l1,l2⟩:=List.getElem?_eq_some_iff.1 hl;rw[List.pairwise_iff_getElem] at h
 rcases Nat.lt_or_gt_of_ne hne with h1 | h1
 ·have:=h j l j1 l1 h1;rw[j2,l2] at this;exact this
 ·have:=h l j l1 j1 h1;rw[j2,l2] at this;exact this.symm
theorem Cz{es:List Cel}(h:∀(j l:Nat) a b,es[j]?=some a->es[l]?=some b->j≠l->fu a.k b.k):es.Pairwise λa b=>fu a.k b.k:=by
 rw[List.pairwise_iff_getElem];intro j l hj hl hlt;exact h j l _ _ (List.getElem?_eq_getElem hj) (List.getElem?_eq_getElem hl) (by omega)
theorem fS.x{D:Hp}{p:OL}{n c:Nat}{es:List Cel}{g:Option Nat}(h:fS D p n c es g)(i:Nat):wP D p n c es g i :=
 ⟨h.own,λ_ a ha _=>h.one a (List.mem_of_getElem? ha),λ_ a ha _=>h.gap a (List.mem_of_getElem? ha),λ_ _ _ _ hj hl hne _ _=>jf h.two hj hl hne⟩
theorem mf{D:Hp}{p:OL}{n c:Nat}{es:List Cel}{g:Option Nat}(ho:Ow D 93 4 p n c (es.map Cel.row) g){i:Nat}{a:Cel}(hi:es[i]?=some a){off:Int}(h:off=(i:Int) * 4) :
  aa D p off a.row/\aa D p (off+1) [vi a.s.acked]/\aa D p (off+2) [vi a.s.seen]/\aa D p (off+3) [vsl a.p a.n a.c]:=by
 have hlt:=(List.getElem?_eq_some_iff.1 hi).1;have hn:=ho.1
 rw[List.length_map] at hn;obtain⟨r,h1,_,h2⟩:=ho.rows.at (k:=i) (by omega) (off:=off) (by omega)
 rw[List.getElem?_map,hi] at h1;simp only[Option.map_some,Option.some.injEq] at h1;subst h1;exact⟨h2,h2.sub (by omega) (j:=1) rfl (by simp),h2.sub (by omega) (j:=2) rfl (by simp),h2.sub (by omega) (j:=3) rfl (by simp)⟩
theorem aa.shift{H:Hp}{p:OL}{off:Int}{cs:List Value}{j:Int}(h:aa H p (off+j) cs)(h0:0<=off)(hj:0<=j):aa H (fR p off.toNat) j cs:=by
 obtain⟨b,o,h1,C,T,fz,h2,h3⟩:=h;refine⟨b,o+off.toNat,by rw[h1];exact congrArg some (m4 ..),C,T,fz,h2,λk hk=>?_⟩;have e:o+off.toNat+j.toNat+k=o+(off+j).toNat+k:=by omega
 rw[e];exact h3 k hk
theorem yW(a:Cel):∀v∈a.row,v.oneCell'=true:=λv hv=>by
 simp only[Cel.row,List.mem_cons,List.not_mem_nil,or_false] at hv
 rcases hv with rfl | rfl | rfl | rfl<;>rfl
theorem wP.store{W:World}{H:Hp}{p:OL}{n c:Nat}{es:List Cel}{g:Option Nat}{i:Nat}(hT:wP H p n c es g i)(hH:H.le (ak W)){a a':Cel}(hi:es[i]?=some a){t j:Nat}{ti:TypeInfo}(hti:Tryz.prog.info? t=some ti)(hs:ti.size=1){v:Value}(hv:v.cells=#[v])(hv1:v.oneCell'=true)(hj:j<4)(hrow:fU a.row j [v]=a'.row)
  (hown:a'.own H) (hgap:fu g a'.k) (htwo:∀(l:Nat) b,es[l]?=some b->l≠i->fu a'.k b.k) {off:Int} (hoff:off=(i:Int) * 4+j) :
  ∃W' H',(EK.sem (.storeO t) [.pointer (ab p off),v]).run Tryz.prog W=.ok .skip W'/\Upd g W W' H H'/\fS H' p n c (es.set i a') g:=by
 have hr:(es.map Cel.row)[i]?=some a.row:=by rw[List.getElem?_map,hi];rfl
 obtain⟨W',H',h1,h2,h3⟩:=dr (P:=Tryz.prog) hti hH hT.own hr (j:=j) (vs := [v]) (v:=v) (by simpa using hv) (by simpa using hs) (by simp;omega) (by simp) (λu hu=>by simp only[List.mem_singleton] at hu;subst hu;exact hv1) (off:=off) (by omega);rw[hrow,<- List.map_set] at h3;have key:∀(l:Nat) b,(es.set i a')[l]?=some b->(l=i/\b=a')\/(l≠i/\es[l]?=some b):=λl b hb=>by
  by_cases hl:i=l
  ·subst hl;have hlt:=(List.getElem?_eq_some_iff.1 hi).1
   rw[List.getElem?_set_self hlt] at hb;exact .inl ⟨rfl,by simpa using hb.symm⟩
  ·rw[List.getElem?_set_ne hl] at hb;exact .inr ⟨λh=>hl h.symm,hb⟩
 refine⟨W',H',h1,h2,fS.upd hH h2 (λb hb=>?_) (λb hb=>?_) (Cz λl m b d hb hd hne=>?_) h3 (.inl rfl)⟩
 ·obtain⟨l,hl⟩:=List.mem_iff_getElem?.1 hb
  rcases key l b hl with⟨_,rfl⟩ | ⟨h4,h5⟩
  ·exact hown
  ·exact hT.one l b h5 h4
 ·obtain⟨l,hl⟩:=List.mem_iff_getElem?.1 hb
  rcases key l b hl with⟨_,rfl⟩ | ⟨h4,h5⟩
  ·exact hgap
  ·exact hT.gap l b h5 h4
 ·rcases key l b hb with⟨h4,rfl⟩ | ⟨h4,h5⟩<;>rcases key m d hd with⟨h6,rfl⟩ | ⟨h6,h7⟩
  ·omega
  ·exact htwo m d h7 h6
  ·exact (htwo l b h5 h4).symm
  ·exact hT.two l m b d h5 h7 hne h4 h6
theorem fS.turnK{W1 W2:World}{H H':Hp}{p:OL}{n c:Nat}{es:List Cel}{g:Option Nat}(hT:fS H p n c es g)(hH:H.le (ak W1)){i:Nat}{a:Cel}(hi:es[i]?=some a)(hu:Upd a.k W1 W2 H H'){k':Option Nat}(hk':k'=a.k\/∀b,k'=some b->W1.heap.size<=b) :
  wP H' p n c es g i/\fu g k'/\∀(l:Nat) b,es[l]?=some b->l≠i->fu k' b.k:=by
 have ha:=List.mem_of_getElem? hi;refine⟨⟨hT.own.mono λb hb o ho=>?_,λj x hx hj=>(hT.one x (List.mem_of_getElem? hx)).mono' λb hb o ho=>?_,λj x hx _=>hT.gap x (List.mem_of_getElem? hx),λj l x y hx hy hne _ _=>jf hT.two hx hy hne⟩,λb hb hk=>?_,λl x hx hl b hb hk=>?_⟩
 ·rw[hu.same b (ag (hH b o ho)) (λh=>hT.gap a ha b hb h)];exact ho
 ·rw[hu.same b (ag (hH b o ho)) (λh=>jf hT.two hx hi hj b hb h)];exact ho
 ·rcases hk' with rfl | h
  ·exact hT.gap a ha b hb hk
  ·have:=h b hk;have:=hT.own.lt hH b hb
   omega
 ·rcases hk' with rfl | h
  ·exact jf hT.two hi hx (λh=>hl h.symm) b hb hk
  ·have:=h b hb;obtain⟨o,ho⟩:=(hT.one x (List.mem_of_getElem? hx)).held b hk;have:=ag (hH b o ho)
   omega
theorem oQ{l:List Ses}(h:Inc l){s:Ses}(hh:b9 l s.client=true):l.set (aS l s.client) s=bX l s:=by
 obtain⟨i1,i2,_,_,_⟩:=ff s.client l h;rw[hh] at i2;simp only[if_true] at i2;rw[List.set_eq_take_append_cons_drop,if_pos (mu h hh),i1,i2];rfl
theorem rR{es:List Cel}{c:Int}(h:Inc (es.map Cel.s))(hh:b9 (es.map Cel.s) c=true):∃a,es[aS (es.map Cel.s) c]?=some a/\a.s=bI (es.map Cel.s) c/\a.s.client=c:=by
 obtain⟨_,_,i3,_,_⟩:=ff c _ h;obtain⟨s,h1,h2,h3⟩:=i3 hh;rw[List.getElem?_map,Option.map_eq_some_iff] at h1;obtain⟨a,h4,rfl⟩:=h1;exact⟨a,h4,h3.symm,h2⟩
end Go.Proofs.YtfpmcmhihhnfgaaGreatDoor
