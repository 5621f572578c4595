/- Contracts: a line, word by word. No conditions. -/
import Derived.Test.YtfpmcmhihhnfgaaGreatDoorKZ6
set_option linter.unusedVariables false
set_option linter.unusedSimpArgs false
namespace Go.Proofs.YtfpmcmhihhnfgaaGreatDoor
open Go.RowKit
set_option maxRecDepth 100000
def Cln(d:Dsk)(r:DR):Prop:=r.2.2≠0->r=bS d r.2.2/\0<=r.2.2/\r.2.2<=9
theorem Cln.err(d:Dsk){x:Int}(h0:0<=x)(h9:x<=9):Cln d (bS d x):=λ_=>⟨rfl,h0,h9⟩
theorem yh(x:POp):0<=x.err/\x.err<=9:=by
 unfold POp.err
 repeat' split
 all_goals omega
theorem qa(e:Ent):0<=e.err/\e.err<=9:=by
 have:=yh e.op;unfold Ent.err
 repeat' split
 all_goals omega
theorem pi:∀l:List Ent,0<=gn l/\gn l<=9
 | []=>by simp[gn]
 | e::l=>by
  have h1:=qa e;have h2:=pi l
  unfold gn
  split<;>omega
theorem sS(l:List Ent):0<=bg l/\bg l<=9:=by
 have:=pi l;unfold bg
 split<;>omega
theorem Cln.put{d:Dsk}(ok:aQ d.g)(e:Ent):Cln d (gO d e):=by
 have h0:=cn.2 ok;have l0:=bG.2 ok.log
 unfold gO
 split
 ·intro h;exact absurd rfl h
 ·refine Cln.err d ?_ ?_ <;>
  ·by_cases h1:(gS d.g.base d.g.tail e).2.2.2=0
   ·rw[mJ h0 h1];simp
   ·rw[lc h0 h1];have:=qa e
    by_cases g1:e.err=0
    ·by_cases g2:d.g.base.pos+(d.g.tail.length:Int)=50
     ·rw[iU l0 g1 g2];simp
     ·rw[lC l0 g1 g2];simp
    ·rw[jH l0 g1];simp only;omega
theorem Cln.run{d:Dsk}(ok:aQ d.g)(a b:Int):Cln d (mN d a b):=by
 have h0:=cn.2 ok;unfold mN
 split
 ·intro h;exact absurd rfl h
 ·refine Cln.err d ?_ ?_ <;>
  ·by_cases hk:a<0\/2<a
   ·rw[lr h0 hk];simp
   ·have hn:=m6.2 ⟨ok.log,(ok.node a.toNat).1⟩
    by_cases hb:b<0\/50<b
    ·rw[ie h0 hk (by rw[ji hn hb];simp),ji hn hb];simp
    ·rw[(qY ok hk hb).1];simp
theorem Cln.cut{d:Dsk}(ok:aQ d.g)(a:Int):Cln d (nk d a):=by
 have h0:=cn.2 ok;have l0:=bG.2 ok.log
 unfold nk
 split
 ·intro h;exact absurd rfl h
 ·refine Cln.err d ?_ ?_ <;>
  ·by_cases ha:a<0\/(d.g.tail.length:Int)<a
   ·rw[mC h0 (by rw[jI l0 ha];simp),jI l0 ha];simp
   ·obtain⟨k,rfl⟩:∃k:Nat,a=k:=⟨a.toNat,by omega⟩
    rw[(qW ok (k:=k) (by omega)).1];simp
theorem Cln.vals(d:Dsk)(a:Int):Cln d (kP d a):=by
 unfold kP
 split
 ·intro h;exact absurd rfl h
 ·exact Cln.err d (by omega) (by omega)
theorem Cln.kept(d:Dsk)(a:Int):Cln d (kR d a):=by
 unfold kR
 split
 ·intro h;exact absurd rfl h
 ·exact Cln.err d (by omega) (by omega)
theorem Cln.done(d:Dsk)(a b:Int):Cln d (ln d a b):=by
 unfold ln
 split
 ·intro h;exact absurd rfl h
 ·refine Cln.err d ?_ ?_ <;>
  ·have:=sS d.l;unfold il
   split
   ·simp only;omega
   ·split<;>simp
theorem Cln.two{d:Dsk}{a b:List UInt8}{f:Int->Int->DR}(h:∀x y,Cln d (f x y)):Cln d (two d a b f):=by
 unfold Go.Proofs.YtfpmcmhihhnfgaaGreatDoor.two
 split
 ·exact Cln.err d (by omega) (by omega)
 ·exact h _ _
theorem Cln.one{d:Dsk}{a:List UInt8}{f:Int->DR}(h:∀x,Cln d (f x)):Cln d (one d a f):=by
 unfold Go.Proofs.YtfpmcmhihhnfgaaGreatDoor.one
 split
 ·exact Cln.err d (by omega) (by omega)
 ·exact h _
theorem Cln.call{d:Dsk}(ok:aQ d.g)(t c q a k y n:List UInt8):Cln d (bQ d t c q a k y n):=by
 unfold bQ
 split
 ·exact Cln.err d (by omega) (by omega)
 ·split
  ·exact Cln.err d (by omega) (by omega)
  ·exact Cln.put ok _
theorem EB{α:Type}{l:List α}(h:l.length=1):∃a,l = [a]:=by
 match l,h with
 | [a],_=>exact⟨a,rfl⟩
theorem BO{α:Type}{l:List α}(h:l.length=2):∃a b,l = [a,b]:=by
 match l,h with
 | [a,b],_=>exact⟨a,b,rfl⟩
theorem F4{α:Type}{l:List α}(h:l.length=7):∃a b c d e f g,l = [a,b,c,d,e,f,g]:=by
 match l,h with
 | [a,b,c,d,e,f,g],_=>exact⟨a,b,c,d,e,f,g,rfl⟩
theorem C7{K:Hp}{b T:Nat}{v:Value}(h:K b=some (.cells #[v] T (0,0))):aa K (some ((b:Blk),0)) 0 [v]:=⟨b,0,rfl,_,_,_,h,λj hj=>by
 have:j=0:=by simpa using hj
 subst this;exact⟨rfl,qj _⟩⟩
section
variable{H:Hp}{g:Grp}{γ:GP}{q:OL}{m d:Nat}{l:List Ent}
abbrev LC(H:Hp)(b0:Nat)(g:Grp)(γ:GP)(q:OL)(m d:Nat)(l:List Ent)(s:List UInt8):Prop:=Gg Tryz.prog 12 #[tp b0,.string (bs s)] H b0 42 (tC g γ q m d) (DM H (aq ⟨g,l⟩ s)) False
set_option maxHeartbeats 1000000 in
theorem En(hg:aK H g γ)(hE:av H q m d l)(hm:l.length<=1000)(hL:Lay H)(ok:aQ g){s w0:List UInt8}{ws:List (List UInt8)}(hs:s.length<=4096)(hw:aJ s=w0::ws)(hi:aE w0=some 4)(b0:Nat):LC H b0 g γ q m d l s:=λW hH hW hn=>by
 have h4:∀w∈w0::ws,w.length<=4096:=λw h=>by
  have:=aI s [] w (by rw[<- hw] at h;exact h);simp only[List.length_nil] at this;omega
 refine wM _ _ _ _ _ _ γ.p γ.n γ.c γ.q γ.m γ.d _ _ _ _ _ _ γ.p0 γ.n0 γ.c0 _ _ _ _ _ _ γ.p1 γ.n1 γ.c1 _ _ _ _ _ _ γ.p2 γ.n2 γ.c2 q m d (bs s) b0 (λb=>b=b0) H W (LR W H b0 (aq ⟨g,l⟩ s)) hH ⟨hW,rfl,hn⟩ λb1=>?_;refine Cl.fresh (iA s hs H hL) ?_;rintro v W1 W2 D ⟨p,n,c,rfl,hS⟩ hx hD hf n1;refine⟨p,n,c,rfl,hx,D,hD,hf,λH1 le1 hd1=>?_⟩;rw[hw] at hS;have hlen:=hS.len
 have hnc:=hS.1;simp only[List.length_cons] at hlen;refine⟨by omega,λ_=>⟨(hS.at (i:=0) rfl (off:=0) (by simp)).isSome,λ_=>⟨bs w0,(hS.mono hd1).at (i:=0) rfl (by simp),?_⟩⟩⟩;refine Cl.fresh (iG b0 H1) ?_;rintro v W3 W4 D2 ⟨mm,xt,c1,c3,es,cc,L,rfl,e0,hL1,hlk,e1,e2,e3⟩ hx hD2 hf2 n3;refine⟨_,rfl,hx,D2,hD2,hf2,λH2 le2 hd2 W5 n5 _=>?_⟩;have hz:(zeroValue 71).run Tryz.prog W5=.ok (.agg #[vi 0,.nilFunc]) W5:=by kernel_rfl
 have hrun:=fh (P:=Tryz.prog) Tryz.underlying73 Tryz.underlying9 (n5.sub _ _ (hd2 _ _ e0)) hL1 w0 hz;rw[hlk w0] at hrun;unfold kI at hrun;rw[hi] at hrun;refine⟨some ((xt:Blk),0),some ((c1:Blk),0),W5,hrun,Fr.is (D:=noH) (Ext.refl _) (ba _) (λb o h=>by cases h) λH3 le3 _ b2=>⟨by omega,λ_=>?_⟩⟩;have hbad:ws.length≠2->aq ⟨g,l⟩ s=bS ⟨g,l⟩ 1:=λhne=>by
  unfold aq aH;rw[hw];simp only[hi]
  split<;>first | rfl | (exfalso;simp_all;done)
 refine Clp.gpk (dx _ 1 H3) ?_ λu W7 W8 ⟨h,hu⟩ hx n7 k7=>by
  rw[hu];exact bJ (x:=1) (hbad (by have:=of_decide_eq_false h;omega)) hL ⟨by omega,by omega⟩ (by omega) hg hE hH hn n7 k7.2.1 k7.1 hx
 rintro v W7 W8 D3 ⟨h,hz⟩ hx hD3 hf3 n7;have h:=of_decide_eq_true h
 obtain⟨a,b,rfl⟩:=BO (l:=ws) (by omega);have hr:aq ⟨g,l⟩ s=two ⟨g,l⟩ a b λx y=>gO ⟨g,l⟩ ⟨1,x,y,0,0,POp.none⟩:=by unfold aq aH;rw[hw];simp only[hi]
 refine⟨by rw[hz],hx,by omega,λ_=>⟨by omega,λ_=>?_⟩⟩;have hk2:H.le H3:=Hp.le_trans le1 (Hp.le_trans le2 le3)
 obtain⟨p',hp',hS'⟩:=fj (hS.mono (Hp.le_trans hd1 (Hp.le_trans le2 le3))) (by simp);rw[hp',hr];have hcl:Cln ⟨g,l⟩ (two ⟨g,l⟩ a b λx y=>gO ⟨g,l⟩ ⟨1,x,y,0,0,POp.none⟩):=Cln.two λx y=>Cln.put ok _
 refine Clp.gtp (wH (k:=1) hk2 hg hE hm (hL.mono hk2) ok (x1:=some ((xt:Blk),0)) (x2:=some ((c1:Blk),0)) (C7 (le3 _ _ (hd2 _ _ e1))) (C7 (le3 _ _ (hd2 _ _ e2))) hS' (h4 a (by simp)) (h4 b (by simp))) (λW k=>k.2.1) ?_ ?_
 rotate_left
 ·rintro u W9 W10 ⟨hu0,rfl⟩ hx n9 k9;obtain⟨z1,z2,z3⟩:=hcl hu0;exact bJ z1 hL ⟨by omega,by omega⟩ hu0 hg hE hH hn n9 k9.2.1 k9.1 hx
 rintro v W9 W10 C' D4 ⟨hz4,rfl,γ',q',m',d',rfl,hm'⟩ hb9 n9 h5 h6;refine⟨_,_,_,_,_,_,_,γ'.p,γ'.n,γ'.c,γ'.q,γ'.m,γ'.d,_,_,_,_,_,_,γ'.p0,γ'.n0,γ'.c0,_,_,_,_,_,_,γ'.p1,γ'.n1,γ'.c1,_,_,_,_,_,_,γ'.p2,γ'.n2,γ'.c2,q',m',d',rfl,hb9.bt n9 h5 h6 λH5 le5 hD5 W11 n11 k11=>?_⟩;exact jq hz4 n11 k11.2.1 k11.1 λK hk hd=>hm' K hk (Hp.le_trans (ai hD5 λb o h=>Nat.le_trans n9.mod.size (hb9.fresh b o h)) hd)
set_option maxHeartbeats 1000000 in
theorem DE(hg:aK H g γ)(hE:av H q m d l)(hm:l.length<=1000)(hL:Lay H)(ok:aQ g){s w0:List UInt8}{ws:List (List UInt8)}(hs:s.length<=4096)(hw:aJ s=w0::ws)(hi:aE w0=some 8)(b0:Nat):LC H b0 g γ q m d l s:=λW hH hW hn=>by
 have h4:∀w∈w0::ws,w.length<=4096:=λw h=>by
  have:=aI s [] w (by rw[<- hw] at h;exact h);simp only[List.length_nil] at this;omega
 refine wM _ _ _ _ _ _ γ.p γ.n γ.c γ.q γ.m γ.d _ _ _ _ _ _ γ.p0 γ.n0 γ.c0 _ _ _ _ _ _ γ.p1 γ.n1 γ.c1 _ _ _ _ _ _ γ.p2 γ.n2 γ.c2 q m d (bs s) b0 (λb=>b=b0) H W (LR W H b0 (aq ⟨g,l⟩ s)) hH ⟨hW,rfl,hn⟩ λb1=>?_;refine Cl.fresh (iA s hs H hL) ?_;rintro v W1 W2 D ⟨p,n,c,rfl,hS⟩ hx hD hf n1;refine⟨p,n,c,rfl,hx,D,hD,hf,λH1 le1 hd1=>?_⟩;rw[hw] at hS;have hlen:=hS.len
 have hnc:=hS.1;simp only[List.length_cons] at hlen;refine⟨by omega,λ_=>⟨(hS.at (i:=0) rfl (off:=0) (by simp)).isSome,λ_=>⟨bs w0,(hS.mono hd1).at (i:=0) rfl (by simp),?_⟩⟩⟩;refine Cl.fresh (iG b0 H1) ?_;rintro v W3 W4 D2 ⟨mm,xt,c1,c3,es,cc,L,rfl,e0,hL1,hlk,e1,e2,e3⟩ hx hD2 hf2 n3;refine⟨_,rfl,hx,D2,hD2,hf2,λH2 le2 hd2 W5 n5 _=>?_⟩;have hz:(zeroValue 71).run Tryz.prog W5=.ok (.agg #[vi 0,.nilFunc]) W5:=by kernel_rfl
 have hrun:=fh (P:=Tryz.prog) Tryz.underlying73 Tryz.underlying9 (n5.sub _ _ (hd2 _ _ e0)) hL1 w0 hz;rw[hlk w0] at hrun;unfold kI at hrun;rw[hi] at hrun;refine⟨some ((xt:Blk),0),some ((c3:Blk),0),W5,hrun,Fr.is (D:=noH) (Ext.refl _) (ba _) (λb o h=>by cases h) λH3 le3 _ b2=>⟨by omega,λ_=>?_⟩⟩;have hbad:ws.length≠2->aq ⟨g,l⟩ s=bS ⟨g,l⟩ 1:=λhne=>by
  unfold aq aH;rw[hw];simp only[hi]
  split<;>first | rfl | (exfalso;simp_all;done)
 refine Clp.gpk (dx _ 1 H3) ?_ λu W7 W8 ⟨h,hu⟩ hx n7 k7=>by
  rw[hu];exact bJ (x:=1) (hbad (by have:=of_decide_eq_false h;omega)) hL ⟨by omega,by omega⟩ (by omega) hg hE hH hn n7 k7.2.1 k7.1 hx
 rintro v W7 W8 D3 ⟨h,hz⟩ hx hD3 hf3 n7;have h:=of_decide_eq_true h
 obtain⟨a,b,rfl⟩:=BO (l:=ws) (by omega);have hr:aq ⟨g,l⟩ s=two ⟨g,l⟩ a b λx y=>gO ⟨g,l⟩ ⟨3,x,y,0,0,POp.none⟩:=by unfold aq aH;rw[hw];simp only[hi]
 refine⟨by rw[hz],hx,by omega,λ_=>⟨by omega,λ_=>?_⟩⟩;have hk2:H.le H3:=Hp.le_trans le1 (Hp.le_trans le2 le3)
 obtain⟨p',hp',hS'⟩:=fj (hS.mono (Hp.le_trans hd1 (Hp.le_trans le2 le3))) (by simp);rw[hp',hr];have hcl:Cln ⟨g,l⟩ (two ⟨g,l⟩ a b λx y=>gO ⟨g,l⟩ ⟨3,x,y,0,0,POp.none⟩):=Cln.two λx y=>Cln.put ok _
 refine Clp.gtp (wH (k:=3) hk2 hg hE hm (hL.mono hk2) ok (x1:=some ((xt:Blk),0)) (x2:=some ((c3:Blk),0)) (C7 (le3 _ _ (hd2 _ _ e1))) (C7 (le3 _ _ (hd2 _ _ e3))) hS' (h4 a (by simp)) (h4 b (by simp))) (λW k=>k.2.1) ?_ ?_
 rotate_left
 ·rintro u W9 W10 ⟨hu0,rfl⟩ hx n9 k9;obtain⟨z1,z2,z3⟩:=hcl hu0;exact bJ z1 hL ⟨by omega,by omega⟩ hu0 hg hE hH hn n9 k9.2.1 k9.1 hx
 rintro v W9 W10 C' D4 ⟨hz4,rfl,γ',q',m',d',rfl,hm'⟩ hb9 n9 h5 h6;refine⟨_,_,_,_,_,_,_,γ'.p,γ'.n,γ'.c,γ'.q,γ'.m,γ'.d,_,_,_,_,_,_,γ'.p0,γ'.n0,γ'.c0,_,_,_,_,_,_,γ'.p1,γ'.n1,γ'.c1,_,_,_,_,_,_,γ'.p2,γ'.n2,γ'.c2,q',m',d',rfl,hb9.bt n9 h5 h6 λH5 le5 hD5 W11 n11 k11=>?_⟩;exact jq hz4 n11 k11.2.1 k11.1 λK hk hd=>hm' K hk (Hp.le_trans (ai hD5 λb o h=>Nat.le_trans n9.mod.size (hb9.fresh b o h)) hd)
set_option maxHeartbeats 1000000 in
theorem Ei(hg:aK H g γ)(hE:av H q m d l)(hm:l.length<=1000)(hL:Lay H)(ok:aQ g){s w0:List UInt8}{ws:List (List UInt8)}(hs:s.length<=4096)(hw:aJ s=w0::ws)(hi:aE w0=some 12)(b0:Nat):LC H b0 g γ q m d l s:=λW hH hW hn=>by
 have h4:∀w∈w0::ws,w.length<=4096:=λw h=>by
  have:=aI s [] w (by rw[<- hw] at h;exact h);simp only[List.length_nil] at this;omega
 refine Cq _ _ _ _ _ _ γ.p γ.n γ.c γ.q γ.m γ.d _ _ _ _ _ _ γ.p0 γ.n0 γ.c0 _ _ _ _ _ _ γ.p1 γ.n1 γ.c1 _ _ _ _ _ _ γ.p2 γ.n2 γ.c2 q m d (bs s) b0 (λb=>b=b0) H W (LR W H b0 (aq ⟨g,l⟩ s)) hH ⟨hW,rfl,hn⟩ λb1=>?_;refine Cl.fresh (iA s hs H hL) ?_;rintro v W1 W2 D ⟨p,n,c,rfl,hS⟩ hx hD hf n1;refine⟨p,n,c,rfl,hx,D,hD,hf,λH1 le1 hd1=>?_⟩;rw[hw] at hS;have hlen:=hS.len
 have hnc:=hS.1;simp only[List.length_cons] at hlen;refine⟨by omega,λ_=>⟨(hS.at (i:=0) rfl (off:=0) (by simp)).isSome,λ_=>⟨bs w0,(hS.mono hd1).at (i:=0) rfl (by simp),?_⟩⟩⟩;refine Cl.fresh (iG b0 H1) ?_;rintro v W3 W4 D2 ⟨mm,xt,c1,c3,es,cc,L,rfl,e0,hL1,hlk,e1,e2,e3⟩ hx hD2 hf2 n3;refine⟨_,rfl,hx,D2,hD2,hf2,λH2 le2 hd2 W5 n5 _=>?_⟩;have hz:(zeroValue 71).run Tryz.prog W5=.ok (.agg #[vi 0,.nilFunc]) W5:=by kernel_rfl
 have hrun:=fh (P:=Tryz.prog) Tryz.underlying73 Tryz.underlying9 (n5.sub _ _ (hd2 _ _ e0)) hL1 w0 hz;rw[hlk w0] at hrun;unfold kI at hrun;rw[hi] at hrun;refine⟨W5,hrun,Ext.refl _,λb2=>⟨by omega,λ_=>?_⟩⟩;have hbad:ws.length≠7->aq ⟨g,l⟩ s=bS ⟨g,l⟩ 1:=λhne=>by
  unfold aq aH;rw[hw];simp only[hi]
  split<;>first | rfl | (exfalso;simp_all;done)
 refine Clp.gpk (dx _ 1 H2) ?_ λu W7 W8 ⟨h,hu⟩ hx n7 k7=>by
  rw[hu];exact bJ (x:=1) (hbad (by have:=of_decide_eq_false h;omega)) hL ⟨by omega,by omega⟩ (by omega) hg hE hH hn n7 k7.2.1 k7.1 hx
 rintro v W7 W8 D3 ⟨h,hz⟩ hx hD3 hf3 n7;have h:=of_decide_eq_true h
 obtain⟨t,c2,q2,a,k2,y,n2,rfl⟩:=F4 (l:=ws) (by omega);have hr:aq ⟨g,l⟩ s=bQ ⟨g,l⟩ t c2 q2 a k2 y n2:=by unfold aq aH;rw[hw];simp only[hi]
 refine⟨by rw[hz],hx,by omega,λ_=>⟨by omega,λ_=>?_⟩⟩;have hk2:H.le H2:=Hp.le_trans le1 le2
 obtain⟨p',hp',hS'⟩:=fj (hS.mono (Hp.le_trans hd1 le2)) (by simp);rw[hp',hr];have hcl:Cln ⟨g,l⟩ (bQ ⟨g,l⟩ t c2 q2 a k2 y n2):=Cln.call (d:=⟨g,l⟩) ok _ _ _ _ _ _ _
 refine Clp.gtp (BP hk2 hg hE hm (hL.mono hk2) ok hS' (λw h=>h4 w (List.mem_cons_of_mem _ h)) b0) (λW k=>k.1) ?_ ?_
 rotate_left
 ·rintro u W9 W10 ⟨hu0,rfl⟩ hx n9 k9;obtain⟨z1,z2,z3⟩:=hcl hu0;exact bJ z1 hL ⟨by omega,by omega⟩ hu0 hg hE hH hn n9 k9.1 k9.2.1 hx
 rintro v W9 W10 C' D4 ⟨hz4,rfl,γ',q',m',d',rfl,hm'⟩ hb9 n9 h5 h6;refine⟨_,_,_,_,_,_,_,γ'.p,γ'.n,γ'.c,γ'.q,γ'.m,γ'.d,_,_,_,_,_,_,γ'.p0,γ'.n0,γ'.c0,_,_,_,_,_,_,γ'.p1,γ'.n1,γ'.c1,_,_,_,_,_,_,γ'.p2,γ'.n2,γ'.c2,q',m',d',rfl,hb9.bt n9 h5 h6 λH5 le5 hD5 W11 n11 k11=>?_⟩;exact jq hz4 n11 k11.2.1 k11.1 λK hk hd=>hm' K hk (Hp.le_trans (ai hD5 λb o h=>Nat.le_trans n9.mod.size (hb9.fresh b o h)) hd)
set_option maxHeartbeats 1000000 in
theorem FU(hg:aK H g γ)(hE:av H q m d l)(hm:l.length<=1000)(hL:Lay H)(ok:aQ g){s w0:List UInt8}{ws:List (List UInt8)}(hs:s.length<=4096)(hw:aJ s=w0::ws)(hi:aE w0=some 16)(b0:Nat):LC H b0 g γ q m d l s:=λW hH hW hn=>by
 have h4:∀w∈w0::ws,w.length<=4096:=λw h=>by
  have:=aI s [] w (by rw[<- hw] at h;exact h);simp only[List.length_nil] at this;omega
 refine D8 _ _ _ _ _ _ γ.p γ.n γ.c γ.q γ.m γ.d _ _ _ _ _ _ γ.p0 γ.n0 γ.c0 _ _ _ _ _ _ γ.p1 γ.n1 γ.c1 _ _ _ _ _ _ γ.p2 γ.n2 γ.c2 q m d (bs s) b0 (λb=>b=b0) H W (LR W H b0 (aq ⟨g,l⟩ s)) hH ⟨hW,rfl,hn⟩ λb1=>?_;refine Cl.fresh (iA s hs H hL) ?_;rintro v W1 W2 D ⟨p,n,c,rfl,hS⟩ hx hD hf n1;refine⟨p,n,c,rfl,hx,D,hD,hf,λH1 le1 hd1=>?_⟩;rw[hw] at hS;have hlen:=hS.len
 have hnc:=hS.1;simp only[List.length_cons] at hlen;refine⟨by omega,λ_=>⟨(hS.at (i:=0) rfl (off:=0) (by simp)).isSome,λ_=>⟨bs w0,(hS.mono hd1).at (i:=0) rfl (by simp),?_⟩⟩⟩;refine Cl.fresh (iG b0 H1) ?_;rintro v W3 W4 D2 ⟨mm,xt,c1,c3,es,cc,L,rfl,e0,hL1,hlk,e1,e2,e3⟩ hx hD2 hf2 n3;refine⟨_,rfl,hx,D2,hD2,hf2,λH2 le2 hd2 W5 n5 _=>?_⟩;have hz:(zeroValue 71).run Tryz.prog W5=.ok (.agg #[vi 0,.nilFunc]) W5:=by kernel_rfl
 have hrun:=fh (P:=Tryz.prog) Tryz.underlying73 Tryz.underlying9 (n5.sub _ _ (hd2 _ _ e0)) hL1 w0 hz;rw[hlk w0] at hrun;unfold kI at hrun;rw[hi] at hrun;refine⟨W5,hrun,Ext.refl _,λb2=>⟨by omega,λ_=>?_⟩⟩;have hbad:ws.length≠2->aq ⟨g,l⟩ s=bS ⟨g,l⟩ 1:=λhne=>by
  unfold aq aH;rw[hw];simp only[hi]
  split<;>first | rfl | (exfalso;simp_all;done)
 refine Clp.gpk (dx _ 1 H2) ?_ λu W7 W8 ⟨h,hu⟩ hx n7 k7=>by
  rw[hu];exact bJ (x:=1) (hbad (by have:=of_decide_eq_false h;omega)) hL ⟨by omega,by omega⟩ (by omega) hg hE hH hn n7 k7.2.1 k7.1 hx
 rintro v W7 W8 D3 ⟨h,hz⟩ hx hD3 hf3 n7;have h:=of_decide_eq_true h
 obtain⟨a,b,rfl⟩:=BO (l:=ws) (by omega);have hr:aq ⟨g,l⟩ s=two ⟨g,l⟩ a b (mN ⟨g,l⟩):=by unfold aq aH;rw[hw];simp only[hi]
 refine⟨by rw[hz],hx,by omega,λ_=>⟨by omega,λ_=>?_⟩⟩;have hk2:H.le H2:=Hp.le_trans le1 le2
 obtain⟨p',hp',hS'⟩:=fj (hS.mono (Hp.le_trans hd1 le2)) (by simp);rw[hp',hr];have hcl:Cln ⟨g,l⟩ (two ⟨g,l⟩ a b (mN ⟨g,l⟩)):=Cln.two λx y=>Cln.run ok _ _
 refine Clp.gtp (ET hk2 hg hE (hL.mono hk2) ok hS' (h4 a (by simp)) (h4 b (by simp)) b0) (λW k=>k.1) ?_ ?_
 rotate_left
 ·rintro u W9 W10 ⟨hu0,rfl⟩ hx n9 k9;obtain⟨z1,z2,z3⟩:=hcl hu0;exact bJ z1 hL ⟨by omega,by omega⟩ hu0 hg hE hH hn n9 k9.1 k9.2.1 hx
 rintro v W9 W10 C' D4 ⟨hz4,rfl,γ',q',m',d',rfl,hm'⟩ hb9 n9 h5 h6;refine⟨_,_,_,_,_,_,_,γ'.p,γ'.n,γ'.c,γ'.q,γ'.m,γ'.d,_,_,_,_,_,_,γ'.p0,γ'.n0,γ'.c0,_,_,_,_,_,_,γ'.p1,γ'.n1,γ'.c1,_,_,_,_,_,_,γ'.p2,γ'.n2,γ'.c2,q',m',d',rfl,hb9.bt n9 h5 h6 λH5 le5 hD5 W11 n11 k11=>?_⟩;exact jq hz4 n11 k11.2.1 k11.1 λK hk hd=>hm' K hk (Hp.le_trans (ai hD5 λb o h=>Nat.le_trans n9.mod.size (hb9.fresh b o h)) hd)
set_option maxHeartbeats 1000000 in
theorem FK(hg:aK H g γ)(hE:av H q m d l)(hm:l.length<=1000)(hL:Lay H)(ok:aQ g){s w0:List UInt8}{ws:List (List UInt8)}(hs:s.length<=4096)(hw:aJ s=w0::ws)(hi:aE w0=some 20)(b0:Nat):LC H b0 g γ q m d l s:=λW hH hW hn=>by
 have h4:∀w∈w0::ws,w.length<=4096:=λw h=>by
  have:=aI s [] w (by rw[<- hw] at h;exact h);simp only[List.length_nil] at this;omega
 refine EG _ _ _ _ _ _ γ.p γ.n γ.c γ.q γ.m γ.d _ _ _ _ _ _ γ.p0 γ.n0 γ.c0 _ _ _ _ _ _ γ.p1 γ.n1 γ.c1 _ _ _ _ _ _ γ.p2 γ.n2 γ.c2 q m d (bs s) b0 (λb=>b=b0) H W (LR W H b0 (aq ⟨g,l⟩ s)) hH ⟨hW,rfl,hn⟩ λb1=>?_;refine Cl.fresh (iA s hs H hL) ?_;rintro v W1 W2 D ⟨p,n,c,rfl,hS⟩ hx hD hf n1;refine⟨p,n,c,rfl,hx,D,hD,hf,λH1 le1 hd1=>?_⟩;rw[hw] at hS;have hlen:=hS.len
 have hnc:=hS.1;simp only[List.length_cons] at hlen;refine⟨by omega,λ_=>⟨(hS.at (i:=0) rfl (off:=0) (by simp)).isSome,λ_=>⟨bs w0,(hS.mono hd1).at (i:=0) rfl (by simp),?_⟩⟩⟩;refine Cl.fresh (iG b0 H1) ?_;rintro v W3 W4 D2 ⟨mm,xt,c1,c3,es,cc,L,rfl,e0,hL1,hlk,e1,e2,e3⟩ hx hD2 hf2 n3;refine⟨_,rfl,hx,D2,hD2,hf2,λH2 le2 hd2 W5 n5 _=>?_⟩;have hz:(zeroValue 71).run Tryz.prog W5=.ok (.agg #[vi 0,.nilFunc]) W5:=by kernel_rfl
 have hrun:=fh (P:=Tryz.prog) Tryz.underlying73 Tryz.underlying9 (n5.sub _ _ (hd2 _ _ e0)) hL1 w0 hz;rw[hlk w0] at hrun;unfold kI at hrun;rw[hi] at hrun;refine⟨W5,hrun,Ext.refl _,λb2=>⟨by omega,λ_=>?_⟩⟩;have hbad:ws.length≠1->aq ⟨g,l⟩ s=bS ⟨g,l⟩ 1:=λhne=>by
  unfold aq aH;rw[hw];simp only[hi]
  split<;>first | rfl | (exfalso;simp_all;done)
 refine Clp.gpk (dx _ 1 H2) ?_ λu W7 W8 ⟨h,hu⟩ hx n7 k7=>by
  rw[hu];exact bJ (x:=1) (hbad (by have:=of_decide_eq_false h;omega)) hL ⟨by omega,by omega⟩ (by omega) hg hE hH hn n7 k7.2.1 k7.1 hx
 rintro v W7 W8 D3 ⟨h,hz⟩ hx hD3 hf3 n7;have h:=of_decide_eq_true h
 obtain⟨a,rfl⟩:=EB (l:=ws) (by omega);have hr:aq ⟨g,l⟩ s=one ⟨g,l⟩ a (nk ⟨g,l⟩):=by unfold aq aH;rw[hw];simp only[hi]
 refine⟨by rw[hz],hx,by omega,λ_=>⟨by omega,λ_=>?_⟩⟩;have hk2:H.le H2:=Hp.le_trans le1 le2
 obtain⟨p',hp',hS'⟩:=fj (hS.mono (Hp.le_trans hd1 le2)) (by simp);rw[hp',hr];have hcl:Cln ⟨g,l⟩ (one ⟨g,l⟩ a (nk ⟨g,l⟩)):=Cln.one λx=>Cln.cut ok _
 refine Clp.gtp (Eu hk2 hg hE (hL.mono hk2) hS' (h4 a (by simp)) b0) (λW k=>k.1) ?_ ?_
 rotate_left
 ·rintro u W9 W10 ⟨hu0,rfl⟩ hx n9 k9;obtain⟨z1,z2,z3⟩:=hcl hu0;exact bJ z1 hL ⟨by omega,by omega⟩ hu0 hg hE hH hn n9 k9.1 k9.2.1 hx
 rintro v W9 W10 C' D4 ⟨hz4,rfl,γ',q',m',d',rfl,hm'⟩ hb9 n9 h5 h6;refine⟨_,_,_,_,_,_,_,γ'.p,γ'.n,γ'.c,γ'.q,γ'.m,γ'.d,_,_,_,_,_,_,γ'.p0,γ'.n0,γ'.c0,_,_,_,_,_,_,γ'.p1,γ'.n1,γ'.c1,_,_,_,_,_,_,γ'.p2,γ'.n2,γ'.c2,q',m',d',rfl,hb9.bt n9 h5 h6 λH5 le5 hD5 W11 n11 k11=>?_⟩;exact jq hz4 n11 k11.2.1 k11.1 λK hk hd=>hm' K hk (Hp.le_trans (ai hD5 λb o h=>Nat.le_trans n9.mod.size (hb9.fresh b o h)) hd)
set_option maxHeartbeats 1000000 in
theorem Eq(hg:aK H g γ)(hE:av H q m d l)(hm:l.length<=1000)(hL:Lay H)(ok:aQ g){s w0:List UInt8}{ws:List (List UInt8)}(hs:s.length<=4096)(hw:aJ s=w0::ws)(hi:aE w0=some 24)(b0:Nat):LC H b0 g γ q m d l s:=λW hH hW hn=>by
 have h4:∀w∈w0::ws,w.length<=4096:=λw h=>by
  have:=aI s [] w (by rw[<- hw] at h;exact h);simp only[List.length_nil] at this;omega
 refine C5 _ _ _ _ _ _ γ.p γ.n γ.c γ.q γ.m γ.d _ _ _ _ _ _ γ.p0 γ.n0 γ.c0 _ _ _ _ _ _ γ.p1 γ.n1 γ.c1 _ _ _ _ _ _ γ.p2 γ.n2 γ.c2 q m d (bs s) b0 (λb=>b=b0) H W (LR W H b0 (aq ⟨g,l⟩ s)) hH ⟨hW,rfl,hn⟩ λb1=>?_;refine Cl.fresh (iA s hs H hL) ?_;rintro v W1 W2 D ⟨p,n,c,rfl,hS⟩ hx hD hf n1;refine⟨p,n,c,rfl,hx,D,hD,hf,λH1 le1 hd1=>?_⟩;rw[hw] at hS;have hlen:=hS.len
 have hnc:=hS.1;simp only[List.length_cons] at hlen;refine⟨by omega,λ_=>⟨(hS.at (i:=0) rfl (off:=0) (by simp)).isSome,λ_=>⟨bs w0,(hS.mono hd1).at (i:=0) rfl (by simp),?_⟩⟩⟩;refine Cl.fresh (iG b0 H1) ?_;rintro v W3 W4 D2 ⟨mm,xt,c1,c3,es,cc,L,rfl,e0,hL1,hlk,e1,e2,e3⟩ hx hD2 hf2 n3;refine⟨_,rfl,hx,D2,hD2,hf2,λH2 le2 hd2 W5 n5 _=>?_⟩;have hz:(zeroValue 71).run Tryz.prog W5=.ok (.agg #[vi 0,.nilFunc]) W5:=by kernel_rfl
 have hrun:=fh (P:=Tryz.prog) Tryz.underlying73 Tryz.underlying9 (n5.sub _ _ (hd2 _ _ e0)) hL1 w0 hz;rw[hlk w0] at hrun;unfold kI at hrun;rw[hi] at hrun;refine⟨W5,hrun,Ext.refl _,λb2=>⟨by omega,λ_=>?_⟩⟩;have hbad:ws.length≠1->aq ⟨g,l⟩ s=bS ⟨g,l⟩ 1:=λhne=>by
  unfold aq aH;rw[hw];simp only[hi]
  split<;>first | rfl | (exfalso;simp_all;done)
 refine Clp.gpk (dx _ 1 H2) ?_ λu W7 W8 ⟨h,hu⟩ hx n7 k7=>by
  rw[hu];exact bJ (x:=1) (hbad (by have:=of_decide_eq_false h;omega)) hL ⟨by omega,by omega⟩ (by omega) hg hE hH hn n7 k7.2.1 k7.1 hx
 rintro v W7 W8 D3 ⟨h,hz⟩ hx hD3 hf3 n7;have h:=of_decide_eq_true h
 obtain⟨a,rfl⟩:=EB (l:=ws) (by omega);have hr:aq ⟨g,l⟩ s=one ⟨g,l⟩ a (kP ⟨g,l⟩):=by unfold aq aH;rw[hw];simp only[hi]
 refine⟨by rw[hz],hx,by omega,λ_=>⟨by omega,λ_=>?_⟩⟩;have hk2:H.le H2:=Hp.le_trans le1 le2
 obtain⟨p',hp',hS'⟩:=fj (hS.mono (Hp.le_trans hd1 le2)) (by simp);rw[hp',hr];have hcl:Cln ⟨g,l⟩ (one ⟨g,l⟩ a (kP ⟨g,l⟩)):=Cln.one λx=>Cln.vals _ _
 refine Clp.gtp (CR hk2 hg hE (hL.mono hk2) ok hS' (h4 a (by simp)) b0) (λW k=>k.1) ?_ ?_
 rotate_left
 ·rintro u W9 W10 ⟨hu0,rfl⟩ hx n9 k9;obtain⟨z1,z2,z3⟩:=hcl hu0;exact bJ z1 hL ⟨by omega,by omega⟩ hu0 hg hE hH hn n9 k9.1 k9.2.1 hx
 rintro v W9 W10 C' D4 ⟨hz4,rfl,γ',q',m',d',rfl,hm'⟩ hb9 n9 h5 h6;refine⟨_,_,_,_,_,_,_,γ'.p,γ'.n,γ'.c,γ'.q,γ'.m,γ'.d,_,_,_,_,_,_,γ'.p0,γ'.n0,γ'.c0,_,_,_,_,_,_,γ'.p1,γ'.n1,γ'.c1,_,_,_,_,_,_,γ'.p2,γ'.n2,γ'.c2,q',m',d',rfl,hb9.bt n9 h5 h6 λH5 le5 hD5 W11 n11 k11=>?_⟩;exact jq hz4 n11 k11.2.1 k11.1 λK hk hd=>hm' K hk (Hp.le_trans (ai hD5 λb o h=>Nat.le_trans n9.mod.size (hb9.fresh b o h)) hd)
set_option maxHeartbeats 1000000 in
theorem E5(hg:aK H g γ)(hE:av H q m d l)(hm:l.length<=1000)(hL:Lay H)(ok:aQ g){s w0:List UInt8}{ws:List (List UInt8)}(hs:s.length<=4096)(hw:aJ s=w0::ws)(hi:aE w0=some 28)(b0:Nat):LC H b0 g γ q m d l s:=λW hH hW hn=>by
 have h4:∀w∈w0::ws,w.length<=4096:=λw h=>by
  have:=aI s [] w (by rw[<- hw] at h;exact h);simp only[List.length_nil] at this;omega
 refine Dp _ _ _ _ _ _ γ.p γ.n γ.c γ.q γ.m γ.d _ _ _ _ _ _ γ.p0 γ.n0 γ.c0 _ _ _ _ _ _ γ.p1 γ.n1 γ.c1 _ _ _ _ _ _ γ.p2 γ.n2 γ.c2 q m d (bs s) b0 (λb=>b=b0) H W (LR W H b0 (aq ⟨g,l⟩ s)) hH ⟨hW,rfl,hn⟩ λb1=>?_;refine Cl.fresh (iA s hs H hL) ?_;rintro v W1 W2 D ⟨p,n,c,rfl,hS⟩ hx hD hf n1;refine⟨p,n,c,rfl,hx,D,hD,hf,λH1 le1 hd1=>?_⟩;rw[hw] at hS;have hlen:=hS.len
 have hnc:=hS.1;simp only[List.length_cons] at hlen;refine⟨by omega,λ_=>⟨(hS.at (i:=0) rfl (off:=0) (by simp)).isSome,λ_=>⟨bs w0,(hS.mono hd1).at (i:=0) rfl (by simp),?_⟩⟩⟩;refine Cl.fresh (iG b0 H1) ?_;rintro v W3 W4 D2 ⟨mm,xt,c1,c3,es,cc,L,rfl,e0,hL1,hlk,e1,e2,e3⟩ hx hD2 hf2 n3;refine⟨_,rfl,hx,D2,hD2,hf2,λH2 le2 hd2 W5 n5 _=>?_⟩;have hz:(zeroValue 71).run Tryz.prog W5=.ok (.agg #[vi 0,.nilFunc]) W5:=by kernel_rfl
 have hrun:=fh (P:=Tryz.prog) Tryz.underlying73 Tryz.underlying9 (n5.sub _ _ (hd2 _ _ e0)) hL1 w0 hz;rw[hlk w0] at hrun;unfold kI at hrun;rw[hi] at hrun;refine⟨W5,hrun,Ext.refl _,λb2=>⟨by omega,λ_=>?_⟩⟩;have hbad:ws.length≠1->aq ⟨g,l⟩ s=bS ⟨g,l⟩ 1:=λhne=>by
  unfold aq aH;rw[hw];simp only[hi]
  split<;>first | rfl | (exfalso;simp_all;done)
 refine Clp.gpk (dx _ 1 H2) ?_ λu W7 W8 ⟨h,hu⟩ hx n7 k7=>by
  rw[hu];exact bJ (x:=1) (hbad (by have:=of_decide_eq_false h;omega)) hL ⟨by omega,by omega⟩ (by omega) hg hE hH hn n7 k7.2.1 k7.1 hx
 rintro v W7 W8 D3 ⟨h,hz⟩ hx hD3 hf3 n7;have h:=of_decide_eq_true h
 obtain⟨a,rfl⟩:=EB (l:=ws) (by omega);have hr:aq ⟨g,l⟩ s=one ⟨g,l⟩ a (kR ⟨g,l⟩):=by unfold aq aH;rw[hw];simp only[hi]
 refine⟨by rw[hz],hx,by omega,λ_=>⟨by omega,λ_=>?_⟩⟩;have hk2:H.le H2:=Hp.le_trans le1 le2
 obtain⟨p',hp',hS'⟩:=fj (hS.mono (Hp.le_trans hd1 le2)) (by simp);rw[hp',hr];have hcl:Cln ⟨g,l⟩ (one ⟨g,l⟩ a (kR ⟨g,l⟩)):=Cln.one λx=>Cln.kept _ _
 refine Clp.gtp (Di hk2 hg hE (hL.mono hk2) ok hS' (h4 a (by simp)) b0) (λW k=>k.1) ?_ ?_
 rotate_left
 ·rintro u W9 W10 ⟨hu0,rfl⟩ hx n9 k9;obtain⟨z1,z2,z3⟩:=hcl hu0;exact bJ z1 hL ⟨by omega,by omega⟩ hu0 hg hE hH hn n9 k9.1 k9.2.1 hx
 rintro v W9 W10 C' D4 ⟨hz4,rfl,γ',q',m',d',rfl,hm'⟩ hb9 n9 h5 h6;refine⟨_,_,_,_,_,_,_,γ'.p,γ'.n,γ'.c,γ'.q,γ'.m,γ'.d,_,_,_,_,_,_,γ'.p0,γ'.n0,γ'.c0,_,_,_,_,_,_,γ'.p1,γ'.n1,γ'.c1,_,_,_,_,_,_,γ'.p2,γ'.n2,γ'.c2,q',m',d',rfl,hb9.bt n9 h5 h6 λH5 le5 hD5 W11 n11 k11=>?_⟩;exact jq hz4 n11 k11.2.1 k11.1 λK hk hd=>hm' K hk (Hp.le_trans (ai hD5 λb o h=>Nat.le_trans n9.mod.size (hb9.fresh b o h)) hd)
set_option maxHeartbeats 1000000 in
theorem Ek(hg:aK H g γ)(hE:av H q m d l)(hm:l.length<=1000)(hL:Lay H)(ok:aQ g){s w0:List UInt8}{ws:List (List UInt8)}(hs:s.length<=4096)(hw:aJ s=w0::ws)(hi:aE w0=some 32)(b0:Nat):LC H b0 g γ q m d l s:=λW hH hW hn=>by
 have h4:∀w∈w0::ws,w.length<=4096:=λw h=>by
  have:=aI s [] w (by rw[<- hw] at h;exact h);simp only[List.length_nil] at this;omega
 refine Dn _ _ _ _ _ _ γ.p γ.n γ.c γ.q γ.m γ.d _ _ _ _ _ _ γ.p0 γ.n0 γ.c0 _ _ _ _ _ _ γ.p1 γ.n1 γ.c1 _ _ _ _ _ _ γ.p2 γ.n2 γ.c2 q m d (bs s) b0 (λb=>b=b0) H W (LR W H b0 (aq ⟨g,l⟩ s)) hH ⟨hW,rfl,hn⟩ λb1=>?_;refine Cl.fresh (iA s hs H hL) ?_;rintro v W1 W2 D ⟨p,n,c,rfl,hS⟩ hx hD hf n1;refine⟨p,n,c,rfl,hx,D,hD,hf,λH1 le1 hd1=>?_⟩;rw[hw] at hS;have hlen:=hS.len
 have hnc:=hS.1;simp only[List.length_cons] at hlen;refine⟨by omega,λ_=>⟨(hS.at (i:=0) rfl (off:=0) (by simp)).isSome,λ_=>⟨bs w0,(hS.mono hd1).at (i:=0) rfl (by simp),?_⟩⟩⟩;refine Cl.fresh (iG b0 H1) ?_;rintro v W3 W4 D2 ⟨mm,xt,c1,c3,es,cc,L,rfl,e0,hL1,hlk,e1,e2,e3⟩ hx hD2 hf2 n3;refine⟨_,rfl,hx,D2,hD2,hf2,λH2 le2 hd2 W5 n5 _=>?_⟩;have hz:(zeroValue 71).run Tryz.prog W5=.ok (.agg #[vi 0,.nilFunc]) W5:=by kernel_rfl
 have hrun:=fh (P:=Tryz.prog) Tryz.underlying73 Tryz.underlying9 (n5.sub _ _ (hd2 _ _ e0)) hL1 w0 hz;rw[hlk w0] at hrun;unfold kI at hrun;rw[hi] at hrun;refine⟨W5,hrun,Ext.refl _,λb2=>⟨by omega,λ_=>?_⟩⟩;have hbad:ws.length≠2->aq ⟨g,l⟩ s=bS ⟨g,l⟩ 1:=λhne=>by
  unfold aq aH;rw[hw];simp only[hi]
  split<;>first | rfl | (exfalso;simp_all;done)
 refine Clp.gpk (dx _ 1 H2) ?_ λu W7 W8 ⟨h,hu⟩ hx n7 k7=>by
  rw[hu];exact bJ (x:=1) (hbad (by have:=of_decide_eq_false h;omega)) hL ⟨by omega,by omega⟩ (by omega) hg hE hH hn n7 k7.2.1 k7.1 hx
 rintro v W7 W8 D3 ⟨h,hz⟩ hx hD3 hf3 n7;have h:=of_decide_eq_true h
 obtain⟨a,b,rfl⟩:=BO (l:=ws) (by omega);have hr:aq ⟨g,l⟩ s=two ⟨g,l⟩ a b (ln ⟨g,l⟩):=by unfold aq aH;rw[hw];simp only[hi]
 refine⟨by rw[hz],hx,by omega,λ_=>⟨by omega,λ_=>?_⟩⟩;have hk2:H.le H2:=Hp.le_trans le1 le2
 obtain⟨p',hp',hS'⟩:=fj (hS.mono (Hp.le_trans hd1 le2)) (by simp);rw[hp',hr];have hcl:Cln ⟨g,l⟩ (two ⟨g,l⟩ a b (ln ⟨g,l⟩)):=Cln.two λx y=>Cln.done _ _ _
 refine Clp.gtp (B0 hk2 hg hE hm (hL.mono hk2) hS' (h4 a (by simp)) (h4 b (by simp)) b0) (λW k=>k.1) ?_ ?_
 rotate_left
 ·rintro u W9 W10 ⟨hu0,rfl⟩ hx n9 k9;obtain⟨z1,z2,z3⟩:=hcl hu0;exact bJ z1 hL ⟨by omega,by omega⟩ hu0 hg hE hH hn n9 k9.1 k9.2.1 hx
 rintro v W9 W10 C' D4 ⟨hz4,rfl,γ',q',m',d',rfl,hm'⟩ hb9 n9 h5 h6;refine⟨_,_,_,_,_,_,_,γ'.p,γ'.n,γ'.c,γ'.q,γ'.m,γ'.d,_,_,_,_,_,_,γ'.p0,γ'.n0,γ'.c0,_,_,_,_,_,_,γ'.p1,γ'.n1,γ'.c1,_,_,_,_,_,_,γ'.p2,γ'.n2,γ'.c2,q',m',d',rfl,hb9.bt n9 h5 h6 λH5 le5 hD5 W11 n11 k11=>?_⟩;exact jq hz4 n11 k11.2.1 k11.1 λK hk hd=>hm' K hk (Hp.le_trans (ai hD5 λb o h=>Nat.le_trans n9.mod.size (hb9.fresh b o h)) hd)
set_option maxHeartbeats 1000000 in
theorem Ee(hg:aK H g γ)(hE:av H q m d l)(hm:l.length<=1000)(hL:Lay H)(ok:aQ g){s w0:List UInt8}{ws:List (List UInt8)}(hs:s.length<=4096)(hw:aJ s=w0::ws)(hi:aE w0=none)(b0:Nat):LC H b0 g γ q m d l s:=λW hH hW hn=>by
 have h4:∀w∈w0::ws,w.length<=4096:=λw h=>by
  have:=aI s [] w (by rw[<- hw] at h;exact h);simp only[List.length_nil] at this;omega
 refine CU _ _ _ _ _ _ γ.p γ.n γ.c γ.q γ.m γ.d _ _ _ _ _ _ γ.p0 γ.n0 γ.c0 _ _ _ _ _ _ γ.p1 γ.n1 γ.c1 _ _ _ _ _ _ γ.p2 γ.n2 γ.c2 q m d (bs s) b0 (λb=>b=b0) H W (LR W H b0 (aq ⟨g,l⟩ s)) hH ⟨hW,rfl,hn⟩ λb1=>?_;refine Cl.fresh (iA s hs H hL) ?_;rintro v W1 W2 D ⟨p,n,c,rfl,hS⟩ hx hD hf n1;refine⟨p,n,c,rfl,hx,D,hD,hf,λH1 le1 hd1=>?_⟩;rw[hw] at hS;have hlen:=hS.len
 have hnc:=hS.1;simp only[List.length_cons] at hlen;refine⟨by omega,λ_=>⟨(hS.at (i:=0) rfl (off:=0) (by simp)).isSome,λ_=>⟨bs w0,(hS.mono hd1).at (i:=0) rfl (by simp),?_⟩⟩⟩;refine Cl.fresh (iG b0 H1) ?_;rintro v W3 W4 D2 ⟨mm,xt,c1,c3,es,cc,L,rfl,e0,hL1,hlk,e1,e2,e3⟩ hx hD2 hf2 n3;refine⟨_,rfl,hx,D2,hD2,hf2,λH2 le2 hd2 W5 n5 _=>?_⟩;have hz:(zeroValue 71).run Tryz.prog W5=.ok (.agg #[vi 0,.nilFunc]) W5:=by kernel_rfl
 have hrun:=fh (P:=Tryz.prog) Tryz.underlying73 Tryz.underlying9 (n5.sub _ _ (hd2 _ _ e0)) hL1 w0 hz;rw[hlk w0] at hrun;unfold kI at hrun;rw[hi] at hrun;refine⟨W5,hrun,Ext.refl _,λb2=>?_⟩;have hbad:aq ⟨g,l⟩ s=bS ⟨g,l⟩ 1:=by
  unfold aq aH;rw[hw];simp only[hi]
 refine Clp.gpk (dx false 1 H2) ?_ λu W7 W8 ⟨h,hu⟩ hx n7 k7=>by
  rw[hu];exact bJ (x:=1) hbad hL ⟨by omega,by omega⟩ (by omega) hg hE hH hn n7 k7.2.1 k7.1 hx
 rintro v W7 W8 D3 ⟨h,hz⟩ hx hD3 hf3 n7
 cases h
theorem xC(w:List UInt8):aE w=some 4\/aE w=some 8\/aE w=some 12\/aE w=some 16\/aE w=some 20\/aE w=some 24\/aE w=some 28\/aE w=some 32\/aE w=none:=by
 unfold aE
 repeat' split
 all_goals simp
theorem EY(hg:aK H g γ)(hE:av H q m d l)(hm:l.length<=1000)(hL:Lay H)(ok:aQ g){s:List UInt8}(hs:s.length<=4096)(b0:Nat):LC H b0 g γ q m d l s:=by
 cases hw:aJ s with
 | nil=>exact absurd hw (nU s [])
 | cons w0 ws =>
  rcases xC w0 with h | h | h | h | h | h | h | h | h
  ·exact En hg hE hm hL ok hs hw h b0
  ·exact DE hg hE hm hL ok hs hw h b0
  ·exact Ei hg hE hm hL ok hs hw h b0
  ·exact FU hg hE hm hL ok hs hw h b0
  ·exact FK hg hE hm hL ok hs hw h b0
  ·exact Eq hg hE hm hL ok hs hw h b0
  ·exact E5 hg hE hm hL ok hs hw h b0
  ·exact Ek hg hE hm hL ok hs hw h b0
  ·exact Ee hg hE hm hL ok hs hw h b0
end
structure Sml(d:Dsk)(r:DR):Prop where
 ok:r.1.ok
 len:r.1.l.length<=d.l.length+1
 txt:r.2.1.length<=100
theorem Sml.err{d:Dsk}(h:d.ok)(x:Int):Sml d (bS d x):=⟨h,Nat.le_succ _,by simp[bS]⟩
theorem pW{x:Int}(h0:-1000000<=x)(h1:x<=1000000):(Lib.itoa x).length<=100:=Nat.le_trans (aW x ⟨by omega,by omega⟩) (by omega)
theorem zR{l:List Int}(hl:l.length<=4)(h:∀x∈l,-1000000<=x/\x<=1000000):(iz l).length<=100:=by
 have:=pB 21 (l.map Lib.itoa) λw hw=>by
  obtain⟨x,hx,rfl⟩:=List.mem_map.1 hw;have:=h x hx
  exact aW x ⟨by omega,by omega⟩
 rw[List.length_map] at this;unfold iz;omega
theorem Sml.put{d:Dsk}(h:d.ok){e:Ent}(he:e.in64):Sml d (gO d e):=by
 refine⟨Cu h he,?_,?_⟩
 ·unfold gO;split<;>simp[bS]
 ·have:=pH h.1 e;unfold gO;split
  ·exact pW (by omega) (by omega)
  ·simp[bS]
theorem Sml.run{d:Dsk}(h:d.ok)(a b:Int):Sml d (mN d a b):=by
 refine⟨CM h a b,?_,?_⟩
 ·unfold mN;split<;>simp[bS]
 ·have:=oc d.g a b;have:=h.1.log.low
  unfold mN;split
  ·exact pW (by omega) (by omega)
  ·simp[bS]
theorem Sml.cut{d:Dsk}(h:d.ok)(a:Int):Sml d (nk d a):=by
 refine⟨B8 h a,?_,?_⟩
 ·unfold nk;split<;>simp[bS]
 ·unfold nk;split<;>simp[bS]
theorem Sml.vals{d:Dsk}(h:d.ok)(a:Int):Sml d (kP d a):=by
 have hv:=(V4.ok_iff _).1 (h.1.node a.toNat).1.vals;unfold kP
 split
 ·refine⟨h,Nat.le_succ _,zR (by simp[V4.list]) λx hx=>?_⟩;simp only[V4.list,List.mem_cons,List.not_mem_nil,or_false] at hx
  rcases hx with rfl | rfl | rfl | rfl<;>omega
 ·exact Sml.err h _
theorem Sml.kept{d:Dsk}(h:d.ok)(a:Int):Sml d (kR d a):=by
 have st:=(h.1.node a.toNat).1;have h1:=st.pos
 have h2:=fk st.table;unfold kR
 split
 ·refine⟨h,Nat.le_succ _,zR (by simp) λx hx=>?_⟩;simp only[List.mem_cons,List.not_mem_nil,or_false] at hx
  rcases hx with rfl | rfl<;>omega
 ·exact Sml.err h _
theorem Sml.done{d:Dsk}(h:d.ok)(hm:d.l.length<=1000)(a b:Int):Sml d (ln d a b):=by
 have:=mc d.l a b;unfold ln
 split
 ·exact⟨h,Nat.le_succ _,pW (by omega) (by omega)⟩
 ·exact Sml.err h _
theorem Sml.two{d:Dsk}(h:d.ok){a b:List UInt8}{f:Int->Int->DR}(hf:∀x y,Sml d (f x y)):Sml d (two d a b f):=by
 unfold Go.Proofs.YtfpmcmhihhnfgaaGreatDoor.two
 split
 ·exact Sml.err h _
 ·exact hf _ _
theorem Sml.one{d:Dsk}(h:d.ok){a:List UInt8}{f:Int->DR}(hf:∀x,Sml d (f x)):Sml d (one d a f):=by
 unfold Go.Proofs.YtfpmcmhihhnfgaaGreatDoor.one
 split
 ·exact Sml.err h _
 ·exact hf _
theorem Sml.call{d:Dsk}(h:d.ok)(t c q a k y n:List UInt8):Sml d (bQ d t c q a k y n):=by
 have:=gc q;unfold bQ
 split
 ·exact Sml.err h _
 ·split
  ·exact Sml.err h _
  ·exact Sml.put h ⟨by simp only;omega,by simp only;omega⟩
theorem Sml.line{d:Dsk}(h:d.ok)(hm:d.l.length<=1000)(s:List UInt8):Sml d (aq d s):=by
 unfold aq aH
 split
 ·exact Sml.err h _
 ·split
  ·exact Sml.two h λx y=>Sml.put h ⟨by simp,by simp⟩
  ·exact Sml.two h λx y=>Sml.put h ⟨by simp,by simp⟩
  ·exact Sml.call h ..
  ·exact Sml.two h λx y=>Sml.run h _ _
  ·exact Sml.one h λx=>Sml.cut h _
  ·exact Sml.one h λx=>Sml.vals h _
  ·exact Sml.one h λx=>Sml.kept h _
  ·exact Sml.two h λx y=>Sml.done h hm _ _
  ·exact Sml.err h _
theorem Cln.line{d:Dsk}(ok:aQ d.g)(s:List UInt8):Cln d (aq d s):=by
 unfold aq aH
 split
 ·exact Cln.err d (by omega) (by omega)
 ·split
  ·exact Cln.two λx y=>Cln.put ok _
  ·exact Cln.two λx y=>Cln.put ok _
  ·exact Cln.call ok _ _ _ _ _ _ _
  ·exact Cln.two λx y=>Cln.run ok _ _
  ·exact Cln.one λx=>Cln.cut ok _
  ·exact Cln.one λx=>Cln.vals _ _
  ·exact Cln.one λx=>Cln.kept _ _
  ·exact Cln.two λx y=>Cln.done _ _ _
  ·exact Cln.err d (by omega) (by omega)
theorem Aw{d:Dsk}(h:d.ok)(hm:d.l.length<=1000)(s:List UInt8):(mR (aq d s)).length<=120:=by
 have h1:=(Sml.line h hm s).txt;have h2:=Cln.line h.1 s
 unfold mR
 split
 ·omega
 ·rename_i h0;obtain⟨_,h3,h4⟩:=h2 h0;have:=pW (x:=(aq d s).2.2) (by omega) (by omega)
  simp only[List.length_append,List.length_cons,List.length_nil]
  omega
def d0:Dsk:=⟨Grp.zero,[]⟩
theorem DO:d0.ok:=⟨cn.1 (by decide),λe h=>by simp[d0] at h⟩
def io(d:Dsk)(ls:List (List UInt8)):Dsk:=ls.foldl (λd s=>(aq d s).1) d
def ft:Dsk->List (List UInt8)->List UInt8
 | _,[] => []
 | d,s::r=>mR (aq d s) ++ [10]++ft (aq d s).1 r
theorem o6(d:Dsk)(ls:List (List UInt8))(s:List UInt8):io d (ls ++ [s])=(aq (io d ls) s).1:=by simp[io]
theorem l5:∀(ls:List (List UInt8)) (d:Dsk) (s:List UInt8),ft d (ls ++ [s])=ft d ls++(mR (aq (io d ls) s) ++ [10])
 | [],d,s=>by simp[ft,io]
 | a::ls,d,s=>by
  simp only[List.cons_append,ft,l5 ls]
  simp[io]
theorem rh:∀(n:Nat) (ls:List (List UInt8)),ls.length=n->ls.length<=900->(io d0 ls).ok/\(io d0 ls).l.length<=ls.length/\(ft d0 ls).length<=ls.length * 121
 | 0,ls,h0,_=>by
  have:ls = []:=List.length_eq_zero_iff.1 h0;subst this;exact⟨DO,by simp[io,d0],by simp[ft]⟩
 | n+1,ls,h0,h=>by
  have hne:ls ≠ []:=λe=>by subst e;simp at h0
  have hd:=List.dropLast_concat_getLast hne;generalize ls.dropLast=l at hd;generalize ls.getLast hne=s at hd;subst hd;simp only[List.length_append,List.length_cons,List.length_nil] at h0 h |-;obtain⟨h1,h2,h3⟩:=rh n l (by omega) (by omega);have h4:=Sml.line h1 (by omega) s
  have h5:=Aw h1 (by omega) s;rw[o6,l5];refine⟨h4.ok,by have:=h4.len;omega,?_⟩;simp only[List.length_append,List.length_cons,List.length_nil]
  omega
theorem B3(ls:List (List UInt8))(h:ls.length<=900):(io d0 ls).ok/\(io d0 ls).l.length<=ls.length/\(ft d0 ls).length<=ls.length * 121:=rh _ ls rfl h
def kc(s:List UInt8):List UInt8:=Lib.trimSuffix s [10]
theorem Bh(s:List UInt8):(kc s).length<=s.length:=by
 unfold kc Lib.trimSuffix
 split
 ·rw[List.length_take];omega
 ·omega
def jp(t:List UInt8):List UInt8 × Int :=
 if 4096<t.length\/60<t.count 10 then ([],2) else if t ≠ []/\Lib.hasSuffix t [10]=false then ([],1) else (ft d0 ((bo t).map kc),0)
theorem ku:∀(l cur:List UInt8),(cu cur l).length<=l.count 10+1
 | [],cur=>by unfold cu;split<;>simp
 | b::l,cur=>by
  rw[cu]
  split
  ·rename_i hb;subst hb;have:=ku l []
   simp only[List.length_cons,List.count_cons_self]
   omega
  ·have:=ku l (cur ++ [b]);have:=List.count_le_count_cons (a:=10) (b:=b) (l:=l)
   omega
theorem my:∀(l cur:List UInt8),∀s∈cu cur l,s.length<=cur.length+l.length
 | [],cur,s,h=>by
  unfold cu at h
  split at h
  ·simp at h
  ·simp only[List.mem_singleton] at h;subst h;simp
 | b::l,cur,s,h=>by
  rw[cu] at h
  split at h
  ·rcases List.mem_cons.1 h with rfl | h
   ·simp
   ·have:=my l [] s h;simp only[List.length_nil,List.length_cons] at this |-;omega
  ·have:=my l (cur ++ [b]) s h;simp only[List.length_append,List.length_cons,List.length_nil] at this |-;omega
def wU:List UInt8 := [111,112,101,110,32,49,32,49,10,99,97,108,108,32,50,32,49,32,49,32,48,32,97,100,100,32,48,32,53,10,99,97,108,108,32,51,32,49,32,49,32,48,32,97,100,100,32,48,32,53,10,99,97,108,108,32,52,32,50,32,49,32,48,32,97,100,100,32,48,32,55,10,114,117,110,32,48,32,57,10,118,97,108,115,32,48,10,99,117,116,32,51,10,107,101,112,116,32,48,10,114,117,110,32,49,32,48,10,118,97,108,115,32,49,10,100,111,110,101,32,49,32,49,10,99,97,108,108,32,53,32,49,32,50,32,49,32,97,100,100,32,48,32,45,54,10,99,97,108,108,32,53,32,49,32,50,32,49,32,97,100,100,32,48,32,45,48,10,114,117,110,32,51,32,49,10,99,117,116,32,57,10,99,108,111,115,101,32,54,32,49,10,118,97,108,115,32,51,10,120,10]
def sr:List UInt8 := [48,10,53,10,53,10,45,51,10,52,10,53,32,48,32,48,32,48,10,111,107,10,52,32,49,10,48,10,53,32,48,32,48,32,48,10,49,10,45,49,10,101,114,114,111,114,32,49,10,101,114,114,111,114,32,51,10,101,114,114,111,114,32,51,10,48,10,101,114,114,111,114,32,51,10,101,114,114,111,114,32,49,10]
set_option maxRecDepth 100000 in
theorem Fu:jp wU=(sr,0):=by decide +kernel
section
open Classical
set_option maxRecDepth 100000
theorem Gg.le{P:Program}{f:Nat}{args:Array Value}{K H:Hp}{b0 T:Nat}{C:Array Value}{post:Value->Array Value->Hp->Prop}{pan:Prop}(h:Gg P f args K b0 T C post pan)(hk:K.le H):Gg P f args H b0 T C post pan:=λW hH hW hn=>h W (Hp.le_trans hk hH) hW (by
 cases hh:K b0 with
 | none=>rfl
 | some o=>rw[hk b0 o hh] at hn;cases hn)
def DV(g:Grp)(γ:GP)(q:OL)(m c:Nat)(bp bq:OL)(bn bc:Nat):List Dat := [.i g.base.pos,.i g.base.clock,.i g.base.vals.a,.i g.base.vals.b,.i g.base.vals.c,.i g.base.vals.d,.p γ.p,.n γ.n,.n γ.c,.p γ.q,.n γ.m,.n γ.d,.i g.n0.pos,.i g.n0.clock,.i g.n0.vals.a,.i g.n0.vals.b,.i g.n0.vals.c,.i g.n0.vals.d,.p γ.p0,.n γ.n0,.n γ.c0,.i g.n1.pos,.i g.n1.clock,.i g.n1.vals.a,.i g.n1.vals.b,.i g.n1.vals.c,.i g.n1.vals.d,.p γ.p1,.n γ.n1,.n γ.c1,.i g.n2.pos,.i g.n2.clock,.i g.n2.vals.a,.i g.n2.vals.b,.i g.n2.vals.c,.i g.n2.vals.d,.p γ.p2,.n γ.n2,.n γ.c2,.p q,.n m,.n c,.p bp,.p bq,.n bn,.n bc]
def PI(W:World)(H:Hp)(b2:Nat)(ls:List (List UInt8))(v:List Dat)(k:Nat)(K:Hp)(T:Nat->Prop):Prop :=
 ∃γ q m c bp bq bn bc Kt gb,v=DV (io d0 (ls.take k)).g γ q m c bp bq bn bc/\H.le Kt/\Kt.le K/\aK Kt (io d0 (ls.take k)).g γ/\av Kt q m c (io d0 (ls.take k)).l/\By K bq bn bc (ft d0 (ls.take k)) gb /\
  (∀b,gb=some b->T b/\W.heap.size<=b/\Kt b=none)/\(bp=none\/bp=some ((b2:Blk),0))/\(bn=0->bq=none)
theorem z8(t:List UInt8)(H:Hp):Gv Tryz.prog 7 #[.string (bs t),.string (bs [10])] H (vi (t.count 10:Nat)):=λW _ =>
 (Tryz.strings_Count_one (bs t) 10 W).mono λz W' ⟨hz,hw⟩=>⟨hz,by subst hw;exact Ext.refl _⟩
theorem zb(t:List UInt8)(ht:t.length<=4096)(H:Hp):Gv Tryz.prog 8 #[.string (bs t),.string (bs [10])] H (vb (Lib.hasSuffix t [10])):=λW _ =>
 (Tryz.strings_HasSuffix (bs t) (bs [10]) W (by rw[az];omega)).mono λz W' ⟨hz,hw⟩=>⟨hz,by subst hw;exact Ext.refl _⟩
theorem yF(t:List UInt8)(ht:t.length<=4096)(H:Hp):Gv Tryz.prog 13 #[.string (bs t),.string (bs [10])] H (.string (bs (kc t))):=λW _ =>
 (Tryz.strings_TrimSuffix (bs t) (bs [10]) W (by rw[az];omega)).mono λz W' ⟨hz,hw⟩=>⟨hz,by subst hw;exact Ext.refl _⟩
theorem rv{α:Type}{l:List α}{k:Nat}{x:α}(h:l[k]?=some x):l.take (k+1)=l.take k ++ [x]:=by rw[List.take_add_one,h];rfl
set_option maxHeartbeats 4000000 in
theorem yU(t:List UInt8){H:Hp}(hL:Lay H):Gv Tryz.prog 4 #[.string (bs t)] H (.tuple #[.string (bs (jp t).1),vi (jp t).2]):=λW hH=>by
 refine D6 (bs t) noM H W _ hH ⟨λh=>?_,λh=>?_⟩
 ·rw[az] at h;rw[show jp t=([],2) from if_pos (.inl (by omega))];exact Rt.gv
 rw[az] at h;have ht:t.length<=4096:=by omega
 refine Cl.same (z8 t H) λ_ _ hx=>⟨_,rfl,hx,λh1=>?_,λh1=>?_⟩
 ·rw[show jp t=([],2) from if_pos (.inr (by omega))];exact Rt.gv
 have h60:t.count 10<=60:=by omega
 intro W3 n3 _;obtain⟨ls,hls⟩:∃ls,ls=(bo t).map kc:=⟨_,rfl⟩
 have hlen:(bo t).length<=61:=by have:=ku t [];unfold bo;omega
 have hlsl:ls.length=(bo t).length:=by rw[hls,List.length_map]
 have hso:∀k,((io d0 (ls.take k)).ok/\(io d0 (ls.take k)).l.length<=61/\(ft d0 (ls.take k)).length<=8000):=λk=>by
  have h0:(ls.take k).length<=61:=by rw[List.length_take];omega
  have:=B3 (ls.take k) (by omega);exact⟨this.1,by omega,by omega⟩
 refine⟨!decide (t = []),W3,qJ _ _ t [],Ext.refl _,λh2=>Cl.same (zb t ht H) λ_ _ hx=>⟨Lib.hasSuffix t [10],rfl,hx,λh3=>?ok1,λh3=>?bad⟩,λh2=>?ok2⟩
 case bad =>
  rw[show jp t=([],1) from (if_neg (by omega)).trans (if_pos ⟨by simpa using h2,by simpa using h3⟩)];exact Rt.gv
 case' ok1=>have hp:jp t=(ft d0 ls,0):=by rw[hls];exact (if_neg (by omega)).trans (if_neg λh=>by simp[h3] at h)
 case' ok2=>have hp:jp t=(ft d0 ls,0):=by rw[hls];exact (if_neg (by omega)).trans (if_neg λh=>h.1 (by simpa using h2))
 all_goals
  rw[hp];refine Cl.same (sF H) λ_ _ hx=>⟨_,_,_,_,_,_,GP.nil.p,GP.nil.n,GP.nil.c,GP.nil.q,GP.nil.m,GP.nil.d,_,_,_,_,_,_,GP.nil.p0,GP.nil.n0,GP.nil.c0,_,_,_,_,_,_,GP.nil.p1,GP.nil.n1,GP.nil.c1,_,_,_,_,_,_,GP.nil.p2,GP.nil.n2,GP.nil.c2,rfl,Fr.none hx λH1 le1=>?_⟩
  intro b0 b1 b2;refine Cl.fresh (CE t H1) ?_;rintro v W7 W8 D9 ⟨b,rfl,hb⟩ hx9 hD9 hf9 n7;refine⟨some (b,0),rfl,hx9,D9,hD9,hf9,λH2 le2 hd2=>⟨Int.natCast_nonneg _,λ_=>⟨Int.natCast_nonneg _,λ_=>⟨Int.natCast_nonneg _,λ_=>⟨Int.natCast_nonneg _,λ_=>⟨Int.natCast_nonneg _,λ_=>⟨Int.natCast_nonneg _,λ_=>⟨Int.natCast_nonneg _,λ_=>⟨Int.natCast_nonneg _,λ_=>⟨Int.natCast_nonneg _,λ_=>⟨Int.natCast_nonneg _,λ_=>?_⟩⟩⟩⟩⟩⟩⟩⟩⟩⟩⟩;have hbW:W.heap.size<=b:=Nat.le_trans n7.mod.size (hf9 b _ hb)
  refine⟨λk=>k=b,(bo t).length,Bx t,PI W H b2 ls,D9,H,noT,⟨A3 hb ht,hd2,Hp.le_trans le1 le2,λj hj=>by subst hj;exact⟨ao hH hbW,⟨_,hb⟩,.inl hbW⟩,λj hj=>hj.elim,?_⟩,?_,?_⟩
  ·simp only[bT]
   exact⟨GP.nil,none,0,0,none,none,0,0,H,none,rfl,Hp.le_refl _,Hp.le_refl _,aK.nil _,av.nil _ _,Ow.nil _ _ _ _,λj h=>(by cases h),.inl rfl,λ_=>rfl⟩
  ·intro k vals Wr Mr Ha Ta D H3 hk hsz ⟨s,hs,hv⟩ hTa hHa hDa a0 a1 a2 a3 a4 a5 a6 a7 a8 a9 a10 a11 a12 a13 a14 a15 a16 a17 a18 a19 a20 a21 a22 a23 a24 a25 a26 a27 a28 a29 a30 a31 a32 a33 a34 a35 a36 a37 a38 a39 a40 a41 a42 a43 a44 a45 hI;simp only[bT] at hI;obtain⟨γ,q,m,c,bp,bq,bn,bc,Kt,gb,hd,hHK,hKa,hg,hE,ho,hgb,hbp,hbq⟩:=hI;simp only[DV,List.cons.injEq,Dat.i.injEq,Dat.p.injEq,Dat.n.injEq,and_true] at hd;obtain⟨rfl,rfl,rfl,rfl,rfl,rfl,rfl,rfl,rfl,rfl,rfl,rfl,rfl,rfl,rfl,rfl,rfl,rfl,rfl,rfl,rfl,rfl,rfl,rfl,rfl,rfl,rfl,rfl,rfl,rfl,rfl,rfl,rfl,rfl,rfl,rfl,rfl,rfl,rfl,rfl,rfl,rfl,rfl,rfl,rfl,rfl⟩:=hd;have hs4:s.length<=4096:=by
    have:=my t [] s (List.mem_of_getElem? hs);simp only[List.length_nil] at this;omega
   have hat:ls[k]?=some (kc s):=by rw[hls,List.getElem?_map,hs];rfl
   obtain⟨hok,hl61,hob⟩:=hso k;have htx:=Aw hok (by omega) (kc s)
   have hS:=(o6 d0 (ls.take k) (kc s)).symm;rw[<- rv hat] at hS;have hO:=(l5 (ls.take k) d0 (kc s)).symm
   rw[<- rv hat] at hO;generalize hd:io d0 (ls.take k)=d at *;generalize ho':ft d0 (ls.take k)=o at *;refine⟨_,hv,?_⟩;refine Cl.same (yF s hs4 H3) λ_ _ hx=>⟨_,rfl,hx,?_⟩
   refine Cl.gg (Gg.le (EY (H:=Kt) hg hE (by omega) (hL.mono hHK) hok.1 (Nat.le_trans (Bh s) hs4) b0) (Hp.le_trans hKa hHa)) (λW k=>k.1) ?_;rintro v W13 W14 C' D' ⟨rfl,γ',q',m',c',rfl,hm'⟩ hb9 n9 h5 h6;rw[show (⟨d.g,d.l⟩:Dsk)=d from rfl,hS] at hm';replace htx:(mR (aq ⟨d.g,d.l⟩ (kc s))).length<=120:=htx;refine⟨_,_,_,_,_,_,_,γ'.p,γ'.n,γ'.c,γ'.q,γ'.m,γ'.d,_,_,_,_,_,_,γ'.p0,γ'.n0,γ'.c0,_,_,_,_,_,_,γ'.p1,γ'.n1,γ'.c1,_,_,_,_,_,_,γ'.p2,γ'.n2,γ'.c2,q',m',c',rfl,hb9.bt n9 h5 h6 λH4 le4 hD4=>⟨by rw[az];omega,λ_=>⟨by decide,λ_=>?_⟩⟩⟩;intro W15 n15 _;refine⟨_,W15,bP _ _ _ [10] (by omega) (by simp),Ext.refl _,?_⟩;have ho4:=ho.mono (K:=H4) λj _ o h=>le4 _ _ (hHa j o h)
   have hbn:a44=o.length:=by simpa using ho.1
   refine Cl.writeS hbp ho4 (λj hj=>.inr (hTa j (hgb j hj).1).1) (by simp) (by rw[List.length_append];simp;omega) (λW k=>k.1) ?_;intro W17 W18 q2 n2 c2 g2 H5 n17 hB hbt;refine⟨_,_,some ((b2:Blk),0),q2,n2,c2,rfl,hbt _ ⟨Int.natCast_nonneg _,λ_=>⟨Int.natCast_nonneg _,λ_=>⟨Int.natCast_nonneg _,λ_=>⟨Int.natCast_nonneg _,λ_=>⟨Int.natCast_nonneg _,λ_=>⟨Int.natCast_nonneg _,λ_=>⟨Int.natCast_nonneg _,λ_=>⟨Int.natCast_nonneg _,λ_=>⟨Int.natCast_nonneg _,λ_=>⟨Int.natCast_nonneg _,λ_=>⟨Int.natCast_nonneg _,λ_=>⟨Int.natCast_nonneg _,λ_=>⟨Int.natCast_nonneg _,λ_=>⟨Int.natCast_nonneg _,λ_=>?_⟩⟩⟩⟩⟩⟩⟩⟩⟩⟩⟩⟩⟩⟩⟩;have hold:∀j,gb=some j->bE Kt D' j=none:=λj hj=>by
    unfold bE;rw[(hgb j hj).2.2];show D' j=none
    cases hh:D' j with
    | none=>rfl
    | some o =>
     have h1:=hb9.fresh j o hh;obtain⟨o2,ho2⟩:=ho.held j hj;have h2:=ag (n9.sub j _ (hHa j _ ho2))
     omega
   have hD'K:D'.le (bE Kt D'):=λj o hj=>by
    unfold bE;rw[ao (Hp.le_trans (Hp.le_trans hKa hHa) n9.sub) (hb9.fresh j o hj)];exact hj
   have hK4:(bE Kt D').le H4:=λj o hj=>by
    unfold bE at hj
    split at hj
    ·rename_i o' ho';simp only[Option.some.injEq] at hj;subst hj;exact le4 _ _ (hHa j _ (hKa j _ ho'))
    ·exact hD4 j o hj
   have hK5:=hB.keep _ hK4 hold;have hg2n:∀j,g2=some j->bE Kt D' j=none:=λj hj=>by
    rcases hB.own with h | h
    ·exact hold j (h▸hj)
    ·exact ao (Hp.le_trans hK4 n17.sub) (h j hj)
   have hnew:∀j,g2=some j->gb=some j\/Wr.heap.size<=j:=λj hj=>by
    rcases hB.own with h | h
    ·exact .inl (h▸hj)
    ·have:=h j hj;have:=n17.mod.size;exact .inr (by omega)
   obtain⟨K2,hKg,hKd⟩:∃K2:Hp,(∀j,g2=some j->K2 j=H5 j)/\∀j,g2≠some j->K2 j=bE Kt D' j:=⟨λj=>if g2=some j then H5 j else bE Kt D' j,λj h=>if_pos h,λj h=>if_neg h⟩
   have hDn:∀j,g2=some j->D j=none:=λj hj=>by
    rcases hB.own with h | h
    ·exact (hTa j (hgb j (h▸hj)).1).2
    ·exact ao (Hp.le_trans hDa (Hp.le_trans le4 n17.sub)) (h j hj)
   have hh5:=hm' (bE Kt D') (gm _ _) hD'K;refine⟨λj=>g2=some j,K2,λj o hj=>?_,?_,λj o hj=>?_,λj hj=>⟨?_,?_,hDn j hj⟩⟩
   ·by_cases h:g2=some j
    ·rw[hKg j h] at hj;exact hj
    ·rw[hKd j h] at hj;exact hK5 j o hj
   ·simp only[bT]
    refine⟨γ',q',m',c',some ((b2:Blk),0),q2,n2,c2,bE Kt D',g2,?_,Hp.le_trans hHK (gm _ _),λj o hj=>?_,?_,?_,?_,λj hj=>⟨hj,?_,hg2n j hj⟩,.inr rfl,λh0=>?_⟩
    ·rw[<- hS];rfl
    ·rw[hKd j (λh=>by rw[hg2n j h] at hj;cases hj)];exact hj
    ·exact hh5.1
    ·exact hh5.2
    ·rw[<- hO];exact hB.by_.mono λj hj o ho=>by rw[hKg j hj];exact ho
    ·rcases hnew j hj with h | h
     ·exact (hgb j h).2.1
     ·omega
    ·have:=hB.by_.1;simp only[List.length_map,List.length_append,List.length_cons,List.length_nil] at this;omega
   ·by_cases h:g2=some j
    ·rcases hnew j h with h | h
     ·exact .inl (ho.held j h)
     ·exact .inr (.inr h)
    ·rw[hKd j h] at hj;unfold bE at hj
     split at hj
     ·rename_i o' ho';exact .inl ⟨_,hKa j _ ho'⟩
     ·have:=hb9.fresh j o hj;have:=n9.mod.size;exact .inr (.inr (by omega))
   ·rcases hnew j hj with h | h
    ·exact .inl (hgb j h).1
    ·exact .inr h
   ·obtain⟨o,ho⟩:=hB.by_.held j hj;exact⟨o,by rw[hKg j hj];exact ho⟩
  ·intro H3 Ta a0 a1 a2 a3 a4 a5 a6 a7 a8 a9 a10 a11 a12 a13 a14 a15 a16 a17 a18 a19 a20 a21 a22 a23 a24 a25 a26 a27 a28 a29 a30 a31 a32 a33 a34 a35 a36 a37 a38 a39 a40 a41 a42 a43 a44 a45 hI;simp only[bT] at hI;obtain⟨γ,q,m,c,bp,bq,bn,bc,Kt,gb,hd,hHK,hKa,hg,hE,ho,hgb,hbp,hbq⟩:=hI;simp only[DV,List.cons.injEq,Dat.i.injEq,Dat.p.injEq,Dat.n.injEq,and_true] at hd;obtain⟨rfl,rfl,rfl,rfl,rfl,rfl,rfl,rfl,rfl,rfl,rfl,rfl,rfl,rfl,rfl,rfl,rfl,rfl,rfl,rfl,rfl,rfl,rfl,rfl,rfl,rfl,rfl,rfl,rfl,rfl,rfl,rfl,rfl,rfl,rfl,rfl,rfl,rfl,rfl,rfl,rfl,rfl,rfl,rfl,rfl,rfl⟩:=hd;have hob:=(hso (bo t).length).2.2
   rw[<- hlsl,List.take_length] at ho hob;refine yM ho hbq (λj hj=>.inl (hgb j hj).2.1) (by omega) (λW k=>k.1) λW W' ⟨H',hT⟩=>⟨_,rfl,H',hT,Rt.gv⟩
end
end Go.Proofs.YtfpmcmhihhnfgaaGreatDoor
