/- Rows in memory: arrays of elements of some cells each. No conditions. -/
import Derived.Test.YtfpmcmhihhnfgaaGreatDoorKE3
import Derived.ArgAppend
import Derived.Lib.AppendZerosOnto
import Derived.RangeFuncBound
set_option linter.unusedVariables false
set_option linter.unusedSimpArgs false
namespace Go.Proofs.YtfpmcmhihhnfgaaGreatDoor
open Go.RowKit
structure Rows(H:Hp)(p:OL)(n w:Nat)(rows:List (List Value)):Prop where
 len:n=rows.length
 wid:∀r∈rows,r.length=w
 row:∀(i:Nat) r,rows[i]?=some r->aa H p ((i * w:Nat):Int) r
theorem aa.sub{H:Hp}{p:OL}{off:Int}{cs:List Value}(h:aa H p off cs)(h0:0<=off){j:Nat}{v:Value}(hv:cs[j]?=some v){off':Int}(ho:off'=off+j):aa H p off' [v]:=by
 obtain⟨b,o,h1,C,T,fz,h2,h3⟩:=h;refine⟨b,o,h1,C,T,fz,h2,λi hi=>?_⟩;have hi0:i=0:=by simpa using hi
 subst hi0;have hj:j<cs.length:=(List.getElem?_eq_some_iff.1 hv).1
 have:=h3 j hj;rw[show o+off'.toNat+0=o+off.toNat+j by omega,this.1,hv];exact⟨rfl,this.2⟩
theorem aa.isSome{H:Hp}{p:OL}{off:Int}{cs:List Value}(h:aa H p off cs):p.isSome=true:=by
 obtain⟨b,o,h1,_⟩:=h;rw[h1];rfl
theorem Rows.mono{H K:Hp}{p:OL}{n w:Nat}{rows:List (List Value)}(h:Rows H p n w rows)(hk:H.le K):Rows K p n w rows:=⟨h.len,h.wid,λi r hr=>(h.row i r hr).mono hk⟩
theorem Rows.nil(H:Hp)(p:OL)(w:Nat):Rows H p 0 w []:=⟨rfl,λr hr=>by simp at hr,λi r hr=>by simp at hr⟩
theorem Rows.at{H:Hp}{p:OL}{n w:Nat}{rows:List (List Value)}(h:Rows H p n w rows){k:Nat}(hk:k<n){off:Int}(ho:off=k * w):∃r,rows[k]?=some r/\r.length=w/\aa H p off r:=by
 have hlt:k<rows.length:=by rw[<- h.len];exact hk
 refine⟨rows[k],List.getElem?_eq_getElem hlt,h.wid _ (List.getElem_mem ..),?_⟩;have:=h.row k _ (List.getElem?_eq_getElem hlt)
 rw[ho];simpa using this
def fR(p:OL)(k:Nat):OL:=p.map λa=>a.shift k
theorem bD(p:OL)(off:Int):ab p off=ab (fR p off.toNat) 0:=by
 cases p<;>simp[ab,fR]
theorem Rows.part{H:Hp}{p:OL}{n w:Nat}{rows:List (List Value)}(h:Rows H p n w rows)(lo hi:Nat)(hl:lo<=hi)(hn:hi<=n):Rows H (fR p (lo * w)) (hi-lo) w ((rows.drop lo).take (hi-lo)):=by
 have hlen:=h.len;refine⟨by simp;omega,λr hr=>h.wid r (List.mem_of_mem_drop (List.mem_of_mem_take hr)),λi r hr=>?_⟩;rw[List.getElem?_take] at hr
 split at hr
 ·rw[List.getElem?_drop] at hr;obtain⟨b,o,h1,C,T,fz,h2,h3⟩:=h.row _ _ hr;refine⟨b,o+lo * w,by rw[h1];exact congrArg some (m4 ..),C,T,fz,h2,λj hj=>?_⟩;have e:o+lo * w+(((i * w:Nat):Int)).toNat+j=o+((((lo+i) * w:Nat):Int)).toNat+j:=by
   simp only[Int.toNat_natCast]
   rw[Nat.add_mul];omega
  rw[e];exact h3 j hj
 ·cases hr
theorem Rows.take{H:Hp}{p:OL}{n w:Nat}{rows:List (List Value)}(h:Rows H p n w rows)(hi:Nat)(hn:hi<=n):Rows H p hi w (rows.take hi):=by
 have hlen:=h.len;refine⟨by simp;omega,λr hr=>h.wid r (List.mem_of_mem_take hr),λi r hr=>?_⟩;rw[List.getElem?_take] at hr
 split at hr
 ·exact h.row i r hr
 ·cases hr
theorem Rows.blockF{H:Hp}{b o:Nat}{C:Array Value}{T:Nat}{fz:Nat × Nat}(hb:H b=some (.cells C T fz)){n w:Nat}{rows:List (List Value)}(hz:∀i,i<o+n * w->Ez fz i)(hn:n=rows.length)(hw:∀r∈rows,r.length=w)(hc:(C.toList.drop o).take (n * w)=rows.flatten):Rows H (some (b,o)) n w rows:=by
 refine⟨hn,hw,λi r hr=>⟨b,o,rfl,C,T,fz,hb,λj hj=>⟨?_,hz _ ?_⟩⟩⟩
 rotate_left
 ·have hi:i<rows.length:=(List.getElem?_eq_some_iff.1 hr).1;have hrw:=hw r (List.mem_of_getElem? hr)
  have h1:(i+1) * w<=n * w:=Nat.mul_le_mul_right _ (by omega);rw[Nat.succ_mul] at h1;simp only[Int.toNat_natCast]
  omega
 have hi:i<rows.length:=(List.getElem?_eq_some_iff.1 hr).1;have hrm:r∈rows:=List.mem_of_getElem? hr
 have hrw:=hw r hrm;have hfl:rows.flatten[i * w+j]?=r[j]?:=by
  clear hc hb hn hz
  induction rows generalizing i with
  | nil=>simp at hr
  | cons a l ih =>
   have ha:=hw a (List.mem_cons_self ..)
   cases i with
   | zero =>
    simp only[List.getElem?_cons_zero,Option.some.injEq] at hr;subst hr;simp only[List.flatten_cons,Nat.zero_mul,Nat.zero_add]
    rw[List.getElem?_append_left hj]
   | succ i =>
    simp only[List.getElem?_cons_succ] at hr;simp only[List.flatten_cons]
    rw[List.getElem?_append_right (by rw[ha,Nat.succ_mul];omega)];rw[<- ih (λr hr=>hw r (List.mem_cons_of_mem _ hr)) i hr (by simpa using hi) (List.mem_of_getElem? hr)]
    congr 1
    rw[ha,Nat.succ_mul];omega
 have hlt:i * w+j<n * w:=by
  rw[hn];have h1:i * w+w<=rows.length * w:=by rw[<- Nat.succ_mul];exact Nat.mul_le_mul_right _ hi
  omega
 rw[<- hfl,<- hc,List.getElem?_take,if_pos hlt,List.getElem?_drop,Array.getElem?_toList]
 congr 1
 simp only[Int.toNat_natCast];omega
theorem Rows.block{H:Hp}{b o:Nat}{C:Array Value}{T:Nat}(hb:H b=some (.cells C T (0,0))){n w:Nat}{rows:List (List Value)}(hn:n=rows.length)(hw:∀r∈rows,r.length=w)(hc:(C.toList.drop o).take (n * w)=rows.flatten):Rows H (some (b,o)) n w rows:=Rows.blockF hb (λi _=>qj i) hn hw hc
def Ow(H:Hp)(e w:Nat)(p:OL)(n c:Nat)(rows:List (List Value))(g:Option Nat):Prop :=
 n=rows.length/\(∀r∈rows,r.length=w/\∀v∈r,v.oneCell'=true)/\n<=c/\c<=maxLen /\
 ((c=0/\g=none)\/(∃(b:Nat) (C:Array Value),p=some ((b:Blk),0)/\g=some b/\H b=some (.cells C e (0,0))/\C.size=c * w/\C.toList.take (n * w)=rows.flatten))
theorem fd{w:Nat}:∀{rows:List (List Value)},(∀r∈rows,r.length=w)->rows.flatten.length=rows.length * w
 | [],_=>by simp
 | r::l,h=>by
  rw[List.flatten_cons,List.length_append,h r (List.mem_cons_self ..),fd (λr hr=>h r (List.mem_cons_of_mem _ hr)),List.length_cons,Nat.succ_mul];omega
theorem Ow.rows{H:Hp}{e w n c:Nat}{p:OL}{rows:List (List Value)}{g:Option Nat}(h:Ow H e w p n c rows g):Rows H p n w rows:=by
 obtain⟨h1,h2,h3,h4,h5⟩:=h
 rcases h5 with⟨rfl,_⟩ | ⟨b,C,rfl,_,h6,h7,h8⟩
 ·have:rows = []:=List.length_eq_zero_iff.1 (by omega);subst this;rw[h1];exact Rows.nil H p w
 ·exact Rows.block h6 h1 (λr hr=>(h2 r hr).1) (by simpa using h8)
theorem Ow.nil(H:Hp)(e w:Nat)(p:OL):Ow H e w p 0 0 [] none:=⟨rfl,λr hr=>by simp at hr,Nat.le_refl _,by simp[maxLen],.inl ⟨rfl,rfl⟩⟩
theorem Ow.mono{H K:Hp}{e w n c:Nat}{p:OL}{rows:List (List Value)}{g:Option Nat}(h:Ow H e w p n c rows g)(hk:∀b,g=some b->∀o,H b=some o->K b=some o):Ow K e w p n c rows g:=by
 obtain⟨h1,h2,h3,h4,h5⟩:=h;refine⟨h1,h2,h3,h4,?_⟩
 rcases h5 with⟨rfl,h6⟩ | ⟨b,C,rfl,hg,h6,h7,h8⟩
 ·exact .inl ⟨rfl,h6⟩
 ·exact .inr ⟨b,C,rfl,hg,hk b hg _ h6,h7,h8⟩
theorem Ow.take{H:Hp}{e w n c:Nat}{p:OL}{rows:List (List Value)}{g:Option Nat}(h:Ow H e w p n c rows g)(m:Nat)(hm:m<=n):Ow H e w p m c (rows.take m) g:=by
 obtain⟨h1,h2,h3,h4,h5⟩:=h;refine⟨by simp;omega,λr hr=>h2 r (List.mem_of_mem_take hr),by omega,h4,?_⟩
 rcases h5 with⟨rfl,h6⟩ | ⟨b,C,rfl,hg,h6,h7,h8⟩
 ·exact .inl ⟨rfl,h6⟩
 ·refine .inr ⟨b,C,rfl,hg,h6,h7,?_⟩;have hle:m * w<=n * w:=Nat.mul_le_mul_right _ hm
  have:C.toList.take (m * w)=(C.toList.take (n * w)).take (m * w):=by rw[List.take_take,Nat.min_eq_left hle]
  rw[this,h8];have hfl:=fd (rows:=rows.take m) (λr hr=>(h2 r (List.mem_of_mem_take hr)).1)
  have hlm:(rows.take m).length=m:=by simp;omega
  rw[hlm] at hfl
  conv=>lhs;rw[<- List.take_append_drop m rows,List.flatten_append]
  rw[<- hfl,List.take_left]
structure Upd(g:Option Nat)(W W':World)(H H':Hp):Prop where
 os:W'.os=W.os
 tape:W'.tape=W.tape
 output:W'.output=W.output
 size:W.heap.size<=W'.heap.size
 blk:∀b,b<W.heap.size->g≠some b->W'.heap[b]?=W.heap[b]?
 sub:H'.le (ak W')
 same:∀b,b<W.heap.size->g≠some b->H' b=H b
 dom:∀b o,H' b=some o->(∃o',H b=some o')\/W.heap.size<=b
theorem Upd.refl{W:World}{H:Hp}(g:Option Nat)(h:H.le (ak W)):Upd g W W H H:=⟨rfl,rfl,rfl,Nat.le_refl _,λ_ _ _=>rfl,h,λ_ _ _=>rfl,λb o hb=>.inl ⟨o,hb⟩⟩
theorem Upd.turned{W0:World}{M:Nat->Prop}{g:Option Nat}{W W':World}{H H':Hp}(h:Upd g W W' H H')(hg:∀b,g=some b->(∃o,H b=some o)/\(W0.heap.size<=b\/M b)):gH W0 M H W H' W' :=
 ⟨⟨h.os,h.tape,h.output,h.size,λb hb hn=>h.blk b hb (λhe=>hn (hg b he))⟩,h.sub,h.dom⟩
theorem Upd.keep{g:Option Nat}{W W':World}{H H' K:Hp}(h:Upd g W W' H H')(hH:H.le (ak W))(hk:K.le H)(hg:∀b,g=some b->K b=none):K.le H':=λb o hb=>by
 have h1:=hk b o hb;have h2:=ag (hH b o h1)
 rw[h.same b h2 (λhe=>by rw[hg b he] at hb;cases hb)];exact h1
theorem oe{w:Nat}:∀{rows:List (List Value)} (i:Nat),(∀r∈rows,r.length=w)->(rows.take i).flatten=rows.flatten.take (i * w)
 | [],i,_=>by simp
 | r::l,0,_=>by simp
 | r::l,i+1,h=>by
  have hr:=h r (List.mem_cons_self ..);have h1:r.take (i * w+w)=r:=List.take_of_length_le (by omega)
  rw[List.take_succ_cons,List.flatten_cons,List.flatten_cons,oe i (λr hr=>h r (List.mem_cons_of_mem _ hr)),List.take_append,hr,Nat.succ_mul,h1,Nat.add_sub_cancel]
theorem nM{w:Nat}:∀{rows:List (List Value)} (i:Nat),(∀r∈rows,r.length=w)->(rows.drop i).flatten=rows.flatten.drop (i * w)
 | [],i,_=>by simp
 | r::l,0,_=>by simp
 | r::l,i+1,h=>by
  have hr:=h r (List.mem_cons_self ..);have h1:r.drop (i * w+w) = []:=List.drop_of_length_le (by omega)
  rw[List.drop_succ_cons,List.flatten_cons,nM i (λr hr=>h r (List.mem_cons_of_mem _ hr)),List.drop_append,hr,Nat.succ_mul,h1,Nat.add_sub_cancel,List.nil_append]
section
variable{P:Program}{W:World}{H:Hp}{e w n c:Nat}{p:OL}{rows:List (List Value)}{g:Option Nat}
theorem Rows.cells{a:Loc}(h:Rows H (some a) n w rows)(hH:H.le (ak W))(hw:0<w):∀(j:Nat) u,rows.flatten[j]?=some u->W.cell? (a.addr.add j)=some u:=by
 intro j u hu;have hj:j<rows.flatten.length:=(List.getElem?_eq_some_iff.1 hu).1
 rw[fd h.wid] at hj;have hi:j / w<rows.length:=(Nat.div_lt_iff_lt_mul hw).2 hj
 have hrow:=h.row (j / w) _ (List.getElem?_eq_getElem hi);have hk:j % w<w:=Nat.mod_lt _ hw
 have hdm:=Nat.div_add_mod j w;rw[Nat.mul_comm] at hdm;have hlen:=h.wid _ (List.getElem_mem hi)
 obtain⟨b',o',he,C,T,fz,h2,h3⟩:=hrow;simp only[Option.some.injEq] at he;subst he;have h4:=(h3 (j % w) (by omega)).1
 have h5:=hH _ _ h2;rw[lO,kw,oV h5,<- hu];have hf:rows.flatten[j]?=rows[j / w][j % w]?:=by
  have h6:=nM (rows:=rows) (j / w) h.wid;have h7:rows.flatten[j]?=(rows.flatten.drop (j / w * w))[j % w]?:=by rw[List.getElem?_drop,hdm]
  rw[h7,<- h6,List.drop_eq_getElem_cons hi,List.flatten_cons,List.getElem?_append_left (by omega)]
 rw[hf,<- h4]
 congr 1
 simp only[Int.toNat_natCast]
 omega
theorem Upd.setRow{b:Nat}{C C':Array Value}(hH:H.le (ak W))(hb:H b=some (.cells C e (0,0))):Upd (some b) W (W.setRow b C') H (bh H b (.cells C' e (0,0))):=by
 have h1:=hH b _ hb;have hold:∀k,k≠b->(W.setRow b C').heap[k]?=W.heap[k]?:=λk hk=>setRow_other W b k _ hk
 refine⟨rfl,rfl,rfl,by simp,λk _ hk=>hold k (λh=>hk (by rw[h])),λk o hk=>?_,λk _ hk=>?_,λk o hk=>?_⟩
 ·unfold bh at hk
  split at hk
  ·rename_i h;subst h;rw[<- hk];exact setRow_heap W k C _ e _ h1
  ·rename_i h;have:=hH k o hk
   simp only[ak] at this |-;rw[hold k h,this]
 ·unfold bh;rw[if_neg (λh=>hk (by rw[h]))]
 ·unfold bh at hk
  split at hk
  ·rename_i h;subst h;exact .inl ⟨_,hb⟩
  ·exact .inl ⟨o,hk⟩
theorem Upd.made{g:Option Nat}(hH:H.le (ak W))(o:Obj):Upd g W (W.drew.alloc o) H (bh H W.heap.size o):=by
 have hold:∀k,k<W.heap.size->(W.drew.alloc o).heap[k]?=W.heap[k]?:=λk hk=>heap_alloc_old W.drew o hk;refine⟨rfl,rfl,rfl,by simp,λk hk _=>hold k hk,λk q hk=>?_,λk hk _=>?_,λk q hk=>?_⟩
 ·unfold bh at hk
  split at hk
  ·rename_i h;subst h;rw[<- hk];exact heap_alloc_new W.drew o
  ·have:=hH k q hk;have hlt:=ag this
   simp only[ak] at this |-;rw[hold k hlt,this]
 ·unfold bh;rw[if_neg (by omega)]
 ·unfold bh at hk
  split at hk
  ·rename_i h;exact .inr (by omega)
  ·exact .inl ⟨q,hk⟩
theorem Ow.made{C:Array Value}(hn:n=rows.length)(hr:∀r∈rows,r.length=w/\∀v∈r,v.oneCell'=true)(hc:n<=c)(hm:c<=maxLen)(hs:C.size=c * w)(ht:C.toList.take (n * w)=rows.flatten)(k:Nat) :
  Ow (bh H k (.cells C e (0,0))) e w (some (k,0)) n c rows (some k):=⟨hn,hr,hc,hm,.inr ⟨k,C,rfl,rfl,cm ..,hs,ht⟩⟩
theorem Ow.write{b:Nat}{C:Array Value}(h:Ow H e w p n c rows g)(hp:p=some ((b:Blk),0))(hg:g=some b)(hs:C.size=c * w){off n':Nat}{vs:List Value}{rows':List (List Value)}(hn':n'=rows'.length)
  (hr:∀r∈rows',r.length=w/\∀v∈r,v.oneCell'=true) (hc:n'<=c) (hfit:off+vs.length<=c * w) (ht':(C.toList.take off++vs++C.toList.drop (off+vs.length)).take (n' * w)=rows'.flatten) :
  Ow (bh H b (.cells (C.toList.take off++vs++C.toList.drop (off+vs.length)).toArray e (0,0))) e w p n' c rows' g:=by
 subst hp;subst hg;refine Ow.made hn' hr hc h.2.2.2.1 ?_ (by simpa using ht') b;simp only[List.size_toArray,List.length_append,List.length_take,List.length_drop,Array.length_toList]
 omega
theorem kM(hr:∀r∈rows,r.length=w/\∀v∈r,v.oneCell'=true):∀u∈rows.flatten,u.oneCell'=true:=λu hu=>by
 obtain⟨r,h1,h2⟩:=List.mem_flatten.1 hu;exact (hr r h1).2 u h2
theorem bU{t bytes:Nat}{i:TypeInfo}{z:Value}(ht:P.underlying t=some (.slice e))(hi:P.info? e=some i)(hz:i.zero=some z)(hs:i.size=w)(hby:i.bytes=bytes)(hzs:z.cells.size=w)(hw:0<w)
  (hH:H.le (ak W)) (ho:Ow H e w p n c rows g) {p2:OL} {m c2:Nat} {news:List (List Value)} (hr:Rows H p2 m w news) (h1:∀r∈news,∀v∈r,v.oneCell'=true) (h63:n+m<=maxLen) (hb:(n+m) * bytes<=140737488355328) (ty:Nat) :
  ∃p' c' g' W' H',(EK.sem (.bi .append #[t,t] ty) [vsl p n c,vsl p2 m c2]).run P W=.ok (.value (vsl p' (n+m) c')) W'/\Upd g W W' H H'/\Ow H' e w p' (n+m) c' (rows++news) g'/\(g'=g\/g'=some W.heap.size)/\(n+m<=c->p'=p/\c'=c/\g'=g):=by
 have hrows:∀r∈rows++news,r.length=w/\∀v∈r,v.oneCell'=true:=λr hr'=>by
  rcases List.mem_append.1 hr' with h | h
  ·exact ho.2.1 r h
  ·exact⟨hr.wid r h,h1 r h⟩
 have hflat:∀u∈news.flatten,u.oneCell'=true:=kM (w:=w) (λr h=>⟨hr.wid r h,h1 r h⟩)
 have hln:news.flatten.length=m * w:=by rw[fd hr.wid,<- hr.len]
 have hlr:rows.flatten.length=n * w:=by rw[fd (λr h=>(ho.2.1 r h).1),<- ho.1]
 have hlen:n+m=(rows++news).length:=by rw[List.length_append,<- ho.1,<- hr.len]
 have hsmall:n+m<=9223372036854775807:=by simp only[maxLen] at h63;omega
 have hsem:∀(v v2:Value),(EK.sem (.bi .append #[t,t] ty) [v,v2]).run P W=((Builtin.append_ #[t,t] ty #[v,v2]).run P W).andThen λv w=>.ok (.value v) w:=λv v2=>by
  simp[EK.sem,builtin]
 by_cases hm:m=0
 ·subst hm;have hnn:news = []:=List.length_eq_zero_iff.1 hr.len.symm
  subst hnn;refine⟨p,c,g,W,H,?_,Upd.refl g hH,by simpa using ho,.inl rfl,λ_=>⟨rfl,rfl,rfl⟩⟩;rw[hsem];have hcap:n+0<=c:=ho.2.2.1
  cases p<;>cases p2<;>simp[vsl,Builtin.append_,ab,run_underlying ht,sizeOf,typeInfo,hi,Builtin.lenOf,Builtin.firstCells,loadCells,loadCellsFrom,ho.2.2.1,storeCells]
 ·
  obtain⟨r0,hr0,_,hat⟩:=hr.at (k:=0) (by omega) (off:=0) (by simp)
  obtain⟨b2,o2,rfl,_⟩:=hat
  have hnews:=hr.cells hH hw
  by_cases hroom:n+m<=c
  ·obtain⟨q1,q2,q3,q4,q5⟩:=ho
   rcases q5 with⟨rfl,_⟩ | ⟨b,C,rfl,rfl,h6,h7,h8⟩
   ·omega
   ·have hmul:(n+m) * w<=c * w:=Nat.mul_le_mul_right _ hroom;rw[Nat.add_mul] at hmul;have hrun:=run_append_room (P:=P) W t ty e i ht hi b n c C (hH b _ h6) ⟨b2,o2,none⟩ m c2 news.flatten (by rw[hln,hs]) hnews hflat hroom (by rw[hs,hln,h7];exact hmul)
    refine⟨_,_,some b,_,_,?_,Upd.setRow hH h6,Ow.write ⟨q1,q2,q3,q4,.inr ⟨b,C,rfl,rfl,h6,h7,h8⟩⟩ rfl rfl h7 (off:=n * w) (vs:=news.flatten) hlen hrows hroom (by rw[hln];exact hmul) ?_,.inl rfl,λ_=>⟨rfl,rfl,rfl⟩⟩
    ·rw[hsem];simp only[vsl,ab,Option.map_some,Int.toNat_zero,BB,lO,hrun,Result.andThen_ok,hs]
    ·rw[h8,List.flatten_append,<- List.flatten_append,Nat.add_mul,<- hlr,<- hln,<- List.length_append,<- List.flatten_append,List.take_left]
  ·
   have hge:=grownCap_ge W (n+m) c e;have hcm:grownCap W (n+m) c e<=maxLen:=grownCap_le_maxLen W (n+m) c e h63
   have fin:∀(old:Nat),Ow (bh H W.heap.size (.cells (rows.flatten.toArray++news.flatten.toArray++Builtin.zeroCells z.cells (grownCap W (n+m) c e-(n+m))) e)) e w (some (W.heap.size,0)) (n+m) (grownCap W (n+m) c e) (rows++news) (some W.heap.size):=λ_=>by
    refine Ow.made hlen hrows hge hcm ?_ ?_ _
    ·simp only[Array.size_append,List.size_toArray,size_zeroCells,hzs,hlr,hln,<- Nat.add_mul]
     congr 1
     omega
    ·simp only[Array.toList_append,List.append_assoc]
     rw[<- List.append_assoc,<- List.flatten_append];have:(n+m) * w=(rows++news).flatten.length:=by rw[List.flatten_append,List.length_append,hlr,hln,Nat.add_mul]
     rw[this];exact List.take_left
   refine⟨_,_,some W.heap.size,_,_,?_,Upd.made hH _,fin 0,.inr rfl,λh=>absurd h hroom⟩;rw[hsem]
   cases p with
   | none =>
    obtain⟨q1,q2,q3,q4,q5⟩:=ho
    rcases q5 with⟨rfl,_⟩ | ⟨b,C,h,_⟩
    ·have hn0:n=0:=by omega
     subst hn0;have hrn:rows = []:=List.length_eq_zero_iff.1 q1.symm
     subst hrn;have hrun:=run_append_nil (P:=P) W t ty e i z ht hi hz ⟨b2,o2,none⟩ m c2 news.flatten (by rw[hln,hs]) hnews (by omega) (by omega) (by rw[hby];simp only[Nat.zero_add] at hb;omega)
     simp only[vsl,ab,Option.map_some,Option.map_none,Int.toNat_zero,BB,lO,hrun,Result.andThen_ok]
     simp
    ·cases h
   | some a =>
    have holds:∀(j:Nat) u,rows.flatten[j]?=some u->W.cell? (a.addr.add j)=some u:=ho.rows.cells hH hw;have hrun:=run_append_grow (P:=P) W t ty e i z ht hi hz a.addr n c rows.flatten (by rw[hlr,hs]) holds ⟨b2,o2,none⟩ m c2 news.flatten (by rw[hln,hs]) hnews (by omega) (by omega) (growslice_fits (by omega) (by rw[hby];exact hb))
    simp only[vsl,ab,Option.map_some,Int.toNat_zero,BB,lO,hrun,Result.andThen_ok]
end
section
variable{P:Program}{W:World}{H:Hp}{e w n c:Nat}{p:OL}{rows:List (List Value)}{g:Option Nat}
theorem vj{t e:Nat}(ht:P.underlying t=some (.slice e))(d:Nat)(b:Option Addr)(n c:Nat)(w:World):(Op.equalIn (d+1) t (.slice b n c) (.slice none 0 0)).run P w=.ok b.isNone w:=by
 cases b<;>simp only[Op.equalIn,Sem.run_bind,run_underlying ht,Result.andThen_ok,Sem.run_pure]<;>rfl
theorem uW{t e:Nat}(ht:P.underlying t=some (.slice e))(x y:Operand)(p:OL)(n c:Nat)(w:World):(EK.sem (.bop .eql t x y) [vsl p n c,Value.slice none 0 0]).run P w=.ok (.value (vb p.isNone)) w:=by
 have h:=vj ht 9999 (ab p 0) n c w;have hb:(binOp .eql t (vsl p n c) (.slice none 0 0)).run P w=.ok (vb p.isNone) w:=by
  unfold binOp;simp only[Op.equal,Op.maxDepth,Sem.run_bind]
  show ((Op.equalIn (9999+1) t (vsl p n c) (.slice none 0 0)).run P w).andThen _=_;rw[h]
  cases p<;>rfl
 have hg:(eqGuard .eql t x y (vsl p n c) (.slice none 0 0)).run P w=.ok () w:=by
  simp[eqGuard]
 simp only[EK.sem,List.getD_cons_zero,List.getD_cons_succ,Sem.run_bind,hg,Result.andThen_ok,hb,Sem.run_pure]
theorem sW{C:List Value}{N off:Nat}{vs:List Value}(hN:N<=C.length)(h:off+vs.length<=N):(C.take off++vs++C.drop (off+vs.length)).take N=(C.take N).take off++vs++(C.take N).drop (off+vs.length):=by
 have h1:(C.take off++vs).length=off+vs.length:=by simp;omega
 rw[List.take_append,h1,List.take_of_length_le (by omega),List.take_take,Nat.min_eq_left (by omega),List.drop_take]
def fU(r:List Value)(j:Nat)(vs:List Value):List Value:=r.take j++vs++r.drop (j+vs.length)
theorem zO{w:Nat}{rows:List (List Value)}{i j:Nat}{r vs:List Value}(hw:∀r∈rows,r.length=w)(hr:rows[i]?=some r)(hj:j+vs.length<=w) :
  rows.flatten.take (i * w+j)++vs++rows.flatten.drop (i * w+j+vs.length)=(rows.set i (fU r j vs)).flatten:=by
 have hi:=(List.getElem?_eq_some_iff.1 hr).1;have hrl:=hw r (List.mem_of_getElem? hr)
 have hs:rows.set i (fU r j vs)=rows.take i++fU r j vs::rows.drop (i+1):=List.set_eq_take_append_cons_drop .. |>.trans (by rw[if_pos hi])
 have hd:rows.drop i=r::rows.drop (i+1):=by
  obtain⟨h1,h2⟩:=List.getElem?_eq_some_iff.1 hr;rw[List.drop_eq_getElem_cons h1,h2]
 have e1:rows.flatten=(rows.take i).flatten++(r++(rows.drop (i+1)).flatten):=by
  conv=>lhs;rw[<- List.take_append_drop i rows,List.flatten_append,hd,List.flatten_cons]
 have hl:(rows.take i).flatten.length=i * w:=by rw[fd (λr hr=>hw r (List.mem_of_mem_take hr)),List.length_take,Nat.min_eq_left (Nat.le_of_lt hi)]
 rw[hs,List.flatten_append,List.flatten_cons,e1,fU];generalize (rows.take i).flatten=A at *;generalize (rows.drop (i+1)).flatten=B at *;have t1:(A++(r++B)).take (i * w+j)=A++r.take j:=by
  rw[List.take_append,List.take_of_length_le (by omega),hl,Nat.add_sub_cancel_left,List.take_append_of_le_length (by omega)]
 have t2:(A++(r++B)).drop (i * w+j+vs.length)=r.drop (j+vs.length)++B:=by
  rw[List.drop_append,List.drop_of_length_le (by omega),List.nil_append,hl,show i * w+j+vs.length-i * w=j+vs.length by omega,List.drop_append_of_le_length (by omega)]
 rw[t1,t2];simp
theorem hG{t k:Nat}{i:TypeInfo}(hi:P.info? t=some i)(hk:i.size=k)(w:World):(sizeOf t).run P w=.ok k w:=by
 simp[sizeOf,typeInfo,hi,hk]
theorem dr{t:Nat}{ti:TypeInfo}(hti:P.info? t=some ti)(hH:H.le (ak W))(ho:Ow H e w p n c rows g){i j:Nat}{r vs:List Value}{v:Value}(hr:rows[i]?=some r)(hv:v.cells=vs.toArray)(hs:ti.size=vs.length)(hj:j+vs.length<=w)(hj0:0<vs.length)(h1:∀u∈vs,u.oneCell'=true){off:Int}(hoff:off=((i * w+j:Nat):Int)) :
  ∃W' H',(EK.sem (.storeO t) [.pointer (ab p off),v]).run P W=.ok .skip W'/\Upd g W W' H H'/\Ow H' e w p n c (rows.set i (fU r j vs)) g:=by
 have hi:=(List.getElem?_eq_some_iff.1 hr).1;obtain⟨q1,q2,q3,q4,q5⟩:=ho;have hwid:∀r∈rows,r.length=w:=λr hr=>(q2 r hr).1
 rcases q5 with⟨rfl,_⟩ | ⟨b,C,rfl,rfl,h6,h7,h8⟩
 ·omega
 ·have hin:i * w+j+vs.length<=n * w:=by
   have:=Nat.mul_le_mul_right w (Nat.succ_le_of_lt (q1▸hi:i<n));rw[Nat.succ_mul] at this;omega
  have hcap:n * w<=c * w:=Nat.mul_le_mul_right _ q3;have hst:=run_storeCells_at P b (i * w+j) e vs 0 C W (hH b _ h6) (by rw[h7];omega) h1
  have hrl:=hwid r (List.mem_of_getElem? hr);refine⟨_,_,?_,Upd.setRow hH h6,Ow.write ⟨q1,q2,q3,q4,.inr ⟨b,C,rfl,rfl,h6,h7,h8⟩⟩ rfl rfl h7 (off:=i * w+j) (vs:=vs) (by simp[q1]) (λu hu=>?_) q3 (by omega) ?_⟩
  ·simp only[EK.sem,List.getD_cons_zero,List.getD_cons_succ,Instr.storeAt,ab,Option.map_some,nx,Nat.zero_add,Instr.sureAddr,Sem.run_bind,Sem.run_pure,Result.andThen_ok,storeVar,hG hti hs,hv]
   rw[if_neg (by simp)];simp only[Nat.zero_add,hoff,Int.toNat_natCast]
   rw[hst];simp only[Result.andThen_ok,Nat.add_zero]
  ·rcases List.mem_or_eq_of_mem_set hu with hu | rfl
   ·exact q2 u hu
   ·refine⟨by simp[fU];omega,λx hx=>?_⟩;have hq:=(q2 r (List.mem_of_getElem? hr)).2
    simp only[fU,List.mem_append] at hx
    rcases hx with (hx | hx) | hx
    ·exact hq x (List.mem_of_mem_take hx)
    ·exact h1 x hx
    ·exact hq x (List.mem_of_mem_drop hx)
  ·rw[sW (by rw[Array.length_toList,h7];exact hcap) hin,h8];exact zO hwid hr hj
theorem lH{t:Nat}{ti:TypeInfo}(ht:P.underlying t=some (.slice e))(hti:P.info? e=some ti)(hs:ti.size=w)(hw:0<w)(hH:H.le (ak W))(ho:Ow H e w p n c rows g){p2:OL}{m sl c2 dl dc k:Nat}{news:List (List Value)}(hr:Rows H p2 m w news)
  (h1:∀r∈news,∀v∈r,v.oneCell'=true) (hm:0<m) (hdl:Nat.min sl dl=m) (hk:k+m<=n) {off:Int} (hoff:off=((k * w:Nat):Int)) (ty:Nat) :
  ∃W' H',(EK.sem (.bi .copy #[t,t] ty) [.slice (ab p off) dl dc,vsl p2 sl c2]).run P W=.ok (.value (vi m)) W'/\Upd g W W' H H'/\Ow H' e w p n c (rows.take k++news++rows.drop (k+m)) g:=by
 obtain⟨q1,q2,q3,q4,q5⟩:=ho;have hwid:∀r∈rows,r.length=w:=λr hr=>(q2 r hr).1
 have hln:news.flatten.length=m * w:=by rw[fd hr.wid,<- hr.len]
 have hflat:∀u∈news.flatten,u.oneCell'=true:=kM (w:=w) (λr h=>⟨hr.wid r h,h1 r h⟩)
 obtain⟨r0,hr0,_,hat⟩:=hr.at (k:=0) (by omega) (off:=0) (by simp)
 obtain⟨b2,o2,rfl,_⟩:=hat
 have hnews:=hr.cells hH hw;have hkm:(k+m) * w<=n * w:=Nat.mul_le_mul_right _ hk
 have hcap:n * w<=c * w:=Nat.mul_le_mul_right _ q3;rw[Nat.add_mul] at hkm
 rcases q5 with⟨rfl,_⟩ | ⟨b,C,rfl,rfl,h6,h7,h8⟩
 ·omega
 ·have hst:=run_storeCells_at P b (k * w) e news.flatten 0 C W (hH b _ h6) (by rw[h7,hln];omega) hflat
  have hfc:=run_firstCells_some (P:=P) W w m ⟨b2,o2,none⟩ sl c2 news.flatten hln hnews;simp only[Nat.add_zero] at hst;refine⟨W.setRow b (C.toList.take (k * w)++news.flatten++C.toList.drop (k * w+news.flatten.length)).toArray,_,?_,Upd.setRow hH h6,Ow.write ⟨q1,q2,q3,q4,.inr ⟨b,C,rfl,rfl,h6,h7,h8⟩⟩ rfl rfl h7 (off:=k * w) (vs:=news.flatten) ?_ (λu hu=>?_) q3 (by rw[hln];omega) ?_⟩
  ·have hmin:Nat.min sl dl=m:=hdl;have ho2:off.toNat=k * w:=by rw[hoff];exact Int.toNat_natCast _
   generalize W.setRow b (C.toList.take (k * w)++news.flatten++C.toList.drop (k * w+news.flatten.length)).toArray=W1 at hst;simp[EK.sem,builtin,Builtin.copy_,vsl,ab,run_underlying ht,Builtin.lenOf,hG hti hs,hmin,hfc,ho2,kw,hst,goInt,vi]
  ·simp only[List.length_append,List.length_take,List.length_drop,<- q1,<- hr.len];omega
  ·simp only[List.mem_append] at hu
   rcases hu with (hu | hu) | hu
   ·exact q2 u (List.mem_of_mem_take hu)
   ·exact⟨hr.wid u hu,h1 u hu⟩
   ·exact q2 u (List.mem_of_mem_drop hu)
  ·rw[sW (by rw[Array.length_toList,h7];exact hcap) (by rw[hln];omega),h8,List.flatten_append,List.flatten_append,oe k hwid,nM (k+m) hwid,hln,Nat.add_mul]
theorem ur{t:Nat}{ti:TypeInfo}(ht:P.underlying t=some (.slice e))(hti:P.info? e=some ti)(hs:ti.size=w)(hw:0<w)(hH:H.le (ak W))(ho:Ow H e w p n c rows g){p2:OL}{m sl c2 dl dc k:Nat}{news:List (List Value)}(hr:Rows H p2 m w news)
  (h1:∀r∈news,∀v∈r,v.oneCell'=true) (hm:0<m) (hdl:Nat.min sl dl=m) (hkn:k<=n) (hn:n<=k+m) (hk:k+m<=c) {off:Int} (hoff:off=((k * w:Nat):Int)) (ty:Nat) :
  ∃W' H',(EK.sem (.bi .copy #[t,t] ty) [.slice (ab p off) dl dc,vsl p2 sl c2]).run P W=.ok (.value (vi m)) W'/\Upd g W W' H H'/\Ow H' e w p (k+m) c (rows.take k++news) g:=by
 obtain⟨q1,q2,q3,q4,q5⟩:=ho;have hwid:∀r∈rows,r.length=w:=λr hr=>(q2 r hr).1
 have hln:news.flatten.length=m * w:=by rw[fd hr.wid,<- hr.len]
 have hflat:∀u∈news.flatten,u.oneCell'=true:=kM (w:=w) (λr h=>⟨hr.wid r h,h1 r h⟩)
 obtain⟨r0,hr0,_,hat⟩:=hr.at (k:=0) (by omega) (off:=0) (by simp)
 obtain⟨b2,o2,rfl,_⟩:=hat
 have hnews:=hr.cells hH hw;have hkm:(k+m) * w<=c * w:=Nat.mul_le_mul_right _ hk
 have hkw:k * w<=n * w:=Nat.mul_le_mul_right _ hkn;have hcap:n * w<=c * w:=Nat.mul_le_mul_right _ q3
 rw[Nat.add_mul] at hkm
 rcases q5 with⟨rfl,_⟩ | ⟨b,C,rfl,rfl,h6,h7,h8⟩
 ·omega
 ·have hst:=run_storeCells_at P b (k * w) e news.flatten 0 C W (hH b _ h6) (by rw[h7,hln];omega) hflat
  have hfc:=run_firstCells_some (P:=P) W w m ⟨b2,o2,none⟩ sl c2 news.flatten hln hnews;simp only[Nat.add_zero] at hst;refine⟨W.setRow b (C.toList.take (k * w)++news.flatten++C.toList.drop (k * w+news.flatten.length)).toArray,_,?_,Upd.setRow hH h6,Ow.write ⟨q1,q2,q3,q4,.inr ⟨b,C,rfl,rfl,h6,h7,h8⟩⟩ rfl rfl h7 (off:=k * w) (vs:=news.flatten) ?_ (λu hu=>?_) hk (by rw[hln];omega) ?_⟩
  ·have hmin:Nat.min sl dl=m:=hdl;have ho2:off.toNat=k * w:=by rw[hoff];exact Int.toNat_natCast _
   generalize W.setRow b (C.toList.take (k * w)++news.flatten++C.toList.drop (k * w+news.flatten.length)).toArray=W1 at hst;simp[EK.sem,builtin,Builtin.copy_,vsl,ab,run_underlying ht,Builtin.lenOf,hG hti hs,hmin,hfc,ho2,kw,hst,goInt,vi]
  ·simp only[List.length_append,List.length_take,<- q1,<- hr.len];omega
  ·simp only[List.mem_append] at hu
   rcases hu with hu | hu
   ·exact q2 u (List.mem_of_mem_take hu)
   ·exact⟨hr.wid u hu,h1 u hu⟩
  ·have hl2:(C.toList.take (k * w)++news.flatten).length=(k+m) * w:=by rw[List.length_append,List.length_take,Array.length_toList,h7,hln,Nat.add_mul];omega
   rw[<- hl2,List.take_left,List.flatten_append,oe k hwid,<- h8,List.take_take,Nat.min_eq_left hkw]
theorem pJ{t:Nat}{ti:TypeInfo}{z:Value}(ht:P.underlying t=some (.slice e))(hti:P.info? e=some ti)(hz:ti.zero=some z)(hzs:z.cells.size=w)(hz1:∀u∈z.cells.toList,u.oneCell'=true)(hH:H.le (ak W))(ho:Ow H e w p n c rows g){m dc:Nat}(hk:n+m<=c)
  {off:Int} (hoff:0<m->off=((n * w:Nat):Int)) (ty:Nat) :
  ∃W' H',(EK.sem (.bi .clear #[t] ty) [.slice (ab p off) m dc]).run P W=.ok (.value (.tuple #[])) W'/\Upd g W W' H H'/\Ow H' e w p n c rows g:=by
 rcases Nat.eq_zero_or_pos m with rfl | hlt
 ·refine⟨W,H,?_,Upd.refl g hH,ho⟩
  cases p<;>simp[EK.sem,builtin,Builtin.clear_,ab,run_underlying ht]
 ·have ho':=ho;obtain⟨q1,q2,q3,q4,q5⟩:=ho
  rcases q5 with⟨rfl,_⟩ | ⟨b,C,rfl,rfl,h6,h7,h8⟩
  ·omega
  ·have hzl:(Builtin.zeroCells z.cells m).toList.length=m * w:=by rw[Array.length_toList,size_zeroCells,hzs]
   have hz2:∀u∈(Builtin.zeroCells z.cells m).toList,u.oneCell'=true:=λu hu=>by
    simp only[Builtin.zeroCells,Array.toList_map,List.mem_map] at hu;obtain⟨i,hi,rfl⟩:=hu;rw[hzs] at hi;have hiw:i<m * w:=by simpa using hi
    have hw0:0<w:=by
     rcases Nat.eq_zero_or_pos w with h | h
     ·rw[h,Nat.mul_zero] at hiw;omega
     ·exact h
    have:i % z.cells.size<z.cells.size:=Nat.mod_lt _ (by omega);refine hz1 _ ?_;rw[getElem!_pos z.cells _ this];exact Array.mem_toList_iff.2 (Array.getElem_mem this)
   have hkm:(n+m) * w<=c * w:=Nat.mul_le_mul_right _ hk;rw[Nat.add_mul] at hkm;have hst:=run_storeCells_at P b (n * w) e (Builtin.zeroCells z.cells m).toList 0 C W (hH b _ h6) (by rw[h7,hzl];omega) hz2
   refine⟨_,_,?_,Upd.setRow hH h6,Ow.write ho' rfl rfl h7 (off:=n * w) (vs:=(Builtin.zeroCells z.cells m).toList) q1 q2 q3 (by rw[hzl];omega) ?_⟩
   ·obtain⟨q,hq⟩:∃q,m=q+1:=⟨m-1,by omega⟩
    rw[hoff hlt];rw[hq] at hst |-;simp only[EK.sem,builtin,Builtin.clear_,ab,Option.map_some,Int.toNat_natCast,nx,Nat.zero_add]
    simp[run_underlying ht,zeroValue,typeInfo,hti,hz];rw[hst];simp
   ·have hkl:(C.toList.take (n * w)).length=n * w:=by rw[List.length_take,Array.length_toList,h7];omega
    rw[List.append_assoc,List.take_append_of_le_length (by omega),List.take_take,Nat.min_self,<- h8]
end
def aX(W:World)(H:Hp):Hp:=λb=>if W.heap.size<=b then H b else none
def aN(W:World)(g:Option Nat)(H:Hp):Hp:=λb=>if W.heap.size<=b/\g≠some b then H b else none
section
variable{W W1 W':World}{H H' K D:Hp}{g:Option Nat}
theorem fW(W:World)(H:Hp):(aX W H).le H:=λb o h=>by
 unfold aX at h
 split at h
 ·exact h
 ·cases h
theorem dw(W:World)(H:Hp):∀b o,aX W H b=some o->W.heap.size<=b:=λb o h=>by
 unfold aX at h
 split at h
 ·assumption
 ·cases h
theorem gG{b:Nat}(h:W.heap.size<=b):aX W H b=H b:=by unfold aX;rw[if_pos h]
theorem m7(W:World)(g:Option Nat)(H:Hp):(aN W g H).le H:=λb o h=>by
 unfold aN at h
 split at h
 ·exact h
 ·cases h
theorem me(W:World)(g:Option Nat)(H:Hp):(aN W g H).le (aX W H):=λb o h=>by
 unfold aN at h
 split at h
 ·rename_i hh;rw[gG hh.1];exact h
 ·cases h
theorem vo(W:World)(H:Hp):∀b,g=some b->aN W g H b=none:=λb h=>by
 unfold aN;rw[if_neg (λhh=>hh.2 h)]
theorem iO(W:World)(g:Option Nat)(h:H.le K):(aN W g H).le (aN W g K):=λb o hb=>by
 unfold aN at hb |-
 split at hb
 ·rename_i hh;rw[if_pos hh];exact h b o hb
 ·cases hb
theorem jM(W:World)(hu:Upd g W1 W' H H')(hH:H.le (ak W1)):(aN W g H).le (aN W g H'):=λb o hb=>by
 unfold aN at hb |-
 split at hb
 ·rename_i hh;rw[if_pos hh,hu.same b (ag (hH b o hb)) hh.2];exact hb
 ·cases hb
theorem rH(hD:D.le H)(hf:∀b o,D b=some o->W.heap.size<=b)(hg:∀b,g=some b->D b=none):D.le (aN W g H):=λb o hb=>by
 unfold aN;rw[if_pos ⟨hf b o hb,λh=>by rw[hg b h] at hb;cases hb⟩];exact hD b o hb
theorem ai(hD:D.le H)(hf:∀b o,D b=some o->W.heap.size<=b):D.le (aX W H):=λb o hb=>by rw[gG (hf b o hb)];exact hD b o hb
theorem ao(hH:H.le (ak W)){b:Nat}(hb:W.heap.size<=b):H b=none:=by
 cases hh:H b with
 | none=>rfl
 | some o=>have:=ag (hH b o hh);omega
end
theorem Rt.gfn{W0:World}{H:Hp}{kn:World->Prop}{v:Value}{post:Value->Hp->Prop}(hp:post v (aX W0 H)) :
  Rt (λz W'=>∃v D,z=.returned v/\Ext W0 W'/\D.le (ak W')/\(∀b o,D b=some o->W0.heap.size<=b)/\post v D) W0 noM H kn v:=Rt.gf (fW W0 H) (dw W0 H) hp
theorem Ow.new{W:World}{H:Hp}{e w n c:Nat}{p:OL}{rows:List (List Value)}{g:Option Nat}(h:Ow H e w p n c rows g)(hg:∀b,g=some b->W.heap.size<=b):Ow (aX W H) e w p n c rows g :=
 h.mono λb hb o ho=>by rw[gG (hg b hb)];exact ho
theorem Ow.lt{W:World}{H:Hp}{e w n c:Nat}{p:OL}{rows:List (List Value)}{g:Option Nat}(h:Ow H e w p n c rows g)(hH:H.le (ak W)):∀b,g=some b->b<W.heap.size:=λb hb=>by
 rcases h.2.2.2.2 with⟨_,h6⟩ | ⟨b',C,_,h6,h7,_⟩
 ·rw[h6] at hb;cases hb
 ·rw[h6] at hb;simp only[Option.some.injEq] at hb;subst hb;exact ag (hH _ _ h7)
theorem Ow.held{H:Hp}{e w n c:Nat}{p:OL}{rows:List (List Value)}{g:Option Nat}(h:Ow H e w p n c rows g):∀b,g=some b->∃o,H b=some o:=λb hb=>by
 rcases h.2.2.2.2 with⟨_,h6⟩ | ⟨b',C,_,h6,h7,_⟩
 ·rw[h6] at hb;cases hb
 ·rw[h6] at hb;simp only[Option.some.injEq] at hb;subst hb;exact⟨_,h7⟩
def fc(P:Program)(t size bytes:Nat):Bool:=match P.info? t with
 | some i=>match i.zero with
  | some z=>decide (i.size=size)&&decide (i.bytes=bytes)&&decide (z.cells.size=size)&&z.cells.toList.all Value.oneCell'
  | none=>false
 | none=>false
theorem aR{P:Program}{t size bytes:Nat}(h:fc P t size bytes=true):∃i z,P.info? t=some i/\i.zero=some z/\i.size=size/\i.bytes=bytes/\z.cells.size=size/\∀u∈z.cells.toList,u.oneCell'=true:=by
 unfold fc at h
 split at h
 ·rename_i i hi
  split at h
  ·rename_i z hz;simp only[Bool.and_eq_true,decide_eq_true_eq,List.all_eq_true] at h;exact⟨i,z,hi,hz,h.1.1.1,h.1.1.2,h.1.2,h.2⟩
  ·cases h
 ·cases h
theorem ig{P:Program}{t e w bytes:Nat}(ht:P.underlying t=some (.slice e))(hi:fc P e w bytes=true)(hw:0<w){W W0:World}{H:Hp}(hn:Now W0 noM H W)(p0:OL){p:OL}{n c:Nat}{rows:List (List Value)}(hr:Rows H p n w rows)
  (h1:∀r∈rows,∀v∈r,v.oneCell'=true) (hb:n * bytes<=140737488355328) (h63:n<=maxLen) (ty:Nat) :
  ∃p' c' g W' H',(EK.sem (.bi .append #[t,t] ty) [vsl p0 0 0,vsl p n c]).run P W=.ok (.value (vsl p' n c')) W'/\gH W0 noM H W H' W'/\Ow H' e w p' n c' rows g/\(∀b,g=some b->W.heap.size<=b)/\H.le H':=by
 obtain⟨i,z,i1,i2,i3,i4,i5,_⟩:=aR hi;obtain⟨p',c',g,W',H',h2,h3,h4,h5,_⟩:=bU ht i1 i2 i3 i4 i5 hw hn.sub (Ow.nil H e w p0) hr h1 (by omega) (by rw[Nat.zero_add];exact hb) ty (c2:=c);rw[Nat.zero_add] at h2 h4;refine⟨p',c',g,W',H',h2,h3.turned (λb hb=>by cases hb),h4,λb hb=>?_,h3.keep hn.sub (Hp.le_refl H) (λb hb=>by cases hb)⟩
 rcases h5 with h5 | h5
 ·rw[h5] at hb;cases hb
 ·rw[h5] at hb;simp only[Option.some.injEq] at hb;omega
theorem bT(p:OL):sh p=p:=by cases p<;>simp[sh,Loc.shift]
def Gt(P:Program)(f:Nat)(args:Array Value)(H:Hp)(g:Option Nat)(post:Value->Hp->Option Nat->Prop):Prop:=∀W,H.le (ak W)->Calls P f args W λz W'=>∃v H' g',z=.returned v/\Upd g W W' H H'/\(g'=g\/∀b,g'=some b->W.heap.size<=b)/\post v H' g'
theorem Cl.turn{P:Program}{W0:World}{M:Nat->Prop}{H:Hp}{kn:World->Prop}{f:Nat}{args:Array Value}{Φ:Ending->World->World->Prop}{g:Option Nat}{post:Value->Hp->Option Nat->Prop}(hc:Gt P f args H g post)
  (hk:∀v W W' H' g',post v H' g'->Upd g W W' H H'->(g'=g\/∀b,g'=some b->W.heap.size<=b)->Now W0 M H W->Φ (.returned v) W W'):Cl P W0 M H kn f args Φ:=λW n _=>(hc W n.sub).mono λz W' ⟨v,H',g',hz,h1,h2,h3⟩=>by subst hz;exact hk v W W' H' g' h3 h1 h2 n
def merge(W:World)(g:Option Nat)(H K:Hp):Hp:=λb=>if b<W.heap.size/\g≠some b then H b else K b
theorem Upd.of_now{W0 W:World}{g:Option Nat}{H K:Hp}(hH:H.le (ak W0))(hg:∀b,g=some b->∃o,H b=some o)(n:Now W0 (λb=>g=some b) K W):Upd g W0 W H (merge W0 g H K):=by
 refine⟨n.mod.os,n.mod.tape,n.mod.output,n.mod.size,λb hb hg=>n.mod.blk b hb hg,λb o hb=>?_,λb hb hg=>?_,λb o hb=>?_⟩
 ·unfold merge at hb
  split at hb
  ·rename_i h;have:=hH b o hb
   simp only[ak] at this |-;rw[n.mod.blk b h.1 h.2,this]
  ·exact n.sub b o hb
 ·unfold merge;rw[if_pos ⟨hb,hg⟩]
 ·unfold merge at hb
  split at hb
  ·exact .inl ⟨o,hb⟩
  ·rename_i h
   rcases Nat.lt_or_ge b W0.heap.size with h1 | h1
   ·have h2:g=some b:=Classical.byContradiction λh3=>h ⟨h1,h3⟩;exact .inl (hg b h2)
   ·exact .inr h1
theorem Rt.gt{W0:World}{g:Option Nat}{H K:Hp}{kn:World->Prop}{v:Value}{post:Value->Hp->Option Nat->Prop}(hH:H.le (ak W0))(hg:∀b,g=some b->∃o,H b=some o)(g':Option Nat)(hg':g'=g\/∀b,g'=some b->W0.heap.size<=b)(hp:post v (merge W0 g H K) g') :
  Rt (λz W'=>∃v H' g',z=.returned v/\Upd g W0 W' H H'/\(g'=g\/∀b,g'=some b->W0.heap.size<=b)/\post v H' g') W0 (λb=>g=some b) K kn v:=λ_ n _=>⟨v,_,g',rfl,Upd.of_now hH hg n,hg',hp⟩
theorem Ow.merge{W0:World}{g g':Option Nat}{H K:Hp}{e w n c:Nat}{p:OL}{rows:List (List Value)}(h:Ow K e w p n c rows g')(hg':g'=g\/∀b,g'=some b->W0.heap.size<=b):Ow (merge W0 g H K) e w p n c rows g' :=
 h.mono λb hb o ho=>by
  unfold Go.Proofs.YtfpmcmhihhnfgaaGreatDoor.merge;rw[if_neg (λhh=>?_)]
  ·exact ho
  ·rcases hg' with h1 | h1
   ·exact hh.2 (h1▸hb)
   ·have:=h1 b hb;omega
theorem Upd.own{W0 W W':World}{g:Option Nat}{H H':Hp}{M:Nat->Prop}(h:Upd g W W' H H'){e w n c:Nat}{p:OL}{rows:List (List Value)}(ho:Ow H e w p n c rows g)(hg:∀b,g=some b->W0.heap.size<=b\/M b):gH W0 M H W H' W' :=
 h.turned λb hb=>⟨ho.held b hb,hg b hb⟩
theorem aD{P:Program}{t e w bytes:Nat}(ht:P.underlying t=some (.slice e))(hi:fc P e w bytes=true)(hw:0<w){W:World}{H:Hp}(hH:H.le (ak W)){p:OL}{n c:Nat}{rows:List (List Value)}{g:Option Nat}(ho:Ow H e w p n c rows g)
  {b:Nat} {row:List Value} (hk:W.heap[b]?=some (.cells row.toArray e (0,0))) (hn:H b=none) (hl:row.length=w) (h1:∀v∈row,v.oneCell'=true) (h63:n+1<=maxLen) (hb:(n+1) * bytes<=140737488355328) (ty:Nat) :
  ∃p' c' g' W' H',(EK.sem (.bi .append #[t,t] ty) [vsl p n c,.slice (some ⟨b,0,none⟩) 1 1]).run P W=.ok (.value (vsl p' (n+1) c')) W'/\Upd g W W' H H'/\Ow H' e w p' (n+1) c' (rows ++ [row]) g'/\(g'=g\/g'=some W.heap.size)/\(n+1<=c->p'=p/\c'=c/\g'=g):=by
 obtain⟨i,z,i1,i2,i3,i4,i5,_⟩:=aR hi;have hne:∀k,g=some k->k≠b:=λk hk2 he=>by
  obtain⟨o,h⟩:=ho.held k hk2;rw[he,hn] at h;cases h
 have hbl:=ag hk;have hle:=gF hH hk
 have ho2:Ow (bh H b (.cells row.toArray e (0,0))) e w p n c rows g:=ho.mono λk _ o h=>gM hn k o h;have hr:Rows (bh H b (.cells row.toArray e (0,0))) (some (b,0)) 1 w [row]:=Rows.block (cm ..) rfl (λr hr=>by simp only[List.mem_singleton] at hr;subst hr;exact hl) (by simp[<- hl])
 obtain⟨p',c',g',W',H',h2,h3,h4,h5,h6⟩:=bU ht i1 i2 i3 i4 i5 hw hle ho2 hr (λr hr=>by simp only[List.mem_singleton] at hr;subst hr;exact h1) h63 hb ty (c2:=1);have hg':∀k,g'=some k->k≠b:=λk hk2=>by
  rcases h5 with h5 | h5
  ·exact hne k (h5▸hk2)
  ·rw[h5] at hk2;simp only[Option.some.injEq] at hk2;omega
 refine⟨p',c',g',W',λk=>if k=b then none else H' k,h2,⟨h3.os,h3.tape,h3.output,h3.size,h3.blk,λk o hk2=>?_,λk hk2 hg=>?_,λk o hk2=>?_⟩,h4.mono λk hk2 o ho=>?_,h5,h6⟩
 ·split at hk2
  ·cases hk2
  ·exact h3.sub k o hk2
 ·split
  ·rename_i he;rw[he,hn]
  ·rename_i he;rw[h3.same k hk2 hg];unfold bh;rw[if_neg he]
 ·split at hk2
  ·cases hk2
  ·rename_i he
   rcases h3.dom k o hk2 with⟨o',h⟩ | h
   ·unfold bh at h;rw[if_neg he] at h;exact .inl ⟨o',h⟩
   ·exact .inr h
 ·rw[if_neg (hg' k hk2)];exact ho
theorem yt{P:Program}{t e w:Nat}(ht:P.underlying t=some (.slice e)){ti:TypeInfo}(hi:P.info? e=some ti)(hs:ti.size=w)(p:OL)(n c lo hi' mx:Nat)(h1:lo<=hi')(h2:hi'<=mx)(h3:mx<=c)(W:World) :
  ∃p',(EK.sem (.slice t true true true) [vsl p n c,vi lo,vi hi',vi mx]).run P W=.ok (.value (vsl p' (hi'-lo) (mx-lo))) W:=by
 refine⟨if mx=lo then p else fR p (lo * w),?_⟩;have hb:(Instr.sliceBounds true n c (some (vi lo)) (some (vi hi')) (some (vi mx))).run P W=.ok (lo,hi',mx) W:=by
  simp only[Instr.sliceBounds,vi,Sem.run_bind,Sem.run_pure]
  rw[j8 _ _ _ _ _ (by omega) (by omega)];simp only[Result.andThen_ok,Int.toNat_natCast]
  rw[j8 _ _ _ _ _ (by omega) (by omega)];simp only[Result.andThen_ok,Int.toNat_natCast]
  rw[j8 _ _ _ _ _ (by omega) (by omega)];simp only[Result.andThen_ok,Int.toNat_natCast]
 simp only[EK.sem,List.getD_cons_zero,List.drop_succ_cons,List.drop_zero,if_true,List.getElem?_cons_zero]
 simp only[Instr.sliceAt,Instr.slice,vsl,Sem.run_bind,run_underlying ht,Result.andThen_ok,hb,hG hi hs,Sem.run_pure]
 by_cases hm:mx=lo
 ·simp[hm]
 ·simp only[hm,if_false]
  cases p<;>simp[ab,fR]
theorem AA{P:Program}{t e:Nat}(ht:P.underlying t=some (.slice e))(ty:Nat)(p:OL)(n c:Nat)(W:World):(EK.sem (.bi .cap #[t] ty) [vsl p n c]).run P W=.ok (.value (vi c)) W:=by
 simp[EK.sem,builtin,Builtin.cap_,vsl,run_underlying ht,goInt,vi]
def bK(p:OL)(c lo w:Nat):OL:=if c=lo then p else fR p (lo * w)
theorem bf(p:OL)(c lo n w:Nat):Value.slice (ab p (0+(if (c:Int)=(lo:Int) then 0 else (lo:Int) * ((w:Nat):Int)))) (((n:Int)-(lo:Int)):Int).toNat (((c:Int)-(lo:Int)):Int).toNat=vsl (bK p c lo w) (n-lo) (c-lo):=by
 have e1:(((n:Int)-(lo:Int)):Int).toNat=n-lo:=by omega
 have e2:(((c:Int)-(lo:Int)):Int).toNat=c-lo:=by omega
 rw[e1,e2];unfold bK
 by_cases h:c=lo
 ·rw[if_pos h,if_pos (by omega),Int.add_zero]
 ·rw[if_neg h,if_neg (by omega),bD,Int.zero_add,<- Int.natCast_mul,Int.toNat_natCast]
theorem Rows.tail{H:Hp}{p:OL}{n w:Nat}{rows:List (List Value)}(h:Rows H p n w rows){lo c:Nat}(hl:lo<=n)(hc:n<=c):Rows H (bK p c lo w) (n-lo) w (rows.drop lo):=by
 unfold bK;have hlen:=h.len
 by_cases hcl:c=lo
 ·have:n-lo=0:=by omega
  rw[this,List.drop_of_length_le (by omega)];exact Rows.nil _ _ _
 ·rw[if_neg hcl];have:=h.part lo n hl (Nat.le_refl n)
  rw[List.take_of_length_le (by simp;omega)] at this;exact this
theorem sI{P:Program}{t tn e w bytes:Nat}{kq kn:IntKind}(ht:P.underlying t=some (.slice e))(htn:P.underlying tn=some (.int kn))(hi:fc P e w bytes=true)(hw:0<w){W:World}{H:Hp}(hH:H.le (ak W)){p:OL}{n c:Nat}{rows:List (List Value)}{g:Option Nat}(ho:Ow H e w p n c rows g)
  {k:Nat} (hk:0<k) (hc:c<n+k) (h63:n+k<=maxLen) (hb:(n+k) * bytes<=140737488355328) (ty:Nat) :
  ∃c' zr W' H',(EK.sem (.bi .append #[t,tn] ty) [vsl p n c,.int kq k]).run P W=.ok (.value (vsl (some (W.heap.size,0)) (n+k) c')) W'/\Upd g W W' H H'/\H.le H'/\Ow H' e w (some (W.heap.size,0)) (n+k) c' (rows++List.replicate k zr) (some W.heap.size):=by
 obtain⟨i,z,i1,i2,i3,i4,i5,i6⟩:=aR hi;have hwid:∀r∈rows,r.length=w:=λr hr=>(ho.2.1 r hr).1
 have hlr:rows.flatten.length=n * w:=by rw[fd hwid,<- ho.1]
 have hold:(Builtin.firstCells i.size n (vsl p n c)).run P W.drew=.ok rows.flatten.toArray W.drew:=by
  cases p with
  | none =>
   obtain⟨q1,q2,q3,q4,q5⟩:=ho
   rcases q5 with⟨rfl,_⟩ | ⟨b,C,h,_⟩
   ·have:rows = []:=List.length_eq_zero_iff.1 (by omega);subst this;simp[vsl,ab,Builtin.firstCells]
   ·cases h
  | some a =>
   exact run_firstCells_some (P:=P) W.drew i.size n a.addr n c rows.flatten (by rw[hlr,i3]) (λj v hj=>ho.rows.cells hH hw j v hj)
 have hsmall:n+k<=9223372036854775807:=by simp only[maxLen] at h63;omega
 have hkb:k * i.bytes<=(n+k) * bytes:=by rw[i4,Nat.add_mul];omega
 have hrun:=Lib.run_append_grow_zeros (P:=P) W t tn ty e i z kq kn ht htn i1 i2 (ab p 0) n c rows.flatten hold k hk (by omega) hc (by omega) (by omega) (growslice_fits hc (by rw[i4];exact hb));have hge:=grownCap_ge W (n+k) c e
 have hcm:grownCap W (n+k) c e<=maxLen:=grownCap_le_maxLen W (n+k) c e h63;have hzr:(Builtin.zeroCells z.cells k).toList=(List.replicate k z.cells.toList).flatten:=by
  have hz0:0<z.cells.size:=by omega
  apply List.ext_getElem?;intro j;simp only[Builtin.zeroCells,Array.toList_map,Array.toList_range,List.getElem?_map]
  rcases Nat.lt_or_ge j (k * z.cells.size) with hj | hj
  ·rw[List.getElem?_range hj];have hm:j % z.cells.size<z.cells.size:=Nat.mod_lt _ hz0
   have hfl:∀(m:Nat) (l:List Value),0<l.length->∀j,j<m * l.length->(List.replicate m l).flatten[j]?=l[j % l.length]?:=by
    intro m l hl
    induction m with
    | zero=>intro j hj;omega
    | succ m ih =>
     intro j hj;rw[List.replicate_succ,List.flatten_cons]
     rcases Nat.lt_or_ge j l.length with h | h
     ·rw[List.getElem?_append_left h,Nat.mod_eq_of_lt h]
     ·rw[List.getElem?_append_right h,ih (j-l.length) (by rw[Nat.succ_mul] at hj;omega),Nat.mod_eq_sub_mod h]
   rw[hfl k z.cells.toList (by simpa using hz0) j (by simpa using hj)];simp only[Option.map_some,Array.length_toList]
   rw[getElem!_pos z.cells _ hm,Array.getElem?_toList,Array.getElem?_eq_getElem hm]
  ·rw[List.getElem?_eq_none (by simpa using hj),List.getElem?_eq_none (by simp;exact hj)];rfl
 generalize hC:rows.flatten.toArray++Builtin.zeroCells z.cells k++Builtin.zeroCells z.cells (grownCap W (n+k) c e-(n+k))=C at hrun;refine⟨grownCap W (n+k) c e,z.cells.toList,W.drew.alloc (.cells C e),bh H W.heap.size (.cells C e),?_,Upd.made hH _,?_,Ow.made (by simp[ho.1]) (λr hr=>?_) hge hcm ?_ ?_ _⟩
 ·simp only[EK.sem,builtin]
  simp[vsl,hrun];rfl
 ·refine gM ?_
  cases hh:H W.heap.size with
  | none=>rfl
  | some o=>have:=ag (hH _ o hh);omega
 ·rcases List.mem_append.1 hr with hr | hr
  ·exact ho.2.1 r hr
  ·rw[List.mem_replicate] at hr;rw[hr.2];exact⟨by simpa using i5,i6⟩
 ·rw[<- hC];simp only[Array.size_append,List.size_toArray,size_zeroCells,i5,hlr,<- Nat.add_mul]
  congr 1
  omega
 ·rw[<- hC];have hww:∀r∈rows++List.replicate k z.cells.toList,r.length=w:=λr hr=>by
   rcases List.mem_append.1 hr with hr | hr
   ·exact hwid r hr
   ·rw[List.mem_replicate] at hr;rw[hr.2];simpa using i5
  have hl2:(n+k) * w=(rows.flatten++(List.replicate k z.cells.toList).flatten).length:=by
   rw[<- List.flatten_append,fd hww];simp[ho.1]
  rw[List.flatten_append,hl2,Array.toList_append,Array.toList_append,hzr];exact List.take_left
def less(b:Nat)(H:Hp):Hp:=λk=>if k=b then none else H k
theorem oP{b:Nat}{H:Hp}{e w n c:Nat}{p:OL}{rows:List (List Value)}{g:Option Nat}(h:Ow H e w p n c rows g)(hg:g≠some b):Ow (less b H) e w p n c rows g :=
 h.mono λk hk o ho=>by unfold less;rw[if_neg (λhe=>hg (by rw[hk,he]))];exact ho
theorem Upd.less{g:Option Nat}{W W':World}{H H':Hp}{b:Nat}{o:Obj}(h3:Upd g W W' (bh H b o) H')(hn:H b=none)(hbl:b<W.heap.size):Upd g W W' H (less b H'):=by
 refine⟨h3.os,h3.tape,h3.output,h3.size,h3.blk,λk o hk2=>?_,λk hk2 hg=>?_,λk o hk2=>?_⟩
 ·unfold Go.Proofs.YtfpmcmhihhnfgaaGreatDoor.less at hk2
  split at hk2
  ·cases hk2
  ·exact h3.sub k o hk2
 ·unfold Go.Proofs.YtfpmcmhihhnfgaaGreatDoor.less
  split
  ·rename_i he;rw[he,hn]
  ·rename_i he;rw[h3.same k hk2 hg];unfold bh;rw[if_neg he]
 ·unfold Go.Proofs.YtfpmcmhihhnfgaaGreatDoor.less at hk2
  split at hk2
  ·cases hk2
  ·rename_i he
   rcases h3.dom k o hk2 with⟨o',h⟩ | h
   ·unfold bh at h;rw[if_neg he] at h;exact .inl ⟨o',h⟩
   ·exact .inr h
theorem Cl.turnK{P:Program}{W0:World}{M:Nat->Prop}{H:Hp}{kn:World->Prop}{f:Nat}{args:Array Value}{Φ:Ending->World->World->Prop}{g:Option Nat}{post:Value->Hp->Option Nat->Prop}{b:Nat}{o:Obj}(hb:∀W,kn W->Kn W0 M H W b o)(hc:H b=none->Gt P f args (bh H b o) g post)
  (hk:∀v W W' H' g',post v H' g'->Upd g W W' H (less b H')->(g'=g\/∀b,g'=some b->W.heap.size<=b)->Now W0 M H W->H b=none->b<W.heap.size->Φ (.returned v) W W'):Cl P W0 M H kn f args Φ:=λW n k=>by
 have h1:=hb W k;have hlt:=ag h1.eq
 refine (hc h1.off W (gF n.sub h1.eq)).mono λz W' ⟨v,H',g',hz,h2,h3,h4⟩=>?_;subst hz;exact hk v W W' H' g' h4 (h2.less h1.off hlt) h3 n h1.off hlt
section
open Classical
def Gb(P:Program)(f:Nat)(args:Array Value)(H:Hp)(Mb:Nat->Prop)(b0 b1:Nat)(C0:Array Value)(T0:Nat)(C1:Array Value)(T1:Nat)(post:Value->Array Value->Array Value->Hp->Prop):Prop :=
 ∀W,H.le (ak W)->W.heap[b0]?=some (.cells C0 T0 (0,0))->W.heap[b1]?=some (.cells C1 T1 (0,0))->b0≠b1->H b0=none->H b1=none->Calls P f args W λz W'=>∃v D0 D1 H',z=.returned v/\W'.heap[b0]?=some (.cells D0 T0 (0,0))/\W'.heap[b1]?=some (.cells D1 T1 (0,0)) /\
  Mod (λb=>b=b0\/b=b1\/Mb b) W W'/\H'.le (ak W')/\(∀b o,H' b=some o->(∃o',H b=some o')\/W.heap.size<=b)/\post v D0 D1 H'
theorem Cl.both{P:Program}{W0:World}{M:Nat->Prop}{H:Hp}{kn:World->Prop}{f:Nat}{args:Array Value}{Φ:Ending->World->World->Prop}{Mb:Nat->Prop}{b0 b1:Nat}{C0 C1:Array Value}{T0 T1:Nat}{post:Value->Array Value->Array Value->Hp->Prop}
  (hc:Gb P f args H Mb b0 b1 C0 T0 C1 T1 post) (hMb:∀b,Mb b->(∃o,H b=some o)/\(W0.heap.size<=b\/M b)) (hkn:∀W,kn W->Kn W0 M H W b0 (.cells C0 T0 (0,0))/\Kn W0 M H W b1 (.cells C1 T1 (0,0))) (hne:∀W,kn W->b0≠b1)
  (hk:∀v W W' D0 D1 H',post v D0 D1 H'->Now W0 M H W->(∀b o,H' b=some o->(∃o',H b=some o')\/W.heap.size<=b)->(∀K:Hp->Prop,K H'->Bt W0 M H [(b0,.cells D0 T0 (0,0)),(b1,.cells D1 T1 (0,0))] W W' K)->Φ (.returned v) W W'):Cl P W0 M H kn f args Φ:=λW n k=>by
 obtain⟨k0,k1⟩:=hkn W k;have hne:=hne W k
 refine (hc W n.sub k0.eq k1.eq hne k0.off k1.off).mono λz W' ⟨v,D0,D1,H',hz,e0,e1,hm,hs,hd,hp⟩=>?_;subst hz;refine hk v W W' D0 D1 H' hp n hd λK hK=>?_;have s0:=setRow_heap W b0 C0 D0 T0 _ k0.eq
 have o0:∀b,b≠b0->(W.setRow b0 D0).heap[b]?=W.heap[b]?:=λb hb=>setRow_other W b0 b _ hb;have k1':(W.setRow b0 D0).heap[b1]?=some (.cells C1 T1 (0,0)):=by rw[o0 b1 (λh=>hne h.symm)];exact k1.eq
 have s1:=setRow_heap (W.setRow b0 D0) b1 C1 D1 T1 _ k1';have o1:∀b,b≠b1->((W.setRow b0 D0).setRow b1 D1).heap[b]?=(W.setRow b0 D0).heap[b]?:=λb hb=>setRow_other _ b1 b _ hb
 have w0:((W.setRow b0 D0).setRow b1 D1).heap[b0]?=some (.cells D0 T0 (0,0)):=by rw[o1 b0 hne,s0]
 have ww:∀b,b≠b0->b≠b1->((W.setRow b0 D0).setRow b1 D1).heap[b]?=W.heap[b]?:=λb h0 h1=>by rw[o1 b h1,o0 b h0]
 have hsz:((W.setRow b0 D0).setRow b1 D1).heap.size=W.heap.size:=by simp
 refine⟨(W.setRow b0 D0).setRow b1 D1,H',⟨rfl,rfl,rfl,by rw[hsz];exact Nat.le_refl _,λb _ hb=>?_⟩,?_,⟨⟨hm.os,hm.tape,hm.output,by rw[hsz];exact hm.size,λb hb hnb=>?_⟩,hs,λb o hb=>?_⟩,hK⟩
 ·refine ww b (λh=>hb ⟨_,List.mem_cons_self ..,h.symm⟩) (λh=>hb ⟨_,List.mem_cons_of_mem _ (List.mem_cons_self ..),h.symm⟩)
 ·intro p hp;simp only[List.mem_cons,List.not_mem_nil,or_false] at hp
  rcases hp with rfl | rfl
  ·exact w0
  ·exact s1
 ·rw[hsz] at hb
  by_cases h0:b=b0
  ·rw[h0,w0,e0]
  ·by_cases h1:b=b1
   ·rw[h1,e1];exact s1.symm
   ·rw[ww b h0 h1];refine hm.blk b hb λh=>?_
    rcases h with h | h | h
    ·exact h0 h
    ·exact h1 h
    ·exact hnb (hMb b h)
 ·rw[hsz];exact hd b o hb
noncomputable def mergeM(W:World)(Mb:Nat->Prop)(H K:Hp):Hp:=λb=>if b<W.heap.size/\¬Mb b then H b else K b
theorem Ow.mergeM{W0:World}{Mb:Nat->Prop}{g:Option Nat}{H K:Hp}{e w n c:Nat}{p:OL}{rows:List (List Value)}(h:Ow K e w p n c rows g)(hg:∀b,g=some b->Mb b\/W0.heap.size<=b):Ow (mergeM W0 Mb H K) e w p n c rows g :=
 h.mono λb hb o ho=>by
  unfold Go.Proofs.YtfpmcmhihhnfgaaGreatDoor.mergeM;rw[if_neg (λhh=>?_)]
  ·exact ho
  ·rcases hg b hb with h1 | h1
   ·exact hh.2 h1
   ·omega
theorem Rt.gb{W0:World}{Mb:Nat->Prop}{b0 b1:Nat}{H K:Hp}{kn:World->Prop}{v:Value}{C0 C1:Array Value}{T0 T1:Nat}{post:Value->Array Value->Array Value->Hp->Prop}(hH:H.le (ak W0))(h0:H b0=none)(h1:H b1=none)(hMb:∀b,Mb b->∃o,H b=some o)
  (hkn:∀W,kn W->W.heap[b0]?=some (.cells C0 T0 (0,0))/\W.heap[b1]?=some (.cells C1 T1 (0,0))) (hp:post v C0 C1 (mergeM W0 Mb H K)) :
  Rt (λz W'=>∃v D0 D1 H',z=.returned v/\W'.heap[b0]?=some (.cells D0 T0 (0,0))/\W'.heap[b1]?=some (.cells D1 T1 (0,0)) /\
   Mod (λb=>b=b0\/b=b1\/Mb b) W0 W'/\H'.le (ak W')/\(∀b o,H' b=some o->(∃o',H b=some o')\/W0.heap.size<=b)/\post v D0 D1 H') W0 (λb=>b=b0\/b=b1\/Mb b) K kn v:=λW n k=>by
 obtain⟨k0,k1⟩:=hkn W k;refine⟨v,C0,C1,_,rfl,k0,k1,n.mod,λb o hb=>?_,λb o hb=>?_,hp⟩
 ·unfold mergeM at hb
  split at hb
  ·rename_i h;have h2:=hH b o hb
   simp only[ak] at h2 |-;rw[n.mod.blk b h.1 (λhh=>?_),h2]
   rcases hh with hh | hh | hh
   ·rw[hh,h0] at hb;cases hb
   ·rw[hh,h1] at hb;cases hb
   ·exact h.2 hh
  ·exact n.sub b o hb
 ·unfold mergeM at hb
  split at hb
  ·exact .inl ⟨o,hb⟩
  ·rename_i h
   rcases Nat.lt_or_ge b W0.heap.size with h2 | h2
   ·exact .inl (hMb b (Classical.byContradiction λh3=>h ⟨h2,h3⟩))
   ·exact .inr h2
end
section
open Classical
theorem aa.cells{H:Hp}{p:OL}{off:Int}{cs:List Value}(h:aa H p off cs):aa H.cells p off cs:=by
 obtain⟨b,o,h1,C,T,fz,h2,h3⟩:=h;exact⟨b,o,h1,C,T,fz,by unfold Hp.cells;rw[h2],h3⟩
theorem Rows.cells'{H:Hp}{p:OL}{n w:Nat}{rows:List (List Value)}(h:Rows H p n w rows):Rows H.cells p n w rows:=⟨h.len,h.wid,λi r hr=>(h.row i r hr).cells⟩
theorem Hp.cells_none{H:Hp}{b:Nat}(h:H b=none):H.cells b=none:=by unfold Hp.cells;rw[h]
theorem xa{H K:Hp}(h:H.le K){b:Nat}(hb:K b=none):H b=none:=by
 cases hh:H b with
 | none=>rfl
 | some o=>rw[h b o hh] at hb;cases hb
theorem qd{P:Program}{l:Nat}{args:Array Value}{W0 V:World}{M:Nat->Prop}{H HJ D B:Hp}{FT:Nat->Prop}{K:Hp->Prop}{J:Hp->(Nat->Prop)->Prop}(hn:Now W0 M H V)
  (hy:YieldAt (Fw none) 0 P l args V λz V'=>z=.returned (.bool true)/\∃HJ' FT',J HJ' FT'/\HJ'.le (ak V')/\Mod FT V V'/\(∀b,FT' b->(FT b\/V.heap.size<=b)/\D b=none)/\(∀b,FT' b->∃o,HJ' b=some o)/\(∀b o,HJ' b=some o->(∃q,HJ b=some q)\/(∃q,D b=some q)\/V.heap.size<=b))
  (hJ:HJ.le H) (hD:D.le H) (hB:B.le H) (hF:∀b,FT b->(∃o,HJ b=some o)/\(W0.heap.size<=b\/M b)/\B b=none)
  (hk:∀(V':World) (HJ':Hp) (FT':Nat->Prop) (K':Hp),J HJ' FT'->HJ'.le K'->B.le K'->(∀b,FT' b->(FT b\/V.heap.size<=b)/\D b=none/\∃o,HJ' b=some o)->(∀b,HJ b=none->D b=none->b<V.heap.size->HJ' b=none)->V.heap.size<=V'.heap.size->K K') :
  YieldAt (Fw none) 0 P l args V λz V'=>z=.returned (.bool true)/\∃H',gH W0 M H V H' V'/\K H':=by
 refine YieldAt.mono hy λz V' ⟨hz,HJ',FT',h1,h2,h3,h4,h5,h6⟩=>⟨hz,nl V' (λb=>(∃o,HJ' b=some o)\/∃o,B b=some o),⟨⟨h3.os,h3.tape,h3.output,h3.size,λb hb hnb=>h3.blk b hb λhf=>hnb ?_⟩,pR _ _,λb o hb=>?_⟩,hk V' HJ' FT' _ h1 (λb o hb=>?_) (λb o hb=>?_) (λb hb=>⟨(h4 b hb).1,(h4 b hb).2,h5 b hb⟩) (λb a1 a2 a3=>?_) h3.size⟩
 ·obtain⟨⟨o,ho⟩,hm,_⟩:=hF b hf;exact⟨⟨o,hJ b o ho⟩,hm⟩
 ·have hS:(∃o,HJ' b=some o)\/∃o,B b=some o:=Classical.byContradiction λhn=>by rw[od hn] at hb;cases hb
  rcases hS with⟨o,h⟩ | ⟨o,h⟩
  ·rcases h6 b o h with⟨q,h⟩ | ⟨q,h⟩ | h
   ·exact .inl ⟨q,hJ b q h⟩
   ·exact .inl ⟨q,hD b q h⟩
   ·exact .inr h
  ·exact .inl ⟨o,hB b o h⟩
 ·rw[co (.inl ⟨o,hb⟩)];exact h2 b o hb
 ·rw[co (.inr ⟨o,hb⟩)];have e1:=hn.sub b o (hB b o hb)
  simp only[ak] at e1;rw[h3.blk b (ag e1) (λhf=>by rw[(hF b hf).2.2] at hb;cases hb),e1]
 ·cases hh:HJ' b with
  | none=>rfl
  | some o =>
   rcases h6 b o hh with⟨q,h⟩ | ⟨q,h⟩ | h
   ·rw[a1] at h;cases h
   ·rw[a2] at h;cases h
   ·omega
end
def xm(ps:List PanicEntry):Prop:=∃t u,ps = [{ v:=.iface t u,recovered:=false }]
def Gg(P:Program)(f:Nat)(args:Array Value)(H:Hp)(b0 T:Nat)(C:Array Value)(post:Value->Array Value->Hp->Prop)(pan:Prop):Prop :=
 ∀W,H.le (ak W)->W.heap[b0]?=some (.cells C T (0,0))->H b0=none->Calls P f args W λz W'=>Mod (λb=>b=b0) W W' /\
  ((∃v C' D,z=.returned v/\W'.heap[b0]?=some (.cells C' T (0,0))/\D.le (ak W')/\(∀b o,D b=some o->W.heap.size<=b)/\post v C' D)\/(pan/\∃ps,z=.panicked ps/\xm ps))
structure Beh(b0 T:Nat)(C':Array Value)(D:Hp)(W W':World):Prop where
 mod:Mod (λb=>b=b0) W W'
 at0:W'.heap[b0]?=some (.cells C' T (0,0))
 new:D.le (ak W')
 fresh:∀b o,D b=some o->W.heap.size<=b
section
variable{P:Program}{W0 W W':World}{M:Nat->Prop}{H:Hp}{kn:World->Prop}{f:Nat}{args:Array Value}{Φ:Ending->World->World->Prop}{Ψ:List PanicEntry->World->Prop}{b0 T:Nat}{C C':Array Value}{D:Hp}{post:Value->Array Value->Hp->Prop}{pan:Prop}
theorem Beh.md(h:Beh b0 T C' D W W'){K:Prop}(hK:K):Md [(b0,.cells C' T (0,0))] W W' K:=by
 refine⟨⟨h.mod.os,h.mod.tape,h.mod.output,h.mod.size,λb hb hn=>h.mod.blk b hb λhe=>hn ⟨_,List.mem_singleton_self _,he.symm⟩⟩,λp hp=>?_,hK⟩;simp only[List.mem_singleton] at hp;subst hp;exact h.at0
theorem Beh.bt(h:Beh b0 T C' D W W')(n:Now W0 M H W)(hC:W.heap[b0]?=some (.cells C T (0,0)))(hn:H b0=none){K:Hp->Prop}(hK:∀H':Hp,H.le H'->D.le H'->K H'):Bt W0 M H [(b0,.cells C' T (0,0))] W W' K:=by
 have s0:=setRow_heap W b0 C C' T _ hC;have o0:∀b,b≠b0->(W.setRow b0 C').heap[b]?=W.heap[b]?:=λb hb=>setRow_other W b0 b _ hb
 have hsep:∀b o,D b=some o->H b=none:=λb o hb=>by
  cases hh:H b with
  | none=>rfl
  | some q=>have:=ag (n.sub b q hh);have:=h.fresh b o hb;omega
 refine⟨W.setRow b0 C',λb=>(H b).orElse λ_=>D b,⟨rfl,rfl,rfl,by simp,λb _ hb=>o0 b λhe=>hb ⟨_,List.mem_singleton_self _,he.symm⟩⟩,λp hp=>?_,⟨⟨h.mod.os,h.mod.tape,h.mod.output,by simpa using h.mod.size,λb hb _=>?_⟩,λb o hb=>?_,λb o hb=>?_⟩,hK _ (λb o hb=>by simp[hb]) (λb o hb=>by simp[hsep b o hb,hb])⟩
 ·simp only[List.mem_singleton] at hp;subst hp;exact s0
 ·simp only[size_setRow] at hb
  by_cases he:b=b0
  ·rw[he,h.at0];exact s0.symm
  ·rw[o0 b he,h.mod.blk b hb he]
 ·cases hh:H b with
  | none=>simp only[hh,Option.orElse_none] at hb;exact h.new b o hb
  | some q =>
   simp only[hh,Option.orElse_some] at hb;rw[<- hb];have h1:=n.sub b q hh
   simp only[ak] at h1 |-;rw[h.mod.blk b (ag h1) (λhe=>by rw[he,hn] at hh;cases hh),h1]
 ·cases hh:H b with
  | none =>
   simp only[hh,Option.orElse_none] at hb;exact .inr (by simpa using h.fresh b o hb)
  | some q=>exact .inl ⟨q,rfl⟩
theorem Clp.gg(hc:Gg P f args H b0 T C post pan)(hkn:∀W,kn W->Kn W0 M H W b0 (.cells C T (0,0)))(hk:∀v W W' C' D,post v C' D->Beh b0 T C' D W W'->Now W0 M H W->W.heap[b0]?=some (.cells C T (0,0))->H b0=none->Φ (.returned v) W W')
  (hp:∀ps W W',pan->xm ps->Mod (λb=>b=b0) W W'->Now W0 M H W->kn W->Ψ ps W'):Clp P W0 M H kn f args Φ Ψ:=λW n k=>by
 have h1:=hkn W k;refine (hc W n.sub h1.eq h1.off).mono λz W' ⟨hm,hz⟩=>?_
 rcases hz with⟨v,C',D,rfl,h2,h3,h4,h5⟩ | ⟨h2,ps,rfl,h3⟩
 ·exact .inl (hk v W W' C' D h5 ⟨hm,h2,h3,h4⟩ n h1.eq h1.off)
 ·exact .inr ⟨ps,rfl,hp ps W W' h2 h3 hm n k⟩
theorem Cl.gg(hc:Gg P f args H b0 T C post False)(hkn:∀W,kn W->Kn W0 M H W b0 (.cells C T (0,0)))(hk:∀v W W' C' D,post v C' D->Beh b0 T C' D W W'->Now W0 M H W->W.heap[b0]?=some (.cells C T (0,0))->H b0=none->Φ (.returned v) W W'):Cl P W0 M H kn f args Φ:=λW n k=>by
 have h1:=hkn W k;refine (hc W n.sub h1.eq h1.off).mono λz W' ⟨hm,hz⟩=>?_
 rcases hz with⟨v,C',D,rfl,h2,h3,h4,h5⟩ | ⟨h2,_⟩
 ·exact hk v W W' C' D h5 ⟨hm,h2,h3,h4⟩ n h1.eq h1.off
 ·exact h2.elim
abbrev RGg(W0:World)(b0 T:Nat)(post:Value->Array Value->Hp->Prop)(pan:Prop):Ending->World->Prop:=λz W'=>Mod (λb=>b=b0) W0 W' /\
  ((∃v C' D,z=.returned v/\W'.heap[b0]?=some (.cells C' T (0,0))/\D.le (ak W')/\(∀b o,D b=some o->W0.heap.size<=b)/\post v C' D)\/(pan/\∃ps,z=.panicked ps/\xm ps))
theorem Rt.gg{v:Value}(hkn:∀W,kn W->W.heap[b0]?=some (.cells C' T (0,0)))(hp:post v C' (aX W0 H)):Rt (RGg W0 b0 T post pan) W0 (λb=>b=b0) H kn v:=λW n k =>
 ⟨n.mod,.inl ⟨v,C',_,rfl,hkn W k,Hp.le_trans (fW W0 H) n.sub,dw W0 H,hp⟩⟩
theorem RGg.out{ps:List PanicEntry}(hp:pan)(ho:xm ps)(hm:Mod (λb=>b=b0) W W')(n:Now W0 (λb=>b=b0) H W):RGg W0 b0 T post pan (.panicked ps) W' :=
 ⟨n.mod.trans hm (λ_ _ h=>h),.inr ⟨hp,ps,rfl,ho⟩⟩
end
end Go.Proofs.YtfpmcmhihhnfgaaGreatDoor
