/- From a law's walk to its row: arguments that read as before, one bool. No conditions. -/
import Derived.ProofKit
import Derived.OpenShut
import Derived.Lib.SmallJoins
import Derived.Below
import Derived.Carry
import Derived.ChangeSame
import Derived.Test.YtfpmcmhihhnfgaaGreatDoorKE4
set_option linter.unusedVariables false
set_option linter.unusedSimpArgs false
namespace Go.Proofs.YtfpmcmhihhnfgaaGreatDoor
open Go.RowKit
section
open Go.ChangeShapes Go.WideShapes Go.ChangeAt Go.RowKit
theorem lX{H:Type}{enc:TypeId × Value->H}{P:Program}(hl:laidOutB P=true){W W':World}{sp':Nat->Bool}:∀{ts:List TypeId} {vs:List Value} {ds:List (DataW H)} {ps:List MemPlace},
  (∀t∈ts,P.readableRec t=true/\t<P.types.size)->DataW.TrodAll enc P W 0 (λ_=>true) true ts vs ds ps->(∀p∈ps,W.sameAt W' p)->(∀p∈ps,sp' p.block=true)->DataW.TrodAll enc P W' 0 sp' true ts vs ds ps
 | [],vs,ds,ps,_,h,_,_=>by
  obtain⟨rfl,rfl,rfl⟩:=trodAll_nil h;exact trodAll_mk0
 | t::ts,vs,ds,ps,hr,h,hsame,hs=>by
  obtain⟨v,vs',d,ds',p,q,rfl,rfl,rfl,h0,h1⟩:=trodAll_cons h;refine trodAll_cons_mk (WideElems.Trod_stays hl (hr t (by simp)).1 (hr t (by simp)).2 h0 (λx hx=>hsame x (by simp[hx])) (λx hx=>hs x (by simp[hx])))
   (lX hl (λu hu=>hr u (by simp[hu])) h1 (λx hx=>hsame x (by simp[hx])) (λx hx=>hs x (by simp[hx])))
theorem BC{H:Type}{enc:TypeId × Value->H}{P:Program}(hl:laidOutB P=true){f:Func}{s:ChangeSpec}{W W':World}{args:Array Value}{ds gs:List (DataW H)}{before:List MemPlace}
  (hr:∀t∈f.params.toList,P.readableRec t=true/\t<P.types.size) {t:TypeId} (hrt:f.resultTypes=#[t]) (hb:P.underlying t=some .bool) (hvars:s.vars = [])
  (hspec:(s.fn H (ds++gs)).results = [.lit (.bool true)]) (hargs:(s.fn H (ds++gs)).args=ds) (hv:(s.fn H (ds++gs)).vars = [])
  (hW:DataW.Whole enc P f.params.toList s.vars false W args.toList ds gs before) (hbel:Below W.heap.size W W') :
  s.post enc P f false true false false W args (.bool true) W':=by
 have hlt:∀p∈before,p.block<W.heap.size:=λp hp=>hW.lt p hp;have hW0:=hW
 obtain⟨p,q,hA,hV,rfl,hz,hn⟩:=hW;have hq:q = []:=by
  rw[hvars] at hV;have:=trodVars_none hV
  simp_all
 subst hq;have hstay:∀sp:Nat->Bool,(∀x∈p,sp x.block=true)->DataW.TrodAll enc P W' 0 sp true f.params.toList args.toList ds p:=λsp hsp =>
  lX hl hr hA (λx hx=>hbel.same (hlt x (by simp[hx]))) hsp
 have hres:∀(b:Nat) (sp:Nat->Bool) (hd:Bool),DataW.TrodAll enc P W' b sp hd f.resultTypes.toList ((Value.bool true).resultList f.resultTypes.size) (s.fn H (ds++gs)).results []:=λb sp hd=>by
  rw[hspec,hrt];exact trodAll_mk1 (shut_bool hb true)
 have hvv:∀sp:Nat->Bool,DataW.TrodVars enc P W' sp s.vars (s.fn H (ds++gs)).vars []:=λsp=>by
  rw[hvars,hv];rfl
 refine⟨ds,gs,p ++ [],[],p,[],hW0,hres _ _ _,?_,hvv _,World.keptBut_mono (λx hx=>⟨hx,?_⟩) (hbel.frame (·∈p ++ [])),λh=>by cases h⟩
 ·rw[hargs];exact hstay _ (λx hx=>by simpa using hlt x (by simp[hx]))
 ·simpa using hx
end
structure V4 where
 a:Int
 b:Int
 c:Int
 d:Int
 deriving DecidableEq
def V4.zero:V4:=⟨0,0,0,0⟩
def V4.get(v:V4)(k:Int):Int:=if k=0 then v.a else if k=1 then v.b else if k=2 then v.c else v.d
def V4.set(v:V4)(k n:Int):V4:=if k=0 then { v with a:=n } else if k=1 then { v with b:=n } else if k=2 then { v with c:=n } else { v with d:=n }
def inR(n lo hi:Int):Bool:=decide (lo<=n)&&decide (n<=hi)
def V4.ok(v:V4):Bool:=inR v.a 0 999&&inR v.b 0 999&&inR v.c 0 999&&inR v.d 0 999
theorem cd(n lo hi:Int):inR n lo hi=true↔lo<=n/\n<=hi:=by simp[inR]
theorem ic(n lo hi:Int):inR n lo hi=false↔n<lo\/hi<n:=by
 rw[<- Bool.not_eq_true,cd];omega
theorem V4.ok_iff(v:V4):v.ok=true↔(0<=v.a/\v.a<=999)/\(0<=v.b/\v.b<=999)/\(0<=v.c/\v.c<=999)/\(0<=v.d/\v.d<=999):=by
 simp[V4.ok,inR,and_assoc]
structure POp where
 kind:Int
 key:Int
 to:Int
 n:Int
 deriving DecidableEq
def POp.err(x:POp):Int :=
 if x.kind<1\/4<x.kind then 4
 else if x.key<0\/3<x.key\/(x.kind=3/\(x.to<0\/3<x.to))\/(x.kind=2/\(x.n < -999\/999<x.n))\/((x.kind=1\/x.kind=3)/\(x.n<0\/999<x.n)) then 3
 else if (x.kind≠3/\x.to≠0)\/(x.kind=4/\x.n≠0) then 1
 else 0
def POp.turn(x:POp)(v:V4):V4 × Int :=
 if x.kind=1 then (if (v.set x.key x.n).ok then (v.set x.key x.n,(v.set x.key x.n).get x.key) else (v,-1))
 else if x.kind=2 then (if (v.set x.key (v.get x.key+x.n)).ok then (v.set x.key (v.get x.key+x.n),(v.set x.key (v.get x.key+x.n)).get x.key) else (v,-1))
 else if x.kind=3 then
  (if (v.set x.key (v.get x.key-x.n)).ok then
   (if ((v.set x.key (v.get x.key-x.n)).set x.to ((v.set x.key (v.get x.key-x.n)).get x.to+x.n)).ok then
    ((v.set x.key (v.get x.key-x.n)).set x.to ((v.set x.key (v.get x.key-x.n)).get x.to+x.n),((v.set x.key (v.get x.key-x.n)).set x.to ((v.set x.key (v.get x.key-x.n)).get x.to+x.n)).get x.key)
   else (v,-1))
  else (v,-1))
 else (v,v.get x.key)
def POp.does(x:POp)(v:V4):V4 × Int × Int :=
 if x.err≠0 then (V4.zero,0,x.err) else if v.ok=false then (V4.zero,0,3) else ((x.turn v).1,(x.turn v).2,0)
structure Rep where
 seq:Int
 val:Int
 deriving DecidableEq
structure Ses where
 client:Int
 acked:Int
 seen:Int
 kept:List Rep
 deriving DecidableEq
def Ses.zero:Ses:=⟨0,0,0,[]⟩
def dj(acked:Int):Int->List Rep->Bool
 | _,[]=>true
 | last,r::t=>decide (last<r.seq/\r.seq<=acked+3/\r.seq<=60/\-1<=r.val/\r.val<=999)&&dj acked r.seq t
def Ses.err(s:Ses):Int :=
 if s.client<1\/5<s.client\/s.acked<0\/60<s.acked\/s.seen<0\/999<s.seen then 3 else if dj s.acked s.acked s.kept=true then 0 else 1
def bL:List Ses->Int
 | []=>0
 | s::t=>if s.err=0 then bL t else s.err
def eg:Int->List Ses->Bool
 | _,[]=>true
 | last,s::t=>decide (last<s.client)&&eg s.client t
def dm(l:List Ses):Int:=if 3<l.length then 2 else if bL l=0 then (if eg 0 l=true then 0 else 1) else bL l
structure fy(l:List Ses):Prop where
 len:l.length<=3
 one:∀s∈l,s.err=0
 ord:l.Pairwise λa b=>a.client<b.client
theorem Ses.err_ok{s:Ses}(h:s.err=0):(1<=s.client/\s.client<=5)/\(0<=s.acked/\s.acked<=60)/\(0<=s.seen/\s.seen<=999)/\dj s.acked s.acked s.kept=true:=by
 unfold Ses.err at h
 split at h
 ·cases h
 ·split at h
  ·rename_i h1 h2;exact⟨by omega,by omega,by omega,h2⟩
  ·cases h
theorem lm{l:List Ses}:bL l=0↔∀s∈l,s.err=0:=by
 induction l with
 | nil=>simp[bL]
 | cons s t ih =>
  simp only[bL,List.mem_cons,forall_eq_or_imp]
  split
  ·rename_i h;rw[ih];exact⟨λhh=>⟨h,hh⟩,λhh=>hh.2⟩
  ·rename_i h;exact⟨λhh=>absurd hh h,λhh=>absurd hh.1 h⟩
theorem qc{l:List Ses}:∀{a:Int},eg a l=true↔(∀s∈l,a<s.client)/\l.Pairwise λa b=>a.client<b.client:=by
 induction l with
 | nil=>simp[eg]
 | cons s t ih =>
  intro a;simp only[eg,Bool.and_eq_true,decide_eq_true_eq,ih,List.pairwise_cons,List.mem_cons,forall_eq_or_imp]
  constructor
  ·rintro⟨h1,h2,h3⟩;exact⟨⟨h1,λu hu=>by have:=h2 u hu;omega⟩,h2,h3⟩
  ·rintro⟨⟨h1,h2⟩,h3,h4⟩;exact⟨h1,h3,h4⟩
theorem lP{l:List Ses}:dm l=0↔fy l:=by
 unfold dm;constructor
 ·intro h
  split at h
  ·cases h
  ·split at h
   ·split at h
    ·rename_i h1 h2 h3;exact⟨by omega,lm.1 h2,(qc.1 h3).2⟩
    ·cases h
   ·rename_i h1 h2;exact absurd h h2
 ·intro h;rw[if_neg (by have:=h.len;omega),if_pos (lm.2 h.one),if_pos (qc.2 ⟨λs hs=>by have:=(Ses.err_ok (h.one s hs)).1;omega,h.ord⟩)]
def aS(l:List Ses)(c:Int):Nat:=(l.filter λs=>decide (s.client<c)).length
def b9(l:List Ses)(c:Int):Bool:=l.any λs=>decide (s.client=c)
def bI(l:List Ses)(c:Int):Ses:=(l.find? λs=>decide (s.client=c)).getD Ses.zero
def bX(l:List Ses)(s:Ses):List Ses:=(l.filter λx=>decide (x.client<s.client))++s::l.filter λx=>decide (s.client<x.client)
def fZ(l:List Ses)(c:Int):List Ses:=l.filter λx=>decide (x.client≠c)
def gZ(l:List Ses)(clock:Int):List Ses:=l.filter λx=>decide (clock-20<=x.seen)
def lR(l:List Ses)(s:Ses):List Ses × Int :=
 if dm l=0 then (if s.err=0 then (if 3<(bX l s).length then ([],2) else (bX l s,0)) else ([],s.err)) else ([],dm l)
section
inductive de{α β:Type}(R:α->β->Prop):List α->List β->Prop where
 | nil:de R [] []
 | cons (a:α) (b:β) (l:List α) (m:List β) (h:R a b) (t:de R l m):de R (a::l) (b::m)
namespace de
variable{α β:Type}{R S:α->β->Prop}
theorem length{l:List α}{m:List β}(h:de R l m):l.length=m.length:=by
 induction h with
 | nil=>rfl
 | cons a b l m h t ih=>simp[ih]
theorem get{l:List α}{m:List β}(h:de R l m):∀{i:Nat} {a:α},l[i]?=some a->∃b,m[i]?=some b/\R a b:=by
 induction h with
 | nil=>intro i a hi;simp at hi
 | cons a b l m h t ih =>
  intro i x hi
  cases i with
  | zero=>simp at hi;subst hi;exact⟨b,by simp,h⟩
  | succ i=>simpa using ih (by simpa using hi)
theorem get'{l:List α}{m:List β}(h:de R l m):∀{i:Nat} {b:β},m[i]?=some b->∃a,l[i]?=some a/\R a b:=by
 induction h with
 | nil=>intro i a hi;simp at hi
 | cons a b l m h t ih =>
  intro i x hi
  cases i with
  | zero=>simp at hi;subst hi;exact⟨a,by simp,h⟩
  | succ i=>simpa using ih (by simpa using hi)
theorem mono{l:List α}{m:List β}(h:de R l m)(hs:∀a b,R a b->S a b):de S l m:=by
 induction h with
 | nil=>exact .nil
 | cons a b l m h t ih=>exact .cons a b l m (hs a b h) ih
theorem append{l l':List α}{m m':List β}(h:de R l m)(h':de R l' m'):de R (l++l') (m++m'):=by
 induction h with
 | nil=>exact h'
 | cons a b l m h t ih=>exact .cons a b _ _ h ih
theorem take{l:List α}{m:List β}(h:de R l m):∀(i:Nat),de R (l.take i) (m.take i):=by
 induction h with
 | nil=>intro i;simp;exact .nil
 | cons a b l m h t ih =>
  intro i
  cases i with
  | zero=>exact .nil
  | succ i=>exact .cons a b _ _ h (ih i)
theorem drop{l:List α}{m:List β}(h:de R l m):∀(i:Nat),de R (l.drop i) (m.drop i):=by
 induction h with
 | nil=>intro i;simp;exact .nil
 | cons a b l m h t ih =>
  intro i
  cases i with
  | zero=>exact .cons a b _ _ h t
  | succ i=>exact ih i
theorem one{a:α}{b:β}(h:R a b):de R [a] [b]:=.cons a b _ _ h .nil
end de
def Rep.row(r:Rep):List Value := [vi r.seq,vi r.val]
def bM(H:Hp)(p:OL)(n c:Nat)(l:List Rep):Prop:=n<=c/\c<=maxLen/\Rows H p n 2 (l.map Rep.row)
def dz(H:Hp)(row:List Value)(s:Ses):Prop:=∃p n c,row = [vi s.client,vi s.acked,vi s.seen,vsl p n c]/\bM H p n c s.kept
def Tab(H:Hp)(p:OL)(n c:Nat)(l:List Ses):Prop:=n<=c/\c<=maxLen/\∃rows,Rows H p n 4 rows/\de (dz H) rows l
section
variable{H K:Hp}{p:OL}{n c:Nat}
theorem bM.mono{l:List Rep}(h:bM H p n c l)(hk:H.le K):bM K p n c l:=⟨h.1,h.2.1,h.2.2.mono hk⟩
theorem dz.mono{row:List Value}{s:Ses}(h:dz H row s)(hk:H.le K):dz K row s:=by
 obtain⟨p,n,c,h1,h2⟩:=h;exact⟨p,n,c,h1,h2.mono hk⟩
theorem Tab.mono{l:List Ses}(h:Tab H p n c l)(hk:H.le K):Tab K p n c l:=by
 obtain⟨h1,h2,rows,h3,h4⟩:=h;exact⟨h1,h2,rows,h3.mono hk,h4.mono λ_ _ h=>h.mono hk⟩
theorem bM.len{l:List Rep}(h:bM H p n c l):n=l.length:=by simpa using h.2.2.len
theorem bM.lt63{l:List Rep}(h:bM H p n c l):(n:Int)<=9223372036854775807:=by have:=h.1;have:=h.2.1;simp only[maxLen] at this;omega
theorem Tab.len{l:List Ses}(h:Tab H p n c l):n=l.length:=by
 obtain⟨_,_,rows,h3,h4⟩:=h;rw[h3.len,h4.length]
theorem Tab.lt63{l:List Ses}(h:Tab H p n c l):(n:Int)<=9223372036854775807:=by have:=h.1;have:=h.2.1;simp only[maxLen] at this;omega
theorem bM.at{l:List Rep}(h:bM H p n c l){k:Nat}(hk:k<n):∃r:Rep,l[k]?=some r/\∀off:Int,off=k * 2->aa H p off [vi r.seq,vi r.val]/\aa H p off [vi r.seq]/\aa H p (off+1) [vi r.val]:=by
 obtain⟨row,h1,_,_⟩:=h.2.2.at hk (off:=k * 2) rfl;rw[List.getElem?_map,Option.map_eq_some_iff] at h1;obtain⟨r,hr,rfl⟩:=h1;refine⟨r,hr,λoff ho=>?_⟩;obtain⟨row',h1',_,h3⟩:=h.2.2.at hk ho;rw[List.getElem?_map,hr] at h1';simp only[Option.map_some,Option.some.injEq] at h1';subst h1';exact⟨h3,h3.sub (by omega) (j:=0) rfl (by simp),h3.sub (by omega) (j:=1) rfl (by simp)⟩
theorem Tab.at{l:List Ses}(h:Tab H p n c l){k:Nat}(hk:k<n):∃(s:Ses) (q:OL) (m d:Nat),l[k]?=some s/\bM H q m d s.kept/\∀off:Int,off=k * 4 ->
  aa H p off [vi s.client,vi s.acked,vi s.seen,vsl q m d]/\aa H p off [vi s.client]/\aa H p (off+1) [vi s.acked]/\aa H p (off+2) [vi s.seen]/\aa H p (off+3) [vsl q m d]:=by
 obtain⟨_,_,rows,h3,h4⟩:=h;obtain⟨row,h5,_,_⟩:=h3.at hk (off:=k * 4) rfl;obtain⟨s,hs,q,m,d,rfl,hq⟩:=h4.get h5;refine⟨s,q,m,d,hs,hq,λoff ho=>?_⟩;obtain⟨row',h1',_,h6⟩:=h3.at hk ho;rw[h5] at h1';simp only[Option.some.injEq] at h1';subst h1';exact⟨h6,h6.sub (by omega) (j:=0) rfl (by simp),h6.sub (by omega) (j:=1) rfl (by simp),h6.sub (by omega) (j:=2) rfl (by simp),h6.sub (by omega) (j:=3) rfl (by simp)⟩
end
theorem bB{α:Type}{l:List α}{k:Nat}{x:α}(h:l[k]?=some x):l.drop k=x::l.drop (k+1):=by
 obtain⟨h1,h2⟩:=List.getElem?_eq_some_iff.1 h;rw[List.drop_eq_getElem_cons h1,h2]
theorem Rt.gv'{W0:World}{H:Hp}{kn:World->Prop}{v v':Value}(h:v=v'):Rt (λz W'=>z=.returned v'/\Ext W0 W') W0 noM H kn v:=h▸Rt.gv
end
end Go.Proofs.YtfpmcmhihhnfgaaGreatDoor
