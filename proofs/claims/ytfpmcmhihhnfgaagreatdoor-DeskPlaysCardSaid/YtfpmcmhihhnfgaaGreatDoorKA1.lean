/- Plain laws of kept answers. No conditions. -/
import Derived.Test.YtfpmcmhihhnfgaaGreatDoorKS4
import Derived.Test.YtfpmcmhihhnfgaaGreatDoorKU1
import Derived.Test.YtfpmcmhihhnfgaaGreatDoorKT1
set_option linter.unusedVariables false
set_option linter.unusedSimpArgs false
namespace Go.Proofs.YtfpmcmhihhnfgaaGreatDoor
open Go.RowKit
def Rep.zero:Rep:=⟨0,0⟩
def gR(l:List Rep)(c:Int):Nat:=(l.filter λs=>decide (s.seq<c)).length
def gI(l:List Rep)(c:Int):Bool:=l.any λs=>decide (s.seq=c)
def jw(l:List Rep)(c:Int):Rep:=(l.find? λs=>decide (s.seq=c)).getD Rep.zero
def mO(l:List Rep)(s:Rep):List Rep:=(l.filter λx=>decide (x.seq<s.seq))++s::l.filter λx=>decide (s.seq<x.seq)
def lT(l:List Rep)(c:Int):List Rep:=l.filter λx=>decide (x.seq≠c)
abbrev mM(l:List Rep):Prop:=l.Pairwise λa b=>a.seq<b.seq
theorem jW(c:Int):∀(l:List Rep),mM l->l.take (gR l c)=l.filter (λx=>decide (x.seq<c))/\l.drop (gR l c+if gI l c=true then 1 else 0)=l.filter (λx=>decide (c<x.seq)) /\
    (gI l c=true->∃s,l[gR l c]?=some s/\s.seq=c/\jw l c=s)/\lT l c=l.filter (λx=>decide (x.seq<c))++l.filter (λx=>decide (c<x.seq))/\(gI l c=false->jw l c=Rep.zero/\lT l c=l)
  | [],_=>by simp[gR,gI,lT,jw]
  | s::t,h=>by
    rw[mM,List.pairwise_cons] at h
    obtain⟨i1,i2,i3,i4,i5⟩:=jW c t h.2
    rcases Int.lt_trichotomy s.seq c with hlt | heq | hgt
    · have hp:gR (s::t) c=gR t c+1:=by simp[gR,hlt]
      have hh:gI (s::t) c=gI t c:=by
        have:s.seq≠c:=by omega
        simp[gI,this]
      have hf:jw (s::t) c=jw t c:=by
        have:s.seq≠c:=by omega
        simp[jw,this]
      have hng:¬c<s.seq:=by omega
      have hne:s.seq≠c:=by omega
      refine⟨?_,?_,λhx=>?_,?_,λhx=>?_⟩
      · rw[hp,List.take_succ_cons,i1];simp[hlt]
      · rw[hp,hh,show gR t c+1+(if gI t c=true then 1 else 0)=(gR t c+if gI t c=true then 1 else 0)+1 by omega,List.drop_succ_cons,i2];simp[hng]
      · rw[hp,hf]
        rw[hh] at hx
        simpa using i3 hx
      · rw[lT] at i4
        rw[lT,List.filter_cons,if_pos (by simpa using hne),i4,List.filter_cons,if_pos (by simpa using hlt),List.filter_cons,if_neg (by simpa using hng)]
        rfl
      · rw[hh] at hx
        obtain⟨j1,j2⟩:=i5 hx
        refine⟨by rw[hf,j1],?_⟩
        rw[lT] at j2
        rw[lT,List.filter_cons,if_pos (by simpa using hne),j2]
    · have hall:∀x∈t,c<x.seq:=λx hx=>by have:=h.1 x hx;omega
      have hz:t.filter (λx=>decide (x.seq<c)) = []:=List.filter_eq_nil_iff.2 λx hx=>by have:=hall x hx;simp;omega
      have hy:t.filter (λx=>decide (c<x.seq))=t:=List.filter_eq_self.2 λx hx=>by have:=hall x hx;simpa using this
      have hd:t.filter (λx=>decide (x.seq≠c))=t:=List.filter_eq_self.2 λx hx=>by have:=hall x hx;simp;omega
      have hp:gR (s::t) c=0:=by simp[gR,heq,hz]
      have hh:gI (s::t) c=true:=by simp[gI,heq]
      have h1:¬s.seq<c:=by omega
      have h2:¬c<s.seq:=by omega
      refine⟨?_,?_,λ_=>⟨s,?_,heq,?_⟩,?_,λhx=>(by rw[hh] at hx;cases hx)⟩
      · rw[hp];simp[h1,hz]
      · rw[hp,hh];simp[h2,hy]
      · rw[hp];rfl
      · simp[jw,heq]
      · rw[lT,List.filter_cons,if_neg (by simpa using heq),hd,List.filter_cons,if_neg (by simpa using h1),hz,List.filter_cons,if_neg (by simpa using h2),hy]
        rfl
    · have hall:∀x∈t,c<x.seq:=λx hx=>by have:=h.1 x hx;omega
      have hz:t.filter (λx=>decide (x.seq<c)) = []:=List.filter_eq_nil_iff.2 λx hx=>by have:=hall x hx;simp;omega
      have hy:t.filter (λx=>decide (c<x.seq))=t:=List.filter_eq_self.2 λx hx=>by have:=hall x hx;simpa using this
      have hd:t.filter (λx=>decide (x.seq≠c))=t:=List.filter_eq_self.2 λx hx=>by have:=hall x hx;simp;omega
      have h1:¬s.seq<c:=by omega
      have hne:s.seq≠c:=by omega
      have hp:gR (s::t) c=0:=by simp[gR,h1,hz]
      have hh:gI (s::t) c=false:=by
        simp only[gI,List.any_cons,Bool.or_eq_false_iff,decide_eq_false_iff_not,List.any_eq_false,decide_eq_true_eq]
        exact⟨hne,λx hx=>by have:=hall x hx;omega⟩
      refine⟨?_,?_,λhx=>(by rw[hh] at hx;cases hx),?_,λ_=>⟨?_,?_⟩⟩
      · rw[hp];simp[h1,hz]
      · rw[hp,hh];simp[hgt,hy]
      · rw[lT,List.filter_cons,if_pos (by simpa using hne),hd,List.filter_cons,if_neg (by simpa using h1),hz,List.filter_cons,if_pos (by simpa using hgt),hy]
        rfl
      · have:(s::t).find? (λx=>decide (x.seq=c))=none:=List.find?_eq_none.2 λx hx=>by
          rcases List.mem_cons.1 hx with rfl | hx
          · simpa using hne
          · have:=hall x hx;simp;omega
        simp[jw,this]
      · rw[lT,List.filter_cons,if_pos (by simpa using hne),hd]
theorem ux{l:List Rep}(h:mM l){s:Rep}(hh:gI l s.seq=false):l.take (gR l s.seq)++s::l.drop (gR l s.seq)=mO l s:=by
  obtain⟨i1,i2,_,_,_⟩:=jW s.seq l h
  rw[hh] at i2
  simp only[Bool.false_eq_true,if_false,Nat.add_zero] at i2
  rw[i1,i2]
  rfl
theorem wx(l:List Rep)(c:Int):gR l c<=l.length:=List.length_filter_le _ _
theorem Du{l:List Rep}(h:mM l){c:Int}(hh:gI l c=true):gR l c<l.length:=by
  obtain⟨_,_,i3,_,_⟩:=jW c l h
  obtain⟨x,hx,_⟩:=i3 hh
  exact (List.getElem?_eq_some_iff.1 hx).1
def Sta.tick(s:Sta)(t:Int):Sta:=⟨s.pos+1,max s.clock t,s.vals,gZ s.table (max s.clock t)⟩
def Ses.ack(x:Ses)(clock a:Int):Ses:=⟨x.client,max x.acked a,clock,x.kept.filter λr=>decide (max x.acked a<r.seq)⟩
def Sta.calls(s:Sta)(x:Ses)(e:Ent):Sta × Int × Bool :=
  if e.seq<=x.acked then ({ s with table:=bX s.table x },-4,false)
  else if gI x.kept e.seq=true then ({ s with table:=bX s.table x },(jw x.kept e.seq).val,false)
  else if x.acked+3<e.seq then ({ s with table:=bX s.table x },-5,false)
  else ({ s with vals:=(e.op.turn s.vals).1,table:=bX s.table { x with kept:=mO x.kept ⟨e.seq,(e.op.turn s.vals).2⟩ } },(e.op.turn s.vals).2,true)
def Sta.does(t:Sta)(e:Ent):Sta × Int × Bool :=
  if e.kind=1 then
    (if b9 t.table e.client=true then ({ t with table:=bX t.table { bI t.table e.client with seen:=t.clock } },0,false)
     else if t.table.length=3 then (t,-2,false)
     else ({ t with table:=bX t.table ⟨e.client,0,t.clock,[]⟩ },0,false))
  else if b9 t.table e.client=true then
    (if e.kind=3 then ({ t with table:=fZ t.table e.client },0,false)
     else t.calls ((bI t.table e.client).ack t.clock e.ack) e)
  else (t,-3,false)
def Sta.apply(s:Sta)(e:Ent):Sta × Int × Bool:=(s.tick e.time).does e
structure ip(e:Ent):Prop where
  kind:1<=e.kind/\e.kind<=3
  time:0<=e.time/\e.time<=999
  client:1<=e.client/\e.client<=5
  call:e.kind=2->(1<=e.seq/\e.seq<=60)/\(0<=e.ack/\e.ack<e.seq)/\e.op.err=0
  bare:e.kind≠2->e.seq=0/\e.ack=0/\e.op=POp.none
theorem Ent.err_ok{e:Ent}:e.err=0↔ip e:=by
  constructor
  · intro h
    by_cases h0:e.kind<1\/3<e.kind
    · rw[m9 h0] at h;cases h
    by_cases h1:e.time<0\/999<e.time\/e.client<1\/5<e.client
    · rw[gY h0 h1] at h;cases h
    by_cases h2:e.kind=2
    · rw[jY h0 h1 h2] at h
      split at h
      · cases h
      · exact⟨by omega,by omega,by omega,λ_=>⟨by omega,by omega,h⟩,λh3=>absurd h2 h3⟩
    · rw[iT h0 h1 h2] at h
      split at h
      · rename_i h4
        exact⟨by omega,by omega,by omega,λh3=>absurd h3 h2,λ_=>h4⟩
      · cases h
  · intro h
    have a1:=h.kind;have a2:=h.time;have a3:=h.client
    have h0:¬(e.kind<1\/3<e.kind):=by omega
    have h1:¬(e.time<0\/999<e.time\/e.client<1\/5<e.client):=by omega
    by_cases h2:e.kind=2
    · obtain⟨b1,b2,b3⟩:=h.call h2
      rw[jY h0 h1 h2,if_neg (by omega),b3]
    · rw[iT h0 h1 h2,if_pos (h.bare h2)]
theorem yu{l:List Ses}(h:Inc l)(t:Int):Inc (gZ l t):=h.filter _
theorem fy.fresh{l:List Ses}(h:fy l)(t:Int):fy (gZ l t) :=
  ⟨Nat.le_trans (List.length_filter_le _ _) h.len,λs hs=>h.one s ((List.mem_filter.1 hs).1),yu h.ord t⟩
theorem fy.drop{l:List Ses}(h:fy l)(c:Int):fy (fZ l c) :=
  ⟨Nat.le_trans (List.length_filter_le _ _) h.len,λs hs=>h.one s ((List.mem_filter.1 hs).1),h.ord.filter _⟩
theorem wt{l:List Ses}{s x:Ses}(h:x∈bX l s):x=s\/(x∈l/\x.client≠s.client):=by
  unfold bX at h
  rcases List.mem_append.1 h with h | h
  · rw[List.mem_filter] at h
    exact .inr ⟨h.1,by have:=of_decide_eq_true h.2;omega⟩
  · rcases List.mem_cons.1 h with h | h
    · exact .inl h
    · rw[List.mem_filter] at h
      exact .inr ⟨h.1,by have:=of_decide_eq_true h.2;omega⟩
theorem Ch{l:List Ses}(h:Inc l)(s:Ses):Inc (bX l s):=by
  unfold bX
  rw[Inc,List.pairwise_append,List.pairwise_cons]
  refine⟨h.filter _,⟨λx hx=>?_,h.filter _⟩,λx hx y hy=>?_⟩
  · rw[List.mem_filter] at hx
    exact of_decide_eq_true hx.2
  · rw[List.mem_filter] at hx
    have h1:=of_decide_eq_true hx.2
    rcases List.mem_cons.1 hy with rfl | hy
    · exact h1
    · rw[List.mem_filter] at hy
      have h2:=of_decide_eq_true hy.2
      omega
theorem fy.put{l:List Ses}(h:fy l){s:Ses}(hs:s.err=0)(hl:b9 l s.client=true\/l.length<3):fy (bX l s):=by
  refine⟨?_,λx hx=>?_,Ch h.ord s⟩
  · rw[xq h.ord]
    have:=h.len
    rcases hl with hl | hl
    · rw[if_pos hl];omega
    · split<;>omega
  · rcases wt hx with rfl | ⟨hx,_⟩
    · exact hs
    · exact h.one x hx
theorem ng{l:List Ses}(h:Inc l){c:Int}(hh:b9 l c=true):bI l c∈l/\(bI l c).client=c:=by
  obtain⟨_,_,i3,_,_⟩:=ff c l h
  obtain⟨s,h1,h2,h3⟩:=i3 hh
  rw[h3]
  exact⟨List.mem_of_getElem? h1,h2⟩
theorem dh{a:Int}:∀{l:List Rep} {last:Int},dj a last l=true↔(∀r∈l,last<r.seq/\r.seq<=a+3/\r.seq<=60/\-1<=r.val/\r.val<=999)/\mM l
  | [],last=>by simp[dj]
  | r::t,last=>by
    simp only[dj,Bool.and_eq_true,decide_eq_true_eq,dh (l:=t),List.mem_cons,forall_eq_or_imp,mM,List.pairwise_cons]
    constructor
    · rintro⟨h1,h2,h3⟩
      exact⟨⟨h1,λx hx=>by have:=h2 x hx;omega⟩,λx hx=>(h2 x hx).1,h3⟩
    · rintro⟨⟨h1,h2⟩,h3,h4⟩
      exact⟨h1,λx hx=>by have:=h2 x hx;have:=h3 x hx;omega,h4⟩
theorem aP{s:Ses}:s.err=0↔(1<=s.client/\s.client<=5)/\(0<=s.acked/\s.acked<=60)/\(0<=s.seen/\s.seen<=999)/\dj s.acked s.acked s.kept=true:=by
  refine⟨Ses.err_ok,λ⟨h1,h2,h3,h4⟩=>?_⟩
  unfold Ses.err
  rw[if_neg (by omega),if_pos h4]
theorem Bk{l:List Rep}{s x:Rep}(h:x∈mO l s):x=s\/(x∈l/\x.seq≠s.seq):=by
  unfold mO at h
  rcases List.mem_append.1 h with h | h
  · rw[List.mem_filter] at h
    exact .inr ⟨h.1,by have:=of_decide_eq_true h.2;omega⟩
  · rcases List.mem_cons.1 h with h | h
    · exact .inl h
    · rw[List.mem_filter] at h
      exact .inr ⟨h.1,by have:=of_decide_eq_true h.2;omega⟩
theorem An{l:List Rep}(h:mM l)(s:Rep):mM (mO l s):=by
  unfold mO
  rw[mM,List.pairwise_append,List.pairwise_cons]
  refine⟨h.filter _,⟨λx hx=>?_,h.filter _⟩,λx hx y hy=>?_⟩
  · rw[List.mem_filter] at hx
    exact of_decide_eq_true hx.2
  · rw[List.mem_filter] at hx
    have h1:=of_decide_eq_true hx.2
    rcases List.mem_cons.1 hy with rfl | hy
    · exact h1
    · rw[List.mem_filter] at hy
      have h2:=of_decide_eq_true hy.2
      omega
theorem EJ{x:Ses}(h:x.err=0){clock a:Int}(hc:0<=clock/\clock<=999)(ha:a<=60):(x.ack clock a).err=0:=by
  obtain⟨h1,h2,h3,h4⟩:=aP.1 h
  obtain⟨h5,h6⟩:=dh.1 h4
  refine aP.2 ⟨h1,by simp only[Ses.ack];omega,hc,dh.2 ⟨λr hr=>?_,h6.filter _⟩⟩
  simp only[Ses.ack] at hr |-
  rw[List.mem_filter] at hr
  have:=h5 r hr.1
  have:=of_decide_eq_true hr.2
  omega
theorem Dl{x:POp}{v:V4}(hv:v.ok=true):(x.turn v).1.ok=true/\-1<=(x.turn v).2/\(x.turn v).2<=999:=by
  have get:∀(u:V4) k,u.ok=true->-1<=u.get k/\u.get k<=999:=λu k h=>by
    rw[V4.ok_iff] at h
    unfold V4.get
    split
    · omega
    · split
      · omega
      · split<;>omega
  unfold POp.turn
  repeat' split
  all_goals first | exact⟨by assumption,get _ _ (by assumption)⟩ | exact⟨hv,Int.le_refl (-1),(by omega:(-1:Int)<=999)⟩ | exact⟨hv,get _ _ hv⟩
theorem Sta.tick_ok{s:Sta}(h:dy s){t:Int}(ht:0<=t/\t<=999)(hp:s.pos<50):dy (s.tick t):=by
  have h1:=h.pos;have h2:=h.clock
  refine⟨by simp only[Sta.tick];omega,by simp only[Sta.tick];omega,h.vals,h.table.fresh _,λx hx=>?_⟩
  simp only[Sta.tick,gZ] at hx |-
  rw[List.mem_filter] at hx
  have:=h.seen x hx.1
  have:=of_decide_eq_true hx.2
  omega
theorem Sta.does_ok{t:Sta}{e:Ent}(h:dy t)(he:ip e):dy (t.does e).1:=by
  have hck:=h.clock
  have ht:=h.table
  have mk:∀(v:V4) (l:List Ses),v.ok=true->fy l->(∀x∈l,t.clock-20<=x.seen/\x.seen<=t.clock)->dy ⟨t.pos,t.clock,v,l⟩:=λv l hv hl hs=>⟨h.pos,hck,hv,hl,hs⟩
  have pt:∀(x:Ses),x.seen=t.clock->x.err=0->(b9 t.table x.client=true\/t.table.length<3)->fy (bX t.table x)/\∀y∈bX t.table x,t.clock-20<=y.seen/\y.seen<=t.clock:=λx hx hxe hl=>⟨ht.put hxe hl,λy hy=>by
    rcases wt hy with rfl | ⟨hy,_⟩
    · omega
    · exact h.seen y hy⟩
  unfold Sta.does
  by_cases k1:e.kind=1
  · rw[if_pos k1]
    by_cases k2:b9 t.table e.client=true
    · rw[if_pos k2]
      obtain⟨m1,m2⟩:=ng ht.ord k2
      have m3:=ht.one _ m1
      obtain⟨p1,p2⟩:=pt { bI t.table e.client with seen:=t.clock } rfl (by
        obtain⟨q1,q2,q3,q4⟩:=aP.1 m3
        exact aP.2 ⟨q1,q2,hck,q4⟩) (.inl (by simp only[m2];exact k2))
      exact mk _ _ h.vals p1 p2
    · rw[if_neg k2]
      by_cases k3:t.table.length=3
      · rw[if_pos k3];exact h
      · rw[if_neg k3]
        obtain⟨p1,p2⟩:=pt ⟨e.client,0,t.clock,[]⟩ rfl (aP.2 ⟨he.client,by simp only;omega,hck,rfl⟩) (.inr (by have:=ht.len;omega))
        exact mk _ _ h.vals p1 p2
  · rw[if_neg k1]
    by_cases k2:b9 t.table e.client=true
    · rw[if_pos k2]
      obtain⟨m1,m2⟩:=ng ht.ord k2
      have m3:=ht.one _ m1
      by_cases k3:e.kind=3
      · rw[if_pos k3];exact mk _ _ h.vals (ht.drop _) (λx hx=>h.seen x (List.mem_filter.1 hx).1)
      · rw[if_neg k3]
        have hk2:e.kind=2:=by have:=he.kind;omega
        obtain⟨b1,b2,b3⟩:=he.call hk2
        have ha:((bI t.table e.client).ack t.clock e.ack).err=0:=EJ m3 hck (by omega)
        have hcl:((bI t.table e.client).ack t.clock e.ack).client=e.client:=m2
        have hsn:((bI t.table e.client).ack t.clock e.ack).seen=t.clock:=rfl
        generalize (bI t.table e.client).ack t.clock e.ack=x at ha hcl hsn |-
        obtain⟨p1,p2⟩:=pt _ hsn ha (.inl (by rw[hcl];exact k2))
        unfold Sta.calls
        by_cases c1:e.seq<=x.acked
        · rw[if_pos c1];exact mk _ _ h.vals p1 p2
        · rw[if_neg c1]
          by_cases c2:gI x.kept e.seq=true
          · rw[if_pos c2];exact mk _ _ h.vals p1 p2
          · rw[if_neg c2]
            by_cases c3:x.acked+3<e.seq
            · rw[if_pos c3];exact mk _ _ h.vals p1 p2
            · rw[if_neg c3]
              have htn:=Dl (x:=e.op) h.vals
              obtain⟨p3,p4⟩:=pt { x with kept:=mO x.kept ⟨e.seq,(e.op.turn t.vals).2⟩ } hsn (by
                obtain⟨q1,q2,q3,q4⟩:=aP.1 ha
                obtain⟨q5,q6⟩:=dh.1 q4
                refine aP.2 ⟨q1,q2,q3,dh.2 ⟨λr hr=>?_,An q6 _⟩⟩
                rcases Bk hr with rfl | ⟨hr,_⟩
                · simp only;omega
                · exact q5 r hr) (.inl (by simp only[hcl];exact k2))
              exact mk _ _ htn.1 p3 p4
    · rw[if_neg k2];exact h
theorem Sta.apply_ok{s:Sta}{e:Ent}(h:dy s)(he:ip e)(hp:s.pos<50):dy (s.apply e).1:=Sta.does_ok (Sta.tick_ok h he.time hp) he
theorem xX{l:List Ses}{t:Int}(h:∀x∈l,t-20<=x.seen):gZ l t=l:=List.filter_eq_self.2 λx hx=>by simpa using h x hx
theorem dy.tick{s:Sta}(h:dy s){t:Int}(ht:t<=s.clock):s.tick t=⟨s.pos+1,s.clock,s.vals,s.table⟩:=by
  have e:max s.clock t=s.clock:=by omega
  unfold Sta.tick
  rw[e,xX λx hx=>(h.seen x hx).1]
theorem xG(s:Sta)(e:Ent):(s.apply e).1.pos=s.pos+1:=by
  unfold Sta.apply Sta.does Sta.calls Sta.tick
  repeat' split
  all_goals rfl
theorem CP{x:Ses}(h:x.err=0){clock a:Int}:mM (x.ack clock a).kept:=by
  have h4:=(aP.1 h).2.2.2
  exact (dh.1 h4).2.filter _
end Go.Proofs.YtfpmcmhihhnfgaaGreatDoor
