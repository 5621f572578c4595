/- Entries one behind the other, as the document says it, over plain data. No conditions. -/
import Derived.Test.YtfpmcmhihhnfgaaGreatDoorKA1
import Derived.Test.YtfpmcmhihhnfgaaGreatDoorKI1
set_option linter.unusedVariables false
set_option linter.unusedSimpArgs false
namespace Go.Proofs.YtfpmcmhihhnfgaaGreatDoor
open Go.RowKit
def aC:Sta->List Ent->Sta
 | s,[]=>s
 | s,e::l=>aC (s.apply e).1 l
def kF:Sta->List Ent->List Int
 | _,[] => []
 | s,e::l=>(s.apply e).2.1::kF (s.apply e).1 l
def jA:Sta->List Ent->List Bool
 | _,[] => []
 | s,e::l=>(s.apply e).2.2::jA (s.apply e).1 l
def gn:List Ent->Int
 | []=>0
 | e::l=>if e.err=0 then gn l else e.err
def bg(l:List Ent):Int:=if 50<l.length then 2 else gn l
theorem iF(a b:List Ent):∀s,aC s (a++b)=aC (aC s a) b:=by
 induction a with
 | nil=>intro s;rfl
 | cons e a ih=>intro s;exact ih _
theorem mW(a b:List Ent):∀s,kF s (a++b)=kF s a++kF (aC s a) b:=by
 induction a with
 | nil=>intro s;rfl
 | cons e a ih=>intro s;simp only[List.cons_append,kF,ih];rfl
theorem nc(a b:List Ent):∀s,jA s (a++b)=jA s a++jA (aC s a) b:=by
 induction a with
 | nil=>intro s;rfl
 | cons e a ih=>intro s;simp only[List.cons_append,jA,ih];rfl
theorem nA:∀(l:List Ent) s,(kF s l).length=l.length
 | [],_=>rfl
 | e::l,s=>by simp[kF,nA l]
theorem lN:∀(l:List Ent) s,(jA s l).length=l.length
 | [],_=>rfl
 | e::l,s=>by simp[jA,lN l]
theorem qX:∀{l:List Ent},gn l=0↔∀e∈l,ip e
 | []=>by simp[gn]
 | e::l=>by
  unfold gn
  split
  ·rename_i h;rw[qX];simp[Ent.err_ok.1 h]
  ·rename_i h;simp only[List.mem_cons,forall_eq_or_imp]
   exact⟨λhh=>absurd hh h,λhh=>absurd (Ent.err_ok.2 hh.1) h⟩
theorem go{l:List Ent}:bg l=0↔l.length<=50/\∀e∈l,ip e:=by
 unfold bg
 split
 ·constructor
  ·intro h;cases h
  ·intro h;omega
 ·rw[qX];exact⟨λh=>⟨by omega,h⟩,λh=>h.2⟩
theorem kS:∀{l:List Ent} {s:Sta},dy s->(∀e∈l,ip e)->s.pos+l.length<=50->dy (aC s l)/\(aC s l).pos=s.pos+l.length
 | [],s,h,_,_=>⟨h,by simp[aC]⟩
 | e::l,s,h,hl,hp=>by
  simp only[List.length_cons] at hp |-;have hp1:=xG s e
  obtain⟨h1,h2⟩:=kS (l:=l) (s:=(s.apply e).1) (Sta.apply_ok h (hl e (List.mem_cons_self ..)) (by omega)) (λx hx=>hl x (List.mem_cons_of_mem _ hx)) (by omega);exact⟨h1,by rw[aC,h2,hp1];omega⟩
theorem nd{α:Type}{l:List α}{k:Nat}{x:α}(h:l[k]?=some x):l.take (k+1)=l.take k ++ [x]:=by
 rw[List.take_add_one,h];rfl
theorem j6{l:List Ent}{k:Nat}{e:Ent}(h:l[k]?=some e)(s:Sta):aC s (l.take (k+1))=((aC s (l.take k)).apply e).1:=by rw[nd h,iF];rfl
theorem AV{l:List Ent}{k:Nat}{e:Ent}(h:l[k]?=some e)(s:Sta):kF s (l.take (k+1))=kF s (l.take k) ++ [((aC s (l.take k)).apply e).2.1]:=by rw[nd h,mW];rfl
theorem ul{l:List Ent}{k:Nat}{e:Ent}(h:l[k]?=some e)(s:Sta):jA s (l.take (k+1))=jA s (l.take k) ++ [((aC s (l.take k)).apply e).2.2]:=by rw[nd h,nc];rfl
theorem pO{l:List Ent}{s:Sta}(h:dy s)(hl:∀e∈l,ip e)(hp:s.pos+l.length<=50){k:Nat}(hk:k<l.length):dy (aC s (l.take k))/\(aC s (l.take k)).pos<50:=by
 have hlen:(l.take k).length=k:=by simp;omega
 obtain⟨h1,h2⟩:=kS (l:=l.take k) h (λe he=>hl e (List.mem_of_mem_take he)) (by rw[hlen];omega);exact⟨h1,by rw[h2,hlen];omega⟩
section
open Classical
def Ent.row(e:Ent):List Value := [vi e.kind,vi e.time,vi e.client,vi e.seq,vi e.ack,vi e.op.kind,vi e.op.key,vi e.op.to,vi e.op.n]
def Ent.in64(e:Ent):Prop:=-9223372036854775808<=e.seq/\e.seq<=9223372036854775807
def av(H:Hp)(p:OL)(n c:Nat)(l:List Ent):Prop:=n<=c/\c<=maxLen/\Rows H p n 9 (l.map Ent.row)/\∀e∈l,e.in64
section
variable{H K:Hp}{p:OL}{n c:Nat}{l:List Ent}
theorem av.mono(h:av H p n c l)(hk:H.le K):av K p n c l:=⟨h.1,h.2.1,h.2.2.1.mono hk,h.2.2.2⟩
theorem av.len(h:av H p n c l):n=l.length:=by simpa using h.2.2.1.len
theorem av.lt63(h:av H p n c l):(n:Int)<=9223372036854775807:=by have:=h.1;have:=h.2.1;simp only[maxLen] at this;omega
theorem av.nil(H:Hp)(p:OL):av H p 0 0 []:=⟨Nat.le_refl _,by simp[maxLen],Rows.nil _ _ _,λe h=>by simp at h⟩
theorem av.at(h:av H p n c l){k:Nat}(hk:k<n):∃e:Ent,l[k]?=some e/\aa H p (0+(k:Int) * 9) [vi e.kind,vi e.time,vi e.client,vi e.seq,vi e.ack,vi e.op.kind,vi e.op.key,vi e.op.to,vi e.op.n]/\e.in64:=by
 obtain⟨row,h1,_,h3⟩:=h.2.2.1.at hk (off:=0+(k:Int) * 9) (by omega);rw[List.getElem?_map,Option.map_eq_some_iff] at h1;obtain⟨x,hx,rfl⟩:=h1;exact⟨x,hx,h3,h.2.2.2 x (List.mem_of_getElem? hx)⟩
theorem qn(l:List Ent):∀r∈l.map Ent.row,∀v∈r,v.oneCell'=true:=λr hr v hv=>by
 obtain⟨x,_,rfl⟩:=List.mem_map.1 hr;simp only[Ent.row,List.mem_cons,List.not_mem_nil,or_false] at hv
 rcases hv with rfl | rfl | rfl | rfl | rfl | rfl | rfl | rfl | rfl<;>rfl
theorem av.of_ow{g:Option Nat}(h:Ow H 84 9 p n c (l.map Ent.row) g)(h64:∀e∈l,e.in64):av H p n c l:=⟨h.2.2.1,h.2.2.2.1,h.rows,h64⟩
theorem av.take(h:av H p n c l)(k:Nat)(hk:k<=n):av H p k c (l.take k):=⟨Nat.le_trans hk h.1,h.2.1,by rw[List.map_take];exact h.2.2.1.take k hk,λe he=>h.2.2.2 e (List.mem_of_mem_take he)⟩
theorem Ow.keep{W W':World}{H H':Hp}{g g2:Option Nat}{e w n c:Nat}{p:OL}{rows:List (List Value)}(h:Ow H e w p n c rows g2)(hu:Upd g W W' H H')(hH:H.le (ak W))(hne:∀b,g2=some b->g≠some b):Ow H' e w p n c rows g2 :=
 h.mono λb hb o ho=>by rw[hu.same b (ag (hH b o ho)) (hne b hb)];exact ho
def xJ(x:Bool):List Value := [vb x]
def ju(H:Hp)(p:OL)(n c:Nat)(l:List Bool):Prop:=n<=c/\c<=maxLen/\Rows H p n 1 (l.map xJ)
theorem ju.of_ow{l:List Bool}{g:Option Nat}(h:Ow H 4 1 p n c (l.map xJ) g):ju H p n c l:=⟨h.2.2.1,h.2.2.2.1,h.rows⟩
theorem ju.mono{l:List Bool}(h:ju H p n c l)(hk:H.le K):ju K p n c l:=⟨h.1,h.2.1,h.2.2.mono hk⟩
theorem ju.len{l:List Bool}(h:ju H p n c l):n=l.length:=by simpa using h.2.2.len
theorem ju.at{l:List Bool}(h:ju H p n c l){k:Nat}(hk:k<n):∃x:Bool,l[k]?=some x/\aa H p (0+(k:Int) * 1) [vb x]:=by
 obtain⟨row,h1,_,h3⟩:=h.2.2.at hk (off:=0+(k:Int) * 1) (by omega);rw[List.getElem?_map,Option.map_eq_some_iff] at h1;obtain⟨x,hx,rfl⟩:=h1;exact⟨x,hx,h3⟩
end
end
end Go.Proofs.YtfpmcmhihhnfgaaGreatDoor
