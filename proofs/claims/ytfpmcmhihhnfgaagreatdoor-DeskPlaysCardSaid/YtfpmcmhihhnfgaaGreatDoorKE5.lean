/- Calls that may panic with a value of their own, over memory held fast. No conditions. -/
import Derived.Test.YtfpmcmhihhnfgaaGreatDoorKY1
import Derived.MapKept
set_option linter.unusedVariables false
set_option linter.unusedSimpArgs false
namespace Go.Proofs.YtfpmcmhihhnfgaaGreatDoor
open Go.RowKit
def Gp(P:Program)(f:Nat)(args:Array Value)(H:Hp)(post:Value->Hp->Prop)(pan:Value->Prop):Prop :=
 ∀W,H.le (ak W)->Calls P f args W λz W'=>Ext W W'/\((∃v D,z=.returned v/\D.le (ak W')/\(∀b o,D b=some o->W.heap.size<=b)/\post v D)\/(∃u,pan u/\z=.panicked [{ v:=u,recovered:=false }]))
abbrev RGp(W0:World)(post:Value->Hp->Prop)(pan:Value->Prop):Ending->World->Prop:=λz W' =>
 Ext W0 W'/\((∃v D,z=.returned v/\D.le (ak W')/\(∀b o,D b=some o->W0.heap.size<=b)/\post v D)\/(∃u,pan u/\z=.panicked [{ v:=u,recovered:=false }]))
section
variable{P:Program}{W0 W W':World}{M:Nat->Prop}{H D:Hp}{kn:World->Prop}{f:Nat}{args:Array Value}{Φ:Ending->World->World->Prop}{Ψ:List PanicEntry->World->Prop}{post:Value->Hp->Prop}{pan:Value->Prop}
theorem Clp.gp(hc:Gp P f args H post pan)(hk:∀v W W' D,post v D->Ext W W'->D.le (ak W')->(∀b o,D b=some o->W.heap.size<=b)->Now W0 M H W->Φ (.returned v) W W')
  (hp:∀u W W',pan u->Ext W W'->Now W0 M H W->Ψ [{ v:=u,recovered:=false }] W'):Clp P W0 M H kn f args Φ Ψ:=λW n _=>by
 refine (hc W n.sub).mono λz W' ⟨hx,hz⟩=>?_
 rcases hz with⟨v,D,rfl,h1,h2,h3⟩ | ⟨u,h1,rfl⟩
 ·exact .inl (hk v W W' D h3 hx h1 h2 n)
 ·exact .inr ⟨_,rfl,hp u W W' h1 hx n⟩
theorem Rt.gp{v:Value}(hp:post v (aX W0 H)):Rt (RGp W0 post pan) W0 noM H kn v:=λW n _ =>
 ⟨n.ext,.inl ⟨v,_,rfl,Hp.le_trans (fW W0 H) n.sub,dw W0 H,hp⟩⟩
theorem RGp.out{u:Value}(hp:pan u)(hx:Ext W0 W'):RGp W0 post pan (.panicked [{ v:=u,recovered:=false }]) W':=⟨hx,.inr ⟨u,hp,rfl⟩⟩
end
def Gtp(P:Program)(f:Nat)(args:Array Value)(H:Hp)(b0 T:Nat)(C:Array Value)(post:Value->Array Value->Hp->Prop)(pan:Value->Prop):Prop :=
 ∀W,H.le (ak W)->W.heap[b0]?=some (.cells C T (0,0))->H b0=none->Calls P f args W λz W' =>
  (∃v C' D,z=.returned v/\Mod (λb=>b=b0) W W'/\W'.heap[b0]?=some (.cells C' T (0,0))/\D.le (ak W')/\(∀b o,D b=some o->W.heap.size<=b)/\post v C' D)\/(∃u,pan u/\Ext W W'/\z=.panicked [{ v:=u,recovered:=false }])
abbrev gP(W0:World)(b0 T:Nat)(post:Value->Array Value->Hp->Prop)(pan:Value->Prop):Ending->World->Prop:=λz W' =>
  (∃v C' D,z=.returned v/\Mod (λb=>b=b0) W0 W'/\W'.heap[b0]?=some (.cells C' T (0,0))/\D.le (ak W')/\(∀b o,D b=some o->W0.heap.size<=b)/\post v C' D)\/(∃u,pan u/\Ext W0 W'/\z=.panicked [{ v:=u,recovered:=false }])
section
variable{P:Program}{W0 W W':World}{M:Nat->Prop}{H D:Hp}{kn:World->Prop}{f:Nat}{args:Array Value}{Φ:Ending->World->World->Prop}{Ψ:List PanicEntry->World->Prop}{b0 T:Nat}{C C':Array Value}{post:Value->Array Value->Hp->Prop}{postv:Value->Hp->Prop}{pan:Value->Prop}
theorem Clp.gpk(hc:Gp P f args H postv pan)(hk:∀v W W' D,postv v D->Ext W W'->D.le (ak W')->(∀b o,D b=some o->W.heap.size<=b)->Now W0 M H W->Φ (.returned v) W W')
  (hp:∀u W W',pan u->Ext W W'->Now W0 M H W->kn W->Ψ [{ v:=u,recovered:=false }] W'):Clp P W0 M H kn f args Φ Ψ:=λW n k=>by
 refine (hc W n.sub).mono λz W' ⟨hx,hz⟩=>?_
 rcases hz with⟨v,D,rfl,h1,h2,h3⟩ | ⟨u,h1,rfl⟩
 ·exact .inl (hk v W W' D h3 hx h1 h2 n)
 ·exact .inr ⟨_,rfl,hp u W W' h1 hx n k⟩
theorem Clp.gtp(hc:Gtp P f args H b0 T C post pan)(hkn:∀W,kn W->Kn W0 M H W b0 (.cells C T (0,0)))(hk:∀v W W' C' D,post v C' D->Beh b0 T C' D W W'->Now W0 M H W->W.heap[b0]?=some (.cells C T (0,0))->H b0=none->Φ (.returned v) W W')
  (hp:∀u W W',pan u->Ext W W'->Now W0 M H W->kn W->Ψ [{ v:=u,recovered:=false }] W'):Clp P W0 M H kn f args Φ Ψ:=λW n k=>by
 have h1:=hkn W k;refine (hc W n.sub h1.eq h1.off).mono λz W' hz=>?_
 rcases hz with⟨v,C',D,rfl,hm,h2,h3,h4,h5⟩ | ⟨u,h2,h3,rfl⟩
 ·exact .inl (hk v W W' C' D h5 ⟨hm,h2,h3,h4⟩ n h1.eq h1.off)
 ·exact .inr ⟨_,rfl,hp u W W' h2 h3 n k⟩
theorem Rt.gt2{v:Value}(hkn:∀W,kn W->W.heap[b0]?=some (.cells C' T (0,0)))(hp:post v C' (aX W0 H)):Rt (gP W0 b0 T post pan) W0 (λb=>b=b0) H kn v:=λW n k =>
 .inl ⟨v,C',_,rfl,n.mod,hkn W k,Hp.le_trans (fW W0 H) n.sub,dw W0 H,hp⟩
theorem gP.out{u:Value}(hp:pan u)(hx:Ext W W')(n:Now W0 (λb=>b=b0) H W)(h0:W0.heap[b0]?=some (.cells C T (0,0)))(h1:W.heap[b0]?=some (.cells C T (0,0))):gP W0 b0 T post pan (.panicked [{ v:=u,recovered:=false }]) W' :=
 .inr ⟨u,hp,⟨hx.os.trans n.mod.os,hx.tape.trans n.mod.tape,hx.output.trans n.mod.output,Nat.le_trans n.mod.size hx.size,λb hb=>(hx.block b (Nat.lt_of_lt_of_le hb n.mod.size)).trans (by
  by_cases he:b=b0
  ·rw[he,h0,h1]
  ·exact n.mod.blk b hb he)⟩,rfl⟩
end
def E0(e:MapEntry):Value × Value:=(e.key,e.val)
def y7(p:List UInt8 × Value):Value × Value:=(.string (bs p.1),p.2)
def pY(es:Array MapEntry)(L:List (List UInt8 × Value)):Prop:=es.toList.map E0=L.map y7
def lkp(k:List UInt8)(L:List (List UInt8 × Value)):Option Value:=(L.find? λp=>decide (p.1=k)).map (·.2)
theorem EQ(a b:List UInt8):(bs a==bs b)=decide (a=b):=by
 by_cases h:a=b
 ·subst h;simp[(MapKept.bytes_beq (bs a) (bs a)).2 rfl]
 ·rw[decide_eq_false h]
  cases hb:(bs a==bs b) with
  | false=>rfl
  | true=>exact absurd (Ec ((MapKept.bytes_beq _ _).1 hb)) h
theorem nh(k:List UInt8):∀(es:List MapEntry) (L:List (List UInt8 × Value)) (i:Nat),es.map E0=L.map y7->∃r,Instr.findNow .string (.string (bs k)) es i=some r/\r.map (·.2)=lkp k L
 | [],[],_,_=>⟨none,rfl,rfl⟩
 | [],_::_,_,h=>by simp at h
 | _::_,[],_,h=>by simp at h
 | e::es,p::L,i,h=>by
  simp only[List.map_cons,List.cons.injEq,E0,y7,Prod.mk.injEq] at h;obtain⟨⟨h1,h2⟩,h3⟩:=h;simp only[Instr.findNow,h1,Instr.sameNow,EQ]
  by_cases hk:k=p.1
  ·rw[decide_eq_true hk];exact⟨_,rfl,by simp[lkp,hk,h2]⟩
  ·rw[decide_eq_false hk];obtain⟨r,h4,h5⟩:=nh k es L (i+1) h3;refine⟨r,h4,?_⟩;rw[h5];have:¬p.1=k:=λhe=>hk he.symm
   simp[lkp,this]
section
variable{P:Program}{W0 W:World}{M:Nat->Prop}{H:Hp}{b:Nat}{es:Array MapEntry}{c:Nat}{mty kt et:Nat}
theorem BG(t:Nat)(W:World):(EK.sem (.mkMap t) []).run P W=.ok (.value (.map (some W.heap.size))) (W.alloc (.map #[] 0)):=rfl
theorem r5{L:List (List UInt8 × Value)}(hm:P.underlying mty=some (.map kt et))(hd:P.underlying kt=some .string)(hb:W.heap[b]?=some (.map es c))(hL:pY es L){k:List UInt8}(hk:lkp k L=none)(v:Value) :
  (EK.sem (.ins mty) [.map (some b),.string (bs k),v]).run P W=.ok .skip { W with heap:=W.heap.setIfInBounds b (.map (es.push ⟨.string (bs k),v,c⟩) (c+1)) }:=by
 obtain⟨r,hf,hr⟩:=nh k es.toList L 0 hL;rw[hk] at hr;have hr0:r=none:=by cases r<;>simp_all
 subst hr0;have h1:=MapKept.run_checkKey (P:=P) (w:=W) hd (k:=.string (bs k)) trivial false 9999
 have h2:=MapKept.run_findKey (P:=P) (w:=W) hd hf;have h3:=MapKept.run_getObj_map (P:=P) hb
 have h4:=MapKept.run_setObj_map (P:=P) (.map (es.push ⟨.string (bs k),v,c⟩) (c+1)) hb;simp only[EK.sem,Instr.mapUpdate,List.getD_cons_zero,List.getD_cons_succ,Sem.run_bind,run_underlying hm,Result.andThen_ok,h3,h1,h2,h4,Sem.run_pure]
theorem B1{L:List (List UInt8 × Value)}(hm:P.underlying mty=some (.map kt et))(hd:P.underlying kt=some .string)(hb:W.heap[b]?=some (.map es c))(hL:pY es L)(k:List UInt8){z:Value}(hz:(zeroValue et).run P W=.ok z W) :
  (EK.sem (.lookup mty false) [.map (some b),.string (bs k)]).run P W=.ok (.value ((lkp k L).getD z)) W:=by
 obtain⟨r,hf,hr⟩:=nh k es.toList L 0 hL;have h1:=MapKept.run_checkKey (P:=P) (w:=W) hd (k:=.string (bs k)) trivial es.isEmpty 9999
 have h2:=MapKept.run_findKey (P:=P) (w:=W) hd hf;have h3:=MapKept.run_getObj_map (P:=P) hb
 rw[<- hr];simp only[EK.sem,Instr.lookup,List.getD_cons_zero,List.getD_cons_succ,Sem.run_bind,run_underlying hm,Result.andThen_ok,h3,Sem.run_pure,h1,h2]
 cases r with
 | none=>simp[hz]
 | some p=>simp
theorem fh{L:List (List UInt8 × Value)}(hm:P.underlying mty=some (.map kt et))(hd:P.underlying kt=some .string)(hb:W.heap[b]?=some (.map es c))(hL:pY es L)(k:List UInt8){z:Value}(hz:(zeroValue et).run P W=.ok z W) :
  (EK.sem (.lookup mty true) [.map (some b),.string (bs k)]).run P W=.ok (.value (.tuple #[(lkp k L).getD z,.bool (lkp k L).isSome])) W:=by
 obtain⟨r,hf,hr⟩:=nh k es.toList L 0 hL;have h1:=MapKept.run_checkKey (P:=P) (w:=W) hd (k:=.string (bs k)) trivial es.isEmpty 9999
 have h2:=MapKept.run_findKey (P:=P) (w:=W) hd hf;have h3:=MapKept.run_getObj_map (P:=P) hb
 rw[<- hr];simp only[EK.sem,Instr.lookup,List.getD_cons_zero,List.getD_cons_succ,Sem.run_bind,run_underlying hm,Result.andThen_ok,h3,Sem.run_pure,h1,h2]
 cases r with
 | none=>simp[hz]
 | some p=>simp
theorem pK{o o':Obj}(n:Now W0 M H W)(hb:H b=some o)(own:W0.heap.size<=b\/M b):gH W0 M H W (bh H b o') { W with heap:=W.heap.setIfInBounds b o' }:=by
 have hlt:=ag (n.sub b o hb);refine⟨⟨rfl,rfl,rfl,by simp,λk hk hn=>?_⟩,λk q hk=>?_,λk q hk=>?_⟩
 ·have hne:b≠k:=λhe=>hn ⟨⟨o,he▸hb⟩,he▸own⟩;simp only[Array.getElem?_setIfInBounds_ne hne]
 ·unfold bh at hk;simp only[ak]
  split at hk
  ·rename_i he;subst he;rw[<- hk];simp[hlt]
  ·rename_i he;rw[Array.getElem?_setIfInBounds_ne (λh=>he h.symm)];exact n.sub k q hk
 ·unfold bh at hk
  split at hk
  ·rename_i he;subst he;exact .inl ⟨o,hb⟩
  ·exact .inl ⟨q,hk⟩
theorem Fr.is{W W':World}{H D:Hp}{K:Hp->Prop}(hx:Ext W W')(hD:D.le (ak W'))(hf:∀b o,D b=some o->W.heap.size<=b)(hK:∀H':Hp,H.le H'->D.le H'->K H'):Fr W W' H K:=⟨hx,D,hD,hf,hK⟩
theorem iP(W:World)(o:Obj):Ext W (W.alloc o):=⟨rfl,rfl,rfl,by simp,λ_ hb=>heap_alloc_old W o hb⟩
theorem vX{K:Hp}{o:Obj}(h:K.le H)(hb:K b=none):K.le (bh H b o):=λk q hk=>by
 unfold bh;rw[if_neg (λhe=>by rw[he,hb] at hk;cases hk)];exact h k q hk
end
end Go.Proofs.YtfpmcmhihhnfgaaGreatDoor
