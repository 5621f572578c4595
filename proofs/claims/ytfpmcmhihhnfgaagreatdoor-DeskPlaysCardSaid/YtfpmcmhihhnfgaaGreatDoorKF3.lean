/- What must be in any case, of folding. No conditions. -/
import Derived.Test.YtfpmcmhihhnfgaaGreatDoorKF2
import Derived.Test.YtfpmcmhihhnfgaaGreatDoorKL1
set_option linter.unusedVariables false
set_option linter.unusedSimpArgs false
namespace Go.Proofs.YtfpmcmhihhnfgaaGreatDoor
open Go.RowKit
set_option maxRecDepth 100000
set_option maxHeartbeats 4000000
set_option maxRecDepth 100000
theorem Rt.one{W0:World}{H:Hp}{v:Value}{post:Value->Hp->Prop}{b:Nat}{o:Obj}{kn:World->Prop}(hk:∀W,kn W->Kn W0 noM H W b o)(hp:∀D:Hp,D b=some o->post v D) :
  Rt (λz W'=>∃v D,z=.returned v/\Ext W0 W'/\D.le (ak W')/\(∀b o,D b=some o->W0.heap.size<=b)/\post v D) W0 noM H kn v:=λW n k=>by
 have hk:=hk W k;refine⟨v,bh noH b o,rfl,n.ext,gF (ba _) hk.eq,λj q hj=>?_,hp _ (cm ..)⟩;unfold bh at hj
 split at hj
 ·rename_i h;subst h;exact hk.own.resolve_right (λh=>h)
 ·cases hj
instance (e:Ent):Decidable e.in64:=by unfold Ent.in64;infer_instance
theorem Fr.none{W W':World}{H:Hp}{K:Hp->Prop}(hx:Ext W W')(hk:∀H':Hp,H.le H'->K H'):Fr W W' H K:=⟨hx,noH,ba _,(λb o h=>by cases h),λH' h _=>hk H' h⟩
theorem Cl.held{P:Program}{W0:World}{H:Hp}{kn:World->Prop}{f:Nat}{args:Array Value}{v:Value}{Φ:Ending->World->World->Prop}{b:Nat}{o:Obj}(hk:∀W,kn W->Kn W0 noM H W b o)(hc:Gv P f args (bh H b o) v)(hp:∀W W',Ext W W'->Φ (.returned v) W W'):Cl P W0 noM H kn f args Φ :=
 Cl.sameK (λW n k=>⟨bh H b o,gF n.sub (hk W k).eq,hc⟩) hp
theorem av.drop{H:Hp}{p:OL}{n c:Nat}{l:List Ent}(h:av H p n c l)(k:Nat)(hk:k<=n) :
  ∃p',Value.slice (ab p (0+(if (c:Int)=(k:Int) then 0 else (k:Int) * ((9:Nat):Int)))) (((n:Int)-(k:Int)):Int).toNat (((c:Int)-(k:Int)):Int).toNat=vsl p' (n-k) (c-k)/\av H p' (n-k) (c-k) (l.drop k):=by
 have e1:(((n:Int)-(k:Int)):Int).toNat=n-k:=by omega
 have e2:(((c:Int)-(k:Int)):Int).toNat=c-k:=by omega
 have hn:=h.len;refine⟨fR p ((0+(if (c:Int)=(k:Int) then 0 else (k:Int) * ((9:Nat):Int))).toNat),by rw[e1,e2,bD],Nat.sub_le_sub_right h.1 k,Nat.le_trans (Nat.sub_le _ _) h.2.1,?_,λe he=>h.2.2.2 e (List.mem_of_mem_drop he)⟩
 rcases Nat.eq_or_lt_of_le hk with h0 | h0
 ·subst h0;rw[List.drop_of_length_le (by omega),Nat.sub_self];exact Rows.nil _ _ _
 ·rw[if_neg (by have:=h.1;omega)];have h2:=h.2.2.1.part k n hk (Nat.le_refl _)
  rw[show (0+(k:Int) * ((9:Nat):Int)).toNat=k * 9 by omega];rw[<- List.map_drop,List.take_of_length_le (by simp;omega)] at h2;exact h2
end Go.Proofs.YtfpmcmhihhnfgaaGreatDoor
