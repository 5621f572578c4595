/- Contracts of the library's functions, as the desk uses them. No conditions. -/
import Derived.Test.YtfpmcmhihhnfgaaGreatDoorKZ1
import Derived.Test.YtfpmcmhihhnfgaaGreatDoorKZ2
import Derived.Lib.AtoiAllCases
import Derived.Lib.ItoaLen
set_option linter.unusedVariables false
set_option linter.unusedSimpArgs false
namespace Go.Proofs.YtfpmcmhihhnfgaaGreatDoor
open Go.RowKit
structure rj(W:World):Prop where
 tab:Lib.TabIs Tryz.prog W "internal/strconv.uint64pow10" .u64 Lib.pow10Tab
 m0:∃m,W.cell? ⟨0,0,none⟩=some (.int .i64 m)
 e4:∃t p,W.cell? ⟨4,0,none⟩=some (.iface t p)
 e5:∃t p,W.cell? ⟨5,0,none⟩=some (.iface t p)
def Lay(H:Hp):Prop:=∀W,H.le (ak W)->rj W
theorem Lay.mono{H K:Hp}(h:Lay H)(hl:H.le K):Lay K:=λW hW=>h W (Hp.le_trans hl hW)
theorem A8(l:List UInt8):(bs l).data.toList=l:=rfl
theorem vm(n:Int)(hn:-9223372036854775808<=n/\n<=9223372036854775807)(H:Hp)(hL:Lay H):Gv Tryz.prog 25 #[vi n] H (.string (bs (Lib.itoa n))):=λW hH =>
 (Tryz.strconv_Itoa n hn.1 hn.2 W (hL W hH).tab).mono λz W' ⟨hz,k,os,hw⟩=>⟨hz,by
  subst hw;exact⟨rfl,rfl,rfl,by simp[Sort.grow],λb hb=>Sort.heap_grow_old (W.drewN k) os hb⟩⟩
theorem rq:∀(l:List UInt8) (a:Nat),l.all isD=true->(a+1) * 10 ^ l.length<=10000000000000000000->∃u,Lib.parseUint10 a l=.ok u/\(u:Int)=l.foldl (λa b=>10 * a+((b.toNat:Int)-48)) (a:Int)
 | [],a,_,_=>⟨a,rfl,rfl⟩
 | c::r,a,h,hb=>by
  simp only[List.all_cons,Bool.and_eq_true,isD,decide_eq_true_eq] at h;have hp:1<=10 ^ r.length:=Nat.one_le_pow _ _ (by omega)
  have h1:(a+1) * 10 ^ (r.length+1)=((a+1) * 10) * 10 ^ r.length:=by rw[Nat.pow_succ];rw[Nat.mul_assoc,Nat.mul_comm 10]
  rw[List.length_cons,h1] at hb;have h2:(a+1) * 10<=10000000000000000000:=Nat.le_trans (Nat.le_mul_of_pos_right _ hp) hb
  obtain⟨u,hu,hv⟩:=rq r (a * 10+(c.toNat-48)) h.2 (Nat.le_trans (Nat.mul_le_mul_right _ (by omega)) hb);refine⟨u,?_,?_⟩
  ·unfold Lib.parseUint10;rw[if_pos (by omega),if_neg (by omega),if_neg (by omega),hu]
  ·rw[hv,List.foldl_cons]
   congr 1
   omega
theorem py(l:List UInt8)(h1:1<=l.length/\l.length<=6)(hd:l.all isD=true):Lib.atoiAll l=.ok (jm l):=by
 cases l with
 | nil=>simp at h1
 | cons c r =>
  have hc:=hd;simp only[List.all_cons,Bool.and_eq_true,isD,decide_eq_true_eq] at hc;obtain⟨u,hu,hv⟩:=rq (c::r) 0 hd (by
   have:(10:Nat) ^ (c::r).length<=10 ^ 6:=Nat.pow_le_pow_right (by omega) h1.2;have h6:(10:Nat) ^ 6=1000000:=by decide
   omega)
  obtain⟨_,hr⟩:=kX _ (c::r) rfl hd;have h6:((10 ^ (c::r).length:Nat):Int)<=((10 ^ 6:Nat):Int):=by exact_mod_cast Nat.pow_le_pow_right (by omega) h1.2
  have h66:((10 ^ 6:Nat):Int)=1000000:=by decide
  have huv:(u:Int)=jm (c::r):=hv;unfold Lib.atoiAll;simp only
  rw[if_neg (by omega)];unfold Lib.parseMag;rw[if_neg (by simp),hu];simp only
  rw[if_neg (by omega),if_neg (by omega),if_neg (by omega),huv]
theorem EI(l:List UInt8)(hl:l.length<=4096)(H:Hp)(hL:Lay H):Gf Tryz.prog 68 #[.string (bs l)] H (λv _=>∃n e,v=.tuple #[vi n,e]/\(-9223372036854775808<=n/\n<=9223372036854775807)/\(e=.nilIface\/∃t u,e=.iface t u)/\(1<=l.length/\l.length<=6->l.all isD=true->n=jm l/\e=.nilIface)):=λW hH=>by
 have hs:=az l
 rcases hr:Lib.atoiAll l with n | _ | _
 ·have hb:=Lib.atoiAll_bounds hr;refine (Tryz.strconv_Atoi_ok (bs l) (by omega) n (by rw[A8];exact hr) W).mono λz W' ⟨hz,hw⟩=>⟨_,noH,hz,?_,ba _,(λb o h=>by cases h),n,_,rfl,hb,.inl rfl,λh1 h2=>⟨?_,rfl⟩⟩
  ·rcases hw with rfl | ⟨t,rfl⟩
   ·exact Ext.refl _
   ·exact Joins.below_bytesWorld _ _ _ _ (Nat.le_refl _)
  ·rw[py l h1 h2] at hr
   injection hr with hr
   exact hr.symm
 ·obtain⟨t,p,h4⟩:=(hL W hH).e4;refine (Tryz.strconv_Atoi_syntax (bs l) (by omega) (by rw[A8];exact hr) _ W h4 (.inr ⟨t,p,rfl⟩)).mono λz W' ⟨N,hz,_,_,hw⟩=>⟨_,noH,hz,hw,ba _,(λb o h=>by cases h),_,_,rfl,by omega,.inr ⟨_,_,rfl⟩,λh1 h2=>?_⟩
  rw[py l h1 h2] at hr
  cases hr
 ·obtain⟨t,p,h4⟩:=(hL W hH).e5;refine (Tryz.strconv_Atoi_range (bs l) (by omega) (by rw[A8];exact hr) _ W h4 (.inr ⟨t,p,rfl⟩)).mono λz W' ⟨N,hz,_,_,hw⟩=>⟨_,noH,hz,hw,ba _,(λb o h=>by cases h),_,_,rfl,Lib.atoiSat_bounds _,.inr ⟨_,_,rfl⟩,λh1 h2=>?_⟩
  rw[py l h1 h2] at hr
  cases hr
theorem F1:∀(k n:Nat),n=k->(Lib.decDigits n).all isD=true/\jm (Lib.decDigits n)=n/\1<=(Lib.decDigits n).length:=λk=>by
 induction k using Nat.strongRecOn with
 | ind k ih =>
  intro n hn;subst hn;have hb:∀d:Nat,d<10->((UInt8.ofNat (48+d)).toNat:Int)-48=d/\isD (UInt8.ofNat (48+d))=true:=λd hd=>by
   have:(UInt8.ofNat (48+d)).toNat=48+d:=by rw[UInt8.toNat_ofNat'];omega
   simp only[isD,this,decide_eq_true_eq]
   omega
  by_cases h10:n<10
  ·obtain⟨h1,h2⟩:=hb n h10;rw[Lib.decDigits_one h10];exact⟨by simp only[List.all_cons,List.all_nil,Bool.and_true];exact h2,by simp only[jm,List.foldl_cons,List.foldl_nil];omega,by simp⟩
  ·obtain⟨h1,h2⟩:=hb (n % 10) (by omega);obtain⟨i1,i2,i3⟩:=ih (n / 10) (by omega) (n / 10) rfl;have hdd:Lib.decDigits n=Lib.decDigits (n / 10) ++ [UInt8.ofNat (48+n % 10)]:=by rw[Lib.decDigits,dif_neg (by omega)]
   rw[hdd];refine⟨by simp only[List.all_append,i1,List.all_cons,List.all_nil,Bool.and_true,Bool.true_and];exact h2,?_,by simp⟩;rw[o9,i2,h1];omega
theorem yq(l:List UInt8)(n:Int)(h0:0<=n)(h6:l.length<=6)(h:Lib.itoa n=l):ad l=n:=by
 obtain⟨k,rfl⟩:∃k:Nat,n=k:=⟨n.toNat,by omega⟩
 rw[Lib.itoa_nonneg] at h;obtain⟨h1,h2,h3⟩:=F1 k k rfl;rw[h] at h1 h2 h3;unfold ad;rw[if_pos ⟨⟨h3,h6⟩,h1,by rw[h2,Lib.itoa_nonneg];exact h⟩,h2]
def isN:Value->Bool
 | .nilIface=>true
 | _=>false
theorem y8{W:World}(x:Operand)(e:Value)(h:e=.nilIface\/∃t u,e=.iface t u):(EK.sem (.bop .eql 51 x (.const .nilIface)) [e,.nilIface]).run Tryz.prog W=.ok (.value (vb (isN e))) W:=by
 have hu:Tryz.prog.underlying 51=some (.interface (Tryz.prog.methodsAt 51)):=by kernel_rfl
 rcases h with rfl | ⟨t,u,rfl⟩
 ·have h:=run_eql_nil_nil (P:=Tryz.prog) W 51 hu;have hg:eqGuard .eql 51 x (.const .nilIface) .nilIface .nilIface=pure ():=eqGuard_nil_constR ..
  simp only[EK.sem,List.getD_cons_zero,List.getD_cons_succ,hg,pure_bind,Sem.run_bind,h,Result.andThen_ok,Sem.run_pure]
  rfl
 ·have h:=run_eql_held_nil (P:=Tryz.prog) W 51 t u hu;have hg:eqGuard .eql 51 x (.const .nilIface) (.iface t u) .nilIface=pure ():=rfl
  simp only[EK.sem,List.getD_cons_zero,List.getD_cons_succ,hg,pure_bind,Sem.run_bind,h,Result.andThen_ok,Sem.run_pure]
  rfl
theorem mI{l:List UInt8}(h:((1<=l.length/\l.length<=6)/\l.all isD=true/\Lib.itoa (jm l)=l)->False):ad l = -1:=by
 unfold ad;rw[if_neg h]
theorem fV(l:List UInt8)(hl:l.length<=4096)(H:Hp)(hL:Lay H):Gp Tryz.prog 45 #[.string (bs l)] H (λv _=>0<=ad l/\v=vi (ad l)) (λu=>ad l = -1/\u=li 1):=λW hH=>by
 refine Er (bs l) noM H W _ hH ?_;have bad:ad l = -1->∀{H1:Hp} {v:Value},Clp Tryz.prog W noM H1 nK 28 #[vb false,vi 1] (λz W5 W6=>z=.returned (vt #[])/\Ext W5 W6/\Rt (RGp W (λv _=>0<=ad l/\v=vi (ad l)) (λu=>ad l = -1/\u=li 1)) W noM H1 nK v) λps W'=>Dr Tryz.prog (RGp W (λv _=>0<=ad l/\v=vi (ad l)) (λu=>ad l = -1/\u=li 1)) none [] (.panicking ps) W':=λhn {H1} {v} =>
  Clp.gp (dx false 1 H1) (λ_ _ _ _ ⟨h,_⟩ _ _ _ _=>by cases h) (λu W5 W6 ⟨_,hu⟩ hx n=>RGp.out ⟨hn,hu⟩ (n.ext.trans hx))
 refine Cl.fresh (EI l hl H hL) ?_;intro v W1 W2 D ⟨n,e,hv,hb,he,hd⟩ hx hD hDn n1;refine⟨n,e,by rw[hv],hx,D,hD,hDn,λH1 h1 h2=>?_⟩;refine λW3 n3 _=>⟨isN e,_,y8 _ e he,Ext.refl _,λhn=>⟨λh0=>⟨λh6=>?_,λh6=>bad ?_⟩,λh0=>bad ?_⟩,λhn=>bad ?_⟩
 ·have hc:=vm n hb H1 (hL.mono h1);generalize ht:Lib.itoa n=t at hc;refine Cl.same hc λ_ _ hx=>⟨_,rfl,hx,λW5 n5 _=>⟨_,_,qN _ _ t l,Ext.refl _,?_⟩⟩
  refine Clp.gp (dx _ 1 H1) (λ_ _ _ _ ⟨h,hz⟩ hx _ _ _=>⟨by rw[hz],hx,?_⟩) (λu W5 W6 ⟨h,hu⟩ hx n5=>RGp.out ⟨?_,hu⟩ (n5.ext.trans hx))
  ·have hn1:=yq l n h0 (by rw[az] at h6;omega) (ht.trans (of_decide_eq_true h));refine Rt.gp ⟨by omega,by rw[hn1]⟩
  ·refine mI λhc1=>of_decide_eq_false h ?_;have:=(hd hc1.1 hc1.2.1).1
   rw[<- ht,this];exact hc1.2.2
 ·refine mI λhc1=>h6 ?_;rw[az];omega
 ·refine mI λhc1=>h0 ?_;have:=(kX _ l rfl hc1.2.1).1
  have:=(hd hc1.1 hc1.2.1).1;omega
 ·refine mI λhc1=>hn ?_;rw[(hd hc1.1 hc1.2.1).2];rfl
def au(x:Int):List Value := [vi x]
def iz(l:List Int):List UInt8:=Lib.join (l.map Lib.itoa) [32]
theorem pB(B:Nat):∀(ws:List (List UInt8)),(∀w∈ws,w.length<=B)->(Lib.join ws [32]).length<=ws.length * (B+1)
 | [],_=>by simp[Lib.join_nil]
 | [w],h=>by
  have:=h w (by simp);rw[Lib.join_one];simp only[List.length_cons,List.length_nil]
  omega
 | w::v::r,h=>by
  have h1:=h w (by simp);have h2:=pB B (v::r) λx hx=>h x (List.mem_cons_of_mem _ hx)
  have he:Lib.join (w::v::r) [32]=w ++ [32]++Lib.join (v::r) [32]:=by simp[Lib.join,List.intercalate]
  rw[he];simp only[List.length_append,List.length_cons,List.length_nil] at h2 |-;have:(r.length+1+1) * (B+1)=(r.length+1) * (B+1)+(B+1):=Nat.succ_mul _ _
  omega
theorem wg:∀ws:List (List UInt8),(ws.map p9).flatten=ws.map λw=>vs (bs w)
 | []=>rfl
 | w::ws=>by simp only[List.map_cons,List.flatten_cons,wg ws];rfl
theorem EE(p:OL)(n c:Nat)(ws:List (List UInt8))(H:Hp)(h:Strs H p n c ws)(hB:(Lib.join ws [32]).length<=140737488355328)(hn:ws.length<=1000000):Gv Tryz.prog 91 #[vsl p n c,.string ⟨#[32]⟩] H (.string (bs (Lib.join ws [32]))):=λW hH=>by
 obtain⟨hnc,hc,hr⟩:=h;have hl:n=ws.length:=by simpa using hr.len
 rcases Nat.eq_zero_or_pos n with h0 | h0
 ·subst h0;have hw:ws = []:=List.length_eq_zero_iff.1 hl.symm
  subst hw;exact (Tryz.strings_Join_none (ab p 0) c ⟨#[32]⟩ W).mono λz W' ⟨hz,hw⟩=>⟨hz,by subst hw;exact Ext.refl _⟩
 ·obtain⟨r,_,_,b,o,rfl,C,T,fz,hb,_⟩:=hr.at (k:=0) h0 (off:=0) (by simp);have hcell:∀(j:Nat) (x:ByteArray),(ws.map bs)[j]?=some x->W.cell? ⟨b,o+j,none⟩=some (.string x):=λj x hx=>by
   have:=hr.cells hH (by omega) j (.string x) (by
    rw[wg];rw[List.getElem?_map,Option.map_eq_some_iff] at hx |-;obtain⟨w,h1,h2⟩:=hx;exact⟨w,h1,by rw[h2]⟩)
   rwa [nx] at this
  have hsz:b<W.heap.size:=(Array.getElem?_eq_some_iff.1 (hH b _ hb)).1;have hm:(ws.map bs).map (·.data.toList)=ws:=by rw[List.map_map];exact List.map_id' ws
  have:=Tryz.strings_Join b o c (ws.map bs) ⟨#[32]⟩ W hcell hsz (by rw[List.length_map];omega) (by rw[List.length_map];omega) (by rw[hm];exact hB);rw[hm,List.length_map,<- hl] at this;exact this.mono λz W' ⟨hz,hw⟩=>⟨hz,hw⟩
theorem aW(x:Int)(h:-9223372036854775808<=x/\x<=9223372036854775807):(Lib.itoa x).length<=21:=Lib.itoa_length_le x h.1 h.2
theorem rk(p:OL)(n c:Nat)(l:List Int)(H:Hp)(hL:Lay H)(hr:Rows H p n 1 (l.map au))(hb:∀x∈l,-9223372036854775808<=x/\x<=9223372036854775807)(h8:l.length<=1000):Gv Tryz.prog 67 #[vsl p n c] H (.string (bs (iz l))):=λW hH=>by
 have hn:n=l.length:=by simpa using hr.len
 refine yJ p n c noM H W _ hH ⟨by omega,λ_=>?_⟩;refine⟨λv K=>match v with | [.n j,.p p2,.n m,.n c2]=>∃g:Option Nat,j<=n/\m=j/\H.le K/\Ow K 9 1 p2 m c2 (((l.take j).map Lib.itoa).map p9) g/\(∀b,g=some b->W.heap.size<=b) | _=>False,
  λv=>match v with | .n j::_=>n-j | _=>0,⟨none,by omega,rfl,Hp.le_refl H,Ow.nil _ _ _ _,λb h=>(by cases h)⟩,λK j p2 m c2 hI=>?_⟩
 obtain⟨g,hj,rfl,hle,ho,hg⟩:=hI;rw[bT] at ho;refine⟨λhlt=>?_,λhge=>?_⟩
 ·obtain⟨r,h1,h2,h3⟩:=hr.at (k:=m) (by omega) (off:=0+(m:Int) * 1) (by omega)
  rw[List.getElem?_map,Option.map_eq_some_iff] at h1;obtain⟨x,hx,rfl⟩:=h1;refine⟨by omega,λ_=>⟨h3.isSome,λ_=>⟨x,h3.mono hle,?_⟩⟩⟩;refine Cl.same (vm x (hb x (List.mem_of_getElem? hx)) K (hL.mono hle)) λ_ _ hx'=>⟨_,rfl,hx',λb0 W5 n5 k5=>?_⟩
  obtain⟨p',c',g',W6,K2,hrun,hu,ho2,hg2,_⟩:=aD Tryz.underlying67 wy (by omega) n5.sub ho (row:=p9 (Lib.itoa x)) k5.1.eq k5.1.off rfl (λv hv=>by simp only[p9,List.mem_singleton] at hv;subst hv;rfl) (by simp only[maxLen];omega) (by omega) 67;refine⟨p',_,c',W6,hrun,K2,hu.own ho (λb hb=>.inl (hg b hb)),in64 (by omega),λ_=>⟨by omega,λ_=>⟨by omega,λ_=>⟨by omega,λ_=>?_⟩⟩⟩⟩;rw[show ((m:Int)+1).toNat=m+1 by omega,bT];refine⟨⟨g',by omega,rfl,hu.keep n5.sub hle (λb hb=>ao hH (hg b hb)),?_,λb hb=>?_⟩,by simp only;omega⟩
  ·rw[List.take_add_one,hx];simpa using ho2
  ·rcases hg2 with h | h
   ·exact hg b (h▸hb)
   ·rw[h] at hb;simp only[Option.some.injEq] at hb;have:=n5.mod.size;omega
 ·have hml:m=l.length:=by omega
  rw[List.take_of_length_le (by omega)] at ho;have hq:(l.map Lib.itoa).length=l.length:=List.length_map ..
  have hjl:=pB 21 (l.map Lib.itoa) λw hw=>by
   obtain⟨x,hx,rfl⟩:=List.mem_map.1 hw;exact aW x (hb x hx)
  exact Cl.same (EE p2 m c2 (l.map Lib.itoa) K ⟨ho.2.2.1,ho.2.2.2.1,ho.rows⟩ (by omega) (by omega)) λ_ _ hx=>⟨_,rfl,hx,Rt.gv⟩
end Go.Proofs.YtfpmcmhihhnfgaaGreatDoor
