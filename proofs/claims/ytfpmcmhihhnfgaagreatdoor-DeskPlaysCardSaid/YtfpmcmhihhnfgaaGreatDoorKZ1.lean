/- Contracts: what the desk's document says of numbers and words. No conditions. -/
import Derived.Test.YtfpmcmhihhnfgaaGreatDoorKL1
import Derived.Laws.Strings2
import Derived.Lib.ItoaNum
import Derived.Test.YtfpmcmhihhnfgaaGreatDoorKE5
set_option linter.unusedVariables false
set_option linter.unusedSimpArgs false
namespace Go.Proofs.YtfpmcmhihhnfgaaGreatDoor
open Go.RowKit
set_option maxRecDepth 100000
set_option maxHeartbeats 4000000
theorem sL(x0:Int):Xw 16 #[vi x0] λM H0 W0 _ C Q T=>(It (x0<0) (Ck (ae .i64 (0-x0)) (C H0 nK 16 #[vi (0-x0)] λz W1 W2=>∃x1:ByteArray,z=.returned (vs x1)/\Ext W1 W2/\(Q H0 nK λW3=>∃x2:ByteArray,Eo' (.bop .add 9 (.const (vT)) (.tmp 8)) [vT,vs x1] W3 (.value (vs x2)) λW4=>Ext W3 W4/\T H0 nK (vs x2)))) (Q H0 nK λW1=>∃x1:Int,Eo' (.bop .rem 3 (.tmp 10) (.const (Value.int .i64 10))) [vi x0,vi 10] W1 (.value (vi x1)) λW2=>Ext W1 W2/\(Ck (ae .i64 (48+x1)) (∀b0:Nat,(Q H0 (λW=>Kn W0 M H0 W b0 (Obj.cells #[Value.int .u8 (IntKind.wrap .u8 (48+x1))] 5 (0,0))/\True) λW3=>∃x2:ByteArray,Eo' (.conv 44 9) [Value.slice (some ⟨b0,0,none⟩) 1 1] W3 (.value (vs x2)) λW4=>Ext W3 W4/\(It (x0<10) (T H0 nK (vs x2)) (Q H0 nK λW5=>∃x3:Int,Eo' (.bop .quo 3 (.tmp 19) (.const (Value.int .i64 10))) [vi x0,vi 10] W5 (.value (vi x3)) λW6=>Ext W5 W6/\(C H0 nK 16 #[vi x3] λz W7 W8=>∃x4:ByteArray,z=.returned (vs x4)/\Ext W7 W8/\(Q H0 nK λW9=>∃x5:ByteArray,Eo' (.bop .add 9 (.tmp 21) (.tmp 22)) [vs x4,vs x2] W9 (.value (vs x5)) λW10=>Ext W9 W10/\T H0 nK (vs x5)))))))))) :=
 Xa (hi:={}) (args := [vI 0]) (nv:=1) (e:=lk [.i x0]) Tryz.func16
theorem El(x0:ByteArray):Xw 32 #[vs x0] λ_ H0 _ _ C Q T=>(C H0 nK 52 #[vi (x0.size:Int),vi 1,vi 6] λz W1 W2=>∃x1:Bool,z=.returned (vb (x1))/\Ext W1 W2/\(It (x1=true) (∃(I0:List Dat->Hp->Prop) (μ0:List Dat->Nat),I0 [.n 0,.i 0] H0/\∀H1:Hp,∀(x2:Nat) (x3:Int),I0 [.n x2,.i x3] H1->(It ((x2:Int)<(x0.size:Int)) (Q H1 nK λW3=>∃x4:Int,Eo' (.idx 9) [vs x0,vi (x2:Int)] W3 (.value (Value.int .u8 x4)) λW4=>Ext W3 W4/\(It (x4<48) (T H1 nK (vi (-1))) (Q H1 nK λW5=>∃x5:Int,Eo' (.idx 9) [vs x0,vi (x2:Int)] W5 (.value (Value.int .u8 x5)) λW6=>Ext W5 W6/\(It (57<x5) (T H1 nK (vi (-1))) (Ck (ae .i64 (10 * x3)) (Q H1 nK λW7=>∃x6:Int,Eo' (.idx 9) [vs x0,vi (x2:Int)] W7 (.value (Value.int .u8 x6)) λW8=>Ext W7 W8/\(Ck (ae .u8 (x6-48)) (Ck (ae .i64 (x6-48)) (Ck (ae .i64 ((10 * x3)+(x6-48))) (Ck (ae .i64 ((x2:Int)+1)) (Ck (0<=((x2:Int)+1)) (I0 [.n (((x2:Int)+1):Int).toNat,.i ((10 * x3)+(x6-48))] H1/\μ0 [.n (((x2:Int)+1):Int).toNat,.i ((10 * x3)+(x6-48))]<μ0 [.n x2,.i x3])))))))))))) (C H1 nK 16 #[vi x3] λz W3 W4=>∃x4:ByteArray,z=.returned (vs x4)/\Ext W3 W4/\(Q H1 nK λW5=>∃x5:Bool,Eo' (.bop .neq 9 (.tmp 34) (.tmp 35)) [vs x4,vs x0] W5 (.value (vb (x5))) λW6=>Ext W5 W6/\(It (x5=true) (T H1 nK (vi (-1))) (T H1 nK (vi x3))))))) (T H0 nK (vi (-1))))) :=
 Xa (hi:={loops := [(5,.inv [(4,.nat),(3,.pt (.int .i64))] [])]}) (args := [.str 0]) (nv:=1) (e:=lk [.s x0]) Tryz.func32
theorem zP(x0:ByteArray):Xw 30 #[vs x0] λM H0 W0 _ _ Q T=>(∃(I0:List Dat->Hp->Prop) (μ0:List Dat->Nat),I0 [.n 0,.n 0,.p none,.n 0,.n 0] H0/\∀H1:Hp,∀(x1 x2:Nat) (x3:OL) (x4 x5:Nat),I0 [.n x1,.n x2,.p (sh x3),.n x4,.n x5] H1->(It ((x1:Int)<=(x0.size:Int)) (It ((x1:Int)=(x0.size:Int)) (Q H1 nK λW1=>∃x6:ByteArray,Eo' (.slice 9 true true false) [vs x0,vi (x2:Int),vi (x1:Int)] W1 (.value (vs x6)) λW2=>Ext W1 W2/\(∀b0:Nat,(Q H1 (λW=>Kn W0 M H1 W b0 (Obj.cells #[vs x6] 9 (0,0))/\True) λW3=>∃(x7:OL) (x8 x9:Nat),Eo' (.bi .append #[67,67] 67) [vsl x3 x4 x5,Value.slice (some ⟨b0,0,none⟩) 1 1] W3 (.value (vsl x7 x8 x9)) λW4=>Tn W0 M H1 W3 W4 λH2=>(Ck (ae .i64 ((x1:Int)+1)) (Ck (0<=((x1:Int)+1)) (Ck (0<=(x8:Int)) (Ck (0<=(x9:Int)) (I0 [.n (((x1:Int)+1):Int).toNat,.n (((x1:Int)+1):Int).toNat,.p (sh x7),.n x8,.n x9] H2/\μ0 [.n (((x1:Int)+1):Int).toNat,.n (((x1:Int)+1):Int).toNat,.p (sh x7),.n x8,.n x9]<μ0 [.n x1,.n x2,.p (sh x3),.n x4,.n x5])))))))) (Q H1 nK λW1=>∃x6:Int,Eo' (.idx 9) [vs x0,vi (x1:Int)] W1 (.value (Value.int .u8 x6)) λW2=>Ext W1 W2/\(It (x6=32) (Q H1 nK λW3=>∃x7:ByteArray,Eo' (.slice 9 true true false) [vs x0,vi (x2:Int),vi (x1:Int)] W3 (.value (vs x7)) λW4=>Ext W3 W4/\(∀b0:Nat,(Q H1 (λW=>Kn W0 M H1 W b0 (Obj.cells #[vs x7] 9 (0,0))/\True) λW5=>∃(x8:OL) (x9 c0:Nat),Eo' (.bi .append #[67,67] 67) [vsl x3 x4 x5,Value.slice (some ⟨b0,0,none⟩) 1 1] W5 (.value (vsl x8 x9 c0)) λW6=>Tn W0 M H1 W5 W6 λH2=>(Ck (ae .i64 ((x1:Int)+1)) (Ck (0<=((x1:Int)+1)) (Ck (0<=(x9:Int)) (Ck (0<=(c0:Int)) (I0 [.n (((x1:Int)+1):Int).toNat,.n (((x1:Int)+1):Int).toNat,.p (sh x8),.n x9,.n c0] H2/\μ0 [.n (((x1:Int)+1):Int).toNat,.n (((x1:Int)+1):Int).toNat,.p (sh x8),.n x9,.n c0]<μ0 [.n x1,.n x2,.p (sh x3),.n x4,.n x5])))))))) (Ck (ae .i64 ((x1:Int)+1)) (Ck (0<=((x1:Int)+1)) (Ck (0<=(x2:Int)) (Ck (0<=(x4:Int)) (Ck (0<=(x5:Int)) (I0 [.n (((x1:Int)+1):Int).toNat,.n x2,.p (sh x3),.n x4,.n x5] H1/\μ0 [.n (((x1:Int)+1):Int).toNat,.n x2,.p (sh x3),.n x4,.n x5]<μ0 [.n x1,.n x2,.p (sh x3),.n x4,.n x5]))))))))) (T H1 nK (vsl x3 x4 x5)))) :=
 Xa (hi:={loops := [(4,.inv [(5,.nat),(4,.nat),(3,.pt .sl)] [])]}) (args := [.str 0]) (nv:=1) (e:=lk [.s x0]) Tryz.func30
theorem bP{W:World}(x y:Operand)(a b:List UInt8)(ha:a.length<=1000000)(hb:b.length<=1000000):(EK.sem (.bop .add 9 x y) [.string (bs a),.string (bs b)]).run Tryz.prog W=.ok (.value (.string (bs (a++b)))) W:=by
 have h:=run_string_add_lists (P:=Tryz.prog) W a b (by omega) (by omega);simp only[EK.sem,eqGuard,List.getD_cons_zero,List.getD_cons_succ,binOp_string_add,Sem.run_bind,Sem.run_pure]
 have h':(Op.stringOp .add (bs a) (bs b)).run Tryz.prog W=.ok (.string (bs (a++b))) W:=h;simp[h',Result.andThen_ok,Sem.run_pure]
theorem AP{W:World}(x y:Operand)(a:Int)(h0:0<=a)(h1:a<=9223372036854775807):(EK.sem (.bop .quo 3 x y) [vi a,vi 10]).run Tryz.prog W=.ok (.value (vi (a / 10))) W:=by
 have hd:Int.tdiv a 10=a / 10:=Int.tdiv_eq_ediv_of_nonneg h0;have hw:IntKind.wrap .i64 (a / 10)=a / 10:=by rw[IntKind.wrap_i64];omega
 simp[EK.sem,eqGuard,binOp,Op.intDiv,hd,hw]
theorem CQ(n:Nat)(k:Nat)(h:n<10 ^ k)(hk:0<k):(Lib.decDigits n).length<=k:=by
 rw[Lib.decDigits_length]
 induction k generalizing n with
 | zero=>omega
 | succ k ih =>
  by_cases h10:n<10
  ·rw[Lib.nDigits_small h10];omega
  ·rw[Lib.nDigits_big h10]
   rcases Nat.eq_zero_or_pos k with rfl | hk0
   ·simp at h;omega
   ·have:=ih (n / 10) (by rw[Nat.pow_succ] at h;omega) hk0;omega
theorem qO(n:Nat)(h:n<=9223372036854775807):(Lib.decDigits n).length<=19:=CQ n 19 (Nat.lt_of_le_of_lt h (by decide)) (by decide)
theorem rg(n:Nat):(n:Int)<=9223372036854775807->∀H:Hp,Gv Tryz.prog 16 #[vi n] H (.string (bs (Lib.decDigits n))):=by
 induction n using Nat.strongRecOn with
 | ind n ih =>
  intro h63 H W hH;refine sL n noM H W _ hH ⟨λh=>by omega,λ_ W1 n1 _=>⟨_,_,Eb _ _ _ _ (by omega) _,Ext.refl _,?_⟩⟩;have hm:Int.tmod (n:Int) 10=((n % 10:Nat):Int):=by rw[Int.tmod_eq_emod_of_nonneg (by omega)];omega
  rw[hm];refine⟨in64 (by omega),λ_ b0 W3 n3 k3=>?_⟩;have hk:=k3.1
  have hw:IntKind.wrap .u8 (48+((n % 10:Nat):Int))=((UInt8.ofNat (48+n % 10)).toNat:Int):=by
   rw[DQ]
   congr 2
   unfold b8
   congr 1
   omega
  obtain⟨dd,hdd0⟩:∃dd,UInt8.ofNat (48+n % 10)=dd:=⟨_,rfl⟩
  rw[hw,hdd0] at hk;have hB:Bs (bh H b0 (.cells #[.int .u8 (dd.toNat:Int)] 5 (0,0))) (some ((b0:Blk),0)) 1 [dd]:=Rows.block (cm ..) rfl (λr hr=>(q9 _ r hr).1) rfl
  have hcv:(EK.sem (.conv 44 9) [.slice (some ⟨b0,0,none⟩) 1 1]).run Tryz.prog W3=.ok (.value (.string (bs [dd]))) W3:=by
   have h:=rx (W:=W3) (p:=some ((b0:Blk),0)) (n:=1) (c:=1) hB (gF n3.sub hk.eq);simpa [vsl,ab] using h
  refine⟨bs [dd],W3,hcv,Ext.refl _,λh10=>Rt.gv' ?_,λh10=>?_⟩
  ·rw[Lib.decDigits_one (by omega),<- hdd0,Nat.mod_eq_of_lt (by omega)]
  ·refine λW5 n5 _=>⟨_,_,AP _ _ _ (by omega) h63,Ext.refl _,?_⟩
   rw[show (n:Int) / 10=((n / 10:Nat):Int) by omega];have hc:=ih (n / 10) (by omega) (by omega) H
   have hd:=qO (n / 10) (by omega);have hdd:Lib.decDigits n=Lib.decDigits (n / 10) ++ [UInt8.ofNat (48+n % 10)]:=by rw[Lib.decDigits,dif_neg (by omega)]
   rw[hdd0] at hdd;generalize Lib.decDigits (n / 10)=l at hc hd hdd;rw[hdd];exact Cl.same hc λ_ _ hx=>⟨_,rfl,hx,λW7 n7 _=>⟨_,_,bP _ _ l _ (by omega) (by simp),Ext.refl _,Rt.gv⟩⟩
theorem cj(n:Int)(hn:-9223372036854775807<=n/\n<=9223372036854775807)(H:Hp):Gv Tryz.prog 16 #[vi n] H (.string (bs (Lib.itoa n))):=λW hH=>by
 rcases Int.lt_or_le n 0 with h | h
 ·refine sL n noM H W _ hH ⟨λ_=>⟨in64 (by omega),λ_=>?_⟩,λh=>by omega⟩;obtain⟨k,hk⟩:∃k:Nat,0-n=k:=⟨n.natAbs,by omega⟩
  rw[hk];have hi:Lib.itoa n = [45]++Lib.decDigits k:=by
   unfold Lib.itoa;rw[if_pos h,show n.natAbs=k by omega];rfl
  have hc:=rg k (by omega) H;have hd:=qO k (by omega)
  rw[hi];generalize Lib.decDigits k=l at hc hd;exact Cl.same hc λ_ _ hx=>⟨_,rfl,hx,λW3 n3 _=>⟨_,_,bP _ _ [45] l (by simp) (by omega),Ext.refl _,Rt.gv⟩⟩
 ·obtain⟨k,rfl⟩:∃k:Nat,n=k:=⟨n.toNat,by omega⟩
  have:=rg k (by omega) H W hH;unfold Lib.itoa;rw[if_neg (by omega),Int.toNat_natCast];exact this
theorem jC{W:World}(l:List UInt8)(k:Nat)(b:UInt8)(h:l[k]?=some b):(EK.sem (.idx 9) [.string (bs l),vi k]).run Tryz.prog W=.ok (.value (.int .u8 (b.toNat:Int))) W:=by
 have hk:=(List.getElem?_eq_some_iff.1 h).1;have hb:=(List.getElem?_eq_some_iff.1 h).2
 have:=run_index_string (P:=Tryz.prog) W 9 (bs l) .i64 k Tryz.underlying9;rw[dif_pos (by rw[az];simp[hk])] at this;have e:(bs l)[(k:Int).toNat]'(by rw[az];simpa using hk)=b:=by
  rw[<- hb];simp[bs,ByteArray.getElem_eq_getElem_data]
 simp only[EK.sem,List.getD_cons_zero,List.getD_cons_succ,Sem.run_bind,this,Result.andThen_ok,Sem.run_pure]
 rw[e]
theorem rN{W:World}(l:List UInt8)(i j:Nat)(h1:i<=j)(h2:j<=l.length):(EK.sem (.slice 9 true true false) [.string (bs l),vi i,vi j]).run Tryz.prog W=.ok (.value (.string (bs ((l.drop i).take (j-i))))) W:=by
 have h:=run_slice_string (P:=Tryz.prog) W 9 (bs l) .i64 .i64 i j Tryz.underlying9 (by omega) (by omega) (by rw[az];omega);have e:(bs l).extract i j=bs ((l.drop i).take (j-i)):=by
  unfold bs;rw[ByteArray.extract_mk]
 simp only[Int.toNat_natCast,e] at h;simp[EK.sem,Instr.sliceAt,h]
def isD(b:UInt8):Bool:=decide (48<=b.toNat/\b.toNat<=57)
def jm(l:List UInt8):Int:=l.foldl (λa b=>10 * a+((b.toNat:Int)-48)) 0
theorem o9(l:List UInt8)(b:UInt8):jm (l ++ [b])=10 * jm l+((b.toNat:Int)-48):=by simp[jm]
def ad(l:List UInt8):Int:=if (1<=l.length/\l.length<=6)/\l.all isD=true/\Lib.itoa (jm l)=l then jm l else -1
theorem kX:∀(k:Nat) (l:List UInt8),l.length=k->l.all isD=true->0<=jm l/\jm l<((10 ^ k:Nat):Int)
 | 0,l,h,_=>by
  have:l = []:=List.eq_nil_of_length_eq_zero h;subst this;simp[jm]
 | k+1,l,h,ha=>by
  have hne:l ≠ []:=λhe=>by rw[he] at h;simp at h
  obtain⟨m,b,rfl⟩:∃m b,l=m ++ [b]:=⟨l.dropLast,l.getLast hne,(List.dropLast_concat_getLast hne).symm⟩
  rw[List.all_append,Bool.and_eq_true] at ha;obtain⟨h1,h2⟩:=kX k m (by simpa using h) ha.1;have hb:=ha.2
  simp only[List.all_cons,List.all_nil,Bool.and_true,isD,decide_eq_true_eq] at hb;rw[o9,Nat.pow_succ];omega
theorem FW{n:Int}(h:0<=n/\n<=255):ae .u8 n:=by
 unfold ae;rw[DQ,BL];omega
theorem aZ(l:List UInt8)(hl:l.length<=4096)(H:Hp):Gv Tryz.prog 32 #[.string (bs l)] H (vi (ad l)):=λW hH=>by
 have no:¬((1<=l.length/\l.length<=6)/\l.all isD=true/\Lib.itoa (jm l)=l)->vi (-1)=vi (ad l):=λh=>by unfold ad;rw[if_neg h]
 refine El (bs l) noM H W _ hH ?_;refine Cl.same (bu (((bs l).size:Nat):Int) 1 6 H) λ_ _ hx=>⟨_,rfl,hx,λh=>?_,λh=>Rt.gv' (no λhh=>h ?_)⟩
 ·rw[cd,az] at h;refine⟨λv K=>match v with | [.n j,.i a]=>j<=l.length/\H.le K/\a=jm (l.take j)/\(l.take j).all isD=true | _=>False,λv=>match v with | [.n j,_]=>l.length-j | _=>0,⟨by omega,Hp.le_refl H,by simp[jm],by simp⟩,λK j a hI=>?_⟩;obtain⟨hj,hle,rfl,ha⟩:=hI;rw[az];obtain⟨r1,r2⟩:=kX j (l.take j) (by rw[List.length_take];omega) ha;have hp:(10 ^ j:Nat)<=10 ^ 6:=Nat.pow_le_pow_right (by omega) (by omega)
  have hp6:(10 ^ 6:Nat)=1000000:=by decide
  refine⟨λhlt=>?_,λhge=>?_⟩
  ·obtain⟨b,hb⟩:∃b,l[j]?=some b:=⟨_,List.getElem?_eq_getElem (by omega)⟩
   have hlt8:=b.toNat_lt;have bad:isD b=false->vi (-1)=vi (ad l):=λhd=>no λhh=>by
    have:=(List.all_eq_true.1 hh.2.1) b (List.mem_of_getElem? hb);rw[hd] at this;cases this
   refine λW3 n3 _=>⟨_,_,jC l j b hb,Ext.refl _,λh1=>Rt.gv' (bad (by simp only[isD,decide_eq_false_iff_not];omega)),λh1 W5 n5 _=>⟨_,_,jC l j b hb,Ext.refl _,λh2=>Rt.gv' (bad (by simp only[isD,decide_eq_false_iff_not];omega)),λh2=>⟨in64 (by omega),λ_ W7 n7 _=>⟨_,_,jC l j b hb,Ext.refl _,FW (by omega),λ_=>⟨in64 (by omega),λ_=>⟨in64 (by omega),λ_=>⟨in64 (by omega),λ_=>⟨by omega,λ_=>?_⟩⟩⟩⟩⟩⟩⟩⟩
   have ht:l.take (j+1)=l.take j ++ [b]:=by rw[List.take_add_one,hb];rfl
   rw[show ((j:Int)+1).toNat=j+1 by omega];refine⟨⟨by omega,hle,by rw[ht,o9],?_⟩,by simp only;omega⟩;rw[ht,List.all_append,ha];simp only[List.all_cons,List.all_nil,Bool.and_true,Bool.true_and,isD,decide_eq_true_eq]
   omega
  ·have hjl:j=l.length:=by omega
   rw[List.take_of_length_le (by omega)] at ha r1 r2 |-;have hc:=cj (jm l) (by omega) K
   have hn:ad l=if Lib.itoa (jm l)=l then jm l else -1:=by
    unfold ad
    by_cases h:Lib.itoa (jm l)=l
    ·rw[if_pos h,if_pos ⟨by omega,ha,h⟩]
    ·rw[if_neg h,if_neg λhh=>h hh.2.2]
   rw[hn];generalize Lib.itoa (jm l)=t at hc;refine Cl.same hc λ_ _ hx=>⟨_,rfl,hx,λW3 n3 _=>⟨_,_,qJ _ _ t l,Ext.refl _,λh=>Rt.gv' ?_,λh=>Rt.gv' ?_⟩⟩
   ·rw[if_neg (by simpa using h)]
   ·rw[if_pos (by simpa using h)]
 ·rw[cd,az];omega
def bH:List UInt8->List UInt8->List (List UInt8)
 | cur,[] => [cur]
 | cur,b::l=>if b.toNat=32 then cur::bH [] l else bH (cur ++ [b]) l
def aJ(l:List UInt8):List (List UInt8):=bH [] l
def p9(w:List UInt8):List Value := [.string (bs w)]
def Strs(H:Hp)(p:OL)(n c:Nat)(ws:List (List UInt8)):Prop:=n<=c/\c<=maxLen/\Rows H p n 1 (ws.map p9)
theorem wy:fc Tryz.prog 9 1 16=true:=by kernel_rfl
theorem gL(l:List UInt8)(hl:l.length<=4096)(H:Hp):Gf Tryz.prog 30 #[.string (bs l)] H (λv D=>∃p n c,v=vsl p n c/\Strs D p n c (aJ l)):=λW hH=>by
 refine zP (bs l) noM H W _ hH ?_;refine⟨λv K=>match v with | [.n j,.n s,.p p,.n n,.n c]=>∃(acc:List (List UInt8)) (g:Option Nat),n<=j/\j<=l.length+1/\H.le K/\Ow K 9 1 p n c (acc.map p9) g/\(∀b,g=some b->W.heap.size<=b) /\
   ((j<=l.length/\s<=j/\aJ l=acc++bH ((l.drop s).take (j-s)) (l.drop j))\/(j=l.length+1/\aJ l=acc)) | _=>False,
  λv=>match v with | .n j::_=>l.length+1-j | _=>0,⟨[],none,by omega,by omega,Hp.le_refl H,Ow.nil _ _ _ _,λb h=>(by cases h),.inl ⟨by omega,by omega,by simp[aJ]⟩⟩,λK j s p n c hI=>?_⟩
 obtain⟨acc,g,hnj,hj,hle,ho,hg,hor⟩:=hI;rw[bT] at ho;rw[az];have app:∀(w:List UInt8) {W5:World} {b0:Nat},Now W noM K W5->Kn W noM K W5 b0 (.cells #[.string (bs w)] 9 (0,0))->aJ l=acc++w::(if j<l.length then bH [] (l.drop (j+1)) else [])->j<=l.length ->
   ∃p' n' c',Eo Tryz.prog (.bi .append #[67,67] 67) [vsl p n c,Value.slice (some ⟨b0,0,none⟩) 1 1] W5 (.value (vsl p' n' c')) λW6=>Tn W noM K W5 W6 λH2=>∃(acc:List (List UInt8)) (g:Option Nat),n'<=j+1/\j+1<=l.length+1/\H.le H2/\Ow H2 9 1 p' n' c' (acc.map p9) g/\(∀b,g=some b->W.heap.size<=b) /\
   ((j+1<=l.length/\j+1<=j+1/\aJ l=acc++bH ((l.drop (j+1)).take (j+1-(j+1))) (l.drop (j+1)))\/(j+1=l.length+1/\aJ l=acc)):=λw W5 b0 n5 k5 hw hjl=>by
  obtain⟨p',c',g',W6,K2,hrun,hu,ho2,hg2,_⟩:=aD Tryz.underlying67 wy (by omega) n5.sub ho (row:=p9 w) k5.eq k5.off rfl (λv hv=>by simp only[p9,List.mem_singleton] at hv;subst hv;rfl) (by simp only[maxLen];omega) (by omega) 67;refine⟨p',_,c',W6,hrun,K2,hu.own ho (λb hb=>.inl (hg b hb)),acc ++ [w],g',by omega,by omega,hu.keep n5.sub hle (λb hb=>ao hH (hg b hb)),by rw[List.map_append];exact ho2,λb hb=>?_,?_⟩
  ·rcases hg2 with h | h
   ·exact hg b (h▸hb)
   ·rw[h] at hb;simp only[Option.some.injEq] at hb;have:=n5.mod.size;omega
  ·rcases Nat.lt_or_ge j l.length with h | h
   ·rw[if_pos h] at hw;exact .inl ⟨by omega,by omega,by rw[hw];simp⟩
   ·rw[if_neg (by omega)] at hw;exact .inr ⟨by omega,hw⟩
 refine⟨λhjl=>?_,λhjl=>?_⟩
 ·obtain⟨h1,h2,h3⟩:=hor.resolve_right (by omega);refine⟨λhe=>?_,λhne=>?_⟩
  ·refine λW3 n3 _=>⟨_,_,rN l s j h2 (by omega),Ext.refl _,λb0 W5 n5 k5=>?_⟩
   obtain⟨p',n',c',W6,e1,K2,e2,e3⟩:=app _ n5 k5.1 (by rw[h3,if_neg (by omega),List.drop_of_length_le (i:=j) (by omega)];rfl) h1;refine⟨p',n',c',W6,e1,K2,e2,in64 (by omega),λ_=>⟨by omega,λ_=>⟨by omega,λ_=>⟨by omega,λ_=>?_⟩⟩⟩⟩;rw[show ((j:Int)+1).toNat=j+1 by omega,bT];exact⟨e3,by simp only;omega⟩
  ·obtain⟨b,hb⟩:∃b,l[j]?=some b:=⟨_,List.getElem?_eq_getElem (by omega)⟩
   have hdj:l.drop j=b::l.drop (j+1):=by
    rw[List.drop_eq_getElem_cons (by omega),(List.getElem?_eq_some_iff.1 hb).2]
   refine λW3 n3 _=>⟨_,_,jC l j b hb,Ext.refl _,λh32=>?_,λh32=>?_⟩
   ·refine λW3 n3 _=>⟨_,_,rN l s j h2 (by omega),Ext.refl _,λb0 W5 n5 k5=>?_⟩
    obtain⟨p',n',c',W6,e1,K2,e2,e3⟩:=app _ n5 k5.1 (by rw[h3,if_pos (by omega),hdj];simp only[bH];rw[if_pos (by omega)]) h1;refine⟨p',n',c',W6,e1,K2,e2,in64 (by omega),λ_=>⟨by omega,λ_=>⟨by omega,λ_=>⟨by omega,λ_=>?_⟩⟩⟩⟩;rw[show ((j:Int)+1).toNat=j+1 by omega,bT];exact⟨e3,by simp only;omega⟩
   ·refine⟨in64 (by omega),λ_=>⟨by omega,λ_=>⟨by omega,λ_=>⟨by omega,λ_=>⟨by omega,λ_=>?_⟩⟩⟩⟩⟩;rw[show ((j:Int)+1).toNat=j+1 by omega];refine⟨⟨acc,g,by omega,by omega,hle,by rw[bT];exact ho,hg,.inl ⟨by omega,by omega,?_⟩⟩,by simp only;omega⟩;rw[h3,hdj];simp only[bH]
    rw[if_neg (by omega)]
    congr 2
    rw[show j+1-s=(j-s)+1 by omega,List.take_add_one,List.getElem?_drop,show s+(j-s)=j by omega,hb];rfl
 ·obtain⟨h1,h2⟩:=hor.resolve_left (by omega);rw[h2];exact Rt.gf (fW W K) (dw W K) ⟨p,n,c,rfl,(ho.new hg).2.2.1,(ho.new hg).2.2.2.1,(ho.new hg).rows⟩
set_option maxRecDepth 100000
set_option maxHeartbeats 4000000
theorem EV(x0:Bool)(x1:Int):Xw 28 #[vb (x0),vi x1] λM H0 W0 R _ Q T=>(It (x0=true) (T H0 nK (vt #[])) (Q H0 nK λW1=>∃x2:Value,Eo' (.mkIface 65) [vg #[vi x1]] W1 (.value (x2)) λW2=>Fr W1 W2 H0 λH1=>(∀W,Now W0 M H1 W->nK W->(∃t u,x2=.iface t u)/\Dr' R none [] (.panicking [{ v:=x2,recovered:=false }]) W))) :=
 Xa (hi:={pn:=true}) (args := [.bool (.v 0),vI 1]) (nv:=2) (e:=lk [.b x0,.i x1]) Tryz.func28
theorem Er(x0:ByteArray):Xw 45 #[vs x0] λM H0 W0 R C Q T=>(C H0 nK 68 #[vs x0] λz W1 W2=>∃(x1:Int) (x2:Value),z=.returned (vt #[vi x1,x2])/\Fr W1 W2 H0 λH1=>(Q H1 nK λW3=>∃x3:Bool,Eo' (.bop .eql 51 (.tmp 10) (.const (Value.nilIface))) [x2,Value.nilIface] W3 (.value (vb (x3))) λW4=>Ext W3 W4/\(It (x3=true) (It (0<=x1) (It ((x0.size:Int)<=6) (C H1 nK 25 #[vi x1] λz W5 W6=>∃x4:ByteArray,z=.returned (vs x4)/\Ext W5 W6/\(Q H1 nK λW7=>∃x5:Bool,Eo' (.bop .eql 9 (.tmp 23) (.tmp 24)) [vs x4,vs x0] W7 (.value (vb (x5))) λW8=>Ext W7 W8/\(cg W0 M H1 nK 28 #[vb (x5),vi 1] (λz W9 W10=>z=.returned (vt #[])/\Ext W9 W10/\T H1 nK (vi x1)) λps W=>Dr' R none [] (.panicking ps) W))) (cg W0 M H1 nK 28 #[vb (false),vi 1] (λz W5 W6=>z=.returned (vt #[])/\Ext W5 W6/\T H1 nK (vi x1)) λps W=>Dr' R none [] (.panicking ps) W)) (cg W0 M H1 nK 28 #[vb (false),vi 1] (λz W5 W6=>z=.returned (vt #[])/\Ext W5 W6/\T H1 nK (vi x1)) λps W=>Dr' R none [] (.panicking ps) W)) (cg W0 M H1 nK 28 #[vb (false),vi 1] (λz W5 W6=>z=.returned (vt #[])/\Ext W5 W6/\T H1 nK (vi x1)) λps W=>Dr' R none [] (.panicking ps) W)))) :=
 Xa (hi:={pn:=true,pans := [28]}) (args := [.str 0]) (nv:=1) (e:=lk [.s x0]) Tryz.func45
theorem yJ(x0:OL)(x1 x2:Nat):Xw 67 #[vsl x0 x1 x2] λM H0 W0 _ C Q T=>(Ck (0<=(x1:Int)) (∃(I0:List Dat->Hp->Prop) (μ0:List Dat->Nat),I0 [.n 0,.p none,.n 0,.n 0] H0/\∀H1:Hp,∀(x3:Nat) (x4:OL) (x5 x6:Nat),I0 [.n x3,.p (sh x4),.n x5,.n x6] H1->(It ((x3:Int)<(x1:Int)) (Ck ((0:Int)<=(x3:Int)/\(x3:Int)<(x1:Int)) (Ck (x0.isSome=true) (∃x7:Int,aa H1 x0 (0+((x3:Int) * 1)) [vi x7]/\(C H1 nK 25 #[vi x7] λz W1 W2=>∃x8:ByteArray,z=.returned (vs x8)/\Ext W1 W2/\(∀b0:Nat,(Q H1 (λW=>Kn W0 M H1 W b0 (Obj.cells #[vs x8] 9 (0,0))/\True) λW3=>∃(x9:OL) (c0 c1:Nat),Eo' (.bi .append #[67,67] 67) [vsl x4 x5 x6,Value.slice (some ⟨b0,0,none⟩) 1 1] W3 (.value (vsl x9 c0 c1)) λW4=>Tn W0 M H1 W3 W4 λH2=>(Ck (ae .i64 ((x3:Int)+1)) (Ck (0<=((x3:Int)+1)) (Ck (0<=(c0:Int)) (Ck (0<=(c1:Int)) (I0 [.n (((x3:Int)+1):Int).toNat,.p (sh x9),.n c0,.n c1] H2/\μ0 [.n (((x3:Int)+1):Int).toNat,.p (sh x9),.n c0,.n c1]<μ0 [.n x3,.p (sh x4),.n x5,.n x6]))))))))))) (C H1 nK 91 #[vsl x4 x5 x6,vB] λz W1 W2=>∃x7:ByteArray,z=.returned (vs x7)/\Ext W1 W2/\T H1 nK (vs x7))))) :=
 Xa (hi:={loops := [(3,.inv [(8,.nat),(3,.pt .sl)] [])]}) (args := [vS 0]) (nv:=3) (e:=lk [.p x0,.n x1,.n x2]) Tryz.func67
abbrev li(x:Int):Value:=.iface 65 (.agg #[vi x])
theorem EC(x:Int)(W:World):(EK.sem (.mkIface 65) [vg #[vi x]]).run Tryz.prog W=.ok (.value (li x)) W:=by
 have hu:=Tryz.underlying65;simp only[EK.sem,List.getD_cons_zero,Instr.makeInterface,Sem.run_bind,run_underlying hu,Result.andThen_ok,Sem.run_pure]
theorem dx(b:Bool)(x:Int)(H:Hp):Gp Tryz.prog 28 #[vb b,vi x] H (λv _=>b=true/\v=.tuple #[]) (λu=>b=false/\u=li x):=λW hH=>by
 refine EV b x noM H W _ hH ⟨λh=>Rt.gp ⟨h,rfl⟩,λh W1 n1 _=>?_⟩;refine⟨_,_,EC x W1,⟨Ext.refl _,noH,ba _,(λb o h=>by cases h),λH1 le1 _ W2 n2 _=>⟨⟨_,_,rfl⟩,RGp.out ⟨by simpa using h,rfl⟩ n2.ext⟩⟩⟩
end Go.Proofs.YtfpmcmhihhnfgaaGreatDoor
