/- Small laws for the walks, over any program: what a call leaves as it was. No conditions. -/
import Derived.WalkLawsBesides
import Derived.WalkSpells
import Derived.Outline
import Derived.Lib.Hide
import Derived.RegionTactic
import Derived.ChangeAlike
import Derived.Maps.OwnOps
import Derived.Deep.DeepMust
import Derived.Deep.RegionHeld3
import Derived.BigQuiet
import Derived.Deep.QuietTactic
import Derived.Test.YtfpmcmhihhnfgaaGreatDoorProg
import Derived.Test.YtfpmcmhihhnfgaaGreatDoorKD1
set_option linter.unusedVariables false
set_option linter.unusedSimpArgs false
namespace Go.Proofs.YtfpmcmhihhnfgaaGreatDoor
open Go.RowKit
def dk(w w':World)(b:Nat):Prop:=w'.heap.size=w.heap.size/\w.grownBy w' (some b)
theorem dk.cell{w w':World}{b:Nat}(h:dk w w' b):(∀k o,k≠b->w'.cell? ⟨k,o,none⟩=w.cell? ⟨k,o,none⟩)/\(∀k o,k≠b->w'.frozen? ⟨k,o,none⟩=w.frozen? ⟨k,o,none⟩):=by
  have hb:∀k,k≠b->w'.heap[k]?=w.heap[k]?:=λk hk=>by
    rcases Nat.lt_or_ge k w.heap.size with hlt | hge
    · exact h.2.block k hlt (λe=>hk (by injection e))
    · rw[Array.getElem?_eq_none hge,Array.getElem?_eq_none (by rw[h.1];exact hge)]
  exact⟨λk o hk=>World.cell?_of_block (w:=w) (hb k hk),λk o hk=>World.frozen?_of_block (w:=w) (hb k hk)⟩
theorem dk.heap{w w':World}{b:Nat}(h:dk w w' b)(k:Nat)(hk:k≠b):w'.heap[k]?=w.heap[k]?:=by
  rcases Nat.lt_or_ge k w.heap.size with hlt | hge
  · exact h.2.block k hlt (λe=>hk (by injection e))
  · rw[Array.getElem?_eq_none hge,Array.getElem?_eq_none (by rw[h.1];exact hge)]
theorem dk.below{B:Nat}{a w w':World}{b:Nat}(h:Below B a w)(ho:dk w w' b)(hb:B<=b):Below B a w' :=
  h.trans ⟨ho.2.os,ho.2.tape,ho.2.output,ho.2.size,λk hk=>ho.heap k (by omega)⟩
theorem dk.setCell(w:World)(b o:Nat)(v:Value):dk w (w.setCell ⟨b,o,none⟩ v) b :=
  ⟨by simp,rfl,rfl,rfl,by simp,λk _ hne=>Below.heap_setCell _ _ _ _ (by intro e;exact hne (by rw[e]))⟩
theorem dk.drew{w w':World}{b:Nat}(h:dk w w' b):dk w w'.drew b:=⟨h.1,h.2.os,h.2.tape,h.2.output,h.2.size,h.2.block⟩
theorem af(w:World)(o:Obj)(k:Nat):(w.alloc o).heap[k]?=if k=w.heap.size then some o else w.heap[k]?:=by
  show (w.heap.push o)[k]?=_
  rw[Array.getElem?_push]
theorem dk.alloc_heap{W w':World}{o:Obj}{b:Nat}(h:dk (W.alloc o) w' b)(k:Nat)(hk:k≠b)(hlt:k<W.heap.size):w'.heap[k]?=W.heap[k]? :=
  (h.heap k hk).trans ((af _ _ _).trans (if_neg (by omega)))
theorem dk.alloc_new{W w':World}{o:Obj}{b:Nat}(h:dk (W.alloc o) w' b)(k:Nat)(hk:k≠b)(he:k=W.heap.size):w'.heap[k]?=some o :=
  (h.heap k hk).trans ((af _ _ _).trans (if_pos he))
theorem jU{P:Program}(w:World)(K:TypeId)(hK:P.underlying K=some (.int .i64))(e:Bool)(m:Nat)(n:Int):(Instr.checkKey e (m+1) K (.int .i64 n)).run P w=.ok () w:=by
  unfold Instr.checkKey
  simp[run_underlying hK]
def ov(z:Value):Option (Nat × Value)->Value
  | some (_,v)=>v
  | none=>z
theorem ce{P:Program}{ops:Array Oper}{Q:Exit->Act->World->Prop}{l:List Oper}{a:Act}{w:World}(R:World->Prop)(h0:R w)(h:∀w',R w'->wpList P ops Q l a w'):wpList P ops Q l a w:=h w h0
theorem wY{P:Program}{Q:Exit->Act->World->Prop}{a:Act}{w:World}{c:Code}(h:c.wp P (Exit.then (Code.rounds P c Q 2) Q) a w):(Code.loop c).wp P Q a w:=wp_loop_rounds 3 h
theorem wB{P:Program}{Q:Exit->Act->World->Prop}{a:Act}{w:World}{c:Code}(h:c.wp P (Exit.then (Code.rounds P c Q 1) Q) a w):Code.rounds P c Q 2 a w:=h
theorem wQ{P:Program}{Q:Exit->Act->World->Prop}{a:Act}{w:World}{c:Code}(h:c.wp P (Exit.then (Code.rounds P c Q 0) Q) a w):Code.rounds P c Q 1 a w:=h
theorem aA{P:Program}(w:World){ops:Array Oper}{aN:List Oper}{o:Oper}{a:Act}{Q:Exit->Act->World->Prop}(hgd:o.guard=none)
    (T:TypeId) (m k x:Operand) (ho:o.op=.insert T m k x) (K E:TypeId) (hT:P.underlying T=some (.map K E)) (hK:P.underlying K=some (.int .i64))
    (r:Nat) (es:Array MapEntry) (clock:Nat) (hm:a.eval m=.map (some r)) (hr:w.heap[r]?=some (.map es clock)) (n:Int) (hk:a.eval k=.int .i64 n)
    (hfind:Instr.findNow (.int .i64) (.int .i64 n) es.toList 0=some none)
    (h:∀w',w'.heap[r]?=some (.map (es.push ⟨.int .i64 n,a.eval x,clock⟩) (clock+1))->dk w w' r->wpList P ops Q aN (a.put o.dst undef) w'):wpList P ops Q (o::aN) a w:=by
  refine wpList_plain hgd λK' hK'=>?_
  have hlt:r<w.heap.size:=by
    rcases Nat.lt_or_ge r w.heap.size with h1 | h1
    · exact h1
    · rw[Array.getElem?_eq_none h1] at hr;cases hr
  have hrun:(Instr.mapUpdate T (.map (some r)) (.int .i64 n) (a.eval x)).run P w=.ok () { w with heap:=w.heap.setIfInBounds r (.map (es.push ⟨.int .i64 n,a.eval x,clock⟩) (clock+1)) }:=by
    have hc:=jU (P:=P) w K hK false 9999 n
    unfold Instr.mapUpdate
    simp[run_underlying hT,getObj,Sem.run,hr,hc,run_underlying hK,Instr.findKey,hfind,setObj]
  unfold Oper.wp execOp
  simp only[ho,Sem.run_bind,Result.andThen_ok,hm,hk,hrun,Sem.run_pure]
  refine hK' _ _ (h _ ?_ ⟨by simp,rfl,rfl,rfl,by simp,λj hj hne=>?_⟩)
  · simp[hlt]
  · rw[Array.getElem?_setIfInBounds,if_neg (by intro e;exact hne (by rw[e]))]
theorem ef{P:Program}(w:World){ops:Array Oper}{aN:List Oper}{o:Oper}{a:Act}{Q:Exit->Act->World->Prop}(hgd:o.guard=none)
    (T:TypeId) (m k:Operand) (ho:o.op=.lookup T m k false) (K E:TypeId) (hT:P.underlying T=some (.map K E)) (hK:P.underlying K=some (.int .i64))
    (z:Value) (hz:∀w,(zeroValue E).run P w=.ok z w)
    (r:Nat) (es:Array MapEntry) (clock:Nat) (hm:a.eval m=.map (some r)) (hr:w.heap[r]?=some (.map es clock)) (n:Int) (hk:a.eval k=.int .i64 n)
    (f:Option (Nat × Value)) (hfind:Instr.findNow (.int .i64) (.int .i64 n) es.toList 0=some f)
    (h:wpList P ops Q aN (a.put o.dst (ov z f)) w):wpList P ops Q (o::aN) a w:=by
  refine wpList_plain hgd λK' hK'=>?_
  have hrun:(Instr.lookup T (.map (some r)) (.int .i64 n) false).run P w=.ok (ov z f) w:=by
    have hc:=jU (P:=P) w K hK es.isEmpty 9999 n
    unfold Instr.lookup
    cases f with
    | none=>simp[run_underlying hT,getObj,Sem.run,hr,hc,run_underlying hK,Instr.findKey,hfind,hz,ov]
    | some p=>simp[run_underlying hT,getObj,Sem.run,hr,hc,run_underlying hK,Instr.findKey,hfind,ov]
  unfold Oper.wp execOp
  simp only[ho,Sem.run_bind,Result.andThen_ok,hm,hk,hrun,Sem.run_pure]
  exact hK' _ _ h
abbrev V4.val(v:V4):Value:=.agg #[.int .i64 v.a,.int .i64 v.b,.int .i64 v.c,.int .i64 v.d]
abbrev V4.cells(v:V4):Array Value:=#[.int .i64 v.a,.int .i64 v.b,.int .i64 v.c,.int .i64 v.d]
abbrev POp.val(x:POp):Value:=.agg #[.int .i64 x.kind,.int .i64 x.key,.int .i64 x.to,.int .i64 x.n]
theorem wv{k:IntKind}{a b:Int}(h:a=b):Ending.returned (.int k a)=.returned (.int k b):=by rw[h]
theorem kV{a b:Bool}(h:a=b):Ending.returned (.bool a)=.returned (.bool b):=by rw[h]
theorem nF(n lo hi:Int)(w:World) :
    Calls Tryz.prog 157 #[.int .i64 n,.int .i64 lo,.int .i64 hi] w λe w'=>e=.returned (.bool (inR n lo hi))/\w=w':=by
  go_enter Tryz.func157,Tryz.ntmps157
  go_wp2
  all_goals go_ret
  all_goals exact⟨kV (by unfold inR;first | (simp_all;done) | (simp_all;omega)),rfl⟩
theorem pV(n lo hi:Int)(w:World) :
    Calls Tryz.prog 52 #[.int .i64 n,.int .i64 lo,.int .i64 hi] w λe w'=>e=.returned (.bool (inR n lo hi))/\w=w':=by
  go_enter Tryz.func52,Tryz.ntmps52
  go_wp2
  all_goals go_ret
  all_goals exact⟨kV (by unfold inR;first | (simp_all;done) | (simp_all;omega)),rfl⟩
theorem Bl(n:Int)(w:World) :
    Calls Tryz.prog 158 #[.int .i64 n] w λe w'=>e=.returned (.bool (inR n 0 999))/\w=w':=by
  go_enter Tryz.func158,Tryz.ntmps158
  go_wp2_with (go_at_call 157;refine (nF _ _ _ _).mono ?_;rintro e w' ⟨rfl,rfl⟩)
  go_ret
  exact⟨rfl,rfl⟩
theorem E3(n:Int)(w:World) :
    Calls Tryz.prog 156 #[.int .i64 n] w λe w'=>e=.returned (.bool (inR n 0 3))/\w=w':=by
  go_enter Tryz.func156,Tryz.ntmps156
  go_wp2_with (go_at_call 157;refine (nF _ _ _ _).mono ?_;rintro e w' ⟨rfl,rfl⟩)
  go_ret
  exact⟨rfl,rfl⟩
theorem Bv(n:Int)(w:World) :
    Calls Tryz.prog 171 #[.int .i64 n] w λe w'=>e=.returned (.bool (!inR n 0 999))/\w=w':=by
  go_enter Tryz.func171,Tryz.ntmps171
  go_wp2_with (go_at_call 158;refine (Bl _ _).mono ?_;rintro e w' ⟨rfl,rfl⟩)
  go_ret
  exact⟨rfl,rfl⟩
set_option maxHeartbeats 2000000 in
theorem Bc(k key to n:Int)(w:World) :
    Calls Tryz.prog 141 #[.agg #[.int .i64 k,.int .i64 key,.int .i64 to,.int .i64 n]] w λe w'=>e=.returned (.int .i64 (POp.err ⟨k,key,to,n⟩))/\Below w.heap.size w w':=by
  go_enter Tryz.func141,Tryz.ntmps141
  go_wp2_with (first
    | (go_at_call 156;refine (E3 _ _).mono ?_;rintro e w' ⟨rfl,rfl⟩)
    | (go_at_call 157;refine (nF _ _ _ _).mono ?_;rintro e w' ⟨rfl,rfl⟩)
    | (go_at_call 158;refine (Bl _ _).mono ?_;rintro e w' ⟨rfl,rfl⟩))
  all_goals go_ret
  all_goals refine⟨wv ?_,by repeat (first | exact Below.refl _ _ | refine Below.alloc ?_ (by simp) _)⟩
  all_goals (unfold POp.err;simp only[cd,ic,beq_iff_eq,beq_eq_false_iff_ne,Bool.not_eq_true',Bool.not_eq_false'] at *;omega)
def V4.at(v:V4)(k:Nat):Int:=if k=0 then v.a else if k=1 then v.b else if k=2 then v.c else v.d
def V4.okTo(v:V4)(k:Nat):Prop:=∀j,j<k->inR (v.at j) 0 999=true
theorem V4.okTo_succ{v:V4}{k:Nat}(h:v.okTo k)(hk:inR (v.at k) 0 999=true):v.okTo (k+1):=λj hj=>by
  by_cases e:j=k
  · rw[e];exact hk
  · exact h j (by omega)
theorem V4.ok_of_okTo{v:V4}(h:v.okTo 4):v.ok=true:=by
  simp only[V4.ok,Bool.and_eq_true]
  exact⟨⟨⟨h 0 (by omega),h 1 (by omega)⟩,h 2 (by omega)⟩,h 3 (by omega)⟩
theorem V4.bad_of{v:V4}{k:Nat}(hk:k<4)(h:inR (v.at k) 0 999=false):v.ok=false:=by
  have:k=0\/k=1\/k=2\/k=3:=by omega
  rcases this with rfl | rfl | rfl | rfl<;>simp only[V4.at] at h<;>simp[V4.ok]<;>simp_all
def Bad(v:V4)(n:Int):Prop:=decide (0<=n)=!v.ok
def V4.In(w:World)(b:Nat)(v:V4):Prop:=∀k,k<4->w.cell? ⟨b,k,none⟩=some (.int .i64 (v.at k))
set_option maxHeartbeats 1000000 in
theorem AF(b:Nat)(v:V4)(w:World)(hv:V4.In w b v) :
    Calls Tryz.prog 186 #[.slice (some ⟨b,0,none⟩) 4 4,.func (.func 171) #[] #[]] w λe w'=>(∃n,e=.returned (.int .i64 n)/\Bad v n)/\w=w':=by
  go_enter Tryz.func186,Tryz.ntmps186
  go_wp2
  go_loop [8] (λi=>∃k:Nat,k<=4/\i=.int .i64 k/\v.okTo k) (λi=>4-(intOf i).toNat)
  case atStart=>exact⟨0,by omega,rfl,λj hj=>by omega⟩
  case round =>
    obtain⟨k,hk4,rfl,hok⟩:=hrel
    by_cases hk:k<4
    · have hc:=hv k hk
      have HO:=Lib.hid hok
      clear hok hv
      cases hb:inR (v.at k) 0 999
      · have HB:=Lib.hid (V4.bad_of hk hb)
        have HA:=Lib.hid hb
        clear hb
        go_wp2_with (go_at_call 171;refine (Bv _ _).mono ?_;rintro e w' ⟨rfl,rfl⟩;rw[HA.out])
        go_ret
        exact⟨⟨_,rfl,by unfold Bad;rw[HB.out];simp⟩,rfl⟩
      · have HA:=Lib.hid hb
        clear hb
        go_wp2_with (go_at_call 171;refine (Bv _ _).mono ?_;rintro e w' ⟨rfl,rfl⟩;rw[HA.out])
        go_round
        case rel=>exact⟨k+1,by omega,by go_num,V4.okTo_succ HO.out HA.out⟩
        case measure=>simp[intOf];omega
    · obtain rfl:k=4:=by omega
      have HO:=Lib.hid hok
      clear hok hv
      go_wp2
      go_ret
      exact⟨⟨_,rfl,by unfold Bad;rw[V4.ok_of_okTo HO.out];simp⟩,rfl⟩
theorem uy(b:Nat)(v:V4)(w:World)(hv:V4.In w b v) :
    Calls Tryz.prog 170 #[.slice (some ⟨b,0,none⟩) 4 4,.func (.func 171) #[] #[]] w λe w'=>e=.returned (.bool !v.ok)/\w=w':=by
  have HV:=Lib.hid hv
  clear hv
  go_enter Tryz.func170,Tryz.ntmps170
  go_wp2_with (go_at_call 186;refine (AF b v _ HV.out).mono ?_;rintro e w' ⟨⟨n,rfl,hn⟩,rfl⟩;have HN:=Lib.hid hn;clear hn)
  go_ret
  exact⟨kV (by have:=HN.out;unfold Bad at this;rw[<- this]),rfl⟩
theorem mV(a b c d:Int)(w:World) :
    Calls Tryz.prog 150 #[.agg #[.int .i64 a,.int .i64 b,.int .i64 c,.int .i64 d]] w λe w'=>e=.returned (.bool (V4.ok ⟨a,b,c,d⟩))/\Below w.heap.size w w':=by
  go_enter Tryz.func150,Tryz.ntmps150
  go_wp2_with (go_at_call 170;refine (uy _ ⟨a,b,c,d⟩ _ (λk hk=>?_)).mono ?_)
  · have:k=0\/k=1\/k=2\/k=3:=by omega
    rcases this with rfl | rfl | rfl | rfl<;>simp[V4.at]
  · rintro e w' ⟨rfl,rfl⟩
    go_wp2
    go_ret
    refine⟨?_,(Below.refl _ _).alloc (Nat.le_refl _) _⟩
    first | rfl | simp
set_option maxHeartbeats 1000000 in
theorem ci(a b c d:Int)(w:World) :
    Calls Tryz.prog 100 #[.agg #[.int .i64 a,.int .i64 b,.int .i64 c,.int .i64 d]] w λe w'=>e=.returned (.bool (V4.ok ⟨a,b,c,d⟩))/\Below w.heap.size w w':=by
  go_enter Tryz.func100,Tryz.ntmps100
  go_wp2
  go_loop [3] (λi=>∃k:Nat,k<=4/\i=.int .i64 k/\V4.okTo ⟨a,b,c,d⟩ k) (λi=>4-(intOf i).toNat)
  case atStart=>exact⟨0,by omega,rfl,λj hj=>by omega⟩
  case round =>
    obtain⟨k,hk4,rfl,hok⟩:=hrel
    have HO:=Lib.hid hok
    clear hok
    by_cases hk:k<4
    · have hc:(w.alloc (.cells #[.int .i64 a,.int .i64 b,.int .i64 c,.int .i64 d] 30)).cell? ⟨w.heap.size,k,none⟩=some (.int .i64 (V4.at ⟨a,b,c,d⟩ k)):=by
        have:k=0\/k=1\/k=2\/k=3:=by omega
        rcases this with rfl | rfl | rfl | rfl<;>simp[V4.at]
      generalize hv:V4.at ⟨a,b,c,d⟩ k=x at hc
      have HV:=Lib.hid hv
      clear hv
      cases hb:inR x 0 999
      · have HA:=Lib.hid hb
        clear hb
        go_wp2_with (go_at_call 52;refine (pV _ _ _ _).mono ?_;rintro e w' ⟨rfl,rfl⟩;rw[HA.out])
        go_ret
        exact⟨kV (V4.bad_of hk (by rw[HV.out];exact HA.out)).symm,(Below.refl _ _).alloc (Nat.le_refl _) _⟩
      · have HA:=Lib.hid hb
        clear hb
        go_wp2_with (go_at_call 52;refine (pV _ _ _ _).mono ?_;rintro e w' ⟨rfl,rfl⟩;rw[HA.out])
        go_round
        case rel=>exact⟨k+1,by omega,by go_num,V4.okTo_succ HO.out (by rw[HV.out];exact HA.out)⟩
        case measure=>simp[intOf];omega
    · obtain rfl:k=4:=by omega
      go_wp2
      go_ret
      exact⟨kV (V4.ok_of_okTo HO.out).symm,(Below.refl _ _).alloc (Nat.le_refl _) _⟩
def V4.Blk(w:World)(b:Nat)(v:V4):Prop:=w.heap[b]?=some (.cells v.cells 30 (0,0))
theorem V4.Blk.cell{w:World}{b:Nat}{v:V4}(h:V4.Blk w b v):w.cell? ⟨b,0,none⟩=some (.int .i64 v.a)/\w.cell? ⟨b,1,none⟩=some (.int .i64 v.b)/\w.cell? ⟨b,2,none⟩=some (.int .i64 v.c)/\w.cell? ⟨b,3,none⟩=some (.int .i64 v.d)/\∀i,w.frozen? ⟨b,i,none⟩=false:=by
  unfold V4.Blk at h
  refine⟨?_,?_,?_,?_,λi=>?_⟩<;>simp[World.cell?,World.frozen?,h]
theorem V4.Blk.at{w:World}{b:Nat}{v:V4}(h:V4.Blk w b v){k:Int}(h0:0<=k)(h3:k<=3):w.cell? ⟨b,k.toNat,none⟩=some (.int .i64 (v.get k)):=by
  unfold V4.Blk at h
  have:k=0\/k=1\/k=2\/k=3:=by omega
  rcases this with rfl | rfl | rfl | rfl<;>simp[World.cell?,h,V4.get]
theorem V4.Blk.keep{w w':World}{b:Nat}{v:V4}(h:V4.Blk w b v)(hk:w'.heap[b]?=w.heap[b]?):V4.Blk w' b v:=hk.trans h
theorem FS(v:V4)(key n:Int)(b bx:Nat)(w:World)(hv:V4.Blk w b v)
    (hx1:w.cell? ⟨bx,1,none⟩=some (.int .i64 key)) (hx3:w.cell? ⟨bx,3,none⟩=some (.int .i64 n)) (h0:0<=key) (h3:key<=3) :
    Calls Tryz.prog 191 #[.pointer (some ⟨bx,0,none⟩),.pointer (some ⟨b,0,none⟩)] w λe w'=>e=.returned (.tuple #[])/\V4.Blk w' b (v.set key (n))/\dk w w' b:=by
  have c0:w.cell? ⟨b,0,none⟩=some (.int .i64 v.a):=by unfold V4.Blk at hv;simp[World.cell?,hv]
  have c1:w.cell? ⟨b,1,none⟩=some (.int .i64 v.b):=by unfold V4.Blk at hv;simp[World.cell?,hv]
  have c2:w.cell? ⟨b,2,none⟩=some (.int .i64 v.c):=by unfold V4.Blk at hv;simp[World.cell?,hv]
  have c3:w.cell? ⟨b,3,none⟩=some (.int .i64 v.d):=by unfold V4.Blk at hv;simp[World.cell?,hv]
  have hf:∀i,w.frozen? ⟨b,i,none⟩=false:=λi=>by unfold V4.Blk at hv;simp[World.frozen?,hv]
  have HV:=Lib.hid hv
  clear hv
  have:key=0\/key=1\/key=2\/key=3:=by omega
  rcases this with rfl | rfl | rfl | rfl
  all_goals
    go_enter Tryz.func191,Tryz.ntmps191
    go_wp2
    all_goals
      go_end0
      refine⟨rfl,?_,?_⟩
      · have:=HV.out
        unfold V4.Blk at this |-
        simp[World.setCell,Array.getElem?_modify,this,V4.set]
      · first | exact dk.setCell _ _ _ _ | exact (dk.setCell _ _ _ _).drew | (refine⟨by simp,rfl,rfl,rfl,by simp,λk hk hne=>Below.heap_setCell _ _ _ _ (by intro e;exact hne (by rw[e]))⟩)
theorem Fm(v:V4)(key n:Int)(b bx:Nat)(w:World)(hv:V4.Blk w b v)(hok:(-5000<=v.a/\v.a<=5000)/\(-5000<=v.b/\v.b<=5000)/\(-5000<=v.c/\v.c<=5000)/\(-5000<=v.d/\v.d<=5000))(hn:-5000<=n/\n<=5000)
    (hx1:w.cell? ⟨bx,1,none⟩=some (.int .i64 key)) (hx3:w.cell? ⟨bx,3,none⟩=some (.int .i64 n)) (h0:0<=key) (h3:key<=3) :
    Calls Tryz.prog 192 #[.pointer (some ⟨b,0,none⟩),.pointer (some ⟨bx,0,none⟩)] w λe w'=>e=.returned (.tuple #[])/\V4.Blk w' b (v.set key (v.get key+n))/\dk w w' b:=by
  have c0:w.cell? ⟨b,0,none⟩=some (.int .i64 v.a):=by unfold V4.Blk at hv;simp[World.cell?,hv]
  have c1:w.cell? ⟨b,1,none⟩=some (.int .i64 v.b):=by unfold V4.Blk at hv;simp[World.cell?,hv]
  have c2:w.cell? ⟨b,2,none⟩=some (.int .i64 v.c):=by unfold V4.Blk at hv;simp[World.cell?,hv]
  have c3:w.cell? ⟨b,3,none⟩=some (.int .i64 v.d):=by unfold V4.Blk at hv;simp[World.cell?,hv]
  have hf:∀i,w.frozen? ⟨b,i,none⟩=false:=λi=>by unfold V4.Blk at hv;simp[World.frozen?,hv]
  have HV:=Lib.hid hv
  clear hv
  obtain⟨⟨a1,a2⟩,⟨b1,b2⟩,⟨d1,d2⟩,e1,e2⟩:=hok
  obtain⟨n1,n2⟩:=hn
  have:key=0\/key=1\/key=2\/key=3:=by omega
  rcases this with rfl | rfl | rfl | rfl
  all_goals
    go_enter Tryz.func192,Tryz.ntmps192
    go_wp2
    go_region
    all_goals
      go_end0
      refine⟨rfl,?_,?_⟩
      · have:=HV.out
        unfold V4.Blk at this |-
        simp[World.setCell,World.drew,Array.getElem?_modify,this,V4.set,V4.get]
      · first | exact dk.setCell _ _ _ _ | exact (dk.setCell _ _ _ _).drew | (refine⟨by simp,rfl,rfl,rfl,by simp,λk hk hne=>Below.heap_setCell _ _ _ _ (by intro e;exact hne (by rw[e]))⟩)
theorem Fc(v:V4)(key n:Int)(b bx:Nat)(w:World)(hv:V4.Blk w b v)(hok:(-5000<=v.a/\v.a<=5000)/\(-5000<=v.b/\v.b<=5000)/\(-5000<=v.c/\v.c<=5000)/\(-5000<=v.d/\v.d<=5000))(hn:-5000<=n/\n<=5000)
    (hx1:w.cell? ⟨bx,1,none⟩=some (.int .i64 key)) (hx3:w.cell? ⟨bx,3,none⟩=some (.int .i64 n)) (h0:0<=key) (h3:key<=3) :
    Calls Tryz.prog 193 #[.pointer (some ⟨b,0,none⟩),.pointer (some ⟨bx,0,none⟩)] w λe w'=>e=.returned (.tuple #[])/\V4.Blk w' b (v.set key (v.get key-n))/\dk w w' b:=by
  have c0:w.cell? ⟨b,0,none⟩=some (.int .i64 v.a):=by unfold V4.Blk at hv;simp[World.cell?,hv]
  have c1:w.cell? ⟨b,1,none⟩=some (.int .i64 v.b):=by unfold V4.Blk at hv;simp[World.cell?,hv]
  have c2:w.cell? ⟨b,2,none⟩=some (.int .i64 v.c):=by unfold V4.Blk at hv;simp[World.cell?,hv]
  have c3:w.cell? ⟨b,3,none⟩=some (.int .i64 v.d):=by unfold V4.Blk at hv;simp[World.cell?,hv]
  have hf:∀i,w.frozen? ⟨b,i,none⟩=false:=λi=>by unfold V4.Blk at hv;simp[World.frozen?,hv]
  have HV:=Lib.hid hv
  clear hv
  obtain⟨⟨a1,a2⟩,⟨b1,b2⟩,⟨d1,d2⟩,e1,e2⟩:=hok
  obtain⟨n1,n2⟩:=hn
  have:key=0\/key=1\/key=2\/key=3:=by omega
  rcases this with rfl | rfl | rfl | rfl
  all_goals
    go_enter Tryz.func193,Tryz.ntmps193
    go_wp2
    go_region
    all_goals
      go_end0
      refine⟨rfl,?_,?_⟩
      · have:=HV.out
        unfold V4.Blk at this |-
        simp[World.setCell,World.drew,Array.getElem?_modify,this,V4.set,V4.get]
      · first | exact dk.setCell _ _ _ _ | exact (dk.setCell _ _ _ _).drew | (refine⟨by simp,rfl,rfl,rfl,by simp,λk hk hne=>Below.heap_setCell _ _ _ _ (by intro e;exact hne (by rw[e]))⟩)
theorem FF(v:V4)(key n:Int)(b bx:Nat)(w:World)(hv:V4.Blk w b v)(hok:(-5000<=v.a/\v.a<=5000)/\(-5000<=v.b/\v.b<=5000)/\(-5000<=v.c/\v.c<=5000)/\(-5000<=v.d/\v.d<=5000))(hn:-5000<=n/\n<=5000)
    (hx1:w.cell? ⟨bx,2,none⟩=some (.int .i64 key)) (hx3:w.cell? ⟨bx,3,none⟩=some (.int .i64 n)) (h0:0<=key) (h3:key<=3) :
    Calls Tryz.prog 194 #[.pointer (some ⟨b,0,none⟩),.pointer (some ⟨bx,0,none⟩)] w λe w'=>e=.returned (.tuple #[])/\V4.Blk w' b (v.set key (v.get key+n))/\dk w w' b:=by
  have c0:w.cell? ⟨b,0,none⟩=some (.int .i64 v.a):=by unfold V4.Blk at hv;simp[World.cell?,hv]
  have c1:w.cell? ⟨b,1,none⟩=some (.int .i64 v.b):=by unfold V4.Blk at hv;simp[World.cell?,hv]
  have c2:w.cell? ⟨b,2,none⟩=some (.int .i64 v.c):=by unfold V4.Blk at hv;simp[World.cell?,hv]
  have c3:w.cell? ⟨b,3,none⟩=some (.int .i64 v.d):=by unfold V4.Blk at hv;simp[World.cell?,hv]
  have hf:∀i,w.frozen? ⟨b,i,none⟩=false:=λi=>by unfold V4.Blk at hv;simp[World.frozen?,hv]
  have HV:=Lib.hid hv
  clear hv
  obtain⟨⟨a1,a2⟩,⟨b1,b2⟩,⟨d1,d2⟩,e1,e2⟩:=hok
  obtain⟨n1,n2⟩:=hn
  have:key=0\/key=1\/key=2\/key=3:=by omega
  rcases this with rfl | rfl | rfl | rfl
  all_goals
    go_enter Tryz.func194,Tryz.ntmps194
    go_wp2
    go_region
    all_goals
      go_end0
      refine⟨rfl,?_,?_⟩
      · have:=HV.out
        unfold V4.Blk at this |-
        simp[World.setCell,World.drew,Array.getElem?_modify,this,V4.set,V4.get]
      · first | exact dk.setCell _ _ _ _ | exact (dk.setCell _ _ _ _).drew | (refine⟨by simp,rfl,rfl,rfl,by simp,λk hk hne=>Below.heap_setCell _ _ _ _ (by intro e;exact hne (by rw[e]))⟩)
theorem wA(w:World):(zeroValue 239).run Tryz.prog w=.ok (.slice none 0 0) w:=by kernel_rfl
abbrev fnv(f:Nat)(a b:Addr):Value:=.func (.func f) #[] #[.pointer (some a),.pointer (some b)]
theorem bs1(f:Nat)(a b:Addr)(w:World):(Instr.buildSlice 239 1 #[(0,fnv f a b)]).run Tryz.prog w=.ok (.slice (some ⟨w.heap.size,0,none⟩) 1 1) (w.alloc (.cells #[fnv f a b] 1)):=by kernel_rfl
theorem bs2(f g:Nat)(a b c d:Addr)(w:World):(Instr.buildSlice 239 2 #[(0,fnv f a b),(1,fnv g c d)]).run Tryz.prog w=.ok (.slice (some ⟨w.heap.size,0,none⟩) 2 2) (w.alloc (.cells #[fnv f a b,fnv g c d] 1)):=by kernel_rfl
theorem wI{w w1 w2 w3:World}{A B C D M R1 R2 R3:Obj}(ho1:dk ((((((w.alloc A).alloc B).alloc C).alloc D).alloc M).alloc R1) w1 (w.heap.size+1+1+1+1))
    (ho2:dk (w1.alloc R2) w2 (w.heap.size+1+1+1+1)) (ho3:dk (w2.alloc R3) w3 (w.heap.size+1+1+1+1)) :
    w3.heap[w.heap.size]?=some A/\w3.heap[w.heap.size+1]?=some B/\w3.heap[w.heap.size+1+1]?=some C/\w3.heap[w.heap.size+1+1+1]?=some D/\w3.heap[w.heap.size+1+1+1+1+1]?=some R1/\w3.heap[w.heap.size+1+1+1+1+1+1]?=some R2/\w3.heap[w.heap.size+1+1+1+1+1+1+1]?=some R3 /\
      w3.heap.size=w.heap.size+8/\Below w.heap.size w w3:=by
  have hz1:=ho1.1
  have hz2:=ho2.1
  have hz3:=ho3.1
  simp only[World.size_alloc] at hz1 hz2 hz3
  have old:∀k,k<w1.heap.size->k≠w.heap.size+1+1+1+1->w3.heap[k]?=w1.heap[k]?:=λk hk hne =>
    (ho3.alloc_heap _ hne (by omega)).trans (ho2.alloc_heap _ hne (by omega))
  refine⟨?_,?_,?_,?_,?_,?_,?_,by omega,?_⟩
  · exact (old _ (by omega) (by omega)).trans ((ho1.heap _ (by omega)).trans ((af _ _ _).trans ((if_neg (by simp only[World.size_alloc];omega)).trans ((af _ _ _).trans ((if_neg (by simp only[World.size_alloc];omega)).trans ((af _ _ _).trans ((if_neg (by simp only[World.size_alloc];omega)).trans ((af _ _ _).trans ((if_neg (by simp only[World.size_alloc];omega)).trans ((af _ _ _).trans ((if_neg (by simp only[World.size_alloc];omega)).trans ((af _ _ _).trans (if_pos (by simp only[World.size_alloc]))))))))))))))
  · exact (old _ (by omega) (by omega)).trans ((ho1.heap _ (by omega)).trans ((af _ _ _).trans ((if_neg (by simp only[World.size_alloc];omega)).trans ((af _ _ _).trans ((if_neg (by simp only[World.size_alloc];omega)).trans ((af _ _ _).trans ((if_neg (by simp only[World.size_alloc];omega)).trans ((af _ _ _).trans ((if_neg (by simp only[World.size_alloc];omega)).trans ((af _ _ _).trans (if_pos (by simp only[World.size_alloc]))))))))))))
  · exact (old _ (by omega) (by omega)).trans ((ho1.heap _ (by omega)).trans ((af _ _ _).trans ((if_neg (by simp only[World.size_alloc];omega)).trans ((af _ _ _).trans ((if_neg (by simp only[World.size_alloc];omega)).trans ((af _ _ _).trans ((if_neg (by simp only[World.size_alloc];omega)).trans ((af _ _ _).trans (if_pos (by simp only[World.size_alloc]))))))))))
  · exact (old _ (by omega) (by omega)).trans ((ho1.heap _ (by omega)).trans ((af _ _ _).trans ((if_neg (by simp only[World.size_alloc];omega)).trans ((af _ _ _).trans ((if_neg (by simp only[World.size_alloc];omega)).trans ((af _ _ _).trans (if_pos (by simp only[World.size_alloc]))))))))
  · exact (old _ (by omega) (by omega)).trans ((ho1.heap _ (by omega)).trans ((af _ _ _).trans (if_pos (by simp only[World.size_alloc]))))
  · exact (ho3.alloc_heap _ (by omega) (by omega)).trans (ho2.alloc_new _ (by omega) (by omega))
  · exact ho3.alloc_new _ (by omega) (by omega)
  · refine dk.below ?_ ho3 (by omega)
    refine Below.alloc ?_ (by omega) _
    refine dk.below ?_ ho2 (by omega)
    refine Below.alloc ?_ (by omega) _
    refine dk.below ?_ ho1 (by omega)
    repeat (first | exact Below.refl _ _ | refine Below.alloc ?_ (by (try simp only[World.size_alloc]);omega) _)
structure Tst(w0 w:World)(v u:V4)(xc:Array Value)(R1 R2 R3:Obj):Prop where
  fv:V4.Blk w w0.heap.size u
  fx:w.heap[w0.heap.size+1]?=some (.cells xc 82 (0,0))
  fr:V4.Blk w (w0.heap.size+1+1) V4.zero
  fw:V4.Blk w (w0.heap.size+1+1+1) v
  r1:w.heap[w0.heap.size+1+1+1+1+1]?=some R1
  r2:w.heap[w0.heap.size+1+1+1+1+1+1]?=some R2
  r3:w.heap[w0.heap.size+1+1+1+1+1+1+1]?=some R3
  hz:w0.heap.size+8<=w.heap.size
  hb:Below w0.heap.size w0 w
theorem Tst.step{w0 w w':World}{v u u':V4}{xc:Array Value}{R1 R2 R3:Obj}(h:Tst w0 w v u xc R1 R2 R3)(ho:dk w w' w0.heap.size)(hu:V4.Blk w' w0.heap.size u'):Tst w0 w' v u' xc R1 R2 R3 :=
  ⟨hu,(ho.heap _ (by omega)).trans h.fx,(ho.heap _ (by omega)).trans h.fr,(ho.heap _ (by omega)).trans h.fw,(ho.heap _ (by omega)).trans h.r1,(ho.heap _ (by omega)).trans h.r2,(ho.heap _ (by omega)).trans h.r3,
    by have:=ho.1;have:=h.hz;omega,dk.below h.hb ho (Nat.le_refl _)⟩
theorem Tst.below{w0 w w':World}{v u:V4}{xc:Array Value}{R1 R2 R3:Obj}(h:Tst w0 w v u xc R1 R2 R3)(hb:Below w.heap.size w w'):Tst w0 w' v u xc R1 R2 R3:=by
  have hz:=h.hz
  exact⟨(hb.block _ (by omega)).trans h.fv,(hb.block _ (by omega)).trans h.fx,(hb.block _ (by omega)).trans h.fr,(hb.block _ (by omega)).trans h.fw,(hb.block _ (by omega)).trans h.r1,(hb.block _ (by omega)).trans h.r2,(hb.block _ (by omega)).trans h.r3,
    Nat.le_trans hz hb.size,h.hb.trans (hb.mono h.hb.size)⟩
theorem Tst.op{w0 w:World}{v u:V4}{a b c d:Value}{R1 R2 R3:Obj}(h:Tst w0 w v u #[a,b,c,d] R1 R2 R3) :
    w.cell? ⟨w0.heap.size+1,0,none⟩=some a/\w.cell? ⟨w0.heap.size+1,1,none⟩=some b/\w.cell? ⟨w0.heap.size+1,2,none⟩=some c/\w.cell? ⟨w0.heap.size+1,3,none⟩=some d :=
  ⟨cell_of_row _ _ _ _ _ _ h.fx,cell_of_row _ _ _ _ _ _ h.fx,cell_of_row _ _ _ _ _ _ h.fx,cell_of_row _ _ _ _ _ _ h.fx⟩
theorem cx{v:V4}(h:v.ok=true):(-5000<=v.a/\v.a<=5000)/\(-5000<=v.b/\v.b<=5000)/\(-5000<=v.c/\v.c<=5000)/\(-5000<=v.d/\v.d<=5000):=by
  have:=V4.ok_iff v
  have h:=this.1 h
  omega
theorem HM(n:Int){k:Int}(h:k≠4->-999<=n/\n<=999)(hk:k≠4:=by decide):-5000<=n/\n<=5000:=by have:=h hk;omega
theorem dt{x:POp}(h:x.err=0):(x.kind=1\/x.kind=2\/x.kind=3\/x.kind=4)/\0<=x.key/\x.key<=3/\(x.kind=3->0<=x.to/\x.to<=3)/\(x.kind≠4->-999<=x.n/\x.n<=999):=by
  unfold POp.err at h
  omega
set_option maxHeartbeats 2000000 in
theorem Ac(v:V4)(key to n:Int)(w:World)(hx:POp.err ⟨1,key,to,n⟩=0)(hv:v.ok=true) :
    Calls Tryz.prog 184 #[v.val,POp.val ⟨1,key,to,n⟩] w λe w'=>e=.returned (.tuple #[(POp.turn ⟨1,key,to,n⟩ v).1.val,.int .i64 (POp.turn ⟨1,key,to,n⟩ v).2])/\Below w.heap.size w w':=by
  obtain⟨_,hk0,hk3,hto,hn⟩:=dt hx
  simp only at hk0 hk3 hto hn
  have HB:=Lib.hid (cx hv)
  clear hv
  have HT:=Lib.hid hto
  have HN:=Lib.hid hn
  clear hto hn hx
  have hmm:=@run_makeMap Tryz.prog
  have h1:=bs1
  have h2:=bs2
  go_enter Tryz.func184,Tryz.ntmps184
  go_wp2_with (first
   | (refine aA _ rfl _ _ _ _ rfl _ _ Tryz.underlying240 Tryz.underlying3 (w.heap.size+1+1+1+1) #[] 0 rfl ?_ 1 rfl rfl ?_
      · rw[af,if_neg (by simp only[World.size_alloc];omega),af,if_pos (by simp only[World.size_alloc])]
      intro w1 hm1 ho1
      simp[go_sem] at hm1
      have hc1:=ho1.cell
      have hz1:=ho1.1
      simp only[World.size_alloc] at hz1)
   | (refine aA _ rfl _ _ _ _ rfl _ _ Tryz.underlying240 Tryz.underlying3 (w.heap.size+1+1+1+1) _ _ rfl ((af _ _ _).trans ((if_neg ?_).trans hm1)) 2 rfl rfl ?_
      · omega
      intro w2 hm2 ho2
      simp[go_sem] at hm2
      have hc2:=ho2.cell
      have hz2:=ho2.1
      simp only[World.size_alloc] at hz2
      clear hm1)
   | (refine aA _ rfl _ _ _ _ rfl _ _ Tryz.underlying240 Tryz.underlying3 (w.heap.size+1+1+1+1) _ _ rfl ((af _ _ _).trans ((if_neg ?_).trans hm2)) 3 rfl rfl ?_
      · omega
      intro w3 hm3 ho3
      simp[go_sem] at hm3
      have hc3:=ho3.cell
      have hz3:=ho3.1
      simp only[World.size_alloc] at hz3
      clear hm2)
   | (at_lookup
      go_must (
      obtain⟨f0,f1,f2,f3,f4,f5,f6,hz,hb⟩:=wI ho1 ho2 ho3
      clear hc1 hc2 hc3 ho1 ho2 ho3 hz1 hz2 hz3 w1 w2
      have hT:=(⟨f0,f1,f2,f3,f4,f5,f6,by omega,hb⟩:Tst w w3 v v _ _ _ _)
      obtain⟨x0,x1,x2,x3⟩:=hT.op
      obtain⟨v0,v1,v2,v3,vf⟩:=hT.fv.cell
      have HS:=hT.fr.cell
      have s1:=λi=>cell_of_row _ _ i _ _ _ f4
      have s2:=λi=>cell_of_row _ _ i _ _ _ f5
      have s3:=λi=>cell_of_row _ _ i _ _ _ f6
      clear f0 f1 f2 f3 f4 f5 f6
      refine ef _ rfl _ _ _ rfl _ _ Tryz.underlying240 Tryz.underlying3 _ wA (w.heap.size+1+1+1+1) _ _ rfl hm3 1 rfl _ rfl ?_
      simp only[ov]
      clear s2 s3 hm3))
   | (go_at_call 191
      refine (FS v key n _ _ _ hT.fv x1 x3 hk0 hk3).mono ?_
      rintro e w4 ⟨rfl,hB4,ho4⟩
      have hT4:=hT.step ho4 hB4
      have hz4:=ho4.1
      clear x0 x1 x2 x3 v0 v1 v2 v3 vf HS hB4 ho4
      generalize hu:v.set key n=u at hT4
      have HU:=Lib.hid hu
      clear hu
      obtain⟨x0,x1,x2,x3⟩:=hT4.op
      obtain⟨v0,v1,v2,v3,vf⟩:=hT4.fv.cell
      have HS:=hT4.fr.cell
      cases hok:u.ok
      all_goals have HO:=Lib.hid hok
      all_goals clear hok)
   | (go_at_call 150
      refine (mV u.a u.b u.c u.d _).mono ?_
      rintro e w5 ⟨rfl,hb5⟩
      have hT5:=hT4.below hb5
      have hz5:=hT5.hz
      clear x0 x1 x2 x3 v0 v1 v2 v3 vf HS hb5 hz4
      rw[show V4.ok ⟨u.a,u.b,u.c,u.d⟩=_ from HO.out]
      obtain⟨x0,x1,x2,x3⟩:=hT5.op
      obtain⟨v0,v1,v2,v3,vf⟩:=hT5.fv.cell
      have HW:=hT5.fw.cell
      have HS:=hT5.fr.cell
      have hg:=hT5.fv.at hk0 hk3
      have t3:=λi=>cell_of_row _ _ i _ _ _ hT5.r3)
   | (with_reducible refine wY ?_)
   | (with_reducible refine wB ?_)
   | (with_reducible refine wQ ?_))
  all_goals try go_region
  all_goals go_wp2
  · refine bodyPost_ret (v:=.tuple #[v.val,.int .i64 (-1)]) (by simp[results,Tryz.results184,go_sem,HS]) rfl ⟨?_,?_⟩
    · rw[show POp.turn ⟨1,key,to,n⟩ v=(v,-1) from by simp[POp.turn,HU.out,HO.out]]
    · repeat (first | exact hT5.hb | refine Below.drew ?_ | refine Below.setCell ?_ (by dsimp only;omega) _)
  · refine bodyPost_ret (v:=.tuple #[u.val,.int .i64 (u.get key)]) (by simp[results,Tryz.results184,go_sem,HS]) rfl ⟨?_,?_⟩
    · rw[show POp.turn ⟨1,key,to,n⟩ v=(u,u.get key) from by simp[POp.turn,HU.out,HO.out]]
    · repeat (first | exact hT5.hb | refine Below.drew ?_ | refine Below.setCell ?_ (by dsimp only;omega) _)
set_option maxHeartbeats 2000000 in
theorem zc(v:V4)(key to n:Int)(w:World)(hx:POp.err ⟨2,key,to,n⟩=0)(hv:v.ok=true) :
    Calls Tryz.prog 184 #[v.val,POp.val ⟨2,key,to,n⟩] w λe w'=>e=.returned (.tuple #[(POp.turn ⟨2,key,to,n⟩ v).1.val,.int .i64 (POp.turn ⟨2,key,to,n⟩ v).2])/\Below w.heap.size w w':=by
  obtain⟨_,hk0,hk3,hto,hn⟩:=dt hx
  simp only at hk0 hk3 hto hn
  have HB:=Lib.hid (cx hv)
  clear hv
  have HT:=Lib.hid hto
  have HN:=Lib.hid hn
  clear hto hn hx
  have hmm:=@run_makeMap Tryz.prog
  have h1:=bs1
  have h2:=bs2
  go_enter Tryz.func184,Tryz.ntmps184
  go_wp2_with (first
   | (refine aA _ rfl _ _ _ _ rfl _ _ Tryz.underlying240 Tryz.underlying3 (w.heap.size+1+1+1+1) #[] 0 rfl ?_ 1 rfl rfl ?_
      · rw[af,if_neg (by simp only[World.size_alloc];omega),af,if_pos (by simp only[World.size_alloc])]
      intro w1 hm1 ho1
      simp[go_sem] at hm1
      have hc1:=ho1.cell
      have hz1:=ho1.1
      simp only[World.size_alloc] at hz1)
   | (refine aA _ rfl _ _ _ _ rfl _ _ Tryz.underlying240 Tryz.underlying3 (w.heap.size+1+1+1+1) _ _ rfl ((af _ _ _).trans ((if_neg ?_).trans hm1)) 2 rfl rfl ?_
      · omega
      intro w2 hm2 ho2
      simp[go_sem] at hm2
      have hc2:=ho2.cell
      have hz2:=ho2.1
      simp only[World.size_alloc] at hz2
      clear hm1)
   | (refine aA _ rfl _ _ _ _ rfl _ _ Tryz.underlying240 Tryz.underlying3 (w.heap.size+1+1+1+1) _ _ rfl ((af _ _ _).trans ((if_neg ?_).trans hm2)) 3 rfl rfl ?_
      · omega
      intro w3 hm3 ho3
      simp[go_sem] at hm3
      have hc3:=ho3.cell
      have hz3:=ho3.1
      simp only[World.size_alloc] at hz3
      clear hm2)
   | (at_lookup
      go_must (
      obtain⟨f0,f1,f2,f3,f4,f5,f6,hz,hb⟩:=wI ho1 ho2 ho3
      clear hc1 hc2 hc3 ho1 ho2 ho3 hz1 hz2 hz3 w1 w2
      have hT:=(⟨f0,f1,f2,f3,f4,f5,f6,by omega,hb⟩:Tst w w3 v v _ _ _ _)
      obtain⟨x0,x1,x2,x3⟩:=hT.op
      obtain⟨v0,v1,v2,v3,vf⟩:=hT.fv.cell
      have HS:=hT.fr.cell
      have s1:=λi=>cell_of_row _ _ i _ _ _ f4
      have s2:=λi=>cell_of_row _ _ i _ _ _ f5
      have s3:=λi=>cell_of_row _ _ i _ _ _ f6
      clear f0 f1 f2 f3 f4 f5 f6
      refine ef _ rfl _ _ _ rfl _ _ Tryz.underlying240 Tryz.underlying3 _ wA (w.heap.size+1+1+1+1) _ _ rfl hm3 2 rfl _ rfl ?_
      simp only[ov]
      clear s1 s3 hm3))
   | (go_at_call 192
      refine (Fm v key n _ _ _ hT.fv HB.out (HM n HN.out) x1 x3 hk0 hk3).mono ?_
      rintro e w4 ⟨rfl,hB4,ho4⟩
      have hT4:=hT.step ho4 hB4
      have hz4:=ho4.1
      clear x0 x1 x2 x3 v0 v1 v2 v3 vf HS hB4 ho4
      generalize hu:v.set key (v.get key+n)=u at hT4
      have HU:=Lib.hid hu
      clear hu
      obtain⟨x0,x1,x2,x3⟩:=hT4.op
      obtain⟨v0,v1,v2,v3,vf⟩:=hT4.fv.cell
      have HS:=hT4.fr.cell
      cases hok:u.ok
      all_goals have HO:=Lib.hid hok
      all_goals clear hok)
   | (go_at_call 150
      refine (mV u.a u.b u.c u.d _).mono ?_
      rintro e w5 ⟨rfl,hb5⟩
      have hT5:=hT4.below hb5
      have hz5:=hT5.hz
      clear x0 x1 x2 x3 v0 v1 v2 v3 vf HS hb5 hz4
      rw[show V4.ok ⟨u.a,u.b,u.c,u.d⟩=_ from HO.out]
      obtain⟨x0,x1,x2,x3⟩:=hT5.op
      obtain⟨v0,v1,v2,v3,vf⟩:=hT5.fv.cell
      have HW:=hT5.fw.cell
      have HS:=hT5.fr.cell
      have hg:=hT5.fv.at hk0 hk3
      have t3:=λi=>cell_of_row _ _ i _ _ _ hT5.r3)
   | (with_reducible refine wY ?_)
   | (with_reducible refine wB ?_)
   | (with_reducible refine wQ ?_))
  all_goals try go_region
  all_goals go_wp2
  · refine bodyPost_ret (v:=.tuple #[v.val,.int .i64 (-1)]) (by simp[results,Tryz.results184,go_sem,HS]) rfl ⟨?_,?_⟩
    · rw[show POp.turn ⟨2,key,to,n⟩ v=(v,-1) from by simp[POp.turn,HU.out,HO.out]]
    · repeat (first | exact hT5.hb | refine Below.drew ?_ | refine Below.setCell ?_ (by dsimp only;omega) _)
  · refine bodyPost_ret (v:=.tuple #[u.val,.int .i64 (u.get key)]) (by simp[results,Tryz.results184,go_sem,HS]) rfl ⟨?_,?_⟩
    · rw[show POp.turn ⟨2,key,to,n⟩ v=(u,u.get key) from by simp[POp.turn,HU.out,HO.out]]
    · repeat (first | exact hT5.hb | refine Below.drew ?_ | refine Below.setCell ?_ (by dsimp only;omega) _)
set_option maxHeartbeats 2000000 in
theorem AH(v:V4)(key to n:Int)(w:World)(hx:POp.err ⟨3,key,to,n⟩=0)(hv:v.ok=true) :
    Calls Tryz.prog 184 #[v.val,POp.val ⟨3,key,to,n⟩] w λe w'=>e=.returned (.tuple #[(POp.turn ⟨3,key,to,n⟩ v).1.val,.int .i64 (POp.turn ⟨3,key,to,n⟩ v).2])/\Below w.heap.size w w':=by
  obtain⟨_,hk0,hk3,hto,hn⟩:=dt hx
  simp only at hk0 hk3 hto hn
  have HB:=Lib.hid (cx hv)
  clear hv
  have HT:=Lib.hid hto
  have HN:=Lib.hid hn
  clear hto hn hx
  have hmm:=@run_makeMap Tryz.prog
  have h1:=bs1
  have h2:=bs2
  go_enter Tryz.func184,Tryz.ntmps184
  go_wp2_with (first
   | (refine aA _ rfl _ _ _ _ rfl _ _ Tryz.underlying240 Tryz.underlying3 (w.heap.size+1+1+1+1) #[] 0 rfl ?_ 1 rfl rfl ?_
      · rw[af,if_neg (by simp only[World.size_alloc];omega),af,if_pos (by simp only[World.size_alloc])]
      intro w1 hm1 ho1
      simp[go_sem] at hm1
      have hc1:=ho1.cell
      have hz1:=ho1.1
      simp only[World.size_alloc] at hz1)
   | (refine aA _ rfl _ _ _ _ rfl _ _ Tryz.underlying240 Tryz.underlying3 (w.heap.size+1+1+1+1) _ _ rfl ((af _ _ _).trans ((if_neg ?_).trans hm1)) 2 rfl rfl ?_
      · omega
      intro w2 hm2 ho2
      simp[go_sem] at hm2
      have hc2:=ho2.cell
      have hz2:=ho2.1
      simp only[World.size_alloc] at hz2
      clear hm1)
   | (refine aA _ rfl _ _ _ _ rfl _ _ Tryz.underlying240 Tryz.underlying3 (w.heap.size+1+1+1+1) _ _ rfl ((af _ _ _).trans ((if_neg ?_).trans hm2)) 3 rfl rfl ?_
      · omega
      intro w3 hm3 ho3
      simp[go_sem] at hm3
      have hc3:=ho3.cell
      have hz3:=ho3.1
      simp only[World.size_alloc] at hz3
      clear hm2)
   | (at_lookup
      go_must (
      obtain⟨f0,f1,f2,f3,f4,f5,f6,hz,hb⟩:=wI ho1 ho2 ho3
      clear hc1 hc2 hc3 ho1 ho2 ho3 hz1 hz2 hz3 w1 w2
      have hT:=(⟨f0,f1,f2,f3,f4,f5,f6,by omega,hb⟩:Tst w w3 v v _ _ _ _)
      obtain⟨x0,x1,x2,x3⟩:=hT.op
      obtain⟨v0,v1,v2,v3,vf⟩:=hT.fv.cell
      have HS:=hT.fr.cell
      have s1:=λi=>cell_of_row _ _ i _ _ _ f4
      have s2:=λi=>cell_of_row _ _ i _ _ _ f5
      have s3:=λi=>cell_of_row _ _ i _ _ _ f6
      clear f0 f1 f2 f3 f4 f5 f6
      refine ef _ rfl _ _ _ rfl _ _ Tryz.underlying240 Tryz.underlying3 _ wA (w.heap.size+1+1+1+1) _ _ rfl hm3 3 rfl _ rfl ?_
      simp only[ov]
      clear s1 s2 hm3))
   | (go_at_call 193
      refine (Fc v key n _ _ _ hT.fv HB.out (HM n HN.out) x1 x3 hk0 hk3).mono ?_
      rintro e w4 ⟨rfl,hB4,ho4⟩
      have hT4:=hT.step ho4 hB4
      have hz4:=ho4.1
      clear x0 x1 x2 x3 v0 v1 v2 v3 vf HS hB4 ho4
      generalize hu:v.set key (v.get key-n)=u at hT4
      have HU:=Lib.hid hu
      clear hu
      obtain⟨x0,x1,x2,x3⟩:=hT4.op
      obtain⟨v0,v1,v2,v3,vf⟩:=hT4.fv.cell
      have HS:=hT4.fr.cell
      cases hok:u.ok
      all_goals have HO:=Lib.hid hok
      all_goals clear hok)
   | (go_at_call 194
      refine (FF u to n _ _ _ hT5.fv (cx HO.out) (HM n HN.out) x2 x3 (HT.out trivial).1 (HT.out trivial).2).mono ?_
      rintro e w6 ⟨rfl,hB4,ho4⟩
      have hT6:=hT5.step ho4 hB4
      have hz6:=ho4.1
      clear x0 x1 x2 x3 v0 v1 v2 v3 vf HS HW hB4 ho4 hg
      generalize hu2:u.set to (u.get to+n)=u2 at hT6
      have HU2:=Lib.hid hu2
      clear hu2
      obtain⟨x0,x1,x2,x3⟩:=hT6.op
      obtain⟨v0,v1,v2,v3,vf⟩:=hT6.fv.cell
      have HS:=hT6.fr.cell
      cases hok2:u2.ok
      all_goals have HO2:=Lib.hid hok2
      all_goals clear hok2)
   | (go_at_call 150
      refine (mV u2.a u2.b u2.c u2.d _).mono ?_
      rintro e w7 ⟨rfl,hb7⟩
      have hT7:=hT6.below hb7
      have hz7:=hT7.hz
      clear x0 x1 x2 x3 v0 v1 v2 v3 vf HS hb7 hz6
      rw[show V4.ok ⟨u2.a,u2.b,u2.c,u2.d⟩=_ from HO2.out]
      obtain⟨x0,x1,x2,x3⟩:=hT7.op
      obtain⟨v0,v1,v2,v3,vf⟩:=hT7.fv.cell
      have HW:=hT7.fw.cell
      have HS:=hT7.fr.cell
      have hg:=hT7.fv.at hk0 hk3)
   | (go_at_call 150
      refine (mV u.a u.b u.c u.d _).mono ?_
      rintro e w5 ⟨rfl,hb5⟩
      have hT5:=hT4.below hb5
      have hz5:=hT5.hz
      clear x0 x1 x2 x3 v0 v1 v2 v3 vf HS hb5 hz4
      rw[show V4.ok ⟨u.a,u.b,u.c,u.d⟩=_ from HO.out]
      obtain⟨x0,x1,x2,x3⟩:=hT5.op
      obtain⟨v0,v1,v2,v3,vf⟩:=hT5.fv.cell
      have HW:=hT5.fw.cell
      have HS:=hT5.fr.cell
      have hg:=hT5.fv.at hk0 hk3
      have t3:=λi=>cell_of_row _ _ i _ _ _ hT5.r3)
   | (with_reducible refine wY ?_)
   | (with_reducible refine wB ?_)
   | (with_reducible refine wQ ?_))
  all_goals try go_region
  all_goals go_wp2
  · refine bodyPost_ret (v:=.tuple #[v.val,.int .i64 (-1)]) (by simp[results,Tryz.results184,go_sem,HS]) rfl ⟨?_,?_⟩
    · rw[show POp.turn ⟨3,key,to,n⟩ v=(v,-1) from by simp[POp.turn,HU.out,HO.out]]
    · repeat (first | exact hT5.hb | refine Below.drew ?_ | refine Below.setCell ?_ (by dsimp only;omega) _)
  · refine bodyPost_ret (v:=.tuple #[v.val,.int .i64 (-1)]) (by simp[results,Tryz.results184,go_sem,HS]) rfl ⟨?_,?_⟩
    · rw[show POp.turn ⟨3,key,to,n⟩ v=(v,-1) from by simp[POp.turn,HU.out,HO.out,HU2.out,HO2.out]]
    · repeat (first | exact hT7.hb | refine Below.drew ?_ | refine Below.setCell ?_ (by dsimp only;omega) _)
  · refine bodyPost_ret (v:=.tuple #[u2.val,.int .i64 (u2.get key)]) (by simp[results,Tryz.results184,go_sem,HS]) rfl ⟨?_,?_⟩
    · rw[show POp.turn ⟨3,key,to,n⟩ v=(u2,u2.get key) from by simp[POp.turn,HU.out,HO.out,HU2.out,HO2.out]]
    · repeat (first | exact hT7.hb | refine Below.drew ?_ | refine Below.setCell ?_ (by dsimp only;omega) _)
set_option maxHeartbeats 2000000 in
theorem AQ(v:V4)(key to n:Int)(w:World)(hx:POp.err ⟨4,key,to,n⟩=0)(hv:v.ok=true) :
    Calls Tryz.prog 184 #[v.val,POp.val ⟨4,key,to,n⟩] w λe w'=>e=.returned (.tuple #[(POp.turn ⟨4,key,to,n⟩ v).1.val,.int .i64 (POp.turn ⟨4,key,to,n⟩ v).2])/\Below w.heap.size w w':=by
  obtain⟨_,hk0,hk3,hto,hn⟩:=dt hx
  simp only at hk0 hk3 hto hn
  have HB:=Lib.hid (cx hv)
  clear hv
  have HT:=Lib.hid hto
  have HN:=Lib.hid hn
  clear hto hn hx
  have hmm:=@run_makeMap Tryz.prog
  have h1:=bs1
  have h2:=bs2
  go_enter Tryz.func184,Tryz.ntmps184
  go_wp2_with (first
   | (refine aA _ rfl _ _ _ _ rfl _ _ Tryz.underlying240 Tryz.underlying3 (w.heap.size+1+1+1+1) #[] 0 rfl ?_ 1 rfl rfl ?_
      · rw[af,if_neg (by simp only[World.size_alloc];omega),af,if_pos (by simp only[World.size_alloc])]
      intro w1 hm1 ho1
      simp[go_sem] at hm1
      have hc1:=ho1.cell
      have hz1:=ho1.1
      simp only[World.size_alloc] at hz1)
   | (refine aA _ rfl _ _ _ _ rfl _ _ Tryz.underlying240 Tryz.underlying3 (w.heap.size+1+1+1+1) _ _ rfl ((af _ _ _).trans ((if_neg ?_).trans hm1)) 2 rfl rfl ?_
      · omega
      intro w2 hm2 ho2
      simp[go_sem] at hm2
      have hc2:=ho2.cell
      have hz2:=ho2.1
      simp only[World.size_alloc] at hz2
      clear hm1)
   | (refine aA _ rfl _ _ _ _ rfl _ _ Tryz.underlying240 Tryz.underlying3 (w.heap.size+1+1+1+1) _ _ rfl ((af _ _ _).trans ((if_neg ?_).trans hm2)) 3 rfl rfl ?_
      · omega
      intro w3 hm3 ho3
      simp[go_sem] at hm3
      have hc3:=ho3.cell
      have hz3:=ho3.1
      simp only[World.size_alloc] at hz3
      clear hm2)
   | (at_lookup
      go_must (
      obtain⟨f0,f1,f2,f3,f4,f5,f6,hz,hb⟩:=wI ho1 ho2 ho3
      clear hc1 hc2 hc3 ho1 ho2 ho3 hz1 hz2 hz3 w1 w2
      have hT:=(⟨f0,f1,f2,f3,f4,f5,f6,by omega,hb⟩:Tst w w3 v v _ _ _ _)
      obtain⟨x0,x1,x2,x3⟩:=hT.op
      obtain⟨v0,v1,v2,v3,vf⟩:=hT.fv.cell
      have HS:=hT.fr.cell
      have s1:=λi=>cell_of_row _ _ i _ _ _ f4
      have s2:=λi=>cell_of_row _ _ i _ _ _ f5
      have s3:=λi=>cell_of_row _ _ i _ _ _ f6
      clear f0 f1 f2 f3 f4 f5 f6
      refine ef _ rfl _ _ _ rfl _ _ Tryz.underlying240 Tryz.underlying3 _ wA (w.heap.size+1+1+1+1) _ _ rfl hm3 4 rfl _ rfl ?_
      simp only[ov]
      have hg:=hT.fv.at hk0 hk3
      clear s1 s2 s3 hm3))
   | (with_reducible refine wY ?_)
   | (with_reducible refine wB ?_)
   | (with_reducible refine wQ ?_))
  all_goals try go_region
  all_goals go_wp2
  · refine bodyPost_ret (v:=.tuple #[v.val,.int .i64 (v.get key)]) (by simp[results,Tryz.results184,go_sem,HS]) rfl ⟨?_,?_⟩
    · rw[show POp.turn ⟨4,key,to,n⟩ v=(v,v.get key) from by simp[POp.turn]]
    · repeat (first | exact hT.hb | refine Below.drew ?_ | refine Below.setCell ?_ (by dsimp only;omega) _)
set_option maxHeartbeats 2000000 in
theorem BZ(k key to n:Int)(w:World) :
    Calls Tryz.prog 129 #[.agg #[.int .i64 k,.int .i64 key,.int .i64 to,.int .i64 n]] w λe w'=>e=.returned (.int .i64 (POp.err ⟨k,key,to,n⟩))/\Below w.heap.size w w':=by
  go_enter Tryz.func129,Tryz.ntmps129
  go_wp2_with (first
    | (go_at_call 52;refine (pV _ _ _ _).mono ?_;rintro e w' ⟨rfl,rfl⟩))
  all_goals go_ret
  all_goals refine⟨wv ?_,by repeat (first | exact Below.refl _ _ | refine Below.alloc ?_ (by simp) _)⟩
  all_goals (unfold POp.err;simp only[cd,ic,beq_iff_eq,beq_eq_false_iff_ne,bne_iff_ne,bne_eq_false_iff_eq,Bool.not_eq_true',Bool.not_eq_false'] at *;omega)
structure Dst(w0 w:World)(v u:V4)(xc:Array Value):Prop where
  fv:V4.Blk w w0.heap.size u
  fx:w.heap[w0.heap.size+1]?=some (.cells xc 82 (0,0))
  fr:V4.Blk w (w0.heap.size+1+1) V4.zero
  fw:V4.Blk w (w0.heap.size+1+1+1) v
  hz:w0.heap.size+4<=w.heap.size
  hb:Below w0.heap.size w0 w
theorem Dst.step{w0 w w':World}{v u u':V4}{xc:Array Value}(h:Dst w0 w v u xc)(ho:dk w w' w0.heap.size)(hu:V4.Blk w' w0.heap.size u'):Dst w0 w' v u' xc :=
  ⟨hu,(ho.heap _ (by omega)).trans h.fx,(ho.heap _ (by omega)).trans h.fr,(ho.heap _ (by omega)).trans h.fw,
    by have:=ho.1;have:=h.hz;omega,dk.below h.hb ho (Nat.le_refl _)⟩
theorem Dst.set{w0 w:World}{v u:V4}{xc:Array Value}(h:Dst w0 w v u xc){k x:Int}(h0:0<=k)(h3:k<=3):Dst w0 (w.setCell ⟨w0.heap.size,k.toNat,none⟩ (.int .i64 x)) v (u.set k x) xc:=by
  refine h.step (dk.setCell _ _ _ _) ?_
  have hv:=h.fv
  unfold V4.Blk at hv |-
  have:k=0\/k=1\/k=2\/k=3:=by omega
  rcases this with rfl | rfl | rfl | rfl<;>simp[World.setCell,Array.getElem?_modify,hv,V4.set]
theorem Dst.drew{w0 w:World}{v u:V4}{xc:Array Value}(h:Dst w0 w v u xc):Dst w0 w.drew v u xc:=⟨h.fv,h.fx,h.fr,h.fw,h.hz,h.hb.drew⟩
theorem Dst.below{w0 w w':World}{v u:V4}{xc:Array Value}(h:Dst w0 w v u xc)(hb:Below w.heap.size w w'):Dst w0 w' v u xc:=by
  have hz:=h.hz
  exact⟨(hb.block _ (by omega)).trans h.fv,(hb.block _ (by omega)).trans h.fx,(hb.block _ (by omega)).trans h.fr,(hb.block _ (by omega)).trans h.fw,
    Nat.le_trans hz hb.size,h.hb.trans (hb.mono h.hb.size)⟩
theorem Dst.op{w0 w:World}{v u:V4}{a b c d:Value}(h:Dst w0 w v u #[a,b,c,d]) :
    w.cell? ⟨w0.heap.size+1,0,none⟩=some a/\w.cell? ⟨w0.heap.size+1,1,none⟩=some b/\w.cell? ⟨w0.heap.size+1,2,none⟩=some c/\w.cell? ⟨w0.heap.size+1,3,none⟩=some d :=
  ⟨cell_of_row _ _ _ _ _ _ h.fx,cell_of_row _ _ _ _ _ _ h.fx,cell_of_row _ _ _ _ _ _ h.fx,cell_of_row _ _ _ _ _ _ h.fx⟩
theorem Dst.start(w:World)(v:V4)(xc:Array Value):Dst w ((((w.alloc (.cells v.cells 30)).alloc (.cells xc 82)).alloc (.cells #[.int .i64 0,.int .i64 0,.int .i64 0,.int .i64 0] 30)).alloc (.cells v.cells 30)) v v xc:=by
  refine⟨?_,?_,?_,?_,by simp only[World.size_alloc];omega,?_⟩
  · exact (af _ _ _).trans ((if_neg (by simp only[World.size_alloc];omega)).trans ((af _ _ _).trans ((if_neg (by simp only[World.size_alloc];omega)).trans ((af _ _ _).trans ((if_neg (by simp only[World.size_alloc];omega)).trans ((af _ _ _).trans (if_pos rfl)))))))
  · exact (af _ _ _).trans ((if_neg (by simp only[World.size_alloc];omega)).trans ((af _ _ _).trans ((if_neg (by simp only[World.size_alloc];omega)).trans ((af _ _ _).trans (if_pos (by simp only[World.size_alloc]))))))
  · exact (af _ _ _).trans ((if_neg (by simp only[World.size_alloc];omega)).trans ((af _ _ _).trans (if_pos (by simp only[World.size_alloc]))))
  · exact (af _ _ _).trans (if_pos (by simp only[World.size_alloc]))
  · repeat (first | exact Below.refl _ _ | refine Below.alloc ?_ (by (try simp only[World.size_alloc]);omega) _)
theorem jl{v:V4}(h:(-5000<=v.a/\v.a<=5000)/\(-5000<=v.b/\v.b<=5000)/\(-5000<=v.c/\v.c<=5000)/\(-5000<=v.d/\v.d<=5000))(k:Int):-5000<=v.get k/\v.get k<=5000:=by
  unfold V4.get;omega
set_option maxHeartbeats 4000000 in
theorem E8(v:V4)(key to n:Int)(w:World)(hx:POp.err ⟨1,key,to,n⟩=0)(hok:v.ok=true) :
    Calls Tryz.prog 135 #[v.val,POp.val ⟨1,key,to,n⟩] w λe w'=>e=.returned (.tuple #[(POp.turn ⟨1,key,to,n⟩ v).1.val,.int .i64 (POp.turn ⟨1,key,to,n⟩ v).2])/\Below w.heap.size w w':=by
  obtain⟨_,hk0,hk3,hto,hn⟩:=dt hx
  simp only at hk0 hk3 hto hn
  have HOv:=Lib.hid hok
  have HT:=Lib.hid hto
  have HN:=Lib.hid hn
  clear hto hn hx hok
  have hS:=Dst.start w v #[.int .i64 1,.int .i64 key,.int .i64 to,.int .i64 n]
  have HD:=Lib.hid hS
  clear hS
  have tok:True:=trivial
  have tok2:True:=trivial
  have tok3:True:=trivial
  go_enter Tryz.func135,Tryz.ntmps135
  go_wp2_with (first
   | (have _t:=tok
      ((with_reducible refine ce (λw'=>Dst w w' v v #[.int .i64 1,.int .i64 key,.int .i64 to,.int .i64 n]) HD.out ?_))
      clear tok
      intro w1 hD
      obtain⟨⟨b1,b2⟩,⟨b3,b4⟩,⟨b5,b6⟩,b7,b8⟩:=cx HOv.out
      have hgb:=jl (cx HOv.out) key
      obtain⟨x0,x1,x2,x3⟩:=hD.op
      obtain⟨v0,v1,v2,v3,vf⟩:=hD.fv.cell
      have hg:=hD.fv.at hk0 hk3
      have HW:=hD.fw.cell
      have HS:=hD.fr.cell
      have hz:=hD.hz)
   | (have _t:=tok2
      ((with_reducible refine ce (λw'=>Dst w w' v (v.set key n) #[.int .i64 1,.int .i64 key,.int .i64 to,.int .i64 n]) (hD.set hk0 hk3) ?_))
      clear tok2
      intro w2 hD2
      clear x0 x1 x2 x3 v0 v1 v2 v3 vf hg HW HS hz
      generalize hu:(v.set key n)=u at hD2
      have HU:=Lib.hid hu
      clear hu
      obtain⟨x0,x1,x2,x3⟩:=hD2.op
      obtain⟨v0,v1,v2,v3,vf⟩:=hD2.fv.cell
      have hg:=hD2.fv.at hk0 hk3
      have HW:=hD2.fw.cell
      have HS:=hD2.fr.cell
      have hz:=hD2.hz
      cases hok:u.ok
      all_goals have HOu:=Lib.hid hok
      all_goals clear hok)
   | (go_at_call 100
      refine (ci u.a u.b u.c u.d _).mono ?_
      rintro e w3 ⟨rfl,hb5⟩
      have hD3:=hD2.below hb5
      clear x0 x1 x2 x3 v0 v1 v2 v3 vf hg HW HS hz
      clear hb5
      rw[show V4.ok ⟨u.a,u.b,u.c,u.d⟩=_ from HOu.out]
      obtain⟨x0,x1,x2,x3⟩:=hD3.op
      obtain⟨v0,v1,v2,v3,vf⟩:=hD3.fv.cell
      have hg:=hD3.fv.at hk0 hk3
      have HW:=hD3.fw.cell
      have HS:=hD3.fr.cell
      have hz:=hD3.hz))
  all_goals try go_region
  all_goals go_wp2
  · refine bodyPost_ret (v:=.tuple #[v.val,.int .i64 (-1)]) (by simp[results,Tryz.results135,go_sem,HS]) rfl ⟨?_,?_⟩
    · rw[show POp.turn ⟨1,key,to,n⟩ v=(v,-1) from by simp[POp.turn,HU.out,HOu.out]]
    · repeat (first | exact hD3.hb | refine Below.drew ?_ | refine Below.setCell ?_ (by dsimp only;omega) _)
  · refine bodyPost_ret (v:=.tuple #[u.val,.int .i64 (u.get key)]) (by simp[results,Tryz.results135,go_sem,HS]) rfl ⟨?_,?_⟩
    · rw[show POp.turn ⟨1,key,to,n⟩ v=(u,u.get key) from by simp[POp.turn,HU.out,HOu.out]]
    · repeat (first | exact hD3.hb | refine Below.drew ?_ | refine Below.setCell ?_ (by dsimp only;omega) _)
set_option maxHeartbeats 4000000 in
theorem EL(v:V4)(key to n:Int)(w:World)(hx:POp.err ⟨2,key,to,n⟩=0)(hok:v.ok=true) :
    Calls Tryz.prog 135 #[v.val,POp.val ⟨2,key,to,n⟩] w λe w'=>e=.returned (.tuple #[(POp.turn ⟨2,key,to,n⟩ v).1.val,.int .i64 (POp.turn ⟨2,key,to,n⟩ v).2])/\Below w.heap.size w w':=by
  obtain⟨_,hk0,hk3,hto,hn⟩:=dt hx
  simp only at hk0 hk3 hto hn
  have HOv:=Lib.hid hok
  have HT:=Lib.hid hto
  have HN:=Lib.hid hn
  clear hto hn hx hok
  have hS:=Dst.start w v #[.int .i64 2,.int .i64 key,.int .i64 to,.int .i64 n]
  have HD:=Lib.hid hS
  clear hS
  have tok:True:=trivial
  have tok2:True:=trivial
  have tok3:True:=trivial
  go_enter Tryz.func135,Tryz.ntmps135
  go_wp2_with (first
   | (have _t:=tok
      ((with_reducible refine ce (λw'=>Dst w w' v v #[.int .i64 2,.int .i64 key,.int .i64 to,.int .i64 n]) HD.out ?_))
      clear tok
      intro w1 hD
      have hnn:=HM n HN.out
      obtain⟨⟨b1,b2⟩,⟨b3,b4⟩,⟨b5,b6⟩,b7,b8⟩:=cx HOv.out
      have hgb:=jl (cx HOv.out) key
      obtain⟨x0,x1,x2,x3⟩:=hD.op
      obtain⟨v0,v1,v2,v3,vf⟩:=hD.fv.cell
      have hg:=hD.fv.at hk0 hk3
      have HW:=hD.fw.cell
      have HS:=hD.fr.cell
      have hz:=hD.hz)
   | (have _t:=tok2
      ((with_reducible refine ce (λw'=>Dst w w' v (v.set key (v.get key+n)) #[.int .i64 2,.int .i64 key,.int .i64 to,.int .i64 n]) ((hD.set hk0 hk3).drew) ?_))
      clear tok2
      intro w2 hD2
      clear x0 x1 x2 x3 v0 v1 v2 v3 vf hg HW HS hz
      generalize hu:(v.set key (v.get key+n))=u at hD2
      have HU:=Lib.hid hu
      clear hu
      obtain⟨x0,x1,x2,x3⟩:=hD2.op
      obtain⟨v0,v1,v2,v3,vf⟩:=hD2.fv.cell
      have hg:=hD2.fv.at hk0 hk3
      have HW:=hD2.fw.cell
      have HS:=hD2.fr.cell
      have hz:=hD2.hz
      cases hok:u.ok
      all_goals have HOu:=Lib.hid hok
      all_goals clear hok)
   | (go_at_call 100
      refine (ci u.a u.b u.c u.d _).mono ?_
      rintro e w3 ⟨rfl,hb5⟩
      have hD3:=hD2.below hb5
      clear x0 x1 x2 x3 v0 v1 v2 v3 vf hg HW HS hz
      clear hb5
      rw[show V4.ok ⟨u.a,u.b,u.c,u.d⟩=_ from HOu.out]
      obtain⟨x0,x1,x2,x3⟩:=hD3.op
      obtain⟨v0,v1,v2,v3,vf⟩:=hD3.fv.cell
      have hg:=hD3.fv.at hk0 hk3
      have HW:=hD3.fw.cell
      have HS:=hD3.fr.cell
      have hz:=hD3.hz))
  all_goals try go_region
  all_goals go_wp2_with (first
   | (have _t:=tok2
      ((with_reducible refine ce (λw'=>Dst w w' v (v.set key (v.get key+n)) #[.int .i64 2,.int .i64 key,.int .i64 to,.int .i64 n]) ((hD.set hk0 hk3).drew) ?_))
      clear tok2
      intro w2 hD2
      clear x0 x1 x2 x3 v0 v1 v2 v3 vf hg HW HS hz
      generalize hu:(v.set key (v.get key+n))=u at hD2
      have HU:=Lib.hid hu
      clear hu
      obtain⟨x0,x1,x2,x3⟩:=hD2.op
      obtain⟨v0,v1,v2,v3,vf⟩:=hD2.fv.cell
      have hg:=hD2.fv.at hk0 hk3
      have HW:=hD2.fw.cell
      have HS:=hD2.fr.cell
      have hz:=hD2.hz
      cases hok:u.ok
      all_goals have HOu:=Lib.hid hok
      all_goals clear hok)
   | (go_at_call 100
      refine (ci u.a u.b u.c u.d _).mono ?_
      rintro e w3 ⟨rfl,hb5⟩
      have hD3:=hD2.below hb5
      clear x0 x1 x2 x3 v0 v1 v2 v3 vf hg HW HS hz
      clear hb5
      rw[show V4.ok ⟨u.a,u.b,u.c,u.d⟩=_ from HOu.out]
      obtain⟨x0,x1,x2,x3⟩:=hD3.op
      obtain⟨v0,v1,v2,v3,vf⟩:=hD3.fv.cell
      have hg:=hD3.fv.at hk0 hk3
      have HW:=hD3.fw.cell
      have HS:=hD3.fr.cell
      have hz:=hD3.hz))
  all_goals try go_region
  all_goals go_wp2
  · refine bodyPost_ret (v:=.tuple #[v.val,.int .i64 (-1)]) (by simp[results,Tryz.results135,go_sem,HS]) rfl ⟨?_,?_⟩
    · rw[show POp.turn ⟨2,key,to,n⟩ v=(v,-1) from by simp[POp.turn,HU.out,HOu.out]]
    · repeat (first | exact hD3.hb | refine Below.drew ?_ | refine Below.setCell ?_ (by dsimp only;omega) _)
  · refine bodyPost_ret (v:=.tuple #[u.val,.int .i64 (u.get key)]) (by simp[results,Tryz.results135,go_sem,HS]) rfl ⟨?_,?_⟩
    · rw[show POp.turn ⟨2,key,to,n⟩ v=(u,u.get key) from by simp[POp.turn,HU.out,HOu.out]]
    · repeat (first | exact hD3.hb | refine Below.drew ?_ | refine Below.setCell ?_ (by dsimp only;omega) _)
set_option maxHeartbeats 4000000 in
theorem Ex(v:V4)(key to n:Int)(w:World)(hx:POp.err ⟨3,key,to,n⟩=0)(hok:v.ok=true) :
    Calls Tryz.prog 135 #[v.val,POp.val ⟨3,key,to,n⟩] w λe w'=>e=.returned (.tuple #[(POp.turn ⟨3,key,to,n⟩ v).1.val,.int .i64 (POp.turn ⟨3,key,to,n⟩ v).2])/\Below w.heap.size w w':=by
  obtain⟨_,hk0,hk3,hto,hn⟩:=dt hx
  simp only at hk0 hk3 hto hn
  have HOv:=Lib.hid hok
  have HT:=Lib.hid hto
  have HN:=Lib.hid hn
  clear hto hn hx hok
  have hS:=Dst.start w v #[.int .i64 3,.int .i64 key,.int .i64 to,.int .i64 n]
  have HD:=Lib.hid hS
  clear hS
  have tok:True:=trivial
  have tok2:True:=trivial
  have tok3:True:=trivial
  go_enter Tryz.func135,Tryz.ntmps135
  go_wp2_with (first
   | (have _t:=tok
      ((with_reducible refine ce (λw'=>Dst w w' v v #[.int .i64 3,.int .i64 key,.int .i64 to,.int .i64 n]) HD.out ?_))
      clear tok
      intro w1 hD
      have hnn:=HM n HN.out
      obtain⟨⟨b1,b2⟩,⟨b3,b4⟩,⟨b5,b6⟩,b7,b8⟩:=cx HOv.out
      have hgb:=jl (cx HOv.out) key
      obtain⟨x0,x1,x2,x3⟩:=hD.op
      obtain⟨v0,v1,v2,v3,vf⟩:=hD.fv.cell
      have hg:=hD.fv.at hk0 hk3
      have HW:=hD.fw.cell
      have HS:=hD.fr.cell
      have hz:=hD.hz)
   | (have _t:=tok2
      ((with_reducible refine ce (λw'=>Dst w w' v (v.set key (v.get key-n)) #[.int .i64 3,.int .i64 key,.int .i64 to,.int .i64 n]) ((hD.set hk0 hk3).drew) ?_))
      clear tok2
      intro w2 hD2
      clear x0 x1 x2 x3 v0 v1 v2 v3 vf hg HW HS hz
      generalize hu:(v.set key (v.get key-n))=u at hD2
      have HU:=Lib.hid hu
      clear hu
      obtain⟨x0,x1,x2,x3⟩:=hD2.op
      obtain⟨v0,v1,v2,v3,vf⟩:=hD2.fv.cell
      have hg:=hD2.fv.at hk0 hk3
      have HW:=hD2.fw.cell
      have HS:=hD2.fr.cell
      have hz:=hD2.hz
      cases hok:u.ok
      all_goals have HOu:=Lib.hid hok
      all_goals clear hok)
   | (have _t:=tok3
      ((with_reducible refine ce (λw'=>Dst w w' v (u.set to (u.get to+n)) #[.int .i64 3,.int .i64 key,.int .i64 to,.int .i64 n]) ((hD3.set (HT.out trivial).1 (HT.out trivial).2).drew) ?_))
      clear tok3
      intro w4 hD4
      clear x0 x1 x2 x3 v0 v1 v2 v3 vf hg HW HS hz
      generalize hu:(u.set to (u.get to+n))=u2 at hD4
      have HU2:=Lib.hid hu
      clear hu
      obtain⟨x0,x1,x2,x3⟩:=hD4.op
      obtain⟨v0,v1,v2,v3,vf⟩:=hD4.fv.cell
      have hg:=hD4.fv.at hk0 hk3
      have HW:=hD4.fw.cell
      have HS:=hD4.fr.cell
      have hz:=hD4.hz
      cases hok:u2.ok
      all_goals have HOu2:=Lib.hid hok
      all_goals clear hok)
   | (go_at_call 100
      refine (ci u2.a u2.b u2.c u2.d _).mono ?_
      rintro e w5 ⟨rfl,hb5⟩
      have hD5:=hD4.below hb5
      clear x0 x1 x2 x3 v0 v1 v2 v3 vf hg HW HS hz
      clear hb5
      rw[show V4.ok ⟨u2.a,u2.b,u2.c,u2.d⟩=_ from HOu2.out]
      obtain⟨x0,x1,x2,x3⟩:=hD5.op
      obtain⟨v0,v1,v2,v3,vf⟩:=hD5.fv.cell
      have hg:=hD5.fv.at hk0 hk3
      have HW:=hD5.fw.cell
      have HS:=hD5.fr.cell
      have hz:=hD5.hz)
   | (go_at_call 100
      refine (ci u.a u.b u.c u.d _).mono ?_
      rintro e w3 ⟨rfl,hb5⟩
      have hD3:=hD2.below hb5
      clear x0 x1 x2 x3 v0 v1 v2 v3 vf hg HW HS hz
      clear hb5
      rw[show V4.ok ⟨u.a,u.b,u.c,u.d⟩=_ from HOu.out]
      obtain⟨x0,x1,x2,x3⟩:=hD3.op
      obtain⟨v0,v1,v2,v3,vf⟩:=hD3.fv.cell
      have hg:=hD3.fv.at hk0 hk3
      have HW:=hD3.fw.cell
      have HS:=hD3.fr.cell
      have hz:=hD3.hz
      obtain⟨ht0,ht3⟩:=HT.out trivial
      have hgt:=hD3.fv.at ht0 ht3
      try (have hgu:=jl (cx HOu.out) to)))
  all_goals try go_region
  all_goals go_wp2_with (first
   | (have _t:=tok2
      ((with_reducible refine ce (λw'=>Dst w w' v (v.set key (v.get key-n)) #[.int .i64 3,.int .i64 key,.int .i64 to,.int .i64 n]) ((hD.set hk0 hk3).drew) ?_))
      clear tok2
      intro w2 hD2
      clear x0 x1 x2 x3 v0 v1 v2 v3 vf hg HW HS hz
      generalize hu:(v.set key (v.get key-n))=u at hD2
      have HU:=Lib.hid hu
      clear hu
      obtain⟨x0,x1,x2,x3⟩:=hD2.op
      obtain⟨v0,v1,v2,v3,vf⟩:=hD2.fv.cell
      have hg:=hD2.fv.at hk0 hk3
      have HW:=hD2.fw.cell
      have HS:=hD2.fr.cell
      have hz:=hD2.hz
      cases hok:u.ok
      all_goals have HOu:=Lib.hid hok
      all_goals clear hok)
   | (have _t:=tok3
      ((with_reducible refine ce (λw'=>Dst w w' v (u.set to (u.get to+n)) #[.int .i64 3,.int .i64 key,.int .i64 to,.int .i64 n]) ((hD3.set (HT.out trivial).1 (HT.out trivial).2).drew) ?_))
      clear tok3
      intro w4 hD4
      clear x0 x1 x2 x3 v0 v1 v2 v3 vf hg HW HS hz
      generalize hu:(u.set to (u.get to+n))=u2 at hD4
      have HU2:=Lib.hid hu
      clear hu
      obtain⟨x0,x1,x2,x3⟩:=hD4.op
      obtain⟨v0,v1,v2,v3,vf⟩:=hD4.fv.cell
      have hg:=hD4.fv.at hk0 hk3
      have HW:=hD4.fw.cell
      have HS:=hD4.fr.cell
      have hz:=hD4.hz
      cases hok:u2.ok
      all_goals have HOu2:=Lib.hid hok
      all_goals clear hok)
   | (go_at_call 100
      refine (ci u2.a u2.b u2.c u2.d _).mono ?_
      rintro e w5 ⟨rfl,hb5⟩
      have hD5:=hD4.below hb5
      clear x0 x1 x2 x3 v0 v1 v2 v3 vf hg HW HS hz
      clear hb5
      rw[show V4.ok ⟨u2.a,u2.b,u2.c,u2.d⟩=_ from HOu2.out]
      obtain⟨x0,x1,x2,x3⟩:=hD5.op
      obtain⟨v0,v1,v2,v3,vf⟩:=hD5.fv.cell
      have hg:=hD5.fv.at hk0 hk3
      have HW:=hD5.fw.cell
      have HS:=hD5.fr.cell
      have hz:=hD5.hz)
   | (go_at_call 100
      refine (ci u.a u.b u.c u.d _).mono ?_
      rintro e w3 ⟨rfl,hb5⟩
      have hD3:=hD2.below hb5
      clear x0 x1 x2 x3 v0 v1 v2 v3 vf hg HW HS hz
      clear hb5
      rw[show V4.ok ⟨u.a,u.b,u.c,u.d⟩=_ from HOu.out]
      obtain⟨x0,x1,x2,x3⟩:=hD3.op
      obtain⟨v0,v1,v2,v3,vf⟩:=hD3.fv.cell
      have hg:=hD3.fv.at hk0 hk3
      have HW:=hD3.fw.cell
      have HS:=hD3.fr.cell
      have hz:=hD3.hz
      obtain⟨ht0,ht3⟩:=HT.out trivial
      have hgt:=hD3.fv.at ht0 ht3
      try (have hgu:=jl (cx HOu.out) to)))
  all_goals try go_region
  all_goals go_wp2_with (first
   | (have _t:=tok2
      ((with_reducible refine ce (λw'=>Dst w w' v (v.set key (v.get key-n)) #[.int .i64 3,.int .i64 key,.int .i64 to,.int .i64 n]) ((hD.set hk0 hk3).drew) ?_))
      clear tok2
      intro w2 hD2
      clear x0 x1 x2 x3 v0 v1 v2 v3 vf hg HW HS hz
      generalize hu:(v.set key (v.get key-n))=u at hD2
      have HU:=Lib.hid hu
      clear hu
      obtain⟨x0,x1,x2,x3⟩:=hD2.op
      obtain⟨v0,v1,v2,v3,vf⟩:=hD2.fv.cell
      have hg:=hD2.fv.at hk0 hk3
      have HW:=hD2.fw.cell
      have HS:=hD2.fr.cell
      have hz:=hD2.hz
      cases hok:u.ok
      all_goals have HOu:=Lib.hid hok
      all_goals clear hok)
   | (have _t:=tok3
      ((with_reducible refine ce (λw'=>Dst w w' v (u.set to (u.get to+n)) #[.int .i64 3,.int .i64 key,.int .i64 to,.int .i64 n]) ((hD3.set (HT.out trivial).1 (HT.out trivial).2).drew) ?_))
      clear tok3
      intro w4 hD4
      clear x0 x1 x2 x3 v0 v1 v2 v3 vf hg HW HS hz
      generalize hu:(u.set to (u.get to+n))=u2 at hD4
      have HU2:=Lib.hid hu
      clear hu
      obtain⟨x0,x1,x2,x3⟩:=hD4.op
      obtain⟨v0,v1,v2,v3,vf⟩:=hD4.fv.cell
      have hg:=hD4.fv.at hk0 hk3
      have HW:=hD4.fw.cell
      have HS:=hD4.fr.cell
      have hz:=hD4.hz
      cases hok:u2.ok
      all_goals have HOu2:=Lib.hid hok
      all_goals clear hok)
   | (go_at_call 100
      refine (ci u2.a u2.b u2.c u2.d _).mono ?_
      rintro e w5 ⟨rfl,hb5⟩
      have hD5:=hD4.below hb5
      clear x0 x1 x2 x3 v0 v1 v2 v3 vf hg HW HS hz
      clear hb5
      rw[show V4.ok ⟨u2.a,u2.b,u2.c,u2.d⟩=_ from HOu2.out]
      obtain⟨x0,x1,x2,x3⟩:=hD5.op
      obtain⟨v0,v1,v2,v3,vf⟩:=hD5.fv.cell
      have hg:=hD5.fv.at hk0 hk3
      have HW:=hD5.fw.cell
      have HS:=hD5.fr.cell
      have hz:=hD5.hz)
   | (go_at_call 100
      refine (ci u.a u.b u.c u.d _).mono ?_
      rintro e w3 ⟨rfl,hb5⟩
      have hD3:=hD2.below hb5
      clear x0 x1 x2 x3 v0 v1 v2 v3 vf hg HW HS hz
      clear hb5
      rw[show V4.ok ⟨u.a,u.b,u.c,u.d⟩=_ from HOu.out]
      obtain⟨x0,x1,x2,x3⟩:=hD3.op
      obtain⟨v0,v1,v2,v3,vf⟩:=hD3.fv.cell
      have hg:=hD3.fv.at hk0 hk3
      have HW:=hD3.fw.cell
      have HS:=hD3.fr.cell
      have hz:=hD3.hz
      obtain⟨ht0,ht3⟩:=HT.out trivial
      have hgt:=hD3.fv.at ht0 ht3
      try (have hgu:=jl (cx HOu.out) to)))
  all_goals try go_region
  all_goals go_wp2
  · refine bodyPost_ret (v:=.tuple #[v.val,.int .i64 (-1)]) (by simp[results,Tryz.results135,go_sem,HS]) rfl ⟨?_,?_⟩
    · rw[show POp.turn ⟨3,key,to,n⟩ v=(v,-1) from by simp[POp.turn,HU.out,HOu.out]]
    · repeat (first | exact hD3.hb | refine Below.drew ?_ | refine Below.setCell ?_ (by dsimp only;omega) _)
  · refine bodyPost_ret (v:=.tuple #[v.val,.int .i64 (-1)]) (by simp[results,Tryz.results135,go_sem,HS]) rfl ⟨?_,?_⟩
    · rw[show POp.turn ⟨3,key,to,n⟩ v=(v,-1) from by simp[POp.turn,HU.out,HOu.out,HU2.out,HOu2.out]]
    · repeat (first | exact hD5.hb | refine Below.drew ?_ | refine Below.setCell ?_ (by dsimp only;omega) _)
  · refine bodyPost_ret (v:=.tuple #[u2.val,.int .i64 (u2.get key)]) (by simp[results,Tryz.results135,go_sem,HS]) rfl ⟨?_,?_⟩
    · rw[show POp.turn ⟨3,key,to,n⟩ v=(u2,u2.get key) from by simp[POp.turn,HU.out,HOu.out,HU2.out,HOu2.out]]
    · repeat (first | exact hD5.hb | refine Below.drew ?_ | refine Below.setCell ?_ (by dsimp only;omega) _)
set_option maxHeartbeats 4000000 in
theorem Ew(v:V4)(key to n:Int)(w:World)(hx:POp.err ⟨4,key,to,n⟩=0)(hok:v.ok=true) :
    Calls Tryz.prog 135 #[v.val,POp.val ⟨4,key,to,n⟩] w λe w'=>e=.returned (.tuple #[(POp.turn ⟨4,key,to,n⟩ v).1.val,.int .i64 (POp.turn ⟨4,key,to,n⟩ v).2])/\Below w.heap.size w w':=by
  obtain⟨_,hk0,hk3,hto,hn⟩:=dt hx
  simp only at hk0 hk3 hto hn
  have HOv:=Lib.hid hok
  have HT:=Lib.hid hto
  have HN:=Lib.hid hn
  clear hto hn hx hok
  have hS:=Dst.start w v #[.int .i64 4,.int .i64 key,.int .i64 to,.int .i64 n]
  have HD:=Lib.hid hS
  clear hS
  have tok:True:=trivial
  have tok2:True:=trivial
  have tok3:True:=trivial
  go_enter Tryz.func135,Tryz.ntmps135
  go_wp2_with (first
   | (have _t:=tok
      ((with_reducible refine ce (λw'=>Dst w w' v v #[.int .i64 4,.int .i64 key,.int .i64 to,.int .i64 n]) HD.out ?_))
      clear tok
      intro w1 hD
      obtain⟨⟨b1,b2⟩,⟨b3,b4⟩,⟨b5,b6⟩,b7,b8⟩:=cx HOv.out
      have hgb:=jl (cx HOv.out) key
      obtain⟨x0,x1,x2,x3⟩:=hD.op
      obtain⟨v0,v1,v2,v3,vf⟩:=hD.fv.cell
      have hg:=hD.fv.at hk0 hk3
      have HW:=hD.fw.cell
      have HS:=hD.fr.cell
      have hz:=hD.hz)
   | (go_at_call 100
      refine (ci v.a v.b v.c v.d _).mono ?_
      rintro e w3 ⟨rfl,hb5⟩
      have hD3:=hD.below hb5
      clear x0 x1 x2 x3 v0 v1 v2 v3 vf hg HW HS hz
      clear hb5
      rw[show V4.ok ⟨v.a,v.b,v.c,v.d⟩=_ from HOv.out]
      obtain⟨x0,x1,x2,x3⟩:=hD3.op
      obtain⟨v0,v1,v2,v3,vf⟩:=hD3.fv.cell
      have hg:=hD3.fv.at hk0 hk3
      have HW:=hD3.fw.cell
      have HS:=hD3.fr.cell
      have hz:=hD3.hz))
  all_goals try go_region
  all_goals go_wp2
  · refine bodyPost_ret (v:=.tuple #[v.val,.int .i64 (v.get key)]) (by simp[results,Tryz.results135,go_sem,HS]) rfl ⟨?_,?_⟩
    · rw[show POp.turn ⟨4,key,to,n⟩ v=(v,v.get key) from by simp[POp.turn]]
    · repeat (first | exact hD3.hb | refine Below.drew ?_ | refine Below.setCell ?_ (by dsimp only;omega) _)
theorem Fg(v:V4)(k key to n:Int)(w:World)(hx:POp.err ⟨k,key,to,n⟩=0)(hv:v.ok=true) :
    Calls Tryz.prog 135 #[v.val,POp.val ⟨k,key,to,n⟩] w λe w'=>e=.returned (.tuple #[(POp.turn ⟨k,key,to,n⟩ v).1.val,.int .i64 (POp.turn ⟨k,key,to,n⟩ v).2])/\Below w.heap.size w w':=by
  rcases (dt hx).1 with h | h | h | h
  all_goals simp only at h;subst h
  · exact E8 v key to n w hx hv
  · exact EL v key to n w hx hv
  · exact Ex v key to n w hx hv
  · exact Ew v key to n w hx hv
end Go.Proofs.YtfpmcmhihhnfgaaGreatDoor
