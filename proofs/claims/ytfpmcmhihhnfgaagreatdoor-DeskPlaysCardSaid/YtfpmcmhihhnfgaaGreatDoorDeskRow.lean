/- portagelaw.DeskPlays: for every input the call returns true; its tied card. No conditions. -/
import Derived.Test.YtfpmcmhihhnfgaaGreatDoorCards
import Derived.Test.YtfpmcmhihhnfgaaGreatDoorTie
import Derived.Test.YtfpmcmhihhnfgaaGreatDoorKZ11
import Derived.Lay
import Derived.Deep.DeepWitnessRowRef
import Derived.Lib.LaidTab
set_option linter.unusedVariables false
set_option linter.unusedSimpArgs false
namespace Go.Proofs.YtfpmcmhihhnfgaaGreatDoor
open Go.RowKit
open Go.ChangeShapes Go.WideShapes Go.ChangeAt Go.RowKit
set_option maxRecDepth 100000
theorem own:ownKnob Tryz.prog.godebug=none:=by kernel_rfl
theorem C6:laidOutB Tryz.prog=true:=by kernel_rfl
theorem Fd{P:Program}{W:World}{r:Reach}{b t:Nat}{v:Value}(ht:P.underlying t=some .string)(h:Value.okWide P W r b t v):∃s:ByteArray,v=.string s/\s.size<=9223372036854775807:=by
 obtain⟨s,rfl⟩:=okWide_string ht h;have h2:(s.size:Int)<=IntKind.i64.max:=by simpa [Value.okWide,Cell.okWide,Cell.ok,ht] using h
 have h3:IntKind.i64.max=9223372036854775807:=rfl;exact⟨s,rfl,by omega⟩
theorem Fk:Tryz.prog.globalNamed "internal/strconv.uint64pow10"=some 1:=by kernel_rfl
theorem Fb:(Tryz.prog.globals[1]?).map (·.type)=some 159:=by kernel_rfl
theorem FR:Tryz.prog.globalNamed "strconv.ErrSyntax"=some 4:=by kernel_rfl
theorem FM:(Tryz.prog.globals[4]?).map (·.type)=some 51:=by kernel_rfl
theorem FA:Tryz.prog.globalNamed "strconv.ErrRange"=some 5:=by kernel_rfl
theorem FE:(Tryz.prog.globals[5]?).map (·.type)=some 51:=by kernel_rfl
theorem F6:Tryz.prog.cellsOf 159=20:=by kernel_rfl
theorem F2:Tryz.prog.cellsOf 134=1:=by kernel_rfl
theorem Ef:(Rows.laid_internal_strconv_uint64pow10:DataW Unit)=Lib.tabData .u64 Lib.pow10Tab:=by kernel_rfl
theorem zH{W:World}{g:Nat}{n:String}{ti:TypeId}{cs:Array Value}{fuel:Nat}{nm:String}{d:DataW Unit}{p:List MemPlace}{ms:Array (String × TypeId)}(hg:Tryz.prog.globalNamed n=some g)(hi:Tryz.prog.underlying ti=some (.interface ms))(hv:W.var? Tryz.prog n=some cs)
  (h:DataW.trod (λ_=>()) Tryz.prog W 0 (λ_=>true) false fuel ti cs.toList=some (.iface nm d,p)):∃t p,W.cell? ⟨g,0,none⟩=some (.iface t p):=by
 obtain⟨_,u,v,hcs,_⟩:=iface_of_trod hi h;refine⟨u,v,?_⟩;have:=World.var?_cell hg hv 0
 rw[this,<- Array.getElem?_toList,hcs];rfl
theorem E7{W:World}(h0:laidMetH Tryz.prog Rows.deskPlaysRow.laid W)(hs:W.ShapedOpen Tryz.prog):rj W:=by
 have h:laidMet Tryz.prog Rows.deskPlaysRow.laid W:=h0;obtain⟨ps,hl,_⟩:=h;obtain⟨_,_,_,_,_,_,_,_,_,_,hl,_⟩:=hl;obtain⟨_,_,_,_,_,_,_,_,_,_,hl,_⟩:=hl;obtain⟨g3,t3,cs3,f3,p3,q3,hg3,ht3,hv3,hd3,hl,_⟩:=hl;obtain⟨_,_,_,_,_,_,_,_,_,_,hl,_⟩:=hl;obtain⟨g5,t5,cs5,f5,p5,q5,hg5,ht5,hv5,hd5,hl,_⟩:=hl;obtain⟨g6,t6,cs6,f6,p6,q6,hg6,ht6,hv6,hd6,hl,_⟩:=hl;obtain rfl:=Option.some.inj (Fk.symm.trans hg3);obtain rfl:=Option.some.inj (Fb.symm.trans ht3);obtain rfl:=Option.some.inj (FA.symm.trans hg5);obtain rfl:=Option.some.inj (FE.symm.trans ht5);obtain rfl:=Option.some.inj (FR.symm.trans hg6);obtain rfl:=Option.some.inj (FM.symm.trans ht6);refine⟨?_,Tryz.laysM138.s1_3 W hs,zH FR Tryz.underlying51 hv6 hd6,zH FA Tryz.underlying51 hv5 hd5⟩;unfold Lib.TabIs;rw[Ef] at hd3;rw[hv3,<- Lib.cells_of_tab Tryz.underlying159 Tryz.underlying134 F2 F6 hd3]
theorem rj.mono{W W':World}(h:rj W)(hl:(ak W).le (ak W')):rj W':=by
 have hc:∀(a:Addr) (v:Value),W.cell? a=some v->W'.cell? a=some v:=λa v hv=>by
  cases hb:W.heap[a.block]? with
  | none=>simp[World.cell?,hb] at hv
  | some o =>
   have:=hl a.block o hb;simp only[ak] at this;simpa [World.cell?,hb,this] using hv
 obtain⟨h1,⟨m,h2⟩,⟨t4,p4,h4⟩,t5,p5,h5⟩:=h;refine⟨?_,⟨m,hc _ _ h2⟩,⟨t4,p4,hc _ _ h4⟩,t5,p5,hc _ _ h5⟩;unfold Lib.TabIs at h1 |-;rw[<- h1];unfold World.var? at h1 |-;rw[Fk] at h1 |-;simp only[Option.bind_some] at h1 |-
 cases hb:W.heap[1]? with
 | none=>simp[hb] at h1
 | some o =>
  have:=hl 1 o hb;simp only[ak] at this;rw[this]
theorem ER{W:World}(h:rj W):Lay (ak W):=λ_ hl=>h.mono hl
noncomputable def zd(os:Os):World:=World.laidAll Tryz.prog os Rows.deskPlaysRow.laid
theorem BK(os:Os):laidMet Tryz.prog Rows.deskPlaysRow.laid ((zd os).forCall (λ_ _=>0) ⟨#[],#[.string ⟨#[]⟩],[]⟩).memory :=
 laidMet_laidAll _ (by kernel_rfl) (by kernel_rfl)
theorem reads(os:Os){H:Type}(enc:TypeId × Value->H):∃places,DataW.whole enc Tryz.prog ((zd os).forCall (λ_ _=>0) ⟨#[],#[.string ⟨#[]⟩],[]⟩).memory Tryz.f3.params.toList Rows.deskPlaysSpec.vars false #[Value.string ⟨#[]⟩].toList 8=some ([.lit (.string [])],[],places) :=
 ⟨[],by kernel_rfl⟩
theorem nX(os:Os)(started:os.Started)(H:Type)(enc:TypeId × Value->H)(F:Stop.Interp) :
  ReturnsInHanded {} Tryz.checked os 3 .any ((OpenSpec.ofChange Rows.deskPlaysSpec).preRow enc Tryz.prog Tryz.f3 Rows.deskPlaysRow.domain false Rows.deskPlaysRow.laid) (((OpenSpec.ofChange Rows.deskPlaysSpec).at F).post enc Tryz.prog Tryz.f3 false true false false):=by
 obtain⟨places,hx⟩:=reads os enc;refine returnsInHanded_of_row (C:=Tryz.checked) (s:=OpenSpec.ofChange Rows.deskPlaysSpec) own started (by kernel_rfl) Tryz.func3
  (witness_row_atRef (enc:=enc) (C:=Tryz.checked) false (zd os) #[.string ⟨#[]⟩] rfl (by kernel_rfl) (by kernel_rfl) (by kernel_rfl)
   (OpenSpec.preRow_of_cond 8 hx (by kernel_rfl) (λk hk=>by cases hk) (by kernel_rfl) (BK os))) ?_
 intro W base args ds gs before hval0 hW _ _ _ hL hS _;have hval:∀(j:Nat) t v,Tryz.f3.params[j]?=some t->args[j]?=some v->Value.okWide Tryz.prog W .any base t v:=hval0
 have hW':=hW;obtain⟨p,q,hA0,hV,rfl,hfz,hnd⟩:=hW;have hA:DataW.TrodAll enc Tryz.prog W 0 (λ_=>true) true Tryz.f3.params.toList args.toList ds p:=hA0
 rw[Tryz.params3] at hA hval;obtain⟨v0,vr1,d0,dr1,p0,q1,e0,rfl,rfl,h0,r1⟩:=trodAll_cons hA;obtain⟨rfl,rfl,rfl⟩:=trodAll_nil r1;have ea:args=#[v0]:=by cases args;simp_all
 subst ea;obtain⟨rfl,rfl⟩:=trodVars_none hV;obtain⟨b0,rfl,hb0⟩:=Fd Tryz.underlying9 (hval 0 9 v0 rfl rfl);obtain⟨l0,rfl⟩:∃l,b0=bs l:=⟨b0.data.toList,(Cs b0).symm⟩
 rw[az] at hb0;refine (tz l0 (by omega) (ER (E7 hL hS)) W (λ_ _ h=>h)).mono λe W' ⟨he,hb⟩=>?_;exact⟨_,he,BC C6 (by decide +kernel) rfl Tryz.underlying4 rfl rfl rfl rfl hW' hb⟩
theorem pM:Rows.DeskPlaysSaid :=
 OpenClaim.holds_of_cond 3 Tryz.f3 rfl rfl rfl rfl rfl rfl rfl ⟨rfl,rfl,rfl,rfl,rfl⟩ rfl rfl rfl rfl rfl (by kernel_rfl) Tryz.func3 (by kernel_rfl)
  (of_decide_eq_true (by kernel_rfl)) (by unfold Func.isWrapper;first | (rw[if_pos (by decide +kernel)];kernel_rfl) | (rw[if_neg (by decide +kernel)];exact⟨rfl,rfl⟩))
  (λos started H enc _ F=>by rw[OpenClaim.pre_eq_preRow];exact nX os started H enc F)
theorem plain(f:FuncId)(fn:Func)(hf:Tryz.pinned.checked.prog.funcNamed "portage/portagelaw.DeskPlays"=some f) (hfn:Tryz.pinned.checked.prog.funcs[f]?=some fn) :
  true=Tryz.pinned.checked.prog.looks []/\∀(j:Nat) t,fn.params[j]?=some t->Tryz.pinned.checked.prog.wantsStandIn t=false:=by
 obtain rfl:f=3:=Option.some.inj ((show Tryz.prog.funcNamed "portage/portagelaw.DeskPlays"=some 3 by kernel_rfl).symm.trans hf) |>.symm
 obtain rfl:fn=Tryz.f3:=(Option.some.inj (Tryz.func3.symm.trans hfn)).symm;refine⟨by kernel_rfl,λj t ht=>?_⟩;rw[Tryz.params3] at ht;obtain rfl:t=9:=by simpa using Array.mem_of_getElem? ht
 exact (show Tryz.prog.wantsStandIn 9=false by kernel_rfl)
theorem deskPlays_card:Rows.DeskPlaysCardSaid :=
 Claim7.holds_tied_plain_at .later [] _ _ _ _ pM (λ_ h=>by cases h) (by kernel_rfl) (λ_ h=>by cases h) deskPlays_row_tie rfl ⟨rfl,rfl⟩ (by kernel_rfl) rfl plain (by kernel_rfl)
end Go.Proofs.YtfpmcmhihhnfgaaGreatDoor
