/- The words of a run over this program. No conditions. -/
import Derived.Test.YtfpmcmhihhnfgaaGreatDoorKE3
import Derived.Test.YtfpmcmhihhnfgaaGreatDoorProg
set_option linter.unusedVariables false
set_option linter.unusedSimpArgs false
namespace Go.Proofs.YtfpmcmhihhnfgaaGreatDoor
open Go.RowKit
abbrev Cl':=@Cl Tryz.prog
abbrev Eo':=@Eo Tryz.prog
abbrev cg:=@Clp Tryz.prog
abbrev Dr':=@Dr Tryz.prog
abbrev Yl':=@Yl Tryz.prog
abbrev gv(a0 a1 a2 a3 a4 a5:Int)(a6:Option Loc)(a7 a8:Nat)(a9:Option Loc)(a10 a11:Nat)(a12 a13 a14 a15 a16 a17:Int)(a18:Option Loc)(a19 a20:Nat)(a21 a22 a23 a24 a25 a26:Int)(a27:Option Loc)(a28 a29:Nat)(a30 a31 a32 a33 a34 a35:Int)(a36:Option Loc)(a37 a38:Nat):Array Value:=#[vi a0,vi a1,vi a2,vi a3,vi a4,vi a5,vsl a6 a7 a8,vsl a9 a10 a11,vi a12,vi a13,vi a14,vi a15,vi a16,vi a17,vsl a18 a19 a20,vi a21,vi a22,vi a23,vi a24,vi a25,vi a26,vsl a27 a28 a29,vi a30,vi a31,vi a32,vi a33,vi a34,vi a35,vsl a36 a37 a38]
abbrev eG(P:Int->Int->Int->Int->Int->Int->Option Loc->Nat->Nat->Option Loc->Nat->Nat->Int->Int->Int->Int->Int->Int->Option Loc->Nat->Nat->Int->Int->Int->Int->Int->Int->Option Loc->Nat->Nat->Int->Int->Int->Int->Int->Int->Option Loc->Nat->Nat->Prop):Prop:=∃(a0 a1 a2 a3 a4 a5:Int) (a6:Option Loc) (a7:Nat) (a8:Nat) (a9:Option Loc) (a10:Nat) (a11:Nat) (a12 a13 a14 a15 a16 a17:Int) (a18:Option Loc) (a19:Nat) (a20:Nat) (a21 a22 a23 a24 a25 a26:Int) (a27:Option Loc) (a28:Nat) (a29:Nat) (a30 a31 a32 a33 a34 a35:Int) (a36:Option Loc) (a37:Nat) (a38:Nat),P a0 a1 a2 a3 a4 a5 a6 a7 a8 a9 a10 a11 a12 a13 a14 a15 a16 a17 a18 a19 a20 a21 a22 a23 a24 a25 a26 a27 a28 a29 a30 a31 a32 a33 a34 a35 a36 a37 a38
abbrev aG(P:Int->Int->Int->Int->Int->Int->Option Loc->Nat->Nat->Option Loc->Nat->Nat->Int->Int->Int->Int->Int->Int->Option Loc->Nat->Nat->Int->Int->Int->Int->Int->Int->Option Loc->Nat->Nat->Int->Int->Int->Int->Int->Int->Option Loc->Nat->Nat->Prop):Prop:=∀(a0 a1 a2 a3 a4 a5:Int) (a6:Option Loc) (a7:Nat) (a8:Nat) (a9:Option Loc) (a10:Nat) (a11:Nat) (a12 a13 a14 a15 a16 a17:Int) (a18:Option Loc) (a19:Nat) (a20:Nat) (a21 a22 a23 a24 a25 a26:Int) (a27:Option Loc) (a28:Nat) (a29:Nat) (a30 a31 a32 a33 a34 a35:Int) (a36:Option Loc) (a37:Nat) (a38:Nat),P a0 a1 a2 a3 a4 a5 a6 a7 a8 a9 a10 a11 a12 a13 a14 a15 a16 a17 a18 a19 a20 a21 a22 a23 a24 a25 a26 a27 a28 a29 a30 a31 a32 a33 a34 a35 a36 a37 a38
abbrev eV(P:Array Value->Prop):Prop:=eG λa0 a1 a2 a3 a4 a5 a6 a7 a8 a9 a10 a11 a12 a13 a14 a15 a16 a17 a18 a19 a20 a21 a22 a23 a24 a25 a26 a27 a28 a29 a30 a31 a32 a33 a34 a35 a36 a37 a38=>P (gv a0 a1 a2 a3 a4 a5 a6 a7 a8 a9 a10 a11 a12 a13 a14 a15 a16 a17 a18 a19 a20 a21 a22 a23 a24 a25 a26 a27 a28 a29 a30 a31 a32 a33 a34 a35 a36 a37 a38)
abbrev aV(P:Array Value->Prop):Prop:=aG λa0 a1 a2 a3 a4 a5 a6 a7 a8 a9 a10 a11 a12 a13 a14 a15 a16 a17 a18 a19 a20 a21 a22 a23 a24 a25 a26 a27 a28 a29 a30 a31 a32 a33 a34 a35 a36 a37 a38=>P (gv a0 a1 a2 a3 a4 a5 a6 a7 a8 a9 a10 a11 a12 a13 a14 a15 a16 a17 a18 a19 a20 a21 a22 a23 a24 a25 a26 a27 a28 a29 a30 a31 a32 a33 a34 a35 a36 a37 a38)
abbrev gA:List SV := [vI 0,vI 1,vI 2,vI 3,vI 4,vI 5,vS 6,vS 9,vI 12,vI 13,vI 14,vI 15,vI 16,vI 17,vS 18,vI 21,vI 22,vI 23,vI 24,vI 25,vI 26,vS 27,vI 30,vI 31,vI 32,vI 33,vI 34,vI 35,vS 36]
abbrev ge(a0 a1 a2 a3 a4 a5:Int)(a6:Option Loc)(a7 a8:Nat)(a9:Option Loc)(a10 a11:Nat)(a12 a13 a14 a15 a16 a17:Int)(a18:Option Loc)(a19 a20:Nat)(a21 a22 a23 a24 a25 a26:Int)(a27:Option Loc)(a28 a29:Nat)(a30 a31 a32 a33 a34 a35:Int)(a36:Option Loc)(a37 a38:Nat)(r:List Dat):List Dat:=.i a0::.i a1::.i a2::.i a3::.i a4::.i a5::.p a6::.n a7::.n a8::.p a9::.n a10::.n a11::.i a12::.i a13::.i a14::.i a15::.i a16::.i a17::.p a18::.n a19::.n a20::.i a21::.i a22::.i a23::.i a24::.i a25::.i a26::.p a27::.n a28::.n a29::.i a30::.i a31::.i a32::.i a33::.i a34::.i a35::.p a36::.n a37::.n a38::r
abbrev tv(a0 a1 a2 a3 a4 a5:Int)(a6:Option Loc)(a7 a8:Nat)(a9:Option Loc)(a10 a11:Nat)(a12 a13 a14 a15 a16 a17:Int)(a18:Option Loc)(a19 a20:Nat)(a21 a22 a23 a24 a25 a26:Int)(a27:Option Loc)(a28 a29:Nat)(a30 a31 a32 a33 a34 a35:Int)(a36:Option Loc)(a37 a38:Nat)(a39:Option Loc)(a40 a41:Nat):Array Value:=#[vi a0,vi a1,vi a2,vi a3,vi a4,vi a5,vsl a6 a7 a8,vsl a9 a10 a11,vi a12,vi a13,vi a14,vi a15,vi a16,vi a17,vsl a18 a19 a20,vi a21,vi a22,vi a23,vi a24,vi a25,vi a26,vsl a27 a28 a29,vi a30,vi a31,vi a32,vi a33,vi a34,vi a35,vsl a36 a37 a38,vsl a39 a40 a41]
abbrev eT(P:Int->Int->Int->Int->Int->Int->Option Loc->Nat->Nat->Option Loc->Nat->Nat->Int->Int->Int->Int->Int->Int->Option Loc->Nat->Nat->Int->Int->Int->Int->Int->Int->Option Loc->Nat->Nat->Int->Int->Int->Int->Int->Int->Option Loc->Nat->Nat->Option Loc->Nat->Nat->Prop):Prop:=∃(a0 a1 a2 a3 a4 a5:Int) (a6:Option Loc) (a7:Nat) (a8:Nat) (a9:Option Loc) (a10:Nat) (a11:Nat) (a12 a13 a14 a15 a16 a17:Int) (a18:Option Loc) (a19:Nat) (a20:Nat) (a21 a22 a23 a24 a25 a26:Int) (a27:Option Loc) (a28:Nat) (a29:Nat) (a30 a31 a32 a33 a34 a35:Int) (a36:Option Loc) (a37:Nat) (a38:Nat) (a39:Option Loc) (a40:Nat) (a41:Nat),P a0 a1 a2 a3 a4 a5 a6 a7 a8 a9 a10 a11 a12 a13 a14 a15 a16 a17 a18 a19 a20 a21 a22 a23 a24 a25 a26 a27 a28 a29 a30 a31 a32 a33 a34 a35 a36 a37 a38 a39 a40 a41
abbrev aT(P:Int->Int->Int->Int->Int->Int->Option Loc->Nat->Nat->Option Loc->Nat->Nat->Int->Int->Int->Int->Int->Int->Option Loc->Nat->Nat->Int->Int->Int->Int->Int->Int->Option Loc->Nat->Nat->Int->Int->Int->Int->Int->Int->Option Loc->Nat->Nat->Option Loc->Nat->Nat->Prop):Prop:=∀(a0 a1 a2 a3 a4 a5:Int) (a6:Option Loc) (a7:Nat) (a8:Nat) (a9:Option Loc) (a10:Nat) (a11:Nat) (a12 a13 a14 a15 a16 a17:Int) (a18:Option Loc) (a19:Nat) (a20:Nat) (a21 a22 a23 a24 a25 a26:Int) (a27:Option Loc) (a28:Nat) (a29:Nat) (a30 a31 a32 a33 a34 a35:Int) (a36:Option Loc) (a37:Nat) (a38:Nat) (a39:Option Loc) (a40:Nat) (a41:Nat),P a0 a1 a2 a3 a4 a5 a6 a7 a8 a9 a10 a11 a12 a13 a14 a15 a16 a17 a18 a19 a20 a21 a22 a23 a24 a25 a26 a27 a28 a29 a30 a31 a32 a33 a34 a35 a36 a37 a38 a39 a40 a41
abbrev eU(P:Array Value->Prop):Prop:=eT λa0 a1 a2 a3 a4 a5 a6 a7 a8 a9 a10 a11 a12 a13 a14 a15 a16 a17 a18 a19 a20 a21 a22 a23 a24 a25 a26 a27 a28 a29 a30 a31 a32 a33 a34 a35 a36 a37 a38 a39 a40 a41=>P (tv a0 a1 a2 a3 a4 a5 a6 a7 a8 a9 a10 a11 a12 a13 a14 a15 a16 a17 a18 a19 a20 a21 a22 a23 a24 a25 a26 a27 a28 a29 a30 a31 a32 a33 a34 a35 a36 a37 a38 a39 a40 a41)
abbrev aU(P:Array Value->Prop):Prop:=aT λa0 a1 a2 a3 a4 a5 a6 a7 a8 a9 a10 a11 a12 a13 a14 a15 a16 a17 a18 a19 a20 a21 a22 a23 a24 a25 a26 a27 a28 a29 a30 a31 a32 a33 a34 a35 a36 a37 a38 a39 a40 a41=>P (tv a0 a1 a2 a3 a4 a5 a6 a7 a8 a9 a10 a11 a12 a13 a14 a15 a16 a17 a18 a19 a20 a21 a22 a23 a24 a25 a26 a27 a28 a29 a30 a31 a32 a33 a34 a35 a36 a37 a38 a39 a40 a41)
abbrev tA:List SV := [vI 0,vI 1,vI 2,vI 3,vI 4,vI 5,vS 6,vS 9,vI 12,vI 13,vI 14,vI 15,vI 16,vI 17,vS 18,vI 21,vI 22,vI 23,vI 24,vI 25,vI 26,vS 27,vI 30,vI 31,vI 32,vI 33,vI 34,vI 35,vS 36,vS 39]
abbrev te(a0 a1 a2 a3 a4 a5:Int)(a6:Option Loc)(a7 a8:Nat)(a9:Option Loc)(a10 a11:Nat)(a12 a13 a14 a15 a16 a17:Int)(a18:Option Loc)(a19 a20:Nat)(a21 a22 a23 a24 a25 a26:Int)(a27:Option Loc)(a28 a29:Nat)(a30 a31 a32 a33 a34 a35:Int)(a36:Option Loc)(a37 a38:Nat)(a39:Option Loc)(a40 a41:Nat)(r:List Dat):List Dat:=.i a0::.i a1::.i a2::.i a3::.i a4::.i a5::.p a6::.n a7::.n a8::.p a9::.n a10::.n a11::.i a12::.i a13::.i a14::.i a15::.i a16::.i a17::.p a18::.n a19::.n a20::.i a21::.i a22::.i a23::.i a24::.i a25::.i a26::.p a27::.n a28::.n a29::.i a30::.i a31::.i a32::.i a33::.i a34::.i a35::.p a36::.n a37::.n a38::.p a39::.n a40::.n a41::r
abbrev pF(a b:Nat):(Nat × Nat) × (Nat->SV × List (Nat × Pk) × Nat):=((a,b),λnv=>(.bool (.k false),[],nv))
abbrev pT(a b:Nat):(Nat × Nat) × (Nat->SV × List (Nat × Pk) × Nat):=((a,b),λnv=>(.bool (.k true),[],nv))
abbrev XB:=(Nat->Prop)->Hp->World->(Ending->World->Prop)->(Hp->(World->Prop)->Nat->Array Value->(Ending->World->World->Prop)->Prop)->(Hp->(World->Prop)->(World->Prop)->Prop)->(Hp->(World->Prop)->Value->Prop)->Prop
abbrev Xw(f:Nat)(A:Array Value)(B:XB):Prop:=∀(M:Nat->Prop) (H0:Hp) (W0:World) (R:Ending->World->Prop),H0.le (ak W0)->B M H0 W0 R (Cl Tryz.prog W0 M) (Es W0 M) (Rt R W0 M)->Calls Tryz.prog f A W0 R
theorem Xa{f:Nat}{fn:Func}(hf:Tryz.prog.funcs[f]?=some fn){hi:dq}{args:List SV}{nv:Nat}{e:Env}{A:Array Value}{B:XB}(e2:∀M H W R,(exF Tryz.prog hi fn args [] nv []).den Tryz.prog W M R (λ_=>0) e H []=B M H W R (Cl Tryz.prog W M) (Es W M) (Rt R W M):=by intros;kernel_rfl)(ha:(SV.dens (λ_=>0) e args).toArray=A:=by kernel_rfl):Xw f A B:=λM H0 W0 R hH h=>yx (M:=M) hf hH h rfl (e2 M H0 W0 R) ha
abbrev vA:Value:=Value.string ⟨#[]⟩
abbrev vB:Value:=Value.string ⟨#[32]⟩
abbrev vC:Value:=Value.string ⟨#[118,97,108,115]⟩
abbrev vE:Value:=Value.string ⟨#[10]⟩
abbrev vF:Value:=Value.string ⟨#[100,111,110,101]⟩
abbrev vG:Value:=Value.string ⟨#[111,112,101,110]⟩
abbrev vH:Value:=Value.string ⟨#[114,117,110]⟩
abbrev vJ:Value:=Value.string ⟨#[99,108,111,115,101]⟩
abbrev vK:Value:=Value.string ⟨#[99,117,116]⟩
abbrev vM:Value:=Value.string ⟨#[99,97,108,108]⟩
abbrev vN:Value:=Value.string ⟨#[107,101,112,116]⟩
abbrev vO:Value:=Value.string ⟨#[115,101,116]⟩
abbrev vP:Value:=Value.string ⟨#[101,114,114,111,114,32]⟩
abbrev vQ:Value:=Value.string ⟨#[97,100,100]⟩
abbrev vR:Value:=Value.string ⟨#[103,101,116]⟩
abbrev vT:Value:=Value.string ⟨#[45]⟩
end Go.Proofs.YtfpmcmhihhnfgaaGreatDoor
