/- Bytes and strings: what conversions, slices of strings, shifts and appends of bytes do. No conditions. -/
import Derived.Test.YtfpmcmhihhnfgaaGreatDoorKD1
import Derived.Test.YtfpmcmhihhnfgaaGreatDoorProg
import Derived.Laws.IdiomStrings
set_option linter.unusedVariables false
set_option linter.unusedSimpArgs false
namespace Go.Proofs.YtfpmcmhihhnfgaaGreatDoor
open Go.RowKit
theorem infoByte:fc Tryz.prog 5 1 1=true:=by kernel_rfl
def lS(b:UInt8):List Value := [.int .u8 (b.toNat:Int)]
def bs(l:List UInt8):ByteArray:=⟨l.toArray⟩
theorem Cs(s:ByteArray):bs s.data.toList=s:=by cases s;rfl
theorem Ec{l m:List UInt8}(h:bs l=bs m):l=m:=by
 have:=congrArg (λs:ByteArray=>s.data.toList) h;simpa [bs] using this
theorem az(l:List UInt8):(bs l).size=l.length:=by simp[bs,ByteArray.size]
def b8(n:Int):UInt8:=UInt8.ofNat (n % 256).toNat
theorem BL(n:Int):((b8 n).toNat:Int)=n % 256:=by
 unfold b8;have h0:0<=n % 256:=Int.emod_nonneg _ (by omega)
 have h1:n % 256<256:=Int.emod_lt_of_pos _ (by omega);rw[UInt8.toNat_ofNat'];omega
theorem DQ(n:Int):IntKind.wrap .u8 n=((b8 n).toNat:Int):=by
 rw[BL];simp[IntKind.wrap,IntKind.bits,IntKind.signed]
theorem E4(l:List UInt8):∀r∈l.map lS,∀v∈r,v.oneCell'=true:=λr hr v hv=>by
 obtain⟨x,_,rfl⟩:=List.mem_map.1 hr;simp only[lS,List.mem_singleton] at hv;subst hv;rfl
theorem q9(l:List UInt8):∀r∈l.map lS,r.length=1/\∀v∈r,v.oneCell'=true:=λr hr=>⟨by
 obtain⟨x,_,rfl⟩:=List.mem_map.1 hr;rfl,E4 l r hr⟩
theorem uQ(l:List UInt8):(l.map lS).flatten=l.map λb=>Value.int .u8 (b.toNat:Int):=by
 induction l with
 | nil=>rfl
 | cons b l ih=>simp only[List.map_cons,List.flatten_cons,ih];rfl
abbrev By(H:Hp)(p:OL)(n c:Nat)(l:List UInt8)(g:Option Nat):Prop:=Ow H 5 1 p n c (l.map lS) g
abbrev Bs(H:Hp)(p:OL)(n:Nat)(l:List UInt8):Prop:=Rows H p n 1 (l.map lS)
section
variable{H:Hp}{W:World}{p:OL}{n c:Nat}{l:List UInt8}{g:Option Nat}
theorem Bs.len(h:Bs H p n l):n=l.length:=by simpa using Rows.len h
theorem Bs.at{k:Nat}(h:Bs H p n l)(hk:k<n):∃b:UInt8,l[k]?=some b/\aa H p (0+(k:Int) * 1) [.int .u8 (b.toNat:Int)]:=by
 obtain⟨row,h1,_,h3⟩:=Rows.at h hk (off:=0+(k:Int) * 1) (by omega);rw[List.getElem?_map,Option.map_eq_some_iff] at h1;obtain⟨b,hb,rfl⟩:=h1;exact⟨b,hb,h3⟩
theorem rx(h:Bs H p n l)(hH:H.le (ak W)):(EK.sem (.conv 44 9) [vsl p n c]).run Tryz.prog W=.ok (.value (.string (bs l))) W:=by
 have hn:=Bs.len h;have hrun:(convert 44 9 (vsl p n c)).run Tryz.prog W=.ok (.string (bs l)) W:=by
  cases p with
  | none =>
   have:l = []:=by
    cases l with
    | nil=>rfl
    | cons b l =>
     obtain⟨b',_,h3⟩:=Bs.at h (k:=0) (by simp at hn;omega)
     cases h3.isSome
   subst this;simp only[List.length_nil] at hn;subst hn;simp only[vsl,ab,Option.map_none]
   rw[run_convert_bytes_string (e:=5) W _ _ _ _ _ Tryz.underlying44 Tryz.underlying5 Tryz.underlying9];rfl
  | some a =>
   have:=run_convert_bytes_back (P:=Tryz.prog) W 44 9 5 a.addr c l Tryz.underlying44 Tryz.underlying5 Tryz.underlying9 (λj hj=>Rows.cells h hH (by omega) j _ (by rw[uQ];simp[hj]));rw[hn];simpa [vsl,ab,bs] using this
 simp only[EK.sem,List.getD_cons_zero,Sem.run_bind,hrun,Result.andThen_ok,Sem.run_pure]
theorem tF(s:ByteArray)(i:Nat)(hi:i<=s.size):(EK.sem (.slice 9 true false false) [.string s,vi i]).run Tryz.prog W=.ok (.value (.string (s.extract i s.size))) W:=by
 have:=run_slice_string_from_if (P:=Tryz.prog) W 9 s .i64 i Tryz.underlying9;rw[if_pos (by omega)] at this;simp only[Int.toNat_natCast] at this;simp[EK.sem,Instr.sliceAt,this]
theorem yc(s:ByteArray)(i:Nat)(hi:i<=s.size):(EK.sem (.slice 9 false true false) [.string s,vi i]).run Tryz.prog W=.ok (.value (.string (s.extract 0 i))) W:=by
 have:=run_slice_string_to_if (P:=Tryz.prog) W 9 s .i64 i Tryz.underlying9;rw[if_pos (by omega)] at this;simp only[Int.toNat_natCast] at this;simp[EK.sem,Instr.sliceAt,this]
theorem Cg(l:List UInt8)(i:Nat):(bs l).extract i (bs l).size=bs (l.drop i):=by
 unfold bs;rw[ByteArray.extract_mk]
 congr 2
 exact List.take_of_length_le (by simp[ByteArray.size])
theorem Fv(l:List UInt8)(i:Nat):(bs l).extract 0 i=bs (l.take i):=by
 unfold bs;rw[ByteArray.extract_mk];simp
theorem wq(l:List UInt8)(i:Nat)(hi:i<=l.length):(EK.sem (.slice 9 true false false) [.string (bs l),vi i]).run Tryz.prog W=.ok (.value (.string (bs (l.drop i)))) W:=by
 rw[tF _ _ (by rw[az];exact hi),Cg]
theorem Fq(l:List UInt8)(i:Nat)(hi:i<=l.length):(EK.sem (.slice 9 false true false) [.string (bs l),vi i]).run Tryz.prog W=.ok (.value (.string (bs (l.take i)))) W:=by
 rw[yc _ _ (by rw[az];exact hi),Fv]
theorem BE(a b:List UInt8):((bs a).toList==(bs b).toList)=decide (a=b):=by
 unfold bs;rw[ByteArray.toList_mk,ByteArray.toList_mk]
 by_cases h:a=b<;>simp[h]
theorem qN(x y:Operand)(a b:List UInt8):(EK.sem (.bop .eql 9 x y) [.string (bs a),.string (bs b)]).run Tryz.prog W=.ok (.value (vb (decide (a=b)))) W:=by
 simp[EK.sem,eqGuard,binOp_string_eql,binOp_string_neq,BE]
theorem qJ(x y:Operand)(a b:List UInt8):(EK.sem (.bop .neq 9 x y) [.string (bs a),.string (bs b)]).run Tryz.prog W=.ok (.value (vb (!decide (a=b)))) W:=by
 simp[EK.sem,eqGuard,binOp_string_eql,binOp_string_neq,BE]
end
end Go.Proofs.YtfpmcmhihhnfgaaGreatDoor
