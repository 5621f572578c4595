/- Lists of ints in memory: what it is, are they the same, a copy, where one lies. No conditions. -/
import Derived.Test.YtfpmcmhihhnfgaaGreatDoorKPg
import Derived.Test.YtfpmcmhihhnfgaaGreatDoorKD1
set_option linter.unusedVariables false
set_option linter.unusedSimpArgs false
namespace Go.Proofs.YtfpmcmhihhnfgaaGreatDoor
open Go.RowKit
set_option maxRecDepth 100000
set_option maxHeartbeats 4000000
theorem fm:fc Tryz.prog 3 1 8=true:=by kernel_rfl
def uS(x:Int):List Value := [vi x]
def nu(H:Hp)(p:OL)(n c:Nat)(l:List Int):Prop:=n<=c/\c<=maxLen/\Rows H p n 1 (l.map uS)
section
variable{H K:Hp}{p p':OL}{n c n' c':Nat}{l m:List Int}
theorem nu.mono(h:nu H p n c l)(hk:H.le K):nu K p n c l:=⟨h.1,h.2.1,h.2.2.mono hk⟩
theorem nu.len(h:nu H p n c l):n=l.length:=by simpa using h.2.2.len
theorem nu.lt63(h:nu H p n c l):(n:Int)<=9223372036854775807:=by have:=h.1;have:=h.2.1;simp only[maxLen] at this;omega
theorem nu.nil(H:Hp)(p:OL):nu H p 0 0 []:=⟨Nat.le_refl _,by simp[maxLen],Rows.nil _ _ _⟩
theorem nu.at(h:nu H p n c l){k:Nat}(hk:k<n):∃x:Int,l[k]?=some x/\aa H p (0+(k:Int) * 1) [vi x]:=by
 obtain⟨row,h1,_,h3⟩:=h.2.2.at hk (off:=0+(k:Int) * 1) (by omega);rw[List.getElem?_map,Option.map_eq_some_iff] at h1;obtain⟨x,hx,rfl⟩:=h1;exact⟨x,hx,h3⟩
theorem nu.of_ow{g:Option Nat}(h:Ow H 3 1 p n c (l.map uS) g):nu H p n c l:=⟨h.2.2.1,h.2.2.2.1,h.rows⟩
end
end Go.Proofs.YtfpmcmhihhnfgaaGreatDoor
