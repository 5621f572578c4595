/- Plain laws of tables. No program in sight. No conditions. Contracts of package sess. No conditions. -/
import Derived.Test.YtoilhpkclabhoaaKD1
import Derived.Test.YtoilhpkclabhoaaKS3
set_option linter.unusedVariables false
set_option linter.unusedSimpArgs false
namespace Go.Proofs.Ytoilhpkclabhoaa

theorem kept_len {a : Int} : ∀ {l : List Rep} {last : Int}, keptOk a last l = true → last ≤ a + 3 → (l.length : Int) ≤ a + 3 - last
  | [], last, _, h => by simp; omega
  | r :: t, last, hk, h => by
    simp only [keptOk, Bool.and_eq_true, decide_eq_true_eq] at hk
    have := kept_len hk.2 (by omega)
    simp only [List.length_cons]
    omega
theorem kept_len3 {s : Ses} (h : s.err = 0) : s.kept.length ≤ 3 := by
  have h1 := Ses.err_ok h
  have := kept_len h1.2.2.2 (by omega)
  omega
end Go.Proofs.Ytoilhpkclabhoaa
namespace Go.Proofs.Ytoilhpkclabhoaa
open Go.RowKit

theorem OwnTab.fin {W : World} {H Dk : Hp} {p : Option Loc} {n c : Nat} {rows : List (List Value)} {l : List Ses} {g : Option Nat} (ho : Ow H 59 4 p n c rows g) (ha : All2 (SesRow Dk) rows l) (hD : Dk.le H) (hf : ∀ b o, Dk b = some o → W.heap.size ≤ b) (hg : ∀ b, g = some b → Dk b = none) (hn : ∀ b, g = some b → W.heap.size ≤ b) :
    OwnTab (newer W H) p n c l g := ⟨rows, Dk, ho.new hn, le_newer hD hf, hg, ha⟩
theorem OwnTab.nil (D : Hp) (p : Option Loc) : OwnTab D p 0 0 [] none := ⟨[], noH, Ow.nil _ _ _ _, noH_le _, fun b h => (by cases h), .nil⟩
end Go.Proofs.Ytoilhpkclabhoaa
