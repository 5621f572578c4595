/- Contracts: entries out of bytes, one behind the other: the program's and the document's. No conditions. Contracts: what the document replays. No conditions. Contracts: the document's replay. No conditions. -/
import Derived.Test.YtoilhpkclabhoaaKQ1
import Derived.Test.YtoilhpkclabhoaaKF1
import Derived.Test.YtoilhpkclabhoaaKY2
import Derived.Laws.Strings2
set_option linter.unusedVariables false
set_option linter.unusedSimpArgs false
namespace Go.Proofs.Ytoilhpkclabhoaa
open Go.RowKit

theorem pE_len {l r : List UInt8} {x : Ent} (h : pE l = some (x, r)) : l.length = (encE x).length + r.length := by
  rw [(pE_enc h).2, List.length_append]
theorem pE_64 {l r : List UInt8} {x : Ent} (h : pE l = some (x, r)) : x.in64 := by
  have hk := Ent.err_ok.1 (pE_enc h).1
  unfold Ent.in64
  by_cases h2 : x.kind = 2
  · have := hk.call h2; omega
  · have := hk.bare h2; omega
theorem repE_more {n : Nat} {l r : List UInt8} {x : Ent} (h : pE l = some (x, r)) : repE (n + 1) l = (x :: (repE n r).1, (repE n r).2) := by simp only [repE, h]
theorem repE_stop {n : Nat} {l : List UInt8} (h : pE l = none) : repE n l = ([], l) := by
  cases n with
  | zero => rfl
  | succ n => simp only [repE, h]
def lRep (l : List UInt8) : List Ent × Int × Int := if 4096 < l.length then ([], 0, 2) else ((repE 50 l).1, (l.length : Int) - (repE 50 l).2.length, 0)
def RepPost (q : List Ent × Int × Int) (v : Value) (D : Hp) : Prop := ∃ p n c, v = .tuple #[vsl p n c, vi q.2.1, vi q.2.2] ∧ Ents D p n c q.1
theorem c_logReplay (l : List UInt8) (H : Hp) : Gf Try.prog 18 #[.string (bs l)] H (RepPost (lRep l)) := fun W hH => by
  refine x_logReplay (bs l) noM H W _ hH ⟨fun h => ?_, fun h => ?_⟩
  · rw [bs_size] at h
    rw [show lRep l = ([], 0, 2) from if_pos (by omega)]
    exact Rt.gf (D := noH) (noH_le _) (fun b o h => by cases h) ⟨none, 0, 0, rfl, Ents.nil _ _⟩
  rw [bs_size] at h
  have hl : lRep l = ((repE 50 l).1, (l.length : Int) - (repE 50 l).2.length, 0) := if_neg (by omega)
  rw [hl]
  refine ⟨fun v K => match v with | [.p p, .n n, .n c, .s s] => ∃ (acc : List Ent) (rest : List UInt8) (g : Option Nat), n ≤ 50 ∧ H.le K ∧ s = bs rest ∧ Ow K 33 9 p n c (acc.map Ent.row) g ∧ (∀ b, g = some b → W.heap.size ≤ b) ∧ (∀ e ∈ acc, e.in64) ∧ rest.length ≤ l.length ∧ repE 50 l = (acc ++ (repE (50 - n) rest).1, (repE (50 - n) rest).2) | _ => False,
    fun v => match v with | [_, .n n, _, _] => 50 - n | _ => 0, ⟨[], l, none, by omega, Hp.le_refl H, rfl, Ow.nil _ _ _ _, fun b h => (by cases h), fun e h => (by cases h), Nat.le_refl _, by simp⟩, fun K p n c s hI => ?_⟩
  obtain ⟨acc, rest, g, hn, hle, rfl, ho, hg, h64, hrl, hf⟩ := hI
  rw [map0] at ho
  refine ⟨by omega, fun _ => ⟨fun hlt => ?_, fun hge => ?_⟩⟩
  · obtain ⟨m, hm⟩ : ∃ m, 50 - n = m + 1 := ⟨50 - n - 1, by omega⟩
    rw [hm] at hf
    refine Cl.fresh (c_logRead rest K) ?_
    rintro v Wa Wb D ⟨e, r, ok, rfl, hp⟩ hx _ _ nn
    refine ⟨_, _, _, _, _, _, _, _, _, _, _, rfl, hx, fun b0 => ⟨fun hok => ?_, fun hok => ?_⟩⟩
    · rw [if_pos hok] at hp
      rw [repE_more hp] at hf
      have hpl := pE_len hp
      intro b1 W5 n5 k5
      obtain ⟨p', c', g', W6, K2, hrun, hu, ho2, hg2, _⟩ := run_append1 Try.underlying38 infoEnt9 (by omega) n5.sub ho (row := e.row) k5.1.eq k5.1.off rfl (fun v hv => by simp only [Ent.row, List.mem_cons, List.not_mem_nil, or_false] at hv; rcases hv with rfl | rfl | rfl | rfl | rfl | rfl | rfl | rfl | rfl <;> rfl) (by simp only [maxLen]; omega) (by omega) 38
      refine ⟨_, _, _, _, hrun, K2, hu.own ho (fun b hb => .inl (hg b hb)), by omega, fun _ => ⟨by omega, fun _ => ?_⟩⟩
      refine ⟨⟨acc ++ [e], r, g', by omega, hu.keep n5.sub hle (fun b hb => old_none hH (hg b hb)), rfl, ?_, fun b hb => ?_, fun x hx => ?_, by omega, ?_⟩, by simp only; omega⟩
      · rw [map0, List.map_append]; exact ho2
      · rcases hg2 with h | h
        · exact hg b (h ▸ hb)
        · rw [h] at hb; simp only [Option.some.injEq] at hb; have := n5.mod.size; omega
      · rcases List.mem_append.1 hx with hx | hx
        · exact h64 x hx
        · rw [List.mem_singleton.1 hx]; exact pE_64 hp
      · rw [show 50 - (n + 1) = m by omega, hf]
        simp
    · rw [if_neg hok] at hp
      rw [repE_stop hp, List.append_nil] at hf
      refine ⟨in64 (by rw [bs_size, bs_size]; omega), fun _ => Rt.gf (newer_le W K) (newer_new W K) ⟨p, n, c, ?_, ?_⟩⟩
      · rw [hf, bs_size, bs_size]
      · rw [hf]; exact Ents.of_ow (ho.new hg) h64
  · have hn0 : 50 - n = 0 := by omega
    replace hf : repE 50 l = (acc, rest) := by
      rw [hf, hn0]
      show (acc ++ [], rest) = _
      rw [List.append_nil]
    refine ⟨in64 (by rw [bs_size, bs_size]; omega), fun _ => Rt.gf (newer_le W K) (newer_new W K) ⟨p, n, c, ?_, ?_⟩⟩
    · rw [hf, bs_size, bs_size]
    · rw [hf]; exact Ents.of_ow (ho.new hg) h64
end Go.Proofs.Ytoilhpkclabhoaa
namespace Go.Proofs.Ytoilhpkclabhoaa
open Go.RowKit

end Go.Proofs.Ytoilhpkclabhoaa
namespace Go.Proofs.Ytoilhpkclabhoaa
open Go.RowKit

end Go.Proofs.Ytoilhpkclabhoaa
