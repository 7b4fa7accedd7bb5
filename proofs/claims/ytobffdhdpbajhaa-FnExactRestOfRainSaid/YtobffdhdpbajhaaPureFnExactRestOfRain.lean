/- The program's RestOfRain and the reference's tell the same, arguments and all. It holds for all inputs that the statement lets in. -/
import Derived.Test.YtobffdhdpbajhaaLibA
import Derived.Test.YtobffdhdpbajhaaLibC4
import Derived.Test.YtobffdhdpbajhaaLibC4R
import Derived.Test.YtobffdhdpbajhaaPr13
namespace Go.Proofs.Ytobffdhdpbajhaa.Pure
open Go.RowKit Go.Proofs.Ytobffdhdpbajhaa.Pr Go.Proofs.YtobffdhdpbajhaaW.PrintWords Go.Proofs.YtobffdhdpbajhaaW.PrintLast
set_option linter.unusedVariables false
set_option linter.unusedSimpArgs false

theorem rest_sum (a : Int) (ha0 : 1 ≤ a) (ha1 : a ≤ 60) : ∀ (l : List Int) (s : Int), 0 ≤ s → (∀ x ∈ l, 0 ≤ x ∧ x ≤ 10000) → l.length ≤ 1048576 → s + 10000 * (l.length : Int) ≤ 100000000000 →
    (rain a (Int.tmod s a) l).2 = Int.tmod (wsum s l) a
  | [], s, _, _, _, _ => rfl
  | x :: xs, s, h0, hx, hl, hb => by
    have hx0 := hx x (by simp)
    have e1 : Int.tmod s a = s % a := Int.tmod_eq_emod_of_nonneg h0
    have l1 := Int.emod_nonneg s (show a ≠ 0 by omega)
    have l2 := Int.emod_lt_of_pos s (show 0 < a by omega)
    simp only [List.length_cons] at hb hl
    have hs : wrap64 (s + x) = s + x := w64 (by omega) (by omega)
    have e2 : wrap64 (Int.tmod s a + x) = s % a + x := by rw [e1]; exact w64 (by omega) (by omega)
    have e3 : Int.tmod (s % a + x) a = Int.tmod (s + x) a := by
      rw [Int.tmod_eq_emod_of_nonneg (by omega), Int.tmod_eq_emod_of_nonneg (by omega), Int.emod_add_emod]
    have ih := rest_sum a ha0 ha1 xs (s + x) (by omega) (fun y hy => hx y (by simp [hy])) (by omega) (by omega)
    simp only [rain, wsum, List.foldl_cons, hs, e2, e3]
    exact ih
theorem RestOfRain_same (a : Int) (l : List Int) (hl : l.length ≤ 1048576) : ∃ R : Int × Bool, (∀ k, 2000000 ≤ k → spec_RestOfRain.f k a l = some R) ∧ (∀ k, 2000000 ≤ k → impl_RestOfRain.f k a l = some R) := by
  refine ⟨if gaugeB a l = true then ((rain a 0 l).2, true) else (0, false), fun k hk => ?_, fun k hk => ?_⟩
  · unfold spec_RestOfRain.f
    rw [tbRain_ok a l k hl hk, Option.bind_some]
    split
    · rename_i h
      rw [tbTips_ok a l k hl (by have := gaugeB_get h; omega) hk, Option.bind_some]
    · rfl
  · unfold impl_RestOfRain.f
    rw [isGauge_ok a l hl, Option.bind_some]
    split
    · rename_i h
      obtain ⟨g1, g2, g3, g4⟩ := gaugeB_get h
      rw [total_ok l k hl hk, Option.bind_some, if_neg (by omega)]
      have := rest_sum a g1 g2 l 0 (by omega) g4 hl (by omega)
      rw [show Int.tmod 0 a = 0 by simp] at this
      rw [this]
    · rfl

theorem FnExactRestOfRain : laws_FnExactRestOfRain.Pure := by
  intro a0 l1 w0 w1 w2 w3
  by_cases big_l1 : (l1.length : Int) > 1048576
  · refine ⟨0, ?_⟩
    unfold laws_FnExactRestOfRain.f
    rw [if_pos big_l1]
  have len_l1 : l1.length ≤ 1048576 := by omega
  obtain ⟨R, hs, hi⟩ := RestOfRain_same a0 l1 len_l1
  obtain ⟨K, hK⟩ : ∃ K, K = 4000000 := ⟨_, rfl⟩
  refine ⟨K + 9, ?_⟩
  simp (disch := omega) only [laws_FnExactRestOfRain.f, if_neg big_l1, hs, hi, toIntS_ok, eqIntS_ok, Option.bind_some, bne_self_eq_false, Bool.false_eq_true, eq_self, if_true, if_false]
  simp (disch := omega) only [laws_FnExactRestOfRain.j0, if_neg big_l1, hs, hi, toIntS_ok, eqIntS_ok, Option.bind_some, bne_self_eq_false, Bool.false_eq_true, eq_self, if_true, if_false]

end Go.Proofs.Ytobffdhdpbajhaa.Pure
