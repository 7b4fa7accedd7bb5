/- The program's RangeOfTips and the reference's tell the same, arguments and all. It holds for all inputs that the statement lets in. -/
import Derived.Test.YtobffdhdpbajhaaLibA
import Derived.Test.YtobffdhdpbajhaaLibC4
import Derived.Test.YtobffdhdpbajhaaPr11
import Derived.Test.YtobffdhdpbajhaaPr12
namespace Go.Proofs.Ytobffdhdpbajhaa.Pure
open Go.RowKit Go.Proofs.Ytobffdhdpbajhaa.Pr Go.Proofs.YtobffdhdpbajhaaW.PrintWords Go.Proofs.YtobffdhdpbajhaaW.PrintLast
set_option linter.unusedVariables false
set_option linter.unusedSimpArgs false

theorem RangeOfTips_same (a : Int) (l : List Int) (hl : l.length ≤ 1048576) : ∃ R : Int × Int × Bool, (∀ k, 2000000 ≤ k → spec_RangeOfTips.f k a l = some R) ∧ (∀ k, 2000000 ≤ k → impl_RangeOfTips.f k a l = some R) := by
  refine ⟨if gaugeB a l = true then (wrap64 (a * wsum 0 l), wrap64 ((wrap64 ((wrap64 (a * wsum 0 l)) + a)) - 1), true) else (0, 0, false), fun k hk => ?_, fun k hk => ?_⟩
  · unfold spec_RangeOfTips.f
    rw [tbRain_ok a l k hl hk, Option.bind_some]
    split
    · rw [veSum_ok l k hl hk, Option.bind_some]
    · rfl
  · unfold impl_RangeOfTips.f
    rw [isGauge_ok a l hl, Option.bind_some]
    split
    · rw [total_ok l k hl hk, Option.bind_some, Int.mul_comm]
    · rfl

theorem FnExactRangeOfTips : laws_FnExactRangeOfTips.Pure := by
  intro a0 l1 w0 w1 w2 w3
  by_cases big_l1 : (l1.length : Int) > 1048576
  · refine ⟨0, ?_⟩
    unfold laws_FnExactRangeOfTips.f
    rw [if_pos big_l1]
  have len_l1 : l1.length ≤ 1048576 := by omega
  obtain ⟨R, hs, hi⟩ := RangeOfTips_same a0 l1 len_l1
  obtain ⟨K, hK⟩ : ∃ K, K = 4000000 := ⟨_, rfl⟩
  refine ⟨K + 9, ?_⟩
  simp (disch := omega) only [laws_FnExactRangeOfTips.f, if_neg big_l1, hs, hi, toIntS_ok, eqIntS_ok, Option.bind_some, bne_self_eq_false, Bool.false_eq_true, eq_self, if_true, if_false]
  simp (disch := omega) only [laws_FnExactRangeOfTips.j0, if_neg big_l1, hs, hi, toIntS_ok, eqIntS_ok, Option.bind_some, bne_self_eq_false, Bool.false_eq_true, eq_self, if_true, if_false]

end Go.Proofs.Ytobffdhdpbajhaa.Pure
