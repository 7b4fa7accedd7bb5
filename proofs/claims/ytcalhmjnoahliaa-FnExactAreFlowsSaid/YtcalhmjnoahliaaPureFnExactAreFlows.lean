/- The program's AreFlows and the reference's tell the same, and the argument is left. It holds for all inputs that the statement lets in. -/
import Derived.Test.YtcalhmjnoahliaaLibA
import Derived.Test.YtcalhmjnoahliaaLibFl
import Derived.Test.YtcalhmjnoahliaaPr17
import Derived.Test.YtcalhmjnoahliaaPr7
namespace Go.Proofs.Ytcalhmjnoahliaa.Pure
open Go.RowKit Go.Proofs.Ytcalhmjnoahliaa.Pr Go.Proofs.YtcalhmjnoahliaaW.PrintWords Go.Proofs.YtcalhmjnoahliaaW.PrintLast
set_option linter.unusedVariables false
set_option linter.unusedSimpArgs false

theorem AreFlows_same (l : List Int) (hl : l.length ≤ 1048576) : ∃ R : Bool, (∀ k, 2000000 ≤ k → spec_AreFlows.f k l = some R) ∧ impl_AreFlows.f l = some R := by
  refine ⟨flowsB l, fun k hk => ?_, AreFlows_ok l hl⟩
  unfold spec_AreFlows.f
  rw [weFlows_ok l k hl hk, Option.bind_some]

theorem FnExactAreFlows : laws_FnExactAreFlows.Pure := by
  intro l0 w0 w1 w2
  by_cases big_l0 : (l0.length : Int) > 1048576
  · refine ⟨0, ?_⟩
    unfold laws_FnExactAreFlows.f
    rw [if_pos big_l0]
  have len_l0 : l0.length ≤ 1048576 := by omega
  obtain ⟨R, hs, hi⟩ := AreFlows_same l0 len_l0
  obtain ⟨K, hK⟩ : ∃ K, K = 4000000 := ⟨_, rfl⟩
  refine ⟨K + 9, ?_⟩
  simp (disch := omega) only [laws_FnExactAreFlows.f, if_neg big_l0, hs, hi, toIntS_ok, eqIntS_ok, Option.bind_some, bne_self_eq_false, Bool.false_eq_true, eq_self, if_true, if_false]

end Go.Proofs.Ytcalhmjnoahliaa.Pure
