/- The program's HeldInRow and the reference's tell the same, and the argument is left. It holds for all inputs that the statement lets in. -/
import Derived.Test.YtcalhmjnoahliaaLibBH
import Derived.Test.YtcalhmjnoahliaaLibBS
import Derived.Test.YtcalhmjnoahliaaPr0
import Derived.Test.YtcalhmjnoahliaaPr20
namespace Go.Proofs.Ytcalhmjnoahliaa.Pure
open Go.RowKit Go.Proofs.Ytcalhmjnoahliaa.Pr Go.Proofs.YtcalhmjnoahliaaW.PrintWords Go.Proofs.YtcalhmjnoahliaaW.PrintLast
set_option linter.unusedVariables false
set_option linter.unusedSimpArgs false

theorem HeldInRow_same (l : List BL) (_w0 : l.length ≤ maxLen) (_w1 : ∀ x ∈ l, (Lit.int .i64 x.f0).wf = true ∧ (Lit.int .i64 x.f1).wf = true ∧ (Lit.int .i64 x.f2).wf = true) (hl : l.length ≤ 1048576) : ∃ R : Int × Bool, (∀ k, 4000000 ≤ k → spec_HeldInRow.f k (bconv l) = some R) ∧ (∀ k, 4000000 ≤ k → impl_HeldInRow.f k (bconv l) = some R) := by
  have hc : (bconv l).length ≤ 1048576 := by rw [bconv_length]; exact hl
  refine ⟨if rowB (bconv l) = true then (bsum 0 (bconv l), true) else (0, false), fun k hk => ?_, fun k hk => ?_⟩
  · unfold spec_HeldInRow.f
    rw [weRow_ok _ k hc (by omega), Option.bind_some]
    split
    · rw [weHeld_ok _ k hc (by omega), Option.bind_some]
    · rfl
  · unfold impl_HeldInRow.f
    rw [IsRow_ok _ hc, Option.bind_some]
    split
    · rw [heldIn_ok _ k hc (by omega), Option.bind_some]
    · rfl

theorem FnExactHeldInRow : ∀ (l0 : List S61), l0.length ≤ maxLen → (∀ x ∈ l0, (Lit.int .i64 x.f0).wf = true ∧ (Lit.int .i64 x.f1).wf = true ∧ (Lit.int .i64 x.f2).wf = true) → ∃ k, laws_FnExactHeldInRow.f k l0 = some true := by
  intro l0 w0 w1
  have sz := szBasinS_ok l0 w0
  by_cases big : l0.length ≤ 1048576
  case neg =>
    rw [if_neg big] at sz
    refine ⟨0, ?_⟩
    unfold laws_FnExactHeldInRow.f
    rw [sz, Option.bind_some, if_pos (by omega)]
  rw [if_pos big] at sz
  have lt : ((1048576 : Int) - (l0.length : Int) < 0) = False := eq_false (by omega)
  have cl : (bconv l0).length ≤ 1048576 := by rw [bconv_length]; exact big
  obtain ⟨R, hs, hi⟩ := HeldInRow_same l0 w0 w1 big
  obtain ⟨K, hK⟩ : ∃ K, K = 10000000000000 := ⟨_, rfl⟩
  refine ⟨K + 9, ?_⟩
  simp (disch := omega) only [laws_FnExactHeldInRow.f, hs, hi, sz, lt, toBasinS_ok, eqBasinS_ok, Option.bind_some, bne_self_eq_false, Bool.false_eq_true, eq_self, if_true, if_false]
  simp (disch := omega) only [laws_FnExactHeldInRow.j0, hs, hi, sz, lt, toBasinS_ok, eqBasinS_ok, Option.bind_some, bne_self_eq_false, Bool.false_eq_true, eq_self, if_true, if_false]

end Go.Proofs.Ytcalhmjnoahliaa.Pure
