/- The program's AreTanks and the reference's tell the same, and the argument is left. It holds for all inputs that the statement lets in. -/
import Derived.Test.YtfaiegpkmohkdaaLibTS
import Derived.Test.YtfaiegpkmohkdaaPr0
import Derived.Test.YtfaiegpkmohkdaaPr18
import Derived.Test.YtfaiegpkmohkdaaPr6
namespace Go.Proofs.Ytfaiegpkmohkdaa.Pure
open Go.RowKit Go.Proofs.Ytfaiegpkmohkdaa.Pr Go.Proofs.YtfaiegpkmohkdaaW.PrintWords Go.Proofs.YtfaiegpkmohkdaaW.PrintLast
set_option linter.unusedVariables false
set_option linter.unusedSimpArgs false

theorem AreTanks_same (l : List TL) (_w0 : l.length ≤ maxLen) (_w1 : ∀ x ∈ l, (Lit.int .i64 x.f0).wf = true ∧ (Lit.int .i64 x.f1).wf = true ∧ (Lit.int .i64 x.f2).wf = true) (hl : l.length ≤ 1048576) : ∃ R : Bool, (∀ k, 4000000 ≤ k → spec_AreTanks.f k (tconv l) = some R) ∧ impl_AreTanks.f (tconv l) = some R := by
  have hc : (tconv l).length ≤ 1048576 := by rw [tconv_length]; exact hl
  refine ⟨tanksB (tconv l), fun k hk => ?_, AreTanks_ok _ hc⟩
  unfold spec_AreTanks.f
  rw [leTanks_ok _ k hc (by omega), Option.bind_some]

theorem FnExactAreTanks : ∀ (l0 : List S23), l0.length ≤ maxLen → (∀ x ∈ l0, (Lit.int .i64 x.f0).wf = true ∧ (Lit.int .i64 x.f1).wf = true ∧ (Lit.int .i64 x.f2).wf = true) → ∃ k, laws_FnExactAreTanks.f k l0 = some true := by
  intro l0 w0 w1
  have sz := szTankS_ok l0 w0
  by_cases big : l0.length ≤ 1048576
  case neg =>
    rw [if_neg big] at sz
    refine ⟨0, ?_⟩
    unfold laws_FnExactAreTanks.f
    rw [sz, Option.bind_some, if_pos (by omega)]
  rw [if_pos big] at sz
  have lt : ((1048576 : Int) - (l0.length : Int) < 0) = False := eq_false (by omega)
  have cl : (tconv l0).length ≤ 1048576 := by rw [tconv_length]; exact big
  obtain ⟨R, hs, hi⟩ := AreTanks_same l0 w0 w1 big
  obtain ⟨K, hK⟩ : ∃ K, K = 10000000000000 := ⟨_, rfl⟩
  refine ⟨K + 9, ?_⟩
  simp (disch := omega) only [laws_FnExactAreTanks.f, hs, hi, sz, lt, toTankS_ok, eqTankS_ok, Option.bind_some, bne_self_eq_false, Bool.false_eq_true, eq_self, if_true, if_false]

end Go.Proofs.Ytfaiegpkmohkdaa.Pure
