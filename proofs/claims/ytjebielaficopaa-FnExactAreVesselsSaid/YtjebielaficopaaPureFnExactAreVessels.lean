/- The program's AreVessels and the reference's tell the same, and the argument is left. It holds for all inputs that the statement lets in. -/
import Derived.Test.YtjebielaficopaaLibV
import Derived.Test.YtjebielaficopaaPr2
import Derived.Test.YtjebielaficopaaPr7
namespace Go.Proofs.Ytjebielaficopaa.Pure
open Go.RowKit Go.Proofs.Ytjebielaficopaa.Pr Go.Proofs.YtjebielaficopaaW.PrintWords Go.Proofs.YtjebielaficopaaW.PrintLast
set_option linter.unusedVariables false
set_option linter.unusedSimpArgs false

theorem AreVessels_same (s h : List Int) (_w0 : s.length ≤ maxLen) (_w1 : ∀ x ∈ s, (Lit.int .i64 x).wf = true) (_w2 : h.length ≤ maxLen) (_w3 : ∀ x ∈ h, (Lit.int .i64 x).wf = true) (hs : s.length ≤ 1048576) (hh : h.length ≤ 1048576) : ∃ R : Bool, (∀ k, 4000000 ≤ k → spec_AreVessels.f k s h = some R) ∧ (∀ k, 4000000 ≤ k → impl_AreVessels.f k s h = some R) := by
  refine ⟨vesB s h, fun k hk => ?_, fun k hk => AreVessels_ok s h k hs hh hk⟩
  unfold spec_AreVessels.f
  rw [veGood_ok s h k hs hh hk, Option.bind_some]

theorem FnExactAreVessels : ∀ (l0_0 : List Int) (l0_1 : List Int), l0_0.length ≤ maxLen → (∀ x ∈ l0_0, (Lit.int .i64 x).wf = true) → l0_1.length ≤ maxLen → (∀ x ∈ l0_1, (Lit.int .i64 x).wf = true) → ∃ k, laws_FnExactAreVessels.f k l0_0 l0_1 = some true := by
  intro l0_0 l0_1 w0 w1 w2 w3
  have sz := szV l0_0 l0_1 w0 w2
  by_cases big : l0_0.length + l0_1.length ≤ 1048576
  case neg =>
    rw [if_neg big] at sz
    refine ⟨0, ?_⟩
    unfold laws_FnExactAreVessels.f
    rw [sz, Option.bind_some, if_pos (by omega)]
  rw [if_pos big] at sz
  have lt : ((1048576 : Int) - (l0_0.length : Int) - (l0_1.length : Int) < 0) = False := eq_false (by omega)
  obtain ⟨R, hs, hi⟩ := AreVessels_same l0_0 l0_1 w0 w1 w2 w3 (by omega) (by omega)
  obtain ⟨K, hK⟩ : ∃ K, K = 10000000000000 := ⟨_, rfl⟩
  refine ⟨K + 9, ?_⟩
  simp (disch := omega) only [laws_FnExactAreVessels.f, hs, hi, sz, lt, toV_ok, eqV_ok, Option.bind_some, bne_self_eq_false, Bool.false_eq_true, eq_self, if_true, if_false]

end Go.Proofs.Ytjebielaficopaa.Pure
