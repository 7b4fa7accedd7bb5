/- The program's IsMove and the reference's tell the same, and the arguments are left. It holds for all inputs that the statement lets in. -/
import Derived.Test.YtjebielaficopaaLibV
import Derived.Test.YtjebielaficopaaPr10
import Derived.Test.YtjebielaficopaaPr3
import Derived.Test.YtjebielaficopaaPr9
namespace Go.Proofs.Ytjebielaficopaa.Pure
open Go.RowKit Go.Proofs.Ytjebielaficopaa.Pr Go.Proofs.YtjebielaficopaaW.PrintWords Go.Proofs.YtjebielaficopaaW.PrintLast
set_option linter.unusedVariables false
set_option linter.unusedSimpArgs false

theorem IsMove_same (s h : List Int) (a b : Int) (_w0 : s.length ≤ maxLen) (_w1 : ∀ x ∈ s, (Lit.int .i64 x).wf = true) (_w2 : h.length ≤ maxLen) (_w3 : ∀ x ∈ h, (Lit.int .i64 x).wf = true) (_w4 : (Lit.int .i64 a).wf = true) (_w5 : (Lit.int .i64 b).wf = true) (hs : s.length ≤ 1048576) (hh : h.length ≤ 1048576) : ∃ R : Bool × Bool, (∀ k, 4000000 ≤ k → spec_IsMove.f k s h a b = some R) ∧ (∀ k, 4000000 ≤ k → impl_IsMove.f k s h a b = some R) := by
  refine ⟨if vesB s h = true then (moveB (s.length : Int) a b, true) else (false, false), fun k hk => ?_, fun k hk => ?_⟩
  · unfold spec_IsMove.f
    rw [veGood_ok s h k hs hh hk, Option.bind_some]
    split
    · rw [veMove_ok _ a b (by omega) (by omega), Option.bind_some]
    · rfl
  · unfold impl_IsMove.f
    rw [AreVessels_ok s h k hs hh hk, Option.bind_some]
    split
    · rw [isMove_ok _ a b (by omega) (by omega), Option.bind_some]
    · rfl

theorem FnExactIsMove : ∀ (l0_0 : List Int) (l0_1 : List Int) (a1_0 : Int) (a1_1 : Int), l0_0.length ≤ maxLen → (∀ x ∈ l0_0, (Lit.int .i64 x).wf = true) → l0_1.length ≤ maxLen → (∀ x ∈ l0_1, (Lit.int .i64 x).wf = true) → (Lit.int .i64 a1_0).wf = true → (Lit.int .i64 a1_1).wf = true → ∃ k, laws_FnExactIsMove.f k l0_0 l0_1 a1_0 a1_1 = some true := by
  intro l0_0 l0_1 a1_0 a1_1 w0 w1 w2 w3 w4 w5
  have sz := szV l0_0 l0_1 w0 w2
  by_cases big : l0_0.length + l0_1.length ≤ 1048576
  case neg =>
    rw [if_neg big] at sz
    refine ⟨0, ?_⟩
    unfold laws_FnExactIsMove.f
    rw [sz, Option.bind_some, if_pos (by omega)]
  rw [if_pos big] at sz
  have lt : ((1048576 : Int) - (l0_0.length : Int) - (l0_1.length : Int) < 0) = False := eq_false (by omega)
  obtain ⟨R, hs, hi⟩ := IsMove_same l0_0 l0_1 a1_0 a1_1 w0 w1 w2 w3 w4 w5 (by omega) (by omega)
  obtain ⟨K, hK⟩ : ∃ K, K = 10000000000000 := ⟨_, rfl⟩
  refine ⟨K + 9, ?_⟩
  simp (disch := omega) only [laws_FnExactIsMove.f, hs, hi, sz, lt, toV_ok, eqV_ok, laws_toMove.f, Option.bind_some, bne_self_eq_false, Bool.false_eq_true, eq_self, if_true, if_false]
  simp (disch := omega) only [laws_FnExactIsMove.j0, hs, hi, sz, lt, toV_ok, eqV_ok, laws_toMove.f, Option.bind_some, bne_self_eq_false, Bool.false_eq_true, eq_self, if_true, if_false]

end Go.Proofs.Ytjebielaficopaa.Pure
