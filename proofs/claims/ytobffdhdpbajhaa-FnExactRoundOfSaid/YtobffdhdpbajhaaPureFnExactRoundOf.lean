/- The program's RoundOf and the reference's tell the same, argument and all. It holds for all inputs that the statement lets in. -/
import Derived.Test.YtobffdhdpbajhaaLibA
import Derived.Test.YtobffdhdpbajhaaLibC4
import Derived.Test.YtobffdhdpbajhaaPr28
namespace Go.Proofs.Ytobffdhdpbajhaa.Pure
open Go.RowKit Go.Proofs.Ytobffdhdpbajhaa.Pr Go.Proofs.YtobffdhdpbajhaaW.PrintWords Go.Proofs.YtobffdhdpbajhaaW.PrintLast
set_option linter.unusedVariables false
set_option linter.unusedSimpArgs false

theorem RoundOf_same (l : List Int) (hl : l.length ≤ 1048576) : ∃ R : Int × Bool, (∀ k, 2000000 ≤ k → spec_RoundOf.f k l = some R) ∧ (∀ k, 2000000 ≤ k → impl_RoundOf.f k l = some R) := by
  refine ⟨if capsB l = true then (wprod 1 l, true) else (0, false), fun k hk => ?_, fun k hk => ?_⟩
  · unfold spec_RoundOf.f
    rw [tbCaps_ok l k hl hk, Option.bind_some]
    split
    · rw [tbRound_ok l k hl hk, Option.bind_some]
    · rfl
  · unfold impl_RoundOf.f
    rw [AreCaps_ok l hl, Option.bind_some]
    split
    · rw [round_ok l k hl hk, Option.bind_some]
    · rfl

theorem FnExactRoundOf : laws_FnExactRoundOf.Pure := by
  intro l0 w0 w1 w2
  by_cases big_l0 : (l0.length : Int) > 1048576
  · refine ⟨0, ?_⟩
    unfold laws_FnExactRoundOf.f
    rw [if_pos big_l0]
  have len_l0 : l0.length ≤ 1048576 := by omega
  obtain ⟨R, hs, hi⟩ := RoundOf_same l0 len_l0
  obtain ⟨K, hK⟩ : ∃ K, K = 4000000 := ⟨_, rfl⟩
  refine ⟨K + 9, ?_⟩
  simp (disch := omega) only [laws_FnExactRoundOf.f, if_neg big_l0, hs, hi, toIntS_ok, eqIntS_ok, Option.bind_some, bne_self_eq_false, Bool.false_eq_true, eq_self, if_true, if_false]
  simp (disch := omega) only [laws_FnExactRoundOf.j0, if_neg big_l0, hs, hi, toIntS_ok, eqIntS_ok, Option.bind_some, bne_self_eq_false, Bool.false_eq_true, eq_self, if_true, if_false]

end Go.Proofs.Ytobffdhdpbajhaa.Pure
