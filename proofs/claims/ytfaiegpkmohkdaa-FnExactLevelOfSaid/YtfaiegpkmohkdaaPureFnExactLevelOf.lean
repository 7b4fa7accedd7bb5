/- The program's LevelOf and the reference's tell the same. It holds for all inputs that the statement lets in. -/
import Derived.Test.YtfaiegpkmohkdaaLibF
import Derived.Test.YtfaiegpkmohkdaaLibT
import Derived.Test.YtfaiegpkmohkdaaPr14
import Derived.Test.YtfaiegpkmohkdaaPr2
import Derived.Test.YtfaiegpkmohkdaaPr3
namespace Go.Proofs.Ytfaiegpkmohkdaa.Pure
open Go.RowKit Go.Proofs.Ytfaiegpkmohkdaa.Pr Go.Proofs.YtfaiegpkmohkdaaW.PrintWords Go.Proofs.YtfaiegpkmohkdaaW.PrintLast
set_option linter.unusedVariables false
set_option linter.unusedSimpArgs false

theorem LevelOf_same (a f w : Int) (_ha : (Lit.int .i64 a).wf = true) (_hf : (Lit.int .i64 f).wf = true) (_hw : (Lit.int .i64 w).wf = true) : ∃ R : Int × Int × Bool, (∀ k, 10000000000 ≤ k → spec_LevelOf.f k a f w = some R) ∧ (∀ k, 10000000000 ≤ k → impl_LevelOf.f k a f w = some R) := by
  refine ⟨if tankB a f w = true then ((red (cont a f w) a).1, (red (cont a f w) a).2, true) else (0, 0, false), fun k hk => ?_, fun k hk => ?_⟩
  · unfold spec_LevelOf.f
    rw [leTank_ok, Option.bind_some]
    split
    · rename_i h
      rw [leLevel_ok k h hk, Option.bind_some]
    · rfl
  · unfold impl_LevelOf.f
    rw [IsTank_ok, Option.bind_some]
    split
    · rename_i h
      rw [level_ok k h hk, Option.bind_some]
    · rfl

theorem FnExactLevelOf : ∀ (a0_0 : Int) (a0_1 : Int) (a0_2 : Int), (Lit.int .i64 a0_0).wf = true → (Lit.int .i64 a0_1).wf = true → (Lit.int .i64 a0_2).wf = true → ∃ k, laws_FnExactLevelOf.f k a0_0 a0_1 a0_2 = some true := by
  intro a0_0 a0_1 a0_2 w0 w1 w2
  obtain ⟨R, hs, hi⟩ := LevelOf_same a0_0 a0_1 a0_2 w0 w1 w2
  obtain ⟨K, hK⟩ : ∃ K, K = 10000000000000 := ⟨_, rfl⟩
  refine ⟨K + 9, ?_⟩
  simp (disch := omega) only [laws_FnExactLevelOf.f, hs, hi, laws_toTank.f, laws_eqRatio.f, Option.bind_some, bne_self_eq_false, Bool.false_eq_true, eq_self, if_true, if_false]

end Go.Proofs.Ytfaiegpkmohkdaa.Pure
