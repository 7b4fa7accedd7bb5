/- The program's IsTank and the reference's tell the same. It holds for all inputs that the statement lets in. -/
import Derived.Test.YtfaiegpkmohkdaaLibT
import Derived.Test.YtfaiegpkmohkdaaPr13
import Derived.Test.YtfaiegpkmohkdaaPr2
namespace Go.Proofs.Ytfaiegpkmohkdaa.Pure
open Go.RowKit Go.Proofs.Ytfaiegpkmohkdaa.Pr Go.Proofs.YtfaiegpkmohkdaaW.PrintWords Go.Proofs.YtfaiegpkmohkdaaW.PrintLast
set_option linter.unusedVariables false
set_option linter.unusedSimpArgs false

theorem IsTank_same (a f w : Int) (_ha : (Lit.int .i64 a).wf = true) (_hf : (Lit.int .i64 f).wf = true) (_hw : (Lit.int .i64 w).wf = true) : ∃ R : Bool, spec_IsTank.f a f w = some R ∧ impl_IsTank.f a f w = some R := by
  refine ⟨tankB a f w, ?_, IsTank_ok a f w⟩
  unfold spec_IsTank.f
  rw [leTank_ok, Option.bind_some]

theorem FnExactIsTank : ∀ (a0_0 : Int) (a0_1 : Int) (a0_2 : Int), (Lit.int .i64 a0_0).wf = true → (Lit.int .i64 a0_1).wf = true → (Lit.int .i64 a0_2).wf = true → laws_FnExactIsTank.f a0_0 a0_1 a0_2 = some true := by
  intro a0_0 a0_1 a0_2 w0 w1 w2
  obtain ⟨R, hs, hi⟩ := IsTank_same a0_0 a0_1 a0_2 w0 w1 w2
  simp (disch := omega) only [laws_FnExactIsTank.f, hs, hi, laws_toTank.f, Option.bind_some, bne_self_eq_false, Bool.false_eq_true, eq_self, if_true, if_false]

end Go.Proofs.Ytfaiegpkmohkdaa.Pure
