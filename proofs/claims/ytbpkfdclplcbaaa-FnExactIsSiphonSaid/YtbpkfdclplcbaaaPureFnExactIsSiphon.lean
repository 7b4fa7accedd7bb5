/- The program's IsSiphon and the reference's tell the same. It holds for all inputs that the statement lets in. -/
import Derived.Test.YtbpkfdclplcbaaaLibS
import Derived.Test.YtbpkfdclplcbaaaPr12
import Derived.Test.YtbpkfdclplcbaaaPr2
namespace Go.Proofs.Ytbpkfdclplcbaaa.Pure
open Go.RowKit Go.Proofs.Ytbpkfdclplcbaaa.Pr Go.Proofs.YtbpkfdclplcbaaaW.PrintWords Go.Proofs.YtbpkfdclplcbaaaW.PrintLast
set_option linter.unusedVariables false
set_option linter.unusedSimpArgs false

theorem IsSiphon_same (z lo st fl : Int) (_w0 : (Lit.int .i64 z).wf = true) (_w1 : (Lit.int .i64 lo).wf = true) (_w2 : (Lit.int .i64 st).wf = true) (_w3 : (Lit.int .i64 fl).wf = true) : ∃ R : Bool, spec_IsSiphon.f z lo st fl = some R ∧ impl_IsSiphon.f z lo st fl = some R := by
  refine ⟨siphB z lo st fl, ?_, IsSiphon_ok z lo st fl⟩
  unfold spec_IsSiphon.f
  rw [siGood_ok, Option.bind_some]

theorem FnExactIsSiphon : ∀ (a0_0 : Int) (a0_1 : Int) (a0_2 : Int) (a0_3 : Int), (Lit.int .i64 a0_0).wf = true → (Lit.int .i64 a0_1).wf = true → (Lit.int .i64 a0_2).wf = true → (Lit.int .i64 a0_3).wf = true → laws_FnExactIsSiphon.f a0_0 a0_1 a0_2 a0_3 = some true := by
  intro a0_0 a0_1 a0_2 a0_3 w0 w1 w2 w3
  obtain ⟨R, hs, hi⟩ := IsSiphon_same a0_0 a0_1 a0_2 a0_3 w0 w1 w2 w3
  simp (disch := omega) only [laws_FnExactIsSiphon.f, hs, hi, laws_toSiphon.f, Option.bind_some, bne_self_eq_false, Bool.false_eq_true, eq_self, if_true, if_false]

end Go.Proofs.Ytbpkfdclplcbaaa.Pure
