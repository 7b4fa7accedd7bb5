/- The program's CapacityOf and the reference's tell the same. It holds for all inputs that the statement lets in. -/
import Derived.Test.YtbpkfdclplcbaaaLibS
import Derived.Test.YtbpkfdclplcbaaaPr2
import Derived.Test.YtbpkfdclplcbaaaPr9
namespace Go.Proofs.Ytbpkfdclplcbaaa.Pure
open Go.RowKit Go.Proofs.Ytbpkfdclplcbaaa.Pr Go.Proofs.YtbpkfdclplcbaaaW.PrintWords Go.Proofs.YtbpkfdclplcbaaaW.PrintLast
set_option linter.unusedVariables false
set_option linter.unusedSimpArgs false

theorem CapacityOf_same (z lo st fl : Int) (_w0 : (Lit.int .i64 z).wf = true) (_w1 : (Lit.int .i64 lo).wf = true) (_w2 : (Lit.int .i64 st).wf = true) (_w3 : (Lit.int .i64 fl).wf = true) : ∃ R : Int × Bool, spec_CapacityOf.f z lo st fl = some R ∧ impl_CapacityOf.f z lo st fl = some R := by
  refine ⟨if siphB z lo st fl = true then (wrap64 (st - lo), true) else (0, false), ?_, ?_⟩
  · unfold spec_CapacityOf.f
    rw [siGood_ok, Option.bind_some]
    split <;> rfl
  · unfold impl_CapacityOf.f
    rw [IsSiphon_ok, Option.bind_some]
    split <;> rfl

theorem FnExactCapacityOf : ∀ (a0_0 : Int) (a0_1 : Int) (a0_2 : Int) (a0_3 : Int), (Lit.int .i64 a0_0).wf = true → (Lit.int .i64 a0_1).wf = true → (Lit.int .i64 a0_2).wf = true → (Lit.int .i64 a0_3).wf = true → laws_FnExactCapacityOf.f a0_0 a0_1 a0_2 a0_3 = some true := by
  intro a0_0 a0_1 a0_2 a0_3 w0 w1 w2 w3
  obtain ⟨R, hs, hi⟩ := CapacityOf_same a0_0 a0_1 a0_2 a0_3 w0 w1 w2 w3
  simp (disch := omega) only [laws_FnExactCapacityOf.f, hs, hi, laws_toSiphon.f, Option.bind_some, bne_self_eq_false, Bool.false_eq_true, eq_self, if_true, if_false]

end Go.Proofs.Ytbpkfdclplcbaaa.Pure
