/- The program's FirstRun and the reference's tell the same. It holds for all inputs that the statement lets in. -/
import Derived.Test.YtbpkfdclplcbaaaLibS
import Derived.Test.YtbpkfdclplcbaaaLibW
import Derived.Test.YtbpkfdclplcbaaaPr11
import Derived.Test.YtbpkfdclplcbaaaPr2
import Derived.Test.YtbpkfdclplcbaaaPr3
import Derived.Test.YtbpkfdclplcbaaaPr5
namespace Go.Proofs.Ytbpkfdclplcbaaa.Pure
open Go.RowKit Go.Proofs.Ytbpkfdclplcbaaa.Pr Go.Proofs.YtbpkfdclplcbaaaW.PrintWords Go.Proofs.YtbpkfdclplcbaaaW.PrintLast
set_option linter.unusedVariables false
set_option linter.unusedSimpArgs false

theorem FirstRun_same (z lo st fl x : Int) (_w0 : (Lit.int .i64 z).wf = true) (_w1 : (Lit.int .i64 lo).wf = true) (_w2 : (Lit.int .i64 st).wf = true) (_w3 : (Lit.int .i64 fl).wf = true) (_w4 : (Lit.int .i64 x).wf = true) : ∃ R : Int × Bool, spec_FirstRun.f z lo st fl x = some R ∧ impl_FirstRun.f z lo st fl x = some R := by
  by_cases h : siphB z lo st fl = true
  · by_cases hx : 1 ≤ x ∧ x ≤ 60
    · refine ⟨(wrap64 (Int.tdiv (wrap64 ((wrap64 (st + x)) - 1)) x), true), ?_, ?_⟩
      · unfold spec_FirstRun.f spec_siSteady.f spec_siInflow.f
        rw [siGood_ok, Option.bind_some, if_pos h, l1In_okR, inR_dec, decide_eq_true (by omega : 0 ≤ x ∧ x ≤ 60), Option.bind_some, Option.bind_some, Option.bind_some, if_pos rfl, if_neg (by omega)]
      · unfold impl_FirstRun.f
        rw [IsSiphon_ok, Option.bind_some, if_pos h, within_okR, inR_dec, decide_eq_true hx, Option.bind_some, if_pos rfl, if_neg (by omega)]
    · refine ⟨(0, false), ?_, ?_⟩
      · unfold spec_FirstRun.f spec_siSteady.f spec_siInflow.f
        rw [siGood_ok, Option.bind_some, if_pos h, l1In_okR, inR_dec, Option.bind_some, Option.bind_some, Option.bind_some]
        by_cases h0 : 0 ≤ x ∧ x ≤ 60
        · rw [if_pos (decide_eq_true h0), if_pos (by omega)]
        · rw [if_neg (by rw [decide_eq_true_iff]; exact h0)]
      · unfold impl_FirstRun.f
        rw [IsSiphon_ok, Option.bind_some, if_pos h, within_okR, inR_dec, decide_eq_false hx, Option.bind_some, if_neg (by simp)]
  · refine ⟨(0, false), ?_, ?_⟩
    · unfold spec_FirstRun.f spec_siSteady.f
      rw [siGood_ok, Option.bind_some, if_neg h, Option.bind_some, if_neg (by simp)]
    · unfold impl_FirstRun.f
      rw [IsSiphon_ok, Option.bind_some, if_neg h]

theorem FnExactFirstRun : ∀ (a0_0 : Int) (a0_1 : Int) (a0_2 : Int) (a0_3 : Int) (a1 : Int), (Lit.int .i64 a0_0).wf = true → (Lit.int .i64 a0_1).wf = true → (Lit.int .i64 a0_2).wf = true → (Lit.int .i64 a0_3).wf = true → (Lit.int .i64 a1).wf = true → laws_FnExactFirstRun.f a0_0 a0_1 a0_2 a0_3 a1 = some true := by
  intro a0_0 a0_1 a0_2 a0_3 a1 w0 w1 w2 w3 w4
  obtain ⟨R, hs, hi⟩ := FirstRun_same a0_0 a0_1 a0_2 a0_3 a1 w0 w1 w2 w3 w4
  simp (disch := omega) only [laws_FnExactFirstRun.f, hs, hi, laws_toSiphon.f, Option.bind_some, bne_self_eq_false, Bool.false_eq_true, eq_self, if_true, if_false]

end Go.Proofs.Ytbpkfdclplcbaaa.Pure
