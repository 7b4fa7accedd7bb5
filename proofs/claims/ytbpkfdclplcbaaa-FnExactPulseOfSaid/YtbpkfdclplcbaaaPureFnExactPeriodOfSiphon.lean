/- The program's PeriodOfSiphon and the reference's tell the same. It holds for all inputs. -/
import Derived.Test.YtbpkfdclplcbaaaLibS
import Derived.Test.YtbpkfdclplcbaaaLibSt
import Derived.Test.YtbpkfdclplcbaaaLibSu
import Derived.Test.YtbpkfdclplcbaaaLibW
import Derived.Test.YtbpkfdclplcbaaaPr2
import Derived.Test.YtbpkfdclplcbaaaPr20
import Derived.Test.YtbpkfdclplcbaaaPr3
import Derived.Test.YtbpkfdclplcbaaaPr5
namespace Go.Proofs.Ytbpkfdclplcbaaa.Pure
open Go.RowKit Go.Proofs.Ytbpkfdclplcbaaa.Pr Go.Proofs.YtbpkfdclplcbaaaW.PrintWords Go.Proofs.YtbpkfdclplcbaaaW.PrintLast
set_option linter.unusedVariables false
set_option linter.unusedSimpArgs false

theorem siSteady_ok (z lo st fl x : Int) : spec_siSteady.f z lo st fl x = some (siphB z lo st fl && inR 0 60 x) := by
  unfold spec_siSteady.f spec_siInflow.f
  rw [siGood_ok, Option.bind_some]
  by_cases hs : siphB z lo st fl = true
  · rw [if_pos hs, l1In_okR, Option.bind_some, Option.bind_some, hs, Bool.true_and]
  · rw [if_neg hs]
    simp [hs]
theorem PeriodOfSiphon_same (z lo st fl x : Int) (_w0 : (Lit.int .i64 z).wf = true) (_w1 : (Lit.int .i64 lo).wf = true) (_w2 : (Lit.int .i64 st).wf = true) (_w3 : (Lit.int .i64 fl).wf = true) (_w4 : (Lit.int .i64 x).wf = true) : ∃ R : Int × Int × Bool, (∀ k, 30000 ≤ k → spec_PeriodOfSiphon.f k z lo st fl x = some R) ∧ (∀ k, 30000 ≤ k → impl_PeriodOfSiphon.f k z lo st fl x = some R) := by
  by_cases h : (siphB z lo st fl && inR 0 60 x) = true
  · have h' := h
    rw [Bool.and_eq_true] at h
    have hx := (inR_iff _ _ _).1 h.2
    obtain ⟨k0, n0, M⟩ := meet_ex h.1 hx.1 hx.2
    have hle := M.le
    have hlt := M.lt
    refine ⟨((k0 : Int), (n0 : Int) - (k0 : Int), true), fun k hk => ?_, fun k hk => ?_⟩
    · unfold spec_PeriodOfSiphon.f
      rw [siSteady_ok, Option.bind_some, if_pos h', siMeet_ok h.1 hx.1 hx.2 M k hk, Option.bind_some]
    · unfold impl_PeriodOfSiphon.f
      rw [steadyF_yes h.1 h.2 M k (by omega), Option.bind_some, if_pos rfl]
      have hl : (lvO z lo st fl x n0).length = n0 := by simp [lvO]
      simp only []
      rw [hl, w64 (by omega) (by omega)]
  · have h2 : (siphB z lo st fl && inR 0 60 x) = false := by simpa using h
    refine ⟨(0, 0, false), fun k hk => ?_, fun k hk => ?_⟩
    · unfold spec_PeriodOfSiphon.f
      rw [siSteady_ok, Option.bind_some, if_neg h]
    · unfold impl_PeriodOfSiphon.f
      rw [steadyF_no h2 k (by omega), Option.bind_some, if_neg (by simp)]

theorem FnExactPeriodOfSiphon : ∀ (a0_0 : Int) (a0_1 : Int) (a0_2 : Int) (a0_3 : Int) (a1 : Int), (Lit.int .i64 a0_0).wf = true → (Lit.int .i64 a0_1).wf = true → (Lit.int .i64 a0_2).wf = true → (Lit.int .i64 a0_3).wf = true → (Lit.int .i64 a1).wf = true → ∃ k, laws_FnExactPeriodOfSiphon.f k a0_0 a0_1 a0_2 a0_3 a1 = some true := by
  intro a0_0 a0_1 a0_2 a0_3 a1 w0 w1 w2 w3 w4
  obtain ⟨R, hs, hi⟩ := PeriodOfSiphon_same a0_0 a0_1 a0_2 a0_3 a1 w0 w1 w2 w3 w4
  obtain ⟨K, hK⟩ : ∃ K, K = 10000000000000 := ⟨_, rfl⟩
  refine ⟨K + 9, ?_⟩
  simp (disch := omega) only [laws_FnExactPeriodOfSiphon.f, hs, hi, laws_toSiphon.f, Option.bind_some, bne_self_eq_false, Bool.false_eq_true, eq_self, if_true, if_false]

end Go.Proofs.Ytbpkfdclplcbaaa.Pure
