/- The program's PulseOf and the reference's tell the same. It holds for all inputs. -/
import Derived.Test.YtbpkfdclplcbaaaLibE
import Derived.Test.YtbpkfdclplcbaaaLibS
import Derived.Test.YtbpkfdclplcbaaaLibSt
import Derived.Test.YtbpkfdclplcbaaaLibSu
import Derived.Test.YtbpkfdclplcbaaaLibSv
import Derived.Test.YtbpkfdclplcbaaaLibW
import Derived.Test.YtbpkfdclplcbaaaPr2
import Derived.Test.YtbpkfdclplcbaaaPr21
import Derived.Test.YtbpkfdclplcbaaaPr22
import Derived.Test.YtbpkfdclplcbaaaPureFnExactPeriodOfSiphon
namespace Go.Proofs.Ytbpkfdclplcbaaa.Pure
open Go.RowKit Go.Proofs.Ytbpkfdclplcbaaa.Pr Go.Proofs.YtbpkfdclplcbaaaW.PrintWords Go.Proofs.YtbpkfdclplcbaaaW.PrintLast
set_option linter.unusedVariables false
set_option linter.unusedSimpArgs false

theorem PulseOf_same (z lo st fl x : Int) (_w0 : (Lit.int .i64 z).wf = true) (_w1 : (Lit.int .i64 lo).wf = true) (_w2 : (Lit.int .i64 st).wf = true) (_w3 : (Lit.int .i64 fl).wf = true) (_w4 : (Lit.int .i64 x).wf = true) : ∃ R : List Int × Bool, (∀ k, 30000 ≤ k → spec_PulseOf.f k z lo st fl x = some R) ∧ (∀ k, 30000 ≤ k → impl_PulseOf.f k z lo st fl x = some R) ∧ R.1.length ≤ 1048576 := by
  by_cases h : (siphB z lo st fl && inR 0 60 x) = true
  · have h' := h
    rw [Bool.and_eq_true] at h
    have hx := (inR_iff _ _ _).1 h.2
    obtain ⟨k0, n0, M⟩ := meet_ex h.1 hx.1 hx.2
    have hle := M.le
    have hlt := M.lt
    have hp : (puO z lo st fl x n0 (n0 - k0)).length = n0 - k0 := by simp [puO]
    refine ⟨(puO z lo st fl x n0 (n0 - k0), true), fun k hk => ?_, fun k hk => ?_, by show (puO z lo st fl x n0 (n0 - k0)).length ≤ 1048576; omega⟩
    · unfold spec_PulseOf.f
      rw [siSteady_ok, Option.bind_some, if_pos h', siPulse_ok h.1 hx.1 hx.2 M k hk, Option.bind_some]
    · unfold impl_PulseOf.f
      rw [steadyF_yes h.1 h.2 M k (by omega), Option.bind_some, if_pos rfl]
      have hl : (lvO z lo st fl x n0).length = n0 := by simp [lvO]
      have hd : (lvO z lo st fl x n0).drop k0 = puO z lo st fl x n0 (n0 - k0) := (puO_drop M).symm
      simp only []
      rw [hl, if_pos (by omega), if_pos (by omega), Int.toNat_natCast, hd]
      unfold slices_Clone_int_int.f
      rw [if_pos (by omega), Option.bind_some]
  · have h2 : (siphB z lo st fl && inR 0 60 x) = false := by simpa using h
    refine ⟨([], false), fun k hk => ?_, fun k hk => ?_, by simp⟩
    · unfold spec_PulseOf.f
      rw [siSteady_ok, Option.bind_some, if_neg h]
    · unfold impl_PulseOf.f
      rw [steadyF_no h2 k (by omega), Option.bind_some, if_neg (by simp)]

theorem FnExactPulseOf : ∀ (a0_0 : Int) (a0_1 : Int) (a0_2 : Int) (a0_3 : Int) (a1 : Int), (Lit.int .i64 a0_0).wf = true → (Lit.int .i64 a0_1).wf = true → (Lit.int .i64 a0_2).wf = true → (Lit.int .i64 a0_3).wf = true → (Lit.int .i64 a1).wf = true → ∃ k, laws_FnExactPulseOf.f k a0_0 a0_1 a0_2 a0_3 a1 = some true := by
  intro a0_0 a0_1 a0_2 a0_3 a1 w0 w1 w2 w3 w4
  obtain ⟨R, hs, hi, hR⟩ := PulseOf_same a0_0 a0_1 a0_2 a0_3 a1 w0 w1 w2 w3 w4
  obtain ⟨K, hK⟩ : ∃ K, K = 10000000000000 := ⟨_, rfl⟩
  refine ⟨K + 9, ?_⟩
  have n1 : ∀ n : Nat, ((1 : Int) + (n : Int) < 0) = False := fun n => eq_false (by omega)
  have n2 : ∀ n m : Nat, ((1 : Int) + (n : Int) + (m : Int) < 0) = False := fun n m => eq_false (by omega)
  have n3 : ∀ n m q : Nat, ((1 : Int) + (n : Int) + (m : Int) + (q : Int) < 0) = False := fun n m q => eq_false (by omega)
  simp (disch := omega) only [laws_FnExactPulseOf.f, hs, hi, laws_toSiphon.f, eqIntS_okE, markIntS_okE, heldIntS_okE, n1, n2, n3, Option.bind_some, bne_self_eq_false, Bool.false_eq_true, eq_self, if_true, if_false]
  simp (disch := omega) only [laws_FnExactPulseOf.j0, hs, hi, laws_toSiphon.f, eqIntS_okE, markIntS_okE, heldIntS_okE, n1, n2, n3, Option.bind_some, bne_self_eq_false, Bool.false_eq_true, eq_self, if_true, if_false]
  simp (disch := omega) only [laws_FnExactPulseOf.j1, hs, hi, laws_toSiphon.f, eqIntS_okE, markIntS_okE, heldIntS_okE, n1, n2, n3, Option.bind_some, bne_self_eq_false, Bool.false_eq_true, eq_self, if_true, if_false]

end Go.Proofs.Ytbpkfdclplcbaaa.Pure
