/- Siphons: what program and reference say of one and of its level, for all numbers. -/
import Derived.Test.YtbpkfdclplcbaaaLibW
import Derived.Test.YtbpkfdclplcbaaaPr2
namespace Go.Proofs.Ytbpkfdclplcbaaa.Pure
open Go.RowKit Go.Proofs.Ytbpkfdclplcbaaa.Pr Go.Proofs.YtbpkfdclplcbaaaW.PrintWords Go.Proofs.YtbpkfdclplcbaaaW.PrintLast
set_option linter.unusedVariables false
set_option linter.unusedSimpArgs false

def siphB (z lo st fl : Int) : Bool := decide (1 ≤ z ∧ z ≤ 60 ∧ 0 ≤ lo ∧ lo < st ∧ st ≤ z ∧ 1 ≤ fl ∧ fl ≤ 60)
theorem siphB_get {z lo st fl : Int} (h : siphB z lo st fl = true) : 1 ≤ z ∧ z ≤ 60 ∧ 0 ≤ lo ∧ lo < st ∧ st ≤ z ∧ 1 ≤ fl ∧ fl ≤ 60 := of_decide_eq_true h
theorem inR_dec (lo hi x : Int) : inR lo hi x = decide (lo ≤ x ∧ x ≤ hi) := by
  unfold inR
  rw [Bool.eq_iff_iff]
  simp
theorem siGood_ok (z lo st fl : Int) : spec_siGood.f z lo st fl = some (siphB z lo st fl) := by
  unfold spec_siGood.f siphB
  simp only [l1In_okR, Option.bind_some, inR_dec]
  by_cases h1 : 1 ≤ z ∧ z ≤ 60
  · rw [if_pos (decide_eq_true h1), w64 (by omega) (by omega)]
    by_cases h2 : 0 ≤ lo ∧ lo ≤ z - 1
    · rw [if_pos (decide_eq_true h2), w64 (by omega) (by omega)]
      by_cases h3 : lo + 1 ≤ st ∧ st ≤ z
      · rw [if_pos (decide_eq_true h3)]
        congr 1
        rw [decide_eq_decide]
        omega
      · rw [if_neg (by rw [decide_eq_true_iff]; exact h3), decide_eq_false (by omega)]
    · rw [if_neg (by rw [decide_eq_true_iff]; exact h2), decide_eq_false (by omega)]
  · rw [if_neg (by rw [decide_eq_true_iff]; exact h1), decide_eq_false (by omega)]
theorem IsSiphon_ok (z lo st fl : Int) : impl_IsSiphon.f z lo st fl = some (siphB z lo st fl) := by
  unfold impl_IsSiphon.f siphB
  simp only [within_okR, Option.bind_some, inR_dec]
  by_cases h1 : 1 ≤ z ∧ z ≤ 60
  · rw [if_pos (decide_eq_true h1)]
    by_cases h2 : lo ≥ 0
    · rw [if_pos h2]
      by_cases h3 : lo < st
      · rw [if_pos h3]
        by_cases h4 : st ≤ z
        · rw [if_pos h4]
          congr 1
          rw [decide_eq_decide]
          omega
        · rw [if_neg h4, decide_eq_false (by omega)]
      · rw [if_neg h3, decide_eq_false (by omega)]
    · rw [if_neg h2, decide_eq_false (by omega)]
  · rw [if_neg (by rw [decide_eq_true_iff]; exact h1), decide_eq_false (by omega)]

end Go.Proofs.Ytbpkfdclplcbaaa.Pure
