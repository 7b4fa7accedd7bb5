/- Bounds: what the small tests on bounds say. No condition but those that each names. -/
import Derived.Test.YtbpkfdclplcbaaaPr2
namespace Go.Proofs.Ytbpkfdclplcbaaa.Pure
open Go.RowKit Go.Proofs.Ytbpkfdclplcbaaa.Pr Go.Proofs.YtbpkfdclplcbaaaW.PrintWords Go.Proofs.YtbpkfdclplcbaaaW.PrintLast
set_option linter.unusedVariables false
set_option linter.unusedSimpArgs false

theorem w64 {i : Int} (h0 : -9223372036854775808 ≤ i) (h1 : i ≤ 9223372036854775807) : wrap64 i = i := by
  unfold wrap64
  omega
def inR (lo hi x : Int) : Bool := decide (lo ≤ x) && decide (x ≤ hi)
theorem inR_iff (x lo hi : Int) : inR lo hi x = true ↔ lo ≤ x ∧ x ≤ hi := by simp [inR]
theorem l1In_okR (x lo hi : Int) : spec_l1In.f x lo hi = some (inR lo hi x) := by
  unfold spec_l1In.f inR
  by_cases h : x ≥ lo
  · rw [if_pos h]
    have : lo ≤ x := h
    simp [this]
  · rw [if_neg h]
    have : ¬ lo ≤ x := h
    simp [this]
theorem within_okR (x lo hi : Int) : impl_within.f x lo hi = some (inR lo hi x) := by
  unfold impl_within.f inR
  by_cases h : lo ≤ x <;> simp [h]

end Go.Proofs.Ytbpkfdclplcbaaa.Pure
