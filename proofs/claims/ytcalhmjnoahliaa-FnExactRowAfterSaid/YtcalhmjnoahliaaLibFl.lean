/- Flows: what program and reference say of a list, of at most 1048576 numbers. It holds for all inputs that the statement lets in. -/
import Derived.Test.YtcalhmjnoahliaaLibA
import Derived.Test.YtcalhmjnoahliaaPr7
namespace Go.Proofs.Ytcalhmjnoahliaa.Pure
open Go.RowKit Go.Proofs.Ytcalhmjnoahliaa.Pr Go.Proofs.YtcalhmjnoahliaaW.PrintWords Go.Proofs.YtcalhmjnoahliaaW.PrintLast
set_option linter.unusedVariables false
set_option linter.unusedSimpArgs false

def flowsB (l : List Int) : Bool := decide (l.length ≤ 60) && l.all (inB 0 1000)
theorem weFlows_ok (l : List Int) (k : Nat) (hl : l.length ≤ 1048576) (hk : 2000000 ≤ k) : spec_weFlows.f k l = some (flowsB l) := by
  unfold spec_weFlows.f flowsB
  by_cases h : (l.length : Int) ≤ 60
  · rw [if_pos h, l1All_ok l 0 1000 k hl hk, Option.bind_some, decide_eq_true (by omega : l.length ≤ 60), Bool.true_and]
  · rw [if_neg h, decide_eq_false (by omega : ¬ l.length ≤ 60), Bool.false_and]
theorem AreFlows_ok (l : List Int) (hl : l.length ≤ 1048576) : impl_AreFlows.f l = some (flowsB l) := by
  unfold impl_AreFlows.f flowsB
  by_cases h : (l.length : Int) ≤ 60
  · rw [if_pos h, areWithin_ok l 0 1000 hl, Option.bind_some, decide_eq_true (by omega : l.length ≤ 60), Bool.true_and]
  · rw [if_neg h, decide_eq_false (by omega : ¬ l.length ≤ 60), Bool.false_and]
theorem flowsB_get {l : List Int} (h : flowsB l = true) : l.length ≤ 60 ∧ ∀ x ∈ l, 0 ≤ x ∧ x ≤ 1000 := by
  unfold flowsB at h
  rw [Bool.and_eq_true, List.all_eq_true, decide_eq_true_iff] at h
  exact ⟨h.1, fun x hx => (inB_iff _ _ _).mp (h.2 x hx)⟩

end Go.Proofs.Ytcalhmjnoahliaa.Pure
