/- Ratios: what program and reference say of one, for all numbers. -/
import Derived.Test.YtfaiegpkmohkdaaLibF
import Derived.Test.YtfaiegpkmohkdaaLibG
import Derived.Test.YtfaiegpkmohkdaaLibW
import Derived.Test.YtfaiegpkmohkdaaPr5
namespace Go.Proofs.Ytfaiegpkmohkdaa.Pure
open Go.RowKit Go.Proofs.Ytfaiegpkmohkdaa.Pr Go.Proofs.YtfaiegpkmohkdaaW.PrintWords Go.Proofs.YtfaiegpkmohkdaaW.PrintLast
set_option linter.unusedVariables false
set_option linter.unusedSimpArgs false

def goodB (n d : Int) : Bool := inR 1 1000000 d && (inR (-1000000000000) 1000000000000 n && ((Int.gcd n d : Int) == 1))
theorem goodB_get {n d : Int} (h : goodB n d = true) : 1 ≤ d ∧ d ≤ 1000000 ∧ -1000000000000 ≤ n ∧ n ≤ 1000000000000 ∧ Int.gcd n d = 1 := by
  unfold goodB at h
  rw [Bool.and_eq_true, Bool.and_eq_true, inR_iff, inR_iff, beq_iff_eq] at h
  omega
theorem leGood_ok (n d : Int) (k : Nat) (hk : 10000000000 ≤ k) : spec_leGood.f k n d = some (goodB n d) := by
  unfold spec_leGood.f goodB
  rw [l1In_okR, Option.bind_some]
  by_cases h1 : inR 1 1000000 d = true
  · have h1' := (inR_iff _ _ _).mp h1
    rw [if_pos h1, h1, Bool.true_and, l1In_okR, Option.bind_some]
    by_cases h2 : inR (-1000000000000) 1000000000000 n = true
    · have h2' := (inR_iff _ _ _).mp h2
      have eg : Int.gcd (n.natAbs : Int) d = Int.gcd n d := by unfold Int.gcd; rw [Int.natAbs_natCast]
      rw [if_pos h2, h2, Bool.true_and, abs_ok n (by omega), Option.bind_some, veCommon_ok _ _ k (by omega) (by omega) (by omega), Option.bind_some, eg]
    · rw [if_neg h2, Bool.eq_false_iff.mpr h2, Bool.false_and]
  · rw [if_neg h1, Bool.eq_false_iff.mpr h1, Bool.false_and]
theorem isLevelRatio_ok (n d : Int) (k : Nat) (hk : 10000000000 ≤ k) : impl_isLevelRatio.f k n d = some (goodB n d) := by
  unfold impl_isLevelRatio.f goodB
  rw [within_okR, Option.bind_some]
  by_cases h1 : inR 1 1000000 d = true
  · have h1' := (inR_iff _ _ _).mp h1
    rw [if_pos h1, h1, Bool.true_and, within_okR, Option.bind_some]
    by_cases h2 : inR (-1000000000000) 1000000000000 n = true
    · have h2' := (inR_iff _ _ _).mp h2
      rw [if_pos h2, h2, Bool.true_and, gcd_ok n d k (by omega) (by omega) (by omega), Option.bind_some]
    · rw [if_neg h2, Bool.eq_false_iff.mpr h2, Bool.false_and]
  · rw [if_neg h1, Bool.eq_false_iff.mpr h1, Bool.false_and]

end Go.Proofs.Ytfaiegpkmohkdaa.Pure
