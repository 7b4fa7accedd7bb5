/- The program's RunningTotals and the reference's tell the same, in memory of their own, and leave the argument. It holds for all inputs that the statement lets in. -/
import Derived.Test.YtcalhmjnoahliaaLibA
import Derived.Test.YtcalhmjnoahliaaLibFl
import Derived.Test.YtcalhmjnoahliaaLibM
import Derived.Test.YtcalhmjnoahliaaLibW
import Derived.Test.YtcalhmjnoahliaaPr28
namespace Go.Proofs.Ytcalhmjnoahliaa.Pure
open Go.RowKit Go.Proofs.Ytcalhmjnoahliaa.Pr Go.Proofs.YtcalhmjnoahliaaW.PrintWords Go.Proofs.YtcalhmjnoahliaaW.PrintLast
set_option linter.unusedVariables false
set_option linter.unusedSimpArgs false

def sums (s : Int) : List Int → List Int
  | [] => []
  | x :: xs => wrap64 (s + x) :: sums (wrap64 (s + x)) xs
theorem sums_length : ∀ (l : List Int) (s : Int), (sums s l).length = l.length
  | [], _ => rfl
  | x :: xs, s => by simp only [sums, List.length_cons, sums_length xs]
theorem spec_sums_l0 (l : List Int) (hl : l.length ≤ 1048576) : ∀ (d k : Nat) (s : Int) (acc : List Int) (j : Nat), l.length - j = d → d < k → acc.length ≤ j → spec_RunningTotals.l0 k acc s l (l.length : Int) (j : Int) = some (acc ++ sums s (l.drop j), true) := by
  intro d
  induction d with
  | zero =>
    intro k s acc j hd hk ha
    obtain ⟨k, rfl⟩ : ∃ m, k = m + 1 := ⟨k - 1, by omega⟩
    simp only [spec_RunningTotals.l0]
    rw [if_neg (by omega), drop_all l j (by omega)]
    simp [sums]
  | succ d ih =>
    intro k s acc j hd hk ha
    obtain ⟨k, rfl⟩ : ∃ m, k = m + 1 := ⟨k - 1, by omega⟩
    simp only [spec_RunningTotals.l0]
    rw [if_pos (by omega), if_pos (by omega), if_pos (by omega), if_pos (by omega), w64 (i := (j : Int) + 1) (by omega) (by omega), drop_rd l j (by omega)]
    have := ih k (wrap64 (s + rd l j)) (acc ++ [wrap64 (s + rd l j)]) (j + 1) (by omega) (by omega) (by simp; omega)
    rw [show (j : Int) + 1 = ((j + 1 : Nat) : Int) by omega, this, sums]
    simp
theorem impl_sums_l0 (l : List Int) (hl : l.length ≤ 1048576) : ∀ (d k : Nat) (s : Int) (acc : List Int) (j : Nat), l.length - j = d → d < k → acc.length ≤ j → impl_RunningTotals.l0 k acc s l (l.length : Int) (j : Int) = some (acc ++ sums s (l.drop j), true) := by
  intro d
  induction d with
  | zero =>
    intro k s acc j hd hk ha
    obtain ⟨k, rfl⟩ : ∃ m, k = m + 1 := ⟨k - 1, by omega⟩
    simp only [impl_RunningTotals.l0]
    rw [if_neg (by omega), drop_all l j (by omega)]
    simp [sums]
  | succ d ih =>
    intro k s acc j hd hk ha
    obtain ⟨k, rfl⟩ : ∃ m, k = m + 1 := ⟨k - 1, by omega⟩
    simp only [impl_RunningTotals.l0]
    rw [if_pos (by omega), if_pos (by omega), if_pos (by omega), if_pos (by omega), w64 (i := (j : Int) + 1) (by omega) (by omega), drop_rd l j (by omega)]
    have := ih k (wrap64 (s + rd l j)) (acc ++ [wrap64 (s + rd l j)]) (j + 1) (by omega) (by omega) (by simp; omega)
    rw [show (j : Int) + 1 = ((j + 1 : Nat) : Int) by omega, this, sums]
    simp
theorem RunningTotals_same (l : List Int) (hl : l.length ≤ 1048576) : ∃ R : List Int × Bool, (∀ k, 2000000 ≤ k → spec_RunningTotals.f k l = some R) ∧ (∀ k, 2000000 ≤ k → impl_RunningTotals.f k l = some R) ∧ R.1.length ≤ 1048576 := by
  refine ⟨if flowsB l = true then (sums 0 l, true) else ([], false), fun k hk => ?_, fun k hk => ?_, ?_⟩
  · unfold spec_RunningTotals.f
    rw [weFlows_ok l k hl hk, Option.bind_some]
    split
    · have := spec_sums_l0 l hl l.length k 0 [] 0 (by omega) (by omega) (by simp)
      simpa using this
    · rfl
  · unfold impl_RunningTotals.f
    rw [AreFlows_ok l hl, Option.bind_some]
    split
    · have := impl_sums_l0 l hl l.length k 0 [] 0 (by omega) (by omega) (by simp)
      simpa using this
    · rfl
  · split
    · rw [sums_length]; exact hl
    · simp

theorem FnExactRunningTotals : laws_FnExactRunningTotals.Pure := by
  intro l0 w0 w1 w2
  by_cases big_l0 : (l0.length : Int) > 1048576
  · refine ⟨0, ?_⟩
    unfold laws_FnExactRunningTotals.f
    rw [if_pos big_l0]
  have len_l0 : l0.length ≤ 1048576 := by omega
  obtain ⟨R, hs, hi, hR⟩ := RunningTotals_same l0 len_l0
  obtain ⟨K, hK⟩ : ∃ K, K = 4000000 := ⟨_, rfl⟩
  refine ⟨K + 9, ?_⟩
  have n1 : ∀ n : Nat, ((1 : Int) + (n : Int) < 0) = False := fun n => eq_false (by omega)
  have n2 : ∀ n m : Nat, ((1 : Int) + (n : Int) + (m : Int) < 0) = False := fun n m => eq_false (by omega)
  have n3 : ∀ n m q : Nat, ((1 : Int) + (n : Int) + (m : Int) + (q : Int) < 0) = False := fun n m q => eq_false (by omega)
  simp (disch := omega) only [laws_FnExactRunningTotals.f, if_neg big_l0, hs, hi, toIntS_ok, eqIntS_ok, markIntS_ok, heldIntS_ok, n1, n2, n3, Option.bind_some, bne_self_eq_false, Bool.false_eq_true, eq_self, if_true, if_false]
  simp (disch := omega) only [laws_FnExactRunningTotals.j0, if_neg big_l0, hs, hi, toIntS_ok, eqIntS_ok, markIntS_ok, heldIntS_ok, n1, n2, n3, Option.bind_some, bne_self_eq_false, Bool.false_eq_true, eq_self, if_true, if_false]
  simp (disch := omega) only [laws_FnExactRunningTotals.j1, if_neg big_l0, hs, hi, toIntS_ok, eqIntS_ok, markIntS_ok, heldIntS_ok, n1, n2, n3, Option.bind_some, bne_self_eq_false, Bool.false_eq_true, eq_self, if_true, if_false]
  simp (disch := omega) only [laws_FnExactRunningTotals.j2, if_neg big_l0, hs, hi, toIntS_ok, eqIntS_ok, markIntS_ok, heldIntS_ok, n1, n2, n3, Option.bind_some, bne_self_eq_false, Bool.false_eq_true, eq_self, if_true, if_false]

end Go.Proofs.Ytcalhmjnoahliaa.Pure
