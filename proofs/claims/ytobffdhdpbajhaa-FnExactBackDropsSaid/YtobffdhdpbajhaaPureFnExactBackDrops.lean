/- The program's BackDrops and the reference's tell the same, in memory of their own, and leave the arguments. It holds for all inputs that the statement lets in. -/
import Derived.Test.YtobffdhdpbajhaaLibA
import Derived.Test.YtobffdhdpbajhaaLibC4
import Derived.Test.YtobffdhdpbajhaaLibC4D
import Derived.Test.YtobffdhdpbajhaaLibM
import Derived.Test.YtobffdhdpbajhaaPr1
import Derived.Test.YtobffdhdpbajhaaPr18
import Derived.Test.YtobffdhdpbajhaaPr19
namespace Go.Proofs.Ytobffdhdpbajhaa.Pure
open Go.RowKit Go.Proofs.Ytobffdhdpbajhaa.Pr Go.Proofs.YtobffdhdpbajhaaW.PrintWords Go.Proofs.YtobffdhdpbajhaaW.PrintLast
set_option linter.unusedVariables false
set_option linter.unusedSimpArgs false

theorem BackDrops_same (a b : List Int) (n : Int) (hl : a.length ≤ 1048576) (_hb : b.length ≤ 1048576) : ∃ R : List Int × Bool, (∀ k, 4000000 ≤ k → spec_BackDrops.f k a b n = some R) ∧ (∀ k, 4000000 ≤ k → impl_BackDrops.f k a b n = some R) ∧ R.1.length ≤ 1048576 := by
  by_cases h : heldB a b = true
  · obtain ⟨g1, g2, g3⟩ := heldB_get h
    obtain ⟨c1, c2, c3⟩ := capsB_get g1
    obtain ⟨n1, n2, n3⟩ := numb_ok h
    obtain ⟨p1, p2, p3⟩ := round_pr g1
    have hz : ∀ y ∈ a, y ≠ 0 := fun y hy => by have := c3 y hy; omega
    by_cases hn : inB 0 1000000 n = true
    · have hn' := (inB_iff _ _ _).mp hn
      have hm0 := Int.emod_nonneg n (show pr a ≠ 0 by omega)
      have hm1 := Int.emod_lt_of_pos n (show 0 < pr a by omega)
      have e : (valD a b + pr a - n % pr a) % pr a = (valD a b + -n) % pr a := by
        have h1 := Int.mul_ediv_add_emod n (pr a)
        have h2 : valD a b + pr a - n % pr a = valD a b + -n + pr a * (n / pr a + 1) := by rw [Int.mul_add, Int.mul_one]; omega
        rw [h2, Int.add_mul_emod_self_left]
      refine ⟨((fall ((valD a b + -n) % pr a) a).1, true), fun k hk => ?_, fun k hk => ?_, ?_⟩
      · unfold spec_BackDrops.f
        obtain ⟨k, rfl⟩ : ∃ m, k = m + 1 := ⟨k - 1, by omega⟩
        rw [tbHolds_ok a b _ hl (by omega), Option.bind_some, if_pos h, tbDrops_ok, hn, Option.bind_some]
        simp only [spec_BackDrops.j0]
        rw [if_neg (by simp), tbRound_ok a k hl (by omega), Option.bind_some, tbNumber_ok a b k hl g2 (by omega), Option.bind_some, n1, p1, if_neg (by omega), Int.tmod_eq_emod_of_nonneg (by omega),
          w64 (i := valD a b + pr a) (by omega) (by omega), w64 (by omega) (by omega), tbHeld_ok a _ k hl hz (by omega), Option.bind_some, fall_mod a _ (by omega) (by omega) c3, e]
      · unfold impl_BackDrops.f
        rw [areHeld_ok a b k hl (by omega), Option.bind_some, if_pos h, areDrops_ok a n hl, g1, hn, Option.bind_some, Bool.true_and, if_pos rfl, w64 (by omega) (by omega), moved_ok a b (-n) k hl h (by omega) (by omega) (by omega), Option.bind_some]
      · rw [(fall_length a _).1]; exact hl
    · refine ⟨([], false), fun k hk => ?_, fun k hk => ?_, by simp⟩
      · unfold spec_BackDrops.f
        obtain ⟨k, rfl⟩ : ∃ m, k = m + 1 := ⟨k - 1, by omega⟩
        rw [tbHolds_ok a b _ hl (by omega), Option.bind_some, if_pos h, tbDrops_ok, Bool.eq_false_iff.mpr hn, Option.bind_some]
        simp only [spec_BackDrops.j0]
        rw [if_pos (by simp)]
      · unfold impl_BackDrops.f
        rw [areHeld_ok a b k hl (by omega), Option.bind_some, if_pos h, areDrops_ok a n hl, Bool.eq_false_iff.mpr hn, Option.bind_some, Bool.and_false, if_neg (by simp)]
  · refine ⟨([], false), fun k hk => ?_, fun k hk => ?_, by simp⟩
    · unfold spec_BackDrops.f
      obtain ⟨k, rfl⟩ : ∃ m, k = m + 1 := ⟨k - 1, by omega⟩
      rw [tbHolds_ok a b _ hl (by omega), Option.bind_some, if_neg h]
      simp only [spec_BackDrops.j0]
      rw [if_pos trivial]
    · unfold impl_BackDrops.f
      rw [areHeld_ok a b k hl (by omega), Option.bind_some, if_neg h]

theorem FnExactBackDrops : laws_FnExactBackDrops.Pure := by
  intro l0 l1 a2 w0 w1 w2 w3 w4 w5 w6
  by_cases big_l0 : (l0.length : Int) > 1048576
  · refine ⟨0, ?_⟩
    unfold laws_FnExactBackDrops.f
    rw [if_pos big_l0]
  have len_l0 : l0.length ≤ 1048576 := by omega
  by_cases big_l1 : (l1.length : Int) > 1048576
  · refine ⟨0, ?_⟩
    unfold laws_FnExactBackDrops.f
    rw [if_neg big_l0, if_pos big_l1]
  have len_l1 : l1.length ≤ 1048576 := by omega
  obtain ⟨R, hs, hi, hR⟩ := BackDrops_same l0 l1 a2 len_l0 len_l1
  obtain ⟨K, hK⟩ : ∃ K, K = 4000000 := ⟨_, rfl⟩
  refine ⟨K + 9, ?_⟩
  have n1 : ∀ n : Nat, ((1 : Int) + (n : Int) < 0) = False := fun n => eq_false (by omega)
  have n2 : ∀ n m : Nat, ((1 : Int) + (n : Int) + (m : Int) < 0) = False := fun n m => eq_false (by omega)
  have n3 : ∀ n m q : Nat, ((1 : Int) + (n : Int) + (m : Int) + (q : Int) < 0) = False := fun n m q => eq_false (by omega)
  simp (disch := omega) only [laws_FnExactBackDrops.f, if_neg big_l0, if_neg big_l1, hs, hi, toIntS_ok, eqIntS_ok, markIntS_ok, heldIntS_ok, n1, n2, n3, Option.bind_some, bne_self_eq_false, Bool.false_eq_true, eq_self, if_true, if_false]
  simp (disch := omega) only [laws_FnExactBackDrops.j0, if_neg big_l0, if_neg big_l1, hs, hi, toIntS_ok, eqIntS_ok, markIntS_ok, heldIntS_ok, n1, n2, n3, Option.bind_some, bne_self_eq_false, Bool.false_eq_true, eq_self, if_true, if_false]
  simp (disch := omega) only [laws_FnExactBackDrops.j1, if_neg big_l0, if_neg big_l1, hs, hi, toIntS_ok, eqIntS_ok, markIntS_ok, heldIntS_ok, n1, n2, n3, Option.bind_some, bne_self_eq_false, Bool.false_eq_true, eq_self, if_true, if_false]
  simp (disch := omega) only [laws_FnExactBackDrops.j2, if_neg big_l0, if_neg big_l1, hs, hi, toIntS_ok, eqIntS_ok, markIntS_ok, heldIntS_ok, n1, n2, n3, Option.bind_some, bne_self_eq_false, Bool.false_eq_true, eq_self, if_true, if_false]

end Go.Proofs.Ytobffdhdpbajhaa.Pure
