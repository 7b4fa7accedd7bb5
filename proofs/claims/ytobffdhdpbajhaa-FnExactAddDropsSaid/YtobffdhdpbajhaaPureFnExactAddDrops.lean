/- The program's AddDrops and the reference's tell the same, in memory of their own, and leave the arguments. It holds for all inputs that the statement lets in. -/
import Derived.Test.YtobffdhdpbajhaaLibA
import Derived.Test.YtobffdhdpbajhaaLibC4
import Derived.Test.YtobffdhdpbajhaaLibC4D
import Derived.Test.YtobffdhdpbajhaaLibM
import Derived.Test.YtobffdhdpbajhaaPr1
import Derived.Test.YtobffdhdpbajhaaPr16
namespace Go.Proofs.Ytobffdhdpbajhaa.Pure
open Go.RowKit Go.Proofs.Ytobffdhdpbajhaa.Pr Go.Proofs.YtobffdhdpbajhaaW.PrintWords Go.Proofs.YtobffdhdpbajhaaW.PrintLast
set_option linter.unusedVariables false
set_option linter.unusedSimpArgs false

theorem AddDrops_same (a b : List Int) (n : Int) (hl : a.length ≤ 1048576) (_hb : b.length ≤ 1048576) : ∃ R : List Int × Bool, (∀ k, 4000000 ≤ k → spec_AddDrops.f k a b n = some R) ∧ (∀ k, 4000000 ≤ k → impl_AddDrops.f k a b n = some R) ∧ R.1.length ≤ 1048576 := by
  by_cases h : heldB a b = true
  · obtain ⟨g1, g2, g3⟩ := heldB_get h
    obtain ⟨c1, c2, c3⟩ := capsB_get g1
    obtain ⟨n1, n2, n3⟩ := numb_ok h
    obtain ⟨p1, p2, p3⟩ := round_pr g1
    have hz : ∀ y ∈ a, y ≠ 0 := fun y hy => by have := c3 y hy; omega
    by_cases hn : inB 0 1000000 n = true
    · have hn' := (inB_iff _ _ _).mp hn
      refine ⟨((fall ((valD a b + n) % pr a) a).1, true), fun k hk => ?_, fun k hk => ?_, ?_⟩
      · unfold spec_AddDrops.f
        obtain ⟨k, rfl⟩ : ∃ m, k = m + 1 := ⟨k - 1, by omega⟩
        rw [tbHolds_ok a b _ hl (by omega), Option.bind_some, if_pos h, tbDrops_ok, hn, Option.bind_some]
        simp only [spec_AddDrops.j0]
        rw [if_neg (by simp), tbNumber_ok a b k hl g2 (by omega), Option.bind_some, n1, w64 (by omega) (by omega), tbHeld_ok a _ k hl hz (by omega), Option.bind_some, fall_mod a _ (by omega) (by omega) c3]
      · unfold impl_AddDrops.f
        rw [areHeld_ok a b k hl (by omega), Option.bind_some, if_pos h, areDrops_ok a n hl, g1, hn, Option.bind_some, Bool.true_and, if_pos rfl, moved_ok a b n k hl h (by omega) (by omega) (by omega), Option.bind_some]
      · rw [(fall_length a _).1]; exact hl
    · refine ⟨([], false), fun k hk => ?_, fun k hk => ?_, by simp⟩
      · unfold spec_AddDrops.f
        obtain ⟨k, rfl⟩ : ∃ m, k = m + 1 := ⟨k - 1, by omega⟩
        rw [tbHolds_ok a b _ hl (by omega), Option.bind_some, if_pos h, tbDrops_ok, Bool.eq_false_iff.mpr hn, Option.bind_some]
        simp only [spec_AddDrops.j0]
        rw [if_pos (by simp)]
      · unfold impl_AddDrops.f
        rw [areHeld_ok a b k hl (by omega), Option.bind_some, if_pos h, areDrops_ok a n hl, Bool.eq_false_iff.mpr hn, Option.bind_some, Bool.and_false, if_neg (by simp)]
  · refine ⟨([], false), fun k hk => ?_, fun k hk => ?_, by simp⟩
    · unfold spec_AddDrops.f
      obtain ⟨k, rfl⟩ : ∃ m, k = m + 1 := ⟨k - 1, by omega⟩
      rw [tbHolds_ok a b _ hl (by omega), Option.bind_some, if_neg h]
      simp only [spec_AddDrops.j0]
      rw [if_pos trivial]
    · unfold impl_AddDrops.f
      rw [areHeld_ok a b k hl (by omega), Option.bind_some, if_neg h]

theorem FnExactAddDrops : laws_FnExactAddDrops.Pure := by
  intro l0 l1 a2 w0 w1 w2 w3 w4 w5 w6
  by_cases big_l0 : (l0.length : Int) > 1048576
  · refine ⟨0, ?_⟩
    unfold laws_FnExactAddDrops.f
    rw [if_pos big_l0]
  have len_l0 : l0.length ≤ 1048576 := by omega
  by_cases big_l1 : (l1.length : Int) > 1048576
  · refine ⟨0, ?_⟩
    unfold laws_FnExactAddDrops.f
    rw [if_neg big_l0, if_pos big_l1]
  have len_l1 : l1.length ≤ 1048576 := by omega
  obtain ⟨R, hs, hi, hR⟩ := AddDrops_same l0 l1 a2 len_l0 len_l1
  obtain ⟨K, hK⟩ : ∃ K, K = 4000000 := ⟨_, rfl⟩
  refine ⟨K + 9, ?_⟩
  have n1 : ∀ n : Nat, ((1 : Int) + (n : Int) < 0) = False := fun n => eq_false (by omega)
  have n2 : ∀ n m : Nat, ((1 : Int) + (n : Int) + (m : Int) < 0) = False := fun n m => eq_false (by omega)
  have n3 : ∀ n m q : Nat, ((1 : Int) + (n : Int) + (m : Int) + (q : Int) < 0) = False := fun n m q => eq_false (by omega)
  simp (disch := omega) only [laws_FnExactAddDrops.f, if_neg big_l0, if_neg big_l1, hs, hi, toIntS_ok, eqIntS_ok, markIntS_ok, heldIntS_ok, n1, n2, n3, Option.bind_some, bne_self_eq_false, Bool.false_eq_true, eq_self, if_true, if_false]
  simp (disch := omega) only [laws_FnExactAddDrops.j0, if_neg big_l0, if_neg big_l1, hs, hi, toIntS_ok, eqIntS_ok, markIntS_ok, heldIntS_ok, n1, n2, n3, Option.bind_some, bne_self_eq_false, Bool.false_eq_true, eq_self, if_true, if_false]
  simp (disch := omega) only [laws_FnExactAddDrops.j1, if_neg big_l0, if_neg big_l1, hs, hi, toIntS_ok, eqIntS_ok, markIntS_ok, heldIntS_ok, n1, n2, n3, Option.bind_some, bne_self_eq_false, Bool.false_eq_true, eq_self, if_true, if_false]
  simp (disch := omega) only [laws_FnExactAddDrops.j2, if_neg big_l0, if_neg big_l1, hs, hi, toIntS_ok, eqIntS_ok, markIntS_ok, heldIntS_ok, n1, n2, n3, Option.bind_some, bne_self_eq_false, Bool.false_eq_true, eq_self, if_true, if_false]

end Go.Proofs.Ytobffdhdpbajhaa.Pure
