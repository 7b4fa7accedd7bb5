/- The program's TipsAfter and the reference's tell the same, in memory of their own, and leave the argument. It holds for all inputs that the statement lets in. -/
import Derived.Test.YtobffdhdpbajhaaLibA
import Derived.Test.YtobffdhdpbajhaaLibC4
import Derived.Test.YtobffdhdpbajhaaLibM
import Derived.Test.YtobffdhdpbajhaaPr1
import Derived.Test.YtobffdhdpbajhaaPr29
namespace Go.Proofs.Ytobffdhdpbajhaa.Pure
open Go.RowKit Go.Proofs.Ytobffdhdpbajhaa.Pr Go.Proofs.YtobffdhdpbajhaaW.PrintWords Go.Proofs.YtobffdhdpbajhaaW.PrintLast
set_option linter.unusedVariables false
set_option linter.unusedSimpArgs false

theorem spec_TipsAfter_l0 (l : List Int) (hl : l.length ≤ 1048576) (hc : ∀ x ∈ l, x ≠ 0) : ∀ (d k : Nat) (n : Int) (acc : List Int) (j : Nat), l.length - j = d → d < k → acc.length ≤ j →
    spec_TipsAfter.l0 k n acc l (l.length : Int) (j : Int) = some (acc ++ (fall n (l.drop j)).2, true) := by
  intro d
  induction d with
  | zero =>
    intro k n acc j hd hk ha
    obtain ⟨k, rfl⟩ : ∃ m, k = m + 1 := ⟨k - 1, by omega⟩
    simp only [spec_TipsAfter.l0]
    rw [if_neg (by omega), drop_all l j (by omega)]
    simp [fall]
  | succ d ih =>
    intro k n acc j hd hk ha
    obtain ⟨k, rfl⟩ : ∃ m, k = m + 1 := ⟨k - 1, by omega⟩
    simp only [spec_TipsAfter.l0]
    rw [if_pos (by omega), if_pos (by omega), if_pos (by omega), if_neg (hc _ (rd_mem l j (by omega))), if_pos (by omega), w64 (i := (j : Int) + 1) (by omega) (by omega), drop_rd l j (by omega)]
    have := ih k (wrap64 (Int.tdiv n (rd l j))) (acc ++ [wrap64 (Int.tdiv n (rd l j))]) (j + 1) (by omega) (by omega) (by simp; omega)
    rw [show (j : Int) + 1 = ((j + 1 : Nat) : Int) by omega, this, fall]
    simp
theorem TipsAfter_same (l : List Int) (n : Int) (hl : l.length ≤ 1048576) : ∃ R : List Int × Bool, (∀ k, 2000000 ≤ k → spec_TipsAfter.f k l n = some R) ∧ (∀ k, 2000000 ≤ k → impl_TipsAfter.f k l n = some R) ∧ R.1.length ≤ 1048576 := by
  by_cases hc : capsB l = true
  · have hz : ∀ x ∈ l, x ≠ 0 := fun x hx => by have := (capsB_get hc).2.2 x hx; omega
    refine ⟨if inB 0 1000000 n = true then ((fall n l).2, true) else ([], false), fun k hk => ?_, fun k hk => ?_, ?_⟩
    · unfold spec_TipsAfter.f
      obtain ⟨k, rfl⟩ : ∃ m, k = m + 1 := ⟨k - 1, by omega⟩
      rw [tbCaps_ok l _ hl hk, Option.bind_some, if_pos hc, tbDrops_ok, Option.bind_some]
      simp only [spec_TipsAfter.j0]
      by_cases hn : inB 0 1000000 n = true
      · rw [hn, if_neg (by simp), if_pos rfl]
        have := spec_TipsAfter_l0 l hl hz l.length k n [] 0 (by omega) (by omega) (by simp)
        simpa using this
      · rw [Bool.eq_false_iff.mpr hn, if_pos (by simp), if_neg (by simp)]
    · unfold impl_TipsAfter.f
      rw [areDrops_ok l n hl, hc, Option.bind_some, Bool.true_and]
      split
      · rw [fallen_ok l n k hl hz hk, Option.bind_some]
      · rfl
    · split
      · rw [(fall_length l n).2]; exact hl
      · simp
  · refine ⟨([], false), fun k hk => ?_, fun k hk => ?_, by simp⟩
    · unfold spec_TipsAfter.f
      obtain ⟨k, rfl⟩ : ∃ m, k = m + 1 := ⟨k - 1, by omega⟩
      rw [tbCaps_ok l _ hl hk, Option.bind_some, if_neg hc]
      simp only [spec_TipsAfter.j0]
      rw [if_pos trivial]
    · unfold impl_TipsAfter.f
      rw [areDrops_ok l n hl, Bool.eq_false_iff.mpr hc, Bool.false_and, Option.bind_some, if_neg (by simp)]

theorem FnExactTipsAfter : laws_FnExactTipsAfter.Pure := by
  intro l0 a1 w0 w1 w2 w3
  by_cases big_l0 : (l0.length : Int) > 1048576
  · refine ⟨0, ?_⟩
    unfold laws_FnExactTipsAfter.f
    rw [if_pos big_l0]
  have len_l0 : l0.length ≤ 1048576 := by omega
  obtain ⟨R, hs, hi, hR⟩ := TipsAfter_same l0 a1 len_l0
  obtain ⟨K, hK⟩ : ∃ K, K = 4000000 := ⟨_, rfl⟩
  refine ⟨K + 9, ?_⟩
  have n1 : ∀ n : Nat, ((1 : Int) + (n : Int) < 0) = False := fun n => eq_false (by omega)
  have n2 : ∀ n m : Nat, ((1 : Int) + (n : Int) + (m : Int) < 0) = False := fun n m => eq_false (by omega)
  have n3 : ∀ n m q : Nat, ((1 : Int) + (n : Int) + (m : Int) + (q : Int) < 0) = False := fun n m q => eq_false (by omega)
  simp (disch := omega) only [laws_FnExactTipsAfter.f, if_neg big_l0, hs, hi, toIntS_ok, eqIntS_ok, markIntS_ok, heldIntS_ok, n1, n2, n3, Option.bind_some, bne_self_eq_false, Bool.false_eq_true, eq_self, if_true, if_false]
  simp (disch := omega) only [laws_FnExactTipsAfter.j0, if_neg big_l0, hs, hi, toIntS_ok, eqIntS_ok, markIntS_ok, heldIntS_ok, n1, n2, n3, Option.bind_some, bne_self_eq_false, Bool.false_eq_true, eq_self, if_true, if_false]
  simp (disch := omega) only [laws_FnExactTipsAfter.j1, if_neg big_l0, hs, hi, toIntS_ok, eqIntS_ok, markIntS_ok, heldIntS_ok, n1, n2, n3, Option.bind_some, bne_self_eq_false, Bool.false_eq_true, eq_self, if_true, if_false]
  simp (disch := omega) only [laws_FnExactTipsAfter.j2, if_neg big_l0, hs, hi, toIntS_ok, eqIntS_ok, markIntS_ok, heldIntS_ok, n1, n2, n3, Option.bind_some, bne_self_eq_false, Bool.false_eq_true, eq_self, if_true, if_false]

end Go.Proofs.Ytobffdhdpbajhaa.Pure
