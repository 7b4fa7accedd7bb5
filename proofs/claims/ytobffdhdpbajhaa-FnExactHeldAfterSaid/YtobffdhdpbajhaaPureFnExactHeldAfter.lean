/- The program's HeldAfter and the reference's tell the same, in memory of their own, and leave the argument. It holds for all inputs that the statement lets in. -/
import Derived.Test.YtobffdhdpbajhaaLibA
import Derived.Test.YtobffdhdpbajhaaLibC4
import Derived.Test.YtobffdhdpbajhaaLibM
import Derived.Test.YtobffdhdpbajhaaPr10
import Derived.Test.YtobffdhdpbajhaaPr2
import Derived.Test.YtobffdhdpbajhaaPr9
namespace Go.Proofs.Ytobffdhdpbajhaa.Pure
open Go.RowKit Go.Proofs.Ytobffdhdpbajhaa.Pr Go.Proofs.YtobffdhdpbajhaaW.PrintWords Go.Proofs.YtobffdhdpbajhaaW.PrintLast
set_option linter.unusedVariables false
set_option linter.unusedSimpArgs false

theorem HeldAfter_same (l : List Int) (n : Int) (hl : l.length ≤ 1048576) : ∃ R : List Int × Bool, (∀ k, 2000000 ≤ k → spec_HeldAfter.f k l n = some R) ∧ (∀ k, 2000000 ≤ k → impl_HeldAfter.f k l n = some R) ∧ R.1.length ≤ 1048576 := by
  by_cases hc : capsB l = true
  · have hz : ∀ x ∈ l, x ≠ 0 := fun x hx => by have := (capsB_get hc).2.2 x hx; omega
    refine ⟨if inB 0 1000000 n = true then ((fall n l).1, true) else ([], false), fun k hk => ?_, fun k hk => ?_, ?_⟩
    · unfold spec_HeldAfter.f
      rw [tbCaps_ok l _ hl hk, Option.bind_some, if_pos hc, tbDrops_ok, Option.bind_some]
      split
      · rw [tbHeld_ok l n k hl hz hk, Option.bind_some]
      · rfl
    · unfold impl_HeldAfter.f
      rw [areDrops_ok l n hl, hc, Option.bind_some, Bool.true_and]
      split
      · rw [fallen_ok l n k hl hz hk, Option.bind_some]
      · rfl
    · split
      · rw [(fall_length l n).1]; exact hl
      · simp
  · refine ⟨([], false), fun k hk => ?_, fun k hk => ?_, by simp⟩
    · unfold spec_HeldAfter.f
      rw [tbCaps_ok l _ hl hk, Option.bind_some, if_neg hc]
    · unfold impl_HeldAfter.f
      rw [areDrops_ok l n hl, Bool.eq_false_iff.mpr hc, Bool.false_and, Option.bind_some, if_neg (by simp)]

theorem FnExactHeldAfter : laws_FnExactHeldAfter.Pure := by
  intro l0 a1 w0 w1 w2 w3
  by_cases big_l0 : (l0.length : Int) > 1048576
  · refine ⟨0, ?_⟩
    unfold laws_FnExactHeldAfter.f
    rw [if_pos big_l0]
  have len_l0 : l0.length ≤ 1048576 := by omega
  obtain ⟨R, hs, hi, hR⟩ := HeldAfter_same l0 a1 len_l0
  obtain ⟨K, hK⟩ : ∃ K, K = 4000000 := ⟨_, rfl⟩
  refine ⟨K + 9, ?_⟩
  have n1 : ∀ n : Nat, ((1 : Int) + (n : Int) < 0) = False := fun n => eq_false (by omega)
  have n2 : ∀ n m : Nat, ((1 : Int) + (n : Int) + (m : Int) < 0) = False := fun n m => eq_false (by omega)
  have n3 : ∀ n m q : Nat, ((1 : Int) + (n : Int) + (m : Int) + (q : Int) < 0) = False := fun n m q => eq_false (by omega)
  simp (disch := omega) only [laws_FnExactHeldAfter.f, if_neg big_l0, hs, hi, toIntS_ok, eqIntS_ok, markIntS_ok, heldIntS_ok, n1, n2, n3, Option.bind_some, bne_self_eq_false, Bool.false_eq_true, eq_self, if_true, if_false]
  simp (disch := omega) only [laws_FnExactHeldAfter.j0, if_neg big_l0, hs, hi, toIntS_ok, eqIntS_ok, markIntS_ok, heldIntS_ok, n1, n2, n3, Option.bind_some, bne_self_eq_false, Bool.false_eq_true, eq_self, if_true, if_false]
  simp (disch := omega) only [laws_FnExactHeldAfter.j1, if_neg big_l0, hs, hi, toIntS_ok, eqIntS_ok, markIntS_ok, heldIntS_ok, n1, n2, n3, Option.bind_some, bne_self_eq_false, Bool.false_eq_true, eq_self, if_true, if_false]
  simp (disch := omega) only [laws_FnExactHeldAfter.j2, if_neg big_l0, hs, hi, toIntS_ok, eqIntS_ok, markIntS_ok, heldIntS_ok, n1, n2, n3, Option.bind_some, bne_self_eq_false, Bool.false_eq_true, eq_self, if_true, if_false]

end Go.Proofs.Ytobffdhdpbajhaa.Pure
