/- The program's DropsFor and the reference's tell the same, arguments and all. It holds for all inputs that the statement lets in. -/
import Derived.Test.YtobffdhdpbajhaaLibA
import Derived.Test.YtobffdhdpbajhaaLibC4
import Derived.Test.YtobffdhdpbajhaaPr20
namespace Go.Proofs.Ytobffdhdpbajhaa.Pure
open Go.RowKit Go.Proofs.Ytobffdhdpbajhaa.Pr Go.Proofs.YtobffdhdpbajhaaW.PrintWords Go.Proofs.YtobffdhdpbajhaaW.PrintLast
set_option linter.unusedVariables false
set_option linter.unusedSimpArgs false

theorem DropsFor_same (a b : List Int) (ha : a.length ≤ 1048576) (_hb : b.length ≤ 1048576) : ∃ R : Int × Bool, (∀ k, 2000000 ≤ k → spec_DropsFor.f k a b = some R) ∧ (∀ k, 2000000 ≤ k → impl_DropsFor.f k a b = some R) := by
  refine ⟨if heldB a b = true then (numb a b a.length 0, true) else (0, false), fun k hk => ?_, fun k hk => ?_⟩
  · unfold spec_DropsFor.f
    rw [tbHolds_ok a b k ha hk, Option.bind_some]
    split
    · rename_i h
      rw [tbNumber_ok a b k ha (heldB_get h).2.1 hk, Option.bind_some]
    · rfl
  · unfold impl_DropsFor.f
    rw [areHeld_ok a b k ha hk, Option.bind_some]
    split
    · rename_i h
      rw [dropsFor_ok a b k ha (heldB_get h).2.1 hk, Option.bind_some]
    · rfl

theorem FnExactDropsFor : laws_FnExactDropsFor.Pure := by
  intro l0 l1 w0 w1 w2 w3 w4 w5
  by_cases big_l0 : (l0.length : Int) > 1048576
  · refine ⟨0, ?_⟩
    unfold laws_FnExactDropsFor.f
    rw [if_pos big_l0]
  have len_l0 : l0.length ≤ 1048576 := by omega
  by_cases big_l1 : (l1.length : Int) > 1048576
  · refine ⟨0, ?_⟩
    unfold laws_FnExactDropsFor.f
    rw [if_neg big_l0, if_pos big_l1]
  have len_l1 : l1.length ≤ 1048576 := by omega
  obtain ⟨R, hs, hi⟩ := DropsFor_same l0 l1 len_l0 len_l1
  obtain ⟨K, hK⟩ : ∃ K, K = 4000000 := ⟨_, rfl⟩
  refine ⟨K + 9, ?_⟩
  simp (disch := omega) only [laws_FnExactDropsFor.f, if_neg big_l0, if_neg big_l1, hs, hi, toIntS_ok, eqIntS_ok, Option.bind_some, bne_self_eq_false, Bool.false_eq_true, eq_self, if_true, if_false]
  simp (disch := omega) only [laws_FnExactDropsFor.j0, if_neg big_l0, if_neg big_l1, hs, hi, toIntS_ok, eqIntS_ok, Option.bind_some, bne_self_eq_false, Bool.false_eq_true, eq_self, if_true, if_false]

end Go.Proofs.Ytobffdhdpbajhaa.Pure
