/- The program's TipsOfRain and the reference's tell the same, in memory of their own, and leave the argument. It holds for all inputs that the statement lets in. -/
import Derived.Test.YtobffdhdpbajhaaLibA
import Derived.Test.YtobffdhdpbajhaaLibC4
import Derived.Test.YtobffdhdpbajhaaLibC4R
import Derived.Test.YtobffdhdpbajhaaLibM
import Derived.Test.YtobffdhdpbajhaaPr13
import Derived.Test.YtobffdhdpbajhaaPr31
namespace Go.Proofs.Ytobffdhdpbajhaa.Pure
open Go.RowKit Go.Proofs.Ytobffdhdpbajhaa.Pr Go.Proofs.YtobffdhdpbajhaaW.PrintWords Go.Proofs.YtobffdhdpbajhaaW.PrintLast
set_option linter.unusedVariables false
set_option linter.unusedSimpArgs false

theorem TipsOfRain_same (a : Int) (l : List Int) (hl : l.length ≤ 1048576) : ∃ R : List Int × Bool, (∀ k, 2000000 ≤ k → spec_TipsOfRain.f k a l = some R) ∧ (∀ k, 2000000 ≤ k → impl_TipsOfRain.f k a l = some R) ∧ R.1.length ≤ 1048576 := by
  refine ⟨if gaugeB a l = true then ((rain a 0 l).1, true) else ([], false), fun k hk => ?_, fun k hk => ?_, ?_⟩
  · unfold spec_TipsOfRain.f
    rw [tbRain_ok a l k hl hk, Option.bind_some]
    split
    · rename_i h
      rw [tbTips_ok a l k hl (by have := gaugeB_get h; omega) hk, Option.bind_some]
    · rfl
  · rw [TipsOfRain_ok a l k hl hk]
  · split
    · rw [rain_length]; exact hl
    · simp

theorem FnExactTipsOfRain : laws_FnExactTipsOfRain.Pure := by
  intro a0 l1 w0 w1 w2 w3
  by_cases big_l1 : (l1.length : Int) > 1048576
  · refine ⟨0, ?_⟩
    unfold laws_FnExactTipsOfRain.f
    rw [if_pos big_l1]
  have len_l1 : l1.length ≤ 1048576 := by omega
  obtain ⟨R, hs, hi, hR⟩ := TipsOfRain_same a0 l1 len_l1
  obtain ⟨K, hK⟩ : ∃ K, K = 4000000 := ⟨_, rfl⟩
  refine ⟨K + 9, ?_⟩
  have n1 : ∀ n : Nat, ((1 : Int) + (n : Int) < 0) = False := fun n => eq_false (by omega)
  have n2 : ∀ n m : Nat, ((1 : Int) + (n : Int) + (m : Int) < 0) = False := fun n m => eq_false (by omega)
  have n3 : ∀ n m q : Nat, ((1 : Int) + (n : Int) + (m : Int) + (q : Int) < 0) = False := fun n m q => eq_false (by omega)
  simp (disch := omega) only [laws_FnExactTipsOfRain.f, if_neg big_l1, hs, hi, toIntS_ok, eqIntS_ok, markIntS_ok, heldIntS_ok, n1, n2, n3, Option.bind_some, bne_self_eq_false, Bool.false_eq_true, eq_self, if_true, if_false]
  simp (disch := omega) only [laws_FnExactTipsOfRain.j0, if_neg big_l1, hs, hi, toIntS_ok, eqIntS_ok, markIntS_ok, heldIntS_ok, n1, n2, n3, Option.bind_some, bne_self_eq_false, Bool.false_eq_true, eq_self, if_true, if_false]
  simp (disch := omega) only [laws_FnExactTipsOfRain.j1, if_neg big_l1, hs, hi, toIntS_ok, eqIntS_ok, markIntS_ok, heldIntS_ok, n1, n2, n3, Option.bind_some, bne_self_eq_false, Bool.false_eq_true, eq_self, if_true, if_false]
  simp (disch := omega) only [laws_FnExactTipsOfRain.j2, if_neg big_l1, hs, hi, toIntS_ok, eqIntS_ok, markIntS_ok, heldIntS_ok, n1, n2, n3, Option.bind_some, bne_self_eq_false, Bool.false_eq_true, eq_self, if_true, if_false]

end Go.Proofs.Ytobffdhdpbajhaa.Pure
