/- The program's RainOfTips and the reference's tell the same, in memory of their own, and leave the argument. It holds for all inputs that the statement lets in. -/
import Derived.Test.YtobffdhdpbajhaaLibA
import Derived.Test.YtobffdhdpbajhaaLibC4
import Derived.Test.YtobffdhdpbajhaaLibM
import Derived.Test.YtobffdhdpbajhaaPr10
import Derived.Test.YtobffdhdpbajhaaPr11
import Derived.Test.YtobffdhdpbajhaaPr2
namespace Go.Proofs.Ytobffdhdpbajhaa.Pure
open Go.RowKit Go.Proofs.Ytobffdhdpbajhaa.Pr Go.Proofs.YtobffdhdpbajhaaW.PrintWords Go.Proofs.YtobffdhdpbajhaaW.PrintLast
set_option linter.unusedVariables false
set_option linter.unusedSimpArgs false

def scaled (a : Int) (l : List Int) : List Int := l.map (fun x => wrap64 (x * a))
theorem spec_RainOfTips_l0 (a : Int) (l : List Int) (hl : l.length ≤ 1048576) : ∀ (d k : Nat) (acc : List Int) (j : Nat), l.length - j = d → 2000000 + d < k → acc.length ≤ j → j ≤ 1048576 →
    spec_RainOfTips.l0 k a acc l (l.length : Int) (j : Int) = some (if (acc ++ scaled a (l.drop j)).all (inB 0 10000) = true then (acc ++ scaled a (l.drop j), true) else ([], false)) := by
  intro d
  induction d with
  | zero =>
    intro k acc j hd hk ha hj
    obtain ⟨k, rfl⟩ : ∃ m, k = m + 1 := ⟨k - 1, by omega⟩
    simp only [spec_RainOfTips.l0]
    rw [if_neg (by omega), drop_all l j (by omega), l1All_ok _ _ _ k (by omega) (by omega), Option.bind_some]
    simp only [scaled, List.map_nil, List.append_nil]
    split <;> rfl
  | succ d ih =>
    intro k acc j hd hk ha hj
    obtain ⟨k, rfl⟩ : ∃ m, k = m + 1 := ⟨k - 1, by omega⟩
    simp only [spec_RainOfTips.l0]
    rw [if_pos (by omega), if_pos (by omega), if_pos (by omega), if_pos (by omega), w64 (i := (j : Int) + 1) (by omega) (by omega), drop_rd l j (by omega)]
    have := ih k (acc ++ [wrap64 (rd l j * a)]) (j + 1) (by omega) (by omega) (by simp; omega) (by omega)
    rw [show (j : Int) + 1 = ((j + 1 : Nat) : Int) by omega, this]
    simp [scaled]
theorem impl_RainOfTips_l0 (a : Int) (l : List Int) (hl : l.length ≤ 1048576) : ∀ (d k : Nat) (acc : List Int) (j : Nat), l.length - j = d → d < k → acc.length ≤ j → j ≤ 1048576 →
    impl_RainOfTips.l0 k a acc l (l.length : Int) (j : Int) = some (if gaugeB a (acc ++ scaled a (l.drop j)) = true then (acc ++ scaled a (l.drop j), true) else ([], false)) := by
  intro d
  induction d with
  | zero =>
    intro k acc j hd hk ha hj
    obtain ⟨k, rfl⟩ : ∃ m, k = m + 1 := ⟨k - 1, by omega⟩
    simp only [impl_RainOfTips.l0]
    rw [if_neg (by omega), drop_all l j (by omega), isGauge_ok a acc (by omega), Option.bind_some]
    simp only [scaled, List.map_nil, List.append_nil]
    split <;> rfl
  | succ d ih =>
    intro k acc j hd hk ha hj
    obtain ⟨k, rfl⟩ : ∃ m, k = m + 1 := ⟨k - 1, by omega⟩
    simp only [impl_RainOfTips.l0]
    rw [if_pos (by omega), if_pos (by omega), if_pos (by omega), if_pos (by omega), w64 (i := (j : Int) + 1) (by omega) (by omega), drop_rd l j (by omega)]
    have := ih k (acc ++ [wrap64 (rd l j * a)]) (j + 1) (by omega) (by omega) (by simp; omega) (by omega)
    rw [show (j : Int) + 1 = ((j + 1 : Nat) : Int) by omega, this]
    simp [scaled]
theorem RainOfTips_same (a : Int) (l : List Int) (hl : l.length ≤ 1048576) : ∃ R : List Int × Bool, (∀ k, 4000000 ≤ k → spec_RainOfTips.f k a l = some R) ∧ (∀ k, 4000000 ≤ k → impl_RainOfTips.f k a l = some R) ∧ R.1.length ≤ 1048576 := by
  refine ⟨if gaugeB a l = true then (if (scaled a l).all (inB 0 10000) = true then (scaled a l, true) else ([], false)) else ([], false), fun k hk => ?_, fun k hk => ?_, ?_⟩
  · unfold spec_RainOfTips.f
    rw [tbRain_ok a l k hl (by omega), Option.bind_some]
    split
    · have := spec_RainOfTips_l0 a l hl l.length k [] 0 (by omega) (by omega) (by simp) (by omega)
      simpa using this
    · rfl
  · unfold impl_RainOfTips.f
    rw [isGauge_ok a l hl, Option.bind_some]
    split
    · rename_i h
      have := impl_RainOfTips_l0 a l hl l.length k [] 0 (by omega) (by omega) (by simp) (by omega)
      have e : gaugeB a (scaled a l) = (scaled a l).all (inB 0 10000) := by
        obtain ⟨g1, g2, g3, g4⟩ := gaugeB_get h
        have e1 : inB 1 60 a = true := (inB_iff _ _ _).mpr ⟨g1, g2⟩
        have e2 : (scaled a l).length ≤ 100 := by simp [scaled]; exact g3
        unfold gaugeB
        rw [e1, decide_eq_true e2, Bool.true_and, Bool.true_and]
      rw [← e]
      simpa using this
    · rfl
  · split
    · split
      · simp [scaled]; exact hl
      · simp
    · simp

theorem FnExactRainOfTips : laws_FnExactRainOfTips.Pure := by
  intro a0 l1 w0 w1 w2 w3
  by_cases big_l1 : (l1.length : Int) > 1048576
  · refine ⟨0, ?_⟩
    unfold laws_FnExactRainOfTips.f
    rw [if_pos big_l1]
  have len_l1 : l1.length ≤ 1048576 := by omega
  obtain ⟨R, hs, hi, hR⟩ := RainOfTips_same a0 l1 len_l1
  obtain ⟨K, hK⟩ : ∃ K, K = 4000000 := ⟨_, rfl⟩
  refine ⟨K + 9, ?_⟩
  have n1 : ∀ n : Nat, ((1 : Int) + (n : Int) < 0) = False := fun n => eq_false (by omega)
  have n2 : ∀ n m : Nat, ((1 : Int) + (n : Int) + (m : Int) < 0) = False := fun n m => eq_false (by omega)
  have n3 : ∀ n m q : Nat, ((1 : Int) + (n : Int) + (m : Int) + (q : Int) < 0) = False := fun n m q => eq_false (by omega)
  simp (disch := omega) only [laws_FnExactRainOfTips.f, if_neg big_l1, hs, hi, toIntS_ok, eqIntS_ok, markIntS_ok, heldIntS_ok, n1, n2, n3, Option.bind_some, bne_self_eq_false, Bool.false_eq_true, eq_self, if_true, if_false]
  simp (disch := omega) only [laws_FnExactRainOfTips.j0, if_neg big_l1, hs, hi, toIntS_ok, eqIntS_ok, markIntS_ok, heldIntS_ok, n1, n2, n3, Option.bind_some, bne_self_eq_false, Bool.false_eq_true, eq_self, if_true, if_false]
  simp (disch := omega) only [laws_FnExactRainOfTips.j1, if_neg big_l1, hs, hi, toIntS_ok, eqIntS_ok, markIntS_ok, heldIntS_ok, n1, n2, n3, Option.bind_some, bne_self_eq_false, Bool.false_eq_true, eq_self, if_true, if_false]
  simp (disch := omega) only [laws_FnExactRainOfTips.j2, if_neg big_l1, hs, hi, toIntS_ok, eqIntS_ok, markIntS_ok, heldIntS_ok, n1, n2, n3, Option.bind_some, bne_self_eq_false, Bool.false_eq_true, eq_self, if_true, if_false]

end Go.Proofs.Ytobffdhdpbajhaa.Pure
