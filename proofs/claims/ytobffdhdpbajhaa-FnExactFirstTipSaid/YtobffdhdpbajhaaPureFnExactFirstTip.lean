/- The program's FirstTip and the reference's tell the same, arguments and all. It holds for all inputs that the statement lets in. -/
import Derived.Test.YtobffdhdpbajhaaLibA
import Derived.Test.YtobffdhdpbajhaaLibC4
import Derived.Test.YtobffdhdpbajhaaLibC4R
import Derived.Test.YtobffdhdpbajhaaPr2
import Derived.Test.YtobffdhdpbajhaaPr8
import Derived.Test.YtobffdhdpbajhaaPr9
namespace Go.Proofs.Ytobffdhdpbajhaa.Pure
open Go.RowKit Go.Proofs.Ytobffdhdpbajhaa.Pr Go.Proofs.YtobffdhdpbajhaaW.PrintWords Go.Proofs.YtobffdhdpbajhaaW.PrintLast
set_option linter.unusedVariables false
set_option linter.unusedSimpArgs false

def firstSum (a : Int) : Int → Int → List Int → Int × Bool
  | _, _, [] => (0, false)
  | i, s, x :: xs => if wrap64 (s + x) ≥ a then (wrap64 (i + 1), true) else firstSum a (i + 1) (wrap64 (s + x)) xs
theorem spec_FirstTip_l0 (a : Int) (l : List Int) (hl : l.length ≤ 1048576) : ∀ (d k : Nat) (s : Int) (j : Nat), l.length - j = d → d < k → spec_FirstTip.l0 k a s l (l.length : Int) (j : Int) = some (firstSum a (j : Int) s (l.drop j)) := by
  intro d
  induction d with
  | zero =>
    intro k s j hd hk
    obtain ⟨k, rfl⟩ : ∃ m, k = m + 1 := ⟨k - 1, by omega⟩
    simp only [spec_FirstTip.l0]
    rw [if_neg (by omega), drop_all l j (by omega)]
    rfl
  | succ d ih =>
    intro k s j hd hk
    obtain ⟨k, rfl⟩ : ∃ m, k = m + 1 := ⟨k - 1, by omega⟩
    simp only [spec_FirstTip.l0]
    rw [if_pos (by omega), if_pos (by omega), if_pos (by omega), drop_rd l j (by omega), firstSum]
    by_cases h : wrap64 (s + rd l (j : Int)) ≥ a
    · rw [if_pos h, if_pos h]
    · rw [if_neg h, if_neg h, w64 (i := (j : Int) + 1) (by omega) (by omega)]
      exact ih k _ (j + 1) (by omega) (by omega)
theorem first_tip (a : Int) (ha0 : 1 ≤ a) (ha1 : a ≤ 60) : ∀ (l : List Int) (i : Int) (s : Int), 0 ≤ i → i + (l.length : Int) ≤ 1048576 → 0 ≤ s → s < a → (∀ x ∈ l, 0 ≤ x ∧ x ≤ 10000) →
    firstSum a i s l = (if fIdx (fun x => decide (0 < x)) (rain a s l).1 i < 0 then ((0, false) : Int × Bool) else (fIdx (fun x => decide (0 < x)) (rain a s l).1 i + 1, true))
  | [], i, s, _, _, _, _, _ => by simp [firstSum, rain, fIdx]
  | x :: xs, i, s, hi, hb, h0, h1, hx => by
    have hx0 := hx x (by simp)
    simp only [List.length_cons] at hb
    have hs : wrap64 (s + x) = s + x := w64 (by omega) (by omega)
    have hd : Int.tdiv (s + x) a = (s + x) / a := Int.tdiv_eq_ediv_of_nonneg (by omega)
    have hm : Int.tmod (s + x) a = (s + x) % a := Int.tmod_eq_emod_of_nonneg (by omega)
    have hd0 : 0 ≤ (s + x) / a := Int.ediv_nonneg (by omega) (by omega)
    have hd1 : (s + x) / a ≤ s + x := Int.ediv_le_self _ (by omega)
    have hw : wrap64 ((s + x) / a) = (s + x) / a := w64 (by omega) (by omega)
    have ef : fIdx (fun x => decide (0 < x)) (rain a s (x :: xs)).1 i = if decide (0 < (s + x) / a) = true then i else fIdx (fun x => decide (0 < x)) (rain a ((s + x) % a) xs).1 (i + 1) := by
      simp only [rain, fIdx, hs, hd, hm, hw]
    rw [ef, firstSum, hs]
    by_cases h : s + x ≥ a
    · have hpos : 1 ≤ (s + x) / a := Int.le_ediv_of_mul_le (by omega) (by omega)
      rw [if_pos h, if_pos (decide_eq_true (by omega)), if_neg (by omega), w64 (by omega) (by omega)]
    · have hz : (s + x) / a = 0 := Int.ediv_eq_zero_of_lt (by omega) (by omega)
      have hmz : (s + x) % a = s + x := Int.emod_eq_of_lt (by omega) (by omega)
      rw [if_neg h, hz, hmz, if_neg (show ¬ decide ((0 : Int) < 0) = true by simp)]
      exact first_tip a ha0 ha1 xs (i + 1) (s + x) (by omega) (by omega) (by omega) (by omega) (fun y hy => hx y (by simp [hy]))
theorem FirstTip_same (a : Int) (l : List Int) (hl : l.length ≤ 1048576) : ∃ R : Int × Bool, (∀ k, 2000000 ≤ k → spec_FirstTip.f k a l = some R) ∧ (∀ k, 2000000 ≤ k → impl_FirstTip.f k a l = some R) := by
  by_cases h : gaugeB a l = true
  · obtain ⟨g1, g2, g3, g4⟩ := gaugeB_get h
    refine ⟨firstSum a 0 0 l, fun k hk => ?_, fun k hk => ?_⟩
    · unfold spec_FirstTip.f
      rw [tbRain_ok a l k hl hk, Option.bind_some, if_pos h]
      exact spec_FirstTip_l0 a l hl l.length k 0 0 (by omega) (by omega)
    · unfold impl_FirstTip.f
      rw [TipsOfRain_ok a l k hl hk, if_pos h, Option.bind_some]
      simp only [rain_length]
      rw [if_pos (by omega), impl_FirstTip.g, first_tip a g1 g2 l 0 0 (by omega) (by omega) (by omega) (by omega) g4]
  · refine ⟨(0, false), fun k hk => ?_, fun k hk => ?_⟩
    · unfold spec_FirstTip.f
      rw [tbRain_ok a l k hl hk, Option.bind_some, if_neg h]
    · unfold impl_FirstTip.f
      rw [TipsOfRain_ok a l k hl hk, if_neg h, Option.bind_some]
      simp [impl_FirstTip.g, fIdx]

theorem FnExactFirstTip : laws_FnExactFirstTip.Pure := by
  intro a0 l1 w0 w1 w2 w3
  by_cases big_l1 : (l1.length : Int) > 1048576
  · refine ⟨0, ?_⟩
    unfold laws_FnExactFirstTip.f
    rw [if_pos big_l1]
  have len_l1 : l1.length ≤ 1048576 := by omega
  obtain ⟨R, hs, hi⟩ := FirstTip_same a0 l1 len_l1
  obtain ⟨K, hK⟩ : ∃ K, K = 4000000 := ⟨_, rfl⟩
  refine ⟨K + 9, ?_⟩
  simp (disch := omega) only [laws_FnExactFirstTip.f, if_neg big_l1, hs, hi, toIntS_ok, eqIntS_ok, Option.bind_some, bne_self_eq_false, Bool.false_eq_true, eq_self, if_true, if_false]
  simp (disch := omega) only [laws_FnExactFirstTip.j0, if_neg big_l1, hs, hi, toIntS_ok, eqIntS_ok, Option.bind_some, bne_self_eq_false, Bool.false_eq_true, eq_self, if_true, if_false]

end Go.Proofs.Ytobffdhdpbajhaa.Pure
