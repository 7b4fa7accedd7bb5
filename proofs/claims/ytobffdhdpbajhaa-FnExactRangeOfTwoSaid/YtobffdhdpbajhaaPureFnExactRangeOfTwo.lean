/- The program's RangeOfTwo and the reference's tell the same, arguments and all. It holds for all inputs that the statement lets in. -/
import Derived.Test.YtobffdhdpbajhaaLibA
import Derived.Test.YtobffdhdpbajhaaLibC4
import Derived.Test.YtobffdhdpbajhaaPr14
import Derived.Test.YtobffdhdpbajhaaPr26
namespace Go.Proofs.Ytobffdhdpbajhaa.Pure
open Go.RowKit Go.Proofs.Ytobffdhdpbajhaa.Pr Go.Proofs.YtobffdhdpbajhaaW.PrintWords Go.Proofs.YtobffdhdpbajhaaW.PrintLast
set_option linter.unusedVariables false
set_option linter.unusedSimpArgs false

theorem wsum_bd : ∀ (l : List Int) (s : Int), 0 ≤ s → s + 10000 * (l.length : Int) ≤ 100000000000 → (∀ x ∈ l, 0 ≤ x ∧ x ≤ 10000) → 0 ≤ wsum s l ∧ wsum s l ≤ s + 10000 * (l.length : Int)
  | [], s, h0, h1, _ => by simp [wsum]; omega
  | x :: xs, s, h0, h1, hx => by
    have hx0 := hx x (by simp)
    simp only [List.length_cons] at h1
    have hs : wrap64 (s + x) = s + x := w64 (by omega) (by omega)
    have ih := wsum_bd xs (s + x) (by omega) (by omega) (fun y hy => hx y (by simp [hy]))
    unfold wsum at ih ⊢
    simp only [List.foldl_cons, hs, List.length_cons]
    omega
theorem mul_bd {a s : Int} (ha0 : 1 ≤ a) (ha1 : a ≤ 60) (hs0 : 0 ≤ s) (hs1 : s ≤ 1000000) : 0 ≤ a * s ∧ a * s ≤ 60000000 := by
  have h1 : 0 ≤ a * s := Int.mul_nonneg (by omega) hs0
  have h2 : a * s ≤ 60 * s := Int.mul_le_mul_of_nonneg_right ha1 hs0
  omega
theorem RangeOfTips_ok (a : Int) (l : List Int) (k : Nat) (hl : l.length ≤ 1048576) (hk : 2000000 ≤ k) : impl_RangeOfTips.f k a l =
    some (if gaugeB a l = true then (a * wsum 0 l, a * wsum 0 l + a - 1, true) else (0, 0, false)) := by
  unfold impl_RangeOfTips.f
  rw [isGauge_ok a l hl, Option.bind_some]
  split
  · rename_i h
    obtain ⟨g1, g2, g3, g4⟩ := gaugeB_get h
    have hb := wsum_bd l 0 (by omega) (by omega) g4
    have hm := mul_bd g1 g2 hb.1 (by omega)
    rw [total_ok l k hl hk, Option.bind_some, Int.mul_comm, w64 (i := a * wsum 0 l) (by omega) (by omega), w64 (i := a * wsum 0 l + a) (by omega) (by omega), w64 (i := a * wsum 0 l + a - 1) (by omega) (by omega)]
  · rfl
theorem RangeOfTwo_same (a b : Int) (l m : List Int) (hl : l.length ≤ 1048576) (hm : m.length ≤ 1048576) : ∃ R : Int × Int × Bool, (∀ k, 4000000 ≤ k → spec_RangeOfTwo.f k a b l m = some R) ∧ (∀ k, 4000000 ≤ k → impl_RangeOfTwo.f k a b l m = some R) := by
  by_cases h1 : gaugeB a l = true
  · by_cases h2 : gaugeB b m = true
    · obtain ⟨a1, a2, a3, a4⟩ := gaugeB_get h1
      obtain ⟨b1, b2, b3, b4⟩ := gaugeB_get h2
      have sa := wsum_bd l 0 (by omega) (by omega) a4
      have sb := wsum_bd m 0 (by omega) (by omega) b4
      have ma := mul_bd a1 a2 sa.1 (by omega)
      have mb := mul_bd b1 b2 sb.1 (by omega)
      obtain ⟨x, hx⟩ : ∃ x, a * wsum 0 l = x := ⟨_, rfl⟩
      obtain ⟨y, hy⟩ : ∃ y, b * wsum 0 m = y := ⟨_, rfl⟩
      rw [hx] at ma
      rw [hy] at mb
      refine ⟨if max x y > min (x + a - 1) (y + b - 1) then (0, 0, false) else (max x y, min (x + a - 1) (y + b - 1), true), fun k hk => ?_, fun k hk => ?_⟩
      · unfold spec_RangeOfTwo.f
        obtain ⟨k, rfl⟩ : ∃ m, k = m + 1 := ⟨k - 1, by omega⟩
        rw [tbRain_ok a l _ hl (by omega), Option.bind_some, if_pos h1, tbRain_ok b m _ hm (by omega), Option.bind_some]
        simp only [spec_RangeOfTwo.j0]
        rw [h2, if_neg (by simp)]
        have hk' : 2000000 ≤ k := by omega
        have e1 : spec_l1Most.f x y = some (max x y) := by unfold spec_l1Most.f; split <;> (congr 1; omega)
        have e2 : spec_l1Least.f (x + a) (y + b) = some (min (x + a) (y + b)) := by unfold spec_l1Least.f; split <;> (congr 1; omega)
        simp only [veSum_ok l k hl hk', veSum_ok m k hm hk', Option.bind_some, hx, hy]
        rw [w64 (i := x) (by omega) (by omega), w64 (i := y) (by omega) (by omega), w64 (i := x + a) (by omega) (by omega), w64 (i := y + b) (by omega) (by omega), e1, e2, Option.bind_some, Option.bind_some, w64 (by omega) (by omega)]
        have e3 : min (x + a) (y + b) - 1 = min (x + a - 1) (y + b - 1) := by omega
        rw [e3]
        split <;> rfl
      · unfold impl_RangeOfTwo.f
        rw [RangeOfTips_ok a l k hl (by omega), if_pos h1, RangeOfTips_ok b m k hm (by omega), if_pos h2, hx, hy]
        simp only [Option.bind_some, if_true]
        have e1 : mx x y = max x y := by unfold mx; split <;> omega
        have e2 : mn (x + a - 1) (y + b - 1) = min (x + a - 1) (y + b - 1) := by unfold mn; split <;> omega
        rw [e1, e2]
        split <;> rfl
    · refine ⟨(0, 0, false), fun k hk => ?_, fun k hk => ?_⟩
      · unfold spec_RangeOfTwo.f
        obtain ⟨k, rfl⟩ : ∃ m, k = m + 1 := ⟨k - 1, by omega⟩
        rw [tbRain_ok a l _ hl (by omega), Option.bind_some, if_pos h1, tbRain_ok b m _ hm (by omega), Option.bind_some]
        simp only [spec_RangeOfTwo.j0]
        rw [Bool.eq_false_iff.mpr h2, if_pos (by simp)]
      · unfold impl_RangeOfTwo.f
        rw [RangeOfTips_ok a l k hl (by omega), if_pos h1, RangeOfTips_ok b m k hm (by omega), if_neg h2]
        simp
  · refine ⟨(0, 0, false), fun k hk => ?_, fun k hk => ?_⟩
    · unfold spec_RangeOfTwo.f
      obtain ⟨k, rfl⟩ : ∃ m, k = m + 1 := ⟨k - 1, by omega⟩
      rw [tbRain_ok a l _ hl (by omega), Option.bind_some, if_neg h1]
      simp only [spec_RangeOfTwo.j0]
      rw [if_pos trivial]
    · unfold impl_RangeOfTwo.f
      rw [RangeOfTips_ok a l k hl (by omega), if_neg h1, RangeOfTips_ok b m k hm (by omega)]
      simp

theorem FnExactRangeOfTwo : laws_FnExactRangeOfTwo.Pure := by
  intro a0 a1 l2 l3 w0 w1 w2 w3 w4 w5 w6 w7
  by_cases big_l2 : (l2.length : Int) > 1048576
  · refine ⟨0, ?_⟩
    unfold laws_FnExactRangeOfTwo.f
    rw [if_pos big_l2]
  have len_l2 : l2.length ≤ 1048576 := by omega
  by_cases big_l3 : (l3.length : Int) > 1048576
  · refine ⟨0, ?_⟩
    unfold laws_FnExactRangeOfTwo.f
    rw [if_neg big_l2, if_pos big_l3]
  have len_l3 : l3.length ≤ 1048576 := by omega
  obtain ⟨R, hs, hi⟩ := RangeOfTwo_same a0 a1 l2 l3 len_l2 len_l3
  obtain ⟨K, hK⟩ : ∃ K, K = 4000000 := ⟨_, rfl⟩
  refine ⟨K + 9, ?_⟩
  simp (disch := omega) only [laws_FnExactRangeOfTwo.f, if_neg big_l2, if_neg big_l3, hs, hi, toIntS_ok, eqIntS_ok, Option.bind_some, bne_self_eq_false, Bool.false_eq_true, eq_self, if_true, if_false]
  simp (disch := omega) only [laws_FnExactRangeOfTwo.j0, if_neg big_l2, if_neg big_l3, hs, hi, toIntS_ok, eqIntS_ok, Option.bind_some, bne_self_eq_false, Bool.false_eq_true, eq_self, if_true, if_false]

end Go.Proofs.Ytobffdhdpbajhaa.Pure
