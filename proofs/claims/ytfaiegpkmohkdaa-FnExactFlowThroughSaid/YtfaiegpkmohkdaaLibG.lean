/- The greatest common divisor, and fractions in lowest terms, as program and reference reckon them, for numbers of at most 4000000000000000000. -/
import Derived.Test.YtfaiegpkmohkdaaPr3
namespace Go.Proofs.Ytfaiegpkmohkdaa.Pure
open Go.RowKit Go.Proofs.Ytfaiegpkmohkdaa.Pr Go.Proofs.YtfaiegpkmohkdaaW.PrintWords Go.Proofs.YtfaiegpkmohkdaaW.PrintLast
set_option linter.unusedVariables false
set_option linter.unusedSimpArgs false

theorem gcd_tmod (a b : Int) : Int.gcd b (Int.tmod a b) = Int.gcd a b := by
  unfold Int.gcd
  rw [Int.natAbs_tmod, Nat.gcd_comm a.natAbs b.natAbs, Nat.gcd_rec b.natAbs a.natAbs, Nat.gcd_comm]
theorem gcd_l0 : ∀ (n k : Nat) (a b : Int), b.natAbs ≤ n → n < k → a.natAbs ≤ 4000000000000000000 → b.natAbs ≤ 4000000000000000000 → impl_gcd.l0 k a b = some (Int.gcd a b : Int) := by
  intro n
  induction n with
  | zero =>
    intro k a b hb hk ha hb'
    obtain ⟨k, rfl⟩ : ∃ m, k = m + 1 := ⟨k - 1, by omega⟩
    have e : b = 0 := by omega
    subst e
    simp only [impl_gcd.l0]
    rw [if_pos trivial, Int.gcd_zero_right]
    by_cases h : a < 0
    · rw [if_pos h, show wrap64 (-a) = -a by unfold wrap64; omega]
      congr 1
      omega
    · rw [if_neg h]
      congr 1
      omega
  | succ n ih =>
    intro k a b hb hk ha hb'
    obtain ⟨k, rfl⟩ : ∃ m, k = m + 1 := ⟨k - 1, by omega⟩
    simp only [impl_gcd.l0]
    by_cases hz : b = 0
    · subst hz
      rw [if_pos rfl, Int.gcd_zero_right]
      by_cases h : a < 0
      · rw [if_pos h, show wrap64 (-a) = -a by unfold wrap64; omega]
        congr 1
        omega
      · rw [if_neg h]
        congr 1
        omega
    · have h1 : (Int.tmod a b).natAbs < b.natAbs := by
        rw [Int.natAbs_tmod]
        exact Nat.mod_lt _ (by omega)
      rw [if_neg hz, ih k b (Int.tmod a b) (by omega) (by omega) hb' (by omega), gcd_tmod]
theorem gcd_ok (a b : Int) (k : Nat) (ha : a.natAbs ≤ 4000000000000000000) (hb : b.natAbs ≤ 4000000000000000000) (hk : b.natAbs < k) : impl_gcd.f k a b = some (Int.gcd a b : Int) := by
  unfold impl_gcd.f
  exact gcd_l0 b.natAbs k a b (Nat.le_refl _) hk ha hb
theorem veCommon_l0 : ∀ (n k : Nat) (a b : Int), b.natAbs ≤ n → n < k → 0 ≤ a → 0 ≤ b → spec_veCommon.l0 k a b = some (Int.gcd a b : Int) := by
  intro n
  induction n with
  | zero =>
    intro k a b hb hk ha hb'
    obtain ⟨k, rfl⟩ : ∃ m, k = m + 1 := ⟨k - 1, by omega⟩
    have e : b = 0 := by omega
    subst e
    simp only [spec_veCommon.l0]
    rw [if_neg (by omega), Int.gcd_zero_right]
    congr 1
    omega
  | succ n ih =>
    intro k a b hb hk ha hb'
    obtain ⟨k, rfl⟩ : ∃ m, k = m + 1 := ⟨k - 1, by omega⟩
    simp only [spec_veCommon.l0]
    by_cases hz : b = 0
    · subst hz
      rw [if_neg (by omega), Int.gcd_zero_right]
      congr 1
      omega
    · have h1 : (Int.tmod a b).natAbs < b.natAbs := by
        rw [Int.natAbs_tmod]
        exact Nat.mod_lt _ (by omega)
      rw [if_pos (by omega), if_neg hz, ih k b (Int.tmod a b) (by omega) (by omega) hb' (Int.tmod_nonneg _ ha), gcd_tmod]
theorem veCommon_ok (a b : Int) (k : Nat) (ha : 0 ≤ a) (hb : 0 ≤ b) (hk : b.natAbs < k) : spec_veCommon.f k a b = some (Int.gcd a b : Int) := by
  unfold spec_veCommon.f
  exact veCommon_l0 b.natAbs k a b (Nat.le_refl _) hk ha hb

end Go.Proofs.Ytfaiegpkmohkdaa.Pure
