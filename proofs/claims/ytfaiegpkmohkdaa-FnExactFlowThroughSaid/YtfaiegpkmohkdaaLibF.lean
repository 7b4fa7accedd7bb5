/- Fractions in lowest terms, as program and reference reckon them, for denominators of at least 1 and numbers of at most 4000000000000000000. -/
import Derived.Test.YtfaiegpkmohkdaaLibG
import Derived.Test.YtfaiegpkmohkdaaLibW
import Derived.Test.YtfaiegpkmohkdaaPr3
namespace Go.Proofs.Ytfaiegpkmohkdaa.Pure
open Go.RowKit Go.Proofs.Ytfaiegpkmohkdaa.Pr Go.Proofs.YtfaiegpkmohkdaaW.PrintWords Go.Proofs.YtfaiegpkmohkdaaW.PrintLast
set_option linter.unusedVariables false
set_option linter.unusedSimpArgs false

/-- n / d in lowest terms. -/
def red (n d : Int) : Int × Int := (n / (Int.gcd n d : Int), d / (Int.gcd n d : Int))
theorem gcd_pos {n d : Int} (hd : 0 < d) : 0 < (Int.gcd n d : Int) := by
  have : 0 < Int.gcd n d := Int.gcd_pos_of_ne_zero_right n (by omega)
  omega
theorem red_mul (n d : Int) : (red n d).1 * (Int.gcd n d : Int) = n ∧ (red n d).2 * (Int.gcd n d : Int) = d :=
  ⟨Int.ediv_mul_cancel (Int.gcd_dvd_left n d), Int.ediv_mul_cancel (Int.gcd_dvd_right n d)⟩
theorem red_pos {n d : Int} (hd : 0 < d) : 0 < (red n d).2 := by
  have h1 := (red_mul n d).2
  have h2 := gcd_pos (n := n) hd
  rcases Int.lt_or_le 0 (red n d).2 with h | h
  · exact h
  · have := Int.mul_le_mul_of_nonneg_right h (show 0 ≤ (Int.gcd n d : Int) by omega)
    omega
theorem red_le {n d : Int} (hd : 0 < d) : (red n d).2 ≤ d ∧ (red n d).1.natAbs ≤ n.natAbs := by
  have h1 := red_mul n d
  have h2 := gcd_pos (n := n) hd
  have h3 := red_pos (n := n) hd
  constructor
  · have := Int.mul_le_mul_of_nonneg_left (show (1 : Int) ≤ (Int.gcd n d : Int) by omega) (show 0 ≤ (red n d).2 by omega)
    omega
  · have e : n.natAbs = (red n d).1.natAbs * Int.gcd n d := by
      conv => lhs; rw [← h1.1]
      rw [Int.natAbs_mul, Int.natAbs_natCast]
    rw [e]
    exact Nat.le_mul_of_pos_right _ (by omega)
theorem red_cross (n d : Int) : (red n d).1 * d = n * (red n d).2 := by
  have h1 := red_mul n d
  generalize (red n d).1 = P at h1 ⊢
  generalize (red n d).2 = Q at h1 ⊢
  generalize (Int.gcd n d : Int) = g at h1
  rw [← h1.1, ← h1.2, Int.mul_assoc, Int.mul_comm Q g]
theorem red_gcd {n d : Int} (hd : 0 < d) : Int.gcd (red n d).1 (red n d).2 = 1 := by
  have h1 := red_mul n d
  have h2 := gcd_pos (n := n) hd
  have h3 : Int.gcd ((red n d).1 * (Int.gcd n d : Int)) ((red n d).2 * (Int.gcd n d : Int)) = Int.gcd n d := by rw [h1.1, h1.2]
  rw [Int.gcd_mul_right, Int.natAbs_natCast] at h3
  have h4 : Int.gcd (red n d).1 (red n d).2 * Int.gcd n d = 1 * Int.gcd n d := by omega
  exact Nat.eq_of_mul_eq_mul_right (by omega) h4
theorem dvd_cop {p q s : Int} (h : q ∣ p * s) (hg : Int.gcd p q = 1) : q ∣ s := by
  have h1 : q.natAbs ∣ p.natAbs * s.natAbs := by
    rw [← Int.natAbs_mul]
    exact Int.natAbs_dvd_natAbs.mpr h
  exact Int.natAbs_dvd_natAbs.mp (Nat.Coprime.dvd_of_dvd_mul_left (show Nat.gcd q.natAbs p.natAbs = 1 by rw [Nat.gcd_comm]; exact hg) h1)
theorem cop_eq {p q r s : Int} (hq : 0 < q) (hs : 0 < s) (h1 : Int.gcd p q = 1) (h2 : Int.gcd r s = 1) (h : p * s = r * q) : p = r ∧ q = s := by
  have d1 : q ∣ s := by
    have : q ∣ p * s := ⟨r, by rw [h, Int.mul_comm]⟩
    exact dvd_cop this h1
  have d2 : s ∣ q := by
    have : s ∣ r * q := ⟨p, by rw [← h, Int.mul_comm]⟩
    exact dvd_cop this h2
  have e : q = s := by
    have l1 := Int.le_of_dvd hs d1
    have l2 := Int.le_of_dvd hq d2
    omega
  subst e
  exact ⟨Int.eq_of_mul_eq_mul_right (by omega) h, rfl⟩
theorem red_unique {n d p q : Int} (hd : 0 < d) (hq : 0 < q) (hg : Int.gcd p q = 1) (h : p * d = n * q) : red n d = (p, q) := by
  have h1 := red_cross n d
  have h2 : (red n d).1 * q = p * (red n d).2 := by
    have : d * ((red n d).1 * q) = d * (p * (red n d).2) := by
      rw [← Int.mul_assoc, ← Int.mul_assoc, Int.mul_comm d, Int.mul_comm d, h1, h, Int.mul_assoc, Int.mul_assoc, Int.mul_comm (red n d).2]
    exact Int.eq_of_mul_eq_mul_left (by omega) this
  obtain ⟨e1, e2⟩ := cop_eq (red_pos hd) hq (red_gcd hd) hg h2
  exact Prod.ext e1 e2
theorem red_congr {n d m e : Int} (hd : 0 < d) (he : 0 < e) (h : n * e = m * d) : red n d = red m e := by
  refine red_unique hd (red_pos he) (red_gcd he) ?_
  have h1 := red_cross m e
  have : e * ((red m e).1 * d) = e * (n * (red m e).2) := by
    rw [← Int.mul_assoc, Int.mul_comm e, h1, ← Int.mul_assoc, Int.mul_comm e, h, Int.mul_assoc, Int.mul_assoc, Int.mul_comm d]
  exact Int.eq_of_mul_eq_mul_left (by omega) this
theorem red_of_cop {p q : Int} (hq : 0 < q) (hg : Int.gcd p q = 1) : red p q = (p, q) := red_unique hq hq hg rfl
theorem red_one (n : Int) : red n 1 = (n, 1) := red_of_cop (by omega) (by simp)
theorem red_zero {d : Int} (hd : 0 < d) : red 0 d = (0, 1) := red_unique hd (by omega) (by simp) (by simp)

theorem lowest_ok (n d : Int) (k : Nat) (hn : n.natAbs ≤ 4000000000000000000) (hd : 0 < d) (hd' : d ≤ 4000000000000000000) (hk : d.natAbs < k) : impl_lowest.f k n d = some (red n d) := by
  have hg := gcd_pos (n := n) hd
  have hl := red_le (n := n) hd
  have hp := red_pos (n := n) hd
  unfold impl_lowest.f
  rw [gcd_ok n d k hn (by omega) hk, Option.bind_some, if_neg (by omega), if_neg (by omega)]
  have e1 : Int.tdiv n (Int.gcd n d : Int) = (red n d).1 := Int.tdiv_eq_ediv_of_dvd (Int.gcd_dvd_left n d)
  have e2 : Int.tdiv d (Int.gcd n d : Int) = (red n d).2 := Int.tdiv_eq_ediv_of_dvd (Int.gcd_dvd_right n d)
  rw [e1, e2, w64 (by omega) (by omega), w64 (by omega) (by omega)]
theorem abs_ok (n : Int) (hn : n.natAbs ≤ 4000000000000000000) : spec_l1Abs.f n = some (n.natAbs : Int) := by
  unfold spec_l1Abs.f spec_l1Most.f
  rw [w64 (by omega) (by omega)]
  split <;> (rw [Option.bind_some]; congr 1; omega)
theorem leRatio_ok (n d : Int) (k : Nat) (hn : n.natAbs ≤ 4000000000000000000) (hd : 0 < d) (hd' : d ≤ 4000000000000000000) (hk : d.natAbs < k) : spec_leRatio.f k n d = some (red n d) := by
  have hg := gcd_pos (n := n) hd
  have hl := red_le (n := n) hd
  have hp := red_pos (n := n) hd
  unfold spec_leRatio.f
  have eg : Int.gcd (n.natAbs : Int) d = Int.gcd n d := by unfold Int.gcd; rw [Int.natAbs_natCast]
  rw [if_neg (by omega), abs_ok n hn, Option.bind_some, veCommon_ok _ _ k (by omega) (by omega) hk, Option.bind_some, eg, if_neg (by omega)]
  have e1 : Int.tdiv n (Int.gcd n d : Int) = (red n d).1 := Int.tdiv_eq_ediv_of_dvd (Int.gcd_dvd_left n d)
  have e2 : Int.tdiv d (Int.gcd n d : Int) = (red n d).2 := Int.tdiv_eq_ediv_of_dvd (Int.gcd_dvd_right n d)
  rw [e1, e2, w64 (by omega) (by omega), w64 (by omega) (by omega)]

end Go.Proofs.Ytfaiegpkmohkdaa.Pure
