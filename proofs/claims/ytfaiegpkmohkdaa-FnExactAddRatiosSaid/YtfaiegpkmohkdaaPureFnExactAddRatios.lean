/- The program's AddRatios and the reference's tell the same. It holds for all inputs that the statement lets in. -/
import Derived.Test.YtfaiegpkmohkdaaLibF
import Derived.Test.YtfaiegpkmohkdaaLibG
import Derived.Test.YtfaiegpkmohkdaaLibR
import Derived.Test.YtfaiegpkmohkdaaLibW
import Derived.Test.YtfaiegpkmohkdaaPr12
import Derived.Test.YtfaiegpkmohkdaaPr13
import Derived.Test.YtfaiegpkmohkdaaPr3
import Derived.Test.YtfaiegpkmohkdaaPr5
namespace Go.Proofs.Ytfaiegpkmohkdaa.Pure
open Go.RowKit Go.Proofs.Ytfaiegpkmohkdaa.Pr Go.Proofs.YtfaiegpkmohkdaaW.PrintWords Go.Proofs.YtfaiegpkmohkdaaW.PrintLast
set_option linter.unusedVariables false
set_option linter.unusedSimpArgs false

theorem mulBd (x y : Int) (h1 : 0 ≤ x) (h2 : x ≤ 1000000) (h3 : 0 ≤ y) (h4 : y ≤ 1000000) : 0 ≤ x * y ∧ x * y ≤ 1000000000000 :=
  ⟨Int.mul_nonneg h1 h3, Int.mul_le_mul h2 h4 h3 (by omega)⟩
theorem sum_same (a b c d : Int) (hb : 0 < b) (hd : 0 < d) : 0 < b / (Int.gcd b d : Int) * d ∧ red (a * (d / (Int.gcd b d : Int)) + c * (b / (Int.gcd b d : Int))) (b / (Int.gcd b d : Int) * d) = red (a * d + c * b) (b * d) := by
  have hg := gcd_pos (n := b) hd
  have e1 : b / (Int.gcd b d : Int) * (Int.gcd b d : Int) = b := Int.ediv_mul_cancel (Int.gcd_dvd_left b d)
  have e2 : d / (Int.gcd b d : Int) * (Int.gcd b d : Int) = d := Int.ediv_mul_cancel (Int.gcd_dvd_right b d)
  generalize b / (Int.gcd b d : Int) = p at e1 ⊢
  generalize d / (Int.gcd b d : Int) = q at e2 ⊢
  generalize (Int.gcd b d : Int) = g at e1 e2 hg
  have hp : 0 < p := by
    rcases Int.lt_or_le 0 p with h | h
    · exact h
    · have := Int.mul_le_mul_of_nonneg_right h (show 0 ≤ g by omega)
      omega
  have hpd := Int.mul_pos hp hd
  refine ⟨hpd, red_congr hpd (Int.mul_pos hb hd) ?_⟩
  rw [← e1, ← e2]
  simp only [Int.add_mul, Int.mul_add, Int.mul_assoc, Int.mul_comm, Int.mul_left_comm]
theorem j0_ok (k : Nat) (a b c d : Int) (h1 : goodB a b = true) (h2 : goodB c d = true) (hk : 10000000000000 ≤ k) :
    spec_AddRatios.j0 (k + 1) false a b c d = some (if goodB (red (a * d + c * b) (b * d)).1 (red (a * d + c * b) (b * d)).2 = true then ((red (a * d + c * b) (b * d)).1, (red (a * d + c * b) (b * d)).2, true) else (0, 0, false)) ∧
    impl_AddRatios.j0 (k + 1) false a b c d = some (if goodB (red (a * d + c * b) (b * d)).1 (red (a * d + c * b) (b * d)).2 = true then ((red (a * d + c * b) (b * d)).1, (red (a * d + c * b) (b * d)).2, true) else (0, 0, false)) := by
  obtain ⟨a1, a2, a3, a4, a5⟩ := goodB_get h1
  obtain ⟨c1, c2, c3, c4, c5⟩ := goodB_get h2
  have mul_ab : ∀ x y : Int, x.natAbs ≤ 1000000000000 → y.natAbs ≤ 1000000 → (x * y).natAbs ≤ 1000000000000000000 := fun x y hx hy => by
    rw [Int.natAbs_mul]
    exact Nat.mul_le_mul hx hy
  have m1 := mul_ab a d (by omega) (by omega)
  have m2 := mul_ab c b (by omega) (by omega)
  have m3 := mulBd b d (by omega) a2 (by omega) c2
  have hbd := Int.mul_pos (show 0 < b by omega) (show 0 < d by omega)
  constructor
  · have hg := gcd_pos (n := b) (d := d) (by omega)
    have hs := sum_same a b c d (by omega) (by omega)
    have t1 : Int.tdiv d (Int.gcd b d : Int) = d / (Int.gcd b d : Int) := Int.tdiv_eq_ediv_of_dvd (Int.gcd_dvd_right b d)
    have t2 : Int.tdiv b (Int.gcd b d : Int) = b / (Int.gcd b d : Int) := Int.tdiv_eq_ediv_of_dvd (Int.gcd_dvd_left b d)
    have q0 : 0 ≤ d / (Int.gcd b d : Int) := Int.ediv_nonneg (by omega) (by omega)
    have q1 : d / (Int.gcd b d : Int) ≤ d := Int.ediv_le_self _ (by omega)
    have p0 : 0 ≤ b / (Int.gcd b d : Int) := Int.ediv_nonneg (by omega) (by omega)
    have p1 : b / (Int.gcd b d : Int) ≤ b := Int.ediv_le_self _ (by omega)
    simp only [spec_AddRatios.j0]
    rw [if_neg (by simp), veCommon_ok b d k (by omega) (by omega) (by omega), Option.bind_some, if_neg (by omega), t1, t2]
    generalize d / (Int.gcd b d : Int) = q at q0 q1 hs ⊢
    generalize b / (Int.gcd b d : Int) = p at p0 p1 hs ⊢
    have n1 := mul_ab a q (by omega) (by omega)
    have n2 := mul_ab c p (by omega) (by omega)
    have n3 := mulBd p d p0 (show p ≤ 1000000 by omega) (by omega) c2
    rw [w64 (i := q) (by omega) (by omega), w64 (i := p) (by omega) (by omega), w64 (i := a * q) (by omega) (by omega), w64 (i := c * p) (by omega) (by omega), w64 (i := a * q + c * p) (by omega) (by omega), w64 (i := p * d) (by omega) (by omega),
      leRatio_ok _ (p * d) k (by omega) hs.1 (by omega) (by omega), Option.bind_some, hs.2, leGood_ok _ _ k (by omega), Option.bind_some]
    split <;> rfl
  · simp only [impl_AddRatios.j0]
    rw [if_neg (by simp), w64 (i := a * d) (by omega) (by omega), w64 (i := c * b) (by omega) (by omega), w64 (i := a * d + c * b) (by omega) (by omega), w64 (i := b * d) (by omega) (by omega), lowest_ok _ (b * d) k (by omega) hbd (by omega) (by omega), Option.bind_some, isLevelRatio_ok _ _ k (by omega), Option.bind_some]
    split <;> rfl
theorem AddRatios_same (a b c d : Int) (_w0 : (Lit.int .i64 a).wf = true) (_w1 : (Lit.int .i64 b).wf = true) (_w2 : (Lit.int .i64 c).wf = true) (_w3 : (Lit.int .i64 d).wf = true) : ∃ R : Int × Int × Bool, (∀ k, 10000000000001 ≤ k → spec_AddRatios.f k a b c d = some R) ∧ (∀ k, 10000000000001 ≤ k → impl_AddRatios.f k a b c d = some R) := by
  by_cases h1 : goodB a b = true
  · by_cases h2 : goodB c d = true
    · refine ⟨if goodB (red (a * d + c * b) (b * d)).1 (red (a * d + c * b) (b * d)).2 = true then ((red (a * d + c * b) (b * d)).1, (red (a * d + c * b) (b * d)).2, true) else (0, 0, false), fun k hk => ?_, fun k hk => ?_⟩
      rotate_left
      · unfold impl_AddRatios.f
        obtain ⟨k, rfl⟩ : ∃ m, k = m + 1 := ⟨k - 1, by omega⟩
        rw [isLevelRatio_ok a b _ (by omega), Option.bind_some, if_pos h1, isLevelRatio_ok c d _ (by omega), h2, Option.bind_some]
        exact (j0_ok k a b c d h1 h2 (by omega)).2
      · unfold spec_AddRatios.f
        obtain ⟨k, rfl⟩ : ∃ m, k = m + 1 := ⟨k - 1, by omega⟩
        rw [leGood_ok a b _ (by omega), Option.bind_some, if_pos h1, leGood_ok c d _ (by omega), h2, Option.bind_some]
        exact (j0_ok k a b c d h1 h2 (by omega)).1
    · refine ⟨(0, 0, false), fun k hk => ?_, fun k hk => ?_⟩
      · unfold spec_AddRatios.f
        obtain ⟨k, rfl⟩ : ∃ m, k = m + 1 := ⟨k - 1, by omega⟩
        rw [leGood_ok a b _ (by omega), Option.bind_some, if_pos h1, leGood_ok c d _ (by omega), Option.bind_some]
        simp only [spec_AddRatios.j0]
        rw [Bool.eq_false_iff.mpr h2, if_pos (by simp)]
      · unfold impl_AddRatios.f
        obtain ⟨k, rfl⟩ : ∃ m, k = m + 1 := ⟨k - 1, by omega⟩
        rw [isLevelRatio_ok a b _ (by omega), Option.bind_some, if_pos h1, isLevelRatio_ok c d _ (by omega), Option.bind_some]
        simp only [impl_AddRatios.j0]
        rw [Bool.eq_false_iff.mpr h2, if_pos (by simp)]
  · refine ⟨(0, 0, false), fun k hk => ?_, fun k hk => ?_⟩
    · unfold spec_AddRatios.f
      obtain ⟨k, rfl⟩ : ∃ m, k = m + 1 := ⟨k - 1, by omega⟩
      rw [leGood_ok a b _ (by omega), Option.bind_some, if_neg h1]
      simp only [spec_AddRatios.j0]
      rw [if_pos trivial]
    · unfold impl_AddRatios.f
      obtain ⟨k, rfl⟩ : ∃ m, k = m + 1 := ⟨k - 1, by omega⟩
      rw [isLevelRatio_ok a b _ (by omega), Option.bind_some, if_neg h1]
      simp only [impl_AddRatios.j0]
      rw [if_pos trivial]

theorem FnExactAddRatios : ∀ (a0_0 : Int) (a0_1 : Int) (a1_0 : Int) (a1_1 : Int), (Lit.int .i64 a0_0).wf = true → (Lit.int .i64 a0_1).wf = true → (Lit.int .i64 a1_0).wf = true → (Lit.int .i64 a1_1).wf = true → ∃ k, laws_FnExactAddRatios.f k a0_0 a0_1 a1_0 a1_1 = some true := by
  intro a0_0 a0_1 a1_0 a1_1 w0 w1 w2 w3
  obtain ⟨R, hs, hi⟩ := AddRatios_same a0_0 a0_1 a1_0 a1_1 w0 w1 w2 w3
  obtain ⟨K, hK⟩ : ∃ K, K = 10000000000000 := ⟨_, rfl⟩
  refine ⟨K + 9, ?_⟩
  simp (disch := omega) only [laws_FnExactAddRatios.f, hs, hi, laws_toRatio.f, laws_eqRatio.f, Option.bind_some, bne_self_eq_false, Bool.false_eq_true, eq_self, if_true, if_false]

end Go.Proofs.Ytfaiegpkmohkdaa.Pure
