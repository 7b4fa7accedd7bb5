/- Tanks: what program and reference say of one and of its level, for all numbers. -/
import Derived.Test.YtfaiegpkmohkdaaLibF
import Derived.Test.YtfaiegpkmohkdaaLibW
import Derived.Test.YtfaiegpkmohkdaaPr2
import Derived.Test.YtfaiegpkmohkdaaPr4
namespace Go.Proofs.Ytfaiegpkmohkdaa.Pure
open Go.RowKit Go.Proofs.Ytfaiegpkmohkdaa.Pr Go.Proofs.YtfaiegpkmohkdaaW.PrintWords Go.Proofs.YtfaiegpkmohkdaaW.PrintLast
set_option linter.unusedVariables false
set_option linter.unusedSimpArgs false

def tankB (a f w : Int) : Bool := inR 1 50 a && (inR 0 100 f && inR 0 10000 w)
theorem tankB_get {a f w : Int} (h : tankB a f w = true) : 1 ≤ a ∧ a ≤ 50 ∧ 0 ≤ f ∧ f ≤ 100 ∧ 0 ≤ w ∧ w ≤ 10000 := by
  unfold tankB at h
  rw [Bool.and_eq_true, Bool.and_eq_true, inR_iff, inR_iff, inR_iff] at h
  omega
theorem leTank_ok (a f w : Int) : spec_leTank.f a f w = some (tankB a f w) := by
  unfold spec_leTank.f tankB
  simp only [l1In_okR, Option.bind_some]
  by_cases h1 : inR 1 50 a = true
  · by_cases h2 : inR 0 100 f = true
    · simp [h1, h2]
    · simp [h1, h2]
  · simp [h1]
theorem IsTank_ok (a f w : Int) : impl_IsTank.f a f w = some (tankB a f w) := by
  unfold impl_IsTank.f tankB
  simp only [within_okR, Option.bind_some]
  by_cases h1 : inR 1 50 a = true
  · by_cases h2 : inR 0 100 f = true
    · simp [h1, h2]
    · simp [h1, h2]
  · simp [h1]
theorem mul_le {a f : Int} (h1 : 1 ≤ a) (h2 : a ≤ 50) (h3 : 0 ≤ f) (h4 : f ≤ 1000) : 0 ≤ a * f ∧ a * f ≤ 50000 := by
  have h5 : 0 ≤ a * f := Int.mul_nonneg (by omega) h3
  have h6 : a * f ≤ 50 * f := Int.mul_le_mul_of_nonneg_right h2 h3
  omega
/-- Area times level. -/
def cont (a f w : Int) : Int := a * f + w
theorem cont_bd {a f w : Int} (h : tankB a f w = true) : 0 ≤ cont a f w ∧ cont a f w ≤ 60000 := by
  obtain ⟨h1, h2, h3, h4, h5, h6⟩ := tankB_get h
  have := mul_le h1 h2 h3 (by omega)
  unfold cont
  omega
theorem cont_spec {a f w : Int} (h : tankB a f w = true) : wrap64 (wrap64 (f * a) + w) = cont a f w := by
  obtain ⟨h1, h2, h3, h4, h5, h6⟩ := tankB_get h
  have := mul_le h1 h2 h3 (by omega)
  unfold cont
  rw [Int.mul_comm f a, w64 (i := a * f) (by omega) (by omega), w64 (by omega) (by omega)]
theorem cont_impl {a f w : Int} (h : tankB a f w = true) : wrap64 (wrap64 (a * f) + w) = cont a f w := by
  rw [Int.mul_comm a f]
  exact cont_spec h
theorem leLevel_ok {a f w : Int} (k : Nat) (h : tankB a f w = true) (hk : 10000000000 ≤ k) : spec_leLevel.f k a f w = some (red (cont a f w) a) := by
  obtain ⟨h1, h2, h3, h4, h5, h6⟩ := tankB_get h
  have hb := cont_bd h
  unfold spec_leLevel.f
  rw [cont_spec h, leRatio_ok _ _ k (by omega) (by omega) (by omega) (by omega), Option.bind_some]
theorem content_ok {a f w : Int} (h : tankB a f w = true) : impl_Tank_content.f a f w = some (cont a f w) := by
  unfold impl_Tank_content.f
  rw [cont_impl h]
theorem level_ok {a f w : Int} (k : Nat) (h : tankB a f w = true) (hk : 10000000000 ≤ k) : impl_Tank_level.f k a f w = some (red (cont a f w) a) := by
  obtain ⟨h1, h2, h3, h4, h5, h6⟩ := tankB_get h
  have hb := cont_bd h
  unfold impl_Tank_level.f
  rw [content_ok h, Option.bind_some, lowest_ok _ _ k (by omega) (by omega) (by omega) (by omega), Option.bind_some]

end Go.Proofs.Ytfaiegpkmohkdaa.Pure
