/- Vessels: what program and reference say of two lists, of at most 1048576 numbers each. -/
import Derived.Test.YtjebielaficopaaDoorLibA
import Derived.Test.YtjebielaficopaaDoorLibW
import Derived.Test.YtjebielaficopaaDoorPr2
import Derived.Test.YtjebielaficopaaDoorPr4
import Derived.Test.YtjebielaficopaaDoorPr6
import Derived.Test.YtjebielaficopaaDoorPr7
import Derived.Test.YtjebielaficopaaDoorPr8
namespace Go.Proofs.YtjebielaficopaaDoor.Pure
open Go.RowKit Go.Proofs.YtjebielaficopaaDoor.Pr Go.Proofs.YtjebielaficopaaDoorW.PrintWords Go.Proofs.YtjebielaficopaaDoorW.PrintLast
set_option linter.unusedVariables false
set_option linter.unusedSimpArgs false

theorem szV (s h : List Int) (hs : s.length ≤ maxLen) (hh : h.length ≤ maxLen) : laws_szVessels.f s h 1048576 = some (if s.length + h.length ≤ 1048576 then (1048576 : Int) - (s.length : Int) - (h.length : Int) else -1) := by
  unfold maxLen at hs hh
  unfold laws_szVessels.f laws_szIntS.f
  rw [w64 (i := (1048576 : Int) - (s.length : Int)) (by omega) (by omega)]
  by_cases h1 : (1048576 : Int) - (s.length : Int) < 0
  · rw [if_pos h1, Option.bind_some, if_pos (by omega), if_neg (by omega)]
  · rw [if_neg h1, Option.bind_some, if_neg h1, w64 (by omega) (by omega)]
    by_cases h2 : (1048576 : Int) - (s.length : Int) - (h.length : Int) < 0
    · rw [if_pos h2, Option.bind_some, if_pos (by omega), if_neg (by omega)]
    · rw [if_neg h2, Option.bind_some, if_neg h2, if_pos (by omega)]
theorem toV_ok (s h : List Int) (k : Nat) (hs : s.length ≤ 1048576) (hh : h.length ≤ 1048576) (hk : 2000000 ≤ k) : laws_toVessels.f k s h = some (s, h) := by
  unfold laws_toVessels.f
  rw [toIntS_ok s k hs hk, Option.bind_some, toIntS_ok h k hh hk, Option.bind_some]
theorem eqV_ok (s h : List Int) (k : Nat) (hs : s.length ≤ 1048576) (hh : h.length ≤ 1048576) (hk : 2000000 ≤ k) : laws_eqVessels.f k s h s h = some true := by
  unfold laws_eqVessels.f
  rw [eqIntS_ok s k hs hk, Option.bind_some, if_pos rfl, eqIntS_ok h k hh hk, Option.bind_some, if_pos rfl]
def vfit (s h : List Int) : Nat → Nat → Bool
  | _, 0 => true
  | j, d + 1 => inB 0 (rd s (j : Int)) (rd h (j : Int)) && vfit s h (j + 1) d
def vesB (s h : List Int) : Bool := inB 1 5 (s.length : Int) && (decide (h.length = s.length) && (s.all (inB 1 60) && vfit s h 0 h.length))
theorem vfit_get (s h : List Int) : ∀ (d j : Nat), vfit s h j d = true → ∀ m : Nat, j ≤ m → m < j + d → 0 ≤ rd h (m : Int) ∧ rd h (m : Int) ≤ rd s (m : Int)
  | 0, j, _, m, h1, h2 => by omega
  | d + 1, j, hh, m, h1, h2 => by
    unfold vfit at hh
    rw [Bool.and_eq_true, inB_iff] at hh
    by_cases e : m = j
    · subst e
      exact hh.1
    · exact vfit_get s h d (j + 1) hh.2 m (by omega) (by omega)
theorem vesB_get {s h : List Int} (hv : vesB s h = true) : 1 ≤ s.length ∧ s.length ≤ 5 ∧ h.length = s.length ∧ (∀ x ∈ s, 1 ≤ x ∧ x ≤ 60) ∧ ∀ m : Nat, m < s.length → 0 ≤ rd h (m : Int) ∧ rd h (m : Int) ≤ rd s (m : Int) ∧ rd s (m : Int) ≤ 60 := by
  unfold vesB at hv
  rw [Bool.and_eq_true, Bool.and_eq_true, Bool.and_eq_true, decide_eq_true_iff, inB_iff, List.all_eq_true] at hv
  obtain ⟨h1, h2, h3, h4⟩ := hv
  have h5 : ∀ x ∈ s, 1 ≤ x ∧ x ≤ 60 := fun x hx => (inB_iff _ _ _).mp (h3 x hx)
  refine ⟨by omega, by omega, h2, h5, fun m hm => ?_⟩
  have h6 := vfit_get s h _ _ h4 m (by omega) (by omega)
  have h7 := h5 _ (by rw [rd_nat s m hm]; exact List.getElem_mem hm : rd s (m : Int) ∈ s)
  omega
theorem veGood_l0 (s h : List Int) (hh : h.length ≤ 1048576) (e : h.length = s.length) : ∀ (d k j : Nat), h.length - j = d → j ≤ h.length → d < k → spec_veGood.l0 k h (h.length : Int) (j : Int) s h = some (vfit s h j d) := by
  intro d
  induction d with
  | zero =>
    intro k j hd hj hk
    obtain ⟨k, rfl⟩ : ∃ m, k = m + 1 := ⟨k - 1, by omega⟩
    simp only [spec_veGood.l0]
    rw [if_neg (by omega)]
    rfl
  | succ d ih =>
    intro k j hd hj hk
    obtain ⟨k, rfl⟩ : ∃ m, k = m + 1 := ⟨k - 1, by omega⟩
    simp only [spec_veGood.l0]
    rw [if_pos (by omega), if_pos (by omega), if_pos (by omega), if_pos (by omega), l1In_ok, Option.bind_some, w64 (i := (j : Int) + 1) (by omega) (by omega), vfit]
    have := ih k (j + 1) (by omega) (by omega) (by omega)
    by_cases hb : inB 0 (rd s (j : Int)) (rd h (j : Int)) = true
    · rw [if_pos hb, hb, Bool.true_and]
      exact this
    · rw [if_neg hb, Bool.eq_false_iff.mpr hb, Bool.false_and]
theorem AreVessels_l0 (s h : List Int) (hh : h.length ≤ 1048576) (e : h.length = s.length) : ∀ (d k j : Nat), h.length - j = d → j ≤ h.length → d < k → impl_AreVessels.l0 k h (h.length : Int) (j : Int) s h = some (vfit s h j d) := by
  intro d
  induction d with
  | zero =>
    intro k j hd hj hk
    obtain ⟨k, rfl⟩ : ∃ m, k = m + 1 := ⟨k - 1, by omega⟩
    simp only [impl_AreVessels.l0]
    rw [if_neg (by omega)]
    rfl
  | succ d ih =>
    intro k j hd hj hk
    obtain ⟨k, rfl⟩ : ∃ m, k = m + 1 := ⟨k - 1, by omega⟩
    simp only [impl_AreVessels.l0]
    rw [if_pos (by omega), if_pos (by omega), if_pos (by omega), if_pos (by omega), within_ok, Option.bind_some, w64 (i := (j : Int) + 1) (by omega) (by omega), vfit]
    have := ih k (j + 1) (by omega) (by omega) (by omega)
    by_cases hb : inB 0 (rd s (j : Int)) (rd h (j : Int)) = true
    · rw [if_pos hb, hb, Bool.true_and]
      exact this
    · rw [if_neg hb, Bool.eq_false_iff.mpr hb, Bool.false_and]
theorem veGood_ok (s h : List Int) (k : Nat) (hs : s.length ≤ 1048576) (hh : h.length ≤ 1048576) (hk : 4000000 ≤ k) : spec_veGood.f k s h = some (vesB s h) := by
  unfold spec_veGood.f vesB
  rw [l1In_ok, Option.bind_some]
  obtain ⟨k, rfl⟩ : ∃ m, k = m + 1 := ⟨k - 1, by omega⟩
  by_cases h1 : inB 1 5 (s.length : Int) = true
  · rw [if_pos h1, h1, Bool.true_and]
    by_cases h2 : h.length = s.length
    · rw [if_pos (by omega), decide_eq_true h2, Bool.true_and, l1All_ok s 1 60 _ hs (by omega), Option.bind_some]
      simp only [spec_veGood.j0]
      by_cases h3 : s.all (inB 1 60) = true
      · rw [h3, if_neg (by simp), Bool.true_and]
        exact veGood_l0 s h hh h2 h.length k 0 (by omega) (by omega) (by omega)
      · rw [Bool.eq_false_iff.mpr h3, if_pos (by simp), Bool.false_and]
    · rw [if_neg (by omega), decide_eq_false h2, Bool.false_and]
      simp only [spec_veGood.j0]
      rw [if_pos trivial]
  · rw [if_neg h1, Bool.eq_false_iff.mpr h1, Bool.false_and]
    simp only [spec_veGood.j0]
    rw [if_pos trivial]
theorem AreVessels_ok (s h : List Int) (k : Nat) (hs : s.length ≤ 1048576) (hh : h.length ≤ 1048576) (hk : 4000000 ≤ k) : impl_AreVessels.f k s h = some (vesB s h) := by
  unfold impl_AreVessels.f vesB
  rw [within_ok, Option.bind_some]
  obtain ⟨k, rfl⟩ : ∃ m, k = m + 1 := ⟨k - 1, by omega⟩
  by_cases h1 : inB 1 5 (s.length : Int) = true
  · rw [if_pos h1, h1, Bool.true_and]
    by_cases h2 : h.length = s.length
    · rw [if_pos (by omega), decide_eq_true h2, Bool.true_and, areWithin_ok s 1 60 hs, Option.bind_some]
      simp only [impl_AreVessels.j0]
      by_cases h3 : s.all (inB 1 60) = true
      · rw [h3, if_neg (by simp), Bool.true_and]
        exact AreVessels_l0 s h hh h2 h.length k 0 (by omega) (by omega) (by omega)
      · rw [Bool.eq_false_iff.mpr h3, if_pos (by simp), Bool.false_and]
    · rw [if_neg (by omega), decide_eq_false h2, Bool.false_and]
      simp only [impl_AreVessels.j0]
      rw [if_pos trivial]
  · rw [if_neg h1, Bool.eq_false_iff.mpr h1, Bool.false_and]
    simp only [impl_AreVessels.j0]
    rw [if_pos trivial]
/-- Is it a move of n vessels? -/
def moveB (n a b : Int) : Bool := inB (-1) (n - 1) a && (inB (-1) (n - 1) b && a != b)
theorem veMove_ok (n a b : Int) (h0 : 0 ≤ n) (h1 : n ≤ 1048576) : spec_veMove.f n a b = some (moveB n a b) := by
  unfold spec_veMove.f moveB
  rw [w64 (by omega) (by omega), l1In_ok, l1In_ok, Option.bind_some, Option.bind_some]
  by_cases h2 : inB (-1) (n - 1) a = true
  · by_cases h3 : inB (-1) (n - 1) b = true
    · simp [h2, h3]
    · simp [h2, h3]
  · simp [h2]
theorem isMove_ok (n a b : Int) (h0 : 0 ≤ n) (h1 : n ≤ 1048576) : impl_Move_isMove.f a b n = some (moveB n a b) := by
  unfold impl_Move_isMove.f moveB
  rw [w64 (by omega) (by omega), within_ok, within_ok, Option.bind_some, Option.bind_some]
  by_cases h2 : inB (-1) (n - 1) a = true
  · by_cases h3 : inB (-1) (n - 1) b = true
    · simp [h2, h3]
    · simp [h2, h3]
  · simp [h2]
theorem moveB_get {n a b : Int} (h : moveB n a b = true) : -1 ≤ a ∧ a < n ∧ -1 ≤ b ∧ b < n ∧ a ≠ b := by
  unfold moveB at h
  rw [Bool.and_eq_true, Bool.and_eq_true, inB_iff, inB_iff, bne_iff_ne] at h
  exact ⟨by omega, by omega, by omega, by omega, h.2.2⟩

end Go.Proofs.YtjebielaficopaaDoor.Pure
