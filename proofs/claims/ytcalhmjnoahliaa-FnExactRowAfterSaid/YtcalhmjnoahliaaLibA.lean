/- Facts on the small functions that the statements of this seat share: copying, comparing, marking lists of numbers, and bounds. Each names its own conditions. -/
import Derived.Test.YtcalhmjnoahliaaLibW
import Derived.Test.YtcalhmjnoahliaaPr2
import Derived.Test.YtcalhmjnoahliaaPr5
import Derived.Test.YtcalhmjnoahliaaPr7
namespace Go.Proofs.Ytcalhmjnoahliaa.Pure
open Go.RowKit Go.Proofs.Ytcalhmjnoahliaa.Pr Go.Proofs.YtcalhmjnoahliaaW.PrintWords Go.Proofs.YtcalhmjnoahliaaW.PrintLast
set_option linter.unusedVariables false
set_option linter.unusedSimpArgs false

theorem rd_nat (l : List Int) (j : Nat) (h : j < l.length) : rd l (j : Int) = l[j] := by simp [rd, h]
theorem drop_rd (l : List Int) (j : Nat) (h : j < l.length) : l.drop j = rd l (j : Int) :: l.drop (j + 1) := by
  rw [List.drop_eq_getElem_cons h, rd_nat l j h]
theorem drop_all (l : List Int) (j : Nat) (h : l.length ≤ j) : l.drop j = [] := List.drop_of_length_le h

/-! ### copying a list -/
theorem toIntS_l0 (x0 : List Int) (hl : x0.length ≤ 1048576) : ∀ (d k : Nat) (x3 : List Int) (j : Nat), x0.length - j = d → d < k → j ≤ x0.length → x3.length = x0.length →
    (∀ m, m < j → x3[m]? = x0[m]?) → laws_toIntS.l0 k x0 x3 (j : Int) = some x0 := by
  intro d
  induction d with
  | zero =>
    intro k x3 j hd hk hj hlen hm
    obtain ⟨k, rfl⟩ : ∃ m, k = m + 1 := ⟨k - 1, by omega⟩
    simp only [laws_toIntS.l0]
    rw [if_neg (by omega)]
    congr 1
    apply List.ext_getElem?
    intro i
    by_cases h : i < j
    · exact hm i h
    · rw [List.getElem?_eq_none (by omega), List.getElem?_eq_none (by omega)]
  | succ d ih =>
    intro k x3 j hd hk hj hlen hm
    obtain ⟨k, rfl⟩ : ∃ m, k = m + 1 := ⟨k - 1, by omega⟩
    simp only [laws_toIntS.l0]
    rw [if_pos (by omega), if_pos (by omega), if_pos (by omega), w64 (by omega) (by omega)]
    refine ih k _ (j + 1) (by omega) (by omega) (by omega) (by simpa using hlen) ?_
    intro m h
    have e : ((j : Int)).toNat = j := by omega
    rw [e]
    by_cases hmj : m = j
    · subst hmj
      rw [List.getElem?_set_self (by omega), rd_nat x0 m (by omega), List.getElem?_eq_getElem (by omega)]
    · rw [List.getElem?_set_ne (by omega)]
      exact hm m (by omega)
theorem toIntS_ok (l : List Int) (k : Nat) (hl : l.length ≤ 1048576) (hk : 2000000 ≤ k) : laws_toIntS.f k l = some l := by
  unfold laws_toIntS.f
  rw [if_pos (by omega), if_pos (by omega)]
  have := toIntS_l0 l hl (l.length) k (List.replicate l.length 0) 0 (by omega) (by omega) (by omega) (by simp) (fun m h => by omega)
  simpa using this

/-! ### comparing -/
theorem eqIntS_l0 (l : List Int) (hl : l.length ≤ 1048576) : ∀ (d k j : Nat), l.length - j = d → d < k → laws_eqIntS.l0 k l l (j : Int) = some true := by
  intro d
  induction d with
  | zero =>
    intro k j hd hk
    obtain ⟨k, rfl⟩ : ∃ m, k = m + 1 := ⟨k - 1, by omega⟩
    simp only [laws_eqIntS.l0]
    rw [if_neg (by omega)]
  | succ d ih =>
    intro k j hd hk
    obtain ⟨k, rfl⟩ : ∃ m, k = m + 1 := ⟨k - 1, by omega⟩
    simp only [laws_eqIntS.l0]
    rw [if_pos (by omega), if_pos (by omega), if_pos (by omega), if_pos trivial, w64 (by omega) (by omega)]
    exact ih k (j + 1) (by omega) (by omega)
theorem eqIntS_ok (l : List Int) (k : Nat) (hl : l.length ≤ 1048576) (hk : 2000000 ≤ k) : laws_eqIntS.f k l l = some true := by
  unfold laws_eqIntS.f
  rw [if_pos rfl]
  exact eqIntS_l0 l hl l.length k 0 (by omega) (by omega)

/-! ### in bounds -/
theorem l1In_ok (x lo hi : Int) : spec_l1In.f x lo hi = some (inB lo hi x) := by
  unfold spec_l1In.f inB
  by_cases h : x ≥ lo
  · rw [if_pos h]
    have : lo ≤ x := h
    simp [this]
  · rw [if_neg h]
    have : ¬ lo ≤ x := h
    simp [this]
theorem within_ok (x lo hi : Int) : impl_within.f x lo hi = some (inB lo hi x) := by
  unfold impl_within.f inB
  by_cases h : lo ≤ x <;> simp [h]
theorem inB_iff (x lo hi : Int) : inB lo hi x = true ↔ lo ≤ x ∧ x ≤ hi := by simp [inB]
theorem l1All_l0 (l : List Int) (lo hi : Int) (hl : l.length ≤ 1048576) : ∀ (d k j : Nat), l.length - j = d → d < k → spec_l1All.l0 k lo hi l (l.length : Int) (j : Int) = some ((l.drop j).all (inB lo hi)) := by
  intro d
  induction d with
  | zero =>
    intro k j hd hk
    obtain ⟨k, rfl⟩ : ∃ m, k = m + 1 := ⟨k - 1, by omega⟩
    simp only [spec_l1All.l0]
    rw [if_neg (by omega), drop_all l j (by omega)]
    rfl
  | succ d ih =>
    intro k j hd hk
    obtain ⟨k, rfl⟩ : ∃ m, k = m + 1 := ⟨k - 1, by omega⟩
    simp only [spec_l1All.l0]
    rw [if_pos (by omega), if_pos (by omega), if_pos (by omega), l1In_ok, Option.bind_some, w64 (by omega) (by omega), drop_rd l j (by omega)]
    have := ih k (j + 1) (by omega) (by omega)
    by_cases h : inB lo hi (rd l (j : Int)) = true
    · rw [if_pos h, List.all_cons, h, Bool.true_and]
      exact this
    · rw [if_neg h, List.all_cons, Bool.eq_false_iff.mpr h, Bool.false_and]
theorem l1All_ok (l : List Int) (lo hi : Int) (k : Nat) (hl : l.length ≤ 1048576) (hk : 2000000 ≤ k) : spec_l1All.f k l lo hi = some (l.all (inB lo hi)) := by
  unfold spec_l1All.f
  exact l1All_l0 l lo hi hl l.length k 0 (by omega) (by omega)
theorem areWithin_ok (l : List Int) (lo hi : Int) (hl : l.length ≤ 1048576) : impl_areWithin.f l lo hi = some (l.all (inB lo hi)) := by
  unfold impl_areWithin.f
  rw [if_pos (by omega)]

end Go.Proofs.Ytcalhmjnoahliaa.Pure
