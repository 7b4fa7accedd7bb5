/- slices.Concat of a few short lists is what they make up together. -/
import Derived.Test.YtcalhmjnoahliaaLibBS
import Derived.Test.YtcalhmjnoahliaaLibW
import Derived.Test.YtcalhmjnoahliaaPr0
import Derived.Test.YtcalhmjnoahliaaPr26
namespace Go.Proofs.Ytcalhmjnoahliaa.Pure
open Go.RowKit Go.Proofs.Ytcalhmjnoahliaa.Pr Go.Proofs.YtcalhmjnoahliaaW.PrintWords Go.Proofs.YtcalhmjnoahliaaW.PrintLast
set_option linter.unusedVariables false
set_option linter.unusedSimpArgs false

theorem growB_ok (n : Int) (h0 : 0 ≤ n) (h1 : n ≤ 1000) : slices_Grow_impl_Basin_impl_Basin_nil.f () n = some [] := by
  unfold slices_Grow_impl_Basin_impl_Basin_nil.f
  rw [w64 (i := n) (by omega) (by omega), if_neg (by omega)]
  by_cases h : n > 0
  · rw [if_pos h, if_pos h0, if_pos (by simp only [List.length_nil]; omega), Option.bind_some, if_pos (by omega)]
    simp
  · rw [if_neg h]
theorem drop_ccB (x : List (List BI)) (j : Nat) (h : j < x.length) : x.drop j = rd_L4 x (j : Int) :: x.drop (j + 1) := by
  rw [List.drop_eq_getElem_cons h]
  simp [rd_L4, h]
theorem ccB_l1 (xs : List (List BI)) (hx : ∀ r ∈ xs, r.length ≤ 100) (hl : xs.length ≤ 5) : ∀ (d k : Nat) (o : List BI) (j : Nat), xs.length - j = d → d < k → o.length ≤ 100 * j →
    impl_Basin_71.l1 k o xs (xs.length : Int) (j : Int) = some (o ++ (xs.drop j).flatten) := by
  intro d
  induction d with
  | zero =>
    intro k o j hd hk ho
    obtain ⟨k, rfl⟩ : ∃ m, k = m + 1 := ⟨k - 1, by omega⟩
    simp only [impl_Basin_71.l1]
    rw [if_neg (by omega), List.drop_of_length_le (by omega)]
    simp
  | succ d ih =>
    intro k o j hd hk ho
    obtain ⟨k, rfl⟩ : ∃ m, k = m + 1 := ⟨k - 1, by omega⟩
    have e := drop_ccB xs j (by omega)
    have hm := hx (rd_L4 xs (j : Int)) (List.mem_of_mem_drop (by rw [e]; exact List.mem_cons_self))
    simp only [impl_Basin_71.l1]
    rw [if_pos (by omega), if_pos (by omega), if_pos (by omega), if_pos (by omega), w64 (i := (j : Int) + 1) (by omega) (by omega), show (j : Int) + 1 = ((j + 1 : Nat) : Int) by omega, ih k _ (j + 1) (by omega) (by omega) (by rw [List.length_append]; omega), e]
    simp
theorem ccB_l0 (xs : List (List BI)) (hx : ∀ r ∈ xs, r.length ≤ 100) (hl : xs.length ≤ 5) : ∀ (d k : Nat) (s : Int) (j : Nat), xs.length - j = d → d + 20 < k → 0 ≤ s → s ≤ 100 * (j : Int) → j ≤ xs.length →
    impl_Basin_71.l0 k xs s xs (xs.length : Int) (j : Int) = some xs.flatten := by
  intro d
  induction d with
  | zero =>
    intro k s j hd hk h0 h1 hj
    obtain ⟨k, rfl⟩ : ∃ m, k = m + 1 := ⟨k - 1, by omega⟩
    simp only [impl_Basin_71.l0]
    rw [if_neg (by omega), growB_ok s h0 (by omega), Option.bind_some]
    have := ccB_l1 xs hx hl xs.length k [] 0 (by omega) (by omega) (by simp)
    simpa using this
  | succ d ih =>
    intro k s j hd hk h0 h1 hj
    obtain ⟨k, rfl⟩ : ∃ m, k = m + 1 := ⟨k - 1, by omega⟩
    have e := drop_ccB xs j (by omega)
    have hm := hx (rd_L4 xs (j : Int)) (List.mem_of_mem_drop (by rw [e]; exact List.mem_cons_self))
    simp only [impl_Basin_71.l0]
    rw [if_pos (by omega), if_pos (by omega), if_pos (by omega), w64 (i := s + ((rd_L4 xs (j : Int)).length : Int)) (by omega) (by omega), if_neg (by omega), w64 (i := (j : Int) + 1) (by omega) (by omega), show (j : Int) + 1 = ((j + 1 : Nat) : Int) by omega]
    exact ih k _ (j + 1) (by omega) (by omega) (by omega) (by omega) (by omega)
theorem concatB_ok (a b : List BI) (k : Nat) (ha : a.length ≤ 100) (hb : b.length ≤ 100) (hk : 100 ≤ k) : impl_Basin_71.f k [a, b] = some (a ++ b) := by
  unfold impl_Basin_71.f
  have := ccB_l0 [a, b] (by simp [ha, hb]) (by simp) 2 k 0 0 (by simp) (by omega) (by omega) (by omega) (by simp)
  refine Eq.trans this ?_
  simp

end Go.Proofs.Ytcalhmjnoahliaa.Pure
