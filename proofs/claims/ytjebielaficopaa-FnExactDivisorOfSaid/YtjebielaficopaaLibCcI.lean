/- slices.Concat of a few short lists is what they make up together. -/
import Derived.Test.YtjebielaficopaaLibW
import Derived.Test.YtjebielaficopaaPr0
import Derived.Test.YtjebielaficopaaPr8
namespace Go.Proofs.Ytjebielaficopaa.Pure
open Go.RowKit Go.Proofs.Ytjebielaficopaa.Pr Go.Proofs.YtjebielaficopaaW.PrintWords Go.Proofs.YtjebielaficopaaW.PrintLast
set_option linter.unusedVariables false
set_option linter.unusedSimpArgs false

theorem growI_ok (n : Int) (h0 : 0 ≤ n) (h1 : n ≤ 1000) : slices_Grow_int_int_nil.f () n = some [] := by
  unfold slices_Grow_int_int_nil.f
  rw [w64 (i := n) (by omega) (by omega), if_neg (by omega)]
  by_cases h : n > 0
  · rw [if_pos h, if_pos h0, if_pos (by simp only [List.length_nil]; omega), Option.bind_some, if_pos (by omega)]
    simp
  · rw [if_neg h]
theorem drop_ccI (x : List (List Int)) (j : Nat) (h : j < x.length) : x.drop j = rd_L1 x (j : Int) :: x.drop (j + 1) := by
  rw [List.drop_eq_getElem_cons h]
  simp [rd_L1, h]
theorem ccI_l1 (xs : List (List Int)) (hx : ∀ r ∈ xs, r.length ≤ 100) (hl : xs.length ≤ 5) : ∀ (d k : Nat) (o : List Int) (j : Nat), xs.length - j = d → d < k → o.length ≤ 100 * j →
    slices_Concat_int_int.l1 k o xs (xs.length : Int) (j : Int) = some (o ++ (xs.drop j).flatten) := by
  intro d
  induction d with
  | zero =>
    intro k o j hd hk ho
    obtain ⟨k, rfl⟩ : ∃ m, k = m + 1 := ⟨k - 1, by omega⟩
    simp only [slices_Concat_int_int.l1]
    rw [if_neg (by omega), List.drop_of_length_le (by omega)]
    simp
  | succ d ih =>
    intro k o j hd hk ho
    obtain ⟨k, rfl⟩ : ∃ m, k = m + 1 := ⟨k - 1, by omega⟩
    have e := drop_ccI xs j (by omega)
    have hm := hx (rd_L1 xs (j : Int)) (List.mem_of_mem_drop (by rw [e]; exact List.mem_cons_self))
    simp only [slices_Concat_int_int.l1]
    rw [if_pos (by omega), if_pos (by omega), if_pos (by omega), if_pos (by omega), w64 (i := (j : Int) + 1) (by omega) (by omega), show (j : Int) + 1 = ((j + 1 : Nat) : Int) by omega, ih k _ (j + 1) (by omega) (by omega) (by rw [List.length_append]; omega), e]
    simp
theorem ccI_l0 (xs : List (List Int)) (hx : ∀ r ∈ xs, r.length ≤ 100) (hl : xs.length ≤ 5) : ∀ (d k : Nat) (s : Int) (j : Nat), xs.length - j = d → d + 20 < k → 0 ≤ s → s ≤ 100 * (j : Int) → j ≤ xs.length →
    slices_Concat_int_int.l0 k xs s xs (xs.length : Int) (j : Int) = some xs.flatten := by
  intro d
  induction d with
  | zero =>
    intro k s j hd hk h0 h1 hj
    obtain ⟨k, rfl⟩ : ∃ m, k = m + 1 := ⟨k - 1, by omega⟩
    simp only [slices_Concat_int_int.l0]
    rw [if_neg (by omega), growI_ok s h0 (by omega), Option.bind_some]
    have := ccI_l1 xs hx hl xs.length k [] 0 (by omega) (by omega) (by simp)
    simpa using this
  | succ d ih =>
    intro k s j hd hk h0 h1 hj
    obtain ⟨k, rfl⟩ : ∃ m, k = m + 1 := ⟨k - 1, by omega⟩
    have e := drop_ccI xs j (by omega)
    have hm := hx (rd_L1 xs (j : Int)) (List.mem_of_mem_drop (by rw [e]; exact List.mem_cons_self))
    simp only [slices_Concat_int_int.l0]
    rw [if_pos (by omega), if_pos (by omega), if_pos (by omega), w64 (i := s + ((rd_L1 xs (j : Int)).length : Int)) (by omega) (by omega), if_neg (by omega), w64 (i := (j : Int) + 1) (by omega) (by omega), show (j : Int) + 1 = ((j + 1 : Nat) : Int) by omega]
    exact ih k _ (j + 1) (by omega) (by omega) (by omega) (by omega) (by omega)
theorem concatI_ok (a b : List Int) (k : Nat) (ha : a.length ≤ 100) (hb : b.length ≤ 100) (hk : 100 ≤ k) : slices_Concat_int_int.f k [a, b] = some (a ++ b) := by
  unfold slices_Concat_int_int.f
  have := ccI_l0 [a, b] (by simp [ha, hb]) (by simp) 2 k 0 0 (by simp) (by omega) (by omega) (by omega) (by simp)
  refine Eq.trans this ?_
  simp

end Go.Proofs.Ytjebielaficopaa.Pure
