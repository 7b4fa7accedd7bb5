/- What the basins of a row hold together, as program and reference reckon it. It holds for all inputs that the statement lets in. -/
import Derived.Test.YtcalhmjnoahliaaLibBS
import Derived.Test.YtcalhmjnoahliaaLibW
import Derived.Test.YtcalhmjnoahliaaPr15
namespace Go.Proofs.Ytcalhmjnoahliaa.Pure
open Go.RowKit Go.Proofs.Ytcalhmjnoahliaa.Pr Go.Proofs.YtcalhmjnoahliaaW.PrintWords Go.Proofs.YtcalhmjnoahliaaW.PrintLast
set_option linter.unusedVariables false
set_option linter.unusedSimpArgs false

def bsum (acc : Int) (l : List BI) : Int := l.foldl (fun s x => wrap64 (s + x.f2)) acc
theorem weHeld_l0 (l : List BI) (hl : l.length ≤ 1048576) : ∀ (d k : Nat) (acc : Int) (j : Nat), l.length - j = d → d < k → spec_weHeld.l0 k acc l (l.length : Int) (j : Int) = some (bsum acc (l.drop j)) := by
  intro d
  induction d with
  | zero =>
    intro k acc j hd hk
    obtain ⟨k, rfl⟩ : ∃ m, k = m + 1 := ⟨k - 1, by omega⟩
    simp only [spec_weHeld.l0]
    rw [if_neg (by omega), List.drop_of_length_le (by omega)]
    rfl
  | succ d ih =>
    intro k acc j hd hk
    obtain ⟨k, rfl⟩ : ∃ m, k = m + 1 := ⟨k - 1, by omega⟩
    simp only [spec_weHeld.l0]
    rw [if_pos (by omega), if_pos (by omega), if_pos (by omega), w64 (i := (j : Int) + 1) (by omega) (by omega), drop_rdB l j (by omega)]
    exact ih k _ (j + 1) (by omega) (by omega)
theorem weHeld_ok (l : List BI) (k : Nat) (hl : l.length ≤ 1048576) (hk : 2000000 ≤ k) : spec_weHeld.f k l = some (bsum 0 l) := by
  unfold spec_weHeld.f
  exact weHeld_l0 l hl l.length k 0 0 (by omega) (by omega)
theorem heldIn_l0 (l : List BI) (hl : l.length ≤ 1048576) : ∀ (d k : Nat) (acc : Int) (j : Nat), l.length - j = d → d < k → impl_heldIn.l0 k acc l (l.length : Int) (j : Int) = some (bsum acc (l.drop j)) := by
  intro d
  induction d with
  | zero =>
    intro k acc j hd hk
    obtain ⟨k, rfl⟩ : ∃ m, k = m + 1 := ⟨k - 1, by omega⟩
    simp only [impl_heldIn.l0]
    rw [if_neg (by omega), List.drop_of_length_le (by omega)]
    rfl
  | succ d ih =>
    intro k acc j hd hk
    obtain ⟨k, rfl⟩ : ∃ m, k = m + 1 := ⟨k - 1, by omega⟩
    simp only [impl_heldIn.l0]
    rw [if_pos (by omega), if_pos (by omega), if_pos (by omega), w64 (i := (j : Int) + 1) (by omega) (by omega), drop_rdB l j (by omega)]
    exact ih k _ (j + 1) (by omega) (by omega)
theorem heldIn_ok (l : List BI) (k : Nat) (hl : l.length ≤ 1048576) (hk : 2000000 ≤ k) : impl_heldIn.f k l = some (bsum 0 l) := by
  unfold impl_heldIn.f
  exact heldIn_l0 l hl l.length k 0 0 (by omega) (by omega)

end Go.Proofs.Ytcalhmjnoahliaa.Pure
