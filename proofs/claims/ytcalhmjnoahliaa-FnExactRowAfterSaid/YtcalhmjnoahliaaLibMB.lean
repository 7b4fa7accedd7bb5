/- Marking a row of basins and looking whether the marks are held. -/
import Derived.Test.YtcalhmjnoahliaaLibBS
import Derived.Test.YtcalhmjnoahliaaLibW
import Derived.Test.YtcalhmjnoahliaaPr0
import Derived.Test.YtcalhmjnoahliaaPr12
import Derived.Test.YtcalhmjnoahliaaPr17
namespace Go.Proofs.Ytcalhmjnoahliaa.Pure
open Go.RowKit Go.Proofs.Ytcalhmjnoahliaa.Pr Go.Proofs.YtcalhmjnoahliaaW.PrintWords Go.Proofs.YtcalhmjnoahliaaW.PrintLast
set_option linter.unusedVariables false
set_option linter.unusedSimpArgs false

/-- n basins of marks, from 1 on: three numbers each. -/
def sqB (n : Nat) : List BI := (List.range n).map (fun m : Nat => ⟨1 + 3 * (m : Int), 2 + 3 * (m : Int), 3 + 3 * (m : Int)⟩)
theorem sqB_length (n : Nat) : (sqB n).length = n := by simp [sqB]
theorem sqB_get (n m : Nat) (h : m < n) : (sqB n)[m]? = some ⟨1 + 3 * (m : Int), 2 + 3 * (m : Int), 3 + 3 * (m : Int)⟩ := by simp [sqB, h]
theorem rdB_set (l : List BI) (j : Nat) (x : BI) (h : j < l.length) : rd_T59 (l.set j x) (j : Int) = x := by
  simp [rd_T59, h]
theorem markBasinS_l0 (n : Nat) (hn : n ≤ 1048576) : ∀ (d k : Nat) (x : List BI) (j : Nat), n - j = d → d < k → j ≤ n → x.length = n →
    (∀ m, m < j → x[m]? = (sqB n)[m]?) → laws_markBasinS.l0 k x (1 + 3 * (j : Int)) (j : Int) = some (1 + 3 * (n : Int), sqB n) := by
  intro d
  induction d with
  | zero =>
    intro k x j hd hk hj hlen hm
    obtain ⟨k, rfl⟩ : ∃ m, k = m + 1 := ⟨k - 1, by omega⟩
    simp only [laws_markBasinS.l0]
    rw [if_neg (by omega)]
    have e : j = n := by omega
    subst e
    congr 2
    apply List.ext_getElem?
    intro i
    by_cases h : i < j
    · exact hm i h
    · rw [List.getElem?_eq_none (by omega), List.getElem?_eq_none (by rw [sqB_length]; omega)]
  | succ d ih =>
    intro k x j hd hk hj hlen hm
    obtain ⟨k, rfl⟩ : ∃ m, k = m + 1 := ⟨k - 1, by omega⟩
    simp only [laws_markBasinS.l0]
    have e : ((j : Int)).toNat = j := by omega
    have s0 : j < x.length := by omega
    simp only [Option.bind_some]
    rw [if_pos (by omega), if_pos (by omega), e, w64 (i := 1 + 3 * (j : Int) + 1) (by omega) (by omega), w64 (i := 1 + 3 * (j : Int) + 1 + 1) (by omega) (by omega), w64 (i := 1 + 3 * (j : Int) + 1 + 1 + 1) (by omega) (by omega), w64 (i := (j : Int) + 1) (by omega) (by omega)]
    simp only [rdB_set _ _ _ s0, List.set_set]
    have := ih k (x.set j ⟨1 + 3 * (j : Int), 1 + 3 * (j : Int) + 1, 1 + 3 * (j : Int) + 1 + 1⟩) (j + 1) (by omega) (by omega) (by omega) (by simpa using hlen) ?_
    · rw [show 1 + 3 * (j : Int) + 1 + 1 + 1 = 1 + 3 * ((j + 1 : Nat) : Int) by omega, show (j : Int) + 1 = ((j + 1 : Nat) : Int) by omega]
      exact this
    · intro m h
      by_cases hmj : m = j
      · subst hmj
        rw [List.getElem?_set_self (by omega), sqB_get n m (by omega), show 1 + 3 * (m : Int) + 1 + 1 = 3 + 3 * (m : Int) by omega, show 1 + 3 * (m : Int) + 1 = 2 + 3 * (m : Int) by omega]
      · rw [List.getElem?_set_ne (by omega)]
        exact hm m (by omega)
theorem markBasinS_ok (l : List BI) (k : Nat) (hl : l.length ≤ 1048576) (hk : 2000000 ≤ k) : laws_markBasinS.f k l 1 = some (1 + 3 * (l.length : Int), sqB l.length) := by
  unfold laws_markBasinS.f
  have := markBasinS_l0 l.length hl l.length k l 0 (by omega) (by omega) (by omega) rfl (fun m h => by omega)
  simpa using this
theorem heldBasinS_l0 (n : Nat) (hn : n ≤ 1048576) : ∀ (d k : Nat) (j : Nat), n - j = d → d < k → j ≤ n →
    laws_heldBasinS.l0 k (sqB n) (1 + 3 * (j : Int)) (j : Int) = some (1 + 3 * (n : Int)) := by
  intro d
  induction d with
  | zero =>
    intro k j hd hk hj
    obtain ⟨k, rfl⟩ : ∃ m, k = m + 1 := ⟨k - 1, by omega⟩
    simp only [laws_heldBasinS.l0, sqB_length]
    rw [if_neg (by omega)]
    have e : j = n := by omega
    rw [e]
  | succ d ih =>
    intro k j hd hk hj
    obtain ⟨k, rfl⟩ : ∃ m, k = m + 1 := ⟨k - 1, by omega⟩
    simp only [laws_heldBasinS.l0, sqB_length]
    have e : rd_T59 (sqB n) (j : Int) = ⟨1 + 3 * (j : Int), 2 + 3 * (j : Int), 3 + 3 * (j : Int)⟩ := by
      have hj' : j < n := by omega
      simp [rd_T59, sqB, hj']
    rw [e]
    simp only []
    rw [if_pos (by omega), if_pos (by omega), if_pos trivial, w64 (i := 1 + 3 * (j : Int) + 1) (by omega) (by omega), if_pos (by omega), w64 (i := 1 + 3 * (j : Int) + 1 + 1) (by omega) (by omega), if_pos (by omega), w64 (i := 1 + 3 * (j : Int) + 1 + 1 + 1) (by omega) (by omega), w64 (i := (j : Int) + 1) (by omega) (by omega)]
    have := ih k (j + 1) (by omega) (by omega) (by omega)
    rw [show 1 + 3 * (j : Int) + 1 + 1 + 1 = 1 + 3 * ((j + 1 : Nat) : Int) by omega, show (j : Int) + 1 = ((j + 1 : Nat) : Int) by omega]
    exact this
theorem heldBasinS_ok (n k : Nat) (hn : n ≤ 1048576) (hk : 2000000 ≤ k) : laws_heldBasinS.f k (sqB n) 1 = some (1 + 3 * (n : Int)) := by
  unfold laws_heldBasinS.f
  have := heldBasinS_l0 n hn n k 0 (by omega) (by omega) (by omega)
  simpa using this

end Go.Proofs.Ytcalhmjnoahliaa.Pure
