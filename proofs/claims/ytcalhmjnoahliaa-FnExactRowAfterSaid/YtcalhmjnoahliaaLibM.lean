/- Facts on marking a list of numbers and looking whether the marks are held. Each names its own conditions. -/
import Derived.Test.YtcalhmjnoahliaaLibA
import Derived.Test.YtcalhmjnoahliaaLibW
import Derived.Test.YtcalhmjnoahliaaPr13
import Derived.Test.YtcalhmjnoahliaaPr14
namespace Go.Proofs.Ytcalhmjnoahliaa.Pure
open Go.RowKit Go.Proofs.Ytcalhmjnoahliaa.Pr Go.Proofs.YtcalhmjnoahliaaW.PrintWords Go.Proofs.YtcalhmjnoahliaaW.PrintLast
set_option linter.unusedVariables false
set_option linter.unusedSimpArgs false

/-- n numbers, from a on. -/
def sq (a : Int) (n : Nat) : List Int := (List.range n).map (fun m : Nat => a + (m : Int))
theorem sq_length (a : Int) (n : Nat) : (sq a n).length = n := by simp [sq]
theorem sq_get (a : Int) (n m : Nat) (h : m < n) : (sq a n)[m]? = some (a + (m : Int)) := by simp [sq, h]
theorem markIntS_l0 (a : Int) (n : Nat) (ha0 : 0 ≤ a) (ha1 : a ≤ 1000000000000) (hn : n ≤ 1048576) : ∀ (d k : Nat) (x : List Int) (j : Nat), n - j = d → d < k → j ≤ n → x.length = n →
    (∀ m, m < j → x[m]? = some (a + (m : Int))) → laws_markIntS.l0 k x (a + (j : Int)) (j : Int) = some (a + (n : Int), sq a n) := by
  intro d
  induction d with
  | zero =>
    intro k x j hd hk hj hlen hm
    obtain ⟨k, rfl⟩ : ∃ m, k = m + 1 := ⟨k - 1, by omega⟩
    simp only [laws_markIntS.l0]
    rw [if_neg (by omega)]
    have e : j = n := by omega
    subst e
    congr 2
    apply List.ext_getElem?
    intro i
    by_cases h : i < j
    · rw [hm i h, sq_get a j i h]
    · rw [List.getElem?_eq_none (by omega), List.getElem?_eq_none (by rw [sq_length]; omega)]
  | succ d ih =>
    intro k x j hd hk hj hlen hm
    obtain ⟨k, rfl⟩ : ∃ m, k = m + 1 := ⟨k - 1, by omega⟩
    simp only [laws_markIntS.l0]
    rw [if_pos (by omega), if_pos (by omega), w64 (by omega) (by omega), w64 (by omega) (by omega)]
    have e : ((j : Int)).toNat = j := by omega
    rw [e]
    have := ih k (x.set j (a + (j : Int))) (j + 1) (by omega) (by omega) (by omega) (by simpa using hlen) ?_
    · rw [show a + (j : Int) + 1 = a + ((j + 1 : Nat) : Int) by omega, show (j : Int) + 1 = ((j + 1 : Nat) : Int) by omega]
      exact this
    · intro m h
      by_cases hmj : m = j
      · subst hmj
        rw [List.getElem?_set_self (by omega)]
      · rw [List.getElem?_set_ne (by omega)]
        exact hm m (by omega)
theorem markIntS_ok (l : List Int) (a : Int) (k : Nat) (hl : l.length ≤ 1048576) (ha0 : 0 ≤ a) (ha1 : a ≤ 1000000000000) (hk : 2000000 ≤ k) :
    laws_markIntS.f k l a = some (a + (l.length : Int), sq a l.length) := by
  unfold laws_markIntS.f
  have := markIntS_l0 a l.length ha0 ha1 hl l.length k l 0 (by omega) (by omega) (by omega) rfl (fun m h => by omega)
  simpa using this
theorem heldIntS_l0 (a : Int) (n : Nat) (ha0 : 0 ≤ a) (ha1 : a ≤ 1000000000000) (hn : n ≤ 1048576) : ∀ (d k : Nat) (j : Nat), n - j = d → d < k → j ≤ n →
    laws_heldIntS.l0 k (sq a n) (a + (j : Int)) (j : Int) = some (a + (n : Int)) := by
  intro d
  induction d with
  | zero =>
    intro k j hd hk hj
    obtain ⟨k, rfl⟩ : ∃ m, k = m + 1 := ⟨k - 1, by omega⟩
    simp only [laws_heldIntS.l0, sq_length]
    rw [if_neg (by omega)]
    have e : j = n := by omega
    rw [e]
  | succ d ih =>
    intro k j hd hk hj
    obtain ⟨k, rfl⟩ : ∃ m, k = m + 1 := ⟨k - 1, by omega⟩
    simp only [laws_heldIntS.l0, sq_length]
    have e : rd (sq a n) (j : Int) = a + (j : Int) := by
      rw [rd_nat _ _ (by rw [sq_length]; omega)]
      simp [sq]
    rw [if_pos (by omega), if_pos (by omega), if_pos e, w64 (by omega) (by omega), w64 (by omega) (by omega)]
    have := ih k (j + 1) (by omega) (by omega) (by omega)
    rw [show a + (j : Int) + 1 = a + ((j + 1 : Nat) : Int) by omega, show (j : Int) + 1 = ((j + 1 : Nat) : Int) by omega]
    exact this
theorem heldIntS_ok (a : Int) (n k : Nat) (hn : n ≤ 1048576) (ha0 : 0 ≤ a) (ha1 : a ≤ 1000000000000) (hk : 2000000 ≤ k) :
    laws_heldIntS.f k (sq a n) a = some (a + (n : Int)) := by
  unfold laws_heldIntS.f
  have := heldIntS_l0 a n ha0 ha1 hn n k 0 (by omega) (by omega) (by omega)
  simpa using this

end Go.Proofs.Ytcalhmjnoahliaa.Pure
