/- Comparing, marking lists of numbers, and holding them against marks (the seat that copies no list). Each names its own conditions. -/
import Derived.Test.YtbpkfdclplcbaaaLibW
import Derived.Test.YtbpkfdclplcbaaaPr21
namespace Go.Proofs.Ytbpkfdclplcbaaa.Pure
open Go.RowKit Go.Proofs.Ytbpkfdclplcbaaa.Pr Go.Proofs.YtbpkfdclplcbaaaW.PrintWords Go.Proofs.YtbpkfdclplcbaaaW.PrintLast
set_option linter.unusedVariables false
set_option linter.unusedSimpArgs false

theorem rd_natE (l : List Int) (j : Nat) (h : j < l.length) : rd l (j : Int) = l[j] := by simp [rd, h]
/-! ### comparing -/
theorem eqIntS_l0E (l : List Int) (hl : l.length ≤ 1048576) : ∀ (d k j : Nat), l.length - j = d → d < k → laws_eqIntS.l0 k l l (j : Int) = some true := by
  intro d
  induction d with
  | zero =>
    intro k j hd hk
    obtain ⟨k, rfl⟩ : ∃ m, k = m + 1 := ⟨k - 1, by omega⟩
    simp only [laws_eqIntS.l0]
    rw [if_neg (by omega)]
  | succ d ih =>
    intro k j hd hk
    obtain ⟨k, rfl⟩ : ∃ m, k = m + 1 := ⟨k - 1, by omega⟩
    simp only [laws_eqIntS.l0]
    rw [if_pos (by omega), if_pos (by omega), if_pos (by omega), if_pos trivial, w64 (by omega) (by omega)]
    exact ih k (j + 1) (by omega) (by omega)
theorem eqIntS_okE (l : List Int) (k : Nat) (hl : l.length ≤ 1048576) (hk : 2000000 ≤ k) : laws_eqIntS.f k l l = some true := by
  unfold laws_eqIntS.f
  rw [if_pos rfl]
  exact eqIntS_l0E l hl l.length k 0 (by omega) (by omega)

/-- n numbers, from a on. -/
def sqE (a : Int) (n : Nat) : List Int := (List.range n).map (fun m : Nat => a + (m : Int))
theorem sq_lengthE (a : Int) (n : Nat) : (sqE a n).length = n := by simp [sqE]
theorem sq_getE (a : Int) (n m : Nat) (h : m < n) : (sqE a n)[m]? = some (a + (m : Int)) := by simp [sqE, h]
theorem markIntS_l0E (a : Int) (n : Nat) (ha0 : 0 ≤ a) (ha1 : a ≤ 1000000000000) (hn : n ≤ 1048576) : ∀ (d k : Nat) (x : List Int) (j : Nat), n - j = d → d < k → j ≤ n → x.length = n →
    (∀ m, m < j → x[m]? = some (a + (m : Int))) → laws_markIntS.l0 k x (a + (j : Int)) (j : Int) = some (a + (n : Int), sqE a n) := by
  intro d
  induction d with
  | zero =>
    intro k x j hd hk hj hlen hm
    obtain ⟨k, rfl⟩ : ∃ m, k = m + 1 := ⟨k - 1, by omega⟩
    simp only [laws_markIntS.l0]
    rw [if_neg (by omega)]
    have e : j = n := by omega
    subst e
    congr 2
    apply List.ext_getElem?
    intro i
    by_cases h : i < j
    · rw [hm i h, sq_getE a j i h]
    · rw [List.getElem?_eq_none (by omega), List.getElem?_eq_none (by rw [sq_lengthE]; omega)]
  | succ d ih =>
    intro k x j hd hk hj hlen hm
    obtain ⟨k, rfl⟩ : ∃ m, k = m + 1 := ⟨k - 1, by omega⟩
    simp only [laws_markIntS.l0]
    rw [if_pos (by omega), if_pos (by omega), w64 (by omega) (by omega), w64 (by omega) (by omega)]
    have e : ((j : Int)).toNat = j := by omega
    rw [e]
    have := ih k (x.set j (a + (j : Int))) (j + 1) (by omega) (by omega) (by omega) (by simpa using hlen) ?_
    · rw [show a + (j : Int) + 1 = a + ((j + 1 : Nat) : Int) by omega, show (j : Int) + 1 = ((j + 1 : Nat) : Int) by omega]
      exact this
    · intro m h
      by_cases hmj : m = j
      · subst hmj
        rw [List.getElem?_set_self (by omega)]
      · rw [List.getElem?_set_ne (by omega)]
        exact hm m (by omega)
theorem markIntS_okE (l : List Int) (a : Int) (k : Nat) (hl : l.length ≤ 1048576) (ha0 : 0 ≤ a) (ha1 : a ≤ 1000000000000) (hk : 2000000 ≤ k) :
    laws_markIntS.f k l a = some (a + (l.length : Int), sqE a l.length) := by
  unfold laws_markIntS.f
  have := markIntS_l0E a l.length ha0 ha1 hl l.length k l 0 (by omega) (by omega) (by omega) rfl (fun m h => by omega)
  simpa using this
theorem heldIntS_l0E (a : Int) (n : Nat) (ha0 : 0 ≤ a) (ha1 : a ≤ 1000000000000) (hn : n ≤ 1048576) : ∀ (d k : Nat) (j : Nat), n - j = d → d < k → j ≤ n →
    laws_heldIntS.l0 k (sqE a n) (a + (j : Int)) (j : Int) = some (a + (n : Int)) := by
  intro d
  induction d with
  | zero =>
    intro k j hd hk hj
    obtain ⟨k, rfl⟩ : ∃ m, k = m + 1 := ⟨k - 1, by omega⟩
    simp only [laws_heldIntS.l0, sq_lengthE]
    rw [if_neg (by omega)]
    have e : j = n := by omega
    rw [e]
  | succ d ih =>
    intro k j hd hk hj
    obtain ⟨k, rfl⟩ : ∃ m, k = m + 1 := ⟨k - 1, by omega⟩
    simp only [laws_heldIntS.l0, sq_lengthE]
    have e : rd (sqE a n) (j : Int) = a + (j : Int) := by
      rw [rd_natE _ _ (by rw [sq_lengthE]; omega)]
      simp [sqE]
    rw [if_pos (by omega), if_pos (by omega), if_pos e, w64 (by omega) (by omega), w64 (by omega) (by omega)]
    have := ih k (j + 1) (by omega) (by omega) (by omega)
    rw [show a + (j : Int) + 1 = a + ((j + 1 : Nat) : Int) by omega, show (j : Int) + 1 = ((j + 1 : Nat) : Int) by omega]
    exact this
theorem heldIntS_okE (a : Int) (n k : Nat) (hn : n ≤ 1048576) (ha0 : 0 ≤ a) (ha1 : a ≤ 1000000000000) (hk : 2000000 ≤ k) :
    laws_heldIntS.f k (sqE a n) a = some (a + (n : Int)) := by
  unfold laws_heldIntS.f
  have := heldIntS_l0E a n ha0 ha1 hn n k 0 (by omega) (by omega) (by omega)
  simpa using this


end Go.Proofs.Ytbpkfdclplcbaaa.Pure
