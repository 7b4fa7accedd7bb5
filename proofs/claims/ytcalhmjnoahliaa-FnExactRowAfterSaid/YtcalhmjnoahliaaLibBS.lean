/- Rows of basins: copying, comparing, what program and reference say of them, for at most 1048576 of them. -/
import Derived.Test.YtcalhmjnoahliaaLibW
import Derived.Test.YtcalhmjnoahliaaPr0
import Derived.Test.YtcalhmjnoahliaaPr3
import Derived.Test.YtcalhmjnoahliaaPr4
namespace Go.Proofs.Ytcalhmjnoahliaa.Pure
open Go.RowKit Go.Proofs.Ytcalhmjnoahliaa.Pr Go.Proofs.YtcalhmjnoahliaaW.PrintWords Go.Proofs.YtcalhmjnoahliaaW.PrintLast
set_option linter.unusedVariables false
set_option linter.unusedSimpArgs false

abbrev BL := S61
abbrev BI := S59
def basinB (z o h : Int) : Bool := inR 1 1000 z && (inR 0 1000 o && inR 0 z h)
theorem basinB_get {z o h : Int} (hb : basinB z o h = true) : 1 ≤ z ∧ z ≤ 1000 ∧ 0 ≤ o ∧ o ≤ 1000 ∧ 0 ≤ h ∧ h ≤ z := by
  unfold basinB at hb
  rw [Bool.and_eq_true, Bool.and_eq_true, inR_iff, inR_iff, inR_iff] at hb
  omega
theorem weBasin_ok (z o h : Int) : spec_weBasin.f z o h = some (basinB z o h) := by
  unfold spec_weBasin.f basinB
  simp only [l1In_okR, Option.bind_some]
  by_cases h1 : inR 1 1000 z = true
  · by_cases h2 : inR 0 1000 o = true
    · simp [h1, h2]
    · simp [h1, h2]
  · simp [h1]
def bconv (l : List BL) : List BI := l.map (fun x => ⟨x.f0, x.f1, x.f2⟩)
theorem bconv_length (l : List BL) : (bconv l).length = l.length := by simp [bconv]
theorem szBasinS_ok (l : List BL) (hl : l.length ≤ maxLen) : laws_szBasinS.f l 1048576 = some (if l.length ≤ 1048576 then (1048576 : Int) - (l.length : Int) else -1) := by
  unfold maxLen at hl
  unfold laws_szBasinS.f
  rw [w64 (by omega) (by omega)]
  by_cases h : (1048576 : Int) - (l.length : Int) < 0
  · rw [if_pos h, if_neg (by omega)]
  · rw [if_neg h, if_pos (by omega)]
theorem toBasinS_l0 (x0 : List BL) (hl : x0.length ≤ 1048576) : ∀ (d k : Nat) (x3 : List BI) (j : Nat), x0.length - j = d → d < k → j ≤ x0.length → x3.length = x0.length →
    (∀ m, m < j → x3[m]? = (bconv x0)[m]?) → laws_toBasinS.l0 k x0 x3 (j : Int) = some (bconv x0) := by
  intro d
  induction d with
  | zero =>
    intro k x3 j hd hk hj hlen hm
    obtain ⟨k, rfl⟩ : ∃ m, k = m + 1 := ⟨k - 1, by omega⟩
    simp only [laws_toBasinS.l0]
    rw [if_neg (by omega)]
    congr 1
    apply List.ext_getElem?
    intro i
    by_cases h : i < j
    · exact hm i h
    · rw [List.getElem?_eq_none (by omega), List.getElem?_eq_none (by rw [bconv_length]; omega)]
  | succ d ih =>
    intro k x3 j hd hk hj hlen hm
    obtain ⟨k, rfl⟩ : ∃ m, k = m + 1 := ⟨k - 1, by omega⟩
    simp only [laws_toBasinS.l0, laws_toBasin.f, Option.bind_some]
    rw [if_pos (by omega), if_pos (by omega), if_pos (by omega), w64 (by omega) (by omega)]
    refine ih k _ (j + 1) (by omega) (by omega) (by omega) (by simpa using hlen) ?_
    intro m h
    have e : ((j : Int)).toNat = j := by omega
    rw [e]
    by_cases hmj : m = j
    · subst hmj
      rw [List.getElem?_set_self (by omega)]
      have hm' : m < x0.length := by omega
      simp [bconv, rd_T61, hm']
    · rw [List.getElem?_set_ne (by omega)]
      exact hm m (by omega)
theorem toBasinS_ok (l : List BL) (k : Nat) (hl : l.length ≤ 1048576) (hk : 2000000 ≤ k) : laws_toBasinS.f k l = some (bconv l) := by
  unfold laws_toBasinS.f
  rw [if_pos (by omega), if_pos (by omega)]
  have := toBasinS_l0 l hl (l.length) k (List.replicate l.length z59) 0 (by omega) (by omega) (by omega) (by simp) (fun m h => by omega)
  simpa using this
theorem eqBasinS_l0 (l : List BI) (hl : l.length ≤ 1048576) : ∀ (d k j : Nat), l.length - j = d → d < k → laws_eqBasinS.l0 k l l (j : Int) = some true := by
  intro d
  induction d with
  | zero =>
    intro k j hd hk
    obtain ⟨k, rfl⟩ : ∃ m, k = m + 1 := ⟨k - 1, by omega⟩
    simp only [laws_eqBasinS.l0]
    rw [if_neg (by omega)]
  | succ d ih =>
    intro k j hd hk
    obtain ⟨k, rfl⟩ : ∃ m, k = m + 1 := ⟨k - 1, by omega⟩
    simp only [laws_eqBasinS.l0]
    rw [if_pos (by omega), if_pos (by omega), if_pos (by omega), laws_eqBasin.f, if_pos rfl, if_pos rfl, if_pos rfl, Option.bind_some, if_pos rfl, w64 (by omega) (by omega)]
    exact ih k (j + 1) (by omega) (by omega)
theorem eqBasinS_ok (l : List BI) (k : Nat) (hl : l.length ≤ 1048576) (hk : 2000000 ≤ k) : laws_eqBasinS.f k l l = some true := by
  unfold laws_eqBasinS.f
  rw [if_pos rfl]
  exact eqBasinS_l0 l hl l.length k 0 (by omega) (by omega)
theorem drop_rdB (l : List BI) (j : Nat) (h : j < l.length) : l.drop j = rd_T59 l (j : Int) :: l.drop (j + 1) := by
  rw [List.drop_eq_getElem_cons h]
  simp [rd_T59, h]
def rowB (l : List BI) : Bool := inR 1 6 (l.length : Int) && l.all (fun x => basinB x.f0 x.f1 x.f2)
theorem weRow_l0 (l : List BI) (hl : l.length ≤ 1048576) : ∀ (d k j : Nat), l.length - j = d → d < k → spec_weRow.l0 k l (l.length : Int) (j : Int) = some ((l.drop j).all (fun x => basinB x.f0 x.f1 x.f2)) := by
  intro d
  induction d with
  | zero =>
    intro k j hd hk
    obtain ⟨k, rfl⟩ : ∃ m, k = m + 1 := ⟨k - 1, by omega⟩
    simp only [spec_weRow.l0]
    rw [if_neg (by omega), List.drop_of_length_le (by omega)]
    rfl
  | succ d ih =>
    intro k j hd hk
    obtain ⟨k, rfl⟩ : ∃ m, k = m + 1 := ⟨k - 1, by omega⟩
    simp only [spec_weRow.l0]
    rw [if_pos (by omega), if_pos (by omega), if_pos (by omega), weBasin_ok, Option.bind_some, w64 (i := (j : Int) + 1) (by omega) (by omega), drop_rdB l j (by omega), List.all_cons]
    have := ih k (j + 1) (by omega) (by omega)
    generalize rd_T59 l (j : Int) = x
    by_cases h : basinB x.f0 x.f1 x.f2 = true
    · rw [if_pos h, h, Bool.true_and]
      exact this
    · rw [if_neg h, Bool.eq_false_iff.mpr h, Bool.false_and]
theorem weRow_ok (l : List BI) (k : Nat) (hl : l.length ≤ 1048576) (hk : 2000000 ≤ k) : spec_weRow.f k l = some (rowB l) := by
  unfold spec_weRow.f rowB
  rw [l1In_okR, Option.bind_some]
  by_cases h : inR 1 6 (l.length : Int) = true
  · rw [if_pos h, h, Bool.true_and]
    exact weRow_l0 l hl l.length k 0 (by omega) (by omega)
  · rw [if_neg h, Bool.eq_false_iff.mpr h, Bool.false_and]
theorem IsRow_p_eq (x : BI) : IsRow_p x = basinB x.f0 x.f1 x.f2 := by
  unfold IsRow_p basinB inR
  simp only [Bool.and_assoc]
theorem IsRow_ok (l : List BI) (hl : l.length ≤ 1048576) : impl_IsRow.f l = some (rowB l) := by
  unfold impl_IsRow.f rowB
  rw [if_pos (by omega)]
  have e : decide (1 ≤ l.length ∧ l.length ≤ 6) = inR 1 6 (l.length : Int) := by
    unfold inR
    rw [Bool.eq_iff_iff]
    simp
    omega
  have e2 : IsRow_p = fun x : BI => basinB x.f0 x.f1 x.f2 := funext IsRow_p_eq
  rw [e, e2]
theorem rowB_get {l : List BI} (h : rowB l = true) : 1 ≤ l.length ∧ l.length ≤ 6 ∧ ∀ x ∈ l, basinB x.f0 x.f1 x.f2 = true := by
  unfold rowB at h
  rw [Bool.and_eq_true, inR_iff, List.all_eq_true] at h
  exact ⟨by omega, by omega, h.2⟩

end Go.Proofs.Ytcalhmjnoahliaa.Pure
