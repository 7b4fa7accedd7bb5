/- Lists of tanks: copying, comparing, what program and reference say of them, for at most 1048576 of them. -/
import Derived.Test.YtfaiegpkmohkdaaLibT
import Derived.Test.YtfaiegpkmohkdaaLibW
import Derived.Test.YtfaiegpkmohkdaaPr0
import Derived.Test.YtfaiegpkmohkdaaPr2
import Derived.Test.YtfaiegpkmohkdaaPr6
namespace Go.Proofs.Ytfaiegpkmohkdaa.Pure
open Go.RowKit Go.Proofs.Ytfaiegpkmohkdaa.Pr Go.Proofs.YtfaiegpkmohkdaaW.PrintWords Go.Proofs.YtfaiegpkmohkdaaW.PrintLast
set_option linter.unusedVariables false
set_option linter.unusedSimpArgs false

abbrev TL := S23
abbrev TI := S25
def tconv (l : List TL) : List TI := l.map (fun x => ⟨x.f0, x.f1, x.f2⟩)
theorem tconv_length (l : List TL) : (tconv l).length = l.length := by simp [tconv]
theorem szTankS_ok (l : List TL) (hl : l.length ≤ maxLen) : laws_szTankS.f l 1048576 = some (if l.length ≤ 1048576 then (1048576 : Int) - (l.length : Int) else -1) := by
  unfold maxLen at hl
  unfold laws_szTankS.f
  rw [w64 (by omega) (by omega)]
  by_cases h : (1048576 : Int) - (l.length : Int) < 0
  · rw [if_pos h, if_neg (by omega)]
  · rw [if_neg h, if_pos (by omega)]
theorem toTankS_l0 (x0 : List TL) (hl : x0.length ≤ 1048576) : ∀ (d k : Nat) (x3 : List TI) (j : Nat), x0.length - j = d → d < k → j ≤ x0.length → x3.length = x0.length →
    (∀ m, m < j → x3[m]? = (tconv x0)[m]?) → laws_toTankS.l0 k x0 x3 (j : Int) = some (tconv x0) := by
  intro d
  induction d with
  | zero =>
    intro k x3 j hd hk hj hlen hm
    obtain ⟨k, rfl⟩ : ∃ m, k = m + 1 := ⟨k - 1, by omega⟩
    simp only [laws_toTankS.l0]
    rw [if_neg (by omega)]
    congr 1
    apply List.ext_getElem?
    intro i
    by_cases h : i < j
    · exact hm i h
    · rw [List.getElem?_eq_none (by omega), List.getElem?_eq_none (by rw [tconv_length]; omega)]
  | succ d ih =>
    intro k x3 j hd hk hj hlen hm
    obtain ⟨k, rfl⟩ : ∃ m, k = m + 1 := ⟨k - 1, by omega⟩
    simp only [laws_toTankS.l0, laws_toTank.f, Option.bind_some]
    rw [if_pos (by omega), if_pos (by omega), if_pos (by omega), w64 (by omega) (by omega)]
    refine ih k _ (j + 1) (by omega) (by omega) (by omega) (by simpa using hlen) ?_
    intro m h
    have e : ((j : Int)).toNat = j := by omega
    rw [e]
    by_cases hmj : m = j
    · subst hmj
      rw [List.getElem?_set_self (by omega)]
      have hm' : m < x0.length := by omega
      simp [tconv, rd_T23, hm']
    · rw [List.getElem?_set_ne (by omega)]
      exact hm m (by omega)
theorem toTankS_ok (l : List TL) (k : Nat) (hl : l.length ≤ 1048576) (hk : 2000000 ≤ k) : laws_toTankS.f k l = some (tconv l) := by
  unfold laws_toTankS.f
  rw [if_pos (by omega), if_pos (by omega)]
  have := toTankS_l0 l hl (l.length) k (List.replicate l.length z25) 0 (by omega) (by omega) (by omega) (by simp) (fun m h => by omega)
  simpa using this
theorem eqTankS_l0 (l : List TI) (hl : l.length ≤ 1048576) : ∀ (d k j : Nat), l.length - j = d → d < k → laws_eqTankS.l0 k l l (j : Int) = some true := by
  intro d
  induction d with
  | zero =>
    intro k j hd hk
    obtain ⟨k, rfl⟩ : ∃ m, k = m + 1 := ⟨k - 1, by omega⟩
    simp only [laws_eqTankS.l0]
    rw [if_neg (by omega)]
  | succ d ih =>
    intro k j hd hk
    obtain ⟨k, rfl⟩ : ∃ m, k = m + 1 := ⟨k - 1, by omega⟩
    simp only [laws_eqTankS.l0]
    rw [if_pos (by omega), if_pos (by omega), if_pos (by omega), laws_eqTank.f, if_pos rfl, if_pos rfl, if_pos rfl, Option.bind_some, if_pos rfl, w64 (by omega) (by omega)]
    exact ih k (j + 1) (by omega) (by omega)
theorem eqTankS_ok (l : List TI) (k : Nat) (hl : l.length ≤ 1048576) (hk : 2000000 ≤ k) : laws_eqTankS.f k l l = some true := by
  unfold laws_eqTankS.f
  rw [if_pos rfl]
  exact eqTankS_l0 l hl l.length k 0 (by omega) (by omega)
theorem drop_rdT (l : List TI) (j : Nat) (h : j < l.length) : l.drop j = rd_T25 l (j : Int) :: l.drop (j + 1) := by
  rw [List.drop_eq_getElem_cons h]
  simp [rd_T25, h]
def tanksB (l : List TI) : Bool := inR 1 6 (l.length : Int) && l.all (fun x => tankB x.f0 x.f1 x.f2)
theorem leTanks_l0 (l : List TI) (hl : l.length ≤ 1048576) : ∀ (d k j : Nat), l.length - j = d → d < k → spec_leTanks.l0 k l (l.length : Int) (j : Int) = some ((l.drop j).all (fun x => tankB x.f0 x.f1 x.f2)) := by
  intro d
  induction d with
  | zero =>
    intro k j hd hk
    obtain ⟨k, rfl⟩ : ∃ m, k = m + 1 := ⟨k - 1, by omega⟩
    simp only [spec_leTanks.l0]
    rw [if_neg (by omega), List.drop_of_length_le (by omega)]
    rfl
  | succ d ih =>
    intro k j hd hk
    obtain ⟨k, rfl⟩ : ∃ m, k = m + 1 := ⟨k - 1, by omega⟩
    simp only [spec_leTanks.l0]
    rw [if_pos (by omega), if_pos (by omega), if_pos (by omega), leTank_ok, Option.bind_some, w64 (i := (j : Int) + 1) (by omega) (by omega), drop_rdT l j (by omega), List.all_cons]
    have := ih k (j + 1) (by omega) (by omega)
    generalize rd_T25 l (j : Int) = x
    by_cases h : tankB x.f0 x.f1 x.f2 = true
    · rw [if_pos h, h, Bool.true_and]
      exact this
    · rw [if_neg h, Bool.eq_false_iff.mpr h, Bool.false_and]
theorem leTanks_ok (l : List TI) (k : Nat) (hl : l.length ≤ 1048576) (hk : 2000000 ≤ k) : spec_leTanks.f k l = some (tanksB l) := by
  unfold spec_leTanks.f tanksB
  rw [l1In_okR, Option.bind_some]
  by_cases h : inR 1 6 (l.length : Int) = true
  · rw [if_pos h, h, Bool.true_and]
    exact leTanks_l0 l hl l.length k 0 (by omega) (by omega)
  · rw [if_neg h, Bool.eq_false_iff.mpr h, Bool.false_and]
theorem AreTanks_p_eq (x : TI) : AreTanks_p x = tankB x.f0 x.f1 x.f2 := by
  unfold AreTanks_p tankB inR
  simp only [Bool.and_assoc]
theorem AreTanks_ok (l : List TI) (hl : l.length ≤ 1048576) : impl_AreTanks.f l = some (tanksB l) := by
  unfold impl_AreTanks.f tanksB
  rw [if_pos (by omega)]
  have e : decide (1 ≤ l.length ∧ l.length ≤ 6) = inR 1 6 (l.length : Int) := by
    unfold inR
    rw [Bool.eq_iff_iff]
    simp
    omega
  have e2 : AreTanks_p = fun x : TI => tankB x.f0 x.f1 x.f2 := funext AreTanks_p_eq
  rw [e, e2]
theorem tanksB_get {l : List TI} (h : tanksB l = true) : 1 ≤ l.length ∧ l.length ≤ 6 ∧ ∀ x ∈ l, tankB x.f0 x.f1 x.f2 = true := by
  unfold tanksB at h
  rw [Bool.and_eq_true, inR_iff, List.all_eq_true] at h
  exact ⟨by omega, by omega, h.2⟩

end Go.Proofs.Ytfaiegpkmohkdaa.Pure
