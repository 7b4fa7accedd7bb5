/- The program's TipsAtDrop and the reference's tell the same, argument and all. It holds for all inputs that the statement lets in. -/
import Derived.Test.YtobffdhdpbajhaaLibA
import Derived.Test.YtobffdhdpbajhaaLibC4
import Derived.Test.YtobffdhdpbajhaaPr1
import Derived.Test.YtobffdhdpbajhaaPr30
namespace Go.Proofs.Ytobffdhdpbajhaa.Pure
open Go.RowKit Go.Proofs.Ytobffdhdpbajhaa.Pr Go.Proofs.YtobffdhdpbajhaaW.PrintWords Go.Proofs.YtobffdhdpbajhaaW.PrintLast
set_option linter.unusedVariables false
set_option linter.unusedSimpArgs false

def tipsAt : Int → Int → List Int → Int
  | _, m, [] => m
  | n, m, c :: cs => if Int.tmod n c = 0 then tipsAt (wrap64 (Int.tdiv n c)) (wrap64 (m + 1)) cs else m
theorem spec_tipsAt_l0 (l : List Int) (hl : l.length ≤ 1048576) (hc : ∀ x ∈ l, x ≠ 0) : ∀ (d k : Nat) (n m : Int) (j : Nat), l.length - j = d → d < k → spec_TipsAtDrop.l0 k n m l (l.length : Int) (j : Int) = some (tipsAt n m (l.drop j), true) := by
  intro d
  induction d with
  | zero =>
    intro k n m j hd hk
    obtain ⟨k, rfl⟩ : ∃ m, k = m + 1 := ⟨k - 1, by omega⟩
    simp only [spec_TipsAtDrop.l0]
    rw [if_neg (by omega), drop_all l j (by omega)]
    rfl
  | succ d ih =>
    intro k n m j hd hk
    obtain ⟨k, rfl⟩ : ∃ m, k = m + 1 := ⟨k - 1, by omega⟩
    simp only [spec_TipsAtDrop.l0]
    rw [if_pos (by omega), if_pos (by omega), if_pos (by omega), if_neg (hc _ (rd_mem l j (by omega))), w64 (i := (j : Int) + 1) (by omega) (by omega), drop_rd l j (by omega), tipsAt]
    by_cases h : Int.tmod n (rd l (j : Int)) = 0
    · rw [if_pos h, if_pos h]
      exact ih k _ _ (j + 1) (by omega) (by omega)
    · rw [if_neg h, if_neg h]
theorem impl_tipsAt_l0 (l : List Int) (hl : l.length ≤ 1048576) (hc : ∀ x ∈ l, x ≠ 0) : ∀ (d k : Nat) (n m : Int) (j : Nat), l.length - j = d → d < k → impl_TipsAtDrop.l0 k n m l (l.length : Int) (j : Int) = some (tipsAt n m (l.drop j), true) := by
  intro d
  induction d with
  | zero =>
    intro k n m j hd hk
    obtain ⟨k, rfl⟩ : ∃ m, k = m + 1 := ⟨k - 1, by omega⟩
    simp only [impl_TipsAtDrop.l0]
    rw [if_neg (by omega), drop_all l j (by omega)]
    rfl
  | succ d ih =>
    intro k n m j hd hk
    obtain ⟨k, rfl⟩ : ∃ m, k = m + 1 := ⟨k - 1, by omega⟩
    simp only [impl_TipsAtDrop.l0]
    rw [if_pos (by omega), if_pos (by omega), if_pos (by omega), if_neg (hc _ (rd_mem l j (by omega))), w64 (i := (j : Int) + 1) (by omega) (by omega), drop_rd l j (by omega), tipsAt]
    by_cases h : Int.tmod n (rd l (j : Int)) = 0
    · rw [if_pos h, if_pos h]
      exact ih k _ _ (j + 1) (by omega) (by omega)
    · rw [if_neg h, if_neg h]
theorem TipsAtDrop_same (l : List Int) (n : Int) (hl : l.length ≤ 1048576) : ∃ R : Int × Bool, (∀ k, 2000000 ≤ k → spec_TipsAtDrop.f k l n = some R) ∧ (∀ k, 2000000 ≤ k → impl_TipsAtDrop.f k l n = some R) := by
  by_cases hc : capsB l = true
  · have hz : ∀ x ∈ l, x ≠ 0 := fun x hx => by have := (capsB_get hc).2.2 x hx; omega
    by_cases hn : 1 ≤ n ∧ n ≤ 1000000
    · have h1 : inB 1 1000000 n = true := (inB_iff _ _ _).mpr hn
      have h2 : inB 0 1000000 n = true := (inB_iff _ _ _).mpr (by omega)
      refine ⟨(tipsAt n 0 l, true), fun k hk => ?_, fun k hk => ?_⟩
      · unfold spec_TipsAtDrop.f
        obtain ⟨k, rfl⟩ : ∃ m, k = m + 1 := ⟨k - 1, by omega⟩
        rw [tbCaps_ok l _ hl hk, Option.bind_some, if_pos hc, l1In_ok, h1, Option.bind_some]
        simp only [spec_TipsAtDrop.j0]
        rw [if_neg (by simp)]
        exact spec_tipsAt_l0 l hl hz l.length k n 0 0 (by omega) (by omega)
      · unfold impl_TipsAtDrop.f
        obtain ⟨k, rfl⟩ : ∃ m, k = m + 1 := ⟨k - 1, by omega⟩
        rw [areDrops_ok l n hl, hc, h2, Bool.true_and, Option.bind_some, if_pos rfl, decide_eq_false (by omega : ¬ n < 1)]
        simp only [impl_TipsAtDrop.j0]
        rw [if_neg (by simp)]
        exact impl_tipsAt_l0 l hl hz l.length k n 0 0 (by omega) (by omega)
    · have h1 : inB 1 1000000 n = false := Bool.eq_false_iff.mpr (fun h => hn ((inB_iff _ _ _).mp h))
      refine ⟨(0, false), fun k hk => ?_, fun k hk => ?_⟩
      · unfold spec_TipsAtDrop.f
        obtain ⟨k, rfl⟩ : ∃ m, k = m + 1 := ⟨k - 1, by omega⟩
        rw [tbCaps_ok l _ hl hk, Option.bind_some, if_pos hc, l1In_ok, h1, Option.bind_some]
        simp only [spec_TipsAtDrop.j0]
        rw [if_pos (by simp)]
      · unfold impl_TipsAtDrop.f
        obtain ⟨k, rfl⟩ : ∃ m, k = m + 1 := ⟨k - 1, by omega⟩
        rw [areDrops_ok l n hl, hc, Option.bind_some, Bool.true_and]
        simp only [impl_TipsAtDrop.j0]
        by_cases h2 : inB 0 1000000 n = true
        · have h3 := (inB_iff _ _ _).mp h2
          rw [if_pos h2, decide_eq_true (by omega : n < 1), if_pos rfl]
        · rw [if_neg h2, if_pos trivial]
  · refine ⟨(0, false), fun k hk => ?_, fun k hk => ?_⟩
    · unfold spec_TipsAtDrop.f
      obtain ⟨k, rfl⟩ : ∃ m, k = m + 1 := ⟨k - 1, by omega⟩
      rw [tbCaps_ok l _ hl hk, Option.bind_some, if_neg hc]
      simp only [spec_TipsAtDrop.j0]
      rw [if_pos trivial]
    · unfold impl_TipsAtDrop.f
      obtain ⟨k, rfl⟩ : ∃ m, k = m + 1 := ⟨k - 1, by omega⟩
      rw [areDrops_ok l n hl, Bool.eq_false_iff.mpr hc, Bool.false_and, Option.bind_some, if_neg (by simp)]
      simp only [impl_TipsAtDrop.j0]
      rw [if_pos trivial]

theorem FnExactTipsAtDrop : laws_FnExactTipsAtDrop.Pure := by
  intro l0 a1 w0 w1 w2 w3
  by_cases big_l0 : (l0.length : Int) > 1048576
  · refine ⟨0, ?_⟩
    unfold laws_FnExactTipsAtDrop.f
    rw [if_pos big_l0]
  have len_l0 : l0.length ≤ 1048576 := by omega
  obtain ⟨R, hs, hi⟩ := TipsAtDrop_same l0 a1 len_l0
  obtain ⟨K, hK⟩ : ∃ K, K = 4000000 := ⟨_, rfl⟩
  refine ⟨K + 9, ?_⟩
  simp (disch := omega) only [laws_FnExactTipsAtDrop.f, if_neg big_l0, hs, hi, toIntS_ok, eqIntS_ok, Option.bind_some, bne_self_eq_false, Bool.false_eq_true, eq_self, if_true, if_false]
  simp (disch := omega) only [laws_FnExactTipsAtDrop.j0, if_neg big_l0, hs, hi, toIntS_ok, eqIntS_ok, Option.bind_some, bne_self_eq_false, Bool.false_eq_true, eq_self, if_true, if_false]

end Go.Proofs.Ytobffdhdpbajhaa.Pure
