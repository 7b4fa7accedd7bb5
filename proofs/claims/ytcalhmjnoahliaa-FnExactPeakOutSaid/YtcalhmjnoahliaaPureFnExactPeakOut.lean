/- The program's PeakOut and the reference's tell the same, and the arguments are left. It holds for all inputs that the statement lets in. -/
import Derived.Test.YtcalhmjnoahliaaLibA
import Derived.Test.YtcalhmjnoahliaaLibBS
import Derived.Test.YtcalhmjnoahliaaLibRun
import Derived.Test.YtcalhmjnoahliaaLibRunB
import Derived.Test.YtcalhmjnoahliaaLibW
import Derived.Test.YtcalhmjnoahliaaPr0
import Derived.Test.YtcalhmjnoahliaaPr29
import Derived.Test.YtcalhmjnoahliaaPr6
namespace Go.Proofs.Ytcalhmjnoahliaa.Pure
open Go.RowKit Go.Proofs.Ytcalhmjnoahliaa.Pr Go.Proofs.YtcalhmjnoahliaaW.PrintWords Go.Proofs.YtcalhmjnoahliaaW.PrintLast
set_option linter.unusedVariables false
set_option linter.unusedSimpArgs false

def most (m : Int) (l : List Int) : Int := l.foldl (fun a x => max a x) m
theorem most_max : ∀ (l : List Int) (a b : Int), most (max a b) l = max (most a l) b
  | [], _, _ => rfl
  | x :: xs, a, b => by
    show most (max (max a b) x) xs = max (most (max a x) xs) b
    rw [← most_max xs (max a x) b]
    congr 1
    omega
theorem sPO_l0 (g : List Int) (hl : g.length ≤ 1000) : ∀ (d k : Nat) (m : Int) (j : Nat), g.length - j = d → d < k → spec_PeakOut.l0 k m g (g.length : Int) (j : Int) = some (most m (g.drop j), true) := by
  intro d
  induction d with
  | zero =>
    intro k m j hd hk
    obtain ⟨k, rfl⟩ : ∃ m, k = m + 1 := ⟨k - 1, by omega⟩
    simp only [spec_PeakOut.l0]
    rw [if_neg (by omega), List.drop_of_length_le (by omega)]
    rfl
  | succ d ih =>
    intro k m j hd hk
    obtain ⟨k, rfl⟩ : ∃ m, k = m + 1 := ⟨k - 1, by omega⟩
    have e1 : spec_l1Most.f m (rd g (j : Int)) = some (max m (rd g (j : Int))) := by
      unfold spec_l1Most.f
      split <;> (congr 1; omega)
    simp only [spec_PeakOut.l0]
    rw [if_pos (by omega), if_pos (by omega), if_pos (by omega), e1, Option.bind_some, w64 (i := (j : Int) + 1) (by omega) (by omega), show (j : Int) + 1 = ((j + 1 : Nat) : Int) by omega, ih k _ (j + 1) (by omega) (by omega), drop_rd g j (by omega)]
    rfl
theorem max_l0 (g : List Int) (hl : g.length ≤ 1000) : ∀ (d k : Nat) (m : Int) (j : Nat), g.length - j = d → d < k → slices_Max_int_int.l0 k g m (j : Int) = some (most m (g.drop j)) := by
  intro d
  induction d with
  | zero =>
    intro k m j hd hk
    obtain ⟨k, rfl⟩ : ∃ m, k = m + 1 := ⟨k - 1, by omega⟩
    simp only [slices_Max_int_int.l0]
    rw [if_neg (by omega), List.drop_of_length_le (by omega)]
    rfl
  | succ d ih =>
    intro k m j hd hk
    obtain ⟨k, rfl⟩ : ∃ m, k = m + 1 := ⟨k - 1, by omega⟩
    have e1 : mx m (rd g (j : Int)) = max m (rd g (j : Int)) := by unfold mx; split <;> omega
    simp only [slices_Max_int_int.l0]
    rw [if_pos (by omega), if_pos (by omega), e1, w64 (i := (j : Int) + 1) (by omega) (by omega), show (j : Int) + 1 = ((j + 1 : Nat) : Int) by omega, ih k _ (j + 1) (by omega) (by omega), drop_rd g j (by omega)]
    rfl
theorem max_ok (g : List Int) (k : Nat) (hl : g.length ≤ 900) (hk : 2000 ≤ k) : slices_Max_int_int.f k (g ++ [0]) = some (most 0 g) := by
  unfold slices_Max_int_int.f
  have hlen : (g ++ [(0 : Int)]).length = g.length + 1 := by simp
  rw [if_neg (by omega), if_pos (by omega)]
  have := max_l0 (g ++ [0]) (by omega) ((g ++ [(0 : Int)]).length - 1) k (rd (g ++ [0]) 0) 1 (by omega) (by omega)
  refine Eq.trans this ?_
  congr 1
  cases g with
  | nil => simp [most, rd]
  | cons x xs =>
    have e : rd ((x :: xs) ++ [0]) 0 = x := rfl
    rw [e]
    show most x (xs ++ [0]) = most (max 0 x) xs
    unfold most
    rw [List.foldl_append]
    show max (most x xs) 0 = most (max 0 x) xs
    rw [← most_max xs x 0]
    congr 1
    omega
theorem PeakOut_same (l : List BL) (fs : List Int) (_w0 : l.length ≤ maxLen) (_w1 : ∀ x ∈ l, (Lit.int .i64 x.f0).wf = true ∧ (Lit.int .i64 x.f1).wf = true ∧ (Lit.int .i64 x.f2).wf = true) (_w2 : fs.length ≤ maxLen) (_w3 : ∀ x ∈ fs, (Lit.int .i64 x).wf = true) (hl : l.length ≤ 1048576) (hfl : fs.length ≤ 1048576) :
    ∃ R : Int × Bool, (∀ k, 4000000 ≤ k → spec_PeakOut.f k (bconv l) fs = some R) ∧ (∀ k, 4000000 ≤ k → impl_PeakOut.f k (bconv l) fs = some R) := by
  have hc : (bconv l).length ≤ 1048576 := by rw [bconv_length]; exact hl
  generalize bconv l = L at hc
  by_cases hr : askB L fs = true
  · obtain ⟨r1, r2, r3, r4, r5⟩ := askB_get hr
    have hlen := (run_len L fs).2.2
    refine ⟨(most 0 (runG L fs), true), fun k hk => ?_, fun k hk => ?_⟩
    · unfold spec_PeakOut.f
      rw [weAsked_ok _ _ k hc hfl (by omega), Option.bind_some, if_pos hr, weGo_ok _ _ k r1 (by omega) r4 (by omega) (by omega), Option.bind_some]
      exact sPO_l0 (runG L fs) (by omega) (runG L fs).length k 0 0 (by omega) (by omega)
    · unfold impl_PeakOut.f
      rw [RunRow_impl _ _ k hc hfl (by omega), if_pos hr, Option.bind_some, if_pos (by simp only []; omega)]
      simp only []
      rw [max_ok _ k (by omega) (by omega), Option.bind_some]
  · refine ⟨(0, false), fun k hk => ?_, fun k hk => ?_⟩
    · unfold spec_PeakOut.f
      rw [weAsked_ok _ _ k hc hfl (by omega), Option.bind_some, if_neg hr]
    · unfold impl_PeakOut.f
      rw [RunRow_impl _ _ k hc hfl (by omega), if_neg hr, Option.bind_some, if_pos (by simp)]
      simp only []
      rw [max_ok _ k (by simp) (by omega), Option.bind_some]
      rfl

theorem FnExactPeakOut : ∀ (l0 : List S61) (l1 : List Int), l0.length ≤ maxLen → (∀ x ∈ l0, (Lit.int .i64 x.f0).wf = true ∧ (Lit.int .i64 x.f1).wf = true ∧ (Lit.int .i64 x.f2).wf = true) → l1.length ≤ maxLen → (∀ x ∈ l1, (Lit.int .i64 x).wf = true) → ∃ k, laws_FnExactPeakOut.f k l0 l1 = some true := by
  intro l0 l1 w0 w1 w2 w3
  by_cases bigf : (l1.length : Int) > 1048576
  case pos =>
    refine ⟨0, ?_⟩
    unfold laws_FnExactPeakOut.f
    rw [if_pos bigf]
  have fl : l1.length ≤ 1048576 := by omega
  have sz := szBasinS_ok l0 w0
  by_cases big : l0.length ≤ 1048576
  case neg =>
    rw [if_neg big] at sz
    refine ⟨0, ?_⟩
    unfold laws_FnExactPeakOut.f
    rw [if_neg bigf, sz, Option.bind_some, if_pos (by omega)]
  rw [if_pos big] at sz
  have lt : ((1048576 : Int) - (l0.length : Int) < 0) = False := eq_false (by omega)
  have cl : (bconv l0).length ≤ 1048576 := by rw [bconv_length]; exact big
  obtain ⟨R, hs, hi⟩ := PeakOut_same l0 l1 w0 w1 w2 w3 big fl
  obtain ⟨K, hK⟩ : ∃ K, K = 10000000000000 := ⟨_, rfl⟩
  refine ⟨K + 9, ?_⟩
  simp (disch := omega) only [laws_FnExactPeakOut.f, hs, hi, if_neg bigf, sz, lt, toBasinS_ok, eqBasinS_ok, toIntS_ok, eqIntS_ok, Option.bind_some, bne_self_eq_false, Bool.false_eq_true, eq_self, if_true, if_false]
  simp (disch := omega) only [laws_FnExactPeakOut.j0, hs, hi, if_neg bigf, sz, lt, toBasinS_ok, eqBasinS_ok, toIntS_ok, eqIntS_ok, Option.bind_some, bne_self_eq_false, Bool.false_eq_true, eq_self, if_true, if_false]

end Go.Proofs.Ytcalhmjnoahliaa.Pure
