/- The program's SteadyHeld and the reference's tell the same; the argument is left, the result is its own. It holds for all inputs that the statement lets in. -/
import Derived.Test.YtcalhmjnoahliaaLibA
import Derived.Test.YtcalhmjnoahliaaLibBS
import Derived.Test.YtcalhmjnoahliaaLibIt
import Derived.Test.YtcalhmjnoahliaaLibM
import Derived.Test.YtcalhmjnoahliaaLibMB
import Derived.Test.YtcalhmjnoahliaaLibNe
import Derived.Test.YtcalhmjnoahliaaLibTk
import Derived.Test.YtcalhmjnoahliaaLibW
import Derived.Test.YtcalhmjnoahliaaPr0
import Derived.Test.YtcalhmjnoahliaaPr30
import Derived.Test.YtcalhmjnoahliaaPr31
namespace Go.Proofs.Ytcalhmjnoahliaa.Pure
open Go.RowKit Go.Proofs.Ytcalhmjnoahliaa.Pr Go.Proofs.YtcalhmjnoahliaaW.PrintWords Go.Proofs.YtcalhmjnoahliaaW.PrintLast
set_option linter.unusedVariables false
set_option linter.unusedSimpArgs false

theorem sSH_l1 (a : Int) (x y : List BI) (hxy : y.length = x.length) (hl : x.length ≤ 100) : ∀ (d k : Nat) (ch : Bool) (j : Nat), x.length - j = d → j ≤ x.length → spec_SteadyHeld.l1 (k + d + 1) x a ch y y (y.length : Int) (j : Int) = spec_SteadyHeld.l0 k y a (ch || neL (y.drop j) (x.drop j)) := by
  intro d
  induction d with
  | zero =>
    intro k ch j hd hj
    simp only [spec_SteadyHeld.l1]
    rw [if_neg (by omega), List.drop_of_length_le (show y.length ≤ j by omega)]
    simp [neL]
  | succ d ih =>
    intro k ch j hd hj
    obtain ⟨q, hq⟩ : ∃ q, q = k + d + 1 := ⟨_, rfl⟩
    rw [show k + (d + 1) + 1 = q + 1 by omega]
    simp only [spec_SteadyHeld.l1]
    rw [if_pos (by omega), if_pos (by omega), if_pos (by omega), w64 (i := (j : Int) + 1) (by omega) (by omega)]
    have e : (j : Int) + 1 = ((j + 1 : Nat) : Int) := by omega
    rw [neL_drop y x j (by omega) (by omega), e]
    cases ch with
    | true =>
      rw [if_pos rfl, hq, ih k true (j + 1) (by omega) (by omega)]
      simp
    | false =>
      rw [if_neg (by simp), if_pos (by omega), hq, ih k _ (j + 1) (by omega) (by omega)]
      simp only [Bool.false_or]
      rfl
theorem sSH_l2 (x : List BI) (hl : x.length ≤ 100) : ∀ (d k : Nat) (o : List Int) (j : Nat), x.length - j = d → d < k → j ≤ x.length → o.length ≤ j → spec_SteadyHeld.l2 k o x (x.length : Int) (j : Int) = some (o ++ helds (x.drop j), true) := by
  intro d
  induction d with
  | zero =>
    intro k o j hd hk hj ho
    obtain ⟨k, rfl⟩ : ∃ m, k = m + 1 := ⟨k - 1, by omega⟩
    simp only [spec_SteadyHeld.l2]
    rw [if_neg (by omega), List.drop_of_length_le (by omega)]
    simp [helds]
  | succ d ih =>
    intro k o j hd hk hj ho
    obtain ⟨k, rfl⟩ : ∃ m, k = m + 1 := ⟨k - 1, by omega⟩
    simp only [spec_SteadyHeld.l2]
    rw [if_pos (by omega), if_pos (by omega), if_pos (by omega), if_pos (by omega), w64 (i := (j : Int) + 1) (by omega) (by omega), drop_rdB x j (by omega)]
    have := ih k (o ++ [(rd_T59 x (j : Int)).f2]) (j + 1) (by omega) (by omega) (by omega) (by simp; omega)
    rw [show (j : Int) + 1 = ((j + 1 : Nat) : Int) by omega]
    refine Eq.trans this ?_
    simp [helds]
theorem iSH_l1 (x : List BI) (hl : x.length ≤ 100) : ∀ (d k : Nat) (o : List Int) (j : Nat), x.length - j = d → d < k → j ≤ x.length → o.length ≤ j → impl_SteadyHeld.l1 k o x (x.length : Int) (j : Int) = some (o ++ helds (x.drop j), true) := by
  intro d
  induction d with
  | zero =>
    intro k o j hd hk hj ho
    obtain ⟨k, rfl⟩ : ∃ m, k = m + 1 := ⟨k - 1, by omega⟩
    simp only [impl_SteadyHeld.l1]
    rw [if_neg (by omega), List.drop_of_length_le (by omega)]
    simp [helds]
  | succ d ih =>
    intro k o j hd hk hj ho
    obtain ⟨k, rfl⟩ : ∃ m, k = m + 1 := ⟨k - 1, by omega⟩
    simp only [impl_SteadyHeld.l1]
    rw [if_pos (by omega), if_pos (by omega), if_pos (by omega), if_pos (by omega), w64 (i := (j : Int) + 1) (by omega) (by omega), drop_rdB x j (by omega)]
    have := ih k (o ++ [(rd_T59 x (j : Int)).f2]) (j + 1) (by omega) (by omega) (by omega) (by simp; omega)
    rw [show (j : Int) + 1 = ((j + 1 : Nat) : Int) by omega]
    refine Eq.trans this ?_
    simp [helds]
theorem equalB_l0 (x y : List BI) (hxy : x.length = y.length) (hl : x.length ≤ 100) : ∀ (d k j : Nat), x.length - j = d → d < k → j ≤ x.length → impl_Basin_84.l0 k x y (x.length : Int) (j : Int) = some (!neL (x.drop j) (y.drop j)) := by
  intro d
  induction d with
  | zero =>
    intro k j hd hk hj
    obtain ⟨k, rfl⟩ : ∃ m, k = m + 1 := ⟨k - 1, by omega⟩
    simp only [impl_Basin_84.l0]
    rw [if_neg (by omega), List.drop_of_length_le (by omega)]
    simp [neL]
  | succ d ih =>
    intro k j hd hk hj
    obtain ⟨k, rfl⟩ : ∃ m, k = m + 1 := ⟨k - 1, by omega⟩
    simp only [impl_Basin_84.l0]
    rw [if_pos (by omega), if_pos (by omega), if_pos (by omega), if_pos (by omega), w64 (i := (j : Int) + 1) (by omega) (by omega), neL_drop x y j (by omega) hxy, show (j : Int) + 1 = ((j + 1 : Nat) : Int) by omega, ih k (j + 1) (by omega) (by omega) (by omega)]
    show (if neB _ _ = true then _ else _) = _
    cases neB (rd_T59 x (j : Int)) (rd_T59 y (j : Int)) <;> simp
theorem equalB_ok (x y : List BI) (k : Nat) (hxy : x.length = y.length) (hl : x.length ≤ 100) (hk : 1000 ≤ k) : impl_Basin_84.f k x y = some (!neL x y) := by
  unfold impl_Basin_84.f
  rw [if_pos (by omega)]
  exact equalB_l0 x y hxy hl x.length k 0 (by omega) (by omega) (by omega)
def KS (n : Nat) : Nat := 2200 + 200 * n
theorem KS_ge (n : Nat) : 2200 ≤ KS n := by unfold KS; omega
theorem KS_succ (n : Nat) : KS (n + 1) = KS n + 200 := by unfold KS; omega
theorem SH_run (a : Int) (h0 : 0 ≤ a) (h1 : a ≤ 1000) : ∀ (n : Nat) (l : List BI), good l → l.length ≤ 100 → (tick (iter a n l) a).1 = iter a n l → ∃ r : List Int, r.length ≤ 100 ∧ (∀ k, KS n ≤ k → spec_SteadyHeld.l0 k l a true = some (r, true)) ∧ (∀ k, KS n ≤ k → impl_SteadyHeld.l0 k l a = some (r, true)) := by
  intro n
  induction n with
  | zero =>
    intro l hg hl hr
    have kg := KS_ge 0
    have hlen := (tick_len l a).1
    have he : (tick l a).1 = l := hr
    have hn : neL (tick l a).1 l = false := (neL_eq _ _ hlen).2 he
    refine ⟨helds l, by simpa [helds] using hl, fun k hk => ?_, fun k hk => ?_⟩
    · obtain ⟨k, rfl⟩ : ∃ m, k = m + l.length + 3 := ⟨k - l.length - 3, by omega⟩
      rw [show k + l.length + 3 = ((k + 1) + l.length + 1) + 1 by omega]
      simp only [spec_SteadyHeld.l0]
      rw [if_pos trivial, weTick_ok l a _ hg hl h0 (by omega) (by omega), Option.bind_some]
      have := sSH_l1 a l (tick l a).1 hlen hl l.length (k + 1) false 0 (by omega) (by omega)
      simp only [] at this ⊢
      refine Eq.trans this ?_
      rw [List.drop_zero, List.drop_zero, hn, he]
      simp only [spec_SteadyHeld.l0]
      rw [if_neg (by simp)]
      have := sSH_l2 l hl l.length k [] 0 (by omega) (by omega) (by omega) (by simp)
      simpa using this
    · obtain ⟨k, rfl⟩ : ∃ m, k = m + 1 := ⟨k - 1, by omega⟩
      simp only [impl_SteadyHeld.l0]
      rw [tickRow_ok l a k hg hl h0 (by omega) (by omega), Option.bind_some, equalB_ok _ _ k hlen (by omega) (by omega), Option.bind_some, hn]
      have := iSH_l1 l hl l.length k [] 0 (by omega) (by omega) (by omega) (by simp)
      simpa using this
  | succ n ih =>
    intro l hg hl hr
    have h6 : a ≤ 1000000 := by clear ih hr; omega
    have kg := KS_ge n
    rw [KS_succ]
    generalize KS n = B at kg ih ⊢
    have hlen := (tick_len l a).1
    by_cases he : (tick l a).1 = l
    · have hn : neL (tick l a).1 l = false := (neL_eq _ _ hlen).2 he
      refine ⟨helds l, by simpa [helds] using hl, fun k hk => ?_, fun k hk => ?_⟩
      · obtain ⟨k, rfl⟩ : ∃ m, k = m + l.length + 3 := ⟨k - l.length - 3, by omega⟩
        rw [show k + l.length + 3 = ((k + 1) + l.length + 1) + 1 by omega]
        simp only [spec_SteadyHeld.l0]
        rw [if_pos trivial, weTick_ok l a _ hg hl h0 h6 (by clear ih hr; omega), Option.bind_some]
        have := sSH_l1 a l (tick l a).1 hlen hl l.length (k + 1) false 0 (by omega) (by omega)
        simp only [] at this ⊢
        refine Eq.trans this ?_
        rw [List.drop_zero, List.drop_zero, hn, he]
        simp only [spec_SteadyHeld.l0]
        rw [if_neg (by simp)]
        have := sSH_l2 l hl l.length k [] 0 (by omega) (by omega) (by omega) (by simp)
        simpa using this
      · obtain ⟨k, rfl⟩ : ∃ m, k = m + 1 := ⟨k - 1, by omega⟩
        simp only [impl_SteadyHeld.l0]
        rw [tickRow_ok l a k hg hl h0 h6 (by clear ih hr; omega), Option.bind_some, equalB_ok _ _ k hlen (by omega) (by clear ih hr; omega), Option.bind_some, hn]
        have := iSH_l1 l hl l.length k [] 0 (by omega) (by omega) (by omega) (by simp)
        simpa using this
    · have hn : neL (tick l a).1 l = true := by
        rw [← Bool.not_eq_false, neL_eq _ _ hlen]
        exact he
      obtain ⟨r, h2, hs, hi⟩ := ih (tick l a).1 (tick_good l a hg h0).1 (by omega) hr
      refine ⟨r, h2, fun k hk => ?_, fun k hk => ?_⟩
      · obtain ⟨k, rfl⟩ : ∃ m, k = m + l.length + 2 := ⟨k - l.length - 2, by omega⟩
        rw [show k + l.length + 2 = (k + l.length + 1) + 1 by omega]
        simp only [spec_SteadyHeld.l0]
        rw [if_pos trivial, weTick_ok l a _ hg hl h0 h6 (by clear ih hr; omega), Option.bind_some]
        have := sSH_l1 a l (tick l a).1 hlen hl l.length k false 0 (by omega) (by omega)
        simp only [] at this ⊢
        refine Eq.trans this ?_
        rw [List.drop_zero, List.drop_zero, hn]
        exact hs k (by omega)
      · obtain ⟨k, rfl⟩ : ∃ m, k = m + 1 := ⟨k - 1, by omega⟩
        simp only [impl_SteadyHeld.l0]
        rw [tickRow_ok l a k hg hl h0 h6 (by clear ih hr; omega), Option.bind_some, equalB_ok _ _ k hlen (by omega) (by clear ih hr; omega), Option.bind_some, hn]
        exact hi k (by omega)
theorem SteadyHeld_same (l : List BL) (a : Int) (_w0 : l.length ≤ maxLen) (_w1 : ∀ x ∈ l, (Lit.int .i64 x.f0).wf = true ∧ (Lit.int .i64 x.f1).wf = true ∧ (Lit.int .i64 x.f2).wf = true) (_w2 : (Lit.int .i64 a).wf = true) (hl : l.length ≤ 1048576) :
    ∃ R : List Int × Bool, (∀ k, 8000000 ≤ k → spec_SteadyHeld.f k (bconv l) a = some R) ∧ (∀ k, 8000000 ≤ k → impl_SteadyHeld.f k (bconv l) a = some R) ∧ R.1.length ≤ 1048576 := by
  have hc : (bconv l).length ≤ 1048576 := by rw [bconv_length]; exact hl
  by_cases hr : rowB (bconv l) = true
  · by_cases ha : inR 0 1000 a = true
    · obtain ⟨r1, r2, r3⟩ := rowB_get hr
      have ha' := (inR_iff _ _ _).1 ha
      obtain ⟨n, hn, he⟩ := rest a ha'.1 (bconv l) r3
      obtain ⟨r, h2, hs, hi⟩ := SH_run a ha'.1 ha'.2 n (bconv l) r3 (by omega) he
      have kb : KS n ≤ 7000000 := by unfold KS; omega
      refine ⟨(r, true), fun k hk => ?_, fun k hk => ?_, by simp only []; omega⟩
      · obtain ⟨k, rfl⟩ : ∃ m, k = m + 1 := ⟨k - 1, by omega⟩
        unfold spec_SteadyHeld.f
        rw [weRow_ok _ (k + 1) hc (by omega), Option.bind_some, if_pos hr, l1In_okR, Option.bind_some, ha]
        simp only [spec_SteadyHeld.j0]
        rw [if_neg (by simp)]
        exact hs k (by omega)
      · obtain ⟨k, rfl⟩ : ∃ m, k = m + 1 := ⟨k - 1, by omega⟩
        unfold impl_SteadyHeld.f
        rw [IsRow_ok _ hc, Option.bind_some, if_pos hr, within_okR, Option.bind_some, ha]
        simp only [impl_SteadyHeld.j0]
        rw [if_neg (by simp)]
        exact hi k (by omega)
    · refine ⟨([], false), fun k hk => ?_, fun k hk => ?_, by simp⟩
      · obtain ⟨k, rfl⟩ : ∃ m, k = m + 1 := ⟨k - 1, by omega⟩
        unfold spec_SteadyHeld.f
        rw [weRow_ok _ (k + 1) hc (by omega), Option.bind_some, if_pos hr, l1In_okR, Option.bind_some, Bool.eq_false_iff.mpr ha]
        simp only [spec_SteadyHeld.j0]
        rw [if_pos (by simp)]
      · obtain ⟨k, rfl⟩ : ∃ m, k = m + 1 := ⟨k - 1, by omega⟩
        unfold impl_SteadyHeld.f
        rw [IsRow_ok _ hc, Option.bind_some, if_pos hr, within_okR, Option.bind_some, Bool.eq_false_iff.mpr ha]
        simp only [impl_SteadyHeld.j0]
        rw [if_pos (by simp)]
  · refine ⟨([], false), fun k hk => ?_, fun k hk => ?_, by simp⟩
    · obtain ⟨k, rfl⟩ : ∃ m, k = m + 1 := ⟨k - 1, by omega⟩
      unfold spec_SteadyHeld.f
      rw [weRow_ok _ (k + 1) hc (by omega), Option.bind_some, if_neg hr]
      simp only [spec_SteadyHeld.j0]
      rw [if_pos trivial]
    · obtain ⟨k, rfl⟩ : ∃ m, k = m + 1 := ⟨k - 1, by omega⟩
      unfold impl_SteadyHeld.f
      rw [IsRow_ok _ hc, Option.bind_some, if_neg hr]
      simp only [impl_SteadyHeld.j0]
      rw [if_pos trivial]

theorem FnExactSteadyHeld : ∀ (l0 : List S61) (a1 : Int), l0.length ≤ maxLen → (∀ x ∈ l0, (Lit.int .i64 x.f0).wf = true ∧ (Lit.int .i64 x.f1).wf = true ∧ (Lit.int .i64 x.f2).wf = true) → (Lit.int .i64 a1).wf = true → ∃ k, laws_FnExactSteadyHeld.f k l0 a1 = some true := by
  intro l0 a1 w0 w1 w2
  have sz := szBasinS_ok l0 w0
  by_cases big : l0.length ≤ 1048576
  case neg =>
    rw [if_neg big] at sz
    refine ⟨0, ?_⟩
    unfold laws_FnExactSteadyHeld.f
    rw [sz, Option.bind_some, if_pos (by omega)]
  rw [if_pos big] at sz
  have lt : ((1048576 : Int) - (l0.length : Int) < 0) = False := eq_false (by omega)
  have cl : (bconv l0).length ≤ 1048576 := by rw [bconv_length]; exact big
  have q1 : ∀ n : Nat, ((1 : Int) + 3 * (n : Int) < 0) = False := fun n => eq_false (by omega)
  obtain ⟨R, hs, hi, hR⟩ := SteadyHeld_same l0 a1 w0 w1 w2 big
  obtain ⟨K, hK⟩ : ∃ K, K = 10000000000000 := ⟨_, rfl⟩
  refine ⟨K + 9, ?_⟩
  have n1 : ∀ n : Nat, ((1 : Int) + (n : Int) < 0) = False := fun n => eq_false (by omega)
  have n2 : ∀ n m : Nat, ((1 : Int) + (n : Int) + (m : Int) < 0) = False := fun n m => eq_false (by omega)
  have n3 : ∀ n m q : Nat, ((1 : Int) + (n : Int) + (m : Int) + (q : Int) < 0) = False := fun n m q => eq_false (by omega)
  simp (disch := omega) only [laws_FnExactSteadyHeld.f, hs, hi, sz, lt, toBasinS_ok, eqBasinS_ok, markBasinS_ok, heldBasinS_ok, q1, eqIntS_ok, markIntS_ok, heldIntS_ok, n1, n2, n3, Option.bind_some, bne_self_eq_false, Bool.false_eq_true, eq_self, if_true, if_false]
  simp (disch := omega) only [laws_FnExactSteadyHeld.j0, hs, hi, sz, lt, toBasinS_ok, eqBasinS_ok, markBasinS_ok, heldBasinS_ok, q1, eqIntS_ok, markIntS_ok, heldIntS_ok, n1, n2, n3, Option.bind_some, bne_self_eq_false, Bool.false_eq_true, eq_self, if_true, if_false]
  simp (disch := omega) only [laws_FnExactSteadyHeld.j1, hs, hi, sz, lt, toBasinS_ok, eqBasinS_ok, markBasinS_ok, heldBasinS_ok, q1, eqIntS_ok, markIntS_ok, heldIntS_ok, n1, n2, n3, Option.bind_some, bne_self_eq_false, Bool.false_eq_true, eq_self, if_true, if_false]
  simp (disch := omega) only [laws_FnExactSteadyHeld.j2, hs, hi, sz, lt, toBasinS_ok, eqBasinS_ok, markBasinS_ok, heldBasinS_ok, q1, eqIntS_ok, markIntS_ok, heldIntS_ok, n1, n2, n3, Option.bind_some, bne_self_eq_false, Bool.false_eq_true, eq_self, if_true, if_false]

end Go.Proofs.Ytcalhmjnoahliaa.Pure
