/- The program's RowAfter and the reference's tell the same; the arguments are left, the result is its own. It holds for all inputs that the statement lets in. -/
import Derived.Test.YtcalhmjnoahliaaLibA
import Derived.Test.YtcalhmjnoahliaaLibBS
import Derived.Test.YtcalhmjnoahliaaLibFl
import Derived.Test.YtcalhmjnoahliaaLibM
import Derived.Test.YtcalhmjnoahliaaLibMB
import Derived.Test.YtcalhmjnoahliaaLibRun
import Derived.Test.YtcalhmjnoahliaaLibTk
import Derived.Test.YtcalhmjnoahliaaPr0
import Derived.Test.YtcalhmjnoahliaaPr31
import Derived.Test.YtcalhmjnoahliaaPr50
namespace Go.Proofs.Ytcalhmjnoahliaa.Pure
open Go.RowKit Go.Proofs.Ytcalhmjnoahliaa.Pr Go.Proofs.YtcalhmjnoahliaaW.PrintWords Go.Proofs.YtcalhmjnoahliaaW.PrintLast
set_option linter.unusedVariables false
set_option linter.unusedSimpArgs false

theorem runE_len : ∀ (fs : List Int) (l : List BI), (runE l fs).length = l.length
  | [], _ => rfl
  | f :: fs, l => by
    have := runE_len fs (tick l f).1
    have h2 := (tick_len l f).1
    show (runE (tick l f).1 fs).length = l.length
    omega
theorem runE_last : ∀ (fs : List Int) (l : List BI), (l :: runR l fs).getD fs.length [] = runE l fs
  | [], l => by simp [runR, runE]
  | f :: fs, l => by
    have := runE_last fs (tick l f).1
    show ((tick l f).1 :: runR (tick l f).1 fs).getD fs.length [] = runE (tick l f).1 fs
    exact this
theorem RowAfter_same (l : List BL) (fs : List Int) (_w0 : l.length ≤ maxLen) (_w1 : ∀ x ∈ l, (Lit.int .i64 x.f0).wf = true ∧ (Lit.int .i64 x.f1).wf = true ∧ (Lit.int .i64 x.f2).wf = true) (_w2 : fs.length ≤ maxLen) (_w3 : ∀ x ∈ fs, (Lit.int .i64 x).wf = true) (hl : l.length ≤ 1048576) (hfl : fs.length ≤ 1048576) :
    ∃ R : List BI × Bool, (∀ k, 4000000 ≤ k → spec_RowAfter.f k (bconv l) fs = some R) ∧ (∀ k, 4000000 ≤ k → impl_RowAfter.f k (bconv l) fs = some R) ∧ R.1.length ≤ 1048576 := by
  have hc : (bconv l).length ≤ 1048576 := by rw [bconv_length]; exact hl
  by_cases hr : askB (bconv l) fs = true
  · obtain ⟨r1, r2, r3, r4, r5⟩ := askB_get hr
    have hel := runE_len fs (bconv l)
    have hrl := (run_len (bconv l) fs).1
    refine ⟨(runE (bconv l) fs, true), fun k hk => ?_, fun k hk => ?_, ?_⟩
    · unfold spec_RowAfter.f
      rw [weAsked_ok _ _ k hc hfl (by omega), Option.bind_some, if_pos hr, Option.bind_some, weGo_ok _ _ k r1 (by omega) r4 (by omega) (by omega), Option.bind_some]
      simp only [List.length_nil, List.nil_append]
      rw [if_pos (by omega)]
    · unfold impl_RowAfter.f
      unfold askB at hr
      rw [Bool.and_eq_true] at hr
      rw [IsRow_ok _ hc, Option.bind_some, if_pos hr.1, AreFlows_ok _ hfl, Option.bind_some, if_pos hr.2, runRow_ok _ _ k r1 (by omega) r4 (by omega) (by omega), Option.bind_some, if_pos (by omega), if_pos (by simp only [List.length_cons]; omega)]
      have := runE_last fs (bconv l)
      unfold rd_L4
      rw [Int.toNat_natCast, this]
    · simp only []
      omega
  · refine ⟨([], false), fun k hk => ?_, fun k hk => ?_, by simp⟩
    · unfold spec_RowAfter.f
      rw [weAsked_ok _ _ k hc hfl (by omega), Option.bind_some, if_neg hr]
    · unfold impl_RowAfter.f
      rw [IsRow_ok _ hc, Option.bind_some]
      by_cases h1 : rowB (bconv l) = true
      · rw [if_pos h1, AreFlows_ok _ hfl, Option.bind_some, if_neg (fun q => hr (by unfold askB; rw [h1, q]; rfl))]
      · rw [if_neg h1]

theorem FnExactRowAfter : ∀ (l0 : List S61) (l1 : List Int), l0.length ≤ maxLen → (∀ x ∈ l0, (Lit.int .i64 x.f0).wf = true ∧ (Lit.int .i64 x.f1).wf = true ∧ (Lit.int .i64 x.f2).wf = true) → l1.length ≤ maxLen → (∀ x ∈ l1, (Lit.int .i64 x).wf = true) → ∃ k, laws_FnExactRowAfter.f k l0 l1 = some true := by
  intro l0 l1 w0 w1 w2 w3
  by_cases bigf : (l1.length : Int) > 1048576
  case pos =>
    refine ⟨0, ?_⟩
    unfold laws_FnExactRowAfter.f
    rw [if_pos bigf]
  have fl : l1.length ≤ 1048576 := by omega
  have sz := szBasinS_ok l0 w0
  by_cases big : l0.length ≤ 1048576
  case neg =>
    rw [if_neg big] at sz
    refine ⟨0, ?_⟩
    unfold laws_FnExactRowAfter.f
    rw [if_neg bigf, sz, Option.bind_some, if_pos (by omega)]
  rw [if_pos big] at sz
  have lt : ((1048576 : Int) - (l0.length : Int) < 0) = False := eq_false (by omega)
  have cl : (bconv l0).length ≤ 1048576 := by rw [bconv_length]; exact big
  have q1 : ∀ n : Nat, ((1 : Int) + 3 * (n : Int) < 0) = False := fun n => eq_false (by omega)
  have q2 : ∀ n m : Nat, ((1 : Int) + 3 * (n : Int) + (m : Int) < 0) = False := fun n m => eq_false (by omega)
  obtain ⟨R, hs, hi, hR⟩ := RowAfter_same l0 l1 w0 w1 w2 w3 big fl
  obtain ⟨K, hK⟩ : ∃ K, K = 10000000000000 := ⟨_, rfl⟩
  refine ⟨K + 9, ?_⟩
  have n1 : ∀ n : Nat, ((1 : Int) + (n : Int) < 0) = False := fun n => eq_false (by omega)
  have n2 : ∀ n m : Nat, ((1 : Int) + (n : Int) + (m : Int) < 0) = False := fun n m => eq_false (by omega)
  have n3 : ∀ n m q : Nat, ((1 : Int) + (n : Int) + (m : Int) + (q : Int) < 0) = False := fun n m q => eq_false (by omega)
  simp (disch := omega) only [laws_FnExactRowAfter.f, hs, hi, if_neg bigf, sz, lt, toBasinS_ok, eqBasinS_ok, markBasinS_ok, heldBasinS_ok, q1, q2, toIntS_ok, eqIntS_ok, markIntS_ok, heldIntS_ok, n1, n2, n3, Option.bind_some, bne_self_eq_false, Bool.false_eq_true, eq_self, if_true, if_false]
  simp (disch := omega) only [laws_FnExactRowAfter.j0, hs, hi, if_neg bigf, sz, lt, toBasinS_ok, eqBasinS_ok, markBasinS_ok, heldBasinS_ok, q1, q2, toIntS_ok, eqIntS_ok, markIntS_ok, heldIntS_ok, n1, n2, n3, Option.bind_some, bne_self_eq_false, Bool.false_eq_true, eq_self, if_true, if_false]
  simp (disch := omega) only [laws_FnExactRowAfter.j1, hs, hi, if_neg bigf, sz, lt, toBasinS_ok, eqBasinS_ok, markBasinS_ok, heldBasinS_ok, q1, q2, toIntS_ok, eqIntS_ok, markIntS_ok, heldIntS_ok, n1, n2, n3, Option.bind_some, bne_self_eq_false, Bool.false_eq_true, eq_self, if_true, if_false]
  simp (disch := omega) only [laws_FnExactRowAfter.j2, hs, hi, if_neg bigf, sz, lt, toBasinS_ok, eqBasinS_ok, markBasinS_ok, heldBasinS_ok, q1, q2, toIntS_ok, eqIntS_ok, markIntS_ok, heldIntS_ok, n1, n2, n3, Option.bind_some, bne_self_eq_false, Bool.false_eq_true, eq_self, if_true, if_false]

end Go.Proofs.Ytcalhmjnoahliaa.Pure
