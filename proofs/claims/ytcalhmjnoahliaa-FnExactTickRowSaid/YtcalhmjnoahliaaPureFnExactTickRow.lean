/- The program's TickRow and the reference's tell the same; the argument is left, the result is its own. It holds for all inputs that the statement lets in. -/
import Derived.Test.YtcalhmjnoahliaaLibBS
import Derived.Test.YtcalhmjnoahliaaLibMB
import Derived.Test.YtcalhmjnoahliaaLibTk
import Derived.Test.YtcalhmjnoahliaaLibW
import Derived.Test.YtcalhmjnoahliaaPr0
import Derived.Test.YtcalhmjnoahliaaPr32
namespace Go.Proofs.Ytcalhmjnoahliaa.Pure
open Go.RowKit Go.Proofs.Ytcalhmjnoahliaa.Pr Go.Proofs.YtcalhmjnoahliaaW.PrintWords Go.Proofs.YtcalhmjnoahliaaW.PrintLast
set_option linter.unusedVariables false
set_option linter.unusedSimpArgs false

theorem TickRow_same (l : List BL) (a : Int) (_w0 : l.length ≤ maxLen) (_w1 : ∀ x ∈ l, (Lit.int .i64 x.f0).wf = true ∧ (Lit.int .i64 x.f1).wf = true ∧ (Lit.int .i64 x.f2).wf = true) (_w2 : (Lit.int .i64 a).wf = true) (hl : l.length ≤ 1048576) :
    ∃ R : List BI × Int × Bool, (∀ k, 4000000 ≤ k → spec_TickRow.f k (bconv l) a = some R) ∧ (∀ k, 4000000 ≤ k → impl_TickRow.f k (bconv l) a = some R) ∧ R.1.length ≤ 1048576 := by
  have hc : (bconv l).length ≤ 1048576 := by rw [bconv_length]; exact hl
  by_cases hr : rowB (bconv l) = true
  · by_cases ha : inR 0 1000 a = true
    · obtain ⟨r1, r2, r3⟩ := rowB_get hr
      have ha' := (inR_iff _ _ _).1 ha
      refine ⟨((tick (bconv l) a).1, (tick (bconv l) a).2.2, true), fun k hk => ?_, fun k hk => ?_, ?_⟩
      · unfold spec_TickRow.f
        rw [weRow_ok _ k hc (by omega), Option.bind_some, if_pos hr, l1In_okR, Option.bind_some, if_pos ha, weTick_ok _ _ k r3 (by omega) (by omega) (by omega) (by omega), Option.bind_some]
      · unfold impl_TickRow.f
        rw [IsRow_ok _ hc, Option.bind_some, if_pos hr, within_okR, Option.bind_some, if_pos ha, tickRow_ok _ _ k r3 (by omega) (by omega) (by omega) (by omega), Option.bind_some]
      · have := (tick_len (bconv l) a).1
        simp only []
        omega
    · refine ⟨([], 0, false), fun k hk => ?_, fun k hk => ?_, by simp⟩
      · unfold spec_TickRow.f
        rw [weRow_ok _ k hc (by omega), Option.bind_some, if_pos hr, l1In_okR, Option.bind_some, if_neg ha]
      · unfold impl_TickRow.f
        rw [IsRow_ok _ hc, Option.bind_some, if_pos hr, within_okR, Option.bind_some, if_neg ha]
  · refine ⟨([], 0, false), fun k hk => ?_, fun k hk => ?_, by simp⟩
    · unfold spec_TickRow.f
      rw [weRow_ok _ k hc (by omega), Option.bind_some, if_neg hr]
    · unfold impl_TickRow.f
      rw [IsRow_ok _ hc, Option.bind_some, if_neg hr]

theorem FnExactTickRow : ∀ (l0 : List S61) (a1 : Int), l0.length ≤ maxLen → (∀ x ∈ l0, (Lit.int .i64 x.f0).wf = true ∧ (Lit.int .i64 x.f1).wf = true ∧ (Lit.int .i64 x.f2).wf = true) → (Lit.int .i64 a1).wf = true → ∃ k, laws_FnExactTickRow.f k l0 a1 = some true := by
  intro l0 a1 w0 w1 w2
  have sz := szBasinS_ok l0 w0
  by_cases big : l0.length ≤ 1048576
  case neg =>
    rw [if_neg big] at sz
    refine ⟨0, ?_⟩
    unfold laws_FnExactTickRow.f
    rw [sz, Option.bind_some, if_pos (by omega)]
  rw [if_pos big] at sz
  have lt : ((1048576 : Int) - (l0.length : Int) < 0) = False := eq_false (by omega)
  have cl : (bconv l0).length ≤ 1048576 := by rw [bconv_length]; exact big
  have q1 : ∀ n : Nat, ((1 : Int) + 3 * (n : Int) < 0) = False := fun n => eq_false (by omega)
  obtain ⟨R, hs, hi, hR⟩ := TickRow_same l0 a1 w0 w1 w2 big
  obtain ⟨K, hK⟩ : ∃ K, K = 10000000000000 := ⟨_, rfl⟩
  refine ⟨K + 9, ?_⟩
  have n1 : ∀ n : Nat, ((1 : Int) + (n : Int) < 0) = False := fun n => eq_false (by omega)
  have n2 : ∀ n m : Nat, ((1 : Int) + (n : Int) + (m : Int) < 0) = False := fun n m => eq_false (by omega)
  have n3 : ∀ n m q : Nat, ((1 : Int) + (n : Int) + (m : Int) + (q : Int) < 0) = False := fun n m q => eq_false (by omega)
  simp (disch := omega) only [laws_FnExactTickRow.f, hs, hi, sz, lt, toBasinS_ok, eqBasinS_ok, markBasinS_ok, heldBasinS_ok, q1, n1, n2, n3, Option.bind_some, bne_self_eq_false, Bool.false_eq_true, eq_self, if_true, if_false]
  simp (disch := omega) only [laws_FnExactTickRow.j0, hs, hi, sz, lt, toBasinS_ok, eqBasinS_ok, markBasinS_ok, heldBasinS_ok, q1, n1, n2, n3, Option.bind_some, bne_self_eq_false, Bool.false_eq_true, eq_self, if_true, if_false]
  simp (disch := omega) only [laws_FnExactTickRow.j1, hs, hi, sz, lt, toBasinS_ok, eqBasinS_ok, markBasinS_ok, heldBasinS_ok, q1, n1, n2, n3, Option.bind_some, bne_self_eq_false, Bool.false_eq_true, eq_self, if_true, if_false]
  simp (disch := omega) only [laws_FnExactTickRow.j2, hs, hi, sz, lt, toBasinS_ok, eqBasinS_ok, markBasinS_ok, heldBasinS_ok, q1, n1, n2, n3, Option.bind_some, bne_self_eq_false, Bool.false_eq_true, eq_self, if_true, if_false]

end Go.Proofs.Ytcalhmjnoahliaa.Pure
