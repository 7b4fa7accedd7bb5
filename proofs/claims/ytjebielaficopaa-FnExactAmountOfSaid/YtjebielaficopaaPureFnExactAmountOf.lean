/- The program's AmountOf and the reference's tell the same, and the arguments are left. It holds for all inputs that the statement lets in. -/
import Derived.Test.YtjebielaficopaaLibV
import Derived.Test.YtjebielaficopaaLibW
import Derived.Test.YtjebielaficopaaPr3
import Derived.Test.YtjebielaficopaaPr4
import Derived.Test.YtjebielaficopaaPr5
import Derived.Test.YtjebielaficopaaPr6
namespace Go.Proofs.Ytjebielaficopaa.Pure
open Go.RowKit Go.Proofs.Ytjebielaficopaa.Pr Go.Proofs.YtjebielaficopaaW.PrintWords Go.Proofs.YtjebielaficopaaW.PrintLast
set_option linter.unusedVariables false
set_option linter.unusedSimpArgs false

theorem amount_same (s h : List Int) (a b : Int) (hv : vesB s h = true) (hm : moveB (s.length : Int) a b = true) : ∃ x : Int, spec_veAmount.f s h a b = some x ∧ impl_Vessels_amount.f s h a b = some x := by
  obtain ⟨v1, v2, v3, v4, v5⟩ := vesB_get hv
  obtain ⟨m1, m2, m3, m4, m5⟩ := moveB_get hm
  have at_ : ∀ i : Int, 0 ≤ i → i < (s.length : Int) → 0 ≤ rd h i ∧ rd h i ≤ rd s i ∧ rd s i ≤ 60 := fun i h0 h1 => by
    have := v5 i.toNat (by omega)
    rwa [show ((i.toNat : Nat) : Int) = i by omega] at this
  by_cases ha : a < 0
  · have hb := at_ b (by omega) (by omega)
    refine ⟨rd s b - rd h b, ?_, ?_⟩
    · unfold spec_veAmount.f spec_l1Least.f
      rw [if_neg (by omega), if_pos (by omega), if_pos (by omega), if_pos (by omega), if_pos (by omega), w64 (by omega) (by omega)]
      split
      · rw [Option.bind_some]; congr 1; omega
      · rw [Option.bind_some]
    · unfold impl_Vessels_amount.f impl_Vessels_room.f
      rw [if_pos ha, if_pos (by omega), if_pos (by omega), if_pos (by omega), Option.bind_some, w64 (by omega) (by omega)]
  · have hA := at_ a (by omega) (by omega)
    by_cases hb : b < 0
    · refine ⟨rd h a, ?_, ?_⟩
      · unfold spec_veAmount.f
        rw [if_pos (by omega), if_pos (by omega), if_pos (by omega), if_neg (by omega)]
      · unfold impl_Vessels_amount.f
        rw [if_neg ha, if_pos hb, if_pos (by omega), if_pos (by omega)]
    · have hB := at_ b (by omega) (by omega)
      refine ⟨min (rd h a) (rd s b - rd h b), ?_, ?_⟩
      · unfold spec_veAmount.f spec_l1Least.f
        rw [if_pos (by omega), if_pos (by omega), if_pos (by omega), if_pos (by omega), if_pos (by omega), if_pos (by omega), if_pos (by omega), w64 (by omega) (by omega)]
        split <;> (rw [Option.bind_some]; congr 1; omega)
      · unfold impl_Vessels_amount.f impl_Vessels_room.f
        rw [if_neg ha, if_neg hb, if_pos (by omega), if_pos (by omega), if_pos (by omega), if_pos (by omega), if_pos (by omega), Option.bind_some, w64 (by omega) (by omega)]
        congr 1
        unfold mn
        split <;> omega
theorem AmountOf_same (s h : List Int) (a b : Int) (_w0 : s.length ≤ maxLen) (_w1 : ∀ x ∈ s, (Lit.int .i64 x).wf = true) (_w2 : h.length ≤ maxLen) (_w3 : ∀ x ∈ h, (Lit.int .i64 x).wf = true) (_w4 : (Lit.int .i64 a).wf = true) (_w5 : (Lit.int .i64 b).wf = true) (hs : s.length ≤ 1048576) (hh : h.length ≤ 1048576) : ∃ R : Int × Bool, (∀ k, 4000000 ≤ k → spec_AmountOf.f k s h a b = some R) ∧ (∀ k, 4000000 ≤ k → impl_AmountOf.f k s h a b = some R) := by
  by_cases hv : vesB s h = true
  · by_cases hm : moveB (s.length : Int) a b = true
    · obtain ⟨x, e1, e2⟩ := amount_same s h a b hv hm
      refine ⟨(x, true), fun k hk => ?_, fun k hk => ?_⟩
      · unfold spec_AmountOf.f spec_veAsked.f
        rw [veGood_ok s h k hs hh hk, Option.bind_some, if_pos hv, veMove_ok _ a b (by omega) (by omega), hm, Option.bind_some, Option.bind_some, if_pos rfl, e1, Option.bind_some]
      · unfold impl_AmountOf.f impl_IsMove.f
        rw [AreVessels_ok s h k hs hh hk, Option.bind_some, if_pos hv, isMove_ok _ a b (by omega) (by omega), hm, Option.bind_some, Option.bind_some, if_pos rfl, e2, Option.bind_some]
    · refine ⟨(0, false), fun k hk => ?_, fun k hk => ?_⟩
      · unfold spec_AmountOf.f spec_veAsked.f
        rw [veGood_ok s h k hs hh hk, Option.bind_some, if_pos hv, veMove_ok _ a b (by omega) (by omega), Bool.eq_false_iff.mpr hm, Option.bind_some, Option.bind_some, if_neg (by simp)]
      · unfold impl_AmountOf.f impl_IsMove.f
        rw [AreVessels_ok s h k hs hh hk, Option.bind_some, if_pos hv, isMove_ok _ a b (by omega) (by omega), Bool.eq_false_iff.mpr hm, Option.bind_some, Option.bind_some, if_neg (by simp)]
  · refine ⟨(0, false), fun k hk => ?_, fun k hk => ?_⟩
    · unfold spec_AmountOf.f spec_veAsked.f
      rw [veGood_ok s h k hs hh hk, Option.bind_some, if_neg hv, Option.bind_some, if_neg (by simp)]
    · unfold impl_AmountOf.f impl_IsMove.f
      rw [AreVessels_ok s h k hs hh hk, Option.bind_some, if_neg hv, Option.bind_some, if_neg (by simp)]

theorem FnExactAmountOf : ∀ (l0_0 : List Int) (l0_1 : List Int) (a1_0 : Int) (a1_1 : Int), l0_0.length ≤ maxLen → (∀ x ∈ l0_0, (Lit.int .i64 x).wf = true) → l0_1.length ≤ maxLen → (∀ x ∈ l0_1, (Lit.int .i64 x).wf = true) → (Lit.int .i64 a1_0).wf = true → (Lit.int .i64 a1_1).wf = true → ∃ k, laws_FnExactAmountOf.f k l0_0 l0_1 a1_0 a1_1 = some true := by
  intro l0_0 l0_1 a1_0 a1_1 w0 w1 w2 w3 w4 w5
  have sz := szV l0_0 l0_1 w0 w2
  by_cases big : l0_0.length + l0_1.length ≤ 1048576
  case neg =>
    rw [if_neg big] at sz
    refine ⟨0, ?_⟩
    unfold laws_FnExactAmountOf.f
    rw [sz, Option.bind_some, if_pos (by omega)]
  rw [if_pos big] at sz
  have lt : ((1048576 : Int) - (l0_0.length : Int) - (l0_1.length : Int) < 0) = False := eq_false (by omega)
  obtain ⟨R, hs, hi⟩ := AmountOf_same l0_0 l0_1 a1_0 a1_1 w0 w1 w2 w3 w4 w5 (by omega) (by omega)
  obtain ⟨K, hK⟩ : ∃ K, K = 10000000000000 := ⟨_, rfl⟩
  refine ⟨K + 9, ?_⟩
  simp (disch := omega) only [laws_FnExactAmountOf.f, hs, hi, sz, lt, toV_ok, eqV_ok, laws_toMove.f, Option.bind_some, bne_self_eq_false, Bool.false_eq_true, eq_self, if_true, if_false]
  simp (disch := omega) only [laws_FnExactAmountOf.j0, hs, hi, sz, lt, toV_ok, eqV_ok, laws_toMove.f, Option.bind_some, bne_self_eq_false, Bool.false_eq_true, eq_self, if_true, if_false]

end Go.Proofs.Ytjebielaficopaa.Pure
