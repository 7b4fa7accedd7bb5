/- The program's FlowThrough and the reference's tell the same. It holds for all inputs that the statement lets in. -/
import Derived.Test.YtfaiegpkmohkdaaLibF
import Derived.Test.YtfaiegpkmohkdaaLibP
import Derived.Test.YtfaiegpkmohkdaaLibT
import Derived.Test.YtfaiegpkmohkdaaLibW
import Derived.Test.YtfaiegpkmohkdaaPr19
import Derived.Test.YtfaiegpkmohkdaaPr2
import Derived.Test.YtfaiegpkmohkdaaPr3
namespace Go.Proofs.Ytfaiegpkmohkdaa.Pure
open Go.RowKit Go.Proofs.Ytfaiegpkmohkdaa.Pr Go.Proofs.YtfaiegpkmohkdaaW.PrintWords Go.Proofs.YtfaiegpkmohkdaaW.PrintLast
set_option linter.unusedVariables false
set_option linter.unusedSimpArgs false

theorem FlowThrough_same (a f w b g v h : Int) (_w0 : (Lit.int .i64 a).wf = true) (_w1 : (Lit.int .i64 f).wf = true) (_w2 : (Lit.int .i64 w).wf = true) (_w3 : (Lit.int .i64 b).wf = true) (_w4 : (Lit.int .i64 g).wf = true) (_w5 : (Lit.int .i64 v).wf = true) (_w6 : (Lit.int .i64 h).wf = true) : ∃ R : Int × Int × Bool, (∀ k, 1000000000000 ≤ k → spec_FlowThrough.f k a f w b g v h = some R) ∧ (∀ k, 1000000000000 ≤ k → impl_FlowThrough.f k a f w b g v h = some R) := by
  by_cases hp : pipeB a f w b g v h = true
  · have p := pipeB_get hp
    obtain ⟨a1, a2, a3, a4, a5, a6⟩ := tankB_get p.ta
    obtain ⟨b1, b2, b3, b4, b5, b6⟩ := tankB_get p.tb
    have ca := cont_bd p.ta
    have fb := flowN_bd p
    have fp := flowN_pos (a := a) (ca := cont a f w) (b := b) (cb := cont b g v) (h := h) a1 b1
    refine ⟨((red (flowN a (cont a f w) b (cont b g v) h).1 (flowN a (cont a f w) b (cont b g v) h).2).1, (red (flowN a (cont a f w) b (cont b g v) h).1 (flowN a (cont a f w) b (cont b g v) h).2).2, true), fun k hk => ?_, fun k hk => ?_⟩
    · unfold spec_FlowThrough.f
      rw [lePipe_ok, hp, Option.bind_some, if_pos rfl, leFlow_ok k p (by omega), Option.bind_some]
    · obtain ⟨k, rfl⟩ : ∃ m, k = m + 2 := ⟨k - 2, by omega⟩
      unfold impl_FlowThrough.f
      rw [isPiped_ok, hp, Option.bind_some, if_pos rfl, piped_ok k p (by omega), Option.bind_some, content_ok p.ta, Option.bind_some]
      generalize flowN a (cont a f w) b (cont b g v) h = F at fb fp ⊢
      have q1 := mulB ca.1 ca.2 (show 0 ≤ F.2 by omega) fb.2
      have q2 := mulB (show 0 ≤ a by omega) a2 (show 0 ≤ F.2 by omega) fb.2
      have q3 : 0 < a * F.2 := Int.mul_pos (by omega) fp
      have lx := red_le (n := cont a f w * F.2 - F.1) q3
      have px := red_pos (n := cont a f w * F.2 - F.1) q3
      have s := red_sub (c := cont a f w) (a := a) (n := cont a f w * F.2 - F.1) q3
      have e : red (cont a f w * (a * F.2) - a * (cont a f w * F.2 - F.1)) (a * F.2) = red F.1 F.2 := by
        rw [show cont a f w * (a * F.2) - a * (cont a f w * F.2 - F.1) = a * F.1 by rw [Int.mul_sub, Int.mul_left_comm]; omega]
        exact red_scale fp (by omega)
      rw [e] at s
      have es : lvX a (cont a f w) F = red (cont a f w * F.2 - F.1) (a * F.2) := rfl
      rw [es]
      generalize red (cont a f w * F.2 - F.1) (a * F.2) = X at lx px s ⊢
      have r1 := mulB ca.1 ca.2 (show 0 ≤ X.2 by omega) (show X.2 ≤ 5000 by omega)
      have r2 : (a * X.1).natAbs ≤ 50 * 20000000 := by rw [Int.natAbs_mul]; exact Nat.mul_le_mul (by omega) (by omega)
      simp only []
      rw [w64 (i := cont a f w * X.2) (by omega) (by omega), w64 (i := a * X.1) (by omega) (by omega), w64 (i := cont a f w * X.2 - a * X.1) (by omega) (by omega), lowest_ok _ X.2 _ (by omega) px (by omega) (by omega), Option.bind_some, s]
  · refine ⟨(0, 0, false), fun k hk => ?_, fun k hk => ?_⟩
    · unfold spec_FlowThrough.f
      rw [lePipe_ok, Option.bind_some, if_neg hp]
    · unfold impl_FlowThrough.f
      rw [isPiped_ok, Option.bind_some, if_neg hp]

theorem FnExactFlowThrough : ∀ (a0_0 : Int) (a0_1 : Int) (a0_2 : Int) (a1_0 : Int) (a1_1 : Int) (a1_2 : Int) (a2 : Int), (Lit.int .i64 a0_0).wf = true → (Lit.int .i64 a0_1).wf = true → (Lit.int .i64 a0_2).wf = true → (Lit.int .i64 a1_0).wf = true → (Lit.int .i64 a1_1).wf = true → (Lit.int .i64 a1_2).wf = true → (Lit.int .i64 a2).wf = true → ∃ k, laws_FnExactFlowThrough.f k a0_0 a0_1 a0_2 a1_0 a1_1 a1_2 a2 = some true := by
  intro a0_0 a0_1 a0_2 a1_0 a1_1 a1_2 a2 w0 w1 w2 w3 w4 w5 w6
  obtain ⟨R, hs, hi⟩ := FlowThrough_same a0_0 a0_1 a0_2 a1_0 a1_1 a1_2 a2 w0 w1 w2 w3 w4 w5 w6
  obtain ⟨K, hK⟩ : ∃ K, K = 10000000000000 := ⟨_, rfl⟩
  refine ⟨K + 9, ?_⟩
  simp (disch := omega) only [laws_FnExactFlowThrough.f, hs, hi, laws_toTank.f, laws_eqRatio.f, Option.bind_some, bne_self_eq_false, Bool.false_eq_true, eq_self, if_true, if_false]

end Go.Proofs.Ytfaiegpkmohkdaa.Pure
