/- The program's PipeLevels and the reference's tell the same. It holds for all inputs that the statement lets in. -/
import Derived.Test.YtfaiegpkmohkdaaLibF
import Derived.Test.YtfaiegpkmohkdaaLibP
import Derived.Test.YtfaiegpkmohkdaaLibT
import Derived.Test.YtfaiegpkmohkdaaLibW
import Derived.Test.YtfaiegpkmohkdaaPr0
import Derived.Test.YtfaiegpkmohkdaaPr2
import Derived.Test.YtfaiegpkmohkdaaPr26
import Derived.Test.YtfaiegpkmohkdaaPr27
import Derived.Test.YtfaiegpkmohkdaaPr3
namespace Go.Proofs.Ytfaiegpkmohkdaa.Pure
open Go.RowKit Go.Proofs.Ytfaiegpkmohkdaa.Pr Go.Proofs.YtfaiegpkmohkdaaW.PrintWords Go.Proofs.YtfaiegpkmohkdaaW.PrintLast
set_option linter.unusedVariables false
set_option linter.unusedSimpArgs false

theorem w1_ : wrap64 1 = 1 := w64 (by omega) (by omega)
theorem w2_ : wrap64 2 = 2 := w64 (by omega) (by omega)
theorem w3_ : wrap64 3 = 3 := w64 (by omega) (by omega)
theorem w4_ : wrap64 4 = 4 := w64 (by omega) (by omega)
theorem w5_ : wrap64 5 = 5 := w64 (by omega) (by omega)
theorem eqR2_ok (k : Nat) (x y : S29) : laws_eqRatioS.f (k + 4) [x, y] [x, y] = some true := by
  simp [laws_eqRatioS.f, laws_eqRatioS.l0, laws_eqRatio.f, w1_, w2_]
theorem eqR0_ok (k : Nat) : laws_eqRatioS.f (k + 4) [] [] = some true := by
  simp [laws_eqRatioS.f, laws_eqRatioS.l0]
theorem markR2_ok (k : Nat) (x y : S29) : laws_markRatioS.f (k + 4) [x, y] 1 = some (5, [⟨1, 2⟩, ⟨3, 4⟩]) := by
  simp [laws_markRatioS.f, laws_markRatioS.l0, rd_T29, w1_, w2_, w3_, w4_, w5_]
theorem markR0_ok (k : Nat) : laws_markRatioS.f (k + 4) [] 1 = some (1, []) := by
  simp [laws_markRatioS.f, laws_markRatioS.l0]
theorem heldR2_ok (k : Nat) : laws_heldRatioS.f (k + 4) [⟨1, 2⟩, ⟨3, 4⟩] 1 = some 5 := by
  simp [laws_heldRatioS.f, laws_heldRatioS.l0, rd_T29, w1_, w2_, w3_, w4_, w5_]
theorem heldR0_ok (k : Nat) : laws_heldRatioS.f (k + 4) [] 1 = some 1 := by
  simp [laws_heldRatioS.f, laws_heldRatioS.l0]
theorem lvl_eq {CA a : Int} {F : Int × Int} (ha : 0 < a) (hF : 0 < F.2) (s : Int) :
    red (CA * (red F.1 F.2).2 + s * (red F.1 F.2).1) (a * (red F.1 F.2).2) = red (CA * F.2 + s * F.1) (a * F.2) := by
  refine red_congr (Int.mul_pos ha (red_pos hF)) (Int.mul_pos ha hF) ?_
  have e := red_cross F.1 F.2
  have e' : s * (red F.1 F.2).1 * (a * F.2) = s * F.1 * (a * (red F.1 F.2).2) := by
    rw [Int.mul_assoc s, Int.mul_assoc s, Int.mul_left_comm _ a, e, Int.mul_left_comm a]
  rw [Int.add_mul, Int.add_mul, e']
  congr 1
  ac_rfl
theorem PipeLevels_same (a f w b g v h : Int) : ∃ R : List S29 × Bool, ((∃ x y, R = ([x, y], true)) ∨ R = ([], false)) ∧ (∀ k, 1000000000000 ≤ k → spec_PipeLevels.f k a f w b g v h = some R) ∧ (∀ k, 1000000000000 ≤ k → impl_PipeLevels.f k a f w b g v h = some R) := by
  by_cases hp : pipeB a f w b g v h = true
  · have p := pipeB_get hp
    obtain ⟨a1, a2, a3, a4, a5, a6⟩ := tankB_get p.ta
    obtain ⟨b1, b2, b3, b4, b5, b6⟩ := tankB_get p.tb
    have ca := cont_bd p.ta
    have cb := cont_bd p.tb
    have fb := flowN_bd p
    have fp := flowN_pos (a := a) (ca := cont a f w) (b := b) (cb := cont b g v) (h := h) a1 b1
    refine ⟨_, .inl ⟨⟨(lvX a (cont a f w) (flowN a (cont a f w) b (cont b g v) h)).1, (lvX a (cont a f w) (flowN a (cont a f w) b (cont b g v) h)).2⟩, ⟨(lvY b (cont b g v) (flowN a (cont a f w) b (cont b g v) h)).1, (lvY b (cont b g v) (flowN a (cont a f w) b (cont b g v) h)).2⟩, rfl⟩, fun k hk => ?_, fun k hk => ?_⟩
    · unfold spec_PipeLevels.f
      rw [lePipe_ok, hp, Option.bind_some, if_pos rfl, leFlow_ok k p (by omega), Option.bind_some]
      have ea : wrap64 (wrap64 (f * a) + w) = cont a f w := by
        have := mulB a3 a4 (show 0 ≤ a by omega) a2
        rw [w64 (i := f * a) (by omega) (by omega), w64 (by omega) (by omega), Int.mul_comm]; rfl
      have eb : wrap64 (wrap64 (g * b) + v) = cont b g v := by
        have := mulB b3 b4 (show 0 ≤ b by omega) b2
        rw [w64 (i := g * b) (by omega) (by omega), w64 (by omega) (by omega), Int.mul_comm]; rfl
      rw [ea, eb]
      generalize flowN a (cont a f w) b (cont b g v) h = F at fb fp ⊢
      have l0 := red_le (n := F.1) fp
      have p0 := red_pos (n := F.1) fp
      have q1 := mulB ca.1 ca.2 (show 0 ≤ (red F.1 F.2).2 by omega) (show (red F.1 F.2).2 ≤ 100 by omega)
      have q2 := mulB cb.1 cb.2 (show 0 ≤ (red F.1 F.2).2 by omega) (show (red F.1 F.2).2 ≤ 100 by omega)
      have q3 := mulB (show 0 ≤ a by omega) a2 (show 0 ≤ (red F.1 F.2).2 by omega) (show (red F.1 F.2).2 ≤ 100 by omega)
      have q4 := mulB (show 0 ≤ b by omega) b2 (show 0 ≤ (red F.1 F.2).2 by omega) (show (red F.1 F.2).2 ≤ 100 by omega)
      have q5 : 0 < a * (red F.1 F.2).2 := Int.mul_pos (by omega) p0
      have q6 : 0 < b * (red F.1 F.2).2 := Int.mul_pos (by omega) p0
      have ex : red (cont a f w * (red F.1 F.2).2 - (red F.1 F.2).1) (a * (red F.1 F.2).2) = lvX a (cont a f w) F := by
        have := lvl_eq (CA := cont a f w) (a := a) (F := F) (by omega) fp (-1)
        unfold lvX
        rwa [show (-1 : Int) * (red F.1 F.2).1 = -(red F.1 F.2).1 by omega, show (-1 : Int) * F.1 = -F.1 by omega, ← Int.sub_eq_add_neg, ← Int.sub_eq_add_neg] at this
      have ey : red (cont b g v * (red F.1 F.2).2 + (red F.1 F.2).1) (b * (red F.1 F.2).2) = lvY b (cont b g v) F := by
        have := lvl_eq (CA := cont b g v) (a := b) (F := F) (by omega) fp 1
        unfold lvY
        rwa [Int.one_mul, Int.one_mul] at this
      rw [w64 (i := cont a f w * (red F.1 F.2).2) (by omega) (by omega), w64 (i := cont a f w * (red F.1 F.2).2 - _) (by omega) (by omega), w64 (i := a * (red F.1 F.2).2) (by omega) (by omega), leRatio_ok _ _ k (by omega) q5 (by omega) (by omega), Option.bind_some, ex,
        w64 (i := cont b g v * (red F.1 F.2).2) (by omega) (by omega), w64 (i := cont b g v * (red F.1 F.2).2 + _) (by omega) (by omega), w64 (i := b * (red F.1 F.2).2) (by omega) (by omega), leRatio_ok _ _ k (by omega) q6 (by omega) (by omega), Option.bind_some, ey]
    · obtain ⟨k, rfl⟩ : ∃ m, k = m + 2 := ⟨k - 2, by omega⟩
      unfold impl_PipeLevels.f
      rw [isPiped_ok, hp, Option.bind_some, if_pos rfl, piped_ok k p (by omega), Option.bind_some]
  · refine ⟨([], false), .inr rfl, fun k hk => ?_, fun k hk => ?_⟩
    · unfold spec_PipeLevels.f
      rw [lePipe_ok, Option.bind_some, if_neg hp]
    · unfold impl_PipeLevels.f
      rw [isPiped_ok, Option.bind_some, if_neg hp]
theorem PipeLevels_law (a f w b g v h : Int) : ∃ k, laws_FnExactPipeLevels.f k a f w b g v h = some true := by
  obtain ⟨R, hR, hs, hi⟩ := PipeLevels_same a f w b g v h
  obtain ⟨K, hK⟩ : ∃ K, K = 10000000000000 := ⟨_, rfl⟩
  refine ⟨K + 9, ?_⟩
  have hs' : ∀ q : Nat, spec_PipeLevels.f (K + q) a f w b g v h = some R := fun q => hs _ (by omega)
  have hi' : ∀ q : Nat, impl_PipeLevels.f (K + q) a f w b g v h = some R := fun q => hi _ (by omega)
  have t := fun (x y : S29) => eqR2_ok (K + 5) x y
  have t0 := eqR0_ok (K + 5)
  have u := fun (x y : S29) => eqR2_ok (K + 4) x y
  have u0 := eqR0_ok (K + 4)
  have m := fun (x y : S29) => markR2_ok (K + 4) x y
  have m0 := markR0_ok (K + 4)
  have n := heldR2_ok (K + 4)
  have n0 := heldR0_ok (K + 4)
  have o := heldR2_ok (K + 3)
  have o0 := heldR0_ok (K + 3)
  have c5 : ¬ (5 : Int) < 0 := by decide
  have c1 : ¬ (1 : Int) < 0 := by decide
  rcases hR with ⟨x, y, rfl⟩ | rfl
  · simp only [laws_FnExactPipeLevels.f, laws_toTank.f, Option.bind_some, hs', hi', t, if_true, bne_self_eq_false, Nat.add_assoc, Nat.reduceAdd, eqR2_ok]
    simp only [Nat.add_assoc, Nat.reduceAdd] at t
    simp only [t, Option.bind_some, if_true, laws_FnExactPipeLevels.j0, Bool.false_eq_true, if_false]
    simp only [Nat.add_assoc, Nat.reduceAdd] at u m n
    simp only [m, n, Option.bind_some, c5, if_false, if_true, laws_toTank.f, hi', u, bne_self_eq_false, laws_FnExactPipeLevels.j1, Bool.false_eq_true]
    simp only [Nat.add_assoc, Nat.reduceAdd] at o
    simp only [o, Option.bind_some, c5, if_false, if_true]
  · simp only [laws_FnExactPipeLevels.f, laws_toTank.f, Option.bind_some, hs', hi', bne_self_eq_false, Nat.add_assoc, Nat.reduceAdd]
    simp only [Nat.add_assoc, Nat.reduceAdd] at t0
    simp only [t0, Option.bind_some, if_true, laws_FnExactPipeLevels.j0, Bool.false_eq_true, if_false]
    simp only [Nat.add_assoc, Nat.reduceAdd] at u0 m0 n0
    simp only [m0, n0, Option.bind_some, c1, if_false, if_true, laws_toTank.f, hi', u0, bne_self_eq_false, laws_FnExactPipeLevels.j1, Bool.false_eq_true]
    simp only [Nat.add_assoc, Nat.reduceAdd] at o0
    simp only [o0, Option.bind_some, c1, if_false, if_true]

theorem FnExactPipeLevels : ∀ (a0_0 : Int) (a0_1 : Int) (a0_2 : Int) (a1_0 : Int) (a1_1 : Int) (a1_2 : Int) (a2 : Int), (Lit.int .i64 a0_0).wf = true → (Lit.int .i64 a0_1).wf = true → (Lit.int .i64 a0_2).wf = true → (Lit.int .i64 a1_0).wf = true → (Lit.int .i64 a1_1).wf = true → (Lit.int .i64 a1_2).wf = true → (Lit.int .i64 a2).wf = true → ∃ k, laws_FnExactPipeLevels.f k a0_0 a0_1 a0_2 a1_0 a1_1 a1_2 a2 = some true := by
  intro a0_0 a0_1 a0_2 a1_0 a1_1 a1_2 a2 w0 w1 w2 w3 w4 w5 w6
  exact PipeLevels_law a0_0 a0_1 a0_2 a1_0 a1_1 a1_2 a2

end Go.Proofs.Ytfaiegpkmohkdaa.Pure
