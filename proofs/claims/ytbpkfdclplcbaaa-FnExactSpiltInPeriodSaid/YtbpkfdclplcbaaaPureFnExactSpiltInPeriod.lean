/- The program's SpiltInPeriod and the reference's tell the same. It holds for all inputs. -/
import Derived.Test.YtbpkfdclplcbaaaLibS
import Derived.Test.YtbpkfdclplcbaaaLibSt
import Derived.Test.YtbpkfdclplcbaaaLibSu
import Derived.Test.YtbpkfdclplcbaaaLibSv
import Derived.Test.YtbpkfdclplcbaaaLibW
import Derived.Test.YtbpkfdclplcbaaaPr2
import Derived.Test.YtbpkfdclplcbaaaPr23
import Derived.Test.YtbpkfdclplcbaaaPureFnExactPeriodOfSiphon
namespace Go.Proofs.Ytbpkfdclplcbaaa.Pure
open Go.RowKit Go.Proofs.Ytbpkfdclplcbaaa.Pr Go.Proofs.YtbpkfdclplcbaaaW.PrintWords Go.Proofs.YtbpkfdclplcbaaaW.PrintLast
set_option linter.unusedVariables false
set_option linter.unusedSimpArgs false

def puP (z lo st fl x : Int) (n j : Nat) : List Int := (List.range j).map (fun i : Nat => lvs z lo st fl x (n + i))
theorem puP_drop {z lo st fl x : Int} {k0 n0 : Nat} (M : Meet z lo st fl x k0 n0) : puP z lo st fl x n0 (n0 - k0) = ((List.range n0).map (lvs z lo st fl x)).drop k0 := by
  have hlt := M.lt
  obtain ⟨p, rfl⟩ : ∃ p, n0 = k0 + p := ⟨n0 - k0, by omega⟩
  rw [show k0 + p - k0 = p by omega, List.range_add, List.map_append, List.drop_append_of_le_length (by simp), List.drop_of_length_le (by simp), List.nil_append]
  unfold puP
  rw [List.map_map]
  apply List.map_congr_left
  intro i _
  show lvs z lo st fl x (k0 + p + i) = lvs z lo st fl x (k0 + i)
  unfold lvs
  rw [lvl_shift M.eq i]
theorem total_l0 {z lo st fl x : Int} (hs : siphB z lo st fl = true) (x0 : 0 ≤ x) (x1 : x ≤ 60) (n p : Nat) (hp : p ≤ 1000) : ∀ (d k j : Nat), j + d = p → d < k →
    impl_total.l0 k (smS z lo st fl x n j) (puP z lo st fl x n p) (p : Int) (j : Int) = some (smS z lo st fl x n p) := by
  have hl : (puP z lo st fl x n p).length = p := by simp [puP]
  intro d
  induction d with
  | zero =>
    intro k j hj hk
    obtain ⟨k, rfl⟩ : ∃ m, k = m + 1 := ⟨k - 1, by omega⟩
    obtain rfl : j = p := by omega
    simp only [impl_total.l0]
    rw [if_neg (by omega)]
  | succ d ih =>
    intro k j hj hk
    obtain ⟨k, rfl⟩ : ∃ m, k = m + 1 := ⟨k - 1, by omega⟩
    have hi := ih k (j + 1) (by omega) (by omega)
    have s1 := smS_bd hs x0 x1 n (j + 1)
    have hr : rd (puP z lo st fl x n p) (j : Int) = lvs z lo st fl x (n + j) := by
      have hjp : j < p := by omega
      simp [rd, puP, hjp]
    have es : smS z lo st fl x n j + lvs z lo st fl x (n + j) = smS z lo st fl x n (j + 1) := rfl
    simp only [impl_total.l0]
    rw [if_pos (by omega), if_pos (by omega), if_pos (by omega), hr, es, w64 (i := smS z lo st fl x n (j + 1)) (by omega) (by omega), w64 (i := (j : Int) + 1) (by omega) (by omega)]
    exact hi
theorem SpiltInPeriod_same (z lo st fl x : Int) (_w0 : (Lit.int .i64 z).wf = true) (_w1 : (Lit.int .i64 lo).wf = true) (_w2 : (Lit.int .i64 st).wf = true) (_w3 : (Lit.int .i64 fl).wf = true) (_w4 : (Lit.int .i64 x).wf = true) : ∃ R : Int × Bool, (∀ k, 30000 ≤ k → spec_SpiltInPeriod.f k z lo st fl x = some R) ∧ (∀ k, 30000 ≤ k → impl_SpiltInPeriod.f k z lo st fl x = some R) := by
  by_cases h : (siphB z lo st fl && inR 0 60 x) = true
  · have h' := h
    rw [Bool.and_eq_true] at h
    have hx := (inR_iff _ _ _).1 h.2
    obtain ⟨k0, n0, M⟩ := meet_ex h.1 hx.1 hx.2
    have hle := M.le
    have hlt := M.lt
    refine ⟨(smS z lo st fl x n0 (n0 - k0), true), fun k hk => ?_, fun k hk => ?_⟩
    · unfold spec_SpiltInPeriod.f
      rw [siSteady_ok, Option.bind_some, if_pos h', siPulse_ok h.1 hx.1 hx.2 M k hk, Option.bind_some]
    · unfold impl_SpiltInPeriod.f
      rw [steadyF_yes h.1 h.2 M k (by omega), Option.bind_some, if_pos rfl]
      have hl : (lvP z lo st fl x n0).length = n0 := by simp [lvP]
      have hd : (lvP z lo st fl x n0).drop k0 = puP z lo st fl x n0 (n0 - k0) := (puP_drop M).symm
      have ht := total_l0 h.1 hx.1 hx.2 n0 (n0 - k0) (by omega) (n0 - k0) k 0 (by omega) (by omega)
      have hl2 : (puP z lo st fl x n0 (n0 - k0)).length = n0 - k0 := by simp [puP]
      simp only []
      rw [hl, if_pos (by omega), if_pos (by omega), Int.toNat_natCast, hd]
      unfold impl_total.f
      rw [hl2, show (0 : Int) = smS z lo st fl x n0 0 from rfl]
      rw [show (((0 : Nat) : Int)) = smS z lo st fl x n0 0 from rfl] at ht
      rw [ht, Option.bind_some]
  · have h2 : (siphB z lo st fl && inR 0 60 x) = false := by simpa using h
    refine ⟨(0, false), fun k hk => ?_, fun k hk => ?_⟩
    · unfold spec_SpiltInPeriod.f
      rw [siSteady_ok, Option.bind_some, if_neg h]
    · unfold impl_SpiltInPeriod.f
      rw [steadyF_no h2 k (by omega), Option.bind_some, if_neg (by simp)]

theorem FnExactSpiltInPeriod : ∀ (a0_0 : Int) (a0_1 : Int) (a0_2 : Int) (a0_3 : Int) (a1 : Int), (Lit.int .i64 a0_0).wf = true → (Lit.int .i64 a0_1).wf = true → (Lit.int .i64 a0_2).wf = true → (Lit.int .i64 a0_3).wf = true → (Lit.int .i64 a1).wf = true → ∃ k, laws_FnExactSpiltInPeriod.f k a0_0 a0_1 a0_2 a0_3 a1 = some true := by
  intro a0_0 a0_1 a0_2 a0_3 a1 w0 w1 w2 w3 w4
  obtain ⟨R, hs, hi⟩ := SpiltInPeriod_same a0_0 a0_1 a0_2 a0_3 a1 w0 w1 w2 w3 w4
  obtain ⟨K, hK⟩ : ∃ K, K = 10000000000000 := ⟨_, rfl⟩
  refine ⟨K + 9, ?_⟩
  simp (disch := omega) only [laws_FnExactSpiltInPeriod.f, hs, hi, laws_toSiphon.f, Option.bind_some, bne_self_eq_false, Bool.false_eq_true, eq_self, if_true, if_false]

end Go.Proofs.Ytbpkfdclplcbaaa.Pure
