/- The program's NeverStops and the reference's tell the same. It holds for all inputs. -/
import Derived.Test.YtbpkfdclplcbaaaLibS
import Derived.Test.YtbpkfdclplcbaaaLibSi
import Derived.Test.YtbpkfdclplcbaaaLibSt
import Derived.Test.YtbpkfdclplcbaaaLibSu
import Derived.Test.YtbpkfdclplcbaaaLibW
import Derived.Test.YtbpkfdclplcbaaaPr16
import Derived.Test.YtbpkfdclplcbaaaPr2
import Derived.Test.YtbpkfdclplcbaaaPureFnExactPeriodOfSiphon
namespace Go.Proofs.Ytbpkfdclplcbaaa.Pure
open Go.RowKit Go.Proofs.Ytbpkfdclplcbaaa.Pr Go.Proofs.YtbpkfdclplcbaaaW.PrintWords Go.Proofs.YtbpkfdclplcbaaaW.PrintLast
set_option linter.unusedVariables false
set_option linter.unusedSimpArgs false

theorem never_l0 {z lo st fl x : Int} (hs : siphB z lo st fl = true) (x0 : 0 ≤ x) (x1 : x ≤ 60) (n p : Nat) (hp : p ≤ 1000) : ∀ (d k j : Nat), j + d = p → d + 20 ≤ k →
    spec_NeverStops.l0 k x (p : Int) (j : Int) z lo st fl (lvl z lo st fl x (n + j)).f0 (lvl z lo st fl x (n + j)).f1 = some (!((List.range' j d).any fun i => !(lvl z lo st fl x (n + i)).f1), true) := by
  intro d
  induction d with
  | zero =>
    intro k j hj hk
    obtain ⟨k, rfl⟩ : ∃ m, k = m + 1 := ⟨k - 1, by omega⟩
    simp only [spec_NeverStops.l0]
    rw [if_neg (by omega)]
    rfl
  | succ d ih =>
    intro k j hj hk
    obtain ⟨k, rfl⟩ : ∃ m, k = m + 1 := ⟨k - 1, by omega⟩
    obtain ⟨b0, b1⟩ := lvl_bd hs x0 x1 (n + j)
    have hi := ih k (j + 1) (by omega) (by omega)
    simp only [spec_NeverStops.l0]
    rw [if_pos (by omega), List.range'_succ, List.any_cons]
    by_cases hr : (lvl z lo st fl x (n + j)).f1 = true
    · rw [if_pos hr, siTick_ok k hs b0 b1 x0 x1 (by omega), Option.bind_some, w64 (i := (j : Int) + 1) (by omega) (by omega), show (!(lvl z lo st fl x (n + j)).f1) = false by rw [hr]; rfl, Bool.false_or]
      exact hi
    · rw [if_neg hr, Bool.eq_false_iff.mpr hr]
      rfl
theorem lvS_drop (z lo st fl x : Int) (k0 p : Nat) : (lvS z lo st fl x (k0 + p)).drop k0 = (List.range p).map (fun i => lvl z lo st fl x (k0 + i)) := by
  unfold lvS
  rw [List.range_add, List.map_append, List.drop_append_of_le_length (by simp), List.drop_of_length_le (by simp), List.nil_append, List.map_map]
  rfl
theorem never_any {z lo st fl x : Int} {k0 n0 : Nat} (M : Meet z lo st fl x k0 n0) : (((lvS z lo st fl x (n0 + 1)).drop k0).any fun y => !y.f1) = ((List.range' 0 (n0 - k0)).any fun i => !(lvl z lo st fl x (n0 + i)).f1) := by
  have hlt := M.lt
  obtain ⟨p, rfl⟩ : ∃ p, n0 = k0 + p := ⟨n0 - k0, by omega⟩
  rw [show k0 + p - k0 = p by omega, show k0 + p + 1 = k0 + (p + 1) by omega, lvS_drop, List.any_map, ← List.range_eq_range', Bool.eq_iff_iff, List.any_eq_true, List.any_eq_true]
  constructor
  · rintro ⟨i, hi, hf⟩
    have hi := List.mem_range.1 hi
    have hf : (!(lvl z lo st fl x (k0 + i)).f1) = true := hf
    by_cases e : i = p
    · subst e
      exact ⟨0, List.mem_range.2 (by omega), hf⟩
    · refine ⟨i, List.mem_range.2 (by omega), ?_⟩
      rw [lvl_shift M.eq i]
      exact hf
  · rintro ⟨i, hi, hf⟩
    have hi := List.mem_range.1 hi
    rw [lvl_shift M.eq i] at hf
    exact ⟨i, List.mem_range.2 (by omega), hf⟩
theorem NeverStops_same (z lo st fl x : Int) (_w0 : (Lit.int .i64 z).wf = true) (_w1 : (Lit.int .i64 lo).wf = true) (_w2 : (Lit.int .i64 st).wf = true) (_w3 : (Lit.int .i64 fl).wf = true) (_w4 : (Lit.int .i64 x).wf = true) : ∃ R : Bool × Bool, (∀ k, 30000 ≤ k → spec_NeverStops.f k z lo st fl x = some R) ∧ (∀ k, 30000 ≤ k → impl_NeverStops.f k z lo st fl x = some R) := by
  by_cases h : (siphB z lo st fl && inR 0 60 x) = true
  · have h' := h
    rw [Bool.and_eq_true] at h
    have hx := (inR_iff _ _ _).1 h.2
    obtain ⟨k0, n0, M⟩ := meet_ex h.1 hx.1 hx.2
    have hle := M.le
    have hlt := M.lt
    refine ⟨(!((List.range' 0 (n0 - k0)).any fun i => !(lvl z lo st fl x (n0 + i)).f1), true), fun k hk => ?_, fun k hk => ?_⟩
    · unfold spec_NeverStops.f
      rw [siSteady_ok, Option.bind_some, if_pos h', siMeet_ok h.1 hx.1 hx.2 M k hk, Option.bind_some]
      have hn := never_l0 h.1 hx.1 hx.2 n0 (n0 - k0) (by omega) (n0 - k0) k 0 (by omega) (by omega)
      rw [show ((n0 - k0 : Nat) : Int) = (n0 : Int) - (k0 : Int) by omega] at hn
      exact hn
    · unfold impl_NeverStops.f
      rw [steadyF_yes h.1 h.2 M k (by omega), Option.bind_some, if_pos rfl]
      have hl := lvS_len z lo st fl x (n0 + 1)
      simp only []
      rw [hl, if_pos (by omega), if_pos (by omega), Int.toNat_natCast]
      unfold slices_ContainsFunc_Level_Level_impl_NeverStops_1.f
      have ha := never_any M
      rw [if_pos (by rw [List.length_drop, hl]; omega), Option.bind_some]
      rw [← ha]
      rfl
  · have h2 : (siphB z lo st fl && inR 0 60 x) = false := by simpa using h
    refine ⟨(false, false), fun k hk => ?_, fun k hk => ?_⟩
    · unfold spec_NeverStops.f
      rw [siSteady_ok, Option.bind_some, if_neg h]
    · unfold impl_NeverStops.f
      rw [steadyF_no h2 k (by omega), Option.bind_some, if_neg (by simp)]

theorem FnExactNeverStops : ∀ (a0_0 : Int) (a0_1 : Int) (a0_2 : Int) (a0_3 : Int) (a1 : Int), (Lit.int .i64 a0_0).wf = true → (Lit.int .i64 a0_1).wf = true → (Lit.int .i64 a0_2).wf = true → (Lit.int .i64 a0_3).wf = true → (Lit.int .i64 a1).wf = true → ∃ k, laws_FnExactNeverStops.f k a0_0 a0_1 a0_2 a0_3 a1 = some true := by
  intro a0_0 a0_1 a0_2 a0_3 a1 w0 w1 w2 w3 w4
  obtain ⟨R, hs, hi⟩ := NeverStops_same a0_0 a0_1 a0_2 a0_3 a1 w0 w1 w2 w3 w4
  obtain ⟨K, hK⟩ : ∃ K, K = 10000000000000 := ⟨_, rfl⟩
  refine ⟨K + 9, ?_⟩
  simp (disch := omega) only [laws_FnExactNeverStops.f, hs, hi, laws_toSiphon.f, Option.bind_some, bne_self_eq_false, Bool.false_eq_true, eq_self, if_true, if_false]

end Go.Proofs.Ytbpkfdclplcbaaa.Pure
