/- The program's SumHeld and the reference's tell the same, and the argument is left. It holds for all inputs that the statement lets in. -/
import Derived.Test.YtjebielaficopaaLibA
import Derived.Test.YtjebielaficopaaLibV
import Derived.Test.YtjebielaficopaaLibW
import Derived.Test.YtjebielaficopaaPr12
namespace Go.Proofs.Ytjebielaficopaa.Pure
open Go.RowKit Go.Proofs.Ytjebielaficopaa.Pr Go.Proofs.YtjebielaficopaaW.PrintWords Go.Proofs.YtjebielaficopaaW.PrintLast
set_option linter.unusedVariables false
set_option linter.unusedSimpArgs false

def vsum (acc : Int) (l : List Int) : Int := l.foldl (fun s x => wrap64 (s + x)) acc
theorem veSum_l0 (l : List Int) (hl : l.length ≤ 1048576) : ∀ (d k : Nat) (acc : Int) (j : Nat), l.length - j = d → d < k → spec_veSum.l0 k acc l (l.length : Int) (j : Int) = some (vsum acc (l.drop j)) := by
  intro d
  induction d with
  | zero =>
    intro k acc j hd hk
    obtain ⟨k, rfl⟩ : ∃ m, k = m + 1 := ⟨k - 1, by omega⟩
    simp only [spec_veSum.l0]
    rw [if_neg (by omega), drop_all l j (by omega)]
    rfl
  | succ d ih =>
    intro k acc j hd hk
    obtain ⟨k, rfl⟩ : ∃ m, k = m + 1 := ⟨k - 1, by omega⟩
    simp only [spec_veSum.l0]
    rw [if_pos (by omega), if_pos (by omega), if_pos (by omega), w64 (i := (j : Int) + 1) (by omega) (by omega), drop_rd l j (by omega)]
    exact ih k _ (j + 1) (by omega) (by omega)
theorem total_l0 (l : List Int) (hl : l.length ≤ 1048576) : ∀ (d k : Nat) (acc : Int) (j : Nat), l.length - j = d → d < k → impl_total.l0 k acc l (l.length : Int) (j : Int) = some (vsum acc (l.drop j)) := by
  intro d
  induction d with
  | zero =>
    intro k acc j hd hk
    obtain ⟨k, rfl⟩ : ∃ m, k = m + 1 := ⟨k - 1, by omega⟩
    simp only [impl_total.l0]
    rw [if_neg (by omega), drop_all l j (by omega)]
    rfl
  | succ d ih =>
    intro k acc j hd hk
    obtain ⟨k, rfl⟩ : ∃ m, k = m + 1 := ⟨k - 1, by omega⟩
    simp only [impl_total.l0]
    rw [if_pos (by omega), if_pos (by omega), if_pos (by omega), w64 (i := (j : Int) + 1) (by omega) (by omega), drop_rd l j (by omega)]
    exact ih k _ (j + 1) (by omega) (by omega)
theorem SumHeld_same (s h : List Int) (_w0 : s.length ≤ maxLen) (_w1 : ∀ x ∈ s, (Lit.int .i64 x).wf = true) (_w2 : h.length ≤ maxLen) (_w3 : ∀ x ∈ h, (Lit.int .i64 x).wf = true) (hs : s.length ≤ 1048576) (hh : h.length ≤ 1048576) : ∃ R : Int × Bool, (∀ k, 4000000 ≤ k → spec_SumHeld.f k s h = some R) ∧ (∀ k, 4000000 ≤ k → impl_SumHeld.f k s h = some R) := by
  refine ⟨if vesB s h = true then (vsum 0 h, true) else (0, false), fun k hk => ?_, fun k hk => ?_⟩
  · unfold spec_SumHeld.f
    rw [veGood_ok s h k hs hh hk, Option.bind_some]
    have e : spec_veSum.f k h = some (vsum 0 h) := by unfold spec_veSum.f; exact veSum_l0 h hh h.length k 0 0 (by omega) (by omega)
    split
    · rw [e, Option.bind_some]
    · rfl
  · unfold impl_SumHeld.f
    rw [AreVessels_ok s h k hs hh hk, Option.bind_some]
    have e : impl_total.f k h = some (vsum 0 h) := by unfold impl_total.f; exact total_l0 h hh h.length k 0 0 (by omega) (by omega)
    split
    · rw [e, Option.bind_some]
    · rfl

theorem FnExactSumHeld : ∀ (l0_0 : List Int) (l0_1 : List Int), l0_0.length ≤ maxLen → (∀ x ∈ l0_0, (Lit.int .i64 x).wf = true) → l0_1.length ≤ maxLen → (∀ x ∈ l0_1, (Lit.int .i64 x).wf = true) → ∃ k, laws_FnExactSumHeld.f k l0_0 l0_1 = some true := by
  intro l0_0 l0_1 w0 w1 w2 w3
  have sz := szV l0_0 l0_1 w0 w2
  by_cases big : l0_0.length + l0_1.length ≤ 1048576
  case neg =>
    rw [if_neg big] at sz
    refine ⟨0, ?_⟩
    unfold laws_FnExactSumHeld.f
    rw [sz, Option.bind_some, if_pos (by omega)]
  rw [if_pos big] at sz
  have lt : ((1048576 : Int) - (l0_0.length : Int) - (l0_1.length : Int) < 0) = False := eq_false (by omega)
  obtain ⟨R, hs, hi⟩ := SumHeld_same l0_0 l0_1 w0 w1 w2 w3 (by omega) (by omega)
  obtain ⟨K, hK⟩ : ∃ K, K = 10000000000000 := ⟨_, rfl⟩
  refine ⟨K + 9, ?_⟩
  simp (disch := omega) only [laws_FnExactSumHeld.f, hs, hi, sz, lt, toV_ok, eqV_ok, Option.bind_some, bne_self_eq_false, Bool.false_eq_true, eq_self, if_true, if_false]
  simp (disch := omega) only [laws_FnExactSumHeld.j0, hs, hi, sz, lt, toV_ok, eqV_ok, Option.bind_some, bne_self_eq_false, Bool.false_eq_true, eq_self, if_true, if_false]

end Go.Proofs.Ytjebielaficopaa.Pure
