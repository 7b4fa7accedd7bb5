/- The program's WaterBelow and the reference's tell the same, and the arguments are left. It holds for all inputs that the statement lets in. -/
import Derived.Test.YtfaiegpkmohkdaaLibF
import Derived.Test.YtfaiegpkmohkdaaLibR
import Derived.Test.YtfaiegpkmohkdaaLibT
import Derived.Test.YtfaiegpkmohkdaaLibTS
import Derived.Test.YtfaiegpkmohkdaaLibW
import Derived.Test.YtfaiegpkmohkdaaPr0
import Derived.Test.YtfaiegpkmohkdaaPr28
import Derived.Test.YtfaiegpkmohkdaaPr29
import Derived.Test.YtfaiegpkmohkdaaPr3
import Derived.Test.YtfaiegpkmohkdaaPr5
namespace Go.Proofs.Ytfaiegpkmohkdaa.Pure
open Go.RowKit Go.Proofs.Ytfaiegpkmohkdaa.Pr Go.Proofs.YtfaiegpkmohkdaaW.PrintWords Go.Proofs.YtfaiegpkmohkdaaW.PrintLast
set_option linter.unusedVariables false
set_option linter.unusedSimpArgs false

def wbelow (n d : Int) (acc : Int) (l : List TI) : Int := l.foldl (fun s t => wrap64 (s + wrap64 (t.f0 * max 0 (wrap64 (n - wrap64 (t.f1 * d)))))) acc
theorem most0 (y : Int) : spec_l1Most.f 0 y = some (max 0 y) := by
  unfold spec_l1Most.f
  split <;> (congr 1; omega)
theorem mx0 (y : Int) : mx 0 y = max 0 y := by
  unfold mx
  split <;> omega
theorem leBelow_l0 (l : List TI) (n d : Int) (hl : l.length ≤ 1048576) : ∀ (e k : Nat) (acc : Int) (j : Nat), l.length - j = e → 10000000000 + e < k → spec_leBelow.l0 k acc l (l.length : Int) (j : Int) n d =
    (spec_leRatio.f (k - e - 1) (wbelow n d acc (l.drop j)) d).bind fun b => some (b.1, b.2) := by
  intro e
  induction e with
  | zero =>
    intro k acc j hd hk
    obtain ⟨k, rfl⟩ : ∃ m, k = m + 1 := ⟨k - 1, by omega⟩
    simp only [spec_leBelow.l0]
    rw [if_neg (by omega), List.drop_of_length_le (by omega)]
    rfl
  | succ e ih =>
    intro k acc j hd hk
    obtain ⟨k, rfl⟩ : ∃ m, k = m + 1 := ⟨k - 1, by omega⟩
    simp only [spec_leBelow.l0]
    rw [if_pos (by omega), if_pos (by omega), if_pos (by omega), most0, Option.bind_some, w64 (i := (j : Int) + 1) (by omega) (by omega), drop_rdT l j (by omega)]
    have := ih k (wrap64 (acc + wrap64 ((rd_T25 l (j : Int)).f0 * max 0 (wrap64 (n - wrap64 ((rd_T25 l (j : Int)).f1 * d)))))) (j + 1) (by omega) (by omega)
    rw [show k + 1 - (e + 1) - 1 = k - e - 1 by omega]
    exact this
theorem below_l0 (l : List TI) (n d : Int) (hl : l.length ≤ 1048576) : ∀ (e k : Nat) (acc : Int) (j : Nat), l.length - j = e → e < k → impl_below.l0 k acc l (l.length : Int) (j : Int) n d = some (wbelow n d acc (l.drop j)) := by
  intro e
  induction e with
  | zero =>
    intro k acc j hd hk
    obtain ⟨k, rfl⟩ : ∃ m, k = m + 1 := ⟨k - 1, by omega⟩
    simp only [impl_below.l0]
    rw [if_neg (by omega), List.drop_of_length_le (by omega)]
    rfl
  | succ e ih =>
    intro k acc j hd hk
    obtain ⟨k, rfl⟩ : ∃ m, k = m + 1 := ⟨k - 1, by omega⟩
    simp only [impl_below.l0]
    rw [if_pos (by omega), if_pos (by omega), if_pos (by omega), mx0, w64 (i := (j : Int) + 1) (by omega) (by omega), drop_rdT l j (by omega)]
    exact ih k _ (j + 1) (by omega) (by omega)
theorem wbelow_bd (n d : Int) (hn0 : 0 ≤ n) (hn1 : n ≤ 1000000) (hd0 : 1 ≤ d) (hd1 : d ≤ 1000) : ∀ (l : List TI) (acc : Int), (∀ x ∈ l, tankB x.f0 x.f1 x.f2 = true) → 0 ≤ acc → acc + 50000000 * (l.length : Int) ≤ 1000000000000 →
    0 ≤ wbelow n d acc l ∧ wbelow n d acc l ≤ acc + 50000000 * (l.length : Int)
  | [], acc, _, h0, h1 => by simp [wbelow]; omega
  | x :: xs, acc, hx, h0, h1 => by
    obtain ⟨t1, t2, t3, t4, t5, t6⟩ := tankB_get (hx x (by simp))
    simp only [List.length_cons] at h1 ⊢
    have m1 : 0 ≤ x.f1 * d := Int.mul_nonneg t3 (by omega)
    have m2 : x.f1 * d ≤ 100 * d := Int.mul_le_mul_of_nonneg_right t4 (by omega)
    have e1 : wrap64 (x.f1 * d) = x.f1 * d := w64 (by omega) (by omega)
    have e2 : wrap64 (n - x.f1 * d) = n - x.f1 * d := w64 (by omega) (by omega)
    have hy0 : 0 ≤ max 0 (n - x.f1 * d) := by omega
    have hy1 : max 0 (n - x.f1 * d) ≤ 1000000 := by omega
    have m3 : 0 ≤ x.f0 * max 0 (n - x.f1 * d) := Int.mul_nonneg (by omega) hy0
    have m4 : x.f0 * max 0 (n - x.f1 * d) ≤ 50 * max 0 (n - x.f1 * d) := Int.mul_le_mul_of_nonneg_right t2 hy0
    have e3 : wrap64 (x.f0 * max 0 (n - x.f1 * d)) = x.f0 * max 0 (n - x.f1 * d) := w64 (by omega) (by omega)
    have e4 : wrap64 (acc + x.f0 * max 0 (n - x.f1 * d)) = acc + x.f0 * max 0 (n - x.f1 * d) := w64 (by omega) (by omega)
    have ih := wbelow_bd n d hn0 hn1 hd0 hd1 xs (acc + x.f0 * max 0 (n - x.f1 * d)) (fun y hy => hx y (by simp [hy])) (by omega) (by omega)
    unfold wbelow at ih ⊢
    simp only [List.foldl_cons, e1, e2, e3, e4]
    omega
def askedB (l : List TI) (n d : Int) : Bool := tanksB l && (goodB n d && (decide (d ≤ 1000) && inR 0 1000000 n))
theorem leAsked_ok (l : List TI) (n d : Int) (k : Nat) (hl : l.length ≤ 1048576) (hk : 10000000000 ≤ k) : spec_leAsked.f k l n d = some (askedB l n d) := by
  unfold spec_leAsked.f askedB
  rw [leTanks_ok l k hl (by omega), Option.bind_some]
  by_cases h1 : tanksB l = true
  · rw [if_pos h1, h1, Bool.true_and, leGood_ok n d k hk, Option.bind_some]
    by_cases h2 : goodB n d = true
    · obtain ⟨g1, g2, g3, g4, g5⟩ := goodB_get h2
      rw [if_pos h2, h2, Bool.true_and, l1In_okR, Option.bind_some, l1In_okR, Option.bind_some]
      by_cases h3 : d ≤ 1000
      · rw [if_pos ((inR_iff _ _ _).mpr ⟨g1, h3⟩), decide_eq_true h3, Bool.true_and]
      · rw [if_neg (fun h => h3 ((inR_iff _ _ _).mp h).2), decide_eq_false h3, Bool.false_and]
    · rw [if_neg h2, Bool.eq_false_iff.mpr h2, Bool.false_and]
  · rw [if_neg h1, Bool.eq_false_iff.mpr h1, Bool.false_and]
theorem isTankLevel_ok (l : List TI) (n d : Int) (k : Nat) (hl : l.length ≤ 1048576) (hk : 10000000000 ≤ k) : impl_isTankLevel.f k l n d = some (askedB l n d) := by
  unfold impl_isTankLevel.f askedB
  rw [AreTanks_ok l hl, Option.bind_some]
  by_cases h1 : tanksB l = true
  · rw [if_pos h1, h1, Bool.true_and, isLevelRatio_ok n d k hk, Option.bind_some]
    by_cases h2 : goodB n d = true
    · rw [if_pos h2, h2, Bool.true_and]
      by_cases h3 : d ≤ 1000
      · rw [if_pos h3, decide_eq_true h3, Bool.true_and, within_okR, Option.bind_some]
      · rw [if_neg h3, decide_eq_false h3, Bool.false_and]
    · rw [if_neg h2, Bool.eq_false_iff.mpr h2, Bool.false_and]
  · rw [if_neg h1, Bool.eq_false_iff.mpr h1, Bool.false_and]
theorem WaterBelow_same (l : List TL) (n d : Int) (_w0 : l.length ≤ maxLen) (_w1 : ∀ x ∈ l, (Lit.int .i64 x.f0).wf = true ∧ (Lit.int .i64 x.f1).wf = true ∧ (Lit.int .i64 x.f2).wf = true) (_w2 : (Lit.int .i64 n).wf = true) (_w3 : (Lit.int .i64 d).wf = true) (hl : l.length ≤ 1048576) : ∃ R : Int × Int × Bool, (∀ k, 1000000000000 ≤ k → spec_WaterBelow.f k (tconv l) n d = some R) ∧ (∀ k, 1000000000000 ≤ k → impl_WaterBelow.f k (tconv l) n d = some R) := by
  have hc : (tconv l).length ≤ 1048576 := by rw [tconv_length]; exact hl
  generalize tconv l = t at hc ⊢
  by_cases h : askedB t n d = true
  · have h' := h
    unfold askedB at h'
    rw [Bool.and_eq_true, Bool.and_eq_true, Bool.and_eq_true, decide_eq_true_iff, inR_iff] at h'
    obtain ⟨h1, h2, h3, h4⟩ := h'
    obtain ⟨g1, g2, g3, g4, g5⟩ := goodB_get h2
    obtain ⟨t1, t2, t3⟩ := tanksB_get h1
    have hb := wbelow_bd n d h4.1 h4.2 g1 h3 t 0 t3 (by omega) (by omega)
    refine ⟨((red (wbelow n d 0 t) d).1, (red (wbelow n d 0 t) d).2, true), fun k hk => ?_, fun k hk => ?_⟩
    · unfold spec_WaterBelow.f spec_leBelow.f
      have e := leBelow_l0 t n d hc t.length k 0 0 (by omega) (by omega)
      rw [List.drop_zero, leRatio_ok _ d _ (by omega) (by omega) (by omega) (by omega), Option.bind_some] at e
      rw [leAsked_ok t n d k hc (by omega), h, Option.bind_some, if_pos rfl]
      have e' : spec_leBelow.l0 k 0 t (t.length : Int) 0 n d = some ((red (wbelow n d 0 t) d).1, (red (wbelow n d 0 t) d).2) := e
      rw [e', Option.bind_some]
    · unfold impl_WaterBelow.f impl_below.f
      have e : impl_below.l0 k 0 t (t.length : Int) 0 n d = some (wbelow n d 0 t) := below_l0 t n d hc t.length k 0 0 (by omega) (by omega)
      rw [isTankLevel_ok t n d k hc (by omega), h, Option.bind_some, if_pos rfl, e, Option.bind_some, lowest_ok _ d k (by omega) (by omega) (by omega) (by omega), Option.bind_some]
  · refine ⟨(0, 0, false), fun k hk => ?_, fun k hk => ?_⟩
    · unfold spec_WaterBelow.f
      rw [leAsked_ok t n d k hc (by omega), Option.bind_some, if_neg h]
    · unfold impl_WaterBelow.f
      rw [isTankLevel_ok t n d k hc (by omega), Option.bind_some, if_neg h]

theorem FnExactWaterBelow : ∀ (l0 : List S23) (a1_0 : Int) (a1_1 : Int), l0.length ≤ maxLen → (∀ x ∈ l0, (Lit.int .i64 x.f0).wf = true ∧ (Lit.int .i64 x.f1).wf = true ∧ (Lit.int .i64 x.f2).wf = true) → (Lit.int .i64 a1_0).wf = true → (Lit.int .i64 a1_1).wf = true → ∃ k, laws_FnExactWaterBelow.f k l0 a1_0 a1_1 = some true := by
  intro l0 a1_0 a1_1 w0 w1 w2 w3
  have sz := szTankS_ok l0 w0
  by_cases big : l0.length ≤ 1048576
  case neg =>
    rw [if_neg big] at sz
    refine ⟨0, ?_⟩
    unfold laws_FnExactWaterBelow.f
    rw [sz, Option.bind_some, if_pos (by omega)]
  rw [if_pos big] at sz
  have lt : ((1048576 : Int) - (l0.length : Int) < 0) = False := eq_false (by omega)
  have cl : (tconv l0).length ≤ 1048576 := by rw [tconv_length]; exact big
  obtain ⟨R, hs, hi⟩ := WaterBelow_same l0 a1_0 a1_1 w0 w1 w2 w3 big
  obtain ⟨K, hK⟩ : ∃ K, K = 10000000000000 := ⟨_, rfl⟩
  refine ⟨K + 9, ?_⟩
  simp (disch := omega) only [laws_FnExactWaterBelow.f, hs, hi, sz, lt, toTankS_ok, eqTankS_ok, laws_toRatio.f, laws_eqRatio.f, Option.bind_some, bne_self_eq_false, Bool.false_eq_true, eq_self, if_true, if_false]
  simp (disch := omega) only [laws_FnExactWaterBelow.j0, hs, hi, sz, lt, toTankS_ok, eqTankS_ok, laws_toRatio.f, laws_eqRatio.f, Option.bind_some, bne_self_eq_false, Bool.false_eq_true, eq_self, if_true, if_false]

end Go.Proofs.Ytfaiegpkmohkdaa.Pure
