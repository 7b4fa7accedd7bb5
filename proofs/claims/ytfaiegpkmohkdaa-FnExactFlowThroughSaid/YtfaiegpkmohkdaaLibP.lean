/- Two tanks and a pipe between them: what flows, and the levels behind it, as program and reference reckon them, for tanks and heights that the document allows. -/
import Derived.Test.YtfaiegpkmohkdaaLibF
import Derived.Test.YtfaiegpkmohkdaaLibT
import Derived.Test.YtfaiegpkmohkdaaLibW
import Derived.Test.YtfaiegpkmohkdaaPr7
import Derived.Test.YtfaiegpkmohkdaaPr8
namespace Go.Proofs.Ytfaiegpkmohkdaa.Pure
open Go.RowKit Go.Proofs.Ytfaiegpkmohkdaa.Pr Go.Proofs.YtfaiegpkmohkdaaW.PrintWords Go.Proofs.YtfaiegpkmohkdaaW.PrintLast
set_option linter.unusedVariables false
set_option linter.unusedSimpArgs false

theorem mulB {x y X Y : Int} (h1 : 0 ≤ x) (h2 : x ≤ X) (h3 : 0 ≤ y) (h4 : y ≤ Y) : 0 ≤ x * y ∧ x * y ≤ X * Y :=
  ⟨Int.mul_nonneg h1 h3, Int.mul_le_mul h2 h4 h3 (by omega)⟩
theorem red_lt {n d m e : Int} (hd : 0 < d) (he : 0 < e) : (red n d).1 * (red m e).2 < (red m e).1 * (red n d).2 ↔ n * e < m * d := by
  have h1 := red_mul n d
  have h2 := red_mul m e
  have g1 := gcd_pos (n := n) hd
  have g2 := gcd_pos (n := m) he
  generalize (red n d).1 = p at h1 ⊢
  generalize (red n d).2 = q at h1 ⊢
  generalize (red m e).1 = r at h2 ⊢
  generalize (red m e).2 = s at h2 ⊢
  generalize (Int.gcd n d : Int) = g at h1 g1
  generalize (Int.gcd m e : Int) = g' at h2 g2
  obtain ⟨rfl, rfl⟩ := h1
  obtain ⟨rfl, rfl⟩ := h2
  have hg : 0 < g * g' := Int.mul_pos g1 g2
  rw [show p * g * (s * g') = p * s * (g * g') by rw [Int.mul_assoc, Int.mul_assoc, Int.mul_left_comm g s g'], show r * g' * (q * g) = r * q * (g * g') by rw [Int.mul_assoc, Int.mul_assoc, Int.mul_left_comm g' q g, Int.mul_comm g' g]]
  exact (Int.mul_lt_mul_right hg).symm
theorem red_neg {n d : Int} (hd : 0 < d) : red (-n) d = (-(red n d).1, (red n d).2) := by
  refine red_unique hd (red_pos hd) (by rw [Int.neg_gcd]; exact red_gcd hd) ?_
  rw [Int.neg_mul, Int.neg_mul, red_cross]
/-- c - a * (n / d), whatever form n / d has. -/
theorem red_sub {c a n d : Int} (hd : 0 < d) : red (c * (red n d).2 - a * (red n d).1) (red n d).2 = red (c * d - a * n) d := by
  refine red_congr (red_pos hd) hd ?_
  have h := red_cross n d
  rw [Int.sub_mul, Int.sub_mul, Int.mul_assoc a, h, Int.mul_assoc c, Int.mul_assoc c, Int.mul_assoc a, Int.mul_comm d]
theorem red_scale {n d a : Int} (hd : 0 < d) (ha : 0 < a) : red (a * n) (a * d) = red n d := by
  refine red_congr (Int.mul_pos ha hd) hd ?_
  rw [Int.mul_assoc, Int.mul_left_comm n a d]

/-- What flows from the first to the second, as a fraction. -/
def flowN (a ca b cb h : Int) : Int × Int :=
  if ca * b < cb * a then (if h * b < cb then (if ca + cb ≤ h * (a + b) then (h * b - cb, 1) else (ca * b - a * cb, a + b)) else (0, 1))
  else (if h * a < ca then (if ca + cb ≤ h * (a + b) then (ca - h * a, 1) else (ca * b - a * cb, a + b)) else (0, 1))
theorem flowN_pos {a ca b cb h : Int} (ha : 1 ≤ a) (hb : 1 ≤ b) : 0 < (flowN a ca b cb h).2 := by
  unfold flowN
  split <;> split <;> (try split) <;> (simp only []; omega)

structure Piped (a f w b g v h : Int) : Prop where
  ta : tankB a f w = true
  tb : tankB b g v = true
  h0 : 0 ≤ h
  h1 : h ≤ 1000
  hf : f ≤ h
  hg : g ≤ h
theorem Piped.swap {a f w b g v h : Int} (p : Piped a f w b g v h) : Piped b g v a f w h := ⟨p.tb, p.ta, p.h0, p.h1, p.hg, p.hf⟩

theorem leLess_ok {n d m e : Int} (hd : 0 < d) (he : 0 < e) (hd' : d ≤ 1000) (he' : e ≤ 1000) (hn : n.natAbs ≤ 1000000) (hm : m.natAbs ≤ 1000000) : spec_leLess.f (red n d).1 (red n d).2 (red m e).1 (red m e).2 = some (decide (n * e < m * d)) := by
  have l1 := red_le (n := n) hd
  have l2 := red_le (n := m) he
  have p1 := red_pos (n := n) hd
  have p2 := red_pos (n := m) he
  have b1 : ((red n d).1 * (red m e).2).natAbs ≤ 1000000 * 1000 := by rw [Int.natAbs_mul]; exact Nat.mul_le_mul (by omega) (by omega)
  have b2 : ((red m e).1 * (red n d).2).natAbs ≤ 1000000 * 1000 := by rw [Int.natAbs_mul]; exact Nat.mul_le_mul (by omega) (by omega)
  unfold spec_leLess.f
  rw [w64 (by omega) (by omega), w64 (by omega) (by omega)]
  congr 1
  rw [decide_eq_decide]
  exact red_lt hd he
theorem isLess_ok {n d m e : Int} (hd : 0 < d) (he : 0 < e) (hd' : d ≤ 1000) (he' : e ≤ 1000) (hn : n.natAbs ≤ 1000000) (hm : m.natAbs ≤ 1000000) : impl_Ratio_isLess.f (red n d).1 (red n d).2 (red m e).1 (red m e).2 = some (decide (n * e < m * d)) := by
  have := leLess_ok (n := n) (m := m) hd he hd' he' hn hm
  unfold spec_leLess.f at this
  unfold impl_Ratio_isLess.f
  exact this

/-- What flows from the tank with the greater level. -/
def thruN (a ca b cb h : Int) : Int × Int := if h * a < ca then (if ca + cb ≤ h * (a + b) then (ca - h * a, 1) else (ca * b - a * cb, a + b)) else (0, 1)
theorem thruN_pos {a ca b cb h : Int} (ha : 1 ≤ a) (hb : 1 ≤ b) : 0 < (thruN a ca b cb h).2 := by
  unfold thruN
  split <;> (try split) <;> (simp only []; omega)
theorem leThrough_ok {a f w b g v h : Int} (k : Nat) (p : Piped a f w b g v h) (hk : 10000000000 ≤ k) :
    spec_leThrough.f k a f w b g v h = some (red (thruN a (cont a f w) b (cont b g v) h).1 (thruN a (cont a f w) b (cont b g v) h).2) := by
  obtain ⟨a1, a2, a3, a4, a5, a6⟩ := tankB_get p.ta
  obtain ⟨b1, b2, b3, b4, b5, b6⟩ := tankB_get p.tb
  have ca := cont_bd p.ta
  have cb := cont_bd p.tb
  have m1 := mulB p.h0 p.h1 (show 0 ≤ a by omega) a2
  have m2 := mulB p.h0 p.h1 (show 0 ≤ b by omega) b2
  have hsum : h * (a + b) = h * a + h * b := Int.mul_add _ _ _
  have eA := cont_spec p.ta
  have eB := cont_spec p.tb
  unfold spec_leThrough.f thruN
  rw [leLevel_ok k p.ta hk, Option.bind_some]
  have e1 : spec_leLess.f h 1 (red (cont a f w) a).1 (red (cont a f w) a).2 = some (decide (h * a < cont a f w)) := by
    have := leLess_ok (n := h) (d := 1) (m := cont a f w) (e := a) (by omega) (by omega) (by omega) (by omega) (by have := p.h0; have := p.h1; omega) (by omega)
    rw [red_one, Int.mul_one] at this
    exact this
  rw [e1, Option.bind_some]
  by_cases c1 : h * a < cont a f w
  · rw [if_pos (decide_eq_true c1), if_pos c1, eA, eB, w64 (i := h * a) (by omega) (by omega), w64 (i := h * b) (by omega) (by omega), w64 (i := cont a f w - h * a) (by omega) (by omega), w64 (i := cont b g v + (cont a f w - h * a)) (by omega) (by omega)]
    by_cases c2 : cont a f w + cont b g v ≤ h * (a + b)
    · rw [if_pos (by omega), if_pos c2, leRatio_ok _ 1 k (by omega) (by omega) (by omega) (by omega), Option.bind_some]
    · rw [if_neg (by omega), if_neg c2]
      have eb : wrap64 (wrap64 (cont a f w + wrap64 (g * b)) + v) = cont a f w + cont b g v := by
        have mb := mul_le b1 b2 b3 (by omega)
        have e : cont b g v = b * g + v := rfl
        rw [Int.mul_comm g b, w64 (i := b * g) (by omega) (by omega), w64 (i := cont a f w + b * g) (by omega) (by omega), w64 (by omega) (by omega)]
        omega
      have hE := red_le (n := cont a f w + cont b g v) (d := a + b) (by omega)
      have pE := red_pos (n := cont a f w + cont b g v) (d := a + b) (by omega)
      have cE := red_cross (cont a f w + cont b g v) (a + b)
      rw [eb, w64 (i := a + b) (by omega) (by omega), leRatio_ok _ (a + b) k (by omega) (by omega) (by omega) (by omega), Option.bind_some]
      have s1 := red_sub (c := cont a f w) (a := a) (n := cont a f w + cont b g v) (d := a + b) (by omega)
      generalize red (cont a f w + cont b g v) (a + b) = E at hE pE cE s1 ⊢
      have q1 := mulB a3 a4 (show 0 ≤ E.2 by omega) (show E.2 ≤ 100 by omega)
      have hp : f * E.2 < E.1 := by
        rcases Int.lt_or_le (f * E.2) E.1 with h' | h'
        · exact h'
        · exfalso
          have t1 : E.1 * (a + b) ≤ f * E.2 * (a + b) := Int.mul_le_mul_of_nonneg_right h' (by omega)
          have t2 : f * E.2 * (a + b) ≤ h * E.2 * (a + b) := Int.mul_le_mul_of_nonneg_right (Int.mul_le_mul_of_nonneg_right p.hf (by omega)) (by omega)
          have t3 : h * (a + b) * E.2 < (cont a f w + cont b g v) * E.2 := Int.mul_lt_mul_of_pos_right (by omega) (by omega)
          have t4 : h * E.2 * (a + b) = h * (a + b) * E.2 := by rw [Int.mul_assoc, Int.mul_assoc, Int.mul_comm E.2]
          omega
      have q2 := mulB (show 0 ≤ a by omega) a2 (show 0 ≤ E.1 - f * E.2 by omega) (show E.1 - f * E.2 ≤ 120000 by omega)
      have hX := red_le (n := a * (E.1 - f * E.2)) (d := E.2) pE
      have pX := red_pos (n := a * (E.1 - f * E.2)) (d := E.2) pE
      have eu : spec_leUp.f k a f w E.1 E.2 = some (red (a * (E.1 - f * E.2)) E.2) := by
        unfold spec_leUp.f
        rw [w64 (i := f * E.2) (by omega) (by omega), if_neg (by omega), w64 (i := E.1 - f * E.2) (by omega) (by omega), w64 (by omega) (by omega), leRatio_ok _ E.2 k (by omega) (by omega) (by omega) (by omega), Option.bind_some]
      rw [eu, Option.bind_some]
      have s2 := red_sub (c := w) (a := 1) (n := a * (E.1 - f * E.2)) (d := E.2) pE
      generalize red (a * (E.1 - f * E.2)) E.2 = X at hX pX s2 ⊢
      have q3 := mulB a5 a6 (show 0 ≤ X.2 by omega) (show X.2 ≤ 100 by omega)
      rw [Int.one_mul, Int.one_mul] at s2
      rw [w64 (i := w * X.2) (by omega) (by omega), w64 (by omega) (by omega), leRatio_ok _ X.2 k (by omega) (by omega) (by omega) (by omega), Option.bind_some, s2]
      congr 1
      have e5 : w * E.2 - a * (E.1 - f * E.2) = cont a f w * E.2 - a * E.1 := by
        unfold cont
        rw [Int.mul_sub, Int.add_mul, Int.mul_assoc]
        omega
      have e6 : cont a f w * (a + b) - a * (cont a f w + cont b g v) = cont a f w * b - a * cont b g v := by
        rw [Int.mul_add, Int.mul_add, Int.mul_comm (cont a f w) a]
        omega
      rw [e5, s1, e6]
  · rw [if_neg (by rw [decide_eq_true_iff]; exact c1), if_neg c1, red_one]
theorem flow_thru (a ca b cb h : Int) : flowN a ca b cb h = if ca * b < cb * a then (-(thruN b cb a ca h).1, (thruN b cb a ca h).2) else thruN a ca b cb h := by
  unfold flowN thruN
  by_cases c : ca * b < cb * a
  · rw [if_pos c, if_pos c]
    by_cases c1 : h * b < cb
    · rw [if_pos c1, if_pos c1]
      by_cases c2 : ca + cb ≤ h * (a + b)
      · rw [if_pos c2, if_pos (by rw [Int.add_comm b a]; omega)]
        simp only [Prod.mk.injEq, and_true]
        omega
      · rw [if_neg c2, if_neg (by rw [Int.add_comm b a]; omega)]
        simp only [Prod.mk.injEq]
        rw [Int.mul_comm cb a, Int.mul_comm b ca]
        omega
    · rw [if_neg c1, if_neg c1]
      simp
  · rw [if_neg c, if_neg c]
theorem leFlow_ok {a f w b g v h : Int} (k : Nat) (p : Piped a f w b g v h) (hk : 10000000000 ≤ k) :
    spec_leFlow.f k a f w b g v h = some (red (flowN a (cont a f w) b (cont b g v) h).1 (flowN a (cont a f w) b (cont b g v) h).2) := by
  obtain ⟨a1, a2, a3, a4, a5, a6⟩ := tankB_get p.ta
  obtain ⟨b1, b2, b3, b4, b5, b6⟩ := tankB_get p.tb
  have ca := cont_bd p.ta
  have cb := cont_bd p.tb
  unfold spec_leFlow.f
  rw [leLevel_ok k p.ta hk, Option.bind_some, leLevel_ok k p.tb hk, Option.bind_some, leLess_ok (by omega) (by omega) (by omega) (by omega) (by omega) (by omega), Option.bind_some, flow_thru]
  by_cases c : cont a f w * b < cont b g v * a
  · have tp := thruN_pos (a := b) (ca := cont b g v) (b := a) (cb := cont a f w) (h := h) b1 a1
    rw [if_pos (decide_eq_true c), if_pos c, leThrough_ok k p.swap hk, Option.bind_some, red_neg tp]
    have m1 := mulB p.h0 p.h1 (show 0 ≤ b by omega) b2
    have m2 := mulB cb.1 cb.2 (show 0 ≤ a by omega) a2
    have m3 := mulB (show 0 ≤ b by omega) b2 ca.1 ca.2
    have bd : (thruN b (cont b g v) a (cont a f w) h).1.natAbs ≤ 10000000 := by
      unfold thruN
      split
      · split
        · simp only []; omega
        · simp only []; omega
      · simp
    have l := red_le (n := (thruN b (cont b g v) a (cont a f w) h).1) tp
    rw [w64 (by omega) (by omega)]
  · rw [if_neg (by rw [decide_eq_true_iff]; exact c), if_neg c, leThrough_ok k p hk, Option.bind_some]

/-- The levels behind the flow. -/
def lvX (a ca : Int) (F : Int × Int) : Int × Int := red (ca * F.2 - F.1) (a * F.2)
def lvY (b cb : Int) (F : Int × Int) : Int × Int := red (cb * F.2 + F.1) (b * F.2)
theorem piped_high {a f w b g v h : Int} (k : Nat) (p : Piped a f w b g v h) (hk : 10000000000 ≤ k) (c : ¬ cont a f w * b < cont b g v * a) :
    impl_piped.f (k + 1) a f w b g v h = some ((lvX a (cont a f w) (thruN a (cont a f w) b (cont b g v) h)).1, (lvX a (cont a f w) (thruN a (cont a f w) b (cont b g v) h)).2, (lvY b (cont b g v) (thruN a (cont a f w) b (cont b g v) h)).1, (lvY b (cont b g v) (thruN a (cont a f w) b (cont b g v) h)).2) := by
  obtain ⟨a1, a2, a3, a4, a5, a6⟩ := tankB_get p.ta
  obtain ⟨b1, b2, b3, b4, b5, b6⟩ := tankB_get p.tb
  have ca := cont_bd p.ta
  have cb := cont_bd p.tb
  have m1 := mulB p.h0 p.h1 (show 0 ≤ a by omega) a2
  have m2 := mulB p.h0 p.h1 (show 0 ≤ b by omega) b2
  have hsum : h * (a + b) = h * a + h * b := Int.mul_add _ _ _
  have lA := level_ok k p.ta hk
  have lB := level_ok k p.tb hk
  have cA := content_ok p.ta
  have cB := content_ok p.tb
  simp only [impl_piped.f]
  rw [lA, Option.bind_some, lB, Option.bind_some, isLess_ok (by omega) (by omega) (by omega) (by omega) (by omega) (by omega), Option.bind_some, if_neg (by rw [decide_eq_true_iff]; exact c), Option.bind_some]
  have e1 : impl_Ratio_isLess.f h 1 (red (cont a f w) a).1 (red (cont a f w) a).2 = some (decide (h * a < cont a f w)) := by
    have := isLess_ok (n := h) (d := 1) (m := cont a f w) (e := a) (by omega) (by omega) (by omega) (by omega) (by have := p.h0; have := p.h1; omega) (by omega)
    rw [red_one, Int.mul_one] at this
    exact this
  rw [e1, Option.bind_some]
  unfold thruN
  by_cases c1 : h * a < cont a f w
  · rw [if_pos (decide_eq_true c1), if_pos c1, cA, Option.bind_some, cB, Option.bind_some, w64 (i := cont a f w + cont b g v) (by omega) (by omega), w64 (i := a + b) (by omega) (by omega), lowest_ok _ (a + b) k (by omega) (by omega) (by omega) (by omega), Option.bind_some]
    have e2 : impl_Ratio_isLess.f (red (cont a f w + cont b g v) (a + b)).1 (red (cont a f w + cont b g v) (a + b)).2 h 1 = some (decide (cont a f w + cont b g v < h * (a + b))) := by
      have := isLess_ok (n := cont a f w + cont b g v) (d := a + b) (m := h) (e := 1) (by omega) (by omega) (by omega) (by omega) (by omega) (by have := p.h0; have := p.h1; omega)
      rw [red_one, Int.mul_one] at this
      exact this
    rw [e2, Option.bind_some]
    have xe : red (h * a) a = (h, 1) := by
      have := red_scale (n := h) (d := 1) (a := a) (by omega) (by omega)
      rw [Int.mul_one, red_one, Int.mul_comm a h] at this
      exact this
    by_cases c2 : cont a f w + cont b g v < h * (a + b)
    · rw [if_pos (decide_eq_true c2), if_pos (by omega : cont a f w + cont b g v ≤ h * (a + b)), Option.bind_some, Option.bind_some, Int.mul_comm a h, w64 (i := h * a) (by omega) (by omega), w64 (i := cont b g v + cont a f w) (by omega) (by omega), w64 (by omega) (by omega), lowest_ok _ b k (by omega) (by omega) (by omega) (by omega), Option.bind_some]
      unfold lvX lvY
      simp only [Int.mul_one]
      rw [show cont a f w - (cont a f w - h * a) = h * a by omega, xe, show cont b g v + (cont a f w - h * a) = cont b g v + cont a f w - h * a by omega]
    · rw [if_neg (by rw [decide_eq_true_iff]; exact c2)]
      by_cases c3 : cont a f w + cont b g v ≤ h * (a + b)
      · rw [if_pos c3]
        have ee : cont a f w + cont b g v = h * (a + b) := by omega
        have xe2 : red (cont a f w + cont b g v) (a + b) = (h, 1) := by
          rw [ee]
          have := red_scale (n := h) (d := 1) (a := a + b) (by omega) (by omega)
          rw [Int.mul_one, red_one, Int.mul_comm (a + b) h] at this
          exact this
        have xe3 : red (h * b) b = (h, 1) := by
          have := red_scale (n := h) (d := 1) (a := b) (by omega) (by omega)
          rw [Int.mul_one, red_one, Int.mul_comm b h] at this
          exact this
        unfold lvX lvY
        simp only [Int.mul_one]
        rw [xe2, show cont a f w - (cont a f w - h * a) = h * a by omega, xe, show cont b g v + (cont a f w - h * a) = h * b by omega, xe3]
      · rw [if_neg c3]
        unfold lvX lvY
        simp only []
        have y1 : cont a f w * (a + b) - (cont a f w * b - a * cont b g v) = a * (cont a f w + cont b g v) := by
          rw [Int.mul_add, Int.mul_add, Int.mul_comm (cont a f w) a]
          omega
        have y2 : cont b g v * (a + b) + (cont a f w * b - a * cont b g v) = b * (cont a f w + cont b g v) := by
          rw [Int.mul_add, Int.mul_add, Int.mul_comm (cont b g v) a, Int.mul_comm (cont a f w) b, Int.mul_comm (cont b g v) b]
          omega
        rw [y1, y2, red_scale (by omega) (by omega), red_scale (by omega) (by omega)]
  · rw [if_neg (by rw [decide_eq_true_iff]; exact c1), if_neg c1, Option.bind_some, Option.bind_some]
    unfold lvX lvY
    simp only [Int.mul_one, Int.sub_zero, Int.add_zero]
theorem piped_ok {a f w b g v h : Int} (k : Nat) (p : Piped a f w b g v h) (hk : 10000000000 ≤ k) :
    impl_piped.f (k + 2) a f w b g v h = some ((lvX a (cont a f w) (flowN a (cont a f w) b (cont b g v) h)).1, (lvX a (cont a f w) (flowN a (cont a f w) b (cont b g v) h)).2, (lvY b (cont b g v) (flowN a (cont a f w) b (cont b g v) h)).1, (lvY b (cont b g v) (flowN a (cont a f w) b (cont b g v) h)).2) := by
  rw [flow_thru]
  by_cases c : cont a f w * b < cont b g v * a
  · obtain ⟨a1, a2, a3, a4, a5, a6⟩ := tankB_get p.ta
    obtain ⟨b1, b2, b3, b4, b5, b6⟩ := tankB_get p.tb
    have ca := cont_bd p.ta
    have cb := cont_bd p.tb
    rw [if_pos c]
    have hs := piped_high k p.swap hk (by omega)
    unfold impl_piped.f
    rw [level_ok (k + 1) p.ta (by omega), Option.bind_some, level_ok (k + 1) p.tb (by omega), Option.bind_some, isLess_ok (by omega) (by omega) (by omega) (by omega) (by omega) (by omega), Option.bind_some, if_pos (decide_eq_true c), hs, Option.bind_some]
    unfold lvX lvY
    simp only [Int.sub_neg, ← Int.sub_eq_add_neg]
  · rw [if_neg c]
    exact piped_high (k + 1) p (by omega) c

/-- May a pipe of this height lie between them? -/
def pipeB (a f w b g v h : Int) : Bool := tankB a f w && (tankB b g v && (inR 0 1000 h && (decide (h ≥ f) && decide (h ≥ g))))
theorem pipeB_get {a f w b g v h : Int} (hp : pipeB a f w b g v h = true) : Piped a f w b g v h := by
  unfold pipeB at hp
  rw [Bool.and_eq_true, Bool.and_eq_true, Bool.and_eq_true, Bool.and_eq_true, inR_iff, decide_eq_true_iff, decide_eq_true_iff] at hp
  exact ⟨hp.1, hp.2.1, hp.2.2.1.1, hp.2.2.1.2, hp.2.2.2.1, hp.2.2.2.2⟩
theorem lePipe_ok (a f w b g v h : Int) : spec_lePipe.f a f w b g v h = some (pipeB a f w b g v h) := by
  unfold spec_lePipe.f pipeB
  rw [leTank_ok, Option.bind_some]
  by_cases h1 : tankB a f w = true
  · rw [if_pos h1, h1, leTank_ok, Option.bind_some, Bool.true_and]
    by_cases h2 : tankB b g v = true
    · rw [if_pos h2, h2, l1In_okR, Option.bind_some, Bool.true_and]
      by_cases h3 : inR 0 1000 h = true
      · rw [if_pos h3, h3, Bool.true_and]
        by_cases h4 : h ≥ f
        · rw [if_pos h4, decide_eq_true h4, Bool.true_and]
        · rw [if_neg h4, decide_eq_false h4, Bool.false_and]
      · rw [if_neg h3, Bool.eq_false_iff.mpr h3, Bool.false_and]
    · rw [if_neg h2, Bool.eq_false_iff.mpr h2, Bool.false_and]
  · rw [if_neg h1, Bool.eq_false_iff.mpr h1, Bool.false_and]
theorem isPiped_ok (a f w b g v h : Int) : impl_isPiped.f a f w b g v h = some (pipeB a f w b g v h) := by
  unfold impl_isPiped.f pipeB
  rw [IsTank_ok, Option.bind_some]
  by_cases h1 : tankB a f w = true
  · rw [if_pos h1, h1, IsTank_ok, Option.bind_some, Bool.true_and]
    by_cases h2 : tankB b g v = true
    · obtain ⟨a1, a2, a3, a4, a5, a6⟩ := tankB_get h1
      obtain ⟨b1, b2, b3, b4, b5, b6⟩ := tankB_get h2
      rw [if_pos h2, h2, within_okR, Option.bind_some, Bool.true_and]
      congr 1
      unfold inR
      rw [Bool.eq_iff_iff]
      have em : mx f g = max f g := by unfold mx; split <;> omega
      simp only [Bool.and_eq_true, decide_eq_true_iff, em]
      omega
    · rw [if_neg h2, Bool.eq_false_iff.mpr h2, Bool.false_and]
  · rw [if_neg h1, Bool.eq_false_iff.mpr h1, Bool.false_and]
theorem flowN_bd {a f w b g v h : Int} (p : Piped a f w b g v h) : (flowN a (cont a f w) b (cont b g v) h).1.natAbs ≤ 10000000 ∧ (flowN a (cont a f w) b (cont b g v) h).2 ≤ 100 := by
  obtain ⟨a1, a2, a3, a4, a5, a6⟩ := tankB_get p.ta
  obtain ⟨b1, b2, b3, b4, b5, b6⟩ := tankB_get p.tb
  have ca := cont_bd p.ta
  have cb := cont_bd p.tb
  have m1 := mulB p.h0 p.h1 (show 0 ≤ a by omega) a2
  have m2 := mulB p.h0 p.h1 (show 0 ≤ b by omega) b2
  have m3 := mulB ca.1 ca.2 (show 0 ≤ b by omega) b2
  have m4 := mulB (show 0 ≤ a by omega) a2 cb.1 cb.2
  unfold flowN
  constructor
  · split <;> split <;> (try split) <;> (simp only []; omega)
  · split <;> split <;> (try split) <;> (simp only []; omega)

end Go.Proofs.Ytfaiegpkmohkdaa.Pure
