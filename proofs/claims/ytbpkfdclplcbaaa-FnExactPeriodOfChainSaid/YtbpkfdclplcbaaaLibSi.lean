/- A tick of a siphon, as program and reference reckon it, for right siphons, levels and inflows. -/
import Derived.Test.YtbpkfdclplcbaaaLibS
import Derived.Test.YtbpkfdclplcbaaaLibW
import Derived.Test.YtbpkfdclplcbaaaPr4
namespace Go.Proofs.Ytbpkfdclplcbaaa.Pure
open Go.RowKit Go.Proofs.Ytbpkfdclplcbaaa.Pr Go.Proofs.YtbpkfdclplcbaaaW.PrintWords Go.Proofs.YtbpkfdclplcbaaaW.PrintLast
set_option linter.unusedVariables false
set_option linter.unusedSimpArgs false

/-- The level behind a tick, what runs out, what is spilt: z the size, lo, st, fl the siphon's other numbers, h and r the level, x the inflow. -/
def tk (z lo st fl h : Int) (r : Bool) (x : Int) : Int × Bool × Int × Int :=
  if (r || decide (st ≤ min (h + x) z)) = true then (min (h + x) z - min fl (max 0 (min (h + x) z - lo)), decide (lo < min (h + x) z - min fl (max 0 (min (h + x) z - lo))), min fl (max 0 (min (h + x) z - lo)), max 0 (h + x - z))
  else (min (h + x) z, false, 0, max 0 (h + x - z))
theorem tk_bd {z lo st fl h x : Int} {r : Bool} (hs : siphB z lo st fl = true) (h0 : 0 ≤ h) (h1 : h ≤ z) (x0 : 0 ≤ x) (x1 : x ≤ 60) : 0 ≤ (tk z lo st fl h r x).1 ∧ (tk z lo st fl h r x).1 ≤ z ∧ 0 ≤ (tk z lo st fl h r x).2.2.1 ∧ (tk z lo st fl h r x).2.2.1 ≤ 60 ∧ 0 ≤ (tk z lo st fl h r x).2.2.2 ∧ (tk z lo st fl h r x).2.2.2 ≤ 120 := by
  obtain ⟨a1, a2, a3, a4, a5, a6, a7⟩ := siphB_get hs
  unfold tk
  split <;> simp only [] <;> omega
theorem siTick_ok {z lo st fl h x : Int} {r : Bool} (k : Nat) (hs : siphB z lo st fl = true) (h0 : 0 ≤ h) (h1 : h ≤ z) (x0 : 0 ≤ x) (x1 : x ≤ 60) (hk : 10 ≤ k) : spec_siTick.f k z lo st fl h r x = some (tk z lo st fl h r x) := by
  obtain ⟨a1, a2, a3, a4, a5, a6, a7⟩ := siphB_get hs
  have em : ∀ a b : Int, spec_l1Most.f a b = some (max a b) := fun a b => by unfold spec_l1Most.f; split <;> (congr 1; omega)
  have el : ∀ a b : Int, spec_l1Least.f a b = some (min a b) := fun a b => by unfold spec_l1Least.f; split <;> (congr 1; omega)
  obtain ⟨k, rfl⟩ : ∃ m, k = m + 2 := ⟨k - 2, by omega⟩
  unfold spec_siTick.f
  rw [w64 (i := h + x) (by omega) (by omega)]
  have j1 : ∀ (v : Int) (b : Bool) (s : Int), 0 ≤ v → v ≤ z → spec_siTick.j1 (k + 1) v s b z lo st fl = some (if b = true then (v - min fl (max 0 (v - lo)), decide (lo < v - min fl (max 0 (v - lo))), min fl (max 0 (v - lo)), s) else (v, false, 0, s)) := by
    intro v b s v0 v1
    simp only [spec_siTick.j1]
    cases b with
    | false => rw [if_neg (by decide), if_neg (by decide)]
    | true =>
      rw [if_pos rfl, if_pos rfl, w64 (i := v - lo) (by omega) (by omega), em, Option.bind_some, el, Option.bind_some, show max (v - lo) 0 = max 0 (v - lo) by omega, w64 (i := v - min fl (max 0 (v - lo))) (by omega) (by omega)]
  have j0 : ∀ (v s : Int), 0 ≤ v → v ≤ z → spec_siTick.j0 (k + 2) v s z lo st fl h r = some (if (r || decide (st ≤ v)) = true then (v - min fl (max 0 (v - lo)), decide (lo < v - min fl (max 0 (v - lo))), min fl (max 0 (v - lo)), s) else (v, false, 0, s)) := by
    intro v s v0 v1
    simp only [spec_siTick.j0]
    cases r with
    | true => rw [if_pos rfl, j1 v true s v0 v1, Bool.true_or]
    | false => rw [if_neg (by decide), j1 v _ s v0 v1, Bool.false_or]
  unfold tk
  by_cases hc : h + x > z
  · rw [if_pos hc, w64 (i := h + x - z) (by omega) (by omega), j0 z (h + x - z) (by omega) (by omega), show min (h + x) z = z by omega, show max 0 (h + x - z) = h + x - z by omega]
  · rw [if_neg hc, j0 (h + x) 0 (by omega) (by omega), show min (h + x) z = h + x by omega, show max 0 (h + x - z) = 0 by omega]
theorem Siphon_tick_ok {z lo st fl h x : Int} {r : Bool} (hs : siphB z lo st fl = true) (h0 : 0 ≤ h) (h1 : h ≤ z) (x0 : 0 ≤ x) (x1 : x ≤ 60) : impl_Siphon_tick.f z lo st fl h r x = some (tk z lo st fl h r x) := by
  obtain ⟨a1, a2, a3, a4, a5, a6, a7⟩ := siphB_get hs
  have em : ∀ a b : Int, mx a b = max a b := fun a b => by unfold mx; split <;> omega
  have el : ∀ a b : Int, mn a b = min a b := fun a b => by unfold mn; split <;> omega
  unfold impl_Siphon_tick.f
  simp only [em, el]
  rw [w64 (i := h + x) (by omega) (by omega), w64 (i := h + x - z) (by omega) (by omega), w64 (i := h + x - max 0 (h + x - z)) (by omega) (by omega), show h + x - max 0 (h + x - z) = min (h + x) z by omega, w64 (i := min (h + x) z - lo) (by omega) (by omega), w64 (i := min (h + x) z - min fl (max 0 (min (h + x) z - lo))) (by omega) (by omega)]
  unfold tk
  cases r with
  | true =>
    rw [if_pos rfl, Bool.true_or, if_pos rfl]
  | false =>
    rw [if_neg (by decide), Bool.false_or]
    by_cases hc : min (h + x) z ≥ st
    · rw [if_pos hc, if_pos (decide_eq_true hc)]
    · rw [if_neg hc, if_neg (fun q => hc (of_decide_eq_true q)), decide_eq_false hc]

end Go.Proofs.Ytbpkfdclplcbaaa.Pure
