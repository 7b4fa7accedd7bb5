/- What the Go functions of this seat compute, each with the proof that its call computes it; laid by a program of this session (wip/tools/ownprint.py), for all inputs. -/
import Derived.Test.YtfaiegpkmohkdaaPr0
import Derived.Test.YtfaiegpkmohkdaaPr3
import Derived.Test.YtfaiegpkmohkdaaPr5
import Derived.Test.YtfaiegpkmohkdaaPr12
import Derived.Test.YtfaiegpkmohkdaaPr13
import Derived.Test.YtfaiegpkmohkdaaPr14
import Derived.Test.YtfaiegpkmohkdaaPr15
import Derived.Test.YtfaiegpkmohkdaaPr16
namespace Go.Proofs.Ytfaiegpkmohkdaa.Pr
open Go.RowKit Go.Proofs.YtfaiegpkmohkdaaW.PrintWords Go.Proofs.YtfaiegpkmohkdaaW.PrintLast Go.Proofs.YtfaiegpkmohkdaaW.PrintMore
attribute [local go_sem] max2_int min2_int max_two min_two max_three min_three max_four min_four   -- for this text's walks alone
set_option linter.unusedVariables false
set_option linter.unusedSimpArgs false

/-! ### laws_FnExactAddRatios: out of its ways -/
set_option maxHeartbeats 8000000 in
set_option maxRecDepth 100000 in
theorem laws_FnExactAddRatios.calls (k : Nat) (a0_0 : Int) (a0_1 : Int) (a1_0 : Int) (a1_1 : Int) (r : Bool) (w : World) (h : laws_FnExactAddRatios.f k a0_0 a0_1 a1_0 a1_1 = some r) :
    Calls Try.prog 6 #[.agg #[.int .i64 a0_0, .int .i64 a0_1], .agg #[.int .i64 a1_0, .int .i64 a1_1]] w fun e w' => e = .returned (.bool r) ∧ Below w.heap.size w w' := by
  have hu40 := Try.underlying40
  have hu29 := Try.underlying29
  have HB := Aside0.mk (Below.refl w.heap.size w)
  have H : ((laws_toRatio.f a0_0 a0_1).bind fun bt144 => ((laws_toRatio.f a1_0 a1_1).bind fun bt146 => ((spec_AddRatios.f k bt144.1 bt144.2 bt146.1 bt146.2).bind fun bt148 => ((laws_toRatio.f a0_0 a0_1).bind fun bt152 => ((laws_toRatio.f a1_0 a1_1).bind fun bt154 => ((impl_AddRatios.f k bt152.1 bt152.2 bt154.1 bt154.2).bind fun bt156 => ((laws_eqRatio.f bt156.1 bt156.2.1 bt148.1 bt148.2.1).bind fun t160 => (if t160 = true then (if (bt156.2.2 != bt148.2.2) = true then (some false) else (some true)) else (some false))))))))) = some r := h
  clear h
  replace H := Option.bind_eq_some_iff.mp H
  obtain ⟨⟨t144, t145⟩, A30, H⟩ := H
  replace H : ((laws_toRatio.f a1_0 a1_1).bind fun bt146 => ((spec_AddRatios.f k t144 t145 bt146.1 bt146.2).bind fun bt148 => ((laws_toRatio.f a0_0 a0_1).bind fun bt152 => ((laws_toRatio.f a1_0 a1_1).bind fun bt154 => ((impl_AddRatios.f k bt152.1 bt152.2 bt154.1 bt154.2).bind fun bt156 => ((laws_eqRatio.f bt156.1 bt156.2.1 bt148.1 bt148.2.1).bind fun t160 => (if t160 = true then (if (bt156.2.2 != bt148.2.2) = true then (some false) else (some true)) else (some false)))))))) = some r := H
  have A3 := Aside0.mk A30
  clear A30
  replace H := Option.bind_eq_some_iff.mp H
  obtain ⟨⟨t146, t147⟩, A40, H⟩ := H
  replace H : ((spec_AddRatios.f k t144 t145 t146 t147).bind fun bt148 => ((laws_toRatio.f a0_0 a0_1).bind fun bt152 => ((laws_toRatio.f a1_0 a1_1).bind fun bt154 => ((impl_AddRatios.f k bt152.1 bt152.2 bt154.1 bt154.2).bind fun bt156 => ((laws_eqRatio.f bt156.1 bt156.2.1 bt148.1 bt148.2.1).bind fun t160 => (if t160 = true then (if (bt156.2.2 != bt148.2.2) = true then (some false) else (some true)) else (some false))))))) = some r := H
  have A4 := Aside0.mk A40
  clear A40
  replace H := Option.bind_eq_some_iff.mp H
  obtain ⟨⟨t148, t149, t150⟩, A50, H⟩ := H
  replace H : ((laws_toRatio.f a0_0 a0_1).bind fun bt152 => ((laws_toRatio.f a1_0 a1_1).bind fun bt154 => ((impl_AddRatios.f k bt152.1 bt152.2 bt154.1 bt154.2).bind fun bt156 => ((laws_eqRatio.f bt156.1 bt156.2.1 t148 t149).bind fun t160 => (if t160 = true then (if (bt156.2.2 != t150) = true then (some false) else (some true)) else (some false)))))) = some r := H
  have A5 := Aside0.mk A50
  clear A50
  replace H := Option.bind_eq_some_iff.mp H
  obtain ⟨⟨t152, t153⟩, A60, H⟩ := H
  replace H : ((laws_toRatio.f a1_0 a1_1).bind fun bt154 => ((impl_AddRatios.f k t152 t153 bt154.1 bt154.2).bind fun bt156 => ((laws_eqRatio.f bt156.1 bt156.2.1 t148 t149).bind fun t160 => (if t160 = true then (if (bt156.2.2 != t150) = true then (some false) else (some true)) else (some false))))) = some r := H
  have A6 := Aside0.mk A60
  clear A60
  replace H := Option.bind_eq_some_iff.mp H
  obtain ⟨⟨t154, t155⟩, A70, H⟩ := H
  replace H : ((impl_AddRatios.f k t152 t153 t154 t155).bind fun bt156 => ((laws_eqRatio.f bt156.1 bt156.2.1 t148 t149).bind fun t160 => (if t160 = true then (if (bt156.2.2 != t150) = true then (some false) else (some true)) else (some false)))) = some r := H
  have A7 := Aside0.mk A70
  clear A70
  replace H := Option.bind_eq_some_iff.mp H
  obtain ⟨⟨t156, t157, t158⟩, A80, H⟩ := H
  replace H : ((laws_eqRatio.f t156 t157 t148 t149).bind fun t160 => (if t160 = true then (if (t158 != t150) = true then (some false) else (some true)) else (some false))) = some r := H
  have A8 := Aside0.mk A80
  clear A80
  replace H := Option.bind_eq_some_iff.mp H
  obtain ⟨t160, A90, H⟩ := H
  replace H : (if t160 = true then (if (t158 != t150) = true then (some false) else (some true)) else (some false)) = some r := H
  have A9 := Aside0.mk A90
  clear A90
  by_cases c10 : t160 = true
  · subst c10
    have H1 : (if (t158 != t150) = true then (some false) else (some true)) = some r := by rw [if_pos rfl] at H; exact H
    clear H
    have H := H1
    clear H1
    by_cases c11 : (t158 != t150) = true
    · rw [if_pos c11] at H
      have c11b0 : (t158 != t150) = true := c11
      (try (have c11b1 : decide (t158 = t150) = false := by simpa using c11))
      (try (have c11b2 : (t158 == t150) = false := by simpa using c11))
      (try (have c11b3 : ¬ (t158 = t150) := by simpa using c11))
      clear c11
      obtain rfl := Option.some.inj H
      exact laws_FnExactAddRatios.leaf0 k a0_0 a0_1 a1_0 a1_1 w HB t144 t145 A3 t146 t147 A4 t148 t149 t150 A5 t152 t153 A6 t154 t155 A7 t156 t157 t158 A8 A9 c11b0 c11b1 c11b2 c11b3 H
    · rw [if_neg c11] at H
      have c11b0 : (t158 != t150) = false := by simpa using c11
      (try (have c11b1 : decide (t158 = t150) = true := by simpa using c11))
      (try (have c11b2 : (t158 == t150) = true := by simpa using c11))
      clear c11
      obtain rfl := Option.some.inj H
      exact laws_FnExactAddRatios.leaf1 k a0_0 a0_1 a1_0 a1_1 w HB t144 t145 A3 t146 t147 A4 t148 t149 t150 A5 t152 t153 A6 t154 t155 A7 t156 t157 t158 A8 A9 c11b0 c11b1 c11b2 H
  · replace c10 := Bool.eq_false_iff.mpr c10
    subst c10
    have H1 : (some false) = some r := by rw [if_neg (show ¬ (false = true) by decide)] at H; exact H
    clear H
    have H := H1
    clear H1
    obtain rfl := Option.some.inj H
    exact laws_FnExactAddRatios.leaf2 k a0_0 a0_1 a1_0 a1_1 w HB t144 t145 A3 t146 t147 A4 t148 t149 t150 A5 t152 t153 A6 t154 t155 A7 t156 t157 t158 A8 A9 H
end Go.Proofs.Ytfaiegpkmohkdaa.Pr
