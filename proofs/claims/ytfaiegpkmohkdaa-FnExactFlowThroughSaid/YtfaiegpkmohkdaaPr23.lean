/- What the Go functions of this seat compute, each with the proof that its call computes it; laid by a program of this session (wip/tools/ownprint.py), for all inputs. -/
import Derived.Test.YtfaiegpkmohkdaaPr0
import Derived.Test.YtfaiegpkmohkdaaPr2
import Derived.Test.YtfaiegpkmohkdaaPr3
import Derived.Test.YtfaiegpkmohkdaaPr19
import Derived.Test.YtfaiegpkmohkdaaPr20
import Derived.Test.YtfaiegpkmohkdaaPr21
import Derived.Test.YtfaiegpkmohkdaaPr22
namespace Go.Proofs.Ytfaiegpkmohkdaa.Pr
open Go.RowKit Go.Proofs.YtfaiegpkmohkdaaW.PrintWords Go.Proofs.YtfaiegpkmohkdaaW.PrintLast Go.Proofs.YtfaiegpkmohkdaaW.PrintMore
attribute [local go_sem] max2_int min2_int max_two min_two max_three min_three max_four min_four   -- for this text's walks alone
set_option linter.unusedVariables false
set_option linter.unusedSimpArgs false

/-! ### laws_FnExactFlowThrough: out of its ways -/
set_option maxHeartbeats 8000000 in
set_option maxRecDepth 100000 in
theorem laws_FnExactFlowThrough.calls (k : Nat) (a0_0 : Int) (a0_1 : Int) (a0_2 : Int) (a1_0 : Int) (a1_1 : Int) (a1_2 : Int) (a2 : Int) (r : Bool) (w : World) (h : laws_FnExactFlowThrough.f k a0_0 a0_1 a0_2 a1_0 a1_1 a1_2 a2 = some r) :
    Calls Try.prog 7 #[.agg #[.int .i64 a0_0, .int .i64 a0_1, .int .i64 a0_2], .agg #[.int .i64 a1_0, .int .i64 a1_1, .int .i64 a1_2], .int .i64 a2] w fun e w' => e = .returned (.bool r) ∧ Below w.heap.size w w' := by
  have hu23 := Try.underlying23
  have hu29 := Try.underlying29
  have HB := Aside0.mk (Below.refl w.heap.size w)
  have H : ((laws_toTank.f a0_0 a0_1 a0_2).bind fun bt316 => ((laws_toTank.f a1_0 a1_1 a1_2).bind fun bt319 => ((spec_FlowThrough.f k bt316.1 bt316.2.1 bt316.2.2 bt319.1 bt319.2.1 bt319.2.2 a2).bind fun bt322 => ((laws_toTank.f a0_0 a0_1 a0_2).bind fun bt326 => ((laws_toTank.f a1_0 a1_1 a1_2).bind fun bt329 => ((impl_FlowThrough.f k bt326.1 bt326.2.1 bt326.2.2 bt329.1 bt329.2.1 bt329.2.2 a2).bind fun bt332 => ((laws_eqRatio.f bt332.1 bt332.2.1 bt322.1 bt322.2.1).bind fun t336 => (if t336 = true then (if (bt332.2.2 != bt322.2.2) = true then (some false) else (some true)) else (some false))))))))) = some r := h
  clear h
  replace H := Option.bind_eq_some_iff.mp H
  obtain ⟨⟨t316, t317, t318⟩, A40, H⟩ := H
  replace H : ((laws_toTank.f a1_0 a1_1 a1_2).bind fun bt319 => ((spec_FlowThrough.f k t316 t317 t318 bt319.1 bt319.2.1 bt319.2.2 a2).bind fun bt322 => ((laws_toTank.f a0_0 a0_1 a0_2).bind fun bt326 => ((laws_toTank.f a1_0 a1_1 a1_2).bind fun bt329 => ((impl_FlowThrough.f k bt326.1 bt326.2.1 bt326.2.2 bt329.1 bt329.2.1 bt329.2.2 a2).bind fun bt332 => ((laws_eqRatio.f bt332.1 bt332.2.1 bt322.1 bt322.2.1).bind fun t336 => (if t336 = true then (if (bt332.2.2 != bt322.2.2) = true then (some false) else (some true)) else (some false)))))))) = some r := H
  have A4 := Aside0.mk A40
  clear A40
  replace H := Option.bind_eq_some_iff.mp H
  obtain ⟨⟨t319, t320, t321⟩, A50, H⟩ := H
  replace H : ((spec_FlowThrough.f k t316 t317 t318 t319 t320 t321 a2).bind fun bt322 => ((laws_toTank.f a0_0 a0_1 a0_2).bind fun bt326 => ((laws_toTank.f a1_0 a1_1 a1_2).bind fun bt329 => ((impl_FlowThrough.f k bt326.1 bt326.2.1 bt326.2.2 bt329.1 bt329.2.1 bt329.2.2 a2).bind fun bt332 => ((laws_eqRatio.f bt332.1 bt332.2.1 bt322.1 bt322.2.1).bind fun t336 => (if t336 = true then (if (bt332.2.2 != bt322.2.2) = true then (some false) else (some true)) else (some false))))))) = some r := H
  have A5 := Aside0.mk A50
  clear A50
  replace H := Option.bind_eq_some_iff.mp H
  obtain ⟨⟨t322, t323, t324⟩, A60, H⟩ := H
  replace H : ((laws_toTank.f a0_0 a0_1 a0_2).bind fun bt326 => ((laws_toTank.f a1_0 a1_1 a1_2).bind fun bt329 => ((impl_FlowThrough.f k bt326.1 bt326.2.1 bt326.2.2 bt329.1 bt329.2.1 bt329.2.2 a2).bind fun bt332 => ((laws_eqRatio.f bt332.1 bt332.2.1 t322 t323).bind fun t336 => (if t336 = true then (if (bt332.2.2 != t324) = true then (some false) else (some true)) else (some false)))))) = some r := H
  have A6 := Aside0.mk A60
  clear A60
  replace H := Option.bind_eq_some_iff.mp H
  obtain ⟨⟨t326, t327, t328⟩, A70, H⟩ := H
  replace H : ((laws_toTank.f a1_0 a1_1 a1_2).bind fun bt329 => ((impl_FlowThrough.f k t326 t327 t328 bt329.1 bt329.2.1 bt329.2.2 a2).bind fun bt332 => ((laws_eqRatio.f bt332.1 bt332.2.1 t322 t323).bind fun t336 => (if t336 = true then (if (bt332.2.2 != t324) = true then (some false) else (some true)) else (some false))))) = some r := H
  have A7 := Aside0.mk A70
  clear A70
  replace H := Option.bind_eq_some_iff.mp H
  obtain ⟨⟨t329, t330, t331⟩, A80, H⟩ := H
  replace H : ((impl_FlowThrough.f k t326 t327 t328 t329 t330 t331 a2).bind fun bt332 => ((laws_eqRatio.f bt332.1 bt332.2.1 t322 t323).bind fun t336 => (if t336 = true then (if (bt332.2.2 != t324) = true then (some false) else (some true)) else (some false)))) = some r := H
  have A8 := Aside0.mk A80
  clear A80
  replace H := Option.bind_eq_some_iff.mp H
  obtain ⟨⟨t332, t333, t334⟩, A90, H⟩ := H
  replace H : ((laws_eqRatio.f t332 t333 t322 t323).bind fun t336 => (if t336 = true then (if (t334 != t324) = true then (some false) else (some true)) else (some false))) = some r := H
  have A9 := Aside0.mk A90
  clear A90
  replace H := Option.bind_eq_some_iff.mp H
  obtain ⟨t336, A100, H⟩ := H
  replace H : (if t336 = true then (if (t334 != t324) = true then (some false) else (some true)) else (some false)) = some r := H
  have A10 := Aside0.mk A100
  clear A100
  by_cases c11 : t336 = true
  · subst c11
    have H1 : (if (t334 != t324) = true then (some false) else (some true)) = some r := by rw [if_pos rfl] at H; exact H
    clear H
    have H := H1
    clear H1
    by_cases c12 : (t334 != t324) = true
    · rw [if_pos c12] at H
      have c12b0 : (t334 != t324) = true := c12
      (try (have c12b1 : decide (t334 = t324) = false := by simpa using c12))
      (try (have c12b2 : (t334 == t324) = false := by simpa using c12))
      (try (have c12b3 : ¬ (t334 = t324) := by simpa using c12))
      clear c12
      obtain rfl := Option.some.inj H
      exact laws_FnExactFlowThrough.leaf0 k a0_0 a0_1 a0_2 a1_0 a1_1 a1_2 a2 w HB t316 t317 t318 A4 t319 t320 t321 A5 t322 t323 t324 A6 t326 t327 t328 A7 t329 t330 t331 A8 t332 t333 t334 A9 A10 c12b0 c12b1 c12b2 c12b3 H
    · rw [if_neg c12] at H
      have c12b0 : (t334 != t324) = false := by simpa using c12
      (try (have c12b1 : decide (t334 = t324) = true := by simpa using c12))
      (try (have c12b2 : (t334 == t324) = true := by simpa using c12))
      clear c12
      obtain rfl := Option.some.inj H
      exact laws_FnExactFlowThrough.leaf1 k a0_0 a0_1 a0_2 a1_0 a1_1 a1_2 a2 w HB t316 t317 t318 A4 t319 t320 t321 A5 t322 t323 t324 A6 t326 t327 t328 A7 t329 t330 t331 A8 t332 t333 t334 A9 A10 c12b0 c12b1 c12b2 H
  · replace c11 := Bool.eq_false_iff.mpr c11
    subst c11
    have H1 : (some false) = some r := by rw [if_neg (show ¬ (false = true) by decide)] at H; exact H
    clear H
    have H := H1
    clear H1
    obtain rfl := Option.some.inj H
    exact laws_FnExactFlowThrough.leaf2 k a0_0 a0_1 a0_2 a1_0 a1_1 a1_2 a2 w HB t316 t317 t318 A4 t319 t320 t321 A5 t322 t323 t324 A6 t326 t327 t328 A7 t329 t330 t331 A8 t332 t333 t334 A9 A10 H
end Go.Proofs.Ytfaiegpkmohkdaa.Pr
