/- What the Go functions of this seat compute, each with the proof that its call computes it; laid by a program of this session (wip/tools/ownprint.py), for all inputs. -/
import Derived.Test.YtbpkfdclplcbaaaPr0
import Derived.Test.YtbpkfdclplcbaaaPr2
import Derived.Test.YtbpkfdclplcbaaaPr7
import Derived.Test.YtbpkfdclplcbaaaPr22
import Derived.Test.YtbpkfdclplcbaaaPr23
import Derived.Test.YtbpkfdclplcbaaaPr24
import Derived.Test.YtbpkfdclplcbaaaPr25
import Derived.Test.YtbpkfdclplcbaaaPr26
import Derived.Test.YtbpkfdclplcbaaaPr27
namespace Go.Proofs.Ytbpkfdclplcbaaa.Pr
open Go.RowKit Go.Proofs.YtbpkfdclplcbaaaW.PrintWords Go.Proofs.YtbpkfdclplcbaaaW.PrintLast Go.Proofs.YtbpkfdclplcbaaaW.PrintMore
attribute [local go_sem] max2_int min2_int max_two min_two max_three min_three max_four min_four   -- for this text's walks alone
set_option linter.unusedVariables false
set_option linter.unusedSimpArgs false

/-! ### laws_FnExactTickSiphon: out of its ways -/
set_option maxHeartbeats 8000000 in
set_option maxRecDepth 100000 in
theorem laws_FnExactTickSiphon.calls (k : Nat) (a0_0 : Int) (a0_1 : Int) (a0_2 : Int) (a0_3 : Int) (a1_0 : Int) (a1_1 : Bool) (a2 : Int) (r : Bool) (w : World) (h : laws_FnExactTickSiphon.f k a0_0 a0_1 a0_2 a0_3 a1_0 a1_1 a2 = some r) :
    Calls Try.prog 8 #[.agg #[.int .i64 a0_0, .int .i64 a0_1, .int .i64 a0_2, .int .i64 a0_3], .agg #[.int .i64 a1_0, .bool a1_1], .int .i64 a2] w fun e w' => e = .returned (.bool r) ∧ Below w.heap.size w w' := by
  have hu24 := Try.underlying24
  have hu34 := Try.underlying34
  have hu37 := Try.underlying37
  have HB := Aside0.mk (Below.refl w.heap.size w)
  have H : ((laws_toSiphon.f a0_0 a0_1 a0_2 a0_3).bind fun bt370 => ((laws_toLevel.f a1_0 a1_1).bind fun bt374 => ((spec_TickSiphon.f k bt370.1 bt370.2.1 bt370.2.2.1 bt370.2.2.2 bt374.1 bt374.2 a2).bind fun bt376 => ((laws_toSiphon.f a0_0 a0_1 a0_2 a0_3).bind fun bt382 => ((laws_toLevel.f a1_0 a1_1).bind fun bt386 => ((impl_TickSiphon.f bt382.1 bt382.2.1 bt382.2.2.1 bt382.2.2.2 bt386.1 bt386.2 a2).bind fun bt388 => ((laws_eqLevel.f bt388.1 bt388.2.1 bt376.1 bt376.2.1).bind fun t394 => (if t394 = true then (if bt388.2.2.1 = bt376.2.2.1 then (if bt388.2.2.2.1 = bt376.2.2.2.1 then (if (bt388.2.2.2.2 != bt376.2.2.2.2) = true then (some false) else (some true)) else (some false)) else (some false)) else (some false))))))))) = some r := h
  clear h
  replace H := Option.bind_eq_some_iff.mp H
  obtain ⟨⟨t370, t371, t372, t373⟩, A40, H⟩ := H
  replace H : ((laws_toLevel.f a1_0 a1_1).bind fun bt374 => ((spec_TickSiphon.f k t370 t371 t372 t373 bt374.1 bt374.2 a2).bind fun bt376 => ((laws_toSiphon.f a0_0 a0_1 a0_2 a0_3).bind fun bt382 => ((laws_toLevel.f a1_0 a1_1).bind fun bt386 => ((impl_TickSiphon.f bt382.1 bt382.2.1 bt382.2.2.1 bt382.2.2.2 bt386.1 bt386.2 a2).bind fun bt388 => ((laws_eqLevel.f bt388.1 bt388.2.1 bt376.1 bt376.2.1).bind fun t394 => (if t394 = true then (if bt388.2.2.1 = bt376.2.2.1 then (if bt388.2.2.2.1 = bt376.2.2.2.1 then (if (bt388.2.2.2.2 != bt376.2.2.2.2) = true then (some false) else (some true)) else (some false)) else (some false)) else (some false)))))))) = some r := H
  have A4 := Aside0.mk A40
  clear A40
  replace H := Option.bind_eq_some_iff.mp H
  obtain ⟨⟨t374, t375⟩, A50, H⟩ := H
  replace H : ((spec_TickSiphon.f k t370 t371 t372 t373 t374 t375 a2).bind fun bt376 => ((laws_toSiphon.f a0_0 a0_1 a0_2 a0_3).bind fun bt382 => ((laws_toLevel.f a1_0 a1_1).bind fun bt386 => ((impl_TickSiphon.f bt382.1 bt382.2.1 bt382.2.2.1 bt382.2.2.2 bt386.1 bt386.2 a2).bind fun bt388 => ((laws_eqLevel.f bt388.1 bt388.2.1 bt376.1 bt376.2.1).bind fun t394 => (if t394 = true then (if bt388.2.2.1 = bt376.2.2.1 then (if bt388.2.2.2.1 = bt376.2.2.2.1 then (if (bt388.2.2.2.2 != bt376.2.2.2.2) = true then (some false) else (some true)) else (some false)) else (some false)) else (some false))))))) = some r := H
  have A5 := Aside0.mk A50
  clear A50
  replace H := Option.bind_eq_some_iff.mp H
  obtain ⟨⟨t376, t377, t378, t379, t380⟩, A60, H⟩ := H
  replace H : ((laws_toSiphon.f a0_0 a0_1 a0_2 a0_3).bind fun bt382 => ((laws_toLevel.f a1_0 a1_1).bind fun bt386 => ((impl_TickSiphon.f bt382.1 bt382.2.1 bt382.2.2.1 bt382.2.2.2 bt386.1 bt386.2 a2).bind fun bt388 => ((laws_eqLevel.f bt388.1 bt388.2.1 t376 t377).bind fun t394 => (if t394 = true then (if bt388.2.2.1 = t378 then (if bt388.2.2.2.1 = t379 then (if (bt388.2.2.2.2 != t380) = true then (some false) else (some true)) else (some false)) else (some false)) else (some false)))))) = some r := H
  have A6 := Aside0.mk A60
  clear A60
  replace H := Option.bind_eq_some_iff.mp H
  obtain ⟨⟨t382, t383, t384, t385⟩, A70, H⟩ := H
  replace H : ((laws_toLevel.f a1_0 a1_1).bind fun bt386 => ((impl_TickSiphon.f t382 t383 t384 t385 bt386.1 bt386.2 a2).bind fun bt388 => ((laws_eqLevel.f bt388.1 bt388.2.1 t376 t377).bind fun t394 => (if t394 = true then (if bt388.2.2.1 = t378 then (if bt388.2.2.2.1 = t379 then (if (bt388.2.2.2.2 != t380) = true then (some false) else (some true)) else (some false)) else (some false)) else (some false))))) = some r := H
  have A7 := Aside0.mk A70
  clear A70
  replace H := Option.bind_eq_some_iff.mp H
  obtain ⟨⟨t386, t387⟩, A80, H⟩ := H
  replace H : ((impl_TickSiphon.f t382 t383 t384 t385 t386 t387 a2).bind fun bt388 => ((laws_eqLevel.f bt388.1 bt388.2.1 t376 t377).bind fun t394 => (if t394 = true then (if bt388.2.2.1 = t378 then (if bt388.2.2.2.1 = t379 then (if (bt388.2.2.2.2 != t380) = true then (some false) else (some true)) else (some false)) else (some false)) else (some false)))) = some r := H
  have A8 := Aside0.mk A80
  clear A80
  replace H := Option.bind_eq_some_iff.mp H
  obtain ⟨⟨t388, t389, t390, t391, t392⟩, A90, H⟩ := H
  replace H : ((laws_eqLevel.f t388 t389 t376 t377).bind fun t394 => (if t394 = true then (if t390 = t378 then (if t391 = t379 then (if (t392 != t380) = true then (some false) else (some true)) else (some false)) else (some false)) else (some false))) = some r := H
  have A9 := Aside0.mk A90
  clear A90
  replace H := Option.bind_eq_some_iff.mp H
  obtain ⟨t394, A100, H⟩ := H
  replace H : (if t394 = true then (if t390 = t378 then (if t391 = t379 then (if (t392 != t380) = true then (some false) else (some true)) else (some false)) else (some false)) else (some false)) = some r := H
  have A10 := Aside0.mk A100
  clear A100
  by_cases c11 : t394 = true
  · subst c11
    have H1 : (if t390 = t378 then (if t391 = t379 then (if (t392 != t380) = true then (some false) else (some true)) else (some false)) else (some false)) = some r := by rw [if_pos rfl] at H; exact H
    clear H
    have H := H1
    clear H1
    by_cases c12 : t390 = t378
    · rw [if_pos c12] at H
      have c12b0 : (t390 == t378) = true := beq_iff_eq.mpr c12
      have c12b1 : (t390 != t378) = false := bne_eq_false_iff_eq.mpr c12
      clear c12
      by_cases c13 : t391 = t379
      · rw [if_pos c13] at H
        have c13b0 : (t391 == t379) = true := beq_iff_eq.mpr c13
        have c13b1 : (t391 != t379) = false := bne_eq_false_iff_eq.mpr c13
        clear c13
        by_cases c14 : (t392 != t380) = true
        · rw [if_pos c14] at H
          have c14b0 : (t392 != t380) = true := c14
          (try (have c14b1 : decide (t392 = t380) = false := by simpa using c14))
          (try (have c14b2 : (t392 == t380) = false := by simpa using c14))
          (try (have c14b3 : ¬ (t392 = t380) := by simpa using c14))
          clear c14
          obtain rfl := Option.some.inj H
          exact laws_FnExactTickSiphon.leaf0 k a0_0 a0_1 a0_2 a0_3 a1_0 a1_1 a2 w HB t370 t371 t372 t373 A4 t374 t375 A5 t376 t377 t378 t379 t380 A6 t382 t383 t384 t385 A7 t386 t387 A8 t388 t389 t390 t391 t392 A9 A10 c12b0 c12b1 c13b0 c13b1 c14b0 c14b1 c14b2 c14b3 H
        · rw [if_neg c14] at H
          have c14b0 : (t392 != t380) = false := by simpa using c14
          (try (have c14b1 : decide (t392 = t380) = true := by simpa using c14))
          (try (have c14b2 : (t392 == t380) = true := by simpa using c14))
          clear c14
          obtain rfl := Option.some.inj H
          exact laws_FnExactTickSiphon.leaf1 k a0_0 a0_1 a0_2 a0_3 a1_0 a1_1 a2 w HB t370 t371 t372 t373 A4 t374 t375 A5 t376 t377 t378 t379 t380 A6 t382 t383 t384 t385 A7 t386 t387 A8 t388 t389 t390 t391 t392 A9 A10 c12b0 c12b1 c13b0 c13b1 c14b0 c14b1 c14b2 H
      · rw [if_neg c13] at H
        have c13b0 : (t391 == t379) = false := beq_eq_false_iff_ne.mpr c13
        have c13b1 : (t391 != t379) = true := bne_iff_ne.mpr c13
        obtain rfl := Option.some.inj H
        exact laws_FnExactTickSiphon.leaf2 k a0_0 a0_1 a0_2 a0_3 a1_0 a1_1 a2 w HB t370 t371 t372 t373 A4 t374 t375 A5 t376 t377 t378 t379 t380 A6 t382 t383 t384 t385 A7 t386 t387 A8 t388 t389 t390 t391 t392 A9 A10 c12b0 c12b1 c13 c13b0 c13b1 H
    · rw [if_neg c12] at H
      have c12b0 : (t390 == t378) = false := beq_eq_false_iff_ne.mpr c12
      have c12b1 : (t390 != t378) = true := bne_iff_ne.mpr c12
      obtain rfl := Option.some.inj H
      exact laws_FnExactTickSiphon.leaf3 k a0_0 a0_1 a0_2 a0_3 a1_0 a1_1 a2 w HB t370 t371 t372 t373 A4 t374 t375 A5 t376 t377 t378 t379 t380 A6 t382 t383 t384 t385 A7 t386 t387 A8 t388 t389 t390 t391 t392 A9 A10 c12 c12b0 c12b1 H
  · replace c11 := Bool.eq_false_iff.mpr c11
    subst c11
    have H1 : (some false) = some r := by rw [if_neg (show ¬ (false = true) by decide)] at H; exact H
    clear H
    have H := H1
    clear H1
    obtain rfl := Option.some.inj H
    exact laws_FnExactTickSiphon.leaf4 k a0_0 a0_1 a0_2 a0_3 a1_0 a1_1 a2 w HB t370 t371 t372 t373 A4 t374 t375 A5 t376 t377 t378 t379 t380 A6 t382 t383 t384 t385 A7 t386 t387 A8 t388 t389 t390 t391 t392 A9 A10 H
end Go.Proofs.Ytbpkfdclplcbaaa.Pr
