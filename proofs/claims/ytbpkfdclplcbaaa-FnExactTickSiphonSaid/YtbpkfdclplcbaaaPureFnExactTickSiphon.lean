/- The program's TickSiphon and the reference's tell the same. It holds for all inputs that the statement lets in. -/
import Derived.Test.YtbpkfdclplcbaaaLibS
import Derived.Test.YtbpkfdclplcbaaaLibSi
import Derived.Test.YtbpkfdclplcbaaaLibW
import Derived.Test.YtbpkfdclplcbaaaPr2
import Derived.Test.YtbpkfdclplcbaaaPr22
import Derived.Test.YtbpkfdclplcbaaaPr3
import Derived.Test.YtbpkfdclplcbaaaPr4
import Derived.Test.YtbpkfdclplcbaaaPr7
namespace Go.Proofs.Ytbpkfdclplcbaaa.Pure
open Go.RowKit Go.Proofs.Ytbpkfdclplcbaaa.Pr Go.Proofs.YtbpkfdclplcbaaaW.PrintWords Go.Proofs.YtbpkfdclplcbaaaW.PrintLast
set_option linter.unusedVariables false
set_option linter.unusedSimpArgs false

theorem eqLevel_refl (a : Int) (b : Bool) : laws_eqLevel.f a b a b = some true := by
  unfold laws_eqLevel.f
  simp
theorem TickSiphon_same (z lo st fl hd : Int) (r : Bool) (x : Int) (_w0 : (Lit.int .i64 z).wf = true) (_w1 : (Lit.int .i64 lo).wf = true) (_w2 : (Lit.int .i64 st).wf = true) (_w3 : (Lit.int .i64 fl).wf = true) (_w4 : (Lit.int .i64 hd).wf = true) (_w5 : (Lit.int .i64 x).wf = true) : ∃ R : Int × Bool × Int × Int × Bool, (∀ k, 4000000 ≤ k → spec_TickSiphon.f k z lo st fl hd r x = some R) ∧ impl_TickSiphon.f z lo st fl hd r x = some R := by
  by_cases hs : siphB z lo st fl = true
  · by_cases hh : inR 0 z hd = true
    · by_cases hx : inR 0 60 x = true
      · have hh' := (inR_iff _ _ _).1 hh
        have hx' := (inR_iff _ _ _).1 hx
        refine ⟨((tk z lo st fl hd r x).1, (tk z lo st fl hd r x).2.1, (tk z lo st fl hd r x).2.2.1, (tk z lo st fl hd r x).2.2.2, true), fun k hk => ?_, ?_⟩
        · unfold spec_TickSiphon.f spec_siLevel.f spec_siInflow.f
          simp only [siGood_ok, Option.bind_some, hs, if_true, l1In_okR, hh, hx]
          rw [siTick_ok k hs hh'.1 hh'.2 hx'.1 hx'.2 (by omega), Option.bind_some]
        · unfold impl_TickSiphon.f impl_isLevel.f impl_IsSiphonLevel.f impl_isInflow.f
          simp only [IsSiphon_ok, Option.bind_some, hs, if_true, within_okR, hh, hx]
          rw [Siphon_tick_ok hs hh'.1 hh'.2 hx'.1 hx'.2, Option.bind_some]
      · have hx2 : inR 0 60 x = false := by simpa using hx
        refine ⟨(0, false, 0, 0, false), fun k hk => ?_, ?_⟩
        · unfold spec_TickSiphon.f spec_siLevel.f spec_siInflow.f
          simp only [siGood_ok, Option.bind_some, hs, if_true, l1In_okR, hh, hx2, Bool.false_eq_true, if_false]
        · unfold impl_TickSiphon.f impl_isLevel.f impl_IsSiphonLevel.f impl_isInflow.f
          simp only [IsSiphon_ok, Option.bind_some, hs, if_true, within_okR, hh, hx2, Bool.false_eq_true, if_false]
    · have hh2 : inR 0 z hd = false := by simpa using hh
      refine ⟨(0, false, 0, 0, false), fun k hk => ?_, ?_⟩
      · unfold spec_TickSiphon.f spec_siLevel.f
        simp only [siGood_ok, Option.bind_some, hs, if_true, l1In_okR, hh2, Bool.false_eq_true, if_false]
      · unfold impl_TickSiphon.f impl_isLevel.f impl_IsSiphonLevel.f
        simp only [IsSiphon_ok, Option.bind_some, hs, if_true, within_okR, hh2, Bool.false_eq_true, if_false]
  · have hs2 : siphB z lo st fl = false := by simpa using hs
    refine ⟨(0, false, 0, 0, false), fun k hk => ?_, ?_⟩
    · unfold spec_TickSiphon.f spec_siLevel.f
      simp only [siGood_ok, Option.bind_some, hs2, Bool.false_eq_true, if_false]
    · unfold impl_TickSiphon.f impl_isLevel.f impl_IsSiphonLevel.f
      simp only [IsSiphon_ok, Option.bind_some, hs2, Bool.false_eq_true, if_false]

theorem FnExactTickSiphon : ∀ (a0_0 : Int) (a0_1 : Int) (a0_2 : Int) (a0_3 : Int) (a1_0 : Int) (a1_1 : Bool) (a2 : Int), (Lit.int .i64 a0_0).wf = true → (Lit.int .i64 a0_1).wf = true → (Lit.int .i64 a0_2).wf = true → (Lit.int .i64 a0_3).wf = true → (Lit.int .i64 a1_0).wf = true → (Lit.int .i64 a2).wf = true → ∃ k, laws_FnExactTickSiphon.f k a0_0 a0_1 a0_2 a0_3 a1_0 a1_1 a2 = some true := by
  intro a0_0 a0_1 a0_2 a0_3 a1_0 a1_1 a2 w0 w1 w2 w3 w4 w5
  obtain ⟨R, hs, hi⟩ := TickSiphon_same a0_0 a0_1 a0_2 a0_3 a1_0 a1_1 a2 w0 w1 w2 w3 w4 w5
  obtain ⟨K, hK⟩ : ∃ K, K = 10000000000000 := ⟨_, rfl⟩
  refine ⟨K + 9, ?_⟩
  simp (disch := omega) only [laws_FnExactTickSiphon.f, hs, hi, laws_toSiphon.f, laws_toLevel.f, eqLevel_refl, Option.bind_some, bne_self_eq_false, Bool.false_eq_true, eq_self, if_true, if_false]

end Go.Proofs.Ytbpkfdclplcbaaa.Pure
