/- The program's IsSiphonLevel and the reference's tell the same. It holds for all inputs that the statement lets in. -/
import Derived.Test.YtbpkfdclplcbaaaLibS
import Derived.Test.YtbpkfdclplcbaaaLibW
import Derived.Test.YtbpkfdclplcbaaaPr13
import Derived.Test.YtbpkfdclplcbaaaPr14
import Derived.Test.YtbpkfdclplcbaaaPr2
import Derived.Test.YtbpkfdclplcbaaaPr7
namespace Go.Proofs.Ytbpkfdclplcbaaa.Pure
open Go.RowKit Go.Proofs.Ytbpkfdclplcbaaa.Pr Go.Proofs.YtbpkfdclplcbaaaW.PrintWords Go.Proofs.YtbpkfdclplcbaaaW.PrintLast
set_option linter.unusedVariables false
set_option linter.unusedSimpArgs false

theorem IsSiphonLevel_same (z lo st fl hd : Int) (r : Bool) (_w0 : (Lit.int .i64 z).wf = true) (_w1 : (Lit.int .i64 lo).wf = true) (_w2 : (Lit.int .i64 st).wf = true) (_w3 : (Lit.int .i64 fl).wf = true) (_w4 : (Lit.int .i64 hd).wf = true) : ∃ R : Bool × Bool, spec_IsSiphonLevel.f z lo st fl hd r = some R ∧ impl_IsSiphonLevel.f z lo st fl hd r = some R := by
  refine ⟨if siphB z lo st fl = true then (inR 0 z hd, true) else (false, false), ?_, ?_⟩
  · unfold spec_IsSiphonLevel.f spec_siLevel.f
    rw [siGood_ok, Option.bind_some]
    split
    · rename_i h
      rw [Option.bind_some, if_pos h, l1In_okR, Option.bind_some, Option.bind_some]
    · rfl
  · unfold impl_IsSiphonLevel.f
    rw [IsSiphon_ok, Option.bind_some]
    split
    · rw [within_okR, Option.bind_some]
    · rfl

theorem FnExactIsSiphonLevel : ∀ (a0_0 : Int) (a0_1 : Int) (a0_2 : Int) (a0_3 : Int) (a1_0 : Int) (a1_1 : Bool), (Lit.int .i64 a0_0).wf = true → (Lit.int .i64 a0_1).wf = true → (Lit.int .i64 a0_2).wf = true → (Lit.int .i64 a0_3).wf = true → (Lit.int .i64 a1_0).wf = true → laws_FnExactIsSiphonLevel.f a0_0 a0_1 a0_2 a0_3 a1_0 a1_1 = some true := by
  intro a0_0 a0_1 a0_2 a0_3 a1_0 a1_1 w0 w1 w2 w3 w4
  obtain ⟨R, hs, hi⟩ := IsSiphonLevel_same a0_0 a0_1 a0_2 a0_3 a1_0 a1_1 w0 w1 w2 w3 w4
  simp (disch := omega) only [laws_FnExactIsSiphonLevel.f, hs, hi, laws_toSiphon.f, laws_toLevel.f, Option.bind_some, bne_self_eq_false, Bool.false_eq_true, eq_self, if_true, if_false]

end Go.Proofs.Ytbpkfdclplcbaaa.Pure
