/- The program's AreCaps and the reference's tell the same, argument and all. It holds for all inputs that the statement lets in. -/
import Derived.Test.YtobffdhdpbajhaaLibA
import Derived.Test.YtobffdhdpbajhaaLibC4
import Derived.Test.YtobffdhdpbajhaaPr17
import Derived.Test.YtobffdhdpbajhaaPr2
namespace Go.Proofs.Ytobffdhdpbajhaa.Pure
open Go.RowKit Go.Proofs.Ytobffdhdpbajhaa.Pr Go.Proofs.YtobffdhdpbajhaaW.PrintWords Go.Proofs.YtobffdhdpbajhaaW.PrintLast
set_option linter.unusedVariables false
set_option linter.unusedSimpArgs false

theorem AreCaps_same (l : List Int) (hl : l.length ≤ 1048576) : ∃ R : Bool, (∀ k, 2000000 ≤ k → spec_AreCaps.f k l = some R) ∧ impl_AreCaps.f l = some R := by
  refine ⟨capsB l, fun k hk => ?_, AreCaps_ok l hl⟩
  unfold spec_AreCaps.f
  rw [tbCaps_ok l k hl hk, Option.bind_some]

theorem FnExactAreCaps : laws_FnExactAreCaps.Pure := by
  intro l0 w0 w1 w2
  by_cases big_l0 : (l0.length : Int) > 1048576
  · refine ⟨0, ?_⟩
    unfold laws_FnExactAreCaps.f
    rw [if_pos big_l0]
  have len_l0 : l0.length ≤ 1048576 := by omega
  obtain ⟨R, hs, hi⟩ := AreCaps_same l0 len_l0
  obtain ⟨K, hK⟩ : ∃ K, K = 4000000 := ⟨_, rfl⟩
  refine ⟨K + 9, ?_⟩
  simp (disch := omega) only [laws_FnExactAreCaps.f, if_neg big_l0, hs, hi, toIntS_ok, eqIntS_ok, Option.bind_some, bne_self_eq_false, Bool.false_eq_true, eq_self, if_true, if_false]

end Go.Proofs.Ytobffdhdpbajhaa.Pure
