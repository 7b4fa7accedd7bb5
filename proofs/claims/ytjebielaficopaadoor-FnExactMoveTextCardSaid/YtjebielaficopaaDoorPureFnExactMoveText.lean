/- The program's MoveText and the reference's tell the same. It holds for all inputs. -/
import Derived.Test.YtjebielaficopaaDoorLibDo
import Derived.Test.YtjebielaficopaaDoorLibV
import Derived.Test.YtjebielaficopaaDoorPr4
namespace Go.Proofs.YtjebielaficopaaDoor.Pure
open Go.RowKit Go.Proofs.YtjebielaficopaaDoor.Pr Go.Proofs.YtjebielaficopaaDoorW.PrintWords Go.Proofs.YtjebielaficopaaDoorW.PrintLast
set_option linter.unusedVariables false
set_option linter.unusedSimpArgs false

theorem MoveText_same (a b : Int) (_w0 : (Lit.int .i64 a).wf = true) (_w1 : (Lit.int .i64 b).wf = true) : ∃ R : ByteArray × Bool, (∀ k, 2 ≤ k → spec_MoveText.f k a b = some R) ∧ (impl_MoveText.f a b = some R) := by
  by_cases hm : moveB 5 a b = true
  · obtain ⟨m1, m2, m3, m4, m5⟩ := moveB_get hm
    obtain ⟨f1, f2⟩ := MT_fit a b (by omega) (by omega)
    refine ⟨(MT a b, true), fun k hk => ?_, ?_⟩
    · unfold spec_MoveText.f
      rw [veMove_ok 5 a b (by omega) (by omega), Option.bind_some, if_pos hm, end_ok a _ k (by omega) hk, Option.bind_some, if_pos f1, end_ok b _ k (by omega) hk, Option.bind_some, if_pos f2]
      rfl
    · unfold impl_MoveText.f
      rw [isMove_ok 5 a b (by omega) (by omega), Option.bind_some, if_pos hm, implText_ok a b (by omega) (by omega), Option.bind_some]
  · refine ⟨(⟨#[]⟩, false), fun k hk => ?_, ?_⟩
    · unfold spec_MoveText.f
      rw [veMove_ok 5 a b (by omega) (by omega), Option.bind_some, if_neg hm]
    · unfold impl_MoveText.f
      rw [isMove_ok 5 a b (by omega) (by omega), Option.bind_some, if_neg hm]

theorem FnExactMoveText : ∀ (a0_0 : Int) (a0_1 : Int), (Lit.int .i64 a0_0).wf = true → (Lit.int .i64 a0_1).wf = true → ∃ k, laws_FnExactMoveText.f k a0_0 a0_1 = some true := by
  intro a0_0 a0_1 w0 w1
  obtain ⟨R, hs, hi⟩ := MoveText_same a0_0 a0_1 w0 w1
  obtain ⟨K, hK⟩ : ∃ K, K = 10000000000000 := ⟨_, rfl⟩
  refine ⟨K + 9, ?_⟩
  simp (disch := omega) only [laws_FnExactMoveText.f, hs, hi, laws_toMove.f, Option.bind_some, bne_self_eq_false, Bool.false_eq_true, eq_self, if_true, if_false]

end Go.Proofs.YtjebielaficopaaDoor.Pure
