/- The program's RoomIn and the reference's tell the same, and the arguments are left. It holds for all inputs that the statement lets in. -/
import Derived.Test.YtjebielaficopaaLibA
import Derived.Test.YtjebielaficopaaLibV
import Derived.Test.YtjebielaficopaaLibW
import Derived.Test.YtjebielaficopaaPr11
import Derived.Test.YtjebielaficopaaPr2
import Derived.Test.YtjebielaficopaaPr4
namespace Go.Proofs.Ytjebielaficopaa.Pure
open Go.RowKit Go.Proofs.Ytjebielaficopaa.Pr Go.Proofs.YtjebielaficopaaW.PrintWords Go.Proofs.YtjebielaficopaaW.PrintLast
set_option linter.unusedVariables false
set_option linter.unusedSimpArgs false

theorem RoomIn_same (s h : List Int) (i : Int) (_w0 : s.length ≤ maxLen) (_w1 : ∀ x ∈ s, (Lit.int .i64 x).wf = true) (_w2 : h.length ≤ maxLen) (_w3 : ∀ x ∈ h, (Lit.int .i64 x).wf = true) (_w4 : (Lit.int .i64 i).wf = true) (hs : s.length ≤ 1048576) (hh : h.length ≤ 1048576) : ∃ R : Int × Bool, (∀ k, 4000000 ≤ k → spec_RoomIn.f k s h i = some R) ∧ (∀ k, 4000000 ≤ k → impl_RoomIn.f k s h i = some R) := by
  by_cases hv : vesB s h = true
  · obtain ⟨v1, v2, v3, v4, v5⟩ := vesB_get hv
    by_cases hi : inB 0 ((s.length : Int) - 1) i = true
    · have hi' := (inB_iff _ _ _).mp hi
      refine ⟨(wrap64 (rd s i - rd h i), true), fun k hk => ?_, fun k hk => ?_⟩
      · unfold spec_RoomIn.f spec_veOne.f
        rw [veGood_ok s h k hs hh hk, Option.bind_some, if_pos hv, w64 (i := (s.length : Int) - 1) (by omega) (by omega), l1In_ok, hi, Option.bind_some, Option.bind_some, if_pos rfl, if_pos (by omega), if_pos (by omega), if_pos (by omega)]
      · unfold impl_RoomIn.f impl_isVessel.f impl_Vessels_room.f
        rw [AreVessels_ok s h k hs hh hk, Option.bind_some, if_pos hv, w64 (i := (s.length : Int) - 1) (by omega) (by omega), within_ok, hi, Option.bind_some, Option.bind_some, if_pos rfl, if_pos (by omega), if_pos (by omega), if_pos (by omega), Option.bind_some]
    · refine ⟨(0, false), fun k hk => ?_, fun k hk => ?_⟩
      · unfold spec_RoomIn.f spec_veOne.f
        rw [veGood_ok s h k hs hh hk, Option.bind_some, if_pos hv, w64 (i := (s.length : Int) - 1) (by omega) (by omega), l1In_ok, Bool.eq_false_iff.mpr hi, Option.bind_some, Option.bind_some, if_neg (by simp)]
      · unfold impl_RoomIn.f impl_isVessel.f
        rw [AreVessels_ok s h k hs hh hk, Option.bind_some, if_pos hv, w64 (i := (s.length : Int) - 1) (by omega) (by omega), within_ok, Bool.eq_false_iff.mpr hi, Option.bind_some, Option.bind_some, if_neg (by simp)]
  · refine ⟨(0, false), fun k hk => ?_, fun k hk => ?_⟩
    · unfold spec_RoomIn.f spec_veOne.f
      rw [veGood_ok s h k hs hh hk, Option.bind_some, if_neg hv, Option.bind_some, if_neg (by simp)]
    · unfold impl_RoomIn.f impl_isVessel.f
      rw [AreVessels_ok s h k hs hh hk, Option.bind_some, if_neg hv, Option.bind_some, if_neg (by simp)]

theorem FnExactRoomIn : ∀ (l0_0 : List Int) (l0_1 : List Int) (a1 : Int), l0_0.length ≤ maxLen → (∀ x ∈ l0_0, (Lit.int .i64 x).wf = true) → l0_1.length ≤ maxLen → (∀ x ∈ l0_1, (Lit.int .i64 x).wf = true) → (Lit.int .i64 a1).wf = true → ∃ k, laws_FnExactRoomIn.f k l0_0 l0_1 a1 = some true := by
  intro l0_0 l0_1 a1 w0 w1 w2 w3 w4
  have sz := szV l0_0 l0_1 w0 w2
  by_cases big : l0_0.length + l0_1.length ≤ 1048576
  case neg =>
    rw [if_neg big] at sz
    refine ⟨0, ?_⟩
    unfold laws_FnExactRoomIn.f
    rw [sz, Option.bind_some, if_pos (by omega)]
  rw [if_pos big] at sz
  have lt : ((1048576 : Int) - (l0_0.length : Int) - (l0_1.length : Int) < 0) = False := eq_false (by omega)
  obtain ⟨R, hs, hi⟩ := RoomIn_same l0_0 l0_1 a1 w0 w1 w2 w3 w4 (by omega) (by omega)
  obtain ⟨K, hK⟩ : ∃ K, K = 10000000000000 := ⟨_, rfl⟩
  refine ⟨K + 9, ?_⟩
  simp (disch := omega) only [laws_FnExactRoomIn.f, hs, hi, sz, lt, toV_ok, eqV_ok, Option.bind_some, bne_self_eq_false, Bool.false_eq_true, eq_self, if_true, if_false]
  simp (disch := omega) only [laws_FnExactRoomIn.j0, hs, hi, sz, lt, toV_ok, eqV_ok, Option.bind_some, bne_self_eq_false, Bool.false_eq_true, eq_self, if_true, if_false]

end Go.Proofs.Ytjebielaficopaa.Pure
