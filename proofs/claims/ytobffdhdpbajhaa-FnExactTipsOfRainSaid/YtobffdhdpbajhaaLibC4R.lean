/- What a gauge tips day by day and holds in the end, in plain lists, for lists of at most 1048576 numbers. -/
import Derived.Test.YtobffdhdpbajhaaLibA
import Derived.Test.YtobffdhdpbajhaaLibC4
import Derived.Test.YtobffdhdpbajhaaPr13
import Derived.Test.YtobffdhdpbajhaaPr15
namespace Go.Proofs.Ytobffdhdpbajhaa.Pure
open Go.RowKit Go.Proofs.Ytobffdhdpbajhaa.Pr Go.Proofs.YtobffdhdpbajhaaW.PrintWords Go.Proofs.YtobffdhdpbajhaaW.PrintLast
set_option linter.unusedVariables false
set_option linter.unusedSimpArgs false

def rain (a : Int) : Int → List Int → List Int × Int
  | h, [] => ([], h)
  | h, x :: xs => (wrap64 (Int.tdiv (wrap64 (h + x)) a) :: (rain a (Int.tmod (wrap64 (h + x)) a) xs).1, (rain a (Int.tmod (wrap64 (h + x)) a) xs).2)
theorem rain_length (a : Int) : ∀ (l : List Int) (h : Int), (rain a h l).1.length = l.length
  | [], _ => rfl
  | x :: xs, h => by simp only [rain, List.length_cons, rain_length a xs]
theorem tbTips_l0 (a : Int) (l : List Int) (hl : l.length ≤ 1048576) (ha : a ≠ 0) : ∀ (d k : Nat) (h : Int) (acc : List Int) (j : Nat), l.length - j = d → d < k → acc.length ≤ j →
    spec_tbTips.l0 k a acc h l (l.length : Int) (j : Int) = some (acc ++ (rain a h (l.drop j)).1, (rain a h (l.drop j)).2) := by
  intro d
  induction d with
  | zero =>
    intro k h acc j hd hk hc
    obtain ⟨k, rfl⟩ : ∃ m, k = m + 1 := ⟨k - 1, by omega⟩
    simp only [spec_tbTips.l0]
    rw [if_neg (by omega), drop_all l j (by omega)]
    simp [rain]
  | succ d ih =>
    intro k h acc j hd hk hc
    obtain ⟨k, rfl⟩ : ∃ m, k = m + 1 := ⟨k - 1, by omega⟩
    simp only [spec_tbTips.l0]
    rw [if_pos (by omega), if_pos (by omega), if_pos (by omega), if_neg ha, if_pos (by omega), w64 (i := (j : Int) + 1) (by omega) (by omega), drop_rd l j (by omega)]
    have := ih k (Int.tmod (wrap64 (h + rd l j)) a) (acc ++ [wrap64 (Int.tdiv (wrap64 (h + rd l j)) a)]) (j + 1) (by omega) (by omega) (by simp; omega)
    rw [show (j : Int) + 1 = ((j + 1 : Nat) : Int) by omega, this, rain]
    simp
theorem tbTips_ok (a : Int) (l : List Int) (k : Nat) (hl : l.length ≤ 1048576) (ha : a ≠ 0) (hk : 2000000 ≤ k) : spec_tbTips.f k a l = some (rain a 0 l) := by
  unfold spec_tbTips.f
  have := tbTips_l0 a l hl ha l.length k 0 [] 0 (by omega) (by omega) (by simp)
  simpa using this
theorem TipsOfRain_l0 (a : Int) (l : List Int) (hl : l.length ≤ 1048576) (ha : a ≠ 0) : ∀ (d k : Nat) (h : Int) (acc : List Int) (j : Nat), l.length - j = d → d < k → acc.length ≤ j →
    impl_TipsOfRain.l0 k a acc h l (l.length : Int) (j : Int) = some (acc ++ (rain a h (l.drop j)).1, true) := by
  intro d
  induction d with
  | zero =>
    intro k h acc j hd hk hc
    obtain ⟨k, rfl⟩ : ∃ m, k = m + 1 := ⟨k - 1, by omega⟩
    simp only [impl_TipsOfRain.l0]
    rw [if_neg (by omega), drop_all l j (by omega)]
    simp [rain]
  | succ d ih =>
    intro k h acc j hd hk hc
    obtain ⟨k, rfl⟩ : ∃ m, k = m + 1 := ⟨k - 1, by omega⟩
    simp only [impl_TipsOfRain.l0]
    rw [if_pos (by omega), if_pos (by omega), if_pos (by omega), if_neg ha, if_pos (by omega), w64 (i := (j : Int) + 1) (by omega) (by omega), drop_rd l j (by omega)]
    have := ih k (Int.tmod (wrap64 (h + rd l j)) a) (acc ++ [wrap64 (Int.tdiv (wrap64 (h + rd l j)) a)]) (j + 1) (by omega) (by omega) (by simp; omega)
    rw [show (j : Int) + 1 = ((j + 1 : Nat) : Int) by omega, this, rain]
    simp
theorem TipsOfRain_ok (a : Int) (l : List Int) (k : Nat) (hl : l.length ≤ 1048576) (hk : 2000000 ≤ k) : impl_TipsOfRain.f k a l = some (if gaugeB a l = true then ((rain a 0 l).1, true) else ([], false)) := by
  unfold impl_TipsOfRain.f
  rw [isGauge_ok a l hl, Option.bind_some]
  split
  · rename_i h
    have := TipsOfRain_l0 a l hl (by have := gaugeB_get h; omega) l.length k 0 [] 0 (by omega) (by omega) (by simp)
    simpa using this
  · rfl

end Go.Proofs.Ytobffdhdpbajhaa.Pure
