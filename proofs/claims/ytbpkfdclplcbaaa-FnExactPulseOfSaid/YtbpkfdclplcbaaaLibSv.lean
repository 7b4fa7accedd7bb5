/- What runs out, and what is spilt, from the met level until it comes again: the reference's way. -/
import Derived.Test.YtbpkfdclplcbaaaLibS
import Derived.Test.YtbpkfdclplcbaaaLibSi
import Derived.Test.YtbpkfdclplcbaaaLibSt
import Derived.Test.YtbpkfdclplcbaaaLibW
import Derived.Test.YtbpkfdclplcbaaaPr9
namespace Go.Proofs.Ytbpkfdclplcbaaa.Pure
open Go.RowKit Go.Proofs.Ytbpkfdclplcbaaa.Pr Go.Proofs.YtbpkfdclplcbaaaW.PrintWords Go.Proofs.YtbpkfdclplcbaaaW.PrintLast
set_option linter.unusedVariables false
set_option linter.unusedSimpArgs false

/-- What is spilt in j ticks behind n. -/
def smS (z lo st fl x : Int) (n : Nat) : Nat → Int
  | 0 => 0
  | j + 1 => smS z lo st fl x n j + lvs z lo st fl x (n + j)
def puO (z lo st fl x : Int) (n j : Nat) : List Int := (List.range j).map (fun i : Nat => lvo z lo st fl x (n + i))
theorem puO_succ (z lo st fl x : Int) (n j : Nat) : puO z lo st fl x n (j + 1) = puO z lo st fl x n j ++ [lvo z lo st fl x (n + j)] := by simp [puO, List.range_succ]
theorem smS_bd {z lo st fl x : Int} (hs : siphB z lo st fl = true) (x0 : 0 ≤ x) (x1 : x ≤ 60) (n : Nat) : ∀ j, 0 ≤ smS z lo st fl x n j ∧ smS z lo st fl x n j ≤ 120 * (j : Int)
  | 0 => by simp [smS]
  | j + 1 => by
    obtain ⟨b0, b1⟩ := lvl_bd hs x0 x1 (n + j)
    have t := tk_bd (r := (lvl z lo st fl x (n + j)).f1) hs b0 b1 x0 x1
    have := smS_bd hs x0 x1 n j
    have e : lvs z lo st fl x (n + j) = (tk z lo st fl (lvl z lo st fl x (n + j)).f0 (lvl z lo st fl x (n + j)).f1 x).2.2.2 := rfl
    unfold smS
    omega
theorem siPulse_l0 {z lo st fl x : Int} (hs : siphB z lo st fl = true) (x0 : 0 ≤ x) (x1 : x ≤ 60) (n p : Nat) (hp : p ≤ 1000) : ∀ (d k j : Nat), j + d = p → d + 20 ≤ k →
    spec_siPulse.l0 k x (p : Int) (puO z lo st fl x n j) (smS z lo st fl x n j) (j : Int) z lo st fl (lvl z lo st fl x (n + j)).f0 (lvl z lo st fl x (n + j)).f1 = some (puO z lo st fl x n p, smS z lo st fl x n p) := by
  intro d
  induction d with
  | zero =>
    intro k j hj hk
    obtain ⟨k, rfl⟩ : ∃ m, k = m + 1 := ⟨k - 1, by omega⟩
    obtain rfl : j = p := by omega
    simp only [spec_siPulse.l0]
    rw [if_neg (by omega)]
  | succ d ih =>
    intro k j hj hk
    obtain ⟨k, rfl⟩ : ∃ m, k = m + 1 := ⟨k - 1, by omega⟩
    obtain ⟨b0, b1⟩ := lvl_bd hs x0 x1 (n + j)
    have hi := ih k (j + 1) (by omega) (by omega)
    have hl : (puO z lo st fl x n j).length = j := by simp [puO]
    have s1 := smS_bd hs x0 x1 n (j + 1)
    have es : smS z lo st fl x n j + (tk z lo st fl (lvl z lo st fl x (n + j)).f0 (lvl z lo st fl x (n + j)).f1 x).2.2.2 = smS z lo st fl x n (j + 1) := rfl
    simp only [spec_siPulse.l0]
    rw [if_pos (by omega), siTick_ok k hs b0 b1 x0 x1 (by omega), Option.bind_some, if_pos (by omega), es, w64 (i := smS z lo st fl x n (j + 1)) (by omega) (by omega), w64 (i := (j : Int) + 1) (by omega) (by omega)]
    rw [puO_succ] at hi
    exact hi
theorem siPulse_ok {z lo st fl x : Int} {k0 n0 : Nat} (hs : siphB z lo st fl = true) (x0 : 0 ≤ x) (x1 : x ≤ 60) (M : Meet z lo st fl x k0 n0) (k : Nat) (hk : 30000 ≤ k) :
    spec_siPulse.f k z lo st fl x = some (puO z lo st fl x n0 (n0 - k0), smS z lo st fl x n0 (n0 - k0)) := by
  have := M.le
  have := M.lt
  unfold spec_siPulse.f
  rw [siMeet_ok hs x0 x1 M k hk, Option.bind_some]
  have h := siPulse_l0 hs x0 x1 n0 (n0 - k0) (by omega) (n0 - k0) k 0 (by omega) (by omega)
  rw [show ((n0 - k0 : Nat) : Int) = (n0 : Int) - (k0 : Int) by omega] at h
  exact h
/-- The same, from where the level was first. -/
theorem puO_drop {z lo st fl x : Int} {k0 n0 : Nat} (M : Meet z lo st fl x k0 n0) : puO z lo st fl x n0 (n0 - k0) = ((List.range n0).map (lvo z lo st fl x)).drop k0 := by
  have hlt := M.lt
  obtain ⟨p, rfl⟩ : ∃ p, n0 = k0 + p := ⟨n0 - k0, by omega⟩
  rw [show k0 + p - k0 = p by omega, List.range_add, List.map_append, List.drop_append_of_le_length (by simp), List.drop_of_length_le (by simp), List.nil_append]
  unfold puO
  rw [List.map_map]
  apply List.map_congr_left
  intro i _
  show lvo z lo st fl x (k0 + p + i) = lvo z lo st fl x (k0 + i)
  unfold lvo
  rw [lvl_shift M.eq i]

end Go.Proofs.Ytbpkfdclplcbaaa.Pure
