/- The program's ParseMove and the reference's tell the same. It holds for all inputs. -/
import Derived.Test.YtjebielaficopaaDoorLibA
import Derived.Test.YtjebielaficopaaDoorLibDo
import Derived.Test.YtjebielaficopaaDoorLibV
import Derived.Test.YtjebielaficopaaDoorLibW
import Derived.Test.YtjebielaficopaaDoorPr5
namespace Go.Proofs.YtjebielaficopaaDoor.Pure
open Go.RowKit Go.Proofs.YtjebielaficopaaDoor.Pr Go.Proofs.YtjebielaficopaaDoorW.PrintWords Go.Proofs.YtjebielaficopaaDoorW.PrintLast
set_option linter.unusedVariables false
set_option linter.unusedSimpArgs false

/-- Looks through d ends from b on. -/
def pm1 (x : ByteArray) (a b : Int) : Nat → Option (Int × Int × Bool)
  | 0 => none
  | d + 1 => if a ≠ b ∧ (MT a b).toList = x.toList then some (a, b, true) else pm1 x a (b + 1) d
def pm0 (x : ByteArray) (a : Int) : Nat → Int × Int × Bool
  | 0 => (0, 0, false)
  | e + 1 => match pm1 x a (-1) 6 with
    | some r => r
    | none => pm0 x (a + 1) e
theorem move5 (a b : Int) (h1 : -1 ≤ a) (h2 : a < 5) (h3 : -1 ≤ b) (h4 : b < 5) : moveB 5 a b = true ↔ a ≠ b := by
  unfold moveB
  rw [Bool.and_eq_true, Bool.and_eq_true, inB_iff, inB_iff, bne_iff_ne]
  constructor
  · intro h; exact h.2.2
  · intro h; exact ⟨by omega, by omega, h⟩
theorem spec_l1 (x : ByteArray) (a : Int) (h1 : -1 ≤ a) (h2 : a < 5) : ∀ (d m : Nat) (b : Int), b + (d : Int) = 5 → -1 ≤ b → 2 ≤ m → spec_ParseMove.l1 (m + d + 1) x a b = match pm1 x a b d with | some r => some r | none => spec_ParseMove.l0 m x (a + 1) := by
  intro d
  induction d with
  | zero =>
    intro m b hb hb0 hm
    simp only [spec_ParseMove.l1, pm1]
    rw [if_neg (by omega), w64 (by omega) (by omega)]
  | succ d ih =>
    intro m b hb hb0 hm
    obtain ⟨f1, f2⟩ := MT_fit a b (by omega) (by omega)
    have hi := ih m (b + 1) (by omega) (by omega) hm
    rw [show m + (d + 1) + 1 = (m + d + 1) + 1 from rfl]
    obtain ⟨K, hK⟩ : ∃ K, m + d + 1 = K := ⟨_, rfl⟩
    rw [hK] at hi ⊢
    simp only [spec_ParseMove.l1, pm1]
    rw [if_pos (by omega), veMove_ok 5 a b (by omega) (by omega), Option.bind_some, w64 (by omega) (by omega)]
    by_cases hab : a = b
    · rw [if_neg (by rw [move5 a b h1 h2 hb0 (by omega)]; exact fun h => h hab), if_neg (fun h => h.1 hab)]
      exact hi
    · rw [if_pos ((move5 a b h1 h2 hb0 (by omega)).2 hab), end_ok a _ _ (by omega) (by omega), Option.bind_some, if_pos f1, end_ok b _ _ (by omega) (by omega), Option.bind_some, if_pos f2]
      show (if (MT a b).toList = x.toList then _ else _) = _
      by_cases ht : (MT a b).toList = x.toList
      · rw [if_pos ht, if_pos ⟨hab, ht⟩]
      · rw [if_neg ht, if_neg (fun h => ht h.2)]
        exact hi
theorem impl_l1 (x : ByteArray) (a : Int) (h1 : -1 ≤ a) (h2 : a < 5) : ∀ (d m : Nat) (b : Int), b + (d : Int) = 5 → -1 ≤ b → 2 ≤ m → impl_ParseMove.l1 (m + d + 1) x a b = match pm1 x a b d with | some r => some r | none => impl_ParseMove.l0 m x (a + 1) := by
  intro d
  induction d with
  | zero =>
    intro m b hb hb0 hm
    simp only [impl_ParseMove.l1, pm1]
    rw [if_neg (by omega), w64 (by omega) (by omega)]
  | succ d ih =>
    intro m b hb hb0 hm
    have hi := ih m (b + 1) (by omega) (by omega) hm
    rw [show m + (d + 1) + 1 = (m + d + 1) + 1 from rfl]
    obtain ⟨K, hK⟩ : ∃ K, m + d + 1 = K := ⟨_, rfl⟩
    rw [hK] at hi ⊢
    simp only [impl_ParseMove.l1, pm1]
    rw [if_pos (by omega), w64 (by omega) (by omega)]
    by_cases hab : a = b
    · rw [if_pos hab, if_neg (fun h => h.1 hab)]
      exact hi
    · rw [if_neg hab, implText_ok a b (by omega) (by omega), Option.bind_some]
      by_cases ht : (MT a b).toList = x.toList
      · rw [if_pos ht, if_pos ⟨hab, ht⟩]
      · rw [if_neg ht, if_neg (fun h => ht h.2)]
        exact hi
theorem spec_l0 (x : ByteArray) : ∀ (e k : Nat) (a : Int), a + (e : Int) = 5 → -1 ≤ a → 8 * e + 4 ≤ k → spec_ParseMove.l0 k x a = some (pm0 x a e) := by
  intro e
  induction e with
  | zero =>
    intro k a ha ha0 hk
    obtain ⟨k, rfl⟩ : ∃ m, k = m + 1 := ⟨k - 1, by omega⟩
    simp only [spec_ParseMove.l0, pm0]
    rw [if_neg (by omega)]
  | succ e ih =>
    intro k a ha ha0 hk
    obtain ⟨k, rfl⟩ : ∃ m, k = (m + 6 + 1) + 1 := ⟨k - 8, by omega⟩
    simp only [spec_ParseMove.l0, pm0]
    rw [if_pos (by omega), spec_l1 x a ha0 (by omega) 6 k (-1) (by omega) (by omega) (by omega)]
    cases pm1 x a (-1) 6 with
    | some r => rfl
    | none => exact ih k (a + 1) (by omega) (by omega) (by omega)
theorem impl_l0 (x : ByteArray) : ∀ (e k : Nat) (a : Int), a + (e : Int) = 5 → -1 ≤ a → 8 * e + 4 ≤ k → impl_ParseMove.l0 k x a = some (pm0 x a e) := by
  intro e
  induction e with
  | zero =>
    intro k a ha ha0 hk
    obtain ⟨k, rfl⟩ : ∃ m, k = m + 1 := ⟨k - 1, by omega⟩
    simp only [impl_ParseMove.l0, pm0]
    rw [if_neg (by omega)]
  | succ e ih =>
    intro k a ha ha0 hk
    obtain ⟨k, rfl⟩ : ∃ m, k = (m + 6 + 1) + 1 := ⟨k - 8, by omega⟩
    simp only [impl_ParseMove.l0, pm0]
    rw [if_pos (by omega), impl_l1 x a ha0 (by omega) 6 k (-1) (by omega) (by omega) (by omega)]
    cases pm1 x a (-1) 6 with
    | some r => rfl
    | none => exact ih k (a + 1) (by omega) (by omega) (by omega)
theorem ParseMove_same (x : ByteArray) (_w0 : x.size ≤ 9223372036854775807) : ∃ R : Int × Int × Bool, (∀ k, 100 ≤ k → spec_ParseMove.f k x = some R) ∧ (∀ k, 100 ≤ k → impl_ParseMove.f k x = some R) := by
  exact ⟨pm0 x (-1) 6, fun k hk => spec_l0 x 6 k (-1) (by omega) (by omega) (by omega), fun k hk => impl_l0 x 6 k (-1) (by omega) (by omega) (by omega)⟩

theorem FnExactParseMove : ∀ (a0 : ByteArray), a0.size ≤ 9223372036854775807 → ∃ k, laws_FnExactParseMove.f k a0 = some true := by
  intro a0 w0
  by_cases big : (a0.size : Int) > 1048576
  case pos =>
    refine ⟨0, ?_⟩
    unfold laws_FnExactParseMove.f
    rw [if_pos big]
  obtain ⟨R, hs, hi⟩ := ParseMove_same a0 w0
  obtain ⟨K, hK⟩ : ∃ K, K = 10000000000000 := ⟨_, rfl⟩
  refine ⟨K + 9, ?_⟩
  simp (disch := omega) only [laws_FnExactParseMove.f, hs, hi, big, laws_eqMove.f, Option.bind_some, bne_self_eq_false, Bool.false_eq_true, eq_self, if_true, if_false]

end Go.Proofs.YtjebielaficopaaDoor.Pure
