/- Numerals of at most two digits, and the ends of a move. -/
import Derived.Test.YtjebielaficopaaDoorPr1
import Derived.Test.YtjebielaficopaaDoorPr2
namespace Go.Proofs.YtjebielaficopaaDoor.Pure
open Go.RowKit Go.Proofs.YtjebielaficopaaDoor.Pr Go.Proofs.YtjebielaficopaaDoorW.PrintWords Go.Proofs.YtjebielaficopaaDoorW.PrintLast
set_option linter.unusedVariables false
set_option linter.unusedSimpArgs false

def dg (n : Nat) : List UInt8 := if n < 10 then [UInt8.ofNat (48 + n)] else [UInt8.ofNat (48 + n / 10), UInt8.ofNat (48 + n % 10)]
theorem dg_ok (n : Nat) (h : n < 100) : Go.Lib.decDigits n = dg n := by
  unfold dg
  rw [Go.Lib.decDigits]
  by_cases h1 : n < 10
  · rw [dif_pos h1, if_pos h1]
  · rw [dif_neg h1, if_neg h1, Go.Lib.decDigits, dif_pos (by omega)]
    rfl
theorem num_tab : ∀ n : Fin 100, (spec_l1Num.f 2 ((n.val : Nat) : Int)).map (fun b => b.data.toList) = some (dg n.val) := by decide +kernel
/-- The numeral of n. -/
def D (n : Int) : ByteArray := ⟨(Go.Lib.decDigits n.toNat).toArray⟩
theorem num_two (n : Int) (h0 : 0 ≤ n) (h1 : n < 100) : spec_l1Num.f 2 n = some (D n) := by
  obtain ⟨m, rfl⟩ := Int.eq_ofNat_of_zero_le h0
  have hm : m < 100 := by omega
  have t := num_tab ⟨m, hm⟩
  cases e : spec_l1Num.f 2 (m : Int) with
  | none => rw [e] at t; cases t
  | some b =>
    rw [e] at t
    have t' : b.data.toList = dg m := by simpa using t
    congr 1
    unfold D
    rw [show ((m : Int)).toNat = m from by omega, dg_ok m hm, ← t']
theorem num_ok (n : Int) (h0 : 0 ≤ n) (h1 : n < 100) : ∀ (k : Nat), 2 ≤ k → spec_l1Num.f k n = some (D n) := by
  intro k hk
  induction k with
  | zero => omega
  | succ k ih =>
    by_cases h : k = 1
    · subst h; exact num_two n h0 h1
    · exact spec_l1Num.mono n k _ (ih (by omega))
theorem itoa_ok (n : Int) (h0 : 0 ≤ n) (h1 : n < 100) : strconv_Itoa.f n = some (D n) := by
  unfold strconv_Itoa.f D
  rw [if_pos h0, if_pos h1]
theorem D_size (n : Int) (h0 : 0 ≤ n) (h1 : n < 100) : (D n).size ≤ 2 := by
  unfold D
  rw [dg_ok _ (by omega)]
  unfold dg
  split <;> simp [ByteArray.size]
/-- An end of a move: the vessel's number, or the word for what lies outside. -/
def E (x : Int) (o : ByteArray) : ByteArray := if x < 0 then o else D x
theorem end_ok (x : Int) (o : ByteArray) (k : Nat) (h1 : x < 100) (hk : 2 ≤ k) : spec_veEnd.f k x o = some (E x o) := by
  unfold spec_veEnd.f E
  by_cases h : x < 0
  · rw [if_pos h, if_pos h]
  · rw [if_neg h, if_neg h, num_ok x (by omega) h1 k hk, Option.bind_some]
theorem txt_ok (x : Int) (o : ByteArray) (h1 : x < 100) : impl_Move_text_1.f x o = some (E x o) := by
  unfold impl_Move_text_1.f E
  by_cases h : x < 0
  · rw [if_pos h, if_pos h]
  · rw [if_neg h, if_neg h, itoa_ok x (by omega) h1, Option.bind_some]
theorem E_size (x : Int) (o : ByteArray) (h1 : x < 100) (ho : o.size ≤ 2) : (E x o).size ≤ 2 := by
  unfold E
  split
  · exact ho
  · exact D_size x (by omega) h1
/-- A move's text. -/
def MT (a b : Int) : ByteArray := (E a ⟨#[116]⟩ ++ ⟨#[62]⟩) ++ E b ⟨#[100]⟩
theorem MT_fit (a b : Int) (ha : a < 100) (hb : b < 100) : (E a ⟨#[116]⟩).size + 1 ≤ 9223372036854775807 ∧ (E a ⟨#[116]⟩ ++ ⟨#[62]⟩).size + (E b ⟨#[100]⟩).size ≤ 9223372036854775807 := by
  have h1 := E_size a ⟨#[116]⟩ ha (by decide)
  have h2 := E_size b ⟨#[100]⟩ hb (by decide)
  refine ⟨by omega, ?_⟩
  rw [ByteArray.size_append]
  have : (⟨#[62]⟩ : ByteArray).size = 1 := rfl
  omega
theorem implText_ok (a b : Int) (ha : a < 100) (hb : b < 100) : impl_Move_text.f a b = some (MT a b) := by
  obtain ⟨f1, f2⟩ := MT_fit a b ha hb
  unfold impl_Move_text.f MT
  rw [txt_ok a _ ha, Option.bind_some, if_pos f1, txt_ok b _ hb, Option.bind_some, if_pos f2]

end Go.Proofs.YtjebielaficopaaDoor.Pure
