/- The program's DivisorOf and the reference's tell the same, and the argument is left. It holds for all inputs that the statement lets in. -/
import Derived.Test.YtjebielaficopaaLibA
import Derived.Test.YtjebielaficopaaLibCcI
import Derived.Test.YtjebielaficopaaLibV
import Derived.Test.YtjebielaficopaaLibW
import Derived.Test.YtjebielaficopaaPr8
import Derived.Test.YtjebielaficopaaPr9
namespace Go.Proofs.Ytjebielaficopaa.Pure
open Go.RowKit Go.Proofs.Ytjebielaficopaa.Pr Go.Proofs.YtjebielaficopaaW.PrintWords Go.Proofs.YtjebielaficopaaW.PrintLast
set_option linter.unusedVariables false
set_option linter.unusedSimpArgs false

/-- The greatest common divisor, as a whole number. -/
def ig (a b : Int) : Int := (Int.gcd a b : Int)
theorem ig_assoc (a b c : Int) : ig (ig a b) c = ig a (ig b c) := by
  unfold ig
  rw [Int.gcd_assoc]
theorem ig_swap (a b c : Int) : ig (ig a b) c = ig (ig a c) b := by
  rw [ig_assoc, ig_assoc]
  congr 1
  unfold ig
  rw [Int.gcd_comm]
theorem ig_zero {a : Int} (h : 0 ≤ a) : ig a 0 = a := by
  unfold ig
  rw [Int.gcd_zero_right]
  omega
theorem ig_step {a b : Int} (ha : 0 ≤ a) (hb : 0 < b) : ig b (Int.tmod a b) = ig a b := by
  obtain ⟨m, rfl⟩ := Int.eq_ofNat_of_zero_le ha
  obtain ⟨n, rfl⟩ := Int.eq_ofNat_of_zero_le (Int.le_of_lt hb)
  unfold ig
  rw [Int.tmod_eq_emod_of_nonneg ha]
  have e : ((m : Int) % (n : Int)) = ((m % n : Nat) : Int) := (Int.natCast_emod m n).symm
  rw [e]
  simp only [Int.gcd_natCast_natCast]
  rw [Nat.gcd_comm n (m % n), ← Nat.gcd_rec, Nat.gcd_comm]
theorem ig_nonneg (a b : Int) : 0 ≤ ig a b := Int.natCast_nonneg _
theorem ig_le {a b : Int} (hb : 0 < b) : ig a b ≤ b := by
  unfold ig
  have := Int.gcd_le_right a hb
  exact this
theorem gcd_ok : ∀ (n k : Nat) (a b : Int), 0 ≤ a → 0 ≤ b → b ≤ (n : Int) → n < k → impl_gcd.l0 k a b = some (ig a b) := by
  intro n
  induction n using Nat.strongRecOn with
  | _ n ih =>
    intro k a b ha hb hn hk
    obtain ⟨k, rfl⟩ : ∃ m, k = m + 1 := ⟨k - 1, by omega⟩
    simp only [impl_gcd.l0]
    by_cases h : b = 0
    · rw [if_pos h, if_neg (by omega), h, ig_zero ha]
    · have h1 := Int.emod_nonneg a h
      have h2 := Int.emod_lt_of_pos a (show 0 < b by omega)
      have e := Int.tmod_eq_emod_of_nonneg (b := b) ha
      rw [if_neg h, ← ig_step ha (show 0 < b by omega)]
      exact ih (n - 1) (by omega) k b _ hb (by omega) (by omega) (by omega)
theorem common_ok : ∀ (n k : Nat) (a b : Int), 0 ≤ a → 0 ≤ b → b ≤ (n : Int) → n < k → spec_veCommon.l0 k a b = some (ig a b) := by
  intro n
  induction n using Nat.strongRecOn with
  | _ n ih =>
    intro k a b ha hb hn hk
    obtain ⟨k, rfl⟩ : ∃ m, k = m + 1 := ⟨k - 1, by omega⟩
    simp only [spec_veCommon.l0]
    by_cases h : b > 0
    · have h1 := Int.emod_nonneg a (show b ≠ 0 by omega)
      have h2 := Int.emod_lt_of_pos a h
      have e := Int.tmod_eq_emod_of_nonneg (b := b) ha
      rw [if_pos h, if_neg (by omega), ← ig_step ha h]
      exact ih (n - 1) (by omega) k b _ hb (by omega) (by omega) (by omega)
    · have h0 : b = 0 := by omega
      rw [if_neg h, h0, ig_zero ha]
/-- All of a list, and what went ahead. -/
def igs (a : Int) (l : List Int) : Int := l.foldl ig a
theorem igs_swap : ∀ (l : List Int) (a y : Int), igs (ig a y) l = ig (igs a l) y
  | [], _, _ => rfl
  | x :: xs, a, y => by
    show igs (ig (ig a y) x) xs = ig (igs (ig a x) xs) y
    rw [ig_swap a y x, igs_swap xs (ig a x) y]
/-- Two lists, one of each in turn. -/
def igz : Int → List Int → List Int → Int
  | a, x :: xs, y :: ys => igz (ig (ig a x) y) xs ys
  | a, _, _ => a
theorem igz_igs : ∀ (xs ys : List Int) (a : Int), xs.length = ys.length → igz a xs ys = igs a (xs ++ ys)
  | [], [], _, _ => rfl
  | [], y :: ys, _, h => by simp at h
  | x :: xs, [], _, h => by simp at h
  | x :: xs, y :: ys, a, h => by
    show igz (ig (ig a x) y) xs ys = igs (ig a x) (xs ++ y :: ys)
    rw [igz_igs xs ys _ (by simpa using h)]
    unfold igs
    rw [List.foldl_append, List.foldl_append, List.foldl_cons]
    congr 1
    exact igs_swap xs (ig a x) y
theorem div_l0 (l : List Int) (hl : l.length ≤ 100) (hx : ∀ x ∈ l, 0 ≤ x ∧ x ≤ 60) : ∀ (d k : Nat) (a : Int) (j : Nat), l.length - j = d → d + 100 < k → 0 ≤ a → impl_Vessels_divisor.l0 k a l (l.length : Int) (j : Int) = some (igs a (l.drop j)) := by
  intro d
  induction d with
  | zero =>
    intro k a j hd hk ha
    obtain ⟨k, rfl⟩ : ∃ m, k = m + 1 := ⟨k - 1, by omega⟩
    simp only [impl_Vessels_divisor.l0]
    rw [if_neg (by omega), drop_all l j (by omega)]
    rfl
  | succ d ih =>
    intro k a j hd hk ha
    obtain ⟨k, rfl⟩ : ∃ m, k = m + 1 := ⟨k - 1, by omega⟩
    have e := drop_rd l j (by omega)
    have hb := hx (rd l (j : Int)) (List.mem_of_mem_drop (by rw [e]; exact List.mem_cons_self))
    simp only [impl_Vessels_divisor.l0]
    have eg : impl_gcd.f k a (rd l (j : Int)) = some (ig a (rd l (j : Int))) := by
      unfold impl_gcd.f
      exact gcd_ok 60 k a _ ha hb.1 (by omega) (by omega)
    rw [if_pos (by omega), if_pos (by omega), if_pos (by omega), eg, Option.bind_some, w64 (i := (j : Int) + 1) (by omega) (by omega), e]
    exact ih k _ (j + 1) (by omega) (by omega) (ig_nonneg _ _)
theorem sdiv_l0 (s h : List Int) (hl : s.length ≤ 100) (hh : h.length = s.length) (hs : ∀ x ∈ s, 0 ≤ x ∧ x ≤ 60) (hx : ∀ x ∈ h, 0 ≤ x ∧ x ≤ 60) : ∀ (d k : Nat) (a : Int) (j : Nat), s.length - j = d → d + 100 < k → 0 ≤ a → spec_DivisorOf.l0 k a s (s.length : Int) (j : Int) s h = some (igz a (s.drop j) (h.drop j), true) := by
  intro d
  induction d with
  | zero =>
    intro k a j hd hk ha
    obtain ⟨k, rfl⟩ : ∃ m, k = m + 1 := ⟨k - 1, by omega⟩
    simp only [spec_DivisorOf.l0]
    rw [if_neg (by omega), drop_all s j (by omega)]
    rfl
  | succ d ih =>
    intro k a j hd hk ha
    obtain ⟨k, rfl⟩ : ∃ m, k = m + 1 := ⟨k - 1, by omega⟩
    have e := drop_rd s j (by omega)
    have e2 := drop_rd h j (by omega)
    have hb := hs (rd s (j : Int)) (List.mem_of_mem_drop (by rw [e]; exact List.mem_cons_self))
    have hb2 := hx (rd h (j : Int)) (List.mem_of_mem_drop (by rw [e2]; exact List.mem_cons_self))
    simp only [spec_DivisorOf.l0]
    have eg : spec_veCommon.f k a (rd s (j : Int)) = some (ig a (rd s (j : Int))) := by
      unfold spec_veCommon.f
      exact common_ok 60 k a _ ha hb.1 (by omega) (by omega)
    have eg2 : spec_veCommon.f k (ig a (rd s (j : Int))) (rd h (j : Int)) = some (ig (ig a (rd s (j : Int))) (rd h (j : Int))) := by
      unfold spec_veCommon.f
      exact common_ok 60 k _ _ (ig_nonneg _ _) hb2.1 (by omega) (by omega)
    rw [if_pos (by omega), if_pos (by omega), if_pos (by omega), eg, Option.bind_some, if_pos (by omega), eg2, Option.bind_some, w64 (i := (j : Int) + 1) (by omega) (by omega), e, e2, show (j : Int) + 1 = ((j + 1 : Nat) : Int) by omega, ih k _ (j + 1) (by omega) (by omega) (ig_nonneg _ _)]
    rfl
theorem DivisorOf_same (s h : List Int) (_w0 : s.length ≤ maxLen) (_w1 : ∀ x ∈ s, (Lit.int .i64 x).wf = true) (_w2 : h.length ≤ maxLen) (_w3 : ∀ x ∈ h, (Lit.int .i64 x).wf = true) (hs : s.length ≤ 1048576) (hh : h.length ≤ 1048576) : ∃ R : Int × Bool, (∀ k, 4000010 ≤ k → spec_DivisorOf.f k s h = some R) ∧ (∀ k, 4000010 ≤ k → impl_DivisorOf.f k s h = some R) := by
  by_cases hv : vesB s h = true
  · obtain ⟨v1, v2, v3, v4, v5⟩ := vesB_get hv
    have hx : ∀ x ∈ h, 0 ≤ x ∧ x ≤ 60 := by
      intro x hx
      obtain ⟨m, hm, rfl⟩ := List.getElem_of_mem hx
      have := v5 m (by omega)
      rw [rd_nat h m hm] at this
      omega
    have hsx : ∀ x ∈ s, 0 ≤ x ∧ x ≤ 60 := fun x hx => by have := v4 x hx; omega
    refine ⟨(igs 0 (s ++ h), true), fun k hk => ?_, fun k hk => ?_⟩
    · unfold spec_DivisorOf.f
      rw [veGood_ok s h k hs hh (by omega), Option.bind_some, if_pos hv]
      have := sdiv_l0 s h (by omega) v3 hsx hx s.length k 0 0 (by omega) (by omega) (by omega)
      rw [List.drop_zero, List.drop_zero, igz_igs s h 0 v3.symm] at this
      exact this
    · unfold impl_DivisorOf.f impl_Vessels_divisor.f
      rw [AreVessels_ok s h k hs hh (by omega), Option.bind_some, if_pos hv, concatI_ok s h k (by omega) (by omega) (by omega), Option.bind_some]
      have := div_l0 (s ++ h) (by simp; omega) (fun x hm => by rcases List.mem_append.1 hm with q | q; exact hsx x q; exact hx x q) (s ++ h).length k 0 0 (by omega) (by simp; omega) (by omega)
      rw [List.drop_zero] at this
      rw [show ((0 : Nat) : Int) = 0 from rfl] at this
      rw [this, Option.bind_some]
  · refine ⟨(0, false), fun k hk => ?_, fun k hk => ?_⟩
    · unfold spec_DivisorOf.f
      rw [veGood_ok s h k hs hh (by omega), Option.bind_some, if_neg hv]
    · unfold impl_DivisorOf.f
      rw [AreVessels_ok s h k hs hh (by omega), Option.bind_some, if_neg hv]

theorem FnExactDivisorOf : ∀ (l0_0 : List Int) (l0_1 : List Int), l0_0.length ≤ maxLen → (∀ x ∈ l0_0, (Lit.int .i64 x).wf = true) → l0_1.length ≤ maxLen → (∀ x ∈ l0_1, (Lit.int .i64 x).wf = true) → ∃ k, laws_FnExactDivisorOf.f k l0_0 l0_1 = some true := by
  intro l0_0 l0_1 w0 w1 w2 w3
  have sz := szV l0_0 l0_1 w0 w2
  by_cases big : l0_0.length + l0_1.length ≤ 1048576
  case neg =>
    rw [if_neg big] at sz
    refine ⟨0, ?_⟩
    unfold laws_FnExactDivisorOf.f
    rw [sz, Option.bind_some, if_pos (by omega)]
  rw [if_pos big] at sz
  have lt : ((1048576 : Int) - (l0_0.length : Int) - (l0_1.length : Int) < 0) = False := eq_false (by omega)
  obtain ⟨R, hs, hi⟩ := DivisorOf_same l0_0 l0_1 w0 w1 w2 w3 (by omega) (by omega)
  obtain ⟨K, hK⟩ : ∃ K, K = 10000000000000 := ⟨_, rfl⟩
  refine ⟨K + 9, ?_⟩
  simp (disch := omega) only [laws_FnExactDivisorOf.f, hs, hi, sz, lt, toV_ok, eqV_ok, Option.bind_some, bne_self_eq_false, Bool.false_eq_true, eq_self, if_true, if_false]
  simp (disch := omega) only [laws_FnExactDivisorOf.j0, hs, hi, sz, lt, toV_ok, eqV_ok, Option.bind_some, bne_self_eq_false, Bool.false_eq_true, eq_self, if_true, if_false]

end Go.Proofs.Ytjebielaficopaa.Pure
