/- A sequence in which each member tells the next: where one first comes again, and Floyd's walk over it. -/

namespace Go.Proofs.Ytbpkfdclplcbaaa.Pure

/-- Behind n comes what was behind k; before, none comes twice. -/
structure MeetC {α : Type} (f : Nat → α) (k n : Nat) : Prop where
  ltC : k < n
  eqC : f k = f n
  neC : ∀ i j, i < j → j < n → f i ≠ f j
theorem leastC (P : Nat → Prop) : ∀ n, P n → ∃ m, m ≤ n ∧ P m ∧ ∀ i, i < m → ¬ P i := by
  intro n
  induction n using Nat.strongRecOn with
  | _ n ih =>
    intro hn
    by_cases h : ∃ i, i < n ∧ P i
    · obtain ⟨i, hi, hp⟩ := h
      obtain ⟨m, h1, h2, h3⟩ := ih i hi hp
      exact ⟨m, by omega, h2, h3⟩
    · exact ⟨n, Nat.le_refl _, hn, fun i hi hp => h ⟨i, hi, hp⟩⟩
section
variable {α : Type} {f : Nat → α}
theorem meetC_of {i j : Nat} (hij : i < j) (h : f i = f j) : ∃ k n, n ≤ j ∧ MeetC f k n := by
  obtain ⟨n, hn, ⟨k, hk, hkn⟩, hmin⟩ := leastC (fun n => ∃ k, k < n ∧ f k = f n) j ⟨i, hij, h⟩
  exact ⟨k, n, hn, hk, hkn, fun a b hab hb he => hmin b hb ⟨a, hab, he⟩⟩
variable {g : α → α} (hg : ∀ i, f (i + 1) = g (f i))
include hg
theorem shiftC {k n : Nat} (h : f k = f n) : ∀ i, f (n + i) = f (k + i)
  | 0 => h.symm
  | i + 1 => by
    have := shiftC h i
    show f ((n + i) + 1) = f ((k + i) + 1)
    rw [hg, hg, this]
theorem turnC {k p : Nat} (h : f k = f (k + p)) : ∀ q i, f (k + q * p + i) = f (k + i)
  | 0, i => by simp
  | q + 1, i => by
    have := turnC h q i
    rw [show k + (q + 1) * p + i = (k + p) + (q * p + i) by rw [Nat.succ_mul]; omega, shiftC hg h (q * p + i), show k + (q * p + i) = k + q * p + i by omega, this]
theorem normC {k p : Nat} (h : f k = f (k + p)) (j : Nat) (hj : k ≤ j) : f j = f (k + (j - k) % p) := by
  have := turnC hg h ((j - k) / p) ((j - k) % p)
  have e := Nat.div_add_mod (j - k) p
  rw [Nat.mul_comm] at e
  rw [← this]
  congr 1
  omega
theorem againC {k p i j : Nat} (M : MeetC f k (k + p)) (hij : i < j) (h : f i = f j) : k ≤ i ∧ (j - i) % p = 0 := by
  have hp : 0 < p := by have := M.ltC; omega
  have hj : k + p ≤ j := by
    by_cases hj : j < k + p
    · exact absurd h (M.neC i j hij hj)
    · omega
  have hn := normC hg M.eqC j (by omega)
  have hm := Nat.mod_lt (j - k) hp
  have hi : k ≤ i := by
    by_cases hi : k ≤ i
    · exact hi
    · exact absurd (h.trans hn) (M.neC i _ (by omega) (by omega))
  refine ⟨hi, ?_⟩
  have hn2 := normC hg M.eqC i hi
  have hm2 := Nat.mod_lt (i - k) hp
  have e : (i - k) % p = (j - k) % p := by
    have h3 := hn2.symm.trans (h.trans hn)
    rcases Nat.lt_trichotomy ((i - k) % p) ((j - k) % p) with hl | he | hl
    · exact absurd h3 (M.neC _ _ (by omega) (by omega))
    · exact he
    · exact absurd h3.symm (M.neC _ _ (by omega) (by omega))
  have e1 := Nat.div_add_mod (j - k) p
  have e2 := Nat.div_add_mod (i - k) p
  have hle : (i - k) / p ≤ (j - k) / p := Nat.div_le_div_right (by omega)
  obtain ⟨q, hq⟩ : ∃ q, (j - k) / p = (i - k) / p + q := ⟨(j - k) / p - (i - k) / p, by omega⟩
  rw [hq, Nat.mul_add] at e1
  have : j - i = p * q := by omega
  rw [this]
  exact Nat.mul_mod_right p q
theorem sameC {k p i j : Nat} (M : MeetC f k (k + p)) (hi : k ≤ i) (hij : i ≤ j) (h : (j - i) % p = 0) : f i = f j := by
  obtain ⟨q, hq⟩ := Nat.dvd_of_mod_eq_zero h
  have := turnC hg M.eqC q (i - k)
  rw [show k + (i - k) = i by omega] at this
  rw [← this]
  congr 1
  rw [Nat.mul_comm] at hq
  omega
/-- A slow and a fast walk meet, not behind the first repetition. -/
theorem floydC {k p : Nat} (M : MeetC f k (k + p)) : ∃ n, 1 ≤ n ∧ n ≤ k + p ∧ f n = f (2 * n) := by
  have hp : 0 < p := by have := M.ltC; omega
  have e := Nat.div_add_mod k p
  have hm := Nat.mod_lt k hp
  refine ⟨p * (k / p + 1), ?_, ?_, ?_⟩
  · rw [Nat.mul_add]; omega
  · rw [Nat.mul_add]; omega
  · refine sameC hg M (by rw [Nat.mul_add]; omega) (by omega) ?_
    rw [show 2 * (p * (k / p + 1)) - p * (k / p + 1) = p * (k / p + 1) by omega]
    exact Nat.mul_mod_right _ _
end

end Go.Proofs.Ytbpkfdclplcbaaa.Pure
