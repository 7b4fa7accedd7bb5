/- A siphon with a steady inflow: its levels one behind another, and where one first comes again. -/
import Derived.Test.YtbpkfdclplcbaaaLibS
import Derived.Test.YtbpkfdclplcbaaaLibSi
import Derived.Test.YtbpkfdclplcbaaaLibW
import Derived.Test.YtbpkfdclplcbaaaPr0
import Derived.Test.YtbpkfdclplcbaaaPr6
namespace Go.Proofs.Ytbpkfdclplcbaaa.Pure
open Go.RowKit Go.Proofs.Ytbpkfdclplcbaaa.Pr Go.Proofs.YtbpkfdclplcbaaaW.PrintWords Go.Proofs.YtbpkfdclplcbaaaW.PrintLast
set_option linter.unusedVariables false
set_option linter.unusedSimpArgs false

theorem php : ∀ (m : Nat) (f : Nat → Nat), (∀ i, i ≤ m → f i < m) → ∃ i j, i < j ∧ j ≤ m ∧ f i = f j
  | 0, f, h => absurd (h 0 (Nat.le_refl _)) (by omega)
  | m + 1, f, h => by
    by_cases hx : ∃ i, i ≤ m ∧ f i = f (m + 1)
    · obtain ⟨i, hi, he⟩ := hx
      exact ⟨i, m + 1, by omega, Nat.le_refl _, he⟩
    · have hx' : ∀ i, i ≤ m → f i ≠ f (m + 1) := fun i hi he => hx ⟨i, hi, he⟩
      have hm := h (m + 1) (Nat.le_refl _)
      obtain ⟨i, j, hij, hj, he⟩ := php m (fun i => if f i = m then f (m + 1) else f i) (fun i hi => by
        have := h i (by omega)
        have := hx' i hi
        show (if f i = m then f (m + 1) else f i) < m
        split <;> omega)
      refine ⟨i, j, hij, by omega, ?_⟩
      have hi' := hx' i (by omega)
      have hj' := hx' j (by omega)
      split at he <;> split at he <;> omega
theorem least (P : Nat → Prop) : ∀ n, P n → ∃ m, m ≤ n ∧ P m ∧ ∀ i, i < m → ¬ P i := by
  intro n
  induction n using Nat.strongRecOn with
  | _ n ih =>
    intro hn
    by_cases h : ∃ i, i < n ∧ P i
    · obtain ⟨i, hi, hp⟩ := h
      obtain ⟨m, h1, h2, h3⟩ := ih i hi hp
      exact ⟨m, by omega, h2, h3⟩
    · exact ⟨n, Nat.le_refl _, hn, fun i hi hp => h ⟨i, hi, hp⟩⟩
abbrev LV := S37
/-- The level behind n ticks, out of none. -/
def lvl (z lo st fl x : Int) : Nat → LV
  | 0 => ⟨0, false⟩
  | n + 1 => ⟨(tk z lo st fl (lvl z lo st fl x n).f0 (lvl z lo st fl x n).f1 x).1, (tk z lo st fl (lvl z lo st fl x n).f0 (lvl z lo st fl x n).f1 x).2.1⟩
def lvo (z lo st fl x : Int) (n : Nat) : Int := (tk z lo st fl (lvl z lo st fl x n).f0 (lvl z lo st fl x n).f1 x).2.2.1
def lvs (z lo st fl x : Int) (n : Nat) : Int := (tk z lo st fl (lvl z lo st fl x n).f0 (lvl z lo st fl x n).f1 x).2.2.2
theorem lvl_bd {z lo st fl x : Int} (hs : siphB z lo st fl = true) (x0 : 0 ≤ x) (x1 : x ≤ 60) : ∀ n, 0 ≤ (lvl z lo st fl x n).f0 ∧ (lvl z lo st fl x n).f0 ≤ z
  | 0 => by
    obtain ⟨a1, a2, a3, a4, a5, a6, a7⟩ := siphB_get hs
    exact ⟨by simp [lvl], by simp [lvl]; omega⟩
  | n + 1 => by
    obtain ⟨h0, h1⟩ := lvl_bd hs x0 x1 n
    have := tk_bd (r := (lvl z lo st fl x n).f1) hs h0 h1 x0 x1
    exact ⟨this.1, this.2.1⟩
theorem lv_ext {a b : LV} (h0 : a.f0 = b.f0) (h1 : a.f1 = b.f1) : a = b := by
  cases a; cases b; simp_all
/-- The first meeting: behind n ticks comes the level that was behind k; before, none comes twice. -/
structure Meet (z lo st fl x : Int) (k n : Nat) : Prop where
  lt : k < n
  le : n ≤ 122
  eq : lvl z lo st fl x k = lvl z lo st fl x n
  ne : ∀ i j, i < j → j < n → lvl z lo st fl x i ≠ lvl z lo st fl x j
theorem meet_ex {z lo st fl x : Int} (hs : siphB z lo st fl = true) (x0 : 0 ≤ x) (x1 : x ≤ 60) : ∃ k n, Meet z lo st fl x k n := by
  obtain ⟨a1, a2, a3, a4, a5, a6, a7⟩ := siphB_get hs
  obtain ⟨i, j, hij, hj, he⟩ := php 122 (fun n => 2 * (lvl z lo st fl x n).f0.toNat + (if (lvl z lo st fl x n).f1 = true then 1 else 0)) (fun i _ => by
    obtain ⟨h0, h1⟩ := lvl_bd hs x0 x1 i
    show 2 * (lvl z lo st fl x i).f0.toNat + (if (lvl z lo st fl x i).f1 = true then 1 else 0) < 122
    split <;> omega)
  have hL : lvl z lo st fl x i = lvl z lo st fl x j := by
    obtain ⟨h0, h1⟩ := lvl_bd hs x0 x1 i
    obtain ⟨h2, h3⟩ := lvl_bd hs x0 x1 j
    apply lv_ext
    · split at he <;> split at he <;> omega
    · cases hi : (lvl z lo st fl x i).f1 <;> cases hjj : (lvl z lo st fl x j).f1 <;> rw [hi, hjj] at he <;> simp at he <;> first | rfl | omega
  obtain ⟨n, hn, ⟨k, hk, hkn⟩, hmin⟩ := least (fun n => ∃ k, k < n ∧ lvl z lo st fl x k = lvl z lo st fl x n) j ⟨i, hij, hL⟩
  exact ⟨k, n, hk, by omega, hkn, fun a b hab hb he => hmin b hb ⟨a, hab, he⟩⟩
theorem lvl_shift {z lo st fl x : Int} {k n : Nat} (h : lvl z lo st fl x k = lvl z lo st fl x n) : ∀ i, lvl z lo st fl x (n + i) = lvl z lo st fl x (k + i)
  | 0 => h.symm
  | i + 1 => by
    have := lvl_shift h i
    show lvl z lo st fl x ((n + i) + 1) = lvl z lo st fl x ((k + i) + 1)
    simp only [lvl, this]
/-- The levels so far. -/
def lvS (z lo st fl x : Int) (n : Nat) : List LV := (List.range n).map (lvl z lo st fl x)
theorem lvS_len (z lo st fl x : Int) (n : Nat) : (lvS z lo st fl x n).length = n := by simp [lvS]
theorem lvS_succ (z lo st fl x : Int) (n : Nat) : lvS z lo st fl x (n + 1) = lvS z lo st fl x n ++ [lvl z lo st fl x n] := by simp [lvS, List.range_succ]
theorem lvS_rd (z lo st fl x : Int) (n j : Nat) (h : j < n) : rd_T37 (lvS z lo st fl x n) (j : Int) = lvl z lo st fl x j := by
  simp [rd_T37, lvS, h]
theorem lv_beq (a b : LV) : (a.f0 == b.f0 && (a.f1 == b.f1)) = true ↔ a = b := by
  rw [Bool.and_eq_true, beq_iff_eq, beq_iff_eq]
  constructor
  · intro h; exact lv_ext h.1 h.2
  · rintro rfl; exact ⟨rfl, rfl⟩
/-- Looking through what has been: nothing from j on. -/
theorem meet_none {z lo st fl x : Int} (hs : siphB z lo st fl = true) (x0 : 0 ≤ x) (x1 : x ≤ 60) (n : Nat) (hn : n ≤ 1000) (hne : ∀ i, i < n → lvl z lo st fl x i ≠ lvl z lo st fl x n) : ∀ (d m j : Nat), j + d = n → 10 ≤ m →
    spec_siMeet.l1 (m + d + 1) x (lvS z lo st fl x n) (lvS z lo st fl x n) (n : Int) (j : Int) z lo st fl (lvl z lo st fl x n).f0 (lvl z lo st fl x n).f1 = spec_siMeet.l0 m x (lvS z lo st fl x (n + 1)) z lo st fl (lvl z lo st fl x (n + 1)).f0 (lvl z lo st fl x (n + 1)).f1 := by
  intro d
  induction d with
  | zero =>
    intro m j hj hm
    obtain ⟨b0, b1⟩ := lvl_bd hs x0 x1 n
    have hl := lvS_len z lo st fl x n
    simp only [spec_siMeet.l1]
    rw [if_neg (by omega), if_pos (by omega), siTick_ok m hs b0 b1 x0 x1 (by omega), Option.bind_some, lvS_succ]
    rfl
  | succ d ih =>
    intro m j hj hm
    have hl := lvS_len z lo st fl x n
    have hi := ih m (j + 1) (by omega) hm
    rw [show m + (d + 1) + 1 = (m + d + 1) + 1 from rfl]
    obtain ⟨K, hK⟩ : ∃ K, m + d + 1 = K := ⟨_, rfl⟩
    rw [hK] at hi ⊢
    simp only [spec_siMeet.l1]
    rw [if_pos (by omega), if_pos (by omega), if_pos (by omega), lvS_rd z lo st fl x n j (by omega), if_neg (fun h => hne j (by omega) ((lv_beq _ _).1 h)), w64 (i := (j : Int) + 1) (by omega) (by omega)]
    exact hi
theorem meet_some {z lo st fl x : Int} (n k : Nat) (hn : n ≤ 1000) (hk : k < n) (he : lvl z lo st fl x k = lvl z lo st fl x n) (hne : ∀ i, i < k → lvl z lo st fl x i ≠ lvl z lo st fl x n) : ∀ (d m j : Nat), j + d = k →
    spec_siMeet.l1 (m + d + 1) x (lvS z lo st fl x n) (lvS z lo st fl x n) (n : Int) (j : Int) z lo st fl (lvl z lo st fl x n).f0 (lvl z lo st fl x n).f1 = some ((k : Int), (lvl z lo st fl x n).f0, (lvl z lo st fl x n).f1, (n : Int) - (k : Int)) := by
  intro d
  induction d with
  | zero =>
    intro m j hj
    have hl := lvS_len z lo st fl x n
    obtain rfl : j = k := by omega
    simp only [spec_siMeet.l1]
    rw [if_pos (by omega), if_pos (by omega), if_pos (by omega), lvS_rd z lo st fl x n j (by omega), if_pos ((lv_beq _ _).2 he), hl, w64 (by omega) (by omega)]
  | succ d ih =>
    intro m j hj
    have hl := lvS_len z lo st fl x n
    have hi := ih m (j + 1) (by omega)
    rw [show m + (d + 1) + 1 = (m + d + 1) + 1 from rfl]
    obtain ⟨K, hK⟩ : ∃ K, m + d + 1 = K := ⟨_, rfl⟩
    rw [hK] at hi ⊢
    simp only [spec_siMeet.l1]
    rw [if_pos (by omega), if_pos (by omega), if_pos (by omega), lvS_rd z lo st fl x n j (by omega), if_neg (fun h => hne j (by omega) ((lv_beq _ _).1 h)), w64 (i := (j : Int) + 1) (by omega) (by omega)]
    exact hi
theorem siMeet_l0 {z lo st fl x : Int} {k0 n0 : Nat} (hs : siphB z lo st fl = true) (x0 : 0 ≤ x) (x1 : x ≤ 60) (M : Meet z lo st fl x k0 n0) : ∀ (d k n : Nat), n + d = n0 → 200 * (d + 1) ≤ k →
    spec_siMeet.l0 k x (lvS z lo st fl x n) z lo st fl (lvl z lo st fl x n).f0 (lvl z lo st fl x n).f1 = some ((k0 : Int), (lvl z lo st fl x n0).f0, (lvl z lo st fl x n0).f1, (n0 : Int) - (k0 : Int)) := by
  intro d
  have hle := M.le
  have hlt := M.lt
  induction d with
  | zero =>
    intro k n hn hk
    obtain rfl : n = n0 := by omega
    obtain ⟨m, rfl⟩ : ∃ m, k = (m + k0 + 1) + 1 := ⟨k - k0 - 2, by omega⟩
    simp only [spec_siMeet.l0]
    rw [lvS_len]
    exact meet_some n k0 (by omega) hlt M.eq (fun i hi he => M.ne i k0 hi hlt (he.trans M.eq.symm)) k0 m 0 (by omega)
  | succ d ih =>
    intro k n hn hk
    obtain ⟨m, rfl⟩ : ∃ m, k = (m + n + 1) + 1 := ⟨k - n - 2, by omega⟩
    simp only [spec_siMeet.l0]
    rw [lvS_len]
    have := meet_none hs x0 x1 n (by omega) (fun i hi => M.ne i n hi (by omega)) n m 0 (by omega) (by omega)
    rw [show ((0 : Nat) : Int) = 0 from rfl] at this
    rw [this]
    exact ih m (n + 1) (by omega) (by omega)
theorem siMeet_ok {z lo st fl x : Int} {k0 n0 : Nat} (hs : siphB z lo st fl = true) (x0 : 0 ≤ x) (x1 : x ≤ 60) (M : Meet z lo st fl x k0 n0) (k : Nat) (hk : 30000 ≤ k) :
    spec_siMeet.f k z lo st fl x = some ((k0 : Int), (lvl z lo st fl x n0).f0, (lvl z lo st fl x n0).f1, (n0 : Int) - (k0 : Int)) := by
  have := M.le
  unfold spec_siMeet.f
  exact siMeet_l0 hs x0 x1 M n0 k 0 (by omega) (by omega)

end Go.Proofs.Ytbpkfdclplcbaaa.Pure
