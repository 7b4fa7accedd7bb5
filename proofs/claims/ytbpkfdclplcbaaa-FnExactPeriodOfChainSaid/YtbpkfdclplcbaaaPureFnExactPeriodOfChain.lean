/- The program's PeriodOfChain and the reference's tell the same, and the argument is left. It holds for all inputs that the statement lets in. -/
import Derived.Test.YtbpkfdclplcbaaaLibCh
import Derived.Test.YtbpkfdclplcbaaaLibCy
import Derived.Test.YtbpkfdclplcbaaaLibS
import Derived.Test.YtbpkfdclplcbaaaLibSt
import Derived.Test.YtbpkfdclplcbaaaLibW
import Derived.Test.YtbpkfdclplcbaaaPr0
import Derived.Test.YtbpkfdclplcbaaaPr17
import Derived.Test.YtbpkfdclplcbaaaPr18
import Derived.Test.YtbpkfdclplcbaaaPr19
import Derived.Test.YtbpkfdclplcbaaaPr20
import Derived.Test.YtbpkfdclplcbaaaPr3
import Derived.Test.YtbpkfdclplcbaaaPr4
namespace Go.Proofs.Ytbpkfdclplcbaaa.Pure
open Go.RowKit Go.Proofs.Ytbpkfdclplcbaaa.Pr Go.Proofs.YtbpkfdclplcbaaaW.PrintWords Go.Proofs.YtbpkfdclplcbaaaW.PrintLast
set_option linter.unusedVariables false
set_option linter.unusedSimpArgs false

/-- The levels of a chain behind n ticks, out of none. -/
def chSeq (c : List SImp) (x : Int) : Nat → List LV
  | 0 => List.replicate c.length z37
  | n + 1 => chStep c (chSeq c x n) x
section
variable {c : List SImp} {x : Int} (hc : ∀ s ∈ c, siphB s.f0 s.f1 s.f2 s.f3 = true) (h4 : c.length ≤ 4) (x0 : 0 ≤ x) (x1 : x ≤ 60)
include hc x0 x1 in
theorem chSeq_ok : ∀ n, chOk c (chSeq c x n)
  | 0 => chOk_zero hc
  | n + 1 => chStep_ok hc (chSeq_ok n) x0 x1
include hc x0 x1 in
theorem chSeq_len (n : Nat) : (chSeq c x n).length = c.length := chOk_length (chSeq_ok hc x0 x1 n)
include hc h4 x0 x1 in
theorem seqAll (k n : Nat) (hk : 60 ≤ k) : spec_siAll.f k c (chSeq c x n) x = some (chSeq c x (n + 1)) := siAll_ok k hc (chSeq_ok hc x0 x1 n) h4 x0 x1 hk
include hc h4 x0 x1 in
theorem seqSame (k i j : Nat) (hk : 60 ≤ k) : spec_siSame.f k (chSeq c x i) (chSeq c x j) = some (lvsB (chSeq c x i) (chSeq c x j)) := siSame_ok k (by rw [chSeq_len hc x0 x1, chSeq_len hc x0 x1]) (by rw [chSeq_len hc x0 x1]; exact h4) hk
/-- What is told of where a chain first comes again. -/
def chRes (k p : Nat) : Int × Int × Bool := if (k : Int) + (p : Int) > 5000 then (0, 0, false) else ((k : Int), (p : Int), true)
include hc h4 x0 x1 in
theorem chain_l2 {k0 p : Nat} (hk0 : k0 + p ≤ 100000) (M : MeetC (chSeq c x) k0 (k0 + p)) : ∀ (d k q : Nat), q + d = p → 1 ≤ q → d + 100 ≤ k →
    spec_PeriodOfChain.l2 k c x (chSeq c x k0) (chSeq c x (k0 + q)) (k0 : Int) (q : Int) = some (chRes k0 p) := by
  intro d
  induction d with
  | zero =>
    intro k q hq h1 hk
    obtain ⟨k, rfl⟩ : ∃ m, k = m + 1 := ⟨k - 1, by omega⟩
    obtain rfl : q = p := by omega
    simp only [spec_PeriodOfChain.l2]
    rw [seqSame hc h4 x0 x1 k (k0 + q) k0 (by omega), lvsB_iff.2 M.eqC.symm, Option.bind_some, if_pos rfl, w64 (i := (k0 : Int) + (q : Int)) (by omega) (by omega)]
    unfold chRes
    split <;> rfl
  | succ d ih =>
    intro k q hq h1 hk
    obtain ⟨k, rfl⟩ : ∃ m, k = m + 1 := ⟨k - 1, by omega⟩
    have hi := ih k (q + 1) (by omega) (by omega) (by omega)
    have hne : lvsB (chSeq c x (k0 + q)) (chSeq c x k0) = false := Bool.eq_false_iff.mpr fun h => M.neC k0 (k0 + q) (by omega) (by omega) (lvsB_iff.1 h).symm
    simp only [spec_PeriodOfChain.l2]
    rw [seqSame hc h4 x0 x1 k (k0 + q) k0 (by omega), hne, Option.bind_some, if_neg (by decide), seqAll hc h4 x0 x1 k (k0 + q) (by omega), Option.bind_some, w64 (i := (q : Int) + 1) (by omega) (by omega)]
    exact hi
include hc h4 x0 x1 in
theorem chain_l1 {k0 p N : Nat} (hk0 : k0 + p ≤ 100000) (M : MeetC (chSeq c x) k0 (k0 + p)) (hN : 1 ≤ N) (hF : chSeq c x N = chSeq c x (2 * N)) : ∀ (d k i : Nat), i + d = k0 → d + p + 200 ≤ k →
    spec_PeriodOfChain.l1 k c x (chSeq c x i) (chSeq c x (2 * N + i)) (i : Int) = some (chRes k0 p) := by
  have hg : ∀ n, chSeq c x (n + 1) = chStep c (chSeq c x n) x := fun n => rfl
  have hlt := M.ltC
  obtain ⟨hkN, hmod⟩ := againC (g := fun l => chStep c l x) hg M (by omega) hF
  rw [show 2 * N - N = N by omega] at hmod
  intro d
  induction d with
  | zero =>
    intro k i hi hk
    obtain ⟨k, rfl⟩ : ∃ m, k = m + 1 := ⟨k - 1, by omega⟩
    obtain rfl : i = k0 := by omega
    have he : chSeq c x i = chSeq c x (2 * N + i) := sameC (g := fun l => chStep c l x) hg M (Nat.le_refl _) (by omega) (by
      rw [show 2 * N + i - i = N + N by omega, Nat.add_mod, hmod]
      simp)
    have h2 := chain_l2 hc h4 x0 x1 hk0 M (p - 1) k 1 (by omega) (by omega) (by omega)
    simp only [spec_PeriodOfChain.l1]
    rw [seqSame hc h4 x0 x1 k i (2 * N + i) (by omega), lvsB_iff.2 he, Option.bind_some, if_pos rfl, seqAll hc h4 x0 x1 k i (by omega), Option.bind_some]
    exact h2
  | succ d ih =>
    intro k i hi hk
    obtain ⟨k, rfl⟩ : ∃ m, k = m + 1 := ⟨k - 1, by omega⟩
    have hr := ih k (i + 1) (by omega) (by omega)
    have hne : lvsB (chSeq c x i) (chSeq c x (2 * N + i)) = false := Bool.eq_false_iff.mpr fun h => by
      have := (againC (g := fun l => chStep c l x) hg M (by omega) (lvsB_iff.1 h)).1
      omega
    simp only [spec_PeriodOfChain.l1]
    rw [seqSame hc h4 x0 x1 k i (2 * N + i) (by omega), hne, Option.bind_some, if_neg (by decide), seqAll hc h4 x0 x1 k i (by omega), Option.bind_some, seqAll hc h4 x0 x1 k (2 * N + i) (by omega), Option.bind_some, w64 (i := (i : Int) + 1) (by omega) (by omega)]
    exact hr
include hc h4 x0 x1 in
theorem chain_l0 {k0 p N : Nat} (hk0 : k0 + p ≤ 100000) (M : MeetC (chSeq c x) k0 (k0 + p)) (hN : 1 ≤ N) (hN2 : N ≤ 10001) (hF : chSeq c x N = chSeq c x (2 * N)) (hmin : ∀ n, 1 ≤ n → n < N → chSeq c x n ≠ chSeq c x (2 * n)) : ∀ (d k n : Nat), n + d = N → 1 ≤ n → d + k0 + p + 300 ≤ k →
    spec_PeriodOfChain.l0 k c x (chSeq c x 0) (chSeq c x n) (chSeq c x (2 * n)) (n : Int) = some (chRes k0 p) := by
  intro d
  induction d with
  | zero =>
    intro k n hn h1 hk
    obtain ⟨k, rfl⟩ : ∃ m, k = m + 1 := ⟨k - 1, by omega⟩
    obtain rfl : n = N := by omega
    have h2 := chain_l1 hc h4 x0 x1 hk0 M hN hF k0 k 0 (by omega) (by omega)
    simp only [spec_PeriodOfChain.l0]
    rw [seqSame hc h4 x0 x1 k n (2 * n) (by omega), lvsB_iff.2 hF, Option.bind_some, if_pos rfl]
    exact h2
  | succ d ih =>
    intro k n hn h1 hk
    obtain ⟨k, rfl⟩ : ∃ m, k = m + 1 := ⟨k - 1, by omega⟩
    have hi := ih k (n + 1) (by omega) (by omega) (by omega)
    have hne : lvsB (chSeq c x n) (chSeq c x (2 * n)) = false := Bool.eq_false_iff.mpr fun h => hmin n h1 (by omega) (lvsB_iff.1 h)
    simp only [spec_PeriodOfChain.l0]
    rw [seqSame hc h4 x0 x1 k n (2 * n) (by omega), hne, Option.bind_some, if_neg (by decide), if_neg (by omega), seqAll hc h4 x0 x1 k n (by omega), Option.bind_some, seqAll hc h4 x0 x1 k (2 * n) (by omega), Option.bind_some, seqAll hc h4 x0 x1 k (2 * n + 1) (by omega), Option.bind_some, w64 (i := (n : Int) + 1) (by omega) (by omega)]
    exact hi
include hc h4 x0 x1 in
theorem chain_l0_no (hno : ∀ n, 1 ≤ n → n ≤ 10001 → chSeq c x n ≠ chSeq c x (2 * n)) : ∀ (d k n : Nat), n + d = 10001 → 1 ≤ n → d + 300 ≤ k →
    spec_PeriodOfChain.l0 k c x (chSeq c x 0) (chSeq c x n) (chSeq c x (2 * n)) (n : Int) = some (0, 0, false) := by
  intro d
  induction d with
  | zero =>
    intro k n hn h1 hk
    obtain ⟨k, rfl⟩ : ∃ m, k = m + 1 := ⟨k - 1, by omega⟩
    have hne : lvsB (chSeq c x n) (chSeq c x (2 * n)) = false := Bool.eq_false_iff.mpr fun h => hno n h1 (by omega) (lvsB_iff.1 h)
    simp only [spec_PeriodOfChain.l0]
    rw [seqSame hc h4 x0 x1 k n (2 * n) (by omega), hne, Option.bind_some, if_neg (by decide), if_pos (by omega)]
  | succ d ih =>
    intro k n hn h1 hk
    obtain ⟨k, rfl⟩ : ∃ m, k = m + 1 := ⟨k - 1, by omega⟩
    have hi := ih k (n + 1) (by omega) (by omega) (by omega)
    have hne : lvsB (chSeq c x n) (chSeq c x (2 * n)) = false := Bool.eq_false_iff.mpr fun h => hno n h1 (by omega) (lvsB_iff.1 h)
    simp only [spec_PeriodOfChain.l0]
    rw [seqSame hc h4 x0 x1 k n (2 * n) (by omega), hne, Option.bind_some, if_neg (by decide), if_neg (by omega), seqAll hc h4 x0 x1 k n (by omega), Option.bind_some, seqAll hc h4 x0 x1 k (2 * n) (by omega), Option.bind_some, seqAll hc h4 x0 x1 k (2 * n + 1) (by omega), Option.bind_some, w64 (i := (n : Int) + 1) (by omega) (by omega)]
    exact hi
include hc h4 x0 x1 in
theorem chain_j0 (k : Nat) (hk : 400 ≤ k) : spec_PeriodOfChain.j0 (k + 1) c x false = spec_PeriodOfChain.l0 k c x (chSeq c x 0) (chSeq c x 1) (chSeq c x (2 * 1)) 1 := by
  simp only [spec_PeriodOfChain.j0]
  rw [if_neg (by decide), if_pos (by omega), if_pos (by omega), Option.bind_some, Int.toNat_natCast, show List.replicate c.length z37 = chSeq c x 0 from rfl, seqAll hc h4 x0 x1 k 0 (by omega), Option.bind_some, seqAll hc h4 x0 x1 k 1 (by omega), Option.bind_some]
/-! ### the program's map -/
def mpC (c : List SImp) (x : Int) (n : Nat) : List (L4 × Int) := (List.range n).map (fun i : Nat => (fourOf (chSeq c x i), (i : Int)))
omit hc h4 x0 x1 in
theorem mpC_succ (n : Nat) : mpC c x (n + 1) = mpC c x n ++ [(fourOf (chSeq c x n), (n : Int))] := by simp [mpC, List.range_succ]
theorem lookC_none (y : L4) : ∀ (m : List (L4 × Int)) (j : Nat), (∀ p ∈ m, avB y p.1 = false) → mqLook y j m = none
  | [], _, _ => rfl
  | (a, n) :: r, j, h => by
    unfold mqLook
    rw [if_neg (by rw [h (a, n) (by simp)]; decide)]
    exact lookC_none y r (j + 1) (fun p hp => h p (by simp [hp]))
theorem lookC_app (y : L4) : ∀ (m r : List (L4 × Int)) (j : Nat), (∀ p ∈ m, avB y p.1 = false) → mqLook y j (m ++ r) = mqLook y (j + m.length) r
  | [], r, j, _ => by simp
  | (a, n) :: m, r, j, h => by
    have e : mqLook y j ((a, n) :: m ++ r) = if avB y a = true then some (j, n) else mqLook y (j + 1) (m ++ r) := rfl
    rw [e, if_neg (by rw [h (a, n) (by simp)]; decide), lookC_app y m r (j + 1) (fun p hp => h p (by simp [hp])), show j + 1 + m.length = j + ((a, n) :: m).length by simp; omega]
include hc h4 x0 x1 in
theorem seqB (i j : Nat) : avB (fourOf (chSeq c x i)) (fourOf (chSeq c x j)) = lvsB (chSeq c x i) (chSeq c x j) := avB_four (by rw [chSeq_len hc x0 x1, chSeq_len hc x0 x1]) (by rw [chSeq_len hc x0 x1]; exact h4)
include hc h4 x0 x1 in
theorem getC_none (n q : Nat) (h : ∀ i, i < n → chSeq c x i ≠ chSeq c x q) : mqGet (fourOf (chSeq c x q)) (mpC c x n) = none := by
  unfold mqGet
  rw [lookC_none _ _ 0 (fun p hp => by
    obtain ⟨i, hi, rfl⟩ := List.mem_map.1 hp
    show avB (fourOf (chSeq c x q)) (fourOf (chSeq c x i)) = false
    rw [seqB hc h4 x0 x1]
    exact Bool.eq_false_iff.mpr fun he => h i (List.mem_range.1 hi) (lvsB_iff.1 he).symm)]
  rfl
include hc h4 x0 x1 in
theorem getC_some (n k q : Nat) (hk : k < n) (he : chSeq c x k = chSeq c x q) (h : ∀ i, i < k → chSeq c x i ≠ chSeq c x q) : mqGet (fourOf (chSeq c x q)) (mpC c x n) = some (k : Int) := by
  have e : mpC c x n = mpC c x k ++ (fourOf (chSeq c x k), (k : Int)) :: ((List.range (n - k - 1)).map fun i : Nat => (fourOf (chSeq c x (k + 1 + i)), ((k + 1 + i : Nat) : Int))) := by
    obtain ⟨d, rfl⟩ : ∃ d, n = k + 1 + d := ⟨n - k - 1, by omega⟩
    unfold mpC
    rw [show k + 1 + d - k - 1 = d by omega, List.range_add, List.map_append, List.range_succ, List.map_append]
    simp [Function.comp_def]
  unfold mqGet
  rw [e, lookC_app _ _ _ 0 (fun p hp => by
    obtain ⟨i, hi, rfl⟩ := List.mem_map.1 hp
    show avB (fourOf (chSeq c x q)) (fourOf (chSeq c x i)) = false
    rw [seqB hc h4 x0 x1]
    exact Bool.eq_false_iff.mpr fun hq => h i (List.mem_range.1 hi) (lvsB_iff.1 hq).symm)]
  unfold mqLook
  rw [if_pos (by rw [seqB hc h4 x0 x1]; exact lvsB_iff.2 he.symm)]
  rfl
include hc h4 x0 x1 in
theorem chLoop_yes {k0 n0 : Nat} (M : MeetC (chSeq c x) k0 n0) (h5 : n0 ≤ 5000) : ∀ (d k n : Nat), n + d + 1 = n0 → d < k →
    chLoop k c x (fourOf (chSeq c x n)) (mpC c x (n + 1)) ((n + 1 : Nat) : Int) = some ((k0 : Int), (n0 : Int) - (k0 : Int), true) := by
  have hlt := M.ltC
  intro d
  induction d with
  | zero =>
    intro k n hn hk
    obtain ⟨k, rfl⟩ : ∃ m, k = m + 1 := ⟨k - 1, by omega⟩
    obtain rfl : n0 = n + 1 := by omega
    have hg := getC_some hc h4 x0 x1 (n + 1) k0 (n + 1) hlt M.eqC (fun i hi he => M.neC i k0 hi hlt (he.trans M.eqC.symm))
    have hw := avW_four (chOk_le hc (chSeq_ok hc x0 x1 (n + 1)))
    simp only [chLoop]
    rw [if_pos (by omega), chTick_ok hc (chSeq_ok hc x0 x1 n) h4 x0 x1, Option.bind_some, show chStep c (chSeq c x n) x = chSeq c x (n + 1) from rfl, if_pos hw, hg, if_pos (show (some (k0 : Int)).isSome = true from rfl), Option.getD_some, w64 (by omega) (by omega)]
  | succ d ih =>
    intro k n hn hk
    obtain ⟨k, rfl⟩ : ∃ m, k = m + 1 := ⟨k - 1, by omega⟩
    have hi := ih k (n + 1) (by omega) (by omega)
    have hg := getC_none hc h4 x0 x1 (n + 1) (n + 1) (fun i hi => M.neC i (n + 1) hi (by omega))
    have hw := avW_four (chOk_le hc (chSeq_ok hc x0 x1 (n + 1)))
    simp only [chLoop]
    rw [if_pos (by omega), chTick_ok hc (chSeq_ok hc x0 x1 n) h4 x0 x1, Option.bind_some, show chStep c (chSeq c x n) x = chSeq c x (n + 1) from rfl, if_pos hw, hg, if_neg (by simp), if_pos (show (none : Option Int) = none from rfl), w64 (by omega) (by omega), ← mpC_succ]
    exact hi
include hc h4 x0 x1 in
theorem chLoop_no (hno : ∀ i j, i < j → j ≤ 5000 → chSeq c x i ≠ chSeq c x j) : ∀ (d k n : Nat), n + d = 5000 → d < k →
    chLoop k c x (fourOf (chSeq c x n)) (mpC c x (n + 1)) ((n + 1 : Nat) : Int) = some (0, 0, false) := by
  intro d
  induction d with
  | zero =>
    intro k n hn hk
    obtain ⟨k, rfl⟩ : ∃ m, k = m + 1 := ⟨k - 1, by omega⟩
    simp only [chLoop]
    rw [if_neg (by omega)]
  | succ d ih =>
    intro k n hn hk
    obtain ⟨k, rfl⟩ : ∃ m, k = m + 1 := ⟨k - 1, by omega⟩
    have hi := ih k (n + 1) (by omega) (by omega)
    have hg := getC_none hc h4 x0 x1 (n + 1) (n + 1) (fun i hi => hno i (n + 1) hi (by omega))
    have hw := avW_four (chOk_le hc (chSeq_ok hc x0 x1 (n + 1)))
    simp only [chLoop]
    rw [if_pos (by omega), chTick_ok hc (chSeq_ok hc x0 x1 n) h4 x0 x1, Option.bind_some, show chStep c (chSeq c x n) x = chSeq c x (n + 1) from rfl, if_pos hw, hg, if_neg (by simp), if_pos (show (none : Option Int) = none from rfl), w64 (by omega) (by omega), ← mpC_succ]
    exact hi
end
theorem chZ_four (n : Nat) (h : n ≤ 4) : fourOf (List.replicate n z37) = chZ := by
  rcases n with _ | _ | _ | _ | _ | n <;> first | rfl | omega
theorem siInflow_ok (a : Int) : spec_siInflow.f a = some (inR 0 60 a) := by
  unfold spec_siInflow.f
  rw [l1In_okR, Option.bind_some]
theorem isInflow_ok (a : Int) : impl_isInflow.f a = some (inR 0 60 a) := by
  unfold impl_isInflow.f
  rw [within_okR, Option.bind_some]
theorem PeriodOfChain_in (c : List SImp) (x : Int) (hcB : chainB c = true) (hx : inR 0 60 x = true) (hl : c.length ≤ 1048576) : ∃ R : Int × Int × Bool, (∀ k, 4000000 ≤ k → spec_PeriodOfChain.f k c x = some R) ∧ (∀ k, 4000000 ≤ k → impl_PeriodOfChain.f k c x = some R) := by
  obtain ⟨h1, h4, hc⟩ := chainB_get hcB
  obtain ⟨x0, x1⟩ := (inR_iff _ _ _).1 hx
  have hg : ∀ n, chSeq c x (n + 1) = chStep c (chSeq c x n) x := fun n => rfl
  have hspec : ∀ k, 4000000 ≤ k → spec_PeriodOfChain.f k c x = spec_PeriodOfChain.l0 (k - 1) c x (chSeq c x 0) (chSeq c x 1) (chSeq c x (2 * 1)) 1 := by
    intro k hk
    obtain ⟨k, rfl⟩ : ∃ m, k = m + 1 := ⟨k - 1, by omega⟩
    unfold spec_PeriodOfChain.f
    rw [siChain_ok c (k + 1) hl (by omega), Option.bind_some, if_pos hcB, siInflow_ok, Option.bind_some, hx, Bool.not_true, chain_j0 hc h4 x0 x1 k (by omega), show k + 1 - 1 = k by omega]
  have himpl : ∀ k, impl_PeriodOfChain.f k c x = chLoop k c x (fourOf (chSeq c x 0)) (mpC c x (0 + 1)) ((0 + 1 : Nat) : Int) := by
    intro k
    unfold impl_PeriodOfChain.f
    rw [isChain_ok c hl, Option.bind_some, if_pos hcB, isInflow_ok, Option.bind_some, if_pos hx]
    have hz : fourOf (chSeq c x 0) = chZ := chZ_four c.length h4
    rw [hz]
    unfold mpC
    simp only [Nat.zero_add, List.range_one, List.map_cons, List.map_nil, hz]
    rfl
  by_cases hm : ∃ n, 1 ≤ n ∧ n ≤ 10001 ∧ chSeq c x n = chSeq c x (2 * n)
  · obtain ⟨n', hn'⟩ := hm
    obtain ⟨N, hNn, ⟨hN1, hN2, hF⟩, hmin⟩ := leastC (fun n => 1 ≤ n ∧ n ≤ 10001 ∧ chSeq c x n = chSeq c x (2 * n)) n' hn'
    obtain ⟨k0, n0, hn0, M⟩ := meetC_of (show N < 2 * N by omega) hF
    have hlt := M.ltC
    obtain ⟨p, rfl⟩ : ∃ p, n0 = k0 + p := ⟨n0 - k0, by omega⟩
    refine ⟨chRes k0 p, fun k hk => ?_, fun k hk => ?_⟩
    · rw [hspec k hk]
      exact chain_l0 hc h4 x0 x1 (by omega) M hN1 hN2 hF (fun n a b e => hmin n b ⟨a, by omega, e⟩) (N - 1) (k - 1) 1 (by omega) (by omega) (by omega)
    · rw [himpl k]
      unfold chRes
      by_cases h5 : k0 + p ≤ 5000
      · rw [if_neg (by omega), chLoop_yes hc h4 x0 x1 M h5 (k0 + p - 1) k 0 (by omega) (by omega), show ((k0 + p : Nat) : Int) - (k0 : Int) = (p : Int) by omega]
      · rw [if_pos (by omega)]
        exact chLoop_no hc h4 x0 x1 (fun i j a b => M.neC i j a (by omega)) 5000 k 0 (by omega) (by omega)
  · have hno : ∀ n, 1 ≤ n → n ≤ 10001 → chSeq c x n ≠ chSeq c x (2 * n) := fun n a b e => hm ⟨n, a, b, e⟩
    refine ⟨(0, 0, false), fun k hk => ?_, fun k hk => ?_⟩
    · rw [hspec k hk]
      exact chain_l0_no hc h4 x0 x1 hno 10000 (k - 1) 1 (by omega) (by omega) (by omega)
    · rw [himpl k]
      refine chLoop_no hc h4 x0 x1 (fun i j a b e => ?_) 5000 k 0 (by omega) (by omega)
      obtain ⟨k0, n0, hn0, M⟩ := meetC_of a e
      have hlt := M.ltC
      obtain ⟨p, rfl⟩ : ∃ p, n0 = k0 + p := ⟨n0 - k0, by omega⟩
      obtain ⟨n, q1, q2, q3⟩ := floydC (g := fun l => chStep c l x) hg M
      exact hno n q1 (by omega) q3
theorem PeriodOfChain_same (l : List SLaw) (x : Int) (_w0 : l.length ≤ maxLen) (_w1 : ∀ x ∈ l, (Lit.int .i64 x.f0).wf = true ∧ (Lit.int .i64 x.f1).wf = true ∧ (Lit.int .i64 x.f2).wf = true ∧ (Lit.int .i64 x.f3).wf = true) (_w2 : (Lit.int .i64 x).wf = true) (hl : l.length ≤ 1048576) : ∃ R : Int × Int × Bool, (∀ k, 4000000 ≤ k → spec_PeriodOfChain.f k (sconv l) x = some R) ∧ (∀ k, 4000000 ≤ k → impl_PeriodOfChain.f k (sconv l) x = some R) := by
  have hc : (sconv l).length ≤ 1048576 := by rw [sconv_length]; exact hl
  generalize sconv l = c at hc
  by_cases hcB : chainB c = true
  · by_cases hx : inR 0 60 x = true
    · exact PeriodOfChain_in c x hcB hx hc
    · refine ⟨(0, 0, false), fun k hk => ?_, fun k hk => ?_⟩
      · obtain ⟨k, rfl⟩ : ∃ m, k = m + 1 := ⟨k - 1, by omega⟩
        unfold spec_PeriodOfChain.f
        rw [siChain_ok c (k + 1) hc (by omega), Option.bind_some, if_pos hcB, siInflow_ok, Option.bind_some, Bool.eq_false_iff.mpr hx, Bool.not_false]
        simp only [spec_PeriodOfChain.j0]
        rw [if_pos trivial]
      · unfold impl_PeriodOfChain.f
        rw [isChain_ok c hc, Option.bind_some, if_pos hcB, isInflow_ok, Option.bind_some, if_neg hx]
  · refine ⟨(0, 0, false), fun k hk => ?_, fun k hk => ?_⟩
    · obtain ⟨k, rfl⟩ : ∃ m, k = m + 1 := ⟨k - 1, by omega⟩
      unfold spec_PeriodOfChain.f
      rw [siChain_ok c (k + 1) hc (by omega), Option.bind_some, if_neg hcB]
      simp only [spec_PeriodOfChain.j0]
      rw [if_pos trivial]
    · unfold impl_PeriodOfChain.f
      rw [isChain_ok c hc, Option.bind_some, if_neg hcB]

theorem FnExactPeriodOfChain : ∀ (l0 : List S24) (a1 : Int), l0.length ≤ maxLen → (∀ x ∈ l0, (Lit.int .i64 x.f0).wf = true ∧ (Lit.int .i64 x.f1).wf = true ∧ (Lit.int .i64 x.f2).wf = true ∧ (Lit.int .i64 x.f3).wf = true) → (Lit.int .i64 a1).wf = true → ∃ k, laws_FnExactPeriodOfChain.f k l0 a1 = some true := by
  intro l0 a1 w0 w1 w2
  have sz := szSiphonS_ok l0 w0
  by_cases big : l0.length ≤ 1048576
  case neg =>
    rw [if_neg big] at sz
    refine ⟨0, ?_⟩
    unfold laws_FnExactPeriodOfChain.f
    rw [sz, Option.bind_some, if_pos (by omega)]
  rw [if_pos big] at sz
  have lt : ((1048576 : Int) - (l0.length : Int) < 0) = False := eq_false (by omega)
  have cl : (sconv l0).length ≤ 1048576 := by rw [sconv_length]; exact big
  obtain ⟨R, hs, hi⟩ := PeriodOfChain_same l0 a1 w0 w1 w2 big
  obtain ⟨K, hK⟩ : ∃ K, K = 10000000000000 := ⟨_, rfl⟩
  refine ⟨K + 9, ?_⟩
  simp (disch := omega) only [laws_FnExactPeriodOfChain.f, hs, hi, sz, lt, toSiphonS_ok, eqSiphonS_ok, Option.bind_some, bne_self_eq_false, Bool.false_eq_true, eq_self, if_true, if_false]
  simp (disch := omega) only [laws_FnExactPeriodOfChain.j0, hs, hi, sz, lt, toSiphonS_ok, eqSiphonS_ok, Option.bind_some, bne_self_eq_false, Bool.false_eq_true, eq_self, if_true, if_false]

end Go.Proofs.Ytbpkfdclplcbaaa.Pure
