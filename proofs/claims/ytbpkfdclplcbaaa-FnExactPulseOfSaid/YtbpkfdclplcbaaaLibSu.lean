/- A siphon with a steady inflow, as the program runs it: what it keeps until a level comes again. -/
import Derived.Test.YtbpkfdclplcbaaaLibS
import Derived.Test.YtbpkfdclplcbaaaLibSi
import Derived.Test.YtbpkfdclplcbaaaLibSt
import Derived.Test.YtbpkfdclplcbaaaLibW
import Derived.Test.YtbpkfdclplcbaaaPr4
import Derived.Test.YtbpkfdclplcbaaaPr7
namespace Go.Proofs.Ytbpkfdclplcbaaa.Pure
open Go.RowKit Go.Proofs.Ytbpkfdclplcbaaa.Pr Go.Proofs.YtbpkfdclplcbaaaW.PrintWords Go.Proofs.YtbpkfdclplcbaaaW.PrintLast
set_option linter.unusedVariables false
set_option linter.unusedSimpArgs false

theorem wf_small {a : Int} (h0 : 0 ≤ a) (h1 : a ≤ 1000) : (Lit.int .i64 a).wf = true := by
  have e1 : IntKind.i64.min = -9223372036854775808 := by decide
  have e2 : IntKind.i64.max = 9223372036854775807 := by decide
  simp [Lit.wf, e1, e2]
  omega
/-- What the map holds behind n ticks. -/
def mpOf (z lo st fl x : Int) (n : Nat) : List (LV × Int) := (List.range n).map (fun i : Nat => (lvl z lo st fl x i, (i : Int)))
theorem mpOf_len (z lo st fl x : Int) (n : Nat) : (mpOf z lo st fl x n).length = n := by simp [mpOf]
theorem mpOf_succ (z lo st fl x : Int) (n : Nat) : mpOf z lo st fl x (n + 1) = mpOf z lo st fl x n ++ [(lvl z lo st fl x n, (n : Int))] := by simp [mpOf, List.range_succ]
theorem look_none (y : LV) : ∀ (m : List (LV × Int)) (j : Nat), (∀ p ∈ m, p.1 ≠ y) → mpLook y j m = none
  | [], _, _ => rfl
  | (a, n) :: r, j, h => by
    unfold mpLook
    rw [if_neg (fun q => h (a, n) (by simp) ((lv_beq y a).1 q).symm)]
    exact look_none y r (j + 1) (fun p hp => h p (by simp [hp]))
theorem look_app (y : LV) : ∀ (m r : List (LV × Int)) (j : Nat), (∀ p ∈ m, p.1 ≠ y) → mpLook y j (m ++ r) = mpLook y (j + m.length) r
  | [], r, j, _ => by simp
  | (a, n) :: m, r, j, h => by
    have e : mpLook y j ((a, n) :: m ++ r) = if (y.f0 == a.f0 && (y.f1 == a.f1)) = true then some (j, n) else mpLook y (j + 1) (m ++ r) := rfl
    rw [e, if_neg (fun q => h (a, n) (by simp) ((lv_beq y a).1 q).symm), look_app y m r (j + 1) (fun p hp => h p (by simp [hp])), show j + 1 + m.length = j + ((a, n) :: m).length by simp; omega]
theorem get_none (z lo st fl x : Int) (n : Nat) (y : LV) (h : ∀ i, i < n → lvl z lo st fl x i ≠ y) : mpGet y (mpOf z lo st fl x n) = none := by
  unfold mpGet
  rw [look_none y _ 0 (fun p hp => by
    obtain ⟨i, hi, rfl⟩ := List.mem_map.1 hp
    exact h i (List.mem_range.1 hi))]
  rfl
theorem get_some (z lo st fl x : Int) (n k : Nat) (y : LV) (hk : k < n) (he : lvl z lo st fl x k = y) (h : ∀ i, i < k → lvl z lo st fl x i ≠ y) : mpGet y (mpOf z lo st fl x n) = some (k : Int) := by
  have e : mpOf z lo st fl x n = mpOf z lo st fl x k ++ (lvl z lo st fl x k, (k : Int)) :: ((List.range (n - k - 1)).map fun i : Nat => (lvl z lo st fl x (k + 1 + i), ((k + 1 + i : Nat) : Int))) := by
    obtain ⟨d, rfl⟩ : ∃ d, n = k + 1 + d := ⟨n - k - 1, by omega⟩
    unfold mpOf
    rw [show k + 1 + d - k - 1 = d by omega, List.range_add, List.map_append, List.range_succ, List.map_append]
    simp [Function.comp_def]
  unfold mpGet
  rw [e, look_app y _ _ 0 (fun p hp => by
    obtain ⟨i, hi, rfl⟩ := List.mem_map.1 hp
    exact h i (List.mem_range.1 hi))]
  unfold mpLook
  rw [if_pos ((lv_beq _ _).2 he.symm)]
  rfl
def lvO (z lo st fl x : Int) (n : Nat) : List Int := (List.range n).map (lvo z lo st fl x)
def lvP (z lo st fl x : Int) (n : Nat) : List Int := (List.range n).map (lvs z lo st fl x)
theorem lvO_succ (z lo st fl x : Int) (n : Nat) : lvO z lo st fl x (n + 1) = lvO z lo st fl x n ++ [lvo z lo st fl x n] := by simp [lvO, List.range_succ]
theorem lvP_succ (z lo st fl x : Int) (n : Nat) : lvP z lo st fl x (n + 1) = lvP z lo st fl x n ++ [lvs z lo st fl x n] := by simp [lvP, List.range_succ]
theorem steady_l0 {z lo st fl x : Int} {k0 n0 : Nat} (hs : siphB z lo st fl = true) (x0 : 0 ≤ x) (x1 : x ≤ 60) (M : Meet z lo st fl x k0 n0) : ∀ (d k n : Nat), n + d + 1 = n0 → d < k →
    impl_steadyOf.l0 k x z lo st fl (lvS z lo st fl x (n + 1)) (lvO z lo st fl x n) (lvP z lo st fl x n) (mpOf z lo st fl x (n + 1)) (lvl z lo st fl x n).f0 (lvl z lo st fl x n).f1 = some (lvS z lo st fl x (n0 + 1), lvO z lo st fl x n0, lvP z lo st fl x n0, (k0 : Int), true) := by
  have hle := M.le
  have hlt := M.lt
  obtain ⟨a1, a2, a3, a4, a5, a6, a7⟩ := siphB_get hs
  intro d
  induction d with
  | zero =>
    intro k n hn hk
    obtain ⟨k, rfl⟩ : ∃ m, k = m + 1 := ⟨k - 1, by omega⟩
    obtain ⟨b0, b1⟩ := lvl_bd hs x0 x1 n
    obtain ⟨c0, c1⟩ := lvl_bd hs x0 x1 (n + 1)
    have l1 := lvS_len z lo st fl x (n + 1)
    have l2 : (lvO z lo st fl x n).length = n := by simp [lvO]
    have l3 : (lvP z lo st fl x n).length = n := by simp [lvP]
    have hw : (Lit.int .i64 (tk z lo st fl (lvl z lo st fl x n).f0 (lvl z lo st fl x n).f1 x).1).wf = true := wf_small c0 (by show (lvl z lo st fl x (n + 1)).f0 ≤ 1000; omega)
    obtain rfl : n0 = n + 1 := by omega
    have hg := get_some z lo st fl x (n + 1) k0 (lvl z lo st fl x (n + 1)) hlt M.eq (fun i hi he => M.ne i k0 hi hlt (he.trans M.eq.symm))
    simp only [impl_steadyOf.l0]
    rw [Siphon_tick_ok hs b0 b1 x0 x1, Option.bind_some, Option.bind_some, if_pos (by simp; omega), Option.bind_some, Option.bind_some, if_pos (by simp; omega), Option.bind_some, Option.bind_some, if_pos (by simp; omega), Option.bind_some, if_pos hw]
    have e : (⟨(tk z lo st fl (lvl z lo st fl x n).f0 (lvl z lo st fl x n).f1 x).1, (tk z lo st fl (lvl z lo st fl x n).f0 (lvl z lo st fl x n).f1 x).2.1⟩ : LV) = lvl z lo st fl x (n + 1) := rfl
    rw [e, hg, if_pos (show (some (k0 : Int)).isSome = true from rfl), lvS_succ z lo st fl x (n + 1), lvO_succ, lvP_succ]
    rfl
  | succ d ih =>
    intro k n hn hk
    obtain ⟨k, rfl⟩ : ∃ m, k = m + 1 := ⟨k - 1, by omega⟩
    obtain ⟨b0, b1⟩ := lvl_bd hs x0 x1 n
    obtain ⟨c0, c1⟩ := lvl_bd hs x0 x1 (n + 1)
    have l1 := lvS_len z lo st fl x (n + 1)
    have l2 : (lvO z lo st fl x n).length = n := by simp [lvO]
    have l3 : (lvP z lo st fl x n).length = n := by simp [lvP]
    have hw : (Lit.int .i64 (tk z lo st fl (lvl z lo st fl x n).f0 (lvl z lo st fl x n).f1 x).1).wf = true := wf_small c0 (by show (lvl z lo st fl x (n + 1)).f0 ≤ 1000; omega)
    have hg := get_none z lo st fl x (n + 1) (lvl z lo st fl x (n + 1)) (fun i hi => M.ne i (n + 1) hi (by omega))
    have hi := ih k (n + 1) (by omega) (by omega)
    simp only [impl_steadyOf.l0]
    rw [Siphon_tick_ok hs b0 b1 x0 x1, Option.bind_some, Option.bind_some, if_pos (by simp; omega), Option.bind_some, Option.bind_some, if_pos (by simp; omega), Option.bind_some, Option.bind_some, if_pos (by simp; omega), Option.bind_some, if_pos hw]
    have e : (⟨(tk z lo st fl (lvl z lo st fl x n).f0 (lvl z lo st fl x n).f1 x).1, (tk z lo st fl (lvl z lo st fl x n).f0 (lvl z lo st fl x n).f1 x).2.1⟩ : LV) = lvl z lo st fl x (n + 1) := rfl
    rw [e, hg, if_neg (by simp), if_pos (show (none : Option Int) = none from rfl)]
    have el : wrap64 (((lvS z lo st fl x (n + 1) ++ [lvl z lo st fl x (n + 1)]).length : Int) - 1) = ((n + 1 : Nat) : Int) := by
      rw [List.length_append, l1]
      simp only [List.length_singleton]
      rw [w64 (by omega) (by omega)]
      omega
    rw [el, ← mpOf_succ, ← lvS_succ]
    rw [lvO_succ, lvP_succ] at hi
    exact hi
theorem steady_ok {z lo st fl x : Int} {k0 n0 : Nat} (hs : siphB z lo st fl = true) (x0 : 0 ≤ x) (x1 : x ≤ 60) (M : Meet z lo st fl x k0 n0) (k : Nat) (hk : 1000 ≤ k) :
    impl_steadyOf.j0 k x false z lo st fl = some (lvS z lo st fl x (n0 + 1), lvO z lo st fl x n0, lvP z lo st fl x n0, (k0 : Int), true) := by
  have hle := M.le
  have hlt := M.lt
  obtain ⟨k, rfl⟩ : ∃ m, k = m + 1 := ⟨k - 1, by omega⟩
  simp only [impl_steadyOf.j0]
  rw [if_neg (by decide), if_pos (by decide), if_pos (show mpGet (⟨0, false⟩ : LV) [] = none from rfl)]
  exact steady_l0 hs x0 x1 M (n0 - 1) k 0 (by omega) (by omega)

theorem steadyF_yes {z lo st fl x : Int} {k0 n0 : Nat} (hs : siphB z lo st fl = true) (hx : inR 0 60 x = true) (M : Meet z lo st fl x k0 n0) (k : Nat) (hk : 1000 ≤ k) :
    impl_steadyOf.f k z lo st fl x = some (lvS z lo st fl x (n0 + 1), lvO z lo st fl x n0, lvP z lo st fl x n0, (k0 : Int), true) := by
  have hx' := (inR_iff _ _ _).1 hx
  unfold impl_steadyOf.f impl_isInflow.f
  simp only [IsSiphon_ok, Option.bind_some, hs, if_true, within_okR, hx, Bool.not_true]
  exact steady_ok hs hx'.1 hx'.2 M k hk
theorem steadyF_no {z lo st fl x : Int} (h : (siphB z lo st fl && inR 0 60 x) = false) (k : Nat) (hk : 1 ≤ k) : impl_steadyOf.f k z lo st fl x = some ([], [], [], 0, false) := by
  obtain ⟨k, rfl⟩ : ∃ m, k = m + 1 := ⟨k - 1, by omega⟩
  have j : impl_steadyOf.j0 (k + 1) x true z lo st fl = some ([], [], [], 0, false) := by
    simp only [impl_steadyOf.j0]
    rw [if_pos trivial]
  unfold impl_steadyOf.f impl_isInflow.f
  rw [IsSiphon_ok, Option.bind_some]
  by_cases hs : siphB z lo st fl = true
  · rw [if_pos hs, within_okR, Option.bind_some, Option.bind_some]
    have hx : inR 0 60 x = false := by
      rw [hs, Bool.true_and] at h
      exact h
    rw [hx]
    exact j
  · rw [if_neg hs]
    exact j

end Go.Proofs.Ytbpkfdclplcbaaa.Pure
