/- What the Go functions of this seat compute, each with the proof that its call computes it; laid by a program of this session (wip/tools/ownprint.py), for all inputs. -/
import Derived.Test.YtcalhmjnoahliaaPr0
import Derived.Test.YtcalhmjnoahliaaPr6
namespace Go.Proofs.Ytcalhmjnoahliaa.Pr
open Go.RowKit Go.Proofs.YtcalhmjnoahliaaW.PrintWords Go.Proofs.YtcalhmjnoahliaaW.PrintLast Go.Proofs.YtcalhmjnoahliaaW.PrintMore
attribute [local go_sem] max2_int min2_int max_two min_two max_three min_three max_four min_four   -- for this text's walks alone
set_option linter.unusedVariables false
set_option linter.unusedSimpArgs false

/-! ### impl_runRow: function 77 -/
def impl_runRow.l0 : Nat → List (S59) → List Int → Int → Int → List (List (S59)) → List (List Int) → List Int → Option ((List (List (S59))) × (List (List Int)) × List Int)
  | 0, _, _, _, _, _, _, _ => none
  | k + 1, x0, x15, x16, x17, x225000, x225001, x225002 => if x17 < x16 then (if 0 ≤ x17 then (if x17 < (x15.length : Int) then ((impl_tickRow.f k x0 (rd x15 x17)).bind fun bt226 => ((some (([bt226.1] : List (List (S59))) : List (List (S59)))).bind fun y233 => (if x225000.length + y233.length < 5864062014805 then ((some (([bt226.2.1] : List (List Int)) : List (List Int))).bind fun y239 => (if x225001.length + y239.length < 5864062014805 then ((some (([bt226.2.2] : List Int) : List Int)).bind fun y245 => (if x225002.length + y245.length < 17592186044416 then (impl_runRow.l0 k bt226.1 x15 x16 (wrap64 (x17 + 1)) (x225000 ++ y233) (x225001 ++ y239) (x225002 ++ y245)) else (none))) else (none))) else (none)))) else (none)) else (none)) else (some (x225000, x225001, x225002))
def impl_runRow.f (k : Nat) (l0 : List (S59)) (l1 : List Int) : Option ((List (List (S59))) × (List (List Int)) × List Int) := (impl_Basin_82.f l0).bind fun t218 => (impl_runRow.l0 k l0 l1 (l1.length : Int) 0 (([t218] : List (List (S59)))) ([] : List (List Int)) ([] : List Int))
theorem impl_runRow.mono_l : ∀ k, (∀ y0 y1 y2 y3 y4 y5 y6, LeO (impl_runRow.l0 k y0 y1 y2 y3 y4 y5 y6) (impl_runRow.l0 (k + 1) y0 y1 y2 y3 y4 y5 y6))
  | 0 => fun _ _ _ _ _ _ _ r h => by simp [impl_runRow.l0] at h
  | k + 1 => by
    have ih0 := impl_runRow.mono_l k
    · intro y0 y1 y2 y3 y4 y5 y6
      unfold impl_runRow.l0
      repeat' first
      | (with_reducible exact ih0 _ _ _ _ _ _ _)
      | (with_reducible exact impl_tickRow.mono _ _ _)
      | (with_reducible exact LeO.refl _)
      | (with_reducible exact LeO.none _)
      | (with_reducible refine LeO.ite ?_ ?_)
      | (with_reducible refine LeO.bind ?_ (fun _ => ?_))
      | exact ih0 _ _ _ _ _ _ _
      | exact impl_tickRow.mono _ _ _
      | exact LeO.none _
      | refine LeO.ite ?_ ?_
      | refine LeO.bind ?_ (fun _ => ?_)
theorem impl_runRow.mono : ∀ a0 a1 k, LeO (impl_runRow.f k a0 a1) (impl_runRow.f (k + 1) a0 a1) := by
  intro a0 a1 k
  have ih0 := impl_runRow.mono_l k
  unfold impl_runRow.f
  repeat' first
      | (with_reducible exact ih0 _ _ _ _ _ _ _)
      | (with_reducible exact impl_tickRow.mono _ _ _)
      | (with_reducible exact LeO.refl _)
      | (with_reducible exact LeO.none _)
      | (with_reducible refine LeO.ite ?_ ?_)
      | (with_reducible refine LeO.bind ?_ (fun _ => ?_))
      | exact ih0 _ _ _ _ _ _ _
      | exact impl_tickRow.mono _ _ _
      | exact LeO.none _
      | refine LeO.ite ?_ ?_
      | refine LeO.bind ?_ (fun _ => ?_)
def impl_runRow.T6 : Bool × List (List Nat × List Nat) := (true, [([], []), ([0], [0]), ([], []), ([2], [2]), ([1, 3], [1, 3]), ([], []), ([5], [5]), ([], []), ([7], [7]), ([6, 8, 4], [6, 8]), ([], []), ([10], [10]), ([], []), ([12], [12]), ([11, 13, 9], [11, 13]), ([0, 1, 2, 3, 4, 5, 6, 10, 11], []), ([15, 4, 14, 0, 1, 2, 3, 4, 5, 6, 10, 11], [4, 15]), ([0, 1, 2, 3, 4, 5, 6, 7, 8, 9, 10, 11, 15, 16], []), ([17, 9, 16, 0, 1, 2, 3, 4, 5, 6, 7, 8, 9, 10, 11, 15, 16], [9, 17]), ([0, 1, 2, 3, 4, 5, 6, 7, 8, 9, 10, 11, 12, 13, 14, 15, 16, 17, 18], []), ([19, 14, 18, 0, 1, 2, 3, 4, 5, 6, 7, 8, 9, 10, 11, 12, 13, 14, 15, 16, 17, 18], [14, 19])])
def impl_runRow.B6 : List Nat := [0, 1, 0, 4, 15, 0, 32, 0, 128, 511, 0, 1024, 0, 4096, 16383, 3199, 65535, 131071, 262143, 524287, 1048575]
theorem impl_runRow.tab6 : rtab .any (opsOf Try.f77 6) = impl_runRow.T6 := by kernel_rfl
theorem impl_runRow.bits6 : waitsOk impl_runRow.T6.2 impl_runRow.B6 = true := by kernel_rfl

end Go.Proofs.Ytcalhmjnoahliaa.Pr
