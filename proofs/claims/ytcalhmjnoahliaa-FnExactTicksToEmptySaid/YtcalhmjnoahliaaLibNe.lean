/- Comparing two rows of basins, and the list of what they hold. -/
import Derived.Test.YtcalhmjnoahliaaLibBS
import Derived.Test.YtcalhmjnoahliaaPr0
namespace Go.Proofs.Ytcalhmjnoahliaa.Pure
open Go.RowKit Go.Proofs.Ytcalhmjnoahliaa.Pr Go.Proofs.YtcalhmjnoahliaaW.PrintWords Go.Proofs.YtcalhmjnoahliaaW.PrintLast
set_option linter.unusedVariables false
set_option linter.unusedSimpArgs false

def neB (x y : BI) : Bool := !(x.f0 == y.f0) || (!(x.f1 == y.f1) || !(x.f2 == y.f2))
def neL : List BI → List BI → Bool
  | x :: xs, y :: ys => neB x y || neL xs ys
  | _, _ => false
theorem neB_eq (x y : BI) : neB x y = false ↔ x = y := by
  obtain ⟨a, b, c⟩ := x
  obtain ⟨d, e, f⟩ := y
  unfold neB
  simp
theorem neL_eq : ∀ (x y : List BI), x.length = y.length → (neL x y = false ↔ x = y)
  | [], [], _ => by simp [neL]
  | [], y :: ys, h => by simp at h
  | x :: xs, [], h => by simp at h
  | x :: xs, y :: ys, h => by
    have ih := neL_eq xs ys (by simpa using h)
    unfold neL
    rw [Bool.or_eq_false_iff, neB_eq, ih, List.cons.injEq]
theorem neL_drop (x y : List BI) (j : Nat) (hj : j < x.length) (h : x.length = y.length) : neL (x.drop j) (y.drop j) = (neB (rd_T59 x (j : Int)) (rd_T59 y (j : Int)) || neL (x.drop (j + 1)) (y.drop (j + 1))) := by
  rw [drop_rdB x j hj, drop_rdB y j (by omega)]
  rfl
def helds (l : List BI) : List Int := l.map (fun x => x.f2)

end Go.Proofs.Ytcalhmjnoahliaa.Pure
