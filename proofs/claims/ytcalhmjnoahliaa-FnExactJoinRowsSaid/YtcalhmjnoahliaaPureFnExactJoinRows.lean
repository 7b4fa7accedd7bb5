/- The program's JoinRows and the reference's tell the same; the arguments are left, the result is its own. It holds for all inputs that the statement lets in. -/
import Derived.Test.YtcalhmjnoahliaaLibBS
import Derived.Test.YtcalhmjnoahliaaLibCcB
import Derived.Test.YtcalhmjnoahliaaLibMB
import Derived.Test.YtcalhmjnoahliaaLibW
import Derived.Test.YtcalhmjnoahliaaPr0
import Derived.Test.YtcalhmjnoahliaaPr12
import Derived.Test.YtcalhmjnoahliaaPr26
import Derived.Test.YtcalhmjnoahliaaPr27
import Derived.Test.YtcalhmjnoahliaaPr3
namespace Go.Proofs.Ytcalhmjnoahliaa.Pure
open Go.RowKit Go.Proofs.Ytcalhmjnoahliaa.Pr Go.Proofs.YtcalhmjnoahliaaW.PrintWords Go.Proofs.YtcalhmjnoahliaaW.PrintLast
set_option linter.unusedVariables false
set_option linter.unusedSimpArgs false

/-- n basins of marks, from a on: three numbers each. -/
def sqBa (a : Int) (n : Nat) : List BI := (List.range n).map (fun m : Nat => ⟨a + 3 * (m : Int), a + 3 * (m : Int) + 1, a + 3 * (m : Int) + 1 + 1⟩)
theorem sqBa_get (a : Int) (n m : Nat) (h : m < n) : (sqBa a n)[m]? = some ⟨a + 3 * (m : Int), a + 3 * (m : Int) + 1, a + 3 * (m : Int) + 1 + 1⟩ := by simp [sqBa, h]
theorem markBasinS_froml0 (a : Int) (a0 : 0 ≤ a) (a1 : a ≤ 100000000) (n : Nat) (hn : n ≤ 1048576) : ∀ (d k : Nat) (x : List BI) (j : Nat), n - j = d → d < k → j ≤ n → x.length = n →
    (∀ m, m < j → x[m]? = (sqBa a n)[m]?) → laws_markBasinS.l0 k x (a + 3 * (j : Int)) (j : Int) = some (a + 3 * (n : Int), sqBa a n) := by
  intro d
  induction d with
  | zero =>
    intro k x j hd hk hj hlen hm
    obtain ⟨k, rfl⟩ : ∃ m, k = m + 1 := ⟨k - 1, by omega⟩
    simp only [laws_markBasinS.l0]
    rw [if_neg (by omega)]
    have e : j = n := by omega
    subst e
    congr 2
    apply List.ext_getElem?
    intro i
    by_cases h : i < j
    · exact hm i h
    · rw [List.getElem?_eq_none (by omega), List.getElem?_eq_none (by simp [sqBa]; omega)]
  | succ d ih =>
    intro k x j hd hk hj hlen hm
    obtain ⟨k, rfl⟩ : ∃ m, k = m + 1 := ⟨k - 1, by omega⟩
    simp only [laws_markBasinS.l0]
    have e : ((j : Int)).toNat = j := by omega
    have s0 : j < x.length := by omega
    simp only [Option.bind_some]
    rw [if_pos (by omega), if_pos (by omega), e, w64 (i := a + 3 * (j : Int) + 1) (by omega) (by omega), w64 (i := a + 3 * (j : Int) + 1 + 1) (by omega) (by omega), w64 (i := a + 3 * (j : Int) + 1 + 1 + 1) (by omega) (by omega), w64 (i := (j : Int) + 1) (by omega) (by omega)]
    simp only [rdB_set _ _ _ s0, List.set_set]
    have := ih k (x.set j ⟨a + 3 * (j : Int), a + 3 * (j : Int) + 1, a + 3 * (j : Int) + 1 + 1⟩) (j + 1) (by omega) (by omega) (by omega) (by simpa using hlen) ?_
    · rw [show a + 3 * (j : Int) + 1 + 1 + 1 = a + 3 * ((j + 1 : Nat) : Int) by omega, show (j : Int) + 1 = ((j + 1 : Nat) : Int) by omega]
      exact this
    · intro m h
      by_cases hmj : m = j
      · subst hmj
        rw [List.getElem?_set_self (by omega), sqBa_get a n m (by omega)]
      · rw [List.getElem?_set_ne (by omega)]
        exact hm m (by omega)
theorem markBasinS_from (l m : List BI) (k : Nat) (hm : m.length ≤ 1048576) (hl : l.length ≤ 1048576) (hk : 2000000 ≤ k) : laws_markBasinS.f k l (1 + 3 * (m.length : Int)) = some (1 + 3 * (m.length : Int) + 3 * (l.length : Int), sqBa (1 + 3 * (m.length : Int)) l.length) := by
  unfold laws_markBasinS.f
  have := markBasinS_froml0 (1 + 3 * (m.length : Int)) (by omega) (by omega) l.length hl l.length k l 0 (by omega) (by omega) (by omega) rfl (fun m h => by omega)
  simpa using this
theorem szBasinS_from (l : List BL) (hl : l.length ≤ maxLen) (a : Int) (h0 : 0 ≤ a) (h1 : a ≤ 1048576) : laws_szBasinS.f l a = some (if (l.length : Int) ≤ a then a - (l.length : Int) else -1) := by
  unfold maxLen at hl
  unfold laws_szBasinS.f
  rw [w64 (by omega) (by omega)]
  by_cases h : a - (l.length : Int) < 0
  · rw [if_pos h, if_neg (by omega)]
  · rw [if_neg h, if_pos (by omega)]
theorem JoinRows_same (l m : List BL) (_w0 : l.length ≤ maxLen) (_w1 : ∀ x ∈ l, (Lit.int .i64 x.f0).wf = true ∧ (Lit.int .i64 x.f1).wf = true ∧ (Lit.int .i64 x.f2).wf = true) (_w2 : m.length ≤ maxLen) (_w3 : ∀ x ∈ m, (Lit.int .i64 x.f0).wf = true ∧ (Lit.int .i64 x.f1).wf = true ∧ (Lit.int .i64 x.f2).wf = true) (hl : l.length ≤ 1048576) (hm : m.length ≤ 1048576) :
    ∃ R : List BI × Bool, (∀ k, 4000000 ≤ k → spec_JoinRows.f k (bconv l) (bconv m) = some R) ∧ (∀ k, 4000000 ≤ k → impl_JoinRows.f k (bconv l) (bconv m) = some R) ∧ R.1.length ≤ 1048576 := by
  have hc : (bconv l).length ≤ 1048576 := by rw [bconv_length]; exact hl
  have hd : (bconv m).length ≤ 1048576 := by rw [bconv_length]; exact hm
  generalize bconv l = L at hc
  generalize bconv m = M at hd
  by_cases h1 : rowB L = true
  · obtain ⟨a1, a2, a3⟩ := rowB_get h1
    by_cases h2 : rowB M = true
    · obtain ⟨b1, b2, b3⟩ := rowB_get h2
      by_cases h3 : (L.length : Int) + (M.length : Int) > 6
      · refine ⟨([], false), fun k hk => ?_, fun k hk => ?_, by simp⟩
        · unfold spec_JoinRows.f
          rw [weRow_ok _ k hc (by omega), Option.bind_some, if_pos h1, weRow_ok _ k hd (by omega), Option.bind_some, if_pos h2, w64 (by omega) (by omega), if_pos h3]
        · unfold impl_JoinRows.f
          rw [IsRow_ok _ hc, Option.bind_some, if_pos h1, IsRow_ok _ hd, Option.bind_some, if_pos h2, w64 (by omega) (by omega), if_pos h3]
      · refine ⟨(L ++ M, true), fun k hk => ?_, fun k hk => ?_, by simp; omega⟩
        · unfold spec_JoinRows.f
          rw [weRow_ok _ k hc (by omega), Option.bind_some, if_pos h1, weRow_ok _ k hd (by omega), Option.bind_some, if_pos h2, w64 (by omega) (by omega), if_neg h3, Option.bind_some, if_pos (by simp only [List.length_nil]; omega), Option.bind_some, if_pos (by simp; omega)]
          rfl
        · unfold impl_JoinRows.f
          rw [IsRow_ok _ hc, Option.bind_some, if_pos h1, IsRow_ok _ hd, Option.bind_some, if_pos h2, w64 (by omega) (by omega), if_neg h3, concatB_ok L M k (by omega) (by omega) (by omega), Option.bind_some]
    · refine ⟨([], false), fun k hk => ?_, fun k hk => ?_, by simp⟩
      · unfold spec_JoinRows.f
        rw [weRow_ok _ k hc (by omega), Option.bind_some, if_pos h1, weRow_ok _ k hd (by omega), Option.bind_some, if_neg h2]
      · unfold impl_JoinRows.f
        rw [IsRow_ok _ hc, Option.bind_some, if_pos h1, IsRow_ok _ hd, Option.bind_some, if_neg h2]
  · refine ⟨([], false), fun k hk => ?_, fun k hk => ?_, by simp⟩
    · unfold spec_JoinRows.f
      rw [weRow_ok _ k hc (by omega), Option.bind_some, if_neg h1]
    · unfold impl_JoinRows.f
      rw [IsRow_ok _ hc, Option.bind_some, if_neg h1]

theorem FnExactJoinRows : ∀ (l0 : List S61) (l1 : List S61), l0.length ≤ maxLen → (∀ x ∈ l0, (Lit.int .i64 x.f0).wf = true ∧ (Lit.int .i64 x.f1).wf = true ∧ (Lit.int .i64 x.f2).wf = true) → l1.length ≤ maxLen → (∀ x ∈ l1, (Lit.int .i64 x.f0).wf = true ∧ (Lit.int .i64 x.f1).wf = true ∧ (Lit.int .i64 x.f2).wf = true) → ∃ k, laws_FnExactJoinRows.f k l0 l1 = some true := by
  intro l0 l1 w0 w1 w2 w3
  have sz := szBasinS_ok l0 w0
  by_cases big : l0.length ≤ 1048576
  case neg =>
    rw [if_neg big] at sz
    refine ⟨0, ?_⟩
    unfold laws_FnExactJoinRows.f
    rw [sz, Option.bind_some, if_pos (by omega)]
  rw [if_pos big] at sz
  have lt : ((1048576 : Int) - (l0.length : Int) < 0) = False := eq_false (by omega)
  have sz2 := szBasinS_from l1 w2 (1048576 - (l0.length : Int)) (by omega) (by omega)
  by_cases big2 : (l1.length : Int) ≤ 1048576 - (l0.length : Int)
  case neg =>
    rw [if_neg big2] at sz2
    refine ⟨0, ?_⟩
    unfold laws_FnExactJoinRows.f
    rw [sz, Option.bind_some, if_neg (by omega), sz2, Option.bind_some, if_pos (by omega)]
  rw [if_pos big2] at sz2
  have lt2 : ((1048576 : Int) - (l0.length : Int) - (l1.length : Int) < 0) = False := eq_false (by omega)
  have cl : (bconv l0).length ≤ 1048576 := by rw [bconv_length]; exact big
  have cl2 : (bconv l1).length ≤ 1048576 := by rw [bconv_length]; omega
  have big3 : l1.length ≤ 1048576 := by omega
  have q1 : ∀ n : Nat, ((1 : Int) + 3 * (n : Int) < 0) = False := fun n => eq_false (by omega)
  have q2 : ∀ n m : Nat, ((1 : Int) + 3 * (n : Int) + 3 * (m : Int) < 0) = False := fun n m => eq_false (by omega)
  obtain ⟨R, hs, hi, hR⟩ := JoinRows_same l0 l1 w0 w1 w2 w3 big big3
  obtain ⟨K, hK⟩ : ∃ K, K = 10000000000000 := ⟨_, rfl⟩
  refine ⟨K + 9, ?_⟩
  have n1 : ∀ n : Nat, ((1 : Int) + (n : Int) < 0) = False := fun n => eq_false (by omega)
  have n2 : ∀ n m : Nat, ((1 : Int) + (n : Int) + (m : Int) < 0) = False := fun n m => eq_false (by omega)
  have n3 : ∀ n m q : Nat, ((1 : Int) + (n : Int) + (m : Int) + (q : Int) < 0) = False := fun n m q => eq_false (by omega)
  simp (disch := omega) only [laws_FnExactJoinRows.f, hs, hi, sz, lt, sz2, lt2, toBasinS_ok, eqBasinS_ok, markBasinS_ok, markBasinS_from, heldBasinS_ok, q1, q2, n1, n2, n3, Option.bind_some, bne_self_eq_false, Bool.false_eq_true, eq_self, if_true, if_false]
  simp (disch := omega) only [laws_FnExactJoinRows.j0, hs, hi, sz, lt, sz2, lt2, toBasinS_ok, eqBasinS_ok, markBasinS_ok, markBasinS_from, heldBasinS_ok, q1, q2, n1, n2, n3, Option.bind_some, bne_self_eq_false, Bool.false_eq_true, eq_self, if_true, if_false]
  simp (disch := omega) only [laws_FnExactJoinRows.j1, hs, hi, sz, lt, sz2, lt2, toBasinS_ok, eqBasinS_ok, markBasinS_ok, markBasinS_from, heldBasinS_ok, q1, q2, n1, n2, n3, Option.bind_some, bne_self_eq_false, Bool.false_eq_true, eq_self, if_true, if_false]
  simp (disch := omega) only [laws_FnExactJoinRows.j2, hs, hi, sz, lt, sz2, lt2, toBasinS_ok, eqBasinS_ok, markBasinS_ok, markBasinS_from, heldBasinS_ok, q1, q2, n1, n2, n3, Option.bind_some, bne_self_eq_false, Bool.false_eq_true, eq_self, if_true, if_false]

end Go.Proofs.Ytcalhmjnoahliaa.Pure
