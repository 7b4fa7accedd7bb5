/- The program's SpillsOf and the reference's tell the same; the arguments are left, the result is its own. It holds for all inputs that the statement lets in. -/
import Derived.Test.YtcalhmjnoahliaaLibA
import Derived.Test.YtcalhmjnoahliaaLibBS
import Derived.Test.YtcalhmjnoahliaaLibFl
import Derived.Test.YtcalhmjnoahliaaLibM
import Derived.Test.YtcalhmjnoahliaaLibMB
import Derived.Test.YtcalhmjnoahliaaLibRun
import Derived.Test.YtcalhmjnoahliaaLibRunB
import Derived.Test.YtcalhmjnoahliaaLibW
import Derived.Test.YtcalhmjnoahliaaPr0
import Derived.Test.YtcalhmjnoahliaaPr33
import Derived.Test.YtcalhmjnoahliaaPr34
namespace Go.Proofs.Ytcalhmjnoahliaa.Pure
open Go.RowKit Go.Proofs.Ytcalhmjnoahliaa.Pr Go.Proofs.YtcalhmjnoahliaaW.PrintWords Go.Proofs.YtcalhmjnoahliaaW.PrintLast
set_option linter.unusedVariables false
set_option linter.unusedSimpArgs false

def addL : List Int → List Int → Nat → List Int
  | o, [], _ => o
  | o, y :: ys, j => addL (o.set j (wrap64 (rd o (j : Int) + y))) ys (j + 1)
theorem addL_len : ∀ (s o : List Int) (j : Nat), (addL o s j).length = o.length
  | [], _, _ => rfl
  | y :: ys, o, j => by
    show (addL _ ys (j + 1)).length = _
    rw [addL_len ys _ (j + 1)]
    simp
def addAll : List Int → List (List Int) → List Int
  | o, [] => o
  | o, s :: ss => addAll (addL o s 0) ss
theorem addAll_len : ∀ (ss : List (List Int)) (o : List Int), (addAll o ss).length = o.length
  | [], _ => rfl
  | s :: ss, o => by
    show (addAll _ ss).length = _
    rw [addAll_len ss, addL_len]
theorem drop_rdI2 (x : List (List Int)) (j : Nat) (h : j < x.length) : x.drop j = rd_L1 x (j : Int) :: x.drop (j + 1) := by
  rw [List.drop_eq_getElem_cons h]
  simp [rd_L1, h]
theorem sSO_l1 (rs : List (List Int)) (n i : Int) (s : List Int) (hs : s.length ≤ 1000) : ∀ (d k : Nat) (o : List Int) (j : Nat), s.length - j = d → s.length ≤ o.length →
    spec_SpillsOf.l1 (k + d + 1) o rs n i s (s.length : Int) (j : Int) = spec_SpillsOf.l0 k (addL o (s.drop j) j) rs n (wrap64 (i + 1)) := by
  intro d
  induction d with
  | zero =>
    intro k o j hd ho
    simp only [spec_SpillsOf.l1, Nat.add_zero]
    rw [if_neg (by omega), List.drop_of_length_le (by omega)]
    rfl
  | succ d ih =>
    intro k o j hd ho
    obtain ⟨q, hq⟩ : ∃ q, q = k + d + 1 := ⟨_, rfl⟩
    rw [show k + (d + 1) + 1 = q + 1 by omega]
    simp only [spec_SpillsOf.l1]
    rw [if_pos (by omega), if_pos (by omega), if_pos (by omega), if_pos (by omega), drop_rd s j (by omega), w64 (i := (j : Int) + 1) (by omega) (by omega), Int.toNat_natCast, show (j : Int) + 1 = ((j + 1 : Nat) : Int) by omega, hq, ih k _ (j + 1) (by omega) (by simp; omega)]
    rfl
theorem sSO_l0 (m : Nat) (hm : m ≤ 1000) (rs : List (List Int)) (hr : ∀ r ∈ rs, r.length = m) (hl : rs.length ≤ 1000) : ∀ (d k : Nat) (o : List Int) (j : Nat), rs.length - j = d → 1002 * d < k → o.length = m →
    spec_SpillsOf.l0 k o rs (rs.length : Int) (j : Int) = some (addAll o (rs.drop j), true) := by
  intro d
  induction d with
  | zero =>
    intro k o j hd hk ho
    obtain ⟨k, rfl⟩ : ∃ m, k = m + 1 := ⟨k - 1, by omega⟩
    simp only [spec_SpillsOf.l0]
    rw [if_neg (by omega), List.drop_of_length_le (by omega)]
    rfl
  | succ d ih =>
    intro k o j hd hk ho
    have e := drop_rdI2 rs j (by omega)
    have hq := hr (rd_L1 rs (j : Int)) (List.mem_of_mem_drop (by rw [e]; exact List.mem_cons_self))
    obtain ⟨k, rfl⟩ : ∃ m, k = (m + (rd_L1 rs (j : Int)).length + 1) + 1 := ⟨k - (rd_L1 rs (j : Int)).length - 2, by omega⟩
    simp only [spec_SpillsOf.l0]
    have := sSO_l1 rs (rs.length : Int) (j : Int) (rd_L1 rs (j : Int)) (by omega) (rd_L1 rs (j : Int)).length k o 0 (by omega) (by omega)
    rw [show ((0 : Nat) : Int) = 0 from rfl, List.drop_zero] at this
    rw [if_pos (by omega), if_pos (by omega), if_pos (by omega), this, e, w64 (i := (j : Int) + 1) (by omega) (by omega), show (j : Int) + 1 = ((j + 1 : Nat) : Int) by omega, ih k _ (j + 1) (by omega) (by omega) (by rw [addL_len]; exact ho)]
    rfl
theorem iSO_l1 (rs : List (List Int)) (n i : Int) (s : List Int) (hs : s.length ≤ 1000) : ∀ (d k : Nat) (o : List Int) (j : Nat), s.length - j = d → s.length ≤ o.length →
    impl_SpillsOf.l1 (k + d + 1) o rs n i s (s.length : Int) (j : Int) = impl_SpillsOf.l0 k (addL o (s.drop j) j) rs n (wrap64 (i + 1)) := by
  intro d
  induction d with
  | zero =>
    intro k o j hd ho
    simp only [impl_SpillsOf.l1, Nat.add_zero]
    rw [if_neg (by omega), List.drop_of_length_le (by omega)]
    rfl
  | succ d ih =>
    intro k o j hd ho
    obtain ⟨q, hq⟩ : ∃ q, q = k + d + 1 := ⟨_, rfl⟩
    rw [show k + (d + 1) + 1 = q + 1 by omega]
    simp only [impl_SpillsOf.l1]
    rw [if_pos (by omega), if_pos (by omega), if_pos (by omega), if_pos (by omega), drop_rd s j (by omega), w64 (i := (j : Int) + 1) (by omega) (by omega), Int.toNat_natCast, show (j : Int) + 1 = ((j + 1 : Nat) : Int) by omega, hq, ih k _ (j + 1) (by omega) (by simp; omega)]
    rfl
theorem iSO_l0 (m : Nat) (hm : m ≤ 1000) (rs : List (List Int)) (hr : ∀ r ∈ rs, r.length = m) (hl : rs.length ≤ 1000) : ∀ (d k : Nat) (o : List Int) (j : Nat), rs.length - j = d → 1002 * d < k → o.length = m →
    impl_SpillsOf.l0 k o rs (rs.length : Int) (j : Int) = some (addAll o (rs.drop j), true) := by
  intro d
  induction d with
  | zero =>
    intro k o j hd hk ho
    obtain ⟨k, rfl⟩ : ∃ m, k = m + 1 := ⟨k - 1, by omega⟩
    simp only [impl_SpillsOf.l0]
    rw [if_neg (by omega), List.drop_of_length_le (by omega)]
    rfl
  | succ d ih =>
    intro k o j hd hk ho
    have e := drop_rdI2 rs j (by omega)
    have hq := hr (rd_L1 rs (j : Int)) (List.mem_of_mem_drop (by rw [e]; exact List.mem_cons_self))
    obtain ⟨k, rfl⟩ : ∃ m, k = (m + (rd_L1 rs (j : Int)).length + 1) + 1 := ⟨k - (rd_L1 rs (j : Int)).length - 2, by omega⟩
    simp only [impl_SpillsOf.l0]
    have := iSO_l1 rs (rs.length : Int) (j : Int) (rd_L1 rs (j : Int)) (by omega) (rd_L1 rs (j : Int)).length k o 0 (by omega) (by omega)
    rw [show ((0 : Nat) : Int) = 0 from rfl, List.drop_zero] at this
    rw [if_pos (by omega), if_pos (by omega), if_pos (by omega), this, e, w64 (i := (j : Int) + 1) (by omega) (by omega), show (j : Int) + 1 = ((j + 1 : Nat) : Int) by omega, ih k _ (j + 1) (by omega) (by omega) (by rw [addL_len]; exact ho)]
    rfl
theorem SpillsOf_same (l : List BL) (fs : List Int) (_w0 : l.length ≤ maxLen) (_w1 : ∀ x ∈ l, (Lit.int .i64 x.f0).wf = true ∧ (Lit.int .i64 x.f1).wf = true ∧ (Lit.int .i64 x.f2).wf = true) (_w2 : fs.length ≤ maxLen) (_w3 : ∀ x ∈ fs, (Lit.int .i64 x).wf = true) (hl : l.length ≤ 1048576) (hfl : fs.length ≤ 1048576) :
    ∃ R : List Int × Bool, (∀ k, 4000000 ≤ k → spec_SpillsOf.f k (bconv l) fs = some R) ∧ (∀ k, 4000000 ≤ k → impl_SpillsOf.f k (bconv l) fs = some R) ∧ R.1.length ≤ 1048576 := by
  have hc : (bconv l).length ≤ 1048576 := by rw [bconv_length]; exact hl
  generalize bconv l = L at hc
  by_cases hr : askB L fs = true
  · obtain ⟨r1, r2, r3, r4, r5⟩ := askB_get hr
    have hlen := (run_len L fs).2.1
    have hrs : ∀ r ∈ runS L fs, r.length = L.length := fun r h => runS_lens L fs r h
    refine ⟨(addAll (List.replicate L.length 0) (runS L fs), true), fun k hk => ?_, fun k hk => ?_, ?_⟩
    · unfold spec_SpillsOf.f
      rw [weAsked_ok _ _ k hc hfl (by omega), Option.bind_some, if_pos hr, if_pos (by omega), if_pos (by omega), weGo_ok _ _ k r1 (by omega) r4 (by omega) (by omega), Option.bind_some, Int.toNat_natCast]
      exact sSO_l0 L.length (by omega) (runS L fs) hrs (by omega) (runS L fs).length k _ 0 (by omega) (by omega) (by simp)
    · unfold impl_SpillsOf.f
      unfold askB at hr
      rw [Bool.and_eq_true] at hr
      rw [IsRow_ok _ hc, Option.bind_some, if_pos hr.1, AreFlows_ok _ hfl, Option.bind_some, hr.2]
      obtain ⟨k, rfl⟩ : ∃ m, k = m + 1 := ⟨k - 1, by omega⟩
      simp only [impl_SpillsOf.j0]
      rw [if_neg (by decide), if_pos (by omega), if_pos (by omega), runRow_ok _ _ k r1 (by omega) r4 (by omega) (by omega), Option.bind_some, Int.toNat_natCast]
      exact iSO_l0 L.length (by omega) (runS L fs) hrs (by omega) (runS L fs).length k _ 0 (by omega) (by omega) (by simp)
    · simp only [addAll_len, List.length_replicate]
      omega
  · refine ⟨([], false), fun k hk => ?_, fun k hk => ?_, by simp⟩
    · unfold spec_SpillsOf.f
      rw [weAsked_ok _ _ k hc hfl (by omega), Option.bind_some, if_neg hr]
    · unfold impl_SpillsOf.f
      rw [IsRow_ok _ hc, Option.bind_some]
      obtain ⟨k, rfl⟩ : ∃ m, k = m + 1 := ⟨k - 1, by omega⟩
      by_cases h1 : rowB L = true
      · have h2 : flowsB fs = false := Bool.eq_false_iff.mpr (fun q => hr (by unfold askB; rw [h1, q]; rfl))
        rw [if_pos h1, AreFlows_ok _ hfl, Option.bind_some, h2]
        simp only [impl_SpillsOf.j0]
        rw [if_pos (by decide)]
      · rw [if_neg h1]
        simp only [impl_SpillsOf.j0]
        rw [if_pos trivial]

theorem FnExactSpillsOf : ∀ (l0 : List S61) (l1 : List Int), l0.length ≤ maxLen → (∀ x ∈ l0, (Lit.int .i64 x.f0).wf = true ∧ (Lit.int .i64 x.f1).wf = true ∧ (Lit.int .i64 x.f2).wf = true) → l1.length ≤ maxLen → (∀ x ∈ l1, (Lit.int .i64 x).wf = true) → ∃ k, laws_FnExactSpillsOf.f k l0 l1 = some true := by
  intro l0 l1 w0 w1 w2 w3
  by_cases bigf : (l1.length : Int) > 1048576
  case pos =>
    refine ⟨0, ?_⟩
    unfold laws_FnExactSpillsOf.f
    rw [if_pos bigf]
  have fl : l1.length ≤ 1048576 := by omega
  have sz := szBasinS_ok l0 w0
  by_cases big : l0.length ≤ 1048576
  case neg =>
    rw [if_neg big] at sz
    refine ⟨0, ?_⟩
    unfold laws_FnExactSpillsOf.f
    rw [if_neg bigf, sz, Option.bind_some, if_pos (by omega)]
  rw [if_pos big] at sz
  have lt : ((1048576 : Int) - (l0.length : Int) < 0) = False := eq_false (by omega)
  have cl : (bconv l0).length ≤ 1048576 := by rw [bconv_length]; exact big
  have q1 : ∀ n : Nat, ((1 : Int) + 3 * (n : Int) < 0) = False := fun n => eq_false (by omega)
  have q2 : ∀ n m : Nat, ((1 : Int) + 3 * (n : Int) + (m : Int) < 0) = False := fun n m => eq_false (by omega)
  obtain ⟨R, hs, hi, hR⟩ := SpillsOf_same l0 l1 w0 w1 w2 w3 big fl
  obtain ⟨K, hK⟩ : ∃ K, K = 10000000000000 := ⟨_, rfl⟩
  refine ⟨K + 9, ?_⟩
  have n1 : ∀ n : Nat, ((1 : Int) + (n : Int) < 0) = False := fun n => eq_false (by omega)
  have n2 : ∀ n m : Nat, ((1 : Int) + (n : Int) + (m : Int) < 0) = False := fun n m => eq_false (by omega)
  have n3 : ∀ n m q : Nat, ((1 : Int) + (n : Int) + (m : Int) + (q : Int) < 0) = False := fun n m q => eq_false (by omega)
  simp (disch := omega) only [laws_FnExactSpillsOf.f, hs, hi, if_neg bigf, sz, lt, toBasinS_ok, eqBasinS_ok, markBasinS_ok, heldBasinS_ok, q1, q2, toIntS_ok, eqIntS_ok, markIntS_ok, heldIntS_ok, n1, n2, n3, Option.bind_some, bne_self_eq_false, Bool.false_eq_true, eq_self, if_true, if_false]
  simp (disch := omega) only [laws_FnExactSpillsOf.j0, hs, hi, if_neg bigf, sz, lt, toBasinS_ok, eqBasinS_ok, markBasinS_ok, heldBasinS_ok, q1, q2, toIntS_ok, eqIntS_ok, markIntS_ok, heldIntS_ok, n1, n2, n3, Option.bind_some, bne_self_eq_false, Bool.false_eq_true, eq_self, if_true, if_false]
  simp (disch := omega) only [laws_FnExactSpillsOf.j1, hs, hi, if_neg bigf, sz, lt, toBasinS_ok, eqBasinS_ok, markBasinS_ok, heldBasinS_ok, q1, q2, toIntS_ok, eqIntS_ok, markIntS_ok, heldIntS_ok, n1, n2, n3, Option.bind_some, bne_self_eq_false, Bool.false_eq_true, eq_self, if_true, if_false]
  simp (disch := omega) only [laws_FnExactSpillsOf.j2, hs, hi, if_neg bigf, sz, lt, toBasinS_ok, eqBasinS_ok, markBasinS_ok, heldBasinS_ok, q1, q2, toIntS_ok, eqIntS_ok, markIntS_ok, heldIntS_ok, n1, n2, n3, Option.bind_some, bne_self_eq_false, Bool.false_eq_true, eq_self, if_true, if_false]

end Go.Proofs.Ytcalhmjnoahliaa.Pure
