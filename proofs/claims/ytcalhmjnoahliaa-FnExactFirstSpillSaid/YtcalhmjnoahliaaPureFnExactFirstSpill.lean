/- The program's FirstSpill and the reference's tell the same, and the arguments are left. It holds for all inputs that the statement lets in. -/
import Derived.Test.YtcalhmjnoahliaaLibA
import Derived.Test.YtcalhmjnoahliaaLibBS
import Derived.Test.YtcalhmjnoahliaaLibFl
import Derived.Test.YtcalhmjnoahliaaLibRun
import Derived.Test.YtcalhmjnoahliaaLibRunB
import Derived.Test.YtcalhmjnoahliaaLibW
import Derived.Test.YtcalhmjnoahliaaPr0
import Derived.Test.YtcalhmjnoahliaaPr20
import Derived.Test.YtcalhmjnoahliaaPr7
namespace Go.Proofs.Ytcalhmjnoahliaa.Pure
open Go.RowKit Go.Proofs.Ytcalhmjnoahliaa.Pr Go.Proofs.YtcalhmjnoahliaaW.PrintWords Go.Proofs.YtcalhmjnoahliaaW.PrintLast
set_option linter.unusedVariables false
set_option linter.unusedSimpArgs false

def posI (x : Int) : Bool := decide (0 < x)
/-- The first row with a number above 0, and that number's place. -/
def fsp : List (List Int) → Int → Int × Int × Bool
  | [], _ => (0, 0, false)
  | s :: ss, t => if 0 ≤ fIdx posI s 0 then (t, fIdx posI s 0, true) else fsp ss (t + 1)
theorem fsp_cons (s : List Int) (ss : List (List Int)) (t : Int) : fsp (s :: ss) t = if 0 ≤ fIdx posI s 0 then (t, fIdx posI s 0, true) else fsp ss (t + 1) := rfl
theorem drop_rdI (x : List (List Int)) (j : Nat) (h : j < x.length) : x.drop j = rd_L1 x (j : Int) :: x.drop (j + 1) := by
  rw [List.drop_eq_getElem_cons h]
  simp [rd_L1, h]
theorem sFS_l1 (t : Int) (rs : List (List Int)) (n i : Int) (s : List Int) (hs : s.length ≤ 1000) : ∀ (d k : Nat) (j : Nat), s.length - j = d →
    spec_FirstSpill.l1 (k + d + 1) t rs n i s (s.length : Int) (j : Int) = if 0 ≤ fIdx posI (s.drop j) (j : Int) then some (t, fIdx posI (s.drop j) (j : Int), true) else spec_FirstSpill.l0 k rs n (wrap64 (i + 1)) := by
  intro d
  induction d with
  | zero =>
    intro k j hd
    simp only [spec_FirstSpill.l1, Nat.add_zero]
    rw [if_neg (by omega), List.drop_of_length_le (by omega)]
    rfl
  | succ d ih =>
    intro k j hd
    rw [show k + (d + 1) + 1 = (k + d + 1) + 1 by omega]
    simp only [spec_FirstSpill.l1]
    rw [if_pos (by omega), if_pos (by omega), if_pos (by omega), fIdx_drop posI s j (by omega)]
    by_cases h : rd s (j : Int) > 0
    · rw [if_pos h, if_pos (show posI (rd s (j : Int)) = true from decide_eq_true h), if_pos (by omega)]
    · rw [if_neg h, if_neg (show ¬ posI (rd s (j : Int)) = true from fun q => h (of_decide_eq_true q)), w64 (i := (j : Int) + 1) (by omega) (by omega)]
      exact ih k (j + 1) (by omega)
theorem sFS_l0 (rs : List (List Int)) (hr : ∀ r ∈ rs, r.length ≤ 1000) (hl : rs.length ≤ 1000) : ∀ (d k : Nat) (j : Nat), rs.length - j = d → 1002 * d < k →
    spec_FirstSpill.l0 k rs (rs.length : Int) (j : Int) = some (fsp (rs.drop j) (j : Int)) := by
  intro d
  induction d with
  | zero =>
    intro k j hd hk
    obtain ⟨k, rfl⟩ : ∃ m, k = m + 1 := ⟨k - 1, by omega⟩
    simp only [spec_FirstSpill.l0]
    rw [if_neg (by omega), List.drop_of_length_le (by omega)]
    rfl
  | succ d ih =>
    intro k j hd hk
    have e := drop_rdI rs j (by omega)
    have hm := hr (rd_L1 rs (j : Int)) (List.mem_of_mem_drop (by rw [e]; exact List.mem_cons_self))
    obtain ⟨k, rfl⟩ : ∃ m, k = (m + (rd_L1 rs (j : Int)).length + 1) + 1 := ⟨k - (rd_L1 rs (j : Int)).length - 2, by omega⟩
    simp only [spec_FirstSpill.l0]
    have := sFS_l1 (j : Int) rs (rs.length : Int) (j : Int) (rd_L1 rs (j : Int)) hm (rd_L1 rs (j : Int)).length k 0 (by omega)
    rw [show ((0 : Nat) : Int) = 0 from rfl, List.drop_zero] at this
    rw [if_pos (by omega), if_pos (by omega), if_pos (by omega), this, e, w64 (i := (j : Int) + 1) (by omega) (by omega), show (j : Int) + 1 = ((j + 1 : Nat) : Int) by omega, ih k (j + 1) (by omega) (by omega), fsp_cons]
    split <;> rfl
theorem iFS_l0 (rs : List (List Int)) (hr : ∀ r ∈ rs, r.length ≤ 1000) (hl : rs.length ≤ 1000) : ∀ (d k : Nat) (j : Nat), rs.length - j = d → d < k →
    impl_FirstSpill.l0 k rs (rs.length : Int) (j : Int) = some (fsp (rs.drop j) (j : Int)) := by
  intro d
  induction d with
  | zero =>
    intro k j hd hk
    obtain ⟨k, rfl⟩ : ∃ m, k = m + 1 := ⟨k - 1, by omega⟩
    simp only [impl_FirstSpill.l0]
    rw [if_neg (by omega), List.drop_of_length_le (by omega)]
    rfl
  | succ d ih =>
    intro k j hd hk
    obtain ⟨k, rfl⟩ : ∃ m, k = m + 1 := ⟨k - 1, by omega⟩
    have e := drop_rdI rs j (by omega)
    have hm := hr (rd_L1 rs (j : Int)) (List.mem_of_mem_drop (by rw [e]; exact List.mem_cons_self))
    have ef : slices_IndexFunc_int_int_impl_FirstSpill_1.f (rd_L1 rs (j : Int)) () = some (fIdx posI (rd_L1 rs (j : Int)) 0) := by
      unfold slices_IndexFunc_int_int_impl_FirstSpill_1.f
      rw [if_pos (by omega)]
      rfl
    simp only [impl_FirstSpill.l0]
    rw [if_pos (by omega), if_pos (by omega), if_pos (by omega), ef, Option.bind_some, e, w64 (i := (j : Int) + 1) (by omega) (by omega), show (j : Int) + 1 = ((j + 1 : Nat) : Int) by omega]
    rw [fsp_cons]
    by_cases h : 0 ≤ fIdx posI (rd_L1 rs (j : Int)) 0
    · rw [if_pos h, if_pos h]
    · rw [if_neg h, if_neg h]
      exact ih k (j + 1) (by omega) (by omega)
theorem FirstSpill_same (l : List BL) (fs : List Int) (_w0 : l.length ≤ maxLen) (_w1 : ∀ x ∈ l, (Lit.int .i64 x.f0).wf = true ∧ (Lit.int .i64 x.f1).wf = true ∧ (Lit.int .i64 x.f2).wf = true) (_w2 : fs.length ≤ maxLen) (_w3 : ∀ x ∈ fs, (Lit.int .i64 x).wf = true) (hl : l.length ≤ 1048576) (hfl : fs.length ≤ 1048576) :
    ∃ R : Int × Int × Bool, (∀ k, 4000000 ≤ k → spec_FirstSpill.f k (bconv l) fs = some R) ∧ (∀ k, 4000000 ≤ k → impl_FirstSpill.f k (bconv l) fs = some R) := by
  have hc : (bconv l).length ≤ 1048576 := by rw [bconv_length]; exact hl
  generalize bconv l = L at hc
  by_cases hr : askB L fs = true
  · obtain ⟨r1, r2, r3, r4, r5⟩ := askB_get hr
    have hlen := (run_len L fs).2.1
    have hrs : ∀ r ∈ runS L fs, r.length ≤ 1000 := fun r h => by have := runS_lens L fs r h; omega
    refine ⟨fsp (runS L fs) 0, fun k hk => ?_, fun k hk => ?_⟩
    · unfold spec_FirstSpill.f
      rw [weAsked_ok _ _ k hc hfl (by omega), Option.bind_some, if_pos hr, weGo_ok _ _ k r1 (by omega) r4 (by omega) (by omega), Option.bind_some]
      exact sFS_l0 (runS L fs) hrs (by omega) (runS L fs).length k 0 (by omega) (by omega)
    · unfold impl_FirstSpill.f
      unfold askB at hr
      rw [Bool.and_eq_true] at hr
      rw [IsRow_ok _ hc, Option.bind_some, if_pos hr.1, AreFlows_ok _ hfl, Option.bind_some, hr.2]
      obtain ⟨k, rfl⟩ : ∃ m, k = m + 1 := ⟨k - 1, by omega⟩
      simp only [impl_FirstSpill.j0]
      rw [if_neg (by decide), runRow_ok _ _ k r1 (by omega) r4 (by omega) (by omega), Option.bind_some]
      exact iFS_l0 (runS L fs) hrs (by omega) (runS L fs).length k 0 (by omega) (by omega)
  · refine ⟨(0, 0, false), fun k hk => ?_, fun k hk => ?_⟩
    · unfold spec_FirstSpill.f
      rw [weAsked_ok _ _ k hc hfl (by omega), Option.bind_some, if_neg hr]
    · unfold impl_FirstSpill.f
      rw [IsRow_ok _ hc, Option.bind_some]
      obtain ⟨k, rfl⟩ : ∃ m, k = m + 1 := ⟨k - 1, by omega⟩
      by_cases h1 : rowB L = true
      · have h2 : flowsB fs = false := Bool.eq_false_iff.mpr (fun q => hr (by unfold askB; rw [h1, q]; rfl))
        rw [if_pos h1, AreFlows_ok _ hfl, Option.bind_some, h2]
        simp only [impl_FirstSpill.j0]
        rw [if_pos (by decide)]
      · rw [if_neg h1]
        simp only [impl_FirstSpill.j0]
        rw [if_pos trivial]

theorem FnExactFirstSpill : ∀ (l0 : List S61) (l1 : List Int), l0.length ≤ maxLen → (∀ x ∈ l0, (Lit.int .i64 x.f0).wf = true ∧ (Lit.int .i64 x.f1).wf = true ∧ (Lit.int .i64 x.f2).wf = true) → l1.length ≤ maxLen → (∀ x ∈ l1, (Lit.int .i64 x).wf = true) → ∃ k, laws_FnExactFirstSpill.f k l0 l1 = some true := by
  intro l0 l1 w0 w1 w2 w3
  by_cases bigf : (l1.length : Int) > 1048576
  case pos =>
    refine ⟨0, ?_⟩
    unfold laws_FnExactFirstSpill.f
    rw [if_pos bigf]
  have fl : l1.length ≤ 1048576 := by omega
  have sz := szBasinS_ok l0 w0
  by_cases big : l0.length ≤ 1048576
  case neg =>
    rw [if_neg big] at sz
    refine ⟨0, ?_⟩
    unfold laws_FnExactFirstSpill.f
    rw [if_neg bigf, sz, Option.bind_some, if_pos (by omega)]
  rw [if_pos big] at sz
  have lt : ((1048576 : Int) - (l0.length : Int) < 0) = False := eq_false (by omega)
  have cl : (bconv l0).length ≤ 1048576 := by rw [bconv_length]; exact big
  obtain ⟨R, hs, hi⟩ := FirstSpill_same l0 l1 w0 w1 w2 w3 big fl
  obtain ⟨K, hK⟩ : ∃ K, K = 10000000000000 := ⟨_, rfl⟩
  refine ⟨K + 9, ?_⟩
  simp (disch := omega) only [laws_FnExactFirstSpill.f, hs, hi, if_neg bigf, sz, lt, toBasinS_ok, eqBasinS_ok, toIntS_ok, eqIntS_ok, Option.bind_some, bne_self_eq_false, Bool.false_eq_true, eq_self, if_true, if_false]
  simp (disch := omega) only [laws_FnExactFirstSpill.j0, hs, hi, if_neg bigf, sz, lt, toBasinS_ok, eqBasinS_ok, toIntS_ok, eqIntS_ok, Option.bind_some, bne_self_eq_false, Bool.false_eq_true, eq_self, if_true, if_false]

end Go.Proofs.Ytcalhmjnoahliaa.Pure
