/- The program's HeldAlong and the reference's tell the same; the arguments are left, the result is its own. It holds for all inputs that the statement lets in. -/
import Derived.Test.YtcalhmjnoahliaaLibA
import Derived.Test.YtcalhmjnoahliaaLibBO
import Derived.Test.YtcalhmjnoahliaaLibBS
import Derived.Test.YtcalhmjnoahliaaLibM
import Derived.Test.YtcalhmjnoahliaaLibMB
import Derived.Test.YtcalhmjnoahliaaLibRun
import Derived.Test.YtcalhmjnoahliaaLibRunB
import Derived.Test.YtcalhmjnoahliaaLibW
import Derived.Test.YtcalhmjnoahliaaPr0
import Derived.Test.YtcalhmjnoahliaaPr21
import Derived.Test.YtcalhmjnoahliaaPr22
namespace Go.Proofs.Ytcalhmjnoahliaa.Pure
open Go.RowKit Go.Proofs.Ytcalhmjnoahliaa.Pr Go.Proofs.YtcalhmjnoahliaaW.PrintWords Go.Proofs.YtcalhmjnoahliaaW.PrintLast
set_option linter.unusedVariables false
set_option linter.unusedSimpArgs false

def hal (i : Int) (rs : List (List BI)) : List Int := rs.map (fun r => (rd_T59 r i).f2)
theorem drop_rdR (x : List (List BI)) (j : Nat) (h : j < x.length) : x.drop j = rd_L4 x (j : Int) :: x.drop (j + 1) := by
  rw [List.drop_eq_getElem_cons h]
  simp [rd_L4, h]
theorem sHA_l0 (i : Int) (h0 : 0 ≤ i) (rs : List (List BI)) (hr : ∀ r ∈ rs, i < (r.length : Int)) (hl : rs.length ≤ 1000) : ∀ (d k : Nat) (acc : List Int) (j : Nat), rs.length - j = d → d < k → acc.length ≤ j →
    spec_HeldAlong.l0 k i acc rs (rs.length : Int) (j : Int) = some (acc ++ hal i (rs.drop j), true) := by
  intro d
  induction d with
  | zero =>
    intro k acc j hd hk ha
    obtain ⟨k, rfl⟩ : ∃ m, k = m + 1 := ⟨k - 1, by omega⟩
    simp only [spec_HeldAlong.l0]
    rw [if_neg (by omega), List.drop_of_length_le (by omega)]
    simp [hal]
  | succ d ih =>
    intro k acc j hd hk ha
    obtain ⟨k, rfl⟩ : ∃ m, k = m + 1 := ⟨k - 1, by omega⟩
    have e := drop_rdR rs j (by omega)
    have hm : i < ((rd_L4 rs (j : Int)).length : Int) := hr _ (List.mem_of_mem_drop (by rw [e]; exact List.mem_cons_self))
    simp only [spec_HeldAlong.l0]
    rw [if_pos (by omega), if_pos (by omega), if_pos (by omega), if_pos h0, if_pos hm, if_pos (by omega), w64 (i := (j : Int) + 1) (by omega) (by omega), show (j : Int) + 1 = ((j + 1 : Nat) : Int) by omega, ih k _ (j + 1) (by omega) (by omega) (by simp; omega), e]
    simp [hal]
theorem iHA_l0 (i : Int) (h0 : 0 ≤ i) (rs : List (List BI)) (hr : ∀ r ∈ rs, i < (r.length : Int)) (hl : rs.length ≤ 1000) : ∀ (d k : Nat) (acc : List Int) (j : Nat), rs.length - j = d → d < k → acc.length ≤ j →
    impl_HeldAlong.l0 k i acc rs (rs.length : Int) (j : Int) = some (acc ++ hal i (rs.drop j), true) := by
  intro d
  induction d with
  | zero =>
    intro k acc j hd hk ha
    obtain ⟨k, rfl⟩ : ∃ m, k = m + 1 := ⟨k - 1, by omega⟩
    simp only [impl_HeldAlong.l0]
    rw [if_neg (by omega), List.drop_of_length_le (by omega)]
    simp [hal]
  | succ d ih =>
    intro k acc j hd hk ha
    obtain ⟨k, rfl⟩ : ∃ m, k = m + 1 := ⟨k - 1, by omega⟩
    have e := drop_rdR rs j (by omega)
    have hm : i < ((rd_L4 rs (j : Int)).length : Int) := hr _ (List.mem_of_mem_drop (by rw [e]; exact List.mem_cons_self))
    simp only [impl_HeldAlong.l0]
    rw [if_pos (by omega), if_pos (by omega), if_pos (by omega), if_pos h0, if_pos hm, if_pos (by omega), w64 (i := (j : Int) + 1) (by omega) (by omega), show (j : Int) + 1 = ((j + 1 : Nat) : Int) by omega, ih k _ (j + 1) (by omega) (by omega) (by simp; omega), e]
    simp [hal]
theorem HeldAlong_same (l : List BL) (a : Int) (fs : List Int) (_w0 : l.length ≤ maxLen) (_w1 : ∀ x ∈ l, (Lit.int .i64 x.f0).wf = true ∧ (Lit.int .i64 x.f1).wf = true ∧ (Lit.int .i64 x.f2).wf = true) (_wa : (Lit.int .i64 a).wf = true) (_w2 : fs.length ≤ maxLen) (_w3 : ∀ x ∈ fs, (Lit.int .i64 x).wf = true) (hl : l.length ≤ 1048576) (hfl : fs.length ≤ 1048576) :
    ∃ R : List Int × Bool, (∀ k, 4000000 ≤ k → spec_HeldAlong.f k (bconv l) a fs = some R) ∧ (∀ k, 4000000 ≤ k → impl_HeldAlong.f k (bconv l) a fs = some R) ∧ R.1.length ≤ 1048576 := by
  have hc : (bconv l).length ≤ 1048576 := by rw [bconv_length]; exact hl
  generalize bconv l = L at hc
  by_cases hr : (askB L fs && inR 0 ((L.length : Int) - 1) a) = true
  · have hr' := hr
    rw [Bool.and_eq_true, inR_iff] at hr
    obtain ⟨hask, ha⟩ := hr
    obtain ⟨r1, r2, r3, r4, r5⟩ := askB_get hask
    have hrs : ∀ r ∈ runR L fs, a < (r.length : Int) := fun r h => by have := runR_lens L fs r h; omega
    have hlen := (run_len L fs).1
    refine ⟨(hal a (runR L fs), true), fun k hk => ?_, fun k hk => ?_, by simp [hal]; omega⟩
    · unfold spec_HeldAlong.f
      rw [weAsked_ok _ _ k hc hfl (by omega), Option.bind_some, if_pos hask, l1In_okR, Option.bind_some, w64 (i := (L.length : Int) - 1) (by omega) (by omega), (inR_iff _ _ _).2 ha]
      obtain ⟨k, rfl⟩ : ∃ m, k = m + 1 := ⟨k - 1, by omega⟩
      simp only [spec_HeldAlong.j0]
      rw [if_neg (by decide), weGo_ok _ _ k r1 (by omega) r4 (by omega) (by omega), Option.bind_some]
      have := sHA_l0 a ha.1 (runR L fs) hrs (by omega) (runR L fs).length k [] 0 (by omega) (by omega) (by simp)
      simpa using this
    · unfold impl_HeldAlong.f
      rw [isBasinOf_ok _ _ _ hc hfl, Option.bind_some, if_pos hr', runRow_ok _ _ k r1 (by omega) r4 (by omega) (by omega), Option.bind_some, if_pos (by simp only [List.length_cons]; omega), Option.bind_some]
      have := iHA_l0 a ha.1 (runR L fs) hrs (by omega) (runR L fs).length k [] 0 (by omega) (by omega) (by simp)
      simpa using this
  · refine ⟨([], false), fun k hk => ?_, fun k hk => ?_, by simp⟩
    · unfold spec_HeldAlong.f
      rw [weAsked_ok _ _ k hc hfl (by omega), Option.bind_some]
      obtain ⟨k, rfl⟩ : ∃ m, k = m + 1 := ⟨k - 1, by omega⟩
      by_cases hask : askB L fs = true
      · rw [if_pos hask, l1In_okR, Option.bind_some, w64 (i := (L.length : Int) - 1) (by omega) (by omega)]
        have : inR 0 ((L.length : Int) - 1) a = false := by
          rw [hask, Bool.true_and] at hr
          simpa using hr
        rw [this]
        simp only [spec_HeldAlong.j0]
        rw [if_pos (by decide)]
      · rw [if_neg hask]
        simp only [spec_HeldAlong.j0]
        rw [if_pos trivial]
    · unfold impl_HeldAlong.f
      rw [isBasinOf_ok _ _ _ hc hfl, Option.bind_some, if_neg hr]

theorem FnExactHeldAlong : ∀ (l0 : List S61) (a1 : Int) (l2 : List Int), l0.length ≤ maxLen → (∀ x ∈ l0, (Lit.int .i64 x.f0).wf = true ∧ (Lit.int .i64 x.f1).wf = true ∧ (Lit.int .i64 x.f2).wf = true) → (Lit.int .i64 a1).wf = true → l2.length ≤ maxLen → (∀ x ∈ l2, (Lit.int .i64 x).wf = true) → ∃ k, laws_FnExactHeldAlong.f k l0 a1 l2 = some true := by
  intro l0 a1 l2 w0 w1 w2 w3 w4
  by_cases bigf : (l2.length : Int) > 1048576
  case pos =>
    refine ⟨0, ?_⟩
    unfold laws_FnExactHeldAlong.f
    rw [if_pos bigf]
  have fl : l2.length ≤ 1048576 := by omega
  have sz := szBasinS_ok l0 w0
  by_cases big : l0.length ≤ 1048576
  case neg =>
    rw [if_neg big] at sz
    refine ⟨0, ?_⟩
    unfold laws_FnExactHeldAlong.f
    rw [if_neg bigf, sz, Option.bind_some, if_pos (by omega)]
  rw [if_pos big] at sz
  have lt : ((1048576 : Int) - (l0.length : Int) < 0) = False := eq_false (by omega)
  have cl : (bconv l0).length ≤ 1048576 := by rw [bconv_length]; exact big
  have q1 : ∀ n : Nat, ((1 : Int) + 3 * (n : Int) < 0) = False := fun n => eq_false (by omega)
  have q2 : ∀ n m : Nat, ((1 : Int) + 3 * (n : Int) + (m : Int) < 0) = False := fun n m => eq_false (by omega)
  obtain ⟨R, hs, hi, hR⟩ := HeldAlong_same l0 a1 l2 w0 w1 w2 w3 w4 big fl
  obtain ⟨K, hK⟩ : ∃ K, K = 10000000000000 := ⟨_, rfl⟩
  refine ⟨K + 9, ?_⟩
  have n1 : ∀ n : Nat, ((1 : Int) + (n : Int) < 0) = False := fun n => eq_false (by omega)
  have n2 : ∀ n m : Nat, ((1 : Int) + (n : Int) + (m : Int) < 0) = False := fun n m => eq_false (by omega)
  have n3 : ∀ n m q : Nat, ((1 : Int) + (n : Int) + (m : Int) + (q : Int) < 0) = False := fun n m q => eq_false (by omega)
  simp (disch := omega) only [laws_FnExactHeldAlong.f, hs, hi, if_neg bigf, sz, lt, toBasinS_ok, eqBasinS_ok, markBasinS_ok, heldBasinS_ok, q1, q2, toIntS_ok, eqIntS_ok, markIntS_ok, heldIntS_ok, n1, n2, n3, Option.bind_some, bne_self_eq_false, Bool.false_eq_true, eq_self, if_true, if_false]
  simp (disch := omega) only [laws_FnExactHeldAlong.j0, hs, hi, if_neg bigf, sz, lt, toBasinS_ok, eqBasinS_ok, markBasinS_ok, heldBasinS_ok, q1, q2, toIntS_ok, eqIntS_ok, markIntS_ok, heldIntS_ok, n1, n2, n3, Option.bind_some, bne_self_eq_false, Bool.false_eq_true, eq_self, if_true, if_false]
  simp (disch := omega) only [laws_FnExactHeldAlong.j1, hs, hi, if_neg bigf, sz, lt, toBasinS_ok, eqBasinS_ok, markBasinS_ok, heldBasinS_ok, q1, q2, toIntS_ok, eqIntS_ok, markIntS_ok, heldIntS_ok, n1, n2, n3, Option.bind_some, bne_self_eq_false, Bool.false_eq_true, eq_self, if_true, if_false]
  simp (disch := omega) only [laws_FnExactHeldAlong.j2, hs, hi, if_neg bigf, sz, lt, toBasinS_ok, eqBasinS_ok, markBasinS_ok, heldBasinS_ok, q1, q2, toIntS_ok, eqIntS_ok, markIntS_ok, heldIntS_ok, n1, n2, n3, Option.bind_some, bne_self_eq_false, Bool.false_eq_true, eq_self, if_true, if_false]

end Go.Proofs.Ytcalhmjnoahliaa.Pure
