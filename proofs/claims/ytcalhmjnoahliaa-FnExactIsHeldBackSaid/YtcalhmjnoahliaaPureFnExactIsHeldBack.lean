/- The program's IsHeldBack and the reference's tell the same, and the arguments are left. It holds for all inputs that the statement lets in. -/
import Derived.Test.YtcalhmjnoahliaaLibA
import Derived.Test.YtcalhmjnoahliaaLibBH
import Derived.Test.YtcalhmjnoahliaaLibBS
import Derived.Test.YtcalhmjnoahliaaLibRun
import Derived.Test.YtcalhmjnoahliaaLibRunB
import Derived.Test.YtcalhmjnoahliaaLibTk
import Derived.Test.YtcalhmjnoahliaaLibW
import Derived.Test.YtcalhmjnoahliaaPr0
import Derived.Test.YtcalhmjnoahliaaPr24
namespace Go.Proofs.Ytcalhmjnoahliaa.Pure
open Go.RowKit Go.Proofs.Ytcalhmjnoahliaa.Pr Go.Proofs.YtcalhmjnoahliaaW.PrintWords Go.Proofs.YtcalhmjnoahliaaW.PrintLast
set_option linter.unusedVariables false
set_option linter.unusedSimpArgs false

/-- Is what is left never below 0? -/
def hbk : Int → List Int → List Int → Bool
  | a, f :: fs, g :: gs => if a + (f - g) < 0 then false else hbk (a + (f - g)) fs gs
  | _, _, _ => true
theorem bsum_bd : ∀ (l : List BI) (acc : Int), good l → 0 ≤ acc → acc + 1000 * (l.length : Int) ≤ 1000000 → 0 ≤ bsum acc l ∧ bsum acc l ≤ acc + 1000 * (l.length : Int)
  | [], acc, _, h0, _ => by
    show 0 ≤ acc ∧ acc ≤ acc + 1000 * ((([] : List BI).length : Nat) : Int)
    simp
    exact h0
  | b :: bs, acc, hg, h0, h1 => by
    obtain ⟨_, _, _, _, b5, b6⟩ := basinB_get (hg b (by simp))
    have b7 : b.f2 ≤ 1000 := by have := basinB_get (hg b (by simp)); omega
    simp only [List.length_cons] at h1 ⊢
    show 0 ≤ bsum (wrap64 (acc + b.f2)) bs ∧ bsum (wrap64 (acc + b.f2)) bs ≤ _
    rw [w64 (i := acc + b.f2) (by omega) (by omega)]
    have := bsum_bd bs (acc + b.f2) (fun x hx => hg x (by simp [hx])) (by omega) (by omega)
    omega
theorem sIH_l0 (fs g : List Int) (hf : okF fs) (hg : ∀ x ∈ g, 0 ≤ x ∧ x ≤ 7000) (hlen : g.length = fs.length) (hl : fs.length ≤ 1000) : ∀ (d k : Nat) (a : Int) (j : Nat), g.length - j = d → d < k → 0 ≤ a → a ≤ 1000000 + 1000 * (j : Int) →
    spec_IsHeldBack.l0 k fs a g (g.length : Int) (j : Int) = some (hbk a (fs.drop j) (g.drop j), true) := by
  intro d
  induction d with
  | zero =>
    intro k a j hd hk h0 h1
    obtain ⟨k, rfl⟩ : ∃ m, k = m + 1 := ⟨k - 1, by omega⟩
    simp only [spec_IsHeldBack.l0]
    rw [if_neg (by omega), List.drop_of_length_le (l := g) (by omega), List.drop_of_length_le (l := fs) (by omega)]
    rfl
  | succ d ih =>
    intro k a j hd hk h0 h1
    obtain ⟨k, rfl⟩ : ∃ m, k = m + 1 := ⟨k - 1, by omega⟩
    obtain ⟨f0, f1, ef⟩ := okF_drop hf j (by omega)
    have eg := drop_rd g j (by omega)
    have gb := hg (rd g (j : Int)) (List.mem_of_mem_drop (by rw [eg]; exact List.mem_cons_self))
    simp only [spec_IsHeldBack.l0]
    rw [if_pos (by omega), if_pos (by omega), if_pos (by omega), if_pos (by omega), w64 (i := rd fs (j : Int) - rd g (j : Int)) (by omega) (by omega), w64 (i := a + (rd fs (j : Int) - rd g (j : Int))) (by omega) (by omega), ef, eg]
    unfold hbk
    by_cases h : a + (rd fs (j : Int) - rd g (j : Int)) < 0
    · rw [if_pos h, if_pos h]
    · rw [if_neg h, if_neg h, w64 (i := (j : Int) + 1) (by omega) (by omega), show (j : Int) + 1 = ((j + 1 : Nat) : Int) by omega]
      exact ih k _ (j + 1) (by omega) (by omega) (by omega) (by omega)
theorem iIH_l0 (fs g : List Int) (hf : okF fs) (hg : ∀ x ∈ g, 0 ≤ x ∧ x ≤ 7000) (hlen : g.length = fs.length) (hl : fs.length ≤ 1000) : ∀ (d k : Nat) (a b : Int) (j : Nat), fs.length - j = d → d < k → 0 ≤ b → b ≤ a → a ≤ 1000000 + 1000 * (j : Int) →
    impl_IsHeldBack.l0 k g a b fs (fs.length : Int) (j : Int) = some (hbk (a - b) (fs.drop j) (g.drop j), true) := by
  intro d
  induction d with
  | zero =>
    intro k a b j hd hk h0 h1 h2
    obtain ⟨k, rfl⟩ : ∃ m, k = m + 1 := ⟨k - 1, by omega⟩
    simp only [impl_IsHeldBack.l0]
    rw [if_neg (by omega), List.drop_of_length_le (l := g) (by omega), List.drop_of_length_le (l := fs) (by omega)]
    rfl
  | succ d ih =>
    intro k a b j hd hk h0 h1 h2
    obtain ⟨k, rfl⟩ : ∃ m, k = m + 1 := ⟨k - 1, by omega⟩
    obtain ⟨f0, f1, ef⟩ := okF_drop hf j (by omega)
    have eg := drop_rd g j (by omega)
    have gb := hg (rd g (j : Int)) (List.mem_of_mem_drop (by rw [eg]; exact List.mem_cons_self))
    simp only [impl_IsHeldBack.l0]
    rw [if_pos (by omega), if_pos (by omega), if_pos (by omega), if_pos (by omega), w64 (i := b + rd g (j : Int)) (by omega) (by omega), w64 (i := a + rd fs (j : Int)) (by omega) (by omega), ef, eg]
    unfold hbk
    by_cases h : a - b + (rd fs (j : Int) - rd g (j : Int)) < 0
    · rw [if_pos (by omega), if_pos h]
    · rw [if_neg (by omega), if_neg h, w64 (i := (j : Int) + 1) (by omega) (by omega), show (j : Int) + 1 = ((j + 1 : Nat) : Int) by omega, ih k _ _ (j + 1) (by omega) (by omega) (by omega) (by omega) (by omega)]
      congr 3
      omega
theorem IsHeldBack_same (l : List BL) (fs : List Int) (_w0 : l.length ≤ maxLen) (_w1 : ∀ x ∈ l, (Lit.int .i64 x.f0).wf = true ∧ (Lit.int .i64 x.f1).wf = true ∧ (Lit.int .i64 x.f2).wf = true) (_w2 : fs.length ≤ maxLen) (_w3 : ∀ x ∈ fs, (Lit.int .i64 x).wf = true) (hl : l.length ≤ 1048576) (hfl : fs.length ≤ 1048576) :
    ∃ R : Bool × Bool, (∀ k, 4000000 ≤ k → spec_IsHeldBack.f k (bconv l) fs = some R) ∧ (∀ k, 4000000 ≤ k → impl_IsHeldBack.f k (bconv l) fs = some R) := by
  have hc : (bconv l).length ≤ 1048576 := by rw [bconv_length]; exact hl
  generalize bconv l = L at hc
  by_cases hr : askB L fs = true
  · obtain ⟨r1, r2, r3, r4, r5⟩ := askB_get hr
    have hlen := (run_len L fs).2.2
    have hgb := runG_bd L fs r1 r3 r4
    have hs := bsum_bd L 0 r1 (by omega) (by omega)
    refine ⟨(hbk (bsum 0 L) fs (runG L fs), true), fun k hk => ?_, fun k hk => ?_⟩
    · unfold spec_IsHeldBack.f
      rw [weAsked_ok _ _ k hc hfl (by omega), Option.bind_some, if_pos hr, weHeld_ok _ k hc (by omega), Option.bind_some, weGo_ok _ _ k r1 (by omega) r4 (by omega) (by omega), Option.bind_some]
      exact sIH_l0 fs (runG L fs) r4 hgb hlen (by omega) (runG L fs).length k (bsum 0 L) 0 (by omega) (by omega) hs.1 (by omega)
    · unfold impl_IsHeldBack.f
      rw [RunRow_impl _ _ k hc hfl (by omega), if_pos hr, Option.bind_some, if_pos rfl, heldIn_ok _ k hc (by omega), Option.bind_some]
      have := iIH_l0 fs (runG L fs) r4 hgb hlen (by omega) fs.length k (bsum 0 L) 0 0 (by omega) (by omega) (by omega) hs.1 (by omega)
      simpa using this
  · refine ⟨(false, false), fun k hk => ?_, fun k hk => ?_⟩
    · unfold spec_IsHeldBack.f
      rw [weAsked_ok _ _ k hc hfl (by omega), Option.bind_some, if_neg hr]
    · unfold impl_IsHeldBack.f
      rw [RunRow_impl _ _ k hc hfl (by omega), if_neg hr, Option.bind_some, if_neg (by decide)]

theorem FnExactIsHeldBack : ∀ (l0 : List S61) (l1 : List Int), l0.length ≤ maxLen → (∀ x ∈ l0, (Lit.int .i64 x.f0).wf = true ∧ (Lit.int .i64 x.f1).wf = true ∧ (Lit.int .i64 x.f2).wf = true) → l1.length ≤ maxLen → (∀ x ∈ l1, (Lit.int .i64 x).wf = true) → ∃ k, laws_FnExactIsHeldBack.f k l0 l1 = some true := by
  intro l0 l1 w0 w1 w2 w3
  by_cases bigf : (l1.length : Int) > 1048576
  case pos =>
    refine ⟨0, ?_⟩
    unfold laws_FnExactIsHeldBack.f
    rw [if_pos bigf]
  have fl : l1.length ≤ 1048576 := by omega
  have sz := szBasinS_ok l0 w0
  by_cases big : l0.length ≤ 1048576
  case neg =>
    rw [if_neg big] at sz
    refine ⟨0, ?_⟩
    unfold laws_FnExactIsHeldBack.f
    rw [if_neg bigf, sz, Option.bind_some, if_pos (by omega)]
  rw [if_pos big] at sz
  have lt : ((1048576 : Int) - (l0.length : Int) < 0) = False := eq_false (by omega)
  have cl : (bconv l0).length ≤ 1048576 := by rw [bconv_length]; exact big
  obtain ⟨R, hs, hi⟩ := IsHeldBack_same l0 l1 w0 w1 w2 w3 big fl
  obtain ⟨K, hK⟩ : ∃ K, K = 10000000000000 := ⟨_, rfl⟩
  refine ⟨K + 9, ?_⟩
  simp (disch := omega) only [laws_FnExactIsHeldBack.f, hs, hi, if_neg bigf, sz, lt, toBasinS_ok, eqBasinS_ok, toIntS_ok, eqIntS_ok, Option.bind_some, bne_self_eq_false, Bool.false_eq_true, eq_self, if_true, if_false]
  simp (disch := omega) only [laws_FnExactIsHeldBack.j0, hs, hi, if_neg bigf, sz, lt, toBasinS_ok, eqBasinS_ok, toIntS_ok, eqIntS_ok, Option.bind_some, bne_self_eq_false, Bool.false_eq_true, eq_self, if_true, if_false]

end Go.Proofs.Ytcalhmjnoahliaa.Pure
