/- The program's TicksToEmpty and the reference's tell the same; the argument is left. It holds for all inputs that the statement lets in. -/
import Derived.Test.YtcalhmjnoahliaaLibBH
import Derived.Test.YtcalhmjnoahliaaLibBS
import Derived.Test.YtcalhmjnoahliaaLibIt
import Derived.Test.YtcalhmjnoahliaaLibNe
import Derived.Test.YtcalhmjnoahliaaLibTk
import Derived.Test.YtcalhmjnoahliaaLibW
import Derived.Test.YtcalhmjnoahliaaPr0
import Derived.Test.YtcalhmjnoahliaaPr33
namespace Go.Proofs.Ytcalhmjnoahliaa.Pure
open Go.RowKit Go.Proofs.Ytcalhmjnoahliaa.Pr Go.Proofs.YtcalhmjnoahliaaW.PrintWords Go.Proofs.YtcalhmjnoahliaaW.PrintLast
set_option linter.unusedVariables false
set_option linter.unusedSimpArgs false

/-- Behind water, no basin without an outlet. -/
def ck : Bool → List BI → Bool
  | _, [] => true
  | w, b :: bs => if (w || decide (b.f2 > 0)) = true ∧ b.f1 = 0 then false else ck (w || decide (b.f2 > 0)) bs
theorem ck_mono : ∀ (l : List BI) (w : Bool), ck true l = true → ck w l = true
  | [], _, _ => rfl
  | b :: bs, w, h => by
    unfold ck at h ⊢
    rw [Bool.true_or] at h
    by_cases h0 : b.f1 = 0
    · rw [if_pos ⟨rfl, h0⟩] at h
      cases h
    · rw [if_neg (fun q => h0 q.2)] at h ⊢
      exact ck_mono bs _ h
theorem ck_out : ∀ (l : List BI) (f : Int), ck true (tick l f).1 = ck true l
  | [], _ => rfl
  | b :: bs, f => by
    simp only [tick, ck, Bool.true_or]
    have e : (nx b f).f1 = b.f1 := rfl
    rw [e, ck_out bs]
theorem ck_keep : ∀ (l : List BI) (w : Bool) (f : Int), good l → 0 ≤ f → (0 < f → w = true) → ck w l = true → ck w (tick l f).1 = true
  | [], _, _, _, _, _, _ => rfl
  | b :: bs, w, f, hg, hf, hw, h => by
    obtain ⟨n1, n2, n3, n4, n5⟩ := nx_good (f := f) (hg b (by simp)) hf
    obtain ⟨a1, a2, a3, a4, a5, a6⟩ := basinB_get (hg b (by simp))
    obtain ⟨c1, c2, c3, c4, c5, c6⟩ := basinB_get n1
    have q1 : (nx b f).f2 = b.f2 + f - max 0 (b.f2 + f - b.f0) - min b.f1 (b.f2 + f - max 0 (b.f2 + f - b.f0)) := rfl
    have q3 : out b f = max 0 (b.f2 + f - b.f0) + min b.f1 (b.f2 + f - max 0 (b.f2 + f - b.f0)) := rfl
    have q4 : (nx b f).f1 = b.f1 := rfl
    have hgs : good bs := fun x hx => hg x (by simp [hx])
    simp only [tick, ck] at h ⊢
    rw [q4]
    by_cases hwet : w = true ∨ b.f2 > 0
    · have ew : (w || decide (b.f2 > 0)) = true := by
        rcases hwet with rfl | h2
        · simp
        · rw [decide_eq_true h2, Bool.or_true]
      rw [ew] at h
      by_cases h0 : b.f1 = 0
      · rw [if_pos ⟨rfl, h0⟩] at h
        cases h
      · rw [if_neg (fun q => h0 q.2)] at h ⊢
        exact ck_mono _ _ (ck_keep bs true (out b f) hgs n2 (fun _ => rfl) h)
    · have hw0 : w = false := by cases w with
        | true => exact absurd (Or.inl rfl) hwet
        | false => rfl
      have hh : ¬ b.f2 > 0 := fun q => hwet (Or.inr q)
      have hf0 : ¬ 0 < f := fun q => by rw [hw q] at hw0; cases hw0
      subst hw0
      have e1 : (nx b f).f2 = 0 := by omega
      have e2 : out b f = 0 := by omega
      rw [decide_eq_false hh] at h
      rw [e1, e2]
      simp only [Bool.or_self, Bool.false_eq_true, false_and, if_false] at h
      simp only [Int.lt_irrefl, gt_iff_lt, decide_false, Bool.or_self, Bool.false_eq_true, false_and, if_false]
      exact ck_keep bs false 0 hgs (by omega) (fun q => absurd q (by omega)) h
theorem ck_trap1 : ∀ (l : List BI) (f : Int), good l → 0 < f → ck true l = false → ck false (tick l f).1 = false
  | [], _, _, _, h => by cases h
  | b :: bs, f, hg, hf, h => by
    obtain ⟨n1, n2, n3, n4, n5⟩ := nx_good (f := f) (hg b (by simp)) (by omega)
    obtain ⟨a1, a2, a3, a4, a5, a6⟩ := basinB_get (hg b (by simp))
    obtain ⟨c1, c2, c3, c4, c5, c6⟩ := basinB_get n1
    have q1 : (nx b f).f2 = b.f2 + f - max 0 (b.f2 + f - b.f0) - min b.f1 (b.f2 + f - max 0 (b.f2 + f - b.f0)) := rfl
    have q3 : out b f = max 0 (b.f2 + f - b.f0) + min b.f1 (b.f2 + f - max 0 (b.f2 + f - b.f0)) := rfl
    have q4 : (nx b f).f1 = b.f1 := rfl
    have hgs : good bs := fun x hx => hg x (by simp [hx])
    simp only [tick, ck, Bool.true_or, Bool.false_or] at h ⊢
    rw [q4]
    by_cases h0 : b.f1 = 0
    · have e : (nx b f).f2 > 0 := by omega
      rw [if_pos ⟨decide_eq_true e, h0⟩]
    · rw [if_neg (fun q => h0 q.2)] at h ⊢
      by_cases e : (nx b f).f2 > 0
      · rw [decide_eq_true e, ck_out]
        exact h
      · rw [decide_eq_false e]
        exact ck_trap1 bs (out b f) hgs (by omega) h
theorem ck_trap : ∀ (l : List BI) (f : Int), good l → 0 ≤ f → ck false l = false → ck false (tick l f).1 = false
  | [], _, _, _, h => by cases h
  | b :: bs, f, hg, hf, h => by
    obtain ⟨n1, n2, n3, n4, n5⟩ := nx_good (f := f) (hg b (by simp)) (by omega)
    obtain ⟨a1, a2, a3, a4, a5, a6⟩ := basinB_get (hg b (by simp))
    obtain ⟨c1, c2, c3, c4, c5, c6⟩ := basinB_get n1
    have q1 : (nx b f).f2 = b.f2 + f - max 0 (b.f2 + f - b.f0) - min b.f1 (b.f2 + f - max 0 (b.f2 + f - b.f0)) := rfl
    have q3 : out b f = max 0 (b.f2 + f - b.f0) + min b.f1 (b.f2 + f - max 0 (b.f2 + f - b.f0)) := rfl
    have q4 : (nx b f).f1 = b.f1 := rfl
    have hgs : good bs := fun x hx => hg x (by simp [hx])
    simp only [tick, ck, Bool.false_or] at h ⊢
    rw [q4]
    by_cases h0 : b.f1 = 0
    · by_cases e : (nx b f).f2 > 0
      · rw [if_pos ⟨decide_eq_true e, h0⟩]
      · have hh : ¬ b.f2 > 0 := by omega
        rw [decide_eq_false hh] at h
        rw [decide_eq_false e]
        simp only [Bool.false_eq_true, false_and, if_false] at h ⊢
        exact ck_trap bs (out b f) hgs n2 h
    · rw [if_neg (fun q => h0 q.2)] at h ⊢
      by_cases hh : b.f2 > 0
      · rw [decide_eq_true hh] at h
        by_cases e : (nx b f).f2 > 0
        · rw [decide_eq_true e, ck_out]
          exact h
        · rw [decide_eq_false e]
          exact ck_trap1 bs (out b f) hgs (by omega) h
      · rw [decide_eq_false hh] at h
        by_cases e : (nx b f).f2 > 0
        · rw [decide_eq_true e, ck_out, ← Bool.not_eq_true]
          intro q
          rw [ck_mono bs false q] at h
          cases h
        · rw [decide_eq_false e]
          exact ck_trap bs (out b f) hgs n2 h
/-- What all basins hold. -/
def hsumB (l : List BI) : Int := (l.map (fun x => x.f2)).sum
theorem hsumB_cons (b : BI) (bs : List BI) : hsumB (b :: bs) = b.f2 + hsumB bs := by simp [hsumB]
theorem hsumB_bd : ∀ (l : List BI), good l → 0 ≤ hsumB l ∧ hsumB l ≤ 1000 * (l.length : Int)
  | [], _ => by simp [hsumB]
  | b :: bs, hg => by
    obtain ⟨a1, a2, a3, a4, a5, a6⟩ := basinB_get (hg b (by simp))
    have := hsumB_bd bs (fun x hx => hg x (by simp [hx]))
    rw [hsumB_cons, List.length_cons]
    omega
theorem bsum_hs (l : List BI) : ∀ (acc : Int), good l → l.length ≤ 100 → 0 ≤ acc → acc ≤ 1000000 - 1000 * (l.length : Int) → bsum acc l = acc + hsumB l := by
  induction l with
  | nil =>
    intro acc _ _ _ _
    simp [bsum, hsumB]
  | cons b bs ih =>
    intro acc hg hl h0 h1
    obtain ⟨a1, a2, a3, a4, a5, a6⟩ := basinB_get (hg b (by simp))
    rw [List.length_cons] at hl h1
    have := ih (acc + b.f2) (fun x hx => hg x (by simp [hx])) (by omega) (by omega) (by omega)
    rw [hsumB_cons]
    have e : bsum acc (b :: bs) = bsum (wrap64 (acc + b.f2)) bs := rfl
    rw [e, w64 (by omega) (by omega), this]
    omega
theorem ck_t0 {b : BI} {bs : List BI} (h : b.f1 = 0) : ck true (b :: bs) = false := by
  unfold ck
  rw [if_pos ⟨rfl, h⟩]
theorem ck_t1 {b : BI} {bs : List BI} (h : ¬ b.f1 = 0) : ck true (b :: bs) = ck true bs := by
  rw [ck, if_neg (fun q => h q.2), Bool.true_or]
theorem ck_fw {b : BI} {bs : List BI} (h : b.f2 > 0) : ck false (b :: bs) = ck true (b :: bs) := by
  rw [ck, ck, decide_eq_true h]
  rfl
theorem ck_fd {b : BI} {bs : List BI} (h : ¬ b.f2 > 0) : ck false (b :: bs) = ck false bs := by
  rw [ck, decide_eq_false h, if_neg (by simp)]
  rfl
theorem dry_ck : ∀ (l : List BI), good l → hsumB l = 0 → ck false l = true
  | [], _, _ => rfl
  | b :: bs, hg, h => by
    obtain ⟨a1, a2, a3, a4, a5, a6⟩ := basinB_get (hg b (by simp))
    have hgs : good bs := fun x hx => hg x (by simp [hx])
    have := hsumB_bd bs hgs
    rw [hsumB_cons] at h
    unfold ck
    rw [decide_eq_false (show ¬ b.f2 > 0 by omega)]
    simp only [Bool.or_self, Bool.false_eq_true, false_and, if_false]
    exact dry_ck bs hgs (by omega)
theorem flowsB : ∀ (l : List BI), good l → ck false l = true → hsumB l ≠ 0 → (tick l 0).1 ≠ l
  | [], _, _, h => absurd rfl h
  | b :: bs, hg, hc, h => by
    obtain ⟨a1, a2, a3, a4, a5, a6⟩ := basinB_get (hg b (by simp))
    have hgs : good bs := fun x hx => hg x (by simp [hx])
    rw [hsumB_cons] at h
    have q1 : (nx b 0).f2 = b.f2 + 0 - max 0 (b.f2 + 0 - b.f0) - min b.f1 (b.f2 + 0 - max 0 (b.f2 + 0 - b.f0)) := rfl
    have q3 : out b 0 = max 0 (b.f2 + 0 - b.f0) + min b.f1 (b.f2 + 0 - max 0 (b.f2 + 0 - b.f0)) := rfl
    simp only [tick]
    intro e
    injection e with e1 e2
    unfold ck at hc
    by_cases hh : b.f2 > 0
    · rw [decide_eq_true hh] at hc
      by_cases h0 : b.f1 = 0
      · rw [if_pos ⟨rfl, h0⟩] at hc
        cases hc
      · have e3 : (nx b 0).f2 = b.f2 := by rw [e1]
        omega
    · rw [decide_eq_false hh] at hc
      simp only [Bool.or_self, Bool.false_eq_true, false_and, if_false] at hc
      have e4 : out b 0 = 0 := by omega
      rw [e4] at e2
      exact flowsB bs hgs hc (by omega) e2
theorem sTE_l1 (c : Int) (x y : List BI) (hxy : y.length = x.length) (hl : x.length ≤ 100) : ∀ (d k : Nat) (ch : Bool) (j : Nat), x.length - j = d → j ≤ x.length → spec_TicksToEmpty.l1 (k + d + 1) x c y ch y (y.length : Int) (j : Int) = if (ch && !neL (y.drop j) (x.drop j)) = true then some (0, false) else spec_TicksToEmpty.l0 k y (wrap64 (c + 1)) := by
  intro d
  induction d with
  | zero =>
    intro k ch j hd hj
    simp only [spec_TicksToEmpty.l1]
    rw [if_neg (by omega), List.drop_of_length_le (show y.length ≤ j by omega)]
    simp [neL]
  | succ d ih =>
    intro k ch j hd hj
    obtain ⟨q, hq⟩ : ∃ q, q = k + d + 1 := ⟨_, rfl⟩
    rw [show k + (d + 1) + 1 = q + 1 by omega]
    simp only [spec_TicksToEmpty.l1]
    rw [if_pos (by omega), if_pos (by omega), if_pos (by omega), w64 (i := (j : Int) + 1) (by omega) (by omega)]
    have e : (j : Int) + 1 = ((j + 1 : Nat) : Int) := by omega
    rw [neL_drop y x j (by omega) (by omega), e]
    cases ch with
    | true =>
      rw [if_pos rfl, if_pos (by omega), hq, ih k _ (j + 1) (by omega) (by omega)]
      congr 2
      unfold neB
      simp only [Bool.not_or, Bool.not_not, Bool.true_and, Bool.and_assoc]
    | false =>
      rw [if_neg (by simp), hq, ih k false (j + 1) (by omega) (by omega)]
      simp only [Bool.false_and]
theorem iTE_l0 (r x : List BI) (hl : x.length ≤ 100) : ∀ (d k : Nat) (w : Bool) (j : Nat), x.length - j = d → j ≤ x.length → impl_TicksToEmpty.l0 (k + d + 1) r w x (x.length : Int) (j : Int) = if ck w (x.drop j) = true then impl_TicksToEmpty.l1 k r 0 else some (0, false) := by
  intro d
  induction d with
  | zero =>
    intro k w j hd hj
    simp only [impl_TicksToEmpty.l0]
    rw [if_neg (by omega), List.drop_of_length_le (by omega)]
    simp [ck]
  | succ d ih =>
    intro k w j hd hj
    obtain ⟨q, hq⟩ : ∃ q, q = k + d + 1 := ⟨_, rfl⟩
    rw [show k + (d + 1) + 1 = q + 1 by omega]
    simp only [impl_TicksToEmpty.l0]
    rw [if_pos (by omega), if_pos (by omega), if_pos (by omega), w64 (i := (j : Int) + 1) (by omega) (by omega), drop_rdB x j (by omega), show (j : Int) + 1 = ((j + 1 : Nat) : Int) by omega, hq]
    have ih' := fun w => ih k w (j + 1) (by omega) (by omega)
    generalize rd_T59 x (j : Int) = b
    cases w with
    | true =>
      rw [if_pos rfl]
      by_cases h0 : b.f1 = 0
      · rw [if_pos h0, ck_t0 h0, if_neg (by simp)]
      · rw [if_neg h0, ck_t1 h0, ih' true]
    | false =>
      rw [if_neg (by simp)]
      by_cases hh : b.f2 > 0
      · rw [if_pos hh, decide_eq_true hh, ck_fw hh]
        by_cases h0 : b.f1 = 0
        · rw [if_pos h0, ck_t0 h0, if_neg (by simp)]
        · rw [if_neg h0, ck_t1 h0, ih' true]
      · rw [if_neg hh, decide_eq_false hh, ck_fd hh, ih' false]
def KT (n : Nat) : Nat := 2100000 + 200 * n
theorem KT_ge (n : Nat) : 2100000 ≤ KT n := by unfold KT; omega
theorem KT_succ (n : Nat) : KT (n + 1) = KT n + 200 := by unfold KT; omega
theorem TE_wet : ∀ (n : Nat) (l : List BI) (c : Int), good l → l.length ≤ 100 → (tick (iter 0 n l) 0).1 = iter 0 n l → ck false l = true → 0 ≤ c → c ≤ 1000000 - (n : Int) → ∃ r : Int × Bool, (∀ k, KT n ≤ k → spec_TicksToEmpty.l0 k l c = some r) ∧ (∀ k, KT n ≤ k → impl_TicksToEmpty.l1 k l c = some r) := by
  intro n
  induction n with
  | zero =>
    intro l c hg hl hr hc h0 h1
    have kg := KT_ge 0
    generalize KT 0 = B at kg ⊢
    have hb := bsum_hs l 0 hg hl (by omega) (by omega)
    have hz : hsumB l = 0 := Decidable.byContradiction (fun q => flowsB l hg hc q hr)
    refine ⟨(c, true), fun k hk => ?_, fun k hk => ?_⟩
    · obtain ⟨k, rfl⟩ : ∃ m, k = m + 1 := ⟨k - 1, by omega⟩
      simp only [spec_TicksToEmpty.l0]
      rw [weHeld_ok l k (by omega) (by omega), Option.bind_some, if_pos (by omega)]
    · obtain ⟨k, rfl⟩ : ∃ m, k = m + 1 := ⟨k - 1, by omega⟩
      simp only [impl_TicksToEmpty.l1]
      rw [heldIn_ok l k (by omega) (by omega), Option.bind_some, if_neg (by omega)]
  | succ n ih =>
    intro l c hg hl hr hc h0 h1
    have kg := KT_ge n
    rw [KT_succ]
    have hb := bsum_hs l 0 hg hl (by omega) (by omega)
    have hbd := hsumB_bd l hg
    have hlen := (tick_len l 0).1
    by_cases hz : hsumB l = 0
    · clear ih
      generalize KT n = B at kg ⊢
      refine ⟨(c, true), fun k hk => ?_, fun k hk => ?_⟩
      · obtain ⟨k, rfl⟩ : ∃ m, k = m + 1 := ⟨k - 1, by omega⟩
        simp only [spec_TicksToEmpty.l0]
        rw [weHeld_ok l k (by omega) (by omega), Option.bind_some, if_pos (by omega)]
      · obtain ⟨k, rfl⟩ : ∃ m, k = m + 1 := ⟨k - 1, by omega⟩
        simp only [impl_TicksToEmpty.l1]
        rw [heldIn_ok l k (by omega) (by omega), Option.bind_some, if_neg (by omega)]
    · have hne := flowsB l hg hc hz
      have hn : neL (tick l 0).1 l = true := by
        rw [← Bool.not_eq_false, neL_eq _ _ hlen]
        exact hne
      obtain ⟨r, hs', hi'⟩ := ih (tick l 0).1 (c + 1) (tick_good l 0 hg (by omega)).1 (by omega) hr (ck_keep l false 0 hg (by omega) (fun q => absurd q (by omega)) hc) (by omega) (by omega)
      clear ih
      generalize KT n = B at kg hs' hi' ⊢
      refine ⟨r, fun k hk => ?_, fun k hk => ?_⟩
      · obtain ⟨k, rfl⟩ : ∃ m, k = m + l.length + 2 := ⟨k - l.length - 2, by omega⟩
        rw [show k + l.length + 2 = (k + l.length + 1) + 1 by omega]
        simp only [spec_TicksToEmpty.l0]
        rw [weHeld_ok l _ (by omega) (by omega), Option.bind_some, if_neg (by omega), weTick_ok l 0 _ hg hl (by omega) (by omega) (by omega), Option.bind_some]
        have := sTE_l1 c l (tick l 0).1 hlen hl l.length k true 0 (by omega) (by omega)
        simp only [] at this ⊢
        refine Eq.trans this ?_
        rw [List.drop_zero, List.drop_zero, hn, w64 (by omega) (by omega), if_neg (by simp)]
        exact hs' k (by omega)
      · obtain ⟨k, rfl⟩ : ∃ m, k = m + 1 := ⟨k - 1, by omega⟩
        simp only [impl_TicksToEmpty.l1]
        rw [heldIn_ok l k (by omega) (by omega), Option.bind_some, if_pos (by omega), tickRow_ok l 0 k hg hl (by omega) (by omega) (by omega), Option.bind_some, w64 (by omega) (by omega)]
        exact hi' k (by omega)
theorem TE_trap : ∀ (n : Nat) (l : List BI) (c : Int), good l → l.length ≤ 100 → (tick (iter 0 n l) 0).1 = iter 0 n l → ck false l = false → 0 ≤ c → c ≤ 1000000 - (n : Int) → (∀ k, KT n ≤ k → spec_TicksToEmpty.l0 k l c = some (0, false)) := by
  intro n
  induction n with
  | zero =>
    intro l c hg hl hr hc h0 h1 k hk
    have kg := KT_ge 0
    generalize KT 0 = B at kg hk
    have hb := bsum_hs l 0 hg hl (by omega) (by omega)
    have hlen := (tick_len l 0).1
    have hz : hsumB l ≠ 0 := fun q => by rw [dry_ck l hg q] at hc; cases hc
    have hn : neL (tick l 0).1 l = false := (neL_eq _ _ hlen).2 hr
    obtain ⟨k, rfl⟩ : ∃ m, k = m + l.length + 2 := ⟨k - l.length - 2, by omega⟩
    rw [show k + l.length + 2 = (k + l.length + 1) + 1 by omega]
    simp only [spec_TicksToEmpty.l0]
    rw [weHeld_ok l _ (by omega) (by omega), Option.bind_some, if_neg (by omega), weTick_ok l 0 _ hg hl (by omega) (by omega) (by omega), Option.bind_some]
    have := sTE_l1 c l (tick l 0).1 hlen hl l.length k true 0 (by omega) (by omega)
    simp only [] at this ⊢
    refine Eq.trans this ?_
    rw [List.drop_zero, List.drop_zero, hn, if_pos (by simp)]
  | succ n ih =>
    intro l c hg hl hr hc h0 h1 k hk
    have kg := KT_ge n
    rw [KT_succ] at hk
    have hb := bsum_hs l 0 hg hl (by omega) (by omega)
    have hlen := (tick_len l 0).1
    have hz : hsumB l ≠ 0 := fun q => by rw [dry_ck l hg q] at hc; cases hc
    have ih' := ih (tick l 0).1 (c + 1) (tick_good l 0 hg (by omega)).1 (by omega) hr (ck_trap l 0 hg (by omega) hc) (by omega) (by omega)
    clear ih
    generalize KT n = B at kg hk ih'
    obtain ⟨k, rfl⟩ : ∃ m, k = m + l.length + 2 := ⟨k - l.length - 2, by omega⟩
    rw [show k + l.length + 2 = (k + l.length + 1) + 1 by omega]
    simp only [spec_TicksToEmpty.l0]
    rw [weHeld_ok l _ (by omega) (by omega), Option.bind_some, if_neg (by omega), weTick_ok l 0 _ hg hl (by omega) (by omega) (by omega), Option.bind_some]
    have := sTE_l1 c l (tick l 0).1 hlen hl l.length k true 0 (by omega) (by omega)
    simp only [] at this ⊢
    refine Eq.trans this ?_
    rw [List.drop_zero, List.drop_zero]
    by_cases hn : neL (tick l 0).1 l = true
    · rw [hn, w64 (by omega) (by omega), if_neg (by simp)]
      exact ih' k (by omega)
    · rw [Bool.eq_false_iff.mpr hn, if_pos (by simp)]
theorem TicksToEmpty_same (l : List BL) (_w0 : l.length ≤ maxLen) (_w1 : ∀ x ∈ l, (Lit.int .i64 x.f0).wf = true ∧ (Lit.int .i64 x.f1).wf = true ∧ (Lit.int .i64 x.f2).wf = true) (hl : l.length ≤ 1048576) :
    ∃ R : Int × Bool, (∀ k, 8000000 ≤ k → spec_TicksToEmpty.f k (bconv l) = some R) ∧ (∀ k, 8000000 ≤ k → impl_TicksToEmpty.f k (bconv l) = some R) := by
  have hc : (bconv l).length ≤ 1048576 := by rw [bconv_length]; exact hl
  by_cases hr : rowB (bconv l) = true
  · obtain ⟨r1, r2, r3⟩ := rowB_get hr
    obtain ⟨n, hn, he⟩ := rest 0 (by omega) (bconv l) r3
    have kb : KT n ≤ 7000000 := by unfold KT; omega
    by_cases hk : ck false (bconv l) = true
    · obtain ⟨r, hs', hi'⟩ := TE_wet n (bconv l) 0 r3 (by omega) he hk (by omega) (by omega)
      refine ⟨r, fun k hk' => ?_, fun k hk' => ?_⟩
      · unfold spec_TicksToEmpty.f
        rw [weRow_ok _ k hc (by omega), Option.bind_some, if_pos hr]
        exact hs' k (by omega)
      · unfold impl_TicksToEmpty.f
        rw [IsRow_ok _ hc, Option.bind_some, if_pos hr]
        obtain ⟨k, rfl⟩ : ∃ m, k = m + (bconv l).length + 1 := ⟨k - (bconv l).length - 1, by omega⟩
        have := iTE_l0 (bconv l) (bconv l) (by omega) (bconv l).length k false 0 (by omega) (by omega)
        refine Eq.trans this ?_
        rw [List.drop_zero, if_pos hk]
        exact hi' k (by omega)
    · have ht := TE_trap n (bconv l) 0 r3 (by omega) he (Bool.eq_false_iff.mpr hk) (by omega) (by omega)
      refine ⟨(0, false), fun k hk' => ?_, fun k hk' => ?_⟩
      · unfold spec_TicksToEmpty.f
        rw [weRow_ok _ k hc (by omega), Option.bind_some, if_pos hr]
        exact ht k (by omega)
      · unfold impl_TicksToEmpty.f
        rw [IsRow_ok _ hc, Option.bind_some, if_pos hr]
        obtain ⟨k, rfl⟩ : ∃ m, k = m + (bconv l).length + 1 := ⟨k - (bconv l).length - 1, by omega⟩
        have := iTE_l0 (bconv l) (bconv l) (by omega) (bconv l).length k false 0 (by omega) (by omega)
        refine Eq.trans this ?_
        rw [List.drop_zero, if_neg hk]
  · refine ⟨(0, false), fun k hk => ?_, fun k hk => ?_⟩
    · unfold spec_TicksToEmpty.f
      rw [weRow_ok _ k hc (by omega), Option.bind_some, if_neg hr]
    · unfold impl_TicksToEmpty.f
      rw [IsRow_ok _ hc, Option.bind_some, if_neg hr]

theorem FnExactTicksToEmpty : ∀ (l0 : List S61), l0.length ≤ maxLen → (∀ x ∈ l0, (Lit.int .i64 x.f0).wf = true ∧ (Lit.int .i64 x.f1).wf = true ∧ (Lit.int .i64 x.f2).wf = true) → ∃ k, laws_FnExactTicksToEmpty.f k l0 = some true := by
  intro l0 w0 w1
  have sz := szBasinS_ok l0 w0
  by_cases big : l0.length ≤ 1048576
  case neg =>
    rw [if_neg big] at sz
    refine ⟨0, ?_⟩
    unfold laws_FnExactTicksToEmpty.f
    rw [sz, Option.bind_some, if_pos (by omega)]
  rw [if_pos big] at sz
  have lt : ((1048576 : Int) - (l0.length : Int) < 0) = False := eq_false (by omega)
  have cl : (bconv l0).length ≤ 1048576 := by rw [bconv_length]; exact big
  obtain ⟨R, hs, hi⟩ := TicksToEmpty_same l0 w0 w1 big
  obtain ⟨K, hK⟩ : ∃ K, K = 10000000000000 := ⟨_, rfl⟩
  refine ⟨K + 9, ?_⟩
  simp (disch := omega) only [laws_FnExactTicksToEmpty.f, hs, hi, sz, lt, toBasinS_ok, eqBasinS_ok, Option.bind_some, bne_self_eq_false, Bool.false_eq_true, eq_self, if_true, if_false]
  simp (disch := omega) only [laws_FnExactTicksToEmpty.j0, hs, hi, sz, lt, toBasinS_ok, eqBasinS_ok, Option.bind_some, bne_self_eq_false, Bool.false_eq_true, eq_self, if_true, if_false]

end Go.Proofs.Ytcalhmjnoahliaa.Pure
