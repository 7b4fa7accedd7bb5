/- A tick of a row of basins, as program and reference reckon it. -/
import Derived.Test.YtcalhmjnoahliaaLibBS
import Derived.Test.YtcalhmjnoahliaaLibMB
import Derived.Test.YtcalhmjnoahliaaLibW
import Derived.Test.YtcalhmjnoahliaaPr0
import Derived.Test.YtcalhmjnoahliaaPr6
namespace Go.Proofs.Ytcalhmjnoahliaa.Pure
open Go.RowKit Go.Proofs.Ytcalhmjnoahliaa.Pr Go.Proofs.YtcalhmjnoahliaaW.PrintWords Go.Proofs.YtcalhmjnoahliaaW.PrintLast
set_option linter.unusedVariables false
set_option linter.unusedSimpArgs false

/-- What spills of a basin, what runs out, and what it holds then. -/
def spl (b : BI) (f : Int) : Int := max 0 (b.f2 + f - b.f0)
def rn (b : BI) (f : Int) : Int := min b.f1 (b.f2 + f - spl b f)
def nx (b : BI) (f : Int) : BI := ⟨b.f0, b.f1, b.f2 + f - spl b f - rn b f⟩
def out (b : BI) (f : Int) : Int := spl b f + rn b f
/-- The row behind a tick, the spills, what is given. -/
def tick : List BI → Int → List BI × List Int × Int
  | [], f => ([], [], f)
  | b :: bs, f => (nx b f :: (tick bs (out b f)).1, spl b f :: (tick bs (out b f)).2.1, (tick bs (out b f)).2.2)
theorem tick_len : ∀ (l : List BI) (f : Int), (tick l f).1.length = l.length ∧ (tick l f).2.1.length = l.length
  | [], _ => ⟨rfl, rfl⟩
  | b :: bs, f => by
    have := tick_len bs (out b f)
    exact ⟨by simp [tick, this.1], by simp [tick, this.2]⟩
def good (l : List BI) : Prop := ∀ x ∈ l, basinB x.f0 x.f1 x.f2 = true
theorem nx_good {b : BI} {f : Int} (hb : basinB b.f0 b.f1 b.f2 = true) (hf : 0 ≤ f) : basinB (nx b f).f0 (nx b f).f1 (nx b f).f2 = true ∧ 0 ≤ out b f ∧ out b f ≤ f + 1000 ∧ 0 ≤ spl b f ∧ spl b f ≤ f := by
  obtain ⟨h1, h2, h3, h4, h5, h6⟩ := basinB_get hb
  have e : basinB b.f0 b.f1 (nx b f).f2 = true := by
    unfold basinB
    rw [Bool.and_eq_true, Bool.and_eq_true, inR_iff, inR_iff, inR_iff]
    unfold nx rn spl
    simp only []
    omega
  refine ⟨e, ?_, ?_, ?_, ?_⟩
  · unfold out rn spl; omega
  · unfold out rn spl; omega
  · unfold spl; omega
  · unfold spl; omega
theorem tick_good : ∀ (l : List BI) (f : Int), good l → 0 ≤ f → good (tick l f).1 ∧ 0 ≤ (tick l f).2.2 ∧ (tick l f).2.2 ≤ f + 1000 * (l.length : Int) ∧ ∀ x ∈ (tick l f).2.1, 0 ≤ x ∧ x ≤ f + 1000 * (l.length : Int)
  | [], f, _, hf => ⟨fun x hx => by simp [tick] at hx, hf, by simp [tick], fun x hx => by simp [tick] at hx⟩
  | b :: bs, f, hg, hf => by
    obtain ⟨n1, n2, n3, n4, n5⟩ := nx_good (f := f) (hg b (by simp)) hf
    obtain ⟨t1, t2, t3, t4⟩ := tick_good bs (out b f) (fun x hx => hg x (by simp [hx])) n2
    simp only [tick, List.length_cons]
    refine ⟨fun x hx => ?_, t2, by omega, fun x hx => ?_⟩
    · rcases List.mem_cons.1 hx with rfl | hx
      · exact n1
      · exact t1 x hx
    · rcases List.mem_cons.1 hx with rfl | hx
      · omega
      · have := t4 x hx
        omega
theorem weTick_l0 (l : List BI) (hg : good l) (hl : l.length ≤ 100) : ∀ (d k : Nat) (f : Int) (o : List BI) (s : List Int) (j : Nat), l.length - j = d → d < k → 0 ≤ f → f ≤ 1000000 + 1000 * (j : Int) → o.length ≤ j → s.length ≤ j →
    spec_weTick.l0 k f o s l (l.length : Int) (j : Int) = some (o ++ (tick (l.drop j) f).1, (tick (l.drop j) f).2.2, s ++ (tick (l.drop j) f).2.1) := by
  intro d
  induction d with
  | zero =>
    intro k f o s j hd hk hf hf' ho hs
    obtain ⟨k, rfl⟩ : ∃ m, k = m + 1 := ⟨k - 1, by omega⟩
    simp only [spec_weTick.l0]
    rw [if_neg (by omega), List.drop_of_length_le (by omega)]
    simp [tick]
  | succ d ih =>
    intro k f o s j hd hk hf hf' ho hs
    obtain ⟨k, rfl⟩ : ∃ m, k = m + 1 := ⟨k - 1, by omega⟩
    simp only [spec_weTick.l0]
    have hb : basinB (rd_T59 l (j : Int)).f0 (rd_T59 l (j : Int)).f1 (rd_T59 l (j : Int)).f2 = true := by
      apply hg
      have hj : j < l.length := by omega
      simp [rd_T59, hj]
    rw [drop_rdB l j (by omega)]
    have ih' := ih k
    generalize rd_T59 l (j : Int) = b at hb ⊢
    obtain ⟨h1, h2, h3, h4, h5, h6⟩ := basinB_get hb
    obtain ⟨n1, n2, n3, n4, n5⟩ := nx_good (f := f) hb hf
    have e1 : spec_l1Most.f 0 (b.f2 + f - b.f0) = some (spl b f) := by
      unfold spec_l1Most.f spl
      split <;> (congr 1; omega)
    have e2 : spec_l1Least.f (b.f2 + f - spl b f) b.f1 = some (rn b f) := by
      unfold spec_l1Least.f rn
      split <;> (congr 1; omega)
    have b2 : 0 ≤ rn b f ∧ rn b f ≤ 1000 := by unfold rn spl; omega
    rw [if_pos (by omega), if_pos (by omega), if_pos (by omega), w64 (i := b.f2 + f) (by omega) (by omega), w64 (i := b.f2 + f - b.f0) (by omega) (by omega), e1, Option.bind_some, w64 (i := b.f2 + f - spl b f) (by omega) (by omega), e2, Option.bind_some, if_pos (by omega), if_pos (by omega),
      w64 (i := spl b f + rn b f) (by omega) (by omega), w64 (i := b.f2 + f - spl b f - rn b f) (by omega) (by omega), w64 (i := (j : Int) + 1) (by omega) (by omega)]
    have := ih' (out b f) (o ++ [nx b f]) (s ++ [spl b f]) (j + 1) (by omega) (by omega) n2 (by omega) (by simp; omega) (by simp; omega)
    rw [show (j : Int) + 1 = ((j + 1 : Nat) : Int) by omega]
    refine Eq.trans this ?_
    simp [tick]
theorem weTick_ok (l : List BI) (f : Int) (k : Nat) (hg : good l) (hl : l.length ≤ 100) (h0 : 0 ≤ f) (h1 : f ≤ 1000000) (hk : 1000 ≤ k) : spec_weTick.f k l f = some ((tick l f).1, (tick l f).2.2, (tick l f).2.1) := by
  unfold spec_weTick.f
  have := weTick_l0 l hg hl l.length k f [] [] 0 (by omega) (by omega) h0 (by omega) (by simp) (by simp)
  simpa using this
theorem set_app (o : List BI) (b c : BI) (r : List BI) (j : Nat) (hj : o.length = j) : (o ++ b :: r).set j c = (o ++ [c]) ++ r := by
  subst hj
  simp
theorem tickRow_l0 (l : List BI) (hg : good l) (hl : l.length ≤ 100) : ∀ (d k : Nat) (f : Int) (o : List BI) (s : List Int) (j : Nat), l.length - j = d → d < k → 0 ≤ f → f ≤ 1000000 + 1000 * (j : Int) → o.length = j → s.length ≤ j → j ≤ l.length →
    impl_tickRow.l0 k f (o ++ l.drop j) s (l.length : Int) (j : Int) = some (o ++ (tick (l.drop j) f).1, s ++ (tick (l.drop j) f).2.1, (tick (l.drop j) f).2.2) := by
  intro d
  induction d with
  | zero =>
    intro k f o s j hd hk hf hf' ho hs hjl
    obtain ⟨k, rfl⟩ : ∃ m, k = m + 1 := ⟨k - 1, by omega⟩
    simp only [impl_tickRow.l0]
    rw [if_neg (by omega), List.drop_of_length_le (by omega)]
    simp [tick]
  | succ d ih =>
    intro k f o s j hd hk hf hf' ho hs hjl
    obtain ⟨k, rfl⟩ : ∃ m, k = m + 1 := ⟨k - 1, by omega⟩
    simp only [impl_tickRow.l0, Option.bind_some]
    have hb : basinB (rd_T59 l (j : Int)).f0 (rd_T59 l (j : Int)).f1 (rd_T59 l (j : Int)).f2 = true := by
      apply hg
      have hj : j < l.length := by omega
      simp [rd_T59, hj]
    rw [drop_rdB l j (by omega)]
    have ih' := ih k
    generalize rd_T59 l (j : Int) = b at hb ⊢
    have hdl : (l.drop (j + 1)).length = l.length - (j + 1) := List.length_drop
    generalize hr : l.drop (j + 1) = r at hdl ⊢
    obtain ⟨h1, h2, h3, h4, h5, h6⟩ := basinB_get hb
    obtain ⟨n1, n2, n3, n4, n5⟩ := nx_good (f := f) hb hf
    have et : ((j : Int)).toNat = j := by omega
    have s0 : j < (o ++ b :: r).length := by rw [List.length_append, List.length_cons]; omega
    have er : rd_T59 (o ++ b :: r) (j : Int) = b := by
      subst ho
      simp [rd_T59]
    have e1 : mx 0 (b.f2 + f - b.f0) = spl b f := by unfold mx spl; split <;> omega
    have e2 : mn b.f1 (b.f2 + f - spl b f) = rn b f := by unfold mn rn; split <;> omega
    have b2 : 0 ≤ rn b f ∧ rn b f ≤ 1000 := by unfold rn spl; omega
    have b3 : (0 : Int) ≤ (o ++ b :: r).length := by omega
    rw [if_pos (by omega), if_pos (by omega), if_pos (by rw [List.length_append, List.length_cons]; omega), er, et, w64 (i := b.f2 + f) (by omega) (by omega), rdB_set _ _ _ s0]
    simp only []
    rw [w64 (i := b.f2 + f - b.f0) (by omega) (by omega), e1, w64 (i := b.f2 + f - spl b f) (by omega) (by omega), List.set_set, rdB_set _ _ _ s0]
    simp only []
    rw [e2, if_pos (by omega), List.set_set, w64 (i := spl b f + rn b f) (by omega) (by omega), w64 (i := b.f2 + f - spl b f - rn b f) (by omega) (by omega), w64 (i := (j : Int) + 1) (by omega) (by omega), set_app o b _ r j ho]
    have := ih' (out b f) (o ++ [nx b f]) (s ++ [spl b f]) (j + 1) (by omega) (by omega) n2 (by omega) (by simp [ho]) (by simp; omega) (by omega)
    rw [show (j : Int) + 1 = ((j + 1 : Nat) : Int) by omega]
    rw [hr] at this
    refine Eq.trans this ?_
    simp [tick]
theorem tickRow_ok (l : List BI) (f : Int) (k : Nat) (hg : good l) (hl : l.length ≤ 100) (h0 : 0 ≤ f) (h1 : f ≤ 1000000) (hk : 1000 ≤ k) : impl_tickRow.f k l f = some (tick l f) := by
  unfold impl_tickRow.f impl_Basin_82.f
  rw [if_pos (by omega), Option.bind_some]
  have := tickRow_l0 l hg hl l.length k f [] [] 0 (by omega) (by omega) h0 (by omega) (by simp) (by simp) (by omega)
  simpa using this

end Go.Proofs.Ytcalhmjnoahliaa.Pure
