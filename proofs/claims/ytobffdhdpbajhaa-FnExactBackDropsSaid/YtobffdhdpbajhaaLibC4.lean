/- What the small functions on buckets and gauges compute, in plain lists and numbers, for lists of at most 1048576 numbers. -/
import Derived.Test.YtobffdhdpbajhaaLibA
import Derived.Test.YtobffdhdpbajhaaPr1
import Derived.Test.YtobffdhdpbajhaaPr10
import Derived.Test.YtobffdhdpbajhaaPr12
import Derived.Test.YtobffdhdpbajhaaPr14
import Derived.Test.YtobffdhdpbajhaaPr2
import Derived.Test.YtobffdhdpbajhaaPr4
import Derived.Test.YtobffdhdpbajhaaPr5
import Derived.Test.YtobffdhdpbajhaaPr6
import Derived.Test.YtobffdhdpbajhaaPr7
import Derived.Test.YtobffdhdpbajhaaPr8
import Derived.Test.YtobffdhdpbajhaaPr9
namespace Go.Proofs.Ytobffdhdpbajhaa.Pure
open Go.RowKit Go.Proofs.Ytobffdhdpbajhaa.Pr Go.Proofs.YtobffdhdpbajhaaW.PrintWords Go.Proofs.YtobffdhdpbajhaaW.PrintLast
set_option linter.unusedVariables false
set_option linter.unusedSimpArgs false

def capsB (l : List Int) : Bool := inB 1 6 (l.length : Int) && l.all (inB 2 60)
def gaugeB (a : Int) (l : List Int) : Bool := inB 1 60 a && (decide (l.length ≤ 100) && l.all (inB 0 10000))

theorem tbCaps_ok (l : List Int) (k : Nat) (hl : l.length ≤ 1048576) (hk : 2000000 ≤ k) : spec_tbCaps.f k l = some (capsB l) := by
  unfold spec_tbCaps.f capsB
  rw [l1In_ok, Option.bind_some]
  by_cases h : inB 1 6 (l.length : Int) = true
  · rw [if_pos h, l1All_ok l 2 60 k hl hk, h, Option.bind_some, Bool.true_and]
  · rw [if_neg h, Bool.eq_false_iff.mpr h, Bool.false_and]
theorem AreCaps_ok (l : List Int) (hl : l.length ≤ 1048576) : impl_AreCaps.f l = some (capsB l) := by
  unfold impl_AreCaps.f capsB
  rw [within_ok, Option.bind_some]
  by_cases h : inB 1 6 (l.length : Int) = true
  · rw [if_pos h, areWithin_ok l 2 60 hl, h, Option.bind_some, Bool.true_and]
  · rw [if_neg h, Bool.eq_false_iff.mpr h, Bool.false_and]
theorem tbDrops_ok (n : Int) : spec_tbDrops.f n = some (inB 0 1000000 n) := by
  unfold spec_tbDrops.f
  rw [l1In_ok, Option.bind_some]
theorem areDrops_ok (l : List Int) (n : Int) (hl : l.length ≤ 1048576) : impl_areDrops.f l n = some (capsB l && inB 0 1000000 n) := by
  unfold impl_areDrops.f
  rw [AreCaps_ok l hl, Option.bind_some]
  by_cases h : capsB l = true
  · rw [if_pos h, within_ok, Option.bind_some, h, Bool.true_and]
  · rw [if_neg h, Bool.eq_false_iff.mpr h, Bool.false_and]
theorem tbRain_ok (a : Int) (l : List Int) (k : Nat) (hl : l.length ≤ 1048576) (hk : 2000000 ≤ k) : spec_tbRain.f k a l = some (gaugeB a l) := by
  unfold spec_tbRain.f gaugeB
  rw [l1In_ok, Option.bind_some]
  by_cases h : inB 1 60 a = true
  · rw [if_pos h, h, Bool.true_and]
    by_cases h2 : (l.length : Int) ≤ 100
    · rw [if_pos h2, l1All_ok l 0 10000 k hl hk, Option.bind_some, decide_eq_true (by omega : l.length ≤ 100), Bool.true_and]
    · rw [if_neg h2, decide_eq_false (by omega : ¬ l.length ≤ 100), Bool.false_and]
  · rw [if_neg h, Bool.eq_false_iff.mpr h, Bool.false_and]
theorem isGauge_ok (a : Int) (l : List Int) (hl : l.length ≤ 1048576) : impl_isGauge.f a l = some (gaugeB a l) := by
  unfold impl_isGauge.f gaugeB
  rw [within_ok, Option.bind_some]
  by_cases h : inB 1 60 a = true
  · rw [if_pos h, h, Bool.true_and]
    by_cases h2 : (l.length : Int) ≤ 100
    · rw [if_pos h2, areWithin_ok l 0 10000 hl, Option.bind_some, decide_eq_true (by omega : l.length ≤ 100), Bool.true_and]
    · rw [if_neg h2, decide_eq_false (by omega : ¬ l.length ≤ 100), Bool.false_and]
  · rw [if_neg h, Bool.eq_false_iff.mpr h, Bool.false_and]
theorem capsB_get {l : List Int} (h : capsB l = true) : 1 ≤ l.length ∧ l.length ≤ 6 ∧ ∀ x ∈ l, 2 ≤ x ∧ x ≤ 60 := by
  unfold capsB at h
  rw [Bool.and_eq_true, inB_iff, List.all_eq_true] at h
  exact ⟨by omega, by omega, fun x hx => (inB_iff _ _ _).mp (h.2 x hx)⟩
theorem gaugeB_get {a : Int} {l : List Int} (h : gaugeB a l = true) : 1 ≤ a ∧ a ≤ 60 ∧ l.length ≤ 100 ∧ ∀ x ∈ l, 0 ≤ x ∧ x ≤ 10000 := by
  unfold gaugeB at h
  rw [Bool.and_eq_true, Bool.and_eq_true, inB_iff, List.all_eq_true, decide_eq_true_iff] at h
  exact ⟨by omega, by omega, by omega, fun x hx => (inB_iff _ _ _).mp (h.2.2 x hx)⟩
theorem rd_mem (l : List Int) (j : Nat) (h : j < l.length) : rd l (j : Int) ∈ l := by
  rw [rd_nat l j h]
  exact List.getElem_mem h

/-! ### the product and the sum -/
def wprod (acc : Int) (l : List Int) : Int := l.foldl (fun s x => wrap64 (s * x)) acc
def wsum (acc : Int) (l : List Int) : Int := l.foldl (fun s x => wrap64 (s + x)) acc
theorem tbRound_l0 (l : List Int) (hl : l.length ≤ 1048576) : ∀ (d k : Nat) (acc : Int) (j : Nat), l.length - j = d → d < k → spec_tbRound.l0 k acc l (l.length : Int) (j : Int) = some (wprod acc (l.drop j)) := by
  intro d
  induction d with
  | zero =>
    intro k acc j hd hk
    obtain ⟨k, rfl⟩ : ∃ m, k = m + 1 := ⟨k - 1, by omega⟩
    simp only [spec_tbRound.l0]
    rw [if_neg (by omega), drop_all l j (by omega)]
    rfl
  | succ d ih =>
    intro k acc j hd hk
    obtain ⟨k, rfl⟩ : ∃ m, k = m + 1 := ⟨k - 1, by omega⟩
    simp only [spec_tbRound.l0]
    rw [if_pos (by omega), if_pos (by omega), if_pos (by omega), w64 (i := (j : Int) + 1) (by omega) (by omega), drop_rd l j (by omega)]
    exact ih k _ (j + 1) (by omega) (by omega)
theorem tbRound_ok (l : List Int) (k : Nat) (hl : l.length ≤ 1048576) (hk : 2000000 ≤ k) : spec_tbRound.f k l = some (wprod 1 l) := by
  unfold spec_tbRound.f
  exact tbRound_l0 l hl l.length k 1 0 (by omega) (by omega)
theorem round_l0 (l : List Int) (hl : l.length ≤ 1048576) : ∀ (d k : Nat) (acc : Int) (j : Nat), l.length - j = d → d < k → impl_round.l0 k acc l (l.length : Int) (j : Int) = some (wprod acc (l.drop j)) := by
  intro d
  induction d with
  | zero =>
    intro k acc j hd hk
    obtain ⟨k, rfl⟩ : ∃ m, k = m + 1 := ⟨k - 1, by omega⟩
    simp only [impl_round.l0]
    rw [if_neg (by omega), drop_all l j (by omega)]
    rfl
  | succ d ih =>
    intro k acc j hd hk
    obtain ⟨k, rfl⟩ : ∃ m, k = m + 1 := ⟨k - 1, by omega⟩
    simp only [impl_round.l0]
    rw [if_pos (by omega), if_pos (by omega), if_pos (by omega), w64 (i := (j : Int) + 1) (by omega) (by omega), drop_rd l j (by omega)]
    exact ih k _ (j + 1) (by omega) (by omega)
theorem round_ok (l : List Int) (k : Nat) (hl : l.length ≤ 1048576) (hk : 2000000 ≤ k) : impl_round.f k l = some (wprod 1 l) := by
  unfold impl_round.f
  exact round_l0 l hl l.length k 1 0 (by omega) (by omega)
theorem veSum_l0 (l : List Int) (hl : l.length ≤ 1048576) : ∀ (d k : Nat) (acc : Int) (j : Nat), l.length - j = d → d < k → spec_veSum.l0 k acc l (l.length : Int) (j : Int) = some (wsum acc (l.drop j)) := by
  intro d
  induction d with
  | zero =>
    intro k acc j hd hk
    obtain ⟨k, rfl⟩ : ∃ m, k = m + 1 := ⟨k - 1, by omega⟩
    simp only [spec_veSum.l0]
    rw [if_neg (by omega), drop_all l j (by omega)]
    rfl
  | succ d ih =>
    intro k acc j hd hk
    obtain ⟨k, rfl⟩ : ∃ m, k = m + 1 := ⟨k - 1, by omega⟩
    simp only [spec_veSum.l0]
    rw [if_pos (by omega), if_pos (by omega), if_pos (by omega), w64 (i := (j : Int) + 1) (by omega) (by omega), drop_rd l j (by omega)]
    exact ih k _ (j + 1) (by omega) (by omega)
theorem veSum_ok (l : List Int) (k : Nat) (hl : l.length ≤ 1048576) (hk : 2000000 ≤ k) : spec_veSum.f k l = some (wsum 0 l) := by
  unfold spec_veSum.f
  exact veSum_l0 l hl l.length k 0 0 (by omega) (by omega)
theorem total_l0 (l : List Int) (hl : l.length ≤ 1048576) : ∀ (d k : Nat) (acc : Int) (j : Nat), l.length - j = d → d < k → impl_total.l0 k acc l (l.length : Int) (j : Int) = some (wsum acc (l.drop j)) := by
  intro d
  induction d with
  | zero =>
    intro k acc j hd hk
    obtain ⟨k, rfl⟩ : ∃ m, k = m + 1 := ⟨k - 1, by omega⟩
    simp only [impl_total.l0]
    rw [if_neg (by omega), drop_all l j (by omega)]
    rfl
  | succ d ih =>
    intro k acc j hd hk
    obtain ⟨k, rfl⟩ : ∃ m, k = m + 1 := ⟨k - 1, by omega⟩
    simp only [impl_total.l0]
    rw [if_pos (by omega), if_pos (by omega), if_pos (by omega), w64 (i := (j : Int) + 1) (by omega) (by omega), drop_rd l j (by omega)]
    exact ih k _ (j + 1) (by omega) (by omega)
theorem total_ok (l : List Int) (k : Nat) (hl : l.length ≤ 1048576) (hk : 2000000 ≤ k) : impl_total.f k l = some (wsum 0 l) := by
  unfold impl_total.f
  exact total_l0 l hl l.length k 0 0 (by omega) (by omega)

/-! ### what buckets hold, and how often they tip -/
def fall : Int → List Int → List Int × List Int
  | _, [] => ([], [])
  | n, c :: cs => (Int.tmod n c :: (fall (wrap64 (Int.tdiv n c)) cs).1, wrap64 (Int.tdiv n c) :: (fall (wrap64 (Int.tdiv n c)) cs).2)
theorem fall_length : ∀ (cs : List Int) (n : Int), (fall n cs).1.length = cs.length ∧ (fall n cs).2.length = cs.length
  | [], _ => ⟨rfl, rfl⟩
  | c :: cs, n => by
    have := fall_length cs (wrap64 (Int.tdiv n c))
    simp only [fall, List.length_cons]
    omega
theorem tbHeld_l0 (l : List Int) (hl : l.length ≤ 1048576) (hc : ∀ x ∈ l, x ≠ 0) : ∀ (d k : Nat) (n : Int) (acc : List Int) (j : Nat), l.length - j = d → d < k → acc.length ≤ j →
    spec_tbHeld.l0 k n acc l (l.length : Int) (j : Int) = some (acc ++ (fall n (l.drop j)).1) := by
  intro d
  induction d with
  | zero =>
    intro k n acc j hd hk ha
    obtain ⟨k, rfl⟩ : ∃ m, k = m + 1 := ⟨k - 1, by omega⟩
    simp only [spec_tbHeld.l0]
    rw [if_neg (by omega), drop_all l j (by omega)]
    simp [fall]
  | succ d ih =>
    intro k n acc j hd hk ha
    obtain ⟨k, rfl⟩ : ∃ m, k = m + 1 := ⟨k - 1, by omega⟩
    simp only [spec_tbHeld.l0]
    rw [if_pos (by omega), if_pos (by omega), if_pos (by omega), if_neg (hc _ (rd_mem l j (by omega))), if_pos (by omega), w64 (i := (j : Int) + 1) (by omega) (by omega), drop_rd l j (by omega)]
    have := ih k (wrap64 (Int.tdiv n (rd l j))) (acc ++ [Int.tmod n (rd l j)]) (j + 1) (by omega) (by omega) (by simp; omega)
    rw [show (j : Int) + 1 = ((j + 1 : Nat) : Int) by omega, this, fall]
    simp
theorem tbHeld_ok (l : List Int) (n : Int) (k : Nat) (hl : l.length ≤ 1048576) (hc : ∀ x ∈ l, x ≠ 0) (hk : 2000000 ≤ k) : spec_tbHeld.f k l n = some (fall n l).1 := by
  unfold spec_tbHeld.f
  have := tbHeld_l0 l hl hc l.length k n [] 0 (by omega) (by omega) (by simp)
  simpa using this
theorem fallen_l0 (l : List Int) (hl : l.length ≤ 1048576) (hc : ∀ x ∈ l, x ≠ 0) : ∀ (d k : Nat) (n : Int) (acc bcc : List Int) (j : Nat), l.length - j = d → d < k → acc.length ≤ j → bcc.length ≤ j →
    impl_fallen.l0 k n acc bcc l (l.length : Int) (j : Int) = some (acc ++ (fall n (l.drop j)).1, bcc ++ (fall n (l.drop j)).2) := by
  intro d
  induction d with
  | zero =>
    intro k n acc bcc j hd hk ha hb
    obtain ⟨k, rfl⟩ : ∃ m, k = m + 1 := ⟨k - 1, by omega⟩
    simp only [impl_fallen.l0]
    rw [if_neg (by omega), drop_all l j (by omega)]
    simp [fall]
  | succ d ih =>
    intro k n acc bcc j hd hk ha hb
    obtain ⟨k, rfl⟩ : ∃ m, k = m + 1 := ⟨k - 1, by omega⟩
    simp only [impl_fallen.l0]
    rw [if_pos (by omega), if_pos (by omega), if_pos (by omega), if_neg (hc _ (rd_mem l j (by omega))), Option.bind_some, if_pos (by simp; omega), Option.bind_some, if_pos (by simp; omega), w64 (i := (j : Int) + 1) (by omega) (by omega), drop_rd l j (by omega)]
    have := ih k (wrap64 (Int.tdiv n (rd l j))) (acc ++ [Int.tmod n (rd l j)]) (bcc ++ [wrap64 (Int.tdiv n (rd l j))]) (j + 1) (by omega) (by omega) (by simp; omega) (by simp; omega)
    rw [show (j : Int) + 1 = ((j + 1 : Nat) : Int) by omega, this, fall]
    simp
theorem fallen_ok (l : List Int) (n : Int) (k : Nat) (hl : l.length ≤ 1048576) (hc : ∀ x ∈ l, x ≠ 0) (hk : 2000000 ≤ k) : impl_fallen.f k l n = some (fall n l) := by
  unfold impl_fallen.f
  have := fallen_l0 l hl hc l.length k n [] [] 0 (by omega) (by omega) (by simp) (by simp)
  simpa using this

/-! ### how many drops a list of what is held stands for -/
def numb (a b : List Int) : Nat → Int → Int
  | 0, acc => acc
  | i + 1, acc => numb a b i (wrap64 (wrap64 (acc * rd a (i : Int)) + rd b (i : Int)))
theorem tbNumber_l0 (a b : List Int) (ha : a.length ≤ 1048576) (hab : a.length = b.length) : ∀ (i k : Nat) (acc : Int), i < k → i ≤ a.length → spec_tbNumber.l0 k a b acc ((i : Int) - 1) = some (numb a b i acc) := by
  intro i
  induction i with
  | zero =>
    intro k acc hk hi
    obtain ⟨k, rfl⟩ : ∃ m, k = m + 1 := ⟨k - 1, by omega⟩
    simp only [spec_tbNumber.l0]
    rw [if_neg (by omega)]
    rfl
  | succ i ih =>
    intro k acc hk hi
    obtain ⟨k, rfl⟩ : ∃ m, k = m + 1 := ⟨k - 1, by omega⟩
    simp only [spec_tbNumber.l0]
    rw [show ((i + 1 : Nat) : Int) - 1 = (i : Int) by omega, if_pos (by omega), if_pos (by omega), if_pos (by omega), if_pos (by omega), w64 (i := (i : Int) - 1) (by omega) (by omega)]
    exact ih k _ (by omega) (by omega)
theorem tbNumber_ok (a b : List Int) (k : Nat) (ha : a.length ≤ 1048576) (hab : a.length = b.length) (hk : 2000000 ≤ k) : spec_tbNumber.f k a b = some (numb a b a.length 0) := by
  unfold spec_tbNumber.f
  rw [w64 (by omega) (by omega)]
  exact tbNumber_l0 a b ha hab a.length k 0 (by omega) (by omega)
theorem dropsFor_l0 (a b : List Int) (ha : a.length ≤ 1048576) (hab : a.length = b.length) : ∀ (i k : Nat) (acc : Int), i < k → i ≤ a.length → impl_dropsFor.l0 k a b acc ((i : Int) - 1) = some (numb a b i acc) := by
  intro i
  induction i with
  | zero =>
    intro k acc hk hi
    obtain ⟨k, rfl⟩ : ∃ m, k = m + 1 := ⟨k - 1, by omega⟩
    simp only [impl_dropsFor.l0]
    rw [if_neg (by omega)]
    rfl
  | succ i ih =>
    intro k acc hk hi
    obtain ⟨k, rfl⟩ : ∃ m, k = m + 1 := ⟨k - 1, by omega⟩
    simp only [impl_dropsFor.l0]
    rw [show ((i + 1 : Nat) : Int) - 1 = (i : Int) by omega, if_pos (by omega), if_pos (by omega), if_pos (by omega), if_pos (by omega), w64 (i := (i : Int) - 1) (by omega) (by omega)]
    exact ih k _ (by omega) (by omega)
theorem dropsFor_ok (a b : List Int) (k : Nat) (ha : a.length ≤ 1048576) (hab : a.length = b.length) (hk : 2000000 ≤ k) : impl_dropsFor.f k a b = some (numb a b a.length 0) := by
  unfold impl_dropsFor.f
  rw [w64 (by omega) (by omega)]
  exact dropsFor_l0 a b ha hab a.length k 0 (by omega) (by omega)

/-! ### can buckets hold a list -/
def fitsB (a b : List Int) : Nat → Nat → Bool
  | _, 0 => true
  | j, d + 1 => inB 0 (wrap64 (rd a (j : Int) - 1)) (rd b (j : Int)) && fitsB a b (j + 1) d
def heldB (a b : List Int) : Bool := capsB a && (decide (a.length = b.length) && fitsB a b 0 b.length)
theorem tbHolds_l0 (a b : List Int) (ha : a.length ≤ 1048576) (hab : a.length = b.length) : ∀ (d k j : Nat), b.length - j = d → j ≤ b.length → d < k → spec_tbHolds.l0 k a b (b.length : Int) (j : Int) = some (fitsB a b j d) := by
  intro d
  induction d with
  | zero =>
    intro k j hd hj hk
    obtain ⟨k, rfl⟩ : ∃ m, k = m + 1 := ⟨k - 1, by omega⟩
    simp only [spec_tbHolds.l0]
    rw [if_neg (by omega)]
    rfl
  | succ d ih =>
    intro k j hd hj hk
    obtain ⟨k, rfl⟩ : ∃ m, k = m + 1 := ⟨k - 1, by omega⟩
    simp only [spec_tbHolds.l0]
    rw [if_pos (by omega), if_pos (by omega), if_pos (by omega), if_pos (by omega), l1In_ok, Option.bind_some, w64 (i := (j : Int) + 1) (by omega) (by omega), fitsB]
    have := ih k (j + 1) (by omega) (by omega) (by omega)
    by_cases h : inB 0 (wrap64 (rd a (j : Int) - 1)) (rd b (j : Int)) = true
    · rw [if_pos h, h, Bool.true_and]
      exact this
    · rw [if_neg h, Bool.eq_false_iff.mpr h, Bool.false_and]
theorem tbHolds_ok (a b : List Int) (k : Nat) (ha : a.length ≤ 1048576) (hk : 2000000 ≤ k) : spec_tbHolds.f k a b = some (heldB a b) := by
  unfold spec_tbHolds.f heldB
  rw [tbCaps_ok a k ha hk, Option.bind_some]
  obtain ⟨k, rfl⟩ : ∃ m, k = m + 1 := ⟨k - 1, by omega⟩
  simp only [spec_tbHolds.j0]
  by_cases h : capsB a = true
  · rw [if_pos h, h, Bool.true_and]
    by_cases e : a.length = b.length
    · have e' : ((b.length : Int) != (a.length : Int)) = false := by simp; omega
      rw [e', if_neg (by simp), decide_eq_true e, Bool.true_and]
      exact tbHolds_l0 a b ha e b.length k 0 (by omega) (by omega) (by omega)
    · have e' : ((b.length : Int) != (a.length : Int)) = true := by simp; omega
      rw [e', if_pos rfl, decide_eq_false e, Bool.false_and]
  · rw [if_neg h, if_pos trivial, Bool.eq_false_iff.mpr h, Bool.false_and]
theorem areHeld_l0 (a b : List Int) (ha : a.length ≤ 1048576) (hab : a.length = b.length) : ∀ (d k j : Nat), b.length - j = d → j ≤ b.length → d < k → impl_areHeld.l0 k a b (b.length : Int) (j : Int) = some (fitsB a b j d) := by
  intro d
  induction d with
  | zero =>
    intro k j hd hj hk
    obtain ⟨k, rfl⟩ : ∃ m, k = m + 1 := ⟨k - 1, by omega⟩
    simp only [impl_areHeld.l0]
    rw [if_neg (by omega)]
    rfl
  | succ d ih =>
    intro k j hd hj hk
    obtain ⟨k, rfl⟩ : ∃ m, k = m + 1 := ⟨k - 1, by omega⟩
    simp only [impl_areHeld.l0]
    rw [if_pos (by omega), if_pos (by omega), if_pos (by omega), if_pos (by omega), within_ok, Option.bind_some, w64 (i := (j : Int) + 1) (by omega) (by omega), fitsB]
    have := ih k (j + 1) (by omega) (by omega) (by omega)
    by_cases h : inB 0 (wrap64 (rd a (j : Int) - 1)) (rd b (j : Int)) = true
    · rw [if_pos h, h, Bool.true_and]
      exact this
    · rw [if_neg h, Bool.eq_false_iff.mpr h, Bool.false_and]
theorem areHeld_ok (a b : List Int) (k : Nat) (ha : a.length ≤ 1048576) (hk : 2000000 ≤ k) : impl_areHeld.f k a b = some (heldB a b) := by
  unfold impl_areHeld.f heldB
  rw [AreCaps_ok a ha, Option.bind_some]
  obtain ⟨k, rfl⟩ : ∃ m, k = m + 1 := ⟨k - 1, by omega⟩
  simp only [impl_areHeld.j0]
  by_cases h : capsB a = true
  · rw [if_pos h, h, Bool.true_and]
    by_cases e : a.length = b.length
    · have e' : ((b.length : Int) != (a.length : Int)) = false := by simp; omega
      rw [e', if_neg (by simp), decide_eq_true e, Bool.true_and]
      exact areHeld_l0 a b ha e b.length k 0 (by omega) (by omega) (by omega)
    · have e' : ((b.length : Int) != (a.length : Int)) = true := by simp; omega
      rw [e', if_pos rfl, decide_eq_false e, Bool.false_and]
  · rw [if_neg h, if_pos trivial, Bool.eq_false_iff.mpr h, Bool.false_and]
theorem fitsB_get (a b : List Int) : ∀ (d j : Nat), fitsB a b j d = true → ∀ m, j ≤ m → m < j + d → 0 ≤ rd b (m : Int) ∧ rd b (m : Int) ≤ wrap64 (rd a (m : Int) - 1)
  | 0, j, _, m, h1, h2 => by omega
  | d + 1, j, h, m, h1, h2 => by
    unfold fitsB at h
    rw [Bool.and_eq_true, inB_iff] at h
    by_cases e : m = j
    · subst e
      exact h.1
    · exact fitsB_get a b d (j + 1) h.2 m (by omega) (by omega)
theorem heldB_get {a b : List Int} (h : heldB a b = true) : capsB a = true ∧ a.length = b.length ∧ ∀ m : Nat, m < a.length → 0 ≤ rd b (m : Int) ∧ rd b (m : Int) ≤ rd a (m : Int) - 1 := by
  unfold heldB at h
  rw [Bool.and_eq_true, Bool.and_eq_true, decide_eq_true_iff] at h
  refine ⟨h.1, h.2.1, fun m hm => ?_⟩
  have hc := (capsB_get h.1).2.2 _ (rd_mem a m hm)
  have := fitsB_get a b _ _ h.2.2 m (by omega) (by omega)
  rw [w64 (by omega) (by omega)] at this
  exact this

end Go.Proofs.Ytobffdhdpbajhaa.Pure
