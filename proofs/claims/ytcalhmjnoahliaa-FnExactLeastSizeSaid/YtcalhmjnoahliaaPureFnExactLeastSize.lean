/- The program's LeastSize and the reference's tell the same, and the arguments are left. It holds for all inputs that the statement lets in. -/
import Derived.Test.YtcalhmjnoahliaaLibA
import Derived.Test.YtcalhmjnoahliaaLibBO
import Derived.Test.YtcalhmjnoahliaaLibBS
import Derived.Test.YtcalhmjnoahliaaLibRun
import Derived.Test.YtcalhmjnoahliaaLibRunB
import Derived.Test.YtcalhmjnoahliaaLibTk
import Derived.Test.YtcalhmjnoahliaaLibW
import Derived.Test.YtcalhmjnoahliaaPr0
import Derived.Test.YtcalhmjnoahliaaPr27
import Derived.Test.YtcalhmjnoahliaaPr28
import Derived.Test.YtcalhmjnoahliaaPr6
namespace Go.Proofs.Ytcalhmjnoahliaa.Pure
open Go.RowKit Go.Proofs.Ytcalhmjnoahliaa.Pr Go.Proofs.YtcalhmjnoahliaaW.PrintWords Go.Proofs.YtcalhmjnoahliaaW.PrintLast
set_option linter.unusedVariables false
set_option linter.unusedSimpArgs false

/-- A row parted: what is ahead, a basin, what is behind. -/
theorem tick_app : ∀ (a b : List BI) (f : Int), tick (a ++ b) f = ((tick a f).1 ++ (tick b (tick a f).2.2).1, (tick a f).2.1 ++ (tick b (tick a f).2.2).2.1, (tick b (tick a f).2.2).2.2)
  | [], _, _ => rfl
  | x :: xs, b, f => by
    simp only [List.cons_append, tick, tick_app xs b (out x f)]
/-- What the basin behind the row a would hold with a size that is never too small, tick by tick, and the most that is in it. -/
def lsz (o : Int) : List BI → Int → List Int → Int → Int
  | _, _, [], m => m
  | a, h, f :: fs, m => lsz o (tick a f).1 (max 0 (h + (tick a f).2.2 - o)) fs (max m (h + (tick a f).2.2))
theorem lsz_ge (o : Int) : ∀ (fs : List Int) (a : List BI) (h m : Int), m ≤ lsz o a h fs m
  | [], _, _, m => Int.le_refl m
  | f :: fs, a, h, m => by
    have := lsz_ge o fs (tick a f).1 (max 0 (h + (tick a f).2.2 - o)) (max m (h + (tick a f).2.2))
    show m ≤ lsz o (tick a f).1 (max 0 (h + (tick a f).2.2 - o)) fs (max m (h + (tick a f).2.2))
    omega
theorem lsz_max (o : Int) : ∀ (fs : List Int) (a : List BI) (h m n : Int), lsz o a h fs (max m n) = max m (lsz o a h fs n)
  | [], _, _, _, _ => rfl
  | f :: fs, a, h, m, n => by
    show lsz o (tick a f).1 (max 0 (h + (tick a f).2.2 - o)) fs (max (max m n) (h + (tick a f).2.2)) = max m (lsz o (tick a f).1 (max 0 (h + (tick a f).2.2 - o)) fs (max n (h + (tick a f).2.2)))
    rw [← lsz_max o fs _ _ m (max n (h + (tick a f).2.2))]
    congr 1
    omega
/-- Does something spill of the basin with number i, in some row of spills? -/
def spt (i : Nat) (ss : List (List Int)) : Bool := ss.any (fun s => decide (0 < rd s (i : Int)))
theorem rd_mid (a : List Int) (x : Int) (b : List Int) (i : Nat) (h : a.length = i) : rd (a ++ x :: b) (i : Int) = x := by
  subst h
  simp [rd]
/-- A basin of size s behind the row a spills in a run just if more than s would be in it. -/
theorem spt_iff (s o : Int) (ho : 0 ≤ o) : ∀ (fs : List Int) (a : List BI) (h : Int) (r : List BI), spt a.length (runS (a ++ (⟨s, o, h⟩ : BI) :: r) fs) = true ↔ s < lsz o a h fs s
  | [], a, h, r => by
    show (false = true) ↔ s < s
    simp
  | f :: fs, a, h, r => by
    have e1 : runS (a ++ (⟨s, o, h⟩ : BI) :: r) (f :: fs) = ((tick a f).2.1 ++ spl ⟨s, o, h⟩ (tick a f).2.2 :: (tick r (out ⟨s, o, h⟩ (tick a f).2.2)).2.1) :: runS ((tick a f).1 ++ nx ⟨s, o, h⟩ (tick a f).2.2 :: (tick r (out ⟨s, o, h⟩ (tick a f).2.2)).1) fs := by
      show (tick (a ++ _ :: r) f).2.1 :: runS (tick (a ++ _ :: r) f).1 fs = _
      rw [tick_app]
      rfl
    have e2 : lsz o a h (f :: fs) s = lsz o (tick a f).1 (max 0 (h + (tick a f).2.2 - o)) fs (max s (h + (tick a f).2.2)) := rfl
    have tl := tick_len a f
    rw [e1, e2]
    have e3 : spt a.length (((tick a f).2.1 ++ spl ⟨s, o, h⟩ (tick a f).2.2 :: (tick r (out ⟨s, o, h⟩ (tick a f).2.2)).2.1) :: runS ((tick a f).1 ++ nx ⟨s, o, h⟩ (tick a f).2.2 :: (tick r (out ⟨s, o, h⟩ (tick a f).2.2)).1) fs) = (decide (0 < spl ⟨s, o, h⟩ (tick a f).2.2) || spt a.length (runS ((tick a f).1 ++ nx ⟨s, o, h⟩ (tick a f).2.2 :: (tick r (out ⟨s, o, h⟩ (tick a f).2.2)).1) fs)) := by
      show (decide (0 < rd _ _) || _) = _
      rw [rd_mid _ _ _ _ tl.2]
      rfl
    rw [e3]
    generalize (tick a f).2.2 = x at *
    by_cases hs : s < h + x
    · have := lsz_ge o fs (tick a f).1 (max 0 (h + x - o)) (max s (h + x))
      have h1 : 0 < spl ⟨s, o, h⟩ x := by unfold spl; simp only []; omega
      rw [decide_eq_true h1, Bool.true_or]
      constructor
      · intro _
        omega
      · intro _
        rfl
    · have h1 : ¬ 0 < spl ⟨s, o, h⟩ x := by unfold spl; simp only []; omega
      have h2 : spl ⟨s, o, h⟩ x = 0 := by unfold spl; simp only []; omega
      have h3 : nx ⟨s, o, h⟩ x = (⟨s, o, max 0 (h + x - o)⟩ : BI) := by
        unfold nx rn
        rw [h2]
        simp only []
        congr 1
        omega
      rw [decide_eq_false h1, Bool.false_or, h3, show max s (h + x) = s by omega, ← tl.1]
      exact spt_iff s o ho fs (tick a f).1 (max 0 (h + x - o)) _
theorem drop_rdI3 (x : List (List Int)) (j : Nat) (h : j < x.length) : x.drop j = rd_L1 x (j : Int) :: x.drop (j + 1) := by
  rw [List.drop_eq_getElem_cons h]
  simp [rd_L1, h]
/-- The reference's loop over the spills. -/
theorem sLS_l1 (l : List BI) (i : Nat) (fs : List Int) (z : Int) (ss : List (List Int)) (hr : ∀ r ∈ ss, i < r.length) (hl : ss.length ≤ 1000) : ∀ (d k : Nat) (b : Bool) (j : Nat), ss.length - j = d →
    spec_LeastSize.l1 (k + d + 1) l (i : Int) fs z b ss (ss.length : Int) (j : Int) = if (b || spt i (ss.drop j)) = true then spec_LeastSize.l0 k l (i : Int) fs (wrap64 (z + 1)) else some (z, true) := by
  intro d
  induction d with
  | zero =>
    intro k b j hd
    simp only [spec_LeastSize.l1, Nat.add_zero]
    rw [if_neg (by omega), List.drop_of_length_le (by omega)]
    cases b <;> rfl
  | succ d ih =>
    intro k b j hd
    have e := drop_rdI3 ss j (by omega)
    have hm := hr (rd_L1 ss (j : Int)) (List.mem_of_mem_drop (by rw [e]; exact List.mem_cons_self))
    obtain ⟨q, hq⟩ : ∃ q, q = k + d + 1 := ⟨_, rfl⟩
    rw [show k + (d + 1) + 1 = q + 1 by omega]
    simp only [spec_LeastSize.l1]
    rw [if_pos (by omega), if_pos (by omega), if_pos (by omega), w64 (i := (j : Int) + 1) (by omega) (by omega), show (j : Int) + 1 = ((j + 1 : Nat) : Int) by omega, hq, e]
    cases b with
    | true =>
      rw [if_pos rfl, ih k true (j + 1) (by omega), Bool.true_or, Bool.true_or]
    | false =>
      rw [if_neg (by decide), if_pos (by omega), if_pos (by omega), ih k _ (j + 1) (by omega), Bool.false_or]
      rfl
theorem set_mid (l : List BI) (i : Nat) (h : i < l.length) (c : BI) : l.set i c = l.take i ++ c :: l.drop (i + 1) := by
  rw [List.set_eq_take_append_cons_drop, if_pos h]
/-- The reference's loop over the sizes: the first one that nothing spills with. -/
theorem sLS_l0 (l : List BI) (i : Nat) (fs : List Int) (hi : i < l.length) (hg : good l) (hlen : l.length ≤ 6) (hf : okF fs) (hfl : fs.length ≤ 60) (S : Int) (h1 : 1 ≤ S) (hh : (rd_T59 l (i : Int)).f2 ≤ S)
    (hS : lsz (rd_T59 l (i : Int)).f1 (l.take i) (rd_T59 l (i : Int)).f2 fs (max 1 (rd_T59 l (i : Int)).f2) = S) : ∀ (d k : Nat) (z : Int), (1001 - z).toNat = d → 5000 + 100 * d < k → max 1 (rd_T59 l (i : Int)).f2 ≤ z → z ≤ S → z ≤ 1001 →
    spec_LeastSize.l0 k l (i : Int) fs z = some (if S > 1000 then (0, false) else (S, true)) := by
  have hb : basinB (rd_T59 l (i : Int)).f0 (rd_T59 l (i : Int)).f1 (rd_T59 l (i : Int)).f2 = true := by
    apply hg
    simp [rd_T59, hi]
  obtain ⟨b1, b2, b3, b4, b5, b6⟩ := basinB_get hb
  intro d
  induction d with
  | zero =>
    intro k z hd hk hz1 hz2 hz3
    obtain ⟨k, rfl⟩ : ∃ m, k = m + 1 := ⟨k - 1, by omega⟩
    simp only [spec_LeastSize.l0]
    rw [if_neg (by omega), if_pos (by omega)]
  | succ d ih =>
    intro k z hd hk hz1 hz2 hz3
    obtain ⟨q, rfl⟩ : ∃ m, k = m + 1 := ⟨k - 1, by omega⟩
    simp only [spec_LeastSize.l0]
    generalize hB : rd_T59 l (i : Int) = B at *
    have hset : ([] ++ l).set ((i : Int)).toNat (⟨z, B.f1, B.f2⟩ : BI) = l.take i ++ (⟨z, B.f1, B.f2⟩ : BI) :: l.drop (i + 1) := by
      rw [List.nil_append, Int.toNat_natCast, set_mid l i hi]
    have hgood : good (l.take i ++ (⟨z, B.f1, B.f2⟩ : BI) :: l.drop (i + 1)) := by
      intro x hx
      rcases List.mem_append.1 hx with hx | hx
      · exact hg x (List.mem_of_mem_take hx)
      · rcases List.mem_cons.1 hx with rfl | hx
        · unfold basinB
          rw [Bool.and_eq_true, Bool.and_eq_true, inR_iff, inR_iff, inR_iff]
          simp only []
          omega
        · exact hg x (List.mem_of_mem_drop hx)
    have hglen : (l.take i ++ (⟨z, B.f1, B.f2⟩ : BI) :: l.drop (i + 1)).length = l.length := by simp; omega
    have htl : (l.take i).length = i := by simp; omega
    rw [if_pos (by omega), Option.bind_some, if_pos (by simp only [List.length_nil]; omega), Option.bind_some, if_pos (by omega), if_pos (by omega), if_pos (by simp; omega), hset, weGo_ok _ fs q hgood (by omega) hf (by omega) (by omega), Option.bind_some]
    simp only []
    have hss := (run_len (l.take i ++ (⟨z, B.f1, B.f2⟩ : BI) :: l.drop (i + 1)) fs).2.1
    obtain ⟨k, rfl⟩ : ∃ m, q = m + (runS (l.take i ++ (⟨z, B.f1, B.f2⟩ : BI) :: l.drop (i + 1)) fs).length + 1 := ⟨q - (runS (l.take i ++ (⟨z, B.f1, B.f2⟩ : BI) :: l.drop (i + 1)) fs).length - 1, by omega⟩
    have hl1 := sLS_l1 l i fs z (runS (l.take i ++ (⟨z, B.f1, B.f2⟩ : BI) :: l.drop (i + 1)) fs) (fun r h => by have := runS_lens _ fs r h; omega) (by omega) (runS (l.take i ++ (⟨z, B.f1, B.f2⟩ : BI) :: l.drop (i + 1)) fs).length k false 0 (by omega)
    rw [show ((0 : Nat) : Int) = 0 from rfl, List.drop_zero, Bool.false_or] at hl1
    rw [hl1]
    have hiff := spt_iff z B.f1 b3 fs (l.take i) B.f2 (l.drop (i + 1))
    rw [htl] at hiff
    have hmax := lsz_max B.f1 fs (l.take i) B.f2 z (max 1 B.f2)
    rw [show max z (max 1 B.f2) = z by omega, hS] at hmax
    rw [hmax] at hiff
    by_cases hlt : z < S
    · rw [if_pos (hiff.2 (by omega)), w64 (i := z + 1) (by omega) (by omega)]
      exact ih k (z + 1) (by omega) (by omega) (by omega) (by omega) (by omega)
    · rw [if_neg (fun h => by have := hiff.1 h; omega), if_neg (by omega)]
      congr 2
      omega
/-- The program's loop over the flows. -/
theorem iLS_l0 (l : List BI) (i : Nat) (fs : List Int) (hi : i < l.length) (hf : okF fs) (hfl : fs.length ≤ 60) (ho : 0 ≤ (rd_T59 l (i : Int)).f1 ∧ (rd_T59 l (i : Int)).f1 ≤ 1000) : ∀ (d k : Nat) (m h : Int) (a : List BI) (j : Nat), fs.length - j = d → 2000 + d < k → good a → a.length ≤ 6 → 0 ≤ h → h ≤ 1000 + 7000 * (j : Int) → 0 ≤ m → m ≤ 1000000 →
    impl_LeastSize.l0 k l (i : Int) m h a fs (fs.length : Int) (j : Int) = some (if lsz (rd_T59 l (i : Int)).f1 a h (fs.drop j) m > 1000 then (0, false) else (lsz (rd_T59 l (i : Int)).f1 a h (fs.drop j) m, true)) := by
  intro d
  induction d with
  | zero =>
    intro k m h a j hd hk hg hl h0 h1 m0 m1
    obtain ⟨k, rfl⟩ : ∃ m, k = m + 1 := ⟨k - 1, by omega⟩
    simp only [impl_LeastSize.l0]
    rw [if_neg (by omega), List.drop_of_length_le (by omega)]
    show (if m > 1000 then _ else _) = some (if m > 1000 then _ else _)
    split <;> rfl
  | succ d ih =>
    intro k m h a j hd hk hg hl h0 h1 m0 m1
    obtain ⟨k, rfl⟩ : ∃ m, k = m + 1 := ⟨k - 1, by omega⟩
    obtain ⟨f0, f1, ef⟩ := okF_drop hf j (by omega)
    simp only [impl_LeastSize.l0]
    obtain ⟨t1, t2, t3, _⟩ := tick_good a (rd fs (j : Int)) hg f0
    have tl := (tick_len a (rd fs (j : Int))).1
    rw [if_pos (by omega), if_pos (by omega), if_pos (by omega), tickRow_ok a _ k hg (by omega) f0 (by omega) (by omega), Option.bind_some, if_pos (by omega), if_pos (by omega), ef]
    generalize rd_T59 l (i : Int) = B at *
    rw [show lsz B.f1 a h (rd fs (j : Int) :: fs.drop (j + 1)) m = lsz B.f1 (tick a (rd fs (j : Int))).1 (max 0 (h + (tick a (rd fs (j : Int))).2.2 - B.f1)) (fs.drop (j + 1)) (max m (h + (tick a (rd fs (j : Int))).2.2)) from rfl]
    generalize (tick a (rd fs (j : Int))).2.2 = x at *
    rw [w64 (i := h + x) (by omega) (by omega), w64 (i := h + x - B.f1) (by omega) (by omega), w64 (i := (j : Int) + 1) (by omega) (by omega), show (j : Int) + 1 = ((j + 1 : Nat) : Int) by omega]
    have e1 : mx m (h + x) = max m (h + x) := by unfold mx; split <;> omega
    have e2 : mx 0 (h + x - B.f1) = max 0 (h + x - B.f1) := by unfold mx; split <;> omega
    rw [e1, e2]
    exact ih k _ _ _ (j + 1) (by omega) (by omega) t1 (by omega) (by omega) (by omega) (by omega) (by omega)
theorem LeastSize_same (l : List BL) (a : Int) (fs : List Int) (_w0 : l.length ≤ maxLen) (_w1 : ∀ x ∈ l, (Lit.int .i64 x.f0).wf = true ∧ (Lit.int .i64 x.f1).wf = true ∧ (Lit.int .i64 x.f2).wf = true) (_wa : (Lit.int .i64 a).wf = true) (_w2 : fs.length ≤ maxLen) (_w3 : ∀ x ∈ fs, (Lit.int .i64 x).wf = true) (hl : l.length ≤ 1048576) (hfl : fs.length ≤ 1048576) :
    ∃ R : Int × Bool, (∀ k, 4000000 ≤ k → spec_LeastSize.f k (bconv l) a fs = some R) ∧ (∀ k, 4000000 ≤ k → impl_LeastSize.f k (bconv l) a fs = some R) := by
  have hc : (bconv l).length ≤ 1048576 := by rw [bconv_length]; exact hl
  generalize bconv l = L at hc
  by_cases hr : (askB L fs && inR 0 ((L.length : Int) - 1) a) = true
  · have hr' := hr
    rw [Bool.and_eq_true, inR_iff] at hr
    obtain ⟨hask, ha⟩ := hr
    obtain ⟨r1, r2, r3, r4, r5⟩ := askB_get hask
    obtain ⟨i, rfl⟩ := Int.eq_ofNat_of_zero_le ha.1
    have hi : i < L.length := by omega
    have hb : basinB (rd_T59 L (i : Int)).f0 (rd_T59 L (i : Int)).f1 (rd_T59 L (i : Int)).f2 = true := by
      apply r1
      simp [rd_T59, hi]
    obtain ⟨b1, b2, b3, b4, b5, b6⟩ := basinB_get hb
    obtain ⟨S, hS⟩ : ∃ S, lsz (rd_T59 L (i : Int)).f1 (L.take i) (rd_T59 L (i : Int)).f2 fs (max 1 (rd_T59 L (i : Int)).f2) = S := ⟨_, rfl⟩
    have hge := lsz_ge (rd_T59 L (i : Int)).f1 fs (L.take i) (rd_T59 L (i : Int)).f2 (max 1 (rd_T59 L (i : Int)).f2)
    rw [hS] at hge
    refine ⟨if S > 1000 then (0, false) else (S, true), fun k hk => ?_, fun k hk => ?_⟩
    · unfold spec_LeastSize.f
      rw [weAsked_ok _ _ k hc hfl (by omega), Option.bind_some, if_pos hask, l1In_okR, Option.bind_some, w64 (i := (L.length : Int) - 1) (by omega) (by omega), (inR_iff _ _ _).2 ha]
      obtain ⟨k, rfl⟩ : ∃ m, k = m + 1 := ⟨k - 1, by omega⟩
      simp only [spec_LeastSize.j0]
      have e1 : spec_l1Most.f 1 (rd_T59 L (i : Int)).f2 = some (max 1 (rd_T59 L (i : Int)).f2) := by
        unfold spec_l1Most.f
        split <;> (congr 1; omega)
      rw [if_neg (by decide), if_pos (by omega), if_pos (by omega), e1, Option.bind_some]
      exact sLS_l0 L i fs hi r1 (by omega) r4 r5 S (by omega) (by omega) hS _ k _ rfl (by omega) (Int.le_refl _) (by omega) (by omega)
    · unfold impl_LeastSize.f impl_Basin_82.f
      rw [isBasinOf_ok _ _ _ hc hfl, Option.bind_some, if_pos hr', if_pos (by omega), if_pos (by omega), if_pos (by omega), if_pos (by simp; omega), Option.bind_some, Int.toNat_natCast]
      have e1 : mx 1 (rd_T59 L (i : Int)).f2 = max 1 (rd_T59 L (i : Int)).f2 := by unfold mx; split <;> omega
      rw [e1]
      have := iLS_l0 L i fs hi r4 r5 ⟨b3, by omega⟩ fs.length k (max 1 (rd_T59 L (i : Int)).f2) (rd_T59 L (i : Int)).f2 (L.take i) 0 (by omega) (by omega) (fun x hx => r1 x (List.mem_of_mem_take hx)) (by simp; omega) (by omega) (by omega) (by omega) (by omega)
      rw [show ((0 : Nat) : Int) = 0 from rfl, List.drop_zero, hS] at this
      exact this
  · refine ⟨(0, false), fun k hk => ?_, fun k hk => ?_⟩
    · unfold spec_LeastSize.f
      rw [weAsked_ok _ _ k hc hfl (by omega), Option.bind_some]
      obtain ⟨k, rfl⟩ : ∃ m, k = m + 1 := ⟨k - 1, by omega⟩
      by_cases hask : askB L fs = true
      · rw [if_pos hask, l1In_okR, Option.bind_some, w64 (i := (L.length : Int) - 1) (by omega) (by omega)]
        have : inR 0 ((L.length : Int) - 1) a = false := by
          rw [hask, Bool.true_and] at hr
          simpa using hr
        rw [this]
        simp only [spec_LeastSize.j0]
        rw [if_pos (by decide)]
      · rw [if_neg hask]
        simp only [spec_LeastSize.j0]
        rw [if_pos trivial]
    · unfold impl_LeastSize.f
      rw [isBasinOf_ok _ _ _ hc hfl, Option.bind_some, if_neg hr]

theorem FnExactLeastSize : ∀ (l0 : List S61) (a1 : Int) (l2 : List Int), l0.length ≤ maxLen → (∀ x ∈ l0, (Lit.int .i64 x.f0).wf = true ∧ (Lit.int .i64 x.f1).wf = true ∧ (Lit.int .i64 x.f2).wf = true) → (Lit.int .i64 a1).wf = true → l2.length ≤ maxLen → (∀ x ∈ l2, (Lit.int .i64 x).wf = true) → ∃ k, laws_FnExactLeastSize.f k l0 a1 l2 = some true := by
  intro l0 a1 l2 w0 w1 w2 w3 w4
  by_cases bigf : (l2.length : Int) > 1048576
  case pos =>
    refine ⟨0, ?_⟩
    unfold laws_FnExactLeastSize.f
    rw [if_pos bigf]
  have fl : l2.length ≤ 1048576 := by omega
  have sz := szBasinS_ok l0 w0
  by_cases big : l0.length ≤ 1048576
  case neg =>
    rw [if_neg big] at sz
    refine ⟨0, ?_⟩
    unfold laws_FnExactLeastSize.f
    rw [if_neg bigf, sz, Option.bind_some, if_pos (by omega)]
  rw [if_pos big] at sz
  have lt : ((1048576 : Int) - (l0.length : Int) < 0) = False := eq_false (by omega)
  have cl : (bconv l0).length ≤ 1048576 := by rw [bconv_length]; exact big
  obtain ⟨R, hs, hi⟩ := LeastSize_same l0 a1 l2 w0 w1 w2 w3 w4 big fl
  obtain ⟨K, hK⟩ : ∃ K, K = 10000000000000 := ⟨_, rfl⟩
  refine ⟨K + 9, ?_⟩
  simp (disch := omega) only [laws_FnExactLeastSize.f, hs, hi, if_neg bigf, sz, lt, toBasinS_ok, eqBasinS_ok, toIntS_ok, eqIntS_ok, Option.bind_some, bne_self_eq_false, Bool.false_eq_true, eq_self, if_true, if_false]
  simp (disch := omega) only [laws_FnExactLeastSize.j0, hs, hi, if_neg bigf, sz, lt, toBasinS_ok, eqBasinS_ok, toIntS_ok, eqIntS_ok, Option.bind_some, bne_self_eq_false, Bool.false_eq_true, eq_self, if_true, if_false]

end Go.Proofs.Ytcalhmjnoahliaa.Pure
