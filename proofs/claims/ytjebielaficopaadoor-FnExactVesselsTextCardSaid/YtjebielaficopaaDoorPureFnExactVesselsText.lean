/- The program's VesselsText and the reference's tell the same, and the argument is left. It holds for all inputs that the statement lets in. -/
import Derived.Test.YtjebielaficopaaDoorLibA
import Derived.Test.YtjebielaficopaaDoorLibDo
import Derived.Test.YtjebielaficopaaDoorLibV
import Derived.Test.YtjebielaficopaaDoorLibW
import Derived.Test.YtjebielaficopaaDoorPr6
import Derived.Test.YtjebielaficopaaDoorPr7
import Derived.Test.YtjebielaficopaaDoorPr8
import Derived.Test.YtjebielaficopaaDoorPr9
namespace Go.Proofs.YtjebielaficopaaDoor.Pure
open Go.RowKit Go.Proofs.YtjebielaficopaaDoor.Pr Go.Proofs.YtjebielaficopaaDoorW.PrintWords Go.Proofs.YtjebielaficopaaDoorW.PrintLast
set_option linter.unusedVariables false
set_option linter.unusedSimpArgs false

/-- One vessel's text. -/
def wd (h s : Int) : ByteArray := (D h ++ ⟨#[47]⟩) ++ D s
theorem wd_fit (h s : Int) (h0 : 0 ≤ h) (h1 : h < 100) (s0 : 0 ≤ s) (s1 : s < 100) : (D h).size + 1 ≤ 9223372036854775807 ∧ (D h ++ ⟨#[47]⟩).size + (D s).size ≤ 9223372036854775807 ∧ (wd h s).size ≤ 5 := by
  have a1 := D_size h h0 h1
  have a2 := D_size s s0 s1
  have a3 : (⟨#[47]⟩ : ByteArray).size = 1 := rfl
  unfold wd
  simp only [ByteArray.size_append]
  exact ⟨by omega, by omega, by omega⟩
/-- The texts of d vessels from j on. -/
def wds (s h : List Int) : Nat → Nat → List ByteArray
  | _, 0 => []
  | j, d + 1 => wd (rd h (j : Int)) (rd s (j : Int)) :: wds s h (j + 1) d
theorem wds_cons (s h : List Int) (j d : Nat) : wds s h j (d + 1) = wd (rd h (j : Int)) (rd s (j : Int)) :: wds s h (j + 1) d := rfl
def bys (l : List ByteArray) : List (List UInt8) := l.map (·.data.toList)
theorem tail_cons (y : ByteArray) (r : List ByteArray) : Go.Lib.joinTail [44] (bys (y :: r)) = 44 :: (y.data.toList ++ Go.Lib.joinTail [44] (bys r)) := by
  simp [Go.Lib.joinTail, bys]
theorem ba_eq (r : ByteArray) (l : List UInt8) (h : r.data.toList = l) : r = ⟨l.toArray⟩ := by
  cases r
  subst h
  rfl
theorem wds_len (s h : List Int) : ∀ (d j : Nat), (wds s h j d).length = d
  | 0, _ => rfl
  | d + 1, j => by simp [wds, wds_len s h d (j + 1)]
theorem tail_len (s h : List Int) (n : Nat) (hs : ∀ m : Nat, m < n → 0 ≤ rd s (m : Int) ∧ rd s (m : Int) < 100) (hh : ∀ m : Nat, m < n → 0 ≤ rd h (m : Int) ∧ rd h (m : Int) < 100) : ∀ (d j : Nat), j + d ≤ n → (Go.Lib.joinTail [44] (bys (wds s h j d))).length ≤ 6 * d
  | 0, j, _ => by simp [wds, bys, Go.Lib.joinTail]
  | d + 1, j, hj => by
    have := tail_len s h n hs hh d (j + 1) (by omega)
    have w := (wd_fit (rd h (j : Int)) (rd s (j : Int)) (hh j (by omega)).1 (hh j (by omega)).2 (hs j (by omega)).1 (hs j (by omega)).2).2.2
    have e : (wd (rd h (j : Int)) (rd s (j : Int))).data.toList.length = (wd (rd h (j : Int)) (rd s (j : Int))).size := rfl
    rw [wds_cons, tail_cons, List.length_cons, List.length_append]
    omega
theorem veText_l0 (s h : List Int) (n : Nat) (hn : s.length = n) (hn5 : n ≤ 5) (hhn : h.length = n) (hs : ∀ m : Nat, m < n → 0 ≤ rd s (m : Int) ∧ rd s (m : Int) < 100) (hh : ∀ m : Nat, m < n → 0 ≤ rd h (m : Int) ∧ rd h (m : Int) < 100) : ∀ (d k j : Nat) (x : ByteArray), j + d = n → 0 < j → d + 4 ≤ k → x.size ≤ 6 * j → ∃ r, spec_veText.l0 k x s (n : Int) (j : Int) s h = some r ∧ r.data.toList = x.data.toList ++ Go.Lib.joinTail [44] (bys (wds s h j d)) := by
  intro d
  induction d with
  | zero =>
    intro k j x hj hj0 hk hx
    obtain ⟨k, rfl⟩ : ∃ m, k = m + 1 := ⟨k - 1, by omega⟩
    refine ⟨x, ?_, by simp [wds, bys, Go.Lib.joinTail]⟩
    simp only [spec_veText.l0]
    rw [if_neg (by omega)]
  | succ d ih =>
    intro k j x hj hj0 hk hx
    obtain ⟨k, rfl⟩ : ∃ m, k = m + 1 := ⟨k - 1, by omega⟩
    have bs := hs j (by omega)
    have bh := hh j (by omega)
    obtain ⟨f1, f2, f3⟩ := wd_fit (rd h (j : Int)) (rd s (j : Int)) bh.1 bh.2 bs.1 bs.2
    have c1 : (⟨#[44]⟩ : ByteArray).size = 1 := rfl
    have g : (x ++ (⟨#[44]⟩ : ByteArray)).size + (wd (rd h (j : Int)) (rd s (j : Int))).size ≤ 9223372036854775807 := by
      rw [ByteArray.size_append]
      omega
    obtain ⟨r, e1, e2⟩ := ih k (j + 1) ((x ++ (⟨#[44]⟩ : ByteArray)) ++ wd (rd h (j : Int)) (rd s (j : Int))) (by omega) (by omega) (by omega) (by rw [ByteArray.size_append, ByteArray.size_append]; omega)
    refine ⟨r, ?_, ?_⟩
    · simp only [spec_veText.l0]
      rw [if_pos (by omega), if_pos (by omega), if_pos (by omega), if_pos (by omega), if_pos (by omega), if_pos (by omega), num_ok _ bh.1 bh.2 k (by omega), Option.bind_some, if_pos f1, num_ok _ bs.1 bs.2 k (by omega), Option.bind_some, if_pos f2]
      show (if (x ++ (⟨#[44]⟩ : ByteArray)).size + (wd (rd h (j : Int)) (rd s (j : Int))).size ≤ 9223372036854775807 then _ else _) = _
      rw [if_pos g, w64 (i := (j : Int) + 1) (by omega) (by omega)]
      exact e1
    · rw [e2]
      rw [wds_cons, tail_cons, ByteArray.data_append, ByteArray.data_append]
      simp
theorem text_l0 (s h : List Int) (n : Nat) (hn : s.length = n) (hn5 : n ≤ 5) (hhn : h.length = n) (hs : ∀ m : Nat, m < n → 0 ≤ rd s (m : Int) ∧ rd s (m : Int) < 100) (hh : ∀ m : Nat, m < n → 0 ≤ rd h (m : Int) ∧ rd h (m : Int) < 100) : ∀ (d k j : Nat) (x : List ByteArray), j + d = n → d + 4 ≤ k → x.length ≤ j → impl_Vessels_text.l0 k x h (n : Int) (j : Int) s h = strings_Join.f (x ++ wds s h j d) ⟨#[44]⟩ := by
  intro d
  induction d with
  | zero =>
    intro k j x hj hk hx
    obtain ⟨k, rfl⟩ : ∃ m, k = m + 1 := ⟨k - 1, by omega⟩
    simp only [impl_Vessels_text.l0]
    rw [if_neg (by omega)]
    simp only [wds, List.append_nil]
    cases strings_Join.f x ⟨#[44]⟩ <;> rfl
  | succ d ih =>
    intro k j x hj hk hx
    obtain ⟨k, rfl⟩ : ∃ m, k = m + 1 := ⟨k - 1, by omega⟩
    have bs := hs j (by omega)
    have bh := hh j (by omega)
    obtain ⟨f1, f2, f3⟩ := wd_fit (rd h (j : Int)) (rd s (j : Int)) bh.1 bh.2 bs.1 bs.2
    have e := ih k (j + 1) (x ++ [wd (rd h (j : Int)) (rd s (j : Int))]) (by omega) (by omega) (by simp; omega)
    simp only [impl_Vessels_text.l0]
    rw [if_pos (by omega), if_pos (by omega), if_pos (by omega), itoa_ok _ bh.1 bh.2, Option.bind_some, if_pos f1, if_pos (by omega), itoa_ok _ bs.1 bs.2, Option.bind_some, if_pos f2, if_pos (by omega), w64 (i := (j : Int) + 1) (by omega) (by omega)]
    refine Eq.trans e ?_
    congr 1
    simp [wds]
theorem VesselsText_same (s h : List Int) (_w0 : s.length ≤ maxLen) (_w1 : ∀ x ∈ s, (Lit.int .i64 x).wf = true) (_w2 : h.length ≤ maxLen) (_w3 : ∀ x ∈ h, (Lit.int .i64 x).wf = true) (hs : s.length ≤ 1048576) (hh : h.length ≤ 1048576) : ∃ R : ByteArray × Bool, (∀ k, 4000010 ≤ k → spec_VesselsText.f k s h = some R) ∧ (∀ k, 4000010 ≤ k → impl_VesselsText.f k s h = some R) := by
  by_cases hv : vesB s h = true
  · obtain ⟨v1, v2, v3, v4, v5⟩ := vesB_get hv
    obtain ⟨n, hn⟩ : ∃ n, s.length = n := ⟨_, rfl⟩
    have bs : ∀ m : Nat, m < n → 0 ≤ rd s (m : Int) ∧ rd s (m : Int) < 100 := by
      intro m hm
      have := v4 (rd s (m : Int)) (by rw [rd_nat s m (by omega)]; exact List.getElem_mem _)
      omega
    have bh : ∀ m : Nat, m < n → 0 ≤ rd h (m : Int) ∧ rd h (m : Int) < 100 := by
      intro m hm
      have := v5 m (by omega)
      have := bs m hm
      have := v4 (rd s (m : Int)) (by rw [rd_nat s m (by omega)]; exact List.getElem_mem _)
      omega
    obtain ⟨d, rfl⟩ : ∃ d, n = d + 1 := ⟨n - 1, by omega⟩
    have bh0 : 0 ≤ rd h 0 ∧ rd h 0 < 100 := bh 0 (by omega)
    have bs0 : 0 ≤ rd s 0 ∧ rd s 0 < 100 := bs 0 (by omega)
    obtain ⟨f1, f2, f3⟩ := wd_fit (rd h 0) (rd s 0) bh0.1 bh0.2 bs0.1 bs0.2
    have tl := tail_len s h (d + 1) bs bh d 1 (by omega)
    have jn : Go.Lib.join (bys (wds s h 0 (d + 1))) [44] = (wd (rd h 0) (rd s 0)).data.toList ++ Go.Lib.joinTail [44] (bys (wds s h 1 d)) := by
      show Go.Lib.join (_ :: _) [44] = _
      rw [Go.Lib.join_cons]
      rfl
    have jl : (Go.Lib.join (bys (wds s h 0 (d + 1))) [44]).length ≤ 100000000 := by
      rw [jn, List.length_append]
      have e : (wd (rd h 0) (rd s 0)).data.toList.length = (wd (rd h 0) (rd s 0)).size := rfl
      omega
    refine ⟨(⟨(Go.Lib.join (bys (wds s h 0 (d + 1))) [44]).toArray⟩, true), fun k hk => ?_, fun k hk => ?_⟩
    · unfold spec_VesselsText.f
      rw [veGood_ok s h k hs hh (by omega), Option.bind_some, if_pos hv]
      unfold spec_veText.f
      obtain ⟨k, rfl⟩ : ∃ m, k = m + 1 := ⟨k - 1, by omega⟩
      have ze : ((⟨#[]⟩ : ByteArray) ++ wd (rd h 0) (rd s 0)) = wd (rd h 0) (rd s 0) := by
        apply ByteArray.ext
        rw [ByteArray.data_append]
        simp
      obtain ⟨r, e1, e2⟩ := veText_l0 s h (d + 1) hn (by omega) (by omega) bs bh d k 1 (wd (rd h 0) (rd s 0)) (by omega) (by omega) (by omega) (by omega)
      simp only [spec_veText.l0]
      rw [if_pos (by omega), if_pos (by omega), if_pos (by omega), if_neg (by omega), if_pos (by omega), num_ok _ bh0.1 bh0.2 k (by omega), Option.bind_some, if_pos f1, num_ok _ bs0.1 bs0.2 k (by omega), Option.bind_some, if_pos f2]
      rw [show ((D (rd h 0) ++ (⟨#[47]⟩ : ByteArray)) ++ D (rd s 0)) = wd (rd h 0) (rd s 0) from rfl, ze]
      rw [if_pos (by show (ByteArray.size ⟨#[]⟩) + _ ≤ _; have : (ByteArray.size ⟨#[]⟩) = 0 := rfl; omega), w64 (by omega) (by omega), hn]
      rw [show ((0 : Int) + 1) = ((1 : Nat) : Int) from rfl, e1, Option.bind_some, ba_eq r _ e2, jn]
    · unfold impl_VesselsText.f
      rw [AreVessels_ok s h k hs hh (by omega), Option.bind_some, if_pos hv]
      unfold impl_Vessels_text.f
      rw [show h.length = d + 1 by omega]
      rw [show (0 : Int) = ((0 : Nat) : Int) from rfl, text_l0 s h (d + 1) hn (by omega) (by omega) bs bh (d + 1) k 0 [] (by omega) (by omega) (by simp)]
      rw [List.nil_append]
      unfold strings_Join.f
      rw [wds_len, if_pos (by omega)]
      rw [show ((wds s h 0 (d + 1)).map (·.data.toList)) = bys (wds s h 0 (d + 1)) from rfl]
      rw [show ((⟨#[44]⟩ : ByteArray).data.toList) = [44] from rfl, if_pos jl, Option.bind_some]
  · refine ⟨(⟨#[]⟩, false), fun k hk => ?_, fun k hk => ?_⟩
    · unfold spec_VesselsText.f
      rw [veGood_ok s h k hs hh (by omega), Option.bind_some, if_neg hv]
    · unfold impl_VesselsText.f
      rw [AreVessels_ok s h k hs hh (by omega), Option.bind_some, if_neg hv]

theorem FnExactVesselsText : ∀ (l0_0 : List Int) (l0_1 : List Int), l0_0.length ≤ maxLen → (∀ x ∈ l0_0, (Lit.int .i64 x).wf = true) → l0_1.length ≤ maxLen → (∀ x ∈ l0_1, (Lit.int .i64 x).wf = true) → ∃ k, laws_FnExactVesselsText.f k l0_0 l0_1 = some true := by
  intro l0_0 l0_1 w0 w1 w2 w3
  have sz := szV l0_0 l0_1 w0 w2
  by_cases big : l0_0.length + l0_1.length ≤ 1048576
  case neg =>
    rw [if_neg big] at sz
    refine ⟨0, ?_⟩
    unfold laws_FnExactVesselsText.f
    rw [sz, Option.bind_some, if_pos (by omega)]
  rw [if_pos big] at sz
  have lt : ((1048576 : Int) - (l0_0.length : Int) - (l0_1.length : Int) < 0) = False := eq_false (by omega)
  obtain ⟨R, hs, hi⟩ := VesselsText_same l0_0 l0_1 w0 w1 w2 w3 (by omega) (by omega)
  obtain ⟨K, hK⟩ : ∃ K, K = 10000000000000 := ⟨_, rfl⟩
  refine ⟨K + 9, ?_⟩
  simp (disch := omega) only [laws_FnExactVesselsText.f, hs, hi, sz, lt, toV_ok, eqV_ok, Option.bind_some, bne_self_eq_false, Bool.false_eq_true, eq_self, if_true, if_false]
  simp (disch := omega) only [laws_FnExactVesselsText.j0, hs, hi, sz, lt, toV_ok, eqV_ok, Option.bind_some, bne_self_eq_false, Bool.false_eq_true, eq_self, if_true, if_false]

end Go.Proofs.YtjebielaficopaaDoor.Pure
