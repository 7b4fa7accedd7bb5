/- A run of a row of basins with flows, as program and reference reckon it. -/
import Derived.Test.YtcalhmjnoahliaaLibA
import Derived.Test.YtcalhmjnoahliaaLibBS
import Derived.Test.YtcalhmjnoahliaaLibFl
import Derived.Test.YtcalhmjnoahliaaLibTk
import Derived.Test.YtcalhmjnoahliaaLibW
import Derived.Test.YtcalhmjnoahliaaPr6
import Derived.Test.YtcalhmjnoahliaaPr8
import Derived.Test.YtcalhmjnoahliaaPr9
namespace Go.Proofs.Ytcalhmjnoahliaa.Pure
open Go.RowKit Go.Proofs.Ytcalhmjnoahliaa.Pr Go.Proofs.YtcalhmjnoahliaaW.PrintWords Go.Proofs.YtcalhmjnoahliaaW.PrintLast
set_option linter.unusedVariables false
set_option linter.unusedSimpArgs false

/-- The rows behind each tick, the spills, what is given, the row in the end. -/
def runR : List BI → List Int → List (List BI)
  | _, [] => []
  | l, f :: fs => (tick l f).1 :: runR (tick l f).1 fs
def runS : List BI → List Int → List (List Int)
  | _, [] => []
  | l, f :: fs => (tick l f).2.1 :: runS (tick l f).1 fs
def runG : List BI → List Int → List Int
  | _, [] => []
  | l, f :: fs => (tick l f).2.2 :: runG (tick l f).1 fs
def runE : List BI → List Int → List BI
  | l, [] => l
  | l, f :: fs => runE (tick l f).1 fs
def okF (fs : List Int) : Prop := ∀ x ∈ fs, 0 ≤ x ∧ x ≤ 1000
theorem run_len : ∀ (l : List BI) (fs : List Int), (runR l fs).length = fs.length ∧ (runS l fs).length = fs.length ∧ (runG l fs).length = fs.length
  | _, [] => ⟨rfl, rfl, rfl⟩
  | l, f :: fs => by
    obtain ⟨h1, h2, h3⟩ := run_len (tick l f).1 fs
    exact ⟨by simp [runR, h1], by simp [runS, h2], by simp [runG, h3]⟩
theorem okF_drop {fs : List Int} (h : okF fs) (j : Nat) (hj : j < fs.length) : 0 ≤ rd fs (j : Int) ∧ rd fs (j : Int) ≤ 1000 ∧ fs.drop j = rd fs (j : Int) :: fs.drop (j + 1) := by
  have e := drop_rd fs j hj
  have hm : rd fs (j : Int) ∈ fs := List.mem_of_mem_drop (by rw [e]; exact List.mem_cons_self)
  obtain ⟨a, b⟩ := h _ hm
  exact ⟨a, b, e⟩
theorem weGo_l0 (fs : List Int) (hf : okF fs) (hfl : fs.length ≤ 1000) : ∀ (d k : Nat) (g : List Int) (e : List BI) (s : List (List Int)) (w : List (List BI)) (j : Nat), fs.length - j = d → 2000 + d < k → good e → e.length ≤ 100 → g.length ≤ j → s.length ≤ j → w.length ≤ j →
    spec_weGo.l0 k fs (fs.length : Int) (j : Int) g e s w = some (g ++ runG e (fs.drop j), runE e (fs.drop j), s ++ runS e (fs.drop j), w ++ runR e (fs.drop j)) := by
  intro d
  induction d with
  | zero =>
    intro k g e s w j hd hk hg hl h1 h2 h3
    obtain ⟨k, rfl⟩ : ∃ m, k = m + 1 := ⟨k - 1, by omega⟩
    simp only [spec_weGo.l0]
    rw [if_neg (by omega), List.drop_of_length_le (by omega)]
    simp [runG, runE, runS, runR]
  | succ d ih =>
    intro k g e s w j hd hk hg hl h1 h2 h3
    obtain ⟨k, rfl⟩ : ∃ m, k = m + 1 := ⟨k - 1, by omega⟩
    obtain ⟨f0, f1, ef⟩ := okF_drop hf j (by omega)
    simp only [spec_weGo.l0]
    rw [if_pos (by omega), if_pos (by omega), if_pos (by omega), weTick_ok e _ k hg hl f0 (by omega) (by omega), Option.bind_some, if_pos (by omega), if_pos (by omega), if_pos (by omega), w64 (i := (j : Int) + 1) (by omega) (by omega), ef, show (j : Int) + 1 = ((j + 1 : Nat) : Int) by omega]
    have := ih k (g ++ [(tick e (rd fs (j : Int))).2.2]) (tick e (rd fs (j : Int))).1 (s ++ [(tick e (rd fs (j : Int))).2.1]) (w ++ [(tick e (rd fs (j : Int))).1]) (j + 1) (by omega) (by omega) (tick_good e _ hg f0).1 (by rw [(tick_len e _).1]; exact hl) (by simp; omega) (by simp; omega) (by simp; omega)
    refine Eq.trans this ?_
    simp [runG, runE, runS, runR]
theorem weGo_ok (l : List BI) (fs : List Int) (k : Nat) (hg : good l) (hl : l.length ≤ 100) (hf : okF fs) (hfl : fs.length ≤ 1000) (hk : 4000 ≤ k) : spec_weGo.f k l fs = some (runG l fs, runE l fs, runS l fs, runR l fs) := by
  unfold spec_weGo.f
  rw [Option.bind_some, if_pos (by simp only [List.length_nil]; omega), List.nil_append]
  have := weGo_l0 fs hf hfl fs.length k [] l [] [] 0 (by omega) (by omega) hg hl (by simp) (by simp) (by simp)
  simpa using this
theorem runRow_l0 (fs : List Int) (hf : okF fs) (hfl : fs.length ≤ 1000) : ∀ (d k : Nat) (e : List BI) (w : List (List BI)) (s : List (List Int)) (g : List Int) (j : Nat), fs.length - j = d → 2000 + d < k → good e → e.length ≤ 100 → g.length ≤ j → s.length ≤ j → w.length ≤ j + 1 →
    impl_runRow.l0 k e fs (fs.length : Int) (j : Int) w s g = some (w ++ runR e (fs.drop j), s ++ runS e (fs.drop j), g ++ runG e (fs.drop j)) := by
  intro d
  induction d with
  | zero =>
    intro k e w s g j hd hk hg hl h1 h2 h3
    obtain ⟨k, rfl⟩ : ∃ m, k = m + 1 := ⟨k - 1, by omega⟩
    simp only [impl_runRow.l0]
    rw [if_neg (by omega), List.drop_of_length_le (by omega)]
    simp [runG, runS, runR]
  | succ d ih =>
    intro k e w s g j hd hk hg hl h1 h2 h3
    obtain ⟨k, rfl⟩ : ∃ m, k = m + 1 := ⟨k - 1, by omega⟩
    obtain ⟨f0, f1, ef⟩ := okF_drop hf j (by omega)
    simp only [impl_runRow.l0]
    rw [if_pos (by omega), if_pos (by omega), if_pos (by omega), tickRow_ok e _ k hg hl f0 (by omega) (by omega), Option.bind_some, Option.bind_some, if_pos (by simp only [List.length_cons, List.length_nil]; omega), Option.bind_some, if_pos (by simp only [List.length_cons, List.length_nil]; omega), Option.bind_some, if_pos (by simp only [List.length_cons, List.length_nil]; omega), w64 (i := (j : Int) + 1) (by omega) (by omega), ef, show (j : Int) + 1 = ((j + 1 : Nat) : Int) by omega]
    have := ih k (tick e (rd fs (j : Int))).1 (w ++ [(tick e (rd fs (j : Int))).1]) (s ++ [(tick e (rd fs (j : Int))).2.1]) (g ++ [(tick e (rd fs (j : Int))).2.2]) (j + 1) (by omega) (by omega) (tick_good e _ hg f0).1 (by rw [(tick_len e _).1]; exact hl) (by simp; omega) (by simp; omega) (by simp; omega)
    refine Eq.trans this ?_
    simp [runG, runS, runR]
theorem runRow_ok (l : List BI) (fs : List Int) (k : Nat) (hg : good l) (hl : l.length ≤ 100) (hf : okF fs) (hfl : fs.length ≤ 1000) (hk : 4000 ≤ k) : impl_runRow.f k l fs = some (l :: runR l fs, runS l fs, runG l fs) := by
  unfold impl_runRow.f impl_Basin_82.f
  rw [if_pos (by omega), Option.bind_some]
  have := runRow_l0 fs hf hfl fs.length k l [l] [] [] 0 (by omega) (by omega) hg hl (by simp) (by simp) (by simp)
  simpa using this
/-- Are there a row and flows? -/
def askB (l : List BI) (fs : List Int) : Bool := rowB l && flowsB fs
theorem askB_get {l : List BI} {fs : List Int} (h : askB l fs = true) : good l ∧ 1 ≤ l.length ∧ l.length ≤ 6 ∧ okF fs ∧ fs.length ≤ 60 := by
  unfold askB at h
  rw [Bool.and_eq_true] at h
  obtain ⟨r1, r2, r3⟩ := rowB_get h.1
  obtain ⟨f1, f2⟩ := flowsB_get h.2
  exact ⟨r3, r1, r2, f2, f1⟩
theorem weAsked_ok (l : List BI) (fs : List Int) (k : Nat) (hl : l.length ≤ 1048576) (hfl : fs.length ≤ 1048576) (hk : 2000000 ≤ k) : spec_weAsked.f k l fs = some (askB l fs) := by
  unfold spec_weAsked.f askB
  rw [weRow_ok l k hl hk, Option.bind_some]
  cases rowB l
  · rfl
  · rw [if_pos rfl, weFlows_ok fs k hfl hk]
    rfl

end Go.Proofs.Ytcalhmjnoahliaa.Pure
