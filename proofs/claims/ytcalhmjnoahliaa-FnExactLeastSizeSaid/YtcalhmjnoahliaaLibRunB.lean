/- What a run of a row tells: lengths and bounds; the checks of the program on a row, an index and flows. -/
import Derived.Test.YtcalhmjnoahliaaLibBS
import Derived.Test.YtcalhmjnoahliaaLibFl
import Derived.Test.YtcalhmjnoahliaaLibRun
import Derived.Test.YtcalhmjnoahliaaLibTk
import Derived.Test.YtcalhmjnoahliaaPr16
namespace Go.Proofs.Ytcalhmjnoahliaa.Pure
open Go.RowKit Go.Proofs.Ytcalhmjnoahliaa.Pr Go.Proofs.YtcalhmjnoahliaaW.PrintWords Go.Proofs.YtcalhmjnoahliaaW.PrintLast
set_option linter.unusedVariables false
set_option linter.unusedSimpArgs false

theorem runR_lens : ∀ (l : List BI) (fs : List Int), ∀ r ∈ runR l fs, r.length = l.length
  | _, [], r, h => by simp [runR] at h
  | l, f :: fs, r, h => by
    rcases List.mem_cons.1 h with rfl | h
    · exact (tick_len l f).1
    · rw [runR_lens (tick l f).1 fs r h, (tick_len l f).1]
theorem runS_lens : ∀ (l : List BI) (fs : List Int), ∀ r ∈ runS l fs, r.length = l.length
  | _, [], r, h => by simp [runS] at h
  | l, f :: fs, r, h => by
    rcases List.mem_cons.1 h with rfl | h
    · exact (tick_len l f).2
    · rw [runS_lens (tick l f).1 fs r h, (tick_len l f).1]
theorem okF_tail {f : Int} {fs : List Int} (h : okF (f :: fs)) : okF fs := fun x hx => h x (by simp [hx])
theorem runG_bd : ∀ (l : List BI) (fs : List Int), good l → l.length ≤ 6 → okF fs → ∀ x ∈ runG l fs, 0 ≤ x ∧ x ≤ 7000
  | _, [], _, _, _, x, h => by simp [runG] at h
  | l, f :: fs, hg, hl, hf, x, h => by
    have f1 := hf f (by simp)
    obtain ⟨t1, t2, t3, _⟩ := tick_good l f hg f1.1
    rcases List.mem_cons.1 h with rfl | h
    · exact ⟨t2, by omega⟩
    · exact runG_bd (tick l f).1 fs t1 (by rw [(tick_len l f).1]; exact hl) (okF_tail hf) x h
theorem RunRow_impl (l : List BI) (fs : List Int) (k : Nat) (hl : l.length ≤ 1048576) (hfl : fs.length ≤ 1048576) (hk : 4000 ≤ k) : impl_RunRow.f k l fs = some (if askB l fs = true then (runG l fs, true) else ([], false)) := by
  unfold impl_RunRow.f
  rw [IsRow_ok _ hl, Option.bind_some]
  by_cases hr : askB l fs = true
  · obtain ⟨r1, r2, r3, r4, r5⟩ := askB_get hr
    rw [if_pos hr]
    unfold askB at hr
    rw [Bool.and_eq_true] at hr
    rw [if_pos hr.1, AreFlows_ok _ hfl, Option.bind_some, if_pos hr.2, runRow_ok _ _ k r1 (by omega) r4 (by omega) (by omega), Option.bind_some]
  · rw [if_neg hr]
    by_cases h1 : rowB l = true
    · rw [if_pos h1, AreFlows_ok _ hfl, Option.bind_some, if_neg (fun q => hr (by unfold askB; rw [h1, q]; rfl))]
    · rw [if_neg h1]

end Go.Proofs.Ytcalhmjnoahliaa.Pure
