/- Ticks with the same flow, again and again: the row comes to rest. -/
import Derived.Test.YtcalhmjnoahliaaLibBS
import Derived.Test.YtcalhmjnoahliaaLibTk
namespace Go.Proofs.Ytcalhmjnoahliaa.Pure
open Go.RowKit Go.Proofs.Ytcalhmjnoahliaa.Pr Go.Proofs.YtcalhmjnoahliaaW.PrintWords Go.Proofs.YtcalhmjnoahliaaW.PrintLast
set_option linter.unusedVariables false
set_option linter.unusedSimpArgs false

def iter (f : Int) : Nat → List BI → List BI
  | 0, l => l
  | n + 1, l => iter f n (tick l f).1
def iterB (f : Int) : Nat → BI → BI
  | 0, b => b
  | n + 1, b => iterB f n (nx b f)
theorem iter_add (f : Int) : ∀ (m n : Nat) (l : List BI), iter f (m + n) l = iter f n (iter f m l)
  | 0, n, l => by rw [Nat.zero_add]; rfl
  | m + 1, n, l => by rw [show m + 1 + n = (m + n) + 1 by omega]; exact iter_add f m n _
theorem iter_cons (f : Int) (hf : 0 ≤ f) : ∀ (n : Nat) (b : BI) (bs : List BI), good (b :: bs) → ∃ bs', iter f n (b :: bs) = iterB f n b :: bs' ∧ bs'.length = bs.length ∧ good (iterB f n b :: bs')
  | 0, b, bs, h => ⟨bs, rfl, rfl, h⟩
  | n + 1, b, bs, h => by
    have hg := (tick_good (b :: bs) f h hf).1
    obtain ⟨bs', e, hl, hg'⟩ := iter_cons f hf n (nx b f) (tick bs (out b f)).1 hg
    exact ⟨bs', e, by rw [hl, (tick_len bs _).1], hg'⟩
theorem nx_ext {b : BI} {f : Int} (h : (nx b f).f2 = b.f2) : nx b f = b := by
  obtain ⟨z, o, q⟩ := b
  simp only [nx] at h ⊢
  rw [h]
theorem up (f : Int) (hf : 0 ≤ f) : ∀ (n : Nat) (b : BI), basinB b.f0 b.f1 b.f2 = true → b.f2 ≤ (nx b f).f2 → 1000 - b.f2 ≤ (n : Int) → ∃ m, m ≤ n ∧ nx (iterB f m b) f = iterB f m b := by
  intro n
  induction n with
  | zero =>
    intro b hb h1 h2
    obtain ⟨a1, a2, a3, a4, a5, a6⟩ := basinB_get hb
    obtain ⟨n1, _⟩ := nx_good (f := f) hb hf
    obtain ⟨c1, c2, c3, c4, c5, c6⟩ := basinB_get n1
    have e0 : (nx b f).f0 = b.f0 := rfl
    have e : (nx b f).f2 = b.f2 := by omega
    exact ⟨0, Nat.le_refl _, nx_ext e⟩
  | succ n ih =>
    intro b hb h1 h2
    by_cases h3 : (nx b f).f2 = b.f2
    · exact ⟨0, by omega, nx_ext h3⟩
    · obtain ⟨n1, _⟩ := nx_good (f := f) hb hf
      obtain ⟨a1, a2, a3, a4, a5, a6⟩ := basinB_get hb
      obtain ⟨m, hm, e⟩ := ih (nx b f) n1 (by
        have e0 : (nx b f).f0 = b.f0 := rfl
        have e1 : (nx b f).f1 = b.f1 := rfl
        have q1 : (nx b f).f2 = b.f2 + f - max 0 (b.f2 + f - b.f0) - min b.f1 (b.f2 + f - max 0 (b.f2 + f - b.f0)) := rfl
        have q2 : (nx (nx b f) f).f2 = (nx b f).f2 + f - max 0 ((nx b f).f2 + f - b.f0) - min b.f1 ((nx b f).f2 + f - max 0 ((nx b f).f2 + f - b.f0)) := rfl
        omega) (by omega)
      exact ⟨m + 1, by omega, e⟩
theorem dn (f : Int) (hf : 0 ≤ f) : ∀ (n : Nat) (b : BI), basinB b.f0 b.f1 b.f2 = true → (nx b f).f2 ≤ b.f2 → b.f2 ≤ (n : Int) → ∃ m, m ≤ n ∧ nx (iterB f m b) f = iterB f m b := by
  intro n
  induction n with
  | zero =>
    intro b hb h1 h2
    obtain ⟨n1, _⟩ := nx_good (f := f) hb hf
    obtain ⟨c1, c2, c3, c4, c5, c6⟩ := basinB_get n1
    have e : (nx b f).f2 = b.f2 := by omega
    exact ⟨0, Nat.le_refl _, nx_ext e⟩
  | succ n ih =>
    intro b hb h1 h2
    by_cases h3 : (nx b f).f2 = b.f2
    · exact ⟨0, by omega, nx_ext h3⟩
    · obtain ⟨n1, _⟩ := nx_good (f := f) hb hf
      obtain ⟨a1, a2, a3, a4, a5, a6⟩ := basinB_get hb
      obtain ⟨m, hm, e⟩ := ih (nx b f) n1 (by
        have q1 : (nx b f).f2 = b.f2 + f - max 0 (b.f2 + f - b.f0) - min b.f1 (b.f2 + f - max 0 (b.f2 + f - b.f0)) := rfl
        have q2 : (nx (nx b f) f).f2 = (nx b f).f2 + f - max 0 ((nx b f).f2 + f - b.f0) - min b.f1 ((nx b f).f2 + f - max 0 ((nx b f).f2 + f - b.f0)) := rfl
        omega) (by omega)
      exact ⟨m + 1, by omega, e⟩
theorem rest_one (f : Int) (hf : 0 ≤ f) (b : BI) (hb : basinB b.f0 b.f1 b.f2 = true) : ∃ m, m ≤ 1000 ∧ nx (iterB f m b) f = iterB f m b := by
  obtain ⟨a1, a2, a3, a4, a5, a6⟩ := basinB_get hb
  rcases Int.le_total b.f2 (nx b f).f2 with h | h
  · exact up f hf 1000 b hb h (by omega)
  · exact dn f hf 1000 b hb h (by omega)
theorem out_rest {b : BI} {f : Int} (h : nx b f = b) : out b f = f := by
  have e : (nx b f).f2 = b.f2 := by rw [h]
  simp only [nx] at e
  unfold out
  omega
theorem iter_rest (f : Int) (b : BI) (hb : nx b f = b) : ∀ (n : Nat) (bs : List BI), iter f n (b :: bs) = b :: iter f n bs
  | 0, _ => rfl
  | n + 1, bs => by
    have := iter_rest f b hb n (tick bs f).1
    simp only [iter, tick, hb, out_rest hb]
    exact this
theorem rest_n (f : Int) (hf : 0 ≤ f) : ∀ (q : Nat) (l : List BI), l.length = q → good l → ∃ n, n ≤ 1000 * q ∧ (tick (iter f n l) f).1 = iter f n l := by
  intro q
  induction q with
  | zero =>
    intro l hl _
    have e : l = [] := List.length_eq_zero_iff.1 hl
    subst e
    exact ⟨0, by omega, rfl⟩
  | succ q ih =>
    intro l hl hg
    obtain ⟨b, bs, rfl⟩ : ∃ b bs, l = b :: bs := by
      cases l with
      | nil => simp at hl
      | cons b bs => exact ⟨b, bs, rfl⟩
    obtain ⟨m, hm, e⟩ := rest_one f hf b (hg b (by simp))
    obtain ⟨bs', e1, hl', hg'⟩ := iter_cons f hf m b bs hg
    obtain ⟨n, hn, e2⟩ := ih bs' (by rw [hl']; simpa using hl) (fun x hx => hg' x (by simp [hx]))
    refine ⟨m + n, by omega, ?_⟩
    rw [iter_add, e1, iter_rest f _ e, tick, e, out_rest e, e2]
theorem rest (f : Int) (hf : 0 ≤ f) (l : List BI) (hg : good l) : ∃ n, n ≤ 1000 * l.length ∧ (tick (iter f n l) f).1 = iter f n l := rest_n f hf l.length l rfl hg

end Go.Proofs.Ytcalhmjnoahliaa.Pure
