/- Chains of siphons: copying, comparing, what program and reference say of a chain, and what a tick computes, for right chains, levels and inflows. -/
import Derived.Test.YtbpkfdclplcbaaaLibS
import Derived.Test.YtbpkfdclplcbaaaLibSi
import Derived.Test.YtbpkfdclplcbaaaLibSt
import Derived.Test.YtbpkfdclplcbaaaLibW
import Derived.Test.YtbpkfdclplcbaaaPr0
import Derived.Test.YtbpkfdclplcbaaaPr17
import Derived.Test.YtbpkfdclplcbaaaPr18
import Derived.Test.YtbpkfdclplcbaaaPr19
import Derived.Test.YtbpkfdclplcbaaaPr2
import Derived.Test.YtbpkfdclplcbaaaPr4
namespace Go.Proofs.Ytbpkfdclplcbaaa.Pure
open Go.RowKit Go.Proofs.Ytbpkfdclplcbaaa.Pr Go.Proofs.YtbpkfdclplcbaaaW.PrintWords Go.Proofs.YtbpkfdclplcbaaaW.PrintLast
set_option linter.unusedVariables false
set_option linter.unusedSimpArgs false

abbrev SLaw := S24
abbrev SImp := S26
def sconv (l : List SLaw) : List SImp := l.map (fun x => ⟨x.f0, x.f1, x.f2, x.f3⟩)
theorem sconv_length (l : List SLaw) : (sconv l).length = l.length := by simp [sconv]
theorem szSiphonS_ok (l : List SLaw) (hl : l.length ≤ maxLen) : laws_szSiphonS.f l 1048576 = some (if l.length ≤ 1048576 then (1048576 : Int) - (l.length : Int) else -1) := by
  unfold maxLen at hl
  unfold laws_szSiphonS.f
  rw [w64 (by omega) (by omega)]
  by_cases h : (1048576 : Int) - (l.length : Int) < 0
  · rw [if_pos h, if_neg (by omega)]
  · rw [if_neg h, if_pos (by omega)]
theorem toSiphonS_l0 (x0 : List SLaw) (hl : x0.length ≤ 1048576) : ∀ (d k : Nat) (x3 : List SImp) (j : Nat), x0.length - j = d → d < k → j ≤ x0.length → x3.length = x0.length →
    (∀ m, m < j → x3[m]? = (sconv x0)[m]?) → laws_toSiphonS.l0 k x0 x3 (j : Int) = some (sconv x0) := by
  intro d
  induction d with
  | zero =>
    intro k x3 j hd hk hj hlen hm
    obtain ⟨k, rfl⟩ : ∃ m, k = m + 1 := ⟨k - 1, by omega⟩
    simp only [laws_toSiphonS.l0]
    rw [if_neg (by omega)]
    congr 1
    apply List.ext_getElem?
    intro i
    by_cases h : i < j
    · exact hm i h
    · rw [List.getElem?_eq_none (by omega), List.getElem?_eq_none (by rw [sconv_length]; omega)]
  | succ d ih =>
    intro k x3 j hd hk hj hlen hm
    obtain ⟨k, rfl⟩ : ∃ m, k = m + 1 := ⟨k - 1, by omega⟩
    simp only [laws_toSiphonS.l0, laws_toSiphon.f, Option.bind_some]
    rw [if_pos (by omega), if_pos (by omega), if_pos (by omega), w64 (by omega) (by omega)]
    refine ih k _ (j + 1) (by omega) (by omega) (by omega) (by simpa using hlen) ?_
    intro m h
    have e : ((j : Int)).toNat = j := by omega
    rw [e]
    by_cases hmj : m = j
    · subst hmj
      rw [List.getElem?_set_self (by omega)]
      have hm' : m < x0.length := by omega
      simp [sconv, rd_T24, hm']
    · rw [List.getElem?_set_ne (by omega)]
      exact hm m (by omega)
theorem toSiphonS_ok (l : List SLaw) (k : Nat) (hl : l.length ≤ 1048576) (hk : 2000000 ≤ k) : laws_toSiphonS.f k l = some (sconv l) := by
  unfold laws_toSiphonS.f
  rw [if_pos (by omega), if_pos (by omega)]
  have := toSiphonS_l0 l hl (l.length) k (List.replicate l.length z26) 0 (by omega) (by omega) (by omega) (by simp) (fun m h => by omega)
  simpa using this
theorem eqSiphonS_l0 (l : List SImp) (hl : l.length ≤ 1048576) : ∀ (d k j : Nat), l.length - j = d → d < k → laws_eqSiphonS.l0 k l l (j : Int) = some true := by
  intro d
  induction d with
  | zero =>
    intro k j hd hk
    obtain ⟨k, rfl⟩ : ∃ m, k = m + 1 := ⟨k - 1, by omega⟩
    simp only [laws_eqSiphonS.l0]
    rw [if_neg (by omega)]
  | succ d ih =>
    intro k j hd hk
    obtain ⟨k, rfl⟩ : ∃ m, k = m + 1 := ⟨k - 1, by omega⟩
    simp only [laws_eqSiphonS.l0]
    rw [if_pos (by omega), if_pos (by omega), if_pos (by omega), laws_eqSiphon.f, if_pos rfl, if_pos rfl, if_pos rfl, if_pos rfl, Option.bind_some, if_pos rfl, w64 (by omega) (by omega)]
    exact ih k (j + 1) (by omega) (by omega)
theorem eqSiphonS_ok (l : List SImp) (k : Nat) (hl : l.length ≤ 1048576) (hk : 2000000 ≤ k) : laws_eqSiphonS.f k l l = some true := by
  unfold laws_eqSiphonS.f
  rw [if_pos rfl]
  exact eqSiphonS_l0 l hl l.length k 0 (by omega) (by omega)
theorem drop_rdS (l : List SImp) (j : Nat) (h : j < l.length) : l.drop j = rd_T26 l (j : Int) :: l.drop (j + 1) := by
  rw [List.drop_eq_getElem_cons h]
  simp [rd_T26, h]
theorem drop_rdV (l : List LV) (j : Nat) (h : j < l.length) : l.drop j = rd_T37 l (j : Int) :: l.drop (j + 1) := by
  rw [List.drop_eq_getElem_cons h]
  simp [rd_T37, h]
def chainB (l : List SImp) : Bool := inR 1 4 (l.length : Int) && l.all (fun x => siphB x.f0 x.f1 x.f2 x.f3)
theorem siChain_l0 (l : List SImp) (hl : l.length ≤ 1048576) : ∀ (d k j : Nat), l.length - j = d → d < k → spec_siChain.l0 k l (l.length : Int) (j : Int) = some ((l.drop j).all (fun x => siphB x.f0 x.f1 x.f2 x.f3)) := by
  intro d
  induction d with
  | zero =>
    intro k j hd hk
    obtain ⟨k, rfl⟩ : ∃ m, k = m + 1 := ⟨k - 1, by omega⟩
    simp only [spec_siChain.l0]
    rw [if_neg (by omega), List.drop_of_length_le (by omega)]
    rfl
  | succ d ih =>
    intro k j hd hk
    obtain ⟨k, rfl⟩ : ∃ m, k = m + 1 := ⟨k - 1, by omega⟩
    simp only [spec_siChain.l0]
    rw [if_pos (by omega), if_pos (by omega), if_pos (by omega), siGood_ok, Option.bind_some, w64 (i := (j : Int) + 1) (by omega) (by omega), drop_rdS l j (by omega), List.all_cons]
    have := ih k (j + 1) (by omega) (by omega)
    generalize rd_T26 l (j : Int) = x
    by_cases h : siphB x.f0 x.f1 x.f2 x.f3 = true
    · rw [if_pos h, h, Bool.true_and]
      exact this
    · rw [if_neg h, Bool.eq_false_iff.mpr h, Bool.false_and]
theorem siChain_ok (l : List SImp) (k : Nat) (hl : l.length ≤ 1048576) (hk : 2000000 ≤ k) : spec_siChain.f k l = some (chainB l) := by
  unfold spec_siChain.f chainB
  rw [l1In_okR, Option.bind_some]
  by_cases h : inR 1 4 (l.length : Int) = true
  · rw [if_pos h, h, Bool.true_and]
    exact siChain_l0 l hl l.length k 0 (by omega) (by omega)
  · rw [if_neg h, Bool.eq_false_iff.mpr h, Bool.false_and]
theorem isChain_p_eq (x : SImp) : isChain_p x = siphB x.f0 x.f1 x.f2 x.f3 := by
  unfold isChain_p siphB
  rw [Bool.eq_iff_iff]
  simp only [Bool.and_eq_true, decide_eq_true_eq]
theorem isChain_ok (l : List SImp) (hl : l.length ≤ 1048576) : impl_isChain.f l = some (chainB l) := by
  unfold impl_isChain.f chainB
  rw [if_pos (by omega)]
  have e : decide (1 ≤ l.length ∧ l.length ≤ 4) = inR 1 4 (l.length : Int) := by
    unfold inR
    rw [Bool.eq_iff_iff]
    simp
    omega
  have e2 : isChain_p = fun x : SImp => siphB x.f0 x.f1 x.f2 x.f3 := funext isChain_p_eq
  rw [e, e2]
theorem chainB_get {l : List SImp} (h : chainB l = true) : 1 ≤ l.length ∧ l.length ≤ 4 ∧ ∀ x ∈ l, siphB x.f0 x.f1 x.f2 x.f3 = true := by
  unfold chainB at h
  rw [Bool.and_eq_true, inR_iff, List.all_eq_true] at h
  exact ⟨by omega, by omega, h.2⟩

/-! ### a tick of a chain -/
/-- The levels behind a tick. -/
def chStep : List SImp → List LV → Int → List LV
  | s :: r, l :: ls, x => ⟨(tk s.f0 s.f1 s.f2 s.f3 l.f0 l.f1 x).1, (tk s.f0 s.f1 s.f2 s.f3 l.f0 l.f1 x).2.1⟩ :: chStep r ls (tk s.f0 s.f1 s.f2 s.f3 l.f0 l.f1 x).2.2.1
  | _, _, _ => []
/-- Levels of a chain. -/
def chOk : List SImp → List LV → Prop
  | [], [] => True
  | s :: r, l :: ls => (0 ≤ l.f0 ∧ l.f0 ≤ s.f0) ∧ chOk r ls
  | _, _ => False
theorem chOk_length : ∀ {c : List SImp} {l : List LV}, chOk c l → l.length = c.length
  | [], [], _ => rfl
  | _ :: r, _ :: ls, h => by simp [chOk_length (c := r) (l := ls) h.2]
  | [], _ :: _, h => h.elim
  | _ :: _, [], h => h.elim
theorem chStep_ok : ∀ {c : List SImp} {l : List LV} {x : Int}, (∀ s ∈ c, siphB s.f0 s.f1 s.f2 s.f3 = true) → chOk c l → 0 ≤ x → x ≤ 60 → chOk c (chStep c l x)
  | [], [], _, _, _, _, _ => trivial
  | s :: r, a :: ls, x, hc, h, x0, x1 => by
    have t := tk_bd (r := a.f1) (hc s (by simp)) h.1.1 h.1.2 x0 x1
    exact ⟨⟨t.1, t.2.1⟩, chStep_ok (fun q hq => hc q (by simp [hq])) h.2 t.2.2.1 t.2.2.2.1⟩
  | [], _ :: _, _, _, h, _, _ => h.elim
  | _ :: _, [], _, _, h, _, _ => h.elim
theorem chOk_zero : ∀ {c : List SImp}, (∀ s ∈ c, siphB s.f0 s.f1 s.f2 s.f3 = true) → chOk c (List.replicate c.length z37)
  | [], _ => trivial
  | s :: r, hc => by
    obtain ⟨a1, a2, a3, a4, a5, a6, a7⟩ := siphB_get (hc s (by simp))
    exact ⟨⟨Int.le_refl _, by show (0 : Int) ≤ s.f0; omega⟩, chOk_zero (fun q hq => hc q (by simp [hq]))⟩
theorem chOk_drop : ∀ {c : List SImp} {l : List LV} (j : Nat), chOk c l → chOk (c.drop j) (l.drop j)
  | _, _, 0, h => by simpa using h
  | [], [], j + 1, _ => by simp [chOk]
  | _ :: r, _ :: ls, j + 1, h => by simpa using chOk_drop (c := r) (l := ls) j h.2
  | [], _ :: _, _ + 1, h => h.elim
  | _ :: _, [], _ + 1, h => h.elim
theorem siAll_l0 (c : List SImp) (ls : List LV) (hc : ∀ s ∈ c, siphB s.f0 s.f1 s.f2 s.f3 = true) (hl : chOk c ls) (h4 : c.length ≤ 4) : ∀ (d k j : Nat) (x : Int) (acc : List LV), c.length - j = d → d + 50 ≤ k → 0 ≤ x → x ≤ 60 → acc.length ≤ j → j ≤ c.length →
    spec_siAll.l0 k ls x acc c (c.length : Int) (j : Int) = some (acc ++ chStep (c.drop j) (ls.drop j) x) := by
  have hlen := chOk_length hl
  intro d
  induction d with
  | zero =>
    intro k j x acc hd hk x0 x1 ha hj
    obtain ⟨k, rfl⟩ : ∃ m, k = m + 1 := ⟨k - 1, by omega⟩
    simp only [spec_siAll.l0]
    rw [if_neg (by omega), List.drop_of_length_le (by omega), List.drop_of_length_le (by omega)]
    simp [chStep]
  | succ d ih =>
    intro k j x acc hd hk x0 x1 ha hj
    obtain ⟨k, rfl⟩ : ∃ m, k = m + 1 := ⟨k - 1, by omega⟩
    have ho := chOk_drop j hl
    rw [drop_rdS c j (by omega), drop_rdV ls j (by omega)] at ho ⊢
    have hs : siphB (rd_T26 c (j : Int)).f0 (rd_T26 c (j : Int)).f1 (rd_T26 c (j : Int)).f2 (rd_T26 c (j : Int)).f3 = true := by
      have hj2 : j < c.length := by omega
      have e : rd_T26 c (j : Int) = c[j] := by simp [rd_T26, hj2]
      rw [e]
      exact hc _ (List.getElem_mem hj2)
    simp only [spec_siAll.l0]
    rw [if_pos (by omega), if_pos (by omega), if_pos (by omega), if_pos (by omega)]
    revert ho hs
    generalize rd_T26 c (j : Int) = s
    generalize rd_T37 ls (j : Int) = a
    intro ho hs
    have t := tk_bd (r := a.f1) hs ho.1.1 ho.1.2 x0 x1
    rw [siTick_ok k hs ho.1.1 ho.1.2 x0 x1 (by omega), Option.bind_some, if_pos (by omega), w64 (i := (j : Int) + 1) (by omega) (by omega)]
    have hi := ih k (j + 1) (tk s.f0 s.f1 s.f2 s.f3 a.f0 a.f1 x).2.2.1 (acc ++ [⟨(tk s.f0 s.f1 s.f2 s.f3 a.f0 a.f1 x).1, (tk s.f0 s.f1 s.f2 s.f3 a.f0 a.f1 x).2.1⟩]) (by omega) (by omega) t.2.2.1 t.2.2.2.1 (by simp; omega) (by omega)
    rw [List.append_assoc] at hi
    exact hi
theorem siAll_ok {c : List SImp} {ls : List LV} {x : Int} (k : Nat) (hc : ∀ s ∈ c, siphB s.f0 s.f1 s.f2 s.f3 = true) (hl : chOk c ls) (h4 : c.length ≤ 4) (x0 : 0 ≤ x) (x1 : x ≤ 60) (hk : 60 ≤ k) : spec_siAll.f k c ls x = some (chStep c ls x) := by
  unfold spec_siAll.f
  have := siAll_l0 c ls hc hl h4 c.length k 0 x [] (by omega) (by omega) x0 x1 (by simp) (by omega)
  simpa using this
/-! ### levels compared -/
def lvsB : List LV → List LV → Bool
  | a :: r, b :: q => (a.f0 == b.f0 && (a.f1 == b.f1)) && lvsB r q
  | [], [] => true
  | _, _ => false
theorem lvsB_iff : ∀ {a b : List LV}, lvsB a b = true ↔ a = b
  | [], [] => by simp [lvsB]
  | a :: r, b :: q => by
    unfold lvsB
    rw [Bool.and_eq_true, lv_beq, lvsB_iff]
    constructor
    · rintro ⟨rfl, rfl⟩; rfl
    · intro h; injection h with h1 h2; exact ⟨h1, h2⟩
  | [], _ :: _ => by simp [lvsB]
  | _ :: _, [] => by simp [lvsB]
theorem siSame_l0 (a b : List LV) (he : a.length = b.length) (h4 : a.length ≤ 4) : ∀ (d k j : Nat), a.length - j = d → d < k → spec_siSame.l0 k a b (a.length : Int) (j : Int) = some (lvsB (a.drop j) (b.drop j)) := by
  intro d
  induction d with
  | zero =>
    intro k j hd hk
    obtain ⟨k, rfl⟩ : ∃ m, k = m + 1 := ⟨k - 1, by omega⟩
    simp only [spec_siSame.l0]
    rw [if_neg (by omega), List.drop_of_length_le (by omega), List.drop_of_length_le (by omega)]
    rfl
  | succ d ih =>
    intro k j hd hk
    obtain ⟨k, rfl⟩ : ∃ m, k = m + 1 := ⟨k - 1, by omega⟩
    simp only [spec_siSame.l0]
    rw [if_pos (by omega), if_pos (by omega), if_pos (by omega), if_pos (by omega), drop_rdV a j (by omega), drop_rdV b j (by omega), w64 (i := (j : Int) + 1) (by omega) (by omega)]
    have hi := ih k (j + 1) (by omega) (by omega)
    generalize rd_T37 a (j : Int) = p
    generalize rd_T37 b (j : Int) = q
    unfold lvsB
    by_cases h : (p.f0 == q.f0 && (p.f1 == q.f1)) = true
    · rw [h, Bool.true_and]
      rw [Bool.and_eq_true] at h
      rw [h.1, h.2, if_neg (by simp)]
      exact hi
    · have h' := Bool.eq_false_iff.mpr h
      rw [h', Bool.false_and]
      have : (!p.f0 == q.f0 || !p.f1 == q.f1) = true := by
        rw [← Bool.not_and, h']
        rfl
      rw [if_pos this]
theorem siSame_ok {a b : List LV} (k : Nat) (he : a.length = b.length) (h4 : a.length ≤ 4) (hk : 60 ≤ k) : spec_siSame.f k a b = some (lvsB a b) := by
  unfold spec_siSame.f
  have := siSame_l0 a b he h4 a.length k 0 (by omega) (by omega)
  simpa using this
/-! ### four levels -/
def fourOf (l : List LV) : L4 := ⟨l.getD 0 ⟨0, false⟩, l.getD 1 ⟨0, false⟩, l.getD 2 ⟨0, false⟩, l.getD 3 ⟨0, false⟩⟩
theorem avB_four {a b : List LV} (he : a.length = b.length) (h4 : a.length ≤ 4) : avB (fourOf a) (fourOf b) = lvsB a b := by
  rcases a with _ | ⟨a0, _ | ⟨a1, _ | ⟨a2, _ | ⟨a3, _ | ⟨a4, a⟩⟩⟩⟩⟩ <;> rcases b with _ | ⟨b0, _ | ⟨b1, _ | ⟨b2, _ | ⟨b3, _ | ⟨b4, b⟩⟩⟩⟩⟩ <;> simp at he h4 <;> first | omega | simp [avB, fourOf, lvB, lvsB]
theorem wf_of {a : Int} (h0 : 0 ≤ a) (h1 : a ≤ 60) : (Lit.int .i64 a).wf = true := by
  have e1 : IntKind.i64.min = -9223372036854775808 := by decide
  have e2 : IntKind.i64.max = 9223372036854775807 := by decide
  simp [Lit.wf, e1, e2]
  omega
theorem chOk_le : ∀ {c : List SImp} {l : List LV}, (∀ s ∈ c, siphB s.f0 s.f1 s.f2 s.f3 = true) → chOk c l → ∀ a ∈ l, 0 ≤ a.f0 ∧ a.f0 ≤ 60
  | [], [], _, _ => by simp
  | s :: r, b :: ls, hc, h => by
    intro a ha
    obtain ⟨a1, a2, a3, a4, a5, a6, a7⟩ := siphB_get (hc s (by simp))
    rcases List.mem_cons.1 ha with rfl | ha
    · exact ⟨h.1.1, by have := h.1.2; omega⟩
    · exact chOk_le (fun q hq => hc q (by simp [hq])) h.2 a ha
  | [], _ :: _, _, h => h.elim
  | _ :: _, [], _, h => h.elim
theorem avW_four {l : List LV} (h : ∀ a ∈ l, 0 ≤ a.f0 ∧ a.f0 ≤ 60) : avW (fourOf l) = true := by
  have g : ∀ i, 0 ≤ (l.getD i ⟨0, false⟩).f0 ∧ (l.getD i ⟨0, false⟩).f0 ≤ 60 := by
    intro i
    by_cases hi : i < l.length
    · have e : l.getD i ⟨0, false⟩ = l[i] := by simp [hi]
      rw [e]
      exact h _ (List.getElem_mem hi)
    · have e : l.getD i ⟨0, false⟩ = ⟨0, false⟩ := by simp [Nat.le_of_not_lt hi]
      rw [e]
      exact ⟨by simp, by simp⟩
  unfold avW fourOf
  simp only [wf_of (g 0).1 (g 0).2, wf_of (g 1).1 (g 1).2, wf_of (g 2).1 (g 2).2, wf_of (g 3).1 (g 3).2, Bool.and_self]
theorem chTick_cons {s : SImp} {r : List SImp} {i : Nat} {now : L4} {x : Int} (a : LV) (ha : chSel now i = a) (hs : siphB s.f0 s.f1 s.f2 s.f3 = true) (h0 : 0 ≤ a.f0) (h1 : a.f0 ≤ s.f0) (x0 : 0 ≤ x) (x1 : x ≤ 60) :
    chTick (s :: r) i now x = chTick r (i + 1) (chSet now i ⟨(tk s.f0 s.f1 s.f2 s.f3 a.f0 a.f1 x).1, (tk s.f0 s.f1 s.f2 s.f3 a.f0 a.f1 x).2.1⟩) (tk s.f0 s.f1 s.f2 s.f3 a.f0 a.f1 x).2.2.1 := by
  subst ha
  show (impl_Siphon_tick.f s.f0 s.f1 s.f2 s.f3 (chSel now i).f0 (chSel now i).f1 x).bind _ = _
  rw [Siphon_tick_ok hs h0 h1 x0 x1, Option.bind_some]
theorem chTick_ok {c : List SImp} {ls : List LV} {x : Int} (hc : ∀ s ∈ c, siphB s.f0 s.f1 s.f2 s.f3 = true) (hl : chOk c ls) (h4 : c.length ≤ 4) (x0 : 0 ≤ x) (x1 : x ≤ 60) : chTick c 0 (fourOf ls) x = some (fourOf (chStep c ls x)) := by
  rcases c with _ | ⟨c0, c⟩
  · rcases ls with _ | ⟨l0, ls⟩
    · rfl
    · exact hl.elim
  rcases ls with _ | ⟨l0, ls⟩
  · exact hl.elim
  obtain ⟨b0, hl⟩ := hl
  have s0 := hc c0 (by simp)
  have t0 := tk_bd (r := l0.f1) s0 b0.1 b0.2 x0 x1
  rw [chTick_cons l0 rfl s0 b0.1 b0.2 x0 x1]
  rcases c with _ | ⟨c1, c⟩
  · rcases ls with _ | ⟨l1, ls⟩
    · rfl
    · exact hl.elim
  rcases ls with _ | ⟨l1, ls⟩
  · exact hl.elim
  obtain ⟨b1, hl⟩ := hl
  have s1 := hc c1 (by simp)
  have t1 := tk_bd (r := l1.f1) s1 b1.1 b1.2 t0.2.2.1 t0.2.2.2.1
  rw [chTick_cons l1 rfl s1 b1.1 b1.2 t0.2.2.1 t0.2.2.2.1]
  rcases c with _ | ⟨c2, c⟩
  · rcases ls with _ | ⟨l2, ls⟩
    · rfl
    · exact hl.elim
  rcases ls with _ | ⟨l2, ls⟩
  · exact hl.elim
  obtain ⟨b2, hl⟩ := hl
  have s2 := hc c2 (by simp)
  have t2 := tk_bd (r := l2.f1) s2 b2.1 b2.2 t1.2.2.1 t1.2.2.2.1
  rw [chTick_cons l2 rfl s2 b2.1 b2.2 t1.2.2.1 t1.2.2.2.1]
  rcases c with _ | ⟨c3, c⟩
  · rcases ls with _ | ⟨l3, ls⟩
    · rfl
    · exact hl.elim
  rcases ls with _ | ⟨l3, ls⟩
  · exact hl.elim
  obtain ⟨b3, hl⟩ := hl
  have s3 := hc c3 (by simp)
  rw [chTick_cons l3 rfl s3 b3.1 b3.2 t2.2.2.1 t2.2.2.2.1]
  rcases c with _ | ⟨c4, c⟩
  · rcases ls with _ | ⟨l4, ls⟩
    · rfl
    · exact hl.elim
  simp at h4

end Go.Proofs.Ytbpkfdclplcbaaa.Pure
