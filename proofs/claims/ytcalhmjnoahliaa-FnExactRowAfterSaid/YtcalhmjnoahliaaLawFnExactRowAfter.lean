/- The statement FnExactRowAfter of this seat: for every input the law's call returns true and leaves its arguments as they were; out of the call's contract and the pure statement. No condition. -/
import Derived.Test.YtcalhmjnoahliaaRows
import Derived.Test.YtcalhmjnoahliaaPr50
import Derived.Test.YtcalhmjnoahliaaPureFnExactRowAfter
import Derived.WalkKit
import Derived.ProofKit
import Derived.OpenShut
import Derived.ShutString
import Derived.ChangeOld
import Derived.Below
import Derived.SizedLaws
import Derived.Lib.SmallJoins
import Derived.Deep.Slices
import Derived.Deep.Fields
import Derived.ChangeSame
import Derived.Test.YtcalhmjnoahliaaPr0
namespace Go.Proofs.Ytcalhmjnoahliaa.fnExactRowAfter
open Go.ChangeShapes Go.WideShapes Go.ChangeAt Go.RowKit Go.Joins Go.Deep
open Go.ChangeMaps (open_string shut_string)
open Go.Proofs.Ytcalhmjnoahliaa.Pr Go.Proofs.YtcalhmjnoahliaaW.PrintWords Go.Proofs.YtcalhmjnoahliaaW.PrintLast
set_option linter.unusedVariables false
theorem own : ownKnob Try.prog.godebug = none := by kernel_rfl
theorem laidOut : laidOutB Try.prog = true := by kernel_rfl
theorem cells61 : Try.prog.cellsOf 61 = 3 := by kernel_rfl
section
variable {H : Type} {enc : TypeId × Value → H} {P : Program} {w : World} {base : Nat} {spare : Nat → Bool} {held : Bool}
theorem ints_C1 {t e : TypeId} {fuel : Nat} {c : Value} {x : DataW H × List MemPlace} (ht : P.underlying t = some (.slice e)) (he : P.underlying e = some (.int .i64)) (hC : P.cellsOf e = 1)
    (h : DataW.trod enc P w base (fun _ => true) held fuel t [c] = some x) :
    ∃ (A : Option Addr) (l : List Int) (cap : Nat), c = .slice A l.length cap ∧ Kd.C (Kd.int .i64) w A l.length l ∧ l.length ≤ maxLen ∧ (∀ y ∈ l, (Lit.int .i64 y).wf = true) ∧ l.length ≤ cap := by
  rcases open_ints ht he hC h with ⟨hcs, _⟩ | ⟨a, len, cap, zs, hcs, _, hl, hm, hz, _, hcell, hwz⟩
  · simp at hcs
    subst hcs
    exact ⟨none, [], 0, rfl, Kd.C_nil _ _, by simp, by simp, Nat.le_refl _⟩
  · simp at hcs
    subst hcs
    obtain ⟨l, e, h1, h2, h3, h4⟩ := ReadsInt.ofRowC (k := .i64) (w := w) (a := some a) (len := len) (cap := cap) (zs := zs) (.inr ⟨a, rfl, hl, hm, by simpa using hz, hcell, hwz⟩)
    subst e
    exact ⟨some a, l, cap, rfl, Kd.C_of_reads (d := (0 : Int)) (h1 := fun _ => rfl) h1, h2, h3, h4⟩
theorem ints_C {t e : TypeId} {A : Option Addr} {len cap : Nat} {d : DataW H} {p : List MemPlace} (ht : P.underlying t = some (.slice e)) (he : P.underlying e = some (.int .i64)) (hC : P.cellsOf e = 1)
    (h : DataW.Trod enc P w base (fun _ => true) held t (.slice A len cap) d p) :
    ∃ l : List Int, len = l.length ∧ Kd.C (Kd.int .i64) w A l.length l ∧ l.length ≤ maxLen ∧ (∀ y ∈ l, (Lit.int .i64 y).wf = true) ∧ l.length ≤ cap := by
  obtain ⟨fuel, hf⟩ := h
  obtain ⟨A', l, cap', e, h1, h2, h3, h4⟩ := ints_C1 ht he hC hf
  injection e with e1 e2 e3
  subst e1 e2 e3
  exact ⟨l, rfl, h1, h2, h3, h4⟩
/-- A list of structs that came in, read. -/
theorem rows_61 {A : Option Addr} {len cap : Nat} {d : DataW H} {p : List MemPlace} (h : DataW.Trod enc Try.prog w base spare held 26 (.slice A len cap) d p) :
    ∃ l : List S61, len = l.length ∧ Kd.C k61 w A l.length l ∧ l.length ≤ maxLen ∧ (∀ x ∈ l, (Lit.int .i64 x.f0).wf = true ∧ (Lit.int .i64 x.f1).wf = true ∧ (Lit.int .i64 x.f2).wf = true) ∧ l.length ≤ cap := by
  obtain ⟨fuel, hf⟩ := h
  rcases open_slice Try.underlying26 hf with ⟨hcs, _⟩ | ⟨a, len', cap', m, n, D, Pl, hcs, _, hl, hm, hmm, _, hi⟩
  · simp [Value.cells] at hcs
    obtain ⟨rfl, rfl, rfl⟩ := hcs
    exact ⟨[], rfl, Kd.C_nil _ _, by simp, by simp, Nat.zero_le _⟩
  · simp [Value.cells] at hcs
    obtain ⟨rfl, rfl, rfl⟩ := hcs
    have hlm : len ≤ m := by rw [hmm]; split <;> omega
    rw [cells61] at hi
    have hx : ∀ i, i < len → ∃ x : S61, (∀ j u, [.int .i64 x.f0, .int .i64 x.f1, .int .i64 x.f2][j]? = some u → w.cell? (a.add (i * 3 + j)) = some u) ∧ (Lit.int .i64 x.f0).wf = true ∧ (Lit.int .i64 x.f1).wf = true ∧ (Lit.int .i64 x.f2).wf = true := by
      intro i him
      obtain ⟨cs', hc, ht'⟩ := hi i (by omega)
      obtain ⟨ys, n', hn', hy, hlen, hyl, hf'⟩ := DataW.trod_struct Try.underlying61 ht'
      obtain ⟨_, hcl, hat⟩ := World.cells?_some hc
      have hyl' : ys.length = 3 := hyl
      have hcl' : cs'.length = 3 := hcl
      have hv0 : cs'[0]? = some (cs'[0]'(by omega)) := List.getElem?_eq_getElem (by omega)
      have g0 := hf' 0 _ rfl
      have t0 : (cs'.drop 0).take 1 = [cs'[0]'(by omega)] := by rw [List.drop_eq_getElem_cons (by omega)]; rfl
      have hv1 : cs'[1]? = some (cs'[1]'(by omega)) := List.getElem?_eq_getElem (by omega)
      have g1 := hf' 1 _ rfl
      have t1 : (cs'.drop 1).take 1 = [cs'[1]'(by omega)] := by rw [List.drop_eq_getElem_cons (by omega)]; rfl
      have hv2 : cs'[2]? = some (cs'[2]'(by omega)) := List.getElem?_eq_getElem (by omega)
      have g2 := hf' 2 _ rfl
      have t2 : (cs'.drop 2).take 1 = [cs'[2]'(by omega)] := by rw [List.drop_eq_getElem_cons (by omega)]; rfl
      have g0' : DataW.trod enc Try.prog w base spare held n' 3 [cs'[0]'(by omega)] = ys[0]? := by rw [← t0]; exact g0
      have y0 : ys[0]? = some (ys[0]'(by omega)) := List.getElem?_eq_getElem (by omega)
      obtain ⟨x0, ex0, _, wx0⟩ := DataW.trod_int Try.underlying3 (g0'.trans y0)
      simp at ex0
      have g1' : DataW.trod enc Try.prog w base spare held n' 3 [cs'[1]'(by omega)] = ys[1]? := by rw [← t1]; exact g1
      have y1 : ys[1]? = some (ys[1]'(by omega)) := List.getElem?_eq_getElem (by omega)
      obtain ⟨x1, ex1, _, wx1⟩ := DataW.trod_int Try.underlying3 (g1'.trans y1)
      simp at ex1
      have g2' : DataW.trod enc Try.prog w base spare held n' 3 [cs'[2]'(by omega)] = ys[2]? := by rw [← t2]; exact g2
      have y2 : ys[2]? = some (ys[2]'(by omega)) := List.getElem?_eq_getElem (by omega)
      obtain ⟨x2, ex2, _, wx2⟩ := DataW.trod_int Try.underlying3 (g2'.trans y2)
      simp at ex2
      refine ⟨⟨x0, x1, x2⟩, ?_, wx0, wx1, wx2⟩
      intro j u hj
      have hjq : j < 3 := by have := (List.getElem?_eq_some_iff.1 hj).1; simpa using this
      have key : w.cell? (a.add (i * 3 + j)) = cs'[j]? := by rw [← Go.Deep.add_add]; exact hat j (by omega)
      rw [key]
      rcases (by omega : j = 0 ∨ j = 1 ∨ j = 2) with rfl | rfl | rfl
      · rw [hv0, ex0]; exact hj
      · rw [hv1, ex1]; exact hj
      · rw [hv2, ex2]; exact hj
    refine ⟨(List.range len).map (fun i => if h : i < len then Classical.choose (hx i h) else z61), by simp, ?_, by simp; omega, ?_, by simpa using hl⟩
    · refine ⟨by simp, by simp; unfold maxLen at hm; omega, fun _ => ⟨a, rfl, fun j x hj => ?_⟩⟩
      have hjl : j < len := by have := (List.getElem?_eq_some_iff.1 hj).1; simpa using this
      simp only [List.getElem?_map, List.getElem?_range hjl, Option.map_some, hjl, dif_pos, Option.some.injEq] at hj
      subst hj
      have hc := (Classical.choose_spec (hx j hjl)).1
      exact ⟨_, rfl, k61_mk w _, hc⟩
    · intro x hxm
      obtain ⟨i, hi', rfl⟩ := List.mem_map.1 hxm
      have hil : i < len := List.mem_range.1 hi'
      simp only [hil, dif_pos]
      exact (Classical.choose_spec (hx i hil)).2
end
set_option maxRecDepth 100000 in
theorem lifted (os : Os) (started : os.Started) (H : Type) (enc : TypeId × Value → H) :
    ReturnsInHanded {} Try.checked os 15 .any (Rows.fnExactRowAfterSpec.pre6 enc Try.prog Try.f15 Rows.fnExactRowAfterRow.domain false) (Rows.fnExactRowAfterSpec.post enc Try.prog Try.f15 false true false false) := by
  refine returnsInHanded_of_change_sized (C := Try.checked) own started (by kernel_rfl) Try.func15
    (ChangeSpec.witness6 (enc := enc) (C := Try.checked) false ⟨#[], #[.slice none 0 0, .slice none 0 0], []⟩ 8 (by kernel_rfl) (by kernel_rfl) (by kernel_rfl) (by kernel_rfl)) ?_
  intro W base args ds gs before hval0 hW hcnd hsz0 _
  have hval : ∀ (j : Nat) t v, Try.f15.params[j]? = some t → args[j]? = some v → Value.okWide Try.prog W .any base t v := hval0
  have hW' := hW
  obtain ⟨p, q, hA0, hV, rfl, hfz, hnd⟩ := hW
  have hA : DataW.TrodAll enc Try.prog W 0 (fun _ => true) true Try.f15.params.toList args.toList ds p := hA0
  rw [Try.params15] at hA hval
  obtain ⟨v0, vs0, d0, ds0, p0, q0, hargs, rfl, rfl, h0, r0⟩ := trodAll_cons hA
  obtain ⟨v1, vs1, d1, ds1, p1, q1, rfl, rfl, rfl, h1, r1⟩ := trodAll_cons r0
  obtain ⟨rfl, rfl, rfl⟩ := trodAll_nil r1
  obtain rfl : args = #[v0, v1] := by cases args; simp_all
  obtain ⟨rfl, rfl⟩ := trodVars_none hV
  have k0 := h0
  have lt0 : ∀ x ∈ p0, x.block < W.heap.size := by obtain ⟨m, hm⟩ := k0; exact DataW.trod_lt m _ _ _ hm
  obtain ⟨ad0, len0, cap0, rfl⟩ := okWide_slice Try.underlying26 (hval 0 26 v0 rfl rfl)
  obtain ⟨l0, e0, C0, m0, q0, c0⟩ := rows_61 h0
  subst e0
  have k1 := h1
  have lt1 : ∀ x ∈ p1, x.block < W.heap.size := by obtain ⟨m, hm⟩ := k1; exact DataW.trod_lt m _ _ _ hm
  obtain ⟨ad1, len1, cap1, rfl⟩ := okWide_slice Try.underlying22 (hval 1 22 v1 rfl rfl)
  obtain ⟨l1, e1, C1, m1, q1, c1⟩ := ints_C Try.underlying22 Try.underlying3 (by kernel_rfl) h1
  subst e1
  clear hA0 hval0 hsz0
  obtain ⟨k, hk⟩ := Pure.FnExactRowAfter l0 l1 m0 q0 m1 q1
  refine (laws_FnExactRowAfter.calls k _ _ l0 _ _ l1 true W C0 c0 C1 c1 hk).mono fun e W' ⟨he, bel⟩ => ?_
  subst he
  exact ⟨_, rfl, _, _, _, [], _, [], hW', trodAll_mk1 (shut_bool Try.underlying4 _), (trodAll_cons_mk (Below.trod laidOut (by kernel_rfl) (of_decide_eq_true (by kernel_rfl)) k0 bel lt0) (trodAll_cons_mk (Below.trod laidOut (by kernel_rfl) (of_decide_eq_true (by kernel_rfl)) k1 bel lt1) trodAll_mk0)), rfl, bel.frame _, fun h => by cases h⟩
theorem over1 : Try.pinned.checked.prog.funcNamed Rows.fnExactRowAfterRow.func = some 15 := by kernel_rfl
theorem over2 : joinedFacts Try.pinned.checked.prog 15 Try.f15 Rows.fnExactRowAfterSpec Rows.fnExactRowAfterRow = true := by kernel_rfl
theorem over3 : Try.f15.isInstance Try.pinned.checked.prog Rows.fnExactRowAfterRow.origin Rows.fnExactRowAfterRow.targs := of_decide_eq_true (by kernel_rfl)
theorem over4 : Try.f15.isWrapper Try.pinned.checked.prog Rows.fnExactRowAfterRow.wrapper Rows.fnExactRowAfterRow.mainSum := by unfold Func.isWrapper; first | (rw [if_pos (by decide +kernel)]; kernel_rfl) | (rw [if_neg (by decide +kernel)]; exact ⟨rfl, rfl⟩)
theorem over : Rows.fnExactRowAfterRow.holds Try.pinned (OpenSpec.ofChange Rows.fnExactRowAfterSpec) :=
  OpenClaim.holds_of_wide 15 Try.f15 rfl rfl rfl rfl rfl rfl rfl ⟨rfl, rfl, rfl, rfl, rfl⟩ rfl rfl rfl rfl rfl over1 Try.func15 over2 over3 over4
    (fun os started H enc _ => lifted os started H enc)
end Go.Proofs.Ytcalhmjnoahliaa.fnExactRowAfter
namespace Go.Proofs.Ytcalhmjnoahliaa
theorem fnExactRowAfter_holds : Rows.FnExactRowAfterSaid := fnExactRowAfter.over
#print axioms fnExactRowAfter_holds
end Go.Proofs.Ytcalhmjnoahliaa
