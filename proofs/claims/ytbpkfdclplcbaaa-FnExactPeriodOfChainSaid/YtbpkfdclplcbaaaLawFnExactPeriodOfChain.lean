/- The statement FnExactPeriodOfChain of this seat: for every input the law's call returns true and leaves its arguments as they were; out of the call's contract and the pure statement. No condition. -/
import Derived.Test.YtbpkfdclplcbaaaRows
import Derived.Test.YtbpkfdclplcbaaaPr20
import Derived.Test.YtbpkfdclplcbaaaPureFnExactPeriodOfChain
import Derived.WalkKit
import Derived.ProofKit
import Derived.OpenShut
import Derived.ShutString
import Derived.ChangeOld
import Derived.Below
import Derived.SizedLaws
import Derived.Lib.SmallJoins
import Derived.Deep.Slices
import Derived.Deep.Fields
import Derived.ChangeSame
import Derived.Test.YtbpkfdclplcbaaaPr0
namespace Go.Proofs.Ytbpkfdclplcbaaa.fnExactPeriodOfChain
open Go.ChangeShapes Go.WideShapes Go.ChangeAt Go.RowKit Go.Joins Go.Deep
open Go.ChangeMaps (open_string shut_string)
open Go.Proofs.Ytbpkfdclplcbaaa.Pr Go.Proofs.YtbpkfdclplcbaaaW.PrintWords Go.Proofs.YtbpkfdclplcbaaaW.PrintLast
set_option linter.unusedVariables false
theorem own : ownKnob Try.prog.godebug = none := by kernel_rfl
theorem laidOut : laidOutB Try.prog = true := by kernel_rfl
theorem cells24 : Try.prog.cellsOf 24 = 4 := by kernel_rfl
section
variable {H : Type} {enc : TypeId × Value → H} {P : Program} {w : World} {base : Nat} {spare : Nat → Bool} {held : Bool}
/-- A list of structs that came in, read. -/
theorem rows_24 {A : Option Addr} {len cap : Nat} {d : DataW H} {p : List MemPlace} (h : DataW.Trod enc Try.prog w base spare held 52 (.slice A len cap) d p) :
    ∃ l : List S24, len = l.length ∧ Kd.C k24 w A l.length l ∧ l.length ≤ maxLen ∧ (∀ x ∈ l, (Lit.int .i64 x.f0).wf = true ∧ (Lit.int .i64 x.f1).wf = true ∧ (Lit.int .i64 x.f2).wf = true ∧ (Lit.int .i64 x.f3).wf = true) ∧ l.length ≤ cap := by
  obtain ⟨fuel, hf⟩ := h
  rcases open_slice Try.underlying52 hf with ⟨hcs, _⟩ | ⟨a, len', cap', m, n, D, Pl, hcs, _, hl, hm, hmm, _, hi⟩
  · simp [Value.cells] at hcs
    obtain ⟨rfl, rfl, rfl⟩ := hcs
    exact ⟨[], rfl, Kd.C_nil _ _, by simp, by simp, Nat.zero_le _⟩
  · simp [Value.cells] at hcs
    obtain ⟨rfl, rfl, rfl⟩ := hcs
    have hlm : len ≤ m := by rw [hmm]; split <;> omega
    rw [cells24] at hi
    have hx : ∀ i, i < len → ∃ x : S24, (∀ j u, [.int .i64 x.f0, .int .i64 x.f1, .int .i64 x.f2, .int .i64 x.f3][j]? = some u → w.cell? (a.add (i * 4 + j)) = some u) ∧ (Lit.int .i64 x.f0).wf = true ∧ (Lit.int .i64 x.f1).wf = true ∧ (Lit.int .i64 x.f2).wf = true ∧ (Lit.int .i64 x.f3).wf = true := by
      intro i him
      obtain ⟨cs', hc, ht'⟩ := hi i (by omega)
      obtain ⟨ys, n', hn', hy, hlen, hyl, hf'⟩ := DataW.trod_struct Try.underlying24 ht'
      obtain ⟨_, hcl, hat⟩ := World.cells?_some hc
      have hyl' : ys.length = 4 := hyl
      have hcl' : cs'.length = 4 := hcl
      have hv0 : cs'[0]? = some (cs'[0]'(by omega)) := List.getElem?_eq_getElem (by omega)
      have g0 := hf' 0 _ rfl
      have t0 : (cs'.drop 0).take 1 = [cs'[0]'(by omega)] := by rw [List.drop_eq_getElem_cons (by omega)]; rfl
      have hv1 : cs'[1]? = some (cs'[1]'(by omega)) := List.getElem?_eq_getElem (by omega)
      have g1 := hf' 1 _ rfl
      have t1 : (cs'.drop 1).take 1 = [cs'[1]'(by omega)] := by rw [List.drop_eq_getElem_cons (by omega)]; rfl
      have hv2 : cs'[2]? = some (cs'[2]'(by omega)) := List.getElem?_eq_getElem (by omega)
      have g2 := hf' 2 _ rfl
      have t2 : (cs'.drop 2).take 1 = [cs'[2]'(by omega)] := by rw [List.drop_eq_getElem_cons (by omega)]; rfl
      have hv3 : cs'[3]? = some (cs'[3]'(by omega)) := List.getElem?_eq_getElem (by omega)
      have g3 := hf' 3 _ rfl
      have t3 : (cs'.drop 3).take 1 = [cs'[3]'(by omega)] := by rw [List.drop_eq_getElem_cons (by omega)]; rfl
      have g0' : DataW.trod enc Try.prog w base spare held n' 3 [cs'[0]'(by omega)] = ys[0]? := by rw [← t0]; exact g0
      have y0 : ys[0]? = some (ys[0]'(by omega)) := List.getElem?_eq_getElem (by omega)
      obtain ⟨x0, ex0, _, wx0⟩ := DataW.trod_int Try.underlying3 (g0'.trans y0)
      simp at ex0
      have g1' : DataW.trod enc Try.prog w base spare held n' 3 [cs'[1]'(by omega)] = ys[1]? := by rw [← t1]; exact g1
      have y1 : ys[1]? = some (ys[1]'(by omega)) := List.getElem?_eq_getElem (by omega)
      obtain ⟨x1, ex1, _, wx1⟩ := DataW.trod_int Try.underlying3 (g1'.trans y1)
      simp at ex1
      have g2' : DataW.trod enc Try.prog w base spare held n' 3 [cs'[2]'(by omega)] = ys[2]? := by rw [← t2]; exact g2
      have y2 : ys[2]? = some (ys[2]'(by omega)) := List.getElem?_eq_getElem (by omega)
      obtain ⟨x2, ex2, _, wx2⟩ := DataW.trod_int Try.underlying3 (g2'.trans y2)
      simp at ex2
      have g3' : DataW.trod enc Try.prog w base spare held n' 3 [cs'[3]'(by omega)] = ys[3]? := by rw [← t3]; exact g3
      have y3 : ys[3]? = some (ys[3]'(by omega)) := List.getElem?_eq_getElem (by omega)
      obtain ⟨x3, ex3, _, wx3⟩ := DataW.trod_int Try.underlying3 (g3'.trans y3)
      simp at ex3
      refine ⟨⟨x0, x1, x2, x3⟩, ?_, wx0, wx1, wx2, wx3⟩
      intro j u hj
      have hjq : j < 4 := by have := (List.getElem?_eq_some_iff.1 hj).1; simpa using this
      have key : w.cell? (a.add (i * 4 + j)) = cs'[j]? := by rw [← Go.Deep.add_add]; exact hat j (by omega)
      rw [key]
      rcases (by omega : j = 0 ∨ j = 1 ∨ j = 2 ∨ j = 3) with rfl | rfl | rfl | rfl
      · rw [hv0, ex0]; exact hj
      · rw [hv1, ex1]; exact hj
      · rw [hv2, ex2]; exact hj
      · rw [hv3, ex3]; exact hj
    refine ⟨(List.range len).map (fun i => if h : i < len then Classical.choose (hx i h) else z24), by simp, ?_, by simp; omega, ?_, by simpa using hl⟩
    · refine ⟨by simp, by simp; unfold maxLen at hm; omega, fun _ => ⟨a, rfl, fun j x hj => ?_⟩⟩
      have hjl : j < len := by have := (List.getElem?_eq_some_iff.1 hj).1; simpa using this
      simp only [List.getElem?_map, List.getElem?_range hjl, Option.map_some, hjl, dif_pos, Option.some.injEq] at hj
      subst hj
      have hc := (Classical.choose_spec (hx j hjl)).1
      exact ⟨_, rfl, k24_mk w _, hc⟩
    · intro x hxm
      obtain ⟨i, hi', rfl⟩ := List.mem_map.1 hxm
      have hil : i < len := List.mem_range.1 hi'
      simp only [hil, dif_pos]
      exact (Classical.choose_spec (hx i hil)).2
end
set_option maxRecDepth 100000 in
theorem lifted (os : Os) (started : os.Started) (H : Type) (enc : TypeId × Value → H) :
    ReturnsInHanded {} Try.checked os 13 .any (Rows.fnExactPeriodOfChainSpec.pre6 enc Try.prog Try.f13 Rows.fnExactPeriodOfChainRow.domain false) (Rows.fnExactPeriodOfChainSpec.post enc Try.prog Try.f13 false true false false) := by
  refine returnsInHanded_of_change_sized (C := Try.checked) own started (by kernel_rfl) Try.func13
    (ChangeSpec.witness6 (enc := enc) (C := Try.checked) false ⟨#[], #[.slice none 0 0, .int .i64 0], []⟩ 8 (by kernel_rfl) (by kernel_rfl) (by kernel_rfl) (by kernel_rfl)) ?_
  intro W base args ds gs before hval0 hW hcnd hsz0 _
  have hval : ∀ (j : Nat) t v, Try.f13.params[j]? = some t → args[j]? = some v → Value.okWide Try.prog W .any base t v := hval0
  have hW' := hW
  obtain ⟨p, q, hA0, hV, rfl, hfz, hnd⟩ := hW
  have hA : DataW.TrodAll enc Try.prog W 0 (fun _ => true) true Try.f13.params.toList args.toList ds p := hA0
  rw [Try.params13] at hA hval
  obtain ⟨v0, vs0, d0, ds0, p0, q0, hargs, rfl, rfl, h0, r0⟩ := trodAll_cons hA
  obtain ⟨v1, vs1, d1, ds1, p1, q1, rfl, rfl, rfl, h1, r1⟩ := trodAll_cons r0
  obtain ⟨rfl, rfl, rfl⟩ := trodAll_nil r1
  obtain rfl : args = #[v0, v1] := by cases args; simp_all
  obtain ⟨rfl, rfl⟩ := trodVars_none hV
  have k0 := h0
  have lt0 : ∀ x ∈ p0, x.block < W.heap.size := by obtain ⟨m, hm⟩ := k0; exact DataW.trod_lt m _ _ _ hm
  obtain ⟨ad0, len0, cap0, rfl⟩ := okWide_slice Try.underlying52 (hval 0 52 v0 rfl rfl)
  obtain ⟨l0, e0, C0, m0, q0, c0⟩ := rows_24 h0
  subst e0
  have k1 := h1
  have lt1 : ∀ x ∈ p1, x.block < W.heap.size := by obtain ⟨m, hm⟩ := k1; exact DataW.trod_lt m _ _ _ hm
  obtain ⟨a1, rfl, rfl, rfl, w1⟩ := open_int Try.underlying3 (hval 1 3 v1 rfl rfl) h1
  clear hA0 hval0 hsz0
  obtain ⟨k, hk⟩ := Pure.FnExactPeriodOfChain l0 a1 m0 q0 w1
  refine (laws_FnExactPeriodOfChain.calls k _ _ l0 a1 true W C0 c0 hk).mono fun e W' ⟨he, bel⟩ => ?_
  subst he
  exact ⟨_, rfl, _, _, _, [], _, [], hW', trodAll_mk1 (shut_bool Try.underlying4 _), (trodAll_cons_mk (Below.trod laidOut (by kernel_rfl) (of_decide_eq_true (by kernel_rfl)) k0 bel lt0) (trodAll_cons_mk (Below.trod laidOut (by kernel_rfl) (of_decide_eq_true (by kernel_rfl)) k1 bel lt1) trodAll_mk0)), rfl, bel.frame _, fun h => by cases h⟩
theorem over : Rows.fnExactPeriodOfChainRow.holds Try.pinned (OpenSpec.ofChange Rows.fnExactPeriodOfChainSpec) :=
  OpenClaim.holds_of_wide 13 Try.f13 rfl rfl rfl rfl rfl rfl rfl ⟨rfl, rfl, rfl, rfl, rfl⟩ rfl rfl rfl rfl rfl (by kernel_rfl) Try.func13 (by kernel_rfl)
    (of_decide_eq_true (by kernel_rfl)) (by unfold Func.isWrapper; first | (rw [if_pos (by decide +kernel)]; kernel_rfl) | (rw [if_neg (by decide +kernel)]; exact ⟨rfl, rfl⟩))
    (fun os started H enc _ => lifted os started H enc)
end Go.Proofs.Ytbpkfdclplcbaaa.fnExactPeriodOfChain
namespace Go.Proofs.Ytbpkfdclplcbaaa
theorem fnExactPeriodOfChain_holds : Rows.FnExactPeriodOfChainSaid := fnExactPeriodOfChain.over
#print axioms fnExactPeriodOfChain_holds
end Go.Proofs.Ytbpkfdclplcbaaa
