/- What the Go functions of this seat compute, each with the proof that its call computes it; laid by a program of this session (wip/tools/ownprint.py), for all inputs. -/
import Derived.Test.YtbpkfdclplcbaaaPr0
import Derived.Test.YtbpkfdclplcbaaaMp
import Derived.Test.YtbpkfdclplcbaaaPr2
import Derived.Test.YtbpkfdclplcbaaaPr4
namespace Go.Proofs.Ytbpkfdclplcbaaa.Pr
open Go.RowKit Go.Proofs.YtbpkfdclplcbaaaW.PrintWords Go.Proofs.YtbpkfdclplcbaaaW.PrintLast Go.Proofs.YtbpkfdclplcbaaaW.PrintMore
attribute [local go_sem] max2_int min2_int max_two min_two max_three min_three max_four min_four   -- for this text's walks alone
set_option linter.unusedVariables false
set_option linter.unusedSimpArgs false

-- LIFT WANTED impl_steadyOf
/-! ### impl_steadyOf: function 53 -/
mutual
def impl_steadyOf.j0 : Nat → Int → Bool → Int → Int → Int → Int → Option ((List (S37)) × List Int × List Int × Int × Bool)
  | 0, _, _, _, _, _, _ => none
  | k + 1, x1, x21, x230000, x230001, x230002, x230003 => if x21 = true then (some (([] : List (S37)), ([] : List Int), ([] : List Int), 0, false)) else (if (Lit.int .i64 0).wf = true then (if mpGet (⟨0, false⟩ : S37) ([] : List (S37 × Int)) = none then (impl_steadyOf.l0 k x1 x230000 x230001 x230002 x230003 (([(⟨0, false⟩ : S37)] : List (S37))) ([] : List Int) ([] : List Int) (([] : List (S37 × Int)) ++ [((⟨0, false⟩ : S37), 0)]) 0 false) else (none)) else (none))
def impl_steadyOf.l0 : Nat → Int → Int → Int → Int → Int → List (S37) → List Int → List Int → List (S37 × Int) → Int → Bool → Option ((List (S37)) × List Int × List Int × Int × Bool)
  | 0, _, _, _, _, _, _, _, _, _, _, _ => none
  | k + 1, x1, x230000, x230001, x230002, x230003, x237000, x237001, x237002, x238000, x239000, x239001 => (impl_Siphon_tick.f x230000 x230001 x230002 x230003 x239000 x239001 x1).bind fun bt239 => ((some (([(⟨bt239.1, bt239.2.1⟩ : S37)] : List (S37)) : List (S37))).bind fun y244 => (if x237000.length + y244.length < 8796093022208 then ((some (x237000 ++ y244 : List (S37))).bind fun y247 => ((some (([bt239.2.2.1] : List Int) : List Int)).bind fun y250 => (if x237001.length + y250.length < 17592186044416 then ((some (x237001 ++ y250 : List Int)).bind fun y253 => ((some (([bt239.2.2.2] : List Int) : List Int)).bind fun y256 => (if x237002.length + y256.length < 17592186044416 then ((some (x237002 ++ y256 : List Int)).bind fun y259 => (if (Lit.int .i64 bt239.1).wf = true then (if (mpGet (⟨bt239.1, bt239.2.1⟩ : S37) x238000).isSome = true then (some (y247, y253, y259, (mpGet (⟨bt239.1, bt239.2.1⟩ : S37) x238000).getD 0, true)) else (if mpGet (⟨bt239.1, bt239.2.1⟩ : S37) x238000 = none then (impl_steadyOf.l0 k x1 x230000 x230001 x230002 x230003 y247 y253 y259 (x238000 ++ [((⟨bt239.1, bt239.2.1⟩ : S37), wrap64 ((y247.length : Int) - 1))]) bt239.1 bt239.2.1) else (none))) else (none))) else (none)))) else (none)))) else (none)))
end
def impl_steadyOf.f (k : Nat) (a0_0 : Int) (a0_1 : Int) (a0_2 : Int) (a0_3 : Int) (a1 : Int) : Option ((List (S37)) × List Int × List Int × Int × Bool) := (impl_IsSiphon.f a0_0 a0_1 a0_2 a0_3).bind fun t231 => (if t231 = true then ((impl_isInflow.f a1).bind fun t232 => (impl_steadyOf.j0 k a1 (!t232) a0_0 a0_1 a0_2 a0_3)) else (impl_steadyOf.j0 k a1 true a0_0 a0_1 a0_2 a0_3))
open Go.Proofs.YtbpkfdclplcbaaaW.PrintWords.Kd renaming C_alloc → aA, C_drew → bA, C_drewN → cA, N_nil → dA, Q_nil → eA, R_after → fA, R_alloc → gA, R_append_rows_step → hA, R_away → iA, R_base → jA, R_below → kA, R_drew → lA, R_drewN → mA, R_elder' → nA, R_elderB → oA, R_far → pA, R_lit_step → qA, R_lower → rA, R_lt → sA, R_mono → tA, R_ne → uA, R_new' → vA, R_newB → wA, R_nil → xA, R_over' → yA, R_reads' → zA, R_slice → bB, R_typed → cB, R_types → dB, S_nil → eB, V_nil → fB
open Go.Proofs.YtbpkfdclplcbaaaW.PrintWords renaming below_alloc → gB, pw_below_drewN → hB, below_drew1 → iB, below_set → jB, below_size → kB, below_step → lB, blk_drewN → mB, blk_drew → nB, blk_alloc → oB, blk_cell → pB, blk_below → qB
open Go.Proofs.YtbpkfdclplcbaaaW.PrintLast renaming putAll → rB
open List renaming setIfInBounds_toArray → sB, set_cons_zero → tB, set_cons_succ → uB
open Go.Value renaming slice → vB
open Bool renaming true → wB, false → xB
theorem impl_steadyOf.mono_l : ∀ k, (∀ y0 y1 y2 y3 y4 y5, LeO (impl_steadyOf.j0 k y0 y1 y2 y3 y4 y5) (impl_steadyOf.j0 (k + 1) y0 y1 y2 y3 y4 y5)) ∧ (∀ y0 y1 y2 y3 y4 y5 y6 y7 y8 y9 y10, LeO (impl_steadyOf.l0 k y0 y1 y2 y3 y4 y5 y6 y7 y8 y9 y10) (impl_steadyOf.l0 (k + 1) y0 y1 y2 y3 y4 y5 y6 y7 y8 y9 y10))
 | 0 => ⟨fun _ _ _ _ _ _ r h => by simp [impl_steadyOf.j0] at h, fun _ _ _ _ _ _ _ _ _ _ _ r h => by simp [impl_steadyOf.l0] at h⟩
 | k + 1 => by
  obtain ⟨ih0, ih1⟩ := impl_steadyOf.mono_l k
  refine ⟨?_, ?_⟩
  ·
   intro y0 y1 y2 y3 y4 y5
   unfold impl_steadyOf.j0
   repeat' first
   | (with_reducible exact ih0 _ _ _ _ _ _)
   | (with_reducible exact ih1 _ _ _ _ _ _ _ _ _ _ _)
   | (with_reducible exact LeO.refl _)
   | (with_reducible exact LeO.none _)
   | (with_reducible refine LeO.ite ?_ ?_)
   | (with_reducible refine LeO.bind ?_ (fun _ => ?_))
   | exact ih0 _ _ _ _ _ _
   | exact ih1 _ _ _ _ _ _ _ _ _ _ _
   | exact LeO.none _
   | refine LeO.ite ?_ ?_
   | refine LeO.bind ?_ (fun _ => ?_)
  ·
   intro y0 y1 y2 y3 y4 y5 y6 y7 y8 y9 y10
   unfold impl_steadyOf.l0
   repeat' first
   | (with_reducible exact ih0 _ _ _ _ _ _)
   | (with_reducible exact ih1 _ _ _ _ _ _ _ _ _ _ _)
   | (with_reducible exact LeO.refl _)
   | (with_reducible exact LeO.none _)
   | (with_reducible refine LeO.ite ?_ ?_)
   | (with_reducible refine LeO.bind ?_ (fun _ => ?_))
   | exact ih0 _ _ _ _ _ _
   | exact ih1 _ _ _ _ _ _ _ _ _ _ _
   | exact LeO.none _
   | refine LeO.ite ?_ ?_
   | refine LeO.bind ?_ (fun _ => ?_)
theorem impl_steadyOf.mono : ∀ a0 a1 a2 a3 a4 k, LeO (impl_steadyOf.f k a0 a1 a2 a3 a4) (impl_steadyOf.f (k + 1) a0 a1 a2 a3 a4) := by
 intro a0 a1 a2 a3 a4 k
 obtain ⟨ih0, ih1⟩ := impl_steadyOf.mono_l k
 unfold impl_steadyOf.f
 repeat' first
   | (with_reducible exact ih0 _ _ _ _ _ _)
   | (with_reducible exact ih1 _ _ _ _ _ _ _ _ _ _ _)
   | (with_reducible exact LeO.refl _)
   | (with_reducible exact LeO.none _)
   | (with_reducible refine LeO.ite ?_ ?_)
   | (with_reducible refine LeO.bind ?_ (fun _ => ?_))
   | exact ih0 _ _ _ _ _ _
   | exact ih1 _ _ _ _ _ _ _ _ _ _ _
   | exact LeO.none _
   | refine LeO.ite ?_ ?_
   | refine LeO.bind ?_ (fun _ => ?_)
def impl_steadyOf.T7 : Bool × List (List Nat × List Nat) := (true, [([], []), ([0], [0]), ([], []), ([2], [2]), ([1, 3], [1, 3]), ([], []), ([5], [5]), ([], []), ([7], [7]), ([6, 8, 4], [6, 8]), ([], []), ([10], [10]), ([], []), ([12], [12]), ([11, 13, 9], [11, 13]), ([0, 1, 2, 3, 4, 5, 6, 10, 11], []), ([15, 4, 14, 0, 1, 2, 3, 4, 5, 6, 10, 11], [4, 15]), ([0, 1, 2, 3, 4, 5, 6, 7, 8, 9, 10, 11, 15, 16], []), ([17, 9, 16, 0, 1, 2, 3, 4, 5, 6, 7, 8, 9, 10, 11, 15, 16], [9, 17]), ([0, 1, 2, 3, 4, 5, 6, 7, 8, 9, 10, 11, 12, 13, 14, 15, 16, 17, 18], []), ([19, 14, 18, 0, 1, 2, 3, 4, 5, 6, 7, 8, 9, 10, 11, 12, 13, 14, 15, 16, 17, 18], [14, 19])])
def impl_steadyOf.B7 : List Nat := [0, 1, 0, 4, 15, 0, 32, 0, 128, 511, 0, 1024, 0, 4096, 16383, 3199, 65535, 131071, 262143, 524287, 1048575]
theorem impl_steadyOf.tab7 : rtab .any (opsOf Try.f53 7) = impl_steadyOf.T7 := by kernel_rfl
theorem impl_steadyOf.bits7 : waitsOk impl_steadyOf.T7.2 impl_steadyOf.B7 = true := by kernel_rfl
set_option maxHeartbeats 8000000 in
set_option maxRecDepth 100000 in
theorem impl_steadyOf.calls (k : Nat) (a0_0 : Int) (a0_1 : Int) (a0_2 : Int) (a0_3 : Int) (a1 : Int) (r1 : List (S37)) (r2 : List Int) (r3 : List Int) (r4 : Int) (r5 : Bool) (w : World) (h : impl_steadyOf.f k a0_0 a0_1 a0_2 a0_3 a1 = some (r1, r2, r3, r4, r5)) :
  Calls Try.prog 53 #[.agg #[.int .i64 a0_0, .int .i64 a0_1, .int .i64 a0_2, .int .i64 a0_3], .int .i64 a1] w fun e w' => ∃ v0_ v1_ v2_ : Value, e = .returned (.tuple #[.agg #[v0_, v1_, v2_, .int .i64 r4], .bool r5]) ∧ Kd.R k37 37 w' w.heap.size (fun _ => True) v0_ r1 ∧ Kd.R (Kd.int .i64) 3 w' w.heap.size (fun k_ => some k_ ≠ (v2_ : Value).ownBlock) v1_ r2 ∧ Kd.R (Kd.int .i64) 3 w' w.heap.size (fun k_ => some k_ ≠ (v1_ : Value).ownBlock) v2_ r3 ∧ Below w.heap.size w w' := by
 have hu26 := Try.underlying26
 have hu72 := Try.underlying72
 have hu37 := Try.underlying37
 have hu70 := Try.underlying70
 have HB := Aside0.mk (Below.refl w.heap.size w)
 have H : ((impl_IsSiphon.f a0_0 a0_1 a0_2 a0_3).bind fun Kq => (if Kq = true then ((impl_isInflow.f a1).bind fun Yz => (impl_steadyOf.j0 k a1 (!Yz) a0_0 a0_1 a0_2 a0_3)) else (impl_steadyOf.j0 k a1 true a0_0 a0_1 a0_2 a0_3))) = some (r1, r2, r3, r4, r5) := h
 clear h
 have HC3 := Aside0.mk H
 clear H
 go_enter Try.func53, Try.ntmps53
 go_upto_region 1 with (first | ((with_reducible refine gate_dst (N := 2) rfl ?_); refine box_event ?hg (N := 2) ?hd (cs := #[.int .i64 a0_0, .int .i64 a0_1, .int .i64 a0_2, .int .i64 a0_3]) (t := 26) ?hr ?_; (case hd => rfl); (case hg => rfl); (case hr => first | (go_simp; done) | (go_simp; rfl)); intro bx hg w4 hbox hb; have sx := Aside0.mk (lB (by repeat (first | (with_reducible first | exact HB.out | apply gB | apply hB | apply iB) | exact HB.out)) hb); have tx := Aside0.mk (hbox); have vx := Aside0.mk ((by rw [hg]; exact (kB (by repeat (first | (with_reducible first | exact HB.out | apply gB | apply hB | apply iB) | exact HB.out))) : w.heap.size ≤ bx)); have zx := Aside0.mk ((by rw [hg]; exact (kB (by repeat (first | (with_reducible first | exact HB.out | apply gB | apply hB | apply iB) | exact HB.out))) : w.heap.size ≤ bx)); clear HB; have HB := sx; have Kx := tx; have Cj := vx; have cx := zx; clear sx tx vx zx; clear hb hbox hg) | ((with_reducible refine gate_dst (N := 4) rfl ?_); refine box_event ?hg (N := 4) ?hd (cs := #[.slice none 0 0, .slice none 0 0, .slice none 0 0, .int .i64 0]) (t := 72) ?hr ?_; (case hd => rfl); (case hg => rfl); (case hr => first | (go_simp; done) | (go_simp; rfl)); intro Zx hg w5 hbox hb; have sx := Aside0.mk (qB (g := bx) (o := .cells #[.int .i64 a0_0, .int .i64 a0_1, .int .i64 a0_2, .int .i64 a0_3] 26 (0, 0)) (by (with_reducible repeat (first | refine mB ?_ _ | refine nB ?_ | refine oB ?_ _)); exact Kx.out) hb); have tx := Aside0.mk (lB (by repeat (first | (with_reducible first | exact HB.out | apply gB | apply hB | apply iB | refine jB ?_ cx.out) | exact HB.out)) hb); have vx := Aside0.mk (hbox); have zx := Aside0.mk ((by rw [hg]; exact (kB (by repeat (first | (with_reducible first | exact HB.out | apply gB | apply hB | apply iB | refine jB ?_ cx.out) | exact HB.out))) : w.heap.size ≤ Zx)); have Cy := Aside0.mk ((by rw [hg]; exact (kB (by repeat (first | (with_reducible first | exact HB.out | apply gB | apply hB | apply iB | refine jB ?_ cx.out) | exact HB.out))) : w.heap.size ≤ Zx)); have Dy := Aside0.mk ((by rw [hg]; exact Nat.ne_of_lt (blk_lt (g := bx) (o := .cells #[.int .i64 a0_0, .int .i64 a0_1, .int .i64 a0_2, .int .i64 a0_3] 26 (0, 0)) (by (with_reducible repeat (first | refine mB ?_ _ | refine nB ?_ | refine oB ?_ _)); exact Kx.out)) : bx ≠ Zx)); have Ey := Aside0.mk ((by rw [hg]; exact Nat.ne_of_gt (blk_lt (g := bx) (o := .cells #[.int .i64 a0_0, .int .i64 a0_1, .int .i64 a0_2, .int .i64 a0_3] 26 (0, 0)) (by (with_reducible repeat (first | refine mB ?_ _ | refine nB ?_ | refine oB ?_ _)); exact Kx.out)) : Zx ≠ bx)); clear Kx; clear HB; have Kx := sx; have HB := tx; have Mx := vx; have Dj := zx; have dx := Cy; have Pz := Dy; have Qz := Ey; clear sx tx vx zx Cy Dy Ey; clear hb hbox hg))
 (try simp only [Act.put, sB, tB, uB])
 go_cut [21] (fun v21 wc => ∃ (kq : Nat) (Aq : Bool), v21 = .bool Aq ∧ Aside0 (impl_steadyOf.j0 kq a1 Aq a0_0 a0_1 a0_2 a0_3 = some (r1, r2, r3, r4, r5)) ∧ Aside0 (kq ≤ k) ∧ Aside0 (wc.heap[bx]? = some (.cells #[.int .i64 a0_0, .int .i64 a0_1, .int .i64 a0_2, .int .i64 a0_3] 26 (0, 0))) ∧ Aside0 (wc.heap[Zx]? = some (.cells #[(.slice none 0 0), (.slice none 0 0), (.slice none 0 0), .int .i64 0] 72 (0, 0))) ∧ Aside0 (Below w.heap.size w wc))
 case first =>
  have H := HC3.out
  clear HC3
  replace H := Option.bind_eq_some_iff.mp H
  obtain ⟨Kq, A60, H⟩ := H
  replace H : (if Kq = true then ((impl_isInflow.f a1).bind fun Yz => (impl_steadyOf.j0 k a1 (!Yz) a0_0 a0_1 a0_2 a0_3)) else (impl_steadyOf.j0 k a1 true a0_0 a0_1 a0_2 a0_3)) = some (r1, r2, r3, r4, r5) := H
  have A6 := Aside0.mk A60
  clear A60
  by_cases c7 : Kq = true
  ·
   subst c7
   have H1 : ((impl_isInflow.f a1).bind fun Yz => (impl_steadyOf.j0 k a1 (!Yz) a0_0 a0_1 a0_2 a0_3)) = some (r1, r2, r3, r4, r5) := by rw [if_pos rfl] at H; exact H
   clear H
   have H := H1
   clear H1
   replace H := Option.bind_eq_some_iff.mp H
   obtain ⟨Yz, A80, H⟩ := H
   replace H : (impl_steadyOf.j0 k a1 (!Yz) a0_0 a0_1 a0_2 a0_3) = some (r1, r2, r3, r4, r5) := H
   have A8 := Aside0.mk A80
   clear A80
   have H' := Aside0.mk H
   clear H
   have hnb9 := Pz.out
   have hnc9 := Qz.out
   have hcz10_0 : w5.cell? ⟨bx, 0, none⟩ = some (.int .i64 a0_0) := (pB Kx.out 0).trans rfl
   have hcz10_1 : w5.cell? ⟨bx, 1, none⟩ = some (.int .i64 a0_1) := (pB Kx.out 1).trans rfl
   have hcz10_2 : w5.cell? ⟨bx, 2, none⟩ = some (.int .i64 a0_2) := (pB Kx.out 2).trans rfl
   have hcz10_3 : w5.cell? ⟨bx, 3, none⟩ = some (.int .i64 a0_3) := (pB Kx.out 3).trans rfl
   have hfz10_0 := blk_frozen Kx.out 0
   have hfz10_1 := blk_frozen Kx.out 1
   have hfz10_2 := blk_frozen Kx.out 2
   have hfz10_3 := blk_frozen Kx.out 3
   go_wp2_with (first | ((with_reducible refine gate_callee (f := 16) rfl ?_); refine goesL_ (some 15) rfl rfl Try.func16 (by kernel_rfl) rfl #[.agg #[.int .i64 a0_0, .int .i64 a0_1, .int .i64 a0_2, .int .i64 a0_3]] rfl (by (try simp only [List.map_toArray, List.map_cons, List.map_nil]); first | done | rfl | (simp only [List.length_drop, List.length_take]; rfl)) ?_; (with_reducible refine (impl_IsSiphon.calls a0_0 a0_1 a0_2 a0_3 true _ A6.out).mono ?_); rintro e w11 ⟨rfl, hb⟩; refine ⟨_, rfl, ?_⟩; have sx := Aside0.mk (qB (g := bx) (o := .cells #[.int .i64 a0_0, .int .i64 a0_1, .int .i64 a0_2, .int .i64 a0_3] 26 (0, 0)) (by (with_reducible repeat (first | refine mB ?_ _ | refine nB ?_ | refine oB ?_ _)); exact Kx.out) hb); have tx := Aside0.mk (qB (g := Zx) (o := .cells #[.slice none 0 0, .slice none 0 0, .slice none 0 0, .int .i64 0] 72 (0, 0)) (by (with_reducible repeat (first | refine mB ?_ _ | refine nB ?_ | refine oB ?_ _)); exact Mx.out) hb); have vx := Aside0.mk (lB (by repeat (first | (with_reducible first | exact HB.out | apply gB | apply hB | apply iB | refine jB ?_ cx.out | refine jB ?_ dx.out) | exact HB.out)) hb); clear Kx; clear Mx; clear HB; have Kx := sx; have Mx := tx; have HB := vx; clear sx tx vx; (try clear hb); (try clear hb2); (try clear hk); (try clear hi)) | (go_at_call 50; (with_reducible refine (impl_isInflow.calls a1 Yz _ A8.out).mono ?_); rintro e w' ⟨rfl, nd, rfl⟩))
   go_meet
   case rel => exact ⟨_, (!Yz), (by first | rfl | (simp; done) | (simp [*]; done)), H', ⟨by first | omega | exact Nat.le_refl _⟩, ⟨by (with_reducible repeat (first | refine mB ?_ _ | refine nB ?_ | refine oB ?_ _)); exact Kx.out⟩, ⟨by (with_reducible repeat (first | refine mB ?_ _ | refine nB ?_ | refine oB ?_ _)); exact Mx.out⟩, ⟨by repeat (first | (with_reducible first | exact HB.out | apply gB | apply hB | apply iB | refine jB ?_ cx.out | refine jB ?_ dx.out) | exact HB.out)⟩⟩
  ·
   replace c7 := Bool.eq_false_iff.mpr c7
   subst c7
   have H1 : (impl_steadyOf.j0 k a1 true a0_0 a0_1 a0_2 a0_3) = some (r1, r2, r3, r4, r5) := by rw [if_neg (show ¬ (false = true) by decide)] at H; exact H
   clear H
   have H := H1
   clear H1
   have H' := Aside0.mk H
   clear H
   have hnb12 := Pz.out
   have hnc12 := Qz.out
   have hcz13_0 : w5.cell? ⟨bx, 0, none⟩ = some (.int .i64 a0_0) := (pB Kx.out 0).trans rfl
   have hcz13_1 : w5.cell? ⟨bx, 1, none⟩ = some (.int .i64 a0_1) := (pB Kx.out 1).trans rfl
   have hcz13_2 : w5.cell? ⟨bx, 2, none⟩ = some (.int .i64 a0_2) := (pB Kx.out 2).trans rfl
   have hcz13_3 : w5.cell? ⟨bx, 3, none⟩ = some (.int .i64 a0_3) := (pB Kx.out 3).trans rfl
   have hfz13_0 := blk_frozen Kx.out 0
   have hfz13_1 := blk_frozen Kx.out 1
   have hfz13_2 := blk_frozen Kx.out 2
   have hfz13_3 := blk_frozen Kx.out 3
   go_wp2_with (first | ((with_reducible refine gate_callee (f := 16) rfl ?_); refine goesL_ (some 15) rfl rfl Try.func16 (by kernel_rfl) rfl #[.agg #[.int .i64 a0_0, .int .i64 a0_1, .int .i64 a0_2, .int .i64 a0_3]] rfl (by (try simp only [List.map_toArray, List.map_cons, List.map_nil]); first | done | rfl | (simp only [List.length_drop, List.length_take]; rfl)) ?_; (with_reducible refine (impl_IsSiphon.calls a0_0 a0_1 a0_2 a0_3 false _ A6.out).mono ?_); rintro e w14 ⟨rfl, hb⟩; refine ⟨_, rfl, ?_⟩; have sx := Aside0.mk (qB (g := bx) (o := .cells #[.int .i64 a0_0, .int .i64 a0_1, .int .i64 a0_2, .int .i64 a0_3] 26 (0, 0)) (by (with_reducible repeat (first | refine mB ?_ _ | refine nB ?_ | refine oB ?_ _)); exact Kx.out) hb); have tx := Aside0.mk (qB (g := Zx) (o := .cells #[.slice none 0 0, .slice none 0 0, .slice none 0 0, .int .i64 0] 72 (0, 0)) (by (with_reducible repeat (first | refine mB ?_ _ | refine nB ?_ | refine oB ?_ _)); exact Mx.out) hb); have vx := Aside0.mk (lB (by repeat (first | (with_reducible first | exact HB.out | apply gB | apply hB | apply iB | refine jB ?_ cx.out | refine jB ?_ dx.out) | exact HB.out)) hb); clear Kx; clear Mx; clear HB; have Kx := sx; have Mx := tx; have HB := vx; clear sx tx vx; (try clear hb); (try clear hb2); (try clear hk); (try clear hi)))
   go_meet
   case rel => exact ⟨_, (true), (by first | rfl | (simp; done) | (simp [*]; done)), H', ⟨by first | omega | exact Nat.le_refl _⟩, ⟨by (with_reducible repeat (first | refine mB ?_ _ | refine nB ?_ | refine oB ?_ _)); exact Kx.out⟩, ⟨by (with_reducible repeat (first | refine mB ?_ _ | refine nB ?_ | refine oB ?_ _)); exact Mx.out⟩, ⟨by repeat (first | (with_reducible first | exact HB.out | apply gB | apply hB | apply iB | refine jB ?_ cx.out | refine jB ?_ dx.out) | exact HB.out)⟩⟩
 case rest =>
  clear HC3
  try clear c1
  try clear p2
  try clear c5
  try clear c7
  try clear c9
  try clear c12
  try clear hcz10_0
  try clear hcz10_1
  try clear hcz10_2
  try clear hcz10_3
  try clear hcz13_0
  try clear hcz13_1
  try clear hcz13_2
  try clear hcz13_3
  try clear hfz10_0
  try clear hfz10_1
  try clear hfz10_2
  try clear hfz10_3
  try clear hfz13_0
  try clear hfz13_1
  try clear hfz13_2
  try clear hfz13_3
  obtain ⟨kq, Aq, rfl, HA, HJ2, Kx, Mx, HB⟩ := hcut
  cases kq with
  | zero => exact absurd HA.out (by simp [impl_steadyOf.j0])
  | succ kj2 =>
   have H := HA.out
   clear HA
   simp only [impl_steadyOf.j0] at H
   by_cases c15 : Aq = true
   ·
    subst c15
    have H1 : (some (([] : List (S37)), ([] : List Int), ([] : List Int), 0, false)) = some (r1, r2, r3, r4, r5) := by rw [if_pos rfl] at H; exact H
    clear H
    have H := H1
    clear H1
    simp only [Option.some.injEq, Prod.mk.injEq] at H
    obtain ⟨rfl, rfl, rfl, rfl, rfl⟩ := H
    have hnb16 := Qz.out
    have hnc16 := Pz.out
    have hcz17_0 : wc.cell? ⟨Zx, 0, none⟩ = some (.slice none 0 0) := (pB Mx.out 0).trans rfl
    have hcz17_1 : wc.cell? ⟨Zx, 1, none⟩ = some (.slice none 0 0) := (pB Mx.out 1).trans rfl
    have hcz17_2 : wc.cell? ⟨Zx, 2, none⟩ = some (.slice none 0 0) := (pB Mx.out 2).trans rfl
    have hcz17_3 : wc.cell? ⟨Zx, 3, none⟩ = some (.int .i64 0) := (pB Mx.out 3).trans rfl
    have hfz17_0 := blk_frozen Mx.out 0
    have hfz17_1 := blk_frozen Mx.out 1
    have hfz17_2 := blk_frozen Mx.out 2
    have hfz17_3 := blk_frozen Mx.out 3
    go_wp2
    refine bodyPost_ret (results_ct rfl _ _ Zx 72 #[.slice none 0 0, .slice none 0 0, .slice none 0 0, .int .i64 0] (0, 0) _ rfl (by (with_reducible repeat (first | refine mB ?_ _ | refine nB ?_ | refine oB ?_ _)); refine blk_put (cs := #[.slice none 0 0, .slice none 0 0, .slice none 0 0, .int .i64 0]) ?_ 3 _ rfl; (with_reducible repeat (first | refine mB ?_ _ | refine nB ?_ | refine oB ?_ _)); refine blk_put (cs := #[.slice none 0 0, .slice none 0 0, .slice none 0 0, .int .i64 0]) ?_ 2 _ rfl; (with_reducible repeat (first | refine mB ?_ _ | refine nB ?_ | refine oB ?_ _)); refine blk_put (cs := #[.slice none 0 0, .slice none 0 0, .slice none 0 0, .int .i64 0]) ?_ 1 _ rfl; (with_reducible repeat (first | refine mB ?_ _ | refine nB ?_ | refine oB ?_ _)); refine blk_put (cs := #[.slice none 0 0, .slice none 0 0, .slice none 0 0, .int .i64 0]) ?_ 0 _ rfl; (with_reducible repeat (first | refine mB ?_ _ | refine nB ?_ | refine oB ?_ _)); exact Mx.out) Try.underlying72 rfl (by kernel_rfl)) rfl ?_
    exact ⟨_, _, _, by first | rfl | (simp [errW_none, errW_some] <;> rfl) | (simp [*, errW_none, errW_some] <;> rfl), by first | exact xA _ _ _ _ _ | exact dA _ _ _ _ _ | exact fB _ _ _ _ _ | exact eA _ _ _ _ _ | exact eB _ _ _ _ _, by first | exact xA _ _ _ _ _ | exact dA _ _ _ _ _ | exact fB _ _ _ _ _ | exact eA _ _ _ _ _ | exact eB _ _ _ _ _, by first | exact xA _ _ _ _ _ | exact dA _ _ _ _ _ | exact fB _ _ _ _ _ | exact eA _ _ _ _ _ | exact eB _ _ _ _ _, by repeat (first | (with_reducible first | exact HB.out | apply gB | apply hB | apply iB | refine jB ?_ cx.out | refine jB ?_ dx.out) | exact HB.out)⟩
   ·
    replace c15 := Bool.eq_false_iff.mpr c15
    subst c15
    have H1 : (if (Lit.int .i64 0).wf = true then (if mpGet (⟨0, false⟩ : S37) ([] : List (S37 × Int)) = none then (impl_steadyOf.l0 kj2 a1 a0_0 a0_1 a0_2 a0_3 (([(⟨0, false⟩ : S37)] : List (S37))) ([] : List Int) ([] : List Int) (([] : List (S37 × Int)) ++ [((⟨0, false⟩ : S37), 0)]) 0 false) else (none)) else (none)) = some (r1, r2, r3, r4, r5) := by rw [if_neg (show ¬ (false = true) by decide)] at H; exact H
    clear H
    have H := H1
    clear H1
    obtain ⟨Bz, hy233⟩ : ∃ y_ : List (S37), y_ = (([(⟨0, false⟩ : S37)] : List (S37))) := ⟨_, rfl⟩
    replace H : (if (Lit.int .i64 0).wf = true then (if mpGet (⟨0, false⟩ : S37) ([] : List (S37 × Int)) = none then (impl_steadyOf.l0 kj2 a1 a0_0 a0_1 a0_2 a0_3 Bz ([] : List Int) ([] : List Int) (([] : List (S37 × Int)) ++ [((⟨0, false⟩ : S37), 0)]) 0 false) else (none)) else (none)) = some (r1, r2, r3, r4, r5) := by first | (rw [hy233]; with_reducible exact H) | (have H2_ := (Option.bind_some _ _).symm.trans H; rw [hy233]; with_reducible exact H2_) | (have H2_ := (Option.bind_some _ _).symm.trans H; with_reducible exact H2_) | with_reducible exact H | (rw [hy233]; exact H) | exact H
    have dq := Aside0.mk hy233
    clear hy233
    by_cases c18 : (Lit.int .i64 0).wf = true
    ·
     rw [if_pos c18] at H
     have c18b0 := eq_true c18
     have c18b1 : decide ((Lit.int .i64 0).wf = true) = true := decide_eq_true c18
     clear c18
     by_cases c19 : mpGet (⟨0, false⟩ : S37) ([] : List (S37 × Int)) = none
     ·
      rw [if_pos c19] at H
      have c19b0 := eq_true c19
      have c19b1 : decide (mpGet (⟨0, false⟩ : S37) ([] : List (S37 × Int)) = none) = true := decide_eq_true c19
      clear c19
      have H' := Aside0.mk H
      clear H
      go_wp2_with (first | ((with_reducible refine gate_dst (N := 24) rfl ?_); refine Kd.R_lit k37 _ 37 ?hg (N := 24) ?hd (xs := ([(⟨0, false⟩ : S37)] : List (S37))) (inner := [.int .i64 0, .bool xB]) (ok := fun _ => True) (okp := fun _ => True) ?hr ?hp (fun _ hk => hk) trivial (Below.refl _ _) (Nat.le_refl _) (by simp) ?_; (case hd => rfl); (case hg => rfl); (case hr => first | (go_simp; done) | (go_simp; rfl)); (case hp => exact (Reps.c2 (show Kd.M k37 _ _ _ (⟨0, false⟩ : S37) [.int .i64 0, .bool xB] from (k37_mkM _ _ _ (⟨0, false⟩ : S37) )) (Reps.none _ _))); intro Gj w20 ho21 hb hg_ hnew_; clear hg_ hnew_; (first | rw [← dq.out] at ho21 | (simp only [Int.reduceToNat] at ho21; rw [← dq.out] at ho21)); have sx := Aside0.mk (rA ho21 (kB (by repeat (first | (with_reducible first | exact HB.out | apply gB | apply hB | apply iB | refine jB ?_ cx.out | refine jB ?_ dx.out) | exact HB.out)))); have tx := Aside0.mk (qB (g := bx) (o := .cells #[.int .i64 a0_0, .int .i64 a0_1, .int .i64 a0_2, .int .i64 a0_3] 26 (0, 0)) (by (with_reducible repeat (first | refine mB ?_ _ | refine nB ?_ | refine oB ?_ _)); exact Kx.out) hb); have vx := Aside0.mk (qB (g := Zx) (o := .cells #[.slice none 0 0, .slice none 0 0, .slice none 0 0, .int .i64 0] 72 (0, 0)) (by (with_reducible repeat (first | refine mB ?_ _ | refine nB ?_ | refine oB ?_ _)); exact Mx.out) hb); have zx := Aside0.mk (lB (by repeat (first | (with_reducible first | exact HB.out | apply gB | apply hB | apply iB | refine jB ?_ cx.out | refine jB ?_ dx.out) | exact HB.out)) hb); clear Kx; clear Mx; clear HB; have zy := sx; have Kx := tx; have Mx := vx; have HB := zx; clear sx tx vx zx; clear hb ho21; obtain ⟨Hz, Iz, eo22⟩ := bB zy.out; subst eo22) | ((with_reducible refine gate_dst (N := 6) rfl ?_); refine box_event ?hg (N := 6) ?hd (cs := #[.slice none 0 0, .slice none 0 0, .slice none 0 0]) (t := 70) ?hr ?_; (case hd => rfl); (case hg => rfl); (case hr => first | (go_simp; done) | (go_simp; rfl)); intro Gx hg w23 hbox hb; have sx := Aside0.mk (kA (by (with_reducible repeat (first | apply gA | apply mA | apply lA)); exact zy.out) hb); have tx := Aside0.mk (qB (g := bx) (o := .cells #[.int .i64 a0_0, .int .i64 a0_1, .int .i64 a0_2, .int .i64 a0_3] 26 (0, 0)) (by (with_reducible repeat (first | refine mB ?_ _ | refine nB ?_ | refine oB ?_ _)); exact Kx.out) hb); have vx := Aside0.mk (qB (g := Zx) (o := .cells #[.slice none 0 0, .slice none 0 0, .slice none 0 0, .int .i64 0] 72 (0, 0)) (by (with_reducible repeat (first | refine mB ?_ _ | refine nB ?_ | refine oB ?_ _)); exact Mx.out) hb); have zx := Aside0.mk (lB (by repeat (first | (with_reducible first | exact HB.out | apply gB | apply hB | apply iB | refine jB ?_ cx.out | refine jB ?_ dx.out) | exact HB.out)) hb); have Cy := Aside0.mk (hbox); have Dy := Aside0.mk ((by rw [hg]; exact (kB (by repeat (first | (with_reducible first | exact HB.out | apply gB | apply hB | apply iB | refine jB ?_ cx.out | refine jB ?_ dx.out) | exact HB.out))) : w.heap.size ≤ Gx)); have Ey := Aside0.mk ((by rw [hg]; exact (kB (by repeat (first | (with_reducible first | exact HB.out | apply gB | apply hB | apply iB | refine jB ?_ cx.out | refine jB ?_ dx.out) | exact HB.out))) : w.heap.size ≤ Gx)); have Hy := Aside0.mk ((by rw [hg]; exact Nat.ne_of_lt (blk_lt (g := bx) (o := .cells #[.int .i64 a0_0, .int .i64 a0_1, .int .i64 a0_2, .int .i64 a0_3] 26 (0, 0)) (by (with_reducible repeat (first | refine mB ?_ _ | refine nB ?_ | refine oB ?_ _)); exact Kx.out)) : bx ≠ Gx)); have Iy := Aside0.mk ((by rw [hg]; exact Nat.ne_of_gt (blk_lt (g := bx) (o := .cells #[.int .i64 a0_0, .int .i64 a0_1, .int .i64 a0_2, .int .i64 a0_3] 26 (0, 0)) (by (with_reducible repeat (first | refine mB ?_ _ | refine nB ?_ | refine oB ?_ _)); exact Kx.out)) : Gx ≠ bx)); have Jy := Aside0.mk ((by rw [hg]; exact Nat.ne_of_lt (blk_lt (g := Zx) (o := .cells #[.slice none 0 0, .slice none 0 0, .slice none 0 0, .int .i64 0] 72 (0, 0)) (by (with_reducible repeat (first | refine mB ?_ _ | refine nB ?_ | refine oB ?_ _)); exact Mx.out)) : Zx ≠ Gx)); have Ay := Aside0.mk ((by rw [hg]; exact Nat.ne_of_gt (blk_lt (g := Zx) (o := .cells #[.slice none 0 0, .slice none 0 0, .slice none 0 0, .int .i64 0] 72 (0, 0)) (by (with_reducible repeat (first | refine mB ?_ _ | refine nB ?_ | refine oB ?_ _)); exact Mx.out)) : Gx ≠ Zx)); clear zy; clear Kx; clear Mx; clear HB; have zy := sx; have Kx := tx; have Mx := vx; have HB := zx; have Cx := Cy; have Ej := Dy; have ex := Ey; have Oy := Hy; have Lz := Iy; have Fy := Jy; have Jz := Ay; clear sx tx vx zx Cy Dy Ey Hy Iy Jy Ay; clear hb hbox hg; have hnb24 := Lz.out; have hnc24 := Oy.out; have hnb25 := Jz.out; have hnc25 := Fy.out; have hcz26_0 : w23.cell? ⟨Gx, 0, none⟩ = some (.slice none 0 0) := (pB Cx.out 0).trans rfl; have hcz26_1 : w23.cell? ⟨Gx, 1, none⟩ = some (.slice none 0 0) := (pB Cx.out 1).trans rfl; have hcz26_2 : w23.cell? ⟨Gx, 2, none⟩ = some (.slice none 0 0) := (pB Cx.out 2).trans rfl; have hfz26_0 := blk_frozen Cx.out 0; have hfz26_1 := blk_frozen Cx.out 1; have hfz26_2 := blk_frozen Cx.out 2) | ((with_reducible refine gate_dst (N := 26) rfl ?_); refine mp_event ?hg (N := 26) ?hd ?ho ?_; (case hd => rfl); (case hg => rfl); (case ho => rfl); intro kx hg w27 hbox hb; have sx := Aside0.mk (kA (by (with_reducible repeat (first | apply gA | apply mA | apply lA)); exact (tA (pA (p := ⟨Gx, 2, none⟩) (pA (p := ⟨Gx, 1, none⟩) (pA (p := ⟨Gx, 0, none⟩) (dB zy.out Cx.out (by decide)) (fun _ hk => hk.2) (.slice Hz Bz.length Iz)) (fun _ hk => hk.2) (.slice none 0 0)) (fun _ hk => hk.2) (.slice none 0 0)) (fun _ h_ => h_.1))) hb); have tx := Aside0.mk (qB (g := bx) (o := .cells #[.int .i64 a0_0, .int .i64 a0_1, .int .i64 a0_2, .int .i64 a0_3] 26 (0, 0)) (by (with_reducible repeat (first | refine mB ?_ _ | refine nB ?_ | refine oB ?_ _)); refine blk_far ?_ Oy.out _; (with_reducible repeat (first | refine mB ?_ _ | refine nB ?_ | refine oB ?_ _)); refine blk_far ?_ Oy.out _; (with_reducible repeat (first | refine mB ?_ _ | refine nB ?_ | refine oB ?_ _)); refine blk_far ?_ Oy.out _; (with_reducible repeat (first | refine mB ?_ _ | refine nB ?_ | refine oB ?_ _)); exact Kx.out) hb); have vx := Aside0.mk (qB (g := Zx) (o := .cells #[.slice none 0 0, .slice none 0 0, .slice none 0 0, .int .i64 0] 72 (0, 0)) (by (with_reducible repeat (first | refine mB ?_ _ | refine nB ?_ | refine oB ?_ _)); refine blk_far ?_ Fy.out _; (with_reducible repeat (first | refine mB ?_ _ | refine nB ?_ | refine oB ?_ _)); refine blk_far ?_ Fy.out _; (with_reducible repeat (first | refine mB ?_ _ | refine nB ?_ | refine oB ?_ _)); refine blk_far ?_ Fy.out _; (with_reducible repeat (first | refine mB ?_ _ | refine nB ?_ | refine oB ?_ _)); exact Mx.out) hb); have zx := Aside0.mk (qB (g := Gx) (o := .cells #[.slice Hz Bz.length Iz, .slice none 0 0, .slice none 0 0] 70 (0, 0)) (by (with_reducible repeat (first | refine mB ?_ _ | refine nB ?_ | refine oB ?_ _)); refine blk_put (cs := #[.slice Hz Bz.length Iz, .slice none 0 0, .slice none 0 0]) ?_ 2 _ rfl; (with_reducible repeat (first | refine mB ?_ _ | refine nB ?_ | refine oB ?_ _)); refine blk_put (cs := #[.slice Hz Bz.length Iz, .slice none 0 0, .slice none 0 0]) ?_ 1 _ rfl; (with_reducible repeat (first | refine mB ?_ _ | refine nB ?_ | refine oB ?_ _)); refine blk_put (cs := #[.slice none 0 0, .slice none 0 0, .slice none 0 0]) ?_ 0 _ rfl; (with_reducible repeat (first | refine mB ?_ _ | refine nB ?_ | refine oB ?_ _)); exact Cx.out) hb); have Cy := Aside0.mk (lB (by repeat (first | (with_reducible first | exact HB.out | apply gB | apply hB | apply iB | refine jB ?_ cx.out | refine jB ?_ dx.out | refine jB ?_ ex.out) | exact HB.out)) hb); have Dy := Aside0.mk (hbox); have Ey := Aside0.mk ((by rw [hg]; exact (kB (by repeat (first | (with_reducible first | exact HB.out | apply gB | apply hB | apply iB | refine jB ?_ cx.out | refine jB ?_ dx.out | refine jB ?_ ex.out) | exact HB.out))) : w.heap.size ≤ kx)); have Hy := Aside0.mk ((by rw [hg]; exact (kB (by repeat (first | (with_reducible first | exact HB.out | apply gB | apply hB | apply iB | refine jB ?_ cx.out | refine jB ?_ dx.out | refine jB ?_ ex.out) | exact HB.out))) : w.heap.size ≤ kx)); have Iy := Aside0.mk ((by rw [hg]; exact Nat.ne_of_lt (blk_lt (g := bx) (o := .cells #[.int .i64 a0_0, .int .i64 a0_1, .int .i64 a0_2, .int .i64 a0_3] 26 (0, 0)) (by (with_reducible repeat (first | refine mB ?_ _ | refine nB ?_ | refine oB ?_ _)); refine blk_far ?_ Oy.out _; (with_reducible repeat (first | refine mB ?_ _ | refine nB ?_ | refine oB ?_ _)); refine blk_far ?_ Oy.out _; (with_reducible repeat (first | refine mB ?_ _ | refine nB ?_ | refine oB ?_ _)); refine blk_far ?_ Oy.out _; (with_reducible repeat (first | refine mB ?_ _ | refine nB ?_ | refine oB ?_ _)); exact Kx.out)) : bx ≠ kx)); have Jy := Aside0.mk ((by rw [hg]; exact Nat.ne_of_gt (blk_lt (g := bx) (o := .cells #[.int .i64 a0_0, .int .i64 a0_1, .int .i64 a0_2, .int .i64 a0_3] 26 (0, 0)) (by (with_reducible repeat (first | refine mB ?_ _ | refine nB ?_ | refine oB ?_ _)); refine blk_far ?_ Oy.out _; (with_reducible repeat (first | refine mB ?_ _ | refine nB ?_ | refine oB ?_ _)); refine blk_far ?_ Oy.out _; (with_reducible repeat (first | refine mB ?_ _ | refine nB ?_ | refine oB ?_ _)); refine blk_far ?_ Oy.out _; (with_reducible repeat (first | refine mB ?_ _ | refine nB ?_ | refine oB ?_ _)); exact Kx.out)) : kx ≠ bx)); have Ay := Aside0.mk ((by rw [hg]; exact Nat.ne_of_lt (blk_lt (g := Zx) (o := .cells #[.slice none 0 0, .slice none 0 0, .slice none 0 0, .int .i64 0] 72 (0, 0)) (by (with_reducible repeat (first | refine mB ?_ _ | refine nB ?_ | refine oB ?_ _)); refine blk_far ?_ Fy.out _; (with_reducible repeat (first | refine mB ?_ _ | refine nB ?_ | refine oB ?_ _)); refine blk_far ?_ Fy.out _; (with_reducible repeat (first | refine mB ?_ _ | refine nB ?_ | refine oB ?_ _)); refine blk_far ?_ Fy.out _; (with_reducible repeat (first | refine mB ?_ _ | refine nB ?_ | refine oB ?_ _)); exact Mx.out)) : Zx ≠ kx)); have Ny := Aside0.mk ((by rw [hg]; exact Nat.ne_of_gt (blk_lt (g := Zx) (o := .cells #[.slice none 0 0, .slice none 0 0, .slice none 0 0, .int .i64 0] 72 (0, 0)) (by (with_reducible repeat (first | refine mB ?_ _ | refine nB ?_ | refine oB ?_ _)); refine blk_far ?_ Fy.out _; (with_reducible repeat (first | refine mB ?_ _ | refine nB ?_ | refine oB ?_ _)); refine blk_far ?_ Fy.out _; (with_reducible repeat (first | refine mB ?_ _ | refine nB ?_ | refine oB ?_ _)); refine blk_far ?_ Fy.out _; (with_reducible repeat (first | refine mB ?_ _ | refine nB ?_ | refine oB ?_ _)); exact Mx.out)) : kx ≠ Zx)); have vy := Aside0.mk ((by rw [hg]; exact Nat.ne_of_lt (blk_lt (g := Gx) (o := .cells #[.slice Hz Bz.length Iz, .slice none 0 0, .slice none 0 0] 70 (0, 0)) (by (with_reducible repeat (first | refine mB ?_ _ | refine nB ?_ | refine oB ?_ _)); refine blk_put (cs := #[.slice Hz Bz.length Iz, .slice none 0 0, .slice none 0 0]) ?_ 2 _ rfl; (with_reducible repeat (first | refine mB ?_ _ | refine nB ?_ | refine oB ?_ _)); refine blk_put (cs := #[.slice Hz Bz.length Iz, .slice none 0 0, .slice none 0 0]) ?_ 1 _ rfl; (with_reducible repeat (first | refine mB ?_ _ | refine nB ?_ | refine oB ?_ _)); refine blk_put (cs := #[.slice none 0 0, .slice none 0 0, .slice none 0 0]) ?_ 0 _ rfl; (with_reducible repeat (first | refine mB ?_ _ | refine nB ?_ | refine oB ?_ _)); exact Cx.out)) : Gx ≠ kx)); have Oz := Aside0.mk ((by rw [hg]; exact Nat.ne_of_gt (blk_lt (g := Gx) (o := .cells #[.slice Hz Bz.length Iz, .slice none 0 0, .slice none 0 0] 70 (0, 0)) (by (with_reducible repeat (first | refine mB ?_ _ | refine nB ?_ | refine oB ?_ _)); refine blk_put (cs := #[.slice Hz Bz.length Iz, .slice none 0 0, .slice none 0 0]) ?_ 2 _ rfl; (with_reducible repeat (first | refine mB ?_ _ | refine nB ?_ | refine oB ?_ _)); refine blk_put (cs := #[.slice Hz Bz.length Iz, .slice none 0 0, .slice none 0 0]) ?_ 1 _ rfl; (with_reducible repeat (first | refine mB ?_ _ | refine nB ?_ | refine oB ?_ _)); refine blk_put (cs := #[.slice none 0 0, .slice none 0 0, .slice none 0 0]) ?_ 0 _ rfl; (with_reducible repeat (first | refine mB ?_ _ | refine nB ?_ | refine oB ?_ _)); exact Cx.out)) : kx ≠ Gx)); clear zy; clear Kx; clear Mx; clear Cx; clear HB; have zy := sx; have Kx := tx; have Mx := vx; have Cx := zx; have HB := Cy; have Rx := Dy; have fq := Ey; have fx := Hy; have cz := Iy; have Pq := Jy; have dz := Ay; have Qq := Ny; have Cz := vy; have qx := Oz; clear sx tx vx zx Cy Dy Ey Hy Iy Jy Ay Ny vy Oz; clear hb hbox hg) | (refine mp_put_event ?hg ?hN (mo := ?mo_w28) (xo := ?xo_w28) (vo := ?vo_w28) ?ho (g := kx) (m := ([] : List (S37 × Int))) (⟨0, false⟩ : S37) 0 ?hm ?hx ?hv ?hb ?hw ?hget ?_; (case ho => first | (apply Or.inl; rfl) | (apply Or.inr; rfl)); (case hg => rfl); (case hN => rfl); (case hm => first | rfl | (go_simp; done)); (case hx => first | rfl | (go_simp; done)); (case hv => first | rfl | (go_simp; done)); (case hb => exact by (with_reducible repeat (first | refine mB ?_ _ | refine nB ?_ | refine oB ?_ _)); exact Rx.out); (case hw => exact of_decide_eq_true (by first | (with_reducible assumption) | assumption)); (case hget => exact of_decide_eq_true (by first | (with_reducible assumption) | assumption)); intro w28 hbox hg; have sx := Aside0.mk (blk_grown (g := bx) (o := .cells #[.int .i64 a0_0, .int .i64 a0_1, .int .i64 a0_2, .int .i64 a0_3] 26 (0, 0)) (by (with_reducible repeat (first | refine mB ?_ _ | refine nB ?_ | refine oB ?_ _)); exact Kx.out) hg (fun e_ => cz.out (Option.some.inj e_))); have tx := Aside0.mk (blk_grown (g := Zx) (o := .cells #[.slice none 0 0, .slice none 0 0, .slice none 0 0, .int .i64 0] 72 (0, 0)) (by (with_reducible repeat (first | refine mB ?_ _ | refine nB ?_ | refine oB ?_ _)); exact Mx.out) hg (fun e_ => dz.out (Option.some.inj e_))); have vx := Aside0.mk (R_mapgrown (by (with_reducible repeat (first | apply gA | apply mA | apply lA)); exact zy.out) (by (with_reducible repeat (first | refine mB ?_ _ | refine nB ?_ | refine oB ?_ _)); exact Rx.out) hg); have zx := Aside0.mk (blk_grown (g := Gx) (o := .cells #[.slice Hz Bz.length Iz, .slice none 0 0, .slice none 0 0] 70 (0, 0)) (by (with_reducible repeat (first | refine mB ?_ _ | refine nB ?_ | refine oB ?_ _)); exact Cx.out) hg (fun e_ => Cz.out (Option.some.inj e_))); have Cy := Aside0.mk (hbox); have Dy := Aside0.mk (Below.grown (by repeat (first | (with_reducible first | exact HB.out | apply gB | apply hB | apply iB | refine jB ?_ cx.out | refine jB ?_ dx.out | refine jB ?_ ex.out | refine jB ?_ fx.out) | exact HB.out)) hg ((kB (by repeat (first | (with_reducible first | exact HB.out | apply gB | apply hB | apply iB | refine jB ?_ cx.out | refine jB ?_ dx.out | refine jB ?_ ex.out | refine jB ?_ fx.out) | exact HB.out)))) (fun k_ e_ => (Option.some.inj e_) ▸ fq.out)); clear Kx; clear Mx; clear zy; clear Cx; clear Rx; clear HB; have Kx := sx; have Mx := tx; have zy := vx; have Cx := zx; have Rx := Cy; have HB := Dy; clear sx tx vx zx Cy Dy; clear hbox hg) | ((with_reducible refine gate_dst (N := 8) rfl ?_); refine box_event ?hg (N := 8) ?hd (cs := #[.int .i64 0, .bool xB]) (t := 37) ?hr ?_; (case hd => rfl); (case hg => rfl); (case hr => first | (go_simp; done) | (go_simp; rfl)); intro Nx hg w29 hbox hb; have sx := Aside0.mk (kA (oA (by (with_reducible repeat (first | apply gA | apply mA | apply lA)); exact zy.out) Nx (Nat.le_of_eq hg.symm)) hb); have tx := Aside0.mk (qB (g := bx) (o := .cells #[.int .i64 a0_0, .int .i64 a0_1, .int .i64 a0_2, .int .i64 a0_3] 26 (0, 0)) (by (with_reducible repeat (first | refine mB ?_ _ | refine nB ?_ | refine oB ?_ _)); exact Kx.out) hb); have vx := Aside0.mk (qB (g := Zx) (o := .cells #[.slice none 0 0, .slice none 0 0, .slice none 0 0, .int .i64 0] 72 (0, 0)) (by (with_reducible repeat (first | refine mB ?_ _ | refine nB ?_ | refine oB ?_ _)); exact Mx.out) hb); have zx := Aside0.mk (qB (g := Gx) (o := .cells #[.slice Hz Bz.length Iz, .slice none 0 0, .slice none 0 0] 70 (0, 0)) (by (with_reducible repeat (first | refine mB ?_ _ | refine nB ?_ | refine oB ?_ _)); exact Cx.out) hb); have Cy := Aside0.mk (qB (g := kx) (o := mpObj (([] : List (S37 × Int)) ++ [((⟨0, false⟩ : S37), 0)])) (by (with_reducible repeat (first | refine mB ?_ _ | refine nB ?_ | refine oB ?_ _)); exact Rx.out) hb); have Dy := Aside0.mk (lB (by repeat (first | (with_reducible first | exact HB.out | apply gB | apply hB | apply iB | refine jB ?_ cx.out | refine jB ?_ dx.out | refine jB ?_ ex.out | refine jB ?_ fx.out) | exact HB.out)) hb); have Ey := Aside0.mk (hbox); have Hy := Aside0.mk ((by rw [hg]; exact (kB (by repeat (first | (with_reducible first | exact HB.out | apply gB | apply hB | apply iB | refine jB ?_ cx.out | refine jB ?_ dx.out | refine jB ?_ ex.out | refine jB ?_ fx.out) | exact HB.out))) : w.heap.size ≤ Nx)); have Iy := Aside0.mk ((by rw [hg]; exact (kB (by repeat (first | (with_reducible first | exact HB.out | apply gB | apply hB | apply iB | refine jB ?_ cx.out | refine jB ?_ dx.out | refine jB ?_ ex.out | refine jB ?_ fx.out) | exact HB.out))) : w.heap.size ≤ Nx)); have Jy := Aside0.mk ((by rw [hg]; exact Nat.ne_of_lt (blk_lt (g := bx) (o := .cells #[.int .i64 a0_0, .int .i64 a0_1, .int .i64 a0_2, .int .i64 a0_3] 26 (0, 0)) (by (with_reducible repeat (first | refine mB ?_ _ | refine nB ?_ | refine oB ?_ _)); exact Kx.out)) : bx ≠ Nx)); have Ay := Aside0.mk ((by rw [hg]; exact Nat.ne_of_gt (blk_lt (g := bx) (o := .cells #[.int .i64 a0_0, .int .i64 a0_1, .int .i64 a0_2, .int .i64 a0_3] 26 (0, 0)) (by (with_reducible repeat (first | refine mB ?_ _ | refine nB ?_ | refine oB ?_ _)); exact Kx.out)) : Nx ≠ bx)); have Ny := Aside0.mk ((by rw [hg]; exact Nat.ne_of_lt (blk_lt (g := Zx) (o := .cells #[.slice none 0 0, .slice none 0 0, .slice none 0 0, .int .i64 0] 72 (0, 0)) (by (with_reducible repeat (first | refine mB ?_ _ | refine nB ?_ | refine oB ?_ _)); exact Mx.out)) : Zx ≠ Nx)); have vy := Aside0.mk ((by rw [hg]; exact Nat.ne_of_gt (blk_lt (g := Zx) (o := .cells #[.slice none 0 0, .slice none 0 0, .slice none 0 0, .int .i64 0] 72 (0, 0)) (by (with_reducible repeat (first | refine mB ?_ _ | refine nB ?_ | refine oB ?_ _)); exact Mx.out)) : Nx ≠ Zx)); have Oz := Aside0.mk ((by rw [hg]; exact Nat.ne_of_lt (blk_lt (g := Gx) (o := .cells #[.slice Hz Bz.length Iz, .slice none 0 0, .slice none 0 0] 70 (0, 0)) (by (with_reducible repeat (first | refine mB ?_ _ | refine nB ?_ | refine oB ?_ _)); exact Cx.out)) : Gx ≠ Nx)); have ez := Aside0.mk ((by rw [hg]; exact Nat.ne_of_gt (blk_lt (g := Gx) (o := .cells #[.slice Hz Bz.length Iz, .slice none 0 0, .slice none 0 0] 70 (0, 0)) (by (with_reducible repeat (first | refine mB ?_ _ | refine nB ?_ | refine oB ?_ _)); exact Cx.out)) : Nx ≠ Gx)); have fz := Aside0.mk ((by rw [hg]; exact Nat.ne_of_lt (blk_lt (g := kx) (o := mpObj (([] : List (S37 × Int)) ++ [((⟨0, false⟩ : S37), 0)])) (by (with_reducible repeat (first | refine mB ?_ _ | refine nB ?_ | refine oB ?_ _)); exact Rx.out)) : kx ≠ Nx)); have gz := Aside0.mk ((by rw [hg]; exact Nat.ne_of_gt (blk_lt (g := kx) (o := mpObj (([] : List (S37 × Int)) ++ [((⟨0, false⟩ : S37), 0)])) (by (with_reducible repeat (first | refine mB ?_ _ | refine nB ?_ | refine oB ?_ _)); exact Rx.out)) : Nx ≠ kx)); clear zy; clear Kx; clear Mx; clear Cx; clear Rx; clear HB; have zy := sx; have Kx := tx; have Mx := vx; have Cx := zx; have Rx := Cy; have HB := Dy; have Qx := Ey; have gq := Hy; have jx := Iy; have Xy := Jy; have Rz := Ay; have Yy := Ny; have Sz := vy; have Sy := Oz; have ty := ez; have Zy := fz; have Mz := gz; clear sx tx vx zx Cy Dy Ey Hy Iy Jy Ay Ny vy Oz ez fz gz; clear hb hbox hg; have hnb30 := Rz.out; have hnc30 := Xy.out; have hnb31 := Sz.out; have hnc31 := Yy.out; have hnb32 := ty.out; have hnc32 := Sy.out; have hnb33 := Mz.out; have hnc33 := Zy.out; have hcz34_0 : w29.cell? ⟨Nx, 0, none⟩ = some (.int .i64 0) := (pB Qx.out 0).trans rfl; have hcz34_1 : w29.cell? ⟨Nx, 1, none⟩ = some (.bool false) := (pB Qx.out 1).trans rfl; have hfz34_0 := blk_frozen Qx.out 0; have hfz34_1 := blk_frozen Qx.out 1))
      go_loopg [8] kj2 (fun kq v8 w' => ∃ (Yx : Int) (Dx : List (S37)) (Bx : List Int) (Ax : List Int) (Lx : List (S37 × Int)) (Vx : Int) (Sx : Bool) (u237000 : Value) (u237001 : Value) (u237002 : Value) (Nx : Nat), v8 = .pointer (some ⟨Nx, 0, none⟩) ∧ Aside0 (w.heap.size ≤ Nx) ∧ Aside0 (w.heap.size ≤ Nx) ∧ Aside0 (Nx ≠ bx) ∧ Aside0 (bx ≠ Nx) ∧ Aside0 (Nx ≠ Zx) ∧ Aside0 (Zx ≠ Nx) ∧ Aside0 (Nx ≠ Gx) ∧ Aside0 (Gx ≠ Nx) ∧ Aside0 (Nx ≠ kx) ∧ Aside0 (kx ≠ Nx) ∧ Aside0 (impl_steadyOf.l0 kq a1 a0_0 a0_1 a0_2 a0_3 Dx Bx Ax Lx Vx Sx = some (r1, r2, r3, r4, r5)) ∧ Aside0 (kq ≤ kj2) ∧ Aside0 (Kd.R k37 37 w' w.heap.size (fun k_ => k_ ≠ Nx) u237000 Dx) ∧ Aside0 (Kd.R (Kd.int .i64) 3 w' w.heap.size (fun k_ => some k_ ≠ (u237002 : Value).ownBlock) u237001 Bx) ∧ Aside0 (Kd.R (Kd.int .i64) 3 w' w.heap.size (fun k_ => some k_ ≠ (u237001 : Value).ownBlock) u237002 Ax) ∧ Aside0 (w'.heap[bx]? = some (.cells #[.int .i64 a0_0, .int .i64 a0_1, .int .i64 a0_2, .int .i64 a0_3] 26 (0, 0))) ∧ Aside0 (w'.heap[Zx]? = some (.cells #[(.slice none 0 0), (.slice none 0 0), (.slice none 0 0), .int .i64 Yx] 72 (0, 0))) ∧ Aside0 (w'.heap[Gx]? = some (.cells #[u237000, u237001, u237002] 70 (0, 0))) ∧ Aside0 (w'.heap[kx]? = some (mpObj Lx)) ∧ Aside0 (w'.heap[Nx]? = some (.cells #[.int .i64 Vx, .bool Sx] 37 (0, 0))) ∧ Aside0 (Below w.heap.size w w'))
      case atStart => exact ⟨(0), (Bz), (([] : List Int)), (([] : List Int)), (([] : List (S37 × Int)) ++ [((⟨0, false⟩ : S37), 0)]), (0), (false), (.slice Hz Bz.length Iz), (.slice none 0 0), (.slice none 0 0), (Nx), (by first | rfl | (simp; done)), ⟨gq.out⟩, ⟨jx.out⟩, ⟨Rz.out⟩, ⟨Xy.out⟩, ⟨Sz.out⟩, ⟨Yy.out⟩, ⟨ty.out⟩, ⟨Sy.out⟩, ⟨Mz.out⟩, ⟨Zy.out⟩, H', ⟨Nat.le_refl _⟩, ⟨by (with_reducible repeat (first | apply gA | apply mA | apply lA)); exact tA (pA (p := ⟨Nx, 1, none⟩) (pA (p := ⟨Nx, 0, none⟩) (tA zy.out (fun k_ hk => (⟨hk, hk.2⟩ : _ ∧ k_ ≠ Nx))) (fun _ hk => hk.2) (.int .i64 0)) (fun _ hk => hk.2) (.bool false)) (fun _ hk => hk.1.2)⟩, ⟨by first | exact xA _ _ _ _ _ | exact dA _ _ _ _ _ | exact fB _ _ _ _ _ | exact eA _ _ _ _ _ | exact eB _ _ _ _ _⟩, ⟨by first | exact xA _ _ _ _ _ | exact dA _ _ _ _ _ | exact fB _ _ _ _ _ | exact eA _ _ _ _ _ | exact eB _ _ _ _ _⟩, ⟨by (with_reducible repeat (first | refine mB ?_ _ | refine nB ?_ | refine oB ?_ _)); refine blk_far ?_ Xy.out _; (with_reducible repeat (first | refine mB ?_ _ | refine nB ?_ | refine oB ?_ _)); refine blk_far ?_ Xy.out _; (with_reducible repeat (first | refine mB ?_ _ | refine nB ?_ | refine oB ?_ _)); exact Kx.out⟩, ⟨by (with_reducible repeat (first | refine mB ?_ _ | refine nB ?_ | refine oB ?_ _)); refine blk_far ?_ Yy.out _; (with_reducible repeat (first | refine mB ?_ _ | refine nB ?_ | refine oB ?_ _)); refine blk_far ?_ Yy.out _; (with_reducible repeat (first | refine mB ?_ _ | refine nB ?_ | refine oB ?_ _)); exact Mx.out⟩, ⟨by (with_reducible repeat (first | refine mB ?_ _ | refine nB ?_ | refine oB ?_ _)); refine blk_far ?_ Sy.out _; (with_reducible repeat (first | refine mB ?_ _ | refine nB ?_ | refine oB ?_ _)); refine blk_far ?_ Sy.out _; (with_reducible repeat (first | refine mB ?_ _ | refine nB ?_ | refine oB ?_ _)); exact Cx.out⟩, ⟨by (with_reducible repeat (first | refine mB ?_ _ | refine nB ?_ | refine oB ?_ _)); refine blk_far ?_ Zy.out _; (with_reducible repeat (first | refine mB ?_ _ | refine nB ?_ | refine oB ?_ _)); refine blk_far ?_ Zy.out _; (with_reducible repeat (first | refine mB ?_ _ | refine nB ?_ | refine oB ?_ _)); exact Rx.out⟩, ⟨by (with_reducible repeat (first | refine mB ?_ _ | refine nB ?_ | refine oB ?_ _)); refine blk_put (cs := #[.int .i64 0, .bool xB]) ?_ 1 _ rfl; (with_reducible repeat (first | refine mB ?_ _ | refine nB ?_ | refine oB ?_ _)); refine blk_put (cs := #[.int .i64 0, .bool xB]) ?_ 0 _ rfl; (with_reducible repeat (first | refine mB ?_ _ | refine nB ?_ | refine oB ?_ _)); exact Qx.out⟩, ⟨by repeat (first | (with_reducible first | exact HB.out | apply gB | apply hB | apply iB | refine jB ?_ cx.out | refine jB ?_ dx.out | refine jB ?_ ex.out | refine jB ?_ fx.out | refine jB ?_ jx.out) | exact HB.out)⟩⟩
      case round =>
       clear H'
       try clear c1
       try clear c2
       try clear p2
       try clear c3
       try clear c5
       try clear c7
       try clear c9
       try clear c12
       try clear c15
       try clear c16
       try clear c18
       try clear c18b0
       try clear c18b1
       try clear c19
       try clear c19b0
       try clear c19b1
       try clear c24
       try clear c25
       try clear c30
       try clear c31
       try clear c32
       try clear c33
       try clear hcz10_0
       try clear hcz10_1
       try clear hcz10_2
       try clear hcz10_3
       try clear hcz13_0
       try clear hcz13_1
       try clear hcz13_2
       try clear hcz13_3
       try clear hcz17_0
       try clear hcz17_1
       try clear hcz17_2
       try clear hcz17_3
       try clear hcz26_0
       try clear hcz26_1
       try clear hcz26_2
       try clear hcz34_0
       try clear hcz34_1
       try clear hfz10_0
       try clear hfz10_1
       try clear hfz10_2
       try clear hfz10_3
       try clear hfz13_0
       try clear hfz13_1
       try clear hfz13_2
       try clear hfz13_3
       try clear hfz17_0
       try clear hfz17_1
       try clear hfz17_2
       try clear hfz17_3
       try clear hfz26_0
       try clear hfz26_1
       try clear hfz26_2
       try clear hfz34_0
       try clear hfz34_1
       try clear p2
       obtain ⟨Yx, Dx, Bx, Ax, Lx, Vx, Sx, u237000, u237001, u237002, Nx, rfl, gq, jx, Rz, Xy, Sz, Yy, ty, Sy, Mz, Zy, HA, HK2, Ix, Fx, Ex, Kx, Mx, Cx, Rx, Qx, HB⟩ := hrel
       cases gk with
       | zero => exact absurd HA.out (by simp [impl_steadyOf.l0])
       | succ k2 =>
        have H := HA.out
        clear HA
        simp only [impl_steadyOf.l0] at H
        replace H := Option.bind_eq_some_iff.mp H
        obtain ⟨⟨Ox, Px, Wy, Ty⟩, A350, H⟩ := H
        replace H : ((some (([(⟨Ox, Px⟩ : S37)] : List (S37)) : List (S37))).bind fun My => (if Dx.length + My.length < 8796093022208 then ((some (Dx ++ My : List (S37))).bind fun rx => ((some (([Wy] : List Int) : List Int)).bind fun Py => (if Bx.length + Py.length < 17592186044416 then ((some (Bx ++ Py : List Int)).bind fun Gy => ((some (([Ty] : List Int) : List Int)).bind fun Ry => (if Ax.length + Ry.length < 17592186044416 then ((some (Ax ++ Ry : List Int)).bind fun Ky => (if (Lit.int .i64 Ox).wf = true then (if (mpGet (⟨Ox, Px⟩ : S37) Lx).isSome = true then (some (rx, Gy, Ky, (mpGet (⟨Ox, Px⟩ : S37) Lx).getD 0, true)) else (if mpGet (⟨Ox, Px⟩ : S37) Lx = none then (impl_steadyOf.l0 k2 a1 a0_0 a0_1 a0_2 a0_3 rx Gy Ky (Lx ++ [((⟨Ox, Px⟩ : S37), wrap64 ((rx.length : Int) - 1))]) Ox Px) else (none))) else (none))) else (none)))) else (none)))) else (none))) = some (r1, r2, r3, r4, r5) := H
        have A35 := Aside0.mk A350
        clear A350
        obtain ⟨My, hy244⟩ : ∃ y_ : List (S37), y_ = (([(⟨Ox, Px⟩ : S37)] : List (S37))) := ⟨_, rfl⟩
        replace H : (if Dx.length + My.length < 8796093022208 then ((some (Dx ++ My : List (S37))).bind fun rx => ((some (([Wy] : List Int) : List Int)).bind fun Py => (if Bx.length + Py.length < 17592186044416 then ((some (Bx ++ Py : List Int)).bind fun Gy => ((some (([Ty] : List Int) : List Int)).bind fun Ry => (if Ax.length + Ry.length < 17592186044416 then ((some (Ax ++ Ry : List Int)).bind fun Ky => (if (Lit.int .i64 Ox).wf = true then (if (mpGet (⟨Ox, Px⟩ : S37) Lx).isSome = true then (some (rx, Gy, Ky, (mpGet (⟨Ox, Px⟩ : S37) Lx).getD 0, true)) else (if mpGet (⟨Ox, Px⟩ : S37) Lx = none then (impl_steadyOf.l0 k2 a1 a0_0 a0_1 a0_2 a0_3 rx Gy Ky (Lx ++ [((⟨Ox, Px⟩ : S37), wrap64 ((rx.length : Int) - 1))]) Ox Px) else (none))) else (none))) else (none)))) else (none)))) else (none)) = some (r1, r2, r3, r4, r5) := by first | (rw [hy244]; with_reducible exact H) | (have H2_ := (Option.bind_some _ _).symm.trans H; rw [hy244]; with_reducible exact H2_) | (have H2_ := (Option.bind_some _ _).symm.trans H; with_reducible exact H2_) | with_reducible exact H | (rw [hy244]; exact H) | exact H
        have Tz := Aside0.mk hy244
        clear hy244
        by_cases c36 : Dx.length + My.length < 8796093022208
        ·
         rw [if_pos c36] at H
         have Bq := Aside0.mk c36
         clear c36
         obtain ⟨rx, hy247⟩ : ∃ y_ : List (S37), y_ = (Dx ++ My) := ⟨_, rfl⟩
         replace H : ((some (([Wy] : List Int) : List Int)).bind fun Py => (if Bx.length + Py.length < 17592186044416 then ((some (Bx ++ Py : List Int)).bind fun Gy => ((some (([Ty] : List Int) : List Int)).bind fun Ry => (if Ax.length + Ry.length < 17592186044416 then ((some (Ax ++ Ry : List Int)).bind fun Ky => (if (Lit.int .i64 Ox).wf = true then (if (mpGet (⟨Ox, Px⟩ : S37) Lx).isSome = true then (some (rx, Gy, Ky, (mpGet (⟨Ox, Px⟩ : S37) Lx).getD 0, true)) else (if mpGet (⟨Ox, Px⟩ : S37) Lx = none then (impl_steadyOf.l0 k2 a1 a0_0 a0_1 a0_2 a0_3 rx Gy Ky (Lx ++ [((⟨Ox, Px⟩ : S37), wrap64 ((rx.length : Int) - 1))]) Ox Px) else (none))) else (none))) else (none)))) else (none))) = some (r1, r2, r3, r4, r5) := by first | (rw [hy247]; with_reducible exact H) | (have H2_ := (Option.bind_some _ _).symm.trans H; rw [hy247]; with_reducible exact H2_) | (have H2_ := (Option.bind_some _ _).symm.trans H; with_reducible exact H2_) | with_reducible exact H | (rw [hy247]; exact H) | exact H
         have Cq := Aside0.mk hy247
         clear hy247
         obtain ⟨Py, hy250⟩ : ∃ y_ : List Int, y_ = (([Wy] : List Int)) := ⟨_, rfl⟩
         replace H : (if Bx.length + Py.length < 17592186044416 then ((some (Bx ++ Py : List Int)).bind fun Gy => ((some (([Ty] : List Int) : List Int)).bind fun Ry => (if Ax.length + Ry.length < 17592186044416 then ((some (Ax ++ Ry : List Int)).bind fun Ky => (if (Lit.int .i64 Ox).wf = true then (if (mpGet (⟨Ox, Px⟩ : S37) Lx).isSome = true then (some (rx, Gy, Ky, (mpGet (⟨Ox, Px⟩ : S37) Lx).getD 0, true)) else (if mpGet (⟨Ox, Px⟩ : S37) Lx = none then (impl_steadyOf.l0 k2 a1 a0_0 a0_1 a0_2 a0_3 rx Gy Ky (Lx ++ [((⟨Ox, Px⟩ : S37), wrap64 ((rx.length : Int) - 1))]) Ox Px) else (none))) else (none))) else (none)))) else (none)) = some (r1, r2, r3, r4, r5) := by first | (rw [hy250]; with_reducible exact H) | (have H2_ := (Option.bind_some _ _).symm.trans H; rw [hy250]; with_reducible exact H2_) | (have H2_ := (Option.bind_some _ _).symm.trans H; with_reducible exact H2_) | with_reducible exact H | (rw [hy250]; exact H) | exact H
         have Gz := Aside0.mk hy250
         clear hy250
         by_cases c37 : Bx.length + Py.length < 17592186044416
         ·
          rw [if_pos c37] at H
          have iq := Aside0.mk c37
          clear c37
          obtain ⟨Gy, hy253⟩ : ∃ y_ : List Int, y_ = (Bx ++ Py) := ⟨_, rfl⟩
          replace H : ((some (([Ty] : List Int) : List Int)).bind fun Ry => (if Ax.length + Ry.length < 17592186044416 then ((some (Ax ++ Ry : List Int)).bind fun Ky => (if (Lit.int .i64 Ox).wf = true then (if (mpGet (⟨Ox, Px⟩ : S37) Lx).isSome = true then (some (rx, Gy, Ky, (mpGet (⟨Ox, Px⟩ : S37) Lx).getD 0, true)) else (if mpGet (⟨Ox, Px⟩ : S37) Lx = none then (impl_steadyOf.l0 k2 a1 a0_0 a0_1 a0_2 a0_3 rx Gy Ky (Lx ++ [((⟨Ox, Px⟩ : S37), wrap64 ((rx.length : Int) - 1))]) Ox Px) else (none))) else (none))) else (none))) = some (r1, r2, r3, r4, r5) := by first | (rw [hy253]; with_reducible exact H) | (have H2_ := (Option.bind_some _ _).symm.trans H; rw [hy253]; with_reducible exact H2_) | (have H2_ := (Option.bind_some _ _).symm.trans H; with_reducible exact H2_) | with_reducible exact H | (rw [hy253]; exact H) | exact H
          have jq := Aside0.mk hy253
          clear hy253
          obtain ⟨Ry, hy256⟩ : ∃ y_ : List Int, y_ = (([Ty] : List Int)) := ⟨_, rfl⟩
          replace H : (if Ax.length + Ry.length < 17592186044416 then ((some (Ax ++ Ry : List Int)).bind fun Ky => (if (Lit.int .i64 Ox).wf = true then (if (mpGet (⟨Ox, Px⟩ : S37) Lx).isSome = true then (some (rx, Gy, Ky, (mpGet (⟨Ox, Px⟩ : S37) Lx).getD 0, true)) else (if mpGet (⟨Ox, Px⟩ : S37) Lx = none then (impl_steadyOf.l0 k2 a1 a0_0 a0_1 a0_2 a0_3 rx Gy Ky (Lx ++ [((⟨Ox, Px⟩ : S37), wrap64 ((rx.length : Int) - 1))]) Ox Px) else (none))) else (none))) else (none)) = some (r1, r2, r3, r4, r5) := by first | (rw [hy256]; with_reducible exact H) | (have H2_ := (Option.bind_some _ _).symm.trans H; rw [hy256]; with_reducible exact H2_) | (have H2_ := (Option.bind_some _ _).symm.trans H; with_reducible exact H2_) | with_reducible exact H | (rw [hy256]; exact H) | exact H
          have Az := Aside0.mk hy256
          clear hy256
          by_cases c38 : Ax.length + Ry.length < 17592186044416
          ·
           rw [if_pos c38] at H
           have tq := Aside0.mk c38
           clear c38
           obtain ⟨Ky, hy259⟩ : ∃ y_ : List Int, y_ = (Ax ++ Ry) := ⟨_, rfl⟩
           replace H : (if (Lit.int .i64 Ox).wf = true then (if (mpGet (⟨Ox, Px⟩ : S37) Lx).isSome = true then (some (rx, Gy, Ky, (mpGet (⟨Ox, Px⟩ : S37) Lx).getD 0, true)) else (if mpGet (⟨Ox, Px⟩ : S37) Lx = none then (impl_steadyOf.l0 k2 a1 a0_0 a0_1 a0_2 a0_3 rx Gy Ky (Lx ++ [((⟨Ox, Px⟩ : S37), wrap64 ((rx.length : Int) - 1))]) Ox Px) else (none))) else (none)) = some (r1, r2, r3, r4, r5) := by first | (rw [hy259]; with_reducible exact H) | (have H2_ := (Option.bind_some _ _).symm.trans H; rw [hy259]; with_reducible exact H2_) | (have H2_ := (Option.bind_some _ _).symm.trans H; with_reducible exact H2_) | with_reducible exact H | (rw [hy259]; exact H) | exact H
           have vq := Aside0.mk hy259
           clear hy259
           by_cases c39 : (Lit.int .i64 Ox).wf = true
           ·
            rw [if_pos c39] at H
            have c39b0 := eq_true c39
            have c39b1 : decide ((Lit.int .i64 Ox).wf = true) = true := decide_eq_true c39
            clear c39
            have HX_ := Aside0.mk H
            clear H
            have hnb41 := Pz.out
            have hnc41 := Qz.out
            have hnb42 := Oy.out
            have hnc42 := Lz.out
            have hnb43 := cz.out
            have hnc43 := Pq.out
            have hnb44 := Xy.out
            have hnc44 := Rz.out
            have hcz45_0 : wr.cell? ⟨bx, 0, none⟩ = some (.int .i64 a0_0) := (pB Kx.out 0).trans rfl
            have hcz45_1 : wr.cell? ⟨bx, 1, none⟩ = some (.int .i64 a0_1) := (pB Kx.out 1).trans rfl
            have hcz45_2 : wr.cell? ⟨bx, 2, none⟩ = some (.int .i64 a0_2) := (pB Kx.out 2).trans rfl
            have hcz45_3 : wr.cell? ⟨bx, 3, none⟩ = some (.int .i64 a0_3) := (pB Kx.out 3).trans rfl
            have hfz45_0 := blk_frozen Kx.out 0
            have hfz45_1 := blk_frozen Kx.out 1
            have hfz45_2 := blk_frozen Kx.out 2
            have hfz45_3 := blk_frozen Kx.out 3
            have hnb46 := Sz.out
            have hnc46 := Yy.out
            have hnb47 := ty.out
            have hnc47 := Sy.out
            have hnb48 := Mz.out
            have hnc48 := Zy.out
            have hcz49_0 : wr.cell? ⟨Nx, 0, none⟩ = some (.int .i64 Vx) := (pB Qx.out 0).trans rfl
            have hcz49_1 : wr.cell? ⟨Nx, 1, none⟩ = some (.bool Sx) := (pB Qx.out 1).trans rfl
            have hfz49_0 := blk_frozen Qx.out 0
            have hfz49_1 := blk_frozen Qx.out 1
            try go_wp2_with (first | ((with_reducible refine gate_callee (f := 51) rfl ?_); refine goesL_ (some 34) rfl rfl Try.func51 (by kernel_rfl) rfl #[.agg #[.int .i64 a0_0, .int .i64 a0_1, .int .i64 a0_2, .int .i64 a0_3], .agg #[.int .i64 Vx, .bool Sx], .int .i64 a1] rfl (by (try simp only [List.map_toArray, List.map_cons, List.map_nil]); first | done | rfl | (simp only [List.length_drop, List.length_take]; rfl)) ?_; (with_reducible refine (impl_Siphon_tick.calls a0_0 a0_1 a0_2 a0_3 Vx Sx a1 Ox Px Wy Ty _ A35.out).mono ?_); rintro e w50 ⟨rfl, hb⟩; refine ⟨_, rfl, ?_⟩; have sx := Aside0.mk (kA (by (with_reducible repeat (first | apply gA | apply mA | apply lA)); exact Ix.out) hb); have tx := Aside0.mk (kA (by (with_reducible repeat (first | apply gA | apply mA | apply lA)); exact Fx.out) hb); have vx := Aside0.mk (kA (by (with_reducible repeat (first | apply gA | apply mA | apply lA)); exact Ex.out) hb); have zx := Aside0.mk (qB (g := bx) (o := .cells #[.int .i64 a0_0, .int .i64 a0_1, .int .i64 a0_2, .int .i64 a0_3] 26 (0, 0)) (by (with_reducible repeat (first | refine mB ?_ _ | refine nB ?_ | refine oB ?_ _)); exact Kx.out) hb); have Cy := Aside0.mk (qB (g := Zx) (o := .cells #[.slice none 0 0, .slice none 0 0, .slice none 0 0, .int .i64 Yx] 72 (0, 0)) (by (with_reducible repeat (first | refine mB ?_ _ | refine nB ?_ | refine oB ?_ _)); exact Mx.out) hb); have Dy := Aside0.mk (qB (g := Gx) (o := .cells #[u237000, u237001, u237002] 70 (0, 0)) (by (with_reducible repeat (first | refine mB ?_ _ | refine nB ?_ | refine oB ?_ _)); exact Cx.out) hb); have Ey := Aside0.mk (qB (g := kx) (o := mpObj Lx) (by (with_reducible repeat (first | refine mB ?_ _ | refine nB ?_ | refine oB ?_ _)); exact Rx.out) hb); have Hy := Aside0.mk (qB (g := Nx) (o := .cells #[.int .i64 Vx, .bool Sx] 37 (0, 0)) (by (with_reducible repeat (first | refine mB ?_ _ | refine nB ?_ | refine oB ?_ _)); exact Qx.out) hb); have Iy := Aside0.mk (lB (by repeat (first | (with_reducible first | exact HB.out | apply gB | apply hB | apply iB | refine jB ?_ cx.out | refine jB ?_ dx.out | refine jB ?_ ex.out | refine jB ?_ fx.out | refine jB ?_ jx.out) | exact HB.out)) hb); clear Ix; clear Fx; clear Ex; clear Kx; clear Mx; clear Cx; clear Rx; clear Qx; clear HB; have Ix := sx; have Fx := tx; have Ex := vx; have Kx := zx; have Mx := Cy; have Cx := Dy; have Rx := Ey; have Qx := Hy; have HB := Iy; clear sx tx vx zx Cy Dy Ey Hy Iy; (try clear hb); (try clear hb2); (try clear hk); (try clear hi)) | ((with_reducible refine gate_dst (N := 9) rfl ?_); refine box_event ?hg (N := 9) ?hd (cs := #[.int .i64 0, .bool xB]) (t := 37) ?hr ?_; (case hd => rfl); (case hg => rfl); (case hr => first | (go_simp; done) | (go_simp; rfl)); intro Hx hg w51 hbox hb; have sx := Aside0.mk (kA (oA (by (with_reducible repeat (first | apply gA | apply mA | apply lA)); exact Ix.out) Hx (Nat.le_of_eq hg.symm)) hb); have tx := Aside0.mk (kA (by (with_reducible repeat (first | apply gA | apply mA | apply lA)); exact Fx.out) hb); have vx := Aside0.mk (kA (by (with_reducible repeat (first | apply gA | apply mA | apply lA)); exact Ex.out) hb); have zx := Aside0.mk (qB (g := bx) (o := .cells #[.int .i64 a0_0, .int .i64 a0_1, .int .i64 a0_2, .int .i64 a0_3] 26 (0, 0)) (by (with_reducible repeat (first | refine mB ?_ _ | refine nB ?_ | refine oB ?_ _)); exact Kx.out) hb); have Cy := Aside0.mk (qB (g := Zx) (o := .cells #[.slice none 0 0, .slice none 0 0, .slice none 0 0, .int .i64 Yx] 72 (0, 0)) (by (with_reducible repeat (first | refine mB ?_ _ | refine nB ?_ | refine oB ?_ _)); exact Mx.out) hb); have Dy := Aside0.mk (qB (g := Gx) (o := .cells #[u237000, u237001, u237002] 70 (0, 0)) (by (with_reducible repeat (first | refine mB ?_ _ | refine nB ?_ | refine oB ?_ _)); exact Cx.out) hb); have Ey := Aside0.mk (qB (g := kx) (o := mpObj Lx) (by (with_reducible repeat (first | refine mB ?_ _ | refine nB ?_ | refine oB ?_ _)); exact Rx.out) hb); have Hy := Aside0.mk (qB (g := Nx) (o := .cells #[.int .i64 Vx, .bool Sx] 37 (0, 0)) (by (with_reducible repeat (first | refine mB ?_ _ | refine nB ?_ | refine oB ?_ _)); exact Qx.out) hb); have Iy := Aside0.mk (lB (by repeat (first | (with_reducible first | exact HB.out | apply gB | apply hB | apply iB | refine jB ?_ cx.out | refine jB ?_ dx.out | refine jB ?_ ex.out | refine jB ?_ fx.out | refine jB ?_ jx.out) | exact HB.out)) hb); have Jy := Aside0.mk (hbox); have Ay := Aside0.mk ((by rw [hg]; exact (kB (by repeat (first | (with_reducible first | exact HB.out | apply gB | apply hB | apply iB | refine jB ?_ cx.out | refine jB ?_ dx.out | refine jB ?_ ex.out | refine jB ?_ fx.out | refine jB ?_ jx.out) | exact HB.out))) : w.heap.size ≤ Hx)); have Ny := Aside0.mk ((by rw [hg]; exact (kB (by repeat (first | (with_reducible first | exact HB.out | apply gB | apply hB | apply iB | refine jB ?_ cx.out | refine jB ?_ dx.out | refine jB ?_ ex.out | refine jB ?_ fx.out | refine jB ?_ jx.out) | exact HB.out))) : w.heap.size ≤ Hx)); have vy := Aside0.mk ((by rw [hg]; exact Nat.ne_of_lt (blk_lt (g := bx) (o := .cells #[.int .i64 a0_0, .int .i64 a0_1, .int .i64 a0_2, .int .i64 a0_3] 26 (0, 0)) (by (with_reducible repeat (first | refine mB ?_ _ | refine nB ?_ | refine oB ?_ _)); exact Kx.out)) : bx ≠ Hx)); have Oz := Aside0.mk ((by rw [hg]; exact Nat.ne_of_gt (blk_lt (g := bx) (o := .cells #[.int .i64 a0_0, .int .i64 a0_1, .int .i64 a0_2, .int .i64 a0_3] 26 (0, 0)) (by (with_reducible repeat (first | refine mB ?_ _ | refine nB ?_ | refine oB ?_ _)); exact Kx.out)) : Hx ≠ bx)); have ez := Aside0.mk ((by rw [hg]; exact Nat.ne_of_lt (blk_lt (g := Zx) (o := .cells #[.slice none 0 0, .slice none 0 0, .slice none 0 0, .int .i64 Yx] 72 (0, 0)) (by (with_reducible repeat (first | refine mB ?_ _ | refine nB ?_ | refine oB ?_ _)); exact Mx.out)) : Zx ≠ Hx)); have fz := Aside0.mk ((by rw [hg]; exact Nat.ne_of_gt (blk_lt (g := Zx) (o := .cells #[.slice none 0 0, .slice none 0 0, .slice none 0 0, .int .i64 Yx] 72 (0, 0)) (by (with_reducible repeat (first | refine mB ?_ _ | refine nB ?_ | refine oB ?_ _)); exact Mx.out)) : Hx ≠ Zx)); have gz := Aside0.mk ((by rw [hg]; exact Nat.ne_of_lt (blk_lt (g := Gx) (o := .cells #[u237000, u237001, u237002] 70 (0, 0)) (by (with_reducible repeat (first | refine mB ?_ _ | refine nB ?_ | refine oB ?_ _)); exact Cx.out)) : Gx ≠ Hx)); have Dq := Aside0.mk ((by rw [hg]; exact Nat.ne_of_gt (blk_lt (g := Gx) (o := .cells #[u237000, u237001, u237002] 70 (0, 0)) (by (with_reducible repeat (first | refine mB ?_ _ | refine nB ?_ | refine oB ?_ _)); exact Cx.out)) : Hx ≠ Gx)); have Eq := Aside0.mk ((by rw [hg]; exact Nat.ne_of_lt (blk_lt (g := kx) (o := mpObj Lx) (by (with_reducible repeat (first | refine mB ?_ _ | refine nB ?_ | refine oB ?_ _)); exact Rx.out)) : kx ≠ Hx)); have Fq := Aside0.mk ((by rw [hg]; exact Nat.ne_of_gt (blk_lt (g := kx) (o := mpObj Lx) (by (with_reducible repeat (first | refine mB ?_ _ | refine nB ?_ | refine oB ?_ _)); exact Rx.out)) : Hx ≠ kx)); have Gq := Aside0.mk ((by rw [hg]; exact Nat.ne_of_lt (blk_lt (g := Nx) (o := .cells #[.int .i64 Vx, .bool Sx] 37 (0, 0)) (by (with_reducible repeat (first | refine mB ?_ _ | refine nB ?_ | refine oB ?_ _)); exact Qx.out)) : Nx ≠ Hx)); have Hq := Aside0.mk ((by rw [hg]; exact Nat.ne_of_gt (blk_lt (g := Nx) (o := .cells #[.int .i64 Vx, .bool Sx] 37 (0, 0)) (by (with_reducible repeat (first | refine mB ?_ _ | refine nB ?_ | refine oB ?_ _)); exact Qx.out)) : Hx ≠ Nx)); clear Ix; clear Fx; clear Ex; clear Kx; clear Mx; clear Cx; clear Rx; clear Qx; clear HB; have Ix := sx; have Fx := tx; have Ex := vx; have Kx := zx; have Mx := Cy; have Cx := Dy; have Rx := Ey; have Qx := Hy; have HB := Iy; have Jx := Jy; have Fj := Ay; have mx := Ny; have iz := vy; have Rq := Oz; have jz := ez; have Sq := fz; have Kz := gz; have Dz := Dq; have kz := Eq; have tz := Fq; have lz := Gq; have Ez := Hq; clear sx tx vx zx Cy Dy Ey Hy Iy Jy Ay Ny vy Oz ez fz gz Dq Eq Fq Gq Hq; clear hb hbox hg; have hnb52 := Rq.out; have hnc52 := iz.out; have hnb53 := Sq.out; have hnc53 := jz.out; have hnb54 := Dz.out; have hnc54 := Kz.out; have hnb55 := tz.out; have hnc55 := kz.out; have hnb56 := Ez.out; have hnc56 := lz.out; have hcz57_0 : w51.cell? ⟨Hx, 0, none⟩ = some (.int .i64 0) := (pB Jx.out 0).trans rfl; have hcz57_1 : w51.cell? ⟨Hx, 1, none⟩ = some (.bool false) := (pB Jx.out 1).trans rfl; have hfz57_0 := blk_frozen Jx.out 0; have hfz57_1 := blk_frozen Jx.out 1; obtain ⟨gx, ix, eo58⟩ := bB Ix.out; subst eo58; obtain ⟨Wx, Xx, eo59⟩ := bB Fx.out; subst eo59; obtain ⟨Tx, Ux, eo60⟩ := bB Ex.out; subst eo60))
            have sx : Aside0 (Kd.R k37 37 ((w51.setCell ⟨Hx, 0, none⟩ (.int .i64 Ox)).setCell ⟨Hx, 1, none⟩ (.bool Px)) w.heap.size (fun k_ => k_ ≠ Nx ∧ k_ ≠ Hx) (.slice gx Dx.length ix) Dx) := ⟨by (with_reducible repeat (first | apply gA | apply mA | apply lA)); exact tA (pA (p := ⟨Hx, 1, none⟩) (pA (p := ⟨Hx, 0, none⟩) (tA Ix.out (fun k_ hk => (⟨hk, hk.2⟩ : _ ∧ k_ ≠ Hx))) (fun _ hk => hk.2) (.int .i64 Ox)) (fun _ hk => hk.2) (.bool Px)) (fun _ hk => ⟨hk.1.1, hk.1.2⟩)⟩
            have tx : Aside0 (Kd.R (Kd.int .i64) 3 ((w51.setCell ⟨Hx, 0, none⟩ (.int .i64 Ox)).setCell ⟨Hx, 1, none⟩ (.bool Px)) w.heap.size (fun k_ => some k_ ≠ (vB Tx Ax.length Ux).ownBlock) (.slice Wx Bx.length Xx) Bx) := ⟨by (with_reducible repeat (first | apply gA | apply mA | apply lA)); exact tA (pA (p := ⟨Hx, 1, none⟩) (pA (p := ⟨Hx, 0, none⟩) (dB Fx.out Jx.out (by decide)) (fun _ hk => hk.2) (.int .i64 Ox)) (fun _ hk => hk.2) (.bool Px)) (fun _ hk => hk.1)⟩
            have vx : Aside0 (Kd.R (Kd.int .i64) 3 ((w51.setCell ⟨Hx, 0, none⟩ (.int .i64 Ox)).setCell ⟨Hx, 1, none⟩ (.bool Px)) w.heap.size (fun k_ => some k_ ≠ (vB Wx Bx.length Xx).ownBlock) (.slice Tx Ax.length Ux) Ax) := ⟨by (with_reducible repeat (first | apply gA | apply mA | apply lA)); exact tA (pA (p := ⟨Hx, 1, none⟩) (pA (p := ⟨Hx, 0, none⟩) (dB Ex.out Jx.out (by decide)) (fun _ hk => hk.2) (.int .i64 Ox)) (fun _ hk => hk.2) (.bool Px)) (fun _ hk => hk.1)⟩
            have zx : Aside0 (((w51.setCell ⟨Hx, 0, none⟩ (.int .i64 Ox)).setCell ⟨Hx, 1, none⟩ (.bool Px)).heap[bx]? = some (.cells #[.int .i64 a0_0, .int .i64 a0_1, .int .i64 a0_2, .int .i64 a0_3] 26 (0, 0))) := ⟨by (with_reducible repeat (first | refine mB ?_ _ | refine nB ?_ | refine oB ?_ _)); refine blk_far ?_ iz.out _; (with_reducible repeat (first | refine mB ?_ _ | refine nB ?_ | refine oB ?_ _)); refine blk_far ?_ iz.out _; (with_reducible repeat (first | refine mB ?_ _ | refine nB ?_ | refine oB ?_ _)); exact Kx.out⟩
            have Cy : Aside0 (((w51.setCell ⟨Hx, 0, none⟩ (.int .i64 Ox)).setCell ⟨Hx, 1, none⟩ (.bool Px)).heap[Zx]? = some (.cells #[.slice none 0 0, .slice none 0 0, .slice none 0 0, .int .i64 Yx] 72 (0, 0))) := ⟨by (with_reducible repeat (first | refine mB ?_ _ | refine nB ?_ | refine oB ?_ _)); refine blk_far ?_ jz.out _; (with_reducible repeat (first | refine mB ?_ _ | refine nB ?_ | refine oB ?_ _)); refine blk_far ?_ jz.out _; (with_reducible repeat (first | refine mB ?_ _ | refine nB ?_ | refine oB ?_ _)); exact Mx.out⟩
            have Dy : Aside0 (((w51.setCell ⟨Hx, 0, none⟩ (.int .i64 Ox)).setCell ⟨Hx, 1, none⟩ (.bool Px)).heap[Gx]? = some (.cells #[.slice gx Dx.length ix, .slice Wx Bx.length Xx, .slice Tx Ax.length Ux] 70 (0, 0))) := ⟨by (with_reducible repeat (first | refine mB ?_ _ | refine nB ?_ | refine oB ?_ _)); refine blk_far ?_ Kz.out _; (with_reducible repeat (first | refine mB ?_ _ | refine nB ?_ | refine oB ?_ _)); refine blk_far ?_ Kz.out _; (with_reducible repeat (first | refine mB ?_ _ | refine nB ?_ | refine oB ?_ _)); exact Cx.out⟩
            have Ey : Aside0 (((w51.setCell ⟨Hx, 0, none⟩ (.int .i64 Ox)).setCell ⟨Hx, 1, none⟩ (.bool Px)).heap[kx]? = some (mpObj Lx)) := ⟨by (with_reducible repeat (first | refine mB ?_ _ | refine nB ?_ | refine oB ?_ _)); refine blk_far ?_ kz.out _; (with_reducible repeat (first | refine mB ?_ _ | refine nB ?_ | refine oB ?_ _)); refine blk_far ?_ kz.out _; (with_reducible repeat (first | refine mB ?_ _ | refine nB ?_ | refine oB ?_ _)); exact Rx.out⟩
            have Hy : Aside0 (((w51.setCell ⟨Hx, 0, none⟩ (.int .i64 Ox)).setCell ⟨Hx, 1, none⟩ (.bool Px)).heap[Nx]? = some (.cells #[.int .i64 Vx, .bool Sx] 37 (0, 0))) := ⟨by (with_reducible repeat (first | refine mB ?_ _ | refine nB ?_ | refine oB ?_ _)); refine blk_far ?_ lz.out _; (with_reducible repeat (first | refine mB ?_ _ | refine nB ?_ | refine oB ?_ _)); refine blk_far ?_ lz.out _; (with_reducible repeat (first | refine mB ?_ _ | refine nB ?_ | refine oB ?_ _)); exact Qx.out⟩
            have Iy : Aside0 (((w51.setCell ⟨Hx, 0, none⟩ (.int .i64 Ox)).setCell ⟨Hx, 1, none⟩ (.bool Px)).heap[Hx]? = some (.cells #[.int .i64 Ox, .bool Px] 37 (0, 0))) := ⟨by (with_reducible repeat (first | refine mB ?_ _ | refine nB ?_ | refine oB ?_ _)); refine blk_put (cs := #[.int .i64 Ox, .bool xB]) ?_ 1 _ rfl; (with_reducible repeat (first | refine mB ?_ _ | refine nB ?_ | refine oB ?_ _)); refine blk_put (cs := #[.int .i64 0, .bool xB]) ?_ 0 _ rfl; (with_reducible repeat (first | refine mB ?_ _ | refine nB ?_ | refine oB ?_ _)); exact Jx.out⟩
            have Jy : Aside0 (Below w.heap.size w ((w51.setCell ⟨Hx, 0, none⟩ (.int .i64 Ox)).setCell ⟨Hx, 1, none⟩ (.bool Px))) := ⟨by repeat (first | (with_reducible first | exact HB.out | apply gB | apply hB | apply iB | refine jB ?_ cx.out | refine jB ?_ dx.out | refine jB ?_ ex.out | refine jB ?_ fx.out | refine jB ?_ jx.out | refine jB ?_ mx.out) | exact HB.out)⟩
            (try clear Ix)
            (try clear Fx)
            (try clear Ex)
            (try clear Kx)
            (try clear Mx)
            (try clear Cx)
            (try clear Rx)
            (try clear Qx)
            (try clear Jx)
            (try clear HB)
            generalize ((w51.setCell ⟨Hx, 0, none⟩ (.int .i64 Ox)).setCell ⟨Hx, 1, none⟩ (.bool Px)) = w61 at sx tx vx zx Cy Dy Ey Hy Iy Jy ⊢
            have Ix := sx
            have Fx := tx
            have Ex := vx
            have Kx := zx
            have Mx := Cy
            have Cx := Dy
            have Rx := Ey
            have Qx := Hy
            have Jx := Iy
            have HB := Jy
            clear sx tx vx zx Cy Dy Ey Hy Iy Jy
            replace Ix := Aside0.mk (lA Ix.out)
            replace Fx := Aside0.mk (lA Fx.out)
            replace Ex := Aside0.mk (lA Ex.out)
            replace Kx := Aside0.mk (nB Kx.out)
            replace Mx := Aside0.mk (nB Mx.out)
            replace Cx := Aside0.mk (nB Cx.out)
            replace Rx := Aside0.mk (nB Rx.out)
            replace Qx := Aside0.mk (nB Qx.out)
            replace Jx := Aside0.mk (nB Jx.out)
            replace HB := Aside0.mk (iB HB.out)
            refine start_ (n := 21) (S := fun w' => w'.cell? ⟨Gx, 0, none⟩ = some (.slice gx Dx.length ix) ∧ w'.cell? ⟨Gx, 1, none⟩ = some (.slice Wx Bx.length Xx) ∧ w'.cell? ⟨Gx, 2, none⟩ = some (.slice Tx Ax.length Ux) ∧ w'.cell? ⟨Hx, 0, none⟩ = some (.int .i64 Ox) ∧ w'.cell? ⟨Hx, 1, none⟩ = some (.bool Px)) (ds := [16, 18, 20]) #[xB, xB, xB, xB, xB, xB, xB, xB, xB, xB, xB, xB, xB, xB, xB, xB, xB, xB, xB, xB, xB] (by kernel_rfl) rfl rfl ⟨(pB Cx.out 0).trans rfl, (pB Cx.out 1).trans rfl, (pB Cx.out 2).trans rfl, (pB Jx.out 0).trans rfl, (pB Jx.out 1).trans rfl⟩ (fun ox => ?_); refine with_tabW impl_steadyOf.tab7 impl_steadyOf.bits7 (fun HT_ HW_ => ?_)
            generalize w61.drew = w62 at Ix Fx Ex Kx Mx Cx Rx Qx Jx HB ox ⊢
            refine pure_ (i := 0) (N := some 38) (v := ?_) (a' := ?_) #[wB, xB, xB, xB, xB, xB, xB, xB, xB, xB, xB, xB, xB, xB, xB, xB, xB, xB, xB, xB, xB] rfl rfl (any_of HT_.out (by kernel_rfl)) (fun _ _ _ h => h) (Or.inl ⟨by rfl, ?_⟩) ?_ ?_
            rotate_left
            ·
             intro w'
             go_simp
             with_reducible rfl
            rotate_left
            ·
             simp only [Act.put, sB, tB, uB, i64_w, i32_w]
             rfl
            refine pure_ (i := 5) (N := some 43) (v := ?_) (a' := ?_) #[wB, xB, xB, xB, xB, wB, xB, xB, xB, xB, xB, xB, xB, xB, xB, xB, xB, xB, xB, xB, xB] rfl rfl (any_of HT_.out (by kernel_rfl)) (fun _ _ _ h => h) (Or.inl ⟨by rfl, ?_⟩) ?_ ?_
            rotate_left
            ·
             intro w'
             go_simp
             with_reducible rfl
            rotate_left
            ·
             simp only [Act.put, sB, tB, uB, i64_w, i32_w]
             rfl
            refine pure_ (i := 7) (N := some 45) (v := ?_) (a' := ?_) #[wB, xB, xB, xB, xB, wB, xB, wB, xB, xB, xB, xB, xB, xB, xB, xB, xB, xB, xB, xB, xB] rfl rfl (any_of HT_.out (by kernel_rfl)) (fun _ _ _ h => h) (Or.inl ⟨by rfl, ?_⟩) ?_ ?_
            rotate_left
            ·
             intro w'
             go_simp
             with_reducible rfl
            rotate_left
            ·
             simp only [Act.put, sB, tB, uB, i64_w, i32_w]
             rfl
            refine pure_ (i := 10) (N := some 48) (v := ?_) (a' := ?_) #[wB, xB, xB, xB, xB, wB, xB, wB, xB, xB, wB, xB, xB, xB, xB, xB, xB, xB, xB, xB, xB] rfl rfl (any_of HT_.out (by kernel_rfl)) (fun _ _ _ h => h) (Or.inl ⟨by rfl, ?_⟩) ?_ ?_
            rotate_left
            ·
             intro w'
             go_simp
             with_reducible rfl
            rotate_left
            ·
             simp only [Act.put, sB, tB, uB, i64_w, i32_w]
             rfl
            refine pure_ (i := 12) (N := some 50) (v := ?_) (a' := ?_) #[wB, xB, xB, xB, xB, wB, xB, wB, xB, xB, wB, xB, wB, xB, xB, xB, xB, xB, xB, xB, xB] rfl rfl (any_of HT_.out (by kernel_rfl)) (fun _ _ _ h => h) (Or.inl ⟨by rfl, ?_⟩) ?_ ?_
            rotate_left
            ·
             intro w'
             go_simp
             with_reducible rfl
            rotate_left
            ·
             simp only [Act.put, sB, tB, uB, i64_w, i32_w]
             rfl
            refine take_ (i := 1) (N := some 39) (v := ?_) (a' := ?_) #[wB, wB, xB, xB, xB, wB, xB, wB, xB, xB, wB, xB, wB, xB, xB, xB, xB, xB, xB, xB, xB] rfl rfl (take_ofW HT_.out HW_.out (by kernel_rfl)) (fun _ _ _ h => h) (Or.inl ⟨by rfl, ?_⟩) ox ?_ ?_
            rotate_left
            ·
             rintro w' ⟨s0, s1, s2, s3, s4⟩
             go_simp
             with_reducible rfl
            rotate_left
            ·
             simp only [Act.put, sB, tB, uB, i64_w, i32_w]
             rfl
            refine take_ (i := 2) (N := some 40) (v := ?_) (a' := ?_) #[wB, wB, wB, xB, xB, wB, xB, wB, xB, xB, wB, xB, wB, xB, xB, xB, xB, xB, xB, xB, xB] rfl rfl (take_ofW HT_.out HW_.out (by kernel_rfl)) (fun _ _ _ h => h) (Or.inl ⟨by rfl, ?_⟩) ox ?_ ?_
            rotate_left
            ·
             rintro w' ⟨s0, s1, s2, s3, s4⟩
             go_simp
             with_reducible rfl
            rotate_left
            ·
             simp only [Act.put, sB, tB, uB, i64_w, i32_w]
             rfl
            refine take_ (i := 6) (N := some 44) (v := ?_) (a' := ?_) #[wB, wB, wB, xB, xB, wB, wB, wB, xB, xB, wB, xB, wB, xB, xB, xB, xB, xB, xB, xB, xB] rfl rfl (take_ofW HT_.out HW_.out (by kernel_rfl)) (fun _ _ _ h => h) (Or.inl ⟨by rfl, ?_⟩) ox ?_ ?_
            rotate_left
            ·
             rintro w' ⟨s0, s1, s2, s3, s4⟩
             go_simp
             with_reducible rfl
            rotate_left
            ·
             simp only [Act.put, sB, tB, uB, i64_w, i32_w]
             rfl
            refine take_ (i := 11) (N := some 49) (v := ?_) (a' := ?_) #[wB, wB, wB, xB, xB, wB, wB, wB, xB, xB, wB, wB, wB, xB, xB, xB, xB, xB, xB, xB, xB] rfl rfl (take_ofW HT_.out HW_.out (by kernel_rfl)) (fun _ _ _ h => h) (Or.inl ⟨by rfl, ?_⟩) ox ?_ ?_
            rotate_left
            ·
             rintro w' ⟨s0, s1, s2, s3, s4⟩
             go_simp
             with_reducible rfl
            rotate_left
            ·
             simp only [Act.put, sB, tB, uB, i64_w, i32_w]
             rfl
            refine join_ (σ := Value × Value × Value × Value × Value) 6 #[wB, wB, wB, wB, wB, wB, wB, wB, wB, wB, wB, wB, wB, wB, xB, wB, xB, xB, xB, xB, xB] (fun s_ => [(41, s_.1), (42, s_.2.1), (46, s_.2.2.1), (47, s_.2.2.2.1), (51, s_.2.2.2.2), (53, .pointer (some ⟨Gx, 0, none⟩))]) (fun s_ w' => (w'.cell? ⟨Gx, 0, none⟩ = some (.slice gx Dx.length ix) ∧ w'.cell? ⟨Gx, 1, none⟩ = some (.slice Wx Bx.length Xx) ∧ w'.cell? ⟨Gx, 2, none⟩ = some (.slice Tx Ax.length Ux) ∧ w'.cell? ⟨Hx, 0, none⟩ = some (.int .i64 Ox) ∧ w'.cell? ⟨Hx, 1, none⟩ = some (.bool Px)) ∧ (Kd.R k37 37 w' w.heap.size (fun k_ => some k_ ≠ (s_.2.1 : Value).ownBlock ∧ k_ ≠ Nx ∧ k_ ≠ Hx) s_.1 My) ∧ (Kd.R k37 37 w' w.heap.size (fun k_ => some k_ ≠ (s_.1 : Value).ownBlock ∧ k_ ≠ Nx ∧ k_ ≠ Hx) s_.2.1 rx) ∧ (Kd.R (Kd.int .i64) 3 w' w.heap.size (fun k_ => some k_ ≠ (s_.2.2.2.1 : Value).ownBlock ∧ some k_ ≠ (s_.2.2.2.2 : Value).ownBlock ∧ some k_ ≠ (vB Tx Ax.length Ux).ownBlock) s_.2.2.1 Py) ∧ (Kd.R (Kd.int .i64) 3 w' w.heap.size (fun k_ => some k_ ≠ (s_.2.2.1 : Value).ownBlock ∧ some k_ ≠ (s_.2.2.2.2 : Value).ownBlock ∧ some k_ ≠ (vB Tx Ax.length Ux).ownBlock) s_.2.2.2.1 Gy) ∧ (Kd.R (Kd.int .i64) 3 w' w.heap.size (fun k_ => some k_ ≠ (s_.2.2.1 : Value).ownBlock ∧ some k_ ≠ (s_.2.2.2.1 : Value).ownBlock ∧ some k_ ≠ (vB Tx Ax.length Ux).ownBlock) s_.2.2.2.2 Ry) ∧ (Kd.R (Kd.int .i64) 3 w' w.heap.size (fun k_ => some k_ ≠ (s_.2.2.1 : Value).ownBlock ∧ some k_ ≠ (s_.2.2.2.1 : Value).ownBlock ∧ some k_ ≠ (s_.2.2.2.2 : Value).ownBlock) (.slice Tx Ax.length Ux) Ax) ∧ (w'.heap[bx]? = some (.cells #[.int .i64 a0_0, .int .i64 a0_1, .int .i64 a0_2, .int .i64 a0_3] 26 (0, 0))) ∧ (w'.heap[Zx]? = some (.cells #[.slice none 0 0, .slice none 0 0, .slice none 0 0, .int .i64 Yx] 72 (0, 0))) ∧ (w'.heap[Gx]? = some (.cells #[.slice gx Dx.length ix, .slice Wx Bx.length Xx, .slice Tx Ax.length Ux] 70 (0, 0))) ∧ (w'.heap[kx]? = some (mpObj Lx)) ∧ (w'.heap[Nx]? = some (.cells #[.int .i64 Vx, .bool Sx] 37 (0, 0))) ∧ (w'.heap[Hx]? = some (.cells #[.int .i64 Ox, .bool Px] 37 (0, 0))) ∧ (Below w.heap.size w w')) ?_ ?_
            rotate_left
            intro mz
            refine join_ (σ := Value × Value × Value × Value) 7 #[wB, wB, wB, wB, wB, wB, wB, wB, wB, wB, wB, wB, wB, xB, xB, wB, xB, xB, xB, xB, xB] (fun s_ => [(41, s_.1), (42, s_.2.1), (46, s_.2.2.1), (47, s_.2.2.2), (53, .pointer (some ⟨Gx, 0, none⟩))]) (fun s_ w' => (w'.cell? ⟨Gx, 0, none⟩ = some (.slice gx Dx.length ix) ∧ w'.cell? ⟨Gx, 1, none⟩ = some (.slice Wx Bx.length Xx) ∧ w'.cell? ⟨Gx, 2, none⟩ = some (.slice Tx Ax.length Ux) ∧ w'.cell? ⟨Hx, 0, none⟩ = some (.int .i64 Ox) ∧ w'.cell? ⟨Hx, 1, none⟩ = some (.bool Px)) ∧ (Kd.R k37 37 w' w.heap.size (fun k_ => some k_ ≠ (s_.2.1 : Value).ownBlock ∧ k_ ≠ Nx ∧ k_ ≠ Hx) s_.1 My) ∧ (Kd.R k37 37 w' w.heap.size (fun k_ => some k_ ≠ (s_.1 : Value).ownBlock ∧ k_ ≠ Nx ∧ k_ ≠ Hx) s_.2.1 rx) ∧ (Kd.R (Kd.int .i64) 3 w' w.heap.size (fun k_ => some k_ ≠ (s_.2.2.2 : Value).ownBlock ∧ some k_ ≠ (vB Tx Ax.length Ux).ownBlock) s_.2.2.1 Py) ∧ (Kd.R (Kd.int .i64) 3 w' w.heap.size (fun k_ => some k_ ≠ (s_.2.2.1 : Value).ownBlock ∧ some k_ ≠ (vB Tx Ax.length Ux).ownBlock) s_.2.2.2 Gy) ∧ (Kd.R (Kd.int .i64) 3 w' w.heap.size (fun k_ => some k_ ≠ (s_.2.2.1 : Value).ownBlock ∧ some k_ ≠ (s_.2.2.2 : Value).ownBlock) (.slice Tx Ax.length Ux) Ax) ∧ (w'.heap[bx]? = some (.cells #[.int .i64 a0_0, .int .i64 a0_1, .int .i64 a0_2, .int .i64 a0_3] 26 (0, 0))) ∧ (w'.heap[Zx]? = some (.cells #[.slice none 0 0, .slice none 0 0, .slice none 0 0, .int .i64 Yx] 72 (0, 0))) ∧ (w'.heap[Gx]? = some (.cells #[.slice gx Dx.length ix, .slice Wx Bx.length Xx, .slice Tx Ax.length Ux] 70 (0, 0))) ∧ (w'.heap[kx]? = some (mpObj Lx)) ∧ (w'.heap[Nx]? = some (.cells #[.int .i64 Vx, .bool Sx] 37 (0, 0))) ∧ (w'.heap[Hx]? = some (.cells #[.int .i64 Ox, .bool Px] 37 (0, 0))) ∧ (Below w.heap.size w w')) ?_ ?_
            rotate_left
            intro Tq
            refine join_ (σ := Value × Value × Value × Value) 7 #[wB, wB, wB, wB, wB, wB, wB, wB, wB, xB, wB, wB, wB, wB, xB, wB, xB, xB, xB, xB, xB] (fun s_ => [(41, s_.1), (42, s_.2.1), (46, s_.2.2.1), (51, s_.2.2.2), (53, .pointer (some ⟨Gx, 0, none⟩))]) (fun s_ w' => (w'.cell? ⟨Gx, 0, none⟩ = some (.slice gx Dx.length ix) ∧ w'.cell? ⟨Gx, 1, none⟩ = some (.slice Wx Bx.length Xx) ∧ w'.cell? ⟨Gx, 2, none⟩ = some (.slice Tx Ax.length Ux) ∧ w'.cell? ⟨Hx, 0, none⟩ = some (.int .i64 Ox) ∧ w'.cell? ⟨Hx, 1, none⟩ = some (.bool Px)) ∧ (Kd.R k37 37 w' w.heap.size (fun k_ => some k_ ≠ (s_.2.1 : Value).ownBlock ∧ k_ ≠ Nx ∧ k_ ≠ Hx) s_.1 My) ∧ (Kd.R k37 37 w' w.heap.size (fun k_ => some k_ ≠ (s_.1 : Value).ownBlock ∧ k_ ≠ Nx ∧ k_ ≠ Hx) s_.2.1 rx) ∧ (Kd.R (Kd.int .i64) 3 w' w.heap.size (fun k_ => some k_ ≠ (s_.2.2.2 : Value).ownBlock ∧ some k_ ≠ (vB Wx Bx.length Xx).ownBlock ∧ some k_ ≠ (vB Tx Ax.length Ux).ownBlock) s_.2.2.1 Py) ∧ (Kd.R (Kd.int .i64) 3 w' w.heap.size (fun k_ => some k_ ≠ (s_.2.2.1 : Value).ownBlock ∧ some k_ ≠ (vB Wx Bx.length Xx).ownBlock ∧ some k_ ≠ (vB Tx Ax.length Ux).ownBlock) s_.2.2.2 Ry) ∧ (Kd.R (Kd.int .i64) 3 w' w.heap.size (fun k_ => some k_ ≠ (s_.2.2.1 : Value).ownBlock ∧ some k_ ≠ (s_.2.2.2 : Value).ownBlock ∧ some k_ ≠ (vB Tx Ax.length Ux).ownBlock) (.slice Wx Bx.length Xx) Bx) ∧ (Kd.R (Kd.int .i64) 3 w' w.heap.size (fun k_ => some k_ ≠ (s_.2.2.1 : Value).ownBlock ∧ some k_ ≠ (s_.2.2.2 : Value).ownBlock ∧ some k_ ≠ (vB Wx Bx.length Xx).ownBlock) (.slice Tx Ax.length Ux) Ax) ∧ (w'.heap[bx]? = some (.cells #[.int .i64 a0_0, .int .i64 a0_1, .int .i64 a0_2, .int .i64 a0_3] 26 (0, 0))) ∧ (w'.heap[Zx]? = some (.cells #[.slice none 0 0, .slice none 0 0, .slice none 0 0, .int .i64 Yx] 72 (0, 0))) ∧ (w'.heap[Gx]? = some (.cells #[.slice gx Dx.length ix, .slice Wx Bx.length Xx, .slice Tx Ax.length Ux] 70 (0, 0))) ∧ (w'.heap[kx]? = some (mpObj Lx)) ∧ (w'.heap[Nx]? = some (.cells #[.int .i64 Vx, .bool Sx] 37 (0, 0))) ∧ (w'.heap[Hx]? = some (.cells #[.int .i64 Ox, .bool Px] 37 (0, 0))) ∧ (Below w.heap.size w w')) ?_ ?_
            rotate_left
            intro Zz
            refine join_ (σ := Value × Value × Value) 8 #[wB, wB, wB, wB, wB, wB, wB, wB, wB, xB, wB, wB, wB, xB, xB, wB, xB, xB, xB, xB, xB] (fun s_ => [(41, s_.1), (42, s_.2.1), (46, s_.2.2), (53, .pointer (some ⟨Gx, 0, none⟩))]) (fun s_ w' => (w'.cell? ⟨Gx, 0, none⟩ = some (.slice gx Dx.length ix) ∧ w'.cell? ⟨Gx, 1, none⟩ = some (.slice Wx Bx.length Xx) ∧ w'.cell? ⟨Gx, 2, none⟩ = some (.slice Tx Ax.length Ux) ∧ w'.cell? ⟨Hx, 0, none⟩ = some (.int .i64 Ox) ∧ w'.cell? ⟨Hx, 1, none⟩ = some (.bool Px)) ∧ (Kd.R k37 37 w' w.heap.size (fun k_ => some k_ ≠ (s_.2.1 : Value).ownBlock ∧ k_ ≠ Nx ∧ k_ ≠ Hx) s_.1 My) ∧ (Kd.R k37 37 w' w.heap.size (fun k_ => some k_ ≠ (s_.1 : Value).ownBlock ∧ k_ ≠ Nx ∧ k_ ≠ Hx) s_.2.1 rx) ∧ (Kd.R (Kd.int .i64) 3 w' w.heap.size (fun k_ => some k_ ≠ (vB Wx Bx.length Xx).ownBlock ∧ some k_ ≠ (vB Tx Ax.length Ux).ownBlock) s_.2.2 Py) ∧ (Kd.R (Kd.int .i64) 3 w' w.heap.size (fun k_ => some k_ ≠ (s_.2.2 : Value).ownBlock ∧ some k_ ≠ (vB Tx Ax.length Ux).ownBlock) (.slice Wx Bx.length Xx) Bx) ∧ (Kd.R (Kd.int .i64) 3 w' w.heap.size (fun k_ => some k_ ≠ (s_.2.2 : Value).ownBlock ∧ some k_ ≠ (vB Wx Bx.length Xx).ownBlock) (.slice Tx Ax.length Ux) Ax) ∧ (w'.heap[bx]? = some (.cells #[.int .i64 a0_0, .int .i64 a0_1, .int .i64 a0_2, .int .i64 a0_3] 26 (0, 0))) ∧ (w'.heap[Zx]? = some (.cells #[.slice none 0 0, .slice none 0 0, .slice none 0 0, .int .i64 Yx] 72 (0, 0))) ∧ (w'.heap[Gx]? = some (.cells #[.slice gx Dx.length ix, .slice Wx Bx.length Xx, .slice Tx Ax.length Ux] 70 (0, 0))) ∧ (w'.heap[kx]? = some (mpObj Lx)) ∧ (w'.heap[Nx]? = some (.cells #[.int .i64 Vx, .bool Sx] 37 (0, 0))) ∧ (w'.heap[Hx]? = some (.cells #[.int .i64 Ox, .bool Px] 37 (0, 0))) ∧ (Below w.heap.size w w')) ?_ ?_
            rotate_left
            intro Jq
            refine join_ (σ := Value × Value × Value) 8 #[wB, wB, wB, wB, wB, wB, wB, wB, xB, xB, wB, wB, wB, wB, xB, wB, xB, xB, xB, xB, xB] (fun s_ => [(41, s_.1), (42, s_.2.1), (51, s_.2.2), (53, .pointer (some ⟨Gx, 0, none⟩))]) (fun s_ w' => (w'.cell? ⟨Gx, 0, none⟩ = some (.slice gx Dx.length ix) ∧ w'.cell? ⟨Gx, 1, none⟩ = some (.slice Wx Bx.length Xx) ∧ w'.cell? ⟨Gx, 2, none⟩ = some (.slice Tx Ax.length Ux) ∧ w'.cell? ⟨Hx, 0, none⟩ = some (.int .i64 Ox) ∧ w'.cell? ⟨Hx, 1, none⟩ = some (.bool Px)) ∧ (Kd.R k37 37 w' w.heap.size (fun k_ => some k_ ≠ (s_.2.1 : Value).ownBlock ∧ k_ ≠ Nx ∧ k_ ≠ Hx) s_.1 My) ∧ (Kd.R k37 37 w' w.heap.size (fun k_ => some k_ ≠ (s_.1 : Value).ownBlock ∧ k_ ≠ Nx ∧ k_ ≠ Hx) s_.2.1 rx) ∧ (Kd.R (Kd.int .i64) 3 w' w.heap.size (fun k_ => some k_ ≠ (vB Wx Bx.length Xx).ownBlock ∧ some k_ ≠ (vB Tx Ax.length Ux).ownBlock) s_.2.2 Ry) ∧ (Kd.R (Kd.int .i64) 3 w' w.heap.size (fun k_ => some k_ ≠ (s_.2.2 : Value).ownBlock ∧ some k_ ≠ (vB Tx Ax.length Ux).ownBlock) (.slice Wx Bx.length Xx) Bx) ∧ (Kd.R (Kd.int .i64) 3 w' w.heap.size (fun k_ => some k_ ≠ (s_.2.2 : Value).ownBlock ∧ some k_ ≠ (vB Wx Bx.length Xx).ownBlock) (.slice Tx Ax.length Ux) Ax) ∧ (w'.heap[bx]? = some (.cells #[.int .i64 a0_0, .int .i64 a0_1, .int .i64 a0_2, .int .i64 a0_3] 26 (0, 0))) ∧ (w'.heap[Zx]? = some (.cells #[.slice none 0 0, .slice none 0 0, .slice none 0 0, .int .i64 Yx] 72 (0, 0))) ∧ (w'.heap[Gx]? = some (.cells #[.slice gx Dx.length ix, .slice Wx Bx.length Xx, .slice Tx Ax.length Ux] 70 (0, 0))) ∧ (w'.heap[kx]? = some (mpObj Lx)) ∧ (w'.heap[Nx]? = some (.cells #[.int .i64 Vx, .bool Sx] 37 (0, 0))) ∧ (w'.heap[Hx]? = some (.cells #[.int .i64 Ox, .bool Px] 37 (0, 0))) ∧ (Below w.heap.size w w')) ?_ ?_
            rotate_left
            intro Iq
            refine join_ (σ := Value × Value × Value) 9 #[wB, wB, wB, wB, xB, wB, wB, wB, wB, xB, wB, wB, wB, wB, xB, xB, xB, xB, xB, xB, xB] (fun s_ => [(41, s_.1), (46, s_.2.1), (51, s_.2.2)]) (fun s_ w' => (w'.cell? ⟨Gx, 0, none⟩ = some (.slice gx Dx.length ix) ∧ w'.cell? ⟨Gx, 1, none⟩ = some (.slice Wx Bx.length Xx) ∧ w'.cell? ⟨Gx, 2, none⟩ = some (.slice Tx Ax.length Ux) ∧ w'.cell? ⟨Hx, 0, none⟩ = some (.int .i64 Ox) ∧ w'.cell? ⟨Hx, 1, none⟩ = some (.bool Px)) ∧ (Kd.R k37 37 w' w.heap.size (fun k_ => some k_ ≠ (vB gx Dx.length ix).ownBlock ∧ k_ ≠ Nx ∧ k_ ≠ Hx) s_.1 My) ∧ (Kd.R (Kd.int .i64) 3 w' w.heap.size (fun k_ => some k_ ≠ (s_.2.2 : Value).ownBlock ∧ some k_ ≠ (vB Wx Bx.length Xx).ownBlock ∧ some k_ ≠ (vB Tx Ax.length Ux).ownBlock) s_.2.1 Py) ∧ (Kd.R (Kd.int .i64) 3 w' w.heap.size (fun k_ => some k_ ≠ (s_.2.1 : Value).ownBlock ∧ some k_ ≠ (vB Wx Bx.length Xx).ownBlock ∧ some k_ ≠ (vB Tx Ax.length Ux).ownBlock) s_.2.2 Ry) ∧ (Kd.R k37 37 w' w.heap.size (fun k_ => some k_ ≠ (s_.1 : Value).ownBlock ∧ k_ ≠ Nx ∧ k_ ≠ Hx) (.slice gx Dx.length ix) Dx) ∧ (Kd.R (Kd.int .i64) 3 w' w.heap.size (fun k_ => some k_ ≠ (s_.2.1 : Value).ownBlock ∧ some k_ ≠ (s_.2.2 : Value).ownBlock ∧ some k_ ≠ (vB Tx Ax.length Ux).ownBlock) (.slice Wx Bx.length Xx) Bx) ∧ (Kd.R (Kd.int .i64) 3 w' w.heap.size (fun k_ => some k_ ≠ (s_.2.1 : Value).ownBlock ∧ some k_ ≠ (s_.2.2 : Value).ownBlock ∧ some k_ ≠ (vB Wx Bx.length Xx).ownBlock) (.slice Tx Ax.length Ux) Ax) ∧ (w'.heap[bx]? = some (.cells #[.int .i64 a0_0, .int .i64 a0_1, .int .i64 a0_2, .int .i64 a0_3] 26 (0, 0))) ∧ (w'.heap[Zx]? = some (.cells #[.slice none 0 0, .slice none 0 0, .slice none 0 0, .int .i64 Yx] 72 (0, 0))) ∧ (w'.heap[Gx]? = some (.cells #[.slice gx Dx.length ix, .slice Wx Bx.length Xx, .slice Tx Ax.length Ux] 70 (0, 0))) ∧ (w'.heap[kx]? = some (mpObj Lx)) ∧ (w'.heap[Nx]? = some (.cells #[.int .i64 Vx, .bool Sx] 37 (0, 0))) ∧ (w'.heap[Hx]? = some (.cells #[.int .i64 Ox, .bool Px] 37 (0, 0))) ∧ (Below w.heap.size w w')) ?_ ?_
            rotate_left
            intro oz
            refine join_ (σ := Value × Value) 9 #[wB, wB, wB, wB, wB, wB, wB, wB, xB, xB, wB, wB, wB, xB, xB, wB, xB, xB, xB, xB, xB] (fun s_ => [(41, s_.1), (42, s_.2), (53, .pointer (some ⟨Gx, 0, none⟩))]) (fun s_ w' => (w'.cell? ⟨Gx, 0, none⟩ = some (.slice gx Dx.length ix) ∧ w'.cell? ⟨Gx, 1, none⟩ = some (.slice Wx Bx.length Xx) ∧ w'.cell? ⟨Gx, 2, none⟩ = some (.slice Tx Ax.length Ux) ∧ w'.cell? ⟨Hx, 0, none⟩ = some (.int .i64 Ox) ∧ w'.cell? ⟨Hx, 1, none⟩ = some (.bool Px)) ∧ (Kd.R k37 37 w' w.heap.size (fun k_ => some k_ ≠ (s_.2 : Value).ownBlock ∧ k_ ≠ Nx ∧ k_ ≠ Hx) s_.1 My) ∧ (Kd.R k37 37 w' w.heap.size (fun k_ => some k_ ≠ (s_.1 : Value).ownBlock ∧ k_ ≠ Nx ∧ k_ ≠ Hx) s_.2 rx) ∧ (Kd.R (Kd.int .i64) 3 w' w.heap.size (fun k_ => some k_ ≠ (vB Tx Ax.length Ux).ownBlock) (.slice Wx Bx.length Xx) Bx) ∧ (Kd.R (Kd.int .i64) 3 w' w.heap.size (fun k_ => some k_ ≠ (vB Wx Bx.length Xx).ownBlock) (.slice Tx Ax.length Ux) Ax) ∧ (w'.heap[bx]? = some (.cells #[.int .i64 a0_0, .int .i64 a0_1, .int .i64 a0_2, .int .i64 a0_3] 26 (0, 0))) ∧ (w'.heap[Zx]? = some (.cells #[.slice none 0 0, .slice none 0 0, .slice none 0 0, .int .i64 Yx] 72 (0, 0))) ∧ (w'.heap[Gx]? = some (.cells #[.slice gx Dx.length ix, .slice Wx Bx.length Xx, .slice Tx Ax.length Ux] 70 (0, 0))) ∧ (w'.heap[kx]? = some (mpObj Lx)) ∧ (w'.heap[Nx]? = some (.cells #[.int .i64 Vx, .bool Sx] 37 (0, 0))) ∧ (w'.heap[Hx]? = some (.cells #[.int .i64 Ox, .bool Px] 37 (0, 0))) ∧ (Below w.heap.size w w')) ?_ ?_
            rotate_left
            intro xq
            refine join_ (σ := Value × Value) 10 #[wB, wB, wB, wB, xB, wB, wB, wB, wB, xB, wB, wB, wB, xB, xB, xB, xB, xB, xB, xB, xB] (fun s_ => [(41, s_.1), (46, s_.2)]) (fun s_ w' => (w'.cell? ⟨Gx, 0, none⟩ = some (.slice gx Dx.length ix) ∧ w'.cell? ⟨Gx, 1, none⟩ = some (.slice Wx Bx.length Xx) ∧ w'.cell? ⟨Gx, 2, none⟩ = some (.slice Tx Ax.length Ux) ∧ w'.cell? ⟨Hx, 0, none⟩ = some (.int .i64 Ox) ∧ w'.cell? ⟨Hx, 1, none⟩ = some (.bool Px)) ∧ (Kd.R k37 37 w' w.heap.size (fun k_ => some k_ ≠ (vB gx Dx.length ix).ownBlock ∧ k_ ≠ Nx ∧ k_ ≠ Hx) s_.1 My) ∧ (Kd.R (Kd.int .i64) 3 w' w.heap.size (fun k_ => some k_ ≠ (vB Wx Bx.length Xx).ownBlock ∧ some k_ ≠ (vB Tx Ax.length Ux).ownBlock) s_.2 Py) ∧ (Kd.R k37 37 w' w.heap.size (fun k_ => some k_ ≠ (s_.1 : Value).ownBlock ∧ k_ ≠ Nx ∧ k_ ≠ Hx) (.slice gx Dx.length ix) Dx) ∧ (Kd.R (Kd.int .i64) 3 w' w.heap.size (fun k_ => some k_ ≠ (s_.2 : Value).ownBlock ∧ some k_ ≠ (vB Tx Ax.length Ux).ownBlock) (.slice Wx Bx.length Xx) Bx) ∧ (Kd.R (Kd.int .i64) 3 w' w.heap.size (fun k_ => some k_ ≠ (s_.2 : Value).ownBlock ∧ some k_ ≠ (vB Wx Bx.length Xx).ownBlock) (.slice Tx Ax.length Ux) Ax) ∧ (w'.heap[bx]? = some (.cells #[.int .i64 a0_0, .int .i64 a0_1, .int .i64 a0_2, .int .i64 a0_3] 26 (0, 0))) ∧ (w'.heap[Zx]? = some (.cells #[.slice none 0 0, .slice none 0 0, .slice none 0 0, .int .i64 Yx] 72 (0, 0))) ∧ (w'.heap[Gx]? = some (.cells #[.slice gx Dx.length ix, .slice Wx Bx.length Xx, .slice Tx Ax.length Ux] 70 (0, 0))) ∧ (w'.heap[kx]? = some (mpObj Lx)) ∧ (w'.heap[Nx]? = some (.cells #[.int .i64 Vx, .bool Sx] 37 (0, 0))) ∧ (w'.heap[Hx]? = some (.cells #[.int .i64 Ox, .bool Px] 37 (0, 0))) ∧ (Below w.heap.size w w')) ?_ ?_
            rotate_left
            intro lq
            refine join_ (σ := Value × Value) 10 #[wB, wB, wB, wB, xB, wB, wB, wB, xB, xB, wB, wB, wB, wB, xB, xB, xB, xB, xB, xB, xB] (fun s_ => [(41, s_.1), (51, s_.2)]) (fun s_ w' => (w'.cell? ⟨Gx, 0, none⟩ = some (.slice gx Dx.length ix) ∧ w'.cell? ⟨Gx, 1, none⟩ = some (.slice Wx Bx.length Xx) ∧ w'.cell? ⟨Gx, 2, none⟩ = some (.slice Tx Ax.length Ux) ∧ w'.cell? ⟨Hx, 0, none⟩ = some (.int .i64 Ox) ∧ w'.cell? ⟨Hx, 1, none⟩ = some (.bool Px)) ∧ (Kd.R k37 37 w' w.heap.size (fun k_ => some k_ ≠ (vB gx Dx.length ix).ownBlock ∧ k_ ≠ Nx ∧ k_ ≠ Hx) s_.1 My) ∧ (Kd.R (Kd.int .i64) 3 w' w.heap.size (fun k_ => some k_ ≠ (vB Wx Bx.length Xx).ownBlock ∧ some k_ ≠ (vB Tx Ax.length Ux).ownBlock) s_.2 Ry) ∧ (Kd.R k37 37 w' w.heap.size (fun k_ => some k_ ≠ (s_.1 : Value).ownBlock ∧ k_ ≠ Nx ∧ k_ ≠ Hx) (.slice gx Dx.length ix) Dx) ∧ (Kd.R (Kd.int .i64) 3 w' w.heap.size (fun k_ => some k_ ≠ (s_.2 : Value).ownBlock ∧ some k_ ≠ (vB Tx Ax.length Ux).ownBlock) (.slice Wx Bx.length Xx) Bx) ∧ (Kd.R (Kd.int .i64) 3 w' w.heap.size (fun k_ => some k_ ≠ (s_.2 : Value).ownBlock ∧ some k_ ≠ (vB Wx Bx.length Xx).ownBlock) (.slice Tx Ax.length Ux) Ax) ∧ (w'.heap[bx]? = some (.cells #[.int .i64 a0_0, .int .i64 a0_1, .int .i64 a0_2, .int .i64 a0_3] 26 (0, 0))) ∧ (w'.heap[Zx]? = some (.cells #[.slice none 0 0, .slice none 0 0, .slice none 0 0, .int .i64 Yx] 72 (0, 0))) ∧ (w'.heap[Gx]? = some (.cells #[.slice gx Dx.length ix, .slice Wx Bx.length Xx, .slice Tx Ax.length Ux] 70 (0, 0))) ∧ (w'.heap[kx]? = some (mpObj Lx)) ∧ (w'.heap[Nx]? = some (.cells #[.int .i64 Vx, .bool Sx] 37 (0, 0))) ∧ (w'.heap[Hx]? = some (.cells #[.int .i64 Ox, .bool Px] 37 (0, 0))) ∧ (Below w.heap.size w w')) ?_ ?_
            rotate_left
            intro Uq
            refine join_ (σ := Value × Value) 10 #[wB, wB, wB, xB, xB, wB, wB, wB, wB, xB, wB, wB, wB, wB, xB, xB, xB, xB, xB, xB, xB] (fun s_ => [(46, s_.1), (51, s_.2)]) (fun s_ w' => (w'.cell? ⟨Gx, 0, none⟩ = some (.slice gx Dx.length ix) ∧ w'.cell? ⟨Gx, 1, none⟩ = some (.slice Wx Bx.length Xx) ∧ w'.cell? ⟨Gx, 2, none⟩ = some (.slice Tx Ax.length Ux) ∧ w'.cell? ⟨Hx, 0, none⟩ = some (.int .i64 Ox) ∧ w'.cell? ⟨Hx, 1, none⟩ = some (.bool Px)) ∧ (Kd.R (Kd.int .i64) 3 w' w.heap.size (fun k_ => some k_ ≠ (s_.2 : Value).ownBlock ∧ some k_ ≠ (vB Wx Bx.length Xx).ownBlock ∧ some k_ ≠ (vB Tx Ax.length Ux).ownBlock) s_.1 Py) ∧ (Kd.R (Kd.int .i64) 3 w' w.heap.size (fun k_ => some k_ ≠ (s_.1 : Value).ownBlock ∧ some k_ ≠ (vB Wx Bx.length Xx).ownBlock ∧ some k_ ≠ (vB Tx Ax.length Ux).ownBlock) s_.2 Ry) ∧ (Kd.R k37 37 w' w.heap.size (fun k_ => k_ ≠ Nx ∧ k_ ≠ Hx) (.slice gx Dx.length ix) Dx) ∧ (Kd.R (Kd.int .i64) 3 w' w.heap.size (fun k_ => some k_ ≠ (s_.1 : Value).ownBlock ∧ some k_ ≠ (s_.2 : Value).ownBlock ∧ some k_ ≠ (vB Tx Ax.length Ux).ownBlock) (.slice Wx Bx.length Xx) Bx) ∧ (Kd.R (Kd.int .i64) 3 w' w.heap.size (fun k_ => some k_ ≠ (s_.1 : Value).ownBlock ∧ some k_ ≠ (s_.2 : Value).ownBlock ∧ some k_ ≠ (vB Wx Bx.length Xx).ownBlock) (.slice Tx Ax.length Ux) Ax) ∧ (w'.heap[bx]? = some (.cells #[.int .i64 a0_0, .int .i64 a0_1, .int .i64 a0_2, .int .i64 a0_3] 26 (0, 0))) ∧ (w'.heap[Zx]? = some (.cells #[.slice none 0 0, .slice none 0 0, .slice none 0 0, .int .i64 Yx] 72 (0, 0))) ∧ (w'.heap[Gx]? = some (.cells #[.slice gx Dx.length ix, .slice Wx Bx.length Xx, .slice Tx Ax.length Ux] 70 (0, 0))) ∧ (w'.heap[kx]? = some (mpObj Lx)) ∧ (w'.heap[Nx]? = some (.cells #[.int .i64 Vx, .bool Sx] 37 (0, 0))) ∧ (w'.heap[Hx]? = some (.cells #[.int .i64 Ox, .bool Px] 37 (0, 0))) ∧ (Below w.heap.size w w')) ?_ ?_
            rotate_left
            intro Vq
            refine join_ (σ := Value) 11 #[wB, wB, wB, wB, xB, wB, wB, wB, xB, xB, wB, wB, wB, xB, xB, xB, xB, xB, xB, xB, xB] (fun s_ => [(41, s_)]) (fun s_ w' => (w'.cell? ⟨Gx, 0, none⟩ = some (.slice gx Dx.length ix) ∧ w'.cell? ⟨Gx, 1, none⟩ = some (.slice Wx Bx.length Xx) ∧ w'.cell? ⟨Gx, 2, none⟩ = some (.slice Tx Ax.length Ux) ∧ w'.cell? ⟨Hx, 0, none⟩ = some (.int .i64 Ox) ∧ w'.cell? ⟨Hx, 1, none⟩ = some (.bool Px)) ∧ (Kd.R k37 37 w' w.heap.size (fun k_ => some k_ ≠ (vB gx Dx.length ix).ownBlock ∧ k_ ≠ Nx ∧ k_ ≠ Hx) s_ My) ∧ (Kd.R k37 37 w' w.heap.size (fun k_ => some k_ ≠ (s_ : Value).ownBlock ∧ k_ ≠ Nx ∧ k_ ≠ Hx) (.slice gx Dx.length ix) Dx) ∧ (Kd.R (Kd.int .i64) 3 w' w.heap.size (fun k_ => some k_ ≠ (vB Tx Ax.length Ux).ownBlock) (.slice Wx Bx.length Xx) Bx) ∧ (Kd.R (Kd.int .i64) 3 w' w.heap.size (fun k_ => some k_ ≠ (vB Wx Bx.length Xx).ownBlock) (.slice Tx Ax.length Ux) Ax) ∧ (w'.heap[bx]? = some (.cells #[.int .i64 a0_0, .int .i64 a0_1, .int .i64 a0_2, .int .i64 a0_3] 26 (0, 0))) ∧ (w'.heap[Zx]? = some (.cells #[.slice none 0 0, .slice none 0 0, .slice none 0 0, .int .i64 Yx] 72 (0, 0))) ∧ (w'.heap[Gx]? = some (.cells #[.slice gx Dx.length ix, .slice Wx Bx.length Xx, .slice Tx Ax.length Ux] 70 (0, 0))) ∧ (w'.heap[kx]? = some (mpObj Lx)) ∧ (w'.heap[Nx]? = some (.cells #[.int .i64 Vx, .bool Sx] 37 (0, 0))) ∧ (w'.heap[Hx]? = some (.cells #[.int .i64 Ox, .bool Px] 37 (0, 0))) ∧ (Below w.heap.size w w')) ?_ ?_
            rotate_left
            intro Aj
            refine join_ (σ := Value) 11 #[wB, wB, wB, xB, xB, wB, wB, wB, wB, xB, wB, wB, wB, xB, xB, xB, xB, xB, xB, xB, xB] (fun s_ => [(46, s_)]) (fun s_ w' => (w'.cell? ⟨Gx, 0, none⟩ = some (.slice gx Dx.length ix) ∧ w'.cell? ⟨Gx, 1, none⟩ = some (.slice Wx Bx.length Xx) ∧ w'.cell? ⟨Gx, 2, none⟩ = some (.slice Tx Ax.length Ux) ∧ w'.cell? ⟨Hx, 0, none⟩ = some (.int .i64 Ox) ∧ w'.cell? ⟨Hx, 1, none⟩ = some (.bool Px)) ∧ (Kd.R (Kd.int .i64) 3 w' w.heap.size (fun k_ => some k_ ≠ (vB Wx Bx.length Xx).ownBlock ∧ some k_ ≠ (vB Tx Ax.length Ux).ownBlock) s_ Py) ∧ (Kd.R k37 37 w' w.heap.size (fun k_ => k_ ≠ Nx ∧ k_ ≠ Hx) (.slice gx Dx.length ix) Dx) ∧ (Kd.R (Kd.int .i64) 3 w' w.heap.size (fun k_ => some k_ ≠ (s_ : Value).ownBlock ∧ some k_ ≠ (vB Tx Ax.length Ux).ownBlock) (.slice Wx Bx.length Xx) Bx) ∧ (Kd.R (Kd.int .i64) 3 w' w.heap.size (fun k_ => some k_ ≠ (s_ : Value).ownBlock ∧ some k_ ≠ (vB Wx Bx.length Xx).ownBlock) (.slice Tx Ax.length Ux) Ax) ∧ (w'.heap[bx]? = some (.cells #[.int .i64 a0_0, .int .i64 a0_1, .int .i64 a0_2, .int .i64 a0_3] 26 (0, 0))) ∧ (w'.heap[Zx]? = some (.cells #[.slice none 0 0, .slice none 0 0, .slice none 0 0, .int .i64 Yx] 72 (0, 0))) ∧ (w'.heap[Gx]? = some (.cells #[.slice gx Dx.length ix, .slice Wx Bx.length Xx, .slice Tx Ax.length Ux] 70 (0, 0))) ∧ (w'.heap[kx]? = some (mpObj Lx)) ∧ (w'.heap[Nx]? = some (.cells #[.int .i64 Vx, .bool Sx] 37 (0, 0))) ∧ (w'.heap[Hx]? = some (.cells #[.int .i64 Ox, .bool Px] 37 (0, 0))) ∧ (Below w.heap.size w w')) ?_ ?_
            rotate_left
            intro Bj
            refine join_ (σ := Value) 11 #[wB, wB, wB, xB, xB, wB, wB, wB, xB, xB, wB, wB, wB, wB, xB, xB, xB, xB, xB, xB, xB] (fun s_ => [(51, s_)]) (fun s_ w' => (w'.cell? ⟨Gx, 0, none⟩ = some (.slice gx Dx.length ix) ∧ w'.cell? ⟨Gx, 1, none⟩ = some (.slice Wx Bx.length Xx) ∧ w'.cell? ⟨Gx, 2, none⟩ = some (.slice Tx Ax.length Ux) ∧ w'.cell? ⟨Hx, 0, none⟩ = some (.int .i64 Ox) ∧ w'.cell? ⟨Hx, 1, none⟩ = some (.bool Px)) ∧ (Kd.R (Kd.int .i64) 3 w' w.heap.size (fun k_ => some k_ ≠ (vB Wx Bx.length Xx).ownBlock ∧ some k_ ≠ (vB Tx Ax.length Ux).ownBlock) s_ Ry) ∧ (Kd.R k37 37 w' w.heap.size (fun k_ => k_ ≠ Nx ∧ k_ ≠ Hx) (.slice gx Dx.length ix) Dx) ∧ (Kd.R (Kd.int .i64) 3 w' w.heap.size (fun k_ => some k_ ≠ (s_ : Value).ownBlock ∧ some k_ ≠ (vB Tx Ax.length Ux).ownBlock) (.slice Wx Bx.length Xx) Bx) ∧ (Kd.R (Kd.int .i64) 3 w' w.heap.size (fun k_ => some k_ ≠ (s_ : Value).ownBlock ∧ some k_ ≠ (vB Wx Bx.length Xx).ownBlock) (.slice Tx Ax.length Ux) Ax) ∧ (w'.heap[bx]? = some (.cells #[.int .i64 a0_0, .int .i64 a0_1, .int .i64 a0_2, .int .i64 a0_3] 26 (0, 0))) ∧ (w'.heap[Zx]? = some (.cells #[.slice none 0 0, .slice none 0 0, .slice none 0 0, .int .i64 Yx] 72 (0, 0))) ∧ (w'.heap[Gx]? = some (.cells #[.slice gx Dx.length ix, .slice Wx Bx.length Xx, .slice Tx Ax.length Ux] 70 (0, 0))) ∧ (w'.heap[kx]? = some (mpObj Lx)) ∧ (w'.heap[Nx]? = some (.cells #[.int .i64 Vx, .bool Sx] 37 (0, 0))) ∧ (w'.heap[Hx]? = some (.cells #[.int .i64 Ox, .bool Px] 37 (0, 0))) ∧ (Below w.heap.size w w')) ?_ ?_
            rotate_left
            intro zq
            refine three_ (i := 3) (j := 8) (k := 13) (Ni := some 41) (Nj := some 46) (Nk := some 51) #[wB, wB, wB, wB, xB, wB, wB, wB, xB, xB, wB, wB, wB, xB, xB, xB, xB, xB, xB, xB, xB] #[wB, wB, wB, xB, xB, wB, wB, wB, wB, xB, wB, wB, wB, xB, xB, xB, xB, xB, xB, xB, xB] #[wB, wB, wB, xB, xB, wB, wB, wB, xB, xB, wB, wB, wB, wB, xB, xB, xB, xB, xB, xB, xB] rfl rfl rfl rfl rfl rfl (three_of HT_.out (by kernel_rfl)) (by decide) (by decide) (by decide) (fun K hK => ?_) (fun K hK => ?_) (fun K hK => ?_)
            ·
             skip
             refine qA k37 _ 37 ?hg (N := 41) ?hd (xs := ([(⟨Ox, Px⟩ : S37)] : List (S37))) (inner := [.int .i64 Ox, .bool Px]) (ok := fun _ => True) (okp := fun _ => True) ?hr ?hp (fun _ hk => hk) trivial (Below.refl _ _) (Nat.le_refl _) (by simp) ?_; (case hd => rfl); (case hg => rfl); (case hr => first | (go_simp; done) | (go_simp; rfl)); (case hp => exact (Reps.c2 (show Kd.M k37 _ _ _ (⟨Ox, Px⟩ : S37) [.int .i64 Ox, .bool Px] from (k37_mkM _ _ _ (⟨Ox, Px⟩ : S37) )) (Reps.none _ _)))
             intro Ly w63 ho64 hb hg_ hnew_
             clear hg_ hnew_
             (first | rw [← Tz.out] at ho64 | (simp only [Int.reduceToNat] at ho64; rw [← Tz.out] at ho64))
             replace Fx := Aside0.mk (kA (by (with_reducible repeat (first | apply gA | apply mA | apply lA)); exact Fx.out) hb)
             replace Ex := Aside0.mk (kA (by (with_reducible repeat (first | apply gA | apply mA | apply lA)); exact Ex.out) hb)
             have lx := Aside0.mk (rA (wA (wA (vA ho64 (sA (by (with_reducible repeat (first | apply gA | apply mA | apply lA)); exact Ix.out))) (g := Nx) (o := .cells #[.int .i64 Vx, .bool Sx] 37 (0, 0)) (by (with_reducible repeat (first | refine mB ?_ _ | refine nB ?_ | refine oB ?_ _)); exact Qx.out)) (g := Hx) (o := .cells #[.int .i64 Ox, .bool Px] 37 (0, 0)) (by (with_reducible repeat (first | refine mB ?_ _ | refine nB ?_ | refine oB ?_ _)); exact Jx.out)) (kB (by repeat (first | (with_reducible first | exact HB.out | apply gB | apply hB | apply iB | refine jB ?_ cx.out | refine jB ?_ dx.out | refine jB ?_ ex.out | refine jB ?_ fx.out | refine jB ?_ jx.out | refine jB ?_ mx.out) | exact HB.out))))
             replace Ix := Aside0.mk (nA (by (with_reducible repeat (first | apply gA | apply mA | apply lA)); exact Ix.out) (jA ho64) hb)
             replace Kx := Aside0.mk (qB (g := bx) (o := .cells #[.int .i64 a0_0, .int .i64 a0_1, .int .i64 a0_2, .int .i64 a0_3] 26 (0, 0)) (by (with_reducible repeat (first | refine mB ?_ _ | refine nB ?_ | refine oB ?_ _)); exact Kx.out) hb)
             replace Mx := Aside0.mk (qB (g := Zx) (o := .cells #[.slice none 0 0, .slice none 0 0, .slice none 0 0, .int .i64 Yx] 72 (0, 0)) (by (with_reducible repeat (first | refine mB ?_ _ | refine nB ?_ | refine oB ?_ _)); exact Mx.out) hb)
             replace Cx := Aside0.mk (qB (g := Gx) (o := .cells #[.slice gx Dx.length ix, .slice Wx Bx.length Xx, .slice Tx Ax.length Ux] 70 (0, 0)) (by (with_reducible repeat (first | refine mB ?_ _ | refine nB ?_ | refine oB ?_ _)); exact Cx.out) hb)
             replace Rx := Aside0.mk (qB (g := kx) (o := mpObj Lx) (by (with_reducible repeat (first | refine mB ?_ _ | refine nB ?_ | refine oB ?_ _)); exact Rx.out) hb)
             replace Qx := Aside0.mk (qB (g := Nx) (o := .cells #[.int .i64 Vx, .bool Sx] 37 (0, 0)) (by (with_reducible repeat (first | refine mB ?_ _ | refine nB ?_ | refine oB ?_ _)); exact Qx.out) hb)
             replace Jx := Aside0.mk (qB (g := Hx) (o := .cells #[.int .i64 Ox, .bool Px] 37 (0, 0)) (by (with_reducible repeat (first | refine mB ?_ _ | refine nB ?_ | refine oB ?_ _)); exact Jx.out) hb)
             replace HB := Aside0.mk (lB (by repeat (first | (with_reducible first | exact HB.out | apply gB | apply hB | apply iB | refine jB ?_ cx.out | refine jB ?_ dx.out | refine jB ?_ ex.out | refine jB ?_ fx.out | refine jB ?_ jx.out | refine jB ?_ mx.out) | exact HB.out)) hb)
             clear hb ho64
             refine hK.out _ _ ⟨(pB Cx.out 0).trans rfl, (pB Cx.out 1).trans rfl, (pB Cx.out 2).trans rfl, (pB Jx.out 0).trans rfl, (pB Jx.out 1).trans rfl⟩ (fun ox => ?_)
             clear hK K
             refine norm_ (a' := ?_) ?_ ?_
             rotate_left
             ·
              show Act.put _ (some 41) _ = _
              simp only [Act.put, sB, tB, uB, i64_w, i32_w]
              rfl
             exact norm_ (by first | (simp only [rB, Act.put, sB, tB, uB]; done) | (simp only [rB, Act.put, sB, tB, uB]; rfl)) (Aj (Ly) _ ⟨ox, (tA lx.out (fun _ hk => ⟨hk.1.1.2, hk.1.2, hk.2⟩)), (tA Ix.out (fun _ hk => ⟨hk.2, hk.1.1, hk.1.2⟩)), Fx.out, Ex.out, Kx.out, Mx.out, Cx.out, Rx.out, Qx.out, Jx.out, (HB.out)⟩)
            ·
             skip
             refine qA (Kd.int .i64) _ 3 ?hg (N := 46) ?hd (xs := ([Wy] : List Int)) (inner := [.int .i64 Wy]) (ok := fun _ => True) (okp := fun _ => True) ?hr ?hp (fun _ hk => hk) trivial (Below.refl _ _) (Nat.le_refl _) (by simp) ?_; (case hd => rfl); (case hg => rfl); (case hr => first | (go_simp; done) | (go_simp; rfl)); (case hp => exact (Reps.one (show Kd.M (Kd.int .i64) _ _ _ Wy [.int .i64 Wy] from rfl) (Reps.none _ _)))
             intro xx w63 ho64 hb hg_ hnew_
             clear hg_ hnew_
             (first | rw [← Gz.out] at ho64 | (simp only [Int.reduceToNat] at ho64; rw [← Gz.out] at ho64))
             replace Ix := Aside0.mk (kA (by (with_reducible repeat (first | apply gA | apply mA | apply lA)); exact Ix.out) hb)
             have nx := Aside0.mk (rA (vA (vA ho64 (sA (by (with_reducible repeat (first | apply gA | apply mA | apply lA)); exact Fx.out))) (sA (by (with_reducible repeat (first | apply gA | apply mA | apply lA)); exact Ex.out))) (kB (by repeat (first | (with_reducible first | exact HB.out | apply gB | apply hB | apply iB | refine jB ?_ cx.out | refine jB ?_ dx.out | refine jB ?_ ex.out | refine jB ?_ fx.out | refine jB ?_ jx.out | refine jB ?_ mx.out) | exact HB.out))))
             replace Fx := Aside0.mk (nA (by (with_reducible repeat (first | apply gA | apply mA | apply lA)); exact Fx.out) (jA ho64) hb)
             replace Ex := Aside0.mk (nA (by (with_reducible repeat (first | apply gA | apply mA | apply lA)); exact Ex.out) (jA ho64) hb)
             replace Kx := Aside0.mk (qB (g := bx) (o := .cells #[.int .i64 a0_0, .int .i64 a0_1, .int .i64 a0_2, .int .i64 a0_3] 26 (0, 0)) (by (with_reducible repeat (first | refine mB ?_ _ | refine nB ?_ | refine oB ?_ _)); exact Kx.out) hb)
             replace Mx := Aside0.mk (qB (g := Zx) (o := .cells #[.slice none 0 0, .slice none 0 0, .slice none 0 0, .int .i64 Yx] 72 (0, 0)) (by (with_reducible repeat (first | refine mB ?_ _ | refine nB ?_ | refine oB ?_ _)); exact Mx.out) hb)
             replace Cx := Aside0.mk (qB (g := Gx) (o := .cells #[.slice gx Dx.length ix, .slice Wx Bx.length Xx, .slice Tx Ax.length Ux] 70 (0, 0)) (by (with_reducible repeat (first | refine mB ?_ _ | refine nB ?_ | refine oB ?_ _)); exact Cx.out) hb)
             replace Rx := Aside0.mk (qB (g := kx) (o := mpObj Lx) (by (with_reducible repeat (first | refine mB ?_ _ | refine nB ?_ | refine oB ?_ _)); exact Rx.out) hb)
             replace Qx := Aside0.mk (qB (g := Nx) (o := .cells #[.int .i64 Vx, .bool Sx] 37 (0, 0)) (by (with_reducible repeat (first | refine mB ?_ _ | refine nB ?_ | refine oB ?_ _)); exact Qx.out) hb)
             replace Jx := Aside0.mk (qB (g := Hx) (o := .cells #[.int .i64 Ox, .bool Px] 37 (0, 0)) (by (with_reducible repeat (first | refine mB ?_ _ | refine nB ?_ | refine oB ?_ _)); exact Jx.out) hb)
             replace HB := Aside0.mk (lB (by repeat (first | (with_reducible first | exact HB.out | apply gB | apply hB | apply iB | refine jB ?_ cx.out | refine jB ?_ dx.out | refine jB ?_ ex.out | refine jB ?_ fx.out | refine jB ?_ jx.out | refine jB ?_ mx.out) | exact HB.out)) hb)
             clear hb ho64
             refine hK.out _ _ ⟨(pB Cx.out 0).trans rfl, (pB Cx.out 1).trans rfl, (pB Cx.out 2).trans rfl, (pB Jx.out 0).trans rfl, (pB Jx.out 1).trans rfl⟩ (fun ox => ?_)
             clear hK K
             refine norm_ (a' := ?_) ?_ ?_
             rotate_left
             ·
              show Act.put _ (some 46) _ = _
              simp only [Act.put, sB, tB, uB, i64_w, i32_w]
              rfl
             exact norm_ (by first | (simp only [rB, Act.put, sB, tB, uB]; done) | (simp only [rB, Act.put, sB, tB, uB]; rfl)) (Bj (xx) _ ⟨ox, (tA nx.out (fun _ hk => ⟨hk.1.2, hk.2⟩)), Ix.out, (tA Fx.out (fun _ hk => ⟨hk.2, hk.1⟩)), (tA Ex.out (fun _ hk => ⟨hk.2, hk.1⟩)), Kx.out, Mx.out, Cx.out, Rx.out, Qx.out, Jx.out, (HB.out)⟩)
            ·
             skip
             refine qA (Kd.int .i64) _ 3 ?hg (N := 51) ?hd (xs := ([Ty] : List Int)) (inner := [.int .i64 Ty]) (ok := fun _ => True) (okp := fun _ => True) ?hr ?hp (fun _ hk => hk) trivial (Below.refl _ _) (Nat.le_refl _) (by simp) ?_; (case hd => rfl); (case hg => rfl); (case hr => first | (go_simp; done) | (go_simp; rfl)); (case hp => exact (Reps.one (show Kd.M (Kd.int .i64) _ _ _ Ty [.int .i64 Ty] from rfl) (Reps.none _ _)))
             intro By w63 ho64 hb hg_ hnew_
             clear hg_ hnew_
             (first | rw [← Az.out] at ho64 | (simp only [Int.reduceToNat] at ho64; rw [← Az.out] at ho64))
             replace Ix := Aside0.mk (kA (by (with_reducible repeat (first | apply gA | apply mA | apply lA)); exact Ix.out) hb)
             have px := Aside0.mk (rA (vA (vA ho64 (sA (by (with_reducible repeat (first | apply gA | apply mA | apply lA)); exact Fx.out))) (sA (by (with_reducible repeat (first | apply gA | apply mA | apply lA)); exact Ex.out))) (kB (by repeat (first | (with_reducible first | exact HB.out | apply gB | apply hB | apply iB | refine jB ?_ cx.out | refine jB ?_ dx.out | refine jB ?_ ex.out | refine jB ?_ fx.out | refine jB ?_ jx.out | refine jB ?_ mx.out) | exact HB.out))))
             replace Fx := Aside0.mk (nA (by (with_reducible repeat (first | apply gA | apply mA | apply lA)); exact Fx.out) (jA ho64) hb)
             replace Ex := Aside0.mk (nA (by (with_reducible repeat (first | apply gA | apply mA | apply lA)); exact Ex.out) (jA ho64) hb)
             replace Kx := Aside0.mk (qB (g := bx) (o := .cells #[.int .i64 a0_0, .int .i64 a0_1, .int .i64 a0_2, .int .i64 a0_3] 26 (0, 0)) (by (with_reducible repeat (first | refine mB ?_ _ | refine nB ?_ | refine oB ?_ _)); exact Kx.out) hb)
             replace Mx := Aside0.mk (qB (g := Zx) (o := .cells #[.slice none 0 0, .slice none 0 0, .slice none 0 0, .int .i64 Yx] 72 (0, 0)) (by (with_reducible repeat (first | refine mB ?_ _ | refine nB ?_ | refine oB ?_ _)); exact Mx.out) hb)
             replace Cx := Aside0.mk (qB (g := Gx) (o := .cells #[.slice gx Dx.length ix, .slice Wx Bx.length Xx, .slice Tx Ax.length Ux] 70 (0, 0)) (by (with_reducible repeat (first | refine mB ?_ _ | refine nB ?_ | refine oB ?_ _)); exact Cx.out) hb)
             replace Rx := Aside0.mk (qB (g := kx) (o := mpObj Lx) (by (with_reducible repeat (first | refine mB ?_ _ | refine nB ?_ | refine oB ?_ _)); exact Rx.out) hb)
             replace Qx := Aside0.mk (qB (g := Nx) (o := .cells #[.int .i64 Vx, .bool Sx] 37 (0, 0)) (by (with_reducible repeat (first | refine mB ?_ _ | refine nB ?_ | refine oB ?_ _)); exact Qx.out) hb)
             replace Jx := Aside0.mk (qB (g := Hx) (o := .cells #[.int .i64 Ox, .bool Px] 37 (0, 0)) (by (with_reducible repeat (first | refine mB ?_ _ | refine nB ?_ | refine oB ?_ _)); exact Jx.out) hb)
             replace HB := Aside0.mk (lB (by repeat (first | (with_reducible first | exact HB.out | apply gB | apply hB | apply iB | refine jB ?_ cx.out | refine jB ?_ dx.out | refine jB ?_ ex.out | refine jB ?_ fx.out | refine jB ?_ jx.out | refine jB ?_ mx.out) | exact HB.out)) hb)
             clear hb ho64
             refine hK.out _ _ ⟨(pB Cx.out 0).trans rfl, (pB Cx.out 1).trans rfl, (pB Cx.out 2).trans rfl, (pB Jx.out 0).trans rfl, (pB Jx.out 1).trans rfl⟩ (fun ox => ?_)
             clear hK K
             refine norm_ (a' := ?_) ?_ ?_
             rotate_left
             ·
              show Act.put _ (some 51) _ = _
              simp only [Act.put, sB, tB, uB, i64_w, i32_w]
              rfl
             exact norm_ (by first | (simp only [rB, Act.put, sB, tB, uB]; done) | (simp only [rB, Act.put, sB, tB, uB]; rfl)) (zq (By) _ ⟨ox, (tA px.out (fun _ hk => ⟨hk.1.2, hk.2⟩)), Ix.out, (tA Fx.out (fun _ hk => ⟨hk.2, hk.1⟩)), (tA Ex.out (fun _ hk => ⟨hk.2, hk.1⟩)), Kx.out, Mx.out, Cx.out, Rx.out, Qx.out, Jx.out, (HB.out)⟩)
            ·
             skip
             rintro ⟨Ly, Vy, xx, Fz, By⟩ w73 ⟨hS_, cy, dy, ey, fy, gy, iy, jy, ky, ly, my, Qy, qy, nz⟩
             have sx : Aside0 (Kd.R k37 37 w73 w.heap.size (fun k_ => some k_ ≠ (Vy : Value).ownBlock ∧ k_ ≠ Nx ∧ k_ ≠ Hx) Ly My) := ⟨cy⟩
             have tx : Aside0 (Kd.R k37 37 w73 w.heap.size (fun k_ => some k_ ≠ (Ly : Value).ownBlock ∧ k_ ≠ Nx ∧ k_ ≠ Hx) Vy rx) := ⟨dy⟩
             have vx : Aside0 (Kd.R (Kd.int .i64) 3 w73 w.heap.size (fun k_ => some k_ ≠ (Fz : Value).ownBlock ∧ some k_ ≠ (By : Value).ownBlock ∧ some k_ ≠ (vB Tx Ax.length Ux).ownBlock) xx Py) := ⟨ey⟩
             have zx : Aside0 (Kd.R (Kd.int .i64) 3 w73 w.heap.size (fun k_ => some k_ ≠ (xx : Value).ownBlock ∧ some k_ ≠ (By : Value).ownBlock ∧ some k_ ≠ (vB Tx Ax.length Ux).ownBlock) Fz Gy) := ⟨fy⟩
             have Cy : Aside0 (Kd.R (Kd.int .i64) 3 w73 w.heap.size (fun k_ => some k_ ≠ (xx : Value).ownBlock ∧ some k_ ≠ (Fz : Value).ownBlock ∧ some k_ ≠ (vB Tx Ax.length Ux).ownBlock) By Ry) := ⟨gy⟩
             have Dy : Aside0 (Kd.R (Kd.int .i64) 3 w73 w.heap.size (fun k_ => some k_ ≠ (xx : Value).ownBlock ∧ some k_ ≠ (Fz : Value).ownBlock ∧ some k_ ≠ (By : Value).ownBlock) (.slice Tx Ax.length Ux) Ax) := ⟨iy⟩
             have Ey : Aside0 (w73.heap[bx]? = some (.cells #[.int .i64 a0_0, .int .i64 a0_1, .int .i64 a0_2, .int .i64 a0_3] 26 (0, 0))) := ⟨jy⟩
             have Hy : Aside0 (w73.heap[Zx]? = some (.cells #[.slice none 0 0, .slice none 0 0, .slice none 0 0, .int .i64 Yx] 72 (0, 0))) := ⟨ky⟩
             have Iy : Aside0 (w73.heap[Gx]? = some (.cells #[.slice gx Dx.length ix, .slice Wx Bx.length Xx, .slice Tx Ax.length Ux] 70 (0, 0))) := ⟨ly⟩
             have Jy : Aside0 (w73.heap[kx]? = some (mpObj Lx)) := ⟨my⟩
             have Ay : Aside0 (w73.heap[Nx]? = some (.cells #[.int .i64 Vx, .bool Sx] 37 (0, 0))) := ⟨Qy⟩
             have Ny : Aside0 (w73.heap[Hx]? = some (.cells #[.int .i64 Ox, .bool Px] 37 (0, 0))) := ⟨qy⟩
             have vy : Aside0 (Below w.heap.size w w73) := ⟨nz⟩
             clear Ix Fx Ex Kx Mx Cx Rx Qx Jx HB cy dy ey fy gy iy jy ky ly my Qy qy nz
             have lx := sx
             have yx := tx
             have nx := vx
             have py := zx
             have px := Cy
             have Ex := Dy
             have Kx := Ey
             have Mx := Hy
             have Cx := Iy
             have Rx := Jy
             have Qx := Ay
             have Jx := Ny
             have HB := vy
             clear sx tx vx zx Cy Dy Ey Hy Iy Jy Ay Ny vy
             have ox : w73.cell? ⟨Gx, 0, none⟩ = some (.slice gx Dx.length ix) ∧ w73.cell? ⟨Gx, 1, none⟩ = some (.slice Wx Bx.length Xx) ∧ w73.cell? ⟨Gx, 2, none⟩ = some (.slice Tx Ax.length Ux) ∧ w73.cell? ⟨Hx, 0, none⟩ = some (.int .i64 Ox) ∧ w73.cell? ⟨Hx, 1, none⟩ = some (.bool Px) := hS_
             obtain ⟨bq, cq, eo75⟩ := bB px.out
             (first | subst eo75 | (injection eo75 with f1_ f2_ f3_; have f4_ := f1_.symm; have f5_ := f3_.symm; clear f1_ f2_ f3_; subst f4_; subst f5_))
             refine norm_ (a' := ?_) ?_ ?_
             rotate_left
             ·
              simp only [rB, Act.put, sB, tB, uB]
              rfl
             refine one_ (i := 14) (N := some 52) #[wB, wB, wB, wB, wB, wB, wB, wB, wB, wB, wB, wB, wB, wB, wB, wB, xB, xB, xB, xB, xB] rfl rfl (one_of HT_.out (by kernel_rfl)) (by decide) (fun K hK => ?_)
             refine hA (Kd.int .i64) (w0 := w) w.heap.size (by rfl) (.tmp 49) (.tmp 51) 47 3 (.int .i64 0) 8 rfl Try.underlying47 info3 rfl (by decide) (by omega) (.slice Tx Ax.length Ux) Ax Ry _ _ _ (fun k_ => some k_ ≠ (xx : Value).ownBlock ∧ some k_ ≠ (Fz : Value).ownBlock ∧ some k_ ≠ (vB bq Ry.length cq).ownBlock) (fun _ => False) rfl rfl ?aO ?aR (fun _ _ h => h) (fun _ h => h.elim) ?aF ?aB ?aS ?aL ?_
             (case aR => repeat (first | exact (zA px.out).2.2 | (with_reducible refine aA ?_ _) | (with_reducible refine cA ?_ _) | (with_reducible refine bA ?_)))
             (case aB => exact (by repeat (first | (with_reducible first | exact HB.out | apply gB | apply hB | apply iB | refine jB ?_ cx.out | refine jB ?_ dx.out | refine jB ?_ ex.out | refine jB ?_ fx.out | refine jB ?_ jx.out | refine jB ?_ mx.out) | exact HB.out)))
             (case aF => exact (fun k_ hk => ⟨Kd.fresh' (sA (by (with_reducible repeat (first | apply gA | apply mA | apply lA)); exact nx.out)) k_ hk, Kd.fresh' (sA (by (with_reducible repeat (first | apply gA | apply mA | apply lA)); exact py.out)) k_ hk, Kd.fresh' (sA (by (with_reducible repeat (first | apply gA | apply mA | apply lA)); exact px.out)) k_ hk⟩))
             (case aO => exact (by (with_reducible repeat (first | apply gA | apply mA | apply lA)); exact Ex.out))
             (case aS => exact (kB (by repeat (first | (with_reducible first | exact HB.out | apply gB | apply hB | apply iB | refine jB ?_ cx.out | refine jB ?_ dx.out | refine jB ?_ ex.out | refine jB ?_ fx.out | refine jB ?_ jx.out | refine jB ?_ mx.out) | exact HB.out))))
             (case aL => have := tq.out; omega)
             intro Hj w74 ho hb hg hat
             rw [← vq.out] at ho
             replace Kx := Aside0.mk (blk_grown (g := bx) (o := .cells #[.int .i64 a0_0, .int .i64 a0_1, .int .i64 a0_2, .int .i64 a0_3] 26 (0, 0)) (by (with_reducible repeat (first | refine mB ?_ _ | refine nB ?_ | refine oB ?_ _)); exact Kx.out) hg (uA Ex.out Kx.out (by decide)))
             replace Mx := Aside0.mk (blk_grown (g := Zx) (o := .cells #[.slice none 0 0, .slice none 0 0, .slice none 0 0, .int .i64 Yx] 72 (0, 0)) (by (with_reducible repeat (first | refine mB ?_ _ | refine nB ?_ | refine oB ?_ _)); exact Mx.out) hg (uA Ex.out Mx.out (by decide)))
             replace Cx := Aside0.mk (blk_grown (g := Gx) (o := .cells #[.slice gx Dx.length ix, .slice Wx Bx.length Xx, .slice Tx Ax.length Ux] 70 (0, 0)) (by (with_reducible repeat (first | refine mB ?_ _ | refine nB ?_ | refine oB ?_ _)); exact Cx.out) hg (uA Ex.out Cx.out (by decide)))
             replace Rx := Aside0.mk (blk_grown (g := kx) (o := mpObj Lx) (by (with_reducible repeat (first | refine mB ?_ _ | refine nB ?_ | refine oB ?_ _)); exact Rx.out) hg (mp_ne Ex.out Rx.out))
             replace Qx := Aside0.mk (blk_grown (g := Nx) (o := .cells #[.int .i64 Vx, .bool Sx] 37 (0, 0)) (by (with_reducible repeat (first | refine mB ?_ _ | refine nB ?_ | refine oB ?_ _)); exact Qx.out) hg (uA Ex.out Qx.out (by decide)))
             replace Jx := Aside0.mk (blk_grown (g := Hx) (o := .cells #[.int .i64 Ox, .bool Px] 37 (0, 0)) (by (with_reducible repeat (first | refine mB ?_ _ | refine nB ?_ | refine oB ?_ _)); exact Jx.out) hg (uA Ex.out Jx.out (by decide)))
             replace lx := Aside0.mk (yA (by (with_reducible repeat (first | apply gA | apply mA | apply lA)); exact lx.out) (cB (by (with_reducible repeat (first | apply gA | apply mA | apply lA)); exact Ex.out)) (by decide) hg)
             replace yx := Aside0.mk (yA (by (with_reducible repeat (first | apply gA | apply mA | apply lA)); exact yx.out) (cB (by (with_reducible repeat (first | apply gA | apply mA | apply lA)); exact Ex.out)) (by decide) hg)
             replace nx := Aside0.mk (fA (ok := (fun k_ => some k_ ≠ (Fz : Value).ownBlock ∧ some k_ ≠ (vB bq Ry.length cq).ownBlock)) (by (with_reducible repeat (first | apply gA | apply mA | apply lA)); exact tA nx.out (fun _ hk => ⟨⟨hk.1, hk.2.1⟩, hk.2.2⟩)) hg hat)
             replace py := Aside0.mk (fA (ok := (fun k_ => some k_ ≠ (xx : Value).ownBlock ∧ some k_ ≠ (vB bq Ry.length cq).ownBlock)) (by (with_reducible repeat (first | apply gA | apply mA | apply lA)); exact tA py.out (fun _ hk => ⟨⟨hk.1, hk.2.1⟩, hk.2.2⟩)) hg hat)
             replace px := Aside0.mk (fA (ok := (fun k_ => some k_ ≠ (xx : Value).ownBlock ∧ some k_ ≠ (Fz : Value).ownBlock)) (by (with_reducible repeat (first | apply gA | apply mA | apply lA)); exact tA px.out (fun _ hk => ⟨⟨hk.1, hk.2.1⟩, hk.2.2⟩)) hg hat)
             replace HB := Aside0.mk (hb)
             have Nz := Aside0.mk (ho)
             clear Ex ho hb hg hat
             obtain ⟨ny, oy, eo76⟩ := bB yx.out
             (first | subst eo76 | (injection eo76 with f1_ f2_ f3_; have f4_ := f1_.symm; have f5_ := f3_.symm; clear f1_ f2_ f3_; subst f4_; subst f5_))
             obtain ⟨ry, sy, eo78⟩ := bB py.out
             (first | subst eo78 | (injection eo78 with f1_ f2_ f3_; have f4_ := f1_.symm; have f5_ := f3_.symm; clear f1_ f2_ f3_; subst f4_; subst f5_))
             obtain ⟨xy, yy, eo80⟩ := bB Nz.out
             (first | subst eo80 | (injection eo80 with f1_ f2_ f3_; have f4_ := f1_.symm; have f5_ := f3_.symm; clear f1_ f2_ f3_; subst f4_; subst f5_))
             refine hK.out _ _ ⟨(pB Cx.out 0).trans rfl, (pB Cx.out 1).trans rfl, (pB Cx.out 2).trans rfl, (pB Jx.out 0).trans rfl, (pB Jx.out 1).trans rfl⟩ (fun ox => ?_)
             clear hK K
             refine norm_ (a' := ?_) ?_ ?_
             rotate_left
             ·
              show Act.put _ (some 52) _ = _
              simp only [Act.put, sB, tB, uB, i64_w, i32_w]
              rfl
             refine last_ (i := 16) (N := none) #[wB, wB, wB, wB, wB, wB, wB, wB, wB, wB, wB, wB, wB, wB, wB, wB, wB, xB, xB, xB, xB] rfl rfl (one_of HT_.out (by kernel_rfl)) (by decide) (fun K hK => ?_)
             have hs77 : w74.cell? ⟨Gx, 0, none⟩ = some (.slice gx Dx.length ix) := (pB Cx.out 0).trans rfl
             have hfs77 := blk_frozen Cx.out 0
             have hns77_0 := Oy.out
             have hns77_1 := Fy.out
             have hns77_3 := qx.out
             have hns77_4 := ty.out
             have hns77_5 := Dz.out
             have hms77_0 := Lz.out
             have hms77_1 := Jz.out
             have hms77_3 := Cz.out
             have hms77_4 := Sy.out
             have hms77_5 := Kz.out
             refine skip_ (w1 := ?_) (by rfl) rfl ?_ ?_
             rotate_left
             ·
              go_simp
              rfl
             refine hK.out _ _ ?_
             clear hK K
             refine pure_ (i := 17) (N := some 54) (v := ?_) (a' := ?_) #[wB, wB, wB, wB, wB, wB, wB, wB, wB, wB, wB, wB, wB, wB, wB, wB, wB, wB, xB, xB, xB] rfl rfl (any_of HT_.out (by kernel_rfl)) (fun _ _ _ h => h) (Or.inl ⟨by rfl, ?_⟩) ?_ ?_
             rotate_left
             ·
              intro w'
              go_simp
              with_reducible rfl
             rotate_left
             ·
              simp only [Act.put, sB, tB, uB, i64_w, i32_w]
              rfl
             refine last_ (i := 18) (N := none) #[wB, wB, wB, wB, wB, wB, wB, wB, wB, wB, wB, wB, wB, wB, wB, wB, wB, wB, wB, xB, xB] rfl rfl (one_of HT_.out (by kernel_rfl)) (by decide) (fun K hK => ?_)
             have hs79 : w74.cell? ⟨Gx, 1, none⟩ = some (.slice Wx Bx.length Xx) := (pB Cx.out 1).trans rfl
             have hfs79 := blk_frozen Cx.out 1
             have hns79_0 := Oy.out
             have hns79_1 := Fy.out
             have hns79_3 := qx.out
             have hns79_4 := ty.out
             have hns79_5 := Dz.out
             have hms79_0 := Lz.out
             have hms79_1 := Jz.out
             have hms79_3 := Cz.out
             have hms79_4 := Sy.out
             have hms79_5 := Kz.out
             refine skip_ (w1 := ?_) (by rfl) rfl ?_ ?_
             rotate_left
             ·
              go_simp
              rfl
             refine hK.out _ _ ?_
             clear hK K
             refine pure_ (i := 19) (N := some 55) (v := ?_) (a' := ?_) #[wB, wB, wB, wB, wB, wB, wB, wB, wB, wB, wB, wB, wB, wB, wB, wB, wB, wB, wB, wB, xB] rfl rfl (any_of HT_.out (by kernel_rfl)) (fun _ _ _ h => h) (Or.inl ⟨by rfl, ?_⟩) ?_ ?_
             rotate_left
             ·
              intro w'
              go_simp
              with_reducible rfl
             rotate_left
             ·
              simp only [Act.put, sB, tB, uB, i64_w, i32_w]
              rfl
             refine last_ (i := 20) (N := none) #[wB, wB, wB, wB, wB, wB, wB, wB, wB, wB, wB, wB, wB, wB, wB, wB, wB, wB, wB, wB, wB] rfl rfl (one_of HT_.out (by kernel_rfl)) (by decide) (fun K hK => ?_)
             have hs81 : w74.cell? ⟨Gx, 2, none⟩ = some (.slice Tx Ax.length Ux) := (pB Cx.out 2).trans rfl
             have hfs81 := blk_frozen Cx.out 2
             have hns81_0 := Oy.out
             have hns81_1 := Fy.out
             have hns81_3 := qx.out
             have hns81_4 := ty.out
             have hns81_5 := Dz.out
             have hms81_0 := Lz.out
             have hms81_1 := Jz.out
             have hms81_3 := Cz.out
             have hms81_4 := Sy.out
             have hms81_5 := Kz.out
             refine skip_ (w1 := ?_) (by rfl) rfl ?_ ?_
             rotate_left
             ·
              go_simp
              rfl
             refine hK.out _ _ ?_
             clear hK K
             refine done_ (done_of HT_.out (by kernel_rfl)) ?_
             have H := HX_.out
             clear HX_
             by_cases c40 : (mpGet (⟨Ox, Px⟩ : S37) Lx).isSome = true
             ·
              rw [if_pos c40] at H
              have c40b0 : (mpGet (⟨Ox, Px⟩ : S37) Lx).isSome = true := c40
              clear c40
              simp only [Option.some.injEq, Prod.mk.injEq] at H
              obtain ⟨rfl, rfl, rfl, rfl, rfl⟩ := H
              have hcz82_0 : w74.cell? ⟨Hx, 0, none⟩ = some (.int .i64 Ox) := (pB Jx.out 0).trans rfl
              have hcz82_1 : w74.cell? ⟨Hx, 1, none⟩ = some (.bool Px) := (pB Jx.out 1).trans rfl
              have hfz82_0 := blk_frozen Jx.out 0
              have hfz82_1 := blk_frozen Jx.out 1
              have hlkk83 : (Instr.lookup 88 (.map (some kx)) (.agg #[.int .i64 Ox, .bool Px]) true).run Try.prog (((w74.setCell ⟨Gx, 0, none⟩ (.slice ny rx.length oy)).setCell ⟨Gx, 1, none⟩ (.slice ry Gy.length sy)).setCell ⟨Gx, 2, none⟩ (.slice xy Ky.length yy)) = .ok (.tuple #[.int .i64 ((mpGet (⟨Ox, Px⟩ : S37) Lx).getD 0), .bool (mpGet (⟨Ox, Px⟩ : S37) Lx).isSome]) (((w74.setCell ⟨Gx, 0, none⟩ (.slice ny rx.length oy)).setCell ⟨Gx, 1, none⟩ (.slice ry Gy.length sy)).setCell ⟨Gx, 2, none⟩ (.slice xy Ky.length yy)) := mp_look (by (with_reducible repeat (first | refine mB ?_ _ | refine nB ?_ | refine oB ?_ _)); refine blk_far ?_ qx.out _; (with_reducible repeat (first | refine mB ?_ _ | refine nB ?_ | refine oB ?_ _)); refine blk_far ?_ qx.out _; (with_reducible repeat (first | refine mB ?_ _ | refine nB ?_ | refine oB ?_ _)); refine blk_far ?_ qx.out _; (with_reducible repeat (first | refine mB ?_ _ | refine nB ?_ | refine oB ?_ _)); exact Rx.out) (⟨Ox, Px⟩ : S37) (of_decide_eq_true (by first | (with_reducible assumption) | assumption))
              have hnb84 := Jz.out
              have hnc84 := Fy.out
              have hnb85 := Cz.out
              have hnc85 := qx.out
              have hcz86_0 : w74.cell? ⟨Gx, 0, none⟩ = some (.slice gx Dx.length ix) := (pB Cx.out 0).trans rfl
              have hcz86_1 : w74.cell? ⟨Gx, 1, none⟩ = some (.slice Wx Bx.length Xx) := (pB Cx.out 1).trans rfl
              have hcz86_2 : w74.cell? ⟨Gx, 2, none⟩ = some (.slice Tx Ax.length Ux) := (pB Cx.out 2).trans rfl
              have hfz86_0 := blk_frozen Cx.out 0
              have hfz86_1 := blk_frozen Cx.out 1
              have hfz86_2 := blk_frozen Cx.out 2
              have hnb87 := dz.out
              have hnc87 := Qq.out
              have hcz88_0 : w74.cell? ⟨Zx, 0, none⟩ = some (.slice none 0 0) := (pB Mx.out 0).trans rfl
              have hcz88_1 : w74.cell? ⟨Zx, 1, none⟩ = some (.slice none 0 0) := (pB Mx.out 1).trans rfl
              have hcz88_2 : w74.cell? ⟨Zx, 2, none⟩ = some (.slice none 0 0) := (pB Mx.out 2).trans rfl
              have hcz88_3 : w74.cell? ⟨Zx, 3, none⟩ = some (.int .i64 Yx) := (pB Mx.out 3).trans rfl
              have hfz88_0 := blk_frozen Mx.out 0
              have hfz88_1 := blk_frozen Mx.out 1
              have hfz88_2 := blk_frozen Mx.out 2
              have hfz88_3 := blk_frozen Mx.out 3
              try go_wp2
              refine bodyPost_ret (results_ct rfl _ _ Zx 72 #[.slice ny rx.length oy, .slice ry Gy.length sy, .slice xy Ky.length yy, .int .i64 ((mpGet (⟨Ox, Px⟩ : S37) Lx).getD 0)] (0, 0) _ rfl (by (with_reducible repeat (first | refine mB ?_ _ | refine nB ?_ | refine oB ?_ _)); refine blk_put (cs := #[.slice ny rx.length oy, .slice ry Gy.length sy, .slice xy Ky.length yy, .int .i64 Yx]) ?_ 3 _ rfl; (with_reducible repeat (first | refine mB ?_ _ | refine nB ?_ | refine oB ?_ _)); refine blk_put (cs := #[.slice ny rx.length oy, .slice ry Gy.length sy, .slice none 0 0, .int .i64 Yx]) ?_ 2 _ rfl; (with_reducible repeat (first | refine mB ?_ _ | refine nB ?_ | refine oB ?_ _)); refine blk_put (cs := #[.slice ny rx.length oy, .slice none 0 0, .slice none 0 0, .int .i64 Yx]) ?_ 1 _ rfl; (with_reducible repeat (first | refine mB ?_ _ | refine nB ?_ | refine oB ?_ _)); refine blk_put (cs := #[.slice none 0 0, .slice none 0 0, .slice none 0 0, .int .i64 Yx]) ?_ 0 _ rfl; (with_reducible repeat (first | refine mB ?_ _ | refine nB ?_ | refine oB ?_ _)); refine blk_far ?_ Fy.out _; (with_reducible repeat (first | refine mB ?_ _ | refine nB ?_ | refine oB ?_ _)); refine blk_far ?_ Fy.out _; (with_reducible repeat (first | refine mB ?_ _ | refine nB ?_ | refine oB ?_ _)); refine blk_far ?_ Fy.out _; (with_reducible repeat (first | refine mB ?_ _ | refine nB ?_ | refine oB ?_ _)); exact Mx.out) Try.underlying72 rfl (by kernel_rfl)) rfl ?_
              exact ⟨_, _, _, by first | rfl | (simp [errW_none, errW_some] <;> rfl) | (simp [*, errW_none, errW_some] <;> rfl), by (with_reducible repeat (first | apply gA | apply mA | apply lA)); exact tA (pA (p := ⟨Zx, 3, none⟩) (pA (p := ⟨Zx, 2, none⟩) (pA (p := ⟨Zx, 1, none⟩) (pA (p := ⟨Zx, 0, none⟩) (pA (p := ⟨Gx, 2, none⟩) (pA (p := ⟨Gx, 1, none⟩) (pA (p := ⟨Gx, 0, none⟩) (dB (dB yx.out Cx.out (by decide)) Mx.out (by decide)) (fun _ hk => hk.1.2) (.slice ny rx.length oy)) (fun _ hk => hk.1.2) (.slice ry Gy.length sy)) (fun _ hk => hk.1.2) (.slice xy Ky.length yy)) (fun _ hk => hk.2) (.slice ny rx.length oy)) (fun _ hk => hk.2) (.slice ry Gy.length sy)) (fun _ hk => hk.2) (.slice xy Ky.length yy)) (fun _ hk => hk.2) (.int .i64 ((mpGet (⟨Ox, Px⟩ : S37) Lx).getD 0))) (fun _ hk => trivial), by (with_reducible repeat (first | apply gA | apply mA | apply lA)); exact tA (pA (p := ⟨Zx, 3, none⟩) (pA (p := ⟨Zx, 2, none⟩) (pA (p := ⟨Zx, 1, none⟩) (pA (p := ⟨Zx, 0, none⟩) (pA (p := ⟨Gx, 2, none⟩) (pA (p := ⟨Gx, 1, none⟩) (pA (p := ⟨Gx, 0, none⟩) (dB (dB py.out Cx.out (by decide)) Mx.out (by decide)) (fun _ hk => hk.1.2) (.slice ny rx.length oy)) (fun _ hk => hk.1.2) (.slice ry Gy.length sy)) (fun _ hk => hk.1.2) (.slice xy Ky.length yy)) (fun _ hk => hk.2) (.slice ny rx.length oy)) (fun _ hk => hk.2) (.slice ry Gy.length sy)) (fun _ hk => hk.2) (.slice xy Ky.length yy)) (fun _ hk => hk.2) (.int .i64 ((mpGet (⟨Ox, Px⟩ : S37) Lx).getD 0))) (fun _ hk => hk.1.1.2), by (with_reducible repeat (first | apply gA | apply mA | apply lA)); exact tA (pA (p := ⟨Zx, 3, none⟩) (pA (p := ⟨Zx, 2, none⟩) (pA (p := ⟨Zx, 1, none⟩) (pA (p := ⟨Zx, 0, none⟩) (pA (p := ⟨Gx, 2, none⟩) (pA (p := ⟨Gx, 1, none⟩) (pA (p := ⟨Gx, 0, none⟩) (dB (dB Nz.out Cx.out (by decide)) Mx.out (by decide)) (fun _ hk => hk.1.2) (.slice ny rx.length oy)) (fun _ hk => hk.1.2) (.slice ry Gy.length sy)) (fun _ hk => hk.1.2) (.slice xy Ky.length yy)) (fun _ hk => hk.2) (.slice ny rx.length oy)) (fun _ hk => hk.2) (.slice ry Gy.length sy)) (fun _ hk => hk.2) (.slice xy Ky.length yy)) (fun _ hk => hk.2) (.int .i64 ((mpGet (⟨Ox, Px⟩ : S37) Lx).getD 0))) (fun _ hk => hk.1.1.2.1), by repeat (first | (with_reducible first | exact HB.out | apply gB | apply hB | apply iB | refine jB ?_ cx.out | refine jB ?_ dx.out | refine jB ?_ ex.out | refine jB ?_ fx.out | refine jB ?_ jx.out | refine jB ?_ mx.out) | exact HB.out)⟩
             ·
              rw [if_neg c40] at H
              have c40b0 : (mpGet (⟨Ox, Px⟩ : S37) Lx).isSome = false := by simpa using c40
              clear c40
              by_cases c89 : mpGet (⟨Ox, Px⟩ : S37) Lx = none
              ·
               rw [if_pos c89] at H
               have c89b0 := eq_true c89
               have c89b1 : decide (mpGet (⟨Ox, Px⟩ : S37) Lx = none) = true := decide_eq_true c89
               clear c89
               have H' := Aside0.mk H
               clear H
               have hcz131_0 : w74.cell? ⟨Hx, 0, none⟩ = some (.int .i64 Ox) := (pB Jx.out 0).trans rfl
               have hcz131_1 : w74.cell? ⟨Hx, 1, none⟩ = some (.bool Px) := (pB Jx.out 1).trans rfl
               have hfz131_0 := blk_frozen Jx.out 0
               have hfz131_1 := blk_frozen Jx.out 1
               have hlkk132 : (Instr.lookup 88 (.map (some kx)) (.agg #[.int .i64 Ox, .bool Px]) true).run Try.prog (((w74.setCell ⟨Gx, 0, none⟩ (.slice ny rx.length oy)).setCell ⟨Gx, 1, none⟩ (.slice ry Gy.length sy)).setCell ⟨Gx, 2, none⟩ (.slice xy Ky.length yy)) = .ok (.tuple #[.int .i64 ((mpGet (⟨Ox, Px⟩ : S37) Lx).getD 0), .bool (mpGet (⟨Ox, Px⟩ : S37) Lx).isSome]) (((w74.setCell ⟨Gx, 0, none⟩ (.slice ny rx.length oy)).setCell ⟨Gx, 1, none⟩ (.slice ry Gy.length sy)).setCell ⟨Gx, 2, none⟩ (.slice xy Ky.length yy)) := mp_look (by (with_reducible repeat (first | refine mB ?_ _ | refine nB ?_ | refine oB ?_ _)); refine blk_far ?_ qx.out _; (with_reducible repeat (first | refine mB ?_ _ | refine nB ?_ | refine oB ?_ _)); refine blk_far ?_ qx.out _; (with_reducible repeat (first | refine mB ?_ _ | refine nB ?_ | refine oB ?_ _)); refine blk_far ?_ qx.out _; (with_reducible repeat (first | refine mB ?_ _ | refine nB ?_ | refine oB ?_ _)); exact Rx.out) (⟨Ox, Px⟩ : S37) (of_decide_eq_true (by first | (with_reducible assumption) | assumption))
               have hnb133 := Jz.out
               have hnc133 := Fy.out
               have hnb134 := Cz.out
               have hnc134 := qx.out
               have hcz135_0 : w74.cell? ⟨Gx, 0, none⟩ = some (.slice gx Dx.length ix) := (pB Cx.out 0).trans rfl
               have hcz135_1 : w74.cell? ⟨Gx, 1, none⟩ = some (.slice Wx Bx.length Xx) := (pB Cx.out 1).trans rfl
               have hcz135_2 : w74.cell? ⟨Gx, 2, none⟩ = some (.slice Tx Ax.length Ux) := (pB Cx.out 2).trans rfl
               have hfz135_0 := blk_frozen Cx.out 0
               have hfz135_1 := blk_frozen Cx.out 1
               have hfz135_2 := blk_frozen Cx.out 2
               try go_wp2_with (first | (refine mp_put_event ?hg ?hN (mo := ?mo_w136) (xo := ?xo_w136) (vo := ?vo_w136) ?ho (g := kx) (m := Lx) (⟨Ox, Px⟩ : S37) (wrap64 ((rx.length : Int) - 1)) ?hm ?hx ?hv ?hb ?hw ?hget ?_; (case ho => first | (apply Or.inl; rfl) | (apply Or.inr; rfl)); (case hg => rfl); (case hN => rfl); (case hm => first | rfl | (go_simp; done)); (case hx => first | rfl | (go_simp; done)); (case hv => first | rfl | (go_simp; done)); (case hb => exact by (with_reducible repeat (first | refine mB ?_ _ | refine nB ?_ | refine oB ?_ _)); refine blk_far ?_ qx.out _; (with_reducible repeat (first | refine mB ?_ _ | refine nB ?_ | refine oB ?_ _)); refine blk_far ?_ qx.out _; (with_reducible repeat (first | refine mB ?_ _ | refine nB ?_ | refine oB ?_ _)); refine blk_far ?_ qx.out _; (with_reducible repeat (first | refine mB ?_ _ | refine nB ?_ | refine oB ?_ _)); exact Rx.out); (case hw => exact of_decide_eq_true (by first | (with_reducible assumption) | assumption)); (case hget => exact of_decide_eq_true (by first | (with_reducible assumption) | assumption)); intro w136 hbox hg; have sx := Aside0.mk (blk_grown (g := bx) (o := .cells #[.int .i64 a0_0, .int .i64 a0_1, .int .i64 a0_2, .int .i64 a0_3] 26 (0, 0)) (by (with_reducible repeat (first | refine mB ?_ _ | refine nB ?_ | refine oB ?_ _)); refine blk_far ?_ Oy.out _; (with_reducible repeat (first | refine mB ?_ _ | refine nB ?_ | refine oB ?_ _)); refine blk_far ?_ Oy.out _; (with_reducible repeat (first | refine mB ?_ _ | refine nB ?_ | refine oB ?_ _)); refine blk_far ?_ Oy.out _; (with_reducible repeat (first | refine mB ?_ _ | refine nB ?_ | refine oB ?_ _)); exact Kx.out) hg (fun e_ => cz.out (Option.some.inj e_))); have tx := Aside0.mk (blk_grown (g := Zx) (o := .cells #[.slice none 0 0, .slice none 0 0, .slice none 0 0, .int .i64 Yx] 72 (0, 0)) (by (with_reducible repeat (first | refine mB ?_ _ | refine nB ?_ | refine oB ?_ _)); refine blk_far ?_ Fy.out _; (with_reducible repeat (first | refine mB ?_ _ | refine nB ?_ | refine oB ?_ _)); refine blk_far ?_ Fy.out _; (with_reducible repeat (first | refine mB ?_ _ | refine nB ?_ | refine oB ?_ _)); refine blk_far ?_ Fy.out _; (with_reducible repeat (first | refine mB ?_ _ | refine nB ?_ | refine oB ?_ _)); exact Mx.out) hg (fun e_ => dz.out (Option.some.inj e_))); have vx := Aside0.mk (blk_grown (g := Gx) (o := .cells #[.slice ny rx.length oy, .slice ry Gy.length sy, .slice xy Ky.length yy] 70 (0, 0)) (by (with_reducible repeat (first | refine mB ?_ _ | refine nB ?_ | refine oB ?_ _)); refine blk_put (cs := #[.slice ny rx.length oy, .slice ry Gy.length sy, .slice Tx Ax.length Ux]) ?_ 2 _ rfl; (with_reducible repeat (first | refine mB ?_ _ | refine nB ?_ | refine oB ?_ _)); refine blk_put (cs := #[.slice ny rx.length oy, .slice Wx Bx.length Xx, .slice Tx Ax.length Ux]) ?_ 1 _ rfl; (with_reducible repeat (first | refine mB ?_ _ | refine nB ?_ | refine oB ?_ _)); refine blk_put (cs := #[.slice gx Dx.length ix, .slice Wx Bx.length Xx, .slice Tx Ax.length Ux]) ?_ 0 _ rfl; (with_reducible repeat (first | refine mB ?_ _ | refine nB ?_ | refine oB ?_ _)); exact Cx.out) hg (fun e_ => Cz.out (Option.some.inj e_))); have zx := Aside0.mk (hbox); have Cy := Aside0.mk (blk_grown (g := Nx) (o := .cells #[.int .i64 Vx, .bool Sx] 37 (0, 0)) (by (with_reducible repeat (first | refine mB ?_ _ | refine nB ?_ | refine oB ?_ _)); refine blk_far ?_ ty.out _; (with_reducible repeat (first | refine mB ?_ _ | refine nB ?_ | refine oB ?_ _)); refine blk_far ?_ ty.out _; (with_reducible repeat (first | refine mB ?_ _ | refine nB ?_ | refine oB ?_ _)); refine blk_far ?_ ty.out _; (with_reducible repeat (first | refine mB ?_ _ | refine nB ?_ | refine oB ?_ _)); exact Qx.out) hg (fun e_ => Mz.out (Option.some.inj e_))); have Dy := Aside0.mk (blk_grown (g := Hx) (o := .cells #[.int .i64 Ox, .bool Px] 37 (0, 0)) (by (with_reducible repeat (first | refine mB ?_ _ | refine nB ?_ | refine oB ?_ _)); refine blk_far ?_ Dz.out _; (with_reducible repeat (first | refine mB ?_ _ | refine nB ?_ | refine oB ?_ _)); refine blk_far ?_ Dz.out _; (with_reducible repeat (first | refine mB ?_ _ | refine nB ?_ | refine oB ?_ _)); refine blk_far ?_ Dz.out _; (with_reducible repeat (first | refine mB ?_ _ | refine nB ?_ | refine oB ?_ _)); exact Jx.out) hg (fun e_ => tz.out (Option.some.inj e_))); have Ey := Aside0.mk (R_mapgrown (by (with_reducible repeat (first | apply gA | apply mA | apply lA)); exact (tA (pA (p := ⟨Gx, 2, none⟩) (pA (p := ⟨Gx, 1, none⟩) (pA (p := ⟨Gx, 0, none⟩) (dB lx.out Cx.out (by decide)) (fun _ hk => hk.2) (.slice ny rx.length oy)) (fun _ hk => hk.2) (.slice ry Gy.length sy)) (fun _ hk => hk.2) (.slice xy Ky.length yy)) (fun _ h_ => h_.1))) (by (with_reducible repeat (first | refine mB ?_ _ | refine nB ?_ | refine oB ?_ _)); refine blk_far ?_ qx.out _; (with_reducible repeat (first | refine mB ?_ _ | refine nB ?_ | refine oB ?_ _)); refine blk_far ?_ qx.out _; (with_reducible repeat (first | refine mB ?_ _ | refine nB ?_ | refine oB ?_ _)); refine blk_far ?_ qx.out _; (with_reducible repeat (first | refine mB ?_ _ | refine nB ?_ | refine oB ?_ _)); exact Rx.out) hg); have Hy := Aside0.mk (R_mapgrown (by (with_reducible repeat (first | apply gA | apply mA | apply lA)); exact (tA (pA (p := ⟨Gx, 2, none⟩) (pA (p := ⟨Gx, 1, none⟩) (pA (p := ⟨Gx, 0, none⟩) (dB yx.out Cx.out (by decide)) (fun _ hk => hk.2) (.slice ny rx.length oy)) (fun _ hk => hk.2) (.slice ry Gy.length sy)) (fun _ hk => hk.2) (.slice xy Ky.length yy)) (fun _ h_ => h_.1))) (by (with_reducible repeat (first | refine mB ?_ _ | refine nB ?_ | refine oB ?_ _)); refine blk_far ?_ qx.out _; (with_reducible repeat (first | refine mB ?_ _ | refine nB ?_ | refine oB ?_ _)); refine blk_far ?_ qx.out _; (with_reducible repeat (first | refine mB ?_ _ | refine nB ?_ | refine oB ?_ _)); refine blk_far ?_ qx.out _; (with_reducible repeat (first | refine mB ?_ _ | refine nB ?_ | refine oB ?_ _)); exact Rx.out) hg); have Iy := Aside0.mk (R_mapgrown (by (with_reducible repeat (first | apply gA | apply mA | apply lA)); exact (tA (pA (p := ⟨Gx, 2, none⟩) (pA (p := ⟨Gx, 1, none⟩) (pA (p := ⟨Gx, 0, none⟩) (dB nx.out Cx.out (by decide)) (fun _ hk => hk.2) (.slice ny rx.length oy)) (fun _ hk => hk.2) (.slice ry Gy.length sy)) (fun _ hk => hk.2) (.slice xy Ky.length yy)) (fun _ h_ => h_.1))) (by (with_reducible repeat (first | refine mB ?_ _ | refine nB ?_ | refine oB ?_ _)); refine blk_far ?_ qx.out _; (with_reducible repeat (first | refine mB ?_ _ | refine nB ?_ | refine oB ?_ _)); refine blk_far ?_ qx.out _; (with_reducible repeat (first | refine mB ?_ _ | refine nB ?_ | refine oB ?_ _)); refine blk_far ?_ qx.out _; (with_reducible repeat (first | refine mB ?_ _ | refine nB ?_ | refine oB ?_ _)); exact Rx.out) hg); have Jy := Aside0.mk (R_mapgrown (by (with_reducible repeat (first | apply gA | apply mA | apply lA)); exact (tA (pA (p := ⟨Gx, 2, none⟩) (pA (p := ⟨Gx, 1, none⟩) (pA (p := ⟨Gx, 0, none⟩) (dB py.out Cx.out (by decide)) (fun _ hk => hk.2) (.slice ny rx.length oy)) (fun _ hk => hk.2) (.slice ry Gy.length sy)) (fun _ hk => hk.2) (.slice xy Ky.length yy)) (fun _ h_ => h_.1))) (by (with_reducible repeat (first | refine mB ?_ _ | refine nB ?_ | refine oB ?_ _)); refine blk_far ?_ qx.out _; (with_reducible repeat (first | refine mB ?_ _ | refine nB ?_ | refine oB ?_ _)); refine blk_far ?_ qx.out _; (with_reducible repeat (first | refine mB ?_ _ | refine nB ?_ | refine oB ?_ _)); refine blk_far ?_ qx.out _; (with_reducible repeat (first | refine mB ?_ _ | refine nB ?_ | refine oB ?_ _)); exact Rx.out) hg); have Ay := Aside0.mk (R_mapgrown (by (with_reducible repeat (first | apply gA | apply mA | apply lA)); exact (tA (pA (p := ⟨Gx, 2, none⟩) (pA (p := ⟨Gx, 1, none⟩) (pA (p := ⟨Gx, 0, none⟩) (dB px.out Cx.out (by decide)) (fun _ hk => hk.2) (.slice ny rx.length oy)) (fun _ hk => hk.2) (.slice ry Gy.length sy)) (fun _ hk => hk.2) (.slice xy Ky.length yy)) (fun _ h_ => h_.1))) (by (with_reducible repeat (first | refine mB ?_ _ | refine nB ?_ | refine oB ?_ _)); refine blk_far ?_ qx.out _; (with_reducible repeat (first | refine mB ?_ _ | refine nB ?_ | refine oB ?_ _)); refine blk_far ?_ qx.out _; (with_reducible repeat (first | refine mB ?_ _ | refine nB ?_ | refine oB ?_ _)); refine blk_far ?_ qx.out _; (with_reducible repeat (first | refine mB ?_ _ | refine nB ?_ | refine oB ?_ _)); exact Rx.out) hg); have Ny := Aside0.mk (R_mapgrown (by (with_reducible repeat (first | apply gA | apply mA | apply lA)); exact (tA (pA (p := ⟨Gx, 2, none⟩) (pA (p := ⟨Gx, 1, none⟩) (pA (p := ⟨Gx, 0, none⟩) (dB Nz.out Cx.out (by decide)) (fun _ hk => hk.2) (.slice ny rx.length oy)) (fun _ hk => hk.2) (.slice ry Gy.length sy)) (fun _ hk => hk.2) (.slice xy Ky.length yy)) (fun _ h_ => h_.1))) (by (with_reducible repeat (first | refine mB ?_ _ | refine nB ?_ | refine oB ?_ _)); refine blk_far ?_ qx.out _; (with_reducible repeat (first | refine mB ?_ _ | refine nB ?_ | refine oB ?_ _)); refine blk_far ?_ qx.out _; (with_reducible repeat (first | refine mB ?_ _ | refine nB ?_ | refine oB ?_ _)); refine blk_far ?_ qx.out _; (with_reducible repeat (first | refine mB ?_ _ | refine nB ?_ | refine oB ?_ _)); exact Rx.out) hg); have vy := Aside0.mk (Below.grown (by repeat (first | (with_reducible first | exact HB.out | apply gB | apply hB | apply iB | refine jB ?_ cx.out | refine jB ?_ dx.out | refine jB ?_ ex.out | refine jB ?_ fx.out | refine jB ?_ jx.out | refine jB ?_ mx.out) | exact HB.out)) hg ((kB (by repeat (first | (with_reducible first | exact HB.out | apply gB | apply hB | apply iB | refine jB ?_ cx.out | refine jB ?_ dx.out | refine jB ?_ ex.out | refine jB ?_ fx.out | refine jB ?_ jx.out | refine jB ?_ mx.out) | exact HB.out)))) (fun k_ e_ => (Option.some.inj e_) ▸ fq.out)); clear Kx; clear Mx; clear Cx; clear Rx; clear Qx; clear Jx; clear lx; clear yx; clear nx; clear py; clear px; clear Nz; clear HB; have Kx := sx; have Mx := tx; have Cx := vx; have Rx := zx; have Qx := Cy; have Jx := Dy; have lx := Ey; have yx := Hy; have nx := Iy; have py := Jy; have px := Ay; have Nz := Ny; have HB := vy; clear sx tx vx zx Cy Dy Ey Hy Iy Jy Ay Ny vy; clear hbox hg; have hcz137_0 : w136.cell? ⟨Hx, 0, none⟩ = some (.int .i64 Ox) := (pB Jx.out 0).trans rfl; have hcz137_1 : w136.cell? ⟨Hx, 1, none⟩ = some (.bool Px) := (pB Jx.out 1).trans rfl; have hfz137_0 := blk_frozen Jx.out 0; have hfz137_1 := blk_frozen Jx.out 1; have hcz138_0 : w136.cell? ⟨Nx, 0, none⟩ = some (.int .i64 Vx) := (pB Qx.out 0).trans rfl; have hcz138_1 : w136.cell? ⟨Nx, 1, none⟩ = some (.bool Sx) := (pB Qx.out 1).trans rfl; have hfz138_0 := blk_frozen Qx.out 0; have hfz138_1 := blk_frozen Qx.out 1) | ((with_reducible refine gate_dst (N := 8) rfl ?_); refine box_event ?hg (N := 8) ?hd (cs := #[.int .i64 0, .bool xB]) (t := 37) ?hr ?_; (case hd => rfl); (case hg => rfl); (case hr => first | (go_simp; done) | (go_simp; rfl)); intro Uy hg w139 hbox hb; have sx := Aside0.mk (kA (oA (by (with_reducible repeat (first | apply gA | apply mA | apply lA)); exact (tA (pA (p := ⟨Nx, 1, none⟩) (pA (p := ⟨Nx, 0, none⟩) (tA lx.out (fun k_ hk => (⟨hk, hk.2.1⟩ : _ ∧ k_ ≠ Nx))) (fun _ hk => hk.2) (.int .i64 Ox)) (fun _ hk => hk.2) (.bool Px)) (fun _ h_ => h_.1))) Uy (Nat.le_of_eq hg.symm)) hb); have tx := Aside0.mk (kA (oA (by (with_reducible repeat (first | apply gA | apply mA | apply lA)); exact (tA (pA (p := ⟨Nx, 1, none⟩) (pA (p := ⟨Nx, 0, none⟩) (tA yx.out (fun k_ hk => (⟨hk, hk.2.1⟩ : _ ∧ k_ ≠ Nx))) (fun _ hk => hk.2) (.int .i64 Ox)) (fun _ hk => hk.2) (.bool Px)) (fun _ h_ => h_.1))) Uy (Nat.le_of_eq hg.symm)) hb); have vx := Aside0.mk (kA (by (with_reducible repeat (first | apply gA | apply mA | apply lA)); exact (tA (pA (p := ⟨Nx, 1, none⟩) (pA (p := ⟨Nx, 0, none⟩) (dB nx.out Qx.out (by decide)) (fun _ hk => hk.2) (.int .i64 Ox)) (fun _ hk => hk.2) (.bool Px)) (fun _ h_ => h_.1))) hb); have zx := Aside0.mk (kA (by (with_reducible repeat (first | apply gA | apply mA | apply lA)); exact (tA (pA (p := ⟨Nx, 1, none⟩) (pA (p := ⟨Nx, 0, none⟩) (dB py.out Qx.out (by decide)) (fun _ hk => hk.2) (.int .i64 Ox)) (fun _ hk => hk.2) (.bool Px)) (fun _ h_ => h_.1))) hb); have Cy := Aside0.mk (kA (by (with_reducible repeat (first | apply gA | apply mA | apply lA)); exact (tA (pA (p := ⟨Nx, 1, none⟩) (pA (p := ⟨Nx, 0, none⟩) (dB px.out Qx.out (by decide)) (fun _ hk => hk.2) (.int .i64 Ox)) (fun _ hk => hk.2) (.bool Px)) (fun _ h_ => h_.1))) hb); have Dy := Aside0.mk (kA (by (with_reducible repeat (first | apply gA | apply mA | apply lA)); exact (tA (pA (p := ⟨Nx, 1, none⟩) (pA (p := ⟨Nx, 0, none⟩) (dB Nz.out Qx.out (by decide)) (fun _ hk => hk.2) (.int .i64 Ox)) (fun _ hk => hk.2) (.bool Px)) (fun _ h_ => h_.1))) hb); have Ey := Aside0.mk (qB (g := bx) (o := .cells #[.int .i64 a0_0, .int .i64 a0_1, .int .i64 a0_2, .int .i64 a0_3] 26 (0, 0)) (by (with_reducible repeat (first | refine mB ?_ _ | refine nB ?_ | refine oB ?_ _)); refine blk_far ?_ Xy.out _; (with_reducible repeat (first | refine mB ?_ _ | refine nB ?_ | refine oB ?_ _)); refine blk_far ?_ Xy.out _; (with_reducible repeat (first | refine mB ?_ _ | refine nB ?_ | refine oB ?_ _)); exact Kx.out) hb); have Hy := Aside0.mk (qB (g := Zx) (o := .cells #[.slice none 0 0, .slice none 0 0, .slice none 0 0, .int .i64 Yx] 72 (0, 0)) (by (with_reducible repeat (first | refine mB ?_ _ | refine nB ?_ | refine oB ?_ _)); refine blk_far ?_ Yy.out _; (with_reducible repeat (first | refine mB ?_ _ | refine nB ?_ | refine oB ?_ _)); refine blk_far ?_ Yy.out _; (with_reducible repeat (first | refine mB ?_ _ | refine nB ?_ | refine oB ?_ _)); exact Mx.out) hb); have Iy := Aside0.mk (qB (g := Gx) (o := .cells #[.slice ny rx.length oy, .slice ry Gy.length sy, .slice xy Ky.length yy] 70 (0, 0)) (by (with_reducible repeat (first | refine mB ?_ _ | refine nB ?_ | refine oB ?_ _)); refine blk_far ?_ Sy.out _; (with_reducible repeat (first | refine mB ?_ _ | refine nB ?_ | refine oB ?_ _)); refine blk_far ?_ Sy.out _; (with_reducible repeat (first | refine mB ?_ _ | refine nB ?_ | refine oB ?_ _)); exact Cx.out) hb); have Jy := Aside0.mk (qB (g := kx) (o := mpObj (Lx ++ [((⟨Ox, Px⟩ : S37), wrap64 ((rx.length : Int) - 1))])) (by (with_reducible repeat (first | refine mB ?_ _ | refine nB ?_ | refine oB ?_ _)); refine blk_far ?_ Zy.out _; (with_reducible repeat (first | refine mB ?_ _ | refine nB ?_ | refine oB ?_ _)); refine blk_far ?_ Zy.out _; (with_reducible repeat (first | refine mB ?_ _ | refine nB ?_ | refine oB ?_ _)); exact Rx.out) hb); have Ay := Aside0.mk (qB (g := Nx) (o := .cells #[.int .i64 Ox, .bool Px] 37 (0, 0)) (by (with_reducible repeat (first | refine mB ?_ _ | refine nB ?_ | refine oB ?_ _)); refine blk_put (cs := #[.int .i64 Ox, .bool Sx]) ?_ 1 _ rfl; (with_reducible repeat (first | refine mB ?_ _ | refine nB ?_ | refine oB ?_ _)); refine blk_put (cs := #[.int .i64 Vx, .bool Sx]) ?_ 0 _ rfl; (with_reducible repeat (first | refine mB ?_ _ | refine nB ?_ | refine oB ?_ _)); exact Qx.out) hb); have Ny := Aside0.mk (qB (g := Hx) (o := .cells #[.int .i64 Ox, .bool Px] 37 (0, 0)) (by (with_reducible repeat (first | refine mB ?_ _ | refine nB ?_ | refine oB ?_ _)); refine blk_far ?_ Ez.out _; (with_reducible repeat (first | refine mB ?_ _ | refine nB ?_ | refine oB ?_ _)); refine blk_far ?_ Ez.out _; (with_reducible repeat (first | refine mB ?_ _ | refine nB ?_ | refine oB ?_ _)); exact Jx.out) hb); have vy := Aside0.mk (lB (by repeat (first | (with_reducible first | exact HB.out | apply gB | apply hB | apply iB | refine jB ?_ cx.out | refine jB ?_ dx.out | refine jB ?_ ex.out | refine jB ?_ fx.out | refine jB ?_ jx.out | refine jB ?_ mx.out) | exact HB.out)) hb); have Oz := Aside0.mk (hbox); have ez := Aside0.mk ((by rw [hg]; exact (kB (by repeat (first | (with_reducible first | exact HB.out | apply gB | apply hB | apply iB | refine jB ?_ cx.out | refine jB ?_ dx.out | refine jB ?_ ex.out | refine jB ?_ fx.out | refine jB ?_ jx.out | refine jB ?_ mx.out) | exact HB.out))) : w.heap.size ≤ Uy)); have fz := Aside0.mk ((by rw [hg]; exact (kB (by repeat (first | (with_reducible first | exact HB.out | apply gB | apply hB | apply iB | refine jB ?_ cx.out | refine jB ?_ dx.out | refine jB ?_ ex.out | refine jB ?_ fx.out | refine jB ?_ jx.out | refine jB ?_ mx.out) | exact HB.out))) : w.heap.size ≤ Uy)); have gz := Aside0.mk ((by rw [hg]; exact Nat.ne_of_lt (blk_lt (g := bx) (o := .cells #[.int .i64 a0_0, .int .i64 a0_1, .int .i64 a0_2, .int .i64 a0_3] 26 (0, 0)) (by (with_reducible repeat (first | refine mB ?_ _ | refine nB ?_ | refine oB ?_ _)); refine blk_far ?_ Xy.out _; (with_reducible repeat (first | refine mB ?_ _ | refine nB ?_ | refine oB ?_ _)); refine blk_far ?_ Xy.out _; (with_reducible repeat (first | refine mB ?_ _ | refine nB ?_ | refine oB ?_ _)); exact Kx.out)) : bx ≠ Uy)); have Dq := Aside0.mk ((by rw [hg]; exact Nat.ne_of_gt (blk_lt (g := bx) (o := .cells #[.int .i64 a0_0, .int .i64 a0_1, .int .i64 a0_2, .int .i64 a0_3] 26 (0, 0)) (by (with_reducible repeat (first | refine mB ?_ _ | refine nB ?_ | refine oB ?_ _)); refine blk_far ?_ Xy.out _; (with_reducible repeat (first | refine mB ?_ _ | refine nB ?_ | refine oB ?_ _)); refine blk_far ?_ Xy.out _; (with_reducible repeat (first | refine mB ?_ _ | refine nB ?_ | refine oB ?_ _)); exact Kx.out)) : Uy ≠ bx)); have Eq := Aside0.mk ((by rw [hg]; exact Nat.ne_of_lt (blk_lt (g := Zx) (o := .cells #[.slice none 0 0, .slice none 0 0, .slice none 0 0, .int .i64 Yx] 72 (0, 0)) (by (with_reducible repeat (first | refine mB ?_ _ | refine nB ?_ | refine oB ?_ _)); refine blk_far ?_ Yy.out _; (with_reducible repeat (first | refine mB ?_ _ | refine nB ?_ | refine oB ?_ _)); refine blk_far ?_ Yy.out _; (with_reducible repeat (first | refine mB ?_ _ | refine nB ?_ | refine oB ?_ _)); exact Mx.out)) : Zx ≠ Uy)); have Fq := Aside0.mk ((by rw [hg]; exact Nat.ne_of_gt (blk_lt (g := Zx) (o := .cells #[.slice none 0 0, .slice none 0 0, .slice none 0 0, .int .i64 Yx] 72 (0, 0)) (by (with_reducible repeat (first | refine mB ?_ _ | refine nB ?_ | refine oB ?_ _)); refine blk_far ?_ Yy.out _; (with_reducible repeat (first | refine mB ?_ _ | refine nB ?_ | refine oB ?_ _)); refine blk_far ?_ Yy.out _; (with_reducible repeat (first | refine mB ?_ _ | refine nB ?_ | refine oB ?_ _)); exact Mx.out)) : Uy ≠ Zx)); have Gq := Aside0.mk ((by rw [hg]; exact Nat.ne_of_lt (blk_lt (g := Gx) (o := .cells #[.slice ny rx.length oy, .slice ry Gy.length sy, .slice xy Ky.length yy] 70 (0, 0)) (by (with_reducible repeat (first | refine mB ?_ _ | refine nB ?_ | refine oB ?_ _)); refine blk_far ?_ Sy.out _; (with_reducible repeat (first | refine mB ?_ _ | refine nB ?_ | refine oB ?_ _)); refine blk_far ?_ Sy.out _; (with_reducible repeat (first | refine mB ?_ _ | refine nB ?_ | refine oB ?_ _)); exact Cx.out)) : Gx ≠ Uy)); have Hq := Aside0.mk ((by rw [hg]; exact Nat.ne_of_gt (blk_lt (g := Gx) (o := .cells #[.slice ny rx.length oy, .slice ry Gy.length sy, .slice xy Ky.length yy] 70 (0, 0)) (by (with_reducible repeat (first | refine mB ?_ _ | refine nB ?_ | refine oB ?_ _)); refine blk_far ?_ Sy.out _; (with_reducible repeat (first | refine mB ?_ _ | refine nB ?_ | refine oB ?_ _)); refine blk_far ?_ Sy.out _; (with_reducible repeat (first | refine mB ?_ _ | refine nB ?_ | refine oB ?_ _)); exact Cx.out)) : Uy ≠ Gx)); have nq := Aside0.mk ((by rw [hg]; exact Nat.ne_of_lt (blk_lt (g := kx) (o := mpObj (Lx ++ [((⟨Ox, Px⟩ : S37), wrap64 ((rx.length : Int) - 1))])) (by (with_reducible repeat (first | refine mB ?_ _ | refine nB ?_ | refine oB ?_ _)); refine blk_far ?_ Zy.out _; (with_reducible repeat (first | refine mB ?_ _ | refine nB ?_ | refine oB ?_ _)); refine blk_far ?_ Zy.out _; (with_reducible repeat (first | refine mB ?_ _ | refine nB ?_ | refine oB ?_ _)); exact Rx.out)) : kx ≠ Uy)); have oq := Aside0.mk ((by rw [hg]; exact Nat.ne_of_gt (blk_lt (g := kx) (o := mpObj (Lx ++ [((⟨Ox, Px⟩ : S37), wrap64 ((rx.length : Int) - 1))])) (by (with_reducible repeat (first | refine mB ?_ _ | refine nB ?_ | refine oB ?_ _)); refine blk_far ?_ Zy.out _; (with_reducible repeat (first | refine mB ?_ _ | refine nB ?_ | refine oB ?_ _)); refine blk_far ?_ Zy.out _; (with_reducible repeat (first | refine mB ?_ _ | refine nB ?_ | refine oB ?_ _)); exact Rx.out)) : Uy ≠ kx)); have pq := Aside0.mk ((by rw [hg]; exact Nat.ne_of_lt (blk_lt (g := Nx) (o := .cells #[.int .i64 Ox, .bool Px] 37 (0, 0)) (by (with_reducible repeat (first | refine mB ?_ _ | refine nB ?_ | refine oB ?_ _)); refine blk_put (cs := #[.int .i64 Ox, .bool Sx]) ?_ 1 _ rfl; (with_reducible repeat (first | refine mB ?_ _ | refine nB ?_ | refine oB ?_ _)); refine blk_put (cs := #[.int .i64 Vx, .bool Sx]) ?_ 0 _ rfl; (with_reducible repeat (first | refine mB ?_ _ | refine nB ?_ | refine oB ?_ _)); exact Qx.out)) : Nx ≠ Uy)); have qq := Aside0.mk ((by rw [hg]; exact Nat.ne_of_gt (blk_lt (g := Nx) (o := .cells #[.int .i64 Ox, .bool Px] 37 (0, 0)) (by (with_reducible repeat (first | refine mB ?_ _ | refine nB ?_ | refine oB ?_ _)); refine blk_put (cs := #[.int .i64 Ox, .bool Sx]) ?_ 1 _ rfl; (with_reducible repeat (first | refine mB ?_ _ | refine nB ?_ | refine oB ?_ _)); refine blk_put (cs := #[.int .i64 Vx, .bool Sx]) ?_ 0 _ rfl; (with_reducible repeat (first | refine mB ?_ _ | refine nB ?_ | refine oB ?_ _)); exact Qx.out)) : Uy ≠ Nx)); have rq := Aside0.mk ((by rw [hg]; exact Nat.ne_of_lt (blk_lt (g := Hx) (o := .cells #[.int .i64 Ox, .bool Px] 37 (0, 0)) (by (with_reducible repeat (first | refine mB ?_ _ | refine nB ?_ | refine oB ?_ _)); refine blk_far ?_ Ez.out _; (with_reducible repeat (first | refine mB ?_ _ | refine nB ?_ | refine oB ?_ _)); refine blk_far ?_ Ez.out _; (with_reducible repeat (first | refine mB ?_ _ | refine nB ?_ | refine oB ?_ _)); exact Jx.out)) : Hx ≠ Uy)); have sq := Aside0.mk ((by rw [hg]; exact Nat.ne_of_gt (blk_lt (g := Hx) (o := .cells #[.int .i64 Ox, .bool Px] 37 (0, 0)) (by (with_reducible repeat (first | refine mB ?_ _ | refine nB ?_ | refine oB ?_ _)); refine blk_far ?_ Ez.out _; (with_reducible repeat (first | refine mB ?_ _ | refine nB ?_ | refine oB ?_ _)); refine blk_far ?_ Ez.out _; (with_reducible repeat (first | refine mB ?_ _ | refine nB ?_ | refine oB ?_ _)); exact Jx.out)) : Uy ≠ Hx)); clear lx; clear yx; clear nx; clear py; clear px; clear Nz; clear Kx; clear Mx; clear Cx; clear Rx; clear Qx; clear Jx; clear HB; have lx := sx; have yx := tx; have nx := vx; have py := zx; have px := Cy; have Nz := Dy; have Kx := Ey; have Mx := Hy; have Cx := Iy; have Rx := Jy; have Qx := Ay; have Jx := Ny; have HB := vy; have bz := Oz; have yq := ez; have mq := fz; have Uz := gz; have vz := Dq; have Vz := Eq; have xz := Fq; have Wz := Gq; have yz := Hq; have Xz := nq; have zz := oq; have Wq := pq; have Xq := qq; have Yq := rq; have Zq := sq; clear sx tx vx zx Cy Dy Ey Hy Iy Jy Ay Ny vy Oz ez fz gz Dq Eq Fq Gq Hq nq oq pq qq rq sq; clear hb hbox hg; have hnb140 := vz.out; have hnc140 := Uz.out; have hnb141 := xz.out; have hnc141 := Vz.out; have hnb142 := yz.out; have hnc142 := Wz.out; have hnb143 := zz.out; have hnc143 := Xz.out; have hnb144 := Xq.out; have hnc144 := Wq.out; have hnb145 := Zq.out; have hnc145 := Yq.out; have hcz146_0 : w139.cell? ⟨Uy, 0, none⟩ = some (.int .i64 0) := (pB bz.out 0).trans rfl; have hcz146_1 : w139.cell? ⟨Uy, 1, none⟩ = some (.bool false) := (pB bz.out 1).trans rfl; have hfz146_0 := blk_frozen bz.out 0; have hfz146_1 := blk_frozen bz.out 1))
               go_roundg k2
               case measure => have := HJ2.out; have := HK2.out; omega
               case rel => exact ⟨(Yx), (rx), (Gy), (Ky), (Lx ++ [((⟨Ox, Px⟩ : S37), wrap64 ((rx.length : Int) - 1))]), (Ox), (Px), (.slice ny rx.length oy), (.slice ry Gy.length sy), (.slice xy Ky.length yy), (Uy), (by first | rfl | (simp; done)), ⟨yq.out⟩, ⟨mq.out⟩, ⟨vz.out⟩, ⟨Uz.out⟩, ⟨xz.out⟩, ⟨Vz.out⟩, ⟨yz.out⟩, ⟨Wz.out⟩, ⟨zz.out⟩, ⟨Xz.out⟩, H', ⟨by have := HJ2.out; have := HK2.out; omega⟩, ⟨by (with_reducible repeat (first | apply gA | apply mA | apply lA)); exact tA (pA (p := ⟨Uy, 1, none⟩) (pA (p := ⟨Uy, 0, none⟩) (tA yx.out (fun k_ hk => (⟨hk, hk.2⟩ : _ ∧ k_ ≠ Uy))) (fun _ hk => hk.2) (.int .i64 Ox)) (fun _ hk => hk.2) (.bool Px)) (fun _ hk => hk.1.2)⟩, ⟨by (with_reducible repeat (first | apply gA | apply mA | apply lA)); exact tA (pA (p := ⟨Uy, 1, none⟩) (pA (p := ⟨Uy, 0, none⟩) (dB py.out bz.out (by decide)) (fun _ hk => hk.2) (.int .i64 Ox)) (fun _ hk => hk.2) (.bool Px)) (fun _ hk => hk.1.2)⟩, ⟨by (with_reducible repeat (first | apply gA | apply mA | apply lA)); exact tA (pA (p := ⟨Uy, 1, none⟩) (pA (p := ⟨Uy, 0, none⟩) (dB Nz.out bz.out (by decide)) (fun _ hk => hk.2) (.int .i64 Ox)) (fun _ hk => hk.2) (.bool Px)) (fun _ hk => hk.1.2.1)⟩, ⟨by (with_reducible repeat (first | refine mB ?_ _ | refine nB ?_ | refine oB ?_ _)); refine blk_far ?_ Uz.out _; (with_reducible repeat (first | refine mB ?_ _ | refine nB ?_ | refine oB ?_ _)); refine blk_far ?_ Uz.out _; (with_reducible repeat (first | refine mB ?_ _ | refine nB ?_ | refine oB ?_ _)); exact Kx.out⟩, ⟨by (with_reducible repeat (first | refine mB ?_ _ | refine nB ?_ | refine oB ?_ _)); refine blk_far ?_ Vz.out _; (with_reducible repeat (first | refine mB ?_ _ | refine nB ?_ | refine oB ?_ _)); refine blk_far ?_ Vz.out _; (with_reducible repeat (first | refine mB ?_ _ | refine nB ?_ | refine oB ?_ _)); exact Mx.out⟩, ⟨by (with_reducible repeat (first | refine mB ?_ _ | refine nB ?_ | refine oB ?_ _)); refine blk_far ?_ Wz.out _; (with_reducible repeat (first | refine mB ?_ _ | refine nB ?_ | refine oB ?_ _)); refine blk_far ?_ Wz.out _; (with_reducible repeat (first | refine mB ?_ _ | refine nB ?_ | refine oB ?_ _)); exact Cx.out⟩, ⟨by (with_reducible repeat (first | refine mB ?_ _ | refine nB ?_ | refine oB ?_ _)); refine blk_far ?_ Xz.out _; (with_reducible repeat (first | refine mB ?_ _ | refine nB ?_ | refine oB ?_ _)); refine blk_far ?_ Xz.out _; (with_reducible repeat (first | refine mB ?_ _ | refine nB ?_ | refine oB ?_ _)); exact Rx.out⟩, ⟨by (with_reducible repeat (first | refine mB ?_ _ | refine nB ?_ | refine oB ?_ _)); refine blk_put (cs := #[.int .i64 Ox, .bool xB]) ?_ 1 _ rfl; (with_reducible repeat (first | refine mB ?_ _ | refine nB ?_ | refine oB ?_ _)); refine blk_put (cs := #[.int .i64 0, .bool xB]) ?_ 0 _ rfl; (with_reducible repeat (first | refine mB ?_ _ | refine nB ?_ | refine oB ?_ _)); exact bz.out⟩, ⟨by repeat (first | (with_reducible first | exact HB.out | apply gB | apply hB | apply iB | refine jB ?_ cx.out | refine jB ?_ dx.out | refine jB ?_ ex.out | refine jB ?_ fx.out | refine jB ?_ mx.out | refine jB ?_ mq.out) | exact HB.out)⟩⟩
              ·
               rw [if_neg c89] at H
               exact absurd H (by simp)
            ·
             skip
             rintro ⟨Ly, Vy, xx, Fz⟩ w71 ⟨hS_, cy, dy, ey, fy, gy, iy, jy, ky, ly, my, Qy, qy⟩
             have sx : Aside0 (Kd.R k37 37 w71 w.heap.size (fun k_ => some k_ ≠ (Vy : Value).ownBlock ∧ k_ ≠ Nx ∧ k_ ≠ Hx) Ly My) := ⟨cy⟩
             have tx : Aside0 (Kd.R k37 37 w71 w.heap.size (fun k_ => some k_ ≠ (Ly : Value).ownBlock ∧ k_ ≠ Nx ∧ k_ ≠ Hx) Vy rx) := ⟨dy⟩
             have vx : Aside0 (Kd.R (Kd.int .i64) 3 w71 w.heap.size (fun k_ => some k_ ≠ (Fz : Value).ownBlock ∧ some k_ ≠ (vB Tx Ax.length Ux).ownBlock) xx Py) := ⟨ey⟩
             have zx : Aside0 (Kd.R (Kd.int .i64) 3 w71 w.heap.size (fun k_ => some k_ ≠ (xx : Value).ownBlock ∧ some k_ ≠ (vB Tx Ax.length Ux).ownBlock) Fz Gy) := ⟨fy⟩
             have Cy : Aside0 (Kd.R (Kd.int .i64) 3 w71 w.heap.size (fun k_ => some k_ ≠ (xx : Value).ownBlock ∧ some k_ ≠ (Fz : Value).ownBlock) (.slice Tx Ax.length Ux) Ax) := ⟨gy⟩
             have Dy : Aside0 (w71.heap[bx]? = some (.cells #[.int .i64 a0_0, .int .i64 a0_1, .int .i64 a0_2, .int .i64 a0_3] 26 (0, 0))) := ⟨iy⟩
             have Ey : Aside0 (w71.heap[Zx]? = some (.cells #[.slice none 0 0, .slice none 0 0, .slice none 0 0, .int .i64 Yx] 72 (0, 0))) := ⟨jy⟩
             have Hy : Aside0 (w71.heap[Gx]? = some (.cells #[.slice gx Dx.length ix, .slice Wx Bx.length Xx, .slice Tx Ax.length Ux] 70 (0, 0))) := ⟨ky⟩
             have Iy : Aside0 (w71.heap[kx]? = some (mpObj Lx)) := ⟨ly⟩
             have Jy : Aside0 (w71.heap[Nx]? = some (.cells #[.int .i64 Vx, .bool Sx] 37 (0, 0))) := ⟨my⟩
             have Ay : Aside0 (w71.heap[Hx]? = some (.cells #[.int .i64 Ox, .bool Px] 37 (0, 0))) := ⟨Qy⟩
             have Ny : Aside0 (Below w.heap.size w w71) := ⟨qy⟩
             clear Ix Fx Ex Kx Mx Cx Rx Qx Jx HB cy dy ey fy gy iy jy ky ly my Qy qy
             have lx := sx
             have yx := tx
             have nx := vx
             have py := zx
             have Ex := Cy
             have Kx := Dy
             have Mx := Ey
             have Cx := Hy
             have Rx := Iy
             have Qx := Jy
             have Jx := Ay
             have HB := Ny
             clear sx tx vx zx Cy Dy Ey Hy Iy Jy Ay Ny
             have ox : w71.cell? ⟨Gx, 0, none⟩ = some (.slice gx Dx.length ix) ∧ w71.cell? ⟨Gx, 1, none⟩ = some (.slice Wx Bx.length Xx) ∧ w71.cell? ⟨Gx, 2, none⟩ = some (.slice Tx Ax.length Ux) ∧ w71.cell? ⟨Hx, 0, none⟩ = some (.int .i64 Ox) ∧ w71.cell? ⟨Hx, 1, none⟩ = some (.bool Px) := hS_
             refine norm_ (a' := ?_) ?_ ?_
             rotate_left
             ·
              simp only [rB, Act.put, sB, tB, uB]
              rfl
             refine one_ (i := 13) (N := some 51) #[wB, wB, wB, wB, wB, wB, wB, wB, wB, wB, wB, wB, wB, wB, xB, wB, xB, xB, xB, xB, xB] rfl rfl (one_of HT_.out (by kernel_rfl)) (by decide) (fun K hK => ?_)
             refine qA (Kd.int .i64) _ 3 ?hg (N := 51) ?hd (xs := ([Ty] : List Int)) (inner := [.int .i64 Ty]) (ok := fun _ => True) (okp := fun _ => True) ?hr ?hp (fun _ hk => hk) trivial (Below.refl _ _) (Nat.le_refl _) (by simp) ?_; (case hd => rfl); (case hg => rfl); (case hr => first | (go_simp; done) | (go_simp; rfl)); (case hp => exact (Reps.one (show Kd.M (Kd.int .i64) _ _ _ Ty [.int .i64 Ty] from rfl) (Reps.none _ _)))
             intro By w72 ho73 hb hg_ hnew_
             clear hg_ hnew_
             (first | rw [← Az.out] at ho73 | (simp only [Int.reduceToNat] at ho73; rw [← Az.out] at ho73))
             replace lx := Aside0.mk (kA (by (with_reducible repeat (first | apply gA | apply mA | apply lA)); exact lx.out) hb)
             replace yx := Aside0.mk (kA (by (with_reducible repeat (first | apply gA | apply mA | apply lA)); exact yx.out) hb)
             have px := Aside0.mk (rA (vA (vA (vA ho73 (sA (by (with_reducible repeat (first | apply gA | apply mA | apply lA)); exact Ex.out))) (sA (by (with_reducible repeat (first | apply gA | apply mA | apply lA)); exact nx.out))) (sA (by (with_reducible repeat (first | apply gA | apply mA | apply lA)); exact py.out))) (kB (by repeat (first | (with_reducible first | exact HB.out | apply gB | apply hB | apply iB | refine jB ?_ cx.out | refine jB ?_ dx.out | refine jB ?_ ex.out | refine jB ?_ fx.out | refine jB ?_ jx.out | refine jB ?_ mx.out) | exact HB.out))))
             replace Ex := Aside0.mk (nA (by (with_reducible repeat (first | apply gA | apply mA | apply lA)); exact Ex.out) (jA ho73) hb)
             replace nx := Aside0.mk (nA (by (with_reducible repeat (first | apply gA | apply mA | apply lA)); exact nx.out) (jA ho73) hb)
             replace py := Aside0.mk (nA (by (with_reducible repeat (first | apply gA | apply mA | apply lA)); exact py.out) (jA ho73) hb)
             replace Kx := Aside0.mk (qB (g := bx) (o := .cells #[.int .i64 a0_0, .int .i64 a0_1, .int .i64 a0_2, .int .i64 a0_3] 26 (0, 0)) (by (with_reducible repeat (first | refine mB ?_ _ | refine nB ?_ | refine oB ?_ _)); exact Kx.out) hb)
             replace Mx := Aside0.mk (qB (g := Zx) (o := .cells #[.slice none 0 0, .slice none 0 0, .slice none 0 0, .int .i64 Yx] 72 (0, 0)) (by (with_reducible repeat (first | refine mB ?_ _ | refine nB ?_ | refine oB ?_ _)); exact Mx.out) hb)
             replace Cx := Aside0.mk (qB (g := Gx) (o := .cells #[.slice gx Dx.length ix, .slice Wx Bx.length Xx, .slice Tx Ax.length Ux] 70 (0, 0)) (by (with_reducible repeat (first | refine mB ?_ _ | refine nB ?_ | refine oB ?_ _)); exact Cx.out) hb)
             replace Rx := Aside0.mk (qB (g := kx) (o := mpObj Lx) (by (with_reducible repeat (first | refine mB ?_ _ | refine nB ?_ | refine oB ?_ _)); exact Rx.out) hb)
             replace Qx := Aside0.mk (qB (g := Nx) (o := .cells #[.int .i64 Vx, .bool Sx] 37 (0, 0)) (by (with_reducible repeat (first | refine mB ?_ _ | refine nB ?_ | refine oB ?_ _)); exact Qx.out) hb)
             replace Jx := Aside0.mk (qB (g := Hx) (o := .cells #[.int .i64 Ox, .bool Px] 37 (0, 0)) (by (with_reducible repeat (first | refine mB ?_ _ | refine nB ?_ | refine oB ?_ _)); exact Jx.out) hb)
             replace HB := Aside0.mk (lB (by repeat (first | (with_reducible first | exact HB.out | apply gB | apply hB | apply iB | refine jB ?_ cx.out | refine jB ?_ dx.out | refine jB ?_ ex.out | refine jB ?_ fx.out | refine jB ?_ jx.out | refine jB ?_ mx.out) | exact HB.out)) hb)
             clear hb ho73
             refine hK.out _ _ ⟨(pB Cx.out 0).trans rfl, (pB Cx.out 1).trans rfl, (pB Cx.out 2).trans rfl, (pB Jx.out 0).trans rfl, (pB Jx.out 1).trans rfl⟩ (fun ox => ?_)
             clear hK K
             refine norm_ (a' := ?_) ?_ ?_
             rotate_left
             ·
              show Act.put _ (some 51) _ = _
              simp only [Act.put, sB, tB, uB, i64_w, i32_w]
              rfl
             exact norm_ (by first | (simp only [rB, Act.put, sB, tB, uB]; done) | (simp only [rB, Act.put, sB, tB, uB]; rfl)) (mz (Ly, Vy, xx, Fz, By) _ ⟨ox, lx.out, yx.out, (tA nx.out (fun _ hk => ⟨hk.1.1, hk.2, hk.1.2⟩)), (tA py.out (fun _ hk => ⟨hk.1.1, hk.2, hk.1.2⟩)), (tA px.out (fun _ hk => ⟨hk.1.2, hk.2, hk.1.1.2⟩)), (tA Ex.out (fun _ hk => ⟨hk.1.1, hk.1.2, hk.2⟩)), Kx.out, Mx.out, Cx.out, Rx.out, Qx.out, Jx.out, (HB.out)⟩)
            ·
             skip
             rintro ⟨Ly, Vy, xx, By⟩ w71 ⟨hS_, cy, dy, ey, fy, gy, iy, jy, ky, ly, my, Qy, qy, nz⟩
             have sx : Aside0 (Kd.R k37 37 w71 w.heap.size (fun k_ => some k_ ≠ (Vy : Value).ownBlock ∧ k_ ≠ Nx ∧ k_ ≠ Hx) Ly My) := ⟨cy⟩
             have tx : Aside0 (Kd.R k37 37 w71 w.heap.size (fun k_ => some k_ ≠ (Ly : Value).ownBlock ∧ k_ ≠ Nx ∧ k_ ≠ Hx) Vy rx) := ⟨dy⟩
             have vx : Aside0 (Kd.R (Kd.int .i64) 3 w71 w.heap.size (fun k_ => some k_ ≠ (By : Value).ownBlock ∧ some k_ ≠ (vB Wx Bx.length Xx).ownBlock ∧ some k_ ≠ (vB Tx Ax.length Ux).ownBlock) xx Py) := ⟨ey⟩
             have zx : Aside0 (Kd.R (Kd.int .i64) 3 w71 w.heap.size (fun k_ => some k_ ≠ (xx : Value).ownBlock ∧ some k_ ≠ (vB Wx Bx.length Xx).ownBlock ∧ some k_ ≠ (vB Tx Ax.length Ux).ownBlock) By Ry) := ⟨fy⟩
             have Cy : Aside0 (Kd.R (Kd.int .i64) 3 w71 w.heap.size (fun k_ => some k_ ≠ (xx : Value).ownBlock ∧ some k_ ≠ (By : Value).ownBlock ∧ some k_ ≠ (vB Tx Ax.length Ux).ownBlock) (.slice Wx Bx.length Xx) Bx) := ⟨gy⟩
             have Dy : Aside0 (Kd.R (Kd.int .i64) 3 w71 w.heap.size (fun k_ => some k_ ≠ (xx : Value).ownBlock ∧ some k_ ≠ (By : Value).ownBlock ∧ some k_ ≠ (vB Wx Bx.length Xx).ownBlock) (.slice Tx Ax.length Ux) Ax) := ⟨iy⟩
             have Ey : Aside0 (w71.heap[bx]? = some (.cells #[.int .i64 a0_0, .int .i64 a0_1, .int .i64 a0_2, .int .i64 a0_3] 26 (0, 0))) := ⟨jy⟩
             have Hy : Aside0 (w71.heap[Zx]? = some (.cells #[.slice none 0 0, .slice none 0 0, .slice none 0 0, .int .i64 Yx] 72 (0, 0))) := ⟨ky⟩
             have Iy : Aside0 (w71.heap[Gx]? = some (.cells #[.slice gx Dx.length ix, .slice Wx Bx.length Xx, .slice Tx Ax.length Ux] 70 (0, 0))) := ⟨ly⟩
             have Jy : Aside0 (w71.heap[kx]? = some (mpObj Lx)) := ⟨my⟩
             have Ay : Aside0 (w71.heap[Nx]? = some (.cells #[.int .i64 Vx, .bool Sx] 37 (0, 0))) := ⟨Qy⟩
             have Ny : Aside0 (w71.heap[Hx]? = some (.cells #[.int .i64 Ox, .bool Px] 37 (0, 0))) := ⟨qy⟩
             have vy : Aside0 (Below w.heap.size w w71) := ⟨nz⟩
             clear Ix Fx Ex Kx Mx Cx Rx Qx Jx HB cy dy ey fy gy iy jy ky ly my Qy qy nz
             have lx := sx
             have yx := tx
             have nx := vx
             have px := zx
             have Fx := Cy
             have Ex := Dy
             have Kx := Ey
             have Mx := Hy
             have Cx := Iy
             have Rx := Jy
             have Qx := Ay
             have Jx := Ny
             have HB := vy
             clear sx tx vx zx Cy Dy Ey Hy Iy Jy Ay Ny vy
             have ox : w71.cell? ⟨Gx, 0, none⟩ = some (.slice gx Dx.length ix) ∧ w71.cell? ⟨Gx, 1, none⟩ = some (.slice Wx Bx.length Xx) ∧ w71.cell? ⟨Gx, 2, none⟩ = some (.slice Tx Ax.length Ux) ∧ w71.cell? ⟨Hx, 0, none⟩ = some (.int .i64 Ox) ∧ w71.cell? ⟨Hx, 1, none⟩ = some (.bool Px) := hS_
             obtain ⟨Lq, Mq, eo73⟩ := bB nx.out
             (first | subst eo73 | (injection eo73 with f1_ f2_ f3_; have f4_ := f1_.symm; have f5_ := f3_.symm; clear f1_ f2_ f3_; subst f4_; subst f5_))
             refine norm_ (a' := ?_) ?_ ?_
             rotate_left
             ·
              simp only [rB, Act.put, sB, tB, uB]
              rfl
             refine one_ (i := 9) (N := some 47) #[wB, wB, wB, wB, wB, wB, wB, wB, wB, wB, wB, wB, wB, wB, xB, wB, xB, xB, xB, xB, xB] rfl rfl (one_of HT_.out (by kernel_rfl)) (by decide) (fun K hK => ?_)
             refine hA (Kd.int .i64) (w0 := w) w.heap.size (by rfl) (.tmp 44) (.tmp 46) 47 3 (.int .i64 0) 8 rfl Try.underlying47 info3 rfl (by decide) (by omega) (.slice Wx Bx.length Xx) Bx Py _ _ _ (fun k_ => some k_ ≠ (vB Tx Ax.length Ux).ownBlock ∧ some k_ ≠ (vB Lq Py.length Mq).ownBlock ∧ some k_ ≠ (By : Value).ownBlock) (fun _ => False) rfl rfl ?aO ?aR (fun _ _ h => h) (fun _ h => h.elim) ?aF ?aB ?aS ?aL ?_
             (case aR => repeat (first | exact (zA nx.out).2.2 | (with_reducible refine aA ?_ _) | (with_reducible refine cA ?_ _) | (with_reducible refine bA ?_)))
             (case aB => exact (by repeat (first | (with_reducible first | exact HB.out | apply gB | apply hB | apply iB | refine jB ?_ cx.out | refine jB ?_ dx.out | refine jB ?_ ex.out | refine jB ?_ fx.out | refine jB ?_ jx.out | refine jB ?_ mx.out) | exact HB.out)))
             (case aF => exact (fun k_ hk => ⟨Kd.fresh' (sA (by (with_reducible repeat (first | apply gA | apply mA | apply lA)); exact Ex.out)) k_ hk, Kd.fresh' (sA (by (with_reducible repeat (first | apply gA | apply mA | apply lA)); exact nx.out)) k_ hk, Kd.fresh' (sA (by (with_reducible repeat (first | apply gA | apply mA | apply lA)); exact px.out)) k_ hk⟩))
             (case aO => exact (by (with_reducible repeat (first | apply gA | apply mA | apply lA)); exact tA Fx.out (fun _ hk => ⟨hk.2.2, hk.1, hk.2.1⟩)))
             (case aS => exact (kB (by repeat (first | (with_reducible first | exact HB.out | apply gB | apply hB | apply iB | refine jB ?_ cx.out | refine jB ?_ dx.out | refine jB ?_ ex.out | refine jB ?_ fx.out | refine jB ?_ jx.out | refine jB ?_ mx.out) | exact HB.out))))
             (case aL => have := iq.out; omega)
             intro Fz w72 ho hb hg hat
             rw [← jq.out] at ho
             replace Ex := Aside0.mk (fA (ok := (fun k_ => some k_ ≠ (vB Lq Py.length Mq).ownBlock ∧ some k_ ≠ (By : Value).ownBlock)) (by (with_reducible repeat (first | apply gA | apply mA | apply lA)); exact tA Ex.out (fun _ hk => ⟨⟨hk.1, hk.2.1⟩, hk.2.2⟩)) hg hat)
             replace Kx := Aside0.mk (blk_grown (g := bx) (o := .cells #[.int .i64 a0_0, .int .i64 a0_1, .int .i64 a0_2, .int .i64 a0_3] 26 (0, 0)) (by (with_reducible repeat (first | refine mB ?_ _ | refine nB ?_ | refine oB ?_ _)); exact Kx.out) hg (uA Fx.out Kx.out (by decide)))
             replace Mx := Aside0.mk (blk_grown (g := Zx) (o := .cells #[.slice none 0 0, .slice none 0 0, .slice none 0 0, .int .i64 Yx] 72 (0, 0)) (by (with_reducible repeat (first | refine mB ?_ _ | refine nB ?_ | refine oB ?_ _)); exact Mx.out) hg (uA Fx.out Mx.out (by decide)))
             replace Cx := Aside0.mk (blk_grown (g := Gx) (o := .cells #[.slice gx Dx.length ix, .slice Wx Bx.length Xx, .slice Tx Ax.length Ux] 70 (0, 0)) (by (with_reducible repeat (first | refine mB ?_ _ | refine nB ?_ | refine oB ?_ _)); exact Cx.out) hg (uA Fx.out Cx.out (by decide)))
             replace Rx := Aside0.mk (blk_grown (g := kx) (o := mpObj Lx) (by (with_reducible repeat (first | refine mB ?_ _ | refine nB ?_ | refine oB ?_ _)); exact Rx.out) hg (mp_ne Fx.out Rx.out))
             replace Qx := Aside0.mk (blk_grown (g := Nx) (o := .cells #[.int .i64 Vx, .bool Sx] 37 (0, 0)) (by (with_reducible repeat (first | refine mB ?_ _ | refine nB ?_ | refine oB ?_ _)); exact Qx.out) hg (uA Fx.out Qx.out (by decide)))
             replace Jx := Aside0.mk (blk_grown (g := Hx) (o := .cells #[.int .i64 Ox, .bool Px] 37 (0, 0)) (by (with_reducible repeat (first | refine mB ?_ _ | refine nB ?_ | refine oB ?_ _)); exact Jx.out) hg (uA Fx.out Jx.out (by decide)))
             replace lx := Aside0.mk (yA (by (with_reducible repeat (first | apply gA | apply mA | apply lA)); exact lx.out) (cB (by (with_reducible repeat (first | apply gA | apply mA | apply lA)); exact Fx.out)) (by decide) hg)
             replace yx := Aside0.mk (yA (by (with_reducible repeat (first | apply gA | apply mA | apply lA)); exact yx.out) (cB (by (with_reducible repeat (first | apply gA | apply mA | apply lA)); exact Fx.out)) (by decide) hg)
             replace nx := Aside0.mk (fA (ok := (fun k_ => some k_ ≠ (vB Tx Ax.length Ux).ownBlock ∧ some k_ ≠ (By : Value).ownBlock)) (by (with_reducible repeat (first | apply gA | apply mA | apply lA)); exact tA nx.out (fun _ hk => ⟨⟨hk.2.2, hk.1⟩, hk.2.1⟩)) hg hat)
             replace px := Aside0.mk (fA (ok := (fun k_ => some k_ ≠ (vB Tx Ax.length Ux).ownBlock ∧ some k_ ≠ (vB Lq Py.length Mq).ownBlock)) (by (with_reducible repeat (first | apply gA | apply mA | apply lA)); exact tA px.out (fun _ hk => ⟨⟨hk.2.2, hk.1⟩, hk.2.1⟩)) hg hat)
             replace HB := Aside0.mk (hb)
             have py := Aside0.mk (ho)
             clear Fx ho hb hg hat
             refine hK.out _ _ ⟨(pB Cx.out 0).trans rfl, (pB Cx.out 1).trans rfl, (pB Cx.out 2).trans rfl, (pB Jx.out 0).trans rfl, (pB Jx.out 1).trans rfl⟩ (fun ox => ?_)
             clear hK K
             refine norm_ (a' := ?_) ?_ ?_
             rotate_left
             ·
              show Act.put _ (some 47) _ = _
              simp only [Act.put, sB, tB, uB, i64_w, i32_w]
              rfl
             exact norm_ (by first | (simp only [rB, Act.put, sB, tB, uB]; done) | (simp only [rB, Act.put, sB, tB, uB]; rfl)) (mz (Ly, Vy, .slice Lq Py.length Mq, Fz, By) _ ⟨ox, lx.out, yx.out, (tA nx.out (fun _ hk => ⟨hk.2, hk.1.2, hk.1.1⟩)), (tA py.out (fun _ hk => ⟨hk.2.1, hk.2.2, hk.1⟩)), (tA px.out (fun _ hk => ⟨hk.1.2, hk.2, hk.1.1⟩)), (tA Ex.out (fun _ hk => ⟨hk.1.1, hk.2, hk.1.2⟩)), Kx.out, Mx.out, Cx.out, Rx.out, Qx.out, Jx.out, (HB.out)⟩)
            ·
             skip
             rintro ⟨Ly, Vy, xx⟩ w69 ⟨hS_, cy, dy, ey, fy, gy, iy, jy, ky, ly, my, Qy, qy⟩
             have sx : Aside0 (Kd.R k37 37 w69 w.heap.size (fun k_ => some k_ ≠ (Vy : Value).ownBlock ∧ k_ ≠ Nx ∧ k_ ≠ Hx) Ly My) := ⟨cy⟩
             have tx : Aside0 (Kd.R k37 37 w69 w.heap.size (fun k_ => some k_ ≠ (Ly : Value).ownBlock ∧ k_ ≠ Nx ∧ k_ ≠ Hx) Vy rx) := ⟨dy⟩
             have vx : Aside0 (Kd.R (Kd.int .i64) 3 w69 w.heap.size (fun k_ => some k_ ≠ (vB Wx Bx.length Xx).ownBlock ∧ some k_ ≠ (vB Tx Ax.length Ux).ownBlock) xx Py) := ⟨ey⟩
             have zx : Aside0 (Kd.R (Kd.int .i64) 3 w69 w.heap.size (fun k_ => some k_ ≠ (xx : Value).ownBlock ∧ some k_ ≠ (vB Tx Ax.length Ux).ownBlock) (.slice Wx Bx.length Xx) Bx) := ⟨fy⟩
             have Cy : Aside0 (Kd.R (Kd.int .i64) 3 w69 w.heap.size (fun k_ => some k_ ≠ (xx : Value).ownBlock ∧ some k_ ≠ (vB Wx Bx.length Xx).ownBlock) (.slice Tx Ax.length Ux) Ax) := ⟨gy⟩
             have Dy : Aside0 (w69.heap[bx]? = some (.cells #[.int .i64 a0_0, .int .i64 a0_1, .int .i64 a0_2, .int .i64 a0_3] 26 (0, 0))) := ⟨iy⟩
             have Ey : Aside0 (w69.heap[Zx]? = some (.cells #[.slice none 0 0, .slice none 0 0, .slice none 0 0, .int .i64 Yx] 72 (0, 0))) := ⟨jy⟩
             have Hy : Aside0 (w69.heap[Gx]? = some (.cells #[.slice gx Dx.length ix, .slice Wx Bx.length Xx, .slice Tx Ax.length Ux] 70 (0, 0))) := ⟨ky⟩
             have Iy : Aside0 (w69.heap[kx]? = some (mpObj Lx)) := ⟨ly⟩
             have Jy : Aside0 (w69.heap[Nx]? = some (.cells #[.int .i64 Vx, .bool Sx] 37 (0, 0))) := ⟨my⟩
             have Ay : Aside0 (w69.heap[Hx]? = some (.cells #[.int .i64 Ox, .bool Px] 37 (0, 0))) := ⟨Qy⟩
             have Ny : Aside0 (Below w.heap.size w w69) := ⟨qy⟩
             clear Ix Fx Ex Kx Mx Cx Rx Qx Jx HB cy dy ey fy gy iy jy ky ly my Qy qy
             have lx := sx
             have yx := tx
             have nx := vx
             have Fx := zx
             have Ex := Cy
             have Kx := Dy
             have Mx := Ey
             have Cx := Hy
             have Rx := Iy
             have Qx := Jy
             have Jx := Ay
             have HB := Ny
             clear sx tx vx zx Cy Dy Ey Hy Iy Jy Ay Ny
             have ox : w69.cell? ⟨Gx, 0, none⟩ = some (.slice gx Dx.length ix) ∧ w69.cell? ⟨Gx, 1, none⟩ = some (.slice Wx Bx.length Xx) ∧ w69.cell? ⟨Gx, 2, none⟩ = some (.slice Tx Ax.length Ux) ∧ w69.cell? ⟨Hx, 0, none⟩ = some (.int .i64 Ox) ∧ w69.cell? ⟨Hx, 1, none⟩ = some (.bool Px) := hS_
             obtain ⟨pz, qz, eo71⟩ := bB nx.out
             (first | subst eo71 | (injection eo71 with f1_ f2_ f3_; have f4_ := f1_.symm; have f5_ := f3_.symm; clear f1_ f2_ f3_; subst f4_; subst f5_))
             refine norm_ (a' := ?_) ?_ ?_
             rotate_left
             ·
              simp only [rB, Act.put, sB, tB, uB]
              rfl
             refine two_ (i := 9) (j := 13) (Ni := some 47) (Nj := some 51) #[wB, wB, wB, wB, wB, wB, wB, wB, wB, wB, wB, wB, wB, xB, xB, wB, xB, xB, xB, xB, xB] #[wB, wB, wB, wB, wB, wB, wB, wB, wB, xB, wB, wB, wB, wB, xB, wB, xB, xB, xB, xB, xB] rfl rfl rfl rfl (two_of HT_.out (by kernel_rfl)) (by decide) (by decide) (fun K hK => ?_) (fun K hK => ?_)
             ·
              skip
              refine hA (Kd.int .i64) (w0 := w) w.heap.size (by rfl) (.tmp 44) (.tmp 46) 47 3 (.int .i64 0) 8 rfl Try.underlying47 info3 rfl (by decide) (by omega) (.slice Wx Bx.length Xx) Bx Py _ _ _ (fun k_ => some k_ ≠ (vB Tx Ax.length Ux).ownBlock ∧ some k_ ≠ (vB pz Py.length qz).ownBlock) (fun _ => False) rfl rfl ?aO ?aR (fun _ _ h => h) (fun _ h => h.elim) ?aF ?aB ?aS ?aL ?_
              (case aR => repeat (first | exact (zA nx.out).2.2 | (with_reducible refine aA ?_ _) | (with_reducible refine cA ?_ _) | (with_reducible refine bA ?_)))
              (case aB => exact (by repeat (first | (with_reducible first | exact HB.out | apply gB | apply hB | apply iB | refine jB ?_ cx.out | refine jB ?_ dx.out | refine jB ?_ ex.out | refine jB ?_ fx.out | refine jB ?_ jx.out | refine jB ?_ mx.out) | exact HB.out)))
              (case aF => exact (fun k_ hk => ⟨Kd.fresh' (sA (by (with_reducible repeat (first | apply gA | apply mA | apply lA)); exact Ex.out)) k_ hk, Kd.fresh' (sA (by (with_reducible repeat (first | apply gA | apply mA | apply lA)); exact nx.out)) k_ hk⟩))
              (case aO => exact (by (with_reducible repeat (first | apply gA | apply mA | apply lA)); exact tA Fx.out (fun _ hk => ⟨hk.2, hk.1⟩)))
              (case aS => exact (kB (by repeat (first | (with_reducible first | exact HB.out | apply gB | apply hB | apply iB | refine jB ?_ cx.out | refine jB ?_ dx.out | refine jB ?_ ex.out | refine jB ?_ fx.out | refine jB ?_ jx.out | refine jB ?_ mx.out) | exact HB.out))))
              (case aL => have := iq.out; omega)
              intro Fz w70 ho hb hg hat
              rw [← jq.out] at ho
              replace Ex := Aside0.mk (fA (ok := (fun k_ => some k_ ≠ (vB pz Py.length qz).ownBlock)) (by (with_reducible repeat (first | apply gA | apply mA | apply lA)); exact Ex.out) hg hat)
              replace Kx := Aside0.mk (blk_grown (g := bx) (o := .cells #[.int .i64 a0_0, .int .i64 a0_1, .int .i64 a0_2, .int .i64 a0_3] 26 (0, 0)) (by (with_reducible repeat (first | refine mB ?_ _ | refine nB ?_ | refine oB ?_ _)); exact Kx.out) hg (uA Fx.out Kx.out (by decide)))
              replace Mx := Aside0.mk (blk_grown (g := Zx) (o := .cells #[.slice none 0 0, .slice none 0 0, .slice none 0 0, .int .i64 Yx] 72 (0, 0)) (by (with_reducible repeat (first | refine mB ?_ _ | refine nB ?_ | refine oB ?_ _)); exact Mx.out) hg (uA Fx.out Mx.out (by decide)))
              replace Cx := Aside0.mk (blk_grown (g := Gx) (o := .cells #[.slice gx Dx.length ix, .slice Wx Bx.length Xx, .slice Tx Ax.length Ux] 70 (0, 0)) (by (with_reducible repeat (first | refine mB ?_ _ | refine nB ?_ | refine oB ?_ _)); exact Cx.out) hg (uA Fx.out Cx.out (by decide)))
              replace Rx := Aside0.mk (blk_grown (g := kx) (o := mpObj Lx) (by (with_reducible repeat (first | refine mB ?_ _ | refine nB ?_ | refine oB ?_ _)); exact Rx.out) hg (mp_ne Fx.out Rx.out))
              replace Qx := Aside0.mk (blk_grown (g := Nx) (o := .cells #[.int .i64 Vx, .bool Sx] 37 (0, 0)) (by (with_reducible repeat (first | refine mB ?_ _ | refine nB ?_ | refine oB ?_ _)); exact Qx.out) hg (uA Fx.out Qx.out (by decide)))
              replace Jx := Aside0.mk (blk_grown (g := Hx) (o := .cells #[.int .i64 Ox, .bool Px] 37 (0, 0)) (by (with_reducible repeat (first | refine mB ?_ _ | refine nB ?_ | refine oB ?_ _)); exact Jx.out) hg (uA Fx.out Jx.out (by decide)))
              replace lx := Aside0.mk (yA (by (with_reducible repeat (first | apply gA | apply mA | apply lA)); exact lx.out) (cB (by (with_reducible repeat (first | apply gA | apply mA | apply lA)); exact Fx.out)) (by decide) hg)
              replace yx := Aside0.mk (yA (by (with_reducible repeat (first | apply gA | apply mA | apply lA)); exact yx.out) (cB (by (with_reducible repeat (first | apply gA | apply mA | apply lA)); exact Fx.out)) (by decide) hg)
              replace nx := Aside0.mk (fA (ok := (fun k_ => some k_ ≠ (vB Tx Ax.length Ux).ownBlock)) (by (with_reducible repeat (first | apply gA | apply mA | apply lA)); exact tA nx.out (fun _ hk => ⟨hk.2, hk.1⟩)) hg hat)
              replace HB := Aside0.mk (hb)
              have py := Aside0.mk (ho)
              clear Fx ho hb hg hat
              refine hK.out _ _ ⟨(pB Cx.out 0).trans rfl, (pB Cx.out 1).trans rfl, (pB Cx.out 2).trans rfl, (pB Jx.out 0).trans rfl, (pB Jx.out 1).trans rfl⟩ (fun ox => ?_)
              clear hK K
              refine norm_ (a' := ?_) ?_ ?_
              rotate_left
              ·
               show Act.put _ (some 47) _ = _
               simp only [Act.put, sB, tB, uB, i64_w, i32_w]
               rfl
              exact norm_ (by first | (simp only [rB, Act.put, sB, tB, uB]; done) | (simp only [rB, Act.put, sB, tB, uB]; rfl)) (Tq (Ly, Vy, .slice pz Py.length qz, Fz) _ ⟨ox, lx.out, yx.out, (tA nx.out (fun _ hk => ⟨hk.2, hk.1⟩)), (tA py.out (fun _ hk => ⟨hk.2, hk.1⟩)), Ex.out, Kx.out, Mx.out, Cx.out, Rx.out, Qx.out, Jx.out, (HB.out)⟩)
             ·
              skip
              refine qA (Kd.int .i64) _ 3 ?hg (N := 51) ?hd (xs := ([Ty] : List Int)) (inner := [.int .i64 Ty]) (ok := fun _ => True) (okp := fun _ => True) ?hr ?hp (fun _ hk => hk) trivial (Below.refl _ _) (Nat.le_refl _) (by simp) ?_; (case hd => rfl); (case hg => rfl); (case hr => first | (go_simp; done) | (go_simp; rfl)); (case hp => exact (Reps.one (show Kd.M (Kd.int .i64) _ _ _ Ty [.int .i64 Ty] from rfl) (Reps.none _ _)))
              intro By w70 ho71 hb hg_ hnew_
              clear hg_ hnew_
              (first | rw [← Az.out] at ho71 | (simp only [Int.reduceToNat] at ho71; rw [← Az.out] at ho71))
              replace lx := Aside0.mk (kA (by (with_reducible repeat (first | apply gA | apply mA | apply lA)); exact lx.out) hb)
              replace yx := Aside0.mk (kA (by (with_reducible repeat (first | apply gA | apply mA | apply lA)); exact yx.out) hb)
              have px := Aside0.mk (rA (vA (vA (vA ho71 (sA (by (with_reducible repeat (first | apply gA | apply mA | apply lA)); exact Fx.out))) (sA (by (with_reducible repeat (first | apply gA | apply mA | apply lA)); exact Ex.out))) (sA (by (with_reducible repeat (first | apply gA | apply mA | apply lA)); exact nx.out))) (kB (by repeat (first | (with_reducible first | exact HB.out | apply gB | apply hB | apply iB | refine jB ?_ cx.out | refine jB ?_ dx.out | refine jB ?_ ex.out | refine jB ?_ fx.out | refine jB ?_ jx.out | refine jB ?_ mx.out) | exact HB.out))))
              replace Fx := Aside0.mk (nA (by (with_reducible repeat (first | apply gA | apply mA | apply lA)); exact Fx.out) (jA ho71) hb)
              replace Ex := Aside0.mk (nA (by (with_reducible repeat (first | apply gA | apply mA | apply lA)); exact Ex.out) (jA ho71) hb)
              replace nx := Aside0.mk (nA (by (with_reducible repeat (first | apply gA | apply mA | apply lA)); exact nx.out) (jA ho71) hb)
              replace Kx := Aside0.mk (qB (g := bx) (o := .cells #[.int .i64 a0_0, .int .i64 a0_1, .int .i64 a0_2, .int .i64 a0_3] 26 (0, 0)) (by (with_reducible repeat (first | refine mB ?_ _ | refine nB ?_ | refine oB ?_ _)); exact Kx.out) hb)
              replace Mx := Aside0.mk (qB (g := Zx) (o := .cells #[.slice none 0 0, .slice none 0 0, .slice none 0 0, .int .i64 Yx] 72 (0, 0)) (by (with_reducible repeat (first | refine mB ?_ _ | refine nB ?_ | refine oB ?_ _)); exact Mx.out) hb)
              replace Cx := Aside0.mk (qB (g := Gx) (o := .cells #[.slice gx Dx.length ix, .slice Wx Bx.length Xx, .slice Tx Ax.length Ux] 70 (0, 0)) (by (with_reducible repeat (first | refine mB ?_ _ | refine nB ?_ | refine oB ?_ _)); exact Cx.out) hb)
              replace Rx := Aside0.mk (qB (g := kx) (o := mpObj Lx) (by (with_reducible repeat (first | refine mB ?_ _ | refine nB ?_ | refine oB ?_ _)); exact Rx.out) hb)
              replace Qx := Aside0.mk (qB (g := Nx) (o := .cells #[.int .i64 Vx, .bool Sx] 37 (0, 0)) (by (with_reducible repeat (first | refine mB ?_ _ | refine nB ?_ | refine oB ?_ _)); exact Qx.out) hb)
              replace Jx := Aside0.mk (qB (g := Hx) (o := .cells #[.int .i64 Ox, .bool Px] 37 (0, 0)) (by (with_reducible repeat (first | refine mB ?_ _ | refine nB ?_ | refine oB ?_ _)); exact Jx.out) hb)
              replace HB := Aside0.mk (lB (by repeat (first | (with_reducible first | exact HB.out | apply gB | apply hB | apply iB | refine jB ?_ cx.out | refine jB ?_ dx.out | refine jB ?_ ex.out | refine jB ?_ fx.out | refine jB ?_ jx.out | refine jB ?_ mx.out) | exact HB.out)) hb)
              clear hb ho71
              refine hK.out _ _ ⟨(pB Cx.out 0).trans rfl, (pB Cx.out 1).trans rfl, (pB Cx.out 2).trans rfl, (pB Jx.out 0).trans rfl, (pB Jx.out 1).trans rfl⟩ (fun ox => ?_)
              clear hK K
              refine norm_ (a' := ?_) ?_ ?_
              rotate_left
              ·
               show Act.put _ (some 51) _ = _
               simp only [Act.put, sB, tB, uB, i64_w, i32_w]
               rfl
              exact norm_ (by first | (simp only [rB, Act.put, sB, tB, uB]; done) | (simp only [rB, Act.put, sB, tB, uB]; rfl)) (Zz (Ly, Vy, (.slice pz Py.length qz), By) _ ⟨ox, lx.out, yx.out, (tA nx.out (fun _ hk => ⟨hk.2, hk.1.1, hk.1.2⟩)), (tA px.out (fun _ hk => ⟨hk.2, hk.1.1.2, hk.1.2⟩)), (tA Fx.out (fun _ hk => ⟨hk.1.1, hk.2, hk.1.2⟩)), (tA Ex.out (fun _ hk => ⟨hk.1.1, hk.2, hk.1.2⟩)), Kx.out, Mx.out, Cx.out, Rx.out, Qx.out, Jx.out, (HB.out)⟩)
            ·
             skip
             rintro ⟨Ly, Vy, By⟩ w69 ⟨hS_, cy, dy, ey, fy, gy, iy, jy, ky, ly, my, Qy, qy⟩
             have sx : Aside0 (Kd.R k37 37 w69 w.heap.size (fun k_ => some k_ ≠ (Vy : Value).ownBlock ∧ k_ ≠ Nx ∧ k_ ≠ Hx) Ly My) := ⟨cy⟩
             have tx : Aside0 (Kd.R k37 37 w69 w.heap.size (fun k_ => some k_ ≠ (Ly : Value).ownBlock ∧ k_ ≠ Nx ∧ k_ ≠ Hx) Vy rx) := ⟨dy⟩
             have vx : Aside0 (Kd.R (Kd.int .i64) 3 w69 w.heap.size (fun k_ => some k_ ≠ (vB Wx Bx.length Xx).ownBlock ∧ some k_ ≠ (vB Tx Ax.length Ux).ownBlock) By Ry) := ⟨ey⟩
             have zx : Aside0 (Kd.R (Kd.int .i64) 3 w69 w.heap.size (fun k_ => some k_ ≠ (By : Value).ownBlock ∧ some k_ ≠ (vB Tx Ax.length Ux).ownBlock) (.slice Wx Bx.length Xx) Bx) := ⟨fy⟩
             have Cy : Aside0 (Kd.R (Kd.int .i64) 3 w69 w.heap.size (fun k_ => some k_ ≠ (By : Value).ownBlock ∧ some k_ ≠ (vB Wx Bx.length Xx).ownBlock) (.slice Tx Ax.length Ux) Ax) := ⟨gy⟩
             have Dy : Aside0 (w69.heap[bx]? = some (.cells #[.int .i64 a0_0, .int .i64 a0_1, .int .i64 a0_2, .int .i64 a0_3] 26 (0, 0))) := ⟨iy⟩
             have Ey : Aside0 (w69.heap[Zx]? = some (.cells #[.slice none 0 0, .slice none 0 0, .slice none 0 0, .int .i64 Yx] 72 (0, 0))) := ⟨jy⟩
             have Hy : Aside0 (w69.heap[Gx]? = some (.cells #[.slice gx Dx.length ix, .slice Wx Bx.length Xx, .slice Tx Ax.length Ux] 70 (0, 0))) := ⟨ky⟩
             have Iy : Aside0 (w69.heap[kx]? = some (mpObj Lx)) := ⟨ly⟩
             have Jy : Aside0 (w69.heap[Nx]? = some (.cells #[.int .i64 Vx, .bool Sx] 37 (0, 0))) := ⟨my⟩
             have Ay : Aside0 (w69.heap[Hx]? = some (.cells #[.int .i64 Ox, .bool Px] 37 (0, 0))) := ⟨Qy⟩
             have Ny : Aside0 (Below w.heap.size w w69) := ⟨qy⟩
             clear Ix Fx Ex Kx Mx Cx Rx Qx Jx HB cy dy ey fy gy iy jy ky ly my Qy qy
             have lx := sx
             have yx := tx
             have px := vx
             have Fx := zx
             have Ex := Cy
             have Kx := Dy
             have Mx := Ey
             have Cx := Hy
             have Rx := Iy
             have Qx := Jy
             have Jx := Ay
             have HB := Ny
             clear sx tx vx zx Cy Dy Ey Hy Iy Jy Ay Ny
             have ox : w69.cell? ⟨Gx, 0, none⟩ = some (.slice gx Dx.length ix) ∧ w69.cell? ⟨Gx, 1, none⟩ = some (.slice Wx Bx.length Xx) ∧ w69.cell? ⟨Gx, 2, none⟩ = some (.slice Tx Ax.length Ux) ∧ w69.cell? ⟨Hx, 0, none⟩ = some (.int .i64 Ox) ∧ w69.cell? ⟨Hx, 1, none⟩ = some (.bool Px) := hS_
             refine norm_ (a' := ?_) ?_ ?_
             rotate_left
             ·
              simp only [rB, Act.put, sB, tB, uB]
              rfl
             refine one_ (i := 8) (N := some 46) #[wB, wB, wB, wB, wB, wB, wB, wB, wB, xB, wB, wB, wB, wB, xB, wB, xB, xB, xB, xB, xB] rfl rfl (one_of HT_.out (by kernel_rfl)) (by decide) (fun K hK => ?_)
             refine qA (Kd.int .i64) _ 3 ?hg (N := 46) ?hd (xs := ([Wy] : List Int)) (inner := [.int .i64 Wy]) (ok := fun _ => True) (okp := fun _ => True) ?hr ?hp (fun _ hk => hk) trivial (Below.refl _ _) (Nat.le_refl _) (by simp) ?_; (case hd => rfl); (case hg => rfl); (case hr => first | (go_simp; done) | (go_simp; rfl)); (case hp => exact (Reps.one (show Kd.M (Kd.int .i64) _ _ _ Wy [.int .i64 Wy] from rfl) (Reps.none _ _)))
             intro xx w70 ho71 hb hg_ hnew_
             clear hg_ hnew_
             (first | rw [← Gz.out] at ho71 | (simp only [Int.reduceToNat] at ho71; rw [← Gz.out] at ho71))
             replace lx := Aside0.mk (kA (by (with_reducible repeat (first | apply gA | apply mA | apply lA)); exact lx.out) hb)
             replace yx := Aside0.mk (kA (by (with_reducible repeat (first | apply gA | apply mA | apply lA)); exact yx.out) hb)
             have nx := Aside0.mk (rA (vA (vA (vA ho71 (sA (by (with_reducible repeat (first | apply gA | apply mA | apply lA)); exact Fx.out))) (sA (by (with_reducible repeat (first | apply gA | apply mA | apply lA)); exact Ex.out))) (sA (by (with_reducible repeat (first | apply gA | apply mA | apply lA)); exact px.out))) (kB (by repeat (first | (with_reducible first | exact HB.out | apply gB | apply hB | apply iB | refine jB ?_ cx.out | refine jB ?_ dx.out | refine jB ?_ ex.out | refine jB ?_ fx.out | refine jB ?_ jx.out | refine jB ?_ mx.out) | exact HB.out))))
             replace Fx := Aside0.mk (nA (by (with_reducible repeat (first | apply gA | apply mA | apply lA)); exact Fx.out) (jA ho71) hb)
             replace Ex := Aside0.mk (nA (by (with_reducible repeat (first | apply gA | apply mA | apply lA)); exact Ex.out) (jA ho71) hb)
             replace px := Aside0.mk (nA (by (with_reducible repeat (first | apply gA | apply mA | apply lA)); exact px.out) (jA ho71) hb)
             replace Kx := Aside0.mk (qB (g := bx) (o := .cells #[.int .i64 a0_0, .int .i64 a0_1, .int .i64 a0_2, .int .i64 a0_3] 26 (0, 0)) (by (with_reducible repeat (first | refine mB ?_ _ | refine nB ?_ | refine oB ?_ _)); exact Kx.out) hb)
             replace Mx := Aside0.mk (qB (g := Zx) (o := .cells #[.slice none 0 0, .slice none 0 0, .slice none 0 0, .int .i64 Yx] 72 (0, 0)) (by (with_reducible repeat (first | refine mB ?_ _ | refine nB ?_ | refine oB ?_ _)); exact Mx.out) hb)
             replace Cx := Aside0.mk (qB (g := Gx) (o := .cells #[.slice gx Dx.length ix, .slice Wx Bx.length Xx, .slice Tx Ax.length Ux] 70 (0, 0)) (by (with_reducible repeat (first | refine mB ?_ _ | refine nB ?_ | refine oB ?_ _)); exact Cx.out) hb)
             replace Rx := Aside0.mk (qB (g := kx) (o := mpObj Lx) (by (with_reducible repeat (first | refine mB ?_ _ | refine nB ?_ | refine oB ?_ _)); exact Rx.out) hb)
             replace Qx := Aside0.mk (qB (g := Nx) (o := .cells #[.int .i64 Vx, .bool Sx] 37 (0, 0)) (by (with_reducible repeat (first | refine mB ?_ _ | refine nB ?_ | refine oB ?_ _)); exact Qx.out) hb)
             replace Jx := Aside0.mk (qB (g := Hx) (o := .cells #[.int .i64 Ox, .bool Px] 37 (0, 0)) (by (with_reducible repeat (first | refine mB ?_ _ | refine nB ?_ | refine oB ?_ _)); exact Jx.out) hb)
             replace HB := Aside0.mk (lB (by repeat (first | (with_reducible first | exact HB.out | apply gB | apply hB | apply iB | refine jB ?_ cx.out | refine jB ?_ dx.out | refine jB ?_ ex.out | refine jB ?_ fx.out | refine jB ?_ jx.out | refine jB ?_ mx.out) | exact HB.out)) hb)
             clear hb ho71
             refine hK.out _ _ ⟨(pB Cx.out 0).trans rfl, (pB Cx.out 1).trans rfl, (pB Cx.out 2).trans rfl, (pB Jx.out 0).trans rfl, (pB Jx.out 1).trans rfl⟩ (fun ox => ?_)
             clear hK K
             refine norm_ (a' := ?_) ?_ ?_
             rotate_left
             ·
              show Act.put _ (some 46) _ = _
              simp only [Act.put, sB, tB, uB, i64_w, i32_w]
              rfl
             exact norm_ (by first | (simp only [rB, Act.put, sB, tB, uB]; done) | (simp only [rB, Act.put, sB, tB, uB]; rfl)) (Zz (Ly, Vy, xx, By) _ ⟨ox, lx.out, yx.out, (tA nx.out (fun _ hk => ⟨hk.2, hk.1.1.2, hk.1.2⟩)), (tA px.out (fun _ hk => ⟨hk.2, hk.1.1, hk.1.2⟩)), (tA Fx.out (fun _ hk => ⟨hk.2, hk.1.1, hk.1.2⟩)), (tA Ex.out (fun _ hk => ⟨hk.2, hk.1.1, hk.1.2⟩)), Kx.out, Mx.out, Cx.out, Rx.out, Qx.out, Jx.out, (HB.out)⟩)
            ·
             skip
             rintro ⟨Ly, xx, By⟩ w69 ⟨hS_, cy, dy, ey, fy, gy, iy, jy, ky, ly, my, Qy, qy, nz⟩
             have sx : Aside0 (Kd.R k37 37 w69 w.heap.size (fun k_ => some k_ ≠ (vB gx Dx.length ix).ownBlock ∧ k_ ≠ Nx ∧ k_ ≠ Hx) Ly My) := ⟨cy⟩
             have tx : Aside0 (Kd.R (Kd.int .i64) 3 w69 w.heap.size (fun k_ => some k_ ≠ (By : Value).ownBlock ∧ some k_ ≠ (vB Wx Bx.length Xx).ownBlock ∧ some k_ ≠ (vB Tx Ax.length Ux).ownBlock) xx Py) := ⟨dy⟩
             have vx : Aside0 (Kd.R (Kd.int .i64) 3 w69 w.heap.size (fun k_ => some k_ ≠ (xx : Value).ownBlock ∧ some k_ ≠ (vB Wx Bx.length Xx).ownBlock ∧ some k_ ≠ (vB Tx Ax.length Ux).ownBlock) By Ry) := ⟨ey⟩
             have zx : Aside0 (Kd.R k37 37 w69 w.heap.size (fun k_ => some k_ ≠ (Ly : Value).ownBlock ∧ k_ ≠ Nx ∧ k_ ≠ Hx) (.slice gx Dx.length ix) Dx) := ⟨fy⟩
             have Cy : Aside0 (Kd.R (Kd.int .i64) 3 w69 w.heap.size (fun k_ => some k_ ≠ (xx : Value).ownBlock ∧ some k_ ≠ (By : Value).ownBlock ∧ some k_ ≠ (vB Tx Ax.length Ux).ownBlock) (.slice Wx Bx.length Xx) Bx) := ⟨gy⟩
             have Dy : Aside0 (Kd.R (Kd.int .i64) 3 w69 w.heap.size (fun k_ => some k_ ≠ (xx : Value).ownBlock ∧ some k_ ≠ (By : Value).ownBlock ∧ some k_ ≠ (vB Wx Bx.length Xx).ownBlock) (.slice Tx Ax.length Ux) Ax) := ⟨iy⟩
             have Ey : Aside0 (w69.heap[bx]? = some (.cells #[.int .i64 a0_0, .int .i64 a0_1, .int .i64 a0_2, .int .i64 a0_3] 26 (0, 0))) := ⟨jy⟩
             have Hy : Aside0 (w69.heap[Zx]? = some (.cells #[.slice none 0 0, .slice none 0 0, .slice none 0 0, .int .i64 Yx] 72 (0, 0))) := ⟨ky⟩
             have Iy : Aside0 (w69.heap[Gx]? = some (.cells #[.slice gx Dx.length ix, .slice Wx Bx.length Xx, .slice Tx Ax.length Ux] 70 (0, 0))) := ⟨ly⟩
             have Jy : Aside0 (w69.heap[kx]? = some (mpObj Lx)) := ⟨my⟩
             have Ay : Aside0 (w69.heap[Nx]? = some (.cells #[.int .i64 Vx, .bool Sx] 37 (0, 0))) := ⟨Qy⟩
             have Ny : Aside0 (w69.heap[Hx]? = some (.cells #[.int .i64 Ox, .bool Px] 37 (0, 0))) := ⟨qy⟩
             have vy : Aside0 (Below w.heap.size w w69) := ⟨nz⟩
             clear Ix Fx Ex Kx Mx Cx Rx Qx Jx HB cy dy ey fy gy iy jy ky ly my Qy qy nz
             have lx := sx
             have nx := tx
             have px := vx
             have Ix := zx
             have Fx := Cy
             have Ex := Dy
             have Kx := Ey
             have Mx := Hy
             have Cx := Iy
             have Rx := Jy
             have Qx := Ay
             have Jx := Ny
             have HB := vy
             clear sx tx vx zx Cy Dy Ey Hy Iy Jy Ay Ny vy
             have ox : w69.cell? ⟨Gx, 0, none⟩ = some (.slice gx Dx.length ix) ∧ w69.cell? ⟨Gx, 1, none⟩ = some (.slice Wx Bx.length Xx) ∧ w69.cell? ⟨Gx, 2, none⟩ = some (.slice Tx Ax.length Ux) ∧ w69.cell? ⟨Hx, 0, none⟩ = some (.int .i64 Ox) ∧ w69.cell? ⟨Hx, 1, none⟩ = some (.bool Px) := hS_
             obtain ⟨pz, qz, eo71⟩ := bB lx.out
             (first | subst eo71 | (injection eo71 with f1_ f2_ f3_; have f4_ := f1_.symm; have f5_ := f3_.symm; clear f1_ f2_ f3_; subst f4_; subst f5_))
             refine norm_ (a' := ?_) ?_ ?_
             rotate_left
             ·
              simp only [rB, Act.put, sB, tB, uB]
              rfl
             refine one_ (i := 4) (N := some 42) #[wB, wB, wB, wB, wB, wB, wB, wB, wB, xB, wB, wB, wB, wB, xB, xB, xB, xB, xB, xB, xB] rfl rfl (one_of HT_.out (by kernel_rfl)) (by decide) (fun K hK => ?_)
             refine hA k37 (w0 := w) w.heap.size (by rfl) (.tmp 39) (.tmp 41) 68 37 (.agg #[(.int .i64 0), (.bool false)]) 16 rfl Try.underlying68 info37 rfl (by decide) (by omega) (.slice gx Dx.length ix) Dx My _ _ _ (fun k_ => some k_ ≠ (vB pz My.length qz).ownBlock ∧ k_ ≠ Nx ∧ k_ ≠ Hx) (fun _ => False) rfl rfl ?aO ?aR (fun _ _ h => h) (fun _ h => h.elim) ?aF ?aB ?aS ?aL ?_
             (case aR => repeat (first | exact (zA lx.out).2.2 | (with_reducible refine aA ?_ _) | (with_reducible refine cA ?_ _) | (with_reducible refine bA ?_)))
             (case aB => exact (by repeat (first | (with_reducible first | exact HB.out | apply gB | apply hB | apply iB | refine jB ?_ cx.out | refine jB ?_ dx.out | refine jB ?_ ex.out | refine jB ?_ fx.out | refine jB ?_ jx.out | refine jB ?_ mx.out) | exact HB.out)))
             (case aF => exact (fun k_ hk => ⟨Kd.fresh' (sA (by (with_reducible repeat (first | apply gA | apply mA | apply lA)); exact lx.out)) k_ hk, Kd.freshB (g := Nx) (o := .cells #[.int .i64 Vx, .bool Sx] 37 (0, 0)) (by (with_reducible repeat (first | refine mB ?_ _ | refine nB ?_ | refine oB ?_ _)); exact Qx.out) k_ hk, Kd.freshB (g := Hx) (o := .cells #[.int .i64 Ox, .bool Px] 37 (0, 0)) (by (with_reducible repeat (first | refine mB ?_ _ | refine nB ?_ | refine oB ?_ _)); exact Jx.out) k_ hk⟩))
             (case aO => exact (by (with_reducible repeat (first | apply gA | apply mA | apply lA)); exact Ix.out))
             (case aS => exact (kB (by repeat (first | (with_reducible first | exact HB.out | apply gB | apply hB | apply iB | refine jB ?_ cx.out | refine jB ?_ dx.out | refine jB ?_ ex.out | refine jB ?_ fx.out | refine jB ?_ jx.out | refine jB ?_ mx.out) | exact HB.out))))
             (case aL => have := Bq.out; omega)
             intro Vy w70 ho hb hg hat
             rw [← Cq.out] at ho
             replace Fx := Aside0.mk (yA (by (with_reducible repeat (first | apply gA | apply mA | apply lA)); exact Fx.out) (cB (by (with_reducible repeat (first | apply gA | apply mA | apply lA)); exact Ix.out)) (by decide) hg)
             replace Ex := Aside0.mk (yA (by (with_reducible repeat (first | apply gA | apply mA | apply lA)); exact Ex.out) (cB (by (with_reducible repeat (first | apply gA | apply mA | apply lA)); exact Ix.out)) (by decide) hg)
             replace Kx := Aside0.mk (blk_grown (g := bx) (o := .cells #[.int .i64 a0_0, .int .i64 a0_1, .int .i64 a0_2, .int .i64 a0_3] 26 (0, 0)) (by (with_reducible repeat (first | refine mB ?_ _ | refine nB ?_ | refine oB ?_ _)); exact Kx.out) hg (uA Ix.out Kx.out (by decide)))
             replace Mx := Aside0.mk (blk_grown (g := Zx) (o := .cells #[.slice none 0 0, .slice none 0 0, .slice none 0 0, .int .i64 Yx] 72 (0, 0)) (by (with_reducible repeat (first | refine mB ?_ _ | refine nB ?_ | refine oB ?_ _)); exact Mx.out) hg (uA Ix.out Mx.out (by decide)))
             replace Cx := Aside0.mk (blk_grown (g := Gx) (o := .cells #[.slice gx Dx.length ix, .slice Wx Bx.length Xx, .slice Tx Ax.length Ux] 70 (0, 0)) (by (with_reducible repeat (first | refine mB ?_ _ | refine nB ?_ | refine oB ?_ _)); exact Cx.out) hg (uA Ix.out Cx.out (by decide)))
             replace Rx := Aside0.mk (blk_grown (g := kx) (o := mpObj Lx) (by (with_reducible repeat (first | refine mB ?_ _ | refine nB ?_ | refine oB ?_ _)); exact Rx.out) hg (mp_ne Ix.out Rx.out))
             replace Qx := Aside0.mk (blk_grown (g := Nx) (o := .cells #[.int .i64 Vx, .bool Sx] 37 (0, 0)) (by (with_reducible repeat (first | refine mB ?_ _ | refine nB ?_ | refine oB ?_ _)); exact Qx.out) hg (iA Ix.out (fun _ hk => hk.2.1)))
             replace Jx := Aside0.mk (blk_grown (g := Hx) (o := .cells #[.int .i64 Ox, .bool Px] 37 (0, 0)) (by (with_reducible repeat (first | refine mB ?_ _ | refine nB ?_ | refine oB ?_ _)); exact Jx.out) hg (iA Ix.out (fun _ hk => hk.2.2)))
             replace lx := Aside0.mk (fA (ok := (fun k_ => k_ ≠ Nx ∧ k_ ≠ Hx)) (by (with_reducible repeat (first | apply gA | apply mA | apply lA)); exact tA lx.out (fun _ hk => ⟨⟨hk.2.1, hk.2.2⟩, hk.1⟩)) hg hat)
             replace nx := Aside0.mk (yA (by (with_reducible repeat (first | apply gA | apply mA | apply lA)); exact nx.out) (cB (by (with_reducible repeat (first | apply gA | apply mA | apply lA)); exact Ix.out)) (by decide) hg)
             replace px := Aside0.mk (yA (by (with_reducible repeat (first | apply gA | apply mA | apply lA)); exact px.out) (cB (by (with_reducible repeat (first | apply gA | apply mA | apply lA)); exact Ix.out)) (by decide) hg)
             replace HB := Aside0.mk (hb)
             have yx := Aside0.mk (ho)
             clear Ix ho hb hg hat
             refine hK.out _ _ ⟨(pB Cx.out 0).trans rfl, (pB Cx.out 1).trans rfl, (pB Cx.out 2).trans rfl, (pB Jx.out 0).trans rfl, (pB Jx.out 1).trans rfl⟩ (fun ox => ?_)
             clear hK K
             refine norm_ (a' := ?_) ?_ ?_
             rotate_left
             ·
              show Act.put _ (some 42) _ = _
              simp only [Act.put, sB, tB, uB, i64_w, i32_w]
              rfl
             refine pure_ (i := 15) (N := some 53) (v := ?_) (a' := ?_) #[wB, wB, wB, wB, wB, wB, wB, wB, wB, xB, wB, wB, wB, wB, xB, wB, xB, xB, xB, xB, xB] rfl rfl (any_of HT_.out (by kernel_rfl)) (fun _ _ _ h => h) (Or.inl ⟨by rfl, ?_⟩) ?_ ?_
             rotate_left
             ·
              intro w'
              go_simp
              with_reducible rfl
             rotate_left
             ·
              simp only [Act.put, sB, tB, uB, i64_w, i32_w]
              rfl
             exact norm_ (by first | (simp only [rB, Act.put, sB, tB, uB]; done) | (simp only [rB, Act.put, sB, tB, uB]; rfl)) (Zz (.slice pz My.length qz, Vy, xx, By) _ ⟨ox, (tA lx.out (fun _ hk => ⟨hk.2, hk.1.1, hk.1.2⟩)), yx.out, nx.out, px.out, Fx.out, Ex.out, Kx.out, Mx.out, Cx.out, Rx.out, Qx.out, Jx.out, (HB.out)⟩)
            ·
             skip
             rintro ⟨Ly, Vy⟩ w67 ⟨hS_, cy, dy, ey, fy, gy, iy, jy, ky, ly, my, Qy⟩
             have sx : Aside0 (Kd.R k37 37 w67 w.heap.size (fun k_ => some k_ ≠ (Vy : Value).ownBlock ∧ k_ ≠ Nx ∧ k_ ≠ Hx) Ly My) := ⟨cy⟩
             have tx : Aside0 (Kd.R k37 37 w67 w.heap.size (fun k_ => some k_ ≠ (Ly : Value).ownBlock ∧ k_ ≠ Nx ∧ k_ ≠ Hx) Vy rx) := ⟨dy⟩
             have vx : Aside0 (Kd.R (Kd.int .i64) 3 w67 w.heap.size (fun k_ => some k_ ≠ (vB Tx Ax.length Ux).ownBlock) (.slice Wx Bx.length Xx) Bx) := ⟨ey⟩
             have zx : Aside0 (Kd.R (Kd.int .i64) 3 w67 w.heap.size (fun k_ => some k_ ≠ (vB Wx Bx.length Xx).ownBlock) (.slice Tx Ax.length Ux) Ax) := ⟨fy⟩
             have Cy : Aside0 (w67.heap[bx]? = some (.cells #[.int .i64 a0_0, .int .i64 a0_1, .int .i64 a0_2, .int .i64 a0_3] 26 (0, 0))) := ⟨gy⟩
             have Dy : Aside0 (w67.heap[Zx]? = some (.cells #[.slice none 0 0, .slice none 0 0, .slice none 0 0, .int .i64 Yx] 72 (0, 0))) := ⟨iy⟩
             have Ey : Aside0 (w67.heap[Gx]? = some (.cells #[.slice gx Dx.length ix, .slice Wx Bx.length Xx, .slice Tx Ax.length Ux] 70 (0, 0))) := ⟨jy⟩
             have Hy : Aside0 (w67.heap[kx]? = some (mpObj Lx)) := ⟨ky⟩
             have Iy : Aside0 (w67.heap[Nx]? = some (.cells #[.int .i64 Vx, .bool Sx] 37 (0, 0))) := ⟨ly⟩
             have Jy : Aside0 (w67.heap[Hx]? = some (.cells #[.int .i64 Ox, .bool Px] 37 (0, 0))) := ⟨my⟩
             have Ay : Aside0 (Below w.heap.size w w67) := ⟨Qy⟩
             clear Ix Fx Ex Kx Mx Cx Rx Qx Jx HB cy dy ey fy gy iy jy ky ly my Qy
             have lx := sx
             have yx := tx
             have Fx := vx
             have Ex := zx
             have Kx := Cy
             have Mx := Dy
             have Cx := Ey
             have Rx := Hy
             have Qx := Iy
             have Jx := Jy
             have HB := Ay
             clear sx tx vx zx Cy Dy Ey Hy Iy Jy Ay
             have ox : w67.cell? ⟨Gx, 0, none⟩ = some (.slice gx Dx.length ix) ∧ w67.cell? ⟨Gx, 1, none⟩ = some (.slice Wx Bx.length Xx) ∧ w67.cell? ⟨Gx, 2, none⟩ = some (.slice Tx Ax.length Ux) ∧ w67.cell? ⟨Hx, 0, none⟩ = some (.int .i64 Ox) ∧ w67.cell? ⟨Hx, 1, none⟩ = some (.bool Px) := hS_
             refine norm_ (a' := ?_) ?_ ?_
             rotate_left
             ·
              simp only [rB, Act.put, sB, tB, uB]
              rfl
             refine two_ (i := 8) (j := 13) (Ni := some 46) (Nj := some 51) #[wB, wB, wB, wB, wB, wB, wB, wB, wB, xB, wB, wB, wB, xB, xB, wB, xB, xB, xB, xB, xB] #[wB, wB, wB, wB, wB, wB, wB, wB, xB, xB, wB, wB, wB, wB, xB, wB, xB, xB, xB, xB, xB] rfl rfl rfl rfl (two_of HT_.out (by kernel_rfl)) (by decide) (by decide) (fun K hK => ?_) (fun K hK => ?_)
             ·
              skip
              refine qA (Kd.int .i64) _ 3 ?hg (N := 46) ?hd (xs := ([Wy] : List Int)) (inner := [.int .i64 Wy]) (ok := fun _ => True) (okp := fun _ => True) ?hr ?hp (fun _ hk => hk) trivial (Below.refl _ _) (Nat.le_refl _) (by simp) ?_; (case hd => rfl); (case hg => rfl); (case hr => first | (go_simp; done) | (go_simp; rfl)); (case hp => exact (Reps.one (show Kd.M (Kd.int .i64) _ _ _ Wy [.int .i64 Wy] from rfl) (Reps.none _ _)))
              intro xx w68 ho69 hb hg_ hnew_
              clear hg_ hnew_
              (first | rw [← Gz.out] at ho69 | (simp only [Int.reduceToNat] at ho69; rw [← Gz.out] at ho69))
              replace lx := Aside0.mk (kA (by (with_reducible repeat (first | apply gA | apply mA | apply lA)); exact lx.out) hb)
              replace yx := Aside0.mk (kA (by (with_reducible repeat (first | apply gA | apply mA | apply lA)); exact yx.out) hb)
              have nx := Aside0.mk (rA (vA (vA ho69 (sA (by (with_reducible repeat (first | apply gA | apply mA | apply lA)); exact Fx.out))) (sA (by (with_reducible repeat (first | apply gA | apply mA | apply lA)); exact Ex.out))) (kB (by repeat (first | (with_reducible first | exact HB.out | apply gB | apply hB | apply iB | refine jB ?_ cx.out | refine jB ?_ dx.out | refine jB ?_ ex.out | refine jB ?_ fx.out | refine jB ?_ jx.out | refine jB ?_ mx.out) | exact HB.out))))
              replace Fx := Aside0.mk (nA (by (with_reducible repeat (first | apply gA | apply mA | apply lA)); exact Fx.out) (jA ho69) hb)
              replace Ex := Aside0.mk (nA (by (with_reducible repeat (first | apply gA | apply mA | apply lA)); exact Ex.out) (jA ho69) hb)
              replace Kx := Aside0.mk (qB (g := bx) (o := .cells #[.int .i64 a0_0, .int .i64 a0_1, .int .i64 a0_2, .int .i64 a0_3] 26 (0, 0)) (by (with_reducible repeat (first | refine mB ?_ _ | refine nB ?_ | refine oB ?_ _)); exact Kx.out) hb)
              replace Mx := Aside0.mk (qB (g := Zx) (o := .cells #[.slice none 0 0, .slice none 0 0, .slice none 0 0, .int .i64 Yx] 72 (0, 0)) (by (with_reducible repeat (first | refine mB ?_ _ | refine nB ?_ | refine oB ?_ _)); exact Mx.out) hb)
              replace Cx := Aside0.mk (qB (g := Gx) (o := .cells #[.slice gx Dx.length ix, .slice Wx Bx.length Xx, .slice Tx Ax.length Ux] 70 (0, 0)) (by (with_reducible repeat (first | refine mB ?_ _ | refine nB ?_ | refine oB ?_ _)); exact Cx.out) hb)
              replace Rx := Aside0.mk (qB (g := kx) (o := mpObj Lx) (by (with_reducible repeat (first | refine mB ?_ _ | refine nB ?_ | refine oB ?_ _)); exact Rx.out) hb)
              replace Qx := Aside0.mk (qB (g := Nx) (o := .cells #[.int .i64 Vx, .bool Sx] 37 (0, 0)) (by (with_reducible repeat (first | refine mB ?_ _ | refine nB ?_ | refine oB ?_ _)); exact Qx.out) hb)
              replace Jx := Aside0.mk (qB (g := Hx) (o := .cells #[.int .i64 Ox, .bool Px] 37 (0, 0)) (by (with_reducible repeat (first | refine mB ?_ _ | refine nB ?_ | refine oB ?_ _)); exact Jx.out) hb)
              replace HB := Aside0.mk (lB (by repeat (first | (with_reducible first | exact HB.out | apply gB | apply hB | apply iB | refine jB ?_ cx.out | refine jB ?_ dx.out | refine jB ?_ ex.out | refine jB ?_ fx.out | refine jB ?_ jx.out | refine jB ?_ mx.out) | exact HB.out)) hb)
              clear hb ho69
              refine hK.out _ _ ⟨(pB Cx.out 0).trans rfl, (pB Cx.out 1).trans rfl, (pB Cx.out 2).trans rfl, (pB Jx.out 0).trans rfl, (pB Jx.out 1).trans rfl⟩ (fun ox => ?_)
              clear hK K
              refine norm_ (a' := ?_) ?_ ?_
              rotate_left
              ·
               show Act.put _ (some 46) _ = _
               simp only [Act.put, sB, tB, uB, i64_w, i32_w]
               rfl
              exact norm_ (by first | (simp only [rB, Act.put, sB, tB, uB]; done) | (simp only [rB, Act.put, sB, tB, uB]; rfl)) (Jq (Ly, Vy, xx) _ ⟨ox, lx.out, yx.out, (tA nx.out (fun _ hk => ⟨hk.1.2, hk.2⟩)), (tA Fx.out (fun _ hk => ⟨hk.2, hk.1⟩)), (tA Ex.out (fun _ hk => ⟨hk.2, hk.1⟩)), Kx.out, Mx.out, Cx.out, Rx.out, Qx.out, Jx.out, (HB.out)⟩)
             ·
              skip
              refine qA (Kd.int .i64) _ 3 ?hg (N := 51) ?hd (xs := ([Ty] : List Int)) (inner := [.int .i64 Ty]) (ok := fun _ => True) (okp := fun _ => True) ?hr ?hp (fun _ hk => hk) trivial (Below.refl _ _) (Nat.le_refl _) (by simp) ?_; (case hd => rfl); (case hg => rfl); (case hr => first | (go_simp; done) | (go_simp; rfl)); (case hp => exact (Reps.one (show Kd.M (Kd.int .i64) _ _ _ Ty [.int .i64 Ty] from rfl) (Reps.none _ _)))
              intro By w68 ho69 hb hg_ hnew_
              clear hg_ hnew_
              (first | rw [← Az.out] at ho69 | (simp only [Int.reduceToNat] at ho69; rw [← Az.out] at ho69))
              replace lx := Aside0.mk (kA (by (with_reducible repeat (first | apply gA | apply mA | apply lA)); exact lx.out) hb)
              replace yx := Aside0.mk (kA (by (with_reducible repeat (first | apply gA | apply mA | apply lA)); exact yx.out) hb)
              have px := Aside0.mk (rA (vA (vA ho69 (sA (by (with_reducible repeat (first | apply gA | apply mA | apply lA)); exact Fx.out))) (sA (by (with_reducible repeat (first | apply gA | apply mA | apply lA)); exact Ex.out))) (kB (by repeat (first | (with_reducible first | exact HB.out | apply gB | apply hB | apply iB | refine jB ?_ cx.out | refine jB ?_ dx.out | refine jB ?_ ex.out | refine jB ?_ fx.out | refine jB ?_ jx.out | refine jB ?_ mx.out) | exact HB.out))))
              replace Fx := Aside0.mk (nA (by (with_reducible repeat (first | apply gA | apply mA | apply lA)); exact Fx.out) (jA ho69) hb)
              replace Ex := Aside0.mk (nA (by (with_reducible repeat (first | apply gA | apply mA | apply lA)); exact Ex.out) (jA ho69) hb)
              replace Kx := Aside0.mk (qB (g := bx) (o := .cells #[.int .i64 a0_0, .int .i64 a0_1, .int .i64 a0_2, .int .i64 a0_3] 26 (0, 0)) (by (with_reducible repeat (first | refine mB ?_ _ | refine nB ?_ | refine oB ?_ _)); exact Kx.out) hb)
              replace Mx := Aside0.mk (qB (g := Zx) (o := .cells #[.slice none 0 0, .slice none 0 0, .slice none 0 0, .int .i64 Yx] 72 (0, 0)) (by (with_reducible repeat (first | refine mB ?_ _ | refine nB ?_ | refine oB ?_ _)); exact Mx.out) hb)
              replace Cx := Aside0.mk (qB (g := Gx) (o := .cells #[.slice gx Dx.length ix, .slice Wx Bx.length Xx, .slice Tx Ax.length Ux] 70 (0, 0)) (by (with_reducible repeat (first | refine mB ?_ _ | refine nB ?_ | refine oB ?_ _)); exact Cx.out) hb)
              replace Rx := Aside0.mk (qB (g := kx) (o := mpObj Lx) (by (with_reducible repeat (first | refine mB ?_ _ | refine nB ?_ | refine oB ?_ _)); exact Rx.out) hb)
              replace Qx := Aside0.mk (qB (g := Nx) (o := .cells #[.int .i64 Vx, .bool Sx] 37 (0, 0)) (by (with_reducible repeat (first | refine mB ?_ _ | refine nB ?_ | refine oB ?_ _)); exact Qx.out) hb)
              replace Jx := Aside0.mk (qB (g := Hx) (o := .cells #[.int .i64 Ox, .bool Px] 37 (0, 0)) (by (with_reducible repeat (first | refine mB ?_ _ | refine nB ?_ | refine oB ?_ _)); exact Jx.out) hb)
              replace HB := Aside0.mk (lB (by repeat (first | (with_reducible first | exact HB.out | apply gB | apply hB | apply iB | refine jB ?_ cx.out | refine jB ?_ dx.out | refine jB ?_ ex.out | refine jB ?_ fx.out | refine jB ?_ jx.out | refine jB ?_ mx.out) | exact HB.out)) hb)
              clear hb ho69
              refine hK.out _ _ ⟨(pB Cx.out 0).trans rfl, (pB Cx.out 1).trans rfl, (pB Cx.out 2).trans rfl, (pB Jx.out 0).trans rfl, (pB Jx.out 1).trans rfl⟩ (fun ox => ?_)
              clear hK K
              refine norm_ (a' := ?_) ?_ ?_
              rotate_left
              ·
               show Act.put _ (some 51) _ = _
               simp only [Act.put, sB, tB, uB, i64_w, i32_w]
               rfl
              exact norm_ (by first | (simp only [rB, Act.put, sB, tB, uB]; done) | (simp only [rB, Act.put, sB, tB, uB]; rfl)) (Iq (Ly, Vy, By) _ ⟨ox, lx.out, yx.out, (tA px.out (fun _ hk => ⟨hk.1.2, hk.2⟩)), (tA Fx.out (fun _ hk => ⟨hk.2, hk.1⟩)), (tA Ex.out (fun _ hk => ⟨hk.2, hk.1⟩)), Kx.out, Mx.out, Cx.out, Rx.out, Qx.out, Jx.out, (HB.out)⟩)
            ·
             skip
             rintro ⟨Ly, xx⟩ w67 ⟨hS_, cy, dy, ey, fy, gy, iy, jy, ky, ly, my, Qy, qy⟩
             have sx : Aside0 (Kd.R k37 37 w67 w.heap.size (fun k_ => some k_ ≠ (vB gx Dx.length ix).ownBlock ∧ k_ ≠ Nx ∧ k_ ≠ Hx) Ly My) := ⟨cy⟩
             have tx : Aside0 (Kd.R (Kd.int .i64) 3 w67 w.heap.size (fun k_ => some k_ ≠ (vB Wx Bx.length Xx).ownBlock ∧ some k_ ≠ (vB Tx Ax.length Ux).ownBlock) xx Py) := ⟨dy⟩
             have vx : Aside0 (Kd.R k37 37 w67 w.heap.size (fun k_ => some k_ ≠ (Ly : Value).ownBlock ∧ k_ ≠ Nx ∧ k_ ≠ Hx) (.slice gx Dx.length ix) Dx) := ⟨ey⟩
             have zx : Aside0 (Kd.R (Kd.int .i64) 3 w67 w.heap.size (fun k_ => some k_ ≠ (xx : Value).ownBlock ∧ some k_ ≠ (vB Tx Ax.length Ux).ownBlock) (.slice Wx Bx.length Xx) Bx) := ⟨fy⟩
             have Cy : Aside0 (Kd.R (Kd.int .i64) 3 w67 w.heap.size (fun k_ => some k_ ≠ (xx : Value).ownBlock ∧ some k_ ≠ (vB Wx Bx.length Xx).ownBlock) (.slice Tx Ax.length Ux) Ax) := ⟨gy⟩
             have Dy : Aside0 (w67.heap[bx]? = some (.cells #[.int .i64 a0_0, .int .i64 a0_1, .int .i64 a0_2, .int .i64 a0_3] 26 (0, 0))) := ⟨iy⟩
             have Ey : Aside0 (w67.heap[Zx]? = some (.cells #[.slice none 0 0, .slice none 0 0, .slice none 0 0, .int .i64 Yx] 72 (0, 0))) := ⟨jy⟩
             have Hy : Aside0 (w67.heap[Gx]? = some (.cells #[.slice gx Dx.length ix, .slice Wx Bx.length Xx, .slice Tx Ax.length Ux] 70 (0, 0))) := ⟨ky⟩
             have Iy : Aside0 (w67.heap[kx]? = some (mpObj Lx)) := ⟨ly⟩
             have Jy : Aside0 (w67.heap[Nx]? = some (.cells #[.int .i64 Vx, .bool Sx] 37 (0, 0))) := ⟨my⟩
             have Ay : Aside0 (w67.heap[Hx]? = some (.cells #[.int .i64 Ox, .bool Px] 37 (0, 0))) := ⟨Qy⟩
             have Ny : Aside0 (Below w.heap.size w w67) := ⟨qy⟩
             clear Ix Fx Ex Kx Mx Cx Rx Qx Jx HB cy dy ey fy gy iy jy ky ly my Qy qy
             have lx := sx
             have nx := tx
             have Ix := vx
             have Fx := zx
             have Ex := Cy
             have Kx := Dy
             have Mx := Ey
             have Cx := Hy
             have Rx := Iy
             have Qx := Jy
             have Jx := Ay
             have HB := Ny
             clear sx tx vx zx Cy Dy Ey Hy Iy Jy Ay Ny
             have ox : w67.cell? ⟨Gx, 0, none⟩ = some (.slice gx Dx.length ix) ∧ w67.cell? ⟨Gx, 1, none⟩ = some (.slice Wx Bx.length Xx) ∧ w67.cell? ⟨Gx, 2, none⟩ = some (.slice Tx Ax.length Ux) ∧ w67.cell? ⟨Hx, 0, none⟩ = some (.int .i64 Ox) ∧ w67.cell? ⟨Hx, 1, none⟩ = some (.bool Px) := hS_
             obtain ⟨rz, sz, eo69⟩ := bB lx.out
             (first | subst eo69 | (injection eo69 with f1_ f2_ f3_; have f4_ := f1_.symm; have f5_ := f3_.symm; clear f1_ f2_ f3_; subst f4_; subst f5_))
             refine norm_ (a' := ?_) ?_ ?_
             rotate_left
             ·
              simp only [rB, Act.put, sB, tB, uB]
              rfl
             refine two_ (i := 4) (j := 13) (Ni := some 42) (Nj := some 51) #[wB, wB, wB, wB, wB, wB, wB, wB, wB, xB, wB, wB, wB, xB, xB, xB, xB, xB, xB, xB, xB] #[wB, wB, wB, wB, xB, wB, wB, wB, wB, xB, wB, wB, wB, wB, xB, xB, xB, xB, xB, xB, xB] rfl rfl rfl rfl (two_of HT_.out (by kernel_rfl)) (by decide) (by decide) (fun K hK => ?_) (fun K hK => ?_)
             ·
              skip
              refine hA k37 (w0 := w) w.heap.size (by rfl) (.tmp 39) (.tmp 41) 68 37 (.agg #[(.int .i64 0), (.bool false)]) 16 rfl Try.underlying68 info37 rfl (by decide) (by omega) (.slice gx Dx.length ix) Dx My _ _ _ (fun k_ => some k_ ≠ (vB rz My.length sz).ownBlock ∧ k_ ≠ Nx ∧ k_ ≠ Hx) (fun _ => False) rfl rfl ?aO ?aR (fun _ _ h => h) (fun _ h => h.elim) ?aF ?aB ?aS ?aL ?_
              (case aR => repeat (first | exact (zA lx.out).2.2 | (with_reducible refine aA ?_ _) | (with_reducible refine cA ?_ _) | (with_reducible refine bA ?_)))
              (case aB => exact (by repeat (first | (with_reducible first | exact HB.out | apply gB | apply hB | apply iB | refine jB ?_ cx.out | refine jB ?_ dx.out | refine jB ?_ ex.out | refine jB ?_ fx.out | refine jB ?_ jx.out | refine jB ?_ mx.out) | exact HB.out)))
              (case aF => exact (fun k_ hk => ⟨Kd.fresh' (sA (by (with_reducible repeat (first | apply gA | apply mA | apply lA)); exact lx.out)) k_ hk, Kd.freshB (g := Nx) (o := .cells #[.int .i64 Vx, .bool Sx] 37 (0, 0)) (by (with_reducible repeat (first | refine mB ?_ _ | refine nB ?_ | refine oB ?_ _)); exact Qx.out) k_ hk, Kd.freshB (g := Hx) (o := .cells #[.int .i64 Ox, .bool Px] 37 (0, 0)) (by (with_reducible repeat (first | refine mB ?_ _ | refine nB ?_ | refine oB ?_ _)); exact Jx.out) k_ hk⟩))
              (case aO => exact (by (with_reducible repeat (first | apply gA | apply mA | apply lA)); exact Ix.out))
              (case aS => exact (kB (by repeat (first | (with_reducible first | exact HB.out | apply gB | apply hB | apply iB | refine jB ?_ cx.out | refine jB ?_ dx.out | refine jB ?_ ex.out | refine jB ?_ fx.out | refine jB ?_ jx.out | refine jB ?_ mx.out) | exact HB.out))))
              (case aL => have := Bq.out; omega)
              intro Vy w68 ho hb hg hat
              rw [← Cq.out] at ho
              replace Fx := Aside0.mk (yA (by (with_reducible repeat (first | apply gA | apply mA | apply lA)); exact Fx.out) (cB (by (with_reducible repeat (first | apply gA | apply mA | apply lA)); exact Ix.out)) (by decide) hg)
              replace Ex := Aside0.mk (yA (by (with_reducible repeat (first | apply gA | apply mA | apply lA)); exact Ex.out) (cB (by (with_reducible repeat (first | apply gA | apply mA | apply lA)); exact Ix.out)) (by decide) hg)
              replace Kx := Aside0.mk (blk_grown (g := bx) (o := .cells #[.int .i64 a0_0, .int .i64 a0_1, .int .i64 a0_2, .int .i64 a0_3] 26 (0, 0)) (by (with_reducible repeat (first | refine mB ?_ _ | refine nB ?_ | refine oB ?_ _)); exact Kx.out) hg (uA Ix.out Kx.out (by decide)))
              replace Mx := Aside0.mk (blk_grown (g := Zx) (o := .cells #[.slice none 0 0, .slice none 0 0, .slice none 0 0, .int .i64 Yx] 72 (0, 0)) (by (with_reducible repeat (first | refine mB ?_ _ | refine nB ?_ | refine oB ?_ _)); exact Mx.out) hg (uA Ix.out Mx.out (by decide)))
              replace Cx := Aside0.mk (blk_grown (g := Gx) (o := .cells #[.slice gx Dx.length ix, .slice Wx Bx.length Xx, .slice Tx Ax.length Ux] 70 (0, 0)) (by (with_reducible repeat (first | refine mB ?_ _ | refine nB ?_ | refine oB ?_ _)); exact Cx.out) hg (uA Ix.out Cx.out (by decide)))
              replace Rx := Aside0.mk (blk_grown (g := kx) (o := mpObj Lx) (by (with_reducible repeat (first | refine mB ?_ _ | refine nB ?_ | refine oB ?_ _)); exact Rx.out) hg (mp_ne Ix.out Rx.out))
              replace Qx := Aside0.mk (blk_grown (g := Nx) (o := .cells #[.int .i64 Vx, .bool Sx] 37 (0, 0)) (by (with_reducible repeat (first | refine mB ?_ _ | refine nB ?_ | refine oB ?_ _)); exact Qx.out) hg (iA Ix.out (fun _ hk => hk.2.1)))
              replace Jx := Aside0.mk (blk_grown (g := Hx) (o := .cells #[.int .i64 Ox, .bool Px] 37 (0, 0)) (by (with_reducible repeat (first | refine mB ?_ _ | refine nB ?_ | refine oB ?_ _)); exact Jx.out) hg (iA Ix.out (fun _ hk => hk.2.2)))
              replace lx := Aside0.mk (fA (ok := (fun k_ => k_ ≠ Nx ∧ k_ ≠ Hx)) (by (with_reducible repeat (first | apply gA | apply mA | apply lA)); exact tA lx.out (fun _ hk => ⟨⟨hk.2.1, hk.2.2⟩, hk.1⟩)) hg hat)
              replace nx := Aside0.mk (yA (by (with_reducible repeat (first | apply gA | apply mA | apply lA)); exact nx.out) (cB (by (with_reducible repeat (first | apply gA | apply mA | apply lA)); exact Ix.out)) (by decide) hg)
              replace HB := Aside0.mk (hb)
              have yx := Aside0.mk (ho)
              clear Ix ho hb hg hat
              refine hK.out _ _ ⟨(pB Cx.out 0).trans rfl, (pB Cx.out 1).trans rfl, (pB Cx.out 2).trans rfl, (pB Jx.out 0).trans rfl, (pB Jx.out 1).trans rfl⟩ (fun ox => ?_)
              clear hK K
              refine norm_ (a' := ?_) ?_ ?_
              rotate_left
              ·
               show Act.put _ (some 42) _ = _
               simp only [Act.put, sB, tB, uB, i64_w, i32_w]
               rfl
              refine pure_ (i := 15) (N := some 53) (v := ?_) (a' := ?_) #[wB, wB, wB, wB, wB, wB, wB, wB, wB, xB, wB, wB, wB, xB, xB, wB, xB, xB, xB, xB, xB] rfl rfl (any_of HT_.out (by kernel_rfl)) (fun _ _ _ h => h) (Or.inl ⟨by rfl, ?_⟩) ?_ ?_
              rotate_left
              ·
               intro w'
               go_simp
               with_reducible rfl
              rotate_left
              ·
               simp only [Act.put, sB, tB, uB, i64_w, i32_w]
               rfl
              exact norm_ (by first | (simp only [rB, Act.put, sB, tB, uB]; done) | (simp only [rB, Act.put, sB, tB, uB]; rfl)) (Jq (.slice rz My.length sz, Vy, xx) _ ⟨ox, (tA lx.out (fun _ hk => ⟨hk.2, hk.1.1, hk.1.2⟩)), yx.out, nx.out, Fx.out, Ex.out, Kx.out, Mx.out, Cx.out, Rx.out, Qx.out, Jx.out, (HB.out)⟩)
             ·
              skip
              refine qA (Kd.int .i64) _ 3 ?hg (N := 51) ?hd (xs := ([Ty] : List Int)) (inner := [.int .i64 Ty]) (ok := fun _ => True) (okp := fun _ => True) ?hr ?hp (fun _ hk => hk) trivial (Below.refl _ _) (Nat.le_refl _) (by simp) ?_; (case hd => rfl); (case hg => rfl); (case hr => first | (go_simp; done) | (go_simp; rfl)); (case hp => exact (Reps.one (show Kd.M (Kd.int .i64) _ _ _ Ty [.int .i64 Ty] from rfl) (Reps.none _ _)))
              intro By w68 ho69 hb hg_ hnew_
              clear hg_ hnew_
              (first | rw [← Az.out] at ho69 | (simp only [Int.reduceToNat] at ho69; rw [← Az.out] at ho69))
              replace Ix := Aside0.mk (kA (by (with_reducible repeat (first | apply gA | apply mA | apply lA)); exact Ix.out) hb)
              replace lx := Aside0.mk (kA (by (with_reducible repeat (first | apply gA | apply mA | apply lA)); exact lx.out) hb)
              have px := Aside0.mk (rA (vA (vA (vA ho69 (sA (by (with_reducible repeat (first | apply gA | apply mA | apply lA)); exact Fx.out))) (sA (by (with_reducible repeat (first | apply gA | apply mA | apply lA)); exact Ex.out))) (sA (by (with_reducible repeat (first | apply gA | apply mA | apply lA)); exact nx.out))) (kB (by repeat (first | (with_reducible first | exact HB.out | apply gB | apply hB | apply iB | refine jB ?_ cx.out | refine jB ?_ dx.out | refine jB ?_ ex.out | refine jB ?_ fx.out | refine jB ?_ jx.out | refine jB ?_ mx.out) | exact HB.out))))
              replace Fx := Aside0.mk (nA (by (with_reducible repeat (first | apply gA | apply mA | apply lA)); exact Fx.out) (jA ho69) hb)
              replace Ex := Aside0.mk (nA (by (with_reducible repeat (first | apply gA | apply mA | apply lA)); exact Ex.out) (jA ho69) hb)
              replace nx := Aside0.mk (nA (by (with_reducible repeat (first | apply gA | apply mA | apply lA)); exact nx.out) (jA ho69) hb)
              replace Kx := Aside0.mk (qB (g := bx) (o := .cells #[.int .i64 a0_0, .int .i64 a0_1, .int .i64 a0_2, .int .i64 a0_3] 26 (0, 0)) (by (with_reducible repeat (first | refine mB ?_ _ | refine nB ?_ | refine oB ?_ _)); exact Kx.out) hb)
              replace Mx := Aside0.mk (qB (g := Zx) (o := .cells #[.slice none 0 0, .slice none 0 0, .slice none 0 0, .int .i64 Yx] 72 (0, 0)) (by (with_reducible repeat (first | refine mB ?_ _ | refine nB ?_ | refine oB ?_ _)); exact Mx.out) hb)
              replace Cx := Aside0.mk (qB (g := Gx) (o := .cells #[.slice gx Dx.length ix, .slice Wx Bx.length Xx, .slice Tx Ax.length Ux] 70 (0, 0)) (by (with_reducible repeat (first | refine mB ?_ _ | refine nB ?_ | refine oB ?_ _)); exact Cx.out) hb)
              replace Rx := Aside0.mk (qB (g := kx) (o := mpObj Lx) (by (with_reducible repeat (first | refine mB ?_ _ | refine nB ?_ | refine oB ?_ _)); exact Rx.out) hb)
              replace Qx := Aside0.mk (qB (g := Nx) (o := .cells #[.int .i64 Vx, .bool Sx] 37 (0, 0)) (by (with_reducible repeat (first | refine mB ?_ _ | refine nB ?_ | refine oB ?_ _)); exact Qx.out) hb)
              replace Jx := Aside0.mk (qB (g := Hx) (o := .cells #[.int .i64 Ox, .bool Px] 37 (0, 0)) (by (with_reducible repeat (first | refine mB ?_ _ | refine nB ?_ | refine oB ?_ _)); exact Jx.out) hb)
              replace HB := Aside0.mk (lB (by repeat (first | (with_reducible first | exact HB.out | apply gB | apply hB | apply iB | refine jB ?_ cx.out | refine jB ?_ dx.out | refine jB ?_ ex.out | refine jB ?_ fx.out | refine jB ?_ jx.out | refine jB ?_ mx.out) | exact HB.out)) hb)
              clear hb ho69
              refine hK.out _ _ ⟨(pB Cx.out 0).trans rfl, (pB Cx.out 1).trans rfl, (pB Cx.out 2).trans rfl, (pB Jx.out 0).trans rfl, (pB Jx.out 1).trans rfl⟩ (fun ox => ?_)
              clear hK K
              refine norm_ (a' := ?_) ?_ ?_
              rotate_left
              ·
               show Act.put _ (some 51) _ = _
               simp only [Act.put, sB, tB, uB, i64_w, i32_w]
               rfl
              exact norm_ (by first | (simp only [rB, Act.put, sB, tB, uB]; done) | (simp only [rB, Act.put, sB, tB, uB]; rfl)) (oz ((.slice rz My.length sz), xx, By) _ ⟨ox, lx.out, (tA nx.out (fun _ hk => ⟨hk.2, hk.1.1, hk.1.2⟩)), (tA px.out (fun _ hk => ⟨hk.2, hk.1.1.2, hk.1.2⟩)), Ix.out, (tA Fx.out (fun _ hk => ⟨hk.1.1, hk.2, hk.1.2⟩)), (tA Ex.out (fun _ hk => ⟨hk.1.1, hk.2, hk.1.2⟩)), Kx.out, Mx.out, Cx.out, Rx.out, Qx.out, Jx.out, (HB.out)⟩)
            ·
             skip
             rintro ⟨Ly, By⟩ w67 ⟨hS_, cy, dy, ey, fy, gy, iy, jy, ky, ly, my, Qy, qy⟩
             have sx : Aside0 (Kd.R k37 37 w67 w.heap.size (fun k_ => some k_ ≠ (vB gx Dx.length ix).ownBlock ∧ k_ ≠ Nx ∧ k_ ≠ Hx) Ly My) := ⟨cy⟩
             have tx : Aside0 (Kd.R (Kd.int .i64) 3 w67 w.heap.size (fun k_ => some k_ ≠ (vB Wx Bx.length Xx).ownBlock ∧ some k_ ≠ (vB Tx Ax.length Ux).ownBlock) By Ry) := ⟨dy⟩
             have vx : Aside0 (Kd.R k37 37 w67 w.heap.size (fun k_ => some k_ ≠ (Ly : Value).ownBlock ∧ k_ ≠ Nx ∧ k_ ≠ Hx) (.slice gx Dx.length ix) Dx) := ⟨ey⟩
             have zx : Aside0 (Kd.R (Kd.int .i64) 3 w67 w.heap.size (fun k_ => some k_ ≠ (By : Value).ownBlock ∧ some k_ ≠ (vB Tx Ax.length Ux).ownBlock) (.slice Wx Bx.length Xx) Bx) := ⟨fy⟩
             have Cy : Aside0 (Kd.R (Kd.int .i64) 3 w67 w.heap.size (fun k_ => some k_ ≠ (By : Value).ownBlock ∧ some k_ ≠ (vB Wx Bx.length Xx).ownBlock) (.slice Tx Ax.length Ux) Ax) := ⟨gy⟩
             have Dy : Aside0 (w67.heap[bx]? = some (.cells #[.int .i64 a0_0, .int .i64 a0_1, .int .i64 a0_2, .int .i64 a0_3] 26 (0, 0))) := ⟨iy⟩
             have Ey : Aside0 (w67.heap[Zx]? = some (.cells #[.slice none 0 0, .slice none 0 0, .slice none 0 0, .int .i64 Yx] 72 (0, 0))) := ⟨jy⟩
             have Hy : Aside0 (w67.heap[Gx]? = some (.cells #[.slice gx Dx.length ix, .slice Wx Bx.length Xx, .slice Tx Ax.length Ux] 70 (0, 0))) := ⟨ky⟩
             have Iy : Aside0 (w67.heap[kx]? = some (mpObj Lx)) := ⟨ly⟩
             have Jy : Aside0 (w67.heap[Nx]? = some (.cells #[.int .i64 Vx, .bool Sx] 37 (0, 0))) := ⟨my⟩
             have Ay : Aside0 (w67.heap[Hx]? = some (.cells #[.int .i64 Ox, .bool Px] 37 (0, 0))) := ⟨Qy⟩
             have Ny : Aside0 (Below w.heap.size w w67) := ⟨qy⟩
             clear Ix Fx Ex Kx Mx Cx Rx Qx Jx HB cy dy ey fy gy iy jy ky ly my Qy qy
             have lx := sx
             have px := tx
             have Ix := vx
             have Fx := zx
             have Ex := Cy
             have Kx := Dy
             have Mx := Ey
             have Cx := Hy
             have Rx := Iy
             have Qx := Jy
             have Jx := Ay
             have HB := Ny
             clear sx tx vx zx Cy Dy Ey Hy Iy Jy Ay Ny
             have ox : w67.cell? ⟨Gx, 0, none⟩ = some (.slice gx Dx.length ix) ∧ w67.cell? ⟨Gx, 1, none⟩ = some (.slice Wx Bx.length Xx) ∧ w67.cell? ⟨Gx, 2, none⟩ = some (.slice Tx Ax.length Ux) ∧ w67.cell? ⟨Hx, 0, none⟩ = some (.int .i64 Ox) ∧ w67.cell? ⟨Hx, 1, none⟩ = some (.bool Px) := hS_
             obtain ⟨rz, sz, eo69⟩ := bB lx.out
             (first | subst eo69 | (injection eo69 with f1_ f2_ f3_; have f4_ := f1_.symm; have f5_ := f3_.symm; clear f1_ f2_ f3_; subst f4_; subst f5_))
             refine norm_ (a' := ?_) ?_ ?_
             rotate_left
             ·
              simp only [rB, Act.put, sB, tB, uB]
              rfl
             refine two_ (i := 4) (j := 8) (Ni := some 42) (Nj := some 46) #[wB, wB, wB, wB, wB, wB, wB, wB, xB, xB, wB, wB, wB, wB, xB, xB, xB, xB, xB, xB, xB] #[wB, wB, wB, wB, xB, wB, wB, wB, wB, xB, wB, wB, wB, wB, xB, xB, xB, xB, xB, xB, xB] rfl rfl rfl rfl (two_of HT_.out (by kernel_rfl)) (by decide) (by decide) (fun K hK => ?_) (fun K hK => ?_)
             ·
              skip
              refine hA k37 (w0 := w) w.heap.size (by rfl) (.tmp 39) (.tmp 41) 68 37 (.agg #[(.int .i64 0), (.bool false)]) 16 rfl Try.underlying68 info37 rfl (by decide) (by omega) (.slice gx Dx.length ix) Dx My _ _ _ (fun k_ => some k_ ≠ (vB rz My.length sz).ownBlock ∧ k_ ≠ Nx ∧ k_ ≠ Hx) (fun _ => False) rfl rfl ?aO ?aR (fun _ _ h => h) (fun _ h => h.elim) ?aF ?aB ?aS ?aL ?_
              (case aR => repeat (first | exact (zA lx.out).2.2 | (with_reducible refine aA ?_ _) | (with_reducible refine cA ?_ _) | (with_reducible refine bA ?_)))
              (case aB => exact (by repeat (first | (with_reducible first | exact HB.out | apply gB | apply hB | apply iB | refine jB ?_ cx.out | refine jB ?_ dx.out | refine jB ?_ ex.out | refine jB ?_ fx.out | refine jB ?_ jx.out | refine jB ?_ mx.out) | exact HB.out)))
              (case aF => exact (fun k_ hk => ⟨Kd.fresh' (sA (by (with_reducible repeat (first | apply gA | apply mA | apply lA)); exact lx.out)) k_ hk, Kd.freshB (g := Nx) (o := .cells #[.int .i64 Vx, .bool Sx] 37 (0, 0)) (by (with_reducible repeat (first | refine mB ?_ _ | refine nB ?_ | refine oB ?_ _)); exact Qx.out) k_ hk, Kd.freshB (g := Hx) (o := .cells #[.int .i64 Ox, .bool Px] 37 (0, 0)) (by (with_reducible repeat (first | refine mB ?_ _ | refine nB ?_ | refine oB ?_ _)); exact Jx.out) k_ hk⟩))
              (case aO => exact (by (with_reducible repeat (first | apply gA | apply mA | apply lA)); exact Ix.out))
              (case aS => exact (kB (by repeat (first | (with_reducible first | exact HB.out | apply gB | apply hB | apply iB | refine jB ?_ cx.out | refine jB ?_ dx.out | refine jB ?_ ex.out | refine jB ?_ fx.out | refine jB ?_ jx.out | refine jB ?_ mx.out) | exact HB.out))))
              (case aL => have := Bq.out; omega)
              intro Vy w68 ho hb hg hat
              rw [← Cq.out] at ho
              replace Fx := Aside0.mk (yA (by (with_reducible repeat (first | apply gA | apply mA | apply lA)); exact Fx.out) (cB (by (with_reducible repeat (first | apply gA | apply mA | apply lA)); exact Ix.out)) (by decide) hg)
              replace Ex := Aside0.mk (yA (by (with_reducible repeat (first | apply gA | apply mA | apply lA)); exact Ex.out) (cB (by (with_reducible repeat (first | apply gA | apply mA | apply lA)); exact Ix.out)) (by decide) hg)
              replace Kx := Aside0.mk (blk_grown (g := bx) (o := .cells #[.int .i64 a0_0, .int .i64 a0_1, .int .i64 a0_2, .int .i64 a0_3] 26 (0, 0)) (by (with_reducible repeat (first | refine mB ?_ _ | refine nB ?_ | refine oB ?_ _)); exact Kx.out) hg (uA Ix.out Kx.out (by decide)))
              replace Mx := Aside0.mk (blk_grown (g := Zx) (o := .cells #[.slice none 0 0, .slice none 0 0, .slice none 0 0, .int .i64 Yx] 72 (0, 0)) (by (with_reducible repeat (first | refine mB ?_ _ | refine nB ?_ | refine oB ?_ _)); exact Mx.out) hg (uA Ix.out Mx.out (by decide)))
              replace Cx := Aside0.mk (blk_grown (g := Gx) (o := .cells #[.slice gx Dx.length ix, .slice Wx Bx.length Xx, .slice Tx Ax.length Ux] 70 (0, 0)) (by (with_reducible repeat (first | refine mB ?_ _ | refine nB ?_ | refine oB ?_ _)); exact Cx.out) hg (uA Ix.out Cx.out (by decide)))
              replace Rx := Aside0.mk (blk_grown (g := kx) (o := mpObj Lx) (by (with_reducible repeat (first | refine mB ?_ _ | refine nB ?_ | refine oB ?_ _)); exact Rx.out) hg (mp_ne Ix.out Rx.out))
              replace Qx := Aside0.mk (blk_grown (g := Nx) (o := .cells #[.int .i64 Vx, .bool Sx] 37 (0, 0)) (by (with_reducible repeat (first | refine mB ?_ _ | refine nB ?_ | refine oB ?_ _)); exact Qx.out) hg (iA Ix.out (fun _ hk => hk.2.1)))
              replace Jx := Aside0.mk (blk_grown (g := Hx) (o := .cells #[.int .i64 Ox, .bool Px] 37 (0, 0)) (by (with_reducible repeat (first | refine mB ?_ _ | refine nB ?_ | refine oB ?_ _)); exact Jx.out) hg (iA Ix.out (fun _ hk => hk.2.2)))
              replace lx := Aside0.mk (fA (ok := (fun k_ => k_ ≠ Nx ∧ k_ ≠ Hx)) (by (with_reducible repeat (first | apply gA | apply mA | apply lA)); exact tA lx.out (fun _ hk => ⟨⟨hk.2.1, hk.2.2⟩, hk.1⟩)) hg hat)
              replace px := Aside0.mk (yA (by (with_reducible repeat (first | apply gA | apply mA | apply lA)); exact px.out) (cB (by (with_reducible repeat (first | apply gA | apply mA | apply lA)); exact Ix.out)) (by decide) hg)
              replace HB := Aside0.mk (hb)
              have yx := Aside0.mk (ho)
              clear Ix ho hb hg hat
              refine hK.out _ _ ⟨(pB Cx.out 0).trans rfl, (pB Cx.out 1).trans rfl, (pB Cx.out 2).trans rfl, (pB Jx.out 0).trans rfl, (pB Jx.out 1).trans rfl⟩ (fun ox => ?_)
              clear hK K
              refine norm_ (a' := ?_) ?_ ?_
              rotate_left
              ·
               show Act.put _ (some 42) _ = _
               simp only [Act.put, sB, tB, uB, i64_w, i32_w]
               rfl
              refine pure_ (i := 15) (N := some 53) (v := ?_) (a' := ?_) #[wB, wB, wB, wB, wB, wB, wB, wB, xB, xB, wB, wB, wB, wB, xB, wB, xB, xB, xB, xB, xB] rfl rfl (any_of HT_.out (by kernel_rfl)) (fun _ _ _ h => h) (Or.inl ⟨by rfl, ?_⟩) ?_ ?_
              rotate_left
              ·
               intro w'
               go_simp
               with_reducible rfl
              rotate_left
              ·
               simp only [Act.put, sB, tB, uB, i64_w, i32_w]
               rfl
              exact norm_ (by first | (simp only [rB, Act.put, sB, tB, uB]; done) | (simp only [rB, Act.put, sB, tB, uB]; rfl)) (Iq (.slice rz My.length sz, Vy, By) _ ⟨ox, (tA lx.out (fun _ hk => ⟨hk.2, hk.1.1, hk.1.2⟩)), yx.out, px.out, Fx.out, Ex.out, Kx.out, Mx.out, Cx.out, Rx.out, Qx.out, Jx.out, (HB.out)⟩)
             ·
              skip
              refine qA (Kd.int .i64) _ 3 ?hg (N := 46) ?hd (xs := ([Wy] : List Int)) (inner := [.int .i64 Wy]) (ok := fun _ => True) (okp := fun _ => True) ?hr ?hp (fun _ hk => hk) trivial (Below.refl _ _) (Nat.le_refl _) (by simp) ?_; (case hd => rfl); (case hg => rfl); (case hr => first | (go_simp; done) | (go_simp; rfl)); (case hp => exact (Reps.one (show Kd.M (Kd.int .i64) _ _ _ Wy [.int .i64 Wy] from rfl) (Reps.none _ _)))
              intro xx w68 ho69 hb hg_ hnew_
              clear hg_ hnew_
              (first | rw [← Gz.out] at ho69 | (simp only [Int.reduceToNat] at ho69; rw [← Gz.out] at ho69))
              replace Ix := Aside0.mk (kA (by (with_reducible repeat (first | apply gA | apply mA | apply lA)); exact Ix.out) hb)
              replace lx := Aside0.mk (kA (by (with_reducible repeat (first | apply gA | apply mA | apply lA)); exact lx.out) hb)
              have nx := Aside0.mk (rA (vA (vA (vA ho69 (sA (by (with_reducible repeat (first | apply gA | apply mA | apply lA)); exact Fx.out))) (sA (by (with_reducible repeat (first | apply gA | apply mA | apply lA)); exact Ex.out))) (sA (by (with_reducible repeat (first | apply gA | apply mA | apply lA)); exact px.out))) (kB (by repeat (first | (with_reducible first | exact HB.out | apply gB | apply hB | apply iB | refine jB ?_ cx.out | refine jB ?_ dx.out | refine jB ?_ ex.out | refine jB ?_ fx.out | refine jB ?_ jx.out | refine jB ?_ mx.out) | exact HB.out))))
              replace Fx := Aside0.mk (nA (by (with_reducible repeat (first | apply gA | apply mA | apply lA)); exact Fx.out) (jA ho69) hb)
              replace Ex := Aside0.mk (nA (by (with_reducible repeat (first | apply gA | apply mA | apply lA)); exact Ex.out) (jA ho69) hb)
              replace px := Aside0.mk (nA (by (with_reducible repeat (first | apply gA | apply mA | apply lA)); exact px.out) (jA ho69) hb)
              replace Kx := Aside0.mk (qB (g := bx) (o := .cells #[.int .i64 a0_0, .int .i64 a0_1, .int .i64 a0_2, .int .i64 a0_3] 26 (0, 0)) (by (with_reducible repeat (first | refine mB ?_ _ | refine nB ?_ | refine oB ?_ _)); exact Kx.out) hb)
              replace Mx := Aside0.mk (qB (g := Zx) (o := .cells #[.slice none 0 0, .slice none 0 0, .slice none 0 0, .int .i64 Yx] 72 (0, 0)) (by (with_reducible repeat (first | refine mB ?_ _ | refine nB ?_ | refine oB ?_ _)); exact Mx.out) hb)
              replace Cx := Aside0.mk (qB (g := Gx) (o := .cells #[.slice gx Dx.length ix, .slice Wx Bx.length Xx, .slice Tx Ax.length Ux] 70 (0, 0)) (by (with_reducible repeat (first | refine mB ?_ _ | refine nB ?_ | refine oB ?_ _)); exact Cx.out) hb)
              replace Rx := Aside0.mk (qB (g := kx) (o := mpObj Lx) (by (with_reducible repeat (first | refine mB ?_ _ | refine nB ?_ | refine oB ?_ _)); exact Rx.out) hb)
              replace Qx := Aside0.mk (qB (g := Nx) (o := .cells #[.int .i64 Vx, .bool Sx] 37 (0, 0)) (by (with_reducible repeat (first | refine mB ?_ _ | refine nB ?_ | refine oB ?_ _)); exact Qx.out) hb)
              replace Jx := Aside0.mk (qB (g := Hx) (o := .cells #[.int .i64 Ox, .bool Px] 37 (0, 0)) (by (with_reducible repeat (first | refine mB ?_ _ | refine nB ?_ | refine oB ?_ _)); exact Jx.out) hb)
              replace HB := Aside0.mk (lB (by repeat (first | (with_reducible first | exact HB.out | apply gB | apply hB | apply iB | refine jB ?_ cx.out | refine jB ?_ dx.out | refine jB ?_ ex.out | refine jB ?_ fx.out | refine jB ?_ jx.out | refine jB ?_ mx.out) | exact HB.out)) hb)
              clear hb ho69
              refine hK.out _ _ ⟨(pB Cx.out 0).trans rfl, (pB Cx.out 1).trans rfl, (pB Cx.out 2).trans rfl, (pB Jx.out 0).trans rfl, (pB Jx.out 1).trans rfl⟩ (fun ox => ?_)
              clear hK K
              refine norm_ (a' := ?_) ?_ ?_
              rotate_left
              ·
               show Act.put _ (some 46) _ = _
               simp only [Act.put, sB, tB, uB, i64_w, i32_w]
               rfl
              exact norm_ (by first | (simp only [rB, Act.put, sB, tB, uB]; done) | (simp only [rB, Act.put, sB, tB, uB]; rfl)) (oz ((.slice rz My.length sz), xx, By) _ ⟨ox, lx.out, (tA nx.out (fun _ hk => ⟨hk.2, hk.1.1.2, hk.1.2⟩)), (tA px.out (fun _ hk => ⟨hk.2, hk.1.1, hk.1.2⟩)), Ix.out, (tA Fx.out (fun _ hk => ⟨hk.2, hk.1.1, hk.1.2⟩)), (tA Ex.out (fun _ hk => ⟨hk.2, hk.1.1, hk.1.2⟩)), Kx.out, Mx.out, Cx.out, Rx.out, Qx.out, Jx.out, (HB.out)⟩)
            ·
             skip
             rintro ⟨xx, By⟩ w67 ⟨hS_, cy, dy, ey, fy, gy, iy, jy, ky, ly, my, Qy, qy⟩
             have sx : Aside0 (Kd.R (Kd.int .i64) 3 w67 w.heap.size (fun k_ => some k_ ≠ (By : Value).ownBlock ∧ some k_ ≠ (vB Wx Bx.length Xx).ownBlock ∧ some k_ ≠ (vB Tx Ax.length Ux).ownBlock) xx Py) := ⟨cy⟩
             have tx : Aside0 (Kd.R (Kd.int .i64) 3 w67 w.heap.size (fun k_ => some k_ ≠ (xx : Value).ownBlock ∧ some k_ ≠ (vB Wx Bx.length Xx).ownBlock ∧ some k_ ≠ (vB Tx Ax.length Ux).ownBlock) By Ry) := ⟨dy⟩
             have vx : Aside0 (Kd.R k37 37 w67 w.heap.size (fun k_ => k_ ≠ Nx ∧ k_ ≠ Hx) (.slice gx Dx.length ix) Dx) := ⟨ey⟩
             have zx : Aside0 (Kd.R (Kd.int .i64) 3 w67 w.heap.size (fun k_ => some k_ ≠ (xx : Value).ownBlock ∧ some k_ ≠ (By : Value).ownBlock ∧ some k_ ≠ (vB Tx Ax.length Ux).ownBlock) (.slice Wx Bx.length Xx) Bx) := ⟨fy⟩
             have Cy : Aside0 (Kd.R (Kd.int .i64) 3 w67 w.heap.size (fun k_ => some k_ ≠ (xx : Value).ownBlock ∧ some k_ ≠ (By : Value).ownBlock ∧ some k_ ≠ (vB Wx Bx.length Xx).ownBlock) (.slice Tx Ax.length Ux) Ax) := ⟨gy⟩
             have Dy : Aside0 (w67.heap[bx]? = some (.cells #[.int .i64 a0_0, .int .i64 a0_1, .int .i64 a0_2, .int .i64 a0_3] 26 (0, 0))) := ⟨iy⟩
             have Ey : Aside0 (w67.heap[Zx]? = some (.cells #[.slice none 0 0, .slice none 0 0, .slice none 0 0, .int .i64 Yx] 72 (0, 0))) := ⟨jy⟩
             have Hy : Aside0 (w67.heap[Gx]? = some (.cells #[.slice gx Dx.length ix, .slice Wx Bx.length Xx, .slice Tx Ax.length Ux] 70 (0, 0))) := ⟨ky⟩
             have Iy : Aside0 (w67.heap[kx]? = some (mpObj Lx)) := ⟨ly⟩
             have Jy : Aside0 (w67.heap[Nx]? = some (.cells #[.int .i64 Vx, .bool Sx] 37 (0, 0))) := ⟨my⟩
             have Ay : Aside0 (w67.heap[Hx]? = some (.cells #[.int .i64 Ox, .bool Px] 37 (0, 0))) := ⟨Qy⟩
             have Ny : Aside0 (Below w.heap.size w w67) := ⟨qy⟩
             clear Ix Fx Ex Kx Mx Cx Rx Qx Jx HB cy dy ey fy gy iy jy ky ly my Qy qy
             have nx := sx
             have px := tx
             have Ix := vx
             have Fx := zx
             have Ex := Cy
             have Kx := Dy
             have Mx := Ey
             have Cx := Hy
             have Rx := Iy
             have Qx := Jy
             have Jx := Ay
             have HB := Ny
             clear sx tx vx zx Cy Dy Ey Hy Iy Jy Ay Ny
             have ox : w67.cell? ⟨Gx, 0, none⟩ = some (.slice gx Dx.length ix) ∧ w67.cell? ⟨Gx, 1, none⟩ = some (.slice Wx Bx.length Xx) ∧ w67.cell? ⟨Gx, 2, none⟩ = some (.slice Tx Ax.length Ux) ∧ w67.cell? ⟨Hx, 0, none⟩ = some (.int .i64 Ox) ∧ w67.cell? ⟨Hx, 1, none⟩ = some (.bool Px) := hS_
             refine norm_ (a' := ?_) ?_ ?_
             rotate_left
             ·
              simp only [rB, Act.put, sB, tB, uB]
              rfl
             refine one_ (i := 3) (N := some 41) #[wB, wB, wB, wB, xB, wB, wB, wB, wB, xB, wB, wB, wB, wB, xB, xB, xB, xB, xB, xB, xB] rfl rfl (one_of HT_.out (by kernel_rfl)) (by decide) (fun K hK => ?_)
             refine qA k37 _ 37 ?hg (N := 41) ?hd (xs := ([(⟨Ox, Px⟩ : S37)] : List (S37))) (inner := [.int .i64 Ox, .bool Px]) (ok := fun _ => True) (okp := fun _ => True) ?hr ?hp (fun _ hk => hk) trivial (Below.refl _ _) (Nat.le_refl _) (by simp) ?_; (case hd => rfl); (case hg => rfl); (case hr => first | (go_simp; done) | (go_simp; rfl)); (case hp => exact (Reps.c2 (show Kd.M k37 _ _ _ (⟨Ox, Px⟩ : S37) [.int .i64 Ox, .bool Px] from (k37_mkM _ _ _ (⟨Ox, Px⟩ : S37) )) (Reps.none _ _)))
             intro Ly w68 ho69 hb hg_ hnew_
             clear hg_ hnew_
             (first | rw [← Tz.out] at ho69 | (simp only [Int.reduceToNat] at ho69; rw [← Tz.out] at ho69))
             replace Fx := Aside0.mk (kA (by (with_reducible repeat (first | apply gA | apply mA | apply lA)); exact Fx.out) hb)
             replace Ex := Aside0.mk (kA (by (with_reducible repeat (first | apply gA | apply mA | apply lA)); exact Ex.out) hb)
             replace nx := Aside0.mk (kA (by (with_reducible repeat (first | apply gA | apply mA | apply lA)); exact nx.out) hb)
             replace px := Aside0.mk (kA (by (with_reducible repeat (first | apply gA | apply mA | apply lA)); exact px.out) hb)
             have lx := Aside0.mk (rA (wA (wA (vA ho69 (sA (by (with_reducible repeat (first | apply gA | apply mA | apply lA)); exact Ix.out))) (g := Nx) (o := .cells #[.int .i64 Vx, .bool Sx] 37 (0, 0)) (by (with_reducible repeat (first | refine mB ?_ _ | refine nB ?_ | refine oB ?_ _)); exact Qx.out)) (g := Hx) (o := .cells #[.int .i64 Ox, .bool Px] 37 (0, 0)) (by (with_reducible repeat (first | refine mB ?_ _ | refine nB ?_ | refine oB ?_ _)); exact Jx.out)) (kB (by repeat (first | (with_reducible first | exact HB.out | apply gB | apply hB | apply iB | refine jB ?_ cx.out | refine jB ?_ dx.out | refine jB ?_ ex.out | refine jB ?_ fx.out | refine jB ?_ jx.out | refine jB ?_ mx.out) | exact HB.out))))
             replace Ix := Aside0.mk (nA (by (with_reducible repeat (first | apply gA | apply mA | apply lA)); exact Ix.out) (jA ho69) hb)
             replace Kx := Aside0.mk (qB (g := bx) (o := .cells #[.int .i64 a0_0, .int .i64 a0_1, .int .i64 a0_2, .int .i64 a0_3] 26 (0, 0)) (by (with_reducible repeat (first | refine mB ?_ _ | refine nB ?_ | refine oB ?_ _)); exact Kx.out) hb)
             replace Mx := Aside0.mk (qB (g := Zx) (o := .cells #[.slice none 0 0, .slice none 0 0, .slice none 0 0, .int .i64 Yx] 72 (0, 0)) (by (with_reducible repeat (first | refine mB ?_ _ | refine nB ?_ | refine oB ?_ _)); exact Mx.out) hb)
             replace Cx := Aside0.mk (qB (g := Gx) (o := .cells #[.slice gx Dx.length ix, .slice Wx Bx.length Xx, .slice Tx Ax.length Ux] 70 (0, 0)) (by (with_reducible repeat (first | refine mB ?_ _ | refine nB ?_ | refine oB ?_ _)); exact Cx.out) hb)
             replace Rx := Aside0.mk (qB (g := kx) (o := mpObj Lx) (by (with_reducible repeat (first | refine mB ?_ _ | refine nB ?_ | refine oB ?_ _)); exact Rx.out) hb)
             replace Qx := Aside0.mk (qB (g := Nx) (o := .cells #[.int .i64 Vx, .bool Sx] 37 (0, 0)) (by (with_reducible repeat (first | refine mB ?_ _ | refine nB ?_ | refine oB ?_ _)); exact Qx.out) hb)
             replace Jx := Aside0.mk (qB (g := Hx) (o := .cells #[.int .i64 Ox, .bool Px] 37 (0, 0)) (by (with_reducible repeat (first | refine mB ?_ _ | refine nB ?_ | refine oB ?_ _)); exact Jx.out) hb)
             replace HB := Aside0.mk (lB (by repeat (first | (with_reducible first | exact HB.out | apply gB | apply hB | apply iB | refine jB ?_ cx.out | refine jB ?_ dx.out | refine jB ?_ ex.out | refine jB ?_ fx.out | refine jB ?_ jx.out | refine jB ?_ mx.out) | exact HB.out)) hb)
             clear hb ho69
             refine hK.out _ _ ⟨(pB Cx.out 0).trans rfl, (pB Cx.out 1).trans rfl, (pB Cx.out 2).trans rfl, (pB Jx.out 0).trans rfl, (pB Jx.out 1).trans rfl⟩ (fun ox => ?_)
             clear hK K
             refine norm_ (a' := ?_) ?_ ?_
             rotate_left
             ·
              show Act.put _ (some 41) _ = _
              simp only [Act.put, sB, tB, uB, i64_w, i32_w]
              rfl
             exact norm_ (by first | (simp only [rB, Act.put, sB, tB, uB]; done) | (simp only [rB, Act.put, sB, tB, uB]; rfl)) (oz (Ly, xx, By) _ ⟨ox, (tA lx.out (fun _ hk => ⟨hk.1.1.2, hk.1.2, hk.2⟩)), nx.out, px.out, (tA Ix.out (fun _ hk => ⟨hk.2, hk.1.1, hk.1.2⟩)), Fx.out, Ex.out, Kx.out, Mx.out, Cx.out, Rx.out, Qx.out, Jx.out, (HB.out)⟩)
            ·
             skip
             rintro Ly w65 ⟨hS_, cy, dy, ey, fy, gy, iy, jy, ky, ly, my, Qy⟩
             have sx : Aside0 (Kd.R k37 37 w65 w.heap.size (fun k_ => some k_ ≠ (vB gx Dx.length ix).ownBlock ∧ k_ ≠ Nx ∧ k_ ≠ Hx) Ly My) := ⟨cy⟩
             have tx : Aside0 (Kd.R k37 37 w65 w.heap.size (fun k_ => some k_ ≠ (Ly : Value).ownBlock ∧ k_ ≠ Nx ∧ k_ ≠ Hx) (.slice gx Dx.length ix) Dx) := ⟨dy⟩
             have vx : Aside0 (Kd.R (Kd.int .i64) 3 w65 w.heap.size (fun k_ => some k_ ≠ (vB Tx Ax.length Ux).ownBlock) (.slice Wx Bx.length Xx) Bx) := ⟨ey⟩
             have zx : Aside0 (Kd.R (Kd.int .i64) 3 w65 w.heap.size (fun k_ => some k_ ≠ (vB Wx Bx.length Xx).ownBlock) (.slice Tx Ax.length Ux) Ax) := ⟨fy⟩
             have Cy : Aside0 (w65.heap[bx]? = some (.cells #[.int .i64 a0_0, .int .i64 a0_1, .int .i64 a0_2, .int .i64 a0_3] 26 (0, 0))) := ⟨gy⟩
             have Dy : Aside0 (w65.heap[Zx]? = some (.cells #[.slice none 0 0, .slice none 0 0, .slice none 0 0, .int .i64 Yx] 72 (0, 0))) := ⟨iy⟩
             have Ey : Aside0 (w65.heap[Gx]? = some (.cells #[.slice gx Dx.length ix, .slice Wx Bx.length Xx, .slice Tx Ax.length Ux] 70 (0, 0))) := ⟨jy⟩
             have Hy : Aside0 (w65.heap[kx]? = some (mpObj Lx)) := ⟨ky⟩
             have Iy : Aside0 (w65.heap[Nx]? = some (.cells #[.int .i64 Vx, .bool Sx] 37 (0, 0))) := ⟨ly⟩
             have Jy : Aside0 (w65.heap[Hx]? = some (.cells #[.int .i64 Ox, .bool Px] 37 (0, 0))) := ⟨my⟩
             have Ay : Aside0 (Below w.heap.size w w65) := ⟨Qy⟩
             clear Ix Fx Ex Kx Mx Cx Rx Qx Jx HB cy dy ey fy gy iy jy ky ly my Qy
             have lx := sx
             have Ix := tx
             have Fx := vx
             have Ex := zx
             have Kx := Cy
             have Mx := Dy
             have Cx := Ey
             have Rx := Hy
             have Qx := Iy
             have Jx := Jy
             have HB := Ay
             clear sx tx vx zx Cy Dy Ey Hy Iy Jy Ay
             have ox : w65.cell? ⟨Gx, 0, none⟩ = some (.slice gx Dx.length ix) ∧ w65.cell? ⟨Gx, 1, none⟩ = some (.slice Wx Bx.length Xx) ∧ w65.cell? ⟨Gx, 2, none⟩ = some (.slice Tx Ax.length Ux) ∧ w65.cell? ⟨Hx, 0, none⟩ = some (.int .i64 Ox) ∧ w65.cell? ⟨Hx, 1, none⟩ = some (.bool Px) := hS_
             obtain ⟨Nq, Oq, eo67⟩ := bB lx.out
             (first | subst eo67 | (injection eo67 with f1_ f2_ f3_; have f4_ := f1_.symm; have f5_ := f3_.symm; clear f1_ f2_ f3_; subst f4_; subst f5_))
             refine norm_ (a' := ?_) ?_ ?_
             rotate_left
             ·
              simp only [rB, Act.put, sB, tB, uB]
              rfl
             refine three_ (i := 4) (j := 8) (k := 13) (Ni := some 42) (Nj := some 46) (Nk := some 51) #[wB, wB, wB, wB, wB, wB, wB, wB, xB, xB, wB, wB, wB, xB, xB, xB, xB, xB, xB, xB, xB] #[wB, wB, wB, wB, xB, wB, wB, wB, wB, xB, wB, wB, wB, xB, xB, xB, xB, xB, xB, xB, xB] #[wB, wB, wB, wB, xB, wB, wB, wB, xB, xB, wB, wB, wB, wB, xB, xB, xB, xB, xB, xB, xB] rfl rfl rfl rfl rfl rfl (three_of HT_.out (by kernel_rfl)) (by decide) (by decide) (by decide) (fun K hK => ?_) (fun K hK => ?_) (fun K hK => ?_)
             ·
              skip
              refine hA k37 (w0 := w) w.heap.size (by rfl) (.tmp 39) (.tmp 41) 68 37 (.agg #[(.int .i64 0), (.bool false)]) 16 rfl Try.underlying68 info37 rfl (by decide) (by omega) (.slice gx Dx.length ix) Dx My _ _ _ (fun k_ => some k_ ≠ (vB Nq My.length Oq).ownBlock ∧ k_ ≠ Nx ∧ k_ ≠ Hx) (fun _ => False) rfl rfl ?aO ?aR (fun _ _ h => h) (fun _ h => h.elim) ?aF ?aB ?aS ?aL ?_
              (case aR => repeat (first | exact (zA lx.out).2.2 | (with_reducible refine aA ?_ _) | (with_reducible refine cA ?_ _) | (with_reducible refine bA ?_)))
              (case aB => exact (by repeat (first | (with_reducible first | exact HB.out | apply gB | apply hB | apply iB | refine jB ?_ cx.out | refine jB ?_ dx.out | refine jB ?_ ex.out | refine jB ?_ fx.out | refine jB ?_ jx.out | refine jB ?_ mx.out) | exact HB.out)))
              (case aF => exact (fun k_ hk => ⟨Kd.fresh' (sA (by (with_reducible repeat (first | apply gA | apply mA | apply lA)); exact lx.out)) k_ hk, Kd.freshB (g := Nx) (o := .cells #[.int .i64 Vx, .bool Sx] 37 (0, 0)) (by (with_reducible repeat (first | refine mB ?_ _ | refine nB ?_ | refine oB ?_ _)); exact Qx.out) k_ hk, Kd.freshB (g := Hx) (o := .cells #[.int .i64 Ox, .bool Px] 37 (0, 0)) (by (with_reducible repeat (first | refine mB ?_ _ | refine nB ?_ | refine oB ?_ _)); exact Jx.out) k_ hk⟩))
              (case aO => exact (by (with_reducible repeat (first | apply gA | apply mA | apply lA)); exact Ix.out))
              (case aS => exact (kB (by repeat (first | (with_reducible first | exact HB.out | apply gB | apply hB | apply iB | refine jB ?_ cx.out | refine jB ?_ dx.out | refine jB ?_ ex.out | refine jB ?_ fx.out | refine jB ?_ jx.out | refine jB ?_ mx.out) | exact HB.out))))
              (case aL => have := Bq.out; omega)
              intro Vy w66 ho hb hg hat
              rw [← Cq.out] at ho
              replace Fx := Aside0.mk (yA (by (with_reducible repeat (first | apply gA | apply mA | apply lA)); exact Fx.out) (cB (by (with_reducible repeat (first | apply gA | apply mA | apply lA)); exact Ix.out)) (by decide) hg)
              replace Ex := Aside0.mk (yA (by (with_reducible repeat (first | apply gA | apply mA | apply lA)); exact Ex.out) (cB (by (with_reducible repeat (first | apply gA | apply mA | apply lA)); exact Ix.out)) (by decide) hg)
              replace Kx := Aside0.mk (blk_grown (g := bx) (o := .cells #[.int .i64 a0_0, .int .i64 a0_1, .int .i64 a0_2, .int .i64 a0_3] 26 (0, 0)) (by (with_reducible repeat (first | refine mB ?_ _ | refine nB ?_ | refine oB ?_ _)); exact Kx.out) hg (uA Ix.out Kx.out (by decide)))
              replace Mx := Aside0.mk (blk_grown (g := Zx) (o := .cells #[.slice none 0 0, .slice none 0 0, .slice none 0 0, .int .i64 Yx] 72 (0, 0)) (by (with_reducible repeat (first | refine mB ?_ _ | refine nB ?_ | refine oB ?_ _)); exact Mx.out) hg (uA Ix.out Mx.out (by decide)))
              replace Cx := Aside0.mk (blk_grown (g := Gx) (o := .cells #[.slice gx Dx.length ix, .slice Wx Bx.length Xx, .slice Tx Ax.length Ux] 70 (0, 0)) (by (with_reducible repeat (first | refine mB ?_ _ | refine nB ?_ | refine oB ?_ _)); exact Cx.out) hg (uA Ix.out Cx.out (by decide)))
              replace Rx := Aside0.mk (blk_grown (g := kx) (o := mpObj Lx) (by (with_reducible repeat (first | refine mB ?_ _ | refine nB ?_ | refine oB ?_ _)); exact Rx.out) hg (mp_ne Ix.out Rx.out))
              replace Qx := Aside0.mk (blk_grown (g := Nx) (o := .cells #[.int .i64 Vx, .bool Sx] 37 (0, 0)) (by (with_reducible repeat (first | refine mB ?_ _ | refine nB ?_ | refine oB ?_ _)); exact Qx.out) hg (iA Ix.out (fun _ hk => hk.2.1)))
              replace Jx := Aside0.mk (blk_grown (g := Hx) (o := .cells #[.int .i64 Ox, .bool Px] 37 (0, 0)) (by (with_reducible repeat (first | refine mB ?_ _ | refine nB ?_ | refine oB ?_ _)); exact Jx.out) hg (iA Ix.out (fun _ hk => hk.2.2)))
              replace lx := Aside0.mk (fA (ok := (fun k_ => k_ ≠ Nx ∧ k_ ≠ Hx)) (by (with_reducible repeat (first | apply gA | apply mA | apply lA)); exact tA lx.out (fun _ hk => ⟨⟨hk.2.1, hk.2.2⟩, hk.1⟩)) hg hat)
              replace HB := Aside0.mk (hb)
              have yx := Aside0.mk (ho)
              clear Ix ho hb hg hat
              refine hK.out _ _ ⟨(pB Cx.out 0).trans rfl, (pB Cx.out 1).trans rfl, (pB Cx.out 2).trans rfl, (pB Jx.out 0).trans rfl, (pB Jx.out 1).trans rfl⟩ (fun ox => ?_)
              clear hK K
              refine norm_ (a' := ?_) ?_ ?_
              rotate_left
              ·
               show Act.put _ (some 42) _ = _
               simp only [Act.put, sB, tB, uB, i64_w, i32_w]
               rfl
              refine pure_ (i := 15) (N := some 53) (v := ?_) (a' := ?_) #[wB, wB, wB, wB, wB, wB, wB, wB, xB, xB, wB, wB, wB, xB, xB, wB, xB, xB, xB, xB, xB] rfl rfl (any_of HT_.out (by kernel_rfl)) (fun _ _ _ h => h) (Or.inl ⟨by rfl, ?_⟩) ?_ ?_
              rotate_left
              ·
               intro w'
               go_simp
               with_reducible rfl
              rotate_left
              ·
               simp only [Act.put, sB, tB, uB, i64_w, i32_w]
               rfl
              exact norm_ (by first | (simp only [rB, Act.put, sB, tB, uB]; done) | (simp only [rB, Act.put, sB, tB, uB]; rfl)) (xq (.slice Nq My.length Oq, Vy) _ ⟨ox, (tA lx.out (fun _ hk => ⟨hk.2, hk.1.1, hk.1.2⟩)), yx.out, Fx.out, Ex.out, Kx.out, Mx.out, Cx.out, Rx.out, Qx.out, Jx.out, (HB.out)⟩)
             ·
              skip
              refine qA (Kd.int .i64) _ 3 ?hg (N := 46) ?hd (xs := ([Wy] : List Int)) (inner := [.int .i64 Wy]) (ok := fun _ => True) (okp := fun _ => True) ?hr ?hp (fun _ hk => hk) trivial (Below.refl _ _) (Nat.le_refl _) (by simp) ?_; (case hd => rfl); (case hg => rfl); (case hr => first | (go_simp; done) | (go_simp; rfl)); (case hp => exact (Reps.one (show Kd.M (Kd.int .i64) _ _ _ Wy [.int .i64 Wy] from rfl) (Reps.none _ _)))
              intro xx w66 ho67 hb hg_ hnew_
              clear hg_ hnew_
              (first | rw [← Gz.out] at ho67 | (simp only [Int.reduceToNat] at ho67; rw [← Gz.out] at ho67))
              replace Ix := Aside0.mk (kA (by (with_reducible repeat (first | apply gA | apply mA | apply lA)); exact Ix.out) hb)
              replace lx := Aside0.mk (kA (by (with_reducible repeat (first | apply gA | apply mA | apply lA)); exact lx.out) hb)
              have nx := Aside0.mk (rA (vA (vA ho67 (sA (by (with_reducible repeat (first | apply gA | apply mA | apply lA)); exact Fx.out))) (sA (by (with_reducible repeat (first | apply gA | apply mA | apply lA)); exact Ex.out))) (kB (by repeat (first | (with_reducible first | exact HB.out | apply gB | apply hB | apply iB | refine jB ?_ cx.out | refine jB ?_ dx.out | refine jB ?_ ex.out | refine jB ?_ fx.out | refine jB ?_ jx.out | refine jB ?_ mx.out) | exact HB.out))))
              replace Fx := Aside0.mk (nA (by (with_reducible repeat (first | apply gA | apply mA | apply lA)); exact Fx.out) (jA ho67) hb)
              replace Ex := Aside0.mk (nA (by (with_reducible repeat (first | apply gA | apply mA | apply lA)); exact Ex.out) (jA ho67) hb)
              replace Kx := Aside0.mk (qB (g := bx) (o := .cells #[.int .i64 a0_0, .int .i64 a0_1, .int .i64 a0_2, .int .i64 a0_3] 26 (0, 0)) (by (with_reducible repeat (first | refine mB ?_ _ | refine nB ?_ | refine oB ?_ _)); exact Kx.out) hb)
              replace Mx := Aside0.mk (qB (g := Zx) (o := .cells #[.slice none 0 0, .slice none 0 0, .slice none 0 0, .int .i64 Yx] 72 (0, 0)) (by (with_reducible repeat (first | refine mB ?_ _ | refine nB ?_ | refine oB ?_ _)); exact Mx.out) hb)
              replace Cx := Aside0.mk (qB (g := Gx) (o := .cells #[.slice gx Dx.length ix, .slice Wx Bx.length Xx, .slice Tx Ax.length Ux] 70 (0, 0)) (by (with_reducible repeat (first | refine mB ?_ _ | refine nB ?_ | refine oB ?_ _)); exact Cx.out) hb)
              replace Rx := Aside0.mk (qB (g := kx) (o := mpObj Lx) (by (with_reducible repeat (first | refine mB ?_ _ | refine nB ?_ | refine oB ?_ _)); exact Rx.out) hb)
              replace Qx := Aside0.mk (qB (g := Nx) (o := .cells #[.int .i64 Vx, .bool Sx] 37 (0, 0)) (by (with_reducible repeat (first | refine mB ?_ _ | refine nB ?_ | refine oB ?_ _)); exact Qx.out) hb)
              replace Jx := Aside0.mk (qB (g := Hx) (o := .cells #[.int .i64 Ox, .bool Px] 37 (0, 0)) (by (with_reducible repeat (first | refine mB ?_ _ | refine nB ?_ | refine oB ?_ _)); exact Jx.out) hb)
              replace HB := Aside0.mk (lB (by repeat (first | (with_reducible first | exact HB.out | apply gB | apply hB | apply iB | refine jB ?_ cx.out | refine jB ?_ dx.out | refine jB ?_ ex.out | refine jB ?_ fx.out | refine jB ?_ jx.out | refine jB ?_ mx.out) | exact HB.out)) hb)
              clear hb ho67
              refine hK.out _ _ ⟨(pB Cx.out 0).trans rfl, (pB Cx.out 1).trans rfl, (pB Cx.out 2).trans rfl, (pB Jx.out 0).trans rfl, (pB Jx.out 1).trans rfl⟩ (fun ox => ?_)
              clear hK K
              refine norm_ (a' := ?_) ?_ ?_
              rotate_left
              ·
               show Act.put _ (some 46) _ = _
               simp only [Act.put, sB, tB, uB, i64_w, i32_w]
               rfl
              exact norm_ (by first | (simp only [rB, Act.put, sB, tB, uB]; done) | (simp only [rB, Act.put, sB, tB, uB]; rfl)) (lq ((.slice Nq My.length Oq), xx) _ ⟨ox, lx.out, (tA nx.out (fun _ hk => ⟨hk.1.2, hk.2⟩)), Ix.out, (tA Fx.out (fun _ hk => ⟨hk.2, hk.1⟩)), (tA Ex.out (fun _ hk => ⟨hk.2, hk.1⟩)), Kx.out, Mx.out, Cx.out, Rx.out, Qx.out, Jx.out, (HB.out)⟩)
             ·
              skip
              refine qA (Kd.int .i64) _ 3 ?hg (N := 51) ?hd (xs := ([Ty] : List Int)) (inner := [.int .i64 Ty]) (ok := fun _ => True) (okp := fun _ => True) ?hr ?hp (fun _ hk => hk) trivial (Below.refl _ _) (Nat.le_refl _) (by simp) ?_; (case hd => rfl); (case hg => rfl); (case hr => first | (go_simp; done) | (go_simp; rfl)); (case hp => exact (Reps.one (show Kd.M (Kd.int .i64) _ _ _ Ty [.int .i64 Ty] from rfl) (Reps.none _ _)))
              intro By w66 ho67 hb hg_ hnew_
              clear hg_ hnew_
              (first | rw [← Az.out] at ho67 | (simp only [Int.reduceToNat] at ho67; rw [← Az.out] at ho67))
              replace Ix := Aside0.mk (kA (by (with_reducible repeat (first | apply gA | apply mA | apply lA)); exact Ix.out) hb)
              replace lx := Aside0.mk (kA (by (with_reducible repeat (first | apply gA | apply mA | apply lA)); exact lx.out) hb)
              have px := Aside0.mk (rA (vA (vA ho67 (sA (by (with_reducible repeat (first | apply gA | apply mA | apply lA)); exact Fx.out))) (sA (by (with_reducible repeat (first | apply gA | apply mA | apply lA)); exact Ex.out))) (kB (by repeat (first | (with_reducible first | exact HB.out | apply gB | apply hB | apply iB | refine jB ?_ cx.out | refine jB ?_ dx.out | refine jB ?_ ex.out | refine jB ?_ fx.out | refine jB ?_ jx.out | refine jB ?_ mx.out) | exact HB.out))))
              replace Fx := Aside0.mk (nA (by (with_reducible repeat (first | apply gA | apply mA | apply lA)); exact Fx.out) (jA ho67) hb)
              replace Ex := Aside0.mk (nA (by (with_reducible repeat (first | apply gA | apply mA | apply lA)); exact Ex.out) (jA ho67) hb)
              replace Kx := Aside0.mk (qB (g := bx) (o := .cells #[.int .i64 a0_0, .int .i64 a0_1, .int .i64 a0_2, .int .i64 a0_3] 26 (0, 0)) (by (with_reducible repeat (first | refine mB ?_ _ | refine nB ?_ | refine oB ?_ _)); exact Kx.out) hb)
              replace Mx := Aside0.mk (qB (g := Zx) (o := .cells #[.slice none 0 0, .slice none 0 0, .slice none 0 0, .int .i64 Yx] 72 (0, 0)) (by (with_reducible repeat (first | refine mB ?_ _ | refine nB ?_ | refine oB ?_ _)); exact Mx.out) hb)
              replace Cx := Aside0.mk (qB (g := Gx) (o := .cells #[.slice gx Dx.length ix, .slice Wx Bx.length Xx, .slice Tx Ax.length Ux] 70 (0, 0)) (by (with_reducible repeat (first | refine mB ?_ _ | refine nB ?_ | refine oB ?_ _)); exact Cx.out) hb)
              replace Rx := Aside0.mk (qB (g := kx) (o := mpObj Lx) (by (with_reducible repeat (first | refine mB ?_ _ | refine nB ?_ | refine oB ?_ _)); exact Rx.out) hb)
              replace Qx := Aside0.mk (qB (g := Nx) (o := .cells #[.int .i64 Vx, .bool Sx] 37 (0, 0)) (by (with_reducible repeat (first | refine mB ?_ _ | refine nB ?_ | refine oB ?_ _)); exact Qx.out) hb)
              replace Jx := Aside0.mk (qB (g := Hx) (o := .cells #[.int .i64 Ox, .bool Px] 37 (0, 0)) (by (with_reducible repeat (first | refine mB ?_ _ | refine nB ?_ | refine oB ?_ _)); exact Jx.out) hb)
              replace HB := Aside0.mk (lB (by repeat (first | (with_reducible first | exact HB.out | apply gB | apply hB | apply iB | refine jB ?_ cx.out | refine jB ?_ dx.out | refine jB ?_ ex.out | refine jB ?_ fx.out | refine jB ?_ jx.out | refine jB ?_ mx.out) | exact HB.out)) hb)
              clear hb ho67
              refine hK.out _ _ ⟨(pB Cx.out 0).trans rfl, (pB Cx.out 1).trans rfl, (pB Cx.out 2).trans rfl, (pB Jx.out 0).trans rfl, (pB Jx.out 1).trans rfl⟩ (fun ox => ?_)
              clear hK K
              refine norm_ (a' := ?_) ?_ ?_
              rotate_left
              ·
               show Act.put _ (some 51) _ = _
               simp only [Act.put, sB, tB, uB, i64_w, i32_w]
               rfl
              exact norm_ (by first | (simp only [rB, Act.put, sB, tB, uB]; done) | (simp only [rB, Act.put, sB, tB, uB]; rfl)) (Uq ((.slice Nq My.length Oq), By) _ ⟨ox, lx.out, (tA px.out (fun _ hk => ⟨hk.1.2, hk.2⟩)), Ix.out, (tA Fx.out (fun _ hk => ⟨hk.2, hk.1⟩)), (tA Ex.out (fun _ hk => ⟨hk.2, hk.1⟩)), Kx.out, Mx.out, Cx.out, Rx.out, Qx.out, Jx.out, (HB.out)⟩)
            ·
             skip
             rintro xx w65 ⟨hS_, cy, dy, ey, fy, gy, iy, jy, ky, ly, my, Qy⟩
             have sx : Aside0 (Kd.R (Kd.int .i64) 3 w65 w.heap.size (fun k_ => some k_ ≠ (vB Wx Bx.length Xx).ownBlock ∧ some k_ ≠ (vB Tx Ax.length Ux).ownBlock) xx Py) := ⟨cy⟩
             have tx : Aside0 (Kd.R k37 37 w65 w.heap.size (fun k_ => k_ ≠ Nx ∧ k_ ≠ Hx) (.slice gx Dx.length ix) Dx) := ⟨dy⟩
             have vx : Aside0 (Kd.R (Kd.int .i64) 3 w65 w.heap.size (fun k_ => some k_ ≠ (xx : Value).ownBlock ∧ some k_ ≠ (vB Tx Ax.length Ux).ownBlock) (.slice Wx Bx.length Xx) Bx) := ⟨ey⟩
             have zx : Aside0 (Kd.R (Kd.int .i64) 3 w65 w.heap.size (fun k_ => some k_ ≠ (xx : Value).ownBlock ∧ some k_ ≠ (vB Wx Bx.length Xx).ownBlock) (.slice Tx Ax.length Ux) Ax) := ⟨fy⟩
             have Cy : Aside0 (w65.heap[bx]? = some (.cells #[.int .i64 a0_0, .int .i64 a0_1, .int .i64 a0_2, .int .i64 a0_3] 26 (0, 0))) := ⟨gy⟩
             have Dy : Aside0 (w65.heap[Zx]? = some (.cells #[.slice none 0 0, .slice none 0 0, .slice none 0 0, .int .i64 Yx] 72 (0, 0))) := ⟨iy⟩
             have Ey : Aside0 (w65.heap[Gx]? = some (.cells #[.slice gx Dx.length ix, .slice Wx Bx.length Xx, .slice Tx Ax.length Ux] 70 (0, 0))) := ⟨jy⟩
             have Hy : Aside0 (w65.heap[kx]? = some (mpObj Lx)) := ⟨ky⟩
             have Iy : Aside0 (w65.heap[Nx]? = some (.cells #[.int .i64 Vx, .bool Sx] 37 (0, 0))) := ⟨ly⟩
             have Jy : Aside0 (w65.heap[Hx]? = some (.cells #[.int .i64 Ox, .bool Px] 37 (0, 0))) := ⟨my⟩
             have Ay : Aside0 (Below w.heap.size w w65) := ⟨Qy⟩
             clear Ix Fx Ex Kx Mx Cx Rx Qx Jx HB cy dy ey fy gy iy jy ky ly my Qy
             have nx := sx
             have Ix := tx
             have Fx := vx
             have Ex := zx
             have Kx := Cy
             have Mx := Dy
             have Cx := Ey
             have Rx := Hy
             have Qx := Iy
             have Jx := Jy
             have HB := Ay
             clear sx tx vx zx Cy Dy Ey Hy Iy Jy Ay
             have ox : w65.cell? ⟨Gx, 0, none⟩ = some (.slice gx Dx.length ix) ∧ w65.cell? ⟨Gx, 1, none⟩ = some (.slice Wx Bx.length Xx) ∧ w65.cell? ⟨Gx, 2, none⟩ = some (.slice Tx Ax.length Ux) ∧ w65.cell? ⟨Hx, 0, none⟩ = some (.int .i64 Ox) ∧ w65.cell? ⟨Hx, 1, none⟩ = some (.bool Px) := hS_
             refine norm_ (a' := ?_) ?_ ?_
             rotate_left
             ·
              simp only [rB, Act.put, sB, tB, uB]
              rfl
             refine two_ (i := 3) (j := 13) (Ni := some 41) (Nj := some 51) #[wB, wB, wB, wB, xB, wB, wB, wB, wB, xB, wB, wB, wB, xB, xB, xB, xB, xB, xB, xB, xB] #[wB, wB, wB, xB, xB, wB, wB, wB, wB, xB, wB, wB, wB, wB, xB, xB, xB, xB, xB, xB, xB] rfl rfl rfl rfl (two_of HT_.out (by kernel_rfl)) (by decide) (by decide) (fun K hK => ?_) (fun K hK => ?_)
             ·
              skip
              refine qA k37 _ 37 ?hg (N := 41) ?hd (xs := ([(⟨Ox, Px⟩ : S37)] : List (S37))) (inner := [.int .i64 Ox, .bool Px]) (ok := fun _ => True) (okp := fun _ => True) ?hr ?hp (fun _ hk => hk) trivial (Below.refl _ _) (Nat.le_refl _) (by simp) ?_; (case hd => rfl); (case hg => rfl); (case hr => first | (go_simp; done) | (go_simp; rfl)); (case hp => exact (Reps.c2 (show Kd.M k37 _ _ _ (⟨Ox, Px⟩ : S37) [.int .i64 Ox, .bool Px] from (k37_mkM _ _ _ (⟨Ox, Px⟩ : S37) )) (Reps.none _ _)))
              intro Ly w66 ho67 hb hg_ hnew_
              clear hg_ hnew_
              (first | rw [← Tz.out] at ho67 | (simp only [Int.reduceToNat] at ho67; rw [← Tz.out] at ho67))
              replace Fx := Aside0.mk (kA (by (with_reducible repeat (first | apply gA | apply mA | apply lA)); exact Fx.out) hb)
              replace Ex := Aside0.mk (kA (by (with_reducible repeat (first | apply gA | apply mA | apply lA)); exact Ex.out) hb)
              replace nx := Aside0.mk (kA (by (with_reducible repeat (first | apply gA | apply mA | apply lA)); exact nx.out) hb)
              have lx := Aside0.mk (rA (wA (wA (vA ho67 (sA (by (with_reducible repeat (first | apply gA | apply mA | apply lA)); exact Ix.out))) (g := Nx) (o := .cells #[.int .i64 Vx, .bool Sx] 37 (0, 0)) (by (with_reducible repeat (first | refine mB ?_ _ | refine nB ?_ | refine oB ?_ _)); exact Qx.out)) (g := Hx) (o := .cells #[.int .i64 Ox, .bool Px] 37 (0, 0)) (by (with_reducible repeat (first | refine mB ?_ _ | refine nB ?_ | refine oB ?_ _)); exact Jx.out)) (kB (by repeat (first | (with_reducible first | exact HB.out | apply gB | apply hB | apply iB | refine jB ?_ cx.out | refine jB ?_ dx.out | refine jB ?_ ex.out | refine jB ?_ fx.out | refine jB ?_ jx.out | refine jB ?_ mx.out) | exact HB.out))))
              replace Ix := Aside0.mk (nA (by (with_reducible repeat (first | apply gA | apply mA | apply lA)); exact Ix.out) (jA ho67) hb)
              replace Kx := Aside0.mk (qB (g := bx) (o := .cells #[.int .i64 a0_0, .int .i64 a0_1, .int .i64 a0_2, .int .i64 a0_3] 26 (0, 0)) (by (with_reducible repeat (first | refine mB ?_ _ | refine nB ?_ | refine oB ?_ _)); exact Kx.out) hb)
              replace Mx := Aside0.mk (qB (g := Zx) (o := .cells #[.slice none 0 0, .slice none 0 0, .slice none 0 0, .int .i64 Yx] 72 (0, 0)) (by (with_reducible repeat (first | refine mB ?_ _ | refine nB ?_ | refine oB ?_ _)); exact Mx.out) hb)
              replace Cx := Aside0.mk (qB (g := Gx) (o := .cells #[.slice gx Dx.length ix, .slice Wx Bx.length Xx, .slice Tx Ax.length Ux] 70 (0, 0)) (by (with_reducible repeat (first | refine mB ?_ _ | refine nB ?_ | refine oB ?_ _)); exact Cx.out) hb)
              replace Rx := Aside0.mk (qB (g := kx) (o := mpObj Lx) (by (with_reducible repeat (first | refine mB ?_ _ | refine nB ?_ | refine oB ?_ _)); exact Rx.out) hb)
              replace Qx := Aside0.mk (qB (g := Nx) (o := .cells #[.int .i64 Vx, .bool Sx] 37 (0, 0)) (by (with_reducible repeat (first | refine mB ?_ _ | refine nB ?_ | refine oB ?_ _)); exact Qx.out) hb)
              replace Jx := Aside0.mk (qB (g := Hx) (o := .cells #[.int .i64 Ox, .bool Px] 37 (0, 0)) (by (with_reducible repeat (first | refine mB ?_ _ | refine nB ?_ | refine oB ?_ _)); exact Jx.out) hb)
              replace HB := Aside0.mk (lB (by repeat (first | (with_reducible first | exact HB.out | apply gB | apply hB | apply iB | refine jB ?_ cx.out | refine jB ?_ dx.out | refine jB ?_ ex.out | refine jB ?_ fx.out | refine jB ?_ jx.out | refine jB ?_ mx.out) | exact HB.out)) hb)
              clear hb ho67
              refine hK.out _ _ ⟨(pB Cx.out 0).trans rfl, (pB Cx.out 1).trans rfl, (pB Cx.out 2).trans rfl, (pB Jx.out 0).trans rfl, (pB Jx.out 1).trans rfl⟩ (fun ox => ?_)
              clear hK K
              refine norm_ (a' := ?_) ?_ ?_
              rotate_left
              ·
               show Act.put _ (some 41) _ = _
               simp only [Act.put, sB, tB, uB, i64_w, i32_w]
               rfl
              exact norm_ (by first | (simp only [rB, Act.put, sB, tB, uB]; done) | (simp only [rB, Act.put, sB, tB, uB]; rfl)) (lq (Ly, xx) _ ⟨ox, (tA lx.out (fun _ hk => ⟨hk.1.1.2, hk.1.2, hk.2⟩)), nx.out, (tA Ix.out (fun _ hk => ⟨hk.2, hk.1.1, hk.1.2⟩)), Fx.out, Ex.out, Kx.out, Mx.out, Cx.out, Rx.out, Qx.out, Jx.out, (HB.out)⟩)
             ·
              skip
              refine qA (Kd.int .i64) _ 3 ?hg (N := 51) ?hd (xs := ([Ty] : List Int)) (inner := [.int .i64 Ty]) (ok := fun _ => True) (okp := fun _ => True) ?hr ?hp (fun _ hk => hk) trivial (Below.refl _ _) (Nat.le_refl _) (by simp) ?_; (case hd => rfl); (case hg => rfl); (case hr => first | (go_simp; done) | (go_simp; rfl)); (case hp => exact (Reps.one (show Kd.M (Kd.int .i64) _ _ _ Ty [.int .i64 Ty] from rfl) (Reps.none _ _)))
              intro By w66 ho67 hb hg_ hnew_
              clear hg_ hnew_
              (first | rw [← Az.out] at ho67 | (simp only [Int.reduceToNat] at ho67; rw [← Az.out] at ho67))
              replace Ix := Aside0.mk (kA (by (with_reducible repeat (first | apply gA | apply mA | apply lA)); exact Ix.out) hb)
              have px := Aside0.mk (rA (vA (vA (vA ho67 (sA (by (with_reducible repeat (first | apply gA | apply mA | apply lA)); exact Fx.out))) (sA (by (with_reducible repeat (first | apply gA | apply mA | apply lA)); exact Ex.out))) (sA (by (with_reducible repeat (first | apply gA | apply mA | apply lA)); exact nx.out))) (kB (by repeat (first | (with_reducible first | exact HB.out | apply gB | apply hB | apply iB | refine jB ?_ cx.out | refine jB ?_ dx.out | refine jB ?_ ex.out | refine jB ?_ fx.out | refine jB ?_ jx.out | refine jB ?_ mx.out) | exact HB.out))))
              replace Fx := Aside0.mk (nA (by (with_reducible repeat (first | apply gA | apply mA | apply lA)); exact Fx.out) (jA ho67) hb)
              replace Ex := Aside0.mk (nA (by (with_reducible repeat (first | apply gA | apply mA | apply lA)); exact Ex.out) (jA ho67) hb)
              replace nx := Aside0.mk (nA (by (with_reducible repeat (first | apply gA | apply mA | apply lA)); exact nx.out) (jA ho67) hb)
              replace Kx := Aside0.mk (qB (g := bx) (o := .cells #[.int .i64 a0_0, .int .i64 a0_1, .int .i64 a0_2, .int .i64 a0_3] 26 (0, 0)) (by (with_reducible repeat (first | refine mB ?_ _ | refine nB ?_ | refine oB ?_ _)); exact Kx.out) hb)
              replace Mx := Aside0.mk (qB (g := Zx) (o := .cells #[.slice none 0 0, .slice none 0 0, .slice none 0 0, .int .i64 Yx] 72 (0, 0)) (by (with_reducible repeat (first | refine mB ?_ _ | refine nB ?_ | refine oB ?_ _)); exact Mx.out) hb)
              replace Cx := Aside0.mk (qB (g := Gx) (o := .cells #[.slice gx Dx.length ix, .slice Wx Bx.length Xx, .slice Tx Ax.length Ux] 70 (0, 0)) (by (with_reducible repeat (first | refine mB ?_ _ | refine nB ?_ | refine oB ?_ _)); exact Cx.out) hb)
              replace Rx := Aside0.mk (qB (g := kx) (o := mpObj Lx) (by (with_reducible repeat (first | refine mB ?_ _ | refine nB ?_ | refine oB ?_ _)); exact Rx.out) hb)
              replace Qx := Aside0.mk (qB (g := Nx) (o := .cells #[.int .i64 Vx, .bool Sx] 37 (0, 0)) (by (with_reducible repeat (first | refine mB ?_ _ | refine nB ?_ | refine oB ?_ _)); exact Qx.out) hb)
              replace Jx := Aside0.mk (qB (g := Hx) (o := .cells #[.int .i64 Ox, .bool Px] 37 (0, 0)) (by (with_reducible repeat (first | refine mB ?_ _ | refine nB ?_ | refine oB ?_ _)); exact Jx.out) hb)
              replace HB := Aside0.mk (lB (by repeat (first | (with_reducible first | exact HB.out | apply gB | apply hB | apply iB | refine jB ?_ cx.out | refine jB ?_ dx.out | refine jB ?_ ex.out | refine jB ?_ fx.out | refine jB ?_ jx.out | refine jB ?_ mx.out) | exact HB.out)) hb)
              clear hb ho67
              refine hK.out _ _ ⟨(pB Cx.out 0).trans rfl, (pB Cx.out 1).trans rfl, (pB Cx.out 2).trans rfl, (pB Jx.out 0).trans rfl, (pB Jx.out 1).trans rfl⟩ (fun ox => ?_)
              clear hK K
              refine norm_ (a' := ?_) ?_ ?_
              rotate_left
              ·
               show Act.put _ (some 51) _ = _
               simp only [Act.put, sB, tB, uB, i64_w, i32_w]
               rfl
              exact norm_ (by first | (simp only [rB, Act.put, sB, tB, uB]; done) | (simp only [rB, Act.put, sB, tB, uB]; rfl)) (Vq (xx, By) _ ⟨ox, (tA nx.out (fun _ hk => ⟨hk.2, hk.1.1, hk.1.2⟩)), (tA px.out (fun _ hk => ⟨hk.2, hk.1.1.2, hk.1.2⟩)), Ix.out, (tA Fx.out (fun _ hk => ⟨hk.1.1, hk.2, hk.1.2⟩)), (tA Ex.out (fun _ hk => ⟨hk.1.1, hk.2, hk.1.2⟩)), Kx.out, Mx.out, Cx.out, Rx.out, Qx.out, Jx.out, (HB.out)⟩)
            ·
             skip
             rintro By w65 ⟨hS_, cy, dy, ey, fy, gy, iy, jy, ky, ly, my, Qy⟩
             have sx : Aside0 (Kd.R (Kd.int .i64) 3 w65 w.heap.size (fun k_ => some k_ ≠ (vB Wx Bx.length Xx).ownBlock ∧ some k_ ≠ (vB Tx Ax.length Ux).ownBlock) By Ry) := ⟨cy⟩
             have tx : Aside0 (Kd.R k37 37 w65 w.heap.size (fun k_ => k_ ≠ Nx ∧ k_ ≠ Hx) (.slice gx Dx.length ix) Dx) := ⟨dy⟩
             have vx : Aside0 (Kd.R (Kd.int .i64) 3 w65 w.heap.size (fun k_ => some k_ ≠ (By : Value).ownBlock ∧ some k_ ≠ (vB Tx Ax.length Ux).ownBlock) (.slice Wx Bx.length Xx) Bx) := ⟨ey⟩
             have zx : Aside0 (Kd.R (Kd.int .i64) 3 w65 w.heap.size (fun k_ => some k_ ≠ (By : Value).ownBlock ∧ some k_ ≠ (vB Wx Bx.length Xx).ownBlock) (.slice Tx Ax.length Ux) Ax) := ⟨fy⟩
             have Cy : Aside0 (w65.heap[bx]? = some (.cells #[.int .i64 a0_0, .int .i64 a0_1, .int .i64 a0_2, .int .i64 a0_3] 26 (0, 0))) := ⟨gy⟩
             have Dy : Aside0 (w65.heap[Zx]? = some (.cells #[.slice none 0 0, .slice none 0 0, .slice none 0 0, .int .i64 Yx] 72 (0, 0))) := ⟨iy⟩
             have Ey : Aside0 (w65.heap[Gx]? = some (.cells #[.slice gx Dx.length ix, .slice Wx Bx.length Xx, .slice Tx Ax.length Ux] 70 (0, 0))) := ⟨jy⟩
             have Hy : Aside0 (w65.heap[kx]? = some (mpObj Lx)) := ⟨ky⟩
             have Iy : Aside0 (w65.heap[Nx]? = some (.cells #[.int .i64 Vx, .bool Sx] 37 (0, 0))) := ⟨ly⟩
             have Jy : Aside0 (w65.heap[Hx]? = some (.cells #[.int .i64 Ox, .bool Px] 37 (0, 0))) := ⟨my⟩
             have Ay : Aside0 (Below w.heap.size w w65) := ⟨Qy⟩
             clear Ix Fx Ex Kx Mx Cx Rx Qx Jx HB cy dy ey fy gy iy jy ky ly my Qy
             have px := sx
             have Ix := tx
             have Fx := vx
             have Ex := zx
             have Kx := Cy
             have Mx := Dy
             have Cx := Ey
             have Rx := Hy
             have Qx := Iy
             have Jx := Jy
             have HB := Ay
             clear sx tx vx zx Cy Dy Ey Hy Iy Jy Ay
             have ox : w65.cell? ⟨Gx, 0, none⟩ = some (.slice gx Dx.length ix) ∧ w65.cell? ⟨Gx, 1, none⟩ = some (.slice Wx Bx.length Xx) ∧ w65.cell? ⟨Gx, 2, none⟩ = some (.slice Tx Ax.length Ux) ∧ w65.cell? ⟨Hx, 0, none⟩ = some (.int .i64 Ox) ∧ w65.cell? ⟨Hx, 1, none⟩ = some (.bool Px) := hS_
             refine norm_ (a' := ?_) ?_ ?_
             rotate_left
             ·
              simp only [rB, Act.put, sB, tB, uB]
              rfl
             refine two_ (i := 3) (j := 8) (Ni := some 41) (Nj := some 46) #[wB, wB, wB, wB, xB, wB, wB, wB, xB, xB, wB, wB, wB, wB, xB, xB, xB, xB, xB, xB, xB] #[wB, wB, wB, xB, xB, wB, wB, wB, wB, xB, wB, wB, wB, wB, xB, xB, xB, xB, xB, xB, xB] rfl rfl rfl rfl (two_of HT_.out (by kernel_rfl)) (by decide) (by decide) (fun K hK => ?_) (fun K hK => ?_)
             ·
              skip
              refine qA k37 _ 37 ?hg (N := 41) ?hd (xs := ([(⟨Ox, Px⟩ : S37)] : List (S37))) (inner := [.int .i64 Ox, .bool Px]) (ok := fun _ => True) (okp := fun _ => True) ?hr ?hp (fun _ hk => hk) trivial (Below.refl _ _) (Nat.le_refl _) (by simp) ?_; (case hd => rfl); (case hg => rfl); (case hr => first | (go_simp; done) | (go_simp; rfl)); (case hp => exact (Reps.c2 (show Kd.M k37 _ _ _ (⟨Ox, Px⟩ : S37) [.int .i64 Ox, .bool Px] from (k37_mkM _ _ _ (⟨Ox, Px⟩ : S37) )) (Reps.none _ _)))
              intro Ly w66 ho67 hb hg_ hnew_
              clear hg_ hnew_
              (first | rw [← Tz.out] at ho67 | (simp only [Int.reduceToNat] at ho67; rw [← Tz.out] at ho67))
              replace Fx := Aside0.mk (kA (by (with_reducible repeat (first | apply gA | apply mA | apply lA)); exact Fx.out) hb)
              replace Ex := Aside0.mk (kA (by (with_reducible repeat (first | apply gA | apply mA | apply lA)); exact Ex.out) hb)
              replace px := Aside0.mk (kA (by (with_reducible repeat (first | apply gA | apply mA | apply lA)); exact px.out) hb)
              have lx := Aside0.mk (rA (wA (wA (vA ho67 (sA (by (with_reducible repeat (first | apply gA | apply mA | apply lA)); exact Ix.out))) (g := Nx) (o := .cells #[.int .i64 Vx, .bool Sx] 37 (0, 0)) (by (with_reducible repeat (first | refine mB ?_ _ | refine nB ?_ | refine oB ?_ _)); exact Qx.out)) (g := Hx) (o := .cells #[.int .i64 Ox, .bool Px] 37 (0, 0)) (by (with_reducible repeat (first | refine mB ?_ _ | refine nB ?_ | refine oB ?_ _)); exact Jx.out)) (kB (by repeat (first | (with_reducible first | exact HB.out | apply gB | apply hB | apply iB | refine jB ?_ cx.out | refine jB ?_ dx.out | refine jB ?_ ex.out | refine jB ?_ fx.out | refine jB ?_ jx.out | refine jB ?_ mx.out) | exact HB.out))))
              replace Ix := Aside0.mk (nA (by (with_reducible repeat (first | apply gA | apply mA | apply lA)); exact Ix.out) (jA ho67) hb)
              replace Kx := Aside0.mk (qB (g := bx) (o := .cells #[.int .i64 a0_0, .int .i64 a0_1, .int .i64 a0_2, .int .i64 a0_3] 26 (0, 0)) (by (with_reducible repeat (first | refine mB ?_ _ | refine nB ?_ | refine oB ?_ _)); exact Kx.out) hb)
              replace Mx := Aside0.mk (qB (g := Zx) (o := .cells #[.slice none 0 0, .slice none 0 0, .slice none 0 0, .int .i64 Yx] 72 (0, 0)) (by (with_reducible repeat (first | refine mB ?_ _ | refine nB ?_ | refine oB ?_ _)); exact Mx.out) hb)
              replace Cx := Aside0.mk (qB (g := Gx) (o := .cells #[.slice gx Dx.length ix, .slice Wx Bx.length Xx, .slice Tx Ax.length Ux] 70 (0, 0)) (by (with_reducible repeat (first | refine mB ?_ _ | refine nB ?_ | refine oB ?_ _)); exact Cx.out) hb)
              replace Rx := Aside0.mk (qB (g := kx) (o := mpObj Lx) (by (with_reducible repeat (first | refine mB ?_ _ | refine nB ?_ | refine oB ?_ _)); exact Rx.out) hb)
              replace Qx := Aside0.mk (qB (g := Nx) (o := .cells #[.int .i64 Vx, .bool Sx] 37 (0, 0)) (by (with_reducible repeat (first | refine mB ?_ _ | refine nB ?_ | refine oB ?_ _)); exact Qx.out) hb)
              replace Jx := Aside0.mk (qB (g := Hx) (o := .cells #[.int .i64 Ox, .bool Px] 37 (0, 0)) (by (with_reducible repeat (first | refine mB ?_ _ | refine nB ?_ | refine oB ?_ _)); exact Jx.out) hb)
              replace HB := Aside0.mk (lB (by repeat (first | (with_reducible first | exact HB.out | apply gB | apply hB | apply iB | refine jB ?_ cx.out | refine jB ?_ dx.out | refine jB ?_ ex.out | refine jB ?_ fx.out | refine jB ?_ jx.out | refine jB ?_ mx.out) | exact HB.out)) hb)
              clear hb ho67
              refine hK.out _ _ ⟨(pB Cx.out 0).trans rfl, (pB Cx.out 1).trans rfl, (pB Cx.out 2).trans rfl, (pB Jx.out 0).trans rfl, (pB Jx.out 1).trans rfl⟩ (fun ox => ?_)
              clear hK K
              refine norm_ (a' := ?_) ?_ ?_
              rotate_left
              ·
               show Act.put _ (some 41) _ = _
               simp only [Act.put, sB, tB, uB, i64_w, i32_w]
               rfl
              exact norm_ (by first | (simp only [rB, Act.put, sB, tB, uB]; done) | (simp only [rB, Act.put, sB, tB, uB]; rfl)) (Uq (Ly, By) _ ⟨ox, (tA lx.out (fun _ hk => ⟨hk.1.1.2, hk.1.2, hk.2⟩)), px.out, (tA Ix.out (fun _ hk => ⟨hk.2, hk.1.1, hk.1.2⟩)), Fx.out, Ex.out, Kx.out, Mx.out, Cx.out, Rx.out, Qx.out, Jx.out, (HB.out)⟩)
             ·
              skip
              refine qA (Kd.int .i64) _ 3 ?hg (N := 46) ?hd (xs := ([Wy] : List Int)) (inner := [.int .i64 Wy]) (ok := fun _ => True) (okp := fun _ => True) ?hr ?hp (fun _ hk => hk) trivial (Below.refl _ _) (Nat.le_refl _) (by simp) ?_; (case hd => rfl); (case hg => rfl); (case hr => first | (go_simp; done) | (go_simp; rfl)); (case hp => exact (Reps.one (show Kd.M (Kd.int .i64) _ _ _ Wy [.int .i64 Wy] from rfl) (Reps.none _ _)))
              intro xx w66 ho67 hb hg_ hnew_
              clear hg_ hnew_
              (first | rw [← Gz.out] at ho67 | (simp only [Int.reduceToNat] at ho67; rw [← Gz.out] at ho67))
              replace Ix := Aside0.mk (kA (by (with_reducible repeat (first | apply gA | apply mA | apply lA)); exact Ix.out) hb)
              have nx := Aside0.mk (rA (vA (vA (vA ho67 (sA (by (with_reducible repeat (first | apply gA | apply mA | apply lA)); exact Fx.out))) (sA (by (with_reducible repeat (first | apply gA | apply mA | apply lA)); exact Ex.out))) (sA (by (with_reducible repeat (first | apply gA | apply mA | apply lA)); exact px.out))) (kB (by repeat (first | (with_reducible first | exact HB.out | apply gB | apply hB | apply iB | refine jB ?_ cx.out | refine jB ?_ dx.out | refine jB ?_ ex.out | refine jB ?_ fx.out | refine jB ?_ jx.out | refine jB ?_ mx.out) | exact HB.out))))
              replace Fx := Aside0.mk (nA (by (with_reducible repeat (first | apply gA | apply mA | apply lA)); exact Fx.out) (jA ho67) hb)
              replace Ex := Aside0.mk (nA (by (with_reducible repeat (first | apply gA | apply mA | apply lA)); exact Ex.out) (jA ho67) hb)
              replace px := Aside0.mk (nA (by (with_reducible repeat (first | apply gA | apply mA | apply lA)); exact px.out) (jA ho67) hb)
              replace Kx := Aside0.mk (qB (g := bx) (o := .cells #[.int .i64 a0_0, .int .i64 a0_1, .int .i64 a0_2, .int .i64 a0_3] 26 (0, 0)) (by (with_reducible repeat (first | refine mB ?_ _ | refine nB ?_ | refine oB ?_ _)); exact Kx.out) hb)
              replace Mx := Aside0.mk (qB (g := Zx) (o := .cells #[.slice none 0 0, .slice none 0 0, .slice none 0 0, .int .i64 Yx] 72 (0, 0)) (by (with_reducible repeat (first | refine mB ?_ _ | refine nB ?_ | refine oB ?_ _)); exact Mx.out) hb)
              replace Cx := Aside0.mk (qB (g := Gx) (o := .cells #[.slice gx Dx.length ix, .slice Wx Bx.length Xx, .slice Tx Ax.length Ux] 70 (0, 0)) (by (with_reducible repeat (first | refine mB ?_ _ | refine nB ?_ | refine oB ?_ _)); exact Cx.out) hb)
              replace Rx := Aside0.mk (qB (g := kx) (o := mpObj Lx) (by (with_reducible repeat (first | refine mB ?_ _ | refine nB ?_ | refine oB ?_ _)); exact Rx.out) hb)
              replace Qx := Aside0.mk (qB (g := Nx) (o := .cells #[.int .i64 Vx, .bool Sx] 37 (0, 0)) (by (with_reducible repeat (first | refine mB ?_ _ | refine nB ?_ | refine oB ?_ _)); exact Qx.out) hb)
              replace Jx := Aside0.mk (qB (g := Hx) (o := .cells #[.int .i64 Ox, .bool Px] 37 (0, 0)) (by (with_reducible repeat (first | refine mB ?_ _ | refine nB ?_ | refine oB ?_ _)); exact Jx.out) hb)
              replace HB := Aside0.mk (lB (by repeat (first | (with_reducible first | exact HB.out | apply gB | apply hB | apply iB | refine jB ?_ cx.out | refine jB ?_ dx.out | refine jB ?_ ex.out | refine jB ?_ fx.out | refine jB ?_ jx.out | refine jB ?_ mx.out) | exact HB.out)) hb)
              clear hb ho67
              refine hK.out _ _ ⟨(pB Cx.out 0).trans rfl, (pB Cx.out 1).trans rfl, (pB Cx.out 2).trans rfl, (pB Jx.out 0).trans rfl, (pB Jx.out 1).trans rfl⟩ (fun ox => ?_)
              clear hK K
              refine norm_ (a' := ?_) ?_ ?_
              rotate_left
              ·
               show Act.put _ (some 46) _ = _
               simp only [Act.put, sB, tB, uB, i64_w, i32_w]
               rfl
              exact norm_ (by first | (simp only [rB, Act.put, sB, tB, uB]; done) | (simp only [rB, Act.put, sB, tB, uB]; rfl)) (Vq (xx, By) _ ⟨ox, (tA nx.out (fun _ hk => ⟨hk.2, hk.1.1.2, hk.1.2⟩)), (tA px.out (fun _ hk => ⟨hk.2, hk.1.1, hk.1.2⟩)), Ix.out, (tA Fx.out (fun _ hk => ⟨hk.2, hk.1.1, hk.1.2⟩)), (tA Ex.out (fun _ hk => ⟨hk.2, hk.1.1, hk.1.2⟩)), Kx.out, Mx.out, Cx.out, Rx.out, Qx.out, Jx.out, (HB.out)⟩)
           ·
            rw [if_neg c39] at H
            exact absurd H (by simp)
          ·
           rw [if_neg c38] at H
           exact absurd H (by simp)
         ·
          rw [if_neg c37] at H
          exact absurd H (by simp)
        ·
         rw [if_neg c36] at H
         exact absurd H (by simp)
     ·
      rw [if_neg c19] at H
      exact absurd H (by simp)
    ·
     rw [if_neg c18] at H
     exact absurd H (by simp)
-- LIFT END

end Go.Proofs.Ytbpkfdclplcbaaa.Pr
