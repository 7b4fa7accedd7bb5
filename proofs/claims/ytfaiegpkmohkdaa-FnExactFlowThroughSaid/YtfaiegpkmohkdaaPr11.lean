/- What the Go functions of this seat compute, each with the proof that its call computes it; laid by a program of this session (wip/tools/ownprint.py), for all inputs. -/
import Derived.Test.YtfaiegpkmohkdaaPr0
import Derived.Test.YtfaiegpkmohkdaaPr3
import Derived.Test.YtfaiegpkmohkdaaPr4
import Derived.Test.YtfaiegpkmohkdaaPr8
import Derived.Test.YtfaiegpkmohkdaaPr9
import Derived.Test.YtfaiegpkmohkdaaPr10
namespace Go.Proofs.Ytfaiegpkmohkdaa.Pr
open Go.RowKit Go.Proofs.YtfaiegpkmohkdaaW.PrintWords Go.Proofs.YtfaiegpkmohkdaaW.PrintLast Go.Proofs.YtfaiegpkmohkdaaW.PrintMore
attribute [local go_sem] max2_int min2_int max_two min_two max_three min_three max_four min_four   -- for this text's walks alone
set_option linter.unusedVariables false
set_option linter.unusedSimpArgs false

/-! ### impl_piped: a way -/
set_option maxHeartbeats 8000000 in
set_option maxRecDepth 100000 in
theorem impl_piped.leaf3 (a0_0 a0_1 a0_2 a1_0 a1_1 a1_2 a2 : Int) (w : World) (k : Nat) (ih : ∀ (m : Nat), m < k + 1 → ∀ (a0_0 a0_1 a0_2 a1_0 a1_1 a1_2 a2 r1 r2 r3 r4 : Int) (w : World), f m a0_0 a0_1 a0_2 a1_0 a1_1 a1_2 a2 = some (r1, r2, r3, r4) → Calls Try.prog 49 #[Value.agg #[Value.int IntKind.i64 a0_0, Value.int IntKind.i64 a0_1, Value.int IntKind.i64 a0_2], Value.agg #[Value.int IntKind.i64 a1_0, Value.int IntKind.i64 a1_1, Value.int IntKind.i64 a1_2], Value.int IntKind.i64 a2] w fun e w' => e = Ending.returned (Value.tuple #[Value.agg #[Value.int IntKind.i64 r1, Value.int IntKind.i64 r2], Value.agg #[Value.int IntKind.i64 r3, Value.int IntKind.i64 r4]]) ∧ Below (Array.size (World.heap w)) w w') (HB : Aside0 (Below (Array.size (World.heap w)) w w)) (t272 t273 : Int) (A4 : Aside0 (impl_Tank_level.f k a0_0 a0_1 a0_2 = some (t272, t273))) (t274 t275 : Int) (A5 : Aside0 (impl_Tank_level.f k a1_0 a1_1 a1_2 = some (t274, t275))) (A6 : Aside0 (impl_Ratio_isLess.f t272 t273 t274 t275 = some false)) (t284 t285 : Int) (A44 : Aside0 (impl_Tank_level.f k a0_0 a0_1 a0_2 = some (t284, t285))) (A45 : Aside0 (impl_Ratio_isLess.f a2 1 t284 t285 = some false)) (t287 t288 : Int) (A136 : Aside0 (impl_Tank_level.f k a0_0 a0_1 a0_2 = some (t287, t288))) (t289 t290 : Int) (A137 : Aside0 (impl_Tank_level.f k a1_0 a1_1 a1_2 = some (t289, t290))) :
    Calls Try.prog 49 #[Value.agg #[Value.int IntKind.i64 a0_0, Value.int IntKind.i64 a0_1, Value.int IntKind.i64 a0_2], Value.agg #[Value.int IntKind.i64 a1_0, Value.int IntKind.i64 a1_1, Value.int IntKind.i64 a1_2], Value.int IntKind.i64 a2] w fun e w' => e = Ending.returned (Value.tuple #[Value.agg #[Value.int IntKind.i64 t287, Value.int IntKind.i64 t288], Value.agg #[Value.int IntKind.i64 t289, Value.int IntKind.i64 t290]]) ∧ Below (Array.size (World.heap w)) w w' := by
  have hu25 := Try.underlying25
  have hu29 := Try.underlying29
  go_enter Try.func49, Try.ntmps49
  try go_wp2_with (first | ((with_reducible refine gate_dst (N := 3) rfl ?_); refine box_event ?hg (N := 3) ?hd (cs := #[.int .i64 a0_0, .int .i64 a0_1, .int .i64 a0_2]) (t := 25) ?hr ?_; (case hd => rfl); (case hg => rfl); (case hr => first | (go_simp; done) | (go_simp; rfl)); intro gb268 hg w138 hbox hb; have n0_ := Aside0.mk (below_step (by repeat (first | (with_reducible first | exact HB.out | apply below_alloc | apply pw_below_drewN | apply below_drew1) | exact HB.out)) hb); have n1_ := Aside0.mk (hbox); have n2_ := Aside0.mk ((by rw [hg]; exact (below_size (by repeat (first | (with_reducible first | exact HB.out | apply below_alloc | apply pw_below_drewN | apply below_drew1) | exact HB.out))) : w.heap.size ≤ gb268)); have n3_ := Aside0.mk ((by rw [hg]; exact (below_size (by repeat (first | (with_reducible first | exact HB.out | apply below_alloc | apply pw_below_drewN | apply below_drew1) | exact HB.out))) : w.heap.size ≤ gb268)); clear HB; have HB := n0_; have BK268 := n1_; have GW268 := n2_; have GE268 := n3_; clear n0_ n1_ n2_ n3_; clear hb hbox hg) | ((with_reducible refine gate_dst (N := 4) rfl ?_); refine box_event ?hg (N := 4) ?hd (cs := #[.int .i64 a1_0, .int .i64 a1_1, .int .i64 a1_2]) (t := 25) ?hr ?_; (case hd => rfl); (case hg => rfl); (case hr => first | (go_simp; done) | (go_simp; rfl)); intro gb269 hg w139 hbox hb; have n0_ := Aside0.mk (blk_below (g := gb268) (o := .cells #[.int .i64 a0_0, .int .i64 a0_1, .int .i64 a0_2] 25 (0, 0)) (by (with_reducible repeat (first | refine blk_drewN ?_ _ | refine blk_drew ?_ | refine blk_alloc ?_ _)); exact BK268.out) hb); have n1_ := Aside0.mk (below_step (by repeat (first | (with_reducible first | exact HB.out | apply below_alloc | apply pw_below_drewN | apply below_drew1 | refine below_set ?_ GE268.out) | exact HB.out)) hb); have n2_ := Aside0.mk (hbox); have n3_ := Aside0.mk ((by rw [hg]; exact (below_size (by repeat (first | (with_reducible first | exact HB.out | apply below_alloc | apply pw_below_drewN | apply below_drew1 | refine below_set ?_ GE268.out) | exact HB.out))) : w.heap.size ≤ gb269)); have n4_ := Aside0.mk ((by rw [hg]; exact (below_size (by repeat (first | (with_reducible first | exact HB.out | apply below_alloc | apply pw_below_drewN | apply below_drew1 | refine below_set ?_ GE268.out) | exact HB.out))) : w.heap.size ≤ gb269)); have n5_ := Aside0.mk ((by rw [hg]; exact Nat.ne_of_lt (blk_lt (g := gb268) (o := .cells #[.int .i64 a0_0, .int .i64 a0_1, .int .i64 a0_2] 25 (0, 0)) (by (with_reducible repeat (first | refine blk_drewN ?_ _ | refine blk_drew ?_ | refine blk_alloc ?_ _)); exact BK268.out)) : gb268 ≠ gb269)); have n6_ := Aside0.mk ((by rw [hg]; exact Nat.ne_of_gt (blk_lt (g := gb268) (o := .cells #[.int .i64 a0_0, .int .i64 a0_1, .int .i64 a0_2] 25 (0, 0)) (by (with_reducible repeat (first | refine blk_drewN ?_ _ | refine blk_drew ?_ | refine blk_alloc ?_ _)); exact BK268.out)) : gb269 ≠ gb268)); clear BK268; clear HB; have BK268 := n0_; have HB := n1_; have BK269 := n2_; have GW269 := n3_; have GE269 := n4_; have NB268_269 := n5_; have NB269_268 := n6_; clear n0_ n1_ n2_ n3_ n4_ n5_ n6_; clear hb hbox hg) | ((with_reducible refine gate_dst (N := 6) rfl ?_); refine box_event ?hg (N := 6) ?hd (cs := #[.int .i64 0, .int .i64 0]) (t := 29) ?hr ?_; (case hd => rfl); (case hg => rfl); (case hr => first | (go_simp; done) | (go_simp; rfl)); intro gb270 hg w140 hbox hb; have n0_ := Aside0.mk (blk_below (g := gb268) (o := .cells #[.int .i64 a0_0, .int .i64 a0_1, .int .i64 a0_2] 25 (0, 0)) (by (with_reducible repeat (first | refine blk_drewN ?_ _ | refine blk_drew ?_ | refine blk_alloc ?_ _)); exact BK268.out) hb); have n1_ := Aside0.mk (blk_below (g := gb269) (o := .cells #[.int .i64 a1_0, .int .i64 a1_1, .int .i64 a1_2] 25 (0, 0)) (by (with_reducible repeat (first | refine blk_drewN ?_ _ | refine blk_drew ?_ | refine blk_alloc ?_ _)); exact BK269.out) hb); have n2_ := Aside0.mk (below_step (by repeat (first | (with_reducible first | exact HB.out | apply below_alloc | apply pw_below_drewN | apply below_drew1 | refine below_set ?_ GE268.out | refine below_set ?_ GE269.out) | exact HB.out)) hb); have n3_ := Aside0.mk (hbox); have n4_ := Aside0.mk ((by rw [hg]; exact (below_size (by repeat (first | (with_reducible first | exact HB.out | apply below_alloc | apply pw_below_drewN | apply below_drew1 | refine below_set ?_ GE268.out | refine below_set ?_ GE269.out) | exact HB.out))) : w.heap.size ≤ gb270)); have n5_ := Aside0.mk ((by rw [hg]; exact (below_size (by repeat (first | (with_reducible first | exact HB.out | apply below_alloc | apply pw_below_drewN | apply below_drew1 | refine below_set ?_ GE268.out | refine below_set ?_ GE269.out) | exact HB.out))) : w.heap.size ≤ gb270)); have n6_ := Aside0.mk ((by rw [hg]; exact Nat.ne_of_lt (blk_lt (g := gb268) (o := .cells #[.int .i64 a0_0, .int .i64 a0_1, .int .i64 a0_2] 25 (0, 0)) (by (with_reducible repeat (first | refine blk_drewN ?_ _ | refine blk_drew ?_ | refine blk_alloc ?_ _)); exact BK268.out)) : gb268 ≠ gb270)); have n7_ := Aside0.mk ((by rw [hg]; exact Nat.ne_of_gt (blk_lt (g := gb268) (o := .cells #[.int .i64 a0_0, .int .i64 a0_1, .int .i64 a0_2] 25 (0, 0)) (by (with_reducible repeat (first | refine blk_drewN ?_ _ | refine blk_drew ?_ | refine blk_alloc ?_ _)); exact BK268.out)) : gb270 ≠ gb268)); have n8_ := Aside0.mk ((by rw [hg]; exact Nat.ne_of_lt (blk_lt (g := gb269) (o := .cells #[.int .i64 a1_0, .int .i64 a1_1, .int .i64 a1_2] 25 (0, 0)) (by (with_reducible repeat (first | refine blk_drewN ?_ _ | refine blk_drew ?_ | refine blk_alloc ?_ _)); exact BK269.out)) : gb269 ≠ gb270)); have n9_ := Aside0.mk ((by rw [hg]; exact Nat.ne_of_gt (blk_lt (g := gb269) (o := .cells #[.int .i64 a1_0, .int .i64 a1_1, .int .i64 a1_2] 25 (0, 0)) (by (with_reducible repeat (first | refine blk_drewN ?_ _ | refine blk_drew ?_ | refine blk_alloc ?_ _)); exact BK269.out)) : gb270 ≠ gb269)); clear BK268; clear BK269; clear HB; have BK268 := n0_; have BK269 := n1_; have HB := n2_; have BK270 := n3_; have GW270 := n4_; have GE270 := n5_; have NB268_270 := n6_; have NB270_268 := n7_; have NB269_270 := n8_; have NB270_269 := n9_; clear n0_ n1_ n2_ n3_ n4_ n5_ n6_ n7_ n8_ n9_; clear hb hbox hg) | ((with_reducible refine gate_dst (N := 7) rfl ?_); refine box_event ?hg (N := 7) ?hd (cs := #[.int .i64 0, .int .i64 0]) (t := 29) ?hr ?_; (case hd => rfl); (case hg => rfl); (case hr => first | (go_simp; done) | (go_simp; rfl)); intro gb271 hg w141 hbox hb; have n0_ := Aside0.mk (blk_below (g := gb268) (o := .cells #[.int .i64 a0_0, .int .i64 a0_1, .int .i64 a0_2] 25 (0, 0)) (by (with_reducible repeat (first | refine blk_drewN ?_ _ | refine blk_drew ?_ | refine blk_alloc ?_ _)); exact BK268.out) hb); have n1_ := Aside0.mk (blk_below (g := gb269) (o := .cells #[.int .i64 a1_0, .int .i64 a1_1, .int .i64 a1_2] 25 (0, 0)) (by (with_reducible repeat (first | refine blk_drewN ?_ _ | refine blk_drew ?_ | refine blk_alloc ?_ _)); exact BK269.out) hb); have n2_ := Aside0.mk (blk_below (g := gb270) (o := .cells #[.int .i64 0, .int .i64 0] 29 (0, 0)) (by (with_reducible repeat (first | refine blk_drewN ?_ _ | refine blk_drew ?_ | refine blk_alloc ?_ _)); exact BK270.out) hb); have n3_ := Aside0.mk (below_step (by repeat (first | (with_reducible first | exact HB.out | apply below_alloc | apply pw_below_drewN | apply below_drew1 | refine below_set ?_ GE268.out | refine below_set ?_ GE269.out | refine below_set ?_ GE270.out) | exact HB.out)) hb); have n4_ := Aside0.mk (hbox); have n5_ := Aside0.mk ((by rw [hg]; exact (below_size (by repeat (first | (with_reducible first | exact HB.out | apply below_alloc | apply pw_below_drewN | apply below_drew1 | refine below_set ?_ GE268.out | refine below_set ?_ GE269.out | refine below_set ?_ GE270.out) | exact HB.out))) : w.heap.size ≤ gb271)); have n6_ := Aside0.mk ((by rw [hg]; exact (below_size (by repeat (first | (with_reducible first | exact HB.out | apply below_alloc | apply pw_below_drewN | apply below_drew1 | refine below_set ?_ GE268.out | refine below_set ?_ GE269.out | refine below_set ?_ GE270.out) | exact HB.out))) : w.heap.size ≤ gb271)); have n7_ := Aside0.mk ((by rw [hg]; exact Nat.ne_of_lt (blk_lt (g := gb268) (o := .cells #[.int .i64 a0_0, .int .i64 a0_1, .int .i64 a0_2] 25 (0, 0)) (by (with_reducible repeat (first | refine blk_drewN ?_ _ | refine blk_drew ?_ | refine blk_alloc ?_ _)); exact BK268.out)) : gb268 ≠ gb271)); have n8_ := Aside0.mk ((by rw [hg]; exact Nat.ne_of_gt (blk_lt (g := gb268) (o := .cells #[.int .i64 a0_0, .int .i64 a0_1, .int .i64 a0_2] 25 (0, 0)) (by (with_reducible repeat (first | refine blk_drewN ?_ _ | refine blk_drew ?_ | refine blk_alloc ?_ _)); exact BK268.out)) : gb271 ≠ gb268)); have n9_ := Aside0.mk ((by rw [hg]; exact Nat.ne_of_lt (blk_lt (g := gb269) (o := .cells #[.int .i64 a1_0, .int .i64 a1_1, .int .i64 a1_2] 25 (0, 0)) (by (with_reducible repeat (first | refine blk_drewN ?_ _ | refine blk_drew ?_ | refine blk_alloc ?_ _)); exact BK269.out)) : gb269 ≠ gb271)); have n10_ := Aside0.mk ((by rw [hg]; exact Nat.ne_of_gt (blk_lt (g := gb269) (o := .cells #[.int .i64 a1_0, .int .i64 a1_1, .int .i64 a1_2] 25 (0, 0)) (by (with_reducible repeat (first | refine blk_drewN ?_ _ | refine blk_drew ?_ | refine blk_alloc ?_ _)); exact BK269.out)) : gb271 ≠ gb269)); have n11_ := Aside0.mk ((by rw [hg]; exact Nat.ne_of_lt (blk_lt (g := gb270) (o := .cells #[.int .i64 0, .int .i64 0] 29 (0, 0)) (by (with_reducible repeat (first | refine blk_drewN ?_ _ | refine blk_drew ?_ | refine blk_alloc ?_ _)); exact BK270.out)) : gb270 ≠ gb271)); have n12_ := Aside0.mk ((by rw [hg]; exact Nat.ne_of_gt (blk_lt (g := gb270) (o := .cells #[.int .i64 0, .int .i64 0] 29 (0, 0)) (by (with_reducible repeat (first | refine blk_drewN ?_ _ | refine blk_drew ?_ | refine blk_alloc ?_ _)); exact BK270.out)) : gb271 ≠ gb270)); clear BK268; clear BK269; clear BK270; clear HB; have BK268 := n0_; have BK269 := n1_; have BK270 := n2_; have HB := n3_; have BK271 := n4_; have GW271 := n5_; have GE271 := n6_; have NB268_271 := n7_; have NB271_268 := n8_; have NB269_271 := n9_; have NB271_269 := n10_; have NB270_271 := n11_; have NB271_270 := n12_; clear n0_ n1_ n2_ n3_ n4_ n5_ n6_ n7_ n8_ n9_ n10_ n11_ n12_; clear hb hbox hg))
  have n0_ := Aside0.mk (blk_drew BK268.out)
  have n1_ := Aside0.mk (blk_drew BK269.out)
  have n2_ := Aside0.mk (blk_drew BK270.out)
  have n3_ := Aside0.mk (blk_drew BK271.out)
  have n4_ := Aside0.mk (below_drew1 HB.out)
  clear BK268
  clear BK269
  clear BK270
  clear BK271
  clear HB
  have BK268 := n0_
  have BK269 := n1_
  have BK270 := n2_
  have BK271 := n3_
  have HB := n4_
  clear n0_ n1_ n2_ n3_ n4_
  refine start_ (n := 5) (S := fun w' => w'.cell? ⟨gb268, 0, none⟩ = some (.int .i64 a0_0) ∧ w'.cell? ⟨gb268, 1, none⟩ = some (.int .i64 a0_1) ∧ w'.cell? ⟨gb268, 2, none⟩ = some (.int .i64 a0_2) ∧ w'.cell? ⟨gb269, 0, none⟩ = some (.int .i64 a1_0) ∧ w'.cell? ⟨gb269, 1, none⟩ = some (.int .i64 a1_1) ∧ w'.cell? ⟨gb269, 2, none⟩ = some (.int .i64 a1_2)) (ds := []) #[false, false, false, false, false] (by kernel_rfl) rfl rfl ⟨(blk_cell BK268.out 0).trans rfl, (blk_cell BK268.out 1).trans rfl, (blk_cell BK268.out 2).trans rfl, (blk_cell BK269.out 0).trans rfl, (blk_cell BK269.out 1).trans rfl, (blk_cell BK269.out 2).trans rfl⟩ (fun hHeld => ?_)
  generalize w141.drew = w142 at BK268 BK269 BK270 BK271 HB hHeld ⊢
  refine take_ (i := 0) (N := some 12) (v := ?_) (a' := ?_) #[true, false, false, false, false] rfl rfl (by kernel_rfl) (fun _ _ _ h => h) (Or.inl ⟨by rfl, ?_⟩) hHeld ?_ ?_
  rotate_left
  · rintro w' ⟨s0, s1, s2, s3, s4, s5⟩
    go_simp
    with_reducible rfl
  rotate_left
  · simp only [Act.put, List.setIfInBounds_toArray, List.set_cons_zero, List.set_cons_succ, i64_w, i32_w]
    rfl
  refine take_ (i := 2) (N := some 14) (v := ?_) (a' := ?_) #[true, false, true, false, false] rfl rfl (by kernel_rfl) (fun _ _ _ h => h) (Or.inl ⟨by rfl, ?_⟩) hHeld ?_ ?_
  rotate_left
  · rintro w' ⟨s0, s1, s2, s3, s4, s5⟩
    go_simp
    with_reducible rfl
  rotate_left
  · simp only [Act.put, List.setIfInBounds_toArray, List.set_cons_zero, List.set_cons_succ, i64_w, i32_w]
    rfl
  refine one_ (i := 1) (N := some 13) #[true, true, true, false, false] rfl rfl (by kernel_rfl) (by decide) (fun K hK => ?_)
  refine goes_ Try.func36 (by kernel_rfl) rfl #[.agg #[.int .i64 a0_0, .int .i64 a0_1, .int .i64 a0_2]] (by rfl) rfl rfl (by (try simp only [List.map_toArray, List.map_cons, List.map_nil]); first | done | rfl | (simp only [List.length_drop, List.length_take]; rfl)) ?_
  with_reducible refine (impl_Tank_level.calls k a0_0 a0_1 a0_2 t272 t273 _ A4.out).mono ?_
  rintro e w143 ⟨rfl, hb⟩
  refine ⟨_, rfl, ?_⟩
  have n0_ := Aside0.mk (blk_below (g := gb268) (o := .cells #[.int .i64 a0_0, .int .i64 a0_1, .int .i64 a0_2] 25 (0, 0)) (by (with_reducible repeat (first | refine blk_drewN ?_ _ | refine blk_drew ?_ | refine blk_alloc ?_ _)); exact BK268.out) hb)
  have n1_ := Aside0.mk (blk_below (g := gb269) (o := .cells #[.int .i64 a1_0, .int .i64 a1_1, .int .i64 a1_2] 25 (0, 0)) (by (with_reducible repeat (first | refine blk_drewN ?_ _ | refine blk_drew ?_ | refine blk_alloc ?_ _)); exact BK269.out) hb)
  have n2_ := Aside0.mk (blk_below (g := gb270) (o := .cells #[.int .i64 0, .int .i64 0] 29 (0, 0)) (by (with_reducible repeat (first | refine blk_drewN ?_ _ | refine blk_drew ?_ | refine blk_alloc ?_ _)); exact BK270.out) hb)
  have n3_ := Aside0.mk (blk_below (g := gb271) (o := .cells #[.int .i64 0, .int .i64 0] 29 (0, 0)) (by (with_reducible repeat (first | refine blk_drewN ?_ _ | refine blk_drew ?_ | refine blk_alloc ?_ _)); exact BK271.out) hb)
  have n4_ := Aside0.mk (below_step (by repeat (first | (with_reducible first | exact HB.out | apply below_alloc | apply pw_below_drewN | apply below_drew1 | refine below_set ?_ GE268.out | refine below_set ?_ GE269.out | refine below_set ?_ GE270.out | refine below_set ?_ GE271.out) | exact HB.out)) hb)
  clear BK268
  clear BK269
  clear BK270
  clear BK271
  clear HB
  have BK268 := n0_
  have BK269 := n1_
  have BK270 := n2_
  have BK271 := n3_
  have HB := n4_
  clear n0_ n1_ n2_ n3_ n4_
  (try clear hb)
  (try clear hb2)
  (try clear hk)
  (try clear hi)
  refine hK.out _ _ ⟨(blk_cell BK268.out 0).trans rfl, (blk_cell BK268.out 1).trans rfl, (blk_cell BK268.out 2).trans rfl, (blk_cell BK269.out 0).trans rfl, (blk_cell BK269.out 1).trans rfl, (blk_cell BK269.out 2).trans rfl⟩ (fun hHeld => ?_)
  clear hK K
  refine norm_ (a' := ?_) ?_ ?_
  rotate_left
  · show Act.put _ (some 13) _ = _
    simp only [Act.put, List.setIfInBounds_toArray, List.set_cons_zero, List.set_cons_succ, i64_w, i32_w]
    rfl
  refine one_ (i := 3) (N := some 15) #[true, true, true, true, false] rfl rfl (by kernel_rfl) (by decide) (fun K hK => ?_)
  refine goes_ Try.func36 (by kernel_rfl) rfl #[.agg #[.int .i64 a1_0, .int .i64 a1_1, .int .i64 a1_2]] (by rfl) rfl rfl (by (try simp only [List.map_toArray, List.map_cons, List.map_nil]); first | done | rfl | (simp only [List.length_drop, List.length_take]; rfl)) ?_
  with_reducible refine (impl_Tank_level.calls k a1_0 a1_1 a1_2 t274 t275 _ A5.out).mono ?_
  rintro e w144 ⟨rfl, hb⟩
  refine ⟨_, rfl, ?_⟩
  have n0_ := Aside0.mk (blk_below (g := gb268) (o := .cells #[.int .i64 a0_0, .int .i64 a0_1, .int .i64 a0_2] 25 (0, 0)) (by (with_reducible repeat (first | refine blk_drewN ?_ _ | refine blk_drew ?_ | refine blk_alloc ?_ _)); exact BK268.out) hb)
  have n1_ := Aside0.mk (blk_below (g := gb269) (o := .cells #[.int .i64 a1_0, .int .i64 a1_1, .int .i64 a1_2] 25 (0, 0)) (by (with_reducible repeat (first | refine blk_drewN ?_ _ | refine blk_drew ?_ | refine blk_alloc ?_ _)); exact BK269.out) hb)
  have n2_ := Aside0.mk (blk_below (g := gb270) (o := .cells #[.int .i64 0, .int .i64 0] 29 (0, 0)) (by (with_reducible repeat (first | refine blk_drewN ?_ _ | refine blk_drew ?_ | refine blk_alloc ?_ _)); exact BK270.out) hb)
  have n3_ := Aside0.mk (blk_below (g := gb271) (o := .cells #[.int .i64 0, .int .i64 0] 29 (0, 0)) (by (with_reducible repeat (first | refine blk_drewN ?_ _ | refine blk_drew ?_ | refine blk_alloc ?_ _)); exact BK271.out) hb)
  have n4_ := Aside0.mk (below_step (by repeat (first | (with_reducible first | exact HB.out | apply below_alloc | apply pw_below_drewN | apply below_drew1 | refine below_set ?_ GE268.out | refine below_set ?_ GE269.out | refine below_set ?_ GE270.out | refine below_set ?_ GE271.out) | exact HB.out)) hb)
  clear BK268
  clear BK269
  clear BK270
  clear BK271
  clear HB
  have BK268 := n0_
  have BK269 := n1_
  have BK270 := n2_
  have BK271 := n3_
  have HB := n4_
  clear n0_ n1_ n2_ n3_ n4_
  (try clear hb)
  (try clear hb2)
  (try clear hk)
  (try clear hi)
  refine hK.out _ _ ⟨(blk_cell BK268.out 0).trans rfl, (blk_cell BK268.out 1).trans rfl, (blk_cell BK268.out 2).trans rfl, (blk_cell BK269.out 0).trans rfl, (blk_cell BK269.out 1).trans rfl, (blk_cell BK269.out 2).trans rfl⟩ (fun hHeld => ?_)
  clear hK K
  refine norm_ (a' := ?_) ?_ ?_
  rotate_left
  · show Act.put _ (some 15) _ = _
    simp only [Act.put, List.setIfInBounds_toArray, List.set_cons_zero, List.set_cons_succ, i64_w, i32_w]
    rfl
  refine one_ (i := 4) (N := some 16) #[true, true, true, true, true] rfl rfl (by kernel_rfl) (by decide) (fun K hK => ?_)
  refine goes_ Try.func61 (by kernel_rfl) rfl #[.agg #[.int .i64 t272, .int .i64 t273], .agg #[.int .i64 t274, .int .i64 t275]] (by rfl) rfl rfl (by (try simp only [List.map_toArray, List.map_cons, List.map_nil]); first | done | rfl | (simp only [List.length_drop, List.length_take]; rfl)) ?_
  with_reducible refine (impl_Ratio_isLess.calls t272 t273 t274 t275 false _ A6.out).mono ?_
  rintro e w145 ⟨rfl, hb⟩
  refine ⟨_, rfl, ?_⟩
  have n0_ := Aside0.mk (blk_below (g := gb268) (o := .cells #[.int .i64 a0_0, .int .i64 a0_1, .int .i64 a0_2] 25 (0, 0)) (by (with_reducible repeat (first | refine blk_drewN ?_ _ | refine blk_drew ?_ | refine blk_alloc ?_ _)); exact BK268.out) hb)
  have n1_ := Aside0.mk (blk_below (g := gb269) (o := .cells #[.int .i64 a1_0, .int .i64 a1_1, .int .i64 a1_2] 25 (0, 0)) (by (with_reducible repeat (first | refine blk_drewN ?_ _ | refine blk_drew ?_ | refine blk_alloc ?_ _)); exact BK269.out) hb)
  have n2_ := Aside0.mk (blk_below (g := gb270) (o := .cells #[.int .i64 0, .int .i64 0] 29 (0, 0)) (by (with_reducible repeat (first | refine blk_drewN ?_ _ | refine blk_drew ?_ | refine blk_alloc ?_ _)); exact BK270.out) hb)
  have n3_ := Aside0.mk (blk_below (g := gb271) (o := .cells #[.int .i64 0, .int .i64 0] 29 (0, 0)) (by (with_reducible repeat (first | refine blk_drewN ?_ _ | refine blk_drew ?_ | refine blk_alloc ?_ _)); exact BK271.out) hb)
  have n4_ := Aside0.mk (below_step (by repeat (first | (with_reducible first | exact HB.out | apply below_alloc | apply pw_below_drewN | apply below_drew1 | refine below_set ?_ GE268.out | refine below_set ?_ GE269.out | refine below_set ?_ GE270.out | refine below_set ?_ GE271.out) | exact HB.out)) hb)
  clear BK268
  clear BK269
  clear BK270
  clear BK271
  clear HB
  have BK268 := n0_
  have BK269 := n1_
  have BK270 := n2_
  have BK271 := n3_
  have HB := n4_
  clear n0_ n1_ n2_ n3_ n4_
  (try clear hb)
  (try clear hb2)
  (try clear hk)
  (try clear hi)
  refine hK.out _ _ ⟨(blk_cell BK268.out 0).trans rfl, (blk_cell BK268.out 1).trans rfl, (blk_cell BK268.out 2).trans rfl, (blk_cell BK269.out 0).trans rfl, (blk_cell BK269.out 1).trans rfl, (blk_cell BK269.out 2).trans rfl⟩ (fun hHeld => ?_)
  clear hK K
  refine norm_ (a' := ?_) ?_ ?_
  rotate_left
  · show Act.put _ (some 16) _ = _
    simp only [Act.put, List.setIfInBounds_toArray, List.set_cons_zero, List.set_cons_succ, i64_w, i32_w]
    rfl
  refine done_ (by kernel_rfl) ?_
  try go_wp2_with (first | ((with_reducible refine gate_dst (N := 10) rfl ?_); refine box_event ?hg (N := 10) ?hd (cs := #[.int .i64 0, .int .i64 0]) (t := 29) ?hr ?_; (case hd => rfl); (case hg => rfl); (case hr => first | (go_simp; done) | (go_simp; rfl)); intro gb283 hg w146 hbox hb; have n0_ := Aside0.mk (blk_below (g := gb268) (o := .cells #[.int .i64 a0_0, .int .i64 a0_1, .int .i64 a0_2] 25 (0, 0)) (by (with_reducible repeat (first | refine blk_drewN ?_ _ | refine blk_drew ?_ | refine blk_alloc ?_ _)); exact BK268.out) hb); have n1_ := Aside0.mk (blk_below (g := gb269) (o := .cells #[.int .i64 a1_0, .int .i64 a1_1, .int .i64 a1_2] 25 (0, 0)) (by (with_reducible repeat (first | refine blk_drewN ?_ _ | refine blk_drew ?_ | refine blk_alloc ?_ _)); exact BK269.out) hb); have n2_ := Aside0.mk (blk_below (g := gb270) (o := .cells #[.int .i64 0, .int .i64 0] 29 (0, 0)) (by (with_reducible repeat (first | refine blk_drewN ?_ _ | refine blk_drew ?_ | refine blk_alloc ?_ _)); exact BK270.out) hb); have n3_ := Aside0.mk (blk_below (g := gb271) (o := .cells #[.int .i64 0, .int .i64 0] 29 (0, 0)) (by (with_reducible repeat (first | refine blk_drewN ?_ _ | refine blk_drew ?_ | refine blk_alloc ?_ _)); exact BK271.out) hb); have n4_ := Aside0.mk (below_step (by repeat (first | (with_reducible first | exact HB.out | apply below_alloc | apply pw_below_drewN | apply below_drew1 | refine below_set ?_ GE268.out | refine below_set ?_ GE269.out | refine below_set ?_ GE270.out | refine below_set ?_ GE271.out) | exact HB.out)) hb); have n5_ := Aside0.mk (hbox); have n6_ := Aside0.mk ((by rw [hg]; exact (below_size (by repeat (first | (with_reducible first | exact HB.out | apply below_alloc | apply pw_below_drewN | apply below_drew1 | refine below_set ?_ GE268.out | refine below_set ?_ GE269.out | refine below_set ?_ GE270.out | refine below_set ?_ GE271.out) | exact HB.out))) : w.heap.size ≤ gb283)); have n7_ := Aside0.mk ((by rw [hg]; exact (below_size (by repeat (first | (with_reducible first | exact HB.out | apply below_alloc | apply pw_below_drewN | apply below_drew1 | refine below_set ?_ GE268.out | refine below_set ?_ GE269.out | refine below_set ?_ GE270.out | refine below_set ?_ GE271.out) | exact HB.out))) : w.heap.size ≤ gb283)); have n8_ := Aside0.mk ((by rw [hg]; exact Nat.ne_of_lt (blk_lt (g := gb268) (o := .cells #[.int .i64 a0_0, .int .i64 a0_1, .int .i64 a0_2] 25 (0, 0)) (by (with_reducible repeat (first | refine blk_drewN ?_ _ | refine blk_drew ?_ | refine blk_alloc ?_ _)); exact BK268.out)) : gb268 ≠ gb283)); have n9_ := Aside0.mk ((by rw [hg]; exact Nat.ne_of_gt (blk_lt (g := gb268) (o := .cells #[.int .i64 a0_0, .int .i64 a0_1, .int .i64 a0_2] 25 (0, 0)) (by (with_reducible repeat (first | refine blk_drewN ?_ _ | refine blk_drew ?_ | refine blk_alloc ?_ _)); exact BK268.out)) : gb283 ≠ gb268)); have n10_ := Aside0.mk ((by rw [hg]; exact Nat.ne_of_lt (blk_lt (g := gb269) (o := .cells #[.int .i64 a1_0, .int .i64 a1_1, .int .i64 a1_2] 25 (0, 0)) (by (with_reducible repeat (first | refine blk_drewN ?_ _ | refine blk_drew ?_ | refine blk_alloc ?_ _)); exact BK269.out)) : gb269 ≠ gb283)); have n11_ := Aside0.mk ((by rw [hg]; exact Nat.ne_of_gt (blk_lt (g := gb269) (o := .cells #[.int .i64 a1_0, .int .i64 a1_1, .int .i64 a1_2] 25 (0, 0)) (by (with_reducible repeat (first | refine blk_drewN ?_ _ | refine blk_drew ?_ | refine blk_alloc ?_ _)); exact BK269.out)) : gb283 ≠ gb269)); have n12_ := Aside0.mk ((by rw [hg]; exact Nat.ne_of_lt (blk_lt (g := gb270) (o := .cells #[.int .i64 0, .int .i64 0] 29 (0, 0)) (by (with_reducible repeat (first | refine blk_drewN ?_ _ | refine blk_drew ?_ | refine blk_alloc ?_ _)); exact BK270.out)) : gb270 ≠ gb283)); have n13_ := Aside0.mk ((by rw [hg]; exact Nat.ne_of_gt (blk_lt (g := gb270) (o := .cells #[.int .i64 0, .int .i64 0] 29 (0, 0)) (by (with_reducible repeat (first | refine blk_drewN ?_ _ | refine blk_drew ?_ | refine blk_alloc ?_ _)); exact BK270.out)) : gb283 ≠ gb270)); have n14_ := Aside0.mk ((by rw [hg]; exact Nat.ne_of_lt (blk_lt (g := gb271) (o := .cells #[.int .i64 0, .int .i64 0] 29 (0, 0)) (by (with_reducible repeat (first | refine blk_drewN ?_ _ | refine blk_drew ?_ | refine blk_alloc ?_ _)); exact BK271.out)) : gb271 ≠ gb283)); have n15_ := Aside0.mk ((by rw [hg]; exact Nat.ne_of_gt (blk_lt (g := gb271) (o := .cells #[.int .i64 0, .int .i64 0] 29 (0, 0)) (by (with_reducible repeat (first | refine blk_drewN ?_ _ | refine blk_drew ?_ | refine blk_alloc ?_ _)); exact BK271.out)) : gb283 ≠ gb271)); clear BK268; clear BK269; clear BK270; clear BK271; clear HB; have BK268 := n0_; have BK269 := n1_; have BK270 := n2_; have BK271 := n3_; have HB := n4_; have BK283 := n5_; have GW283 := n6_; have GE283 := n7_; have NB268_283 := n8_; have NB283_268 := n9_; have NB269_283 := n10_; have NB283_269 := n11_; have NB270_283 := n12_; have NB283_270 := n13_; have NB271_283 := n14_; have NB283_271 := n15_; clear n0_ n1_ n2_ n3_ n4_ n5_ n6_ n7_ n8_ n9_ n10_ n11_ n12_ n13_ n14_ n15_; clear hb hbox hg; have hnb147 := NB283_268.out; have hnc147 := NB268_283.out; have hnb148 := NB283_269.out; have hnc148 := NB269_283.out; have hnb149 := NB283_270.out; have hnc149 := NB270_283.out; have hnb150 := NB283_271.out; have hnc150 := NB271_283.out; have hcz151_0 : w146.cell? ⟨gb283, 0, none⟩ = some (.int .i64 0) := (blk_cell BK283.out 0).trans rfl; have hcz151_1 : w146.cell? ⟨gb283, 1, none⟩ = some (.int .i64 0) := (blk_cell BK283.out 1).trans rfl; have hfz151_0 := blk_frozen BK283.out 0; have hfz151_1 := blk_frozen BK283.out 1))
  have n0_ : Aside0 (((w146.setCell ⟨gb283, 0, none⟩ (.int .i64 a2)).setCell ⟨gb283, 1, none⟩ (.int .i64 1)).heap[gb268]? = some (.cells #[.int .i64 a0_0, .int .i64 a0_1, .int .i64 a0_2] 25 (0, 0))) := ⟨by (with_reducible repeat (first | refine blk_drewN ?_ _ | refine blk_drew ?_ | refine blk_alloc ?_ _)); refine blk_far ?_ NB268_283.out _; (with_reducible repeat (first | refine blk_drewN ?_ _ | refine blk_drew ?_ | refine blk_alloc ?_ _)); refine blk_far ?_ NB268_283.out _; (with_reducible repeat (first | refine blk_drewN ?_ _ | refine blk_drew ?_ | refine blk_alloc ?_ _)); exact BK268.out⟩
  have n1_ : Aside0 (((w146.setCell ⟨gb283, 0, none⟩ (.int .i64 a2)).setCell ⟨gb283, 1, none⟩ (.int .i64 1)).heap[gb269]? = some (.cells #[.int .i64 a1_0, .int .i64 a1_1, .int .i64 a1_2] 25 (0, 0))) := ⟨by (with_reducible repeat (first | refine blk_drewN ?_ _ | refine blk_drew ?_ | refine blk_alloc ?_ _)); refine blk_far ?_ NB269_283.out _; (with_reducible repeat (first | refine blk_drewN ?_ _ | refine blk_drew ?_ | refine blk_alloc ?_ _)); refine blk_far ?_ NB269_283.out _; (with_reducible repeat (first | refine blk_drewN ?_ _ | refine blk_drew ?_ | refine blk_alloc ?_ _)); exact BK269.out⟩
  have n2_ : Aside0 (((w146.setCell ⟨gb283, 0, none⟩ (.int .i64 a2)).setCell ⟨gb283, 1, none⟩ (.int .i64 1)).heap[gb270]? = some (.cells #[.int .i64 0, .int .i64 0] 29 (0, 0))) := ⟨by (with_reducible repeat (first | refine blk_drewN ?_ _ | refine blk_drew ?_ | refine blk_alloc ?_ _)); refine blk_far ?_ NB270_283.out _; (with_reducible repeat (first | refine blk_drewN ?_ _ | refine blk_drew ?_ | refine blk_alloc ?_ _)); refine blk_far ?_ NB270_283.out _; (with_reducible repeat (first | refine blk_drewN ?_ _ | refine blk_drew ?_ | refine blk_alloc ?_ _)); exact BK270.out⟩
  have n3_ : Aside0 (((w146.setCell ⟨gb283, 0, none⟩ (.int .i64 a2)).setCell ⟨gb283, 1, none⟩ (.int .i64 1)).heap[gb271]? = some (.cells #[.int .i64 0, .int .i64 0] 29 (0, 0))) := ⟨by (with_reducible repeat (first | refine blk_drewN ?_ _ | refine blk_drew ?_ | refine blk_alloc ?_ _)); refine blk_far ?_ NB271_283.out _; (with_reducible repeat (first | refine blk_drewN ?_ _ | refine blk_drew ?_ | refine blk_alloc ?_ _)); refine blk_far ?_ NB271_283.out _; (with_reducible repeat (first | refine blk_drewN ?_ _ | refine blk_drew ?_ | refine blk_alloc ?_ _)); exact BK271.out⟩
  have n4_ : Aside0 (((w146.setCell ⟨gb283, 0, none⟩ (.int .i64 a2)).setCell ⟨gb283, 1, none⟩ (.int .i64 1)).heap[gb283]? = some (.cells #[.int .i64 a2, .int .i64 1] 29 (0, 0))) := ⟨by (with_reducible repeat (first | refine blk_drewN ?_ _ | refine blk_drew ?_ | refine blk_alloc ?_ _)); refine blk_put (cs := #[.int .i64 a2, .int .i64 0]) ?_ 1 _ rfl; (with_reducible repeat (first | refine blk_drewN ?_ _ | refine blk_drew ?_ | refine blk_alloc ?_ _)); refine blk_put (cs := #[.int .i64 0, .int .i64 0]) ?_ 0 _ rfl; (with_reducible repeat (first | refine blk_drewN ?_ _ | refine blk_drew ?_ | refine blk_alloc ?_ _)); exact BK283.out⟩
  have n5_ : Aside0 (Below w.heap.size w ((w146.setCell ⟨gb283, 0, none⟩ (.int .i64 a2)).setCell ⟨gb283, 1, none⟩ (.int .i64 1))) := ⟨by repeat (first | (with_reducible first | exact HB.out | apply below_alloc | apply pw_below_drewN | apply below_drew1 | refine below_set ?_ GE268.out | refine below_set ?_ GE269.out | refine below_set ?_ GE270.out | refine below_set ?_ GE271.out | refine below_set ?_ GE283.out) | exact HB.out)⟩
  (try clear BK268)
  (try clear BK269)
  (try clear BK270)
  (try clear BK271)
  (try clear BK283)
  (try clear HB)
  generalize ((w146.setCell ⟨gb283, 0, none⟩ (.int .i64 a2)).setCell ⟨gb283, 1, none⟩ (.int .i64 1)) = w152 at n0_ n1_ n2_ n3_ n4_ n5_ ⊢
  have BK268 := n0_
  have BK269 := n1_
  have BK270 := n2_
  have BK271 := n3_
  have BK283 := n4_
  have HB := n5_
  clear n0_ n1_ n2_ n3_ n4_ n5_
  have n0_ := Aside0.mk (blk_drew BK268.out)
  have n1_ := Aside0.mk (blk_drew BK269.out)
  have n2_ := Aside0.mk (blk_drew BK270.out)
  have n3_ := Aside0.mk (blk_drew BK271.out)
  have n4_ := Aside0.mk (blk_drew BK283.out)
  have n5_ := Aside0.mk (below_drew1 HB.out)
  clear BK268
  clear BK269
  clear BK270
  clear BK271
  clear BK283
  clear HB
  have BK268 := n0_
  have BK269 := n1_
  have BK270 := n2_
  have BK271 := n3_
  have BK283 := n4_
  have HB := n5_
  clear n0_ n1_ n2_ n3_ n4_ n5_
  refine start_ (n := 5) (S := fun w' => w'.cell? ⟨gb283, 0, none⟩ = some (.int .i64 a2) ∧ w'.cell? ⟨gb283, 1, none⟩ = some (.int .i64 1) ∧ w'.cell? ⟨gb268, 0, none⟩ = some (.int .i64 a0_0) ∧ w'.cell? ⟨gb268, 1, none⟩ = some (.int .i64 a0_1) ∧ w'.cell? ⟨gb268, 2, none⟩ = some (.int .i64 a0_2)) (ds := []) #[false, false, false, false, false] (by kernel_rfl) rfl rfl ⟨(blk_cell BK283.out 0).trans rfl, (blk_cell BK283.out 1).trans rfl, (blk_cell BK268.out 0).trans rfl, (blk_cell BK268.out 1).trans rfl, (blk_cell BK268.out 2).trans rfl⟩ (fun hHeld => ?_)
  generalize w152.drew = w153 at BK268 BK269 BK270 BK271 BK283 HB hHeld ⊢
  refine take_ (i := 0) (N := some 28) (v := ?_) (a' := ?_) #[true, false, false, false, false] rfl rfl (by kernel_rfl) (fun _ _ _ h => h) (Or.inl ⟨by rfl, ?_⟩) hHeld ?_ ?_
  rotate_left
  · rintro w' ⟨s0, s1, s2, s3, s4⟩
    go_simp
    with_reducible rfl
  rotate_left
  · simp only [Act.put, List.setIfInBounds_toArray, List.set_cons_zero, List.set_cons_succ, i64_w, i32_w]
    rfl
  refine take_ (i := 1) (N := some 29) (v := ?_) (a' := ?_) #[true, true, false, false, false] rfl rfl (by kernel_rfl) (fun _ _ _ h => h) (Or.inl ⟨by rfl, ?_⟩) hHeld ?_ ?_
  rotate_left
  · rintro w' ⟨s0, s1, s2, s3, s4⟩
    go_simp
    with_reducible rfl
  rotate_left
  · simp only [Act.put, List.setIfInBounds_toArray, List.set_cons_zero, List.set_cons_succ, i64_w, i32_w]
    rfl
  refine one_ (i := 2) (N := some 30) #[true, true, true, false, false] rfl rfl (by kernel_rfl) (by decide) (fun K hK => ?_)
  refine goes_ Try.func36 (by kernel_rfl) rfl #[.agg #[.int .i64 a0_0, .int .i64 a0_1, .int .i64 a0_2]] (by rfl) rfl rfl (by (try simp only [List.map_toArray, List.map_cons, List.map_nil]); first | done | rfl | (simp only [List.length_drop, List.length_take]; rfl)) ?_
  with_reducible refine (impl_Tank_level.calls k a0_0 a0_1 a0_2 t284 t285 _ A44.out).mono ?_
  rintro e w154 ⟨rfl, hb⟩
  refine ⟨_, rfl, ?_⟩
  have n0_ := Aside0.mk (blk_below (g := gb268) (o := .cells #[.int .i64 a0_0, .int .i64 a0_1, .int .i64 a0_2] 25 (0, 0)) (by (with_reducible repeat (first | refine blk_drewN ?_ _ | refine blk_drew ?_ | refine blk_alloc ?_ _)); exact BK268.out) hb)
  have n1_ := Aside0.mk (blk_below (g := gb269) (o := .cells #[.int .i64 a1_0, .int .i64 a1_1, .int .i64 a1_2] 25 (0, 0)) (by (with_reducible repeat (first | refine blk_drewN ?_ _ | refine blk_drew ?_ | refine blk_alloc ?_ _)); exact BK269.out) hb)
  have n2_ := Aside0.mk (blk_below (g := gb270) (o := .cells #[.int .i64 0, .int .i64 0] 29 (0, 0)) (by (with_reducible repeat (first | refine blk_drewN ?_ _ | refine blk_drew ?_ | refine blk_alloc ?_ _)); exact BK270.out) hb)
  have n3_ := Aside0.mk (blk_below (g := gb271) (o := .cells #[.int .i64 0, .int .i64 0] 29 (0, 0)) (by (with_reducible repeat (first | refine blk_drewN ?_ _ | refine blk_drew ?_ | refine blk_alloc ?_ _)); exact BK271.out) hb)
  have n4_ := Aside0.mk (blk_below (g := gb283) (o := .cells #[.int .i64 a2, .int .i64 1] 29 (0, 0)) (by (with_reducible repeat (first | refine blk_drewN ?_ _ | refine blk_drew ?_ | refine blk_alloc ?_ _)); exact BK283.out) hb)
  have n5_ := Aside0.mk (below_step (by repeat (first | (with_reducible first | exact HB.out | apply below_alloc | apply pw_below_drewN | apply below_drew1 | refine below_set ?_ GE268.out | refine below_set ?_ GE269.out | refine below_set ?_ GE270.out | refine below_set ?_ GE271.out | refine below_set ?_ GE283.out) | exact HB.out)) hb)
  clear BK268
  clear BK269
  clear BK270
  clear BK271
  clear BK283
  clear HB
  have BK268 := n0_
  have BK269 := n1_
  have BK270 := n2_
  have BK271 := n3_
  have BK283 := n4_
  have HB := n5_
  clear n0_ n1_ n2_ n3_ n4_ n5_
  (try clear hb)
  (try clear hb2)
  (try clear hk)
  (try clear hi)
  refine hK.out _ _ ⟨(blk_cell BK283.out 0).trans rfl, (blk_cell BK283.out 1).trans rfl, (blk_cell BK268.out 0).trans rfl, (blk_cell BK268.out 1).trans rfl, (blk_cell BK268.out 2).trans rfl⟩ (fun hHeld => ?_)
  clear hK K
  refine norm_ (a' := ?_) ?_ ?_
  rotate_left
  · show Act.put _ (some 30) _ = _
    simp only [Act.put, List.setIfInBounds_toArray, List.set_cons_zero, List.set_cons_succ, i64_w, i32_w]
    rfl
  refine one_ (i := 3) (N := some 31) #[true, true, true, true, false] rfl rfl (by kernel_rfl) (by decide) (fun K hK => ?_)
  refine goes_ Try.func61 (by kernel_rfl) rfl #[.agg #[.int .i64 a2, .int .i64 1], .agg #[.int .i64 t284, .int .i64 t285]] (by rfl) rfl rfl (by (try simp only [List.map_toArray, List.map_cons, List.map_nil]); first | done | rfl | (simp only [List.length_drop, List.length_take]; rfl)) ?_
  with_reducible refine (impl_Ratio_isLess.calls a2 1 t284 t285 false _ A45.out).mono ?_
  rintro e w155 ⟨rfl, hb⟩
  refine ⟨_, rfl, ?_⟩
  have n0_ := Aside0.mk (blk_below (g := gb268) (o := .cells #[.int .i64 a0_0, .int .i64 a0_1, .int .i64 a0_2] 25 (0, 0)) (by (with_reducible repeat (first | refine blk_drewN ?_ _ | refine blk_drew ?_ | refine blk_alloc ?_ _)); exact BK268.out) hb)
  have n1_ := Aside0.mk (blk_below (g := gb269) (o := .cells #[.int .i64 a1_0, .int .i64 a1_1, .int .i64 a1_2] 25 (0, 0)) (by (with_reducible repeat (first | refine blk_drewN ?_ _ | refine blk_drew ?_ | refine blk_alloc ?_ _)); exact BK269.out) hb)
  have n2_ := Aside0.mk (blk_below (g := gb270) (o := .cells #[.int .i64 0, .int .i64 0] 29 (0, 0)) (by (with_reducible repeat (first | refine blk_drewN ?_ _ | refine blk_drew ?_ | refine blk_alloc ?_ _)); exact BK270.out) hb)
  have n3_ := Aside0.mk (blk_below (g := gb271) (o := .cells #[.int .i64 0, .int .i64 0] 29 (0, 0)) (by (with_reducible repeat (first | refine blk_drewN ?_ _ | refine blk_drew ?_ | refine blk_alloc ?_ _)); exact BK271.out) hb)
  have n4_ := Aside0.mk (blk_below (g := gb283) (o := .cells #[.int .i64 a2, .int .i64 1] 29 (0, 0)) (by (with_reducible repeat (first | refine blk_drewN ?_ _ | refine blk_drew ?_ | refine blk_alloc ?_ _)); exact BK283.out) hb)
  have n5_ := Aside0.mk (below_step (by repeat (first | (with_reducible first | exact HB.out | apply below_alloc | apply pw_below_drewN | apply below_drew1 | refine below_set ?_ GE268.out | refine below_set ?_ GE269.out | refine below_set ?_ GE270.out | refine below_set ?_ GE271.out | refine below_set ?_ GE283.out) | exact HB.out)) hb)
  clear BK268
  clear BK269
  clear BK270
  clear BK271
  clear BK283
  clear HB
  have BK268 := n0_
  have BK269 := n1_
  have BK270 := n2_
  have BK271 := n3_
  have BK283 := n4_
  have HB := n5_
  clear n0_ n1_ n2_ n3_ n4_ n5_
  (try clear hb)
  (try clear hb2)
  (try clear hk)
  (try clear hi)
  refine hK.out _ _ ⟨(blk_cell BK283.out 0).trans rfl, (blk_cell BK283.out 1).trans rfl, (blk_cell BK268.out 0).trans rfl, (blk_cell BK268.out 1).trans rfl, (blk_cell BK268.out 2).trans rfl⟩ (fun hHeld => ?_)
  clear hK K
  refine norm_ (a' := ?_) ?_ ?_
  rotate_left
  · show Act.put _ (some 31) _ = _
    simp only [Act.put, List.setIfInBounds_toArray, List.set_cons_zero, List.set_cons_succ, i64_w, i32_w]
    rfl
  refine pure_ (i := 4) (N := some 32) (v := ?_) (a' := ?_) #[true, true, true, true, true] rfl rfl (by kernel_rfl) (fun _ _ _ h => h) (Or.inl ⟨by rfl, ?_⟩) ?_ ?_
  rotate_left
  · intro w'
    go_simp
    with_reducible rfl
  rotate_left
  · simp only [Act.put, List.setIfInBounds_toArray, List.set_cons_zero, List.set_cons_succ, i64_w, i32_w]
    rfl
  refine done_ (by kernel_rfl) ?_
  try go_wp2
  have n0_ := Aside0.mk (blk_drew BK268.out)
  have n1_ := Aside0.mk (blk_drew BK269.out)
  have n2_ := Aside0.mk (blk_drew BK270.out)
  have n3_ := Aside0.mk (blk_drew BK271.out)
  have n4_ := Aside0.mk (blk_drew BK283.out)
  have n5_ := Aside0.mk (below_drew1 HB.out)
  clear BK268
  clear BK269
  clear BK270
  clear BK271
  clear BK283
  clear HB
  have BK268 := n0_
  have BK269 := n1_
  have BK270 := n2_
  have BK271 := n3_
  have BK283 := n4_
  have HB := n5_
  clear n0_ n1_ n2_ n3_ n4_ n5_
  refine start_ (n := 6) (S := fun w' => w'.cell? ⟨gb268, 0, none⟩ = some (.int .i64 a0_0) ∧ w'.cell? ⟨gb268, 1, none⟩ = some (.int .i64 a0_1) ∧ w'.cell? ⟨gb268, 2, none⟩ = some (.int .i64 a0_2) ∧ w'.cell? ⟨gb269, 0, none⟩ = some (.int .i64 a1_0) ∧ w'.cell? ⟨gb269, 1, none⟩ = some (.int .i64 a1_1) ∧ w'.cell? ⟨gb269, 2, none⟩ = some (.int .i64 a1_2)) (ds := []) #[false, false, false, false, false, false] (by kernel_rfl) rfl rfl ⟨(blk_cell BK268.out 0).trans rfl, (blk_cell BK268.out 1).trans rfl, (blk_cell BK268.out 2).trans rfl, (blk_cell BK269.out 0).trans rfl, (blk_cell BK269.out 1).trans rfl, (blk_cell BK269.out 2).trans rfl⟩ (fun hHeld => ?_)
  generalize w155.drew = w156 at BK268 BK269 BK270 BK271 BK283 HB hHeld ⊢
  refine take_ (i := 0) (N := some 33) (v := ?_) (a' := ?_) #[true, false, false, false, false, false] rfl rfl (by kernel_rfl) (fun _ _ _ h => h) (Or.inl ⟨by rfl, ?_⟩) hHeld ?_ ?_
  rotate_left
  · rintro w' ⟨s0, s1, s2, s3, s4, s5⟩
    go_simp
    with_reducible rfl
  rotate_left
  · simp only [Act.put, List.setIfInBounds_toArray, List.set_cons_zero, List.set_cons_succ, i64_w, i32_w]
    rfl
  refine take_ (i := 2) (N := some 35) (v := ?_) (a' := ?_) #[true, false, true, false, false, false] rfl rfl (by kernel_rfl) (fun _ _ _ h => h) (Or.inl ⟨by rfl, ?_⟩) hHeld ?_ ?_
  rotate_left
  · rintro w' ⟨s0, s1, s2, s3, s4, s5⟩
    go_simp
    with_reducible rfl
  rotate_left
  · simp only [Act.put, List.setIfInBounds_toArray, List.set_cons_zero, List.set_cons_succ, i64_w, i32_w]
    rfl
  refine one_ (i := 1) (N := some 34) #[true, true, true, false, false, false] rfl rfl (by kernel_rfl) (by decide) (fun K hK => ?_)
  refine goes_ Try.func36 (by kernel_rfl) rfl #[.agg #[.int .i64 a0_0, .int .i64 a0_1, .int .i64 a0_2]] (by rfl) rfl rfl (by (try simp only [List.map_toArray, List.map_cons, List.map_nil]); first | done | rfl | (simp only [List.length_drop, List.length_take]; rfl)) ?_
  with_reducible refine (impl_Tank_level.calls k a0_0 a0_1 a0_2 t287 t288 _ A136.out).mono ?_
  rintro e w157 ⟨rfl, hb⟩
  refine ⟨_, rfl, ?_⟩
  have n0_ := Aside0.mk (blk_below (g := gb268) (o := .cells #[.int .i64 a0_0, .int .i64 a0_1, .int .i64 a0_2] 25 (0, 0)) (by (with_reducible repeat (first | refine blk_drewN ?_ _ | refine blk_drew ?_ | refine blk_alloc ?_ _)); exact BK268.out) hb)
  have n1_ := Aside0.mk (blk_below (g := gb269) (o := .cells #[.int .i64 a1_0, .int .i64 a1_1, .int .i64 a1_2] 25 (0, 0)) (by (with_reducible repeat (first | refine blk_drewN ?_ _ | refine blk_drew ?_ | refine blk_alloc ?_ _)); exact BK269.out) hb)
  have n2_ := Aside0.mk (blk_below (g := gb270) (o := .cells #[.int .i64 0, .int .i64 0] 29 (0, 0)) (by (with_reducible repeat (first | refine blk_drewN ?_ _ | refine blk_drew ?_ | refine blk_alloc ?_ _)); exact BK270.out) hb)
  have n3_ := Aside0.mk (blk_below (g := gb271) (o := .cells #[.int .i64 0, .int .i64 0] 29 (0, 0)) (by (with_reducible repeat (first | refine blk_drewN ?_ _ | refine blk_drew ?_ | refine blk_alloc ?_ _)); exact BK271.out) hb)
  have n4_ := Aside0.mk (blk_below (g := gb283) (o := .cells #[.int .i64 a2, .int .i64 1] 29 (0, 0)) (by (with_reducible repeat (first | refine blk_drewN ?_ _ | refine blk_drew ?_ | refine blk_alloc ?_ _)); exact BK283.out) hb)
  have n5_ := Aside0.mk (below_step (by repeat (first | (with_reducible first | exact HB.out | apply below_alloc | apply pw_below_drewN | apply below_drew1 | refine below_set ?_ GE268.out | refine below_set ?_ GE269.out | refine below_set ?_ GE270.out | refine below_set ?_ GE271.out | refine below_set ?_ GE283.out) | exact HB.out)) hb)
  clear BK268
  clear BK269
  clear BK270
  clear BK271
  clear BK283
  clear HB
  have BK268 := n0_
  have BK269 := n1_
  have BK270 := n2_
  have BK271 := n3_
  have BK283 := n4_
  have HB := n5_
  clear n0_ n1_ n2_ n3_ n4_ n5_
  (try clear hb)
  (try clear hb2)
  (try clear hk)
  (try clear hi)
  refine hK.out _ _ ⟨(blk_cell BK268.out 0).trans rfl, (blk_cell BK268.out 1).trans rfl, (blk_cell BK268.out 2).trans rfl, (blk_cell BK269.out 0).trans rfl, (blk_cell BK269.out 1).trans rfl, (blk_cell BK269.out 2).trans rfl⟩ (fun hHeld => ?_)
  clear hK K
  refine norm_ (a' := ?_) ?_ ?_
  rotate_left
  · show Act.put _ (some 34) _ = _
    simp only [Act.put, List.setIfInBounds_toArray, List.set_cons_zero, List.set_cons_succ, i64_w, i32_w]
    rfl
  refine one_ (i := 3) (N := some 36) #[true, true, true, true, false, false] rfl rfl (by kernel_rfl) (by decide) (fun K hK => ?_)
  refine goes_ Try.func36 (by kernel_rfl) rfl #[.agg #[.int .i64 a1_0, .int .i64 a1_1, .int .i64 a1_2]] (by rfl) rfl rfl (by (try simp only [List.map_toArray, List.map_cons, List.map_nil]); first | done | rfl | (simp only [List.length_drop, List.length_take]; rfl)) ?_
  with_reducible refine (impl_Tank_level.calls k a1_0 a1_1 a1_2 t289 t290 _ A137.out).mono ?_
  rintro e w158 ⟨rfl, hb⟩
  refine ⟨_, rfl, ?_⟩
  have n0_ := Aside0.mk (blk_below (g := gb268) (o := .cells #[.int .i64 a0_0, .int .i64 a0_1, .int .i64 a0_2] 25 (0, 0)) (by (with_reducible repeat (first | refine blk_drewN ?_ _ | refine blk_drew ?_ | refine blk_alloc ?_ _)); exact BK268.out) hb)
  have n1_ := Aside0.mk (blk_below (g := gb269) (o := .cells #[.int .i64 a1_0, .int .i64 a1_1, .int .i64 a1_2] 25 (0, 0)) (by (with_reducible repeat (first | refine blk_drewN ?_ _ | refine blk_drew ?_ | refine blk_alloc ?_ _)); exact BK269.out) hb)
  have n2_ := Aside0.mk (blk_below (g := gb270) (o := .cells #[.int .i64 0, .int .i64 0] 29 (0, 0)) (by (with_reducible repeat (first | refine blk_drewN ?_ _ | refine blk_drew ?_ | refine blk_alloc ?_ _)); exact BK270.out) hb)
  have n3_ := Aside0.mk (blk_below (g := gb271) (o := .cells #[.int .i64 0, .int .i64 0] 29 (0, 0)) (by (with_reducible repeat (first | refine blk_drewN ?_ _ | refine blk_drew ?_ | refine blk_alloc ?_ _)); exact BK271.out) hb)
  have n4_ := Aside0.mk (blk_below (g := gb283) (o := .cells #[.int .i64 a2, .int .i64 1] 29 (0, 0)) (by (with_reducible repeat (first | refine blk_drewN ?_ _ | refine blk_drew ?_ | refine blk_alloc ?_ _)); exact BK283.out) hb)
  have n5_ := Aside0.mk (below_step (by repeat (first | (with_reducible first | exact HB.out | apply below_alloc | apply pw_below_drewN | apply below_drew1 | refine below_set ?_ GE268.out | refine below_set ?_ GE269.out | refine below_set ?_ GE270.out | refine below_set ?_ GE271.out | refine below_set ?_ GE283.out) | exact HB.out)) hb)
  clear BK268
  clear BK269
  clear BK270
  clear BK271
  clear BK283
  clear HB
  have BK268 := n0_
  have BK269 := n1_
  have BK270 := n2_
  have BK271 := n3_
  have BK283 := n4_
  have HB := n5_
  clear n0_ n1_ n2_ n3_ n4_ n5_
  (try clear hb)
  (try clear hb2)
  (try clear hk)
  (try clear hi)
  refine hK.out _ _ ⟨(blk_cell BK268.out 0).trans rfl, (blk_cell BK268.out 1).trans rfl, (blk_cell BK268.out 2).trans rfl, (blk_cell BK269.out 0).trans rfl, (blk_cell BK269.out 1).trans rfl, (blk_cell BK269.out 2).trans rfl⟩ (fun hHeld => ?_)
  clear hK K
  refine norm_ (a' := ?_) ?_ ?_
  rotate_left
  · show Act.put _ (some 36) _ = _
    simp only [Act.put, List.setIfInBounds_toArray, List.set_cons_zero, List.set_cons_succ, i64_w, i32_w]
    rfl
  refine one_ (i := 4) (N := none) #[true, true, true, true, true, false] rfl rfl (by kernel_rfl) (by decide) (fun K hK => ?_)
  have hs159 : w158.cell? ⟨gb270, 0, none⟩ = some (.int .i64 0) := (blk_cell BK270.out 0).trans rfl
  have hfs159 := blk_frozen BK270.out 0
  have hns159_0 := NB268_270.out
  have hns159_1 := NB269_270.out
  have hns159_3 := NB271_270.out
  have hns159_4 := NB283_270.out
  have hms159_0 := NB270_268.out
  have hms159_1 := NB270_269.out
  have hms159_3 := NB270_271.out
  have hms159_4 := NB270_283.out
  have hs160 : w158.cell? ⟨gb270, 1, none⟩ = some (.int .i64 0) := (blk_cell BK270.out 1).trans rfl
  have hfs160 := blk_frozen BK270.out 1
  have hns160_0 := NB268_270.out
  have hns160_1 := NB269_270.out
  have hns160_3 := NB271_270.out
  have hns160_4 := NB283_270.out
  have hms160_0 := NB270_268.out
  have hms160_1 := NB270_269.out
  have hms160_3 := NB270_271.out
  have hms160_4 := NB270_283.out
  refine skip_ (w1 := ?_) (by rfl) rfl ?_ ?_
  rotate_left
  · go_simp
    rfl
  refine hK.out _ _ ⟨((cell_far (p := ⟨gb270, _, none⟩) NB268_270.out _).trans (((cell_far (p := ⟨gb270, _, none⟩) NB268_270.out _).trans (hHeld.1)))), ((cell_far (p := ⟨gb270, _, none⟩) NB268_270.out _).trans (((cell_far (p := ⟨gb270, _, none⟩) NB268_270.out _).trans (hHeld.2.1)))), ((cell_far (p := ⟨gb270, _, none⟩) NB268_270.out _).trans (((cell_far (p := ⟨gb270, _, none⟩) NB268_270.out _).trans (hHeld.2.2.1)))), ((cell_far (p := ⟨gb270, _, none⟩) NB269_270.out _).trans (((cell_far (p := ⟨gb270, _, none⟩) NB269_270.out _).trans (hHeld.2.2.2.1)))), ((cell_far (p := ⟨gb270, _, none⟩) NB269_270.out _).trans (((cell_far (p := ⟨gb270, _, none⟩) NB269_270.out _).trans (hHeld.2.2.2.2.1)))), ((cell_far (p := ⟨gb270, _, none⟩) NB269_270.out _).trans (((cell_far (p := ⟨gb270, _, none⟩) NB269_270.out _).trans (hHeld.2.2.2.2.2))))⟩ (fun hHeld => ?_)
  clear hK K
  refine one_ (i := 5) (N := none) #[true, true, true, true, true, true] rfl rfl (by kernel_rfl) (by decide) (fun K hK => ?_)
  have hs161 : w158.cell? ⟨gb271, 0, none⟩ = some (.int .i64 0) := (blk_cell BK271.out 0).trans rfl
  have hfs161 := blk_frozen BK271.out 0
  have hns161_0 := NB268_271.out
  have hns161_1 := NB269_271.out
  have hns161_2 := NB270_271.out
  have hns161_4 := NB283_271.out
  have hms161_0 := NB271_268.out
  have hms161_1 := NB271_269.out
  have hms161_2 := NB271_270.out
  have hms161_4 := NB271_283.out
  have hs162 : w158.cell? ⟨gb271, 1, none⟩ = some (.int .i64 0) := (blk_cell BK271.out 1).trans rfl
  have hfs162 := blk_frozen BK271.out 1
  have hns162_0 := NB268_271.out
  have hns162_1 := NB269_271.out
  have hns162_2 := NB270_271.out
  have hns162_4 := NB283_271.out
  have hms162_0 := NB271_268.out
  have hms162_1 := NB271_269.out
  have hms162_2 := NB271_270.out
  have hms162_4 := NB271_283.out
  refine skip_ (w1 := ?_) (by rfl) rfl ?_ ?_
  rotate_left
  · go_simp
    rfl
  refine hK.out _ _ ⟨((cell_far (p := ⟨gb271, _, none⟩) NB268_271.out _).trans (((cell_far (p := ⟨gb271, _, none⟩) NB268_271.out _).trans (hHeld.1)))), ((cell_far (p := ⟨gb271, _, none⟩) NB268_271.out _).trans (((cell_far (p := ⟨gb271, _, none⟩) NB268_271.out _).trans (hHeld.2.1)))), ((cell_far (p := ⟨gb271, _, none⟩) NB268_271.out _).trans (((cell_far (p := ⟨gb271, _, none⟩) NB268_271.out _).trans (hHeld.2.2.1)))), ((cell_far (p := ⟨gb271, _, none⟩) NB269_271.out _).trans (((cell_far (p := ⟨gb271, _, none⟩) NB269_271.out _).trans (hHeld.2.2.2.1)))), ((cell_far (p := ⟨gb271, _, none⟩) NB269_271.out _).trans (((cell_far (p := ⟨gb271, _, none⟩) NB269_271.out _).trans (hHeld.2.2.2.2.1)))), ((cell_far (p := ⟨gb271, _, none⟩) NB269_271.out _).trans (((cell_far (p := ⟨gb271, _, none⟩) NB269_271.out _).trans (hHeld.2.2.2.2.2))))⟩ (fun hHeld => ?_)
  clear hK K
  refine done_ (by kernel_rfl) ?_
  try go_wp2
  refine bodyPost_ret (results_cc rfl _ _ gb270 gb271 29 29 #[.int .i64 t287, .int .i64 t288] #[.int .i64 t289, .int .i64 t290] (0, 0) (0, 0) _ _ rfl (by (with_reducible repeat (first | refine blk_drewN ?_ _ | refine blk_drew ?_ | refine blk_alloc ?_ _)); refine blk_far ?_ NB270_271.out _; (with_reducible repeat (first | refine blk_drewN ?_ _ | refine blk_drew ?_ | refine blk_alloc ?_ _)); refine blk_far ?_ NB270_271.out _; (with_reducible repeat (first | refine blk_drewN ?_ _ | refine blk_drew ?_ | refine blk_alloc ?_ _)); refine blk_put (cs := #[.int .i64 t287, .int .i64 0]) ?_ 1 _ rfl; (with_reducible repeat (first | refine blk_drewN ?_ _ | refine blk_drew ?_ | refine blk_alloc ?_ _)); refine blk_put (cs := #[.int .i64 0, .int .i64 0]) ?_ 0 _ rfl; (with_reducible repeat (first | refine blk_drewN ?_ _ | refine blk_drew ?_ | refine blk_alloc ?_ _)); exact BK270.out) Try.underlying29 rfl (by kernel_rfl) rfl (by (with_reducible repeat (first | refine blk_drewN ?_ _ | refine blk_drew ?_ | refine blk_alloc ?_ _)); refine blk_put (cs := #[.int .i64 t289, .int .i64 0]) ?_ 1 _ rfl; (with_reducible repeat (first | refine blk_drewN ?_ _ | refine blk_drew ?_ | refine blk_alloc ?_ _)); refine blk_put (cs := #[.int .i64 0, .int .i64 0]) ?_ 0 _ rfl; (with_reducible repeat (first | refine blk_drewN ?_ _ | refine blk_drew ?_ | refine blk_alloc ?_ _)); refine blk_far ?_ NB271_270.out _; (with_reducible repeat (first | refine blk_drewN ?_ _ | refine blk_drew ?_ | refine blk_alloc ?_ _)); refine blk_far ?_ NB271_270.out _; (with_reducible repeat (first | refine blk_drewN ?_ _ | refine blk_drew ?_ | refine blk_alloc ?_ _)); exact BK271.out) Try.underlying29 rfl (by kernel_rfl)) rfl ?_
  exact ⟨by first | rfl | (simp [errW_none, errW_some] <;> rfl) | (simp [*, errW_none, errW_some] <;> rfl), by repeat (first | (with_reducible first | exact HB.out | apply below_alloc | apply pw_below_drewN | apply below_drew1 | refine below_set ?_ GE268.out | refine below_set ?_ GE269.out | refine below_set ?_ GE270.out | refine below_set ?_ GE271.out | refine below_set ?_ GE283.out) | exact HB.out)⟩

/-! ### impl_piped: out of its ways -/
set_option maxHeartbeats 8000000 in
set_option maxRecDepth 100000 in
theorem impl_piped.calls (k : Nat) : ∀ (a0_0 : Int) (a0_1 : Int) (a0_2 : Int) (a1_0 : Int) (a1_1 : Int) (a1_2 : Int) (a2 : Int) (r1 : Int) (r2 : Int) (r3 : Int) (r4 : Int) (w : World) (h : impl_piped.f k a0_0 a0_1 a0_2 a1_0 a1_1 a1_2 a2 = some (r1, r2, r3, r4)),
    Calls Try.prog 49 #[.agg #[.int .i64 a0_0, .int .i64 a0_1, .int .i64 a0_2], .agg #[.int .i64 a1_0, .int .i64 a1_1, .int .i64 a1_2], .int .i64 a2] w fun e w' => e = .returned (.tuple #[.agg #[.int .i64 r1, .int .i64 r2], .agg #[.int .i64 r3, .int .i64 r4]]) ∧ Below w.heap.size w w' := by
  induction k using Nat.strongRecOn with
  | _ k ih =>
  intro a0_0 a0_1 a0_2 a1_0 a1_1 a1_2 a2 r1 r2 r3 r4 w h
  cases k with
  | zero => exact absurd h (by simp [impl_piped.f])
  | succ k =>
  simp only [impl_piped.f] at h
  have hu25 := Try.underlying25
  have hu29 := Try.underlying29
  have HB := Aside0.mk (Below.refl w.heap.size w)
  have H : ((impl_Tank_level.f k a0_0 a0_1 a0_2).bind fun bt272 => ((impl_Tank_level.f k a1_0 a1_1 a1_2).bind fun bt274 => ((impl_Ratio_isLess.f bt272.1 bt272.2 bt274.1 bt274.2).bind fun t276 => (if t276 = true then ((impl_piped.f k a1_0 a1_1 a1_2 a0_0 a0_1 a0_2 a2).bind fun bt277 => (some (bt277.2.2.1, bt277.2.2.2, bt277.1, bt277.2.1))) else ((impl_Tank_level.f k a0_0 a0_1 a0_2).bind fun bt284 => ((impl_Ratio_isLess.f a2 1 bt284.1 bt284.2).bind fun t286 => (if t286 = true then ((impl_Tank_content.f a0_0 a0_1 a0_2).bind fun t291 => ((impl_Tank_content.f a1_0 a1_1 a1_2).bind fun t292 => ((impl_lowest.f k (wrap64 (t291 + t292)) (wrap64 (a0_0 + a1_0))).bind fun bt293 => ((impl_Ratio_isLess.f bt293.1 bt293.2 a2 1).bind fun t296 => (if t296 = true then ((impl_Tank_content.f a1_0 a1_1 a1_2).bind fun t297 => ((impl_Tank_content.f a0_0 a0_1 a0_2).bind fun t298 => ((impl_lowest.f k (wrap64 ((wrap64 (t297 + t298)) - (wrap64 (a0_0 * a2)))) a1_0).bind fun bt299 => (some (a2, 1, bt299.1, bt299.2))))) else (some (bt293.1, bt293.2, bt293.1, bt293.2))))))) else ((impl_Tank_level.f k a0_0 a0_1 a0_2).bind fun bt287 => ((impl_Tank_level.f k a1_0 a1_1 a1_2).bind fun bt289 => (some (bt287.1, bt287.2, bt289.1, bt289.2))))))))))) = some (r1, r2, r3, r4) := h
  clear h
  replace H := Option.bind_eq_some_iff.mp H
  obtain ⟨⟨t272, t273⟩, A40, H⟩ := H
  replace H : ((impl_Tank_level.f k a1_0 a1_1 a1_2).bind fun bt274 => ((impl_Ratio_isLess.f t272 t273 bt274.1 bt274.2).bind fun t276 => (if t276 = true then ((impl_piped.f k a1_0 a1_1 a1_2 a0_0 a0_1 a0_2 a2).bind fun bt277 => (some (bt277.2.2.1, bt277.2.2.2, bt277.1, bt277.2.1))) else ((impl_Tank_level.f k a0_0 a0_1 a0_2).bind fun bt284 => ((impl_Ratio_isLess.f a2 1 bt284.1 bt284.2).bind fun t286 => (if t286 = true then ((impl_Tank_content.f a0_0 a0_1 a0_2).bind fun t291 => ((impl_Tank_content.f a1_0 a1_1 a1_2).bind fun t292 => ((impl_lowest.f k (wrap64 (t291 + t292)) (wrap64 (a0_0 + a1_0))).bind fun bt293 => ((impl_Ratio_isLess.f bt293.1 bt293.2 a2 1).bind fun t296 => (if t296 = true then ((impl_Tank_content.f a1_0 a1_1 a1_2).bind fun t297 => ((impl_Tank_content.f a0_0 a0_1 a0_2).bind fun t298 => ((impl_lowest.f k (wrap64 ((wrap64 (t297 + t298)) - (wrap64 (a0_0 * a2)))) a1_0).bind fun bt299 => (some (a2, 1, bt299.1, bt299.2))))) else (some (bt293.1, bt293.2, bt293.1, bt293.2))))))) else ((impl_Tank_level.f k a0_0 a0_1 a0_2).bind fun bt287 => ((impl_Tank_level.f k a1_0 a1_1 a1_2).bind fun bt289 => (some (bt287.1, bt287.2, bt289.1, bt289.2)))))))))) = some (r1, r2, r3, r4) := H
  have A4 := Aside0.mk A40
  clear A40
  replace H := Option.bind_eq_some_iff.mp H
  obtain ⟨⟨t274, t275⟩, A50, H⟩ := H
  replace H : ((impl_Ratio_isLess.f t272 t273 t274 t275).bind fun t276 => (if t276 = true then ((impl_piped.f k a1_0 a1_1 a1_2 a0_0 a0_1 a0_2 a2).bind fun bt277 => (some (bt277.2.2.1, bt277.2.2.2, bt277.1, bt277.2.1))) else ((impl_Tank_level.f k a0_0 a0_1 a0_2).bind fun bt284 => ((impl_Ratio_isLess.f a2 1 bt284.1 bt284.2).bind fun t286 => (if t286 = true then ((impl_Tank_content.f a0_0 a0_1 a0_2).bind fun t291 => ((impl_Tank_content.f a1_0 a1_1 a1_2).bind fun t292 => ((impl_lowest.f k (wrap64 (t291 + t292)) (wrap64 (a0_0 + a1_0))).bind fun bt293 => ((impl_Ratio_isLess.f bt293.1 bt293.2 a2 1).bind fun t296 => (if t296 = true then ((impl_Tank_content.f a1_0 a1_1 a1_2).bind fun t297 => ((impl_Tank_content.f a0_0 a0_1 a0_2).bind fun t298 => ((impl_lowest.f k (wrap64 ((wrap64 (t297 + t298)) - (wrap64 (a0_0 * a2)))) a1_0).bind fun bt299 => (some (a2, 1, bt299.1, bt299.2))))) else (some (bt293.1, bt293.2, bt293.1, bt293.2))))))) else ((impl_Tank_level.f k a0_0 a0_1 a0_2).bind fun bt287 => ((impl_Tank_level.f k a1_0 a1_1 a1_2).bind fun bt289 => (some (bt287.1, bt287.2, bt289.1, bt289.2))))))))) = some (r1, r2, r3, r4) := H
  have A5 := Aside0.mk A50
  clear A50
  replace H := Option.bind_eq_some_iff.mp H
  obtain ⟨t276, A60, H⟩ := H
  replace H : (if t276 = true then ((impl_piped.f k a1_0 a1_1 a1_2 a0_0 a0_1 a0_2 a2).bind fun bt277 => (some (bt277.2.2.1, bt277.2.2.2, bt277.1, bt277.2.1))) else ((impl_Tank_level.f k a0_0 a0_1 a0_2).bind fun bt284 => ((impl_Ratio_isLess.f a2 1 bt284.1 bt284.2).bind fun t286 => (if t286 = true then ((impl_Tank_content.f a0_0 a0_1 a0_2).bind fun t291 => ((impl_Tank_content.f a1_0 a1_1 a1_2).bind fun t292 => ((impl_lowest.f k (wrap64 (t291 + t292)) (wrap64 (a0_0 + a1_0))).bind fun bt293 => ((impl_Ratio_isLess.f bt293.1 bt293.2 a2 1).bind fun t296 => (if t296 = true then ((impl_Tank_content.f a1_0 a1_1 a1_2).bind fun t297 => ((impl_Tank_content.f a0_0 a0_1 a0_2).bind fun t298 => ((impl_lowest.f k (wrap64 ((wrap64 (t297 + t298)) - (wrap64 (a0_0 * a2)))) a1_0).bind fun bt299 => (some (a2, 1, bt299.1, bt299.2))))) else (some (bt293.1, bt293.2, bt293.1, bt293.2))))))) else ((impl_Tank_level.f k a0_0 a0_1 a0_2).bind fun bt287 => ((impl_Tank_level.f k a1_0 a1_1 a1_2).bind fun bt289 => (some (bt287.1, bt287.2, bt289.1, bt289.2)))))))) = some (r1, r2, r3, r4) := H
  have A6 := Aside0.mk A60
  clear A60
  by_cases c7 : t276 = true
  · subst c7
    have H1 : ((impl_piped.f k a1_0 a1_1 a1_2 a0_0 a0_1 a0_2 a2).bind fun bt277 => (some (bt277.2.2.1, bt277.2.2.2, bt277.1, bt277.2.1))) = some (r1, r2, r3, r4) := by rw [if_pos rfl] at H; exact H
    clear H
    have H := H1
    clear H1
    replace H := Option.bind_eq_some_iff.mp H
    obtain ⟨⟨t277, t278, t279, t280⟩, A80, H⟩ := H
    replace H : (some (t279, t280, t277, t278)) = some (r1, r2, r3, r4) := H
    have A8 := Aside0.mk A80
    clear A80
    simp only [Option.some.injEq, Prod.mk.injEq] at H
    obtain ⟨rfl, rfl, rfl, rfl⟩ := H
    exact impl_piped.leaf0 a0_0 a0_1 a0_2 a1_0 a1_1 a1_2 a2 w k ih HB t272 t273 A4 t274 t275 A5 A6 t277 t278 t279 t280 A8
  · replace c7 := Bool.eq_false_iff.mpr c7
    subst c7
    have H1 : ((impl_Tank_level.f k a0_0 a0_1 a0_2).bind fun bt284 => ((impl_Ratio_isLess.f a2 1 bt284.1 bt284.2).bind fun t286 => (if t286 = true then ((impl_Tank_content.f a0_0 a0_1 a0_2).bind fun t291 => ((impl_Tank_content.f a1_0 a1_1 a1_2).bind fun t292 => ((impl_lowest.f k (wrap64 (t291 + t292)) (wrap64 (a0_0 + a1_0))).bind fun bt293 => ((impl_Ratio_isLess.f bt293.1 bt293.2 a2 1).bind fun t296 => (if t296 = true then ((impl_Tank_content.f a1_0 a1_1 a1_2).bind fun t297 => ((impl_Tank_content.f a0_0 a0_1 a0_2).bind fun t298 => ((impl_lowest.f k (wrap64 ((wrap64 (t297 + t298)) - (wrap64 (a0_0 * a2)))) a1_0).bind fun bt299 => (some (a2, 1, bt299.1, bt299.2))))) else (some (bt293.1, bt293.2, bt293.1, bt293.2))))))) else ((impl_Tank_level.f k a0_0 a0_1 a0_2).bind fun bt287 => ((impl_Tank_level.f k a1_0 a1_1 a1_2).bind fun bt289 => (some (bt287.1, bt287.2, bt289.1, bt289.2))))))) = some (r1, r2, r3, r4) := by rw [if_neg (show ¬ (false = true) by decide)] at H; exact H
    clear H
    have H := H1
    clear H1
    replace H := Option.bind_eq_some_iff.mp H
    obtain ⟨⟨t284, t285⟩, A440, H⟩ := H
    replace H : ((impl_Ratio_isLess.f a2 1 t284 t285).bind fun t286 => (if t286 = true then ((impl_Tank_content.f a0_0 a0_1 a0_2).bind fun t291 => ((impl_Tank_content.f a1_0 a1_1 a1_2).bind fun t292 => ((impl_lowest.f k (wrap64 (t291 + t292)) (wrap64 (a0_0 + a1_0))).bind fun bt293 => ((impl_Ratio_isLess.f bt293.1 bt293.2 a2 1).bind fun t296 => (if t296 = true then ((impl_Tank_content.f a1_0 a1_1 a1_2).bind fun t297 => ((impl_Tank_content.f a0_0 a0_1 a0_2).bind fun t298 => ((impl_lowest.f k (wrap64 ((wrap64 (t297 + t298)) - (wrap64 (a0_0 * a2)))) a1_0).bind fun bt299 => (some (a2, 1, bt299.1, bt299.2))))) else (some (bt293.1, bt293.2, bt293.1, bt293.2))))))) else ((impl_Tank_level.f k a0_0 a0_1 a0_2).bind fun bt287 => ((impl_Tank_level.f k a1_0 a1_1 a1_2).bind fun bt289 => (some (bt287.1, bt287.2, bt289.1, bt289.2)))))) = some (r1, r2, r3, r4) := H
    have A44 := Aside0.mk A440
    clear A440
    replace H := Option.bind_eq_some_iff.mp H
    obtain ⟨t286, A450, H⟩ := H
    replace H : (if t286 = true then ((impl_Tank_content.f a0_0 a0_1 a0_2).bind fun t291 => ((impl_Tank_content.f a1_0 a1_1 a1_2).bind fun t292 => ((impl_lowest.f k (wrap64 (t291 + t292)) (wrap64 (a0_0 + a1_0))).bind fun bt293 => ((impl_Ratio_isLess.f bt293.1 bt293.2 a2 1).bind fun t296 => (if t296 = true then ((impl_Tank_content.f a1_0 a1_1 a1_2).bind fun t297 => ((impl_Tank_content.f a0_0 a0_1 a0_2).bind fun t298 => ((impl_lowest.f k (wrap64 ((wrap64 (t297 + t298)) - (wrap64 (a0_0 * a2)))) a1_0).bind fun bt299 => (some (a2, 1, bt299.1, bt299.2))))) else (some (bt293.1, bt293.2, bt293.1, bt293.2))))))) else ((impl_Tank_level.f k a0_0 a0_1 a0_2).bind fun bt287 => ((impl_Tank_level.f k a1_0 a1_1 a1_2).bind fun bt289 => (some (bt287.1, bt287.2, bt289.1, bt289.2))))) = some (r1, r2, r3, r4) := H
    have A45 := Aside0.mk A450
    clear A450
    by_cases c46 : t286 = true
    · subst c46
      have H1 : ((impl_Tank_content.f a0_0 a0_1 a0_2).bind fun t291 => ((impl_Tank_content.f a1_0 a1_1 a1_2).bind fun t292 => ((impl_lowest.f k (wrap64 (t291 + t292)) (wrap64 (a0_0 + a1_0))).bind fun bt293 => ((impl_Ratio_isLess.f bt293.1 bt293.2 a2 1).bind fun t296 => (if t296 = true then ((impl_Tank_content.f a1_0 a1_1 a1_2).bind fun t297 => ((impl_Tank_content.f a0_0 a0_1 a0_2).bind fun t298 => ((impl_lowest.f k (wrap64 ((wrap64 (t297 + t298)) - (wrap64 (a0_0 * a2)))) a1_0).bind fun bt299 => (some (a2, 1, bt299.1, bt299.2))))) else (some (bt293.1, bt293.2, bt293.1, bt293.2))))))) = some (r1, r2, r3, r4) := by rw [if_pos rfl] at H; exact H
      clear H
      have H := H1
      clear H1
      replace H := Option.bind_eq_some_iff.mp H
      obtain ⟨t291, A470, H⟩ := H
      replace H : ((impl_Tank_content.f a1_0 a1_1 a1_2).bind fun t292 => ((impl_lowest.f k (wrap64 (t291 + t292)) (wrap64 (a0_0 + a1_0))).bind fun bt293 => ((impl_Ratio_isLess.f bt293.1 bt293.2 a2 1).bind fun t296 => (if t296 = true then ((impl_Tank_content.f a1_0 a1_1 a1_2).bind fun t297 => ((impl_Tank_content.f a0_0 a0_1 a0_2).bind fun t298 => ((impl_lowest.f k (wrap64 ((wrap64 (t297 + t298)) - (wrap64 (a0_0 * a2)))) a1_0).bind fun bt299 => (some (a2, 1, bt299.1, bt299.2))))) else (some (bt293.1, bt293.2, bt293.1, bt293.2)))))) = some (r1, r2, r3, r4) := H
      have A47 := Aside0.mk A470
      clear A470
      replace H := Option.bind_eq_some_iff.mp H
      obtain ⟨t292, A480, H⟩ := H
      replace H : ((impl_lowest.f k (wrap64 (t291 + t292)) (wrap64 (a0_0 + a1_0))).bind fun bt293 => ((impl_Ratio_isLess.f bt293.1 bt293.2 a2 1).bind fun t296 => (if t296 = true then ((impl_Tank_content.f a1_0 a1_1 a1_2).bind fun t297 => ((impl_Tank_content.f a0_0 a0_1 a0_2).bind fun t298 => ((impl_lowest.f k (wrap64 ((wrap64 (t297 + t298)) - (wrap64 (a0_0 * a2)))) a1_0).bind fun bt299 => (some (a2, 1, bt299.1, bt299.2))))) else (some (bt293.1, bt293.2, bt293.1, bt293.2))))) = some (r1, r2, r3, r4) := H
      have A48 := Aside0.mk A480
      clear A480
      replace H := Option.bind_eq_some_iff.mp H
      obtain ⟨⟨t293, t294⟩, A490, H⟩ := H
      replace H : ((impl_Ratio_isLess.f t293 t294 a2 1).bind fun t296 => (if t296 = true then ((impl_Tank_content.f a1_0 a1_1 a1_2).bind fun t297 => ((impl_Tank_content.f a0_0 a0_1 a0_2).bind fun t298 => ((impl_lowest.f k (wrap64 ((wrap64 (t297 + t298)) - (wrap64 (a0_0 * a2)))) a1_0).bind fun bt299 => (some (a2, 1, bt299.1, bt299.2))))) else (some (t293, t294, t293, t294)))) = some (r1, r2, r3, r4) := H
      have A49 := Aside0.mk A490
      clear A490
      replace H := Option.bind_eq_some_iff.mp H
      obtain ⟨t296, A500, H⟩ := H
      replace H : (if t296 = true then ((impl_Tank_content.f a1_0 a1_1 a1_2).bind fun t297 => ((impl_Tank_content.f a0_0 a0_1 a0_2).bind fun t298 => ((impl_lowest.f k (wrap64 ((wrap64 (t297 + t298)) - (wrap64 (a0_0 * a2)))) a1_0).bind fun bt299 => (some (a2, 1, bt299.1, bt299.2))))) else (some (t293, t294, t293, t294))) = some (r1, r2, r3, r4) := H
      have A50 := Aside0.mk A500
      clear A500
      by_cases c51 : t296 = true
      · subst c51
        have H1 : ((impl_Tank_content.f a1_0 a1_1 a1_2).bind fun t297 => ((impl_Tank_content.f a0_0 a0_1 a0_2).bind fun t298 => ((impl_lowest.f k (wrap64 ((wrap64 (t297 + t298)) - (wrap64 (a0_0 * a2)))) a1_0).bind fun bt299 => (some (a2, 1, bt299.1, bt299.2))))) = some (r1, r2, r3, r4) := by rw [if_pos rfl] at H; exact H
        clear H
        have H := H1
        clear H1
        replace H := Option.bind_eq_some_iff.mp H
        obtain ⟨t297, A520, H⟩ := H
        replace H : ((impl_Tank_content.f a0_0 a0_1 a0_2).bind fun t298 => ((impl_lowest.f k (wrap64 ((wrap64 (t297 + t298)) - (wrap64 (a0_0 * a2)))) a1_0).bind fun bt299 => (some (a2, 1, bt299.1, bt299.2)))) = some (r1, r2, r3, r4) := H
        have A52 := Aside0.mk A520
        clear A520
        replace H := Option.bind_eq_some_iff.mp H
        obtain ⟨t298, A530, H⟩ := H
        replace H : ((impl_lowest.f k (wrap64 ((wrap64 (t297 + t298)) - (wrap64 (a0_0 * a2)))) a1_0).bind fun bt299 => (some (a2, 1, bt299.1, bt299.2))) = some (r1, r2, r3, r4) := H
        have A53 := Aside0.mk A530
        clear A530
        replace H := Option.bind_eq_some_iff.mp H
        obtain ⟨⟨t299, t300⟩, A540, H⟩ := H
        replace H : (some (a2, 1, t299, t300)) = some (r1, r2, r3, r4) := H
        have A54 := Aside0.mk A540
        clear A540
        simp only [Option.some.injEq, Prod.mk.injEq] at H
        obtain ⟨rfl, rfl, rfl, rfl⟩ := H
        exact impl_piped.leaf1 a0_0 a0_1 a0_2 a1_0 a1_1 a1_2 a2 w k ih HB t272 t273 A4 t274 t275 A5 A6 t284 t285 A44 A45 t291 A47 t292 A48 t293 t294 A49 A50 t297 A52 t298 A53 t299 t300 A54
      · replace c51 := Bool.eq_false_iff.mpr c51
        subst c51
        have H1 : (some (t293, t294, t293, t294)) = some (r1, r2, r3, r4) := by rw [if_neg (show ¬ (false = true) by decide)] at H; exact H
        clear H
        have H := H1
        clear H1
        simp only [Option.some.injEq, Prod.mk.injEq] at H
        obtain ⟨rfl, rfl, rfl, rfl⟩ := H
        exact impl_piped.leaf2 a0_0 a0_1 a0_2 a1_0 a1_1 a1_2 a2 w k ih HB t272 t273 A4 t274 t275 A5 A6 t284 t285 A44 A45 t291 A47 t292 A48 t293 t294 A49 A50
    · replace c46 := Bool.eq_false_iff.mpr c46
      subst c46
      have H1 : ((impl_Tank_level.f k a0_0 a0_1 a0_2).bind fun bt287 => ((impl_Tank_level.f k a1_0 a1_1 a1_2).bind fun bt289 => (some (bt287.1, bt287.2, bt289.1, bt289.2)))) = some (r1, r2, r3, r4) := by rw [if_neg (show ¬ (false = true) by decide)] at H; exact H
      clear H
      have H := H1
      clear H1
      replace H := Option.bind_eq_some_iff.mp H
      obtain ⟨⟨t287, t288⟩, A1360, H⟩ := H
      replace H : ((impl_Tank_level.f k a1_0 a1_1 a1_2).bind fun bt289 => (some (t287, t288, bt289.1, bt289.2))) = some (r1, r2, r3, r4) := H
      have A136 := Aside0.mk A1360
      clear A1360
      replace H := Option.bind_eq_some_iff.mp H
      obtain ⟨⟨t289, t290⟩, A1370, H⟩ := H
      replace H : (some (t287, t288, t289, t290)) = some (r1, r2, r3, r4) := H
      have A137 := Aside0.mk A1370
      clear A1370
      simp only [Option.some.injEq, Prod.mk.injEq] at H
      obtain ⟨rfl, rfl, rfl, rfl⟩ := H
      exact impl_piped.leaf3 a0_0 a0_1 a0_2 a1_0 a1_1 a1_2 a2 w k ih HB t272 t273 A4 t274 t275 A5 A6 t284 t285 A44 A45 t287 t288 A136 t289 t290 A137
end Go.Proofs.Ytfaiegpkmohkdaa.Pr
