/- What the Go functions of this seat compute, each with the proof that its call computes it; laid by a program of this session (wip/tools/ownprint.py), for all inputs. -/
import Derived.Test.YtcalhmjnoahliaaPr0
import Derived.Test.YtcalhmjnoahliaaPr1
import Derived.Test.YtcalhmjnoahliaaPr3
import Derived.Test.YtcalhmjnoahliaaPr4
import Derived.Test.YtcalhmjnoahliaaPr6
import Derived.Test.YtcalhmjnoahliaaPr13
namespace Go.Proofs.Ytcalhmjnoahliaa.Pr
open Go.RowKit Go.Proofs.YtcalhmjnoahliaaW.PrintWords Go.Proofs.YtcalhmjnoahliaaW.PrintLast Go.Proofs.YtcalhmjnoahliaaW.PrintMore
attribute [local go_sem] max2_int min2_int max_two min_two max_three min_three max_four min_four   -- for this text's walks alone
set_option linter.unusedVariables false
set_option linter.unusedSimpArgs false

attribute [local go_sem high] eqA59
/-! ### spec_TicksToEmpty: function 40 -/
mutual
def spec_TicksToEmpty.l0 : Nat → List (S59) → Int → Option (Int × Bool)
  | 0, _, _ => none
  | k + 1, x0, x4 => (spec_weHeld.f k x0).bind fun t613 => (if t613 = 0 then (some (x4, true)) else ((spec_weTick.f k x0 0).bind fun bt614 => (spec_TicksToEmpty.l1 k x0 x4 bt614.1 true bt614.1 (bt614.1.length : Int) 0)))
def spec_TicksToEmpty.l1 : Nat → List (S59) → Int → List (S59) → Bool → List (S59) → Int → Int → Option (Int × Bool)
  | 0, _, _, _, _, _, _, _ => none
  | k + 1, x0, x4, x5, x8, x26, x27, x28 => if x28 < x27 then (if 0 ≤ x28 then (if x28 < (x26.length : Int) then (if x8 = true then (if x28 < (x0.length : Int) then (spec_TicksToEmpty.l1 k x0 x4 x5 (((rd_T59 x26 x28).f0) == ((rd_T59 x0 x28).f0) && (((rd_T59 x26 x28).f1) == ((rd_T59 x0 x28).f1) && (((rd_T59 x26 x28).f2) == ((rd_T59 x0 x28).f2)))) x26 x27 (wrap64 (x28 + 1))) else (none)) else (spec_TicksToEmpty.l1 k x0 x4 x5 false x26 x27 (wrap64 (x28 + 1)))) else (none)) else (none)) else (if x8 = true then (some (0, false)) else (spec_TicksToEmpty.l0 k x5 (wrap64 (x4 + 1))))
end
def spec_TicksToEmpty.f (k : Nat) (l0 : List (S59)) : Option (Int × Bool) := (spec_weRow.f k l0).bind fun t612 => (if t612 = true then (spec_TicksToEmpty.l0 k l0 0) else (some (0, false)))
theorem spec_TicksToEmpty.mono_l : ∀ k, (∀ y0 y1, LeO (spec_TicksToEmpty.l0 k y0 y1) (spec_TicksToEmpty.l0 (k + 1) y0 y1)) ∧ (∀ y0 y1 y2 y3 y4 y5 y6, LeO (spec_TicksToEmpty.l1 k y0 y1 y2 y3 y4 y5 y6) (spec_TicksToEmpty.l1 (k + 1) y0 y1 y2 y3 y4 y5 y6))
  | 0 => ⟨fun _ _ r h => by simp [spec_TicksToEmpty.l0] at h, fun _ _ _ _ _ _ _ r h => by simp [spec_TicksToEmpty.l1] at h⟩
  | k + 1 => by
    obtain ⟨ih0, ih1⟩ := spec_TicksToEmpty.mono_l k
    refine ⟨?_, ?_⟩
    · intro y0 y1
      unfold spec_TicksToEmpty.l0
      repeat' first
      | (with_reducible exact ih0 _ _)
      | (with_reducible exact ih1 _ _ _ _ _ _ _)
      | (with_reducible exact spec_weHeld.mono _ _)
      | (with_reducible exact spec_weRow.mono _ _)
      | (with_reducible exact spec_weTick.mono _ _ _)
      | (with_reducible exact LeO.refl _)
      | (with_reducible exact LeO.none _)
      | (with_reducible refine LeO.ite ?_ ?_)
      | (with_reducible refine LeO.bind ?_ (fun _ => ?_))
      | exact ih0 _ _
      | exact ih1 _ _ _ _ _ _ _
      | exact spec_weHeld.mono _ _
      | exact spec_weRow.mono _ _
      | exact spec_weTick.mono _ _ _
      | exact LeO.none _
      | refine LeO.ite ?_ ?_
      | refine LeO.bind ?_ (fun _ => ?_)
    · intro y0 y1 y2 y3 y4 y5 y6
      unfold spec_TicksToEmpty.l1
      repeat' first
      | (with_reducible exact ih0 _ _)
      | (with_reducible exact ih1 _ _ _ _ _ _ _)
      | (with_reducible exact spec_weHeld.mono _ _)
      | (with_reducible exact spec_weRow.mono _ _)
      | (with_reducible exact spec_weTick.mono _ _ _)
      | (with_reducible exact LeO.refl _)
      | (with_reducible exact LeO.none _)
      | (with_reducible refine LeO.ite ?_ ?_)
      | (with_reducible refine LeO.bind ?_ (fun _ => ?_))
      | exact ih0 _ _
      | exact ih1 _ _ _ _ _ _ _
      | exact spec_weHeld.mono _ _
      | exact spec_weRow.mono _ _
      | exact spec_weTick.mono _ _ _
      | exact LeO.none _
      | refine LeO.ite ?_ ?_
      | refine LeO.bind ?_ (fun _ => ?_)
theorem spec_TicksToEmpty.mono : ∀ a0 k, LeO (spec_TicksToEmpty.f k a0) (spec_TicksToEmpty.f (k + 1) a0) := by
  intro a0 k
  obtain ⟨ih0, ih1⟩ := spec_TicksToEmpty.mono_l k
  unfold spec_TicksToEmpty.f
  repeat' first
      | (with_reducible exact ih0 _ _)
      | (with_reducible exact ih1 _ _ _ _ _ _ _)
      | (with_reducible exact spec_weHeld.mono _ _)
      | (with_reducible exact spec_weRow.mono _ _)
      | (with_reducible exact spec_weTick.mono _ _ _)
      | (with_reducible exact LeO.refl _)
      | (with_reducible exact LeO.none _)
      | (with_reducible refine LeO.ite ?_ ?_)
      | (with_reducible refine LeO.bind ?_ (fun _ => ?_))
      | exact ih0 _ _
      | exact ih1 _ _ _ _ _ _ _
      | exact spec_weHeld.mono _ _
      | exact spec_weRow.mono _ _
      | exact spec_weTick.mono _ _ _
      | exact LeO.none _
      | refine LeO.ite ?_ ?_
      | refine LeO.bind ?_ (fun _ => ?_)
/-- A row that is only read, whose block may not be g: its block is not g. -/
theorem V_apart_t {α : Type} {d : Kd α} {e : Nat} {W : World} {base : Nat} {ok : Nat → Prop} {ad : Addr} {n c : Nat} {xs : List α} (hsz : 0 < d.sz) (h : Kd.V d e W base ok (.slice (some ad) n c) xs) (i : Int) (h0 : 0 ≤ i) (h1 : i < n) {g : Nat} (hg : ¬ ok g) : ad.block ≠ g := by
  intro e
  have hf := Kd.V_F h
  obtain ⟨hl, _, hr⟩ := hf { W with heap := W.heap.setIfInBounds g (.cells #[] 0 (0, 0)) } (fun k hk _ => by
    have hne : g ≠ k := fun e => hg (e ▸ hk)
    simp [hne])
  obtain ⟨ad', e', hc⟩ := hr (by omega)
  cases e'
  have hx : 0 < xs.length := by omega
  obtain ⟨c', hc1, _, hc3⟩ := hc 0 _ (List.getElem?_eq_getElem hx)
  have := hc3 0 _ (List.getElem?_eq_getElem (by omega))
  unfold World.cell? at this
  rw [add_block, e, Array.getElem?_setIfInBounds] at this
  split at this
  · rename_i c2 _ _ hq
    split at this
    · cases this
    · rw [if_pos rfl] at hq
      split at hq
      · injection hq with hq
        injection hq with hq
        subst hq
        simp at this
      · cases hq
  · cases this
set_option maxHeartbeats 8000000 in
set_option maxRecDepth 100000 in
theorem spec_TicksToEmpty.calls (k : Nat) (P0_ : Nat → Prop) (A0 : Option Addr) (c0 : Nat) (l0 : List (S59)) (r1 : Int) (r2 : Bool) (w : World) (hs0 : Kd.V k59 59 w w.heap.size (fun k_ => P0_ k_) (.slice A0 l0.length c0) l0) (h : spec_TicksToEmpty.f k l0 = some (r1, r2)) :
    Calls Try.prog 40 #[.slice A0 l0.length c0] w fun e w' => e = .returned (.tuple #[.int .i64 r1, .bool r2]) ∧ Below w.heap.size w w' := by
  have hu59 := Try.underlying59
  have HO0 := Aside0.mk (show Kd.V k59 59 w w.heap.size (fun k_ => (P0_ k_ ∨ w.heap.size ≤ k_)) (.slice A0 l0.length c0) l0 from Kd.V_mono hs0 (fun k_ hk => .inl hk))
  have HB := Aside0.mk (Below.refl w.heap.size w)
  have H : ((spec_weRow.f k l0).bind fun t612 => (if t612 = true then (spec_TicksToEmpty.l0 k l0 0) else (some (0, false)))) = some (r1, r2) := h
  clear h
  replace H := Option.bind_eq_some_iff.mp H
  obtain ⟨t612, A20, H⟩ := H
  replace H : (if t612 = true then (spec_TicksToEmpty.l0 k l0 0) else (some (0, false))) = some (r1, r2) := H
  have A2 := Aside0.mk A20
  clear A20
  by_cases c3 : t612 = true
  · subst c3
    have H1 : (spec_TicksToEmpty.l0 k l0 0) = some (r1, r2) := by rw [if_pos rfl] at H; exact H
    clear H
    have H := H1
    clear H1
    have H' := Aside0.mk H
    clear H
    go_enter Try.func40, Try.ntmps40
    go_wp2_with (first | (go_at_call 62; (with_reducible refine (spec_weRow.calls k _ _ l0 true _ ?side1 ?side2 A2.out).mono ?_); (case side1 => repeat (first | exact (Kd.V_reads' HO0.out).2.2 | (with_reducible refine Kd.C_alloc ?_ _) | (with_reducible refine Kd.C_drewN ?_ _) | (with_reducible refine Kd.C_drew ?_))); (case side2 => exact (Kd.V_reads' HO0.out).2.1); rintro e w4 ⟨rfl, hb⟩; have n0_ := Aside0.mk (Kd.V_below (by (with_reducible repeat (first | apply Kd.V_alloc | apply Kd.V_drewN | apply Kd.V_drew)); exact HO0.out) hb); have n1_ := Aside0.mk (below_step (by repeat (first | (with_reducible first | exact HB.out | apply below_alloc | apply pw_below_drewN | apply below_drew1) | exact HB.out)) hb); clear HO0; clear HB; have HO0 := n0_; have HB := n1_; clear n0_ n1_; (try clear hb); (try clear hb2); (try clear hk); (try clear hi)))
    repeat (go_quiet (first | (go_at_call 62; (with_reducible refine (spec_weRow.calls k _ _ l0 true _ ?side1 ?side2 A2.out).mono ?_); (case side1 => repeat (first | exact (Kd.V_reads' HO0.out).2.2 | (with_reducible refine Kd.C_alloc ?_ _) | (with_reducible refine Kd.C_drewN ?_ _) | (with_reducible refine Kd.C_drew ?_))); (case side2 => exact (Kd.V_reads' HO0.out).2.1); rintro e w4 ⟨rfl, hb⟩; have n0_ := Aside0.mk (Kd.V_below (by (with_reducible repeat (first | apply Kd.V_alloc | apply Kd.V_drewN | apply Kd.V_drew)); exact HO0.out) hb); have n1_ := Aside0.mk (below_step (by repeat (first | (with_reducible first | exact HB.out | apply below_alloc | apply pw_below_drewN | apply below_drew1) | exact HB.out)) hb); clear HO0; clear HB; have HO0 := n0_; have HB := n1_; clear n0_ n1_; (try clear hb); (try clear hb2); (try clear hk); (try clear hi))); try go_wp2_with (first | (go_at_call 62; (with_reducible refine (spec_weRow.calls k _ _ l0 true _ ?side1 ?side2 A2.out).mono ?_); (case side1 => repeat (first | exact (Kd.V_reads' HO0.out).2.2 | (with_reducible refine Kd.C_alloc ?_ _) | (with_reducible refine Kd.C_drewN ?_ _) | (with_reducible refine Kd.C_drew ?_))); (case side2 => exact (Kd.V_reads' HO0.out).2.1); rintro e w4 ⟨rfl, hb⟩; have n0_ := Aside0.mk (Kd.V_below (by (with_reducible repeat (first | apply Kd.V_alloc | apply Kd.V_drewN | apply Kd.V_drew)); exact HO0.out) hb); have n1_ := Aside0.mk (below_step (by repeat (first | (with_reducible first | exact HB.out | apply below_alloc | apply pw_below_drewN | apply below_drew1) | exact HB.out)) hb); clear HO0; clear HB; have HO0 := n0_; have HB := n1_; clear n0_ n1_; (try clear hb); (try clear hb2); (try clear hk); (try clear hi))))
    go_loopg [0, 4] k (fun kq v0 v4 w' => ∃ (x0_1 : List (S59)) (x4_1 : Int), v4 = .int .i64 x4_1 ∧ Aside0 (spec_TicksToEmpty.l0 kq x0_1 x4_1 = some (r1, r2)) ∧ Aside0 (kq ≤ k) ∧ Aside0 (Kd.V k59 59 w' w.heap.size (fun k_ => (P0_ k_ ∨ w.heap.size ≤ k_)) v0 x0_1) ∧ Aside0 (Below w.heap.size w w'))
    case atStart => exact ⟨(l0), (0), (by first | rfl | (simp; done) | (simp [*]; done)), H', ⟨Nat.le_refl _⟩, ⟨by (with_reducible repeat (first | apply Kd.V_alloc | apply Kd.V_drewN | apply Kd.V_drew)); exact HO0.out⟩, ⟨by repeat (first | (with_reducible first | exact HB.out | apply below_alloc | apply pw_below_drewN | apply below_drew1) | exact HB.out)⟩⟩
    case round =>
      clear H'
      try clear p2
      try clear c3
      try clear c4
      obtain ⟨x0_1, x4_1, rfl, HA, HK1, HO_0, HB⟩ := hrel
      cases gk with
      | zero => exact absurd HA.out (by simp [spec_TicksToEmpty.l0])
      | succ k1 =>
        have H := HA.out
        clear HA
        simp only [spec_TicksToEmpty.l0] at H
        replace H := Option.bind_eq_some_iff.mp H
        obtain ⟨t613, A50, H⟩ := H
        replace H : (if t613 = 0 then (some (x4_1, true)) else ((spec_weTick.f k1 x0_1 0).bind fun bt614 => (spec_TicksToEmpty.l1 k1 x0_1 x4_1 bt614.1 true bt614.1 (bt614.1.length : Int) 0))) = some (r1, r2) := H
        have A5 := Aside0.mk A50
        clear A50
        by_cases c6 : t613 = 0
        · rw [if_pos c6] at H
          have c6b0 : (t613 == 0) = true := beq_iff_eq.mpr c6
          have c6b1 : (t613 != 0) = false := bne_eq_false_iff_eq.mpr c6
          clear c6
          simp only [Option.some.injEq, Prod.mk.injEq] at H
          obtain ⟨rfl, rfl⟩ := H
          obtain ⟨Ao7, co7, eo7⟩ := Kd.V_slice HO_0.out
          subst eo7
          go_wp2_with (first | (go_at_call 69; (with_reducible refine (spec_weHeld.calls k1 _ _ x0_1 t613 _ ?side1 ?side2 A5.out).mono ?_); (case side1 => repeat (first | exact (Kd.V_reads' HO_0.out).2.2 | (with_reducible refine Kd.C_alloc ?_ _) | (with_reducible refine Kd.C_drewN ?_ _) | (with_reducible refine Kd.C_drew ?_))); (case side2 => exact (Kd.V_reads' HO_0.out).2.1); rintro e w8 ⟨rfl, hb⟩; have n0_ := Aside0.mk (Kd.V_below (by (with_reducible repeat (first | apply Kd.V_alloc | apply Kd.V_drewN | apply Kd.V_drew)); exact HO_0.out) hb); have n1_ := Aside0.mk (below_step (by repeat (first | (with_reducible first | exact HB.out | apply below_alloc | apply pw_below_drewN | apply below_drew1) | exact HB.out)) hb); clear HO_0; clear HB; have HO_0 := n0_; have HB := n1_; clear n0_ n1_; (try clear hb); (try clear hb2); (try clear hk); (try clear hi)))
          repeat (go_quiet (first | (go_at_call 69; (with_reducible refine (spec_weHeld.calls k1 _ _ x0_1 t613 _ ?side1 ?side2 A5.out).mono ?_); (case side1 => repeat (first | exact (Kd.V_reads' HO_0.out).2.2 | (with_reducible refine Kd.C_alloc ?_ _) | (with_reducible refine Kd.C_drewN ?_ _) | (with_reducible refine Kd.C_drew ?_))); (case side2 => exact (Kd.V_reads' HO_0.out).2.1); rintro e w8 ⟨rfl, hb⟩; have n0_ := Aside0.mk (Kd.V_below (by (with_reducible repeat (first | apply Kd.V_alloc | apply Kd.V_drewN | apply Kd.V_drew)); exact HO_0.out) hb); have n1_ := Aside0.mk (below_step (by repeat (first | (with_reducible first | exact HB.out | apply below_alloc | apply pw_below_drewN | apply below_drew1) | exact HB.out)) hb); clear HO_0; clear HB; have HO_0 := n0_; have HB := n1_; clear n0_ n1_; (try clear hb); (try clear hb2); (try clear hk); (try clear hi))); try go_wp2_with (first | (go_at_call 69; (with_reducible refine (spec_weHeld.calls k1 _ _ x0_1 t613 _ ?side1 ?side2 A5.out).mono ?_); (case side1 => repeat (first | exact (Kd.V_reads' HO_0.out).2.2 | (with_reducible refine Kd.C_alloc ?_ _) | (with_reducible refine Kd.C_drewN ?_ _) | (with_reducible refine Kd.C_drew ?_))); (case side2 => exact (Kd.V_reads' HO_0.out).2.1); rintro e w8 ⟨rfl, hb⟩; have n0_ := Aside0.mk (Kd.V_below (by (with_reducible repeat (first | apply Kd.V_alloc | apply Kd.V_drewN | apply Kd.V_drew)); exact HO_0.out) hb); have n1_ := Aside0.mk (below_step (by repeat (first | (with_reducible first | exact HB.out | apply below_alloc | apply pw_below_drewN | apply below_drew1) | exact HB.out)) hb); clear HO_0; clear HB; have HO_0 := n0_; have HB := n1_; clear n0_ n1_; (try clear hb); (try clear hb2); (try clear hk); (try clear hi))))
          go_ret2
          exact ⟨by first | rfl | (simp [errW_none, errW_some] <;> rfl) | (simp [*, errW_none, errW_some] <;> rfl), by repeat (first | (with_reducible first | exact HB.out | apply below_alloc | apply pw_below_drewN | apply below_drew1) | exact HB.out)⟩
        · rw [if_neg c6] at H
          have c6b0 : (t613 == 0) = false := beq_eq_false_iff_ne.mpr c6
          have c6b1 : (t613 != 0) = true := bne_iff_ne.mpr c6
          replace H := Option.bind_eq_some_iff.mp H
          obtain ⟨⟨t614, t615, t616⟩, A90, H⟩ := H
          replace H : (spec_TicksToEmpty.l1 k1 x0_1 x4_1 t614 true t614 (t614.length : Int) 0) = some (r1, r2) := H
          have A9 := Aside0.mk A90
          clear A90
          have H' := Aside0.mk H
          clear H
          obtain ⟨Ao10, co10, eo10⟩ := Kd.V_slice HO_0.out
          subst eo10
          go_wp2_with (first | (go_at_call 69; (with_reducible refine (spec_weHeld.calls k1 _ _ x0_1 t613 _ ?side1 ?side2 A5.out).mono ?_); (case side1 => repeat (first | exact (Kd.V_reads' HO_0.out).2.2 | (with_reducible refine Kd.C_alloc ?_ _) | (with_reducible refine Kd.C_drewN ?_ _) | (with_reducible refine Kd.C_drew ?_))); (case side2 => exact (Kd.V_reads' HO_0.out).2.1); rintro e w11 ⟨rfl, hb⟩; have n0_ := Aside0.mk (Kd.V_below (by (with_reducible repeat (first | apply Kd.V_alloc | apply Kd.V_drewN | apply Kd.V_drew)); exact HO_0.out) hb); have n1_ := Aside0.mk (below_step (by repeat (first | (with_reducible first | exact HB.out | apply below_alloc | apply pw_below_drewN | apply below_drew1) | exact HB.out)) hb); clear HO_0; clear HB; have HO_0 := n0_; have HB := n1_; clear n0_ n1_; (try clear hb); (try clear hb2); (try clear hk); (try clear hi)) | (go_at_call 73; (with_reducible refine (spec_weTick.calls k1 _ _ x0_1 0 t614 t615 t616 _ ?side1 ?side2 A9.out).mono ?_); (case side1 => repeat (first | exact (Kd.V_reads' HO_0.out).2.2 | (with_reducible refine Kd.C_alloc ?_ _) | (with_reducible refine Kd.C_drewN ?_ _) | (with_reducible refine Kd.C_drew ?_))); (case side2 => exact (Kd.V_reads' HO_0.out).2.1); rintro e w12 ⟨v617, v619, rfl, ho0, ho1, hb⟩; have n0_ := Aside0.mk (Kd.V_mono (Kd.V_told (Kd.V_told (Kd.V_old (by (with_reducible repeat (first | apply Kd.V_alloc | apply Kd.V_drewN | apply Kd.V_drew)); exact HO_0.out) hb) (Kd.R_base ho0)) (Kd.R_base ho1)) (fun _ h_ => h_.1)); have n1_ := Aside0.mk (Kd.R_lower (Kd.R_newM (M := fun k_ => (w.heap.size ≤ k_)) ho0 (below_size (by repeat (first | (with_reducible first | exact HB.out | apply below_alloc | apply pw_below_drewN | apply below_drew1) | exact HB.out))) (fun k_ h_ => h_)) (below_size (by repeat (first | (with_reducible first | exact HB.out | apply below_alloc | apply pw_below_drewN | apply below_drew1) | exact HB.out)))); have n2_ := Aside0.mk (Kd.R_lower (Kd.R_newM (M := fun k_ => (w.heap.size ≤ k_)) ho1 (below_size (by repeat (first | (with_reducible first | exact HB.out | apply below_alloc | apply pw_below_drewN | apply below_drew1) | exact HB.out))) (fun k_ h_ => h_)) (below_size (by repeat (first | (with_reducible first | exact HB.out | apply below_alloc | apply pw_below_drewN | apply below_drew1) | exact HB.out)))); have n3_ := Aside0.mk (below_step (by repeat (first | (with_reducible first | exact HB.out | apply below_alloc | apply pw_below_drewN | apply below_drew1) | exact HB.out)) hb); clear HO_0; clear HB; have HO_0 := n0_; have HO618 := n1_; have HO620 := n2_; have HB := n3_; clear n0_ n1_ n2_ n3_; (try clear hb); (try clear hb2); (try clear hk); (try clear hi); (try clear ho0); (try clear ho1); obtain ⟨Ao13, co13, eo13⟩ := Kd.R_slice HO618.out; subst eo13))
          repeat (go_quiet (first | (go_at_call 69; (with_reducible refine (spec_weHeld.calls k1 _ _ x0_1 t613 _ ?side1 ?side2 A5.out).mono ?_); (case side1 => repeat (first | exact (Kd.V_reads' HO_0.out).2.2 | (with_reducible refine Kd.C_alloc ?_ _) | (with_reducible refine Kd.C_drewN ?_ _) | (with_reducible refine Kd.C_drew ?_))); (case side2 => exact (Kd.V_reads' HO_0.out).2.1); rintro e w11 ⟨rfl, hb⟩; have n0_ := Aside0.mk (Kd.V_below (by (with_reducible repeat (first | apply Kd.V_alloc | apply Kd.V_drewN | apply Kd.V_drew)); exact HO_0.out) hb); have n1_ := Aside0.mk (below_step (by repeat (first | (with_reducible first | exact HB.out | apply below_alloc | apply pw_below_drewN | apply below_drew1) | exact HB.out)) hb); clear HO_0; clear HB; have HO_0 := n0_; have HB := n1_; clear n0_ n1_; (try clear hb); (try clear hb2); (try clear hk); (try clear hi)) | (go_at_call 73; (with_reducible refine (spec_weTick.calls k1 _ _ x0_1 0 t614 t615 t616 _ ?side1 ?side2 A9.out).mono ?_); (case side1 => repeat (first | exact (Kd.V_reads' HO_0.out).2.2 | (with_reducible refine Kd.C_alloc ?_ _) | (with_reducible refine Kd.C_drewN ?_ _) | (with_reducible refine Kd.C_drew ?_))); (case side2 => exact (Kd.V_reads' HO_0.out).2.1); rintro e w12 ⟨v617, v619, rfl, ho0, ho1, hb⟩; have n0_ := Aside0.mk (Kd.V_mono (Kd.V_told (Kd.V_told (Kd.V_old (by (with_reducible repeat (first | apply Kd.V_alloc | apply Kd.V_drewN | apply Kd.V_drew)); exact HO_0.out) hb) (Kd.R_base ho0)) (Kd.R_base ho1)) (fun _ h_ => h_.1)); have n1_ := Aside0.mk (Kd.R_lower (Kd.R_newM (M := fun k_ => (w.heap.size ≤ k_)) ho0 (below_size (by repeat (first | (with_reducible first | exact HB.out | apply below_alloc | apply pw_below_drewN | apply below_drew1) | exact HB.out))) (fun k_ h_ => h_)) (below_size (by repeat (first | (with_reducible first | exact HB.out | apply below_alloc | apply pw_below_drewN | apply below_drew1) | exact HB.out)))); have n2_ := Aside0.mk (Kd.R_lower (Kd.R_newM (M := fun k_ => (w.heap.size ≤ k_)) ho1 (below_size (by repeat (first | (with_reducible first | exact HB.out | apply below_alloc | apply pw_below_drewN | apply below_drew1) | exact HB.out))) (fun k_ h_ => h_)) (below_size (by repeat (first | (with_reducible first | exact HB.out | apply below_alloc | apply pw_below_drewN | apply below_drew1) | exact HB.out)))); have n3_ := Aside0.mk (below_step (by repeat (first | (with_reducible first | exact HB.out | apply below_alloc | apply pw_below_drewN | apply below_drew1) | exact HB.out)) hb); clear HO_0; clear HB; have HO_0 := n0_; have HO618 := n1_; have HO620 := n2_; have HB := n3_; clear n0_ n1_ n2_ n3_; (try clear hb); (try clear hb2); (try clear hk); (try clear hi); (try clear ho0); (try clear ho1); obtain ⟨Ao13, co13, eo13⟩ := Kd.R_slice HO618.out; subst eo13)); try go_wp2_with (first | (go_at_call 69; (with_reducible refine (spec_weHeld.calls k1 _ _ x0_1 t613 _ ?side1 ?side2 A5.out).mono ?_); (case side1 => repeat (first | exact (Kd.V_reads' HO_0.out).2.2 | (with_reducible refine Kd.C_alloc ?_ _) | (with_reducible refine Kd.C_drewN ?_ _) | (with_reducible refine Kd.C_drew ?_))); (case side2 => exact (Kd.V_reads' HO_0.out).2.1); rintro e w11 ⟨rfl, hb⟩; have n0_ := Aside0.mk (Kd.V_below (by (with_reducible repeat (first | apply Kd.V_alloc | apply Kd.V_drewN | apply Kd.V_drew)); exact HO_0.out) hb); have n1_ := Aside0.mk (below_step (by repeat (first | (with_reducible first | exact HB.out | apply below_alloc | apply pw_below_drewN | apply below_drew1) | exact HB.out)) hb); clear HO_0; clear HB; have HO_0 := n0_; have HB := n1_; clear n0_ n1_; (try clear hb); (try clear hb2); (try clear hk); (try clear hi)) | (go_at_call 73; (with_reducible refine (spec_weTick.calls k1 _ _ x0_1 0 t614 t615 t616 _ ?side1 ?side2 A9.out).mono ?_); (case side1 => repeat (first | exact (Kd.V_reads' HO_0.out).2.2 | (with_reducible refine Kd.C_alloc ?_ _) | (with_reducible refine Kd.C_drewN ?_ _) | (with_reducible refine Kd.C_drew ?_))); (case side2 => exact (Kd.V_reads' HO_0.out).2.1); rintro e w12 ⟨v617, v619, rfl, ho0, ho1, hb⟩; have n0_ := Aside0.mk (Kd.V_mono (Kd.V_told (Kd.V_told (Kd.V_old (by (with_reducible repeat (first | apply Kd.V_alloc | apply Kd.V_drewN | apply Kd.V_drew)); exact HO_0.out) hb) (Kd.R_base ho0)) (Kd.R_base ho1)) (fun _ h_ => h_.1)); have n1_ := Aside0.mk (Kd.R_lower (Kd.R_newM (M := fun k_ => (w.heap.size ≤ k_)) ho0 (below_size (by repeat (first | (with_reducible first | exact HB.out | apply below_alloc | apply pw_below_drewN | apply below_drew1) | exact HB.out))) (fun k_ h_ => h_)) (below_size (by repeat (first | (with_reducible first | exact HB.out | apply below_alloc | apply pw_below_drewN | apply below_drew1) | exact HB.out)))); have n2_ := Aside0.mk (Kd.R_lower (Kd.R_newM (M := fun k_ => (w.heap.size ≤ k_)) ho1 (below_size (by repeat (first | (with_reducible first | exact HB.out | apply below_alloc | apply pw_below_drewN | apply below_drew1) | exact HB.out))) (fun k_ h_ => h_)) (below_size (by repeat (first | (with_reducible first | exact HB.out | apply below_alloc | apply pw_below_drewN | apply below_drew1) | exact HB.out)))); have n3_ := Aside0.mk (below_step (by repeat (first | (with_reducible first | exact HB.out | apply below_alloc | apply pw_below_drewN | apply below_drew1) | exact HB.out)) hb); clear HO_0; clear HB; have HO_0 := n0_; have HO618 := n1_; have HO620 := n2_; have HB := n3_; clear n0_ n1_ n2_ n3_; (try clear hb); (try clear hb2); (try clear hk); (try clear hi); (try clear ho0); (try clear ho1); obtain ⟨Ao13, co13, eo13⟩ := Kd.R_slice HO618.out; subst eo13)))
          go_loopg [8, 28] k1 (fun kq v8 v28 w' => ∃ (x8_2 : Bool) (x28_2 : Int), v8 = .bool x8_2 ∧ v28 = .int .i64 x28_2 ∧ Aside0 (spec_TicksToEmpty.l1 kq x0_1 x4_1 t614 x8_2 t614 (t614.length : Int) x28_2 = some (r1, r2)) ∧ Aside0 (kq ≤ k1) ∧ Aside0 (Kd.V k59 59 w' w.heap.size (fun k_ => (P0_ k_ ∨ w.heap.size ≤ k_) ∧ some k_ ≠ ((.slice Ao13 t614.length co13) : Value).ownBlock ∧ some k_ ≠ ((.slice Ao13 t614.length co13) : Value).ownBlock) (.slice Ao10 x0_1.length co10) x0_1) ∧ Aside0 (Kd.R k59 59 w' w.heap.size (fun k_ => (w.heap.size ≤ k_)) (.slice Ao13 t614.length co13) t614) ∧ Aside0 (Kd.R k59 59 w' w.heap.size (fun k_ => (w.heap.size ≤ k_)) (.slice Ao13 t614.length co13) t614) ∧ Aside0 (Below w.heap.size w w'))
          case atStart => exact ⟨(true), (0), (by first | rfl | (simp; done) | (simp [*]; done)), (by first | rfl | (simp; done) | (simp [*]; done)), H', ⟨Nat.le_refl _⟩, ⟨by (with_reducible repeat (first | apply Kd.V_alloc | apply Kd.V_drewN | apply Kd.V_drew)); exact Kd.V_mono HO_0.out (fun _ hk => ⟨hk.1.1, ⟨hk.1.2, hk.1.2⟩⟩)⟩, ⟨by (with_reducible repeat (first | apply Kd.R_alloc | apply Kd.R_drewN | apply Kd.R_drew)); exact Kd.R_mono HO618.out (fun _ hk => hk.1)⟩, ⟨by (with_reducible repeat (first | apply Kd.R_alloc | apply Kd.R_drewN | apply Kd.R_drew)); exact Kd.R_mono HO618.out (fun _ hk => hk.1)⟩, ⟨by repeat (first | (with_reducible first | exact HB.out | apply below_alloc | apply pw_below_drewN | apply below_drew1) | exact HB.out)⟩⟩
          case round =>
            clear H'
            try clear p2
            try clear c3
            try clear c4
            try clear c6
            try clear c6b0
            try clear c6b1
            try clear p2
            obtain ⟨x8_2, x28_2, rfl, rfl, HA, HK2, HO_0, HO_5, HO_26, HB⟩ := hrel
            cases gk with
            | zero => exact absurd HA.out (by simp [spec_TicksToEmpty.l1])
            | succ k2 =>
              have H := HA.out
              clear HA
              simp only [spec_TicksToEmpty.l1] at H
              by_cases c14 : x28_2 < (t614.length : Int)
              · rw [if_pos c14] at H
                have c14b0 : decide (x28_2 < (t614.length : Int)) = true := decide_eq_true c14
                clear c14
                by_cases c15 : 0 ≤ x28_2
                · rw [if_pos c15] at H
                  have c15b0 : decide (0 ≤ x28_2) = true := decide_eq_true c15
                  clear c15
                  by_cases c16 : x28_2 < (t614.length : Int)
                  · rw [if_pos c16] at H
                    have c16b0 : decide (x28_2 < (t614.length : Int)) = true := decide_eq_true c16
                    clear c16
                    by_cases c17 : x8_2 = true
                    · subst c17
                      have H1 : (if x28_2 < (x0_1.length : Int) then (spec_TicksToEmpty.l1 k2 x0_1 x4_1 t614 (((rd_T59 t614 x28_2).f0) == ((rd_T59 x0_1 x28_2).f0) && (((rd_T59 t614 x28_2).f1) == ((rd_T59 x0_1 x28_2).f1) && (((rd_T59 t614 x28_2).f2) == ((rd_T59 x0_1 x28_2).f2)))) t614 (t614.length : Int) (wrap64 (x28_2 + 1))) else (none)) = some (r1, r2) := by rw [if_pos rfl] at H; exact H
                      clear H
                      have H := H1
                      clear H1
                      by_cases c18 : x28_2 < (x0_1.length : Int)
                      · rw [if_pos c18] at H
                        have c18b0 : decide (x28_2 < (x0_1.length : Int)) = true := decide_eq_true c18
                        clear c18
                        have H' := Aside0.mk H
                        clear H
                        have p621 : 0 ≤ (x28_2 : Int) := of_decide_eq_true (by first | (with_reducible assumption) | assumption)
                        have q621 : x28_2 < (t614.length : Int) := of_decide_eq_true (by first | (with_reducible assumption) | assumption)
                        obtain ⟨ad621, e621, hx621_0, hx621_1, hx621_2⟩ := at_T59 (Kd.R_reads' HO_26.out).2.2 x28_2 p621 q621
                        cases e621
                        replace p621 := eq_true p621
                        replace q621 := eq_true q621
                        go_wp2_with (first | ((with_reducible refine gate_dst (N := 10) rfl ?_); refine box_event ?hg (N := 10) ?hd (cs := #[.int .i64 0, .int .i64 0, .int .i64 0]) (t := 59) ?hr ?_; (case hd => rfl); (case hg => rfl); (case hr => first | (go_simp; done) | (go_simp; rfl)); intro gb622 hg w19 hbox hb; have n0_ := Aside0.mk (Kd.V_below (Kd.V_elderB (by (with_reducible repeat (first | apply Kd.V_alloc | apply Kd.V_drewN | apply Kd.V_drew)); exact HO_0.out) gb622 (Nat.le_of_eq hg.symm)) hb); have n1_ := Aside0.mk (Kd.R_below (Kd.R_elderB (by (with_reducible repeat (first | apply Kd.R_alloc | apply Kd.R_drewN | apply Kd.R_drew)); exact HO_5.out) gb622 (Nat.le_of_eq hg.symm)) hb); have n2_ := Aside0.mk (Kd.R_below (Kd.R_elderB (by (with_reducible repeat (first | apply Kd.R_alloc | apply Kd.R_drewN | apply Kd.R_drew)); exact HO_26.out) gb622 (Nat.le_of_eq hg.symm)) hb); have n3_ := Aside0.mk (below_step (by repeat (first | (with_reducible first | exact HB.out | apply below_alloc | apply pw_below_drewN | apply below_drew1) | exact HB.out)) hb); have n4_ := Aside0.mk (hbox); have n5_ := Aside0.mk ((by rw [hg]; exact (below_size (by repeat (first | (with_reducible first | exact HB.out | apply below_alloc | apply pw_below_drewN | apply below_drew1) | exact HB.out))) : w.heap.size ≤ gb622)); have n6_ := Aside0.mk ((by rw [hg]; exact (below_size (by repeat (first | (with_reducible first | exact HB.out | apply below_alloc | apply pw_below_drewN | apply below_drew1) | exact HB.out))) : w.heap.size ≤ gb622)); clear HO_0; clear HO_5; clear HO_26; clear HB; have HO_0 := n0_; have HO_5 := n1_; have HO_26 := n2_; have HB := n3_; have BK622 := n4_; have GW622 := n5_; have GE622 := n6_; clear n0_ n1_ n2_ n3_ n4_ n5_ n6_; clear hb hbox hg; have hcz20_0 : w19.cell? ⟨gb622, 0, none⟩ = some (.int .i64 0) := (blk_cell BK622.out 0).trans rfl; have hcz20_1 : w19.cell? ⟨gb622, 1, none⟩ = some (.int .i64 0) := (blk_cell BK622.out 1).trans rfl; have hcz20_2 : w19.cell? ⟨gb622, 2, none⟩ = some (.int .i64 0) := (blk_cell BK622.out 2).trans rfl; have hfz20_0 := blk_frozen BK622.out 0; have hfz20_1 := blk_frozen BK622.out 1; have hfz20_2 := blk_frozen BK622.out 2; have p623 : 0 ≤ (x28_2 : Int) := of_decide_eq_true (by first | (with_reducible assumption) | assumption); have q623 : x28_2 < (x0_1.length : Int) := of_decide_eq_true (by first | (with_reducible assumption) | assumption); obtain ⟨ad623, e623, hx623_0, hx623_1, hx623_2⟩ := at_T59 (Kd.V_reads' HO_0.out).2.2 x28_2 p623 q623; cases e623; have hn623_0 : ad623.block ≠ gb622 := V_apart_t (by decide) HO_0.out _ p623 q623 (fun h_ => h_.2 rfl); have hn623_1 : ad623.block ≠ gb622 := V_apart_t (by decide) HO_0.out _ p623 q623 (fun h_ => h_.2 rfl); have hn623_2 : ad623.block ≠ gb622 := V_apart_t (by decide) HO_0.out _ p623 q623 (fun h_ => h_.2 rfl); replace hx623_0 := (cell_far (p := ⟨gb622, 0, none⟩) (by first | (rw [add_block]; exact hn623_0) | (show (Addr.add _ _).block ≠ _; rw [add_block]; exact hn623_0) | exact hn623_0) (.int .i64 ((rd_T59 t614 x28_2).f0))).trans hx623_0; replace hx623_1 := (cell_far (p := ⟨gb622, 0, none⟩) (by first | (rw [add_block]; exact hn623_0) | (show (Addr.add _ _).block ≠ _; rw [add_block]; exact hn623_0) | exact hn623_0) (.int .i64 ((rd_T59 t614 x28_2).f0))).trans hx623_1; replace hx623_2 := (cell_far (p := ⟨gb622, 0, none⟩) (by first | (rw [add_block]; exact hn623_0) | (show (Addr.add _ _).block ≠ _; rw [add_block]; exact hn623_0) | exact hn623_0) (.int .i64 ((rd_T59 t614 x28_2).f0))).trans hx623_2; replace hx623_0 := (cell_far (p := ⟨gb622, 1, none⟩) (by first | (rw [add_block]; exact hn623_1) | (show (Addr.add _ _).block ≠ _; rw [add_block]; exact hn623_1) | exact hn623_1) (.int .i64 ((rd_T59 t614 x28_2).f1))).trans hx623_0; replace hx623_1 := (cell_far (p := ⟨gb622, 1, none⟩) (by first | (rw [add_block]; exact hn623_1) | (show (Addr.add _ _).block ≠ _; rw [add_block]; exact hn623_1) | exact hn623_1) (.int .i64 ((rd_T59 t614 x28_2).f1))).trans hx623_1; replace hx623_2 := (cell_far (p := ⟨gb622, 1, none⟩) (by first | (rw [add_block]; exact hn623_1) | (show (Addr.add _ _).block ≠ _; rw [add_block]; exact hn623_1) | exact hn623_1) (.int .i64 ((rd_T59 t614 x28_2).f1))).trans hx623_2; replace hx623_0 := (cell_far (p := ⟨gb622, 2, none⟩) (by first | (rw [add_block]; exact hn623_2) | (show (Addr.add _ _).block ≠ _; rw [add_block]; exact hn623_2) | exact hn623_2) (.int .i64 ((rd_T59 t614 x28_2).f2))).trans hx623_0; replace hx623_1 := (cell_far (p := ⟨gb622, 2, none⟩) (by first | (rw [add_block]; exact hn623_2) | (show (Addr.add _ _).block ≠ _; rw [add_block]; exact hn623_2) | exact hn623_2) (.int .i64 ((rd_T59 t614 x28_2).f2))).trans hx623_1; replace hx623_2 := (cell_far (p := ⟨gb622, 2, none⟩) (by first | (rw [add_block]; exact hn623_2) | (show (Addr.add _ _).block ≠ _; rw [add_block]; exact hn623_2) | exact hn623_2) (.int .i64 ((rd_T59 t614 x28_2).f2))).trans hx623_2; (try have hy623_0 := fun (n_ : Nat) => (show (((((w19.drewN n_).setCell ⟨gb622, 0, none⟩ (.int .i64 ((rd_T59 t614 x28_2).f0))).setCell ⟨gb622, 1, none⟩ (.int .i64 ((rd_T59 t614 x28_2).f1))).setCell ⟨gb622, 2, none⟩ (.int .i64 ((rd_T59 t614 x28_2).f2)))).cell? _ = some _ from hx623_0)); (try have hy623_1 := fun (n_ : Nat) => (show (((((w19.drewN n_).setCell ⟨gb622, 0, none⟩ (.int .i64 ((rd_T59 t614 x28_2).f0))).setCell ⟨gb622, 1, none⟩ (.int .i64 ((rd_T59 t614 x28_2).f1))).setCell ⟨gb622, 2, none⟩ (.int .i64 ((rd_T59 t614 x28_2).f2)))).cell? _ = some _ from hx623_1)); (try have hy623_2 := fun (n_ : Nat) => (show (((((w19.drewN n_).setCell ⟨gb622, 0, none⟩ (.int .i64 ((rd_T59 t614 x28_2).f0))).setCell ⟨gb622, 1, none⟩ (.int .i64 ((rd_T59 t614 x28_2).f1))).setCell ⟨gb622, 2, none⟩ (.int .i64 ((rd_T59 t614 x28_2).f2)))).cell? _ = some _ from hx623_2)); clear hn623_0; clear hn623_1; clear hn623_2; replace p623 := eq_true p623; replace q623 := eq_true q623))
                        repeat (go_quiet (first | ((with_reducible refine gate_dst (N := 10) rfl ?_); refine box_event ?hg (N := 10) ?hd (cs := #[.int .i64 0, .int .i64 0, .int .i64 0]) (t := 59) ?hr ?_; (case hd => rfl); (case hg => rfl); (case hr => first | (go_simp; done) | (go_simp; rfl)); intro gb622 hg w19 hbox hb; have n0_ := Aside0.mk (Kd.V_below (Kd.V_elderB (by (with_reducible repeat (first | apply Kd.V_alloc | apply Kd.V_drewN | apply Kd.V_drew)); exact HO_0.out) gb622 (Nat.le_of_eq hg.symm)) hb); have n1_ := Aside0.mk (Kd.R_below (Kd.R_elderB (by (with_reducible repeat (first | apply Kd.R_alloc | apply Kd.R_drewN | apply Kd.R_drew)); exact HO_5.out) gb622 (Nat.le_of_eq hg.symm)) hb); have n2_ := Aside0.mk (Kd.R_below (Kd.R_elderB (by (with_reducible repeat (first | apply Kd.R_alloc | apply Kd.R_drewN | apply Kd.R_drew)); exact HO_26.out) gb622 (Nat.le_of_eq hg.symm)) hb); have n3_ := Aside0.mk (below_step (by repeat (first | (with_reducible first | exact HB.out | apply below_alloc | apply pw_below_drewN | apply below_drew1) | exact HB.out)) hb); have n4_ := Aside0.mk (hbox); have n5_ := Aside0.mk ((by rw [hg]; exact (below_size (by repeat (first | (with_reducible first | exact HB.out | apply below_alloc | apply pw_below_drewN | apply below_drew1) | exact HB.out))) : w.heap.size ≤ gb622)); have n6_ := Aside0.mk ((by rw [hg]; exact (below_size (by repeat (first | (with_reducible first | exact HB.out | apply below_alloc | apply pw_below_drewN | apply below_drew1) | exact HB.out))) : w.heap.size ≤ gb622)); clear HO_0; clear HO_5; clear HO_26; clear HB; have HO_0 := n0_; have HO_5 := n1_; have HO_26 := n2_; have HB := n3_; have BK622 := n4_; have GW622 := n5_; have GE622 := n6_; clear n0_ n1_ n2_ n3_ n4_ n5_ n6_; clear hb hbox hg; have hcz20_0 : w19.cell? ⟨gb622, 0, none⟩ = some (.int .i64 0) := (blk_cell BK622.out 0).trans rfl; have hcz20_1 : w19.cell? ⟨gb622, 1, none⟩ = some (.int .i64 0) := (blk_cell BK622.out 1).trans rfl; have hcz20_2 : w19.cell? ⟨gb622, 2, none⟩ = some (.int .i64 0) := (blk_cell BK622.out 2).trans rfl; have hfz20_0 := blk_frozen BK622.out 0; have hfz20_1 := blk_frozen BK622.out 1; have hfz20_2 := blk_frozen BK622.out 2; have p623 : 0 ≤ (x28_2 : Int) := of_decide_eq_true (by first | (with_reducible assumption) | assumption); have q623 : x28_2 < (x0_1.length : Int) := of_decide_eq_true (by first | (with_reducible assumption) | assumption); obtain ⟨ad623, e623, hx623_0, hx623_1, hx623_2⟩ := at_T59 (Kd.V_reads' HO_0.out).2.2 x28_2 p623 q623; cases e623; have hn623_0 : ad623.block ≠ gb622 := V_apart_t (by decide) HO_0.out _ p623 q623 (fun h_ => h_.2 rfl); have hn623_1 : ad623.block ≠ gb622 := V_apart_t (by decide) HO_0.out _ p623 q623 (fun h_ => h_.2 rfl); have hn623_2 : ad623.block ≠ gb622 := V_apart_t (by decide) HO_0.out _ p623 q623 (fun h_ => h_.2 rfl); replace hx623_0 := (cell_far (p := ⟨gb622, 0, none⟩) (by first | (rw [add_block]; exact hn623_0) | (show (Addr.add _ _).block ≠ _; rw [add_block]; exact hn623_0) | exact hn623_0) (.int .i64 ((rd_T59 t614 x28_2).f0))).trans hx623_0; replace hx623_1 := (cell_far (p := ⟨gb622, 0, none⟩) (by first | (rw [add_block]; exact hn623_0) | (show (Addr.add _ _).block ≠ _; rw [add_block]; exact hn623_0) | exact hn623_0) (.int .i64 ((rd_T59 t614 x28_2).f0))).trans hx623_1; replace hx623_2 := (cell_far (p := ⟨gb622, 0, none⟩) (by first | (rw [add_block]; exact hn623_0) | (show (Addr.add _ _).block ≠ _; rw [add_block]; exact hn623_0) | exact hn623_0) (.int .i64 ((rd_T59 t614 x28_2).f0))).trans hx623_2; replace hx623_0 := (cell_far (p := ⟨gb622, 1, none⟩) (by first | (rw [add_block]; exact hn623_1) | (show (Addr.add _ _).block ≠ _; rw [add_block]; exact hn623_1) | exact hn623_1) (.int .i64 ((rd_T59 t614 x28_2).f1))).trans hx623_0; replace hx623_1 := (cell_far (p := ⟨gb622, 1, none⟩) (by first | (rw [add_block]; exact hn623_1) | (show (Addr.add _ _).block ≠ _; rw [add_block]; exact hn623_1) | exact hn623_1) (.int .i64 ((rd_T59 t614 x28_2).f1))).trans hx623_1; replace hx623_2 := (cell_far (p := ⟨gb622, 1, none⟩) (by first | (rw [add_block]; exact hn623_1) | (show (Addr.add _ _).block ≠ _; rw [add_block]; exact hn623_1) | exact hn623_1) (.int .i64 ((rd_T59 t614 x28_2).f1))).trans hx623_2; replace hx623_0 := (cell_far (p := ⟨gb622, 2, none⟩) (by first | (rw [add_block]; exact hn623_2) | (show (Addr.add _ _).block ≠ _; rw [add_block]; exact hn623_2) | exact hn623_2) (.int .i64 ((rd_T59 t614 x28_2).f2))).trans hx623_0; replace hx623_1 := (cell_far (p := ⟨gb622, 2, none⟩) (by first | (rw [add_block]; exact hn623_2) | (show (Addr.add _ _).block ≠ _; rw [add_block]; exact hn623_2) | exact hn623_2) (.int .i64 ((rd_T59 t614 x28_2).f2))).trans hx623_1; replace hx623_2 := (cell_far (p := ⟨gb622, 2, none⟩) (by first | (rw [add_block]; exact hn623_2) | (show (Addr.add _ _).block ≠ _; rw [add_block]; exact hn623_2) | exact hn623_2) (.int .i64 ((rd_T59 t614 x28_2).f2))).trans hx623_2; (try have hy623_0 := fun (n_ : Nat) => (show (((((w19.drewN n_).setCell ⟨gb622, 0, none⟩ (.int .i64 ((rd_T59 t614 x28_2).f0))).setCell ⟨gb622, 1, none⟩ (.int .i64 ((rd_T59 t614 x28_2).f1))).setCell ⟨gb622, 2, none⟩ (.int .i64 ((rd_T59 t614 x28_2).f2)))).cell? _ = some _ from hx623_0)); (try have hy623_1 := fun (n_ : Nat) => (show (((((w19.drewN n_).setCell ⟨gb622, 0, none⟩ (.int .i64 ((rd_T59 t614 x28_2).f0))).setCell ⟨gb622, 1, none⟩ (.int .i64 ((rd_T59 t614 x28_2).f1))).setCell ⟨gb622, 2, none⟩ (.int .i64 ((rd_T59 t614 x28_2).f2)))).cell? _ = some _ from hx623_1)); (try have hy623_2 := fun (n_ : Nat) => (show (((((w19.drewN n_).setCell ⟨gb622, 0, none⟩ (.int .i64 ((rd_T59 t614 x28_2).f0))).setCell ⟨gb622, 1, none⟩ (.int .i64 ((rd_T59 t614 x28_2).f1))).setCell ⟨gb622, 2, none⟩ (.int .i64 ((rd_T59 t614 x28_2).f2)))).cell? _ = some _ from hx623_2)); clear hn623_0; clear hn623_1; clear hn623_2; replace p623 := eq_true p623; replace q623 := eq_true q623)); try go_wp2_with (first | ((with_reducible refine gate_dst (N := 10) rfl ?_); refine box_event ?hg (N := 10) ?hd (cs := #[.int .i64 0, .int .i64 0, .int .i64 0]) (t := 59) ?hr ?_; (case hd => rfl); (case hg => rfl); (case hr => first | (go_simp; done) | (go_simp; rfl)); intro gb622 hg w19 hbox hb; have n0_ := Aside0.mk (Kd.V_below (Kd.V_elderB (by (with_reducible repeat (first | apply Kd.V_alloc | apply Kd.V_drewN | apply Kd.V_drew)); exact HO_0.out) gb622 (Nat.le_of_eq hg.symm)) hb); have n1_ := Aside0.mk (Kd.R_below (Kd.R_elderB (by (with_reducible repeat (first | apply Kd.R_alloc | apply Kd.R_drewN | apply Kd.R_drew)); exact HO_5.out) gb622 (Nat.le_of_eq hg.symm)) hb); have n2_ := Aside0.mk (Kd.R_below (Kd.R_elderB (by (with_reducible repeat (first | apply Kd.R_alloc | apply Kd.R_drewN | apply Kd.R_drew)); exact HO_26.out) gb622 (Nat.le_of_eq hg.symm)) hb); have n3_ := Aside0.mk (below_step (by repeat (first | (with_reducible first | exact HB.out | apply below_alloc | apply pw_below_drewN | apply below_drew1) | exact HB.out)) hb); have n4_ := Aside0.mk (hbox); have n5_ := Aside0.mk ((by rw [hg]; exact (below_size (by repeat (first | (with_reducible first | exact HB.out | apply below_alloc | apply pw_below_drewN | apply below_drew1) | exact HB.out))) : w.heap.size ≤ gb622)); have n6_ := Aside0.mk ((by rw [hg]; exact (below_size (by repeat (first | (with_reducible first | exact HB.out | apply below_alloc | apply pw_below_drewN | apply below_drew1) | exact HB.out))) : w.heap.size ≤ gb622)); clear HO_0; clear HO_5; clear HO_26; clear HB; have HO_0 := n0_; have HO_5 := n1_; have HO_26 := n2_; have HB := n3_; have BK622 := n4_; have GW622 := n5_; have GE622 := n6_; clear n0_ n1_ n2_ n3_ n4_ n5_ n6_; clear hb hbox hg; have hcz20_0 : w19.cell? ⟨gb622, 0, none⟩ = some (.int .i64 0) := (blk_cell BK622.out 0).trans rfl; have hcz20_1 : w19.cell? ⟨gb622, 1, none⟩ = some (.int .i64 0) := (blk_cell BK622.out 1).trans rfl; have hcz20_2 : w19.cell? ⟨gb622, 2, none⟩ = some (.int .i64 0) := (blk_cell BK622.out 2).trans rfl; have hfz20_0 := blk_frozen BK622.out 0; have hfz20_1 := blk_frozen BK622.out 1; have hfz20_2 := blk_frozen BK622.out 2; have p623 : 0 ≤ (x28_2 : Int) := of_decide_eq_true (by first | (with_reducible assumption) | assumption); have q623 : x28_2 < (x0_1.length : Int) := of_decide_eq_true (by first | (with_reducible assumption) | assumption); obtain ⟨ad623, e623, hx623_0, hx623_1, hx623_2⟩ := at_T59 (Kd.V_reads' HO_0.out).2.2 x28_2 p623 q623; cases e623; have hn623_0 : ad623.block ≠ gb622 := V_apart_t (by decide) HO_0.out _ p623 q623 (fun h_ => h_.2 rfl); have hn623_1 : ad623.block ≠ gb622 := V_apart_t (by decide) HO_0.out _ p623 q623 (fun h_ => h_.2 rfl); have hn623_2 : ad623.block ≠ gb622 := V_apart_t (by decide) HO_0.out _ p623 q623 (fun h_ => h_.2 rfl); replace hx623_0 := (cell_far (p := ⟨gb622, 0, none⟩) (by first | (rw [add_block]; exact hn623_0) | (show (Addr.add _ _).block ≠ _; rw [add_block]; exact hn623_0) | exact hn623_0) (.int .i64 ((rd_T59 t614 x28_2).f0))).trans hx623_0; replace hx623_1 := (cell_far (p := ⟨gb622, 0, none⟩) (by first | (rw [add_block]; exact hn623_0) | (show (Addr.add _ _).block ≠ _; rw [add_block]; exact hn623_0) | exact hn623_0) (.int .i64 ((rd_T59 t614 x28_2).f0))).trans hx623_1; replace hx623_2 := (cell_far (p := ⟨gb622, 0, none⟩) (by first | (rw [add_block]; exact hn623_0) | (show (Addr.add _ _).block ≠ _; rw [add_block]; exact hn623_0) | exact hn623_0) (.int .i64 ((rd_T59 t614 x28_2).f0))).trans hx623_2; replace hx623_0 := (cell_far (p := ⟨gb622, 1, none⟩) (by first | (rw [add_block]; exact hn623_1) | (show (Addr.add _ _).block ≠ _; rw [add_block]; exact hn623_1) | exact hn623_1) (.int .i64 ((rd_T59 t614 x28_2).f1))).trans hx623_0; replace hx623_1 := (cell_far (p := ⟨gb622, 1, none⟩) (by first | (rw [add_block]; exact hn623_1) | (show (Addr.add _ _).block ≠ _; rw [add_block]; exact hn623_1) | exact hn623_1) (.int .i64 ((rd_T59 t614 x28_2).f1))).trans hx623_1; replace hx623_2 := (cell_far (p := ⟨gb622, 1, none⟩) (by first | (rw [add_block]; exact hn623_1) | (show (Addr.add _ _).block ≠ _; rw [add_block]; exact hn623_1) | exact hn623_1) (.int .i64 ((rd_T59 t614 x28_2).f1))).trans hx623_2; replace hx623_0 := (cell_far (p := ⟨gb622, 2, none⟩) (by first | (rw [add_block]; exact hn623_2) | (show (Addr.add _ _).block ≠ _; rw [add_block]; exact hn623_2) | exact hn623_2) (.int .i64 ((rd_T59 t614 x28_2).f2))).trans hx623_0; replace hx623_1 := (cell_far (p := ⟨gb622, 2, none⟩) (by first | (rw [add_block]; exact hn623_2) | (show (Addr.add _ _).block ≠ _; rw [add_block]; exact hn623_2) | exact hn623_2) (.int .i64 ((rd_T59 t614 x28_2).f2))).trans hx623_1; replace hx623_2 := (cell_far (p := ⟨gb622, 2, none⟩) (by first | (rw [add_block]; exact hn623_2) | (show (Addr.add _ _).block ≠ _; rw [add_block]; exact hn623_2) | exact hn623_2) (.int .i64 ((rd_T59 t614 x28_2).f2))).trans hx623_2; (try have hy623_0 := fun (n_ : Nat) => (show (((((w19.drewN n_).setCell ⟨gb622, 0, none⟩ (.int .i64 ((rd_T59 t614 x28_2).f0))).setCell ⟨gb622, 1, none⟩ (.int .i64 ((rd_T59 t614 x28_2).f1))).setCell ⟨gb622, 2, none⟩ (.int .i64 ((rd_T59 t614 x28_2).f2)))).cell? _ = some _ from hx623_0)); (try have hy623_1 := fun (n_ : Nat) => (show (((((w19.drewN n_).setCell ⟨gb622, 0, none⟩ (.int .i64 ((rd_T59 t614 x28_2).f0))).setCell ⟨gb622, 1, none⟩ (.int .i64 ((rd_T59 t614 x28_2).f1))).setCell ⟨gb622, 2, none⟩ (.int .i64 ((rd_T59 t614 x28_2).f2)))).cell? _ = some _ from hx623_1)); (try have hy623_2 := fun (n_ : Nat) => (show (((((w19.drewN n_).setCell ⟨gb622, 0, none⟩ (.int .i64 ((rd_T59 t614 x28_2).f0))).setCell ⟨gb622, 1, none⟩ (.int .i64 ((rd_T59 t614 x28_2).f1))).setCell ⟨gb622, 2, none⟩ (.int .i64 ((rd_T59 t614 x28_2).f2)))).cell? _ = some _ from hx623_2)); clear hn623_0; clear hn623_1; clear hn623_2; replace p623 := eq_true p623; replace q623 := eq_true q623)))
                        go_roundg k2
                        case measure => have := HK1.out; have := HK2.out; omega
                        case rel => exact ⟨((((rd_T59 t614 x28_2).f0) == ((rd_T59 x0_1 x28_2).f0) && (((rd_T59 t614 x28_2).f1) == ((rd_T59 x0_1 x28_2).f1) && (((rd_T59 t614 x28_2).f2) == ((rd_T59 x0_1 x28_2).f2))))), (wrap64 (x28_2 + 1)), (by first | rfl | (simp; done) | (simp [*]; done)), (by first | rfl | (simp; done) | (simp [*]; done)), H', ⟨by have := HK1.out; have := HK2.out; omega⟩, ⟨by (with_reducible repeat (first | apply Kd.V_alloc | apply Kd.V_drewN | apply Kd.V_drew)); exact Kd.V_mono (Kd.V_far (p := ⟨gb622, 2, none⟩) (Kd.V_far (p := ⟨gb622, 1, none⟩) (Kd.V_far (p := ⟨gb622, 0, none⟩) (Kd.V_mono HO_0.out (fun k_ hk => (⟨hk, hk.2⟩ : _ ∧ k_ ≠ gb622))) (fun _ hk => hk.2) (.int .i64 ((rd_T59 t614 x28_2).f0))) (fun _ hk => hk.2) (.int .i64 ((rd_T59 t614 x28_2).f1))) (fun _ hk => hk.2) (.int .i64 ((rd_T59 t614 x28_2).f2))) (fun _ hk => ⟨hk.1.1.1, ⟨hk.1.1.2.1, hk.1.1.2.2⟩⟩)⟩, ⟨by (with_reducible repeat (first | apply Kd.R_alloc | apply Kd.R_drewN | apply Kd.R_drew)); exact Kd.R_mono (Kd.R_far (p := ⟨gb622, 2, none⟩) (Kd.R_far (p := ⟨gb622, 1, none⟩) (Kd.R_far (p := ⟨gb622, 0, none⟩) (Kd.R_mono HO_5.out (fun k_ hk => (⟨hk, hk.2⟩ : _ ∧ k_ ≠ gb622))) (fun _ hk => hk.2) (.int .i64 ((rd_T59 t614 x28_2).f0))) (fun _ hk => hk.2) (.int .i64 ((rd_T59 t614 x28_2).f1))) (fun _ hk => hk.2) (.int .i64 ((rd_T59 t614 x28_2).f2))) (fun _ hk => hk.1.1)⟩, ⟨by (with_reducible repeat (first | apply Kd.R_alloc | apply Kd.R_drewN | apply Kd.R_drew)); exact Kd.R_mono (Kd.R_far (p := ⟨gb622, 2, none⟩) (Kd.R_far (p := ⟨gb622, 1, none⟩) (Kd.R_far (p := ⟨gb622, 0, none⟩) (Kd.R_mono HO_26.out (fun k_ hk => (⟨hk, hk.2⟩ : _ ∧ k_ ≠ gb622))) (fun _ hk => hk.2) (.int .i64 ((rd_T59 t614 x28_2).f0))) (fun _ hk => hk.2) (.int .i64 ((rd_T59 t614 x28_2).f1))) (fun _ hk => hk.2) (.int .i64 ((rd_T59 t614 x28_2).f2))) (fun _ hk => hk.1.1)⟩, ⟨by repeat (first | (with_reducible first | exact HB.out | apply below_alloc | apply pw_below_drewN | apply below_drew1 | refine below_set ?_ GE622.out) | exact HB.out)⟩⟩
                      · rw [if_neg c18] at H
                        exact absurd H (by simp)
                    · replace c17 := Bool.eq_false_iff.mpr c17
                      subst c17
                      have H1 : (spec_TicksToEmpty.l1 k2 x0_1 x4_1 t614 false t614 (t614.length : Int) (wrap64 (x28_2 + 1))) = some (r1, r2) := by rw [if_neg (show ¬ (false = true) by decide)] at H; exact H
                      clear H
                      have H := H1
                      clear H1
                      have H' := Aside0.mk H
                      clear H
                      have p621 : 0 ≤ (x28_2 : Int) := of_decide_eq_true (by first | (with_reducible assumption) | assumption)
                      have q621 : x28_2 < (t614.length : Int) := of_decide_eq_true (by first | (with_reducible assumption) | assumption)
                      obtain ⟨ad621, e621, hx621_0, hx621_1, hx621_2⟩ := at_T59 (Kd.R_reads' HO_26.out).2.2 x28_2 p621 q621
                      cases e621
                      replace p621 := eq_true p621
                      replace q621 := eq_true q621
                      go_wp2_with (first | ((with_reducible refine gate_dst (N := 10) rfl ?_); refine box_event ?hg (N := 10) ?hd (cs := #[.int .i64 0, .int .i64 0, .int .i64 0]) (t := 59) ?hr ?_; (case hd => rfl); (case hg => rfl); (case hr => first | (go_simp; done) | (go_simp; rfl)); intro gb622 hg w21 hbox hb; have n0_ := Aside0.mk (Kd.V_below (Kd.V_elderB (by (with_reducible repeat (first | apply Kd.V_alloc | apply Kd.V_drewN | apply Kd.V_drew)); exact HO_0.out) gb622 (Nat.le_of_eq hg.symm)) hb); have n1_ := Aside0.mk (Kd.R_below (Kd.R_elderB (by (with_reducible repeat (first | apply Kd.R_alloc | apply Kd.R_drewN | apply Kd.R_drew)); exact HO_5.out) gb622 (Nat.le_of_eq hg.symm)) hb); have n2_ := Aside0.mk (Kd.R_below (Kd.R_elderB (by (with_reducible repeat (first | apply Kd.R_alloc | apply Kd.R_drewN | apply Kd.R_drew)); exact HO_26.out) gb622 (Nat.le_of_eq hg.symm)) hb); have n3_ := Aside0.mk (below_step (by repeat (first | (with_reducible first | exact HB.out | apply below_alloc | apply pw_below_drewN | apply below_drew1) | exact HB.out)) hb); have n4_ := Aside0.mk (hbox); have n5_ := Aside0.mk ((by rw [hg]; exact (below_size (by repeat (first | (with_reducible first | exact HB.out | apply below_alloc | apply pw_below_drewN | apply below_drew1) | exact HB.out))) : w.heap.size ≤ gb622)); have n6_ := Aside0.mk ((by rw [hg]; exact (below_size (by repeat (first | (with_reducible first | exact HB.out | apply below_alloc | apply pw_below_drewN | apply below_drew1) | exact HB.out))) : w.heap.size ≤ gb622)); clear HO_0; clear HO_5; clear HO_26; clear HB; have HO_0 := n0_; have HO_5 := n1_; have HO_26 := n2_; have HB := n3_; have BK622 := n4_; have GW622 := n5_; have GE622 := n6_; clear n0_ n1_ n2_ n3_ n4_ n5_ n6_; clear hb hbox hg; have hcz22_0 : w21.cell? ⟨gb622, 0, none⟩ = some (.int .i64 0) := (blk_cell BK622.out 0).trans rfl; have hcz22_1 : w21.cell? ⟨gb622, 1, none⟩ = some (.int .i64 0) := (blk_cell BK622.out 1).trans rfl; have hcz22_2 : w21.cell? ⟨gb622, 2, none⟩ = some (.int .i64 0) := (blk_cell BK622.out 2).trans rfl; have hfz22_0 := blk_frozen BK622.out 0; have hfz22_1 := blk_frozen BK622.out 1; have hfz22_2 := blk_frozen BK622.out 2))
                      repeat (go_quiet (first | ((with_reducible refine gate_dst (N := 10) rfl ?_); refine box_event ?hg (N := 10) ?hd (cs := #[.int .i64 0, .int .i64 0, .int .i64 0]) (t := 59) ?hr ?_; (case hd => rfl); (case hg => rfl); (case hr => first | (go_simp; done) | (go_simp; rfl)); intro gb622 hg w21 hbox hb; have n0_ := Aside0.mk (Kd.V_below (Kd.V_elderB (by (with_reducible repeat (first | apply Kd.V_alloc | apply Kd.V_drewN | apply Kd.V_drew)); exact HO_0.out) gb622 (Nat.le_of_eq hg.symm)) hb); have n1_ := Aside0.mk (Kd.R_below (Kd.R_elderB (by (with_reducible repeat (first | apply Kd.R_alloc | apply Kd.R_drewN | apply Kd.R_drew)); exact HO_5.out) gb622 (Nat.le_of_eq hg.symm)) hb); have n2_ := Aside0.mk (Kd.R_below (Kd.R_elderB (by (with_reducible repeat (first | apply Kd.R_alloc | apply Kd.R_drewN | apply Kd.R_drew)); exact HO_26.out) gb622 (Nat.le_of_eq hg.symm)) hb); have n3_ := Aside0.mk (below_step (by repeat (first | (with_reducible first | exact HB.out | apply below_alloc | apply pw_below_drewN | apply below_drew1) | exact HB.out)) hb); have n4_ := Aside0.mk (hbox); have n5_ := Aside0.mk ((by rw [hg]; exact (below_size (by repeat (first | (with_reducible first | exact HB.out | apply below_alloc | apply pw_below_drewN | apply below_drew1) | exact HB.out))) : w.heap.size ≤ gb622)); have n6_ := Aside0.mk ((by rw [hg]; exact (below_size (by repeat (first | (with_reducible first | exact HB.out | apply below_alloc | apply pw_below_drewN | apply below_drew1) | exact HB.out))) : w.heap.size ≤ gb622)); clear HO_0; clear HO_5; clear HO_26; clear HB; have HO_0 := n0_; have HO_5 := n1_; have HO_26 := n2_; have HB := n3_; have BK622 := n4_; have GW622 := n5_; have GE622 := n6_; clear n0_ n1_ n2_ n3_ n4_ n5_ n6_; clear hb hbox hg; have hcz22_0 : w21.cell? ⟨gb622, 0, none⟩ = some (.int .i64 0) := (blk_cell BK622.out 0).trans rfl; have hcz22_1 : w21.cell? ⟨gb622, 1, none⟩ = some (.int .i64 0) := (blk_cell BK622.out 1).trans rfl; have hcz22_2 : w21.cell? ⟨gb622, 2, none⟩ = some (.int .i64 0) := (blk_cell BK622.out 2).trans rfl; have hfz22_0 := blk_frozen BK622.out 0; have hfz22_1 := blk_frozen BK622.out 1; have hfz22_2 := blk_frozen BK622.out 2)); try go_wp2_with (first | ((with_reducible refine gate_dst (N := 10) rfl ?_); refine box_event ?hg (N := 10) ?hd (cs := #[.int .i64 0, .int .i64 0, .int .i64 0]) (t := 59) ?hr ?_; (case hd => rfl); (case hg => rfl); (case hr => first | (go_simp; done) | (go_simp; rfl)); intro gb622 hg w21 hbox hb; have n0_ := Aside0.mk (Kd.V_below (Kd.V_elderB (by (with_reducible repeat (first | apply Kd.V_alloc | apply Kd.V_drewN | apply Kd.V_drew)); exact HO_0.out) gb622 (Nat.le_of_eq hg.symm)) hb); have n1_ := Aside0.mk (Kd.R_below (Kd.R_elderB (by (with_reducible repeat (first | apply Kd.R_alloc | apply Kd.R_drewN | apply Kd.R_drew)); exact HO_5.out) gb622 (Nat.le_of_eq hg.symm)) hb); have n2_ := Aside0.mk (Kd.R_below (Kd.R_elderB (by (with_reducible repeat (first | apply Kd.R_alloc | apply Kd.R_drewN | apply Kd.R_drew)); exact HO_26.out) gb622 (Nat.le_of_eq hg.symm)) hb); have n3_ := Aside0.mk (below_step (by repeat (first | (with_reducible first | exact HB.out | apply below_alloc | apply pw_below_drewN | apply below_drew1) | exact HB.out)) hb); have n4_ := Aside0.mk (hbox); have n5_ := Aside0.mk ((by rw [hg]; exact (below_size (by repeat (first | (with_reducible first | exact HB.out | apply below_alloc | apply pw_below_drewN | apply below_drew1) | exact HB.out))) : w.heap.size ≤ gb622)); have n6_ := Aside0.mk ((by rw [hg]; exact (below_size (by repeat (first | (with_reducible first | exact HB.out | apply below_alloc | apply pw_below_drewN | apply below_drew1) | exact HB.out))) : w.heap.size ≤ gb622)); clear HO_0; clear HO_5; clear HO_26; clear HB; have HO_0 := n0_; have HO_5 := n1_; have HO_26 := n2_; have HB := n3_; have BK622 := n4_; have GW622 := n5_; have GE622 := n6_; clear n0_ n1_ n2_ n3_ n4_ n5_ n6_; clear hb hbox hg; have hcz22_0 : w21.cell? ⟨gb622, 0, none⟩ = some (.int .i64 0) := (blk_cell BK622.out 0).trans rfl; have hcz22_1 : w21.cell? ⟨gb622, 1, none⟩ = some (.int .i64 0) := (blk_cell BK622.out 1).trans rfl; have hcz22_2 : w21.cell? ⟨gb622, 2, none⟩ = some (.int .i64 0) := (blk_cell BK622.out 2).trans rfl; have hfz22_0 := blk_frozen BK622.out 0; have hfz22_1 := blk_frozen BK622.out 1; have hfz22_2 := blk_frozen BK622.out 2)))
                      go_roundg k2
                      case measure => have := HK1.out; have := HK2.out; omega
                      case rel => exact ⟨(false), (wrap64 (x28_2 + 1)), (by first | rfl | (simp; done) | (simp [*]; done)), (by first | rfl | (simp; done) | (simp [*]; done)), H', ⟨by have := HK1.out; have := HK2.out; omega⟩, ⟨by (with_reducible repeat (first | apply Kd.V_alloc | apply Kd.V_drewN | apply Kd.V_drew)); exact Kd.V_mono (Kd.V_far (p := ⟨gb622, 2, none⟩) (Kd.V_far (p := ⟨gb622, 1, none⟩) (Kd.V_far (p := ⟨gb622, 0, none⟩) (Kd.V_mono HO_0.out (fun k_ hk => (⟨hk, hk.2⟩ : _ ∧ k_ ≠ gb622))) (fun _ hk => hk.2) (.int .i64 ((rd_T59 t614 x28_2).f0))) (fun _ hk => hk.2) (.int .i64 ((rd_T59 t614 x28_2).f1))) (fun _ hk => hk.2) (.int .i64 ((rd_T59 t614 x28_2).f2))) (fun _ hk => ⟨hk.1.1.1, ⟨hk.1.1.2.1, hk.1.1.2.2⟩⟩)⟩, ⟨by (with_reducible repeat (first | apply Kd.R_alloc | apply Kd.R_drewN | apply Kd.R_drew)); exact Kd.R_mono (Kd.R_far (p := ⟨gb622, 2, none⟩) (Kd.R_far (p := ⟨gb622, 1, none⟩) (Kd.R_far (p := ⟨gb622, 0, none⟩) (Kd.R_mono HO_5.out (fun k_ hk => (⟨hk, hk.2⟩ : _ ∧ k_ ≠ gb622))) (fun _ hk => hk.2) (.int .i64 ((rd_T59 t614 x28_2).f0))) (fun _ hk => hk.2) (.int .i64 ((rd_T59 t614 x28_2).f1))) (fun _ hk => hk.2) (.int .i64 ((rd_T59 t614 x28_2).f2))) (fun _ hk => hk.1.1)⟩, ⟨by (with_reducible repeat (first | apply Kd.R_alloc | apply Kd.R_drewN | apply Kd.R_drew)); exact Kd.R_mono (Kd.R_far (p := ⟨gb622, 2, none⟩) (Kd.R_far (p := ⟨gb622, 1, none⟩) (Kd.R_far (p := ⟨gb622, 0, none⟩) (Kd.R_mono HO_26.out (fun k_ hk => (⟨hk, hk.2⟩ : _ ∧ k_ ≠ gb622))) (fun _ hk => hk.2) (.int .i64 ((rd_T59 t614 x28_2).f0))) (fun _ hk => hk.2) (.int .i64 ((rd_T59 t614 x28_2).f1))) (fun _ hk => hk.2) (.int .i64 ((rd_T59 t614 x28_2).f2))) (fun _ hk => hk.1.1)⟩, ⟨by repeat (first | (with_reducible first | exact HB.out | apply below_alloc | apply pw_below_drewN | apply below_drew1 | refine below_set ?_ GE622.out) | exact HB.out)⟩⟩
                  · rw [if_neg c16] at H
                    exact absurd H (by simp)
                · rw [if_neg c15] at H
                  exact absurd H (by simp)
              · rw [if_neg c14] at H
                have c14b0 : decide (x28_2 < (t614.length : Int)) = false := decide_eq_false c14
                clear c14
                by_cases c23 : x8_2 = true
                · subst c23
                  have H1 : (some (0, false)) = some (r1, r2) := by rw [if_pos rfl] at H; exact H
                  clear H
                  have H := H1
                  clear H1
                  simp only [Option.some.injEq, Prod.mk.injEq] at H
                  obtain ⟨rfl, rfl⟩ := H
                  go_wp2
                  repeat (go_quiet (fail); try go_wp2)
                  go_ret2
                  exact ⟨by first | rfl | (simp [errW_none, errW_some] <;> rfl) | (simp [*, errW_none, errW_some] <;> rfl), by repeat (first | (with_reducible first | exact HB.out | apply below_alloc | apply pw_below_drewN | apply below_drew1) | exact HB.out)⟩
                · replace c23 := Bool.eq_false_iff.mpr c23
                  subst c23
                  have H1 : (spec_TicksToEmpty.l0 k2 t614 (wrap64 (x4_1 + 1))) = some (r1, r2) := by rw [if_neg (show ¬ (false = true) by decide)] at H; exact H
                  clear H
                  have H := H1
                  clear H1
                  have H' := Aside0.mk H
                  clear H
                  go_wp2
                  repeat (go_quiet (fail); try go_wp2)
                  go_roundg k2
                  case measure => have := HK1.out; have := HK2.out; omega
                  case rel => exact ⟨(t614), (wrap64 (x4_1 + 1)), (by first | rfl | (simp; done) | (simp [*]; done)), H', ⟨by have := HK1.out; have := HK2.out; omega⟩, ⟨Kd.V_mono (Kd.R_V (by (with_reducible repeat (first | apply Kd.R_alloc | apply Kd.R_drewN | apply Kd.R_drew)); exact HO_5.out)) (fun k_ hk => by first | exact ⟨(.inr (hk.1)), hk.2⟩ | exact (.inr (hk)))⟩, ⟨by repeat (first | (with_reducible first | exact HB.out | apply below_alloc | apply pw_below_drewN | apply below_drew1) | exact HB.out)⟩⟩
  · replace c3 := Bool.eq_false_iff.mpr c3
    subst c3
    have H1 : (some (0, false)) = some (r1, r2) := by rw [if_neg (show ¬ (false = true) by decide)] at H; exact H
    clear H
    have H := H1
    clear H1
    simp only [Option.some.injEq, Prod.mk.injEq] at H
    obtain ⟨rfl, rfl⟩ := H
    go_enter Try.func40, Try.ntmps40
    go_wp2_with (first | (go_at_call 62; (with_reducible refine (spec_weRow.calls k _ _ l0 false _ ?side1 ?side2 A2.out).mono ?_); (case side1 => repeat (first | exact (Kd.V_reads' HO0.out).2.2 | (with_reducible refine Kd.C_alloc ?_ _) | (with_reducible refine Kd.C_drewN ?_ _) | (with_reducible refine Kd.C_drew ?_))); (case side2 => exact (Kd.V_reads' HO0.out).2.1); rintro e w24 ⟨rfl, hb⟩; have n0_ := Aside0.mk (Kd.V_below (by (with_reducible repeat (first | apply Kd.V_alloc | apply Kd.V_drewN | apply Kd.V_drew)); exact HO0.out) hb); have n1_ := Aside0.mk (below_step (by repeat (first | (with_reducible first | exact HB.out | apply below_alloc | apply pw_below_drewN | apply below_drew1) | exact HB.out)) hb); clear HO0; clear HB; have HO0 := n0_; have HB := n1_; clear n0_ n1_; (try clear hb); (try clear hb2); (try clear hk); (try clear hi)))
    repeat (go_quiet (first | (go_at_call 62; (with_reducible refine (spec_weRow.calls k _ _ l0 false _ ?side1 ?side2 A2.out).mono ?_); (case side1 => repeat (first | exact (Kd.V_reads' HO0.out).2.2 | (with_reducible refine Kd.C_alloc ?_ _) | (with_reducible refine Kd.C_drewN ?_ _) | (with_reducible refine Kd.C_drew ?_))); (case side2 => exact (Kd.V_reads' HO0.out).2.1); rintro e w24 ⟨rfl, hb⟩; have n0_ := Aside0.mk (Kd.V_below (by (with_reducible repeat (first | apply Kd.V_alloc | apply Kd.V_drewN | apply Kd.V_drew)); exact HO0.out) hb); have n1_ := Aside0.mk (below_step (by repeat (first | (with_reducible first | exact HB.out | apply below_alloc | apply pw_below_drewN | apply below_drew1) | exact HB.out)) hb); clear HO0; clear HB; have HO0 := n0_; have HB := n1_; clear n0_ n1_; (try clear hb); (try clear hb2); (try clear hk); (try clear hi))); try go_wp2_with (first | (go_at_call 62; (with_reducible refine (spec_weRow.calls k _ _ l0 false _ ?side1 ?side2 A2.out).mono ?_); (case side1 => repeat (first | exact (Kd.V_reads' HO0.out).2.2 | (with_reducible refine Kd.C_alloc ?_ _) | (with_reducible refine Kd.C_drewN ?_ _) | (with_reducible refine Kd.C_drew ?_))); (case side2 => exact (Kd.V_reads' HO0.out).2.1); rintro e w24 ⟨rfl, hb⟩; have n0_ := Aside0.mk (Kd.V_below (by (with_reducible repeat (first | apply Kd.V_alloc | apply Kd.V_drewN | apply Kd.V_drew)); exact HO0.out) hb); have n1_ := Aside0.mk (below_step (by repeat (first | (with_reducible first | exact HB.out | apply below_alloc | apply pw_below_drewN | apply below_drew1) | exact HB.out)) hb); clear HO0; clear HB; have HO0 := n0_; have HB := n1_; clear n0_ n1_; (try clear hb); (try clear hb2); (try clear hk); (try clear hi))))
    go_ret2
    exact ⟨by first | rfl | (simp [errW_none, errW_some] <;> rfl) | (simp [*, errW_none, errW_some] <;> rfl), by repeat (first | (with_reducible first | exact HB.out | apply below_alloc | apply pw_below_drewN | apply below_drew1) | exact HB.out)⟩

/-! ### impl_TicksToEmpty: function 41 -/
mutual
def impl_TicksToEmpty.l0 : Nat → List (S59) → Bool → List (S59) → Int → Int → Option (Int × Bool)
  | 0, _, _, _, _, _ => none
  | k + 1, x0, x4, x11, x12, x13 => if x13 < x12 then (if 0 ≤ x13 then (if x13 < (x11.length : Int) then (if x4 = true then (if ((rd_T59 x11 x13).f1) = 0 then (some (0, false)) else (impl_TicksToEmpty.l0 k x0 true x11 x12 (wrap64 (x13 + 1)))) else (if ((rd_T59 x11 x13).f2) > 0 then (if ((rd_T59 x11 x13).f1) = 0 then (some (0, false)) else (impl_TicksToEmpty.l0 k x0 (decide (((rd_T59 x11 x13).f2) > 0)) x11 x12 (wrap64 (x13 + 1)))) else (impl_TicksToEmpty.l0 k x0 (decide (((rd_T59 x11 x13).f2) > 0)) x11 x12 (wrap64 (x13 + 1))))) else (none)) else (none)) else (impl_TicksToEmpty.l1 k x0 0)
def impl_TicksToEmpty.l1 : Nat → List (S59) → Int → Option (Int × Bool)
  | 0, _, _ => none
  | k + 1, x0, x7 => (impl_heldIn.f k x0).bind fun t627 => (if t627 > 0 then ((impl_tickRow.f k x0 0).bind fun bt628 => (impl_TicksToEmpty.l1 k bt628.1 (wrap64 (x7 + 1)))) else (some (x7, true)))
end
def impl_TicksToEmpty.f (k : Nat) (l0 : List (S59)) : Option (Int × Bool) := (impl_IsRow.f l0).bind fun t624 => (if t624 = true then (impl_TicksToEmpty.l0 k l0 false l0 (l0.length : Int) 0) else (some (0, false)))
theorem impl_TicksToEmpty.mono_l : ∀ k, (∀ y0 y1 y2 y3 y4, LeO (impl_TicksToEmpty.l0 k y0 y1 y2 y3 y4) (impl_TicksToEmpty.l0 (k + 1) y0 y1 y2 y3 y4)) ∧ (∀ y0 y1, LeO (impl_TicksToEmpty.l1 k y0 y1) (impl_TicksToEmpty.l1 (k + 1) y0 y1))
  | 0 => ⟨fun _ _ _ _ _ r h => by simp [impl_TicksToEmpty.l0] at h, fun _ _ r h => by simp [impl_TicksToEmpty.l1] at h⟩
  | k + 1 => by
    obtain ⟨ih0, ih1⟩ := impl_TicksToEmpty.mono_l k
    refine ⟨?_, ?_⟩
    · intro y0 y1 y2 y3 y4
      unfold impl_TicksToEmpty.l0
      repeat' first
      | (with_reducible exact ih0 _ _ _ _ _)
      | (with_reducible exact ih1 _ _)
      | (with_reducible exact impl_heldIn.mono _ _)
      | (with_reducible exact impl_tickRow.mono _ _ _)
      | (with_reducible exact LeO.refl _)
      | (with_reducible exact LeO.none _)
      | (with_reducible refine LeO.ite ?_ ?_)
      | (with_reducible refine LeO.bind ?_ (fun _ => ?_))
      | exact ih0 _ _ _ _ _
      | exact ih1 _ _
      | exact impl_heldIn.mono _ _
      | exact impl_tickRow.mono _ _ _
      | exact LeO.none _
      | refine LeO.ite ?_ ?_
      | refine LeO.bind ?_ (fun _ => ?_)
    · intro y0 y1
      unfold impl_TicksToEmpty.l1
      repeat' first
      | (with_reducible exact ih0 _ _ _ _ _)
      | (with_reducible exact ih1 _ _)
      | (with_reducible exact impl_heldIn.mono _ _)
      | (with_reducible exact impl_tickRow.mono _ _ _)
      | (with_reducible exact LeO.refl _)
      | (with_reducible exact LeO.none _)
      | (with_reducible refine LeO.ite ?_ ?_)
      | (with_reducible refine LeO.bind ?_ (fun _ => ?_))
      | exact ih0 _ _ _ _ _
      | exact ih1 _ _
      | exact impl_heldIn.mono _ _
      | exact impl_tickRow.mono _ _ _
      | exact LeO.none _
      | refine LeO.ite ?_ ?_
      | refine LeO.bind ?_ (fun _ => ?_)
theorem impl_TicksToEmpty.mono : ∀ a0 k, LeO (impl_TicksToEmpty.f k a0) (impl_TicksToEmpty.f (k + 1) a0) := by
  intro a0 k
  obtain ⟨ih0, ih1⟩ := impl_TicksToEmpty.mono_l k
  unfold impl_TicksToEmpty.f
  repeat' first
      | (with_reducible exact ih0 _ _ _ _ _)
      | (with_reducible exact ih1 _ _)
      | (with_reducible exact impl_heldIn.mono _ _)
      | (with_reducible exact impl_tickRow.mono _ _ _)
      | (with_reducible exact LeO.refl _)
      | (with_reducible exact LeO.none _)
      | (with_reducible refine LeO.ite ?_ ?_)
      | (with_reducible refine LeO.bind ?_ (fun _ => ?_))
      | exact ih0 _ _ _ _ _
      | exact ih1 _ _
      | exact impl_heldIn.mono _ _
      | exact impl_tickRow.mono _ _ _
      | exact LeO.none _
      | refine LeO.ite ?_ ?_
      | refine LeO.bind ?_ (fun _ => ?_)
set_option maxHeartbeats 8000000 in
set_option maxRecDepth 100000 in
theorem impl_TicksToEmpty.calls (k : Nat) (P0_ : Nat → Prop) (A0 : Option Addr) (c0 : Nat) (l0 : List (S59)) (r1 : Int) (r2 : Bool) (w : World) (hs0 : Kd.V k59 59 w w.heap.size (fun k_ => P0_ k_) (.slice A0 l0.length c0) l0) (h : impl_TicksToEmpty.f k l0 = some (r1, r2)) :
    Calls Try.prog 41 #[.slice A0 l0.length c0] w fun e w' => e = .returned (.tuple #[.int .i64 r1, .bool r2]) ∧ Below w.heap.size w w' := by
  have hu59 := Try.underlying59
  have HO0 := Aside0.mk (show Kd.V k59 59 w w.heap.size (fun k_ => (P0_ k_ ∨ w.heap.size ≤ k_)) (.slice A0 l0.length c0) l0 from Kd.V_mono hs0 (fun k_ hk => .inl hk))
  have HB := Aside0.mk (Below.refl w.heap.size w)
  have H : ((impl_IsRow.f l0).bind fun t624 => (if t624 = true then (impl_TicksToEmpty.l0 k l0 false l0 (l0.length : Int) 0) else (some (0, false)))) = some (r1, r2) := h
  clear h
  replace H := Option.bind_eq_some_iff.mp H
  obtain ⟨t624, A20, H⟩ := H
  replace H : (if t624 = true then (impl_TicksToEmpty.l0 k l0 false l0 (l0.length : Int) 0) else (some (0, false))) = some (r1, r2) := H
  have A2 := Aside0.mk A20
  clear A20
  by_cases c3 : t624 = true
  · subst c3
    have H1 : (impl_TicksToEmpty.l0 k l0 false l0 (l0.length : Int) 0) = some (r1, r2) := by rw [if_pos rfl] at H; exact H
    clear H
    have H := H1
    clear H1
    have H' := Aside0.mk H
    clear H
    go_enter Try.func41, Try.ntmps41
    go_wp2_with (first | ((with_reducible refine gate_callee (f := 26) rfl ?_); refine goesL_ (some 9) rfl rfl Try.func26 (by kernel_rfl) rfl #[.slice A0 l0.length c0] rfl (by (try simp only [List.map_toArray, List.map_cons, List.map_nil]); first | done | rfl | (simp only [List.length_drop, List.length_take]; rfl)) ?_; (with_reducible refine (impl_IsRow.calls _ _ l0 true _ ?side1 ?side2 A2.out).mono ?_); (case side1 => repeat (first | exact (Kd.V_reads' HO0.out).2.2 | (with_reducible refine Kd.C_alloc ?_ _) | (with_reducible refine Kd.C_drewN ?_ _) | (with_reducible refine Kd.C_drew ?_))); (case side2 => exact (Kd.V_reads' HO0.out).2.1); rintro e w4 ⟨rfl, hb⟩; refine ⟨_, rfl, ?_⟩; have n0_ := Aside0.mk (Kd.V_below (by (with_reducible repeat (first | apply Kd.V_alloc | apply Kd.V_drewN | apply Kd.V_drew)); exact HO0.out) hb); have n1_ := Aside0.mk (below_step (by repeat (first | (with_reducible first | exact HB.out | apply below_alloc | apply pw_below_drewN | apply below_drew1) | exact HB.out)) hb); clear HO0; clear HB; have HO0 := n0_; have HB := n1_; clear n0_ n1_; (try clear hb); (try clear hb2); (try clear hk); (try clear hi)))
    go_loopg [4, 13] k (fun kq v4 v13 w' => ∃ (x4_1 : Bool) (x13_1 : Int), v4 = .bool x4_1 ∧ v13 = .int .i64 x13_1 ∧ Aside0 (impl_TicksToEmpty.l0 kq l0 x4_1 l0 (l0.length : Int) x13_1 = some (r1, r2)) ∧ Aside0 (kq ≤ k) ∧ Aside0 (Kd.V k59 59 w' w.heap.size (fun k_ => (P0_ k_ ∨ w.heap.size ≤ k_)) (.slice A0 l0.length c0) l0) ∧ Aside0 (Kd.V k59 59 w' w.heap.size (fun k_ => (P0_ k_ ∨ w.heap.size ≤ k_)) (.slice A0 l0.length c0) l0) ∧ Aside0 (Below w.heap.size w w'))
    case atStart => exact ⟨(false), (0), (by first | rfl | (simp; done) | (simp [*]; done)), (by first | rfl | (simp; done) | (simp [*]; done)), H', ⟨Nat.le_refl _⟩, ⟨by (with_reducible repeat (first | apply Kd.V_alloc | apply Kd.V_drewN | apply Kd.V_drew)); exact HO0.out⟩, ⟨by (with_reducible repeat (first | apply Kd.V_alloc | apply Kd.V_drewN | apply Kd.V_drew)); exact HO0.out⟩, ⟨by repeat (first | (with_reducible first | exact HB.out | apply below_alloc | apply pw_below_drewN | apply below_drew1) | exact HB.out)⟩⟩
    case round =>
      clear H'
      try clear c2
      try clear p2
      try clear c3
      try clear c4
      obtain ⟨x4_1, x13_1, rfl, rfl, HA, HK1, HO_0, HO_11, HB⟩ := hrel
      cases gk with
      | zero => exact absurd HA.out (by simp [impl_TicksToEmpty.l0])
      | succ k1 =>
        have H := HA.out
        clear HA
        simp only [impl_TicksToEmpty.l0] at H
        by_cases c5 : x13_1 < (l0.length : Int)
        · rw [if_pos c5] at H
          have c5b0 : decide (x13_1 < (l0.length : Int)) = true := decide_eq_true c5
          clear c5
          by_cases c6 : 0 ≤ x13_1
          · rw [if_pos c6] at H
            have c6b0 : decide (0 ≤ x13_1) = true := decide_eq_true c6
            clear c6
            by_cases c7 : x13_1 < (l0.length : Int)
            · rw [if_pos c7] at H
              have c7b0 : decide (x13_1 < (l0.length : Int)) = true := decide_eq_true c7
              clear c7
              by_cases c8 : x4_1 = true
              · subst c8
                have H1 : (if ((rd_T59 l0 x13_1).f1) = 0 then (some (0, false)) else (impl_TicksToEmpty.l0 k1 l0 true l0 (l0.length : Int) (wrap64 (x13_1 + 1)))) = some (r1, r2) := by rw [if_pos rfl] at H; exact H
                clear H
                have H := H1
                clear H1
                by_cases c9 : ((rd_T59 l0 x13_1).f1) = 0
                · rw [if_pos c9] at H
                  have c9b0 : (((rd_T59 l0 x13_1).f1) == 0) = true := beq_iff_eq.mpr c9
                  have c9b1 : (((rd_T59 l0 x13_1).f1) != 0) = false := bne_eq_false_iff_eq.mpr c9
                  clear c9
                  simp only [Option.some.injEq, Prod.mk.injEq] at H
                  obtain ⟨rfl, rfl⟩ := H
                  have p625 : 0 ≤ (x13_1 : Int) := of_decide_eq_true (by first | (with_reducible assumption) | assumption)
                  have q625 : x13_1 < (l0.length : Int) := of_decide_eq_true (by first | (with_reducible assumption) | assumption)
                  obtain ⟨ad625, e625, hx625_0, hx625_1, hx625_2⟩ := at_T59 (Kd.V_reads' HO_11.out).2.2 x13_1 p625 q625
                  cases e625
                  replace p625 := eq_true p625
                  replace q625 := eq_true q625
                  go_wp2_with (first | ((with_reducible refine gate_dst (N := 6) rfl ?_); refine box_event ?hg (N := 6) ?hd (cs := #[.int .i64 0, .int .i64 0, .int .i64 0]) (t := 59) ?hr ?_; (case hd => rfl); (case hg => rfl); (case hr => first | (go_simp; done) | (go_simp; rfl)); intro gb626 hg w10 hbox hb; have n0_ := Aside0.mk (Kd.V_below (Kd.V_elderB (by (with_reducible repeat (first | apply Kd.V_alloc | apply Kd.V_drewN | apply Kd.V_drew)); exact HO_0.out) gb626 (Nat.le_of_eq hg.symm)) hb); have n1_ := Aside0.mk (Kd.V_below (Kd.V_elderB (by (with_reducible repeat (first | apply Kd.V_alloc | apply Kd.V_drewN | apply Kd.V_drew)); exact HO_11.out) gb626 (Nat.le_of_eq hg.symm)) hb); have n2_ := Aside0.mk (below_step (by repeat (first | (with_reducible first | exact HB.out | apply below_alloc | apply pw_below_drewN | apply below_drew1) | exact HB.out)) hb); have n3_ := Aside0.mk (hbox); have n4_ := Aside0.mk ((by rw [hg]; exact (below_size (by repeat (first | (with_reducible first | exact HB.out | apply below_alloc | apply pw_below_drewN | apply below_drew1) | exact HB.out))) : w.heap.size ≤ gb626)); have n5_ := Aside0.mk ((by rw [hg]; exact (below_size (by repeat (first | (with_reducible first | exact HB.out | apply below_alloc | apply pw_below_drewN | apply below_drew1) | exact HB.out))) : w.heap.size ≤ gb626)); clear HO_0; clear HO_11; clear HB; have HO_0 := n0_; have HO_11 := n1_; have HB := n2_; have BK626 := n3_; have GW626 := n4_; have GE626 := n5_; clear n0_ n1_ n2_ n3_ n4_ n5_; clear hb hbox hg; have hcz11_0 : w10.cell? ⟨gb626, 0, none⟩ = some (.int .i64 0) := (blk_cell BK626.out 0).trans rfl; have hcz11_1 : w10.cell? ⟨gb626, 1, none⟩ = some (.int .i64 0) := (blk_cell BK626.out 1).trans rfl; have hcz11_2 : w10.cell? ⟨gb626, 2, none⟩ = some (.int .i64 0) := (blk_cell BK626.out 2).trans rfl; have hfz11_0 := blk_frozen BK626.out 0; have hfz11_1 := blk_frozen BK626.out 1; have hfz11_2 := blk_frozen BK626.out 2))
                  go_ret2
                  exact ⟨by first | rfl | (simp [errW_none, errW_some] <;> rfl) | (simp [*, errW_none, errW_some] <;> rfl), by repeat (first | (with_reducible first | exact HB.out | apply below_alloc | apply pw_below_drewN | apply below_drew1 | refine below_set ?_ GE626.out) | exact HB.out)⟩
                · rw [if_neg c9] at H
                  have c9b0 : (((rd_T59 l0 x13_1).f1) == 0) = false := beq_eq_false_iff_ne.mpr c9
                  have c9b1 : (((rd_T59 l0 x13_1).f1) != 0) = true := bne_iff_ne.mpr c9
                  have H' := Aside0.mk H
                  clear H
                  have p625 : 0 ≤ (x13_1 : Int) := of_decide_eq_true (by first | (with_reducible assumption) | assumption)
                  have q625 : x13_1 < (l0.length : Int) := of_decide_eq_true (by first | (with_reducible assumption) | assumption)
                  obtain ⟨ad625, e625, hx625_0, hx625_1, hx625_2⟩ := at_T59 (Kd.V_reads' HO_11.out).2.2 x13_1 p625 q625
                  cases e625
                  replace p625 := eq_true p625
                  replace q625 := eq_true q625
                  go_wp2_with (first | ((with_reducible refine gate_dst (N := 6) rfl ?_); refine box_event ?hg (N := 6) ?hd (cs := #[.int .i64 0, .int .i64 0, .int .i64 0]) (t := 59) ?hr ?_; (case hd => rfl); (case hg => rfl); (case hr => first | (go_simp; done) | (go_simp; rfl)); intro gb626 hg w12 hbox hb; have n0_ := Aside0.mk (Kd.V_below (Kd.V_elderB (by (with_reducible repeat (first | apply Kd.V_alloc | apply Kd.V_drewN | apply Kd.V_drew)); exact HO_0.out) gb626 (Nat.le_of_eq hg.symm)) hb); have n1_ := Aside0.mk (Kd.V_below (Kd.V_elderB (by (with_reducible repeat (first | apply Kd.V_alloc | apply Kd.V_drewN | apply Kd.V_drew)); exact HO_11.out) gb626 (Nat.le_of_eq hg.symm)) hb); have n2_ := Aside0.mk (below_step (by repeat (first | (with_reducible first | exact HB.out | apply below_alloc | apply pw_below_drewN | apply below_drew1) | exact HB.out)) hb); have n3_ := Aside0.mk (hbox); have n4_ := Aside0.mk ((by rw [hg]; exact (below_size (by repeat (first | (with_reducible first | exact HB.out | apply below_alloc | apply pw_below_drewN | apply below_drew1) | exact HB.out))) : w.heap.size ≤ gb626)); have n5_ := Aside0.mk ((by rw [hg]; exact (below_size (by repeat (first | (with_reducible first | exact HB.out | apply below_alloc | apply pw_below_drewN | apply below_drew1) | exact HB.out))) : w.heap.size ≤ gb626)); clear HO_0; clear HO_11; clear HB; have HO_0 := n0_; have HO_11 := n1_; have HB := n2_; have BK626 := n3_; have GW626 := n4_; have GE626 := n5_; clear n0_ n1_ n2_ n3_ n4_ n5_; clear hb hbox hg; have hcz13_0 : w12.cell? ⟨gb626, 0, none⟩ = some (.int .i64 0) := (blk_cell BK626.out 0).trans rfl; have hcz13_1 : w12.cell? ⟨gb626, 1, none⟩ = some (.int .i64 0) := (blk_cell BK626.out 1).trans rfl; have hcz13_2 : w12.cell? ⟨gb626, 2, none⟩ = some (.int .i64 0) := (blk_cell BK626.out 2).trans rfl; have hfz13_0 := blk_frozen BK626.out 0; have hfz13_1 := blk_frozen BK626.out 1; have hfz13_2 := blk_frozen BK626.out 2))
                  go_roundg k1
                  case measure => have := HK1.out; omega
                  case rel => exact ⟨(true), (wrap64 (x13_1 + 1)), (by first | rfl | (simp; done) | (simp [*]; done)), (by first | rfl | (simp; done) | (simp [*]; done)), H', ⟨by have := HK1.out; omega⟩, ⟨by (with_reducible repeat (first | apply Kd.V_alloc | apply Kd.V_drewN | apply Kd.V_drew)); exact Kd.V_mono (Kd.V_far (p := ⟨gb626, 2, none⟩) (Kd.V_far (p := ⟨gb626, 1, none⟩) (Kd.V_far (p := ⟨gb626, 0, none⟩) (Kd.V_mono HO_0.out (fun k_ hk => (⟨hk, hk.2⟩ : _ ∧ k_ ≠ gb626))) (fun _ hk => hk.2) (.int .i64 ((rd_T59 l0 x13_1).f0))) (fun _ hk => hk.2) (.int .i64 ((rd_T59 l0 x13_1).f1))) (fun _ hk => hk.2) (.int .i64 ((rd_T59 l0 x13_1).f2))) (fun _ hk => hk.1.1)⟩, ⟨by (with_reducible repeat (first | apply Kd.V_alloc | apply Kd.V_drewN | apply Kd.V_drew)); exact Kd.V_mono (Kd.V_far (p := ⟨gb626, 2, none⟩) (Kd.V_far (p := ⟨gb626, 1, none⟩) (Kd.V_far (p := ⟨gb626, 0, none⟩) (Kd.V_mono HO_11.out (fun k_ hk => (⟨hk, hk.2⟩ : _ ∧ k_ ≠ gb626))) (fun _ hk => hk.2) (.int .i64 ((rd_T59 l0 x13_1).f0))) (fun _ hk => hk.2) (.int .i64 ((rd_T59 l0 x13_1).f1))) (fun _ hk => hk.2) (.int .i64 ((rd_T59 l0 x13_1).f2))) (fun _ hk => hk.1.1)⟩, ⟨by repeat (first | (with_reducible first | exact HB.out | apply below_alloc | apply pw_below_drewN | apply below_drew1 | refine below_set ?_ GE626.out) | exact HB.out)⟩⟩
              · replace c8 := Bool.eq_false_iff.mpr c8
                subst c8
                have H1 : (if ((rd_T59 l0 x13_1).f2) > 0 then (if ((rd_T59 l0 x13_1).f1) = 0 then (some (0, false)) else (impl_TicksToEmpty.l0 k1 l0 (decide (((rd_T59 l0 x13_1).f2) > 0)) l0 (l0.length : Int) (wrap64 (x13_1 + 1)))) else (impl_TicksToEmpty.l0 k1 l0 (decide (((rd_T59 l0 x13_1).f2) > 0)) l0 (l0.length : Int) (wrap64 (x13_1 + 1)))) = some (r1, r2) := by rw [if_neg (show ¬ (false = true) by decide)] at H; exact H
                clear H
                have H := H1
                clear H1
                by_cases c14 : ((rd_T59 l0 x13_1).f2) > 0
                · rw [if_pos c14] at H
                  have c14b0 : decide (0 < ((rd_T59 l0 x13_1).f2)) = true := decide_eq_true c14
                  clear c14
                  by_cases c15 : ((rd_T59 l0 x13_1).f1) = 0
                  · rw [if_pos c15] at H
                    have c15b0 : (((rd_T59 l0 x13_1).f1) == 0) = true := beq_iff_eq.mpr c15
                    have c15b1 : (((rd_T59 l0 x13_1).f1) != 0) = false := bne_eq_false_iff_eq.mpr c15
                    clear c15
                    simp only [Option.some.injEq, Prod.mk.injEq] at H
                    obtain ⟨rfl, rfl⟩ := H
                    have p625 : 0 ≤ (x13_1 : Int) := of_decide_eq_true (by first | (with_reducible assumption) | assumption)
                    have q625 : x13_1 < (l0.length : Int) := of_decide_eq_true (by first | (with_reducible assumption) | assumption)
                    obtain ⟨ad625, e625, hx625_0, hx625_1, hx625_2⟩ := at_T59 (Kd.V_reads' HO_11.out).2.2 x13_1 p625 q625
                    cases e625
                    replace p625 := eq_true p625
                    replace q625 := eq_true q625
                    go_wp2_with (first | ((with_reducible refine gate_dst (N := 6) rfl ?_); refine box_event ?hg (N := 6) ?hd (cs := #[.int .i64 0, .int .i64 0, .int .i64 0]) (t := 59) ?hr ?_; (case hd => rfl); (case hg => rfl); (case hr => first | (go_simp; done) | (go_simp; rfl)); intro gb626 hg w16 hbox hb; have n0_ := Aside0.mk (Kd.V_below (Kd.V_elderB (by (with_reducible repeat (first | apply Kd.V_alloc | apply Kd.V_drewN | apply Kd.V_drew)); exact HO_0.out) gb626 (Nat.le_of_eq hg.symm)) hb); have n1_ := Aside0.mk (Kd.V_below (Kd.V_elderB (by (with_reducible repeat (first | apply Kd.V_alloc | apply Kd.V_drewN | apply Kd.V_drew)); exact HO_11.out) gb626 (Nat.le_of_eq hg.symm)) hb); have n2_ := Aside0.mk (below_step (by repeat (first | (with_reducible first | exact HB.out | apply below_alloc | apply pw_below_drewN | apply below_drew1) | exact HB.out)) hb); have n3_ := Aside0.mk (hbox); have n4_ := Aside0.mk ((by rw [hg]; exact (below_size (by repeat (first | (with_reducible first | exact HB.out | apply below_alloc | apply pw_below_drewN | apply below_drew1) | exact HB.out))) : w.heap.size ≤ gb626)); have n5_ := Aside0.mk ((by rw [hg]; exact (below_size (by repeat (first | (with_reducible first | exact HB.out | apply below_alloc | apply pw_below_drewN | apply below_drew1) | exact HB.out))) : w.heap.size ≤ gb626)); clear HO_0; clear HO_11; clear HB; have HO_0 := n0_; have HO_11 := n1_; have HB := n2_; have BK626 := n3_; have GW626 := n4_; have GE626 := n5_; clear n0_ n1_ n2_ n3_ n4_ n5_; clear hb hbox hg; have hcz17_0 : w16.cell? ⟨gb626, 0, none⟩ = some (.int .i64 0) := (blk_cell BK626.out 0).trans rfl; have hcz17_1 : w16.cell? ⟨gb626, 1, none⟩ = some (.int .i64 0) := (blk_cell BK626.out 1).trans rfl; have hcz17_2 : w16.cell? ⟨gb626, 2, none⟩ = some (.int .i64 0) := (blk_cell BK626.out 2).trans rfl; have hfz17_0 := blk_frozen BK626.out 0; have hfz17_1 := blk_frozen BK626.out 1; have hfz17_2 := blk_frozen BK626.out 2))
                    go_ret2
                    exact ⟨by first | rfl | (simp [errW_none, errW_some] <;> rfl) | (simp [*, errW_none, errW_some] <;> rfl), by repeat (first | (with_reducible first | exact HB.out | apply below_alloc | apply pw_below_drewN | apply below_drew1 | refine below_set ?_ GE626.out) | exact HB.out)⟩
                  · rw [if_neg c15] at H
                    have c15b0 : (((rd_T59 l0 x13_1).f1) == 0) = false := beq_eq_false_iff_ne.mpr c15
                    have c15b1 : (((rd_T59 l0 x13_1).f1) != 0) = true := bne_iff_ne.mpr c15
                    have H' := Aside0.mk H
                    clear H
                    have p625 : 0 ≤ (x13_1 : Int) := of_decide_eq_true (by first | (with_reducible assumption) | assumption)
                    have q625 : x13_1 < (l0.length : Int) := of_decide_eq_true (by first | (with_reducible assumption) | assumption)
                    obtain ⟨ad625, e625, hx625_0, hx625_1, hx625_2⟩ := at_T59 (Kd.V_reads' HO_11.out).2.2 x13_1 p625 q625
                    cases e625
                    replace p625 := eq_true p625
                    replace q625 := eq_true q625
                    go_wp2_with (first | ((with_reducible refine gate_dst (N := 6) rfl ?_); refine box_event ?hg (N := 6) ?hd (cs := #[.int .i64 0, .int .i64 0, .int .i64 0]) (t := 59) ?hr ?_; (case hd => rfl); (case hg => rfl); (case hr => first | (go_simp; done) | (go_simp; rfl)); intro gb626 hg w18 hbox hb; have n0_ := Aside0.mk (Kd.V_below (Kd.V_elderB (by (with_reducible repeat (first | apply Kd.V_alloc | apply Kd.V_drewN | apply Kd.V_drew)); exact HO_0.out) gb626 (Nat.le_of_eq hg.symm)) hb); have n1_ := Aside0.mk (Kd.V_below (Kd.V_elderB (by (with_reducible repeat (first | apply Kd.V_alloc | apply Kd.V_drewN | apply Kd.V_drew)); exact HO_11.out) gb626 (Nat.le_of_eq hg.symm)) hb); have n2_ := Aside0.mk (below_step (by repeat (first | (with_reducible first | exact HB.out | apply below_alloc | apply pw_below_drewN | apply below_drew1) | exact HB.out)) hb); have n3_ := Aside0.mk (hbox); have n4_ := Aside0.mk ((by rw [hg]; exact (below_size (by repeat (first | (with_reducible first | exact HB.out | apply below_alloc | apply pw_below_drewN | apply below_drew1) | exact HB.out))) : w.heap.size ≤ gb626)); have n5_ := Aside0.mk ((by rw [hg]; exact (below_size (by repeat (first | (with_reducible first | exact HB.out | apply below_alloc | apply pw_below_drewN | apply below_drew1) | exact HB.out))) : w.heap.size ≤ gb626)); clear HO_0; clear HO_11; clear HB; have HO_0 := n0_; have HO_11 := n1_; have HB := n2_; have BK626 := n3_; have GW626 := n4_; have GE626 := n5_; clear n0_ n1_ n2_ n3_ n4_ n5_; clear hb hbox hg; have hcz19_0 : w18.cell? ⟨gb626, 0, none⟩ = some (.int .i64 0) := (blk_cell BK626.out 0).trans rfl; have hcz19_1 : w18.cell? ⟨gb626, 1, none⟩ = some (.int .i64 0) := (blk_cell BK626.out 1).trans rfl; have hcz19_2 : w18.cell? ⟨gb626, 2, none⟩ = some (.int .i64 0) := (blk_cell BK626.out 2).trans rfl; have hfz19_0 := blk_frozen BK626.out 0; have hfz19_1 := blk_frozen BK626.out 1; have hfz19_2 := blk_frozen BK626.out 2))
                    go_roundg k1
                    case measure => have := HK1.out; omega
                    case rel => exact ⟨(decide (((rd_T59 l0 x13_1).f2) > 0)), (wrap64 (x13_1 + 1)), (by first | rfl | (simp; done) | (simp [*]; done)), (by first | rfl | (simp; done) | (simp [*]; done)), H', ⟨by have := HK1.out; omega⟩, ⟨by (with_reducible repeat (first | apply Kd.V_alloc | apply Kd.V_drewN | apply Kd.V_drew)); exact Kd.V_mono (Kd.V_far (p := ⟨gb626, 2, none⟩) (Kd.V_far (p := ⟨gb626, 1, none⟩) (Kd.V_far (p := ⟨gb626, 0, none⟩) (Kd.V_mono HO_0.out (fun k_ hk => (⟨hk, hk.2⟩ : _ ∧ k_ ≠ gb626))) (fun _ hk => hk.2) (.int .i64 ((rd_T59 l0 x13_1).f0))) (fun _ hk => hk.2) (.int .i64 ((rd_T59 l0 x13_1).f1))) (fun _ hk => hk.2) (.int .i64 ((rd_T59 l0 x13_1).f2))) (fun _ hk => hk.1.1)⟩, ⟨by (with_reducible repeat (first | apply Kd.V_alloc | apply Kd.V_drewN | apply Kd.V_drew)); exact Kd.V_mono (Kd.V_far (p := ⟨gb626, 2, none⟩) (Kd.V_far (p := ⟨gb626, 1, none⟩) (Kd.V_far (p := ⟨gb626, 0, none⟩) (Kd.V_mono HO_11.out (fun k_ hk => (⟨hk, hk.2⟩ : _ ∧ k_ ≠ gb626))) (fun _ hk => hk.2) (.int .i64 ((rd_T59 l0 x13_1).f0))) (fun _ hk => hk.2) (.int .i64 ((rd_T59 l0 x13_1).f1))) (fun _ hk => hk.2) (.int .i64 ((rd_T59 l0 x13_1).f2))) (fun _ hk => hk.1.1)⟩, ⟨by repeat (first | (with_reducible first | exact HB.out | apply below_alloc | apply pw_below_drewN | apply below_drew1 | refine below_set ?_ GE626.out) | exact HB.out)⟩⟩
                · rw [if_neg c14] at H
                  have c14b0 : decide (0 < ((rd_T59 l0 x13_1).f2)) = false := decide_eq_false c14
                  clear c14
                  have H' := Aside0.mk H
                  clear H
                  have p625 : 0 ≤ (x13_1 : Int) := of_decide_eq_true (by first | (with_reducible assumption) | assumption)
                  have q625 : x13_1 < (l0.length : Int) := of_decide_eq_true (by first | (with_reducible assumption) | assumption)
                  obtain ⟨ad625, e625, hx625_0, hx625_1, hx625_2⟩ := at_T59 (Kd.V_reads' HO_11.out).2.2 x13_1 p625 q625
                  cases e625
                  replace p625 := eq_true p625
                  replace q625 := eq_true q625
                  go_wp2_with (first | ((with_reducible refine gate_dst (N := 6) rfl ?_); refine box_event ?hg (N := 6) ?hd (cs := #[.int .i64 0, .int .i64 0, .int .i64 0]) (t := 59) ?hr ?_; (case hd => rfl); (case hg => rfl); (case hr => first | (go_simp; done) | (go_simp; rfl)); intro gb626 hg w20 hbox hb; have n0_ := Aside0.mk (Kd.V_below (Kd.V_elderB (by (with_reducible repeat (first | apply Kd.V_alloc | apply Kd.V_drewN | apply Kd.V_drew)); exact HO_0.out) gb626 (Nat.le_of_eq hg.symm)) hb); have n1_ := Aside0.mk (Kd.V_below (Kd.V_elderB (by (with_reducible repeat (first | apply Kd.V_alloc | apply Kd.V_drewN | apply Kd.V_drew)); exact HO_11.out) gb626 (Nat.le_of_eq hg.symm)) hb); have n2_ := Aside0.mk (below_step (by repeat (first | (with_reducible first | exact HB.out | apply below_alloc | apply pw_below_drewN | apply below_drew1) | exact HB.out)) hb); have n3_ := Aside0.mk (hbox); have n4_ := Aside0.mk ((by rw [hg]; exact (below_size (by repeat (first | (with_reducible first | exact HB.out | apply below_alloc | apply pw_below_drewN | apply below_drew1) | exact HB.out))) : w.heap.size ≤ gb626)); have n5_ := Aside0.mk ((by rw [hg]; exact (below_size (by repeat (first | (with_reducible first | exact HB.out | apply below_alloc | apply pw_below_drewN | apply below_drew1) | exact HB.out))) : w.heap.size ≤ gb626)); clear HO_0; clear HO_11; clear HB; have HO_0 := n0_; have HO_11 := n1_; have HB := n2_; have BK626 := n3_; have GW626 := n4_; have GE626 := n5_; clear n0_ n1_ n2_ n3_ n4_ n5_; clear hb hbox hg; have hcz21_0 : w20.cell? ⟨gb626, 0, none⟩ = some (.int .i64 0) := (blk_cell BK626.out 0).trans rfl; have hcz21_1 : w20.cell? ⟨gb626, 1, none⟩ = some (.int .i64 0) := (blk_cell BK626.out 1).trans rfl; have hcz21_2 : w20.cell? ⟨gb626, 2, none⟩ = some (.int .i64 0) := (blk_cell BK626.out 2).trans rfl; have hfz21_0 := blk_frozen BK626.out 0; have hfz21_1 := blk_frozen BK626.out 1; have hfz21_2 := blk_frozen BK626.out 2))
                  go_roundg k1
                  case measure => have := HK1.out; omega
                  case rel => exact ⟨(decide (((rd_T59 l0 x13_1).f2) > 0)), (wrap64 (x13_1 + 1)), (by first | rfl | (simp; done) | (simp [*]; done)), (by first | rfl | (simp; done) | (simp [*]; done)), H', ⟨by have := HK1.out; omega⟩, ⟨by (with_reducible repeat (first | apply Kd.V_alloc | apply Kd.V_drewN | apply Kd.V_drew)); exact Kd.V_mono (Kd.V_far (p := ⟨gb626, 2, none⟩) (Kd.V_far (p := ⟨gb626, 1, none⟩) (Kd.V_far (p := ⟨gb626, 0, none⟩) (Kd.V_mono HO_0.out (fun k_ hk => (⟨hk, hk.2⟩ : _ ∧ k_ ≠ gb626))) (fun _ hk => hk.2) (.int .i64 ((rd_T59 l0 x13_1).f0))) (fun _ hk => hk.2) (.int .i64 ((rd_T59 l0 x13_1).f1))) (fun _ hk => hk.2) (.int .i64 ((rd_T59 l0 x13_1).f2))) (fun _ hk => hk.1.1)⟩, ⟨by (with_reducible repeat (first | apply Kd.V_alloc | apply Kd.V_drewN | apply Kd.V_drew)); exact Kd.V_mono (Kd.V_far (p := ⟨gb626, 2, none⟩) (Kd.V_far (p := ⟨gb626, 1, none⟩) (Kd.V_far (p := ⟨gb626, 0, none⟩) (Kd.V_mono HO_11.out (fun k_ hk => (⟨hk, hk.2⟩ : _ ∧ k_ ≠ gb626))) (fun _ hk => hk.2) (.int .i64 ((rd_T59 l0 x13_1).f0))) (fun _ hk => hk.2) (.int .i64 ((rd_T59 l0 x13_1).f1))) (fun _ hk => hk.2) (.int .i64 ((rd_T59 l0 x13_1).f2))) (fun _ hk => hk.1.1)⟩, ⟨by repeat (first | (with_reducible first | exact HB.out | apply below_alloc | apply pw_below_drewN | apply below_drew1 | refine below_set ?_ GE626.out) | exact HB.out)⟩⟩
            · rw [if_neg c7] at H
              exact absurd H (by simp)
          · rw [if_neg c6] at H
            exact absurd H (by simp)
        · rw [if_neg c5] at H
          have c5b0 : decide (x13_1 < (l0.length : Int)) = false := decide_eq_false c5
          clear c5
          have H' := Aside0.mk H
          clear H
          go_wp2
          go_loopg [0, 7] k1 (fun kq v0 v7 w' => ∃ (x0_2 : List (S59)) (x7_2 : Int), v7 = .int .i64 x7_2 ∧ Aside0 (impl_TicksToEmpty.l1 kq x0_2 x7_2 = some (r1, r2)) ∧ Aside0 (kq ≤ k1) ∧ Aside0 (Kd.V k59 59 w' w.heap.size (fun k_ => (P0_ k_ ∨ w.heap.size ≤ k_)) v0 x0_2) ∧ Aside0 (Below w.heap.size w w'))
          case atStart => exact ⟨(l0), (0), (by first | rfl | (simp; done) | (simp [*]; done)), H', ⟨Nat.le_refl _⟩, ⟨by (with_reducible repeat (first | apply Kd.V_alloc | apply Kd.V_drewN | apply Kd.V_drew)); exact HO_0.out⟩, ⟨by repeat (first | (with_reducible first | exact HB.out | apply below_alloc | apply pw_below_drewN | apply below_drew1) | exact HB.out)⟩⟩
          case round =>
            clear H'
            try clear c1
            try clear c2
            try clear p2
            try clear c3
            try clear c4
            try clear c5
            try clear c5b0
            try clear c6
            try clear c6b0
            try clear p6
            try clear q6
            try clear hx6
            try clear c7
            try clear c7b0
            try clear c8
            try clear c9
            try clear c9b0
            try clear c9b1
            try clear c14
            try clear c14b0
            try clear c15
            try clear c15b0
            try clear c15b1
            try clear hcz11_0
            try clear hcz11_1
            try clear hcz11_2
            try clear hcz13_0
            try clear hcz13_1
            try clear hcz13_2
            try clear hcz17_0
            try clear hcz17_1
            try clear hcz17_2
            try clear hcz19_0
            try clear hcz19_1
            try clear hcz19_2
            try clear hcz21_0
            try clear hcz21_1
            try clear hcz21_2
            try clear hfz11_0
            try clear hfz11_1
            try clear hfz11_2
            try clear hfz13_0
            try clear hfz13_1
            try clear hfz13_2
            try clear hfz17_0
            try clear hfz17_1
            try clear hfz17_2
            try clear hfz19_0
            try clear hfz19_1
            try clear hfz19_2
            try clear hfz21_0
            try clear hfz21_1
            try clear hfz21_2
            try clear hx625_0
            try clear hx625_1
            try clear hx625_2
            try clear p2
            try clear p625
            try clear q625
            obtain ⟨x0_2, x7_2, rfl, HA, HK2, HO_0, HB⟩ := hrel
            cases gk with
            | zero => exact absurd HA.out (by simp [impl_TicksToEmpty.l1])
            | succ k2 =>
              have H := HA.out
              clear HA
              simp only [impl_TicksToEmpty.l1] at H
              replace H := Option.bind_eq_some_iff.mp H
              obtain ⟨t627, A220, H⟩ := H
              replace H : (if t627 > 0 then ((impl_tickRow.f k2 x0_2 0).bind fun bt628 => (impl_TicksToEmpty.l1 k2 bt628.1 (wrap64 (x7_2 + 1)))) else (some (x7_2, true))) = some (r1, r2) := H
              have A22 := Aside0.mk A220
              clear A220
              by_cases c23 : t627 > 0
              · rw [if_pos c23] at H
                have c23b0 : decide (0 < t627) = true := decide_eq_true c23
                clear c23
                replace H := Option.bind_eq_some_iff.mp H
                obtain ⟨⟨t628, t629, t630⟩, A240, H⟩ := H
                replace H : (impl_TicksToEmpty.l1 k2 t628 (wrap64 (x7_2 + 1))) = some (r1, r2) := H
                have A24 := Aside0.mk A240
                clear A240
                have H' := Aside0.mk H
                clear H
                obtain ⟨Ao25, co25, eo25⟩ := Kd.V_slice HO_0.out
                subst eo25
                go_wp2_with (first | ((with_reducible refine gate_callee (f := 70) rfl ?_); refine goesL_ (some 31) rfl rfl Try.func70 (by kernel_rfl) rfl #[.slice Ao25 x0_2.length co25] rfl (by (try simp only [List.map_toArray, List.map_cons, List.map_nil]); first | done | rfl | (simp only [List.length_drop, List.length_take]; rfl)) ?_; (with_reducible refine (impl_heldIn.calls k2 _ _ x0_2 t627 _ ?side1 ?side2 A22.out).mono ?_); (case side1 => repeat (first | exact (Kd.V_reads' HO_0.out).2.2 | (with_reducible refine Kd.C_alloc ?_ _) | (with_reducible refine Kd.C_drewN ?_ _) | (with_reducible refine Kd.C_drew ?_))); (case side2 => exact (Kd.V_reads' HO_0.out).2.1); rintro e w26 ⟨rfl, hb⟩; refine ⟨_, rfl, ?_⟩; have n0_ := Aside0.mk (Kd.V_below (by (with_reducible repeat (first | apply Kd.V_alloc | apply Kd.V_drewN | apply Kd.V_drew)); exact HO_0.out) hb); have n1_ := Aside0.mk (below_step (by repeat (first | (with_reducible first | exact HB.out | apply below_alloc | apply pw_below_drewN | apply below_drew1) | exact HB.out)) hb); clear HO_0; clear HB; have HO_0 := n0_; have HB := n1_; clear n0_ n1_; (try clear hb); (try clear hb2); (try clear hk); (try clear hi)) | ((with_reducible refine gate_callee (f := 74) rfl ?_); refine goesL_ (some 37) rfl rfl Try.func74 (by kernel_rfl) rfl #[.slice Ao25 x0_2.length co25, .int .i64 0] rfl (by (try simp only [List.map_toArray, List.map_cons, List.map_nil]); first | done | rfl | (simp only [List.length_drop, List.length_take]; rfl)) ?_; (with_reducible refine (impl_tickRow.calls k2 _ _ x0_2 0 t628 t629 t630 _ ?side1 ?side2 A24.out).mono ?_); (case side1 => repeat (first | exact (Kd.V_reads' HO_0.out).2.2 | (with_reducible refine Kd.C_alloc ?_ _) | (with_reducible refine Kd.C_drewN ?_ _) | (with_reducible refine Kd.C_drew ?_))); (case side2 => exact (Kd.V_reads' HO_0.out).2.1); rintro e w27 ⟨v631, v633, rfl, ho0, ho1, hb⟩; refine ⟨_, rfl, ?_⟩; have n0_ := Aside0.mk (Kd.V_mono (Kd.V_told (Kd.V_told (Kd.V_old (by (with_reducible repeat (first | apply Kd.V_alloc | apply Kd.V_drewN | apply Kd.V_drew)); exact HO_0.out) hb) (Kd.R_base ho0)) (Kd.R_base ho1)) (fun _ h_ => h_.1)); have n1_ := Aside0.mk (Kd.R_lower (Kd.R_newM (M := fun k_ => (w.heap.size ≤ k_)) ho0 (below_size (by repeat (first | (with_reducible first | exact HB.out | apply below_alloc | apply pw_below_drewN | apply below_drew1) | exact HB.out))) (fun k_ h_ => h_)) (below_size (by repeat (first | (with_reducible first | exact HB.out | apply below_alloc | apply pw_below_drewN | apply below_drew1) | exact HB.out)))); have n2_ := Aside0.mk (Kd.R_lower (Kd.R_newM (M := fun k_ => (w.heap.size ≤ k_)) ho1 (below_size (by repeat (first | (with_reducible first | exact HB.out | apply below_alloc | apply pw_below_drewN | apply below_drew1) | exact HB.out))) (fun k_ h_ => h_)) (below_size (by repeat (first | (with_reducible first | exact HB.out | apply below_alloc | apply pw_below_drewN | apply below_drew1) | exact HB.out)))); have n3_ := Aside0.mk (below_step (by repeat (first | (with_reducible first | exact HB.out | apply below_alloc | apply pw_below_drewN | apply below_drew1) | exact HB.out)) hb); clear HO_0; clear HB; have HO_0 := n0_; have HO632 := n1_; have HO634 := n2_; have HB := n3_; clear n0_ n1_ n2_ n3_; (try clear hb); (try clear hb2); (try clear hk); (try clear hi); (try clear ho0); (try clear ho1)))
                go_roundg k2
                case measure => have := HK1.out; have := HK2.out; omega
                case rel => exact ⟨(t628), (wrap64 (x7_2 + 1)), (by first | rfl | (simp; done) | (simp [*]; done)), H', ⟨by have := HK1.out; have := HK2.out; omega⟩, ⟨Kd.V_mono (Kd.R_V (by (with_reducible repeat (first | apply Kd.R_alloc | apply Kd.R_drewN | apply Kd.R_drew)); exact Kd.R_mono HO632.out (fun _ hk => hk.1))) (fun k_ hk => by first | exact ⟨(.inr (hk.1)), hk.2⟩ | exact (.inr (hk)))⟩, ⟨by repeat (first | (with_reducible first | exact HB.out | apply below_alloc | apply pw_below_drewN | apply below_drew1) | exact HB.out)⟩⟩
              · rw [if_neg c23] at H
                have c23b0 : decide (0 < t627) = false := decide_eq_false c23
                clear c23
                simp only [Option.some.injEq, Prod.mk.injEq] at H
                obtain ⟨rfl, rfl⟩ := H
                obtain ⟨Ao28, co28, eo28⟩ := Kd.V_slice HO_0.out
                subst eo28
                go_wp2_with (first | ((with_reducible refine gate_callee (f := 70) rfl ?_); refine goesL_ (some 31) rfl rfl Try.func70 (by kernel_rfl) rfl #[.slice Ao28 x0_2.length co28] rfl (by (try simp only [List.map_toArray, List.map_cons, List.map_nil]); first | done | rfl | (simp only [List.length_drop, List.length_take]; rfl)) ?_; (with_reducible refine (impl_heldIn.calls k2 _ _ x0_2 t627 _ ?side1 ?side2 A22.out).mono ?_); (case side1 => repeat (first | exact (Kd.V_reads' HO_0.out).2.2 | (with_reducible refine Kd.C_alloc ?_ _) | (with_reducible refine Kd.C_drewN ?_ _) | (with_reducible refine Kd.C_drew ?_))); (case side2 => exact (Kd.V_reads' HO_0.out).2.1); rintro e w29 ⟨rfl, hb⟩; refine ⟨_, rfl, ?_⟩; have n0_ := Aside0.mk (Kd.V_below (by (with_reducible repeat (first | apply Kd.V_alloc | apply Kd.V_drewN | apply Kd.V_drew)); exact HO_0.out) hb); have n1_ := Aside0.mk (below_step (by repeat (first | (with_reducible first | exact HB.out | apply below_alloc | apply pw_below_drewN | apply below_drew1) | exact HB.out)) hb); clear HO_0; clear HB; have HO_0 := n0_; have HB := n1_; clear n0_ n1_; (try clear hb); (try clear hb2); (try clear hk); (try clear hi)))
                go_ret2
                exact ⟨by first | rfl | (simp [errW_none, errW_some] <;> rfl) | (simp [*, errW_none, errW_some] <;> rfl), by repeat (first | (with_reducible first | exact HB.out | apply below_alloc | apply pw_below_drewN | apply below_drew1) | exact HB.out)⟩
  · replace c3 := Bool.eq_false_iff.mpr c3
    subst c3
    have H1 : (some (0, false)) = some (r1, r2) := by rw [if_neg (show ¬ (false = true) by decide)] at H; exact H
    clear H
    have H := H1
    clear H1
    simp only [Option.some.injEq, Prod.mk.injEq] at H
    obtain ⟨rfl, rfl⟩ := H
    go_enter Try.func41, Try.ntmps41
    go_wp2_with (first | ((with_reducible refine gate_callee (f := 26) rfl ?_); refine goesL_ (some 9) rfl rfl Try.func26 (by kernel_rfl) rfl #[.slice A0 l0.length c0] rfl (by (try simp only [List.map_toArray, List.map_cons, List.map_nil]); first | done | rfl | (simp only [List.length_drop, List.length_take]; rfl)) ?_; (with_reducible refine (impl_IsRow.calls _ _ l0 false _ ?side1 ?side2 A2.out).mono ?_); (case side1 => repeat (first | exact (Kd.V_reads' HO0.out).2.2 | (with_reducible refine Kd.C_alloc ?_ _) | (with_reducible refine Kd.C_drewN ?_ _) | (with_reducible refine Kd.C_drew ?_))); (case side2 => exact (Kd.V_reads' HO0.out).2.1); rintro e w30 ⟨rfl, hb⟩; refine ⟨_, rfl, ?_⟩; have n0_ := Aside0.mk (Kd.V_below (by (with_reducible repeat (first | apply Kd.V_alloc | apply Kd.V_drewN | apply Kd.V_drew)); exact HO0.out) hb); have n1_ := Aside0.mk (below_step (by repeat (first | (with_reducible first | exact HB.out | apply below_alloc | apply pw_below_drewN | apply below_drew1) | exact HB.out)) hb); clear HO0; clear HB; have HO0 := n0_; have HB := n1_; clear n0_ n1_; (try clear hb); (try clear hb2); (try clear hk); (try clear hi)))
    go_ret2
    exact ⟨by first | rfl | (simp [errW_none, errW_some] <;> rfl) | (simp [*, errW_none, errW_some] <;> rfl), by repeat (first | (with_reducible first | exact HB.out | apply below_alloc | apply pw_below_drewN | apply below_drew1) | exact HB.out)⟩

/-! ### laws_FnExactTicksToEmpty: function 9 -/
def laws_FnExactTicksToEmpty.j0 : Nat → List (S61) → List (S59) → Bool → Option (Bool)
  | 0, _, _, _ => none
  | k + 1, x0, x6, x34 => if x34 = true then (some false) else ((laws_toBasinS.f k x0).bind fun t646 => ((laws_eqBasinS.f k x6 t646).bind fun t649 => (if t649 = true then (some true) else (some false))))
def laws_FnExactTicksToEmpty.f (k : Nat) (l0 : List (S61)) : Option (Bool) := (laws_szBasinS.f l0 1048576).bind fun t635 => (if t635 < 0 then (some true) else ((laws_toBasinS.f k l0).bind fun t636 => ((spec_TicksToEmpty.f k t636).bind fun bt639 => ((laws_toBasinS.f k l0).bind fun t641 => ((impl_TicksToEmpty.f k t641).bind fun bt644 => (if bt644.1 = bt639.1 then (laws_FnExactTicksToEmpty.j0 k l0 t641 (bt644.2 != bt639.2)) else (laws_FnExactTicksToEmpty.j0 k l0 t641 true)))))))
theorem laws_FnExactTicksToEmpty.mono_l : ∀ k, (∀ y0 y1 y2, LeO (laws_FnExactTicksToEmpty.j0 k y0 y1 y2) (laws_FnExactTicksToEmpty.j0 (k + 1) y0 y1 y2))
  | 0 => fun _ _ _ r h => by simp [laws_FnExactTicksToEmpty.j0] at h
  | k + 1 => by
    have ih0 := laws_FnExactTicksToEmpty.mono_l k
    · intro y0 y1 y2
      unfold laws_FnExactTicksToEmpty.j0
      repeat' first
      | (with_reducible exact ih0 _ _ _)
      | (with_reducible exact impl_TicksToEmpty.mono _ _)
      | (with_reducible exact laws_eqBasinS.mono _ _ _)
      | (with_reducible exact laws_toBasinS.mono _ _)
      | (with_reducible exact spec_TicksToEmpty.mono _ _)
      | (with_reducible exact LeO.refl _)
      | (with_reducible exact LeO.none _)
      | (with_reducible refine LeO.ite ?_ ?_)
      | (with_reducible refine LeO.bind ?_ (fun _ => ?_))
      | exact ih0 _ _ _
      | exact impl_TicksToEmpty.mono _ _
      | exact laws_eqBasinS.mono _ _ _
      | exact laws_toBasinS.mono _ _
      | exact spec_TicksToEmpty.mono _ _
      | exact LeO.none _
      | refine LeO.ite ?_ ?_
      | refine LeO.bind ?_ (fun _ => ?_)
theorem laws_FnExactTicksToEmpty.mono : ∀ a0 k, LeO (laws_FnExactTicksToEmpty.f k a0) (laws_FnExactTicksToEmpty.f (k + 1) a0) := by
  intro a0 k
  have ih0 := laws_FnExactTicksToEmpty.mono_l k
  unfold laws_FnExactTicksToEmpty.f
  repeat' first
      | (with_reducible exact ih0 _ _ _)
      | (with_reducible exact impl_TicksToEmpty.mono _ _)
      | (with_reducible exact laws_eqBasinS.mono _ _ _)
      | (with_reducible exact laws_toBasinS.mono _ _)
      | (with_reducible exact spec_TicksToEmpty.mono _ _)
      | (with_reducible exact LeO.refl _)
      | (with_reducible exact LeO.none _)
      | (with_reducible refine LeO.ite ?_ ?_)
      | (with_reducible refine LeO.bind ?_ (fun _ => ?_))
      | exact ih0 _ _ _
      | exact impl_TicksToEmpty.mono _ _
      | exact laws_eqBasinS.mono _ _ _
      | exact laws_toBasinS.mono _ _
      | exact spec_TicksToEmpty.mono _ _
      | exact LeO.none _
      | refine LeO.ite ?_ ?_
      | refine LeO.bind ?_ (fun _ => ?_)
set_option maxHeartbeats 8000000 in
set_option maxRecDepth 100000 in
theorem laws_FnExactTicksToEmpty.calls (k : Nat) (A0 : Option Addr) (c0 : Nat) (l0 : List (S61)) (r : Bool) (w : World) (hr0 : Kd.C k61 w A0 l0.length l0) (hc0 : l0.length ≤ c0) (h : laws_FnExactTicksToEmpty.f k l0 = some r) :
    Calls Try.prog 9 #[.slice A0 l0.length c0] w fun e w' => e = .returned (.bool r) ∧ Below w.heap.size w w' := by
  have HR0 := Aside0.mk hr0
  have HC0 := Aside0.mk hc0
  clear hr0 hc0
  have HB := Aside0.mk (Below.refl w.heap.size w)
  have H : ((laws_szBasinS.f l0 1048576).bind fun t635 => (if t635 < 0 then (some true) else ((laws_toBasinS.f k l0).bind fun t636 => ((spec_TicksToEmpty.f k t636).bind fun bt639 => ((laws_toBasinS.f k l0).bind fun t641 => ((impl_TicksToEmpty.f k t641).bind fun bt644 => (if bt644.1 = bt639.1 then (laws_FnExactTicksToEmpty.j0 k l0 t641 (bt644.2 != bt639.2)) else (laws_FnExactTicksToEmpty.j0 k l0 t641 true)))))))) = some r := h
  clear h
  replace H := Option.bind_eq_some_iff.mp H
  obtain ⟨t635, A20, H⟩ := H
  replace H : (if t635 < 0 then (some true) else ((laws_toBasinS.f k l0).bind fun t636 => ((spec_TicksToEmpty.f k t636).bind fun bt639 => ((laws_toBasinS.f k l0).bind fun t641 => ((impl_TicksToEmpty.f k t641).bind fun bt644 => (if bt644.1 = bt639.1 then (laws_FnExactTicksToEmpty.j0 k l0 t641 (bt644.2 != bt639.2)) else (laws_FnExactTicksToEmpty.j0 k l0 t641 true))))))) = some r := H
  have A2 := Aside0.mk A20
  clear A20
  by_cases c3 : t635 < 0
  · rw [if_pos c3] at H
    have c3b0 : decide (t635 < 0) = true := decide_eq_true c3
    clear c3
    obtain rfl := Option.some.inj H
    go_enter Try.func9, Try.ntmps9
    go_wp2_with (first | ((with_reducible refine gate_callee (f := 23) rfl ?_); refine goesL_ (some 11) rfl rfl Try.func23 (by kernel_rfl) rfl #[.slice A0 l0.length c0, .int .i64 1048576] rfl (by (try simp only [List.map_toArray, List.map_cons, List.map_nil]); first | done | rfl | (simp only [List.length_drop, List.length_take]; rfl)) ?_; (with_reducible refine (laws_szBasinS.calls _ _ l0 1048576 t635 _ ?side1 ?side2 A2.out).mono ?_); (case side1 => repeat (first | exact HR0.out | (with_reducible refine Kd.C_alloc ?_ _) | (with_reducible refine Kd.C_drewN ?_ _) | (with_reducible refine Kd.C_drew ?_))); (case side2 => exact HC0.out); rintro e w' ⟨rfl, ⟨nd, rfl⟩⟩; refine ⟨_, rfl, ?_⟩))
    go_ret
    exact ⟨by first | rfl | (simp [errW_none, errW_some] <;> rfl) | (simp [*, errW_none, errW_some] <;> rfl), by repeat (first | (with_reducible first | exact HB.out | apply below_alloc | apply pw_below_drewN | apply below_drew1) | exact HB.out)⟩
  · rw [if_neg c3] at H
    have c3b0 : decide (t635 < 0) = false := decide_eq_false c3
    clear c3
    replace H := Option.bind_eq_some_iff.mp H
    obtain ⟨t636, A40, H⟩ := H
    replace H : ((spec_TicksToEmpty.f k t636).bind fun bt639 => ((laws_toBasinS.f k l0).bind fun t641 => ((impl_TicksToEmpty.f k t641).bind fun bt644 => (if bt644.1 = bt639.1 then (laws_FnExactTicksToEmpty.j0 k l0 t641 (bt644.2 != bt639.2)) else (laws_FnExactTicksToEmpty.j0 k l0 t641 true))))) = some r := H
    have A4 := Aside0.mk A40
    clear A40
    replace H := Option.bind_eq_some_iff.mp H
    obtain ⟨⟨t639, t640⟩, A50, H⟩ := H
    replace H : ((laws_toBasinS.f k l0).bind fun t641 => ((impl_TicksToEmpty.f k t641).bind fun bt644 => (if bt644.1 = t639 then (laws_FnExactTicksToEmpty.j0 k l0 t641 (bt644.2 != t640)) else (laws_FnExactTicksToEmpty.j0 k l0 t641 true)))) = some r := H
    have A5 := Aside0.mk A50
    clear A50
    replace H := Option.bind_eq_some_iff.mp H
    obtain ⟨t641, A60, H⟩ := H
    replace H : ((impl_TicksToEmpty.f k t641).bind fun bt644 => (if bt644.1 = t639 then (laws_FnExactTicksToEmpty.j0 k l0 t641 (bt644.2 != t640)) else (laws_FnExactTicksToEmpty.j0 k l0 t641 true))) = some r := H
    have A6 := Aside0.mk A60
    clear A60
    replace H := Option.bind_eq_some_iff.mp H
    obtain ⟨⟨t644, t645⟩, A70, H⟩ := H
    replace H : (if t644 = t639 then (laws_FnExactTicksToEmpty.j0 k l0 t641 (t645 != t640)) else (laws_FnExactTicksToEmpty.j0 k l0 t641 true)) = some r := H
    have A7 := Aside0.mk A70
    clear A70
    have HC8 := Aside0.mk H
    clear H
    go_enter Try.func9, Try.ntmps9
    go_upto_region 8 with (first | ((with_reducible refine gate_callee (f := 23) rfl ?_); refine goesL_ (some 11) rfl rfl Try.func23 (by kernel_rfl) rfl #[.slice A0 l0.length c0, .int .i64 1048576] rfl (by (try simp only [List.map_toArray, List.map_cons, List.map_nil]); first | done | rfl | (simp only [List.length_drop, List.length_take]; rfl)) ?_; (with_reducible refine (laws_szBasinS.calls _ _ l0 1048576 t635 _ ?side1 ?side2 A2.out).mono ?_); (case side1 => repeat (first | exact HR0.out | (with_reducible refine Kd.C_alloc ?_ _) | (with_reducible refine Kd.C_drewN ?_ _) | (with_reducible refine Kd.C_drew ?_))); (case side2 => exact HC0.out); rintro e w' ⟨rfl, ⟨nd, rfl⟩⟩; refine ⟨_, rfl, ?_⟩) | ((with_reducible refine gate_callee (f := 25) rfl ?_); refine goesL_ (some 16) rfl rfl Try.func25 (by kernel_rfl) rfl #[.slice A0 l0.length c0] rfl (by (try simp only [List.map_toArray, List.map_cons, List.map_nil]); first | done | rfl | (simp only [List.length_drop, List.length_take]; rfl)) ?_; (with_reducible refine (laws_toBasinS.calls k _ _ l0 t636 _ ?side1 ?side2 A4.out).mono ?_); (case side1 => repeat (first | exact HR0.out | (with_reducible refine Kd.C_alloc ?_ _) | (with_reducible refine Kd.C_drewN ?_ _) | (with_reducible refine Kd.C_drew ?_))); (case side2 => exact HC0.out); rintro e w9 ⟨v637, rfl, ho0, hb⟩; refine ⟨_, rfl, ?_⟩; have n0_ := Aside0.mk (Kd.R_lower ho0 (below_size (by repeat (first | (with_reducible first | exact HB.out | apply below_alloc | apply pw_below_drewN | apply below_drew1) | exact HB.out)))); have n1_ := Aside0.mk (below_step (by repeat (first | (with_reducible first | exact HB.out | apply below_alloc | apply pw_below_drewN | apply below_drew1) | exact HB.out)) hb); clear HB; have HO638 := n0_; have HB := n1_; clear n0_ n1_; (try clear hb); (try clear hb2); (try clear hk); (try clear hi); (try clear ho0); obtain ⟨Ao10, co10, eo10⟩ := Kd.R_slice HO638.out; subst eo10) | ((with_reducible refine gate_callee (f := 40) rfl ?_); refine goesL_ (some 17) rfl rfl Try.func40 (by kernel_rfl) rfl #[.slice Ao10 t636.length co10] rfl (by (try simp only [List.map_toArray, List.map_cons, List.map_nil]); first | done | rfl | (simp only [List.length_drop, List.length_take]; rfl)) ?_; (with_reducible refine (spec_TicksToEmpty.calls k (fun k_ => some k_ = (.slice Ao10 t636.length co10 : Value).ownBlock) _ _ t636 t639 t640 _ ?side1 A5.out).mono ?_); (case side1 => exact Kd.R_V (Kd.R_tight rfl (HO638.out))); rintro e w11 ⟨rfl, hb⟩; refine ⟨_, rfl, ?_⟩; have n0_ := Aside0.mk (Kd.R_below (by (with_reducible repeat (first | apply Kd.R_alloc | apply Kd.R_drewN | apply Kd.R_drew)); exact HO638.out) hb); have n1_ := Aside0.mk (below_step (by repeat (first | (with_reducible first | exact HB.out | apply below_alloc | apply pw_below_drewN | apply below_drew1) | exact HB.out)) hb); clear HO638; clear HB; have HO638 := n0_; have HB := n1_; clear n0_ n1_; (try clear hb); (try clear hb2); (try clear hk); (try clear hi)) | ((with_reducible refine gate_callee (f := 25) rfl ?_); refine goesL_ (some 21) rfl rfl Try.func25 (by kernel_rfl) rfl #[.slice A0 l0.length c0] rfl (by (try simp only [List.map_toArray, List.map_cons, List.map_nil]); first | done | rfl | (simp only [List.length_drop, List.length_take]; rfl)) ?_; (with_reducible refine (laws_toBasinS.calls k _ _ l0 t641 _ ?side1 ?side2 A6.out).mono ?_); (case side1 => repeat (first | exact (Kd.C_below HR0.out HB.out) | (with_reducible refine Kd.C_alloc ?_ _) | (with_reducible refine Kd.C_drewN ?_ _) | (with_reducible refine Kd.C_drew ?_))); (case side2 => exact HC0.out); rintro e w12 ⟨v642, rfl, ho0, hb⟩; refine ⟨_, rfl, ?_⟩; have n0_ := Aside0.mk (Kd.R_elder' (by (with_reducible repeat (first | apply Kd.R_alloc | apply Kd.R_drewN | apply Kd.R_drew)); exact HO638.out) (Kd.R_base ho0) hb); have n1_ := Aside0.mk (Kd.R_lower (Kd.R_new' ho0 (Kd.R_lt (by (with_reducible repeat (first | apply Kd.R_alloc | apply Kd.R_drewN | apply Kd.R_drew)); exact HO638.out))) (below_size (by repeat (first | (with_reducible first | exact HB.out | apply below_alloc | apply pw_below_drewN | apply below_drew1) | exact HB.out)))); have n2_ := Aside0.mk (below_step (by repeat (first | (with_reducible first | exact HB.out | apply below_alloc | apply pw_below_drewN | apply below_drew1) | exact HB.out)) hb); clear HO638; clear HB; have HO638 := n0_; have HO643 := n1_; have HB := n2_; clear n0_ n1_ n2_; (try clear hb); (try clear hb2); (try clear hk); (try clear hi); (try clear ho0); obtain ⟨Ao13, co13, eo13⟩ := Kd.R_slice HO643.out; subst eo13) | ((with_reducible refine gate_callee (f := 41) rfl ?_); refine goesL_ (some 24) rfl rfl Try.func41 (by kernel_rfl) rfl #[.slice Ao13 t641.length co13] rfl (by (try simp only [List.map_toArray, List.map_cons, List.map_nil]); first | done | rfl | (simp only [List.length_drop, List.length_take]; rfl)) ?_; (with_reducible refine (impl_TicksToEmpty.calls k (fun k_ => some k_ = (.slice Ao13 t641.length co13 : Value).ownBlock) _ _ t641 t644 t645 _ ?side1 A7.out).mono ?_); (case side1 => exact Kd.R_V (Kd.R_tight rfl (HO643.out))); rintro e w14 ⟨rfl, hb⟩; refine ⟨_, rfl, ?_⟩; have n0_ := Aside0.mk (Kd.R_below (by (with_reducible repeat (first | apply Kd.R_alloc | apply Kd.R_drewN | apply Kd.R_drew)); exact HO638.out) hb); have n1_ := Aside0.mk (Kd.R_below (by (with_reducible repeat (first | apply Kd.R_alloc | apply Kd.R_drewN | apply Kd.R_drew)); exact HO643.out) hb); have n2_ := Aside0.mk (below_step (by repeat (first | (with_reducible first | exact HB.out | apply below_alloc | apply pw_below_drewN | apply below_drew1) | exact HB.out)) hb); clear HO638; clear HO643; clear HB; have HO638 := n0_; have HO643 := n1_; have HB := n2_; clear n0_ n1_ n2_; (try clear hb); (try clear hb2); (try clear hk); (try clear hi)))
    (try simp only [Act.put, List.setIfInBounds_toArray, List.set_cons_zero, List.set_cons_succ])
    go_cut [34] (fun v34 wc => ∃ (kq : Nat) (x34_7 : Bool), v34 = .bool x34_7 ∧ Aside0 (laws_FnExactTicksToEmpty.j0 kq l0 t641 x34_7 = some r) ∧ Aside0 (kq ≤ k) ∧ Aside0 (Kd.R k59 59 wc w.heap.size (fun _ => True) (.slice Ao13 t641.length co13) t641) ∧ Aside0 (Below w.heap.size w wc))
    case first =>
      have H := HC8.out
      clear HC8
      by_cases c15 : t644 = t639
      · rw [if_pos c15] at H
        have c15b0 : (t644 == t639) = true := beq_iff_eq.mpr c15
        have c15b1 : (t644 != t639) = false := bne_eq_false_iff_eq.mpr c15
        clear c15
        (first | rw [c15b0] | (simp only [i64_w, i32_w]; rw [c15b0]) | skip)
        have H' := Aside0.mk H
        clear H
        go_wp2
        go_meet
        case rel => exact ⟨_, ((t645 != t640)), (by first | rfl | (simp; done) | (simp [*]; done)), H', ⟨by first | omega | exact Nat.le_refl _⟩, ⟨by (with_reducible repeat (first | apply Kd.R_alloc | apply Kd.R_drewN | apply Kd.R_drew)); exact Kd.R_mono HO643.out (fun _ hk => trivial)⟩, ⟨by repeat (first | (with_reducible first | exact HB.out | apply below_alloc | apply pw_below_drewN | apply below_drew1) | exact HB.out)⟩⟩
      · rw [if_neg c15] at H
        have c15b0 : (t644 == t639) = false := beq_eq_false_iff_ne.mpr c15
        have c15b1 : (t644 != t639) = true := bne_iff_ne.mpr c15
        (first | rw [c15b0] | (simp only [i64_w, i32_w]; rw [c15b0]) | skip)
        have H' := Aside0.mk H
        clear H
        go_wp2
        go_meet
        case rel => exact ⟨_, (true), (by first | rfl | (simp; done) | (simp [*]; done)), H', ⟨by first | omega | exact Nat.le_refl _⟩, ⟨by (with_reducible repeat (first | apply Kd.R_alloc | apply Kd.R_drewN | apply Kd.R_drew)); exact Kd.R_mono HO643.out (fun _ hk => trivial)⟩, ⟨by repeat (first | (with_reducible first | exact HB.out | apply below_alloc | apply pw_below_drewN | apply below_drew1) | exact HB.out)⟩⟩
    case rest =>
      clear HC8
      try clear c1
      try clear c2
      try clear p2
      try clear c3
      try clear c3b0
      try clear c4
      try clear c9
      try clear c15
      try clear c15b0
      try clear c15b1
      obtain ⟨kq, x34_7, rfl, HA, HJ7, HO_6, HB⟩ := hcut
      cases kq with
      | zero => exact absurd HA.out (by simp [laws_FnExactTicksToEmpty.j0])
      | succ kj7 =>
        have H := HA.out
        clear HA
        simp only [laws_FnExactTicksToEmpty.j0] at H
        by_cases c16 : x34_7 = true
        · subst c16
          have H1 : (some false) = some r := by rw [if_pos rfl] at H; exact H
          clear H
          have H := H1
          clear H1
          obtain rfl := Option.some.inj H
          go_wp2
          go_ret
          exact ⟨by first | rfl | (simp [errW_none, errW_some] <;> rfl) | (simp [*, errW_none, errW_some] <;> rfl), by repeat (first | (with_reducible first | exact HB.out | apply below_alloc | apply pw_below_drewN | apply below_drew1) | exact HB.out)⟩
        · replace c16 := Bool.eq_false_iff.mpr c16
          subst c16
          have H1 : ((laws_toBasinS.f kj7 l0).bind fun t646 => ((laws_eqBasinS.f kj7 t641 t646).bind fun t649 => (if t649 = true then (some true) else (some false)))) = some r := by rw [if_neg (show ¬ (false = true) by decide)] at H; exact H
          clear H
          have H := H1
          clear H1
          replace H := Option.bind_eq_some_iff.mp H
          obtain ⟨t646, A170, H⟩ := H
          replace H : ((laws_eqBasinS.f kj7 t641 t646).bind fun t649 => (if t649 = true then (some true) else (some false))) = some r := H
          have A17 := Aside0.mk A170
          clear A170
          replace H := Option.bind_eq_some_iff.mp H
          obtain ⟨t649, A180, H⟩ := H
          replace H : (if t649 = true then (some true) else (some false)) = some r := H
          have A18 := Aside0.mk A180
          clear A180
          by_cases c19 : t649 = true
          · subst c19
            have H1 : (some true) = some r := by rw [if_pos rfl] at H; exact H
            clear H
            have H := H1
            clear H1
            obtain rfl := Option.some.inj H
            go_wp2_with (first | ((with_reducible refine gate_callee (f := 25) rfl ?_); refine goesL_ (some 37) rfl rfl Try.func25 (by kernel_rfl) rfl #[.slice A0 l0.length c0] rfl (by (try simp only [List.map_toArray, List.map_cons, List.map_nil]); first | done | rfl | (simp only [List.length_drop, List.length_take]; rfl)) ?_; (with_reducible refine (laws_toBasinS.calls kj7 _ _ l0 t646 _ ?side1 ?side2 A17.out).mono ?_); (case side1 => repeat (first | exact (Kd.C_below HR0.out HB.out) | (with_reducible refine Kd.C_alloc ?_ _) | (with_reducible refine Kd.C_drewN ?_ _) | (with_reducible refine Kd.C_drew ?_))); (case side2 => exact HC0.out); rintro e w20 ⟨v647, rfl, ho0, hb⟩; refine ⟨_, rfl, ?_⟩; have n0_ := Aside0.mk (Kd.R_elder' (by (with_reducible repeat (first | apply Kd.R_alloc | apply Kd.R_drewN | apply Kd.R_drew)); exact HO_6.out) (Kd.R_base ho0) hb); have n1_ := Aside0.mk (Kd.R_lower (Kd.R_new' ho0 (Kd.R_lt (by (with_reducible repeat (first | apply Kd.R_alloc | apply Kd.R_drewN | apply Kd.R_drew)); exact HO_6.out))) (below_size (by repeat (first | (with_reducible first | exact HB.out | apply below_alloc | apply pw_below_drewN | apply below_drew1) | exact HB.out)))); have n2_ := Aside0.mk (below_step (by repeat (first | (with_reducible first | exact HB.out | apply below_alloc | apply pw_below_drewN | apply below_drew1) | exact HB.out)) hb); clear HO_6; clear HB; have HO_6 := n0_; have HO648 := n1_; have HB := n2_; clear n0_ n1_ n2_; (try clear hb); (try clear hb2); (try clear hk); (try clear hi); (try clear ho0); obtain ⟨Ao21, co21, eo21⟩ := Kd.R_slice HO648.out; subst eo21) | ((with_reducible refine gate_callee (f := 27) rfl ?_); refine goesL_ (some 38) rfl rfl Try.func27 (by kernel_rfl) rfl #[.slice Ao13 t641.length co13, .slice Ao21 t646.length co21] rfl (by (try simp only [List.map_toArray, List.map_cons, List.map_nil]); first | done | rfl | (simp only [List.length_drop, List.length_take]; rfl)) ?_; (with_reducible refine (laws_eqBasinS.calls kj7 _ _ t641 _ _ t646 true _ ?side1 ?side2 ?side3 ?side4 A18.out).mono ?_); (case side1 => repeat (first | exact (Kd.R_reads' HO_6.out).2.2 | (with_reducible refine Kd.C_alloc ?_ _) | (with_reducible refine Kd.C_drewN ?_ _) | (with_reducible refine Kd.C_drew ?_))); (case side2 => exact (Kd.R_reads' HO_6.out).2.1); (case side3 => repeat (first | exact (Kd.R_reads' HO648.out).2.2 | (with_reducible refine Kd.C_alloc ?_ _) | (with_reducible refine Kd.C_drewN ?_ _) | (with_reducible refine Kd.C_drew ?_))); (case side4 => exact (Kd.R_reads' HO648.out).2.1); rintro e w22 ⟨rfl, hb⟩; refine ⟨_, rfl, ?_⟩; have n0_ := Aside0.mk (Kd.R_below (by (with_reducible repeat (first | apply Kd.R_alloc | apply Kd.R_drewN | apply Kd.R_drew)); exact HO_6.out) hb); have n1_ := Aside0.mk (Kd.R_below (by (with_reducible repeat (first | apply Kd.R_alloc | apply Kd.R_drewN | apply Kd.R_drew)); exact HO648.out) hb); have n2_ := Aside0.mk (below_step (by repeat (first | (with_reducible first | exact HB.out | apply below_alloc | apply pw_below_drewN | apply below_drew1) | exact HB.out)) hb); clear HO_6; clear HO648; clear HB; have HO_6 := n0_; have HO648 := n1_; have HB := n2_; clear n0_ n1_ n2_; (try clear hb); (try clear hb2); (try clear hk); (try clear hi)))
            go_ret
            exact ⟨by first | rfl | (simp [errW_none, errW_some] <;> rfl) | (simp [*, errW_none, errW_some] <;> rfl), by repeat (first | (with_reducible first | exact HB.out | apply below_alloc | apply pw_below_drewN | apply below_drew1) | exact HB.out)⟩
          · replace c19 := Bool.eq_false_iff.mpr c19
            subst c19
            have H1 : (some false) = some r := by rw [if_neg (show ¬ (false = true) by decide)] at H; exact H
            clear H
            have H := H1
            clear H1
            obtain rfl := Option.some.inj H
            go_wp2_with (first | ((with_reducible refine gate_callee (f := 25) rfl ?_); refine goesL_ (some 37) rfl rfl Try.func25 (by kernel_rfl) rfl #[.slice A0 l0.length c0] rfl (by (try simp only [List.map_toArray, List.map_cons, List.map_nil]); first | done | rfl | (simp only [List.length_drop, List.length_take]; rfl)) ?_; (with_reducible refine (laws_toBasinS.calls kj7 _ _ l0 t646 _ ?side1 ?side2 A17.out).mono ?_); (case side1 => repeat (first | exact (Kd.C_below HR0.out HB.out) | (with_reducible refine Kd.C_alloc ?_ _) | (with_reducible refine Kd.C_drewN ?_ _) | (with_reducible refine Kd.C_drew ?_))); (case side2 => exact HC0.out); rintro e w23 ⟨v647, rfl, ho0, hb⟩; refine ⟨_, rfl, ?_⟩; have n0_ := Aside0.mk (Kd.R_elder' (by (with_reducible repeat (first | apply Kd.R_alloc | apply Kd.R_drewN | apply Kd.R_drew)); exact HO_6.out) (Kd.R_base ho0) hb); have n1_ := Aside0.mk (Kd.R_lower (Kd.R_new' ho0 (Kd.R_lt (by (with_reducible repeat (first | apply Kd.R_alloc | apply Kd.R_drewN | apply Kd.R_drew)); exact HO_6.out))) (below_size (by repeat (first | (with_reducible first | exact HB.out | apply below_alloc | apply pw_below_drewN | apply below_drew1) | exact HB.out)))); have n2_ := Aside0.mk (below_step (by repeat (first | (with_reducible first | exact HB.out | apply below_alloc | apply pw_below_drewN | apply below_drew1) | exact HB.out)) hb); clear HO_6; clear HB; have HO_6 := n0_; have HO648 := n1_; have HB := n2_; clear n0_ n1_ n2_; (try clear hb); (try clear hb2); (try clear hk); (try clear hi); (try clear ho0); obtain ⟨Ao24, co24, eo24⟩ := Kd.R_slice HO648.out; subst eo24) | ((with_reducible refine gate_callee (f := 27) rfl ?_); refine goesL_ (some 38) rfl rfl Try.func27 (by kernel_rfl) rfl #[.slice Ao13 t641.length co13, .slice Ao24 t646.length co24] rfl (by (try simp only [List.map_toArray, List.map_cons, List.map_nil]); first | done | rfl | (simp only [List.length_drop, List.length_take]; rfl)) ?_; (with_reducible refine (laws_eqBasinS.calls kj7 _ _ t641 _ _ t646 false _ ?side1 ?side2 ?side3 ?side4 A18.out).mono ?_); (case side1 => repeat (first | exact (Kd.R_reads' HO_6.out).2.2 | (with_reducible refine Kd.C_alloc ?_ _) | (with_reducible refine Kd.C_drewN ?_ _) | (with_reducible refine Kd.C_drew ?_))); (case side2 => exact (Kd.R_reads' HO_6.out).2.1); (case side3 => repeat (first | exact (Kd.R_reads' HO648.out).2.2 | (with_reducible refine Kd.C_alloc ?_ _) | (with_reducible refine Kd.C_drewN ?_ _) | (with_reducible refine Kd.C_drew ?_))); (case side4 => exact (Kd.R_reads' HO648.out).2.1); rintro e w25 ⟨rfl, hb⟩; refine ⟨_, rfl, ?_⟩; have n0_ := Aside0.mk (Kd.R_below (by (with_reducible repeat (first | apply Kd.R_alloc | apply Kd.R_drewN | apply Kd.R_drew)); exact HO_6.out) hb); have n1_ := Aside0.mk (Kd.R_below (by (with_reducible repeat (first | apply Kd.R_alloc | apply Kd.R_drewN | apply Kd.R_drew)); exact HO648.out) hb); have n2_ := Aside0.mk (below_step (by repeat (first | (with_reducible first | exact HB.out | apply below_alloc | apply pw_below_drewN | apply below_drew1) | exact HB.out)) hb); clear HO_6; clear HO648; clear HB; have HO_6 := n0_; have HO648 := n1_; have HB := n2_; clear n0_ n1_ n2_; (try clear hb); (try clear hb2); (try clear hk); (try clear hi)))
            go_ret
            exact ⟨by first | rfl | (simp [errW_none, errW_some] <;> rfl) | (simp [*, errW_none, errW_some] <;> rfl), by repeat (first | (with_reducible first | exact HB.out | apply below_alloc | apply pw_below_drewN | apply below_drew1) | exact HB.out)⟩

end Go.Proofs.Ytcalhmjnoahliaa.Pr
