/- What the Go functions of this seat compute, each with the proof that its call computes it; laid by a program of this session (wip/tools/ownprint.py), for all inputs. -/
import Derived.Test.YtcalhmjnoahliaaPr0
import Derived.Test.YtcalhmjnoahliaaPr1
import Derived.Test.YtcalhmjnoahliaaPr2
import Derived.Test.YtcalhmjnoahliaaPr3
import Derived.Test.YtcalhmjnoahliaaPr6
namespace Go.Proofs.Ytcalhmjnoahliaa.Pr
open Go.RowKit Go.Proofs.YtcalhmjnoahliaaW.PrintWords Go.Proofs.YtcalhmjnoahliaaW.PrintLast Go.Proofs.YtcalhmjnoahliaaW.PrintMore
attribute [local go_sem] max2_int min2_int max_two min_two max_three min_three max_four min_four   -- for this text's walks alone
set_option linter.unusedVariables false
set_option linter.unusedSimpArgs false

attribute [local go_sem high] eqA59
/-! ### spec_SteadyHeld: function 48 -/
mutual
def spec_SteadyHeld.j0 : Nat → List (S59) → Int → Bool → Option (List Int × Bool)
  | 0, _, _, _ => none
  | k + 1, x0, x1, x22 => if x22 = true then (some (([] : List Int), false)) else (spec_SteadyHeld.l0 k x0 x1 true)
def spec_SteadyHeld.l0 : Nat → List (S59) → Int → Bool → Option (List Int × Bool)
  | 0, _, _, _ => none
  | k + 1, x0, x1, x6 => if x6 = true then ((spec_weTick.f k x0 x1).bind fun bt486 => (spec_SteadyHeld.l1 k x0 x1 false bt486.1 bt486.1 (bt486.1.length : Int) 0)) else (spec_SteadyHeld.l2 k ([] : List Int) x0 (x0.length : Int) 0)
def spec_SteadyHeld.l1 : Nat → List (S59) → Int → Bool → List (S59) → List (S59) → Int → Int → Option (List Int × Bool)
  | 0, _, _, _, _, _, _, _ => none
  | k + 1, x0, x1, x6, x7, x31, x32, x33 => if x33 < x32 then (if 0 ≤ x33 then (if x33 < (x31.length : Int) then (if x6 = true then (spec_SteadyHeld.l1 k x0 x1 true x7 x31 x32 (wrap64 (x33 + 1))) else (if x33 < (x0.length : Int) then (spec_SteadyHeld.l1 k x0 x1 (!(((rd_T59 x31 x33).f0) == ((rd_T59 x0 x33).f0)) || (!(((rd_T59 x31 x33).f1) == ((rd_T59 x0 x33).f1)) || (!(((rd_T59 x31 x33).f2) == ((rd_T59 x0 x33).f2))))) x7 x31 x32 (wrap64 (x33 + 1))) else (none))) else (none)) else (none)) else (spec_SteadyHeld.l0 k x7 x1 x6)
def spec_SteadyHeld.l2 : Nat → List Int → List (S59) → Int → Int → Option (List Int × Bool)
  | 0, _, _, _, _ => none
  | k + 1, x12, x49, x50, x51 => if x51 < x50 then (if 0 ≤ x51 then (if x51 < (x49.length : Int) then (if x12.length < 17592186044416 then (spec_SteadyHeld.l2 k (x12 ++ [(rd_T59 x49 x51).f2]) x49 x50 (wrap64 (x51 + 1))) else (none)) else (none)) else (none)) else (some (x12, true))
end
def spec_SteadyHeld.f (k : Nat) (l0 : List (S59)) (a1 : Int) : Option (List Int × Bool) := (spec_weRow.f k l0).bind fun t484 => (if t484 = true then ((spec_l1In.f a1 0 1000).bind fun t485 => (spec_SteadyHeld.j0 k l0 a1 (!t485))) else (spec_SteadyHeld.j0 k l0 a1 true))
theorem spec_SteadyHeld.mono_l : ∀ k, (∀ y0 y1 y2, LeO (spec_SteadyHeld.j0 k y0 y1 y2) (spec_SteadyHeld.j0 (k + 1) y0 y1 y2)) ∧ (∀ y0 y1 y2, LeO (spec_SteadyHeld.l0 k y0 y1 y2) (spec_SteadyHeld.l0 (k + 1) y0 y1 y2)) ∧ (∀ y0 y1 y2 y3 y4 y5 y6, LeO (spec_SteadyHeld.l1 k y0 y1 y2 y3 y4 y5 y6) (spec_SteadyHeld.l1 (k + 1) y0 y1 y2 y3 y4 y5 y6)) ∧ (∀ y0 y1 y2 y3, LeO (spec_SteadyHeld.l2 k y0 y1 y2 y3) (spec_SteadyHeld.l2 (k + 1) y0 y1 y2 y3))
  | 0 => ⟨fun _ _ _ r h => by simp [spec_SteadyHeld.j0] at h, fun _ _ _ r h => by simp [spec_SteadyHeld.l0] at h, fun _ _ _ _ _ _ _ r h => by simp [spec_SteadyHeld.l1] at h, fun _ _ _ _ r h => by simp [spec_SteadyHeld.l2] at h⟩
  | k + 1 => by
    obtain ⟨ih0, ih1, ih2, ih3⟩ := spec_SteadyHeld.mono_l k
    refine ⟨?_, ?_, ?_, ?_⟩
    · intro y0 y1 y2
      unfold spec_SteadyHeld.j0
      repeat' first
      | (with_reducible exact ih0 _ _ _)
      | (with_reducible exact ih1 _ _ _)
      | (with_reducible exact ih2 _ _ _ _ _ _ _)
      | (with_reducible exact ih3 _ _ _ _)
      | (with_reducible exact spec_weRow.mono _ _)
      | (with_reducible exact spec_weTick.mono _ _ _)
      | (with_reducible exact LeO.refl _)
      | (with_reducible exact LeO.none _)
      | (with_reducible refine LeO.ite ?_ ?_)
      | (with_reducible refine LeO.bind ?_ (fun _ => ?_))
      | exact ih0 _ _ _
      | exact ih1 _ _ _
      | exact ih2 _ _ _ _ _ _ _
      | exact ih3 _ _ _ _
      | exact spec_weRow.mono _ _
      | exact spec_weTick.mono _ _ _
      | exact LeO.none _
      | refine LeO.ite ?_ ?_
      | refine LeO.bind ?_ (fun _ => ?_)
    · intro y0 y1 y2
      unfold spec_SteadyHeld.l0
      repeat' first
      | (with_reducible exact ih0 _ _ _)
      | (with_reducible exact ih1 _ _ _)
      | (with_reducible exact ih2 _ _ _ _ _ _ _)
      | (with_reducible exact ih3 _ _ _ _)
      | (with_reducible exact spec_weRow.mono _ _)
      | (with_reducible exact spec_weTick.mono _ _ _)
      | (with_reducible exact LeO.refl _)
      | (with_reducible exact LeO.none _)
      | (with_reducible refine LeO.ite ?_ ?_)
      | (with_reducible refine LeO.bind ?_ (fun _ => ?_))
      | exact ih0 _ _ _
      | exact ih1 _ _ _
      | exact ih2 _ _ _ _ _ _ _
      | exact ih3 _ _ _ _
      | exact spec_weRow.mono _ _
      | exact spec_weTick.mono _ _ _
      | exact LeO.none _
      | refine LeO.ite ?_ ?_
      | refine LeO.bind ?_ (fun _ => ?_)
    · intro y0 y1 y2 y3 y4 y5 y6
      unfold spec_SteadyHeld.l1
      repeat' first
      | (with_reducible exact ih0 _ _ _)
      | (with_reducible exact ih1 _ _ _)
      | (with_reducible exact ih2 _ _ _ _ _ _ _)
      | (with_reducible exact ih3 _ _ _ _)
      | (with_reducible exact spec_weRow.mono _ _)
      | (with_reducible exact spec_weTick.mono _ _ _)
      | (with_reducible exact LeO.refl _)
      | (with_reducible exact LeO.none _)
      | (with_reducible refine LeO.ite ?_ ?_)
      | (with_reducible refine LeO.bind ?_ (fun _ => ?_))
      | exact ih0 _ _ _
      | exact ih1 _ _ _
      | exact ih2 _ _ _ _ _ _ _
      | exact ih3 _ _ _ _
      | exact spec_weRow.mono _ _
      | exact spec_weTick.mono _ _ _
      | exact LeO.none _
      | refine LeO.ite ?_ ?_
      | refine LeO.bind ?_ (fun _ => ?_)
    · intro y0 y1 y2 y3
      unfold spec_SteadyHeld.l2
      repeat' first
      | (with_reducible exact ih0 _ _ _)
      | (with_reducible exact ih1 _ _ _)
      | (with_reducible exact ih2 _ _ _ _ _ _ _)
      | (with_reducible exact ih3 _ _ _ _)
      | (with_reducible exact spec_weRow.mono _ _)
      | (with_reducible exact spec_weTick.mono _ _ _)
      | (with_reducible exact LeO.refl _)
      | (with_reducible exact LeO.none _)
      | (with_reducible refine LeO.ite ?_ ?_)
      | (with_reducible refine LeO.bind ?_ (fun _ => ?_))
      | exact ih0 _ _ _
      | exact ih1 _ _ _
      | exact ih2 _ _ _ _ _ _ _
      | exact ih3 _ _ _ _
      | exact spec_weRow.mono _ _
      | exact spec_weTick.mono _ _ _
      | exact LeO.none _
      | refine LeO.ite ?_ ?_
      | refine LeO.bind ?_ (fun _ => ?_)
theorem spec_SteadyHeld.mono : ∀ a0 a1 k, LeO (spec_SteadyHeld.f k a0 a1) (spec_SteadyHeld.f (k + 1) a0 a1) := by
  intro a0 a1 k
  obtain ⟨ih0, ih1, ih2, ih3⟩ := spec_SteadyHeld.mono_l k
  unfold spec_SteadyHeld.f
  repeat' first
      | (with_reducible exact ih0 _ _ _)
      | (with_reducible exact ih1 _ _ _)
      | (with_reducible exact ih2 _ _ _ _ _ _ _)
      | (with_reducible exact ih3 _ _ _ _)
      | (with_reducible exact spec_weRow.mono _ _)
      | (with_reducible exact spec_weTick.mono _ _ _)
      | (with_reducible exact LeO.refl _)
      | (with_reducible exact LeO.none _)
      | (with_reducible refine LeO.ite ?_ ?_)
      | (with_reducible refine LeO.bind ?_ (fun _ => ?_))
      | exact ih0 _ _ _
      | exact ih1 _ _ _
      | exact ih2 _ _ _ _ _ _ _
      | exact ih3 _ _ _ _
      | exact spec_weRow.mono _ _
      | exact spec_weTick.mono _ _ _
      | exact LeO.none _
      | refine LeO.ite ?_ ?_
      | refine LeO.bind ?_ (fun _ => ?_)
/-- A row that is only read, whose block may not be g: its block is not g. -/
theorem V_apart_s {α : Type} {d : Kd α} {e : Nat} {W : World} {base : Nat} {ok : Nat → Prop} {ad : Addr} {n c : Nat} {xs : List α} (hsz : 0 < d.sz) (h : Kd.V d e W base ok (.slice (some ad) n c) xs) (i : Int) (h0 : 0 ≤ i) (h1 : i < n) {g : Nat} (hg : ¬ ok g) : ad.block ≠ g := by
  intro e
  have hf := Kd.V_F h
  obtain ⟨hl, _, hr⟩ := hf { W with heap := W.heap.setIfInBounds g (.cells #[] 0 (0, 0)) } (fun k hk _ => by
    have hne : g ≠ k := fun e => hg (e ▸ hk)
    simp [hne])
  obtain ⟨ad', e', hc⟩ := hr (by omega)
  cases e'
  have hx : 0 < xs.length := by omega
  obtain ⟨c', hc1, _, hc3⟩ := hc 0 _ (List.getElem?_eq_getElem hx)
  have := hc3 0 _ (List.getElem?_eq_getElem (by omega))
  unfold World.cell? at this
  rw [add_block, e, Array.getElem?_setIfInBounds] at this
  split at this
  · rename_i c2 _ _ hq
    split at this
    · cases this
    · rw [if_pos rfl] at hq
      split at hq
      · injection hq with hq
        injection hq with hq
        subst hq
        simp at this
      · cases hq
  · cases this
set_option maxHeartbeats 8000000 in
set_option maxRecDepth 100000 in
theorem spec_SteadyHeld.calls (k : Nat) (P0_ : Nat → Prop) (A0 : Option Addr) (c0 : Nat) (l0 : List (S59)) (a1 : Int) (r1 : List Int) (r2 : Bool) (w : World) (hs0 : Kd.V k59 59 w w.heap.size (fun k_ => P0_ k_) (.slice A0 l0.length c0) l0) (h : spec_SteadyHeld.f k l0 a1 = some (r1, r2)) :
    Calls Try.prog 48 #[.slice A0 l0.length c0, .int .i64 a1] w fun e w' => ∃ v0_ : Value, e = .returned (.tuple #[v0_, .bool r2]) ∧ Kd.R (Kd.int .i64) 3 w' w.heap.size (fun k_ => (w.heap.size ≤ k_)) v0_ r1 ∧ Below w.heap.size w w' := by
  have hu59 := Try.underlying59
  have HO0 := Aside0.mk (show Kd.V k59 59 w w.heap.size (fun k_ => (P0_ k_ ∨ w.heap.size ≤ k_)) (.slice A0 l0.length c0) l0 from Kd.V_mono hs0 (fun k_ hk => .inl hk))
  have HB := Aside0.mk (Below.refl w.heap.size w)
  have H : ((spec_weRow.f k l0).bind fun t484 => (if t484 = true then ((spec_l1In.f a1 0 1000).bind fun t485 => (spec_SteadyHeld.j0 k l0 a1 (!t485))) else (spec_SteadyHeld.j0 k l0 a1 true))) = some (r1, r2) := h
  clear h
  have HC3 := Aside0.mk H
  clear H
  go_enter Try.func48, Try.ntmps48
  go_upto_region 1 with (fail)
  repeat (go_quiet (fail); go_upto_region 1 with (fail))
  go_cut [22] (fun v22 wc => ∃ (kq : Nat) (x22_2 : Bool), v22 = .bool x22_2 ∧ Aside0 (spec_SteadyHeld.j0 kq l0 a1 x22_2 = some (r1, r2)) ∧ Aside0 (kq ≤ k) ∧ Aside0 (Kd.V k59 59 wc w.heap.size (fun k_ => (P0_ k_ ∨ w.heap.size ≤ k_)) (.slice A0 l0.length c0) l0) ∧ Aside0 (Below w.heap.size w wc))
  case first =>
    have H := HC3.out
    clear HC3
    replace H := Option.bind_eq_some_iff.mp H
    obtain ⟨t484, A40, H⟩ := H
    replace H : (if t484 = true then ((spec_l1In.f a1 0 1000).bind fun t485 => (spec_SteadyHeld.j0 k l0 a1 (!t485))) else (spec_SteadyHeld.j0 k l0 a1 true)) = some (r1, r2) := H
    have A4 := Aside0.mk A40
    clear A40
    by_cases c5 : t484 = true
    · subst c5
      have H1 : ((spec_l1In.f a1 0 1000).bind fun t485 => (spec_SteadyHeld.j0 k l0 a1 (!t485))) = some (r1, r2) := by rw [if_pos rfl] at H; exact H
      clear H
      have H := H1
      clear H1
      replace H := Option.bind_eq_some_iff.mp H
      obtain ⟨t485, A60, H⟩ := H
      replace H : (spec_SteadyHeld.j0 k l0 a1 (!t485)) = some (r1, r2) := H
      have A6 := Aside0.mk A60
      clear A60
      have H' := Aside0.mk H
      clear H
      go_wp2_with (first | (go_at_call 62; (with_reducible refine (spec_weRow.calls k _ _ l0 true _ ?side1 ?side2 A4.out).mono ?_); (case side1 => repeat (first | exact (Kd.V_reads' HO0.out).2.2 | (with_reducible refine Kd.C_alloc ?_ _) | (with_reducible refine Kd.C_drewN ?_ _) | (with_reducible refine Kd.C_drew ?_))); (case side2 => exact (Kd.V_reads' HO0.out).2.1); rintro e w7 ⟨rfl, hb⟩; have n0_ := Aside0.mk (Kd.V_below (by (with_reducible repeat (first | apply Kd.V_alloc | apply Kd.V_drewN | apply Kd.V_drew)); exact HO0.out) hb); have n1_ := Aside0.mk (below_step (by repeat (first | (with_reducible first | exact HB.out | apply below_alloc | apply pw_below_drewN | apply below_drew1) | exact HB.out)) hb); clear HO0; clear HB; have HO0 := n0_; have HB := n1_; clear n0_ n1_; (try clear hb); (try clear hb2); (try clear hk); (try clear hi)) | (go_at_call 72; (with_reducible refine (spec_l1In.calls a1 0 1000 t485 _ A6.out).mono ?_); rintro e w' ⟨rfl, ⟨nd, rfl⟩⟩; (try first | exact ⟨rfl, _, World.drewN_drewN _ _ _⟩ | exact ⟨rfl, _, Eq.trans (World.drewN_drewN _ _ _) (congrArg (World.drewN _) (Nat.add_assoc _ _ _))⟩)))
      repeat (go_quiet (first | (go_at_call 62; (with_reducible refine (spec_weRow.calls k _ _ l0 true _ ?side1 ?side2 A4.out).mono ?_); (case side1 => repeat (first | exact (Kd.V_reads' HO0.out).2.2 | (with_reducible refine Kd.C_alloc ?_ _) | (with_reducible refine Kd.C_drewN ?_ _) | (with_reducible refine Kd.C_drew ?_))); (case side2 => exact (Kd.V_reads' HO0.out).2.1); rintro e w7 ⟨rfl, hb⟩; have n0_ := Aside0.mk (Kd.V_below (by (with_reducible repeat (first | apply Kd.V_alloc | apply Kd.V_drewN | apply Kd.V_drew)); exact HO0.out) hb); have n1_ := Aside0.mk (below_step (by repeat (first | (with_reducible first | exact HB.out | apply below_alloc | apply pw_below_drewN | apply below_drew1) | exact HB.out)) hb); clear HO0; clear HB; have HO0 := n0_; have HB := n1_; clear n0_ n1_; (try clear hb); (try clear hb2); (try clear hk); (try clear hi)) | (go_at_call 72; (with_reducible refine (spec_l1In.calls a1 0 1000 t485 _ A6.out).mono ?_); rintro e w' ⟨rfl, ⟨nd, rfl⟩⟩; (try first | exact ⟨rfl, _, World.drewN_drewN _ _ _⟩ | exact ⟨rfl, _, Eq.trans (World.drewN_drewN _ _ _) (congrArg (World.drewN _) (Nat.add_assoc _ _ _))⟩))); try go_wp2_with (first | (go_at_call 62; (with_reducible refine (spec_weRow.calls k _ _ l0 true _ ?side1 ?side2 A4.out).mono ?_); (case side1 => repeat (first | exact (Kd.V_reads' HO0.out).2.2 | (with_reducible refine Kd.C_alloc ?_ _) | (with_reducible refine Kd.C_drewN ?_ _) | (with_reducible refine Kd.C_drew ?_))); (case side2 => exact (Kd.V_reads' HO0.out).2.1); rintro e w7 ⟨rfl, hb⟩; have n0_ := Aside0.mk (Kd.V_below (by (with_reducible repeat (first | apply Kd.V_alloc | apply Kd.V_drewN | apply Kd.V_drew)); exact HO0.out) hb); have n1_ := Aside0.mk (below_step (by repeat (first | (with_reducible first | exact HB.out | apply below_alloc | apply pw_below_drewN | apply below_drew1) | exact HB.out)) hb); clear HO0; clear HB; have HO0 := n0_; have HB := n1_; clear n0_ n1_; (try clear hb); (try clear hb2); (try clear hk); (try clear hi)) | (go_at_call 72; (with_reducible refine (spec_l1In.calls a1 0 1000 t485 _ A6.out).mono ?_); rintro e w' ⟨rfl, ⟨nd, rfl⟩⟩; (try first | exact ⟨rfl, _, World.drewN_drewN _ _ _⟩ | exact ⟨rfl, _, Eq.trans (World.drewN_drewN _ _ _) (congrArg (World.drewN _) (Nat.add_assoc _ _ _))⟩))))
      go_meet
      case rel => exact ⟨_, (!t485), (by first | rfl | (simp; done) | (simp [*]; done)), H', ⟨by first | omega | exact Nat.le_refl _⟩, ⟨by (with_reducible repeat (first | apply Kd.V_alloc | apply Kd.V_drewN | apply Kd.V_drew)); exact HO0.out⟩, ⟨by repeat (first | (with_reducible first | exact HB.out | apply below_alloc | apply pw_below_drewN | apply below_drew1) | exact HB.out)⟩⟩
    · replace c5 := Bool.eq_false_iff.mpr c5
      subst c5
      have H1 : (spec_SteadyHeld.j0 k l0 a1 true) = some (r1, r2) := by rw [if_neg (show ¬ (false = true) by decide)] at H; exact H
      clear H
      have H := H1
      clear H1
      have H' := Aside0.mk H
      clear H
      go_wp2_with (first | (go_at_call 62; (with_reducible refine (spec_weRow.calls k _ _ l0 false _ ?side1 ?side2 A4.out).mono ?_); (case side1 => repeat (first | exact (Kd.V_reads' HO0.out).2.2 | (with_reducible refine Kd.C_alloc ?_ _) | (with_reducible refine Kd.C_drewN ?_ _) | (with_reducible refine Kd.C_drew ?_))); (case side2 => exact (Kd.V_reads' HO0.out).2.1); rintro e w8 ⟨rfl, hb⟩; have n0_ := Aside0.mk (Kd.V_below (by (with_reducible repeat (first | apply Kd.V_alloc | apply Kd.V_drewN | apply Kd.V_drew)); exact HO0.out) hb); have n1_ := Aside0.mk (below_step (by repeat (first | (with_reducible first | exact HB.out | apply below_alloc | apply pw_below_drewN | apply below_drew1) | exact HB.out)) hb); clear HO0; clear HB; have HO0 := n0_; have HB := n1_; clear n0_ n1_; (try clear hb); (try clear hb2); (try clear hk); (try clear hi)))
      repeat (go_quiet (first | (go_at_call 62; (with_reducible refine (spec_weRow.calls k _ _ l0 false _ ?side1 ?side2 A4.out).mono ?_); (case side1 => repeat (first | exact (Kd.V_reads' HO0.out).2.2 | (with_reducible refine Kd.C_alloc ?_ _) | (with_reducible refine Kd.C_drewN ?_ _) | (with_reducible refine Kd.C_drew ?_))); (case side2 => exact (Kd.V_reads' HO0.out).2.1); rintro e w8 ⟨rfl, hb⟩; have n0_ := Aside0.mk (Kd.V_below (by (with_reducible repeat (first | apply Kd.V_alloc | apply Kd.V_drewN | apply Kd.V_drew)); exact HO0.out) hb); have n1_ := Aside0.mk (below_step (by repeat (first | (with_reducible first | exact HB.out | apply below_alloc | apply pw_below_drewN | apply below_drew1) | exact HB.out)) hb); clear HO0; clear HB; have HO0 := n0_; have HB := n1_; clear n0_ n1_; (try clear hb); (try clear hb2); (try clear hk); (try clear hi))); try go_wp2_with (first | (go_at_call 62; (with_reducible refine (spec_weRow.calls k _ _ l0 false _ ?side1 ?side2 A4.out).mono ?_); (case side1 => repeat (first | exact (Kd.V_reads' HO0.out).2.2 | (with_reducible refine Kd.C_alloc ?_ _) | (with_reducible refine Kd.C_drewN ?_ _) | (with_reducible refine Kd.C_drew ?_))); (case side2 => exact (Kd.V_reads' HO0.out).2.1); rintro e w8 ⟨rfl, hb⟩; have n0_ := Aside0.mk (Kd.V_below (by (with_reducible repeat (first | apply Kd.V_alloc | apply Kd.V_drewN | apply Kd.V_drew)); exact HO0.out) hb); have n1_ := Aside0.mk (below_step (by repeat (first | (with_reducible first | exact HB.out | apply below_alloc | apply pw_below_drewN | apply below_drew1) | exact HB.out)) hb); clear HO0; clear HB; have HO0 := n0_; have HB := n1_; clear n0_ n1_; (try clear hb); (try clear hb2); (try clear hk); (try clear hi))))
      go_meet
      case rel => exact ⟨_, (true), (by first | rfl | (simp; done) | (simp [*]; done)), H', ⟨by first | omega | exact Nat.le_refl _⟩, ⟨by (with_reducible repeat (first | apply Kd.V_alloc | apply Kd.V_drewN | apply Kd.V_drew)); exact HO0.out⟩, ⟨by repeat (first | (with_reducible first | exact HB.out | apply below_alloc | apply pw_below_drewN | apply below_drew1) | exact HB.out)⟩⟩
  case rest =>
    clear HC3
    try clear p2
    try clear c4
    try clear c5
    obtain ⟨kq, x22_2, rfl, HA, HJ2, HO_0, HB⟩ := hcut
    cases kq with
    | zero => exact absurd HA.out (by simp [spec_SteadyHeld.j0])
    | succ kj2 =>
      have H := HA.out
      clear HA
      simp only [spec_SteadyHeld.j0] at H
      by_cases c9 : x22_2 = true
      · subst c9
        have H1 : (some (([] : List Int), false)) = some (r1, r2) := by rw [if_pos rfl] at H; exact H
        clear H
        have H := H1
        clear H1
        simp only [Option.some.injEq, Prod.mk.injEq] at H
        obtain ⟨rfl, rfl⟩ := H
        go_wp2
        repeat (go_quiet (fail); try go_wp2)
        go_ret2
        exact ⟨_, by first | rfl | (simp [errW_none, errW_some] <;> rfl) | (simp [*, errW_none, errW_some] <;> rfl), by first | exact Kd.R_nil _ _ _ _ _ | exact Kd.N_nil _ _ _ _ _ | exact Kd.V_nil _ _ _ _ _ | exact Kd.Q_nil _ _ _ _ _ | exact Kd.S_nil _ _ _ _ _, by repeat (first | (with_reducible first | exact HB.out | apply below_alloc | apply pw_below_drewN | apply below_drew1) | exact HB.out)⟩
      · replace c9 := Bool.eq_false_iff.mpr c9
        subst c9
        have H1 : (spec_SteadyHeld.l0 kj2 l0 a1 true) = some (r1, r2) := by rw [if_neg (show ¬ (false = true) by decide)] at H; exact H
        clear H
        have H := H1
        clear H1
        have H' := Aside0.mk H
        clear H
        go_wp2
        repeat (go_quiet (fail); try go_wp2)
        go_loopg [0, 6] kj2 (fun kq v0 v6 w' => ∃ (x0_2 : List (S59)) (x6_2 : Bool), v6 = .bool x6_2 ∧ Aside0 (spec_SteadyHeld.l0 kq x0_2 a1 x6_2 = some (r1, r2)) ∧ Aside0 (kq ≤ kj2) ∧ Aside0 (Kd.V k59 59 w' w.heap.size (fun k_ => (P0_ k_ ∨ w.heap.size ≤ k_)) v0 x0_2) ∧ Aside0 (Below w.heap.size w w'))
        case atStart => exact ⟨(l0), (true), (by first | rfl | (simp; done) | (simp [*]; done)), H', ⟨Nat.le_refl _⟩, ⟨by (with_reducible repeat (first | apply Kd.V_alloc | apply Kd.V_drewN | apply Kd.V_drew)); exact HO_0.out⟩, ⟨by repeat (first | (with_reducible first | exact HB.out | apply below_alloc | apply pw_below_drewN | apply below_drew1) | exact HB.out)⟩⟩
        case round =>
          clear H'
          try clear p2
          try clear c4
          try clear c5
          try clear c9
          try clear p2
          obtain ⟨x0_2, x6_2, rfl, HA, HK2, HO_0, HB⟩ := hrel
          cases gk with
          | zero => exact absurd HA.out (by simp [spec_SteadyHeld.l0])
          | succ k2 =>
            have H := HA.out
            clear HA
            simp only [spec_SteadyHeld.l0] at H
            by_cases c10 : x6_2 = true
            · subst c10
              have H1 : ((spec_weTick.f k2 x0_2 a1).bind fun bt486 => (spec_SteadyHeld.l1 k2 x0_2 a1 false bt486.1 bt486.1 (bt486.1.length : Int) 0)) = some (r1, r2) := by rw [if_pos rfl] at H; exact H
              clear H
              have H := H1
              clear H1
              replace H := Option.bind_eq_some_iff.mp H
              obtain ⟨⟨t486, t487, t488⟩, A110, H⟩ := H
              replace H : (spec_SteadyHeld.l1 k2 x0_2 a1 false t486 t486 (t486.length : Int) 0) = some (r1, r2) := H
              have A11 := Aside0.mk A110
              clear A110
              have H' := Aside0.mk H
              clear H
              obtain ⟨Ao12, co12, eo12⟩ := Kd.V_slice HO_0.out
              subst eo12
              go_wp2_with (first | (go_at_call 73; (with_reducible refine (spec_weTick.calls k2 _ _ x0_2 a1 t486 t487 t488 _ ?side1 ?side2 A11.out).mono ?_); (case side1 => repeat (first | exact (Kd.V_reads' HO_0.out).2.2 | (with_reducible refine Kd.C_alloc ?_ _) | (with_reducible refine Kd.C_drewN ?_ _) | (with_reducible refine Kd.C_drew ?_))); (case side2 => exact (Kd.V_reads' HO_0.out).2.1); rintro e w13 ⟨v489, v491, rfl, ho0, ho1, hb⟩; have n0_ := Aside0.mk (Kd.V_mono (Kd.V_told (Kd.V_told (Kd.V_old (by (with_reducible repeat (first | apply Kd.V_alloc | apply Kd.V_drewN | apply Kd.V_drew)); exact HO_0.out) hb) (Kd.R_base ho0)) (Kd.R_base ho1)) (fun _ h_ => h_.1)); have n1_ := Aside0.mk (Kd.R_lower (Kd.R_newM (M := fun k_ => (w.heap.size ≤ k_)) ho0 (below_size (by repeat (first | (with_reducible first | exact HB.out | apply below_alloc | apply pw_below_drewN | apply below_drew1) | exact HB.out))) (fun k_ h_ => h_)) (below_size (by repeat (first | (with_reducible first | exact HB.out | apply below_alloc | apply pw_below_drewN | apply below_drew1) | exact HB.out)))); have n2_ := Aside0.mk (Kd.R_lower (Kd.R_newM (M := fun k_ => (w.heap.size ≤ k_)) ho1 (below_size (by repeat (first | (with_reducible first | exact HB.out | apply below_alloc | apply pw_below_drewN | apply below_drew1) | exact HB.out))) (fun k_ h_ => h_)) (below_size (by repeat (first | (with_reducible first | exact HB.out | apply below_alloc | apply pw_below_drewN | apply below_drew1) | exact HB.out)))); have n3_ := Aside0.mk (below_step (by repeat (first | (with_reducible first | exact HB.out | apply below_alloc | apply pw_below_drewN | apply below_drew1) | exact HB.out)) hb); clear HO_0; clear HB; have HO_0 := n0_; have HO490 := n1_; have HO492 := n2_; have HB := n3_; clear n0_ n1_ n2_ n3_; (try clear hb); (try clear hb2); (try clear hk); (try clear hi); (try clear ho0); (try clear ho1); obtain ⟨Ao14, co14, eo14⟩ := Kd.R_slice HO490.out; subst eo14))
              repeat (go_quiet (first | (go_at_call 73; (with_reducible refine (spec_weTick.calls k2 _ _ x0_2 a1 t486 t487 t488 _ ?side1 ?side2 A11.out).mono ?_); (case side1 => repeat (first | exact (Kd.V_reads' HO_0.out).2.2 | (with_reducible refine Kd.C_alloc ?_ _) | (with_reducible refine Kd.C_drewN ?_ _) | (with_reducible refine Kd.C_drew ?_))); (case side2 => exact (Kd.V_reads' HO_0.out).2.1); rintro e w13 ⟨v489, v491, rfl, ho0, ho1, hb⟩; have n0_ := Aside0.mk (Kd.V_mono (Kd.V_told (Kd.V_told (Kd.V_old (by (with_reducible repeat (first | apply Kd.V_alloc | apply Kd.V_drewN | apply Kd.V_drew)); exact HO_0.out) hb) (Kd.R_base ho0)) (Kd.R_base ho1)) (fun _ h_ => h_.1)); have n1_ := Aside0.mk (Kd.R_lower (Kd.R_newM (M := fun k_ => (w.heap.size ≤ k_)) ho0 (below_size (by repeat (first | (with_reducible first | exact HB.out | apply below_alloc | apply pw_below_drewN | apply below_drew1) | exact HB.out))) (fun k_ h_ => h_)) (below_size (by repeat (first | (with_reducible first | exact HB.out | apply below_alloc | apply pw_below_drewN | apply below_drew1) | exact HB.out)))); have n2_ := Aside0.mk (Kd.R_lower (Kd.R_newM (M := fun k_ => (w.heap.size ≤ k_)) ho1 (below_size (by repeat (first | (with_reducible first | exact HB.out | apply below_alloc | apply pw_below_drewN | apply below_drew1) | exact HB.out))) (fun k_ h_ => h_)) (below_size (by repeat (first | (with_reducible first | exact HB.out | apply below_alloc | apply pw_below_drewN | apply below_drew1) | exact HB.out)))); have n3_ := Aside0.mk (below_step (by repeat (first | (with_reducible first | exact HB.out | apply below_alloc | apply pw_below_drewN | apply below_drew1) | exact HB.out)) hb); clear HO_0; clear HB; have HO_0 := n0_; have HO490 := n1_; have HO492 := n2_; have HB := n3_; clear n0_ n1_ n2_ n3_; (try clear hb); (try clear hb2); (try clear hk); (try clear hi); (try clear ho0); (try clear ho1); obtain ⟨Ao14, co14, eo14⟩ := Kd.R_slice HO490.out; subst eo14)); try go_wp2_with (first | (go_at_call 73; (with_reducible refine (spec_weTick.calls k2 _ _ x0_2 a1 t486 t487 t488 _ ?side1 ?side2 A11.out).mono ?_); (case side1 => repeat (first | exact (Kd.V_reads' HO_0.out).2.2 | (with_reducible refine Kd.C_alloc ?_ _) | (with_reducible refine Kd.C_drewN ?_ _) | (with_reducible refine Kd.C_drew ?_))); (case side2 => exact (Kd.V_reads' HO_0.out).2.1); rintro e w13 ⟨v489, v491, rfl, ho0, ho1, hb⟩; have n0_ := Aside0.mk (Kd.V_mono (Kd.V_told (Kd.V_told (Kd.V_old (by (with_reducible repeat (first | apply Kd.V_alloc | apply Kd.V_drewN | apply Kd.V_drew)); exact HO_0.out) hb) (Kd.R_base ho0)) (Kd.R_base ho1)) (fun _ h_ => h_.1)); have n1_ := Aside0.mk (Kd.R_lower (Kd.R_newM (M := fun k_ => (w.heap.size ≤ k_)) ho0 (below_size (by repeat (first | (with_reducible first | exact HB.out | apply below_alloc | apply pw_below_drewN | apply below_drew1) | exact HB.out))) (fun k_ h_ => h_)) (below_size (by repeat (first | (with_reducible first | exact HB.out | apply below_alloc | apply pw_below_drewN | apply below_drew1) | exact HB.out)))); have n2_ := Aside0.mk (Kd.R_lower (Kd.R_newM (M := fun k_ => (w.heap.size ≤ k_)) ho1 (below_size (by repeat (first | (with_reducible first | exact HB.out | apply below_alloc | apply pw_below_drewN | apply below_drew1) | exact HB.out))) (fun k_ h_ => h_)) (below_size (by repeat (first | (with_reducible first | exact HB.out | apply below_alloc | apply pw_below_drewN | apply below_drew1) | exact HB.out)))); have n3_ := Aside0.mk (below_step (by repeat (first | (with_reducible first | exact HB.out | apply below_alloc | apply pw_below_drewN | apply below_drew1) | exact HB.out)) hb); clear HO_0; clear HB; have HO_0 := n0_; have HO490 := n1_; have HO492 := n2_; have HB := n3_; clear n0_ n1_ n2_ n3_; (try clear hb); (try clear hb2); (try clear hk); (try clear hi); (try clear ho0); (try clear ho1); obtain ⟨Ao14, co14, eo14⟩ := Kd.R_slice HO490.out; subst eo14)))
              go_loopg [6, 33] k2 (fun kq v6 v33 w' => ∃ (x6_3 : Bool) (x33_3 : Int), v6 = .bool x6_3 ∧ v33 = .int .i64 x33_3 ∧ Aside0 (spec_SteadyHeld.l1 kq x0_2 a1 x6_3 t486 t486 (t486.length : Int) x33_3 = some (r1, r2)) ∧ Aside0 (kq ≤ k2) ∧ Aside0 (Kd.V k59 59 w' w.heap.size (fun k_ => (P0_ k_ ∨ w.heap.size ≤ k_) ∧ some k_ ≠ ((.slice Ao14 t486.length co14) : Value).ownBlock ∧ some k_ ≠ ((.slice Ao14 t486.length co14) : Value).ownBlock) (.slice Ao12 x0_2.length co12) x0_2) ∧ Aside0 (Kd.R k59 59 w' w.heap.size (fun k_ => (w.heap.size ≤ k_)) (.slice Ao14 t486.length co14) t486) ∧ Aside0 (Kd.R k59 59 w' w.heap.size (fun k_ => (w.heap.size ≤ k_)) (.slice Ao14 t486.length co14) t486) ∧ Aside0 (Below w.heap.size w w'))
              case atStart => exact ⟨(false), (0), (by first | rfl | (simp; done) | (simp [*]; done)), (by first | rfl | (simp; done) | (simp [*]; done)), H', ⟨Nat.le_refl _⟩, ⟨by (with_reducible repeat (first | apply Kd.V_alloc | apply Kd.V_drewN | apply Kd.V_drew)); exact Kd.V_mono HO_0.out (fun _ hk => ⟨hk.1.1, ⟨hk.1.2, hk.1.2⟩⟩)⟩, ⟨by (with_reducible repeat (first | apply Kd.R_alloc | apply Kd.R_drewN | apply Kd.R_drew)); exact Kd.R_mono HO490.out (fun _ hk => hk.1)⟩, ⟨by (with_reducible repeat (first | apply Kd.R_alloc | apply Kd.R_drewN | apply Kd.R_drew)); exact Kd.R_mono HO490.out (fun _ hk => hk.1)⟩, ⟨by repeat (first | (with_reducible first | exact HB.out | apply below_alloc | apply pw_below_drewN | apply below_drew1) | exact HB.out)⟩⟩
              case round =>
                clear H'
                try clear c1
                try clear p2
                try clear c4
                try clear c5
                try clear c9
                try clear c10
                try clear p2
                obtain ⟨x6_3, x33_3, rfl, rfl, HA, HK3, HO_0, HO_7, HO_31, HB⟩ := hrel
                cases gk with
                | zero => exact absurd HA.out (by simp [spec_SteadyHeld.l1])
                | succ k3 =>
                  have H := HA.out
                  clear HA
                  simp only [spec_SteadyHeld.l1] at H
                  by_cases c15 : x33_3 < (t486.length : Int)
                  · rw [if_pos c15] at H
                    have c15b0 : decide (x33_3 < (t486.length : Int)) = true := decide_eq_true c15
                    clear c15
                    by_cases c16 : 0 ≤ x33_3
                    · rw [if_pos c16] at H
                      have c16b0 : decide (0 ≤ x33_3) = true := decide_eq_true c16
                      clear c16
                      by_cases c17 : x33_3 < (t486.length : Int)
                      · rw [if_pos c17] at H
                        have c17b0 : decide (x33_3 < (t486.length : Int)) = true := decide_eq_true c17
                        clear c17
                        by_cases c18 : x6_3 = true
                        · subst c18
                          have H1 : (spec_SteadyHeld.l1 k3 x0_2 a1 true t486 t486 (t486.length : Int) (wrap64 (x33_3 + 1))) = some (r1, r2) := by rw [if_pos rfl] at H; exact H
                          clear H
                          have H := H1
                          clear H1
                          have H' := Aside0.mk H
                          clear H
                          have p493 : 0 ≤ (x33_3 : Int) := of_decide_eq_true (by first | (with_reducible assumption) | assumption)
                          have q493 : x33_3 < (t486.length : Int) := of_decide_eq_true (by first | (with_reducible assumption) | assumption)
                          obtain ⟨ad493, e493, hx493_0, hx493_1, hx493_2⟩ := at_T59 (Kd.R_reads' HO_31.out).2.2 x33_3 p493 q493
                          cases e493
                          replace p493 := eq_true p493
                          replace q493 := eq_true q493
                          go_wp2_with (first | ((with_reducible refine gate_dst (N := 11) rfl ?_); refine box_event ?hg (N := 11) ?hd (cs := #[.int .i64 0, .int .i64 0, .int .i64 0]) (t := 59) ?hr ?_; (case hd => rfl); (case hg => rfl); (case hr => first | (go_simp; done) | (go_simp; rfl)); intro gb494 hg w19 hbox hb; have n0_ := Aside0.mk (Kd.V_below (Kd.V_elderB (by (with_reducible repeat (first | apply Kd.V_alloc | apply Kd.V_drewN | apply Kd.V_drew)); exact HO_0.out) gb494 (Nat.le_of_eq hg.symm)) hb); have n1_ := Aside0.mk (Kd.R_below (Kd.R_elderB (by (with_reducible repeat (first | apply Kd.R_alloc | apply Kd.R_drewN | apply Kd.R_drew)); exact HO_7.out) gb494 (Nat.le_of_eq hg.symm)) hb); have n2_ := Aside0.mk (Kd.R_below (Kd.R_elderB (by (with_reducible repeat (first | apply Kd.R_alloc | apply Kd.R_drewN | apply Kd.R_drew)); exact HO_31.out) gb494 (Nat.le_of_eq hg.symm)) hb); have n3_ := Aside0.mk (below_step (by repeat (first | (with_reducible first | exact HB.out | apply below_alloc | apply pw_below_drewN | apply below_drew1) | exact HB.out)) hb); have n4_ := Aside0.mk (hbox); have n5_ := Aside0.mk ((by rw [hg]; exact (below_size (by repeat (first | (with_reducible first | exact HB.out | apply below_alloc | apply pw_below_drewN | apply below_drew1) | exact HB.out))) : w.heap.size ≤ gb494)); have n6_ := Aside0.mk ((by rw [hg]; exact (below_size (by repeat (first | (with_reducible first | exact HB.out | apply below_alloc | apply pw_below_drewN | apply below_drew1) | exact HB.out))) : w.heap.size ≤ gb494)); clear HO_0; clear HO_7; clear HO_31; clear HB; have HO_0 := n0_; have HO_7 := n1_; have HO_31 := n2_; have HB := n3_; have BK494 := n4_; have GW494 := n5_; have GE494 := n6_; clear n0_ n1_ n2_ n3_ n4_ n5_ n6_; clear hb hbox hg; have hcz20_0 : w19.cell? ⟨gb494, 0, none⟩ = some (.int .i64 0) := (blk_cell BK494.out 0).trans rfl; have hcz20_1 : w19.cell? ⟨gb494, 1, none⟩ = some (.int .i64 0) := (blk_cell BK494.out 1).trans rfl; have hcz20_2 : w19.cell? ⟨gb494, 2, none⟩ = some (.int .i64 0) := (blk_cell BK494.out 2).trans rfl; have hfz20_0 := blk_frozen BK494.out 0; have hfz20_1 := blk_frozen BK494.out 1; have hfz20_2 := blk_frozen BK494.out 2))
                          repeat (go_quiet (first | ((with_reducible refine gate_dst (N := 11) rfl ?_); refine box_event ?hg (N := 11) ?hd (cs := #[.int .i64 0, .int .i64 0, .int .i64 0]) (t := 59) ?hr ?_; (case hd => rfl); (case hg => rfl); (case hr => first | (go_simp; done) | (go_simp; rfl)); intro gb494 hg w19 hbox hb; have n0_ := Aside0.mk (Kd.V_below (Kd.V_elderB (by (with_reducible repeat (first | apply Kd.V_alloc | apply Kd.V_drewN | apply Kd.V_drew)); exact HO_0.out) gb494 (Nat.le_of_eq hg.symm)) hb); have n1_ := Aside0.mk (Kd.R_below (Kd.R_elderB (by (with_reducible repeat (first | apply Kd.R_alloc | apply Kd.R_drewN | apply Kd.R_drew)); exact HO_7.out) gb494 (Nat.le_of_eq hg.symm)) hb); have n2_ := Aside0.mk (Kd.R_below (Kd.R_elderB (by (with_reducible repeat (first | apply Kd.R_alloc | apply Kd.R_drewN | apply Kd.R_drew)); exact HO_31.out) gb494 (Nat.le_of_eq hg.symm)) hb); have n3_ := Aside0.mk (below_step (by repeat (first | (with_reducible first | exact HB.out | apply below_alloc | apply pw_below_drewN | apply below_drew1) | exact HB.out)) hb); have n4_ := Aside0.mk (hbox); have n5_ := Aside0.mk ((by rw [hg]; exact (below_size (by repeat (first | (with_reducible first | exact HB.out | apply below_alloc | apply pw_below_drewN | apply below_drew1) | exact HB.out))) : w.heap.size ≤ gb494)); have n6_ := Aside0.mk ((by rw [hg]; exact (below_size (by repeat (first | (with_reducible first | exact HB.out | apply below_alloc | apply pw_below_drewN | apply below_drew1) | exact HB.out))) : w.heap.size ≤ gb494)); clear HO_0; clear HO_7; clear HO_31; clear HB; have HO_0 := n0_; have HO_7 := n1_; have HO_31 := n2_; have HB := n3_; have BK494 := n4_; have GW494 := n5_; have GE494 := n6_; clear n0_ n1_ n2_ n3_ n4_ n5_ n6_; clear hb hbox hg; have hcz20_0 : w19.cell? ⟨gb494, 0, none⟩ = some (.int .i64 0) := (blk_cell BK494.out 0).trans rfl; have hcz20_1 : w19.cell? ⟨gb494, 1, none⟩ = some (.int .i64 0) := (blk_cell BK494.out 1).trans rfl; have hcz20_2 : w19.cell? ⟨gb494, 2, none⟩ = some (.int .i64 0) := (blk_cell BK494.out 2).trans rfl; have hfz20_0 := blk_frozen BK494.out 0; have hfz20_1 := blk_frozen BK494.out 1; have hfz20_2 := blk_frozen BK494.out 2)); try go_wp2_with (first | ((with_reducible refine gate_dst (N := 11) rfl ?_); refine box_event ?hg (N := 11) ?hd (cs := #[.int .i64 0, .int .i64 0, .int .i64 0]) (t := 59) ?hr ?_; (case hd => rfl); (case hg => rfl); (case hr => first | (go_simp; done) | (go_simp; rfl)); intro gb494 hg w19 hbox hb; have n0_ := Aside0.mk (Kd.V_below (Kd.V_elderB (by (with_reducible repeat (first | apply Kd.V_alloc | apply Kd.V_drewN | apply Kd.V_drew)); exact HO_0.out) gb494 (Nat.le_of_eq hg.symm)) hb); have n1_ := Aside0.mk (Kd.R_below (Kd.R_elderB (by (with_reducible repeat (first | apply Kd.R_alloc | apply Kd.R_drewN | apply Kd.R_drew)); exact HO_7.out) gb494 (Nat.le_of_eq hg.symm)) hb); have n2_ := Aside0.mk (Kd.R_below (Kd.R_elderB (by (with_reducible repeat (first | apply Kd.R_alloc | apply Kd.R_drewN | apply Kd.R_drew)); exact HO_31.out) gb494 (Nat.le_of_eq hg.symm)) hb); have n3_ := Aside0.mk (below_step (by repeat (first | (with_reducible first | exact HB.out | apply below_alloc | apply pw_below_drewN | apply below_drew1) | exact HB.out)) hb); have n4_ := Aside0.mk (hbox); have n5_ := Aside0.mk ((by rw [hg]; exact (below_size (by repeat (first | (with_reducible first | exact HB.out | apply below_alloc | apply pw_below_drewN | apply below_drew1) | exact HB.out))) : w.heap.size ≤ gb494)); have n6_ := Aside0.mk ((by rw [hg]; exact (below_size (by repeat (first | (with_reducible first | exact HB.out | apply below_alloc | apply pw_below_drewN | apply below_drew1) | exact HB.out))) : w.heap.size ≤ gb494)); clear HO_0; clear HO_7; clear HO_31; clear HB; have HO_0 := n0_; have HO_7 := n1_; have HO_31 := n2_; have HB := n3_; have BK494 := n4_; have GW494 := n5_; have GE494 := n6_; clear n0_ n1_ n2_ n3_ n4_ n5_ n6_; clear hb hbox hg; have hcz20_0 : w19.cell? ⟨gb494, 0, none⟩ = some (.int .i64 0) := (blk_cell BK494.out 0).trans rfl; have hcz20_1 : w19.cell? ⟨gb494, 1, none⟩ = some (.int .i64 0) := (blk_cell BK494.out 1).trans rfl; have hcz20_2 : w19.cell? ⟨gb494, 2, none⟩ = some (.int .i64 0) := (blk_cell BK494.out 2).trans rfl; have hfz20_0 := blk_frozen BK494.out 0; have hfz20_1 := blk_frozen BK494.out 1; have hfz20_2 := blk_frozen BK494.out 2)))
                          go_roundg k3
                          case measure => have := HJ2.out; have := HK2.out; have := HK3.out; omega
                          case rel => exact ⟨(true), (wrap64 (x33_3 + 1)), (by first | rfl | (simp; done) | (simp [*]; done)), (by first | rfl | (simp; done) | (simp [*]; done)), H', ⟨by have := HJ2.out; have := HK2.out; have := HK3.out; omega⟩, ⟨by (with_reducible repeat (first | apply Kd.V_alloc | apply Kd.V_drewN | apply Kd.V_drew)); exact Kd.V_mono (Kd.V_far (p := ⟨gb494, 2, none⟩) (Kd.V_far (p := ⟨gb494, 1, none⟩) (Kd.V_far (p := ⟨gb494, 0, none⟩) (Kd.V_mono HO_0.out (fun k_ hk => (⟨hk, hk.2⟩ : _ ∧ k_ ≠ gb494))) (fun _ hk => hk.2) (.int .i64 ((rd_T59 t486 x33_3).f0))) (fun _ hk => hk.2) (.int .i64 ((rd_T59 t486 x33_3).f1))) (fun _ hk => hk.2) (.int .i64 ((rd_T59 t486 x33_3).f2))) (fun _ hk => ⟨hk.1.1.1, ⟨hk.1.1.2.1, hk.1.1.2.2⟩⟩)⟩, ⟨by (with_reducible repeat (first | apply Kd.R_alloc | apply Kd.R_drewN | apply Kd.R_drew)); exact Kd.R_mono (Kd.R_far (p := ⟨gb494, 2, none⟩) (Kd.R_far (p := ⟨gb494, 1, none⟩) (Kd.R_far (p := ⟨gb494, 0, none⟩) (Kd.R_mono HO_7.out (fun k_ hk => (⟨hk, hk.2⟩ : _ ∧ k_ ≠ gb494))) (fun _ hk => hk.2) (.int .i64 ((rd_T59 t486 x33_3).f0))) (fun _ hk => hk.2) (.int .i64 ((rd_T59 t486 x33_3).f1))) (fun _ hk => hk.2) (.int .i64 ((rd_T59 t486 x33_3).f2))) (fun _ hk => hk.1.1)⟩, ⟨by (with_reducible repeat (first | apply Kd.R_alloc | apply Kd.R_drewN | apply Kd.R_drew)); exact Kd.R_mono (Kd.R_far (p := ⟨gb494, 2, none⟩) (Kd.R_far (p := ⟨gb494, 1, none⟩) (Kd.R_far (p := ⟨gb494, 0, none⟩) (Kd.R_mono HO_31.out (fun k_ hk => (⟨hk, hk.2⟩ : _ ∧ k_ ≠ gb494))) (fun _ hk => hk.2) (.int .i64 ((rd_T59 t486 x33_3).f0))) (fun _ hk => hk.2) (.int .i64 ((rd_T59 t486 x33_3).f1))) (fun _ hk => hk.2) (.int .i64 ((rd_T59 t486 x33_3).f2))) (fun _ hk => hk.1.1)⟩, ⟨by repeat (first | (with_reducible first | exact HB.out | apply below_alloc | apply pw_below_drewN | apply below_drew1 | refine below_set ?_ GE494.out) | exact HB.out)⟩⟩
                        · replace c18 := Bool.eq_false_iff.mpr c18
                          subst c18
                          have H1 : (if x33_3 < (x0_2.length : Int) then (spec_SteadyHeld.l1 k3 x0_2 a1 (!(((rd_T59 t486 x33_3).f0) == ((rd_T59 x0_2 x33_3).f0)) || (!(((rd_T59 t486 x33_3).f1) == ((rd_T59 x0_2 x33_3).f1)) || (!(((rd_T59 t486 x33_3).f2) == ((rd_T59 x0_2 x33_3).f2))))) t486 t486 (t486.length : Int) (wrap64 (x33_3 + 1))) else (none)) = some (r1, r2) := by rw [if_neg (show ¬ (false = true) by decide)] at H; exact H
                          clear H
                          have H := H1
                          clear H1
                          by_cases c21 : x33_3 < (x0_2.length : Int)
                          · rw [if_pos c21] at H
                            have c21b0 : decide (x33_3 < (x0_2.length : Int)) = true := decide_eq_true c21
                            clear c21
                            have H' := Aside0.mk H
                            clear H
                            have p493 : 0 ≤ (x33_3 : Int) := of_decide_eq_true (by first | (with_reducible assumption) | assumption)
                            have q493 : x33_3 < (t486.length : Int) := of_decide_eq_true (by first | (with_reducible assumption) | assumption)
                            obtain ⟨ad493, e493, hx493_0, hx493_1, hx493_2⟩ := at_T59 (Kd.R_reads' HO_31.out).2.2 x33_3 p493 q493
                            cases e493
                            replace p493 := eq_true p493
                            replace q493 := eq_true q493
                            go_wp2_with (first | ((with_reducible refine gate_dst (N := 11) rfl ?_); refine box_event ?hg (N := 11) ?hd (cs := #[.int .i64 0, .int .i64 0, .int .i64 0]) (t := 59) ?hr ?_; (case hd => rfl); (case hg => rfl); (case hr => first | (go_simp; done) | (go_simp; rfl)); intro gb494 hg w22 hbox hb; have n0_ := Aside0.mk (Kd.V_below (Kd.V_elderB (by (with_reducible repeat (first | apply Kd.V_alloc | apply Kd.V_drewN | apply Kd.V_drew)); exact HO_0.out) gb494 (Nat.le_of_eq hg.symm)) hb); have n1_ := Aside0.mk (Kd.R_below (Kd.R_elderB (by (with_reducible repeat (first | apply Kd.R_alloc | apply Kd.R_drewN | apply Kd.R_drew)); exact HO_7.out) gb494 (Nat.le_of_eq hg.symm)) hb); have n2_ := Aside0.mk (Kd.R_below (Kd.R_elderB (by (with_reducible repeat (first | apply Kd.R_alloc | apply Kd.R_drewN | apply Kd.R_drew)); exact HO_31.out) gb494 (Nat.le_of_eq hg.symm)) hb); have n3_ := Aside0.mk (below_step (by repeat (first | (with_reducible first | exact HB.out | apply below_alloc | apply pw_below_drewN | apply below_drew1) | exact HB.out)) hb); have n4_ := Aside0.mk (hbox); have n5_ := Aside0.mk ((by rw [hg]; exact (below_size (by repeat (first | (with_reducible first | exact HB.out | apply below_alloc | apply pw_below_drewN | apply below_drew1) | exact HB.out))) : w.heap.size ≤ gb494)); have n6_ := Aside0.mk ((by rw [hg]; exact (below_size (by repeat (first | (with_reducible first | exact HB.out | apply below_alloc | apply pw_below_drewN | apply below_drew1) | exact HB.out))) : w.heap.size ≤ gb494)); clear HO_0; clear HO_7; clear HO_31; clear HB; have HO_0 := n0_; have HO_7 := n1_; have HO_31 := n2_; have HB := n3_; have BK494 := n4_; have GW494 := n5_; have GE494 := n6_; clear n0_ n1_ n2_ n3_ n4_ n5_ n6_; clear hb hbox hg; have hcz23_0 : w22.cell? ⟨gb494, 0, none⟩ = some (.int .i64 0) := (blk_cell BK494.out 0).trans rfl; have hcz23_1 : w22.cell? ⟨gb494, 1, none⟩ = some (.int .i64 0) := (blk_cell BK494.out 1).trans rfl; have hcz23_2 : w22.cell? ⟨gb494, 2, none⟩ = some (.int .i64 0) := (blk_cell BK494.out 2).trans rfl; have hfz23_0 := blk_frozen BK494.out 0; have hfz23_1 := blk_frozen BK494.out 1; have hfz23_2 := blk_frozen BK494.out 2; have p495 : 0 ≤ (x33_3 : Int) := of_decide_eq_true (by first | (with_reducible assumption) | assumption); have q495 : x33_3 < (x0_2.length : Int) := of_decide_eq_true (by first | (with_reducible assumption) | assumption); obtain ⟨ad495, e495, hx495_0, hx495_1, hx495_2⟩ := at_T59 (Kd.V_reads' HO_0.out).2.2 x33_3 p495 q495; cases e495; have hn495_0 : ad495.block ≠ gb494 := V_apart_s (by decide) HO_0.out _ p495 q495 (fun h_ => h_.2 rfl); have hn495_1 : ad495.block ≠ gb494 := V_apart_s (by decide) HO_0.out _ p495 q495 (fun h_ => h_.2 rfl); have hn495_2 : ad495.block ≠ gb494 := V_apart_s (by decide) HO_0.out _ p495 q495 (fun h_ => h_.2 rfl); replace hx495_0 := (cell_far (p := ⟨gb494, 0, none⟩) (by first | (rw [add_block]; exact hn495_0) | (show (Addr.add _ _).block ≠ _; rw [add_block]; exact hn495_0) | exact hn495_0) (.int .i64 ((rd_T59 t486 x33_3).f0))).trans hx495_0; replace hx495_1 := (cell_far (p := ⟨gb494, 0, none⟩) (by first | (rw [add_block]; exact hn495_0) | (show (Addr.add _ _).block ≠ _; rw [add_block]; exact hn495_0) | exact hn495_0) (.int .i64 ((rd_T59 t486 x33_3).f0))).trans hx495_1; replace hx495_2 := (cell_far (p := ⟨gb494, 0, none⟩) (by first | (rw [add_block]; exact hn495_0) | (show (Addr.add _ _).block ≠ _; rw [add_block]; exact hn495_0) | exact hn495_0) (.int .i64 ((rd_T59 t486 x33_3).f0))).trans hx495_2; replace hx495_0 := (cell_far (p := ⟨gb494, 1, none⟩) (by first | (rw [add_block]; exact hn495_1) | (show (Addr.add _ _).block ≠ _; rw [add_block]; exact hn495_1) | exact hn495_1) (.int .i64 ((rd_T59 t486 x33_3).f1))).trans hx495_0; replace hx495_1 := (cell_far (p := ⟨gb494, 1, none⟩) (by first | (rw [add_block]; exact hn495_1) | (show (Addr.add _ _).block ≠ _; rw [add_block]; exact hn495_1) | exact hn495_1) (.int .i64 ((rd_T59 t486 x33_3).f1))).trans hx495_1; replace hx495_2 := (cell_far (p := ⟨gb494, 1, none⟩) (by first | (rw [add_block]; exact hn495_1) | (show (Addr.add _ _).block ≠ _; rw [add_block]; exact hn495_1) | exact hn495_1) (.int .i64 ((rd_T59 t486 x33_3).f1))).trans hx495_2; replace hx495_0 := (cell_far (p := ⟨gb494, 2, none⟩) (by first | (rw [add_block]; exact hn495_2) | (show (Addr.add _ _).block ≠ _; rw [add_block]; exact hn495_2) | exact hn495_2) (.int .i64 ((rd_T59 t486 x33_3).f2))).trans hx495_0; replace hx495_1 := (cell_far (p := ⟨gb494, 2, none⟩) (by first | (rw [add_block]; exact hn495_2) | (show (Addr.add _ _).block ≠ _; rw [add_block]; exact hn495_2) | exact hn495_2) (.int .i64 ((rd_T59 t486 x33_3).f2))).trans hx495_1; replace hx495_2 := (cell_far (p := ⟨gb494, 2, none⟩) (by first | (rw [add_block]; exact hn495_2) | (show (Addr.add _ _).block ≠ _; rw [add_block]; exact hn495_2) | exact hn495_2) (.int .i64 ((rd_T59 t486 x33_3).f2))).trans hx495_2; (try have hy495_0 := fun (n_ : Nat) => (show (((((w22.drewN n_).setCell ⟨gb494, 0, none⟩ (.int .i64 ((rd_T59 t486 x33_3).f0))).setCell ⟨gb494, 1, none⟩ (.int .i64 ((rd_T59 t486 x33_3).f1))).setCell ⟨gb494, 2, none⟩ (.int .i64 ((rd_T59 t486 x33_3).f2)))).cell? _ = some _ from hx495_0)); (try have hy495_1 := fun (n_ : Nat) => (show (((((w22.drewN n_).setCell ⟨gb494, 0, none⟩ (.int .i64 ((rd_T59 t486 x33_3).f0))).setCell ⟨gb494, 1, none⟩ (.int .i64 ((rd_T59 t486 x33_3).f1))).setCell ⟨gb494, 2, none⟩ (.int .i64 ((rd_T59 t486 x33_3).f2)))).cell? _ = some _ from hx495_1)); (try have hy495_2 := fun (n_ : Nat) => (show (((((w22.drewN n_).setCell ⟨gb494, 0, none⟩ (.int .i64 ((rd_T59 t486 x33_3).f0))).setCell ⟨gb494, 1, none⟩ (.int .i64 ((rd_T59 t486 x33_3).f1))).setCell ⟨gb494, 2, none⟩ (.int .i64 ((rd_T59 t486 x33_3).f2)))).cell? _ = some _ from hx495_2)); clear hn495_0; clear hn495_1; clear hn495_2; replace p495 := eq_true p495; replace q495 := eq_true q495))
                            repeat (go_quiet (first | ((with_reducible refine gate_dst (N := 11) rfl ?_); refine box_event ?hg (N := 11) ?hd (cs := #[.int .i64 0, .int .i64 0, .int .i64 0]) (t := 59) ?hr ?_; (case hd => rfl); (case hg => rfl); (case hr => first | (go_simp; done) | (go_simp; rfl)); intro gb494 hg w22 hbox hb; have n0_ := Aside0.mk (Kd.V_below (Kd.V_elderB (by (with_reducible repeat (first | apply Kd.V_alloc | apply Kd.V_drewN | apply Kd.V_drew)); exact HO_0.out) gb494 (Nat.le_of_eq hg.symm)) hb); have n1_ := Aside0.mk (Kd.R_below (Kd.R_elderB (by (with_reducible repeat (first | apply Kd.R_alloc | apply Kd.R_drewN | apply Kd.R_drew)); exact HO_7.out) gb494 (Nat.le_of_eq hg.symm)) hb); have n2_ := Aside0.mk (Kd.R_below (Kd.R_elderB (by (with_reducible repeat (first | apply Kd.R_alloc | apply Kd.R_drewN | apply Kd.R_drew)); exact HO_31.out) gb494 (Nat.le_of_eq hg.symm)) hb); have n3_ := Aside0.mk (below_step (by repeat (first | (with_reducible first | exact HB.out | apply below_alloc | apply pw_below_drewN | apply below_drew1) | exact HB.out)) hb); have n4_ := Aside0.mk (hbox); have n5_ := Aside0.mk ((by rw [hg]; exact (below_size (by repeat (first | (with_reducible first | exact HB.out | apply below_alloc | apply pw_below_drewN | apply below_drew1) | exact HB.out))) : w.heap.size ≤ gb494)); have n6_ := Aside0.mk ((by rw [hg]; exact (below_size (by repeat (first | (with_reducible first | exact HB.out | apply below_alloc | apply pw_below_drewN | apply below_drew1) | exact HB.out))) : w.heap.size ≤ gb494)); clear HO_0; clear HO_7; clear HO_31; clear HB; have HO_0 := n0_; have HO_7 := n1_; have HO_31 := n2_; have HB := n3_; have BK494 := n4_; have GW494 := n5_; have GE494 := n6_; clear n0_ n1_ n2_ n3_ n4_ n5_ n6_; clear hb hbox hg; have hcz23_0 : w22.cell? ⟨gb494, 0, none⟩ = some (.int .i64 0) := (blk_cell BK494.out 0).trans rfl; have hcz23_1 : w22.cell? ⟨gb494, 1, none⟩ = some (.int .i64 0) := (blk_cell BK494.out 1).trans rfl; have hcz23_2 : w22.cell? ⟨gb494, 2, none⟩ = some (.int .i64 0) := (blk_cell BK494.out 2).trans rfl; have hfz23_0 := blk_frozen BK494.out 0; have hfz23_1 := blk_frozen BK494.out 1; have hfz23_2 := blk_frozen BK494.out 2; have p495 : 0 ≤ (x33_3 : Int) := of_decide_eq_true (by first | (with_reducible assumption) | assumption); have q495 : x33_3 < (x0_2.length : Int) := of_decide_eq_true (by first | (with_reducible assumption) | assumption); obtain ⟨ad495, e495, hx495_0, hx495_1, hx495_2⟩ := at_T59 (Kd.V_reads' HO_0.out).2.2 x33_3 p495 q495; cases e495; have hn495_0 : ad495.block ≠ gb494 := V_apart_s (by decide) HO_0.out _ p495 q495 (fun h_ => h_.2 rfl); have hn495_1 : ad495.block ≠ gb494 := V_apart_s (by decide) HO_0.out _ p495 q495 (fun h_ => h_.2 rfl); have hn495_2 : ad495.block ≠ gb494 := V_apart_s (by decide) HO_0.out _ p495 q495 (fun h_ => h_.2 rfl); replace hx495_0 := (cell_far (p := ⟨gb494, 0, none⟩) (by first | (rw [add_block]; exact hn495_0) | (show (Addr.add _ _).block ≠ _; rw [add_block]; exact hn495_0) | exact hn495_0) (.int .i64 ((rd_T59 t486 x33_3).f0))).trans hx495_0; replace hx495_1 := (cell_far (p := ⟨gb494, 0, none⟩) (by first | (rw [add_block]; exact hn495_0) | (show (Addr.add _ _).block ≠ _; rw [add_block]; exact hn495_0) | exact hn495_0) (.int .i64 ((rd_T59 t486 x33_3).f0))).trans hx495_1; replace hx495_2 := (cell_far (p := ⟨gb494, 0, none⟩) (by first | (rw [add_block]; exact hn495_0) | (show (Addr.add _ _).block ≠ _; rw [add_block]; exact hn495_0) | exact hn495_0) (.int .i64 ((rd_T59 t486 x33_3).f0))).trans hx495_2; replace hx495_0 := (cell_far (p := ⟨gb494, 1, none⟩) (by first | (rw [add_block]; exact hn495_1) | (show (Addr.add _ _).block ≠ _; rw [add_block]; exact hn495_1) | exact hn495_1) (.int .i64 ((rd_T59 t486 x33_3).f1))).trans hx495_0; replace hx495_1 := (cell_far (p := ⟨gb494, 1, none⟩) (by first | (rw [add_block]; exact hn495_1) | (show (Addr.add _ _).block ≠ _; rw [add_block]; exact hn495_1) | exact hn495_1) (.int .i64 ((rd_T59 t486 x33_3).f1))).trans hx495_1; replace hx495_2 := (cell_far (p := ⟨gb494, 1, none⟩) (by first | (rw [add_block]; exact hn495_1) | (show (Addr.add _ _).block ≠ _; rw [add_block]; exact hn495_1) | exact hn495_1) (.int .i64 ((rd_T59 t486 x33_3).f1))).trans hx495_2; replace hx495_0 := (cell_far (p := ⟨gb494, 2, none⟩) (by first | (rw [add_block]; exact hn495_2) | (show (Addr.add _ _).block ≠ _; rw [add_block]; exact hn495_2) | exact hn495_2) (.int .i64 ((rd_T59 t486 x33_3).f2))).trans hx495_0; replace hx495_1 := (cell_far (p := ⟨gb494, 2, none⟩) (by first | (rw [add_block]; exact hn495_2) | (show (Addr.add _ _).block ≠ _; rw [add_block]; exact hn495_2) | exact hn495_2) (.int .i64 ((rd_T59 t486 x33_3).f2))).trans hx495_1; replace hx495_2 := (cell_far (p := ⟨gb494, 2, none⟩) (by first | (rw [add_block]; exact hn495_2) | (show (Addr.add _ _).block ≠ _; rw [add_block]; exact hn495_2) | exact hn495_2) (.int .i64 ((rd_T59 t486 x33_3).f2))).trans hx495_2; (try have hy495_0 := fun (n_ : Nat) => (show (((((w22.drewN n_).setCell ⟨gb494, 0, none⟩ (.int .i64 ((rd_T59 t486 x33_3).f0))).setCell ⟨gb494, 1, none⟩ (.int .i64 ((rd_T59 t486 x33_3).f1))).setCell ⟨gb494, 2, none⟩ (.int .i64 ((rd_T59 t486 x33_3).f2)))).cell? _ = some _ from hx495_0)); (try have hy495_1 := fun (n_ : Nat) => (show (((((w22.drewN n_).setCell ⟨gb494, 0, none⟩ (.int .i64 ((rd_T59 t486 x33_3).f0))).setCell ⟨gb494, 1, none⟩ (.int .i64 ((rd_T59 t486 x33_3).f1))).setCell ⟨gb494, 2, none⟩ (.int .i64 ((rd_T59 t486 x33_3).f2)))).cell? _ = some _ from hx495_1)); (try have hy495_2 := fun (n_ : Nat) => (show (((((w22.drewN n_).setCell ⟨gb494, 0, none⟩ (.int .i64 ((rd_T59 t486 x33_3).f0))).setCell ⟨gb494, 1, none⟩ (.int .i64 ((rd_T59 t486 x33_3).f1))).setCell ⟨gb494, 2, none⟩ (.int .i64 ((rd_T59 t486 x33_3).f2)))).cell? _ = some _ from hx495_2)); clear hn495_0; clear hn495_1; clear hn495_2; replace p495 := eq_true p495; replace q495 := eq_true q495)); try go_wp2_with (first | ((with_reducible refine gate_dst (N := 11) rfl ?_); refine box_event ?hg (N := 11) ?hd (cs := #[.int .i64 0, .int .i64 0, .int .i64 0]) (t := 59) ?hr ?_; (case hd => rfl); (case hg => rfl); (case hr => first | (go_simp; done) | (go_simp; rfl)); intro gb494 hg w22 hbox hb; have n0_ := Aside0.mk (Kd.V_below (Kd.V_elderB (by (with_reducible repeat (first | apply Kd.V_alloc | apply Kd.V_drewN | apply Kd.V_drew)); exact HO_0.out) gb494 (Nat.le_of_eq hg.symm)) hb); have n1_ := Aside0.mk (Kd.R_below (Kd.R_elderB (by (with_reducible repeat (first | apply Kd.R_alloc | apply Kd.R_drewN | apply Kd.R_drew)); exact HO_7.out) gb494 (Nat.le_of_eq hg.symm)) hb); have n2_ := Aside0.mk (Kd.R_below (Kd.R_elderB (by (with_reducible repeat (first | apply Kd.R_alloc | apply Kd.R_drewN | apply Kd.R_drew)); exact HO_31.out) gb494 (Nat.le_of_eq hg.symm)) hb); have n3_ := Aside0.mk (below_step (by repeat (first | (with_reducible first | exact HB.out | apply below_alloc | apply pw_below_drewN | apply below_drew1) | exact HB.out)) hb); have n4_ := Aside0.mk (hbox); have n5_ := Aside0.mk ((by rw [hg]; exact (below_size (by repeat (first | (with_reducible first | exact HB.out | apply below_alloc | apply pw_below_drewN | apply below_drew1) | exact HB.out))) : w.heap.size ≤ gb494)); have n6_ := Aside0.mk ((by rw [hg]; exact (below_size (by repeat (first | (with_reducible first | exact HB.out | apply below_alloc | apply pw_below_drewN | apply below_drew1) | exact HB.out))) : w.heap.size ≤ gb494)); clear HO_0; clear HO_7; clear HO_31; clear HB; have HO_0 := n0_; have HO_7 := n1_; have HO_31 := n2_; have HB := n3_; have BK494 := n4_; have GW494 := n5_; have GE494 := n6_; clear n0_ n1_ n2_ n3_ n4_ n5_ n6_; clear hb hbox hg; have hcz23_0 : w22.cell? ⟨gb494, 0, none⟩ = some (.int .i64 0) := (blk_cell BK494.out 0).trans rfl; have hcz23_1 : w22.cell? ⟨gb494, 1, none⟩ = some (.int .i64 0) := (blk_cell BK494.out 1).trans rfl; have hcz23_2 : w22.cell? ⟨gb494, 2, none⟩ = some (.int .i64 0) := (blk_cell BK494.out 2).trans rfl; have hfz23_0 := blk_frozen BK494.out 0; have hfz23_1 := blk_frozen BK494.out 1; have hfz23_2 := blk_frozen BK494.out 2; have p495 : 0 ≤ (x33_3 : Int) := of_decide_eq_true (by first | (with_reducible assumption) | assumption); have q495 : x33_3 < (x0_2.length : Int) := of_decide_eq_true (by first | (with_reducible assumption) | assumption); obtain ⟨ad495, e495, hx495_0, hx495_1, hx495_2⟩ := at_T59 (Kd.V_reads' HO_0.out).2.2 x33_3 p495 q495; cases e495; have hn495_0 : ad495.block ≠ gb494 := V_apart_s (by decide) HO_0.out _ p495 q495 (fun h_ => h_.2 rfl); have hn495_1 : ad495.block ≠ gb494 := V_apart_s (by decide) HO_0.out _ p495 q495 (fun h_ => h_.2 rfl); have hn495_2 : ad495.block ≠ gb494 := V_apart_s (by decide) HO_0.out _ p495 q495 (fun h_ => h_.2 rfl); replace hx495_0 := (cell_far (p := ⟨gb494, 0, none⟩) (by first | (rw [add_block]; exact hn495_0) | (show (Addr.add _ _).block ≠ _; rw [add_block]; exact hn495_0) | exact hn495_0) (.int .i64 ((rd_T59 t486 x33_3).f0))).trans hx495_0; replace hx495_1 := (cell_far (p := ⟨gb494, 0, none⟩) (by first | (rw [add_block]; exact hn495_0) | (show (Addr.add _ _).block ≠ _; rw [add_block]; exact hn495_0) | exact hn495_0) (.int .i64 ((rd_T59 t486 x33_3).f0))).trans hx495_1; replace hx495_2 := (cell_far (p := ⟨gb494, 0, none⟩) (by first | (rw [add_block]; exact hn495_0) | (show (Addr.add _ _).block ≠ _; rw [add_block]; exact hn495_0) | exact hn495_0) (.int .i64 ((rd_T59 t486 x33_3).f0))).trans hx495_2; replace hx495_0 := (cell_far (p := ⟨gb494, 1, none⟩) (by first | (rw [add_block]; exact hn495_1) | (show (Addr.add _ _).block ≠ _; rw [add_block]; exact hn495_1) | exact hn495_1) (.int .i64 ((rd_T59 t486 x33_3).f1))).trans hx495_0; replace hx495_1 := (cell_far (p := ⟨gb494, 1, none⟩) (by first | (rw [add_block]; exact hn495_1) | (show (Addr.add _ _).block ≠ _; rw [add_block]; exact hn495_1) | exact hn495_1) (.int .i64 ((rd_T59 t486 x33_3).f1))).trans hx495_1; replace hx495_2 := (cell_far (p := ⟨gb494, 1, none⟩) (by first | (rw [add_block]; exact hn495_1) | (show (Addr.add _ _).block ≠ _; rw [add_block]; exact hn495_1) | exact hn495_1) (.int .i64 ((rd_T59 t486 x33_3).f1))).trans hx495_2; replace hx495_0 := (cell_far (p := ⟨gb494, 2, none⟩) (by first | (rw [add_block]; exact hn495_2) | (show (Addr.add _ _).block ≠ _; rw [add_block]; exact hn495_2) | exact hn495_2) (.int .i64 ((rd_T59 t486 x33_3).f2))).trans hx495_0; replace hx495_1 := (cell_far (p := ⟨gb494, 2, none⟩) (by first | (rw [add_block]; exact hn495_2) | (show (Addr.add _ _).block ≠ _; rw [add_block]; exact hn495_2) | exact hn495_2) (.int .i64 ((rd_T59 t486 x33_3).f2))).trans hx495_1; replace hx495_2 := (cell_far (p := ⟨gb494, 2, none⟩) (by first | (rw [add_block]; exact hn495_2) | (show (Addr.add _ _).block ≠ _; rw [add_block]; exact hn495_2) | exact hn495_2) (.int .i64 ((rd_T59 t486 x33_3).f2))).trans hx495_2; (try have hy495_0 := fun (n_ : Nat) => (show (((((w22.drewN n_).setCell ⟨gb494, 0, none⟩ (.int .i64 ((rd_T59 t486 x33_3).f0))).setCell ⟨gb494, 1, none⟩ (.int .i64 ((rd_T59 t486 x33_3).f1))).setCell ⟨gb494, 2, none⟩ (.int .i64 ((rd_T59 t486 x33_3).f2)))).cell? _ = some _ from hx495_0)); (try have hy495_1 := fun (n_ : Nat) => (show (((((w22.drewN n_).setCell ⟨gb494, 0, none⟩ (.int .i64 ((rd_T59 t486 x33_3).f0))).setCell ⟨gb494, 1, none⟩ (.int .i64 ((rd_T59 t486 x33_3).f1))).setCell ⟨gb494, 2, none⟩ (.int .i64 ((rd_T59 t486 x33_3).f2)))).cell? _ = some _ from hx495_1)); (try have hy495_2 := fun (n_ : Nat) => (show (((((w22.drewN n_).setCell ⟨gb494, 0, none⟩ (.int .i64 ((rd_T59 t486 x33_3).f0))).setCell ⟨gb494, 1, none⟩ (.int .i64 ((rd_T59 t486 x33_3).f1))).setCell ⟨gb494, 2, none⟩ (.int .i64 ((rd_T59 t486 x33_3).f2)))).cell? _ = some _ from hx495_2)); clear hn495_0; clear hn495_1; clear hn495_2; replace p495 := eq_true p495; replace q495 := eq_true q495)))
                            go_roundg k3
                            case measure => have := HJ2.out; have := HK2.out; have := HK3.out; omega
                            case rel => exact ⟨((!(((rd_T59 t486 x33_3).f0) == ((rd_T59 x0_2 x33_3).f0)) || (!(((rd_T59 t486 x33_3).f1) == ((rd_T59 x0_2 x33_3).f1)) || (!(((rd_T59 t486 x33_3).f2) == ((rd_T59 x0_2 x33_3).f2)))))), (wrap64 (x33_3 + 1)), (by first | rfl | (simp; done) | (simp [*]; done)), (by first | rfl | (simp; done) | (simp [*]; done)), H', ⟨by have := HJ2.out; have := HK2.out; have := HK3.out; omega⟩, ⟨by (with_reducible repeat (first | apply Kd.V_alloc | apply Kd.V_drewN | apply Kd.V_drew)); exact Kd.V_mono (Kd.V_far (p := ⟨gb494, 2, none⟩) (Kd.V_far (p := ⟨gb494, 1, none⟩) (Kd.V_far (p := ⟨gb494, 0, none⟩) (Kd.V_mono HO_0.out (fun k_ hk => (⟨hk, hk.2⟩ : _ ∧ k_ ≠ gb494))) (fun _ hk => hk.2) (.int .i64 ((rd_T59 t486 x33_3).f0))) (fun _ hk => hk.2) (.int .i64 ((rd_T59 t486 x33_3).f1))) (fun _ hk => hk.2) (.int .i64 ((rd_T59 t486 x33_3).f2))) (fun _ hk => ⟨hk.1.1.1, ⟨hk.1.1.2.1, hk.1.1.2.2⟩⟩)⟩, ⟨by (with_reducible repeat (first | apply Kd.R_alloc | apply Kd.R_drewN | apply Kd.R_drew)); exact Kd.R_mono (Kd.R_far (p := ⟨gb494, 2, none⟩) (Kd.R_far (p := ⟨gb494, 1, none⟩) (Kd.R_far (p := ⟨gb494, 0, none⟩) (Kd.R_mono HO_7.out (fun k_ hk => (⟨hk, hk.2⟩ : _ ∧ k_ ≠ gb494))) (fun _ hk => hk.2) (.int .i64 ((rd_T59 t486 x33_3).f0))) (fun _ hk => hk.2) (.int .i64 ((rd_T59 t486 x33_3).f1))) (fun _ hk => hk.2) (.int .i64 ((rd_T59 t486 x33_3).f2))) (fun _ hk => hk.1.1)⟩, ⟨by (with_reducible repeat (first | apply Kd.R_alloc | apply Kd.R_drewN | apply Kd.R_drew)); exact Kd.R_mono (Kd.R_far (p := ⟨gb494, 2, none⟩) (Kd.R_far (p := ⟨gb494, 1, none⟩) (Kd.R_far (p := ⟨gb494, 0, none⟩) (Kd.R_mono HO_31.out (fun k_ hk => (⟨hk, hk.2⟩ : _ ∧ k_ ≠ gb494))) (fun _ hk => hk.2) (.int .i64 ((rd_T59 t486 x33_3).f0))) (fun _ hk => hk.2) (.int .i64 ((rd_T59 t486 x33_3).f1))) (fun _ hk => hk.2) (.int .i64 ((rd_T59 t486 x33_3).f2))) (fun _ hk => hk.1.1)⟩, ⟨by repeat (first | (with_reducible first | exact HB.out | apply below_alloc | apply pw_below_drewN | apply below_drew1 | refine below_set ?_ GE494.out) | exact HB.out)⟩⟩
                          · rw [if_neg c21] at H
                            exact absurd H (by simp)
                      · rw [if_neg c17] at H
                        exact absurd H (by simp)
                    · rw [if_neg c16] at H
                      exact absurd H (by simp)
                  · rw [if_neg c15] at H
                    have c15b0 : decide (x33_3 < (t486.length : Int)) = false := decide_eq_false c15
                    clear c15
                    have H' := Aside0.mk H
                    clear H
                    go_wp2
                    repeat (go_quiet (fail); try go_wp2)
                    go_roundg k3
                    case measure => have := HJ2.out; have := HK2.out; have := HK3.out; omega
                    case rel => exact ⟨(t486), (x6_3), (by first | rfl | (simp; done) | (simp [*]; done)), H', ⟨by have := HJ2.out; have := HK2.out; have := HK3.out; omega⟩, ⟨Kd.V_mono (Kd.R_V (by (with_reducible repeat (first | apply Kd.R_alloc | apply Kd.R_drewN | apply Kd.R_drew)); exact HO_7.out)) (fun k_ hk => by first | exact ⟨(.inr (hk.1)), hk.2⟩ | exact (.inr (hk)))⟩, ⟨by repeat (first | (with_reducible first | exact HB.out | apply below_alloc | apply pw_below_drewN | apply below_drew1) | exact HB.out)⟩⟩
            · replace c10 := Bool.eq_false_iff.mpr c10
              subst c10
              have H1 : (spec_SteadyHeld.l2 k2 ([] : List Int) x0_2 (x0_2.length : Int) 0) = some (r1, r2) := by rw [if_neg (show ¬ (false = true) by decide)] at H; exact H
              clear H
              have H := H1
              clear H1
              have H' := Aside0.mk H
              clear H
              obtain ⟨Ao24, co24, eo24⟩ := Kd.V_slice HO_0.out
              subst eo24
              go_wp2
              repeat (go_quiet (fail); try go_wp2)
              go_loopg [12, 51] k2 (fun kq v12 v51 w' => ∃ (x12_3 : List Int) (x51_3 : Int), v51 = .int .i64 x51_3 ∧ Aside0 (spec_SteadyHeld.l2 kq x12_3 x0_2 (x0_2.length : Int) x51_3 = some (r1, r2)) ∧ Aside0 (kq ≤ k2) ∧ Aside0 (Kd.R (Kd.int .i64) 3 w' w.heap.size (fun k_ => (w.heap.size ≤ k_)) v12 x12_3) ∧ Aside0 (Kd.V k59 59 w' w.heap.size (fun k_ => (P0_ k_ ∨ w.heap.size ≤ k_) ∧ some k_ ≠ (v12 : Value).ownBlock) (.slice Ao24 x0_2.length co24) x0_2) ∧ Aside0 (Below w.heap.size w w'))
              case atStart => exact ⟨(([] : List Int)), (0), (by first | rfl | (simp; done) | (simp [*]; done)), H', ⟨Nat.le_refl _⟩, ⟨by first | exact Kd.R_nil _ _ _ _ _ | exact Kd.N_nil _ _ _ _ _ | exact Kd.V_nil _ _ _ _ _ | exact Kd.Q_nil _ _ _ _ _ | exact Kd.S_nil _ _ _ _ _⟩, ⟨by (with_reducible repeat (first | apply Kd.V_alloc | apply Kd.V_drewN | apply Kd.V_drew)); exact Kd.V_mono HO_0.out (fun _ hk => ⟨hk, (by simp [Value.ownBlock])⟩)⟩, ⟨by repeat (first | (with_reducible first | exact HB.out | apply below_alloc | apply pw_below_drewN | apply below_drew1) | exact HB.out)⟩⟩
              case round =>
                clear H'
                try clear c1
                try clear c2
                try clear p2
                try clear c4
                try clear p4
                try clear q4
                try clear hx4
                try clear c5
                try clear p6
                try clear c9
                try clear c10
                try clear c15
                try clear c15b0
                try clear c16
                try clear c16b0
                try clear c17
                try clear c17b0
                try clear c18
                try clear c21
                try clear c21b0
                try clear hcz20_0
                try clear hcz20_1
                try clear hcz20_2
                try clear hcz23_0
                try clear hcz23_1
                try clear hcz23_2
                try clear hfz20_0
                try clear hfz20_1
                try clear hfz20_2
                try clear hfz23_0
                try clear hfz23_1
                try clear hfz23_2
                try clear hx493_0
                try clear hx493_1
                try clear hx493_2
                try clear hx495_0
                try clear hx495_1
                try clear hx495_2
                try clear p2
                try clear p493
                try clear p495
                try clear q493
                try clear q495
                obtain ⟨x12_3, x51_3, rfl, HA, HK3, HO_12, HO_49, HB⟩ := hrel
                cases gk with
                | zero => exact absurd HA.out (by simp [spec_SteadyHeld.l2])
                | succ k3 =>
                  have H := HA.out
                  clear HA
                  simp only [spec_SteadyHeld.l2] at H
                  by_cases c25 : x51_3 < (x0_2.length : Int)
                  · rw [if_pos c25] at H
                    have c25b0 : decide (x51_3 < (x0_2.length : Int)) = true := decide_eq_true c25
                    clear c25
                    by_cases c26 : 0 ≤ x51_3
                    · rw [if_pos c26] at H
                      have c26b0 : decide (0 ≤ x51_3) = true := decide_eq_true c26
                      clear c26
                      by_cases c27 : x51_3 < (x0_2.length : Int)
                      · rw [if_pos c27] at H
                        have c27b0 : decide (x51_3 < (x0_2.length : Int)) = true := decide_eq_true c27
                        clear c27
                        by_cases c28 : x12_3.length < 17592186044416
                        · rw [if_pos c28] at H
                          have LMc28 := Aside0.mk c28
                          clear c28
                          obtain ⟨y498, hy498⟩ : ∃ y_ : List Int, y_ = (x12_3 ++ [(rd_T59 x0_2 x51_3).f2]) := ⟨_, rfl⟩
                          replace H : (spec_SteadyHeld.l2 k3 y498 x0_2 (x0_2.length : Int) (wrap64 (x51_3 + 1))) = some (r1, r2) := by first | (rw [hy498]; with_reducible exact H) | (have H2_ := (Option.bind_some _ _).symm.trans H; rw [hy498]; with_reducible exact H2_) | (have H2_ := (Option.bind_some _ _).symm.trans H; with_reducible exact H2_) | with_reducible exact H | (rw [hy498]; exact H) | exact H
                          have Ny498 := Aside0.mk hy498
                          clear hy498
                          have H' := Aside0.mk H
                          clear H
                          have p496 : 0 ≤ (x51_3 : Int) := of_decide_eq_true (by first | (with_reducible assumption) | assumption)
                          have q496 : x51_3 < (x0_2.length : Int) := of_decide_eq_true (by first | (with_reducible assumption) | assumption)
                          obtain ⟨ad496, e496, hx496_0, hx496_1, hx496_2⟩ := at_T59 (Kd.V_reads' HO_49.out).2.2 x51_3 p496 q496
                          cases e496
                          replace p496 := eq_true p496
                          replace q496 := eq_true q496
                          go_wp2_with (first | ((with_reducible refine gate_dst (N := 14) rfl ?_); refine box_event ?hg (N := 14) ?hd (cs := #[.int .i64 0, .int .i64 0, .int .i64 0]) (t := 59) ?hr ?_; (case hd => rfl); (case hg => rfl); (case hr => first | (go_simp; done) | (go_simp; rfl)); intro gb497 hg w29 hbox hb; have n0_ := Aside0.mk (Kd.R_below (by (with_reducible repeat (first | apply Kd.R_alloc | apply Kd.R_drewN | apply Kd.R_drew)); exact HO_12.out) hb); have n1_ := Aside0.mk (Kd.V_below (Kd.V_elderB (by (with_reducible repeat (first | apply Kd.V_alloc | apply Kd.V_drewN | apply Kd.V_drew)); exact HO_49.out) gb497 (Nat.le_of_eq hg.symm)) hb); have n2_ := Aside0.mk (below_step (by repeat (first | (with_reducible first | exact HB.out | apply below_alloc | apply pw_below_drewN | apply below_drew1) | exact HB.out)) hb); have n3_ := Aside0.mk (hbox); have n4_ := Aside0.mk ((by rw [hg]; exact (below_size (by repeat (first | (with_reducible first | exact HB.out | apply below_alloc | apply pw_below_drewN | apply below_drew1) | exact HB.out))) : w.heap.size ≤ gb497)); have n5_ := Aside0.mk ((by rw [hg]; exact (below_size (by repeat (first | (with_reducible first | exact HB.out | apply below_alloc | apply pw_below_drewN | apply below_drew1) | exact HB.out))) : w.heap.size ≤ gb497)); clear HO_12; clear HO_49; clear HB; have HO_12 := n0_; have HO_49 := n1_; have HB := n2_; have BK497 := n3_; have GW497 := n4_; have GE497 := n5_; clear n0_ n1_ n2_ n3_ n4_ n5_; clear hb hbox hg; have hcz30_0 : w29.cell? ⟨gb497, 0, none⟩ = some (.int .i64 0) := (blk_cell BK497.out 0).trans rfl; have hcz30_1 : w29.cell? ⟨gb497, 1, none⟩ = some (.int .i64 0) := (blk_cell BK497.out 1).trans rfl; have hcz30_2 : w29.cell? ⟨gb497, 2, none⟩ = some (.int .i64 0) := (blk_cell BK497.out 2).trans rfl; have hfz30_0 := blk_frozen BK497.out 0; have hfz30_1 := blk_frozen BK497.out 1; have hfz30_2 := blk_frozen BK497.out 2) | ((with_reducible refine gate_builtin (b := .append) (xs := #[.tmp 55, .tmp 58]) rfl ?_); at_builtin; refine Kd.R_append (Kd.int .i64) (w0 := w) w.heap.size rfl (.tmp 55) (.tmp 58) 22 3 (.int .i64 0) 8 rfl Try.underlying22 info3 rfl (by decide) (by omega) u12 x12_3 ((rd_T59 x0_2 x51_3).f2) [.int .i64 ((rd_T59 x0_2 x51_3).f2)] (fun k_ => (w.heap.size ≤ k_)) (fun _ => False) rfl (by first | (go_simp; done) | (go_simp; rfl)) ?aP (fun _ hk => hk.elim) ?aF ?aO ?aB ?aS ?aL ?_; (case aP => exact rfl); (case aB => exact (by repeat (first | (with_reducible first | exact HB.out | apply below_alloc | apply pw_below_drewN | apply below_drew1 | refine below_set ?_ GE497.out) | exact HB.out))); (case aF => exact (fun k_ hk => (Nat.le_trans (below_size (by repeat (first | (with_reducible first | exact HB.out | apply below_alloc | apply pw_below_drewN | apply below_drew1 | refine below_set ?_ GE497.out) | exact HB.out))) hk))); (case aO => exact (by (with_reducible repeat (first | apply Kd.R_alloc | apply Kd.R_drewN | apply Kd.R_drew)); exact Kd.R_mono (Kd.R_far (p := ⟨gb497, 2, none⟩) (Kd.R_far (p := ⟨gb497, 1, none⟩) (Kd.R_far (p := ⟨gb497, 0, none⟩) (Kd.R_types HO_12.out BK497.out (by decide)) (fun _ hk => hk.2) (.int .i64 ((rd_T59 x0_2 x51_3).f0))) (fun _ hk => hk.2) (.int .i64 ((rd_T59 x0_2 x51_3).f1))) (fun _ hk => hk.2) (.int .i64 ((rd_T59 x0_2 x51_3).f2))) (fun _ hk => hk.1))); (case aS => exact (below_size (by repeat (first | (with_reducible first | exact HB.out | apply below_alloc | apply pw_below_drewN | apply below_drew1 | refine below_set ?_ GE497.out) | exact HB.out)))); (case aL => have := LMc28.out; omega); intro v499 w31 ho hb hg hat; rw [← Ny498.out] at ho; have n0_ := Aside0.mk (Kd.V_afterv (ok := (fun k_ => (P0_ k_ ∨ w.heap.size ≤ k_) ∧ k_ ≠ gb497)) (by (with_reducible repeat (first | apply Kd.V_alloc | apply Kd.V_drewN | apply Kd.V_drew)); exact Kd.V_mono (Kd.V_far (p := ⟨gb497, 2, none⟩) (Kd.V_far (p := ⟨gb497, 1, none⟩) (Kd.V_far (p := ⟨gb497, 0, none⟩) (Kd.V_mono HO_49.out (fun k_ hk => (⟨hk, hk.2⟩ : _ ∧ k_ ≠ gb497))) (fun _ hk => hk.2) (.int .i64 ((rd_T59 x0_2 x51_3).f0))) (fun _ hk => hk.2) (.int .i64 ((rd_T59 x0_2 x51_3).f1))) (fun _ hk => hk.2) (.int .i64 ((rd_T59 x0_2 x51_3).f2))) (fun _ hk => ⟨⟨hk.1.1.1, hk.1.2⟩, hk.1.1.2⟩)) hg hat); have n1_ := Aside0.mk (blk_grown (g := gb497) (o := .cells #[.int .i64 ((rd_T59 x0_2 x51_3).f0), .int .i64 ((rd_T59 x0_2 x51_3).f1), .int .i64 ((rd_T59 x0_2 x51_3).f2)] 59 (0, 0)) (by (with_reducible repeat (first | refine blk_drewN ?_ _ | refine blk_drew ?_ | refine blk_alloc ?_ _)); refine blk_put (cs := #[.int .i64 ((rd_T59 x0_2 x51_3).f0), .int .i64 ((rd_T59 x0_2 x51_3).f1), .int .i64 0]) ?_ 2 _ rfl; (with_reducible repeat (first | refine blk_drewN ?_ _ | refine blk_drew ?_ | refine blk_alloc ?_ _)); refine blk_put (cs := #[.int .i64 ((rd_T59 x0_2 x51_3).f0), .int .i64 0, .int .i64 0]) ?_ 1 _ rfl; (with_reducible repeat (first | refine blk_drewN ?_ _ | refine blk_drew ?_ | refine blk_alloc ?_ _)); refine blk_put (cs := #[.int .i64 0, .int .i64 0, .int .i64 0]) ?_ 0 _ rfl; (with_reducible repeat (first | refine blk_drewN ?_ _ | refine blk_drew ?_ | refine blk_alloc ?_ _)); exact BK497.out) hg (Kd.R_ne HO_12.out BK497.out (by decide))); have n2_ := Aside0.mk (hb); have n3_ := Aside0.mk (ho); clear HO_49; clear BK497; clear HB; clear HO_12; have HO_49 := n0_; have BK497 := n1_; have HB := n2_; have HO500 := n3_; clear n0_ n1_ n2_ n3_; clear ho hb hg hat))
                          repeat (go_quiet (first | ((with_reducible refine gate_dst (N := 14) rfl ?_); refine box_event ?hg (N := 14) ?hd (cs := #[.int .i64 0, .int .i64 0, .int .i64 0]) (t := 59) ?hr ?_; (case hd => rfl); (case hg => rfl); (case hr => first | (go_simp; done) | (go_simp; rfl)); intro gb497 hg w29 hbox hb; have n0_ := Aside0.mk (Kd.R_below (by (with_reducible repeat (first | apply Kd.R_alloc | apply Kd.R_drewN | apply Kd.R_drew)); exact HO_12.out) hb); have n1_ := Aside0.mk (Kd.V_below (Kd.V_elderB (by (with_reducible repeat (first | apply Kd.V_alloc | apply Kd.V_drewN | apply Kd.V_drew)); exact HO_49.out) gb497 (Nat.le_of_eq hg.symm)) hb); have n2_ := Aside0.mk (below_step (by repeat (first | (with_reducible first | exact HB.out | apply below_alloc | apply pw_below_drewN | apply below_drew1) | exact HB.out)) hb); have n3_ := Aside0.mk (hbox); have n4_ := Aside0.mk ((by rw [hg]; exact (below_size (by repeat (first | (with_reducible first | exact HB.out | apply below_alloc | apply pw_below_drewN | apply below_drew1) | exact HB.out))) : w.heap.size ≤ gb497)); have n5_ := Aside0.mk ((by rw [hg]; exact (below_size (by repeat (first | (with_reducible first | exact HB.out | apply below_alloc | apply pw_below_drewN | apply below_drew1) | exact HB.out))) : w.heap.size ≤ gb497)); clear HO_12; clear HO_49; clear HB; have HO_12 := n0_; have HO_49 := n1_; have HB := n2_; have BK497 := n3_; have GW497 := n4_; have GE497 := n5_; clear n0_ n1_ n2_ n3_ n4_ n5_; clear hb hbox hg; have hcz30_0 : w29.cell? ⟨gb497, 0, none⟩ = some (.int .i64 0) := (blk_cell BK497.out 0).trans rfl; have hcz30_1 : w29.cell? ⟨gb497, 1, none⟩ = some (.int .i64 0) := (blk_cell BK497.out 1).trans rfl; have hcz30_2 : w29.cell? ⟨gb497, 2, none⟩ = some (.int .i64 0) := (blk_cell BK497.out 2).trans rfl; have hfz30_0 := blk_frozen BK497.out 0; have hfz30_1 := blk_frozen BK497.out 1; have hfz30_2 := blk_frozen BK497.out 2) | ((with_reducible refine gate_builtin (b := .append) (xs := #[.tmp 55, .tmp 58]) rfl ?_); at_builtin; refine Kd.R_append (Kd.int .i64) (w0 := w) w.heap.size rfl (.tmp 55) (.tmp 58) 22 3 (.int .i64 0) 8 rfl Try.underlying22 info3 rfl (by decide) (by omega) u12 x12_3 ((rd_T59 x0_2 x51_3).f2) [.int .i64 ((rd_T59 x0_2 x51_3).f2)] (fun k_ => (w.heap.size ≤ k_)) (fun _ => False) rfl (by first | (go_simp; done) | (go_simp; rfl)) ?aP (fun _ hk => hk.elim) ?aF ?aO ?aB ?aS ?aL ?_; (case aP => exact rfl); (case aB => exact (by repeat (first | (with_reducible first | exact HB.out | apply below_alloc | apply pw_below_drewN | apply below_drew1 | refine below_set ?_ GE497.out) | exact HB.out))); (case aF => exact (fun k_ hk => (Nat.le_trans (below_size (by repeat (first | (with_reducible first | exact HB.out | apply below_alloc | apply pw_below_drewN | apply below_drew1 | refine below_set ?_ GE497.out) | exact HB.out))) hk))); (case aO => exact (by (with_reducible repeat (first | apply Kd.R_alloc | apply Kd.R_drewN | apply Kd.R_drew)); exact Kd.R_mono (Kd.R_far (p := ⟨gb497, 2, none⟩) (Kd.R_far (p := ⟨gb497, 1, none⟩) (Kd.R_far (p := ⟨gb497, 0, none⟩) (Kd.R_types HO_12.out BK497.out (by decide)) (fun _ hk => hk.2) (.int .i64 ((rd_T59 x0_2 x51_3).f0))) (fun _ hk => hk.2) (.int .i64 ((rd_T59 x0_2 x51_3).f1))) (fun _ hk => hk.2) (.int .i64 ((rd_T59 x0_2 x51_3).f2))) (fun _ hk => hk.1))); (case aS => exact (below_size (by repeat (first | (with_reducible first | exact HB.out | apply below_alloc | apply pw_below_drewN | apply below_drew1 | refine below_set ?_ GE497.out) | exact HB.out)))); (case aL => have := LMc28.out; omega); intro v499 w31 ho hb hg hat; rw [← Ny498.out] at ho; have n0_ := Aside0.mk (Kd.V_afterv (ok := (fun k_ => (P0_ k_ ∨ w.heap.size ≤ k_) ∧ k_ ≠ gb497)) (by (with_reducible repeat (first | apply Kd.V_alloc | apply Kd.V_drewN | apply Kd.V_drew)); exact Kd.V_mono (Kd.V_far (p := ⟨gb497, 2, none⟩) (Kd.V_far (p := ⟨gb497, 1, none⟩) (Kd.V_far (p := ⟨gb497, 0, none⟩) (Kd.V_mono HO_49.out (fun k_ hk => (⟨hk, hk.2⟩ : _ ∧ k_ ≠ gb497))) (fun _ hk => hk.2) (.int .i64 ((rd_T59 x0_2 x51_3).f0))) (fun _ hk => hk.2) (.int .i64 ((rd_T59 x0_2 x51_3).f1))) (fun _ hk => hk.2) (.int .i64 ((rd_T59 x0_2 x51_3).f2))) (fun _ hk => ⟨⟨hk.1.1.1, hk.1.2⟩, hk.1.1.2⟩)) hg hat); have n1_ := Aside0.mk (blk_grown (g := gb497) (o := .cells #[.int .i64 ((rd_T59 x0_2 x51_3).f0), .int .i64 ((rd_T59 x0_2 x51_3).f1), .int .i64 ((rd_T59 x0_2 x51_3).f2)] 59 (0, 0)) (by (with_reducible repeat (first | refine blk_drewN ?_ _ | refine blk_drew ?_ | refine blk_alloc ?_ _)); refine blk_put (cs := #[.int .i64 ((rd_T59 x0_2 x51_3).f0), .int .i64 ((rd_T59 x0_2 x51_3).f1), .int .i64 0]) ?_ 2 _ rfl; (with_reducible repeat (first | refine blk_drewN ?_ _ | refine blk_drew ?_ | refine blk_alloc ?_ _)); refine blk_put (cs := #[.int .i64 ((rd_T59 x0_2 x51_3).f0), .int .i64 0, .int .i64 0]) ?_ 1 _ rfl; (with_reducible repeat (first | refine blk_drewN ?_ _ | refine blk_drew ?_ | refine blk_alloc ?_ _)); refine blk_put (cs := #[.int .i64 0, .int .i64 0, .int .i64 0]) ?_ 0 _ rfl; (with_reducible repeat (first | refine blk_drewN ?_ _ | refine blk_drew ?_ | refine blk_alloc ?_ _)); exact BK497.out) hg (Kd.R_ne HO_12.out BK497.out (by decide))); have n2_ := Aside0.mk (hb); have n3_ := Aside0.mk (ho); clear HO_49; clear BK497; clear HB; clear HO_12; have HO_49 := n0_; have BK497 := n1_; have HB := n2_; have HO500 := n3_; clear n0_ n1_ n2_ n3_; clear ho hb hg hat)); try go_wp2_with (first | ((with_reducible refine gate_dst (N := 14) rfl ?_); refine box_event ?hg (N := 14) ?hd (cs := #[.int .i64 0, .int .i64 0, .int .i64 0]) (t := 59) ?hr ?_; (case hd => rfl); (case hg => rfl); (case hr => first | (go_simp; done) | (go_simp; rfl)); intro gb497 hg w29 hbox hb; have n0_ := Aside0.mk (Kd.R_below (by (with_reducible repeat (first | apply Kd.R_alloc | apply Kd.R_drewN | apply Kd.R_drew)); exact HO_12.out) hb); have n1_ := Aside0.mk (Kd.V_below (Kd.V_elderB (by (with_reducible repeat (first | apply Kd.V_alloc | apply Kd.V_drewN | apply Kd.V_drew)); exact HO_49.out) gb497 (Nat.le_of_eq hg.symm)) hb); have n2_ := Aside0.mk (below_step (by repeat (first | (with_reducible first | exact HB.out | apply below_alloc | apply pw_below_drewN | apply below_drew1) | exact HB.out)) hb); have n3_ := Aside0.mk (hbox); have n4_ := Aside0.mk ((by rw [hg]; exact (below_size (by repeat (first | (with_reducible first | exact HB.out | apply below_alloc | apply pw_below_drewN | apply below_drew1) | exact HB.out))) : w.heap.size ≤ gb497)); have n5_ := Aside0.mk ((by rw [hg]; exact (below_size (by repeat (first | (with_reducible first | exact HB.out | apply below_alloc | apply pw_below_drewN | apply below_drew1) | exact HB.out))) : w.heap.size ≤ gb497)); clear HO_12; clear HO_49; clear HB; have HO_12 := n0_; have HO_49 := n1_; have HB := n2_; have BK497 := n3_; have GW497 := n4_; have GE497 := n5_; clear n0_ n1_ n2_ n3_ n4_ n5_; clear hb hbox hg; have hcz30_0 : w29.cell? ⟨gb497, 0, none⟩ = some (.int .i64 0) := (blk_cell BK497.out 0).trans rfl; have hcz30_1 : w29.cell? ⟨gb497, 1, none⟩ = some (.int .i64 0) := (blk_cell BK497.out 1).trans rfl; have hcz30_2 : w29.cell? ⟨gb497, 2, none⟩ = some (.int .i64 0) := (blk_cell BK497.out 2).trans rfl; have hfz30_0 := blk_frozen BK497.out 0; have hfz30_1 := blk_frozen BK497.out 1; have hfz30_2 := blk_frozen BK497.out 2) | ((with_reducible refine gate_builtin (b := .append) (xs := #[.tmp 55, .tmp 58]) rfl ?_); at_builtin; refine Kd.R_append (Kd.int .i64) (w0 := w) w.heap.size rfl (.tmp 55) (.tmp 58) 22 3 (.int .i64 0) 8 rfl Try.underlying22 info3 rfl (by decide) (by omega) u12 x12_3 ((rd_T59 x0_2 x51_3).f2) [.int .i64 ((rd_T59 x0_2 x51_3).f2)] (fun k_ => (w.heap.size ≤ k_)) (fun _ => False) rfl (by first | (go_simp; done) | (go_simp; rfl)) ?aP (fun _ hk => hk.elim) ?aF ?aO ?aB ?aS ?aL ?_; (case aP => exact rfl); (case aB => exact (by repeat (first | (with_reducible first | exact HB.out | apply below_alloc | apply pw_below_drewN | apply below_drew1 | refine below_set ?_ GE497.out) | exact HB.out))); (case aF => exact (fun k_ hk => (Nat.le_trans (below_size (by repeat (first | (with_reducible first | exact HB.out | apply below_alloc | apply pw_below_drewN | apply below_drew1 | refine below_set ?_ GE497.out) | exact HB.out))) hk))); (case aO => exact (by (with_reducible repeat (first | apply Kd.R_alloc | apply Kd.R_drewN | apply Kd.R_drew)); exact Kd.R_mono (Kd.R_far (p := ⟨gb497, 2, none⟩) (Kd.R_far (p := ⟨gb497, 1, none⟩) (Kd.R_far (p := ⟨gb497, 0, none⟩) (Kd.R_types HO_12.out BK497.out (by decide)) (fun _ hk => hk.2) (.int .i64 ((rd_T59 x0_2 x51_3).f0))) (fun _ hk => hk.2) (.int .i64 ((rd_T59 x0_2 x51_3).f1))) (fun _ hk => hk.2) (.int .i64 ((rd_T59 x0_2 x51_3).f2))) (fun _ hk => hk.1))); (case aS => exact (below_size (by repeat (first | (with_reducible first | exact HB.out | apply below_alloc | apply pw_below_drewN | apply below_drew1 | refine below_set ?_ GE497.out) | exact HB.out)))); (case aL => have := LMc28.out; omega); intro v499 w31 ho hb hg hat; rw [← Ny498.out] at ho; have n0_ := Aside0.mk (Kd.V_afterv (ok := (fun k_ => (P0_ k_ ∨ w.heap.size ≤ k_) ∧ k_ ≠ gb497)) (by (with_reducible repeat (first | apply Kd.V_alloc | apply Kd.V_drewN | apply Kd.V_drew)); exact Kd.V_mono (Kd.V_far (p := ⟨gb497, 2, none⟩) (Kd.V_far (p := ⟨gb497, 1, none⟩) (Kd.V_far (p := ⟨gb497, 0, none⟩) (Kd.V_mono HO_49.out (fun k_ hk => (⟨hk, hk.2⟩ : _ ∧ k_ ≠ gb497))) (fun _ hk => hk.2) (.int .i64 ((rd_T59 x0_2 x51_3).f0))) (fun _ hk => hk.2) (.int .i64 ((rd_T59 x0_2 x51_3).f1))) (fun _ hk => hk.2) (.int .i64 ((rd_T59 x0_2 x51_3).f2))) (fun _ hk => ⟨⟨hk.1.1.1, hk.1.2⟩, hk.1.1.2⟩)) hg hat); have n1_ := Aside0.mk (blk_grown (g := gb497) (o := .cells #[.int .i64 ((rd_T59 x0_2 x51_3).f0), .int .i64 ((rd_T59 x0_2 x51_3).f1), .int .i64 ((rd_T59 x0_2 x51_3).f2)] 59 (0, 0)) (by (with_reducible repeat (first | refine blk_drewN ?_ _ | refine blk_drew ?_ | refine blk_alloc ?_ _)); refine blk_put (cs := #[.int .i64 ((rd_T59 x0_2 x51_3).f0), .int .i64 ((rd_T59 x0_2 x51_3).f1), .int .i64 0]) ?_ 2 _ rfl; (with_reducible repeat (first | refine blk_drewN ?_ _ | refine blk_drew ?_ | refine blk_alloc ?_ _)); refine blk_put (cs := #[.int .i64 ((rd_T59 x0_2 x51_3).f0), .int .i64 0, .int .i64 0]) ?_ 1 _ rfl; (with_reducible repeat (first | refine blk_drewN ?_ _ | refine blk_drew ?_ | refine blk_alloc ?_ _)); refine blk_put (cs := #[.int .i64 0, .int .i64 0, .int .i64 0]) ?_ 0 _ rfl; (with_reducible repeat (first | refine blk_drewN ?_ _ | refine blk_drew ?_ | refine blk_alloc ?_ _)); exact BK497.out) hg (Kd.R_ne HO_12.out BK497.out (by decide))); have n2_ := Aside0.mk (hb); have n3_ := Aside0.mk (ho); clear HO_49; clear BK497; clear HB; clear HO_12; have HO_49 := n0_; have BK497 := n1_; have HB := n2_; have HO500 := n3_; clear n0_ n1_ n2_ n3_; clear ho hb hg hat)))
                          go_roundg k3
                          case measure => have := HJ2.out; have := HK2.out; have := HK3.out; omega
                          case rel => exact ⟨(y498), (wrap64 (x51_3 + 1)), (by first | rfl | (simp; done) | (simp [*]; done)), H', ⟨by have := HJ2.out; have := HK2.out; have := HK3.out; omega⟩, ⟨by (with_reducible repeat (first | apply Kd.R_alloc | apply Kd.R_drewN | apply Kd.R_drew)); exact HO500.out⟩, ⟨by (with_reducible repeat (first | apply Kd.V_alloc | apply Kd.V_drewN | apply Kd.V_drew)); exact Kd.V_mono HO_49.out (fun _ hk => ⟨hk.1.1, hk.2⟩)⟩, ⟨by repeat (first | (with_reducible first | exact HB.out | apply below_alloc | apply pw_below_drewN | apply below_drew1 | refine below_set ?_ GE497.out) | exact HB.out)⟩⟩
                        · rw [if_neg c28] at H
                          exact absurd H (by simp)
                      · rw [if_neg c27] at H
                        exact absurd H (by simp)
                    · rw [if_neg c26] at H
                      exact absurd H (by simp)
                  · rw [if_neg c25] at H
                    have c25b0 : decide (x51_3 < (x0_2.length : Int)) = false := decide_eq_false c25
                    clear c25
                    simp only [Option.some.injEq, Prod.mk.injEq] at H
                    obtain ⟨rfl, rfl⟩ := H
                    go_wp2
                    repeat (go_quiet (fail); try go_wp2)
                    go_ret2
                    exact ⟨_, by first | rfl | (simp [errW_none, errW_some] <;> rfl) | (simp [*, errW_none, errW_some] <;> rfl), by (with_reducible repeat (first | apply Kd.R_alloc | apply Kd.R_drewN | apply Kd.R_drew)); exact HO_12.out, by repeat (first | (with_reducible first | exact HB.out | apply below_alloc | apply pw_below_drewN | apply below_drew1) | exact HB.out)⟩

/-! ### impl_Basin_84: function 84 -/
def impl_Basin_84.l0 : Nat → List (S59) → List (S59) → Int → Int → Option (Bool)
  | 0, _, _, _, _ => none
  | k + 1, x0, x1, x12, x13 => if x13 < x12 then (if 0 ≤ x13 then (if x13 < (x0.length : Int) then (if x13 < (x1.length : Int) then (if (!(((rd_T59 x0 x13).f0) == ((rd_T59 x1 x13).f0)) || (!(((rd_T59 x0 x13).f1) == ((rd_T59 x1 x13).f1)) || (!(((rd_T59 x0 x13).f2) == ((rd_T59 x1 x13).f2))))) = true then (some false) else (impl_Basin_84.l0 k x0 x1 x12 (wrap64 (x13 + 1)))) else (none)) else (none)) else (none)) else (some true)
def impl_Basin_84.f (k : Nat) (l0 : List (S59)) (l1 : List (S59)) : Option (Bool) := if (l0.length : Int) = (l1.length : Int) then (impl_Basin_84.l0 k l0 l1 (l0.length : Int) 0) else (some false)
theorem impl_Basin_84.mono_l : ∀ k, (∀ y0 y1 y2 y3, LeO (impl_Basin_84.l0 k y0 y1 y2 y3) (impl_Basin_84.l0 (k + 1) y0 y1 y2 y3))
  | 0 => fun _ _ _ _ r h => by simp [impl_Basin_84.l0] at h
  | k + 1 => by
    have ih0 := impl_Basin_84.mono_l k
    · intro y0 y1 y2 y3
      unfold impl_Basin_84.l0
      repeat' first
      | (with_reducible exact ih0 _ _ _ _)
      | (with_reducible exact LeO.refl _)
      | (with_reducible exact LeO.none _)
      | (with_reducible refine LeO.ite ?_ ?_)
      | (with_reducible refine LeO.bind ?_ (fun _ => ?_))
      | exact ih0 _ _ _ _
      | exact LeO.none _
      | refine LeO.ite ?_ ?_
      | refine LeO.bind ?_ (fun _ => ?_)
theorem impl_Basin_84.mono : ∀ a0 a1 k, LeO (impl_Basin_84.f k a0 a1) (impl_Basin_84.f (k + 1) a0 a1) := by
  intro a0 a1 k
  have ih0 := impl_Basin_84.mono_l k
  unfold impl_Basin_84.f
  repeat' first
      | (with_reducible exact ih0 _ _ _ _)
      | (with_reducible exact LeO.refl _)
      | (with_reducible exact LeO.none _)
      | (with_reducible refine LeO.ite ?_ ?_)
      | (with_reducible refine LeO.bind ?_ (fun _ => ?_))
      | exact ih0 _ _ _ _
      | exact LeO.none _
      | refine LeO.ite ?_ ?_
      | refine LeO.bind ?_ (fun _ => ?_)
set_option maxHeartbeats 8000000 in
set_option maxRecDepth 100000 in
theorem impl_Basin_84.calls (k : Nat) (A0 : Option Addr) (c0 : Nat) (l0 : List (S59)) (A1 : Option Addr) (c1 : Nat) (l1 : List (S59)) (r : Bool) (w : World) (hr0 : Kd.C k59 w A0 l0.length l0) (hc0 : l0.length ≤ c0) (hr1 : Kd.C k59 w A1 l1.length l1) (hc1 : l1.length ≤ c1) (h : impl_Basin_84.f k l0 l1 = some r) :
    Calls Try.prog 84 #[.slice A0 l0.length c0, .slice A1 l1.length c1] w fun e w' => e = .returned (.bool r) ∧ Drawn0 w w' := by
  have hu59 := Try.underlying59
  have HR0 := Aside0.mk hr0
  have HC0 := Aside0.mk hc0
  clear hr0 hc0
  have HR1 := Aside0.mk hr1
  have HC1 := Aside0.mk hc1
  clear hr1 hc1
  have H : (if (l0.length : Int) = (l1.length : Int) then (impl_Basin_84.l0 k l0 l1 (l0.length : Int) 0) else (some false)) = some r := h
  clear h
  by_cases c3 : (l0.length : Int) = (l1.length : Int)
  · rw [if_pos c3] at H
    have c3b0 : ((l0.length : Int) == (l1.length : Int)) = true := beq_iff_eq.mpr c3
    have c3b1 : ((l0.length : Int) != (l1.length : Int)) = false := bne_eq_false_iff_eq.mpr c3
    have c3b2 : (l0.length == l1.length) = true := by first | simpa using c3 | (simp at c3 ⊢; omega)
    clear c3
    have H' := Aside0.mk H
    clear H
    go_enter Try.func84, Try.ntmps84
    go_wp2
    repeat (go_quiet (fail); try go_wp2)
    go_loopg [13] k (fun kq v13 w' => ∃ (x13_1 : Int), v13 = .int .i64 x13_1 ∧ Aside0 (impl_Basin_84.l0 kq l0 l1 (l0.length : Int) x13_1 = some r) ∧ Aside0 (kq ≤ k) ∧ Drawn0 w w')
    case atStart => exact ⟨(0), (by first | rfl | (simp; done) | (simp [*]; done)), H', ⟨Nat.le_refl _⟩, by repeat (first | exact Drawn0.refl _ | apply Drawn0.step)⟩
    case round =>
      clear H'
      try clear c1
      try clear p2
      try clear c3
      try clear c3b0
      try clear c3b1
      try clear c3b2
      obtain ⟨x13_1, rfl, HA, HK1, ⟨m1, rfl⟩⟩ := hrel
      cases gk with
      | zero => exact absurd HA.out (by simp [impl_Basin_84.l0])
      | succ k1 =>
        have H := HA.out
        clear HA
        simp only [impl_Basin_84.l0] at H
        by_cases c4 : x13_1 < (l0.length : Int)
        · rw [if_pos c4] at H
          have c4b0 : decide (x13_1 < (l0.length : Int)) = true := decide_eq_true c4
          clear c4
          by_cases c5 : 0 ≤ x13_1
          · rw [if_pos c5] at H
            have c5b0 : decide (0 ≤ x13_1) = true := decide_eq_true c5
            clear c5
            by_cases c6 : x13_1 < (l0.length : Int)
            · rw [if_pos c6] at H
              have c6b0 : decide (x13_1 < (l0.length : Int)) = true := decide_eq_true c6
              clear c6
              by_cases c7 : x13_1 < (l1.length : Int)
              · rw [if_pos c7] at H
                have c7b0 : decide (x13_1 < (l1.length : Int)) = true := decide_eq_true c7
                clear c7
                by_cases c8 : (!(((rd_T59 l0 x13_1).f0) == ((rd_T59 l1 x13_1).f0)) || (!(((rd_T59 l0 x13_1).f1) == ((rd_T59 l1 x13_1).f1)) || (!(((rd_T59 l0 x13_1).f2) == ((rd_T59 l1 x13_1).f2))))) = true
                · rw [if_pos c8] at H
                  have c8b0 : (!(((rd_T59 l0 x13_1).f0) == ((rd_T59 l1 x13_1).f0)) || (!(((rd_T59 l0 x13_1).f1) == ((rd_T59 l1 x13_1).f1)) || (!(((rd_T59 l0 x13_1).f2) == ((rd_T59 l1 x13_1).f2))))) = true := c8
                  clear c8
                  obtain rfl := Option.some.inj H
                  have p501 : 0 ≤ (x13_1 : Int) := of_decide_eq_true (by first | (with_reducible assumption) | assumption)
                  have q501 : x13_1 < (l0.length : Int) := of_decide_eq_true (by first | (with_reducible assumption) | assumption)
                  obtain ⟨ad501, e501, hx501_0, hx501_1, hx501_2⟩ := at_T59 HR0.out x13_1 p501 q501
                  cases e501
                  replace p501 := eq_true p501
                  replace q501 := eq_true q501
                  have p502 : 0 ≤ (x13_1 : Int) := of_decide_eq_true (by first | (with_reducible assumption) | assumption)
                  have q502 : x13_1 < (l1.length : Int) := of_decide_eq_true (by first | (with_reducible assumption) | assumption)
                  obtain ⟨ad502, e502, hx502_0, hx502_1, hx502_2⟩ := at_T59 HR1.out x13_1 p502 q502
                  cases e502
                  replace p502 := eq_true p502
                  replace q502 := eq_true q502
                  go_wp2
                  repeat (go_quiet (fail); try go_wp2)
                  go_ret
                  exact ⟨by first | rfl | (simp; done) | (simp [*]; done), by repeat (first | exact Drawn0.refl _ | apply Drawn0.step)⟩
                · rw [if_neg c8] at H
                  have c8b0 : (!(((rd_T59 l0 x13_1).f0) == ((rd_T59 l1 x13_1).f0)) || (!(((rd_T59 l0 x13_1).f1) == ((rd_T59 l1 x13_1).f1)) || (!(((rd_T59 l0 x13_1).f2) == ((rd_T59 l1 x13_1).f2))))) = false := by simpa using c8
                  clear c8
                  have H' := Aside0.mk H
                  clear H
                  have p501 : 0 ≤ (x13_1 : Int) := of_decide_eq_true (by first | (with_reducible assumption) | assumption)
                  have q501 : x13_1 < (l0.length : Int) := of_decide_eq_true (by first | (with_reducible assumption) | assumption)
                  obtain ⟨ad501, e501, hx501_0, hx501_1, hx501_2⟩ := at_T59 HR0.out x13_1 p501 q501
                  cases e501
                  replace p501 := eq_true p501
                  replace q501 := eq_true q501
                  have p502 : 0 ≤ (x13_1 : Int) := of_decide_eq_true (by first | (with_reducible assumption) | assumption)
                  have q502 : x13_1 < (l1.length : Int) := of_decide_eq_true (by first | (with_reducible assumption) | assumption)
                  obtain ⟨ad502, e502, hx502_0, hx502_1, hx502_2⟩ := at_T59 HR1.out x13_1 p502 q502
                  cases e502
                  replace p502 := eq_true p502
                  replace q502 := eq_true q502
                  go_wp2
                  repeat (go_quiet (fail); try go_wp2)
                  go_roundg k1
                  case measure => have := HK1.out; omega
                  case rel => exact ⟨(wrap64 (x13_1 + 1)), (by first | rfl | (simp; done) | (simp [*]; done)), H', ⟨by have := HK1.out; omega⟩, by repeat (first | exact Drawn0.refl _ | apply Drawn0.step)⟩
              · rw [if_neg c7] at H
                exact absurd H (by simp)
            · rw [if_neg c6] at H
              exact absurd H (by simp)
          · rw [if_neg c5] at H
            exact absurd H (by simp)
        · rw [if_neg c4] at H
          have c4b0 : decide (x13_1 < (l0.length : Int)) = false := decide_eq_false c4
          clear c4
          obtain rfl := Option.some.inj H
          go_wp2
          repeat (go_quiet (fail); try go_wp2)
          go_ret
          exact ⟨by first | rfl | (simp; done) | (simp [*]; done), by repeat (first | exact Drawn0.refl _ | apply Drawn0.step)⟩
  · rw [if_neg c3] at H
    have c3b0 : ((l0.length : Int) == (l1.length : Int)) = false := beq_eq_false_iff_ne.mpr c3
    have c3b1 : ((l0.length : Int) != (l1.length : Int)) = true := bne_iff_ne.mpr c3
    have c3b2 : (l0.length == l1.length) = false := by first | simpa using c3 | (simp at c3 ⊢; omega)
    obtain rfl := Option.some.inj H
    go_enter Try.func84, Try.ntmps84
    go_wp2
    repeat (go_quiet (fail); try go_wp2)
    go_ret
    exact ⟨by first | rfl | (simp; done) | (simp [*]; done), by repeat (first | exact Drawn0.refl _ | apply Drawn0.step)⟩

end Go.Proofs.Ytcalhmjnoahliaa.Pr
