/- The program's runRow hands back rows of its own, every one younger than the call: the printed walk of runRow (YtcalhmjnoahliaaPr10), its rows told as such; turned by wip/tools/ownleaf.py. -/
import Derived.Test.YtcalhmjnoahliaaOwU
import Derived.Test.YtcalhmjnoahliaaOwT
import Derived.Test.YtcalhmjnoahliaaPr0
import Derived.Test.YtcalhmjnoahliaaPr6
import Derived.Test.YtcalhmjnoahliaaPr9
namespace Go.Proofs.Ytcalhmjnoahliaa.Pr
open Go.RowKit Go.Proofs.YtcalhmjnoahliaaW.PrintWords Go.Proofs.YtcalhmjnoahliaaW.PrintLast Go.Proofs.YtcalhmjnoahliaaW.PrintMore
attribute [local go_sem] max2_int min2_int max_two min_two max_three min_three max_four min_four   -- for this text's walks alone
set_option linter.unusedVariables false
set_option linter.unusedSimpArgs false

/-! ### impl_runRow: a way -/
open Go.Proofs.YtcalhmjnoahliaaW.PrintWords.Kd renaming FK_slice_mk → aA, N_F → bA, N_afterv → cA, N_alloc → dA, N_append_rows_step → eA, N_base → fA, N_drew → gA, N_drewN → hA, N_elder' → iA, N_far → jA, N_lit_step → kA, N_lower → lA, N_lt → mA, N_mono → nA, N_ne → oA, N_slice → pA, N_typed → qA, R_F → rA, R_alloc → sA, R_apart' → tA, R_base → uA, R_below → vA, R_drew → wA, R_drewN → xA, R_elder' → yA, R_far → zA, R_lit_step → bB, R_lower → cB, R_lt → dB, R_mono → eB, R_new' → fB, R_newM → gB, R_over' → hB, R_reads' → iB, R_slice → jB, R_types → kB, U_F → lB, U_afterv → mB, U_alloc → nB, U_drew → oB, U_drewN → pB, U_elder' → qB, U_far → rB, U_mono → sB, U_reads' → tB
open Go.Proofs.YtcalhmjnoahliaaW.PrintWords renaming below_alloc → uB, pw_below_drewN → vB, below_drew1 → wB, below_set → xB, below_size → yB, below_step → zB, blk_drewN → aC, blk_drew → bC, blk_alloc → cC, blk_cell → dC, blk_below → eC
open Go.Proofs.YtcalhmjnoahliaaW.PrintLast renaming putAll → fC
open List renaming setIfInBounds_toArray → gC, set_cons_zero → hC, set_cons_succ → iC
open Go.Value renaming slice → jC
open Bool renaming true → kC, false → lC
set_option maxHeartbeats 8000000 in
set_option maxRecDepth 100000 in
theorem impl_runRow.ownLeaf (k : Nat) (Qx : Nat → Prop) (A0 : Option Addr) (c0 : Nat) (l0 : List S59) (A1 : Option Addr) (c1 : Nat) (l1 : List Int) (r1 : List (List S59)) (r2 : List (List Int)) (r3 : List Int) (w : World) (hs0 : Kd.U k59 59 w (Array.size (World.heap w)) (fun k_ => Qx k_) (Value.slice A0 (List.length l0) c0) l0) (iy : Aside0 (Kd.U k59 59 w (Array.size (World.heap w)) (fun k_ => Qx k_ ∨ Array.size (World.heap w) ≤ k_) (Value.slice A0 (List.length l0) c0) l0)) (HR1 : Aside0 (Kd.C (Kd.int IntKind.i64) w A1 (List.length l1) l1)) (HC1 : Aside0 (List.length l1 ≤ c1)) (HB : Aside0 (Below (Array.size (World.heap w)) w w)) (py : List S59) (A3 : Aside0 (impl_Basin_82.f l0 = some py)) (ny : List (List S59)) (Vz : Aside0 (ny = [py])) (H' : Aside0 (impl_runRow.l0 k l0 l1 (↑(List.length l1)) 0 ny [] [] = some (r1, r2, r3))) :
  Calls Try.prog 77 #[Value.slice A0 (List.length l0) c0, Value.slice A1 (List.length l1) c1] w fun e w' => ∃ v0_ v1_ v2_, e = Ending.returned (Value.agg #[v0_, v1_, v2_]) ∧ Kd.N (Kd.os 59 k59 w.heap.size) 29 w' (Array.size (World.heap w)) (fun k_ => (Qx k_ ∨ Array.size (World.heap w) ≤ k_) ∧ some k_ ≠ Value.ownBlock v1_ ∧ some k_ ≠ Value.ownBlock v2_) v0_ r1 ∧ Kd.N (Kd.slice 3 (Kd.int IntKind.i64)) 22 w' (Array.size (World.heap w)) (fun k_ => (Qx k_ ∨ Array.size (World.heap w) ≤ k_) ∧ some k_ ≠ Value.ownBlock v0_ ∧ some k_ ≠ Value.ownBlock v2_) v1_ r2 ∧ Kd.R (Kd.int IntKind.i64) 3 w' (Array.size (World.heap w)) (fun k_ => Array.size (World.heap w) ≤ k_) v2_ r3 ∧ Below (Array.size (World.heap w)) w w' := by
 have hu79 := Try.underlying79
 go_enter Try.func77, Try.ntmps77
 go_wp2_with (first | ((with_reducible refine gate_dst (N := 4) rfl ?_); refine box_event ?hg (N := 4) ?hd (cs := #[.slice none 0 0, .slice none 0 0, .slice none 0 0]) (t := 79) ?hr ?_; (case hd => rfl); (case hg => rfl); (case hr => first | (go_simp; done) | (go_simp; rfl)); intro Ex hg w4 hbox hb; have px := Aside0.mk (Kd.U_below (Kd.U_elderB (by (with_reducible repeat (first | apply nB | apply pB | apply oB)); exact iy.out) Ex (Nat.le_of_eq hg.symm)) hb); have qx := Aside0.mk (zB (by repeat (first | (with_reducible first | exact HB.out | apply uB | apply vB | apply wB) | exact HB.out)) hb); have rx := Aside0.mk (hbox); have sx := Aside0.mk ((by rw [hg]; exact (yB (by repeat (first | (with_reducible first | exact HB.out | apply uB | apply vB | apply wB) | exact HB.out))) : w.heap.size ≤ Ex)); have tx := Aside0.mk ((by rw [hg]; exact (yB (by repeat (first | (with_reducible first | exact HB.out | apply uB | apply vB | apply wB) | exact HB.out))) : w.heap.size ≤ Ex)); clear iy; clear HB; have iy := px; have HB := qx; have Px := rx; have lz := sx; have Rx := tx; clear px qx rx sx tx; clear hb hbox hg) | ((with_reducible refine gate_callee (f := 82) rfl ?_); refine goesL_ (some 12) rfl rfl Try.func82 (by kernel_rfl) rfl #[.slice A0 l0.length c0] rfl (by (try simp only [List.map_toArray, List.map_cons, List.map_nil]); first | done | rfl | (simp only [List.length_drop, List.length_take]; rfl)) ?_; (with_reducible refine (impl_Basin_82.calls _ _ l0 py _ ?side1 ?side2 A3.out).mono ?_); (case side1 => repeat (first | exact (tB iy.out).2.2 | (with_reducible refine Kd.C_alloc ?_ _) | (with_reducible refine Kd.C_drewN ?_ _) | (with_reducible refine Kd.C_drew ?_))); (case side2 => exact (tB iy.out).2.1); rintro e w5 ⟨nz, rfl, ho0, hb⟩; refine ⟨_, rfl, ?_⟩; have px := Aside0.mk (qB (by (with_reducible repeat (first | apply nB | apply pB | apply oB)); exact iy.out) (uA ho0) hb); have qx := Aside0.mk (cB (gB (M := fun k_ => (w.heap.size ≤ k_)) ho0 (yB (by repeat (first | (with_reducible first | exact HB.out | apply uB | apply vB | apply wB | refine xB ?_ Rx.out) | exact HB.out))) (fun k_ h_ => h_)) (yB (by repeat (first | (with_reducible first | exact HB.out | apply uB | apply vB | apply wB | refine xB ?_ Rx.out) | exact HB.out)))); have rx := Aside0.mk (eC (g := Ex) (o := .cells #[.slice none 0 0, .slice none 0 0, .slice none 0 0] 79 (0, 0)) (by (with_reducible repeat (first | refine aC ?_ _ | refine bC ?_ | refine cC ?_ _)); exact Px.out) hb); have sx := Aside0.mk (zB (by repeat (first | (with_reducible first | exact HB.out | apply uB | apply vB | apply wB | refine xB ?_ Rx.out) | exact HB.out)) hb); clear iy; clear Px; clear HB; have iy := px; have Dz := qx; have Px := rx; have HB := sx; clear px qx rx sx; (try clear hb); (try clear hb2); (try clear hk); (try clear hi); (try clear ho0); obtain ⟨ez, fz, eo6⟩ := jB Dz.out; subst eo6) | ((with_reducible refine gate_dst (N := 13) rfl ?_); refine Kd.N_lit (Kd.os 59 k59 w.heap.size) _ 29 ?hg (N' := 13) ?hd (xs := ([py] : List (List (S59)))) (inner := [.slice ez py.length fz]) (ok := (fun k_ => (Qx k_ ∨ w.heap.size ≤ k_) ∧ k_ ≠ Ex)) (okp := (fun k_ => (Qx k_ ∨ w.heap.size ≤ k_) ∧ k_ ≠ Ex)) ?hr ?hp (fun _ hk => hk) ((show ∀ k_, w5.heap.size ≤ k_ → (fun k_ => (Qx k_ ∨ w.heap.size ≤ k_) ∧ k_ ≠ Ex) k_ from fun k_ hk => ⟨(.inr (Nat.le_trans (yB (by repeat (first | (with_reducible first | exact HB.out | apply uB | apply vB | apply wB | refine xB ?_ Rx.out) | exact HB.out))) hk)), Kd.freshB (g := Ex) (o := .cells #[.slice none 0 0, .slice none 0 0, .slice none 0 0] 79 (0, 0)) (by (with_reducible repeat (first | refine aC ?_ _ | refine bC ?_ | refine cC ?_ _)); exact Px.out) k_ hk⟩) _ (Nat.le_refl _)) (Below.refl _ _) (Nat.le_refl _) (by simp) ?_; (case hd => rfl); (case hg => rfl); (case hr => first | (go_simp; done) | (go_simp; rfl)); (case hp => exact (Reps.one (show Kd.FK (Kd.os 59 k59 w.heap.size) _ _ py [.slice ez py.length fz] from (Kd.FK_os_R (eB (ok' := (fun k_ => (Qx k_ ∨ w.heap.size ≤ k_) ∧ k_ ≠ Ex)) (kB (Dz.out) Px.out (by decide)) (fun k_ hk => ⟨(.inr (hk.1.1)), hk.2⟩)))) (Reps.none _ _))); intro oz w7 ho8 hb hg_ hnew_; clear hg_ hnew_; (first | rw [← Vz.out] at ho8 | (simp only [Int.reduceToNat] at ho8; rw [← Vz.out] at ho8)); have px := Aside0.mk (qB (by (with_reducible repeat (first | apply nB | apply pB | apply oB)); exact iy.out) (fA ho8) hb); have qx := Aside0.mk (lA ho8 (yB (by repeat (first | (with_reducible first | exact HB.out | apply uB | apply vB | apply wB | refine xB ?_ Rx.out) | exact HB.out)))); have rx := Aside0.mk (eC (g := Ex) (o := .cells #[.slice none 0 0, .slice none 0 0, .slice none 0 0] 79 (0, 0)) (by (with_reducible repeat (first | refine aC ?_ _ | refine bC ?_ | refine cC ?_ _)); exact Px.out) hb); have sx := Aside0.mk (zB (by repeat (first | (with_reducible first | exact HB.out | apply uB | apply vB | apply wB | refine xB ?_ Rx.out) | exact HB.out)) hb); clear iy; clear Px; clear HB; clear Dz; have iy := px; have yy := qx; have Px := rx; have HB := sx; clear px qx rx sx; clear hb ho8; obtain ⟨Qz, Rz, eo9⟩ := pA yy.out; subst eo9) | ((with_reducible refine gate_dst (N := 5) rfl ?_); refine box_event ?hg (N := 5) ?hd (cs := #[.slice none 0 0, .slice none 0 0, .slice none 0 0]) (t := 79) ?hr ?_; (case hd => rfl); (case hg => rfl); (case hr => first | (go_simp; done) | (go_simp; rfl)); intro Dx hg w10 hbox hb; have px := Aside0.mk (Kd.U_below (Kd.U_elderB (by (with_reducible repeat (first | apply nB | apply pB | apply oB)); exact iy.out) Dx (Nat.le_of_eq hg.symm)) hb); have qx := Aside0.mk (Kd.N_below (Kd.N_elderB (by (with_reducible repeat (first | apply dA | apply hA | apply gA)); exact yy.out) Dx (Nat.le_of_eq hg.symm)) hb); have rx := Aside0.mk (eC (g := Ex) (o := .cells #[.slice none 0 0, .slice none 0 0, .slice none 0 0] 79 (0, 0)) (by (with_reducible repeat (first | refine aC ?_ _ | refine bC ?_ | refine cC ?_ _)); exact Px.out) hb); have sx := Aside0.mk (zB (by repeat (first | (with_reducible first | exact HB.out | apply uB | apply vB | apply wB | refine xB ?_ Rx.out) | exact HB.out)) hb); have tx := Aside0.mk (hbox); have zx := Aside0.mk ((by rw [hg]; exact (yB (by repeat (first | (with_reducible first | exact HB.out | apply uB | apply vB | apply wB | refine xB ?_ Rx.out) | exact HB.out))) : w.heap.size ≤ Dx)); have Ay := Aside0.mk ((by rw [hg]; exact (yB (by repeat (first | (with_reducible first | exact HB.out | apply uB | apply vB | apply wB | refine xB ?_ Rx.out) | exact HB.out))) : w.heap.size ≤ Dx)); have By := Aside0.mk ((by rw [hg]; exact Nat.ne_of_lt (blk_lt (g := Ex) (o := .cells #[.slice none 0 0, .slice none 0 0, .slice none 0 0] 79 (0, 0)) (by (with_reducible repeat (first | refine aC ?_ _ | refine bC ?_ | refine cC ?_ _)); exact Px.out)) : Ex ≠ Dx)); have Cy := Aside0.mk ((by rw [hg]; exact Nat.ne_of_gt (blk_lt (g := Ex) (o := .cells #[.slice none 0 0, .slice none 0 0, .slice none 0 0] 79 (0, 0)) (by (with_reducible repeat (first | refine aC ?_ _ | refine bC ?_ | refine cC ?_ _)); exact Px.out)) : Dx ≠ Ex)); clear iy; clear yy; clear Px; clear HB; have iy := px; have yy := qx; have Px := rx; have HB := sx; have Jx := tx; have mz := zx; have Vx := Ay; have Py := By; have ey := Cy; clear px qx rx sx tx zx Ay By Cy; clear hb hbox hg; have hnb11 := ey.out; have hnc11 := Py.out; have hcz12_0 : w10.cell? ⟨Dx, 0, none⟩ = some (.slice none 0 0) := (dC Jx.out 0).trans rfl; have hcz12_1 : w10.cell? ⟨Dx, 1, none⟩ = some (.slice none 0 0) := (dC Jx.out 1).trans rfl; have hcz12_2 : w10.cell? ⟨Dx, 2, none⟩ = some (.slice none 0 0) := (dC Jx.out 2).trans rfl; have hfz12_0 := blk_frozen Jx.out 0; have hfz12_1 := blk_frozen Jx.out 1; have hfz12_2 := blk_frozen Jx.out 2))
 go_loopg [0, 17] k (fun kq v0 v17 w' => ∃ (mx : List (S59)) (Dy : Int) (Cx : List (List (S59))) (Bx : List (List Int)) (Ax : List Int) (u225000 : Value) (u225001 : Value) (u225002 : Value), v17 = .int .i64 Dy ∧ Aside0 (impl_runRow.l0 kq mx l1 (l1.length : Int) Dy Cx Bx Ax = some (r1, r2, r3)) ∧ Aside0 (kq ≤ k) ∧ Aside0 (Kd.U k59 59 w' w.heap.size (fun k_ => (Qx k_ ∨ w.heap.size ≤ k_) ∧ some k_ ≠ (u225000 : Value).ownBlock ∧ some k_ ≠ (u225001 : Value).ownBlock ∧ some k_ ≠ (u225002 : Value).ownBlock ∧ k_ ≠ Ex ∧ k_ ≠ Dx) v0 mx) ∧ Aside0 (Kd.N (Kd.os 59 k59 w.heap.size) 29 w' w.heap.size (fun k_ => (Qx k_ ∨ w.heap.size ≤ k_) ∧ some k_ ≠ (u225001 : Value).ownBlock ∧ some k_ ≠ (u225002 : Value).ownBlock ∧ k_ ≠ Ex ∧ k_ ≠ Dx) u225000 Cx) ∧ Aside0 (Kd.N (Kd.slice 3 (Kd.int .i64)) 22 w' w.heap.size (fun k_ => (Qx k_ ∨ w.heap.size ≤ k_) ∧ some k_ ≠ (u225000 : Value).ownBlock ∧ some k_ ≠ (u225002 : Value).ownBlock ∧ k_ ≠ Ex ∧ k_ ≠ Dx) u225001 Bx) ∧ Aside0 (Kd.R (Kd.int .i64) 3 w' w.heap.size (fun k_ => (w.heap.size ≤ k_)) u225002 Ax) ∧ Aside0 (w'.heap[Ex]? = some (.cells #[(.slice none 0 0), (.slice none 0 0), (.slice none 0 0)] 79 (0, 0))) ∧ Aside0 (w'.heap[Dx]? = some (.cells #[u225000, u225001, u225002] 79 (0, 0))) ∧ Aside0 (Below w.heap.size w w'))
 case atStart => exact ⟨(l0), (0), (ny), (([] : List (List Int))), (([] : List Int)), (.slice Qz ny.length Rz), (.slice none 0 0), (.slice none 0 0), (by first | rfl | (simp; done) | (simp [*]; done)), H', ⟨Nat.le_refl _⟩, ⟨by (with_reducible repeat (first | apply nB | apply pB | apply oB)); exact sB (rB (p := ⟨Dx, 2, none⟩) (rB (p := ⟨Dx, 1, none⟩) (rB (p := ⟨Dx, 0, none⟩) (sB iy.out (fun k_ hk => (⟨hk, hk.2⟩ : _ ∧ k_ ≠ Dx))) (fun _ hk => hk.2) (.slice Qz ny.length Rz)) (fun _ hk => hk.2) (.slice none 0 0)) (fun _ hk => hk.2) (.slice none 0 0)) (fun _ hk => ⟨hk.1.1.1.1.1, ⟨hk.1.1.2, ⟨(by simp [Value.ownBlock]), ⟨(by simp [Value.ownBlock]), hk.1.1.1.1.2, hk.1.2⟩⟩⟩⟩)⟩, ⟨by (with_reducible repeat (first | apply dA | apply hA | apply gA)); exact nA (jA (p := ⟨Dx, 2, none⟩) (jA (p := ⟨Dx, 1, none⟩) (jA (p := ⟨Dx, 0, none⟩) (nA yy.out (fun k_ hk => (⟨hk, hk.2⟩ : _ ∧ k_ ≠ Dx))) (fun _ hk => hk.2) (.slice Qz ny.length Rz)) (fun _ hk => hk.2) (.slice none 0 0)) (fun _ hk => hk.2) (.slice none 0 0)) (fun _ hk => ⟨hk.1.1.1, ⟨(by simp [Value.ownBlock]), ⟨(by simp [Value.ownBlock]), hk.1.1.2, hk.1.2⟩⟩⟩)⟩, ⟨by first | exact Kd.S_nil _ _ _ _ _ | exact Kd.N_nil _ _ _ _ _ | exact Kd.U_nil _ _ _ _ _ | exact Kd.Q_nil _ _ _ _ _ | exact Kd.R_nil _ _ _ _ _⟩, ⟨by first | exact Kd.R_nil _ _ _ _ _ | exact Kd.N_nil _ _ _ _ _ | exact Kd.U_nil _ _ _ _ _ | exact Kd.Q_nil _ _ _ _ _ | exact Kd.S_nil _ _ _ _ _⟩, ⟨by (with_reducible repeat (first | refine aC ?_ _ | refine bC ?_ | refine cC ?_ _)); refine blk_far ?_ Py.out _; (with_reducible repeat (first | refine aC ?_ _ | refine bC ?_ | refine cC ?_ _)); refine blk_far ?_ Py.out _; (with_reducible repeat (first | refine aC ?_ _ | refine bC ?_ | refine cC ?_ _)); refine blk_far ?_ Py.out _; (with_reducible repeat (first | refine aC ?_ _ | refine bC ?_ | refine cC ?_ _)); exact Px.out⟩, ⟨by (with_reducible repeat (first | refine aC ?_ _ | refine bC ?_ | refine cC ?_ _)); refine blk_put (cs := #[.slice Qz ny.length Rz, .slice none 0 0, .slice none 0 0]) ?_ 2 _ rfl; (with_reducible repeat (first | refine aC ?_ _ | refine bC ?_ | refine cC ?_ _)); refine blk_put (cs := #[.slice Qz ny.length Rz, .slice none 0 0, .slice none 0 0]) ?_ 1 _ rfl; (with_reducible repeat (first | refine aC ?_ _ | refine bC ?_ | refine cC ?_ _)); refine blk_put (cs := #[.slice none 0 0, .slice none 0 0, .slice none 0 0]) ?_ 0 _ rfl; (with_reducible repeat (first | refine aC ?_ _ | refine bC ?_ | refine cC ?_ _)); exact Jx.out⟩, ⟨by repeat (first | (with_reducible first | exact HB.out | apply uB | apply vB | apply wB | refine xB ?_ Rx.out | refine xB ?_ Vx.out) | exact HB.out)⟩⟩
 case round =>
  clear H'
  try clear c1
  try clear p2
  try clear c7
  try clear c8
  try clear c11
  try clear hcz12_0
  try clear hcz12_1
  try clear hcz12_2
  try clear hfz12_0
  try clear hfz12_1
  try clear hfz12_2
  obtain ⟨mx, Dy, Cx, Bx, Ax, u225000, u225001, u225002, rfl, HA, HK1, Zx, Mx, Ix, Hx, Px, Jx, HB⟩ := hrel
  cases gk with
  | zero => exact absurd HA.out (by simp [impl_runRow.l0])
  | succ k1 =>
   have H := HA.out
   clear HA
   simp only [impl_runRow.l0] at H
   by_cases c13 : Dy < (l1.length : Int)
   ·
    rw [if_pos c13] at H
    have c13b0 : decide (Dy < (l1.length : Int)) = true := decide_eq_true c13
    clear c13
    by_cases c14 : 0 ≤ Dy
    ·
     rw [if_pos c14] at H
     have c14b0 : decide (0 ≤ Dy) = true := decide_eq_true c14
     clear c14
     by_cases c15 : Dy < (l1.length : Int)
     ·
      rw [if_pos c15] at H
      have c15b0 : decide (Dy < (l1.length : Int)) = true := decide_eq_true c15
      clear c15
      replace H := Option.bind_eq_some_iff.mp H
      obtain ⟨⟨gx, Tx, vx⟩, A160, H⟩ := H
      replace H : ((some (([gx] : List (List (S59))) : List (List (S59)))).bind fun kx => (if Cx.length + kx.length < 5864062014805 then ((some (([Tx] : List (List Int)) : List (List Int))).bind fun nx => (if Bx.length + nx.length < 5864062014805 then ((some (([vx] : List Int) : List Int)).bind fun ox => (if Ax.length + ox.length < 17592186044416 then (impl_runRow.l0 k1 gx l1 (l1.length : Int) (wrap64 (Dy + 1)) (Cx ++ kx) (Bx ++ nx) (Ax ++ ox)) else (none))) else (none))) else (none))) = some (r1, r2, r3) := H
      have A16 := Aside0.mk A160
      clear A160
      obtain ⟨kx, hy233⟩ : ∃ y_ : List (List (S59)), y_ = (([gx] : List (List (S59)))) := ⟨_, rfl⟩
      replace H : (if Cx.length + kx.length < 5864062014805 then ((some (([Tx] : List (List Int)) : List (List Int))).bind fun nx => (if Bx.length + nx.length < 5864062014805 then ((some (([vx] : List Int) : List Int)).bind fun ox => (if Ax.length + ox.length < 17592186044416 then (impl_runRow.l0 k1 gx l1 (l1.length : Int) (wrap64 (Dy + 1)) (Cx ++ kx) (Bx ++ nx) (Ax ++ ox)) else (none))) else (none))) else (none)) = some (r1, r2, r3) := by first | (rw [hy233]; with_reducible exact H) | (have H2_ := (Option.bind_some _ _).symm.trans H; rw [hy233]; with_reducible exact H2_) | (have H2_ := (Option.bind_some _ _).symm.trans H; with_reducible exact H2_) | with_reducible exact H | (rw [hy233]; exact H) | exact H
      have ly := Aside0.mk hy233
      clear hy233
      by_cases c17 : Cx.length + kx.length < 5864062014805
      ·
       rw [if_pos c17] at H
       have Ez := Aside0.mk c17
       clear c17
       obtain ⟨Sy, hy236⟩ : ∃ y_ : List (List (S59)), y_ = (Cx ++ kx) := ⟨_, rfl⟩
       replace H : ((some (([Tx] : List (List Int)) : List (List Int))).bind fun nx => (if Bx.length + nx.length < 5864062014805 then ((some (([vx] : List Int) : List Int)).bind fun ox => (if Ax.length + ox.length < 17592186044416 then (impl_runRow.l0 k1 gx l1 (l1.length : Int) (wrap64 (Dy + 1)) Sy (Bx ++ nx) (Ax ++ ox)) else (none))) else (none))) = some (r1, r2, r3) := by first | (rw [hy236]; with_reducible exact H) | (have H2_ := (Option.bind_some _ _).symm.trans H; rw [hy236]; with_reducible exact H2_) | (have H2_ := (Option.bind_some _ _).symm.trans H; with_reducible exact H2_) | with_reducible exact H | (rw [hy236]; exact H) | exact H
       have Fz := Aside0.mk hy236
       clear hy236
       obtain ⟨nx, hy239⟩ : ∃ y_ : List (List Int), y_ = (([Tx] : List (List Int))) := ⟨_, rfl⟩
       replace H : (if Bx.length + nx.length < 5864062014805 then ((some (([vx] : List Int) : List Int)).bind fun ox => (if Ax.length + ox.length < 17592186044416 then (impl_runRow.l0 k1 gx l1 (l1.length : Int) (wrap64 (Dy + 1)) Sy (Bx ++ nx) (Ax ++ ox)) else (none))) else (none)) = some (r1, r2, r3) := by first | (rw [hy239]; with_reducible exact H) | (have H2_ := (Option.bind_some _ _).symm.trans H; rw [hy239]; with_reducible exact H2_) | (have H2_ := (Option.bind_some _ _).symm.trans H; with_reducible exact H2_) | with_reducible exact H | (rw [hy239]; exact H) | exact H
       have Xy := Aside0.mk hy239
       clear hy239
       by_cases c18 : Bx.length + nx.length < 5864062014805
       ·
        rw [if_pos c18] at H
        have Wz := Aside0.mk c18
        clear c18
        obtain ⟨Zy, hy242⟩ : ∃ y_ : List (List Int), y_ = (Bx ++ nx) := ⟨_, rfl⟩
        replace H : ((some (([vx] : List Int) : List Int)).bind fun ox => (if Ax.length + ox.length < 17592186044416 then (impl_runRow.l0 k1 gx l1 (l1.length : Int) (wrap64 (Dy + 1)) Sy Zy (Ax ++ ox)) else (none))) = some (r1, r2, r3) := by first | (rw [hy242]; with_reducible exact H) | (have H2_ := (Option.bind_some _ _).symm.trans H; rw [hy242]; with_reducible exact H2_) | (have H2_ := (Option.bind_some _ _).symm.trans H; with_reducible exact H2_) | with_reducible exact H | (rw [hy242]; exact H) | exact H
        have Xz := Aside0.mk hy242
        clear hy242
        obtain ⟨ox, hy245⟩ : ∃ y_ : List Int, y_ = (([vx] : List Int)) := ⟨_, rfl⟩
        replace H : (if Ax.length + ox.length < 17592186044416 then (impl_runRow.l0 k1 gx l1 (l1.length : Int) (wrap64 (Dy + 1)) Sy Zy (Ax ++ ox)) else (none)) = some (r1, r2, r3) := by first | (rw [hy245]; with_reducible exact H) | (have H2_ := (Option.bind_some _ _).symm.trans H; rw [hy245]; with_reducible exact H2_) | (have H2_ := (Option.bind_some _ _).symm.trans H; with_reducible exact H2_) | with_reducible exact H | (rw [hy245]; exact H) | exact H
        have Uy := Aside0.mk hy245
        clear hy245
        by_cases c19 : Ax.length + ox.length < 17592186044416
        ·
         rw [if_pos c19] at H
         have bz := Aside0.mk c19
         clear c19
         obtain ⟨qy, hy248⟩ : ∃ y_ : List Int, y_ = (Ax ++ ox) := ⟨_, rfl⟩
         replace H : (impl_runRow.l0 k1 gx l1 (l1.length : Int) (wrap64 (Dy + 1)) Sy Zy qy) = some (r1, r2, r3) := by first | (rw [hy248]; with_reducible exact H) | (have H2_ := (Option.bind_some _ _).symm.trans H; rw [hy248]; with_reducible exact H2_) | (have H2_ := (Option.bind_some _ _).symm.trans H; with_reducible exact H2_) | with_reducible exact H | (rw [hy248]; exact H) | exact H
         have cz := Aside0.mk hy248
         clear hy248
         have H' := Aside0.mk H
         clear H
         have p225 : 0 ≤ (Dy : Int) := of_decide_eq_true (by first | (with_reducible assumption) | assumption)
         have q225 : Dy < (l1.length : Int) := of_decide_eq_true (by first | (with_reducible assumption) | assumption)
         obtain ⟨ad225, e225, hx225_0⟩ := Kd.at_int HR1.out Dy p225 q225
         cases e225
         replace hx225_0 := (HB.out.cell (World.block_lt_of_cell? w _ hx225_0)).trans hx225_0
         replace p225 := eq_true p225
         replace q225 := eq_true q225
         obtain ⟨Ny, Oy, eo20⟩ := Kd.U_slice Zx.out
         subst eo20
         try go_wp2_with (first | ((with_reducible refine gate_callee (f := 74) rfl ?_); refine goesL_ (some 24) rfl rfl Try.func74 (by kernel_rfl) rfl #[.slice Ny mx.length Oy, .int .i64 (rd l1 Dy)] rfl (by (try simp only [List.map_toArray, List.map_cons, List.map_nil]); first | done | rfl | (simp only [List.length_drop, List.length_take]; rfl)) ?_; (with_reducible refine (impl_tickRow.owns k1 _ _ mx (rd l1 Dy) gx Tx vx _ ?side1 ?side2 A16.out).mono ?_); (case side1 => repeat (first | exact (tB Zx.out).2.2 | (with_reducible refine Kd.C_alloc ?_ _) | (with_reducible refine Kd.C_drewN ?_ _) | (with_reducible refine Kd.C_drew ?_))); (case side2 => exact (tB Zx.out).2.1); rintro e w21 ⟨pz, gz, rfl, ho0, ho1, hb⟩; refine ⟨_, rfl, ?_⟩; have FRz : ∀ k_ : Nat, (pz : Value).ownBlock = some k_ → w.heap.size ≤ k_ := fun k_ hk_ => Nat.le_trans (yB (by repeat (first | (with_reducible first | exact HB.out | apply uB | apply vB | apply wB | refine xB ?_ Rx.out | refine xB ?_ Vx.out) | exact HB.out))) (uA ho0 k_ hk_); have px := Aside0.mk (qB (by (with_reducible repeat (first | apply nB | apply pB | apply oB)); exact Zx.out) (uA ho1) hb); have qx := Aside0.mk (iA (by (with_reducible repeat (first | apply dA | apply hA | apply gA)); exact Mx.out) (uA ho1) hb); have rx := Aside0.mk (iA (by (with_reducible repeat (first | apply dA | apply hA | apply gA)); exact Ix.out) (uA ho1) hb); have sx := Aside0.mk (yA (by (with_reducible repeat (first | apply sA | apply xA | apply wA)); exact Hx.out) (uA ho1) hb); have tx := Aside0.mk (Kd.U_lowR (eB (ok' := fun k_ => (Qx k_ ∨ w.heap.size ≤ k_) ∧ some k_ ≠ (gz : Value).ownBlock ∧ some k_ ≠ (u225000 : Value).ownBlock ∧ some k_ ≠ (u225001 : Value).ownBlock ∧ some k_ ≠ (u225002 : Value).ownBlock ∧ k_ ≠ Ex ∧ k_ ≠ Dx) ho0 (fun k_ hk_ => ⟨(.inr (Nat.le_trans (yB (by repeat (first | (with_reducible first | exact HB.out | apply uB | apply vB | apply wB | refine xB ?_ Rx.out | refine xB ?_ Vx.out) | exact HB.out))) hk_.1)), hk_.2, (Kd.fresh' (mA (by (with_reducible repeat (first | apply dA | apply hA | apply gA)); exact Mx.out)) k_ hk_.1), (Kd.fresh' (mA (by (with_reducible repeat (first | apply dA | apply hA | apply gA)); exact Ix.out)) k_ hk_.1), (Kd.fresh' (dB (by (with_reducible repeat (first | apply sA | apply xA | apply wA)); exact Hx.out)) k_ hk_.1), (Kd.freshB (g := Ex) (o := .cells #[.slice none 0 0, .slice none 0 0, .slice none 0 0] 79 (0, 0)) (by (with_reducible repeat (first | refine aC ?_ _ | refine bC ?_ | refine cC ?_ _)); exact Px.out) k_ hk_.1), (Kd.freshB (g := Dx) (o := .cells #[u225000, u225001, u225002] 79 (0, 0)) (by (with_reducible repeat (first | refine aC ?_ _ | refine bC ?_ | refine cC ?_ _)); exact Jx.out) k_ hk_.1)⟩)) (yB (by repeat (first | (with_reducible first | exact HB.out | apply uB | apply vB | apply wB | refine xB ?_ Rx.out | refine xB ?_ Vx.out) | exact HB.out)))); have zx := Aside0.mk (cB (fB (gB (M := fun k_ => (w.heap.size ≤ k_)) (eB (ok' := fun k_ => True) ho1 (fun _ hk_ => trivial)) (yB (by repeat (first | (with_reducible first | exact HB.out | apply uB | apply vB | apply wB | refine xB ?_ Rx.out | refine xB ?_ Vx.out) | exact HB.out))) (fun k_ h_ => h_)) (dB (by (with_reducible repeat (first | apply sA | apply xA | apply wA)); exact Hx.out))) (yB (by repeat (first | (with_reducible first | exact HB.out | apply uB | apply vB | apply wB | refine xB ?_ Rx.out | refine xB ?_ Vx.out) | exact HB.out)))); have Ay := Aside0.mk (eC (g := Ex) (o := .cells #[.slice none 0 0, .slice none 0 0, .slice none 0 0] 79 (0, 0)) (by (with_reducible repeat (first | refine aC ?_ _ | refine bC ?_ | refine cC ?_ _)); exact Px.out) hb); have By := Aside0.mk (eC (g := Dx) (o := .cells #[u225000, u225001, u225002] 79 (0, 0)) (by (with_reducible repeat (first | refine aC ?_ _ | refine bC ?_ | refine cC ?_ _)); exact Jx.out) hb); have Cy := Aside0.mk (zB (by repeat (first | (with_reducible first | exact HB.out | apply uB | apply vB | apply wB | refine xB ?_ Rx.out | refine xB ?_ Vx.out) | exact HB.out)) hb); clear Zx; clear Mx; clear Ix; clear Hx; clear Px; clear Jx; clear HB; have Zx := px; have Mx := qx; have Ix := rx; have Hx := sx; have Sx := tx; have dx := zx; have Px := Ay; have Jx := By; have HB := Cy; clear px qx rx sx tx zx Ay By Cy; (try clear hb); (try clear hb2); (try clear hk); (try clear hi); (try clear ho0); (try clear ho1); obtain ⟨Nx, Ox, eo22⟩ := pA Mx.out; subst eo22; obtain ⟨Kx, Lx, eo23⟩ := pA Ix.out; subst eo23; obtain ⟨Fx, Gx, eo24⟩ := jB Hx.out; subst eo24))
         replace Zx := Aside0.mk (oB Zx.out)
         replace Mx := Aside0.mk (gA Mx.out)
         replace Ix := Aside0.mk (gA Ix.out)
         replace Hx := Aside0.mk (wA Hx.out)
         replace Sx := Aside0.mk (oB Sx.out)
         replace dx := Aside0.mk (wA dx.out)
         replace Px := Aside0.mk (bC Px.out)
         replace Jx := Aside0.mk (bC Jx.out)
         replace HB := Aside0.mk (wB HB.out)
         obtain ⟨xx, yx, eo26⟩ := Kd.U_slice Sx.out
         subst eo26
         obtain ⟨Wx, Xx, eo27⟩ := jB dx.out
         subst eo27
         refine start_ (n := 21) (S := fun w' => w'.cell? ⟨Dx, 0, none⟩ = some (.slice Nx Cx.length Ox) ∧ w'.cell? ⟨Dx, 1, none⟩ = some (.slice Kx Bx.length Lx) ∧ w'.cell? ⟨Dx, 2, none⟩ = some (.slice Fx Ax.length Gx)) (ds := [16, 18, 20]) #[lC, lC, lC, lC, lC, lC, lC, lC, lC, lC, lC, lC, lC, lC, lC, lC, lC, lC, lC, lC, lC] (by kernel_rfl) rfl rfl ⟨(dC Jx.out 0).trans rfl, (dC Jx.out 1).trans rfl, (dC Jx.out 2).trans rfl⟩ (fun fx => ?_); refine with_tabW impl_runRow.tab6 impl_runRow.bits6 (fun HT_ HW_ => ?_)
         generalize w21.drew = w25 at Zx Mx Ix Hx Sx dx Px Jx HB fx ⊢
         refine pure_ (i := 0) (N := some 28) (v := ?_) (a' := ?_) #[kC, lC, lC, lC, lC, lC, lC, lC, lC, lC, lC, lC, lC, lC, lC, lC, lC, lC, lC, lC, lC] rfl rfl (any_of HT_.out (by kernel_rfl)) (fun _ _ _ h => h) (Or.inl ⟨by rfl, ?_⟩) ?_ ?_
         rotate_left
         ·
          intro w'
          go_simp
          with_reducible rfl
         rotate_left
         ·
          simp only [Act.put, gC, hC, iC, i64_w, i32_w]
          rfl
         refine pure_ (i := 2) (N := some 30) (v := ?_) (a' := ?_) #[kC, lC, kC, lC, lC, lC, lC, lC, lC, lC, lC, lC, lC, lC, lC, lC, lC, lC, lC, lC, lC] rfl rfl (any_of HT_.out (by kernel_rfl)) (fun _ _ _ h => h) (Or.inl ⟨by rfl, ?_⟩) ?_ ?_
         rotate_left
         ·
          intro w'
          go_simp
          with_reducible rfl
         rotate_left
         ·
          simp only [Act.put, gC, hC, iC, i64_w, i32_w]
          rfl
         refine pure_ (i := 5) (N := some 33) (v := ?_) (a' := ?_) #[kC, lC, kC, lC, lC, kC, lC, lC, lC, lC, lC, lC, lC, lC, lC, lC, lC, lC, lC, lC, lC] rfl rfl (any_of HT_.out (by kernel_rfl)) (fun _ _ _ h => h) (Or.inl ⟨by rfl, ?_⟩) ?_ ?_
         rotate_left
         ·
          intro w'
          go_simp
          with_reducible rfl
         rotate_left
         ·
          simp only [Act.put, gC, hC, iC, i64_w, i32_w]
          rfl
         refine pure_ (i := 7) (N := some 35) (v := ?_) (a' := ?_) #[kC, lC, kC, lC, lC, kC, lC, kC, lC, lC, lC, lC, lC, lC, lC, lC, lC, lC, lC, lC, lC] rfl rfl (any_of HT_.out (by kernel_rfl)) (fun _ _ _ h => h) (Or.inl ⟨by rfl, ?_⟩) ?_ ?_
         rotate_left
         ·
          intro w'
          go_simp
          with_reducible rfl
         rotate_left
         ·
          simp only [Act.put, gC, hC, iC, i64_w, i32_w]
          rfl
         refine pure_ (i := 10) (N := some 38) (v := ?_) (a' := ?_) #[kC, lC, kC, lC, lC, kC, lC, kC, lC, lC, kC, lC, lC, lC, lC, lC, lC, lC, lC, lC, lC] rfl rfl (any_of HT_.out (by kernel_rfl)) (fun _ _ _ h => h) (Or.inl ⟨by rfl, ?_⟩) ?_ ?_
         rotate_left
         ·
          intro w'
          go_simp
          with_reducible rfl
         rotate_left
         ·
          simp only [Act.put, gC, hC, iC, i64_w, i32_w]
          rfl
         refine pure_ (i := 12) (N := some 40) (v := ?_) (a' := ?_) #[kC, lC, kC, lC, lC, kC, lC, kC, lC, lC, kC, lC, kC, lC, lC, lC, lC, lC, lC, lC, lC] rfl rfl (any_of HT_.out (by kernel_rfl)) (fun _ _ _ h => h) (Or.inl ⟨by rfl, ?_⟩) ?_ ?_
         rotate_left
         ·
          intro w'
          go_simp
          with_reducible rfl
         rotate_left
         ·
          simp only [Act.put, gC, hC, iC, i64_w, i32_w]
          rfl
         refine take_ (i := 1) (N := some 29) (v := ?_) (a' := ?_) #[kC, kC, kC, lC, lC, kC, lC, kC, lC, lC, kC, lC, kC, lC, lC, lC, lC, lC, lC, lC, lC] rfl rfl (take_ofW HT_.out HW_.out (by kernel_rfl)) (fun _ _ _ h => h) (Or.inl ⟨by rfl, ?_⟩) fx ?_ ?_
         rotate_left
         ·
          rintro w' ⟨s0, s1, s2⟩
          go_simp
          with_reducible rfl
         rotate_left
         ·
          simp only [Act.put, gC, hC, iC, i64_w, i32_w]
          rfl
         refine take_ (i := 6) (N := some 34) (v := ?_) (a' := ?_) #[kC, kC, kC, lC, lC, kC, kC, kC, lC, lC, kC, lC, kC, lC, lC, lC, lC, lC, lC, lC, lC] rfl rfl (take_ofW HT_.out HW_.out (by kernel_rfl)) (fun _ _ _ h => h) (Or.inl ⟨by rfl, ?_⟩) fx ?_ ?_
         rotate_left
         ·
          rintro w' ⟨s0, s1, s2⟩
          go_simp
          with_reducible rfl
         rotate_left
         ·
          simp only [Act.put, gC, hC, iC, i64_w, i32_w]
          rfl
         refine take_ (i := 11) (N := some 39) (v := ?_) (a' := ?_) #[kC, kC, kC, lC, lC, kC, kC, kC, lC, lC, kC, kC, kC, lC, lC, lC, lC, lC, lC, lC, lC] rfl rfl (take_ofW HT_.out HW_.out (by kernel_rfl)) (fun _ _ _ h => h) (Or.inl ⟨by rfl, ?_⟩) fx ?_ ?_
         rotate_left
         ·
          rintro w' ⟨s0, s1, s2⟩
          go_simp
          with_reducible rfl
         rotate_left
         ·
          simp only [Act.put, gC, hC, iC, i64_w, i32_w]
          rfl
         refine join_ (σ := Value × Value × Value × Value × Value) 6 #[kC, kC, kC, kC, kC, kC, kC, kC, kC, kC, kC, kC, kC, kC, lC, kC, lC, lC, lC, lC, lC] (fun s_ => [(31, s_.1), (32, s_.2.1), (36, s_.2.2.1), (37, s_.2.2.2.1), (41, s_.2.2.2.2), (43, .pointer (some ⟨Dx, 0, none⟩))]) (fun s_ w' => (w'.cell? ⟨Dx, 0, none⟩ = some (.slice Nx Cx.length Ox) ∧ w'.cell? ⟨Dx, 1, none⟩ = some (.slice Kx Bx.length Lx) ∧ w'.cell? ⟨Dx, 2, none⟩ = some (.slice Fx Ax.length Gx)) ∧ (Kd.U k59 59 w' w.heap.size (fun k_ => (Qx k_ ∨ w.heap.size ≤ k_) ∧ some k_ ≠ (s_.1 : Value).ownBlock ∧ some k_ ≠ (s_.2.1 : Value).ownBlock ∧ some k_ ≠ (s_.2.2.1 : Value).ownBlock ∧ some k_ ≠ (s_.2.2.2.1 : Value).ownBlock ∧ some k_ ≠ (s_.2.2.2.2 : Value).ownBlock ∧ some k_ ≠ (jC Fx Ax.length Gx).ownBlock ∧ k_ ≠ Ex ∧ k_ ≠ Dx) (.slice xx gx.length yx) gx) ∧ (Kd.N (Kd.os 59 k59 w.heap.size) 29 w' w.heap.size (fun k_ => (Qx k_ ∨ w.heap.size ≤ k_) ∧ some k_ ≠ (s_.2.1 : Value).ownBlock ∧ some k_ ≠ (s_.2.2.1 : Value).ownBlock ∧ some k_ ≠ (s_.2.2.2.1 : Value).ownBlock ∧ some k_ ≠ (s_.2.2.2.2 : Value).ownBlock ∧ some k_ ≠ (jC Fx Ax.length Gx).ownBlock ∧ k_ ≠ Ex ∧ k_ ≠ Dx) s_.1 kx) ∧ (Kd.N (Kd.os 59 k59 w.heap.size) 29 w' w.heap.size (fun k_ => (Qx k_ ∨ w.heap.size ≤ k_) ∧ some k_ ≠ (s_.2.2.1 : Value).ownBlock ∧ some k_ ≠ (s_.2.2.2.1 : Value).ownBlock ∧ some k_ ≠ (s_.2.2.2.2 : Value).ownBlock ∧ some k_ ≠ (jC Fx Ax.length Gx).ownBlock ∧ k_ ≠ Ex ∧ k_ ≠ Dx) s_.2.1 Sy) ∧ (Kd.N (Kd.slice 3 (Kd.int .i64)) 22 w' w.heap.size (fun k_ => (Qx k_ ∨ w.heap.size ≤ k_) ∧ some k_ ≠ (s_.1 : Value).ownBlock ∧ some k_ ≠ (s_.2.1 : Value).ownBlock ∧ some k_ ≠ (s_.2.2.2.1 : Value).ownBlock ∧ some k_ ≠ (s_.2.2.2.2 : Value).ownBlock ∧ some k_ ≠ (jC Fx Ax.length Gx).ownBlock ∧ k_ ≠ Ex ∧ k_ ≠ Dx) s_.2.2.1 nx) ∧ (Kd.N (Kd.slice 3 (Kd.int .i64)) 22 w' w.heap.size (fun k_ => (Qx k_ ∨ w.heap.size ≤ k_) ∧ some k_ ≠ (s_.1 : Value).ownBlock ∧ some k_ ≠ (s_.2.1 : Value).ownBlock ∧ some k_ ≠ (s_.2.2.2.2 : Value).ownBlock ∧ some k_ ≠ (jC Fx Ax.length Gx).ownBlock ∧ k_ ≠ Ex ∧ k_ ≠ Dx) s_.2.2.2.1 Zy) ∧ (Kd.R (Kd.int .i64) 3 w' w.heap.size (fun k_ => (w.heap.size ≤ k_) ∧ some k_ ≠ (jC Fx Ax.length Gx).ownBlock) s_.2.2.2.2 ox) ∧ (Kd.U k59 59 w' w.heap.size (fun k_ => (Qx k_ ∨ w.heap.size ≤ k_) ∧ some k_ ≠ (s_.1 : Value).ownBlock ∧ some k_ ≠ (s_.2.1 : Value).ownBlock ∧ some k_ ≠ (s_.2.2.1 : Value).ownBlock ∧ some k_ ≠ (s_.2.2.2.1 : Value).ownBlock ∧ some k_ ≠ (s_.2.2.2.2 : Value).ownBlock ∧ some k_ ≠ (jC Fx Ax.length Gx).ownBlock ∧ k_ ≠ Ex ∧ k_ ≠ Dx) (.slice Ny mx.length Oy) mx) ∧ (Kd.R (Kd.int .i64) 3 w' w.heap.size (fun k_ => (w.heap.size ≤ k_) ∧ some k_ ≠ (s_.2.2.2.2 : Value).ownBlock) (.slice Fx Ax.length Gx) Ax) ∧ (w'.heap[Ex]? = some (.cells #[.slice none 0 0, .slice none 0 0, .slice none 0 0] 79 (0, 0))) ∧ (w'.heap[Dx]? = some (.cells #[.slice Nx Cx.length Ox, .slice Kx Bx.length Lx, .slice Fx Ax.length Gx] 79 (0, 0))) ∧ (Below w.heap.size w w')) ?_ ?_
         rotate_left
         intro oy
         refine join_ (σ := Value × Value × Value × Value) 7 #[kC, kC, kC, kC, kC, kC, kC, kC, kC, kC, kC, kC, kC, lC, lC, kC, lC, lC, lC, lC, lC] (fun s_ => [(31, s_.1), (32, s_.2.1), (36, s_.2.2.1), (37, s_.2.2.2), (43, .pointer (some ⟨Dx, 0, none⟩))]) (fun s_ w' => (w'.cell? ⟨Dx, 0, none⟩ = some (.slice Nx Cx.length Ox) ∧ w'.cell? ⟨Dx, 1, none⟩ = some (.slice Kx Bx.length Lx) ∧ w'.cell? ⟨Dx, 2, none⟩ = some (.slice Fx Ax.length Gx)) ∧ (Kd.U k59 59 w' w.heap.size (fun k_ => (Qx k_ ∨ w.heap.size ≤ k_) ∧ some k_ ≠ (s_.1 : Value).ownBlock ∧ some k_ ≠ (s_.2.1 : Value).ownBlock ∧ some k_ ≠ (s_.2.2.1 : Value).ownBlock ∧ some k_ ≠ (s_.2.2.2 : Value).ownBlock ∧ some k_ ≠ (jC Fx Ax.length Gx).ownBlock ∧ k_ ≠ Ex ∧ k_ ≠ Dx) (.slice xx gx.length yx) gx) ∧ (Kd.N (Kd.os 59 k59 w.heap.size) 29 w' w.heap.size (fun k_ => (Qx k_ ∨ w.heap.size ≤ k_) ∧ some k_ ≠ (s_.2.1 : Value).ownBlock ∧ some k_ ≠ (s_.2.2.1 : Value).ownBlock ∧ some k_ ≠ (s_.2.2.2 : Value).ownBlock ∧ some k_ ≠ (jC Fx Ax.length Gx).ownBlock ∧ k_ ≠ Ex ∧ k_ ≠ Dx) s_.1 kx) ∧ (Kd.N (Kd.os 59 k59 w.heap.size) 29 w' w.heap.size (fun k_ => (Qx k_ ∨ w.heap.size ≤ k_) ∧ some k_ ≠ (s_.2.2.1 : Value).ownBlock ∧ some k_ ≠ (s_.2.2.2 : Value).ownBlock ∧ some k_ ≠ (jC Fx Ax.length Gx).ownBlock ∧ k_ ≠ Ex ∧ k_ ≠ Dx) s_.2.1 Sy) ∧ (Kd.N (Kd.slice 3 (Kd.int .i64)) 22 w' w.heap.size (fun k_ => (Qx k_ ∨ w.heap.size ≤ k_) ∧ some k_ ≠ (s_.1 : Value).ownBlock ∧ some k_ ≠ (s_.2.1 : Value).ownBlock ∧ some k_ ≠ (s_.2.2.2 : Value).ownBlock ∧ some k_ ≠ (jC Fx Ax.length Gx).ownBlock ∧ k_ ≠ Ex ∧ k_ ≠ Dx) s_.2.2.1 nx) ∧ (Kd.N (Kd.slice 3 (Kd.int .i64)) 22 w' w.heap.size (fun k_ => (Qx k_ ∨ w.heap.size ≤ k_) ∧ some k_ ≠ (s_.1 : Value).ownBlock ∧ some k_ ≠ (s_.2.1 : Value).ownBlock ∧ some k_ ≠ (jC Fx Ax.length Gx).ownBlock ∧ k_ ≠ Ex ∧ k_ ≠ Dx) s_.2.2.2 Zy) ∧ (Kd.U k59 59 w' w.heap.size (fun k_ => (Qx k_ ∨ w.heap.size ≤ k_) ∧ some k_ ≠ (s_.1 : Value).ownBlock ∧ some k_ ≠ (s_.2.1 : Value).ownBlock ∧ some k_ ≠ (s_.2.2.1 : Value).ownBlock ∧ some k_ ≠ (s_.2.2.2 : Value).ownBlock ∧ some k_ ≠ (jC Fx Ax.length Gx).ownBlock ∧ k_ ≠ Ex ∧ k_ ≠ Dx) (.slice Ny mx.length Oy) mx) ∧ (Kd.R (Kd.int .i64) 3 w' w.heap.size (fun k_ => (w.heap.size ≤ k_)) (.slice Fx Ax.length Gx) Ax) ∧ (w'.heap[Ex]? = some (.cells #[.slice none 0 0, .slice none 0 0, .slice none 0 0] 79 (0, 0))) ∧ (w'.heap[Dx]? = some (.cells #[.slice Nx Cx.length Ox, .slice Kx Bx.length Lx, .slice Fx Ax.length Gx] 79 (0, 0))) ∧ (Below w.heap.size w w')) ?_ ?_
         rotate_left
         intro Sz
         refine join_ (σ := Value × Value × Value × Value) 7 #[kC, kC, kC, kC, kC, kC, kC, kC, kC, lC, kC, kC, kC, kC, lC, kC, lC, lC, lC, lC, lC] (fun s_ => [(31, s_.1), (32, s_.2.1), (36, s_.2.2.1), (41, s_.2.2.2), (43, .pointer (some ⟨Dx, 0, none⟩))]) (fun s_ w' => (w'.cell? ⟨Dx, 0, none⟩ = some (.slice Nx Cx.length Ox) ∧ w'.cell? ⟨Dx, 1, none⟩ = some (.slice Kx Bx.length Lx) ∧ w'.cell? ⟨Dx, 2, none⟩ = some (.slice Fx Ax.length Gx)) ∧ (Kd.U k59 59 w' w.heap.size (fun k_ => (Qx k_ ∨ w.heap.size ≤ k_) ∧ some k_ ≠ (s_.1 : Value).ownBlock ∧ some k_ ≠ (s_.2.1 : Value).ownBlock ∧ some k_ ≠ (s_.2.2.1 : Value).ownBlock ∧ some k_ ≠ (s_.2.2.2 : Value).ownBlock ∧ some k_ ≠ (jC Kx Bx.length Lx).ownBlock ∧ some k_ ≠ (jC Fx Ax.length Gx).ownBlock ∧ k_ ≠ Ex ∧ k_ ≠ Dx) (.slice xx gx.length yx) gx) ∧ (Kd.N (Kd.os 59 k59 w.heap.size) 29 w' w.heap.size (fun k_ => (Qx k_ ∨ w.heap.size ≤ k_) ∧ some k_ ≠ (s_.2.1 : Value).ownBlock ∧ some k_ ≠ (s_.2.2.1 : Value).ownBlock ∧ some k_ ≠ (s_.2.2.2 : Value).ownBlock ∧ some k_ ≠ (jC Kx Bx.length Lx).ownBlock ∧ some k_ ≠ (jC Fx Ax.length Gx).ownBlock ∧ k_ ≠ Ex ∧ k_ ≠ Dx) s_.1 kx) ∧ (Kd.N (Kd.os 59 k59 w.heap.size) 29 w' w.heap.size (fun k_ => (Qx k_ ∨ w.heap.size ≤ k_) ∧ some k_ ≠ (s_.2.2.1 : Value).ownBlock ∧ some k_ ≠ (s_.2.2.2 : Value).ownBlock ∧ some k_ ≠ (jC Kx Bx.length Lx).ownBlock ∧ some k_ ≠ (jC Fx Ax.length Gx).ownBlock ∧ k_ ≠ Ex ∧ k_ ≠ Dx) s_.2.1 Sy) ∧ (Kd.N (Kd.slice 3 (Kd.int .i64)) 22 w' w.heap.size (fun k_ => (Qx k_ ∨ w.heap.size ≤ k_) ∧ some k_ ≠ (s_.1 : Value).ownBlock ∧ some k_ ≠ (s_.2.1 : Value).ownBlock ∧ some k_ ≠ (s_.2.2.2 : Value).ownBlock ∧ some k_ ≠ (jC Kx Bx.length Lx).ownBlock ∧ some k_ ≠ (jC Fx Ax.length Gx).ownBlock ∧ k_ ≠ Ex ∧ k_ ≠ Dx) s_.2.2.1 nx) ∧ (Kd.R (Kd.int .i64) 3 w' w.heap.size (fun k_ => (w.heap.size ≤ k_) ∧ some k_ ≠ (jC Fx Ax.length Gx).ownBlock) s_.2.2.2 ox) ∧ (Kd.U k59 59 w' w.heap.size (fun k_ => (Qx k_ ∨ w.heap.size ≤ k_) ∧ some k_ ≠ (s_.1 : Value).ownBlock ∧ some k_ ≠ (s_.2.1 : Value).ownBlock ∧ some k_ ≠ (s_.2.2.1 : Value).ownBlock ∧ some k_ ≠ (s_.2.2.2 : Value).ownBlock ∧ some k_ ≠ (jC Kx Bx.length Lx).ownBlock ∧ some k_ ≠ (jC Fx Ax.length Gx).ownBlock ∧ k_ ≠ Ex ∧ k_ ≠ Dx) (.slice Ny mx.length Oy) mx) ∧ (Kd.N (Kd.slice 3 (Kd.int .i64)) 22 w' w.heap.size (fun k_ => (Qx k_ ∨ w.heap.size ≤ k_) ∧ some k_ ≠ (s_.1 : Value).ownBlock ∧ some k_ ≠ (s_.2.1 : Value).ownBlock ∧ some k_ ≠ (s_.2.2.1 : Value).ownBlock ∧ some k_ ≠ (s_.2.2.2 : Value).ownBlock ∧ some k_ ≠ (jC Fx Ax.length Gx).ownBlock ∧ k_ ≠ Ex ∧ k_ ≠ Dx) (.slice Kx Bx.length Lx) Bx) ∧ (Kd.R (Kd.int .i64) 3 w' w.heap.size (fun k_ => (w.heap.size ≤ k_) ∧ some k_ ≠ (s_.2.2.2 : Value).ownBlock) (.slice Fx Ax.length Gx) Ax) ∧ (w'.heap[Ex]? = some (.cells #[.slice none 0 0, .slice none 0 0, .slice none 0 0] 79 (0, 0))) ∧ (w'.heap[Dx]? = some (.cells #[.slice Nx Cx.length Ox, .slice Kx Bx.length Lx, .slice Fx Ax.length Gx] 79 (0, 0))) ∧ (Below w.heap.size w w')) ?_ ?_
         rotate_left
         intro my
         refine join_ (σ := Value × Value × Value) 8 #[kC, kC, kC, kC, kC, kC, kC, kC, kC, lC, kC, kC, kC, lC, lC, kC, lC, lC, lC, lC, lC] (fun s_ => [(31, s_.1), (32, s_.2.1), (36, s_.2.2), (43, .pointer (some ⟨Dx, 0, none⟩))]) (fun s_ w' => (w'.cell? ⟨Dx, 0, none⟩ = some (.slice Nx Cx.length Ox) ∧ w'.cell? ⟨Dx, 1, none⟩ = some (.slice Kx Bx.length Lx) ∧ w'.cell? ⟨Dx, 2, none⟩ = some (.slice Fx Ax.length Gx)) ∧ (Kd.U k59 59 w' w.heap.size (fun k_ => (Qx k_ ∨ w.heap.size ≤ k_) ∧ some k_ ≠ (s_.1 : Value).ownBlock ∧ some k_ ≠ (s_.2.1 : Value).ownBlock ∧ some k_ ≠ (s_.2.2 : Value).ownBlock ∧ some k_ ≠ (jC Kx Bx.length Lx).ownBlock ∧ some k_ ≠ (jC Fx Ax.length Gx).ownBlock ∧ k_ ≠ Ex ∧ k_ ≠ Dx) (.slice xx gx.length yx) gx) ∧ (Kd.N (Kd.os 59 k59 w.heap.size) 29 w' w.heap.size (fun k_ => (Qx k_ ∨ w.heap.size ≤ k_) ∧ some k_ ≠ (s_.2.1 : Value).ownBlock ∧ some k_ ≠ (s_.2.2 : Value).ownBlock ∧ some k_ ≠ (jC Kx Bx.length Lx).ownBlock ∧ some k_ ≠ (jC Fx Ax.length Gx).ownBlock ∧ k_ ≠ Ex ∧ k_ ≠ Dx) s_.1 kx) ∧ (Kd.N (Kd.os 59 k59 w.heap.size) 29 w' w.heap.size (fun k_ => (Qx k_ ∨ w.heap.size ≤ k_) ∧ some k_ ≠ (s_.2.2 : Value).ownBlock ∧ some k_ ≠ (jC Kx Bx.length Lx).ownBlock ∧ some k_ ≠ (jC Fx Ax.length Gx).ownBlock ∧ k_ ≠ Ex ∧ k_ ≠ Dx) s_.2.1 Sy) ∧ (Kd.N (Kd.slice 3 (Kd.int .i64)) 22 w' w.heap.size (fun k_ => (Qx k_ ∨ w.heap.size ≤ k_) ∧ some k_ ≠ (s_.1 : Value).ownBlock ∧ some k_ ≠ (s_.2.1 : Value).ownBlock ∧ some k_ ≠ (jC Kx Bx.length Lx).ownBlock ∧ some k_ ≠ (jC Fx Ax.length Gx).ownBlock ∧ k_ ≠ Ex ∧ k_ ≠ Dx) s_.2.2 nx) ∧ (Kd.U k59 59 w' w.heap.size (fun k_ => (Qx k_ ∨ w.heap.size ≤ k_) ∧ some k_ ≠ (s_.1 : Value).ownBlock ∧ some k_ ≠ (s_.2.1 : Value).ownBlock ∧ some k_ ≠ (s_.2.2 : Value).ownBlock ∧ some k_ ≠ (jC Kx Bx.length Lx).ownBlock ∧ some k_ ≠ (jC Fx Ax.length Gx).ownBlock ∧ k_ ≠ Ex ∧ k_ ≠ Dx) (.slice Ny mx.length Oy) mx) ∧ (Kd.N (Kd.slice 3 (Kd.int .i64)) 22 w' w.heap.size (fun k_ => (Qx k_ ∨ w.heap.size ≤ k_) ∧ some k_ ≠ (s_.1 : Value).ownBlock ∧ some k_ ≠ (s_.2.1 : Value).ownBlock ∧ some k_ ≠ (s_.2.2 : Value).ownBlock ∧ some k_ ≠ (jC Fx Ax.length Gx).ownBlock ∧ k_ ≠ Ex ∧ k_ ≠ Dx) (.slice Kx Bx.length Lx) Bx) ∧ (Kd.R (Kd.int .i64) 3 w' w.heap.size (fun k_ => (w.heap.size ≤ k_)) (.slice Fx Ax.length Gx) Ax) ∧ (w'.heap[Ex]? = some (.cells #[.slice none 0 0, .slice none 0 0, .slice none 0 0] 79 (0, 0))) ∧ (w'.heap[Dx]? = some (.cells #[.slice Nx Cx.length Ox, .slice Kx Bx.length Lx, .slice Fx Ax.length Gx] 79 (0, 0))) ∧ (Below w.heap.size w w')) ?_ ?_
         rotate_left
         intro Nz
         refine join_ (σ := Value × Value × Value) 8 #[kC, kC, kC, kC, kC, kC, kC, kC, lC, lC, kC, kC, kC, kC, lC, kC, lC, lC, lC, lC, lC] (fun s_ => [(31, s_.1), (32, s_.2.1), (41, s_.2.2), (43, .pointer (some ⟨Dx, 0, none⟩))]) (fun s_ w' => (w'.cell? ⟨Dx, 0, none⟩ = some (.slice Nx Cx.length Ox) ∧ w'.cell? ⟨Dx, 1, none⟩ = some (.slice Kx Bx.length Lx) ∧ w'.cell? ⟨Dx, 2, none⟩ = some (.slice Fx Ax.length Gx)) ∧ (Kd.U k59 59 w' w.heap.size (fun k_ => (Qx k_ ∨ w.heap.size ≤ k_) ∧ some k_ ≠ (jC Wx Tx.length Xx).ownBlock ∧ some k_ ≠ (s_.1 : Value).ownBlock ∧ some k_ ≠ (s_.2.1 : Value).ownBlock ∧ some k_ ≠ (s_.2.2 : Value).ownBlock ∧ some k_ ≠ (jC Kx Bx.length Lx).ownBlock ∧ some k_ ≠ (jC Fx Ax.length Gx).ownBlock ∧ k_ ≠ Ex ∧ k_ ≠ Dx) (.slice xx gx.length yx) gx) ∧ (Kd.R (Kd.int .i64) 3 w' w.heap.size (fun k_ => (w.heap.size ≤ k_) ∧ some k_ ≠ (s_.2.2 : Value).ownBlock ∧ some k_ ≠ (jC Fx Ax.length Gx).ownBlock) (.slice Wx Tx.length Xx) Tx) ∧ (Kd.N (Kd.os 59 k59 w.heap.size) 29 w' w.heap.size (fun k_ => (Qx k_ ∨ w.heap.size ≤ k_) ∧ some k_ ≠ (jC Wx Tx.length Xx).ownBlock ∧ some k_ ≠ (s_.2.1 : Value).ownBlock ∧ some k_ ≠ (s_.2.2 : Value).ownBlock ∧ some k_ ≠ (jC Kx Bx.length Lx).ownBlock ∧ some k_ ≠ (jC Fx Ax.length Gx).ownBlock ∧ k_ ≠ Ex ∧ k_ ≠ Dx) s_.1 kx) ∧ (Kd.N (Kd.os 59 k59 w.heap.size) 29 w' w.heap.size (fun k_ => (Qx k_ ∨ w.heap.size ≤ k_) ∧ some k_ ≠ (jC Wx Tx.length Xx).ownBlock ∧ some k_ ≠ (s_.2.2 : Value).ownBlock ∧ some k_ ≠ (jC Kx Bx.length Lx).ownBlock ∧ some k_ ≠ (jC Fx Ax.length Gx).ownBlock ∧ k_ ≠ Ex ∧ k_ ≠ Dx) s_.2.1 Sy) ∧ (Kd.R (Kd.int .i64) 3 w' w.heap.size (fun k_ => (w.heap.size ≤ k_) ∧ some k_ ≠ (jC Wx Tx.length Xx).ownBlock ∧ some k_ ≠ (jC Fx Ax.length Gx).ownBlock) s_.2.2 ox) ∧ (Kd.U k59 59 w' w.heap.size (fun k_ => (Qx k_ ∨ w.heap.size ≤ k_) ∧ some k_ ≠ (jC Wx Tx.length Xx).ownBlock ∧ some k_ ≠ (s_.1 : Value).ownBlock ∧ some k_ ≠ (s_.2.1 : Value).ownBlock ∧ some k_ ≠ (s_.2.2 : Value).ownBlock ∧ some k_ ≠ (jC Kx Bx.length Lx).ownBlock ∧ some k_ ≠ (jC Fx Ax.length Gx).ownBlock ∧ k_ ≠ Ex ∧ k_ ≠ Dx) (.slice Ny mx.length Oy) mx) ∧ (Kd.N (Kd.slice 3 (Kd.int .i64)) 22 w' w.heap.size (fun k_ => (Qx k_ ∨ w.heap.size ≤ k_) ∧ some k_ ≠ (jC Wx Tx.length Xx).ownBlock ∧ some k_ ≠ (s_.1 : Value).ownBlock ∧ some k_ ≠ (s_.2.1 : Value).ownBlock ∧ some k_ ≠ (s_.2.2 : Value).ownBlock ∧ some k_ ≠ (jC Fx Ax.length Gx).ownBlock ∧ k_ ≠ Ex ∧ k_ ≠ Dx) (.slice Kx Bx.length Lx) Bx) ∧ (Kd.R (Kd.int .i64) 3 w' w.heap.size (fun k_ => (w.heap.size ≤ k_) ∧ some k_ ≠ (jC Wx Tx.length Xx).ownBlock ∧ some k_ ≠ (s_.2.2 : Value).ownBlock) (.slice Fx Ax.length Gx) Ax) ∧ (w'.heap[Ex]? = some (.cells #[.slice none 0 0, .slice none 0 0, .slice none 0 0] 79 (0, 0))) ∧ (w'.heap[Dx]? = some (.cells #[.slice Nx Cx.length Ox, .slice Kx Bx.length Lx, .slice Fx Ax.length Gx] 79 (0, 0))) ∧ (Below w.heap.size w w')) ?_ ?_
         rotate_left
         intro Gz
         refine join_ (σ := Value × Value × Value) 9 #[kC, kC, kC, kC, lC, kC, kC, kC, kC, lC, kC, kC, kC, kC, lC, lC, lC, lC, lC, lC, lC] (fun s_ => [(31, s_.1), (36, s_.2.1), (41, s_.2.2)]) (fun s_ w' => (w'.cell? ⟨Dx, 0, none⟩ = some (.slice Nx Cx.length Ox) ∧ w'.cell? ⟨Dx, 1, none⟩ = some (.slice Kx Bx.length Lx) ∧ w'.cell? ⟨Dx, 2, none⟩ = some (.slice Fx Ax.length Gx)) ∧ (Kd.U k59 59 w' w.heap.size (fun k_ => (Qx k_ ∨ w.heap.size ≤ k_) ∧ some k_ ≠ (s_.1 : Value).ownBlock ∧ some k_ ≠ (s_.2.1 : Value).ownBlock ∧ some k_ ≠ (s_.2.2 : Value).ownBlock ∧ some k_ ≠ (jC Nx Cx.length Ox).ownBlock ∧ some k_ ≠ (jC Kx Bx.length Lx).ownBlock ∧ some k_ ≠ (jC Fx Ax.length Gx).ownBlock ∧ k_ ≠ Ex ∧ k_ ≠ Dx) (.slice xx gx.length yx) gx) ∧ (Kd.N (Kd.os 59 k59 w.heap.size) 29 w' w.heap.size (fun k_ => (Qx k_ ∨ w.heap.size ≤ k_) ∧ some k_ ≠ (s_.2.1 : Value).ownBlock ∧ some k_ ≠ (s_.2.2 : Value).ownBlock ∧ some k_ ≠ (jC Nx Cx.length Ox).ownBlock ∧ some k_ ≠ (jC Kx Bx.length Lx).ownBlock ∧ some k_ ≠ (jC Fx Ax.length Gx).ownBlock ∧ k_ ≠ Ex ∧ k_ ≠ Dx) s_.1 kx) ∧ (Kd.N (Kd.slice 3 (Kd.int .i64)) 22 w' w.heap.size (fun k_ => (Qx k_ ∨ w.heap.size ≤ k_) ∧ some k_ ≠ (s_.1 : Value).ownBlock ∧ some k_ ≠ (s_.2.2 : Value).ownBlock ∧ some k_ ≠ (jC Nx Cx.length Ox).ownBlock ∧ some k_ ≠ (jC Kx Bx.length Lx).ownBlock ∧ some k_ ≠ (jC Fx Ax.length Gx).ownBlock ∧ k_ ≠ Ex ∧ k_ ≠ Dx) s_.2.1 nx) ∧ (Kd.R (Kd.int .i64) 3 w' w.heap.size (fun k_ => (w.heap.size ≤ k_) ∧ some k_ ≠ (jC Fx Ax.length Gx).ownBlock) s_.2.2 ox) ∧ (Kd.U k59 59 w' w.heap.size (fun k_ => (Qx k_ ∨ w.heap.size ≤ k_) ∧ some k_ ≠ (s_.1 : Value).ownBlock ∧ some k_ ≠ (s_.2.1 : Value).ownBlock ∧ some k_ ≠ (s_.2.2 : Value).ownBlock ∧ some k_ ≠ (jC Nx Cx.length Ox).ownBlock ∧ some k_ ≠ (jC Kx Bx.length Lx).ownBlock ∧ some k_ ≠ (jC Fx Ax.length Gx).ownBlock ∧ k_ ≠ Ex ∧ k_ ≠ Dx) (.slice Ny mx.length Oy) mx) ∧ (Kd.N (Kd.os 59 k59 w.heap.size) 29 w' w.heap.size (fun k_ => (Qx k_ ∨ w.heap.size ≤ k_) ∧ some k_ ≠ (s_.1 : Value).ownBlock ∧ some k_ ≠ (s_.2.1 : Value).ownBlock ∧ some k_ ≠ (s_.2.2 : Value).ownBlock ∧ some k_ ≠ (jC Kx Bx.length Lx).ownBlock ∧ some k_ ≠ (jC Fx Ax.length Gx).ownBlock ∧ k_ ≠ Ex ∧ k_ ≠ Dx) (.slice Nx Cx.length Ox) Cx) ∧ (Kd.N (Kd.slice 3 (Kd.int .i64)) 22 w' w.heap.size (fun k_ => (Qx k_ ∨ w.heap.size ≤ k_) ∧ some k_ ≠ (s_.1 : Value).ownBlock ∧ some k_ ≠ (s_.2.1 : Value).ownBlock ∧ some k_ ≠ (s_.2.2 : Value).ownBlock ∧ some k_ ≠ (jC Nx Cx.length Ox).ownBlock ∧ some k_ ≠ (jC Fx Ax.length Gx).ownBlock ∧ k_ ≠ Ex ∧ k_ ≠ Dx) (.slice Kx Bx.length Lx) Bx) ∧ (Kd.R (Kd.int .i64) 3 w' w.heap.size (fun k_ => (w.heap.size ≤ k_) ∧ some k_ ≠ (s_.2.2 : Value).ownBlock) (.slice Fx Ax.length Gx) Ax) ∧ (w'.heap[Ex]? = some (.cells #[.slice none 0 0, .slice none 0 0, .slice none 0 0] 79 (0, 0))) ∧ (w'.heap[Dx]? = some (.cells #[.slice Nx Cx.length Ox, .slice Kx Bx.length Lx, .slice Fx Ax.length Gx] 79 (0, 0))) ∧ (Below w.heap.size w w')) ?_ ?_
         rotate_left
         intro ry
         refine join_ (σ := Value × Value) 9 #[kC, kC, kC, kC, kC, kC, kC, kC, lC, lC, kC, kC, kC, lC, lC, kC, lC, lC, lC, lC, lC] (fun s_ => [(31, s_.1), (32, s_.2), (43, .pointer (some ⟨Dx, 0, none⟩))]) (fun s_ w' => (w'.cell? ⟨Dx, 0, none⟩ = some (.slice Nx Cx.length Ox) ∧ w'.cell? ⟨Dx, 1, none⟩ = some (.slice Kx Bx.length Lx) ∧ w'.cell? ⟨Dx, 2, none⟩ = some (.slice Fx Ax.length Gx)) ∧ (Kd.U k59 59 w' w.heap.size (fun k_ => (Qx k_ ∨ w.heap.size ≤ k_) ∧ some k_ ≠ (jC Wx Tx.length Xx).ownBlock ∧ some k_ ≠ (s_.1 : Value).ownBlock ∧ some k_ ≠ (s_.2 : Value).ownBlock ∧ some k_ ≠ (jC Kx Bx.length Lx).ownBlock ∧ some k_ ≠ (jC Fx Ax.length Gx).ownBlock ∧ k_ ≠ Ex ∧ k_ ≠ Dx) (.slice xx gx.length yx) gx) ∧ (Kd.R (Kd.int .i64) 3 w' w.heap.size (fun k_ => (w.heap.size ≤ k_) ∧ some k_ ≠ (jC Fx Ax.length Gx).ownBlock) (.slice Wx Tx.length Xx) Tx) ∧ (Kd.N (Kd.os 59 k59 w.heap.size) 29 w' w.heap.size (fun k_ => (Qx k_ ∨ w.heap.size ≤ k_) ∧ some k_ ≠ (jC Wx Tx.length Xx).ownBlock ∧ some k_ ≠ (s_.2 : Value).ownBlock ∧ some k_ ≠ (jC Kx Bx.length Lx).ownBlock ∧ some k_ ≠ (jC Fx Ax.length Gx).ownBlock ∧ k_ ≠ Ex ∧ k_ ≠ Dx) s_.1 kx) ∧ (Kd.N (Kd.os 59 k59 w.heap.size) 29 w' w.heap.size (fun k_ => (Qx k_ ∨ w.heap.size ≤ k_) ∧ some k_ ≠ (jC Wx Tx.length Xx).ownBlock ∧ some k_ ≠ (jC Kx Bx.length Lx).ownBlock ∧ some k_ ≠ (jC Fx Ax.length Gx).ownBlock ∧ k_ ≠ Ex ∧ k_ ≠ Dx) s_.2 Sy) ∧ (Kd.U k59 59 w' w.heap.size (fun k_ => (Qx k_ ∨ w.heap.size ≤ k_) ∧ some k_ ≠ (jC Wx Tx.length Xx).ownBlock ∧ some k_ ≠ (s_.1 : Value).ownBlock ∧ some k_ ≠ (s_.2 : Value).ownBlock ∧ some k_ ≠ (jC Kx Bx.length Lx).ownBlock ∧ some k_ ≠ (jC Fx Ax.length Gx).ownBlock ∧ k_ ≠ Ex ∧ k_ ≠ Dx) (.slice Ny mx.length Oy) mx) ∧ (Kd.N (Kd.slice 3 (Kd.int .i64)) 22 w' w.heap.size (fun k_ => (Qx k_ ∨ w.heap.size ≤ k_) ∧ some k_ ≠ (jC Wx Tx.length Xx).ownBlock ∧ some k_ ≠ (s_.1 : Value).ownBlock ∧ some k_ ≠ (s_.2 : Value).ownBlock ∧ some k_ ≠ (jC Fx Ax.length Gx).ownBlock ∧ k_ ≠ Ex ∧ k_ ≠ Dx) (.slice Kx Bx.length Lx) Bx) ∧ (Kd.R (Kd.int .i64) 3 w' w.heap.size (fun k_ => (w.heap.size ≤ k_) ∧ some k_ ≠ (jC Wx Tx.length Xx).ownBlock) (.slice Fx Ax.length Gx) Ax) ∧ (w'.heap[Ex]? = some (.cells #[.slice none 0 0, .slice none 0 0, .slice none 0 0] 79 (0, 0))) ∧ (w'.heap[Dx]? = some (.cells #[.slice Nx Cx.length Ox, .slice Kx Bx.length Lx, .slice Fx Ax.length Gx] 79 (0, 0))) ∧ (Below w.heap.size w w')) ?_ ?_
         rotate_left
         intro dz
         refine join_ (σ := Value × Value) 10 #[kC, kC, kC, kC, lC, kC, kC, kC, kC, lC, kC, kC, kC, lC, lC, lC, lC, lC, lC, lC, lC] (fun s_ => [(31, s_.1), (36, s_.2)]) (fun s_ w' => (w'.cell? ⟨Dx, 0, none⟩ = some (.slice Nx Cx.length Ox) ∧ w'.cell? ⟨Dx, 1, none⟩ = some (.slice Kx Bx.length Lx) ∧ w'.cell? ⟨Dx, 2, none⟩ = some (.slice Fx Ax.length Gx)) ∧ (Kd.U k59 59 w' w.heap.size (fun k_ => (Qx k_ ∨ w.heap.size ≤ k_) ∧ some k_ ≠ (s_.1 : Value).ownBlock ∧ some k_ ≠ (s_.2 : Value).ownBlock ∧ some k_ ≠ (jC Nx Cx.length Ox).ownBlock ∧ some k_ ≠ (jC Kx Bx.length Lx).ownBlock ∧ some k_ ≠ (jC Fx Ax.length Gx).ownBlock ∧ k_ ≠ Ex ∧ k_ ≠ Dx) (.slice xx gx.length yx) gx) ∧ (Kd.N (Kd.os 59 k59 w.heap.size) 29 w' w.heap.size (fun k_ => (Qx k_ ∨ w.heap.size ≤ k_) ∧ some k_ ≠ (s_.2 : Value).ownBlock ∧ some k_ ≠ (jC Nx Cx.length Ox).ownBlock ∧ some k_ ≠ (jC Kx Bx.length Lx).ownBlock ∧ some k_ ≠ (jC Fx Ax.length Gx).ownBlock ∧ k_ ≠ Ex ∧ k_ ≠ Dx) s_.1 kx) ∧ (Kd.N (Kd.slice 3 (Kd.int .i64)) 22 w' w.heap.size (fun k_ => (Qx k_ ∨ w.heap.size ≤ k_) ∧ some k_ ≠ (s_.1 : Value).ownBlock ∧ some k_ ≠ (jC Nx Cx.length Ox).ownBlock ∧ some k_ ≠ (jC Kx Bx.length Lx).ownBlock ∧ some k_ ≠ (jC Fx Ax.length Gx).ownBlock ∧ k_ ≠ Ex ∧ k_ ≠ Dx) s_.2 nx) ∧ (Kd.U k59 59 w' w.heap.size (fun k_ => (Qx k_ ∨ w.heap.size ≤ k_) ∧ some k_ ≠ (s_.1 : Value).ownBlock ∧ some k_ ≠ (s_.2 : Value).ownBlock ∧ some k_ ≠ (jC Nx Cx.length Ox).ownBlock ∧ some k_ ≠ (jC Kx Bx.length Lx).ownBlock ∧ some k_ ≠ (jC Fx Ax.length Gx).ownBlock ∧ k_ ≠ Ex ∧ k_ ≠ Dx) (.slice Ny mx.length Oy) mx) ∧ (Kd.N (Kd.os 59 k59 w.heap.size) 29 w' w.heap.size (fun k_ => (Qx k_ ∨ w.heap.size ≤ k_) ∧ some k_ ≠ (s_.1 : Value).ownBlock ∧ some k_ ≠ (s_.2 : Value).ownBlock ∧ some k_ ≠ (jC Kx Bx.length Lx).ownBlock ∧ some k_ ≠ (jC Fx Ax.length Gx).ownBlock ∧ k_ ≠ Ex ∧ k_ ≠ Dx) (.slice Nx Cx.length Ox) Cx) ∧ (Kd.N (Kd.slice 3 (Kd.int .i64)) 22 w' w.heap.size (fun k_ => (Qx k_ ∨ w.heap.size ≤ k_) ∧ some k_ ≠ (s_.1 : Value).ownBlock ∧ some k_ ≠ (s_.2 : Value).ownBlock ∧ some k_ ≠ (jC Nx Cx.length Ox).ownBlock ∧ some k_ ≠ (jC Fx Ax.length Gx).ownBlock ∧ k_ ≠ Ex ∧ k_ ≠ Dx) (.slice Kx Bx.length Lx) Bx) ∧ (Kd.R (Kd.int .i64) 3 w' w.heap.size (fun k_ => (w.heap.size ≤ k_)) (.slice Fx Ax.length Gx) Ax) ∧ (w'.heap[Ex]? = some (.cells #[.slice none 0 0, .slice none 0 0, .slice none 0 0] 79 (0, 0))) ∧ (w'.heap[Dx]? = some (.cells #[.slice Nx Cx.length Ox, .slice Kx Bx.length Lx, .slice Fx Ax.length Gx] 79 (0, 0))) ∧ (Below w.heap.size w w')) ?_ ?_
         rotate_left
         intro Yz
         refine join_ (σ := Value × Value) 10 #[kC, kC, kC, kC, lC, kC, kC, kC, lC, lC, kC, kC, kC, kC, lC, lC, lC, lC, lC, lC, lC] (fun s_ => [(31, s_.1), (41, s_.2)]) (fun s_ w' => (w'.cell? ⟨Dx, 0, none⟩ = some (.slice Nx Cx.length Ox) ∧ w'.cell? ⟨Dx, 1, none⟩ = some (.slice Kx Bx.length Lx) ∧ w'.cell? ⟨Dx, 2, none⟩ = some (.slice Fx Ax.length Gx)) ∧ (Kd.U k59 59 w' w.heap.size (fun k_ => (Qx k_ ∨ w.heap.size ≤ k_) ∧ some k_ ≠ (jC Wx Tx.length Xx).ownBlock ∧ some k_ ≠ (s_.1 : Value).ownBlock ∧ some k_ ≠ (s_.2 : Value).ownBlock ∧ some k_ ≠ (jC Nx Cx.length Ox).ownBlock ∧ some k_ ≠ (jC Kx Bx.length Lx).ownBlock ∧ some k_ ≠ (jC Fx Ax.length Gx).ownBlock ∧ k_ ≠ Ex ∧ k_ ≠ Dx) (.slice xx gx.length yx) gx) ∧ (Kd.R (Kd.int .i64) 3 w' w.heap.size (fun k_ => (w.heap.size ≤ k_) ∧ some k_ ≠ (s_.2 : Value).ownBlock ∧ some k_ ≠ (jC Fx Ax.length Gx).ownBlock) (.slice Wx Tx.length Xx) Tx) ∧ (Kd.N (Kd.os 59 k59 w.heap.size) 29 w' w.heap.size (fun k_ => (Qx k_ ∨ w.heap.size ≤ k_) ∧ some k_ ≠ (jC Wx Tx.length Xx).ownBlock ∧ some k_ ≠ (s_.2 : Value).ownBlock ∧ some k_ ≠ (jC Nx Cx.length Ox).ownBlock ∧ some k_ ≠ (jC Kx Bx.length Lx).ownBlock ∧ some k_ ≠ (jC Fx Ax.length Gx).ownBlock ∧ k_ ≠ Ex ∧ k_ ≠ Dx) s_.1 kx) ∧ (Kd.R (Kd.int .i64) 3 w' w.heap.size (fun k_ => (w.heap.size ≤ k_) ∧ some k_ ≠ (jC Wx Tx.length Xx).ownBlock ∧ some k_ ≠ (jC Fx Ax.length Gx).ownBlock) s_.2 ox) ∧ (Kd.U k59 59 w' w.heap.size (fun k_ => (Qx k_ ∨ w.heap.size ≤ k_) ∧ some k_ ≠ (jC Wx Tx.length Xx).ownBlock ∧ some k_ ≠ (s_.1 : Value).ownBlock ∧ some k_ ≠ (s_.2 : Value).ownBlock ∧ some k_ ≠ (jC Nx Cx.length Ox).ownBlock ∧ some k_ ≠ (jC Kx Bx.length Lx).ownBlock ∧ some k_ ≠ (jC Fx Ax.length Gx).ownBlock ∧ k_ ≠ Ex ∧ k_ ≠ Dx) (.slice Ny mx.length Oy) mx) ∧ (Kd.N (Kd.os 59 k59 w.heap.size) 29 w' w.heap.size (fun k_ => (Qx k_ ∨ w.heap.size ≤ k_) ∧ some k_ ≠ (jC Wx Tx.length Xx).ownBlock ∧ some k_ ≠ (s_.1 : Value).ownBlock ∧ some k_ ≠ (s_.2 : Value).ownBlock ∧ some k_ ≠ (jC Kx Bx.length Lx).ownBlock ∧ some k_ ≠ (jC Fx Ax.length Gx).ownBlock ∧ k_ ≠ Ex ∧ k_ ≠ Dx) (.slice Nx Cx.length Ox) Cx) ∧ (Kd.N (Kd.slice 3 (Kd.int .i64)) 22 w' w.heap.size (fun k_ => (Qx k_ ∨ w.heap.size ≤ k_) ∧ some k_ ≠ (jC Wx Tx.length Xx).ownBlock ∧ some k_ ≠ (s_.1 : Value).ownBlock ∧ some k_ ≠ (s_.2 : Value).ownBlock ∧ some k_ ≠ (jC Nx Cx.length Ox).ownBlock ∧ some k_ ≠ (jC Fx Ax.length Gx).ownBlock ∧ k_ ≠ Ex ∧ k_ ≠ Dx) (.slice Kx Bx.length Lx) Bx) ∧ (Kd.R (Kd.int .i64) 3 w' w.heap.size (fun k_ => (w.heap.size ≤ k_) ∧ some k_ ≠ (jC Wx Tx.length Xx).ownBlock ∧ some k_ ≠ (s_.2 : Value).ownBlock) (.slice Fx Ax.length Gx) Ax) ∧ (w'.heap[Ex]? = some (.cells #[.slice none 0 0, .slice none 0 0, .slice none 0 0] 79 (0, 0))) ∧ (w'.heap[Dx]? = some (.cells #[.slice Nx Cx.length Ox, .slice Kx Bx.length Lx, .slice Fx Ax.length Gx] 79 (0, 0))) ∧ (Below w.heap.size w w')) ?_ ?_
         rotate_left
         intro Tz
         refine join_ (σ := Value × Value) 10 #[kC, kC, kC, lC, lC, kC, kC, kC, kC, lC, kC, kC, kC, kC, lC, lC, lC, lC, lC, lC, lC] (fun s_ => [(36, s_.1), (41, s_.2)]) (fun s_ w' => (w'.cell? ⟨Dx, 0, none⟩ = some (.slice Nx Cx.length Ox) ∧ w'.cell? ⟨Dx, 1, none⟩ = some (.slice Kx Bx.length Lx) ∧ w'.cell? ⟨Dx, 2, none⟩ = some (.slice Fx Ax.length Gx)) ∧ (Kd.U k59 59 w' w.heap.size (fun k_ => (Qx k_ ∨ w.heap.size ≤ k_) ∧ some k_ ≠ (s_.1 : Value).ownBlock ∧ some k_ ≠ (s_.2 : Value).ownBlock ∧ some k_ ≠ (jC Nx Cx.length Ox).ownBlock ∧ some k_ ≠ (jC Kx Bx.length Lx).ownBlock ∧ some k_ ≠ (jC Fx Ax.length Gx).ownBlock ∧ k_ ≠ Ex ∧ k_ ≠ Dx) (.slice xx gx.length yx) gx) ∧ (Kd.N (Kd.slice 3 (Kd.int .i64)) 22 w' w.heap.size (fun k_ => (Qx k_ ∨ w.heap.size ≤ k_) ∧ some k_ ≠ (s_.2 : Value).ownBlock ∧ some k_ ≠ (jC Nx Cx.length Ox).ownBlock ∧ some k_ ≠ (jC Kx Bx.length Lx).ownBlock ∧ some k_ ≠ (jC Fx Ax.length Gx).ownBlock ∧ k_ ≠ Ex ∧ k_ ≠ Dx) s_.1 nx) ∧ (Kd.R (Kd.int .i64) 3 w' w.heap.size (fun k_ => (w.heap.size ≤ k_) ∧ some k_ ≠ (jC Fx Ax.length Gx).ownBlock) s_.2 ox) ∧ (Kd.U k59 59 w' w.heap.size (fun k_ => (Qx k_ ∨ w.heap.size ≤ k_) ∧ some k_ ≠ (s_.1 : Value).ownBlock ∧ some k_ ≠ (s_.2 : Value).ownBlock ∧ some k_ ≠ (jC Nx Cx.length Ox).ownBlock ∧ some k_ ≠ (jC Kx Bx.length Lx).ownBlock ∧ some k_ ≠ (jC Fx Ax.length Gx).ownBlock ∧ k_ ≠ Ex ∧ k_ ≠ Dx) (.slice Ny mx.length Oy) mx) ∧ (Kd.N (Kd.os 59 k59 w.heap.size) 29 w' w.heap.size (fun k_ => (Qx k_ ∨ w.heap.size ≤ k_) ∧ some k_ ≠ (s_.1 : Value).ownBlock ∧ some k_ ≠ (s_.2 : Value).ownBlock ∧ some k_ ≠ (jC Kx Bx.length Lx).ownBlock ∧ some k_ ≠ (jC Fx Ax.length Gx).ownBlock ∧ k_ ≠ Ex ∧ k_ ≠ Dx) (.slice Nx Cx.length Ox) Cx) ∧ (Kd.N (Kd.slice 3 (Kd.int .i64)) 22 w' w.heap.size (fun k_ => (Qx k_ ∨ w.heap.size ≤ k_) ∧ some k_ ≠ (s_.1 : Value).ownBlock ∧ some k_ ≠ (s_.2 : Value).ownBlock ∧ some k_ ≠ (jC Nx Cx.length Ox).ownBlock ∧ some k_ ≠ (jC Fx Ax.length Gx).ownBlock ∧ k_ ≠ Ex ∧ k_ ≠ Dx) (.slice Kx Bx.length Lx) Bx) ∧ (Kd.R (Kd.int .i64) 3 w' w.heap.size (fun k_ => (w.heap.size ≤ k_) ∧ some k_ ≠ (s_.2 : Value).ownBlock) (.slice Fx Ax.length Gx) Ax) ∧ (w'.heap[Ex]? = some (.cells #[.slice none 0 0, .slice none 0 0, .slice none 0 0] 79 (0, 0))) ∧ (w'.heap[Dx]? = some (.cells #[.slice Nx Cx.length Ox, .slice Kx Bx.length Lx, .slice Fx Ax.length Gx] 79 (0, 0))) ∧ (Below w.heap.size w w')) ?_ ?_
         rotate_left
         intro Uz
         refine join_ (σ := Value) 11 #[kC, kC, kC, kC, lC, kC, kC, kC, lC, lC, kC, kC, kC, lC, lC, lC, lC, lC, lC, lC, lC] (fun s_ => [(31, s_)]) (fun s_ w' => (w'.cell? ⟨Dx, 0, none⟩ = some (.slice Nx Cx.length Ox) ∧ w'.cell? ⟨Dx, 1, none⟩ = some (.slice Kx Bx.length Lx) ∧ w'.cell? ⟨Dx, 2, none⟩ = some (.slice Fx Ax.length Gx)) ∧ (Kd.U k59 59 w' w.heap.size (fun k_ => (Qx k_ ∨ w.heap.size ≤ k_) ∧ some k_ ≠ (jC Wx Tx.length Xx).ownBlock ∧ some k_ ≠ (s_ : Value).ownBlock ∧ some k_ ≠ (jC Nx Cx.length Ox).ownBlock ∧ some k_ ≠ (jC Kx Bx.length Lx).ownBlock ∧ some k_ ≠ (jC Fx Ax.length Gx).ownBlock ∧ k_ ≠ Ex ∧ k_ ≠ Dx) (.slice xx gx.length yx) gx) ∧ (Kd.R (Kd.int .i64) 3 w' w.heap.size (fun k_ => (w.heap.size ≤ k_) ∧ some k_ ≠ (jC Fx Ax.length Gx).ownBlock) (.slice Wx Tx.length Xx) Tx) ∧ (Kd.N (Kd.os 59 k59 w.heap.size) 29 w' w.heap.size (fun k_ => (Qx k_ ∨ w.heap.size ≤ k_) ∧ some k_ ≠ (jC Wx Tx.length Xx).ownBlock ∧ some k_ ≠ (jC Nx Cx.length Ox).ownBlock ∧ some k_ ≠ (jC Kx Bx.length Lx).ownBlock ∧ some k_ ≠ (jC Fx Ax.length Gx).ownBlock ∧ k_ ≠ Ex ∧ k_ ≠ Dx) s_ kx) ∧ (Kd.U k59 59 w' w.heap.size (fun k_ => (Qx k_ ∨ w.heap.size ≤ k_) ∧ some k_ ≠ (jC Wx Tx.length Xx).ownBlock ∧ some k_ ≠ (s_ : Value).ownBlock ∧ some k_ ≠ (jC Nx Cx.length Ox).ownBlock ∧ some k_ ≠ (jC Kx Bx.length Lx).ownBlock ∧ some k_ ≠ (jC Fx Ax.length Gx).ownBlock ∧ k_ ≠ Ex ∧ k_ ≠ Dx) (.slice Ny mx.length Oy) mx) ∧ (Kd.N (Kd.os 59 k59 w.heap.size) 29 w' w.heap.size (fun k_ => (Qx k_ ∨ w.heap.size ≤ k_) ∧ some k_ ≠ (jC Wx Tx.length Xx).ownBlock ∧ some k_ ≠ (s_ : Value).ownBlock ∧ some k_ ≠ (jC Kx Bx.length Lx).ownBlock ∧ some k_ ≠ (jC Fx Ax.length Gx).ownBlock ∧ k_ ≠ Ex ∧ k_ ≠ Dx) (.slice Nx Cx.length Ox) Cx) ∧ (Kd.N (Kd.slice 3 (Kd.int .i64)) 22 w' w.heap.size (fun k_ => (Qx k_ ∨ w.heap.size ≤ k_) ∧ some k_ ≠ (jC Wx Tx.length Xx).ownBlock ∧ some k_ ≠ (s_ : Value).ownBlock ∧ some k_ ≠ (jC Nx Cx.length Ox).ownBlock ∧ some k_ ≠ (jC Fx Ax.length Gx).ownBlock ∧ k_ ≠ Ex ∧ k_ ≠ Dx) (.slice Kx Bx.length Lx) Bx) ∧ (Kd.R (Kd.int .i64) 3 w' w.heap.size (fun k_ => (w.heap.size ≤ k_) ∧ some k_ ≠ (jC Wx Tx.length Xx).ownBlock) (.slice Fx Ax.length Gx) Ax) ∧ (w'.heap[Ex]? = some (.cells #[.slice none 0 0, .slice none 0 0, .slice none 0 0] 79 (0, 0))) ∧ (w'.heap[Dx]? = some (.cells #[.slice Nx Cx.length Ox, .slice Kx Bx.length Lx, .slice Fx Ax.length Gx] 79 (0, 0))) ∧ (Below w.heap.size w w')) ?_ ?_
         rotate_left
         intro jz
         refine join_ (σ := Value) 11 #[kC, kC, kC, lC, lC, kC, kC, kC, kC, lC, kC, kC, kC, lC, lC, lC, lC, lC, lC, lC, lC] (fun s_ => [(36, s_)]) (fun s_ w' => (w'.cell? ⟨Dx, 0, none⟩ = some (.slice Nx Cx.length Ox) ∧ w'.cell? ⟨Dx, 1, none⟩ = some (.slice Kx Bx.length Lx) ∧ w'.cell? ⟨Dx, 2, none⟩ = some (.slice Fx Ax.length Gx)) ∧ (Kd.U k59 59 w' w.heap.size (fun k_ => (Qx k_ ∨ w.heap.size ≤ k_) ∧ some k_ ≠ (s_ : Value).ownBlock ∧ some k_ ≠ (jC Nx Cx.length Ox).ownBlock ∧ some k_ ≠ (jC Kx Bx.length Lx).ownBlock ∧ some k_ ≠ (jC Fx Ax.length Gx).ownBlock ∧ k_ ≠ Ex ∧ k_ ≠ Dx) (.slice xx gx.length yx) gx) ∧ (Kd.N (Kd.slice 3 (Kd.int .i64)) 22 w' w.heap.size (fun k_ => (Qx k_ ∨ w.heap.size ≤ k_) ∧ some k_ ≠ (jC Nx Cx.length Ox).ownBlock ∧ some k_ ≠ (jC Kx Bx.length Lx).ownBlock ∧ some k_ ≠ (jC Fx Ax.length Gx).ownBlock ∧ k_ ≠ Ex ∧ k_ ≠ Dx) s_ nx) ∧ (Kd.U k59 59 w' w.heap.size (fun k_ => (Qx k_ ∨ w.heap.size ≤ k_) ∧ some k_ ≠ (s_ : Value).ownBlock ∧ some k_ ≠ (jC Nx Cx.length Ox).ownBlock ∧ some k_ ≠ (jC Kx Bx.length Lx).ownBlock ∧ some k_ ≠ (jC Fx Ax.length Gx).ownBlock ∧ k_ ≠ Ex ∧ k_ ≠ Dx) (.slice Ny mx.length Oy) mx) ∧ (Kd.N (Kd.os 59 k59 w.heap.size) 29 w' w.heap.size (fun k_ => (Qx k_ ∨ w.heap.size ≤ k_) ∧ some k_ ≠ (s_ : Value).ownBlock ∧ some k_ ≠ (jC Kx Bx.length Lx).ownBlock ∧ some k_ ≠ (jC Fx Ax.length Gx).ownBlock ∧ k_ ≠ Ex ∧ k_ ≠ Dx) (.slice Nx Cx.length Ox) Cx) ∧ (Kd.N (Kd.slice 3 (Kd.int .i64)) 22 w' w.heap.size (fun k_ => (Qx k_ ∨ w.heap.size ≤ k_) ∧ some k_ ≠ (s_ : Value).ownBlock ∧ some k_ ≠ (jC Nx Cx.length Ox).ownBlock ∧ some k_ ≠ (jC Fx Ax.length Gx).ownBlock ∧ k_ ≠ Ex ∧ k_ ≠ Dx) (.slice Kx Bx.length Lx) Bx) ∧ (Kd.R (Kd.int .i64) 3 w' w.heap.size (fun k_ => (w.heap.size ≤ k_)) (.slice Fx Ax.length Gx) Ax) ∧ (w'.heap[Ex]? = some (.cells #[.slice none 0 0, .slice none 0 0, .slice none 0 0] 79 (0, 0))) ∧ (w'.heap[Dx]? = some (.cells #[.slice Nx Cx.length Ox, .slice Kx Bx.length Lx, .slice Fx Ax.length Gx] 79 (0, 0))) ∧ (Below w.heap.size w w')) ?_ ?_
         rotate_left
         intro kz
         refine join_ (σ := Value) 11 #[kC, kC, kC, lC, lC, kC, kC, kC, lC, lC, kC, kC, kC, kC, lC, lC, lC, lC, lC, lC, lC] (fun s_ => [(41, s_)]) (fun s_ w' => (w'.cell? ⟨Dx, 0, none⟩ = some (.slice Nx Cx.length Ox) ∧ w'.cell? ⟨Dx, 1, none⟩ = some (.slice Kx Bx.length Lx) ∧ w'.cell? ⟨Dx, 2, none⟩ = some (.slice Fx Ax.length Gx)) ∧ (Kd.U k59 59 w' w.heap.size (fun k_ => (Qx k_ ∨ w.heap.size ≤ k_) ∧ some k_ ≠ (jC Wx Tx.length Xx).ownBlock ∧ some k_ ≠ (s_ : Value).ownBlock ∧ some k_ ≠ (jC Nx Cx.length Ox).ownBlock ∧ some k_ ≠ (jC Kx Bx.length Lx).ownBlock ∧ some k_ ≠ (jC Fx Ax.length Gx).ownBlock ∧ k_ ≠ Ex ∧ k_ ≠ Dx) (.slice xx gx.length yx) gx) ∧ (Kd.R (Kd.int .i64) 3 w' w.heap.size (fun k_ => (w.heap.size ≤ k_) ∧ some k_ ≠ (s_ : Value).ownBlock ∧ some k_ ≠ (jC Fx Ax.length Gx).ownBlock) (.slice Wx Tx.length Xx) Tx) ∧ (Kd.R (Kd.int .i64) 3 w' w.heap.size (fun k_ => (w.heap.size ≤ k_) ∧ some k_ ≠ (jC Wx Tx.length Xx).ownBlock ∧ some k_ ≠ (jC Fx Ax.length Gx).ownBlock) s_ ox) ∧ (Kd.U k59 59 w' w.heap.size (fun k_ => (Qx k_ ∨ w.heap.size ≤ k_) ∧ some k_ ≠ (jC Wx Tx.length Xx).ownBlock ∧ some k_ ≠ (s_ : Value).ownBlock ∧ some k_ ≠ (jC Nx Cx.length Ox).ownBlock ∧ some k_ ≠ (jC Kx Bx.length Lx).ownBlock ∧ some k_ ≠ (jC Fx Ax.length Gx).ownBlock ∧ k_ ≠ Ex ∧ k_ ≠ Dx) (.slice Ny mx.length Oy) mx) ∧ (Kd.N (Kd.os 59 k59 w.heap.size) 29 w' w.heap.size (fun k_ => (Qx k_ ∨ w.heap.size ≤ k_) ∧ some k_ ≠ (jC Wx Tx.length Xx).ownBlock ∧ some k_ ≠ (s_ : Value).ownBlock ∧ some k_ ≠ (jC Kx Bx.length Lx).ownBlock ∧ some k_ ≠ (jC Fx Ax.length Gx).ownBlock ∧ k_ ≠ Ex ∧ k_ ≠ Dx) (.slice Nx Cx.length Ox) Cx) ∧ (Kd.N (Kd.slice 3 (Kd.int .i64)) 22 w' w.heap.size (fun k_ => (Qx k_ ∨ w.heap.size ≤ k_) ∧ some k_ ≠ (jC Wx Tx.length Xx).ownBlock ∧ some k_ ≠ (s_ : Value).ownBlock ∧ some k_ ≠ (jC Nx Cx.length Ox).ownBlock ∧ some k_ ≠ (jC Fx Ax.length Gx).ownBlock ∧ k_ ≠ Ex ∧ k_ ≠ Dx) (.slice Kx Bx.length Lx) Bx) ∧ (Kd.R (Kd.int .i64) 3 w' w.heap.size (fun k_ => (w.heap.size ≤ k_) ∧ some k_ ≠ (jC Wx Tx.length Xx).ownBlock ∧ some k_ ≠ (s_ : Value).ownBlock) (.slice Fx Ax.length Gx) Ax) ∧ (w'.heap[Ex]? = some (.cells #[.slice none 0 0, .slice none 0 0, .slice none 0 0] 79 (0, 0))) ∧ (w'.heap[Dx]? = some (.cells #[.slice Nx Cx.length Ox, .slice Kx Bx.length Lx, .slice Fx Ax.length Gx] 79 (0, 0))) ∧ (Below w.heap.size w w')) ?_ ?_
         rotate_left
         intro iz
         refine three_ (i := 3) (j := 8) (k := 13) (Ni := some 31) (Nj := some 36) (Nk := some 41) #[kC, kC, kC, kC, lC, kC, kC, kC, lC, lC, kC, kC, kC, lC, lC, lC, lC, lC, lC, lC, lC] #[kC, kC, kC, lC, lC, kC, kC, kC, kC, lC, kC, kC, kC, lC, lC, lC, lC, lC, lC, lC, lC] #[kC, kC, kC, lC, lC, kC, kC, kC, lC, lC, kC, kC, kC, kC, lC, lC, lC, lC, lC, lC, lC] rfl rfl rfl rfl rfl rfl (three_of HT_.out (by kernel_rfl)) (by decide) (by decide) (by decide) (fun K hK => ?_) (fun K hK => ?_) (fun K hK => ?_)
         ·
          skip
          refine kA (Kd.os 59 k59 w.heap.size) _ 29 ?hg (N' := 31) ?hd (xs := ([gx] : List (List (S59)))) (inner := [.slice xx gx.length yx]) (ok := (fun k_ => (Qx k_ ∨ w.heap.size ≤ k_) ∧ some k_ ≠ (jC Nx Cx.length Ox).ownBlock ∧ some k_ ≠ (jC Kx Bx.length Lx).ownBlock ∧ some k_ ≠ (jC Fx Ax.length Gx).ownBlock ∧ some k_ ≠ (jC Wx Tx.length Xx).ownBlock ∧ k_ ≠ Ex ∧ k_ ≠ Dx)) (okp := (fun k_ => (Qx k_ ∨ w.heap.size ≤ k_) ∧ some k_ ≠ (jC Nx Cx.length Ox).ownBlock ∧ some k_ ≠ (jC Kx Bx.length Lx).ownBlock ∧ some k_ ≠ (jC Fx Ax.length Gx).ownBlock ∧ some k_ ≠ (jC Wx Tx.length Xx).ownBlock ∧ k_ ≠ Ex ∧ k_ ≠ Dx)) ?hr ?hp (fun _ hk => hk) ((show ∀ k_, w25.heap.size ≤ k_ → (fun k_ => (Qx k_ ∨ w.heap.size ≤ k_) ∧ some k_ ≠ (jC Nx Cx.length Ox).ownBlock ∧ some k_ ≠ (jC Kx Bx.length Lx).ownBlock ∧ some k_ ≠ (jC Fx Ax.length Gx).ownBlock ∧ some k_ ≠ (jC Wx Tx.length Xx).ownBlock ∧ k_ ≠ Ex ∧ k_ ≠ Dx) k_ from fun k_ hk => ⟨(.inr (Nat.le_trans (yB (by repeat (first | (with_reducible first | exact HB.out | apply uB | apply vB | apply wB | refine xB ?_ Rx.out | refine xB ?_ Vx.out) | exact HB.out))) hk)), Kd.fresh' (mA (by (with_reducible repeat (first | apply dA | apply hA | apply gA)); exact Mx.out)) k_ hk, Kd.fresh' (mA (by (with_reducible repeat (first | apply dA | apply hA | apply gA)); exact Ix.out)) k_ hk, Kd.fresh' (dB (by (with_reducible repeat (first | apply sA | apply xA | apply wA)); exact Hx.out)) k_ hk, Kd.fresh' (dB (by (with_reducible repeat (first | apply sA | apply xA | apply wA)); exact dx.out)) k_ hk, Kd.freshB (g := Ex) (o := .cells #[.slice none 0 0, .slice none 0 0, .slice none 0 0] 79 (0, 0)) (by (with_reducible repeat (first | refine aC ?_ _ | refine bC ?_ | refine cC ?_ _)); exact Px.out) k_ hk, Kd.freshB (g := Dx) (o := .cells #[.slice Nx Cx.length Ox, .slice Kx Bx.length Lx, .slice Fx Ax.length Gx] 79 (0, 0)) (by (with_reducible repeat (first | refine aC ?_ _ | refine bC ?_ | refine cC ?_ _)); exact Jx.out) k_ hk⟩) _ (Nat.le_refl _)) (Below.refl _ _) (Nat.le_refl _) (by simp) ?_; (case hd => rfl); (case hg => rfl); (case hr => first | (go_simp; done) | (go_simp; rfl)); (case hp => exact (Reps.one (show Kd.FK (Kd.os 59 k59 w.heap.size) _ _ gx [.slice xx gx.length yx] from (Kd.FK_os_U FRz (sB (ok' := (fun k_ => (Qx k_ ∨ w.heap.size ≤ k_) ∧ some k_ ≠ (jC Nx Cx.length Ox).ownBlock ∧ some k_ ≠ (jC Kx Bx.length Lx).ownBlock ∧ some k_ ≠ (jC Fx Ax.length Gx).ownBlock ∧ some k_ ≠ (jC Wx Tx.length Xx).ownBlock ∧ k_ ≠ Ex ∧ k_ ≠ Dx)) (Sx.out) (fun k_ hk => ⟨hk.1, hk.2.2.1, hk.2.2.2.1, hk.2.2.2.2.1, hk.2.1, hk.2.2.2.2.2.1, hk.2.2.2.2.2.2⟩)))) (Reps.none _ _)))
          intro bx w28 ho29 hb hg_ hnew_
          clear hg_ hnew_
          (first | rw [← ly.out] at ho29 | (simp only [Int.reduceToNat] at ho29; rw [← ly.out] at ho29))
          replace Zx := Aside0.mk (qB (by (with_reducible repeat (first | apply nB | apply pB | apply oB)); exact Zx.out) (fA ho29) hb)
          replace Mx := Aside0.mk (iA (by (with_reducible repeat (first | apply dA | apply hA | apply gA)); exact Mx.out) (fA ho29) hb)
          replace Ix := Aside0.mk (iA (by (with_reducible repeat (first | apply dA | apply hA | apply gA)); exact Ix.out) (fA ho29) hb)
          replace Hx := Aside0.mk (vA (by (with_reducible repeat (first | apply sA | apply xA | apply wA)); exact Hx.out) hb)
          replace Sx := Aside0.mk (qB (by (with_reducible repeat (first | apply nB | apply pB | apply oB)); exact Sx.out) (fA ho29) hb)
          replace dx := Aside0.mk (vA (by (with_reducible repeat (first | apply sA | apply xA | apply wA)); exact dx.out) hb)
          have Yx := Aside0.mk (lA ho29 (yB (by repeat (first | (with_reducible first | exact HB.out | apply uB | apply vB | apply wB | refine xB ?_ Rx.out | refine xB ?_ Vx.out) | exact HB.out))))
          replace Px := Aside0.mk (eC (g := Ex) (o := .cells #[.slice none 0 0, .slice none 0 0, .slice none 0 0] 79 (0, 0)) (by (with_reducible repeat (first | refine aC ?_ _ | refine bC ?_ | refine cC ?_ _)); exact Px.out) hb)
          replace Jx := Aside0.mk (eC (g := Dx) (o := .cells #[.slice Nx Cx.length Ox, .slice Kx Bx.length Lx, .slice Fx Ax.length Gx] 79 (0, 0)) (by (with_reducible repeat (first | refine aC ?_ _ | refine bC ?_ | refine cC ?_ _)); exact Jx.out) hb)
          replace HB := Aside0.mk (zB (by repeat (first | (with_reducible first | exact HB.out | apply uB | apply vB | apply wB | refine xB ?_ Rx.out | refine xB ?_ Vx.out) | exact HB.out)) hb)
          clear hb ho29
          refine hK.out _ _ ⟨(dC Jx.out 0).trans rfl, (dC Jx.out 1).trans rfl, (dC Jx.out 2).trans rfl⟩ (fun fx => ?_)
          clear hK K
          refine norm_ (a' := ?_) ?_ ?_
          rotate_left
          ·
           show Act.put _ (some 31) _ = _
           simp only [Act.put, gC, hC, iC, i64_w, i32_w]
           rfl
          exact norm_ (by first | (simp only [fC, Act.put, gC, hC, iC]; done) | (simp only [fC, Act.put, gC, hC, iC]; rfl)) (jz (bx) _ ⟨fx, (sB Sx.out (fun _ hk => ⟨hk.1.1, hk.1.2.1, hk.2, hk.1.2.2.1, hk.1.2.2.2.1, hk.1.2.2.2.2.1, hk.1.2.2.2.2.2.1, hk.1.2.2.2.2.2.2⟩)), (eB dx.out (fun _ hk => ⟨hk.1.1, hk.2⟩)), (nA Yx.out (fun _ hk => ⟨hk.1, hk.2.2.2.2.1, hk.2.1, hk.2.2.1, hk.2.2.2.1, hk.2.2.2.2.2.1, hk.2.2.2.2.2.2⟩)), (sB Zx.out (fun _ hk => ⟨hk.1.1.1, hk.1.2, hk.2, hk.1.1.2.1, hk.1.1.2.2.1, hk.1.1.2.2.2.1, hk.1.1.2.2.2.2.1, hk.1.1.2.2.2.2.2⟩)), (nA Mx.out (fun _ hk => ⟨hk.1.1.1, hk.1.2, hk.2, hk.1.1.2.1, hk.1.1.2.2.1, hk.1.1.2.2.2.1, hk.1.1.2.2.2.2⟩)), (nA Ix.out (fun _ hk => ⟨hk.1.1.1, hk.1.2, hk.2, hk.1.1.2.1, hk.1.1.2.2.1, hk.1.1.2.2.2.1, hk.1.1.2.2.2.2⟩)), Hx.out, Px.out, Jx.out, (HB.out)⟩)
         ·
          skip
          refine kA (Kd.slice 3 (Kd.int .i64)) _ 22 ?hg (N' := 36) ?hd (xs := ([Tx] : List (List Int))) (inner := [.slice Wx Tx.length Xx]) (ok := (fun k_ => (Qx k_ ∨ w.heap.size ≤ k_) ∧ some k_ ≠ (jC Nx Cx.length Ox).ownBlock ∧ some k_ ≠ (jC Kx Bx.length Lx).ownBlock ∧ some k_ ≠ (jC Fx Ax.length Gx).ownBlock ∧ k_ ≠ Ex ∧ k_ ≠ Dx)) (okp := (fun k_ => (Qx k_ ∨ w.heap.size ≤ k_) ∧ some k_ ≠ (jC Nx Cx.length Ox).ownBlock ∧ some k_ ≠ (jC Kx Bx.length Lx).ownBlock ∧ some k_ ≠ (jC Fx Ax.length Gx).ownBlock ∧ k_ ≠ Ex ∧ k_ ≠ Dx)) ?hr ?hp (fun _ hk => hk) ((show ∀ k_, w25.heap.size ≤ k_ → (fun k_ => (Qx k_ ∨ w.heap.size ≤ k_) ∧ some k_ ≠ (jC Nx Cx.length Ox).ownBlock ∧ some k_ ≠ (jC Kx Bx.length Lx).ownBlock ∧ some k_ ≠ (jC Fx Ax.length Gx).ownBlock ∧ k_ ≠ Ex ∧ k_ ≠ Dx) k_ from fun k_ hk => ⟨(.inr (Nat.le_trans (yB (by repeat (first | (with_reducible first | exact HB.out | apply uB | apply vB | apply wB | refine xB ?_ Rx.out | refine xB ?_ Vx.out) | exact HB.out))) hk)), Kd.fresh' (mA (by (with_reducible repeat (first | apply dA | apply hA | apply gA)); exact Mx.out)) k_ hk, Kd.fresh' (mA (by (with_reducible repeat (first | apply dA | apply hA | apply gA)); exact Ix.out)) k_ hk, Kd.fresh' (dB (by (with_reducible repeat (first | apply sA | apply xA | apply wA)); exact Hx.out)) k_ hk, Kd.freshB (g := Ex) (o := .cells #[.slice none 0 0, .slice none 0 0, .slice none 0 0] 79 (0, 0)) (by (with_reducible repeat (first | refine aC ?_ _ | refine bC ?_ | refine cC ?_ _)); exact Px.out) k_ hk, Kd.freshB (g := Dx) (o := .cells #[.slice Nx Cx.length Ox, .slice Kx Bx.length Lx, .slice Fx Ax.length Gx] 79 (0, 0)) (by (with_reducible repeat (first | refine aC ?_ _ | refine bC ?_ | refine cC ?_ _)); exact Jx.out) k_ hk⟩) _ (Nat.le_refl _)) (Below.refl _ _) (Nat.le_refl _) (by simp) ?_; (case hd => rfl); (case hg => rfl); (case hr => first | (go_simp; done) | (go_simp; rfl)); (case hp => exact (Reps.one (show Kd.FK (Kd.slice 3 (Kd.int .i64)) _ _ Tx [.slice Wx Tx.length Xx] from (aA (iB (eB (ok' := (fun k_ => (Qx k_ ∨ w.heap.size ≤ k_) ∧ some k_ ≠ (jC Nx Cx.length Ox).ownBlock ∧ some k_ ≠ (jC Kx Bx.length Lx).ownBlock ∧ some k_ ≠ (jC Fx Ax.length Gx).ownBlock ∧ k_ ≠ Ex ∧ k_ ≠ Dx)) (kB (kB (tA (tA (dx.out) (qA Mx.out) (by decide)) (qA Ix.out) (by decide)) Px.out (by decide)) Jx.out (by decide)) (fun k_ hk => ⟨(.inr (hk.1.1.1.1.1.1)), hk.1.1.1.2, hk.1.1.2, hk.1.1.1.1.2, hk.1.2, hk.2⟩))).2.1 (rA (eB (ok' := (fun k_ => (Qx k_ ∨ w.heap.size ≤ k_) ∧ some k_ ≠ (jC Nx Cx.length Ox).ownBlock ∧ some k_ ≠ (jC Kx Bx.length Lx).ownBlock ∧ some k_ ≠ (jC Fx Ax.length Gx).ownBlock ∧ k_ ≠ Ex ∧ k_ ≠ Dx)) (kB (kB (tA (tA (dx.out) (qA Mx.out) (by decide)) (qA Ix.out) (by decide)) Px.out (by decide)) Jx.out (by decide)) (fun k_ hk => ⟨(.inr (hk.1.1.1.1.1.1)), hk.1.1.1.2, hk.1.1.2, hk.1.1.1.1.2, hk.1.2, hk.2⟩))))) (Reps.none _ _)))
          intro cx w28 ho29 hb hg_ hnew_
          clear hg_ hnew_
          (first | rw [← Xy.out] at ho29 | (simp only [Int.reduceToNat] at ho29; rw [← Xy.out] at ho29))
          replace Zx := Aside0.mk (qB (by (with_reducible repeat (first | apply nB | apply pB | apply oB)); exact Zx.out) (fA ho29) hb)
          replace Mx := Aside0.mk (iA (by (with_reducible repeat (first | apply dA | apply hA | apply gA)); exact Mx.out) (fA ho29) hb)
          replace Ix := Aside0.mk (iA (by (with_reducible repeat (first | apply dA | apply hA | apply gA)); exact Ix.out) (fA ho29) hb)
          replace Hx := Aside0.mk (vA (by (with_reducible repeat (first | apply sA | apply xA | apply wA)); exact Hx.out) hb)
          replace Sx := Aside0.mk (qB (by (with_reducible repeat (first | apply nB | apply pB | apply oB)); exact Sx.out) (fA ho29) hb)
          have ix := Aside0.mk (lA ho29 (yB (by repeat (first | (with_reducible first | exact HB.out | apply uB | apply vB | apply wB | refine xB ?_ Rx.out | refine xB ?_ Vx.out) | exact HB.out))))
          replace Px := Aside0.mk (eC (g := Ex) (o := .cells #[.slice none 0 0, .slice none 0 0, .slice none 0 0] 79 (0, 0)) (by (with_reducible repeat (first | refine aC ?_ _ | refine bC ?_ | refine cC ?_ _)); exact Px.out) hb)
          replace Jx := Aside0.mk (eC (g := Dx) (o := .cells #[.slice Nx Cx.length Ox, .slice Kx Bx.length Lx, .slice Fx Ax.length Gx] 79 (0, 0)) (by (with_reducible repeat (first | refine aC ?_ _ | refine bC ?_ | refine cC ?_ _)); exact Jx.out) hb)
          replace HB := Aside0.mk (zB (by repeat (first | (with_reducible first | exact HB.out | apply uB | apply vB | apply wB | refine xB ?_ Rx.out | refine xB ?_ Vx.out) | exact HB.out)) hb)
          clear dx hb ho29
          refine hK.out _ _ ⟨(dC Jx.out 0).trans rfl, (dC Jx.out 1).trans rfl, (dC Jx.out 2).trans rfl⟩ (fun fx => ?_)
          clear hK K
          refine norm_ (a' := ?_) ?_ ?_
          rotate_left
          ·
           show Act.put _ (some 36) _ = _
           simp only [Act.put, gC, hC, iC, i64_w, i32_w]
           rfl
          exact norm_ (by first | (simp only [fC, Act.put, gC, hC, iC]; done) | (simp only [fC, Act.put, gC, hC, iC]; rfl)) (kz (cx) _ ⟨fx, (sB Sx.out (fun _ hk => ⟨hk.1.1, hk.2, hk.1.2.2.1, hk.1.2.2.2.1, hk.1.2.2.2.2.1, hk.1.2.2.2.2.2.1, hk.1.2.2.2.2.2.2⟩)), ix.out, (sB Zx.out (fun _ hk => ⟨hk.1.1.1, hk.2, hk.1.1.2.1, hk.1.1.2.2.1, hk.1.1.2.2.2.1, hk.1.1.2.2.2.2.1, hk.1.1.2.2.2.2.2⟩)), (nA Mx.out (fun _ hk => ⟨hk.1.1.1, hk.2, hk.1.1.2.1, hk.1.1.2.2.1, hk.1.1.2.2.2.1, hk.1.1.2.2.2.2⟩)), (nA Ix.out (fun _ hk => ⟨hk.1.1.1, hk.2, hk.1.1.2.1, hk.1.1.2.2.1, hk.1.1.2.2.2.1, hk.1.1.2.2.2.2⟩)), (eB Hx.out (fun _ hk => hk.1)), Px.out, Jx.out, (HB.out)⟩)
         ·
          skip
          refine bB (Kd.int .i64) _ 3 ?hg (N := 41) ?hd (xs := ([vx] : List Int)) (inner := [.int .i64 vx]) (ok := fun _ => True) (okp := fun _ => True) ?hr ?hp (fun _ hk => hk) trivial (Below.refl _ _) (Nat.le_refl _) (by simp) ?_; (case hd => rfl); (case hg => rfl); (case hr => first | (go_simp; done) | (go_simp; rfl)); (case hp => exact (Reps.one (show Kd.M (Kd.int .i64) _ _ _ vx [.int .i64 vx] from rfl) (Reps.none _ _)))
          intro Ux w28 ho29 hb hg_ hnew_
          clear hg_ hnew_
          (first | rw [← Uy.out] at ho29 | (simp only [Int.reduceToNat] at ho29; rw [← Uy.out] at ho29))
          replace Zx := Aside0.mk (qB (by (with_reducible repeat (first | apply nB | apply pB | apply oB)); exact Zx.out) (uA ho29) hb)
          replace Mx := Aside0.mk (iA (by (with_reducible repeat (first | apply dA | apply hA | apply gA)); exact Mx.out) (uA ho29) hb)
          replace Ix := Aside0.mk (iA (by (with_reducible repeat (first | apply dA | apply hA | apply gA)); exact Ix.out) (uA ho29) hb)
          replace Sx := Aside0.mk (qB (by (with_reducible repeat (first | apply nB | apply pB | apply oB)); exact Sx.out) (uA ho29) hb)
          have jx := Aside0.mk (cB (fB (fB (gB (M := fun k_ => (w.heap.size ≤ k_)) ho29 (yB (by repeat (first | (with_reducible first | exact HB.out | apply uB | apply vB | apply wB | refine xB ?_ Rx.out | refine xB ?_ Vx.out) | exact HB.out))) (fun k_ h_ => h_)) (dB (by (with_reducible repeat (first | apply sA | apply xA | apply wA)); exact Hx.out))) (dB (by (with_reducible repeat (first | apply sA | apply xA | apply wA)); exact dx.out))) (yB (by repeat (first | (with_reducible first | exact HB.out | apply uB | apply vB | apply wB | refine xB ?_ Rx.out | refine xB ?_ Vx.out) | exact HB.out))))
          replace Hx := Aside0.mk (yA (by (with_reducible repeat (first | apply sA | apply xA | apply wA)); exact Hx.out) (uA ho29) hb)
          replace dx := Aside0.mk (yA (by (with_reducible repeat (first | apply sA | apply xA | apply wA)); exact dx.out) (uA ho29) hb)
          replace Px := Aside0.mk (eC (g := Ex) (o := .cells #[.slice none 0 0, .slice none 0 0, .slice none 0 0] 79 (0, 0)) (by (with_reducible repeat (first | refine aC ?_ _ | refine bC ?_ | refine cC ?_ _)); exact Px.out) hb)
          replace Jx := Aside0.mk (eC (g := Dx) (o := .cells #[.slice Nx Cx.length Ox, .slice Kx Bx.length Lx, .slice Fx Ax.length Gx] 79 (0, 0)) (by (with_reducible repeat (first | refine aC ?_ _ | refine bC ?_ | refine cC ?_ _)); exact Jx.out) hb)
          replace HB := Aside0.mk (zB (by repeat (first | (with_reducible first | exact HB.out | apply uB | apply vB | apply wB | refine xB ?_ Rx.out | refine xB ?_ Vx.out) | exact HB.out)) hb)
          clear hb ho29
          refine hK.out _ _ ⟨(dC Jx.out 0).trans rfl, (dC Jx.out 1).trans rfl, (dC Jx.out 2).trans rfl⟩ (fun fx => ?_)
          clear hK K
          refine norm_ (a' := ?_) ?_ ?_
          rotate_left
          ·
           show Act.put _ (some 41) _ = _
           simp only [Act.put, gC, hC, iC, i64_w, i32_w]
           rfl
          exact norm_ (by first | (simp only [fC, Act.put, gC, hC, iC]; done) | (simp only [fC, Act.put, gC, hC, iC]; rfl)) (iz (Ux) _ ⟨fx, (sB Sx.out (fun _ hk => ⟨hk.1.1, hk.1.2.1, hk.2, hk.1.2.2.1, hk.1.2.2.2.1, hk.1.2.2.2.2.1, hk.1.2.2.2.2.2.1, hk.1.2.2.2.2.2.2⟩)), (eB dx.out (fun _ hk => ⟨hk.1.1.1, hk.2, hk.1.2⟩)), (eB jx.out (fun _ hk => ⟨hk.1.1.1, hk.2, hk.1.2⟩)), (sB Zx.out (fun _ hk => ⟨hk.1.1.1, hk.1.2, hk.2, hk.1.1.2.1, hk.1.1.2.2.1, hk.1.1.2.2.2.1, hk.1.1.2.2.2.2.1, hk.1.1.2.2.2.2.2⟩)), (nA Mx.out (fun _ hk => ⟨hk.1.1.1, hk.1.2, hk.2, hk.1.1.2.1, hk.1.1.2.2.1, hk.1.1.2.2.2.1, hk.1.1.2.2.2.2⟩)), (nA Ix.out (fun _ hk => ⟨hk.1.1.1, hk.1.2, hk.2, hk.1.1.2.1, hk.1.1.2.2.1, hk.1.1.2.2.2.1, hk.1.1.2.2.2.2⟩)), (eB Hx.out (fun _ hk => ⟨hk.1.1, hk.1.2, hk.2⟩)), Px.out, Jx.out, (HB.out)⟩)
         ·
          skip
          rintro ⟨bx, ex, cx, Ty, Ux⟩ w38 ⟨hS_, Ey, Fy, Gy, Hy, Iy, Jy, Ky, Ly, My, Qy, cy⟩
          have px : Aside0 (Kd.U k59 59 w38 w.heap.size (fun k_ => (Qx k_ ∨ w.heap.size ≤ k_) ∧ some k_ ≠ (bx : Value).ownBlock ∧ some k_ ≠ (ex : Value).ownBlock ∧ some k_ ≠ (cx : Value).ownBlock ∧ some k_ ≠ (Ty : Value).ownBlock ∧ some k_ ≠ (Ux : Value).ownBlock ∧ some k_ ≠ (jC Fx Ax.length Gx).ownBlock ∧ k_ ≠ Ex ∧ k_ ≠ Dx) (.slice xx gx.length yx) gx) := ⟨Ey⟩
          have qx : Aside0 (Kd.N (Kd.os 59 k59 w.heap.size) 29 w38 w.heap.size (fun k_ => (Qx k_ ∨ w.heap.size ≤ k_) ∧ some k_ ≠ (ex : Value).ownBlock ∧ some k_ ≠ (cx : Value).ownBlock ∧ some k_ ≠ (Ty : Value).ownBlock ∧ some k_ ≠ (Ux : Value).ownBlock ∧ some k_ ≠ (jC Fx Ax.length Gx).ownBlock ∧ k_ ≠ Ex ∧ k_ ≠ Dx) bx kx) := ⟨Fy⟩
          have rx : Aside0 (Kd.N (Kd.os 59 k59 w.heap.size) 29 w38 w.heap.size (fun k_ => (Qx k_ ∨ w.heap.size ≤ k_) ∧ some k_ ≠ (cx : Value).ownBlock ∧ some k_ ≠ (Ty : Value).ownBlock ∧ some k_ ≠ (Ux : Value).ownBlock ∧ some k_ ≠ (jC Fx Ax.length Gx).ownBlock ∧ k_ ≠ Ex ∧ k_ ≠ Dx) ex Sy) := ⟨Gy⟩
          have sx : Aside0 (Kd.N (Kd.slice 3 (Kd.int .i64)) 22 w38 w.heap.size (fun k_ => (Qx k_ ∨ w.heap.size ≤ k_) ∧ some k_ ≠ (bx : Value).ownBlock ∧ some k_ ≠ (ex : Value).ownBlock ∧ some k_ ≠ (Ty : Value).ownBlock ∧ some k_ ≠ (Ux : Value).ownBlock ∧ some k_ ≠ (jC Fx Ax.length Gx).ownBlock ∧ k_ ≠ Ex ∧ k_ ≠ Dx) cx nx) := ⟨Hy⟩
          have tx : Aside0 (Kd.N (Kd.slice 3 (Kd.int .i64)) 22 w38 w.heap.size (fun k_ => (Qx k_ ∨ w.heap.size ≤ k_) ∧ some k_ ≠ (bx : Value).ownBlock ∧ some k_ ≠ (ex : Value).ownBlock ∧ some k_ ≠ (Ux : Value).ownBlock ∧ some k_ ≠ (jC Fx Ax.length Gx).ownBlock ∧ k_ ≠ Ex ∧ k_ ≠ Dx) Ty Zy) := ⟨Iy⟩
          have zx : Aside0 (Kd.R (Kd.int .i64) 3 w38 w.heap.size (fun k_ => (w.heap.size ≤ k_) ∧ some k_ ≠ (jC Fx Ax.length Gx).ownBlock) Ux ox) := ⟨Jy⟩
          have Ay : Aside0 (Kd.U k59 59 w38 w.heap.size (fun k_ => (Qx k_ ∨ w.heap.size ≤ k_) ∧ some k_ ≠ (bx : Value).ownBlock ∧ some k_ ≠ (ex : Value).ownBlock ∧ some k_ ≠ (cx : Value).ownBlock ∧ some k_ ≠ (Ty : Value).ownBlock ∧ some k_ ≠ (Ux : Value).ownBlock ∧ some k_ ≠ (jC Fx Ax.length Gx).ownBlock ∧ k_ ≠ Ex ∧ k_ ≠ Dx) (.slice Ny mx.length Oy) mx) := ⟨Ky⟩
          have By : Aside0 (Kd.R (Kd.int .i64) 3 w38 w.heap.size (fun k_ => (w.heap.size ≤ k_) ∧ some k_ ≠ (Ux : Value).ownBlock) (.slice Fx Ax.length Gx) Ax) := ⟨Ly⟩
          have Cy : Aside0 (w38.heap[Ex]? = some (.cells #[.slice none 0 0, .slice none 0 0, .slice none 0 0] 79 (0, 0))) := ⟨My⟩
          have Ry : Aside0 (w38.heap[Dx]? = some (.cells #[.slice Nx Cx.length Ox, .slice Kx Bx.length Lx, .slice Fx Ax.length Gx] 79 (0, 0))) := ⟨Qy⟩
          have dy : Aside0 (Below w.heap.size w w38) := ⟨cy⟩
          clear Zx Mx Ix Hx Sx dx Px Jx HB Ey Fy Gy Hy Iy Jy Ky Ly My Qy cy
          have Sx := px
          have Yx := qx
          have lx := rx
          have ix := sx
          have Yy := tx
          have jx := zx
          have Zx := Ay
          have Hx := By
          have Px := Cy
          have Jx := Ry
          have HB := dy
          clear px qx rx sx tx zx Ay By Cy Ry dy
          have fx : w38.cell? ⟨Dx, 0, none⟩ = some (.slice Nx Cx.length Ox) ∧ w38.cell? ⟨Dx, 1, none⟩ = some (.slice Kx Bx.length Lx) ∧ w38.cell? ⟨Dx, 2, none⟩ = some (.slice Fx Ax.length Gx) := hS_
          obtain ⟨sy, ty, eo40⟩ := jB jx.out
          (first | subst eo40 | (injection eo40 with f1_ f2_ f3_; have f4_ := f1_.symm; have f5_ := f3_.symm; clear f1_ f2_ f3_; subst f4_; subst f5_))
          refine norm_ (a' := ?_) ?_ ?_
          rotate_left
          ·
           simp only [fC, Act.put, gC, hC, iC]
           rfl
          refine one_ (i := 14) (N := some 42) #[kC, kC, kC, kC, kC, kC, kC, kC, kC, kC, kC, kC, kC, kC, kC, kC, lC, lC, lC, lC, lC] rfl rfl (one_of HT_.out (by kernel_rfl)) (by decide) (fun K hK => ?_)
          refine Kd.R_append_rows_step (Kd.int .i64) (w0 := w) w.heap.size (by rfl) (.tmp 39) (.tmp 41) 22 3 (.int .i64 0) 8 rfl Try.underlying22 info3 rfl (by decide) (by omega) (.slice Fx Ax.length Gx) Ax ox _ _ _ (fun k_ => (w.heap.size ≤ k_) ∧ some k_ ≠ (jC sy ox.length ty).ownBlock) (fun _ => False) rfl rfl ?aO ?aR (fun _ _ h => h) (fun _ h => h.elim) ?aF ?aB ?aS ?aL ?_
          (case aR => repeat (first | exact (iB jx.out).2.2 | (with_reducible refine Kd.C_alloc ?_ _) | (with_reducible refine Kd.C_drewN ?_ _) | (with_reducible refine Kd.C_drew ?_)))
          (case aB => exact (by repeat (first | (with_reducible first | exact HB.out | apply uB | apply vB | apply wB | refine xB ?_ Rx.out | refine xB ?_ Vx.out) | exact HB.out)))
          (case aF => exact (fun k_ hk => ⟨(Nat.le_trans (yB (by repeat (first | (with_reducible first | exact HB.out | apply uB | apply vB | apply wB | refine xB ?_ Rx.out | refine xB ?_ Vx.out) | exact HB.out))) hk), Kd.fresh' (dB (by (with_reducible repeat (first | apply sA | apply xA | apply wA)); exact jx.out)) k_ hk⟩))
          (case aO => exact (by (with_reducible repeat (first | apply sA | apply xA | apply wA)); exact Hx.out))
          (case aS => exact (yB (by repeat (first | (with_reducible first | exact HB.out | apply uB | apply vB | apply wB | refine xB ?_ Rx.out | refine xB ?_ Vx.out) | exact HB.out))))
          (case aL => have := bz.out; omega)
          intro qz w39 ho hb hg hat
          rw [← cz.out] at ho
          replace Zx := Aside0.mk (mB (ok := (fun k_ => (Qx k_ ∨ w.heap.size ≤ k_) ∧ some k_ ≠ (bx : Value).ownBlock ∧ some k_ ≠ (ex : Value).ownBlock ∧ some k_ ≠ (cx : Value).ownBlock ∧ some k_ ≠ (Ty : Value).ownBlock ∧ some k_ ≠ (jC sy ox.length ty).ownBlock ∧ k_ ≠ Ex ∧ k_ ≠ Dx)) (by (with_reducible repeat (first | apply nB | apply pB | apply oB)); exact sB Zx.out (fun _ hk => ⟨⟨hk.1, hk.2.1, hk.2.2.1, hk.2.2.2.1, hk.2.2.2.2.1, hk.2.2.2.2.2.1, hk.2.2.2.2.2.2.2.1, hk.2.2.2.2.2.2.2.2⟩, hk.2.2.2.2.2.2.1⟩)) hg hat)
          replace Px := Aside0.mk (blk_grown (g := Ex) (o := .cells #[.slice none 0 0, .slice none 0 0, .slice none 0 0] 79 (0, 0)) (by (with_reducible repeat (first | refine aC ?_ _ | refine bC ?_ | refine cC ?_ _)); exact Px.out) hg (Kd.R_ne Hx.out Px.out (by decide)))
          replace Jx := Aside0.mk (blk_grown (g := Dx) (o := .cells #[.slice Nx Cx.length Ox, .slice Kx Bx.length Lx, .slice Fx Ax.length Gx] 79 (0, 0)) (by (with_reducible repeat (first | refine aC ?_ _ | refine bC ?_ | refine cC ?_ _)); exact Jx.out) hg (Kd.R_ne Hx.out Jx.out (by decide)))
          replace Sx := Aside0.mk (mB (ok := (fun k_ => (Qx k_ ∨ w.heap.size ≤ k_) ∧ some k_ ≠ (bx : Value).ownBlock ∧ some k_ ≠ (ex : Value).ownBlock ∧ some k_ ≠ (cx : Value).ownBlock ∧ some k_ ≠ (Ty : Value).ownBlock ∧ some k_ ≠ (jC sy ox.length ty).ownBlock ∧ k_ ≠ Ex ∧ k_ ≠ Dx)) (by (with_reducible repeat (first | apply nB | apply pB | apply oB)); exact sB Sx.out (fun _ hk => ⟨⟨hk.1, hk.2.1, hk.2.2.1, hk.2.2.2.1, hk.2.2.2.2.1, hk.2.2.2.2.2.1, hk.2.2.2.2.2.2.2.1, hk.2.2.2.2.2.2.2.2⟩, hk.2.2.2.2.2.2.1⟩)) hg hat)
          replace Yx := Aside0.mk (cA (ok := (fun k_ => (Qx k_ ∨ w.heap.size ≤ k_) ∧ some k_ ≠ (ex : Value).ownBlock ∧ some k_ ≠ (cx : Value).ownBlock ∧ some k_ ≠ (Ty : Value).ownBlock ∧ some k_ ≠ (jC sy ox.length ty).ownBlock ∧ k_ ≠ Ex ∧ k_ ≠ Dx)) (by (with_reducible repeat (first | apply dA | apply hA | apply gA)); exact nA Yx.out (fun _ hk => ⟨⟨hk.1, hk.2.1, hk.2.2.1, hk.2.2.2.1, hk.2.2.2.2.1, hk.2.2.2.2.2.2.1, hk.2.2.2.2.2.2.2⟩, hk.2.2.2.2.2.1⟩)) hg hat)
          replace lx := Aside0.mk (cA (ok := (fun k_ => (Qx k_ ∨ w.heap.size ≤ k_) ∧ some k_ ≠ (cx : Value).ownBlock ∧ some k_ ≠ (Ty : Value).ownBlock ∧ some k_ ≠ (jC sy ox.length ty).ownBlock ∧ k_ ≠ Ex ∧ k_ ≠ Dx)) (by (with_reducible repeat (first | apply dA | apply hA | apply gA)); exact nA lx.out (fun _ hk => ⟨⟨hk.1, hk.2.1, hk.2.2.1, hk.2.2.2.1, hk.2.2.2.2.2.1, hk.2.2.2.2.2.2⟩, hk.2.2.2.2.1⟩)) hg hat)
          replace ix := Aside0.mk (cA (ok := (fun k_ => (Qx k_ ∨ w.heap.size ≤ k_) ∧ some k_ ≠ (bx : Value).ownBlock ∧ some k_ ≠ (ex : Value).ownBlock ∧ some k_ ≠ (Ty : Value).ownBlock ∧ some k_ ≠ (jC sy ox.length ty).ownBlock ∧ k_ ≠ Ex ∧ k_ ≠ Dx)) (by (with_reducible repeat (first | apply dA | apply hA | apply gA)); exact nA ix.out (fun _ hk => ⟨⟨hk.1, hk.2.1, hk.2.2.1, hk.2.2.2.1, hk.2.2.2.2.1, hk.2.2.2.2.2.2.1, hk.2.2.2.2.2.2.2⟩, hk.2.2.2.2.2.1⟩)) hg hat)
          replace Yy := Aside0.mk (cA (ok := (fun k_ => (Qx k_ ∨ w.heap.size ≤ k_) ∧ some k_ ≠ (bx : Value).ownBlock ∧ some k_ ≠ (ex : Value).ownBlock ∧ some k_ ≠ (jC sy ox.length ty).ownBlock ∧ k_ ≠ Ex ∧ k_ ≠ Dx)) (by (with_reducible repeat (first | apply dA | apply hA | apply gA)); exact nA Yy.out (fun _ hk => ⟨⟨hk.1, hk.2.1, hk.2.2.1, hk.2.2.2.1, hk.2.2.2.2.2.1, hk.2.2.2.2.2.2⟩, hk.2.2.2.2.1⟩)) hg hat)
          replace jx := Aside0.mk (Kd.R_after (ok := (fun k_ => (w.heap.size ≤ k_))) (by (with_reducible repeat (first | apply sA | apply xA | apply wA)); exact jx.out) hg hat)
          replace HB := Aside0.mk (hb)
          have Zz := Aside0.mk (ho)
          clear Hx ho hb hg hat
          obtain ⟨vy, xy, eo41⟩ := pA lx.out
          (first | subst eo41 | (injection eo41 with f1_ f2_ f3_; have f4_ := f1_.symm; have f5_ := f3_.symm; clear f1_ f2_ f3_; subst f4_; subst f5_))
          obtain ⟨zy, Az, eo43⟩ := pA Yy.out
          (first | subst eo43 | (injection eo43 with f1_ f2_ f3_; have f4_ := f1_.symm; have f5_ := f3_.symm; clear f1_ f2_ f3_; subst f4_; subst f5_))
          obtain ⟨Hz, Iz, eo45⟩ := jB Zz.out
          (first | subst eo45 | (injection eo45 with f1_ f2_ f3_; have f4_ := f1_.symm; have f5_ := f3_.symm; clear f1_ f2_ f3_; subst f4_; subst f5_))
          refine hK.out _ _ ⟨(dC Jx.out 0).trans rfl, (dC Jx.out 1).trans rfl, (dC Jx.out 2).trans rfl⟩ (fun fx => ?_)
          clear hK K
          refine norm_ (a' := ?_) ?_ ?_
          rotate_left
          ·
           show Act.put _ (some 42) _ = _
           simp only [Act.put, gC, hC, iC, i64_w, i32_w]
           rfl
          refine last_ (i := 16) (N := none) #[kC, kC, kC, kC, kC, kC, kC, kC, kC, kC, kC, kC, kC, kC, kC, kC, kC, lC, lC, lC, lC] rfl rfl (one_of HT_.out (by kernel_rfl)) (by decide) (fun K hK => ?_)
          have hs42 : w39.cell? ⟨Dx, 0, none⟩ = some (.slice Nx Cx.length Ox) := (dC Jx.out 0).trans rfl
          have hfs42 := blk_frozen Jx.out 0
          have hns42_0 := Py.out
          have hms42_0 := ey.out
          refine skip_ (w1 := ?_) (by rfl) rfl ?_ ?_
          rotate_left
          ·
           go_simp
           rfl
          refine hK.out _ _ ?_
          clear hK K
          refine pure_ (i := 17) (N := some 44) (v := ?_) (a' := ?_) #[kC, kC, kC, kC, kC, kC, kC, kC, kC, kC, kC, kC, kC, kC, kC, kC, kC, kC, lC, lC, lC] rfl rfl (any_of HT_.out (by kernel_rfl)) (fun _ _ _ h => h) (Or.inl ⟨by rfl, ?_⟩) ?_ ?_
          rotate_left
          ·
           intro w'
           go_simp
           with_reducible rfl
          rotate_left
          ·
           simp only [Act.put, gC, hC, iC, i64_w, i32_w]
           rfl
          refine last_ (i := 18) (N := none) #[kC, kC, kC, kC, kC, kC, kC, kC, kC, kC, kC, kC, kC, kC, kC, kC, kC, kC, kC, lC, lC] rfl rfl (one_of HT_.out (by kernel_rfl)) (by decide) (fun K hK => ?_)
          have hs44 : w39.cell? ⟨Dx, 1, none⟩ = some (.slice Kx Bx.length Lx) := (dC Jx.out 1).trans rfl
          have hfs44 := blk_frozen Jx.out 1
          have hns44_0 := Py.out
          have hms44_0 := ey.out
          refine skip_ (w1 := ?_) (by rfl) rfl ?_ ?_
          rotate_left
          ·
           go_simp
           rfl
          refine hK.out _ _ ?_
          clear hK K
          refine pure_ (i := 19) (N := some 45) (v := ?_) (a' := ?_) #[kC, kC, kC, kC, kC, kC, kC, kC, kC, kC, kC, kC, kC, kC, kC, kC, kC, kC, kC, kC, lC] rfl rfl (any_of HT_.out (by kernel_rfl)) (fun _ _ _ h => h) (Or.inl ⟨by rfl, ?_⟩) ?_ ?_
          rotate_left
          ·
           intro w'
           go_simp
           with_reducible rfl
          rotate_left
          ·
           simp only [Act.put, gC, hC, iC, i64_w, i32_w]
           rfl
          refine last_ (i := 20) (N := none) #[kC, kC, kC, kC, kC, kC, kC, kC, kC, kC, kC, kC, kC, kC, kC, kC, kC, kC, kC, kC, kC] rfl rfl (one_of HT_.out (by kernel_rfl)) (by decide) (fun K hK => ?_)
          have hs46 : w39.cell? ⟨Dx, 2, none⟩ = some (.slice Fx Ax.length Gx) := (dC Jx.out 2).trans rfl
          have hfs46 := blk_frozen Jx.out 2
          have hns46_0 := Py.out
          have hms46_0 := ey.out
          refine skip_ (w1 := ?_) (by rfl) rfl ?_ ?_
          rotate_left
          ·
           go_simp
           rfl
          refine hK.out _ _ ?_
          clear hK K
          refine done_ (done_of HT_.out (by kernel_rfl)) ?_
          try go_wp2
          go_roundg k1
          case measure => have := HK1.out; omega
          case rel => exact ⟨(gx), (wrap64 (Dy + 1)), (Sy), (Zy), (qy), (.slice vy Sy.length xy), (.slice zy Zy.length Az), (.slice Hz qy.length Iz), (by first | rfl | (simp; done) | (simp [*]; done)), H', ⟨by have := HK1.out; omega⟩, ⟨by (with_reducible repeat (first | apply nB | apply pB | apply oB)); exact sB (rB (p := ⟨Dx, 2, none⟩) (rB (p := ⟨Dx, 1, none⟩) (rB (p := ⟨Dx, 0, none⟩) (sB Sx.out (fun k_ hk => (⟨hk, hk.1.2.2.2.2.2.2.2⟩ : _ ∧ k_ ≠ Dx))) (fun _ hk => hk.2) (.slice vy Sy.length xy)) (fun _ hk => hk.2) (.slice zy Zy.length Az)) (fun _ hk => hk.2) (.slice Hz qy.length Iz)) (fun _ hk => ⟨hk.1.1.1, hk.1.1.2.2.1, hk.1.1.2.2.2.2.1, hk.1.2, hk.1.1.2.2.2.2.2.2.1, hk.1.1.2.2.2.2.2.2.2⟩)⟩, ⟨by (with_reducible repeat (first | apply dA | apply hA | apply gA)); exact nA (jA (p := ⟨Dx, 2, none⟩) (jA (p := ⟨Dx, 1, none⟩) (jA (p := ⟨Dx, 0, none⟩) (nA lx.out (fun k_ hk => (⟨hk, hk.1.2.2.2.2.2⟩ : _ ∧ k_ ≠ Dx))) (fun _ hk => hk.2) (.slice vy Sy.length xy)) (fun _ hk => hk.2) (.slice zy Zy.length Az)) (fun _ hk => hk.2) (.slice Hz qy.length Iz)) (fun _ hk => ⟨hk.1.1.1, hk.1.1.2.2.1, hk.1.2, hk.1.1.2.2.2.2.1, hk.1.1.2.2.2.2.2⟩)⟩, ⟨by (with_reducible repeat (first | apply dA | apply hA | apply gA)); exact nA (jA (p := ⟨Dx, 2, none⟩) (jA (p := ⟨Dx, 1, none⟩) (jA (p := ⟨Dx, 0, none⟩) (nA Yy.out (fun k_ hk => (⟨hk, hk.1.2.2.2.2.2⟩ : _ ∧ k_ ≠ Dx))) (fun _ hk => hk.2) (.slice vy Sy.length xy)) (fun _ hk => hk.2) (.slice zy Zy.length Az)) (fun _ hk => hk.2) (.slice Hz qy.length Iz)) (fun _ hk => ⟨hk.1.1.1, hk.1.1.2.2.1, hk.1.2, hk.1.1.2.2.2.2.1, hk.1.1.2.2.2.2.2⟩)⟩, ⟨by (with_reducible repeat (first | apply sA | apply xA | apply wA)); exact eB (zA (p := ⟨Dx, 2, none⟩) (zA (p := ⟨Dx, 1, none⟩) (zA (p := ⟨Dx, 0, none⟩) (kB Zz.out Jx.out (by decide)) (fun _ hk => hk.2) (.slice vy Sy.length xy)) (fun _ hk => hk.2) (.slice zy Zy.length Az)) (fun _ hk => hk.2) (.slice Hz qy.length Iz)) (fun _ hk => hk.1.1)⟩, ⟨by (with_reducible repeat (first | refine aC ?_ _ | refine bC ?_ | refine cC ?_ _)); refine blk_far ?_ Py.out _; (with_reducible repeat (first | refine aC ?_ _ | refine bC ?_ | refine cC ?_ _)); refine blk_far ?_ Py.out _; (with_reducible repeat (first | refine aC ?_ _ | refine bC ?_ | refine cC ?_ _)); refine blk_far ?_ Py.out _; (with_reducible repeat (first | refine aC ?_ _ | refine bC ?_ | refine cC ?_ _)); exact Px.out⟩, ⟨by (with_reducible repeat (first | refine aC ?_ _ | refine bC ?_ | refine cC ?_ _)); refine blk_put (cs := #[.slice vy Sy.length xy, .slice zy Zy.length Az, .slice Fx Ax.length Gx]) ?_ 2 _ rfl; (with_reducible repeat (first | refine aC ?_ _ | refine bC ?_ | refine cC ?_ _)); refine blk_put (cs := #[.slice vy Sy.length xy, .slice Kx Bx.length Lx, .slice Fx Ax.length Gx]) ?_ 1 _ rfl; (with_reducible repeat (first | refine aC ?_ _ | refine bC ?_ | refine cC ?_ _)); refine blk_put (cs := #[.slice Nx Cx.length Ox, .slice Kx Bx.length Lx, .slice Fx Ax.length Gx]) ?_ 0 _ rfl; (with_reducible repeat (first | refine aC ?_ _ | refine bC ?_ | refine cC ?_ _)); exact Jx.out⟩, ⟨by repeat (first | (with_reducible first | exact HB.out | apply uB | apply vB | apply wB | refine xB ?_ Rx.out | refine xB ?_ Vx.out) | exact HB.out)⟩⟩
         ·
          skip
          rintro ⟨bx, ex, cx, Ty⟩ w36 ⟨hS_, Ey, Fy, Gy, Hy, Iy, Jy, Ky, Ly, My, Qy⟩
          have px : Aside0 (Kd.U k59 59 w36 w.heap.size (fun k_ => (Qx k_ ∨ w.heap.size ≤ k_) ∧ some k_ ≠ (bx : Value).ownBlock ∧ some k_ ≠ (ex : Value).ownBlock ∧ some k_ ≠ (cx : Value).ownBlock ∧ some k_ ≠ (Ty : Value).ownBlock ∧ some k_ ≠ (jC Fx Ax.length Gx).ownBlock ∧ k_ ≠ Ex ∧ k_ ≠ Dx) (.slice xx gx.length yx) gx) := ⟨Ey⟩
          have qx : Aside0 (Kd.N (Kd.os 59 k59 w.heap.size) 29 w36 w.heap.size (fun k_ => (Qx k_ ∨ w.heap.size ≤ k_) ∧ some k_ ≠ (ex : Value).ownBlock ∧ some k_ ≠ (cx : Value).ownBlock ∧ some k_ ≠ (Ty : Value).ownBlock ∧ some k_ ≠ (jC Fx Ax.length Gx).ownBlock ∧ k_ ≠ Ex ∧ k_ ≠ Dx) bx kx) := ⟨Fy⟩
          have rx : Aside0 (Kd.N (Kd.os 59 k59 w.heap.size) 29 w36 w.heap.size (fun k_ => (Qx k_ ∨ w.heap.size ≤ k_) ∧ some k_ ≠ (cx : Value).ownBlock ∧ some k_ ≠ (Ty : Value).ownBlock ∧ some k_ ≠ (jC Fx Ax.length Gx).ownBlock ∧ k_ ≠ Ex ∧ k_ ≠ Dx) ex Sy) := ⟨Gy⟩
          have sx : Aside0 (Kd.N (Kd.slice 3 (Kd.int .i64)) 22 w36 w.heap.size (fun k_ => (Qx k_ ∨ w.heap.size ≤ k_) ∧ some k_ ≠ (bx : Value).ownBlock ∧ some k_ ≠ (ex : Value).ownBlock ∧ some k_ ≠ (Ty : Value).ownBlock ∧ some k_ ≠ (jC Fx Ax.length Gx).ownBlock ∧ k_ ≠ Ex ∧ k_ ≠ Dx) cx nx) := ⟨Hy⟩
          have tx : Aside0 (Kd.N (Kd.slice 3 (Kd.int .i64)) 22 w36 w.heap.size (fun k_ => (Qx k_ ∨ w.heap.size ≤ k_) ∧ some k_ ≠ (bx : Value).ownBlock ∧ some k_ ≠ (ex : Value).ownBlock ∧ some k_ ≠ (jC Fx Ax.length Gx).ownBlock ∧ k_ ≠ Ex ∧ k_ ≠ Dx) Ty Zy) := ⟨Iy⟩
          have zx : Aside0 (Kd.U k59 59 w36 w.heap.size (fun k_ => (Qx k_ ∨ w.heap.size ≤ k_) ∧ some k_ ≠ (bx : Value).ownBlock ∧ some k_ ≠ (ex : Value).ownBlock ∧ some k_ ≠ (cx : Value).ownBlock ∧ some k_ ≠ (Ty : Value).ownBlock ∧ some k_ ≠ (jC Fx Ax.length Gx).ownBlock ∧ k_ ≠ Ex ∧ k_ ≠ Dx) (.slice Ny mx.length Oy) mx) := ⟨Jy⟩
          have Ay : Aside0 (Kd.R (Kd.int .i64) 3 w36 w.heap.size (fun k_ => (w.heap.size ≤ k_)) (.slice Fx Ax.length Gx) Ax) := ⟨Ky⟩
          have By : Aside0 (w36.heap[Ex]? = some (.cells #[.slice none 0 0, .slice none 0 0, .slice none 0 0] 79 (0, 0))) := ⟨Ly⟩
          have Cy : Aside0 (w36.heap[Dx]? = some (.cells #[.slice Nx Cx.length Ox, .slice Kx Bx.length Lx, .slice Fx Ax.length Gx] 79 (0, 0))) := ⟨My⟩
          have Ry : Aside0 (Below w.heap.size w w36) := ⟨Qy⟩
          clear Zx Mx Ix Hx Sx dx Px Jx HB Ey Fy Gy Hy Iy Jy Ky Ly My Qy
          have Sx := px
          have Yx := qx
          have lx := rx
          have ix := sx
          have Yy := tx
          have Zx := zx
          have Hx := Ay
          have Px := By
          have Jx := Cy
          have HB := Ry
          clear px qx rx sx tx zx Ay By Cy Ry
          have fx : w36.cell? ⟨Dx, 0, none⟩ = some (.slice Nx Cx.length Ox) ∧ w36.cell? ⟨Dx, 1, none⟩ = some (.slice Kx Bx.length Lx) ∧ w36.cell? ⟨Dx, 2, none⟩ = some (.slice Fx Ax.length Gx) := hS_
          refine norm_ (a' := ?_) ?_ ?_
          rotate_left
          ·
           simp only [fC, Act.put, gC, hC, iC]
           rfl
          refine one_ (i := 13) (N := some 41) #[kC, kC, kC, kC, kC, kC, kC, kC, kC, kC, kC, kC, kC, kC, lC, kC, lC, lC, lC, lC, lC] rfl rfl (one_of HT_.out (by kernel_rfl)) (by decide) (fun K hK => ?_)
          refine bB (Kd.int .i64) _ 3 ?hg (N := 41) ?hd (xs := ([vx] : List Int)) (inner := [.int .i64 vx]) (ok := fun _ => True) (okp := fun _ => True) ?hr ?hp (fun _ hk => hk) trivial (Below.refl _ _) (Nat.le_refl _) (by simp) ?_; (case hd => rfl); (case hg => rfl); (case hr => first | (go_simp; done) | (go_simp; rfl)); (case hp => exact (Reps.one (show Kd.M (Kd.int .i64) _ _ _ vx [.int .i64 vx] from rfl) (Reps.none _ _)))
          intro Ux w37 ho38 hb hg_ hnew_
          clear hg_ hnew_
          (first | rw [← Uy.out] at ho38 | (simp only [Int.reduceToNat] at ho38; rw [← Uy.out] at ho38))
          replace Zx := Aside0.mk (qB (by (with_reducible repeat (first | apply nB | apply pB | apply oB)); exact Zx.out) (uA ho38) hb)
          replace Sx := Aside0.mk (qB (by (with_reducible repeat (first | apply nB | apply pB | apply oB)); exact Sx.out) (uA ho38) hb)
          replace Yx := Aside0.mk (iA (by (with_reducible repeat (first | apply dA | apply hA | apply gA)); exact Yx.out) (uA ho38) hb)
          replace lx := Aside0.mk (iA (by (with_reducible repeat (first | apply dA | apply hA | apply gA)); exact lx.out) (uA ho38) hb)
          replace ix := Aside0.mk (iA (by (with_reducible repeat (first | apply dA | apply hA | apply gA)); exact ix.out) (uA ho38) hb)
          replace Yy := Aside0.mk (iA (by (with_reducible repeat (first | apply dA | apply hA | apply gA)); exact Yy.out) (uA ho38) hb)
          have jx := Aside0.mk (cB (fB (gB (M := fun k_ => (w.heap.size ≤ k_)) ho38 (yB (by repeat (first | (with_reducible first | exact HB.out | apply uB | apply vB | apply wB | refine xB ?_ Rx.out | refine xB ?_ Vx.out) | exact HB.out))) (fun k_ h_ => h_)) (dB (by (with_reducible repeat (first | apply sA | apply xA | apply wA)); exact Hx.out))) (yB (by repeat (first | (with_reducible first | exact HB.out | apply uB | apply vB | apply wB | refine xB ?_ Rx.out | refine xB ?_ Vx.out) | exact HB.out))))
          replace Hx := Aside0.mk (yA (by (with_reducible repeat (first | apply sA | apply xA | apply wA)); exact Hx.out) (uA ho38) hb)
          replace Px := Aside0.mk (eC (g := Ex) (o := .cells #[.slice none 0 0, .slice none 0 0, .slice none 0 0] 79 (0, 0)) (by (with_reducible repeat (first | refine aC ?_ _ | refine bC ?_ | refine cC ?_ _)); exact Px.out) hb)
          replace Jx := Aside0.mk (eC (g := Dx) (o := .cells #[.slice Nx Cx.length Ox, .slice Kx Bx.length Lx, .slice Fx Ax.length Gx] 79 (0, 0)) (by (with_reducible repeat (first | refine aC ?_ _ | refine bC ?_ | refine cC ?_ _)); exact Jx.out) hb)
          replace HB := Aside0.mk (zB (by repeat (first | (with_reducible first | exact HB.out | apply uB | apply vB | apply wB | refine xB ?_ Rx.out | refine xB ?_ Vx.out) | exact HB.out)) hb)
          clear hb ho38
          refine hK.out _ _ ⟨(dC Jx.out 0).trans rfl, (dC Jx.out 1).trans rfl, (dC Jx.out 2).trans rfl⟩ (fun fx => ?_)
          clear hK K
          refine norm_ (a' := ?_) ?_ ?_
          rotate_left
          ·
           show Act.put _ (some 41) _ = _
           simp only [Act.put, gC, hC, iC, i64_w, i32_w]
           rfl
          exact norm_ (by first | (simp only [fC, Act.put, gC, hC, iC]; done) | (simp only [fC, Act.put, gC, hC, iC]; rfl)) (oy (bx, ex, cx, Ty, Ux) _ ⟨fx, (sB Sx.out (fun _ hk => ⟨hk.1.1, hk.1.2.1, hk.1.2.2.1, hk.1.2.2.2.1, hk.1.2.2.2.2.1, hk.2, hk.1.2.2.2.2.2.1, hk.1.2.2.2.2.2.2.1, hk.1.2.2.2.2.2.2.2⟩)), (nA Yx.out (fun _ hk => ⟨hk.1.1, hk.1.2.1, hk.1.2.2.1, hk.1.2.2.2.1, hk.2, hk.1.2.2.2.2.1, hk.1.2.2.2.2.2.1, hk.1.2.2.2.2.2.2⟩)), (nA lx.out (fun _ hk => ⟨hk.1.1, hk.1.2.1, hk.1.2.2.1, hk.2, hk.1.2.2.2.1, hk.1.2.2.2.2.1, hk.1.2.2.2.2.2⟩)), (nA ix.out (fun _ hk => ⟨hk.1.1, hk.1.2.1, hk.1.2.2.1, hk.1.2.2.2.1, hk.2, hk.1.2.2.2.2.1, hk.1.2.2.2.2.2.1, hk.1.2.2.2.2.2.2⟩)), (nA Yy.out (fun _ hk => ⟨hk.1.1, hk.1.2.1, hk.1.2.2.1, hk.2, hk.1.2.2.2.1, hk.1.2.2.2.2.1, hk.1.2.2.2.2.2⟩)), (eB jx.out (fun _ hk => ⟨hk.1.1, hk.2⟩)), (sB Zx.out (fun _ hk => ⟨hk.1.1, hk.1.2.1, hk.1.2.2.1, hk.1.2.2.2.1, hk.1.2.2.2.2.1, hk.2, hk.1.2.2.2.2.2.1, hk.1.2.2.2.2.2.2.1, hk.1.2.2.2.2.2.2.2⟩)), Hx.out, Px.out, Jx.out, (HB.out)⟩)
         ·
          skip
          rintro ⟨bx, ex, cx, Ux⟩ w36 ⟨hS_, Ey, Fy, Gy, Hy, Iy, Jy, Ky, Ly, My, Qy, cy⟩
          have px : Aside0 (Kd.U k59 59 w36 w.heap.size (fun k_ => (Qx k_ ∨ w.heap.size ≤ k_) ∧ some k_ ≠ (bx : Value).ownBlock ∧ some k_ ≠ (ex : Value).ownBlock ∧ some k_ ≠ (cx : Value).ownBlock ∧ some k_ ≠ (Ux : Value).ownBlock ∧ some k_ ≠ (jC Kx Bx.length Lx).ownBlock ∧ some k_ ≠ (jC Fx Ax.length Gx).ownBlock ∧ k_ ≠ Ex ∧ k_ ≠ Dx) (.slice xx gx.length yx) gx) := ⟨Ey⟩
          have qx : Aside0 (Kd.N (Kd.os 59 k59 w.heap.size) 29 w36 w.heap.size (fun k_ => (Qx k_ ∨ w.heap.size ≤ k_) ∧ some k_ ≠ (ex : Value).ownBlock ∧ some k_ ≠ (cx : Value).ownBlock ∧ some k_ ≠ (Ux : Value).ownBlock ∧ some k_ ≠ (jC Kx Bx.length Lx).ownBlock ∧ some k_ ≠ (jC Fx Ax.length Gx).ownBlock ∧ k_ ≠ Ex ∧ k_ ≠ Dx) bx kx) := ⟨Fy⟩
          have rx : Aside0 (Kd.N (Kd.os 59 k59 w.heap.size) 29 w36 w.heap.size (fun k_ => (Qx k_ ∨ w.heap.size ≤ k_) ∧ some k_ ≠ (cx : Value).ownBlock ∧ some k_ ≠ (Ux : Value).ownBlock ∧ some k_ ≠ (jC Kx Bx.length Lx).ownBlock ∧ some k_ ≠ (jC Fx Ax.length Gx).ownBlock ∧ k_ ≠ Ex ∧ k_ ≠ Dx) ex Sy) := ⟨Gy⟩
          have sx : Aside0 (Kd.N (Kd.slice 3 (Kd.int .i64)) 22 w36 w.heap.size (fun k_ => (Qx k_ ∨ w.heap.size ≤ k_) ∧ some k_ ≠ (bx : Value).ownBlock ∧ some k_ ≠ (ex : Value).ownBlock ∧ some k_ ≠ (Ux : Value).ownBlock ∧ some k_ ≠ (jC Kx Bx.length Lx).ownBlock ∧ some k_ ≠ (jC Fx Ax.length Gx).ownBlock ∧ k_ ≠ Ex ∧ k_ ≠ Dx) cx nx) := ⟨Hy⟩
          have tx : Aside0 (Kd.R (Kd.int .i64) 3 w36 w.heap.size (fun k_ => (w.heap.size ≤ k_) ∧ some k_ ≠ (jC Fx Ax.length Gx).ownBlock) Ux ox) := ⟨Iy⟩
          have zx : Aside0 (Kd.U k59 59 w36 w.heap.size (fun k_ => (Qx k_ ∨ w.heap.size ≤ k_) ∧ some k_ ≠ (bx : Value).ownBlock ∧ some k_ ≠ (ex : Value).ownBlock ∧ some k_ ≠ (cx : Value).ownBlock ∧ some k_ ≠ (Ux : Value).ownBlock ∧ some k_ ≠ (jC Kx Bx.length Lx).ownBlock ∧ some k_ ≠ (jC Fx Ax.length Gx).ownBlock ∧ k_ ≠ Ex ∧ k_ ≠ Dx) (.slice Ny mx.length Oy) mx) := ⟨Jy⟩
          have Ay : Aside0 (Kd.N (Kd.slice 3 (Kd.int .i64)) 22 w36 w.heap.size (fun k_ => (Qx k_ ∨ w.heap.size ≤ k_) ∧ some k_ ≠ (bx : Value).ownBlock ∧ some k_ ≠ (ex : Value).ownBlock ∧ some k_ ≠ (cx : Value).ownBlock ∧ some k_ ≠ (Ux : Value).ownBlock ∧ some k_ ≠ (jC Fx Ax.length Gx).ownBlock ∧ k_ ≠ Ex ∧ k_ ≠ Dx) (.slice Kx Bx.length Lx) Bx) := ⟨Ky⟩
          have By : Aside0 (Kd.R (Kd.int .i64) 3 w36 w.heap.size (fun k_ => (w.heap.size ≤ k_) ∧ some k_ ≠ (Ux : Value).ownBlock) (.slice Fx Ax.length Gx) Ax) := ⟨Ly⟩
          have Cy : Aside0 (w36.heap[Ex]? = some (.cells #[.slice none 0 0, .slice none 0 0, .slice none 0 0] 79 (0, 0))) := ⟨My⟩
          have Ry : Aside0 (w36.heap[Dx]? = some (.cells #[.slice Nx Cx.length Ox, .slice Kx Bx.length Lx, .slice Fx Ax.length Gx] 79 (0, 0))) := ⟨Qy⟩
          have dy : Aside0 (Below w.heap.size w w36) := ⟨cy⟩
          clear Zx Mx Ix Hx Sx dx Px Jx HB Ey Fy Gy Hy Iy Jy Ky Ly My Qy cy
          have Sx := px
          have Yx := qx
          have lx := rx
          have ix := sx
          have jx := tx
          have Zx := zx
          have Ix := Ay
          have Hx := By
          have Px := Cy
          have Jx := Ry
          have HB := dy
          clear px qx rx sx tx zx Ay By Cy Ry dy
          have fx : w36.cell? ⟨Dx, 0, none⟩ = some (.slice Nx Cx.length Ox) ∧ w36.cell? ⟨Dx, 1, none⟩ = some (.slice Kx Bx.length Lx) ∧ w36.cell? ⟨Dx, 2, none⟩ = some (.slice Fx Ax.length Gx) := hS_
          obtain ⟨Jz, Kz, eo38⟩ := pA ix.out
          (first | subst eo38 | (injection eo38 with f1_ f2_ f3_; have f4_ := f1_.symm; have f5_ := f3_.symm; clear f1_ f2_ f3_; subst f4_; subst f5_))
          refine norm_ (a' := ?_) ?_ ?_
          rotate_left
          ·
           simp only [fC, Act.put, gC, hC, iC]
           rfl
          refine one_ (i := 9) (N := some 37) #[kC, kC, kC, kC, kC, kC, kC, kC, kC, kC, kC, kC, kC, kC, lC, kC, lC, lC, lC, lC, lC] rfl rfl (one_of HT_.out (by kernel_rfl)) (by decide) (fun K hK => ?_)
          refine eA (Kd.slice 3 (Kd.int .i64)) (w0 := w) w.heap.size (by rfl) (.tmp 34) (.tmp 36) 73 22 (.slice none 0 0) 24 rfl Try.underlying73 info22 rfl (by decide) (by omega) (.slice Kx Bx.length Lx) Bx nx _ _ _ (fun k_ => (Qx k_ ∨ w.heap.size ≤ k_) ∧ some k_ ≠ (jC Fx Ax.length Gx).ownBlock ∧ some k_ ≠ (bx : Value).ownBlock ∧ some k_ ≠ (ex : Value).ownBlock ∧ some k_ ≠ (Ux : Value).ownBlock ∧ k_ ≠ Ex ∧ k_ ≠ Dx) (fun k_ => ((fun k_ => (Qx k_ ∨ w.heap.size ≤ k_) ∧ some k_ ≠ (jC Fx Ax.length Gx).ownBlock ∧ some k_ ≠ (bx : Value).ownBlock ∧ some k_ ≠ (ex : Value).ownBlock ∧ some k_ ≠ (Ux : Value).ownBlock ∧ k_ ≠ Ex ∧ k_ ≠ Dx)) k_ ∧ some k_ ≠ (jC Kx Bx.length Lx).ownBlock) rfl rfl ?aO ?aR (fun _ hk => hk) ?aF ?aB ?aS ?aL ?_
          (case aR => exact (by skip; exact bA (nA (ok' := (fun k_ => ((fun k_ => (Qx k_ ∨ w.heap.size ≤ k_) ∧ some k_ ≠ (jC Fx Ax.length Gx).ownBlock ∧ some k_ ≠ (bx : Value).ownBlock ∧ some k_ ≠ (ex : Value).ownBlock ∧ some k_ ≠ (Ux : Value).ownBlock ∧ k_ ≠ Ex ∧ k_ ≠ Dx)) k_ ∧ some k_ ≠ (jC Kx Bx.length Lx).ownBlock)) (ix.out) (fun k_ hk => ⟨⟨hk.1, hk.2.2.2.2.2.1, hk.2.1, hk.2.2.1, hk.2.2.2.1, hk.2.2.2.2.2.2.1, hk.2.2.2.2.2.2.2⟩, hk.2.2.2.2.1⟩))))
          (case aB => exact (by repeat (first | (with_reducible first | exact HB.out | apply uB | apply vB | apply wB | refine xB ?_ Rx.out | refine xB ?_ Vx.out) | exact HB.out)))
          (case aF => exact (fun k_ hk => ⟨(.inr (Nat.le_trans (yB (by repeat (first | (with_reducible first | exact HB.out | apply uB | apply vB | apply wB | refine xB ?_ Rx.out | refine xB ?_ Vx.out) | exact HB.out))) hk)), Kd.fresh' (dB (by (with_reducible repeat (first | apply sA | apply xA | apply wA)); exact Hx.out)) k_ hk, Kd.fresh' (mA (by (with_reducible repeat (first | apply dA | apply hA | apply gA)); exact Yx.out)) k_ hk, Kd.fresh' (mA (by (with_reducible repeat (first | apply dA | apply hA | apply gA)); exact lx.out)) k_ hk, Kd.fresh' (dB (by (with_reducible repeat (first | apply sA | apply xA | apply wA)); exact jx.out)) k_ hk, Kd.freshB (g := Ex) (o := .cells #[.slice none 0 0, .slice none 0 0, .slice none 0 0] 79 (0, 0)) (by (with_reducible repeat (first | refine aC ?_ _ | refine bC ?_ | refine cC ?_ _)); exact Px.out) k_ hk, Kd.freshB (g := Dx) (o := .cells #[.slice Nx Cx.length Ox, .slice Kx Bx.length Lx, .slice Fx Ax.length Gx] 79 (0, 0)) (by (with_reducible repeat (first | refine aC ?_ _ | refine bC ?_ | refine cC ?_ _)); exact Jx.out) k_ hk⟩))
          (case aO => exact (by (with_reducible repeat (first | apply dA | apply hA | apply gA)); exact nA Ix.out (fun _ hk => ⟨hk.1, hk.2.2.2.2.2.1, hk.2.1, hk.2.2.1, hk.2.2.2.2.1, hk.2.2.2.2.2.2.1, hk.2.2.2.2.2.2.2⟩)))
          (case aS => exact (yB (by repeat (first | (with_reducible first | exact HB.out | apply uB | apply vB | apply wB | refine xB ?_ Rx.out | refine xB ?_ Vx.out) | exact HB.out))))
          (case aL => have := Wz.out; omega)
          intro Ty w37 ho hb hg hat
          rw [← Xz.out] at ho
          replace Zx := Aside0.mk (mB (ok := (fun k_ => (Qx k_ ∨ w.heap.size ≤ k_) ∧ some k_ ≠ (jC Fx Ax.length Gx).ownBlock ∧ some k_ ≠ (bx : Value).ownBlock ∧ some k_ ≠ (ex : Value).ownBlock ∧ some k_ ≠ (jC Jz nx.length Kz).ownBlock ∧ some k_ ≠ (Ux : Value).ownBlock ∧ k_ ≠ Ex ∧ k_ ≠ Dx)) (by (with_reducible repeat (first | apply nB | apply pB | apply oB)); exact sB Zx.out (fun _ hk => ⟨⟨hk.1, hk.2.2.2.2.2.2.1, hk.2.1, hk.2.2.1, hk.2.2.2.1, hk.2.2.2.2.1, hk.2.2.2.2.2.2.2.1, hk.2.2.2.2.2.2.2.2⟩, hk.2.2.2.2.2.1⟩)) hg hat)
          replace Hx := Aside0.mk (hB (by (with_reducible repeat (first | apply sA | apply xA | apply wA)); exact Hx.out) (qA (by (with_reducible repeat (first | apply dA | apply hA | apply gA)); exact Ix.out)) (by decide) hg)
          replace Px := Aside0.mk (blk_grown (g := Ex) (o := .cells #[.slice none 0 0, .slice none 0 0, .slice none 0 0] 79 (0, 0)) (by (with_reducible repeat (first | refine aC ?_ _ | refine bC ?_ | refine cC ?_ _)); exact Px.out) hg (oA Ix.out Px.out (by decide)))
          replace Jx := Aside0.mk (blk_grown (g := Dx) (o := .cells #[.slice Nx Cx.length Ox, .slice Kx Bx.length Lx, .slice Fx Ax.length Gx] 79 (0, 0)) (by (with_reducible repeat (first | refine aC ?_ _ | refine bC ?_ | refine cC ?_ _)); exact Jx.out) hg (oA Ix.out Jx.out (by decide)))
          replace Sx := Aside0.mk (mB (ok := (fun k_ => (Qx k_ ∨ w.heap.size ≤ k_) ∧ some k_ ≠ (jC Fx Ax.length Gx).ownBlock ∧ some k_ ≠ (bx : Value).ownBlock ∧ some k_ ≠ (ex : Value).ownBlock ∧ some k_ ≠ (jC Jz nx.length Kz).ownBlock ∧ some k_ ≠ (Ux : Value).ownBlock ∧ k_ ≠ Ex ∧ k_ ≠ Dx)) (by (with_reducible repeat (first | apply nB | apply pB | apply oB)); exact sB Sx.out (fun _ hk => ⟨⟨hk.1, hk.2.2.2.2.2.2.1, hk.2.1, hk.2.2.1, hk.2.2.2.1, hk.2.2.2.2.1, hk.2.2.2.2.2.2.2.1, hk.2.2.2.2.2.2.2.2⟩, hk.2.2.2.2.2.1⟩)) hg hat)
          replace Yx := Aside0.mk (cA (ok := (fun k_ => (Qx k_ ∨ w.heap.size ≤ k_) ∧ some k_ ≠ (jC Fx Ax.length Gx).ownBlock ∧ some k_ ≠ (ex : Value).ownBlock ∧ some k_ ≠ (jC Jz nx.length Kz).ownBlock ∧ some k_ ≠ (Ux : Value).ownBlock ∧ k_ ≠ Ex ∧ k_ ≠ Dx)) (by (with_reducible repeat (first | apply dA | apply hA | apply gA)); exact nA Yx.out (fun _ hk => ⟨⟨hk.1, hk.2.2.2.2.2.1, hk.2.1, hk.2.2.1, hk.2.2.2.1, hk.2.2.2.2.2.2.1, hk.2.2.2.2.2.2.2⟩, hk.2.2.2.2.1⟩)) hg hat)
          replace lx := Aside0.mk (cA (ok := (fun k_ => (Qx k_ ∨ w.heap.size ≤ k_) ∧ some k_ ≠ (jC Fx Ax.length Gx).ownBlock ∧ some k_ ≠ (jC Jz nx.length Kz).ownBlock ∧ some k_ ≠ (Ux : Value).ownBlock ∧ k_ ≠ Ex ∧ k_ ≠ Dx)) (by (with_reducible repeat (first | apply dA | apply hA | apply gA)); exact nA lx.out (fun _ hk => ⟨⟨hk.1, hk.2.2.2.2.1, hk.2.1, hk.2.2.1, hk.2.2.2.2.2.1, hk.2.2.2.2.2.2⟩, hk.2.2.2.1⟩)) hg hat)
          replace ix := Aside0.mk (cA (ok := (fun k_ => (Qx k_ ∨ w.heap.size ≤ k_) ∧ some k_ ≠ (jC Fx Ax.length Gx).ownBlock ∧ some k_ ≠ (bx : Value).ownBlock ∧ some k_ ≠ (ex : Value).ownBlock ∧ some k_ ≠ (Ux : Value).ownBlock ∧ k_ ≠ Ex ∧ k_ ≠ Dx)) (by (with_reducible repeat (first | apply dA | apply hA | apply gA)); exact nA ix.out (fun _ hk => ⟨⟨hk.1, hk.2.2.2.2.2.1, hk.2.1, hk.2.2.1, hk.2.2.2.1, hk.2.2.2.2.2.2.1, hk.2.2.2.2.2.2.2⟩, hk.2.2.2.2.1⟩)) hg hat)
          replace jx := Aside0.mk (hB (by (with_reducible repeat (first | apply sA | apply xA | apply wA)); exact jx.out) (qA (by (with_reducible repeat (first | apply dA | apply hA | apply gA)); exact Ix.out)) (by decide) hg)
          replace HB := Aside0.mk (hb)
          have Yy := Aside0.mk (ho)
          clear Ix ho hb hg hat
          refine hK.out _ _ ⟨(dC Jx.out 0).trans rfl, (dC Jx.out 1).trans rfl, (dC Jx.out 2).trans rfl⟩ (fun fx => ?_)
          clear hK K
          refine norm_ (a' := ?_) ?_ ?_
          rotate_left
          ·
           show Act.put _ (some 37) _ = _
           simp only [Act.put, gC, hC, iC, i64_w, i32_w]
           rfl
          exact norm_ (by first | (simp only [fC, Act.put, gC, hC, iC]; done) | (simp only [fC, Act.put, gC, hC, iC]; rfl)) (oy (bx, ex, .slice Jz nx.length Kz, Ty, Ux) _ ⟨fx, (sB Sx.out (fun _ hk => ⟨hk.1.1, hk.1.2.2.1, hk.1.2.2.2.1, hk.1.2.2.2.2.1, hk.2, hk.1.2.2.2.2.2.1, hk.1.2.1, hk.1.2.2.2.2.2.2.1, hk.1.2.2.2.2.2.2.2⟩)), (nA Yx.out (fun _ hk => ⟨hk.1.1, hk.1.2.2.1, hk.1.2.2.2.1, hk.2, hk.1.2.2.2.2.1, hk.1.2.1, hk.1.2.2.2.2.2.1, hk.1.2.2.2.2.2.2⟩)), (nA lx.out (fun _ hk => ⟨hk.1.1, hk.1.2.2.1, hk.2, hk.1.2.2.2.1, hk.1.2.1, hk.1.2.2.2.2.1, hk.1.2.2.2.2.2⟩)), (nA ix.out (fun _ hk => ⟨hk.1.1, hk.1.2.2.1, hk.1.2.2.2.1, hk.2, hk.1.2.2.2.2.1, hk.1.2.1, hk.1.2.2.2.2.2.1, hk.1.2.2.2.2.2.2⟩)), (nA Yy.out (fun _ hk => ⟨hk.1, hk.2.2.1, hk.2.2.2.1, hk.2.2.2.2.1, hk.2.1, hk.2.2.2.2.2.1, hk.2.2.2.2.2.2⟩)), jx.out, (sB Zx.out (fun _ hk => ⟨hk.1.1, hk.1.2.2.1, hk.1.2.2.2.1, hk.1.2.2.2.2.1, hk.2, hk.1.2.2.2.2.2.1, hk.1.2.1, hk.1.2.2.2.2.2.2.1, hk.1.2.2.2.2.2.2.2⟩)), Hx.out, Px.out, Jx.out, (HB.out)⟩)
         ·
          skip
          rintro ⟨bx, ex, cx⟩ w34 ⟨hS_, Ey, Fy, Gy, Hy, Iy, Jy, Ky, Ly, My, Qy⟩
          have px : Aside0 (Kd.U k59 59 w34 w.heap.size (fun k_ => (Qx k_ ∨ w.heap.size ≤ k_) ∧ some k_ ≠ (bx : Value).ownBlock ∧ some k_ ≠ (ex : Value).ownBlock ∧ some k_ ≠ (cx : Value).ownBlock ∧ some k_ ≠ (jC Kx Bx.length Lx).ownBlock ∧ some k_ ≠ (jC Fx Ax.length Gx).ownBlock ∧ k_ ≠ Ex ∧ k_ ≠ Dx) (.slice xx gx.length yx) gx) := ⟨Ey⟩
          have qx : Aside0 (Kd.N (Kd.os 59 k59 w.heap.size) 29 w34 w.heap.size (fun k_ => (Qx k_ ∨ w.heap.size ≤ k_) ∧ some k_ ≠ (ex : Value).ownBlock ∧ some k_ ≠ (cx : Value).ownBlock ∧ some k_ ≠ (jC Kx Bx.length Lx).ownBlock ∧ some k_ ≠ (jC Fx Ax.length Gx).ownBlock ∧ k_ ≠ Ex ∧ k_ ≠ Dx) bx kx) := ⟨Fy⟩
          have rx : Aside0 (Kd.N (Kd.os 59 k59 w.heap.size) 29 w34 w.heap.size (fun k_ => (Qx k_ ∨ w.heap.size ≤ k_) ∧ some k_ ≠ (cx : Value).ownBlock ∧ some k_ ≠ (jC Kx Bx.length Lx).ownBlock ∧ some k_ ≠ (jC Fx Ax.length Gx).ownBlock ∧ k_ ≠ Ex ∧ k_ ≠ Dx) ex Sy) := ⟨Gy⟩
          have sx : Aside0 (Kd.N (Kd.slice 3 (Kd.int .i64)) 22 w34 w.heap.size (fun k_ => (Qx k_ ∨ w.heap.size ≤ k_) ∧ some k_ ≠ (bx : Value).ownBlock ∧ some k_ ≠ (ex : Value).ownBlock ∧ some k_ ≠ (jC Kx Bx.length Lx).ownBlock ∧ some k_ ≠ (jC Fx Ax.length Gx).ownBlock ∧ k_ ≠ Ex ∧ k_ ≠ Dx) cx nx) := ⟨Hy⟩
          have tx : Aside0 (Kd.U k59 59 w34 w.heap.size (fun k_ => (Qx k_ ∨ w.heap.size ≤ k_) ∧ some k_ ≠ (bx : Value).ownBlock ∧ some k_ ≠ (ex : Value).ownBlock ∧ some k_ ≠ (cx : Value).ownBlock ∧ some k_ ≠ (jC Kx Bx.length Lx).ownBlock ∧ some k_ ≠ (jC Fx Ax.length Gx).ownBlock ∧ k_ ≠ Ex ∧ k_ ≠ Dx) (.slice Ny mx.length Oy) mx) := ⟨Iy⟩
          have zx : Aside0 (Kd.N (Kd.slice 3 (Kd.int .i64)) 22 w34 w.heap.size (fun k_ => (Qx k_ ∨ w.heap.size ≤ k_) ∧ some k_ ≠ (bx : Value).ownBlock ∧ some k_ ≠ (ex : Value).ownBlock ∧ some k_ ≠ (cx : Value).ownBlock ∧ some k_ ≠ (jC Fx Ax.length Gx).ownBlock ∧ k_ ≠ Ex ∧ k_ ≠ Dx) (.slice Kx Bx.length Lx) Bx) := ⟨Jy⟩
          have Ay : Aside0 (Kd.R (Kd.int .i64) 3 w34 w.heap.size (fun k_ => (w.heap.size ≤ k_)) (.slice Fx Ax.length Gx) Ax) := ⟨Ky⟩
          have By : Aside0 (w34.heap[Ex]? = some (.cells #[.slice none 0 0, .slice none 0 0, .slice none 0 0] 79 (0, 0))) := ⟨Ly⟩
          have Cy : Aside0 (w34.heap[Dx]? = some (.cells #[.slice Nx Cx.length Ox, .slice Kx Bx.length Lx, .slice Fx Ax.length Gx] 79 (0, 0))) := ⟨My⟩
          have Ry : Aside0 (Below w.heap.size w w34) := ⟨Qy⟩
          clear Zx Mx Ix Hx Sx dx Px Jx HB Ey Fy Gy Hy Iy Jy Ky Ly My Qy
          have Sx := px
          have Yx := qx
          have lx := rx
          have ix := sx
          have Zx := tx
          have Ix := zx
          have Hx := Ay
          have Px := By
          have Jx := Cy
          have HB := Ry
          clear px qx rx sx tx zx Ay By Cy Ry
          have fx : w34.cell? ⟨Dx, 0, none⟩ = some (.slice Nx Cx.length Ox) ∧ w34.cell? ⟨Dx, 1, none⟩ = some (.slice Kx Bx.length Lx) ∧ w34.cell? ⟨Dx, 2, none⟩ = some (.slice Fx Ax.length Gx) := hS_
          obtain ⟨fy, gy, eo36⟩ := pA ix.out
          (first | subst eo36 | (injection eo36 with f1_ f2_ f3_; have f4_ := f1_.symm; have f5_ := f3_.symm; clear f1_ f2_ f3_; subst f4_; subst f5_))
          refine norm_ (a' := ?_) ?_ ?_
          rotate_left
          ·
           simp only [fC, Act.put, gC, hC, iC]
           rfl
          refine two_ (i := 9) (j := 13) (Ni := some 37) (Nj := some 41) #[kC, kC, kC, kC, kC, kC, kC, kC, kC, kC, kC, kC, kC, lC, lC, kC, lC, lC, lC, lC, lC] #[kC, kC, kC, kC, kC, kC, kC, kC, kC, lC, kC, kC, kC, kC, lC, kC, lC, lC, lC, lC, lC] rfl rfl rfl rfl (two_of HT_.out (by kernel_rfl)) (by decide) (by decide) (fun K hK => ?_) (fun K hK => ?_)
          ·
           skip
           refine eA (Kd.slice 3 (Kd.int .i64)) (w0 := w) w.heap.size (by rfl) (.tmp 34) (.tmp 36) 73 22 (.slice none 0 0) 24 rfl Try.underlying73 info22 rfl (by decide) (by omega) (.slice Kx Bx.length Lx) Bx nx _ _ _ (fun k_ => (Qx k_ ∨ w.heap.size ≤ k_) ∧ some k_ ≠ (jC Fx Ax.length Gx).ownBlock ∧ some k_ ≠ (bx : Value).ownBlock ∧ some k_ ≠ (ex : Value).ownBlock ∧ k_ ≠ Ex ∧ k_ ≠ Dx) (fun k_ => ((fun k_ => (Qx k_ ∨ w.heap.size ≤ k_) ∧ some k_ ≠ (jC Fx Ax.length Gx).ownBlock ∧ some k_ ≠ (bx : Value).ownBlock ∧ some k_ ≠ (ex : Value).ownBlock ∧ k_ ≠ Ex ∧ k_ ≠ Dx)) k_ ∧ some k_ ≠ (jC Kx Bx.length Lx).ownBlock) rfl rfl ?aO ?aR (fun _ hk => hk) ?aF ?aB ?aS ?aL ?_
           (case aR => exact (by skip; exact bA (nA (ok' := (fun k_ => ((fun k_ => (Qx k_ ∨ w.heap.size ≤ k_) ∧ some k_ ≠ (jC Fx Ax.length Gx).ownBlock ∧ some k_ ≠ (bx : Value).ownBlock ∧ some k_ ≠ (ex : Value).ownBlock ∧ k_ ≠ Ex ∧ k_ ≠ Dx)) k_ ∧ some k_ ≠ (jC Kx Bx.length Lx).ownBlock)) (ix.out) (fun k_ hk => ⟨⟨hk.1, hk.2.2.2.2.1, hk.2.1, hk.2.2.1, hk.2.2.2.2.2.1, hk.2.2.2.2.2.2⟩, hk.2.2.2.1⟩))))
           (case aB => exact (by repeat (first | (with_reducible first | exact HB.out | apply uB | apply vB | apply wB | refine xB ?_ Rx.out | refine xB ?_ Vx.out) | exact HB.out)))
           (case aF => exact (fun k_ hk => ⟨(.inr (Nat.le_trans (yB (by repeat (first | (with_reducible first | exact HB.out | apply uB | apply vB | apply wB | refine xB ?_ Rx.out | refine xB ?_ Vx.out) | exact HB.out))) hk)), Kd.fresh' (dB (by (with_reducible repeat (first | apply sA | apply xA | apply wA)); exact Hx.out)) k_ hk, Kd.fresh' (mA (by (with_reducible repeat (first | apply dA | apply hA | apply gA)); exact Yx.out)) k_ hk, Kd.fresh' (mA (by (with_reducible repeat (first | apply dA | apply hA | apply gA)); exact lx.out)) k_ hk, Kd.freshB (g := Ex) (o := .cells #[.slice none 0 0, .slice none 0 0, .slice none 0 0] 79 (0, 0)) (by (with_reducible repeat (first | refine aC ?_ _ | refine bC ?_ | refine cC ?_ _)); exact Px.out) k_ hk, Kd.freshB (g := Dx) (o := .cells #[.slice Nx Cx.length Ox, .slice Kx Bx.length Lx, .slice Fx Ax.length Gx] 79 (0, 0)) (by (with_reducible repeat (first | refine aC ?_ _ | refine bC ?_ | refine cC ?_ _)); exact Jx.out) k_ hk⟩))
           (case aO => exact (by (with_reducible repeat (first | apply dA | apply hA | apply gA)); exact nA Ix.out (fun _ hk => ⟨hk.1, hk.2.2.2.2.1, hk.2.1, hk.2.2.1, hk.2.2.2.2.2.1, hk.2.2.2.2.2.2⟩)))
           (case aS => exact (yB (by repeat (first | (with_reducible first | exact HB.out | apply uB | apply vB | apply wB | refine xB ?_ Rx.out | refine xB ?_ Vx.out) | exact HB.out))))
           (case aL => have := Wz.out; omega)
           intro Ty w35 ho hb hg hat
           rw [← Xz.out] at ho
           replace Zx := Aside0.mk (mB (ok := (fun k_ => (Qx k_ ∨ w.heap.size ≤ k_) ∧ some k_ ≠ (jC Fx Ax.length Gx).ownBlock ∧ some k_ ≠ (bx : Value).ownBlock ∧ some k_ ≠ (ex : Value).ownBlock ∧ some k_ ≠ (jC fy nx.length gy).ownBlock ∧ k_ ≠ Ex ∧ k_ ≠ Dx)) (by (with_reducible repeat (first | apply nB | apply pB | apply oB)); exact sB Zx.out (fun _ hk => ⟨⟨hk.1, hk.2.2.2.2.2.1, hk.2.1, hk.2.2.1, hk.2.2.2.1, hk.2.2.2.2.2.2.1, hk.2.2.2.2.2.2.2⟩, hk.2.2.2.2.1⟩)) hg hat)
           replace Hx := Aside0.mk (hB (by (with_reducible repeat (first | apply sA | apply xA | apply wA)); exact Hx.out) (qA (by (with_reducible repeat (first | apply dA | apply hA | apply gA)); exact Ix.out)) (by decide) hg)
           replace Px := Aside0.mk (blk_grown (g := Ex) (o := .cells #[.slice none 0 0, .slice none 0 0, .slice none 0 0] 79 (0, 0)) (by (with_reducible repeat (first | refine aC ?_ _ | refine bC ?_ | refine cC ?_ _)); exact Px.out) hg (oA Ix.out Px.out (by decide)))
           replace Jx := Aside0.mk (blk_grown (g := Dx) (o := .cells #[.slice Nx Cx.length Ox, .slice Kx Bx.length Lx, .slice Fx Ax.length Gx] 79 (0, 0)) (by (with_reducible repeat (first | refine aC ?_ _ | refine bC ?_ | refine cC ?_ _)); exact Jx.out) hg (oA Ix.out Jx.out (by decide)))
           replace Sx := Aside0.mk (mB (ok := (fun k_ => (Qx k_ ∨ w.heap.size ≤ k_) ∧ some k_ ≠ (jC Fx Ax.length Gx).ownBlock ∧ some k_ ≠ (bx : Value).ownBlock ∧ some k_ ≠ (ex : Value).ownBlock ∧ some k_ ≠ (jC fy nx.length gy).ownBlock ∧ k_ ≠ Ex ∧ k_ ≠ Dx)) (by (with_reducible repeat (first | apply nB | apply pB | apply oB)); exact sB Sx.out (fun _ hk => ⟨⟨hk.1, hk.2.2.2.2.2.1, hk.2.1, hk.2.2.1, hk.2.2.2.1, hk.2.2.2.2.2.2.1, hk.2.2.2.2.2.2.2⟩, hk.2.2.2.2.1⟩)) hg hat)
           replace Yx := Aside0.mk (cA (ok := (fun k_ => (Qx k_ ∨ w.heap.size ≤ k_) ∧ some k_ ≠ (jC Fx Ax.length Gx).ownBlock ∧ some k_ ≠ (ex : Value).ownBlock ∧ some k_ ≠ (jC fy nx.length gy).ownBlock ∧ k_ ≠ Ex ∧ k_ ≠ Dx)) (by (with_reducible repeat (first | apply dA | apply hA | apply gA)); exact nA Yx.out (fun _ hk => ⟨⟨hk.1, hk.2.2.2.2.1, hk.2.1, hk.2.2.1, hk.2.2.2.2.2.1, hk.2.2.2.2.2.2⟩, hk.2.2.2.1⟩)) hg hat)
           replace lx := Aside0.mk (cA (ok := (fun k_ => (Qx k_ ∨ w.heap.size ≤ k_) ∧ some k_ ≠ (jC Fx Ax.length Gx).ownBlock ∧ some k_ ≠ (jC fy nx.length gy).ownBlock ∧ k_ ≠ Ex ∧ k_ ≠ Dx)) (by (with_reducible repeat (first | apply dA | apply hA | apply gA)); exact nA lx.out (fun _ hk => ⟨⟨hk.1, hk.2.2.2.1, hk.2.1, hk.2.2.2.2.1, hk.2.2.2.2.2⟩, hk.2.2.1⟩)) hg hat)
           replace ix := Aside0.mk (cA (ok := (fun k_ => (Qx k_ ∨ w.heap.size ≤ k_) ∧ some k_ ≠ (jC Fx Ax.length Gx).ownBlock ∧ some k_ ≠ (bx : Value).ownBlock ∧ some k_ ≠ (ex : Value).ownBlock ∧ k_ ≠ Ex ∧ k_ ≠ Dx)) (by (with_reducible repeat (first | apply dA | apply hA | apply gA)); exact nA ix.out (fun _ hk => ⟨⟨hk.1, hk.2.2.2.2.1, hk.2.1, hk.2.2.1, hk.2.2.2.2.2.1, hk.2.2.2.2.2.2⟩, hk.2.2.2.1⟩)) hg hat)
           replace HB := Aside0.mk (hb)
           have Yy := Aside0.mk (ho)
           clear Ix ho hb hg hat
           refine hK.out _ _ ⟨(dC Jx.out 0).trans rfl, (dC Jx.out 1).trans rfl, (dC Jx.out 2).trans rfl⟩ (fun fx => ?_)
           clear hK K
           refine norm_ (a' := ?_) ?_ ?_
           rotate_left
           ·
            show Act.put _ (some 37) _ = _
            simp only [Act.put, gC, hC, iC, i64_w, i32_w]
            rfl
           exact norm_ (by first | (simp only [fC, Act.put, gC, hC, iC]; done) | (simp only [fC, Act.put, gC, hC, iC]; rfl)) (Sz (bx, ex, .slice fy nx.length gy, Ty) _ ⟨fx, (sB Sx.out (fun _ hk => ⟨hk.1.1, hk.1.2.2.1, hk.1.2.2.2.1, hk.1.2.2.2.2.1, hk.2, hk.1.2.1, hk.1.2.2.2.2.2.1, hk.1.2.2.2.2.2.2⟩)), (nA Yx.out (fun _ hk => ⟨hk.1.1, hk.1.2.2.1, hk.1.2.2.2.1, hk.2, hk.1.2.1, hk.1.2.2.2.2.1, hk.1.2.2.2.2.2⟩)), (nA lx.out (fun _ hk => ⟨hk.1.1, hk.1.2.2.1, hk.2, hk.1.2.1, hk.1.2.2.2.1, hk.1.2.2.2.2⟩)), (nA ix.out (fun _ hk => ⟨hk.1.1, hk.1.2.2.1, hk.1.2.2.2.1, hk.2, hk.1.2.1, hk.1.2.2.2.2.1, hk.1.2.2.2.2.2⟩)), (nA Yy.out (fun _ hk => ⟨hk.1, hk.2.2.1, hk.2.2.2.1, hk.2.1, hk.2.2.2.2.1, hk.2.2.2.2.2⟩)), (sB Zx.out (fun _ hk => ⟨hk.1.1, hk.1.2.2.1, hk.1.2.2.2.1, hk.1.2.2.2.2.1, hk.2, hk.1.2.1, hk.1.2.2.2.2.2.1, hk.1.2.2.2.2.2.2⟩)), Hx.out, Px.out, Jx.out, (HB.out)⟩)
          ·
           skip
           refine bB (Kd.int .i64) _ 3 ?hg (N := 41) ?hd (xs := ([vx] : List Int)) (inner := [.int .i64 vx]) (ok := fun _ => True) (okp := fun _ => True) ?hr ?hp (fun _ hk => hk) trivial (Below.refl _ _) (Nat.le_refl _) (by simp) ?_; (case hd => rfl); (case hg => rfl); (case hr => first | (go_simp; done) | (go_simp; rfl)); (case hp => exact (Reps.one (show Kd.M (Kd.int .i64) _ _ _ vx [.int .i64 vx] from rfl) (Reps.none _ _)))
           intro Ux w35 ho36 hb hg_ hnew_
           clear hg_ hnew_
           (first | rw [← Uy.out] at ho36 | (simp only [Int.reduceToNat] at ho36; rw [← Uy.out] at ho36))
           replace Zx := Aside0.mk (qB (by (with_reducible repeat (first | apply nB | apply pB | apply oB)); exact Zx.out) (uA ho36) hb)
           replace Ix := Aside0.mk (iA (by (with_reducible repeat (first | apply dA | apply hA | apply gA)); exact Ix.out) (uA ho36) hb)
           replace Sx := Aside0.mk (qB (by (with_reducible repeat (first | apply nB | apply pB | apply oB)); exact Sx.out) (uA ho36) hb)
           replace Yx := Aside0.mk (iA (by (with_reducible repeat (first | apply dA | apply hA | apply gA)); exact Yx.out) (uA ho36) hb)
           replace lx := Aside0.mk (iA (by (with_reducible repeat (first | apply dA | apply hA | apply gA)); exact lx.out) (uA ho36) hb)
           replace ix := Aside0.mk (iA (by (with_reducible repeat (first | apply dA | apply hA | apply gA)); exact ix.out) (uA ho36) hb)
           have jx := Aside0.mk (cB (fB (gB (M := fun k_ => (w.heap.size ≤ k_)) ho36 (yB (by repeat (first | (with_reducible first | exact HB.out | apply uB | apply vB | apply wB | refine xB ?_ Rx.out | refine xB ?_ Vx.out) | exact HB.out))) (fun k_ h_ => h_)) (dB (by (with_reducible repeat (first | apply sA | apply xA | apply wA)); exact Hx.out))) (yB (by repeat (first | (with_reducible first | exact HB.out | apply uB | apply vB | apply wB | refine xB ?_ Rx.out | refine xB ?_ Vx.out) | exact HB.out))))
           replace Hx := Aside0.mk (yA (by (with_reducible repeat (first | apply sA | apply xA | apply wA)); exact Hx.out) (uA ho36) hb)
           replace Px := Aside0.mk (eC (g := Ex) (o := .cells #[.slice none 0 0, .slice none 0 0, .slice none 0 0] 79 (0, 0)) (by (with_reducible repeat (first | refine aC ?_ _ | refine bC ?_ | refine cC ?_ _)); exact Px.out) hb)
           replace Jx := Aside0.mk (eC (g := Dx) (o := .cells #[.slice Nx Cx.length Ox, .slice Kx Bx.length Lx, .slice Fx Ax.length Gx] 79 (0, 0)) (by (with_reducible repeat (first | refine aC ?_ _ | refine bC ?_ | refine cC ?_ _)); exact Jx.out) hb)
           replace HB := Aside0.mk (zB (by repeat (first | (with_reducible first | exact HB.out | apply uB | apply vB | apply wB | refine xB ?_ Rx.out | refine xB ?_ Vx.out) | exact HB.out)) hb)
           clear hb ho36
           refine hK.out _ _ ⟨(dC Jx.out 0).trans rfl, (dC Jx.out 1).trans rfl, (dC Jx.out 2).trans rfl⟩ (fun fx => ?_)
           clear hK K
           refine norm_ (a' := ?_) ?_ ?_
           rotate_left
           ·
            show Act.put _ (some 41) _ = _
            simp only [Act.put, gC, hC, iC, i64_w, i32_w]
            rfl
           exact norm_ (by first | (simp only [fC, Act.put, gC, hC, iC]; done) | (simp only [fC, Act.put, gC, hC, iC]; rfl)) (my (bx, ex, (.slice fy nx.length gy), Ux) _ ⟨fx, (sB Sx.out (fun _ hk => ⟨hk.1.1, hk.1.2.1, hk.1.2.2.1, hk.1.2.2.2.1, hk.2, hk.1.2.2.2.2.1, hk.1.2.2.2.2.2.1, hk.1.2.2.2.2.2.2.1, hk.1.2.2.2.2.2.2.2⟩)), (nA Yx.out (fun _ hk => ⟨hk.1.1, hk.1.2.1, hk.1.2.2.1, hk.2, hk.1.2.2.2.1, hk.1.2.2.2.2.1, hk.1.2.2.2.2.2.1, hk.1.2.2.2.2.2.2⟩)), (nA lx.out (fun _ hk => ⟨hk.1.1, hk.1.2.1, hk.2, hk.1.2.2.1, hk.1.2.2.2.1, hk.1.2.2.2.2.1, hk.1.2.2.2.2.2⟩)), (nA ix.out (fun _ hk => ⟨hk.1.1, hk.1.2.1, hk.1.2.2.1, hk.2, hk.1.2.2.2.1, hk.1.2.2.2.2.1, hk.1.2.2.2.2.2.1, hk.1.2.2.2.2.2.2⟩)), (eB jx.out (fun _ hk => ⟨hk.1.1, hk.2⟩)), (sB Zx.out (fun _ hk => ⟨hk.1.1, hk.1.2.1, hk.1.2.2.1, hk.1.2.2.2.1, hk.2, hk.1.2.2.2.2.1, hk.1.2.2.2.2.2.1, hk.1.2.2.2.2.2.2.1, hk.1.2.2.2.2.2.2.2⟩)), (nA Ix.out (fun _ hk => ⟨hk.1.1, hk.1.2.1, hk.1.2.2.1, hk.1.2.2.2.1, hk.2, hk.1.2.2.2.2.1, hk.1.2.2.2.2.2.1, hk.1.2.2.2.2.2.2⟩)), Hx.out, Px.out, Jx.out, (HB.out)⟩)
         ·
          skip
          rintro ⟨bx, ex, Ux⟩ w34 ⟨hS_, Ey, Fy, Gy, Hy, Iy, Jy, Ky, Ly, My, Qy, cy⟩
          have px : Aside0 (Kd.U k59 59 w34 w.heap.size (fun k_ => (Qx k_ ∨ w.heap.size ≤ k_) ∧ some k_ ≠ (jC Wx Tx.length Xx).ownBlock ∧ some k_ ≠ (bx : Value).ownBlock ∧ some k_ ≠ (ex : Value).ownBlock ∧ some k_ ≠ (Ux : Value).ownBlock ∧ some k_ ≠ (jC Kx Bx.length Lx).ownBlock ∧ some k_ ≠ (jC Fx Ax.length Gx).ownBlock ∧ k_ ≠ Ex ∧ k_ ≠ Dx) (.slice xx gx.length yx) gx) := ⟨Ey⟩
          have qx : Aside0 (Kd.R (Kd.int .i64) 3 w34 w.heap.size (fun k_ => (w.heap.size ≤ k_) ∧ some k_ ≠ (Ux : Value).ownBlock ∧ some k_ ≠ (jC Fx Ax.length Gx).ownBlock) (.slice Wx Tx.length Xx) Tx) := ⟨Fy⟩
          have rx : Aside0 (Kd.N (Kd.os 59 k59 w.heap.size) 29 w34 w.heap.size (fun k_ => (Qx k_ ∨ w.heap.size ≤ k_) ∧ some k_ ≠ (jC Wx Tx.length Xx).ownBlock ∧ some k_ ≠ (ex : Value).ownBlock ∧ some k_ ≠ (Ux : Value).ownBlock ∧ some k_ ≠ (jC Kx Bx.length Lx).ownBlock ∧ some k_ ≠ (jC Fx Ax.length Gx).ownBlock ∧ k_ ≠ Ex ∧ k_ ≠ Dx) bx kx) := ⟨Gy⟩
          have sx : Aside0 (Kd.N (Kd.os 59 k59 w.heap.size) 29 w34 w.heap.size (fun k_ => (Qx k_ ∨ w.heap.size ≤ k_) ∧ some k_ ≠ (jC Wx Tx.length Xx).ownBlock ∧ some k_ ≠ (Ux : Value).ownBlock ∧ some k_ ≠ (jC Kx Bx.length Lx).ownBlock ∧ some k_ ≠ (jC Fx Ax.length Gx).ownBlock ∧ k_ ≠ Ex ∧ k_ ≠ Dx) ex Sy) := ⟨Hy⟩
          have tx : Aside0 (Kd.R (Kd.int .i64) 3 w34 w.heap.size (fun k_ => (w.heap.size ≤ k_) ∧ some k_ ≠ (jC Wx Tx.length Xx).ownBlock ∧ some k_ ≠ (jC Fx Ax.length Gx).ownBlock) Ux ox) := ⟨Iy⟩
          have zx : Aside0 (Kd.U k59 59 w34 w.heap.size (fun k_ => (Qx k_ ∨ w.heap.size ≤ k_) ∧ some k_ ≠ (jC Wx Tx.length Xx).ownBlock ∧ some k_ ≠ (bx : Value).ownBlock ∧ some k_ ≠ (ex : Value).ownBlock ∧ some k_ ≠ (Ux : Value).ownBlock ∧ some k_ ≠ (jC Kx Bx.length Lx).ownBlock ∧ some k_ ≠ (jC Fx Ax.length Gx).ownBlock ∧ k_ ≠ Ex ∧ k_ ≠ Dx) (.slice Ny mx.length Oy) mx) := ⟨Jy⟩
          have Ay : Aside0 (Kd.N (Kd.slice 3 (Kd.int .i64)) 22 w34 w.heap.size (fun k_ => (Qx k_ ∨ w.heap.size ≤ k_) ∧ some k_ ≠ (jC Wx Tx.length Xx).ownBlock ∧ some k_ ≠ (bx : Value).ownBlock ∧ some k_ ≠ (ex : Value).ownBlock ∧ some k_ ≠ (Ux : Value).ownBlock ∧ some k_ ≠ (jC Fx Ax.length Gx).ownBlock ∧ k_ ≠ Ex ∧ k_ ≠ Dx) (.slice Kx Bx.length Lx) Bx) := ⟨Ky⟩
          have By : Aside0 (Kd.R (Kd.int .i64) 3 w34 w.heap.size (fun k_ => (w.heap.size ≤ k_) ∧ some k_ ≠ (jC Wx Tx.length Xx).ownBlock ∧ some k_ ≠ (Ux : Value).ownBlock) (.slice Fx Ax.length Gx) Ax) := ⟨Ly⟩
          have Cy : Aside0 (w34.heap[Ex]? = some (.cells #[.slice none 0 0, .slice none 0 0, .slice none 0 0] 79 (0, 0))) := ⟨My⟩
          have Ry : Aside0 (w34.heap[Dx]? = some (.cells #[.slice Nx Cx.length Ox, .slice Kx Bx.length Lx, .slice Fx Ax.length Gx] 79 (0, 0))) := ⟨Qy⟩
          have dy : Aside0 (Below w.heap.size w w34) := ⟨cy⟩
          clear Zx Mx Ix Hx Sx dx Px Jx HB Ey Fy Gy Hy Iy Jy Ky Ly My Qy cy
          have Sx := px
          have dx := qx
          have Yx := rx
          have lx := sx
          have jx := tx
          have Zx := zx
          have Ix := Ay
          have Hx := By
          have Px := Cy
          have Jx := Ry
          have HB := dy
          clear px qx rx sx tx zx Ay By Cy Ry dy
          have fx : w34.cell? ⟨Dx, 0, none⟩ = some (.slice Nx Cx.length Ox) ∧ w34.cell? ⟨Dx, 1, none⟩ = some (.slice Kx Bx.length Lx) ∧ w34.cell? ⟨Dx, 2, none⟩ = some (.slice Fx Ax.length Gx) := hS_
          refine norm_ (a' := ?_) ?_ ?_
          rotate_left
          ·
           simp only [fC, Act.put, gC, hC, iC]
           rfl
          refine one_ (i := 8) (N := some 36) #[kC, kC, kC, kC, kC, kC, kC, kC, kC, lC, kC, kC, kC, kC, lC, kC, lC, lC, lC, lC, lC] rfl rfl (one_of HT_.out (by kernel_rfl)) (by decide) (fun K hK => ?_)
          refine kA (Kd.slice 3 (Kd.int .i64)) _ 22 ?hg (N' := 36) ?hd (xs := ([Tx] : List (List Int))) (inner := [.slice Wx Tx.length Xx]) (ok := (fun k_ => (Qx k_ ∨ w.heap.size ≤ k_) ∧ some k_ ≠ (jC Kx Bx.length Lx).ownBlock ∧ some k_ ≠ (jC Fx Ax.length Gx).ownBlock ∧ some k_ ≠ (bx : Value).ownBlock ∧ some k_ ≠ (ex : Value).ownBlock ∧ some k_ ≠ (Ux : Value).ownBlock ∧ k_ ≠ Ex ∧ k_ ≠ Dx)) (okp := (fun k_ => (Qx k_ ∨ w.heap.size ≤ k_) ∧ some k_ ≠ (jC Kx Bx.length Lx).ownBlock ∧ some k_ ≠ (jC Fx Ax.length Gx).ownBlock ∧ some k_ ≠ (bx : Value).ownBlock ∧ some k_ ≠ (ex : Value).ownBlock ∧ some k_ ≠ (Ux : Value).ownBlock ∧ k_ ≠ Ex ∧ k_ ≠ Dx)) ?hr ?hp (fun _ hk => hk) ((show ∀ k_, w34.heap.size ≤ k_ → (fun k_ => (Qx k_ ∨ w.heap.size ≤ k_) ∧ some k_ ≠ (jC Kx Bx.length Lx).ownBlock ∧ some k_ ≠ (jC Fx Ax.length Gx).ownBlock ∧ some k_ ≠ (bx : Value).ownBlock ∧ some k_ ≠ (ex : Value).ownBlock ∧ some k_ ≠ (Ux : Value).ownBlock ∧ k_ ≠ Ex ∧ k_ ≠ Dx) k_ from fun k_ hk => ⟨(.inr (Nat.le_trans (yB (by repeat (first | (with_reducible first | exact HB.out | apply uB | apply vB | apply wB | refine xB ?_ Rx.out | refine xB ?_ Vx.out) | exact HB.out))) hk)), Kd.fresh' (mA (by (with_reducible repeat (first | apply dA | apply hA | apply gA)); exact Ix.out)) k_ hk, Kd.fresh' (dB (by (with_reducible repeat (first | apply sA | apply xA | apply wA)); exact Hx.out)) k_ hk, Kd.fresh' (mA (by (with_reducible repeat (first | apply dA | apply hA | apply gA)); exact Yx.out)) k_ hk, Kd.fresh' (mA (by (with_reducible repeat (first | apply dA | apply hA | apply gA)); exact lx.out)) k_ hk, Kd.fresh' (dB (by (with_reducible repeat (first | apply sA | apply xA | apply wA)); exact jx.out)) k_ hk, Kd.freshB (g := Ex) (o := .cells #[.slice none 0 0, .slice none 0 0, .slice none 0 0] 79 (0, 0)) (by (with_reducible repeat (first | refine aC ?_ _ | refine bC ?_ | refine cC ?_ _)); exact Px.out) k_ hk, Kd.freshB (g := Dx) (o := .cells #[.slice Nx Cx.length Ox, .slice Kx Bx.length Lx, .slice Fx Ax.length Gx] 79 (0, 0)) (by (with_reducible repeat (first | refine aC ?_ _ | refine bC ?_ | refine cC ?_ _)); exact Jx.out) k_ hk⟩) _ (Nat.le_refl _)) (Below.refl _ _) (Nat.le_refl _) (by simp) ?_; (case hd => rfl); (case hg => rfl); (case hr => first | (go_simp; done) | (go_simp; rfl)); (case hp => exact (Reps.one (show Kd.FK (Kd.slice 3 (Kd.int .i64)) _ _ Tx [.slice Wx Tx.length Xx] from (aA (iB (eB (ok' := (fun k_ => (Qx k_ ∨ w.heap.size ≤ k_) ∧ some k_ ≠ (jC Kx Bx.length Lx).ownBlock ∧ some k_ ≠ (jC Fx Ax.length Gx).ownBlock ∧ some k_ ≠ (bx : Value).ownBlock ∧ some k_ ≠ (ex : Value).ownBlock ∧ some k_ ≠ (Ux : Value).ownBlock ∧ k_ ≠ Ex ∧ k_ ≠ Dx)) (kB (kB (tA (tA (tA (dx.out) (qA Ix.out) (by decide)) (qA Yx.out) (by decide)) (qA lx.out) (by decide)) Px.out (by decide)) Jx.out (by decide)) (fun k_ hk => ⟨(.inr (hk.1.1.1.1.1.1)), hk.1.1.1.1.2, hk.1.1.1.1.1.2.2, hk.1.1.1.2, hk.1.1.2, hk.1.1.1.1.1.2.1, hk.1.2, hk.2⟩))).2.1 (rA (eB (ok' := (fun k_ => (Qx k_ ∨ w.heap.size ≤ k_) ∧ some k_ ≠ (jC Kx Bx.length Lx).ownBlock ∧ some k_ ≠ (jC Fx Ax.length Gx).ownBlock ∧ some k_ ≠ (bx : Value).ownBlock ∧ some k_ ≠ (ex : Value).ownBlock ∧ some k_ ≠ (Ux : Value).ownBlock ∧ k_ ≠ Ex ∧ k_ ≠ Dx)) (kB (kB (tA (tA (tA (dx.out) (qA Ix.out) (by decide)) (qA Yx.out) (by decide)) (qA lx.out) (by decide)) Px.out (by decide)) Jx.out (by decide)) (fun k_ hk => ⟨(.inr (hk.1.1.1.1.1.1)), hk.1.1.1.1.2, hk.1.1.1.1.1.2.2, hk.1.1.1.2, hk.1.1.2, hk.1.1.1.1.1.2.1, hk.1.2, hk.2⟩))))) (Reps.none _ _)))
          intro cx w35 ho36 hb hg_ hnew_
          clear hg_ hnew_
          (first | rw [← Xy.out] at ho36 | (simp only [Int.reduceToNat] at ho36; rw [← Xy.out] at ho36))
          replace Zx := Aside0.mk (qB (by (with_reducible repeat (first | apply nB | apply pB | apply oB)); exact Zx.out) (fA ho36) hb)
          replace Ix := Aside0.mk (iA (by (with_reducible repeat (first | apply dA | apply hA | apply gA)); exact Ix.out) (fA ho36) hb)
          replace Hx := Aside0.mk (vA (by (with_reducible repeat (first | apply sA | apply xA | apply wA)); exact Hx.out) hb)
          replace Sx := Aside0.mk (qB (by (with_reducible repeat (first | apply nB | apply pB | apply oB)); exact Sx.out) (fA ho36) hb)
          replace Yx := Aside0.mk (iA (by (with_reducible repeat (first | apply dA | apply hA | apply gA)); exact Yx.out) (fA ho36) hb)
          replace lx := Aside0.mk (iA (by (with_reducible repeat (first | apply dA | apply hA | apply gA)); exact lx.out) (fA ho36) hb)
          replace jx := Aside0.mk (vA (by (with_reducible repeat (first | apply sA | apply xA | apply wA)); exact jx.out) hb)
          have ix := Aside0.mk (lA ho36 (yB (by repeat (first | (with_reducible first | exact HB.out | apply uB | apply vB | apply wB | refine xB ?_ Rx.out | refine xB ?_ Vx.out) | exact HB.out))))
          replace Px := Aside0.mk (eC (g := Ex) (o := .cells #[.slice none 0 0, .slice none 0 0, .slice none 0 0] 79 (0, 0)) (by (with_reducible repeat (first | refine aC ?_ _ | refine bC ?_ | refine cC ?_ _)); exact Px.out) hb)
          replace Jx := Aside0.mk (eC (g := Dx) (o := .cells #[.slice Nx Cx.length Ox, .slice Kx Bx.length Lx, .slice Fx Ax.length Gx] 79 (0, 0)) (by (with_reducible repeat (first | refine aC ?_ _ | refine bC ?_ | refine cC ?_ _)); exact Jx.out) hb)
          replace HB := Aside0.mk (zB (by repeat (first | (with_reducible first | exact HB.out | apply uB | apply vB | apply wB | refine xB ?_ Rx.out | refine xB ?_ Vx.out) | exact HB.out)) hb)
          clear dx hb ho36
          refine hK.out _ _ ⟨(dC Jx.out 0).trans rfl, (dC Jx.out 1).trans rfl, (dC Jx.out 2).trans rfl⟩ (fun fx => ?_)
          clear hK K
          refine norm_ (a' := ?_) ?_ ?_
          rotate_left
          ·
           show Act.put _ (some 36) _ = _
           simp only [Act.put, gC, hC, iC, i64_w, i32_w]
           rfl
          exact norm_ (by first | (simp only [fC, Act.put, gC, hC, iC]; done) | (simp only [fC, Act.put, gC, hC, iC]; rfl)) (my (bx, ex, cx, Ux) _ ⟨fx, (sB Sx.out (fun _ hk => ⟨hk.1.1, hk.1.2.2.1, hk.1.2.2.2.1, hk.2, hk.1.2.2.2.2.1, hk.1.2.2.2.2.2.1, hk.1.2.2.2.2.2.2.1, hk.1.2.2.2.2.2.2.2.1, hk.1.2.2.2.2.2.2.2.2⟩)), (nA Yx.out (fun _ hk => ⟨hk.1.1, hk.1.2.2.1, hk.2, hk.1.2.2.2.1, hk.1.2.2.2.2.1, hk.1.2.2.2.2.2.1, hk.1.2.2.2.2.2.2.1, hk.1.2.2.2.2.2.2.2⟩)), (nA lx.out (fun _ hk => ⟨hk.1.1, hk.2, hk.1.2.2.1, hk.1.2.2.2.1, hk.1.2.2.2.2.1, hk.1.2.2.2.2.2.1, hk.1.2.2.2.2.2.2⟩)), (nA ix.out (fun _ hk => ⟨hk.1, hk.2.2.2.1, hk.2.2.2.2.1, hk.2.2.2.2.2.1, hk.2.1, hk.2.2.1, hk.2.2.2.2.2.2.1, hk.2.2.2.2.2.2.2⟩)), (eB jx.out (fun _ hk => ⟨hk.1, hk.2.2⟩)), (sB Zx.out (fun _ hk => ⟨hk.1.1, hk.1.2.2.1, hk.1.2.2.2.1, hk.2, hk.1.2.2.2.2.1, hk.1.2.2.2.2.2.1, hk.1.2.2.2.2.2.2.1, hk.1.2.2.2.2.2.2.2.1, hk.1.2.2.2.2.2.2.2.2⟩)), (nA Ix.out (fun _ hk => ⟨hk.1.1, hk.1.2.2.1, hk.1.2.2.2.1, hk.2, hk.1.2.2.2.2.1, hk.1.2.2.2.2.2.1, hk.1.2.2.2.2.2.2.1, hk.1.2.2.2.2.2.2.2⟩)), (eB Hx.out (fun _ hk => ⟨hk.1, hk.2.2⟩)), Px.out, Jx.out, (HB.out)⟩)
         ·
          skip
          rintro ⟨bx, cx, Ux⟩ w34 ⟨hS_, Ey, Fy, Gy, Hy, Iy, Jy, Ky, Ly, My, Qy, cy⟩
          have px : Aside0 (Kd.U k59 59 w34 w.heap.size (fun k_ => (Qx k_ ∨ w.heap.size ≤ k_) ∧ some k_ ≠ (bx : Value).ownBlock ∧ some k_ ≠ (cx : Value).ownBlock ∧ some k_ ≠ (Ux : Value).ownBlock ∧ some k_ ≠ (jC Nx Cx.length Ox).ownBlock ∧ some k_ ≠ (jC Kx Bx.length Lx).ownBlock ∧ some k_ ≠ (jC Fx Ax.length Gx).ownBlock ∧ k_ ≠ Ex ∧ k_ ≠ Dx) (.slice xx gx.length yx) gx) := ⟨Ey⟩
          have qx : Aside0 (Kd.N (Kd.os 59 k59 w.heap.size) 29 w34 w.heap.size (fun k_ => (Qx k_ ∨ w.heap.size ≤ k_) ∧ some k_ ≠ (cx : Value).ownBlock ∧ some k_ ≠ (Ux : Value).ownBlock ∧ some k_ ≠ (jC Nx Cx.length Ox).ownBlock ∧ some k_ ≠ (jC Kx Bx.length Lx).ownBlock ∧ some k_ ≠ (jC Fx Ax.length Gx).ownBlock ∧ k_ ≠ Ex ∧ k_ ≠ Dx) bx kx) := ⟨Fy⟩
          have rx : Aside0 (Kd.N (Kd.slice 3 (Kd.int .i64)) 22 w34 w.heap.size (fun k_ => (Qx k_ ∨ w.heap.size ≤ k_) ∧ some k_ ≠ (bx : Value).ownBlock ∧ some k_ ≠ (Ux : Value).ownBlock ∧ some k_ ≠ (jC Nx Cx.length Ox).ownBlock ∧ some k_ ≠ (jC Kx Bx.length Lx).ownBlock ∧ some k_ ≠ (jC Fx Ax.length Gx).ownBlock ∧ k_ ≠ Ex ∧ k_ ≠ Dx) cx nx) := ⟨Gy⟩
          have sx : Aside0 (Kd.R (Kd.int .i64) 3 w34 w.heap.size (fun k_ => (w.heap.size ≤ k_) ∧ some k_ ≠ (jC Fx Ax.length Gx).ownBlock) Ux ox) := ⟨Hy⟩
          have tx : Aside0 (Kd.U k59 59 w34 w.heap.size (fun k_ => (Qx k_ ∨ w.heap.size ≤ k_) ∧ some k_ ≠ (bx : Value).ownBlock ∧ some k_ ≠ (cx : Value).ownBlock ∧ some k_ ≠ (Ux : Value).ownBlock ∧ some k_ ≠ (jC Nx Cx.length Ox).ownBlock ∧ some k_ ≠ (jC Kx Bx.length Lx).ownBlock ∧ some k_ ≠ (jC Fx Ax.length Gx).ownBlock ∧ k_ ≠ Ex ∧ k_ ≠ Dx) (.slice Ny mx.length Oy) mx) := ⟨Iy⟩
          have zx : Aside0 (Kd.N (Kd.os 59 k59 w.heap.size) 29 w34 w.heap.size (fun k_ => (Qx k_ ∨ w.heap.size ≤ k_) ∧ some k_ ≠ (bx : Value).ownBlock ∧ some k_ ≠ (cx : Value).ownBlock ∧ some k_ ≠ (Ux : Value).ownBlock ∧ some k_ ≠ (jC Kx Bx.length Lx).ownBlock ∧ some k_ ≠ (jC Fx Ax.length Gx).ownBlock ∧ k_ ≠ Ex ∧ k_ ≠ Dx) (.slice Nx Cx.length Ox) Cx) := ⟨Jy⟩
          have Ay : Aside0 (Kd.N (Kd.slice 3 (Kd.int .i64)) 22 w34 w.heap.size (fun k_ => (Qx k_ ∨ w.heap.size ≤ k_) ∧ some k_ ≠ (bx : Value).ownBlock ∧ some k_ ≠ (cx : Value).ownBlock ∧ some k_ ≠ (Ux : Value).ownBlock ∧ some k_ ≠ (jC Nx Cx.length Ox).ownBlock ∧ some k_ ≠ (jC Fx Ax.length Gx).ownBlock ∧ k_ ≠ Ex ∧ k_ ≠ Dx) (.slice Kx Bx.length Lx) Bx) := ⟨Ky⟩
          have By : Aside0 (Kd.R (Kd.int .i64) 3 w34 w.heap.size (fun k_ => (w.heap.size ≤ k_) ∧ some k_ ≠ (Ux : Value).ownBlock) (.slice Fx Ax.length Gx) Ax) := ⟨Ly⟩
          have Cy : Aside0 (w34.heap[Ex]? = some (.cells #[.slice none 0 0, .slice none 0 0, .slice none 0 0] 79 (0, 0))) := ⟨My⟩
          have Ry : Aside0 (w34.heap[Dx]? = some (.cells #[.slice Nx Cx.length Ox, .slice Kx Bx.length Lx, .slice Fx Ax.length Gx] 79 (0, 0))) := ⟨Qy⟩
          have dy : Aside0 (Below w.heap.size w w34) := ⟨cy⟩
          clear Zx Mx Ix Hx Sx dx Px Jx HB Ey Fy Gy Hy Iy Jy Ky Ly My Qy cy
          have Sx := px
          have Yx := qx
          have ix := rx
          have jx := sx
          have Zx := tx
          have Mx := zx
          have Ix := Ay
          have Hx := By
          have Px := Cy
          have Jx := Ry
          have HB := dy
          clear px qx rx sx tx zx Ay By Cy Ry dy
          have fx : w34.cell? ⟨Dx, 0, none⟩ = some (.slice Nx Cx.length Ox) ∧ w34.cell? ⟨Dx, 1, none⟩ = some (.slice Kx Bx.length Lx) ∧ w34.cell? ⟨Dx, 2, none⟩ = some (.slice Fx Ax.length Gx) := hS_
          obtain ⟨fy, gy, eo36⟩ := pA Yx.out
          (first | subst eo36 | (injection eo36 with f1_ f2_ f3_; have f4_ := f1_.symm; have f5_ := f3_.symm; clear f1_ f2_ f3_; subst f4_; subst f5_))
          refine norm_ (a' := ?_) ?_ ?_
          rotate_left
          ·
           simp only [fC, Act.put, gC, hC, iC]
           rfl
          refine one_ (i := 4) (N := some 32) #[kC, kC, kC, kC, kC, kC, kC, kC, kC, lC, kC, kC, kC, kC, lC, lC, lC, lC, lC, lC, lC] rfl rfl (one_of HT_.out (by kernel_rfl)) (by decide) (fun K hK => ?_)
          refine eA (Kd.os 59 k59 w.heap.size) (w0 := w) w.heap.size (by rfl) (.tmp 29) (.tmp 31) 74 29 (.slice none 0 0) 24 rfl Try.underlying74 info29 rfl (show 0 < 1 by decide) (by omega) (.slice Nx Cx.length Ox) Cx kx _ _ _ (fun k_ => (Qx k_ ∨ w.heap.size ≤ k_) ∧ some k_ ≠ (jC Kx Bx.length Lx).ownBlock ∧ some k_ ≠ (jC Fx Ax.length Gx).ownBlock ∧ some k_ ≠ (cx : Value).ownBlock ∧ some k_ ≠ (Ux : Value).ownBlock ∧ k_ ≠ Ex ∧ k_ ≠ Dx) (fun k_ => ((fun k_ => (Qx k_ ∨ w.heap.size ≤ k_) ∧ some k_ ≠ (jC Kx Bx.length Lx).ownBlock ∧ some k_ ≠ (jC Fx Ax.length Gx).ownBlock ∧ some k_ ≠ (cx : Value).ownBlock ∧ some k_ ≠ (Ux : Value).ownBlock ∧ k_ ≠ Ex ∧ k_ ≠ Dx)) k_ ∧ some k_ ≠ (jC Nx Cx.length Ox).ownBlock) rfl rfl ?aO ?aR (fun _ hk => hk) ?aF ?aB ?aS ?aL ?_
          (case aR => exact (by skip; exact bA (nA (ok' := (fun k_ => ((fun k_ => (Qx k_ ∨ w.heap.size ≤ k_) ∧ some k_ ≠ (jC Kx Bx.length Lx).ownBlock ∧ some k_ ≠ (jC Fx Ax.length Gx).ownBlock ∧ some k_ ≠ (cx : Value).ownBlock ∧ some k_ ≠ (Ux : Value).ownBlock ∧ k_ ≠ Ex ∧ k_ ≠ Dx)) k_ ∧ some k_ ≠ (jC Nx Cx.length Ox).ownBlock)) (Yx.out) (fun k_ hk => ⟨⟨hk.1, hk.2.2.2.2.1, hk.2.2.2.2.2.1, hk.2.1, hk.2.2.1, hk.2.2.2.2.2.2.1, hk.2.2.2.2.2.2.2⟩, hk.2.2.2.1⟩))))
          (case aB => exact (by repeat (first | (with_reducible first | exact HB.out | apply uB | apply vB | apply wB | refine xB ?_ Rx.out | refine xB ?_ Vx.out) | exact HB.out)))
          (case aF => exact (fun k_ hk => ⟨(.inr (Nat.le_trans (yB (by repeat (first | (with_reducible first | exact HB.out | apply uB | apply vB | apply wB | refine xB ?_ Rx.out | refine xB ?_ Vx.out) | exact HB.out))) hk)), Kd.fresh' (mA (by (with_reducible repeat (first | apply dA | apply hA | apply gA)); exact Ix.out)) k_ hk, Kd.fresh' (dB (by (with_reducible repeat (first | apply sA | apply xA | apply wA)); exact Hx.out)) k_ hk, Kd.fresh' (mA (by (with_reducible repeat (first | apply dA | apply hA | apply gA)); exact ix.out)) k_ hk, Kd.fresh' (dB (by (with_reducible repeat (first | apply sA | apply xA | apply wA)); exact jx.out)) k_ hk, Kd.freshB (g := Ex) (o := .cells #[.slice none 0 0, .slice none 0 0, .slice none 0 0] 79 (0, 0)) (by (with_reducible repeat (first | refine aC ?_ _ | refine bC ?_ | refine cC ?_ _)); exact Px.out) k_ hk, Kd.freshB (g := Dx) (o := .cells #[.slice Nx Cx.length Ox, .slice Kx Bx.length Lx, .slice Fx Ax.length Gx] 79 (0, 0)) (by (with_reducible repeat (first | refine aC ?_ _ | refine bC ?_ | refine cC ?_ _)); exact Jx.out) k_ hk⟩))
          (case aO => exact (by (with_reducible repeat (first | apply dA | apply hA | apply gA)); exact nA Mx.out (fun _ hk => ⟨hk.1, hk.2.2.2.2.1, hk.2.2.2.2.2.1, hk.2.2.1, hk.2.2.2.1, hk.2.2.2.2.2.2.1, hk.2.2.2.2.2.2.2⟩)))
          (case aS => exact (yB (by repeat (first | (with_reducible first | exact HB.out | apply uB | apply vB | apply wB | refine xB ?_ Rx.out | refine xB ?_ Vx.out) | exact HB.out))))
          (case aL => have := Ez.out; omega)
          intro ex w35 ho hb hg hat
          rw [← Fz.out] at ho
          replace Zx := Aside0.mk (mB (ok := (fun k_ => (Qx k_ ∨ w.heap.size ≤ k_) ∧ some k_ ≠ (jC Kx Bx.length Lx).ownBlock ∧ some k_ ≠ (jC Fx Ax.length Gx).ownBlock ∧ some k_ ≠ (jC fy kx.length gy).ownBlock ∧ some k_ ≠ (cx : Value).ownBlock ∧ some k_ ≠ (Ux : Value).ownBlock ∧ k_ ≠ Ex ∧ k_ ≠ Dx)) (by (with_reducible repeat (first | apply nB | apply pB | apply oB)); exact sB Zx.out (fun _ hk => ⟨⟨hk.1, hk.2.2.2.2.2.1, hk.2.2.2.2.2.2.1, hk.2.1, hk.2.2.1, hk.2.2.2.1, hk.2.2.2.2.2.2.2.1, hk.2.2.2.2.2.2.2.2⟩, hk.2.2.2.2.1⟩)) hg hat)
          replace Ix := Aside0.mk (cA (ok := (fun k_ => (Qx k_ ∨ w.heap.size ≤ k_) ∧ some k_ ≠ (jC Fx Ax.length Gx).ownBlock ∧ some k_ ≠ (jC fy kx.length gy).ownBlock ∧ some k_ ≠ (cx : Value).ownBlock ∧ some k_ ≠ (Ux : Value).ownBlock ∧ k_ ≠ Ex ∧ k_ ≠ Dx)) (by (with_reducible repeat (first | apply dA | apply hA | apply gA)); exact nA Ix.out (fun _ hk => ⟨⟨hk.1, hk.2.2.2.2.2.1, hk.2.1, hk.2.2.1, hk.2.2.2.1, hk.2.2.2.2.2.2.1, hk.2.2.2.2.2.2.2⟩, hk.2.2.2.2.1⟩)) hg hat)
          replace Hx := Aside0.mk (hB (by (with_reducible repeat (first | apply sA | apply xA | apply wA)); exact Hx.out) (qA (by (with_reducible repeat (first | apply dA | apply hA | apply gA)); exact Mx.out)) (by decide) hg)
          replace Px := Aside0.mk (blk_grown (g := Ex) (o := .cells #[.slice none 0 0, .slice none 0 0, .slice none 0 0] 79 (0, 0)) (by (with_reducible repeat (first | refine aC ?_ _ | refine bC ?_ | refine cC ?_ _)); exact Px.out) hg (oA Mx.out Px.out (by decide)))
          replace Jx := Aside0.mk (blk_grown (g := Dx) (o := .cells #[.slice Nx Cx.length Ox, .slice Kx Bx.length Lx, .slice Fx Ax.length Gx] 79 (0, 0)) (by (with_reducible repeat (first | refine aC ?_ _ | refine bC ?_ | refine cC ?_ _)); exact Jx.out) hg (oA Mx.out Jx.out (by decide)))
          replace Sx := Aside0.mk (mB (ok := (fun k_ => (Qx k_ ∨ w.heap.size ≤ k_) ∧ some k_ ≠ (jC Kx Bx.length Lx).ownBlock ∧ some k_ ≠ (jC Fx Ax.length Gx).ownBlock ∧ some k_ ≠ (jC fy kx.length gy).ownBlock ∧ some k_ ≠ (cx : Value).ownBlock ∧ some k_ ≠ (Ux : Value).ownBlock ∧ k_ ≠ Ex ∧ k_ ≠ Dx)) (by (with_reducible repeat (first | apply nB | apply pB | apply oB)); exact sB Sx.out (fun _ hk => ⟨⟨hk.1, hk.2.2.2.2.2.1, hk.2.2.2.2.2.2.1, hk.2.1, hk.2.2.1, hk.2.2.2.1, hk.2.2.2.2.2.2.2.1, hk.2.2.2.2.2.2.2.2⟩, hk.2.2.2.2.1⟩)) hg hat)
          replace Yx := Aside0.mk (cA (ok := (fun k_ => (Qx k_ ∨ w.heap.size ≤ k_) ∧ some k_ ≠ (jC Kx Bx.length Lx).ownBlock ∧ some k_ ≠ (jC Fx Ax.length Gx).ownBlock ∧ some k_ ≠ (cx : Value).ownBlock ∧ some k_ ≠ (Ux : Value).ownBlock ∧ k_ ≠ Ex ∧ k_ ≠ Dx)) (by (with_reducible repeat (first | apply dA | apply hA | apply gA)); exact nA Yx.out (fun _ hk => ⟨⟨hk.1, hk.2.2.2.2.1, hk.2.2.2.2.2.1, hk.2.1, hk.2.2.1, hk.2.2.2.2.2.2.1, hk.2.2.2.2.2.2.2⟩, hk.2.2.2.1⟩)) hg hat)
          replace ix := Aside0.mk (cA (ok := (fun k_ => (Qx k_ ∨ w.heap.size ≤ k_) ∧ some k_ ≠ (jC Kx Bx.length Lx).ownBlock ∧ some k_ ≠ (jC Fx Ax.length Gx).ownBlock ∧ some k_ ≠ (jC fy kx.length gy).ownBlock ∧ some k_ ≠ (Ux : Value).ownBlock ∧ k_ ≠ Ex ∧ k_ ≠ Dx)) (by (with_reducible repeat (first | apply dA | apply hA | apply gA)); exact nA ix.out (fun _ hk => ⟨⟨hk.1, hk.2.2.2.2.1, hk.2.2.2.2.2.1, hk.2.1, hk.2.2.1, hk.2.2.2.2.2.2.1, hk.2.2.2.2.2.2.2⟩, hk.2.2.2.1⟩)) hg hat)
          replace jx := Aside0.mk (hB (by (with_reducible repeat (first | apply sA | apply xA | apply wA)); exact jx.out) (qA (by (with_reducible repeat (first | apply dA | apply hA | apply gA)); exact Mx.out)) (by decide) hg)
          replace HB := Aside0.mk (hb)
          have lx := Aside0.mk (ho)
          clear Mx ho hb hg hat
          refine hK.out _ _ ⟨(dC Jx.out 0).trans rfl, (dC Jx.out 1).trans rfl, (dC Jx.out 2).trans rfl⟩ (fun fx => ?_)
          clear hK K
          refine norm_ (a' := ?_) ?_ ?_
          rotate_left
          ·
           show Act.put _ (some 32) _ = _
           simp only [Act.put, gC, hC, iC, i64_w, i32_w]
           rfl
          refine pure_ (i := 15) (N := some 43) (v := ?_) (a' := ?_) #[kC, kC, kC, kC, kC, kC, kC, kC, kC, lC, kC, kC, kC, kC, lC, kC, lC, lC, lC, lC, lC] rfl rfl (any_of HT_.out (by kernel_rfl)) (fun _ _ _ h => h) (Or.inl ⟨by rfl, ?_⟩) ?_ ?_
          rotate_left
          ·
           intro w'
           go_simp
           with_reducible rfl
          rotate_left
          ·
           simp only [Act.put, gC, hC, iC, i64_w, i32_w]
           rfl
          exact norm_ (by first | (simp only [fC, Act.put, gC, hC, iC]; done) | (simp only [fC, Act.put, gC, hC, iC]; rfl)) (my (.slice fy kx.length gy, ex, cx, Ux) _ ⟨fx, (sB Sx.out (fun _ hk => ⟨hk.1.1, hk.1.2.2.2.1, hk.2, hk.1.2.2.2.2.1, hk.1.2.2.2.2.2.1, hk.1.2.1, hk.1.2.2.1, hk.1.2.2.2.2.2.2.1, hk.1.2.2.2.2.2.2.2⟩)), (nA Yx.out (fun _ hk => ⟨hk.1.1, hk.2, hk.1.2.2.2.1, hk.1.2.2.2.2.1, hk.1.2.1, hk.1.2.2.1, hk.1.2.2.2.2.2.1, hk.1.2.2.2.2.2.2⟩)), (nA lx.out (fun _ hk => ⟨hk.1, hk.2.2.2.1, hk.2.2.2.2.1, hk.2.1, hk.2.2.1, hk.2.2.2.2.2.1, hk.2.2.2.2.2.2⟩)), (nA ix.out (fun _ hk => ⟨hk.1.1, hk.1.2.2.2.1, hk.2, hk.1.2.2.2.2.1, hk.1.2.1, hk.1.2.2.1, hk.1.2.2.2.2.2.1, hk.1.2.2.2.2.2.2⟩)), jx.out, (sB Zx.out (fun _ hk => ⟨hk.1.1, hk.1.2.2.2.1, hk.2, hk.1.2.2.2.2.1, hk.1.2.2.2.2.2.1, hk.1.2.1, hk.1.2.2.1, hk.1.2.2.2.2.2.2.1, hk.1.2.2.2.2.2.2.2⟩)), (nA Ix.out (fun _ hk => ⟨hk.1.1, hk.1.2.2.1, hk.2, hk.1.2.2.2.1, hk.1.2.2.2.2.1, hk.1.2.1, hk.1.2.2.2.2.2.1, hk.1.2.2.2.2.2.2⟩)), Hx.out, Px.out, Jx.out, (HB.out)⟩)
         ·
          skip
          rintro ⟨bx, ex⟩ w32 ⟨hS_, Ey, Fy, Gy, Hy, Iy, Jy, Ky, Ly, My, Qy⟩
          have px : Aside0 (Kd.U k59 59 w32 w.heap.size (fun k_ => (Qx k_ ∨ w.heap.size ≤ k_) ∧ some k_ ≠ (jC Wx Tx.length Xx).ownBlock ∧ some k_ ≠ (bx : Value).ownBlock ∧ some k_ ≠ (ex : Value).ownBlock ∧ some k_ ≠ (jC Kx Bx.length Lx).ownBlock ∧ some k_ ≠ (jC Fx Ax.length Gx).ownBlock ∧ k_ ≠ Ex ∧ k_ ≠ Dx) (.slice xx gx.length yx) gx) := ⟨Ey⟩
          have qx : Aside0 (Kd.R (Kd.int .i64) 3 w32 w.heap.size (fun k_ => (w.heap.size ≤ k_) ∧ some k_ ≠ (jC Fx Ax.length Gx).ownBlock) (.slice Wx Tx.length Xx) Tx) := ⟨Fy⟩
          have rx : Aside0 (Kd.N (Kd.os 59 k59 w.heap.size) 29 w32 w.heap.size (fun k_ => (Qx k_ ∨ w.heap.size ≤ k_) ∧ some k_ ≠ (jC Wx Tx.length Xx).ownBlock ∧ some k_ ≠ (ex : Value).ownBlock ∧ some k_ ≠ (jC Kx Bx.length Lx).ownBlock ∧ some k_ ≠ (jC Fx Ax.length Gx).ownBlock ∧ k_ ≠ Ex ∧ k_ ≠ Dx) bx kx) := ⟨Gy⟩
          have sx : Aside0 (Kd.N (Kd.os 59 k59 w.heap.size) 29 w32 w.heap.size (fun k_ => (Qx k_ ∨ w.heap.size ≤ k_) ∧ some k_ ≠ (jC Wx Tx.length Xx).ownBlock ∧ some k_ ≠ (jC Kx Bx.length Lx).ownBlock ∧ some k_ ≠ (jC Fx Ax.length Gx).ownBlock ∧ k_ ≠ Ex ∧ k_ ≠ Dx) ex Sy) := ⟨Hy⟩
          have tx : Aside0 (Kd.U k59 59 w32 w.heap.size (fun k_ => (Qx k_ ∨ w.heap.size ≤ k_) ∧ some k_ ≠ (jC Wx Tx.length Xx).ownBlock ∧ some k_ ≠ (bx : Value).ownBlock ∧ some k_ ≠ (ex : Value).ownBlock ∧ some k_ ≠ (jC Kx Bx.length Lx).ownBlock ∧ some k_ ≠ (jC Fx Ax.length Gx).ownBlock ∧ k_ ≠ Ex ∧ k_ ≠ Dx) (.slice Ny mx.length Oy) mx) := ⟨Iy⟩
          have zx : Aside0 (Kd.N (Kd.slice 3 (Kd.int .i64)) 22 w32 w.heap.size (fun k_ => (Qx k_ ∨ w.heap.size ≤ k_) ∧ some k_ ≠ (jC Wx Tx.length Xx).ownBlock ∧ some k_ ≠ (bx : Value).ownBlock ∧ some k_ ≠ (ex : Value).ownBlock ∧ some k_ ≠ (jC Fx Ax.length Gx).ownBlock ∧ k_ ≠ Ex ∧ k_ ≠ Dx) (.slice Kx Bx.length Lx) Bx) := ⟨Jy⟩
          have Ay : Aside0 (Kd.R (Kd.int .i64) 3 w32 w.heap.size (fun k_ => (w.heap.size ≤ k_) ∧ some k_ ≠ (jC Wx Tx.length Xx).ownBlock) (.slice Fx Ax.length Gx) Ax) := ⟨Ky⟩
          have By : Aside0 (w32.heap[Ex]? = some (.cells #[.slice none 0 0, .slice none 0 0, .slice none 0 0] 79 (0, 0))) := ⟨Ly⟩
          have Cy : Aside0 (w32.heap[Dx]? = some (.cells #[.slice Nx Cx.length Ox, .slice Kx Bx.length Lx, .slice Fx Ax.length Gx] 79 (0, 0))) := ⟨My⟩
          have Ry : Aside0 (Below w.heap.size w w32) := ⟨Qy⟩
          clear Zx Mx Ix Hx Sx dx Px Jx HB Ey Fy Gy Hy Iy Jy Ky Ly My Qy
          have Sx := px
          have dx := qx
          have Yx := rx
          have lx := sx
          have Zx := tx
          have Ix := zx
          have Hx := Ay
          have Px := By
          have Jx := Cy
          have HB := Ry
          clear px qx rx sx tx zx Ay By Cy Ry
          have fx : w32.cell? ⟨Dx, 0, none⟩ = some (.slice Nx Cx.length Ox) ∧ w32.cell? ⟨Dx, 1, none⟩ = some (.slice Kx Bx.length Lx) ∧ w32.cell? ⟨Dx, 2, none⟩ = some (.slice Fx Ax.length Gx) := hS_
          refine norm_ (a' := ?_) ?_ ?_
          rotate_left
          ·
           simp only [fC, Act.put, gC, hC, iC]
           rfl
          refine two_ (i := 8) (j := 13) (Ni := some 36) (Nj := some 41) #[kC, kC, kC, kC, kC, kC, kC, kC, kC, lC, kC, kC, kC, lC, lC, kC, lC, lC, lC, lC, lC] #[kC, kC, kC, kC, kC, kC, kC, kC, lC, lC, kC, kC, kC, kC, lC, kC, lC, lC, lC, lC, lC] rfl rfl rfl rfl (two_of HT_.out (by kernel_rfl)) (by decide) (by decide) (fun K hK => ?_) (fun K hK => ?_)
          ·
           skip
           refine kA (Kd.slice 3 (Kd.int .i64)) _ 22 ?hg (N' := 36) ?hd (xs := ([Tx] : List (List Int))) (inner := [.slice Wx Tx.length Xx]) (ok := (fun k_ => (Qx k_ ∨ w.heap.size ≤ k_) ∧ some k_ ≠ (jC Kx Bx.length Lx).ownBlock ∧ some k_ ≠ (jC Fx Ax.length Gx).ownBlock ∧ some k_ ≠ (bx : Value).ownBlock ∧ some k_ ≠ (ex : Value).ownBlock ∧ k_ ≠ Ex ∧ k_ ≠ Dx)) (okp := (fun k_ => (Qx k_ ∨ w.heap.size ≤ k_) ∧ some k_ ≠ (jC Kx Bx.length Lx).ownBlock ∧ some k_ ≠ (jC Fx Ax.length Gx).ownBlock ∧ some k_ ≠ (bx : Value).ownBlock ∧ some k_ ≠ (ex : Value).ownBlock ∧ k_ ≠ Ex ∧ k_ ≠ Dx)) ?hr ?hp (fun _ hk => hk) ((show ∀ k_, w32.heap.size ≤ k_ → (fun k_ => (Qx k_ ∨ w.heap.size ≤ k_) ∧ some k_ ≠ (jC Kx Bx.length Lx).ownBlock ∧ some k_ ≠ (jC Fx Ax.length Gx).ownBlock ∧ some k_ ≠ (bx : Value).ownBlock ∧ some k_ ≠ (ex : Value).ownBlock ∧ k_ ≠ Ex ∧ k_ ≠ Dx) k_ from fun k_ hk => ⟨(.inr (Nat.le_trans (yB (by repeat (first | (with_reducible first | exact HB.out | apply uB | apply vB | apply wB | refine xB ?_ Rx.out | refine xB ?_ Vx.out) | exact HB.out))) hk)), Kd.fresh' (mA (by (with_reducible repeat (first | apply dA | apply hA | apply gA)); exact Ix.out)) k_ hk, Kd.fresh' (dB (by (with_reducible repeat (first | apply sA | apply xA | apply wA)); exact Hx.out)) k_ hk, Kd.fresh' (mA (by (with_reducible repeat (first | apply dA | apply hA | apply gA)); exact Yx.out)) k_ hk, Kd.fresh' (mA (by (with_reducible repeat (first | apply dA | apply hA | apply gA)); exact lx.out)) k_ hk, Kd.freshB (g := Ex) (o := .cells #[.slice none 0 0, .slice none 0 0, .slice none 0 0] 79 (0, 0)) (by (with_reducible repeat (first | refine aC ?_ _ | refine bC ?_ | refine cC ?_ _)); exact Px.out) k_ hk, Kd.freshB (g := Dx) (o := .cells #[.slice Nx Cx.length Ox, .slice Kx Bx.length Lx, .slice Fx Ax.length Gx] 79 (0, 0)) (by (with_reducible repeat (first | refine aC ?_ _ | refine bC ?_ | refine cC ?_ _)); exact Jx.out) k_ hk⟩) _ (Nat.le_refl _)) (Below.refl _ _) (Nat.le_refl _) (by simp) ?_; (case hd => rfl); (case hg => rfl); (case hr => first | (go_simp; done) | (go_simp; rfl)); (case hp => exact (Reps.one (show Kd.FK (Kd.slice 3 (Kd.int .i64)) _ _ Tx [.slice Wx Tx.length Xx] from (aA (iB (eB (ok' := (fun k_ => (Qx k_ ∨ w.heap.size ≤ k_) ∧ some k_ ≠ (jC Kx Bx.length Lx).ownBlock ∧ some k_ ≠ (jC Fx Ax.length Gx).ownBlock ∧ some k_ ≠ (bx : Value).ownBlock ∧ some k_ ≠ (ex : Value).ownBlock ∧ k_ ≠ Ex ∧ k_ ≠ Dx)) (kB (kB (tA (tA (tA (dx.out) (qA Ix.out) (by decide)) (qA Yx.out) (by decide)) (qA lx.out) (by decide)) Px.out (by decide)) Jx.out (by decide)) (fun k_ hk => ⟨(.inr (hk.1.1.1.1.1.1)), hk.1.1.1.1.2, hk.1.1.1.1.1.2, hk.1.1.1.2, hk.1.1.2, hk.1.2, hk.2⟩))).2.1 (rA (eB (ok' := (fun k_ => (Qx k_ ∨ w.heap.size ≤ k_) ∧ some k_ ≠ (jC Kx Bx.length Lx).ownBlock ∧ some k_ ≠ (jC Fx Ax.length Gx).ownBlock ∧ some k_ ≠ (bx : Value).ownBlock ∧ some k_ ≠ (ex : Value).ownBlock ∧ k_ ≠ Ex ∧ k_ ≠ Dx)) (kB (kB (tA (tA (tA (dx.out) (qA Ix.out) (by decide)) (qA Yx.out) (by decide)) (qA lx.out) (by decide)) Px.out (by decide)) Jx.out (by decide)) (fun k_ hk => ⟨(.inr (hk.1.1.1.1.1.1)), hk.1.1.1.1.2, hk.1.1.1.1.1.2, hk.1.1.1.2, hk.1.1.2, hk.1.2, hk.2⟩))))) (Reps.none _ _)))
           intro cx w33 ho34 hb hg_ hnew_
           clear hg_ hnew_
           (first | rw [← Xy.out] at ho34 | (simp only [Int.reduceToNat] at ho34; rw [← Xy.out] at ho34))
           replace Zx := Aside0.mk (qB (by (with_reducible repeat (first | apply nB | apply pB | apply oB)); exact Zx.out) (fA ho34) hb)
           replace Ix := Aside0.mk (iA (by (with_reducible repeat (first | apply dA | apply hA | apply gA)); exact Ix.out) (fA ho34) hb)
           replace Hx := Aside0.mk (vA (by (with_reducible repeat (first | apply sA | apply xA | apply wA)); exact Hx.out) hb)
           replace Sx := Aside0.mk (qB (by (with_reducible repeat (first | apply nB | apply pB | apply oB)); exact Sx.out) (fA ho34) hb)
           replace Yx := Aside0.mk (iA (by (with_reducible repeat (first | apply dA | apply hA | apply gA)); exact Yx.out) (fA ho34) hb)
           replace lx := Aside0.mk (iA (by (with_reducible repeat (first | apply dA | apply hA | apply gA)); exact lx.out) (fA ho34) hb)
           have ix := Aside0.mk (lA ho34 (yB (by repeat (first | (with_reducible first | exact HB.out | apply uB | apply vB | apply wB | refine xB ?_ Rx.out | refine xB ?_ Vx.out) | exact HB.out))))
           replace Px := Aside0.mk (eC (g := Ex) (o := .cells #[.slice none 0 0, .slice none 0 0, .slice none 0 0] 79 (0, 0)) (by (with_reducible repeat (first | refine aC ?_ _ | refine bC ?_ | refine cC ?_ _)); exact Px.out) hb)
           replace Jx := Aside0.mk (eC (g := Dx) (o := .cells #[.slice Nx Cx.length Ox, .slice Kx Bx.length Lx, .slice Fx Ax.length Gx] 79 (0, 0)) (by (with_reducible repeat (first | refine aC ?_ _ | refine bC ?_ | refine cC ?_ _)); exact Jx.out) hb)
           replace HB := Aside0.mk (zB (by repeat (first | (with_reducible first | exact HB.out | apply uB | apply vB | apply wB | refine xB ?_ Rx.out | refine xB ?_ Vx.out) | exact HB.out)) hb)
           clear dx hb ho34
           refine hK.out _ _ ⟨(dC Jx.out 0).trans rfl, (dC Jx.out 1).trans rfl, (dC Jx.out 2).trans rfl⟩ (fun fx => ?_)
           clear hK K
           refine norm_ (a' := ?_) ?_ ?_
           rotate_left
           ·
            show Act.put _ (some 36) _ = _
            simp only [Act.put, gC, hC, iC, i64_w, i32_w]
            rfl
           exact norm_ (by first | (simp only [fC, Act.put, gC, hC, iC]; done) | (simp only [fC, Act.put, gC, hC, iC]; rfl)) (Nz (bx, ex, cx) _ ⟨fx, (sB Sx.out (fun _ hk => ⟨hk.1.1, hk.1.2.2.1, hk.1.2.2.2.1, hk.2, hk.1.2.2.2.2.1, hk.1.2.2.2.2.2.1, hk.1.2.2.2.2.2.2.1, hk.1.2.2.2.2.2.2.2⟩)), (nA Yx.out (fun _ hk => ⟨hk.1.1, hk.1.2.2.1, hk.2, hk.1.2.2.2.1, hk.1.2.2.2.2.1, hk.1.2.2.2.2.2.1, hk.1.2.2.2.2.2.2⟩)), (nA lx.out (fun _ hk => ⟨hk.1.1, hk.2, hk.1.2.2.1, hk.1.2.2.2.1, hk.1.2.2.2.2.1, hk.1.2.2.2.2.2⟩)), (nA ix.out (fun _ hk => ⟨hk.1, hk.2.2.2.1, hk.2.2.2.2.1, hk.2.1, hk.2.2.1, hk.2.2.2.2.2.1, hk.2.2.2.2.2.2⟩)), (sB Zx.out (fun _ hk => ⟨hk.1.1, hk.1.2.2.1, hk.1.2.2.2.1, hk.2, hk.1.2.2.2.2.1, hk.1.2.2.2.2.2.1, hk.1.2.2.2.2.2.2.1, hk.1.2.2.2.2.2.2.2⟩)), (nA Ix.out (fun _ hk => ⟨hk.1.1, hk.1.2.2.1, hk.1.2.2.2.1, hk.2, hk.1.2.2.2.2.1, hk.1.2.2.2.2.2.1, hk.1.2.2.2.2.2.2⟩)), (eB Hx.out (fun _ hk => hk.1)), Px.out, Jx.out, (HB.out)⟩)
          ·
           skip
           refine bB (Kd.int .i64) _ 3 ?hg (N := 41) ?hd (xs := ([vx] : List Int)) (inner := [.int .i64 vx]) (ok := fun _ => True) (okp := fun _ => True) ?hr ?hp (fun _ hk => hk) trivial (Below.refl _ _) (Nat.le_refl _) (by simp) ?_; (case hd => rfl); (case hg => rfl); (case hr => first | (go_simp; done) | (go_simp; rfl)); (case hp => exact (Reps.one (show Kd.M (Kd.int .i64) _ _ _ vx [.int .i64 vx] from rfl) (Reps.none _ _)))
           intro Ux w33 ho34 hb hg_ hnew_
           clear hg_ hnew_
           (first | rw [← Uy.out] at ho34 | (simp only [Int.reduceToNat] at ho34; rw [← Uy.out] at ho34))
           replace Zx := Aside0.mk (qB (by (with_reducible repeat (first | apply nB | apply pB | apply oB)); exact Zx.out) (uA ho34) hb)
           replace Ix := Aside0.mk (iA (by (with_reducible repeat (first | apply dA | apply hA | apply gA)); exact Ix.out) (uA ho34) hb)
           replace Sx := Aside0.mk (qB (by (with_reducible repeat (first | apply nB | apply pB | apply oB)); exact Sx.out) (uA ho34) hb)
           replace Yx := Aside0.mk (iA (by (with_reducible repeat (first | apply dA | apply hA | apply gA)); exact Yx.out) (uA ho34) hb)
           replace lx := Aside0.mk (iA (by (with_reducible repeat (first | apply dA | apply hA | apply gA)); exact lx.out) (uA ho34) hb)
           have jx := Aside0.mk (cB (fB (fB (gB (M := fun k_ => (w.heap.size ≤ k_)) ho34 (yB (by repeat (first | (with_reducible first | exact HB.out | apply uB | apply vB | apply wB | refine xB ?_ Rx.out | refine xB ?_ Vx.out) | exact HB.out))) (fun k_ h_ => h_)) (dB (by (with_reducible repeat (first | apply sA | apply xA | apply wA)); exact Hx.out))) (dB (by (with_reducible repeat (first | apply sA | apply xA | apply wA)); exact dx.out))) (yB (by repeat (first | (with_reducible first | exact HB.out | apply uB | apply vB | apply wB | refine xB ?_ Rx.out | refine xB ?_ Vx.out) | exact HB.out))))
           replace Hx := Aside0.mk (yA (by (with_reducible repeat (first | apply sA | apply xA | apply wA)); exact Hx.out) (uA ho34) hb)
           replace dx := Aside0.mk (yA (by (with_reducible repeat (first | apply sA | apply xA | apply wA)); exact dx.out) (uA ho34) hb)
           replace Px := Aside0.mk (eC (g := Ex) (o := .cells #[.slice none 0 0, .slice none 0 0, .slice none 0 0] 79 (0, 0)) (by (with_reducible repeat (first | refine aC ?_ _ | refine bC ?_ | refine cC ?_ _)); exact Px.out) hb)
           replace Jx := Aside0.mk (eC (g := Dx) (o := .cells #[.slice Nx Cx.length Ox, .slice Kx Bx.length Lx, .slice Fx Ax.length Gx] 79 (0, 0)) (by (with_reducible repeat (first | refine aC ?_ _ | refine bC ?_ | refine cC ?_ _)); exact Jx.out) hb)
           replace HB := Aside0.mk (zB (by repeat (first | (with_reducible first | exact HB.out | apply uB | apply vB | apply wB | refine xB ?_ Rx.out | refine xB ?_ Vx.out) | exact HB.out)) hb)
           clear hb ho34
           refine hK.out _ _ ⟨(dC Jx.out 0).trans rfl, (dC Jx.out 1).trans rfl, (dC Jx.out 2).trans rfl⟩ (fun fx => ?_)
           clear hK K
           refine norm_ (a' := ?_) ?_ ?_
           rotate_left
           ·
            show Act.put _ (some 41) _ = _
            simp only [Act.put, gC, hC, iC, i64_w, i32_w]
            rfl
           exact norm_ (by first | (simp only [fC, Act.put, gC, hC, iC]; done) | (simp only [fC, Act.put, gC, hC, iC]; rfl)) (Gz (bx, ex, Ux) _ ⟨fx, (sB Sx.out (fun _ hk => ⟨hk.1.1, hk.1.2.1, hk.1.2.2.1, hk.1.2.2.2.1, hk.2, hk.1.2.2.2.2.1, hk.1.2.2.2.2.2.1, hk.1.2.2.2.2.2.2.1, hk.1.2.2.2.2.2.2.2⟩)), (eB dx.out (fun _ hk => ⟨hk.1.1, hk.2, hk.1.2⟩)), (nA Yx.out (fun _ hk => ⟨hk.1.1, hk.1.2.1, hk.1.2.2.1, hk.2, hk.1.2.2.2.1, hk.1.2.2.2.2.1, hk.1.2.2.2.2.2.1, hk.1.2.2.2.2.2.2⟩)), (nA lx.out (fun _ hk => ⟨hk.1.1, hk.1.2.1, hk.2, hk.1.2.2.1, hk.1.2.2.2.1, hk.1.2.2.2.2.1, hk.1.2.2.2.2.2⟩)), (eB jx.out (fun _ hk => ⟨hk.1.1.1, hk.2, hk.1.2⟩)), (sB Zx.out (fun _ hk => ⟨hk.1.1, hk.1.2.1, hk.1.2.2.1, hk.1.2.2.2.1, hk.2, hk.1.2.2.2.2.1, hk.1.2.2.2.2.2.1, hk.1.2.2.2.2.2.2.1, hk.1.2.2.2.2.2.2.2⟩)), (nA Ix.out (fun _ hk => ⟨hk.1.1, hk.1.2.1, hk.1.2.2.1, hk.1.2.2.2.1, hk.2, hk.1.2.2.2.2.1, hk.1.2.2.2.2.2.1, hk.1.2.2.2.2.2.2⟩)), (eB Hx.out (fun _ hk => ⟨hk.1.1, hk.1.2, hk.2⟩)), Px.out, Jx.out, (HB.out)⟩)
         ·
          skip
          rintro ⟨bx, cx⟩ w32 ⟨hS_, Ey, Fy, Gy, Hy, Iy, Jy, Ky, Ly, My, Qy⟩
          have px : Aside0 (Kd.U k59 59 w32 w.heap.size (fun k_ => (Qx k_ ∨ w.heap.size ≤ k_) ∧ some k_ ≠ (bx : Value).ownBlock ∧ some k_ ≠ (cx : Value).ownBlock ∧ some k_ ≠ (jC Nx Cx.length Ox).ownBlock ∧ some k_ ≠ (jC Kx Bx.length Lx).ownBlock ∧ some k_ ≠ (jC Fx Ax.length Gx).ownBlock ∧ k_ ≠ Ex ∧ k_ ≠ Dx) (.slice xx gx.length yx) gx) := ⟨Ey⟩
          have qx : Aside0 (Kd.N (Kd.os 59 k59 w.heap.size) 29 w32 w.heap.size (fun k_ => (Qx k_ ∨ w.heap.size ≤ k_) ∧ some k_ ≠ (cx : Value).ownBlock ∧ some k_ ≠ (jC Nx Cx.length Ox).ownBlock ∧ some k_ ≠ (jC Kx Bx.length Lx).ownBlock ∧ some k_ ≠ (jC Fx Ax.length Gx).ownBlock ∧ k_ ≠ Ex ∧ k_ ≠ Dx) bx kx) := ⟨Fy⟩
          have rx : Aside0 (Kd.N (Kd.slice 3 (Kd.int .i64)) 22 w32 w.heap.size (fun k_ => (Qx k_ ∨ w.heap.size ≤ k_) ∧ some k_ ≠ (bx : Value).ownBlock ∧ some k_ ≠ (jC Nx Cx.length Ox).ownBlock ∧ some k_ ≠ (jC Kx Bx.length Lx).ownBlock ∧ some k_ ≠ (jC Fx Ax.length Gx).ownBlock ∧ k_ ≠ Ex ∧ k_ ≠ Dx) cx nx) := ⟨Gy⟩
          have sx : Aside0 (Kd.U k59 59 w32 w.heap.size (fun k_ => (Qx k_ ∨ w.heap.size ≤ k_) ∧ some k_ ≠ (bx : Value).ownBlock ∧ some k_ ≠ (cx : Value).ownBlock ∧ some k_ ≠ (jC Nx Cx.length Ox).ownBlock ∧ some k_ ≠ (jC Kx Bx.length Lx).ownBlock ∧ some k_ ≠ (jC Fx Ax.length Gx).ownBlock ∧ k_ ≠ Ex ∧ k_ ≠ Dx) (.slice Ny mx.length Oy) mx) := ⟨Hy⟩
          have tx : Aside0 (Kd.N (Kd.os 59 k59 w.heap.size) 29 w32 w.heap.size (fun k_ => (Qx k_ ∨ w.heap.size ≤ k_) ∧ some k_ ≠ (bx : Value).ownBlock ∧ some k_ ≠ (cx : Value).ownBlock ∧ some k_ ≠ (jC Kx Bx.length Lx).ownBlock ∧ some k_ ≠ (jC Fx Ax.length Gx).ownBlock ∧ k_ ≠ Ex ∧ k_ ≠ Dx) (.slice Nx Cx.length Ox) Cx) := ⟨Iy⟩
          have zx : Aside0 (Kd.N (Kd.slice 3 (Kd.int .i64)) 22 w32 w.heap.size (fun k_ => (Qx k_ ∨ w.heap.size ≤ k_) ∧ some k_ ≠ (bx : Value).ownBlock ∧ some k_ ≠ (cx : Value).ownBlock ∧ some k_ ≠ (jC Nx Cx.length Ox).ownBlock ∧ some k_ ≠ (jC Fx Ax.length Gx).ownBlock ∧ k_ ≠ Ex ∧ k_ ≠ Dx) (.slice Kx Bx.length Lx) Bx) := ⟨Jy⟩
          have Ay : Aside0 (Kd.R (Kd.int .i64) 3 w32 w.heap.size (fun k_ => (w.heap.size ≤ k_)) (.slice Fx Ax.length Gx) Ax) := ⟨Ky⟩
          have By : Aside0 (w32.heap[Ex]? = some (.cells #[.slice none 0 0, .slice none 0 0, .slice none 0 0] 79 (0, 0))) := ⟨Ly⟩
          have Cy : Aside0 (w32.heap[Dx]? = some (.cells #[.slice Nx Cx.length Ox, .slice Kx Bx.length Lx, .slice Fx Ax.length Gx] 79 (0, 0))) := ⟨My⟩
          have Ry : Aside0 (Below w.heap.size w w32) := ⟨Qy⟩
          clear Zx Mx Ix Hx Sx dx Px Jx HB Ey Fy Gy Hy Iy Jy Ky Ly My Qy
          have Sx := px
          have Yx := qx
          have ix := rx
          have Zx := sx
          have Mx := tx
          have Ix := zx
          have Hx := Ay
          have Px := By
          have Jx := Cy
          have HB := Ry
          clear px qx rx sx tx zx Ay By Cy Ry
          have fx : w32.cell? ⟨Dx, 0, none⟩ = some (.slice Nx Cx.length Ox) ∧ w32.cell? ⟨Dx, 1, none⟩ = some (.slice Kx Bx.length Lx) ∧ w32.cell? ⟨Dx, 2, none⟩ = some (.slice Fx Ax.length Gx) := hS_
          obtain ⟨Vy, Wy, eo34⟩ := pA Yx.out
          (first | subst eo34 | (injection eo34 with f1_ f2_ f3_; have f4_ := f1_.symm; have f5_ := f3_.symm; clear f1_ f2_ f3_; subst f4_; subst f5_))
          refine norm_ (a' := ?_) ?_ ?_
          rotate_left
          ·
           simp only [fC, Act.put, gC, hC, iC]
           rfl
          refine two_ (i := 4) (j := 13) (Ni := some 32) (Nj := some 41) #[kC, kC, kC, kC, kC, kC, kC, kC, kC, lC, kC, kC, kC, lC, lC, lC, lC, lC, lC, lC, lC] #[kC, kC, kC, kC, lC, kC, kC, kC, kC, lC, kC, kC, kC, kC, lC, lC, lC, lC, lC, lC, lC] rfl rfl rfl rfl (two_of HT_.out (by kernel_rfl)) (by decide) (by decide) (fun K hK => ?_) (fun K hK => ?_)
          ·
           skip
           refine eA (Kd.os 59 k59 w.heap.size) (w0 := w) w.heap.size (by rfl) (.tmp 29) (.tmp 31) 74 29 (.slice none 0 0) 24 rfl Try.underlying74 info29 rfl (show 0 < 1 by decide) (by omega) (.slice Nx Cx.length Ox) Cx kx _ _ _ (fun k_ => (Qx k_ ∨ w.heap.size ≤ k_) ∧ some k_ ≠ (jC Kx Bx.length Lx).ownBlock ∧ some k_ ≠ (jC Fx Ax.length Gx).ownBlock ∧ some k_ ≠ (cx : Value).ownBlock ∧ k_ ≠ Ex ∧ k_ ≠ Dx) (fun k_ => ((fun k_ => (Qx k_ ∨ w.heap.size ≤ k_) ∧ some k_ ≠ (jC Kx Bx.length Lx).ownBlock ∧ some k_ ≠ (jC Fx Ax.length Gx).ownBlock ∧ some k_ ≠ (cx : Value).ownBlock ∧ k_ ≠ Ex ∧ k_ ≠ Dx)) k_ ∧ some k_ ≠ (jC Nx Cx.length Ox).ownBlock) rfl rfl ?aO ?aR (fun _ hk => hk) ?aF ?aB ?aS ?aL ?_
           (case aR => exact (by skip; exact bA (nA (ok' := (fun k_ => ((fun k_ => (Qx k_ ∨ w.heap.size ≤ k_) ∧ some k_ ≠ (jC Kx Bx.length Lx).ownBlock ∧ some k_ ≠ (jC Fx Ax.length Gx).ownBlock ∧ some k_ ≠ (cx : Value).ownBlock ∧ k_ ≠ Ex ∧ k_ ≠ Dx)) k_ ∧ some k_ ≠ (jC Nx Cx.length Ox).ownBlock)) (Yx.out) (fun k_ hk => ⟨⟨hk.1, hk.2.2.2.1, hk.2.2.2.2.1, hk.2.1, hk.2.2.2.2.2.1, hk.2.2.2.2.2.2⟩, hk.2.2.1⟩))))
           (case aB => exact (by repeat (first | (with_reducible first | exact HB.out | apply uB | apply vB | apply wB | refine xB ?_ Rx.out | refine xB ?_ Vx.out) | exact HB.out)))
           (case aF => exact (fun k_ hk => ⟨(.inr (Nat.le_trans (yB (by repeat (first | (with_reducible first | exact HB.out | apply uB | apply vB | apply wB | refine xB ?_ Rx.out | refine xB ?_ Vx.out) | exact HB.out))) hk)), Kd.fresh' (mA (by (with_reducible repeat (first | apply dA | apply hA | apply gA)); exact Ix.out)) k_ hk, Kd.fresh' (dB (by (with_reducible repeat (first | apply sA | apply xA | apply wA)); exact Hx.out)) k_ hk, Kd.fresh' (mA (by (with_reducible repeat (first | apply dA | apply hA | apply gA)); exact ix.out)) k_ hk, Kd.freshB (g := Ex) (o := .cells #[.slice none 0 0, .slice none 0 0, .slice none 0 0] 79 (0, 0)) (by (with_reducible repeat (first | refine aC ?_ _ | refine bC ?_ | refine cC ?_ _)); exact Px.out) k_ hk, Kd.freshB (g := Dx) (o := .cells #[.slice Nx Cx.length Ox, .slice Kx Bx.length Lx, .slice Fx Ax.length Gx] 79 (0, 0)) (by (with_reducible repeat (first | refine aC ?_ _ | refine bC ?_ | refine cC ?_ _)); exact Jx.out) k_ hk⟩))
           (case aO => exact (by (with_reducible repeat (first | apply dA | apply hA | apply gA)); exact nA Mx.out (fun _ hk => ⟨hk.1, hk.2.2.2.1, hk.2.2.2.2.1, hk.2.2.1, hk.2.2.2.2.2.1, hk.2.2.2.2.2.2⟩)))
           (case aS => exact (yB (by repeat (first | (with_reducible first | exact HB.out | apply uB | apply vB | apply wB | refine xB ?_ Rx.out | refine xB ?_ Vx.out) | exact HB.out))))
           (case aL => have := Ez.out; omega)
           intro ex w33 ho hb hg hat
           rw [← Fz.out] at ho
           replace Zx := Aside0.mk (mB (ok := (fun k_ => (Qx k_ ∨ w.heap.size ≤ k_) ∧ some k_ ≠ (jC Kx Bx.length Lx).ownBlock ∧ some k_ ≠ (jC Fx Ax.length Gx).ownBlock ∧ some k_ ≠ (jC Vy kx.length Wy).ownBlock ∧ some k_ ≠ (cx : Value).ownBlock ∧ k_ ≠ Ex ∧ k_ ≠ Dx)) (by (with_reducible repeat (first | apply nB | apply pB | apply oB)); exact sB Zx.out (fun _ hk => ⟨⟨hk.1, hk.2.2.2.2.1, hk.2.2.2.2.2.1, hk.2.1, hk.2.2.1, hk.2.2.2.2.2.2.1, hk.2.2.2.2.2.2.2⟩, hk.2.2.2.1⟩)) hg hat)
           replace Ix := Aside0.mk (cA (ok := (fun k_ => (Qx k_ ∨ w.heap.size ≤ k_) ∧ some k_ ≠ (jC Fx Ax.length Gx).ownBlock ∧ some k_ ≠ (jC Vy kx.length Wy).ownBlock ∧ some k_ ≠ (cx : Value).ownBlock ∧ k_ ≠ Ex ∧ k_ ≠ Dx)) (by (with_reducible repeat (first | apply dA | apply hA | apply gA)); exact nA Ix.out (fun _ hk => ⟨⟨hk.1, hk.2.2.2.2.1, hk.2.1, hk.2.2.1, hk.2.2.2.2.2.1, hk.2.2.2.2.2.2⟩, hk.2.2.2.1⟩)) hg hat)
           replace Hx := Aside0.mk (hB (by (with_reducible repeat (first | apply sA | apply xA | apply wA)); exact Hx.out) (qA (by (with_reducible repeat (first | apply dA | apply hA | apply gA)); exact Mx.out)) (by decide) hg)
           replace Px := Aside0.mk (blk_grown (g := Ex) (o := .cells #[.slice none 0 0, .slice none 0 0, .slice none 0 0] 79 (0, 0)) (by (with_reducible repeat (first | refine aC ?_ _ | refine bC ?_ | refine cC ?_ _)); exact Px.out) hg (oA Mx.out Px.out (by decide)))
           replace Jx := Aside0.mk (blk_grown (g := Dx) (o := .cells #[.slice Nx Cx.length Ox, .slice Kx Bx.length Lx, .slice Fx Ax.length Gx] 79 (0, 0)) (by (with_reducible repeat (first | refine aC ?_ _ | refine bC ?_ | refine cC ?_ _)); exact Jx.out) hg (oA Mx.out Jx.out (by decide)))
           replace Sx := Aside0.mk (mB (ok := (fun k_ => (Qx k_ ∨ w.heap.size ≤ k_) ∧ some k_ ≠ (jC Kx Bx.length Lx).ownBlock ∧ some k_ ≠ (jC Fx Ax.length Gx).ownBlock ∧ some k_ ≠ (jC Vy kx.length Wy).ownBlock ∧ some k_ ≠ (cx : Value).ownBlock ∧ k_ ≠ Ex ∧ k_ ≠ Dx)) (by (with_reducible repeat (first | apply nB | apply pB | apply oB)); exact sB Sx.out (fun _ hk => ⟨⟨hk.1, hk.2.2.2.2.1, hk.2.2.2.2.2.1, hk.2.1, hk.2.2.1, hk.2.2.2.2.2.2.1, hk.2.2.2.2.2.2.2⟩, hk.2.2.2.1⟩)) hg hat)
           replace Yx := Aside0.mk (cA (ok := (fun k_ => (Qx k_ ∨ w.heap.size ≤ k_) ∧ some k_ ≠ (jC Kx Bx.length Lx).ownBlock ∧ some k_ ≠ (jC Fx Ax.length Gx).ownBlock ∧ some k_ ≠ (cx : Value).ownBlock ∧ k_ ≠ Ex ∧ k_ ≠ Dx)) (by (with_reducible repeat (first | apply dA | apply hA | apply gA)); exact nA Yx.out (fun _ hk => ⟨⟨hk.1, hk.2.2.2.1, hk.2.2.2.2.1, hk.2.1, hk.2.2.2.2.2.1, hk.2.2.2.2.2.2⟩, hk.2.2.1⟩)) hg hat)
           replace ix := Aside0.mk (cA (ok := (fun k_ => (Qx k_ ∨ w.heap.size ≤ k_) ∧ some k_ ≠ (jC Kx Bx.length Lx).ownBlock ∧ some k_ ≠ (jC Fx Ax.length Gx).ownBlock ∧ some k_ ≠ (jC Vy kx.length Wy).ownBlock ∧ k_ ≠ Ex ∧ k_ ≠ Dx)) (by (with_reducible repeat (first | apply dA | apply hA | apply gA)); exact nA ix.out (fun _ hk => ⟨⟨hk.1, hk.2.2.2.1, hk.2.2.2.2.1, hk.2.1, hk.2.2.2.2.2.1, hk.2.2.2.2.2.2⟩, hk.2.2.1⟩)) hg hat)
           replace HB := Aside0.mk (hb)
           have lx := Aside0.mk (ho)
           clear Mx ho hb hg hat
           refine hK.out _ _ ⟨(dC Jx.out 0).trans rfl, (dC Jx.out 1).trans rfl, (dC Jx.out 2).trans rfl⟩ (fun fx => ?_)
           clear hK K
           refine norm_ (a' := ?_) ?_ ?_
           rotate_left
           ·
            show Act.put _ (some 32) _ = _
            simp only [Act.put, gC, hC, iC, i64_w, i32_w]
            rfl
           refine pure_ (i := 15) (N := some 43) (v := ?_) (a' := ?_) #[kC, kC, kC, kC, kC, kC, kC, kC, kC, lC, kC, kC, kC, lC, lC, kC, lC, lC, lC, lC, lC] rfl rfl (any_of HT_.out (by kernel_rfl)) (fun _ _ _ h => h) (Or.inl ⟨by rfl, ?_⟩) ?_ ?_
           rotate_left
           ·
            intro w'
            go_simp
            with_reducible rfl
           rotate_left
           ·
            simp only [Act.put, gC, hC, iC, i64_w, i32_w]
            rfl
           exact norm_ (by first | (simp only [fC, Act.put, gC, hC, iC]; done) | (simp only [fC, Act.put, gC, hC, iC]; rfl)) (Nz (.slice Vy kx.length Wy, ex, cx) _ ⟨fx, (sB Sx.out (fun _ hk => ⟨hk.1.1, hk.1.2.2.2.1, hk.2, hk.1.2.2.2.2.1, hk.1.2.1, hk.1.2.2.1, hk.1.2.2.2.2.2.1, hk.1.2.2.2.2.2.2⟩)), (nA Yx.out (fun _ hk => ⟨hk.1.1, hk.2, hk.1.2.2.2.1, hk.1.2.1, hk.1.2.2.1, hk.1.2.2.2.2.1, hk.1.2.2.2.2.2⟩)), (nA lx.out (fun _ hk => ⟨hk.1, hk.2.2.2.1, hk.2.1, hk.2.2.1, hk.2.2.2.2.1, hk.2.2.2.2.2⟩)), (nA ix.out (fun _ hk => ⟨hk.1.1, hk.1.2.2.2.1, hk.2, hk.1.2.1, hk.1.2.2.1, hk.1.2.2.2.2.1, hk.1.2.2.2.2.2⟩)), (sB Zx.out (fun _ hk => ⟨hk.1.1, hk.1.2.2.2.1, hk.2, hk.1.2.2.2.2.1, hk.1.2.1, hk.1.2.2.1, hk.1.2.2.2.2.2.1, hk.1.2.2.2.2.2.2⟩)), (nA Ix.out (fun _ hk => ⟨hk.1.1, hk.1.2.2.1, hk.2, hk.1.2.2.2.1, hk.1.2.1, hk.1.2.2.2.2.1, hk.1.2.2.2.2.2⟩)), Hx.out, Px.out, Jx.out, (HB.out)⟩)
          ·
           skip
           refine bB (Kd.int .i64) _ 3 ?hg (N := 41) ?hd (xs := ([vx] : List Int)) (inner := [.int .i64 vx]) (ok := fun _ => True) (okp := fun _ => True) ?hr ?hp (fun _ hk => hk) trivial (Below.refl _ _) (Nat.le_refl _) (by simp) ?_; (case hd => rfl); (case hg => rfl); (case hr => first | (go_simp; done) | (go_simp; rfl)); (case hp => exact (Reps.one (show Kd.M (Kd.int .i64) _ _ _ vx [.int .i64 vx] from rfl) (Reps.none _ _)))
           intro Ux w33 ho34 hb hg_ hnew_
           clear hg_ hnew_
           (first | rw [← Uy.out] at ho34 | (simp only [Int.reduceToNat] at ho34; rw [← Uy.out] at ho34))
           replace Zx := Aside0.mk (qB (by (with_reducible repeat (first | apply nB | apply pB | apply oB)); exact Zx.out) (uA ho34) hb)
           replace Mx := Aside0.mk (iA (by (with_reducible repeat (first | apply dA | apply hA | apply gA)); exact Mx.out) (uA ho34) hb)
           replace Ix := Aside0.mk (iA (by (with_reducible repeat (first | apply dA | apply hA | apply gA)); exact Ix.out) (uA ho34) hb)
           replace Sx := Aside0.mk (qB (by (with_reducible repeat (first | apply nB | apply pB | apply oB)); exact Sx.out) (uA ho34) hb)
           replace Yx := Aside0.mk (iA (by (with_reducible repeat (first | apply dA | apply hA | apply gA)); exact Yx.out) (uA ho34) hb)
           replace ix := Aside0.mk (iA (by (with_reducible repeat (first | apply dA | apply hA | apply gA)); exact ix.out) (uA ho34) hb)
           have jx := Aside0.mk (cB (fB (gB (M := fun k_ => (w.heap.size ≤ k_)) ho34 (yB (by repeat (first | (with_reducible first | exact HB.out | apply uB | apply vB | apply wB | refine xB ?_ Rx.out | refine xB ?_ Vx.out) | exact HB.out))) (fun k_ h_ => h_)) (dB (by (with_reducible repeat (first | apply sA | apply xA | apply wA)); exact Hx.out))) (yB (by repeat (first | (with_reducible first | exact HB.out | apply uB | apply vB | apply wB | refine xB ?_ Rx.out | refine xB ?_ Vx.out) | exact HB.out))))
           replace Hx := Aside0.mk (yA (by (with_reducible repeat (first | apply sA | apply xA | apply wA)); exact Hx.out) (uA ho34) hb)
           replace Px := Aside0.mk (eC (g := Ex) (o := .cells #[.slice none 0 0, .slice none 0 0, .slice none 0 0] 79 (0, 0)) (by (with_reducible repeat (first | refine aC ?_ _ | refine bC ?_ | refine cC ?_ _)); exact Px.out) hb)
           replace Jx := Aside0.mk (eC (g := Dx) (o := .cells #[.slice Nx Cx.length Ox, .slice Kx Bx.length Lx, .slice Fx Ax.length Gx] 79 (0, 0)) (by (with_reducible repeat (first | refine aC ?_ _ | refine bC ?_ | refine cC ?_ _)); exact Jx.out) hb)
           replace HB := Aside0.mk (zB (by repeat (first | (with_reducible first | exact HB.out | apply uB | apply vB | apply wB | refine xB ?_ Rx.out | refine xB ?_ Vx.out) | exact HB.out)) hb)
           clear hb ho34
           refine hK.out _ _ ⟨(dC Jx.out 0).trans rfl, (dC Jx.out 1).trans rfl, (dC Jx.out 2).trans rfl⟩ (fun fx => ?_)
           clear hK K
           refine norm_ (a' := ?_) ?_ ?_
           rotate_left
           ·
            show Act.put _ (some 41) _ = _
            simp only [Act.put, gC, hC, iC, i64_w, i32_w]
            rfl
           exact norm_ (by first | (simp only [fC, Act.put, gC, hC, iC]; done) | (simp only [fC, Act.put, gC, hC, iC]; rfl)) (ry ((.slice Vy kx.length Wy), cx, Ux) _ ⟨fx, (sB Sx.out (fun _ hk => ⟨hk.1.1, hk.1.2.1, hk.1.2.2.1, hk.2, hk.1.2.2.2.1, hk.1.2.2.2.2.1, hk.1.2.2.2.2.2.1, hk.1.2.2.2.2.2.2.1, hk.1.2.2.2.2.2.2.2⟩)), (nA Yx.out (fun _ hk => ⟨hk.1.1, hk.1.2.1, hk.2, hk.1.2.2.1, hk.1.2.2.2.1, hk.1.2.2.2.2.1, hk.1.2.2.2.2.2.1, hk.1.2.2.2.2.2.2⟩)), (nA ix.out (fun _ hk => ⟨hk.1.1, hk.1.2.1, hk.2, hk.1.2.2.1, hk.1.2.2.2.1, hk.1.2.2.2.2.1, hk.1.2.2.2.2.2.1, hk.1.2.2.2.2.2.2⟩)), (eB jx.out (fun _ hk => ⟨hk.1.1, hk.2⟩)), (sB Zx.out (fun _ hk => ⟨hk.1.1, hk.1.2.1, hk.1.2.2.1, hk.2, hk.1.2.2.2.1, hk.1.2.2.2.2.1, hk.1.2.2.2.2.2.1, hk.1.2.2.2.2.2.2.1, hk.1.2.2.2.2.2.2.2⟩)), (nA Mx.out (fun _ hk => ⟨hk.1.1, hk.1.2.1, hk.1.2.2.1, hk.2, hk.1.2.2.2.1, hk.1.2.2.2.2.1, hk.1.2.2.2.2.2.1, hk.1.2.2.2.2.2.2⟩)), (nA Ix.out (fun _ hk => ⟨hk.1.1, hk.1.2.1, hk.1.2.2.1, hk.2, hk.1.2.2.2.1, hk.1.2.2.2.2.1, hk.1.2.2.2.2.2.1, hk.1.2.2.2.2.2.2⟩)), Hx.out, Px.out, Jx.out, (HB.out)⟩)
         ·
          skip
          rintro ⟨bx, Ux⟩ w32 ⟨hS_, Ey, Fy, Gy, Hy, Iy, Jy, Ky, Ly, My, Qy, cy⟩
          have px : Aside0 (Kd.U k59 59 w32 w.heap.size (fun k_ => (Qx k_ ∨ w.heap.size ≤ k_) ∧ some k_ ≠ (jC Wx Tx.length Xx).ownBlock ∧ some k_ ≠ (bx : Value).ownBlock ∧ some k_ ≠ (Ux : Value).ownBlock ∧ some k_ ≠ (jC Nx Cx.length Ox).ownBlock ∧ some k_ ≠ (jC Kx Bx.length Lx).ownBlock ∧ some k_ ≠ (jC Fx Ax.length Gx).ownBlock ∧ k_ ≠ Ex ∧ k_ ≠ Dx) (.slice xx gx.length yx) gx) := ⟨Ey⟩
          have qx : Aside0 (Kd.R (Kd.int .i64) 3 w32 w.heap.size (fun k_ => (w.heap.size ≤ k_) ∧ some k_ ≠ (Ux : Value).ownBlock ∧ some k_ ≠ (jC Fx Ax.length Gx).ownBlock) (.slice Wx Tx.length Xx) Tx) := ⟨Fy⟩
          have rx : Aside0 (Kd.N (Kd.os 59 k59 w.heap.size) 29 w32 w.heap.size (fun k_ => (Qx k_ ∨ w.heap.size ≤ k_) ∧ some k_ ≠ (jC Wx Tx.length Xx).ownBlock ∧ some k_ ≠ (Ux : Value).ownBlock ∧ some k_ ≠ (jC Nx Cx.length Ox).ownBlock ∧ some k_ ≠ (jC Kx Bx.length Lx).ownBlock ∧ some k_ ≠ (jC Fx Ax.length Gx).ownBlock ∧ k_ ≠ Ex ∧ k_ ≠ Dx) bx kx) := ⟨Gy⟩
          have sx : Aside0 (Kd.R (Kd.int .i64) 3 w32 w.heap.size (fun k_ => (w.heap.size ≤ k_) ∧ some k_ ≠ (jC Wx Tx.length Xx).ownBlock ∧ some k_ ≠ (jC Fx Ax.length Gx).ownBlock) Ux ox) := ⟨Hy⟩
          have tx : Aside0 (Kd.U k59 59 w32 w.heap.size (fun k_ => (Qx k_ ∨ w.heap.size ≤ k_) ∧ some k_ ≠ (jC Wx Tx.length Xx).ownBlock ∧ some k_ ≠ (bx : Value).ownBlock ∧ some k_ ≠ (Ux : Value).ownBlock ∧ some k_ ≠ (jC Nx Cx.length Ox).ownBlock ∧ some k_ ≠ (jC Kx Bx.length Lx).ownBlock ∧ some k_ ≠ (jC Fx Ax.length Gx).ownBlock ∧ k_ ≠ Ex ∧ k_ ≠ Dx) (.slice Ny mx.length Oy) mx) := ⟨Iy⟩
          have zx : Aside0 (Kd.N (Kd.os 59 k59 w.heap.size) 29 w32 w.heap.size (fun k_ => (Qx k_ ∨ w.heap.size ≤ k_) ∧ some k_ ≠ (jC Wx Tx.length Xx).ownBlock ∧ some k_ ≠ (bx : Value).ownBlock ∧ some k_ ≠ (Ux : Value).ownBlock ∧ some k_ ≠ (jC Kx Bx.length Lx).ownBlock ∧ some k_ ≠ (jC Fx Ax.length Gx).ownBlock ∧ k_ ≠ Ex ∧ k_ ≠ Dx) (.slice Nx Cx.length Ox) Cx) := ⟨Jy⟩
          have Ay : Aside0 (Kd.N (Kd.slice 3 (Kd.int .i64)) 22 w32 w.heap.size (fun k_ => (Qx k_ ∨ w.heap.size ≤ k_) ∧ some k_ ≠ (jC Wx Tx.length Xx).ownBlock ∧ some k_ ≠ (bx : Value).ownBlock ∧ some k_ ≠ (Ux : Value).ownBlock ∧ some k_ ≠ (jC Nx Cx.length Ox).ownBlock ∧ some k_ ≠ (jC Fx Ax.length Gx).ownBlock ∧ k_ ≠ Ex ∧ k_ ≠ Dx) (.slice Kx Bx.length Lx) Bx) := ⟨Ky⟩
          have By : Aside0 (Kd.R (Kd.int .i64) 3 w32 w.heap.size (fun k_ => (w.heap.size ≤ k_) ∧ some k_ ≠ (jC Wx Tx.length Xx).ownBlock ∧ some k_ ≠ (Ux : Value).ownBlock) (.slice Fx Ax.length Gx) Ax) := ⟨Ly⟩
          have Cy : Aside0 (w32.heap[Ex]? = some (.cells #[.slice none 0 0, .slice none 0 0, .slice none 0 0] 79 (0, 0))) := ⟨My⟩
          have Ry : Aside0 (w32.heap[Dx]? = some (.cells #[.slice Nx Cx.length Ox, .slice Kx Bx.length Lx, .slice Fx Ax.length Gx] 79 (0, 0))) := ⟨Qy⟩
          have dy : Aside0 (Below w.heap.size w w32) := ⟨cy⟩
          clear Zx Mx Ix Hx Sx dx Px Jx HB Ey Fy Gy Hy Iy Jy Ky Ly My Qy cy
          have Sx := px
          have dx := qx
          have Yx := rx
          have jx := sx
          have Zx := tx
          have Mx := zx
          have Ix := Ay
          have Hx := By
          have Px := Cy
          have Jx := Ry
          have HB := dy
          clear px qx rx sx tx zx Ay By Cy Ry dy
          have fx : w32.cell? ⟨Dx, 0, none⟩ = some (.slice Nx Cx.length Ox) ∧ w32.cell? ⟨Dx, 1, none⟩ = some (.slice Kx Bx.length Lx) ∧ w32.cell? ⟨Dx, 2, none⟩ = some (.slice Fx Ax.length Gx) := hS_
          obtain ⟨Vy, Wy, eo34⟩ := pA Yx.out
          (first | subst eo34 | (injection eo34 with f1_ f2_ f3_; have f4_ := f1_.symm; have f5_ := f3_.symm; clear f1_ f2_ f3_; subst f4_; subst f5_))
          refine norm_ (a' := ?_) ?_ ?_
          rotate_left
          ·
           simp only [fC, Act.put, gC, hC, iC]
           rfl
          refine two_ (i := 4) (j := 8) (Ni := some 32) (Nj := some 36) #[kC, kC, kC, kC, kC, kC, kC, kC, lC, lC, kC, kC, kC, kC, lC, lC, lC, lC, lC, lC, lC] #[kC, kC, kC, kC, lC, kC, kC, kC, kC, lC, kC, kC, kC, kC, lC, lC, lC, lC, lC, lC, lC] rfl rfl rfl rfl (two_of HT_.out (by kernel_rfl)) (by decide) (by decide) (fun K hK => ?_) (fun K hK => ?_)
          ·
           skip
           refine eA (Kd.os 59 k59 w.heap.size) (w0 := w) w.heap.size (by rfl) (.tmp 29) (.tmp 31) 74 29 (.slice none 0 0) 24 rfl Try.underlying74 info29 rfl (show 0 < 1 by decide) (by omega) (.slice Nx Cx.length Ox) Cx kx _ _ _ (fun k_ => (Qx k_ ∨ w.heap.size ≤ k_) ∧ some k_ ≠ (jC Kx Bx.length Lx).ownBlock ∧ some k_ ≠ (jC Fx Ax.length Gx).ownBlock ∧ some k_ ≠ (jC Wx Tx.length Xx).ownBlock ∧ some k_ ≠ (Ux : Value).ownBlock ∧ k_ ≠ Ex ∧ k_ ≠ Dx) (fun k_ => ((fun k_ => (Qx k_ ∨ w.heap.size ≤ k_) ∧ some k_ ≠ (jC Kx Bx.length Lx).ownBlock ∧ some k_ ≠ (jC Fx Ax.length Gx).ownBlock ∧ some k_ ≠ (jC Wx Tx.length Xx).ownBlock ∧ some k_ ≠ (Ux : Value).ownBlock ∧ k_ ≠ Ex ∧ k_ ≠ Dx)) k_ ∧ some k_ ≠ (jC Nx Cx.length Ox).ownBlock) rfl rfl ?aO ?aR (fun _ hk => hk) ?aF ?aB ?aS ?aL ?_
           (case aR => exact (by skip; exact bA (nA (ok' := (fun k_ => ((fun k_ => (Qx k_ ∨ w.heap.size ≤ k_) ∧ some k_ ≠ (jC Kx Bx.length Lx).ownBlock ∧ some k_ ≠ (jC Fx Ax.length Gx).ownBlock ∧ some k_ ≠ (jC Wx Tx.length Xx).ownBlock ∧ some k_ ≠ (Ux : Value).ownBlock ∧ k_ ≠ Ex ∧ k_ ≠ Dx)) k_ ∧ some k_ ≠ (jC Nx Cx.length Ox).ownBlock)) (Yx.out) (fun k_ hk => ⟨⟨hk.1, hk.2.2.2.2.1, hk.2.2.2.2.2.1, hk.2.1, hk.2.2.1, hk.2.2.2.2.2.2.1, hk.2.2.2.2.2.2.2⟩, hk.2.2.2.1⟩))))
           (case aB => exact (by repeat (first | (with_reducible first | exact HB.out | apply uB | apply vB | apply wB | refine xB ?_ Rx.out | refine xB ?_ Vx.out) | exact HB.out)))
           (case aF => exact (fun k_ hk => ⟨(.inr (Nat.le_trans (yB (by repeat (first | (with_reducible first | exact HB.out | apply uB | apply vB | apply wB | refine xB ?_ Rx.out | refine xB ?_ Vx.out) | exact HB.out))) hk)), Kd.fresh' (mA (by (with_reducible repeat (first | apply dA | apply hA | apply gA)); exact Ix.out)) k_ hk, Kd.fresh' (dB (by (with_reducible repeat (first | apply sA | apply xA | apply wA)); exact Hx.out)) k_ hk, Kd.fresh' (dB (by (with_reducible repeat (first | apply sA | apply xA | apply wA)); exact dx.out)) k_ hk, Kd.fresh' (dB (by (with_reducible repeat (first | apply sA | apply xA | apply wA)); exact jx.out)) k_ hk, Kd.freshB (g := Ex) (o := .cells #[.slice none 0 0, .slice none 0 0, .slice none 0 0] 79 (0, 0)) (by (with_reducible repeat (first | refine aC ?_ _ | refine bC ?_ | refine cC ?_ _)); exact Px.out) k_ hk, Kd.freshB (g := Dx) (o := .cells #[.slice Nx Cx.length Ox, .slice Kx Bx.length Lx, .slice Fx Ax.length Gx] 79 (0, 0)) (by (with_reducible repeat (first | refine aC ?_ _ | refine bC ?_ | refine cC ?_ _)); exact Jx.out) k_ hk⟩))
           (case aO => exact (by (with_reducible repeat (first | apply dA | apply hA | apply gA)); exact nA Mx.out (fun _ hk => ⟨hk.1, hk.2.2.2.2.1, hk.2.2.2.2.2.1, hk.2.1, hk.2.2.2.1, hk.2.2.2.2.2.2.1, hk.2.2.2.2.2.2.2⟩)))
           (case aS => exact (yB (by repeat (first | (with_reducible first | exact HB.out | apply uB | apply vB | apply wB | refine xB ?_ Rx.out | refine xB ?_ Vx.out) | exact HB.out))))
           (case aL => have := Ez.out; omega)
           intro ex w33 ho hb hg hat
           rw [← Fz.out] at ho
           replace Zx := Aside0.mk (mB (ok := (fun k_ => (Qx k_ ∨ w.heap.size ≤ k_) ∧ some k_ ≠ (jC Kx Bx.length Lx).ownBlock ∧ some k_ ≠ (jC Fx Ax.length Gx).ownBlock ∧ some k_ ≠ (jC Wx Tx.length Xx).ownBlock ∧ some k_ ≠ (jC Vy kx.length Wy).ownBlock ∧ some k_ ≠ (Ux : Value).ownBlock ∧ k_ ≠ Ex ∧ k_ ≠ Dx)) (by (with_reducible repeat (first | apply nB | apply pB | apply oB)); exact sB Zx.out (fun _ hk => ⟨⟨hk.1, hk.2.2.2.2.2.1, hk.2.2.2.2.2.2.1, hk.2.1, hk.2.2.1, hk.2.2.2.1, hk.2.2.2.2.2.2.2.1, hk.2.2.2.2.2.2.2.2⟩, hk.2.2.2.2.1⟩)) hg hat)
           replace Ix := Aside0.mk (cA (ok := (fun k_ => (Qx k_ ∨ w.heap.size ≤ k_) ∧ some k_ ≠ (jC Fx Ax.length Gx).ownBlock ∧ some k_ ≠ (jC Wx Tx.length Xx).ownBlock ∧ some k_ ≠ (jC Vy kx.length Wy).ownBlock ∧ some k_ ≠ (Ux : Value).ownBlock ∧ k_ ≠ Ex ∧ k_ ≠ Dx)) (by (with_reducible repeat (first | apply dA | apply hA | apply gA)); exact nA Ix.out (fun _ hk => ⟨⟨hk.1, hk.2.2.2.2.2.1, hk.2.1, hk.2.2.1, hk.2.2.2.1, hk.2.2.2.2.2.2.1, hk.2.2.2.2.2.2.2⟩, hk.2.2.2.2.1⟩)) hg hat)
           replace Hx := Aside0.mk (hB (by (with_reducible repeat (first | apply sA | apply xA | apply wA)); exact Hx.out) (qA (by (with_reducible repeat (first | apply dA | apply hA | apply gA)); exact Mx.out)) (by decide) hg)
           replace Px := Aside0.mk (blk_grown (g := Ex) (o := .cells #[.slice none 0 0, .slice none 0 0, .slice none 0 0] 79 (0, 0)) (by (with_reducible repeat (first | refine aC ?_ _ | refine bC ?_ | refine cC ?_ _)); exact Px.out) hg (oA Mx.out Px.out (by decide)))
           replace Jx := Aside0.mk (blk_grown (g := Dx) (o := .cells #[.slice Nx Cx.length Ox, .slice Kx Bx.length Lx, .slice Fx Ax.length Gx] 79 (0, 0)) (by (with_reducible repeat (first | refine aC ?_ _ | refine bC ?_ | refine cC ?_ _)); exact Jx.out) hg (oA Mx.out Jx.out (by decide)))
           replace Sx := Aside0.mk (mB (ok := (fun k_ => (Qx k_ ∨ w.heap.size ≤ k_) ∧ some k_ ≠ (jC Kx Bx.length Lx).ownBlock ∧ some k_ ≠ (jC Fx Ax.length Gx).ownBlock ∧ some k_ ≠ (jC Wx Tx.length Xx).ownBlock ∧ some k_ ≠ (jC Vy kx.length Wy).ownBlock ∧ some k_ ≠ (Ux : Value).ownBlock ∧ k_ ≠ Ex ∧ k_ ≠ Dx)) (by (with_reducible repeat (first | apply nB | apply pB | apply oB)); exact sB Sx.out (fun _ hk => ⟨⟨hk.1, hk.2.2.2.2.2.1, hk.2.2.2.2.2.2.1, hk.2.1, hk.2.2.1, hk.2.2.2.1, hk.2.2.2.2.2.2.2.1, hk.2.2.2.2.2.2.2.2⟩, hk.2.2.2.2.1⟩)) hg hat)
           replace dx := Aside0.mk (hB (by (with_reducible repeat (first | apply sA | apply xA | apply wA)); exact dx.out) (qA (by (with_reducible repeat (first | apply dA | apply hA | apply gA)); exact Mx.out)) (by decide) hg)
           replace Yx := Aside0.mk (cA (ok := (fun k_ => (Qx k_ ∨ w.heap.size ≤ k_) ∧ some k_ ≠ (jC Kx Bx.length Lx).ownBlock ∧ some k_ ≠ (jC Fx Ax.length Gx).ownBlock ∧ some k_ ≠ (jC Wx Tx.length Xx).ownBlock ∧ some k_ ≠ (Ux : Value).ownBlock ∧ k_ ≠ Ex ∧ k_ ≠ Dx)) (by (with_reducible repeat (first | apply dA | apply hA | apply gA)); exact nA Yx.out (fun _ hk => ⟨⟨hk.1, hk.2.2.2.2.1, hk.2.2.2.2.2.1, hk.2.1, hk.2.2.1, hk.2.2.2.2.2.2.1, hk.2.2.2.2.2.2.2⟩, hk.2.2.2.1⟩)) hg hat)
           replace jx := Aside0.mk (hB (by (with_reducible repeat (first | apply sA | apply xA | apply wA)); exact jx.out) (qA (by (with_reducible repeat (first | apply dA | apply hA | apply gA)); exact Mx.out)) (by decide) hg)
           replace HB := Aside0.mk (hb)
           have lx := Aside0.mk (ho)
           clear Mx ho hb hg hat
           refine hK.out _ _ ⟨(dC Jx.out 0).trans rfl, (dC Jx.out 1).trans rfl, (dC Jx.out 2).trans rfl⟩ (fun fx => ?_)
           clear hK K
           refine norm_ (a' := ?_) ?_ ?_
           rotate_left
           ·
            show Act.put _ (some 32) _ = _
            simp only [Act.put, gC, hC, iC, i64_w, i32_w]
            rfl
           refine pure_ (i := 15) (N := some 43) (v := ?_) (a' := ?_) #[kC, kC, kC, kC, kC, kC, kC, kC, lC, lC, kC, kC, kC, kC, lC, kC, lC, lC, lC, lC, lC] rfl rfl (any_of HT_.out (by kernel_rfl)) (fun _ _ _ h => h) (Or.inl ⟨by rfl, ?_⟩) ?_ ?_
           rotate_left
           ·
            intro w'
            go_simp
            with_reducible rfl
           rotate_left
           ·
            simp only [Act.put, gC, hC, iC, i64_w, i32_w]
            rfl
           exact norm_ (by first | (simp only [fC, Act.put, gC, hC, iC]; done) | (simp only [fC, Act.put, gC, hC, iC]; rfl)) (Gz (.slice Vy kx.length Wy, ex, Ux) _ ⟨fx, (sB Sx.out (fun _ hk => ⟨hk.1.1, hk.1.2.2.2.1, hk.1.2.2.2.2.1, hk.2, hk.1.2.2.2.2.2.1, hk.1.2.1, hk.1.2.2.1, hk.1.2.2.2.2.2.2.1, hk.1.2.2.2.2.2.2.2⟩)), dx.out, (nA Yx.out (fun _ hk => ⟨hk.1.1, hk.1.2.2.2.1, hk.2, hk.1.2.2.2.2.1, hk.1.2.1, hk.1.2.2.1, hk.1.2.2.2.2.2.1, hk.1.2.2.2.2.2.2⟩)), (nA lx.out (fun _ hk => ⟨hk.1, hk.2.2.2.1, hk.2.2.2.2.1, hk.2.1, hk.2.2.1, hk.2.2.2.2.2.1, hk.2.2.2.2.2.2⟩)), jx.out, (sB Zx.out (fun _ hk => ⟨hk.1.1, hk.1.2.2.2.1, hk.1.2.2.2.2.1, hk.2, hk.1.2.2.2.2.2.1, hk.1.2.1, hk.1.2.2.1, hk.1.2.2.2.2.2.2.1, hk.1.2.2.2.2.2.2.2⟩)), (nA Ix.out (fun _ hk => ⟨hk.1.1, hk.1.2.2.1, hk.1.2.2.2.1, hk.2, hk.1.2.2.2.2.1, hk.1.2.1, hk.1.2.2.2.2.2.1, hk.1.2.2.2.2.2.2⟩)), Hx.out, Px.out, Jx.out, (HB.out)⟩)
          ·
           skip
           refine kA (Kd.slice 3 (Kd.int .i64)) _ 22 ?hg (N' := 36) ?hd (xs := ([Tx] : List (List Int))) (inner := [.slice Wx Tx.length Xx]) (ok := (fun k_ => (Qx k_ ∨ w.heap.size ≤ k_) ∧ some k_ ≠ (jC Nx Cx.length Ox).ownBlock ∧ some k_ ≠ (jC Kx Bx.length Lx).ownBlock ∧ some k_ ≠ (jC Fx Ax.length Gx).ownBlock ∧ some k_ ≠ ((.slice Vy kx.length Wy) : Value).ownBlock ∧ some k_ ≠ (Ux : Value).ownBlock ∧ k_ ≠ Ex ∧ k_ ≠ Dx)) (okp := (fun k_ => (Qx k_ ∨ w.heap.size ≤ k_) ∧ some k_ ≠ (jC Nx Cx.length Ox).ownBlock ∧ some k_ ≠ (jC Kx Bx.length Lx).ownBlock ∧ some k_ ≠ (jC Fx Ax.length Gx).ownBlock ∧ some k_ ≠ ((.slice Vy kx.length Wy) : Value).ownBlock ∧ some k_ ≠ (Ux : Value).ownBlock ∧ k_ ≠ Ex ∧ k_ ≠ Dx)) ?hr ?hp (fun _ hk => hk) ((show ∀ k_, w32.heap.size ≤ k_ → (fun k_ => (Qx k_ ∨ w.heap.size ≤ k_) ∧ some k_ ≠ (jC Nx Cx.length Ox).ownBlock ∧ some k_ ≠ (jC Kx Bx.length Lx).ownBlock ∧ some k_ ≠ (jC Fx Ax.length Gx).ownBlock ∧ some k_ ≠ ((.slice Vy kx.length Wy) : Value).ownBlock ∧ some k_ ≠ (Ux : Value).ownBlock ∧ k_ ≠ Ex ∧ k_ ≠ Dx) k_ from fun k_ hk => ⟨(.inr (Nat.le_trans (yB (by repeat (first | (with_reducible first | exact HB.out | apply uB | apply vB | apply wB | refine xB ?_ Rx.out | refine xB ?_ Vx.out) | exact HB.out))) hk)), Kd.fresh' (mA (by (with_reducible repeat (first | apply dA | apply hA | apply gA)); exact Mx.out)) k_ hk, Kd.fresh' (mA (by (with_reducible repeat (first | apply dA | apply hA | apply gA)); exact Ix.out)) k_ hk, Kd.fresh' (dB (by (with_reducible repeat (first | apply sA | apply xA | apply wA)); exact Hx.out)) k_ hk, Kd.fresh' (mA (by (with_reducible repeat (first | apply dA | apply hA | apply gA)); exact Yx.out)) k_ hk, Kd.fresh' (dB (by (with_reducible repeat (first | apply sA | apply xA | apply wA)); exact jx.out)) k_ hk, Kd.freshB (g := Ex) (o := .cells #[.slice none 0 0, .slice none 0 0, .slice none 0 0] 79 (0, 0)) (by (with_reducible repeat (first | refine aC ?_ _ | refine bC ?_ | refine cC ?_ _)); exact Px.out) k_ hk, Kd.freshB (g := Dx) (o := .cells #[.slice Nx Cx.length Ox, .slice Kx Bx.length Lx, .slice Fx Ax.length Gx] 79 (0, 0)) (by (with_reducible repeat (first | refine aC ?_ _ | refine bC ?_ | refine cC ?_ _)); exact Jx.out) k_ hk⟩) _ (Nat.le_refl _)) (Below.refl _ _) (Nat.le_refl _) (by simp) ?_; (case hd => rfl); (case hg => rfl); (case hr => first | (go_simp; done) | (go_simp; rfl)); (case hp => exact (Reps.one (show Kd.FK (Kd.slice 3 (Kd.int .i64)) _ _ Tx [.slice Wx Tx.length Xx] from (aA (iB (eB (ok' := (fun k_ => (Qx k_ ∨ w.heap.size ≤ k_) ∧ some k_ ≠ (jC Nx Cx.length Ox).ownBlock ∧ some k_ ≠ (jC Kx Bx.length Lx).ownBlock ∧ some k_ ≠ (jC Fx Ax.length Gx).ownBlock ∧ some k_ ≠ ((.slice Vy kx.length Wy) : Value).ownBlock ∧ some k_ ≠ (Ux : Value).ownBlock ∧ k_ ≠ Ex ∧ k_ ≠ Dx)) (kB (kB (tA (tA (tA (dx.out) (qA Mx.out) (by decide)) (qA Ix.out) (by decide)) (qA Yx.out) (by decide)) Px.out (by decide)) Jx.out (by decide)) (fun k_ hk => ⟨(.inr (hk.1.1.1.1.1.1)), hk.1.1.1.1.2, hk.1.1.1.2, hk.1.1.1.1.1.2.2, hk.1.1.2, hk.1.1.1.1.1.2.1, hk.1.2, hk.2⟩))).2.1 (rA (eB (ok' := (fun k_ => (Qx k_ ∨ w.heap.size ≤ k_) ∧ some k_ ≠ (jC Nx Cx.length Ox).ownBlock ∧ some k_ ≠ (jC Kx Bx.length Lx).ownBlock ∧ some k_ ≠ (jC Fx Ax.length Gx).ownBlock ∧ some k_ ≠ ((.slice Vy kx.length Wy) : Value).ownBlock ∧ some k_ ≠ (Ux : Value).ownBlock ∧ k_ ≠ Ex ∧ k_ ≠ Dx)) (kB (kB (tA (tA (tA (dx.out) (qA Mx.out) (by decide)) (qA Ix.out) (by decide)) (qA Yx.out) (by decide)) Px.out (by decide)) Jx.out (by decide)) (fun k_ hk => ⟨(.inr (hk.1.1.1.1.1.1)), hk.1.1.1.1.2, hk.1.1.1.2, hk.1.1.1.1.1.2.2, hk.1.1.2, hk.1.1.1.1.1.2.1, hk.1.2, hk.2⟩))))) (Reps.none _ _)))
           intro cx w33 ho34 hb hg_ hnew_
           clear hg_ hnew_
           (first | rw [← Xy.out] at ho34 | (simp only [Int.reduceToNat] at ho34; rw [← Xy.out] at ho34))
           replace Zx := Aside0.mk (qB (by (with_reducible repeat (first | apply nB | apply pB | apply oB)); exact Zx.out) (fA ho34) hb)
           replace Mx := Aside0.mk (iA (by (with_reducible repeat (first | apply dA | apply hA | apply gA)); exact Mx.out) (fA ho34) hb)
           replace Ix := Aside0.mk (iA (by (with_reducible repeat (first | apply dA | apply hA | apply gA)); exact Ix.out) (fA ho34) hb)
           replace Hx := Aside0.mk (vA (by (with_reducible repeat (first | apply sA | apply xA | apply wA)); exact Hx.out) hb)
           replace Sx := Aside0.mk (qB (by (with_reducible repeat (first | apply nB | apply pB | apply oB)); exact Sx.out) (fA ho34) hb)
           replace Yx := Aside0.mk (iA (by (with_reducible repeat (first | apply dA | apply hA | apply gA)); exact Yx.out) (fA ho34) hb)
           replace jx := Aside0.mk (vA (by (with_reducible repeat (first | apply sA | apply xA | apply wA)); exact jx.out) hb)
           have ix := Aside0.mk (lA ho34 (yB (by repeat (first | (with_reducible first | exact HB.out | apply uB | apply vB | apply wB | refine xB ?_ Rx.out | refine xB ?_ Vx.out) | exact HB.out))))
           replace Px := Aside0.mk (eC (g := Ex) (o := .cells #[.slice none 0 0, .slice none 0 0, .slice none 0 0] 79 (0, 0)) (by (with_reducible repeat (first | refine aC ?_ _ | refine bC ?_ | refine cC ?_ _)); exact Px.out) hb)
           replace Jx := Aside0.mk (eC (g := Dx) (o := .cells #[.slice Nx Cx.length Ox, .slice Kx Bx.length Lx, .slice Fx Ax.length Gx] 79 (0, 0)) (by (with_reducible repeat (first | refine aC ?_ _ | refine bC ?_ | refine cC ?_ _)); exact Jx.out) hb)
           replace HB := Aside0.mk (zB (by repeat (first | (with_reducible first | exact HB.out | apply uB | apply vB | apply wB | refine xB ?_ Rx.out | refine xB ?_ Vx.out) | exact HB.out)) hb)
           clear dx hb ho34
           refine hK.out _ _ ⟨(dC Jx.out 0).trans rfl, (dC Jx.out 1).trans rfl, (dC Jx.out 2).trans rfl⟩ (fun fx => ?_)
           clear hK K
           refine norm_ (a' := ?_) ?_ ?_
           rotate_left
           ·
            show Act.put _ (some 36) _ = _
            simp only [Act.put, gC, hC, iC, i64_w, i32_w]
            rfl
           exact norm_ (by first | (simp only [fC, Act.put, gC, hC, iC]; done) | (simp only [fC, Act.put, gC, hC, iC]; rfl)) (ry ((.slice Vy kx.length Wy), cx, Ux) _ ⟨fx, (sB Sx.out (fun _ hk => ⟨hk.1.1, hk.1.2.2.1, hk.2, hk.1.2.2.2.1, hk.1.2.2.2.2.1, hk.1.2.2.2.2.2.1, hk.1.2.2.2.2.2.2.1, hk.1.2.2.2.2.2.2.2.1, hk.1.2.2.2.2.2.2.2.2⟩)), (nA Yx.out (fun _ hk => ⟨hk.1.1, hk.2, hk.1.2.2.1, hk.1.2.2.2.1, hk.1.2.2.2.2.1, hk.1.2.2.2.2.2.1, hk.1.2.2.2.2.2.2.1, hk.1.2.2.2.2.2.2.2⟩)), (nA ix.out (fun _ hk => ⟨hk.1, hk.2.2.2.2.1, hk.2.2.2.2.2.1, hk.2.1, hk.2.2.1, hk.2.2.2.1, hk.2.2.2.2.2.2.1, hk.2.2.2.2.2.2.2⟩)), (eB jx.out (fun _ hk => ⟨hk.1, hk.2.2⟩)), (sB Zx.out (fun _ hk => ⟨hk.1.1, hk.1.2.2.1, hk.2, hk.1.2.2.2.1, hk.1.2.2.2.2.1, hk.1.2.2.2.2.2.1, hk.1.2.2.2.2.2.2.1, hk.1.2.2.2.2.2.2.2.1, hk.1.2.2.2.2.2.2.2.2⟩)), (nA Mx.out (fun _ hk => ⟨hk.1.1, hk.1.2.2.1, hk.2, hk.1.2.2.2.1, hk.1.2.2.2.2.1, hk.1.2.2.2.2.2.1, hk.1.2.2.2.2.2.2.1, hk.1.2.2.2.2.2.2.2⟩)), (nA Ix.out (fun _ hk => ⟨hk.1.1, hk.1.2.2.1, hk.2, hk.1.2.2.2.1, hk.1.2.2.2.2.1, hk.1.2.2.2.2.2.1, hk.1.2.2.2.2.2.2.1, hk.1.2.2.2.2.2.2.2⟩)), (eB Hx.out (fun _ hk => ⟨hk.1, hk.2.2⟩)), Px.out, Jx.out, (HB.out)⟩)
         ·
          skip
          rintro ⟨cx, Ux⟩ w32 ⟨hS_, Ey, Fy, Gy, Hy, Iy, Jy, Ky, Ly, My, Qy⟩
          have px : Aside0 (Kd.U k59 59 w32 w.heap.size (fun k_ => (Qx k_ ∨ w.heap.size ≤ k_) ∧ some k_ ≠ (cx : Value).ownBlock ∧ some k_ ≠ (Ux : Value).ownBlock ∧ some k_ ≠ (jC Nx Cx.length Ox).ownBlock ∧ some k_ ≠ (jC Kx Bx.length Lx).ownBlock ∧ some k_ ≠ (jC Fx Ax.length Gx).ownBlock ∧ k_ ≠ Ex ∧ k_ ≠ Dx) (.slice xx gx.length yx) gx) := ⟨Ey⟩
          have qx : Aside0 (Kd.N (Kd.slice 3 (Kd.int .i64)) 22 w32 w.heap.size (fun k_ => (Qx k_ ∨ w.heap.size ≤ k_) ∧ some k_ ≠ (Ux : Value).ownBlock ∧ some k_ ≠ (jC Nx Cx.length Ox).ownBlock ∧ some k_ ≠ (jC Kx Bx.length Lx).ownBlock ∧ some k_ ≠ (jC Fx Ax.length Gx).ownBlock ∧ k_ ≠ Ex ∧ k_ ≠ Dx) cx nx) := ⟨Fy⟩
          have rx : Aside0 (Kd.R (Kd.int .i64) 3 w32 w.heap.size (fun k_ => (w.heap.size ≤ k_) ∧ some k_ ≠ (jC Fx Ax.length Gx).ownBlock) Ux ox) := ⟨Gy⟩
          have sx : Aside0 (Kd.U k59 59 w32 w.heap.size (fun k_ => (Qx k_ ∨ w.heap.size ≤ k_) ∧ some k_ ≠ (cx : Value).ownBlock ∧ some k_ ≠ (Ux : Value).ownBlock ∧ some k_ ≠ (jC Nx Cx.length Ox).ownBlock ∧ some k_ ≠ (jC Kx Bx.length Lx).ownBlock ∧ some k_ ≠ (jC Fx Ax.length Gx).ownBlock ∧ k_ ≠ Ex ∧ k_ ≠ Dx) (.slice Ny mx.length Oy) mx) := ⟨Hy⟩
          have tx : Aside0 (Kd.N (Kd.os 59 k59 w.heap.size) 29 w32 w.heap.size (fun k_ => (Qx k_ ∨ w.heap.size ≤ k_) ∧ some k_ ≠ (cx : Value).ownBlock ∧ some k_ ≠ (Ux : Value).ownBlock ∧ some k_ ≠ (jC Kx Bx.length Lx).ownBlock ∧ some k_ ≠ (jC Fx Ax.length Gx).ownBlock ∧ k_ ≠ Ex ∧ k_ ≠ Dx) (.slice Nx Cx.length Ox) Cx) := ⟨Iy⟩
          have zx : Aside0 (Kd.N (Kd.slice 3 (Kd.int .i64)) 22 w32 w.heap.size (fun k_ => (Qx k_ ∨ w.heap.size ≤ k_) ∧ some k_ ≠ (cx : Value).ownBlock ∧ some k_ ≠ (Ux : Value).ownBlock ∧ some k_ ≠ (jC Nx Cx.length Ox).ownBlock ∧ some k_ ≠ (jC Fx Ax.length Gx).ownBlock ∧ k_ ≠ Ex ∧ k_ ≠ Dx) (.slice Kx Bx.length Lx) Bx) := ⟨Jy⟩
          have Ay : Aside0 (Kd.R (Kd.int .i64) 3 w32 w.heap.size (fun k_ => (w.heap.size ≤ k_) ∧ some k_ ≠ (Ux : Value).ownBlock) (.slice Fx Ax.length Gx) Ax) := ⟨Ky⟩
          have By : Aside0 (w32.heap[Ex]? = some (.cells #[.slice none 0 0, .slice none 0 0, .slice none 0 0] 79 (0, 0))) := ⟨Ly⟩
          have Cy : Aside0 (w32.heap[Dx]? = some (.cells #[.slice Nx Cx.length Ox, .slice Kx Bx.length Lx, .slice Fx Ax.length Gx] 79 (0, 0))) := ⟨My⟩
          have Ry : Aside0 (Below w.heap.size w w32) := ⟨Qy⟩
          clear Zx Mx Ix Hx Sx dx Px Jx HB Ey Fy Gy Hy Iy Jy Ky Ly My Qy
          have Sx := px
          have ix := qx
          have jx := rx
          have Zx := sx
          have Mx := tx
          have Ix := zx
          have Hx := Ay
          have Px := By
          have Jx := Cy
          have HB := Ry
          clear px qx rx sx tx zx Ay By Cy Ry
          have fx : w32.cell? ⟨Dx, 0, none⟩ = some (.slice Nx Cx.length Ox) ∧ w32.cell? ⟨Dx, 1, none⟩ = some (.slice Kx Bx.length Lx) ∧ w32.cell? ⟨Dx, 2, none⟩ = some (.slice Fx Ax.length Gx) := hS_
          refine norm_ (a' := ?_) ?_ ?_
          rotate_left
          ·
           simp only [fC, Act.put, gC, hC, iC]
           rfl
          refine one_ (i := 3) (N := some 31) #[kC, kC, kC, kC, lC, kC, kC, kC, kC, lC, kC, kC, kC, kC, lC, lC, lC, lC, lC, lC, lC] rfl rfl (one_of HT_.out (by kernel_rfl)) (by decide) (fun K hK => ?_)
          refine kA (Kd.os 59 k59 w.heap.size) _ 29 ?hg (N' := 31) ?hd (xs := ([gx] : List (List (S59)))) (inner := [.slice xx gx.length yx]) (ok := (fun k_ => (Qx k_ ∨ w.heap.size ≤ k_) ∧ some k_ ≠ (jC Nx Cx.length Ox).ownBlock ∧ some k_ ≠ (jC Kx Bx.length Lx).ownBlock ∧ some k_ ≠ (jC Fx Ax.length Gx).ownBlock ∧ some k_ ≠ (cx : Value).ownBlock ∧ some k_ ≠ (Ux : Value).ownBlock ∧ k_ ≠ Ex ∧ k_ ≠ Dx)) (okp := (fun k_ => (Qx k_ ∨ w.heap.size ≤ k_) ∧ some k_ ≠ (jC Nx Cx.length Ox).ownBlock ∧ some k_ ≠ (jC Kx Bx.length Lx).ownBlock ∧ some k_ ≠ (jC Fx Ax.length Gx).ownBlock ∧ some k_ ≠ (cx : Value).ownBlock ∧ some k_ ≠ (Ux : Value).ownBlock ∧ k_ ≠ Ex ∧ k_ ≠ Dx)) ?hr ?hp (fun _ hk => hk) ((show ∀ k_, w32.heap.size ≤ k_ → (fun k_ => (Qx k_ ∨ w.heap.size ≤ k_) ∧ some k_ ≠ (jC Nx Cx.length Ox).ownBlock ∧ some k_ ≠ (jC Kx Bx.length Lx).ownBlock ∧ some k_ ≠ (jC Fx Ax.length Gx).ownBlock ∧ some k_ ≠ (cx : Value).ownBlock ∧ some k_ ≠ (Ux : Value).ownBlock ∧ k_ ≠ Ex ∧ k_ ≠ Dx) k_ from fun k_ hk => ⟨(.inr (Nat.le_trans (yB (by repeat (first | (with_reducible first | exact HB.out | apply uB | apply vB | apply wB | refine xB ?_ Rx.out | refine xB ?_ Vx.out) | exact HB.out))) hk)), Kd.fresh' (mA (by (with_reducible repeat (first | apply dA | apply hA | apply gA)); exact Mx.out)) k_ hk, Kd.fresh' (mA (by (with_reducible repeat (first | apply dA | apply hA | apply gA)); exact Ix.out)) k_ hk, Kd.fresh' (dB (by (with_reducible repeat (first | apply sA | apply xA | apply wA)); exact Hx.out)) k_ hk, Kd.fresh' (mA (by (with_reducible repeat (first | apply dA | apply hA | apply gA)); exact ix.out)) k_ hk, Kd.fresh' (dB (by (with_reducible repeat (first | apply sA | apply xA | apply wA)); exact jx.out)) k_ hk, Kd.freshB (g := Ex) (o := .cells #[.slice none 0 0, .slice none 0 0, .slice none 0 0] 79 (0, 0)) (by (with_reducible repeat (first | refine aC ?_ _ | refine bC ?_ | refine cC ?_ _)); exact Px.out) k_ hk, Kd.freshB (g := Dx) (o := .cells #[.slice Nx Cx.length Ox, .slice Kx Bx.length Lx, .slice Fx Ax.length Gx] 79 (0, 0)) (by (with_reducible repeat (first | refine aC ?_ _ | refine bC ?_ | refine cC ?_ _)); exact Jx.out) k_ hk⟩) _ (Nat.le_refl _)) (Below.refl _ _) (Nat.le_refl _) (by simp) ?_; (case hd => rfl); (case hg => rfl); (case hr => first | (go_simp; done) | (go_simp; rfl)); (case hp => exact (Reps.one (show Kd.FK (Kd.os 59 k59 w.heap.size) _ _ gx [.slice xx gx.length yx] from (Kd.FK_os_U FRz (sB (ok' := (fun k_ => (Qx k_ ∨ w.heap.size ≤ k_) ∧ some k_ ≠ (jC Nx Cx.length Ox).ownBlock ∧ some k_ ≠ (jC Kx Bx.length Lx).ownBlock ∧ some k_ ≠ (jC Fx Ax.length Gx).ownBlock ∧ some k_ ≠ (cx : Value).ownBlock ∧ some k_ ≠ (Ux : Value).ownBlock ∧ k_ ≠ Ex ∧ k_ ≠ Dx)) (Sx.out) (fun k_ hk => ⟨hk.1, hk.2.2.2.1, hk.2.2.2.2.1, hk.2.2.2.2.2.1, hk.2.1, hk.2.2.1, hk.2.2.2.2.2.2.1, hk.2.2.2.2.2.2.2⟩)))) (Reps.none _ _)))
          intro bx w33 ho34 hb hg_ hnew_
          clear hg_ hnew_
          (first | rw [← ly.out] at ho34 | (simp only [Int.reduceToNat] at ho34; rw [← ly.out] at ho34))
          replace Zx := Aside0.mk (qB (by (with_reducible repeat (first | apply nB | apply pB | apply oB)); exact Zx.out) (fA ho34) hb)
          replace Mx := Aside0.mk (iA (by (with_reducible repeat (first | apply dA | apply hA | apply gA)); exact Mx.out) (fA ho34) hb)
          replace Ix := Aside0.mk (iA (by (with_reducible repeat (first | apply dA | apply hA | apply gA)); exact Ix.out) (fA ho34) hb)
          replace Hx := Aside0.mk (vA (by (with_reducible repeat (first | apply sA | apply xA | apply wA)); exact Hx.out) hb)
          replace Sx := Aside0.mk (qB (by (with_reducible repeat (first | apply nB | apply pB | apply oB)); exact Sx.out) (fA ho34) hb)
          replace ix := Aside0.mk (iA (by (with_reducible repeat (first | apply dA | apply hA | apply gA)); exact ix.out) (fA ho34) hb)
          replace jx := Aside0.mk (vA (by (with_reducible repeat (first | apply sA | apply xA | apply wA)); exact jx.out) hb)
          have Yx := Aside0.mk (lA ho34 (yB (by repeat (first | (with_reducible first | exact HB.out | apply uB | apply vB | apply wB | refine xB ?_ Rx.out | refine xB ?_ Vx.out) | exact HB.out))))
          replace Px := Aside0.mk (eC (g := Ex) (o := .cells #[.slice none 0 0, .slice none 0 0, .slice none 0 0] 79 (0, 0)) (by (with_reducible repeat (first | refine aC ?_ _ | refine bC ?_ | refine cC ?_ _)); exact Px.out) hb)
          replace Jx := Aside0.mk (eC (g := Dx) (o := .cells #[.slice Nx Cx.length Ox, .slice Kx Bx.length Lx, .slice Fx Ax.length Gx] 79 (0, 0)) (by (with_reducible repeat (first | refine aC ?_ _ | refine bC ?_ | refine cC ?_ _)); exact Jx.out) hb)
          replace HB := Aside0.mk (zB (by repeat (first | (with_reducible first | exact HB.out | apply uB | apply vB | apply wB | refine xB ?_ Rx.out | refine xB ?_ Vx.out) | exact HB.out)) hb)
          clear hb ho34
          refine hK.out _ _ ⟨(dC Jx.out 0).trans rfl, (dC Jx.out 1).trans rfl, (dC Jx.out 2).trans rfl⟩ (fun fx => ?_)
          clear hK K
          refine norm_ (a' := ?_) ?_ ?_
          rotate_left
          ·
           show Act.put _ (some 31) _ = _
           simp only [Act.put, gC, hC, iC, i64_w, i32_w]
           rfl
          exact norm_ (by first | (simp only [fC, Act.put, gC, hC, iC]; done) | (simp only [fC, Act.put, gC, hC, iC]; rfl)) (ry (bx, cx, Ux) _ ⟨fx, (sB Sx.out (fun _ hk => ⟨hk.1.1, hk.2, hk.1.2.1, hk.1.2.2.1, hk.1.2.2.2.1, hk.1.2.2.2.2.1, hk.1.2.2.2.2.2.1, hk.1.2.2.2.2.2.2.1, hk.1.2.2.2.2.2.2.2⟩)), (nA Yx.out (fun _ hk => ⟨hk.1, hk.2.2.2.2.1, hk.2.2.2.2.2.1, hk.2.1, hk.2.2.1, hk.2.2.2.1, hk.2.2.2.2.2.2.1, hk.2.2.2.2.2.2.2⟩)), (nA ix.out (fun _ hk => ⟨hk.1.1, hk.2, hk.1.2.1, hk.1.2.2.1, hk.1.2.2.2.1, hk.1.2.2.2.2.1, hk.1.2.2.2.2.2.1, hk.1.2.2.2.2.2.2⟩)), jx.out, (sB Zx.out (fun _ hk => ⟨hk.1.1, hk.2, hk.1.2.1, hk.1.2.2.1, hk.1.2.2.2.1, hk.1.2.2.2.2.1, hk.1.2.2.2.2.2.1, hk.1.2.2.2.2.2.2.1, hk.1.2.2.2.2.2.2.2⟩)), (nA Mx.out (fun _ hk => ⟨hk.1.1, hk.2, hk.1.2.1, hk.1.2.2.1, hk.1.2.2.2.1, hk.1.2.2.2.2.1, hk.1.2.2.2.2.2.1, hk.1.2.2.2.2.2.2⟩)), (nA Ix.out (fun _ hk => ⟨hk.1.1, hk.2, hk.1.2.1, hk.1.2.2.1, hk.1.2.2.2.1, hk.1.2.2.2.2.1, hk.1.2.2.2.2.2.1, hk.1.2.2.2.2.2.2⟩)), Hx.out, Px.out, Jx.out, (HB.out)⟩)
         ·
          skip
          rintro bx w30 ⟨hS_, Ey, Fy, Gy, Hy, Iy, Jy, Ky, Ly, My, Qy⟩
          have px : Aside0 (Kd.U k59 59 w30 w.heap.size (fun k_ => (Qx k_ ∨ w.heap.size ≤ k_) ∧ some k_ ≠ (jC Wx Tx.length Xx).ownBlock ∧ some k_ ≠ (bx : Value).ownBlock ∧ some k_ ≠ (jC Nx Cx.length Ox).ownBlock ∧ some k_ ≠ (jC Kx Bx.length Lx).ownBlock ∧ some k_ ≠ (jC Fx Ax.length Gx).ownBlock ∧ k_ ≠ Ex ∧ k_ ≠ Dx) (.slice xx gx.length yx) gx) := ⟨Ey⟩
          have qx : Aside0 (Kd.R (Kd.int .i64) 3 w30 w.heap.size (fun k_ => (w.heap.size ≤ k_) ∧ some k_ ≠ (jC Fx Ax.length Gx).ownBlock) (.slice Wx Tx.length Xx) Tx) := ⟨Fy⟩
          have rx : Aside0 (Kd.N (Kd.os 59 k59 w.heap.size) 29 w30 w.heap.size (fun k_ => (Qx k_ ∨ w.heap.size ≤ k_) ∧ some k_ ≠ (jC Wx Tx.length Xx).ownBlock ∧ some k_ ≠ (jC Nx Cx.length Ox).ownBlock ∧ some k_ ≠ (jC Kx Bx.length Lx).ownBlock ∧ some k_ ≠ (jC Fx Ax.length Gx).ownBlock ∧ k_ ≠ Ex ∧ k_ ≠ Dx) bx kx) := ⟨Gy⟩
          have sx : Aside0 (Kd.U k59 59 w30 w.heap.size (fun k_ => (Qx k_ ∨ w.heap.size ≤ k_) ∧ some k_ ≠ (jC Wx Tx.length Xx).ownBlock ∧ some k_ ≠ (bx : Value).ownBlock ∧ some k_ ≠ (jC Nx Cx.length Ox).ownBlock ∧ some k_ ≠ (jC Kx Bx.length Lx).ownBlock ∧ some k_ ≠ (jC Fx Ax.length Gx).ownBlock ∧ k_ ≠ Ex ∧ k_ ≠ Dx) (.slice Ny mx.length Oy) mx) := ⟨Hy⟩
          have tx : Aside0 (Kd.N (Kd.os 59 k59 w.heap.size) 29 w30 w.heap.size (fun k_ => (Qx k_ ∨ w.heap.size ≤ k_) ∧ some k_ ≠ (jC Wx Tx.length Xx).ownBlock ∧ some k_ ≠ (bx : Value).ownBlock ∧ some k_ ≠ (jC Kx Bx.length Lx).ownBlock ∧ some k_ ≠ (jC Fx Ax.length Gx).ownBlock ∧ k_ ≠ Ex ∧ k_ ≠ Dx) (.slice Nx Cx.length Ox) Cx) := ⟨Iy⟩
          have zx : Aside0 (Kd.N (Kd.slice 3 (Kd.int .i64)) 22 w30 w.heap.size (fun k_ => (Qx k_ ∨ w.heap.size ≤ k_) ∧ some k_ ≠ (jC Wx Tx.length Xx).ownBlock ∧ some k_ ≠ (bx : Value).ownBlock ∧ some k_ ≠ (jC Nx Cx.length Ox).ownBlock ∧ some k_ ≠ (jC Fx Ax.length Gx).ownBlock ∧ k_ ≠ Ex ∧ k_ ≠ Dx) (.slice Kx Bx.length Lx) Bx) := ⟨Jy⟩
          have Ay : Aside0 (Kd.R (Kd.int .i64) 3 w30 w.heap.size (fun k_ => (w.heap.size ≤ k_) ∧ some k_ ≠ (jC Wx Tx.length Xx).ownBlock) (.slice Fx Ax.length Gx) Ax) := ⟨Ky⟩
          have By : Aside0 (w30.heap[Ex]? = some (.cells #[.slice none 0 0, .slice none 0 0, .slice none 0 0] 79 (0, 0))) := ⟨Ly⟩
          have Cy : Aside0 (w30.heap[Dx]? = some (.cells #[.slice Nx Cx.length Ox, .slice Kx Bx.length Lx, .slice Fx Ax.length Gx] 79 (0, 0))) := ⟨My⟩
          have Ry : Aside0 (Below w.heap.size w w30) := ⟨Qy⟩
          clear Zx Mx Ix Hx Sx dx Px Jx HB Ey Fy Gy Hy Iy Jy Ky Ly My Qy
          have Sx := px
          have dx := qx
          have Yx := rx
          have Zx := sx
          have Mx := tx
          have Ix := zx
          have Hx := Ay
          have Px := By
          have Jx := Cy
          have HB := Ry
          clear px qx rx sx tx zx Ay By Cy Ry
          have fx : w30.cell? ⟨Dx, 0, none⟩ = some (.slice Nx Cx.length Ox) ∧ w30.cell? ⟨Dx, 1, none⟩ = some (.slice Kx Bx.length Lx) ∧ w30.cell? ⟨Dx, 2, none⟩ = some (.slice Fx Ax.length Gx) := hS_
          obtain ⟨jy, ky, eo32⟩ := pA Yx.out
          (first | subst eo32 | (injection eo32 with f1_ f2_ f3_; have f4_ := f1_.symm; have f5_ := f3_.symm; clear f1_ f2_ f3_; subst f4_; subst f5_))
          refine norm_ (a' := ?_) ?_ ?_
          rotate_left
          ·
           simp only [fC, Act.put, gC, hC, iC]
           rfl
          refine three_ (i := 4) (j := 8) (k := 13) (Ni := some 32) (Nj := some 36) (Nk := some 41) #[kC, kC, kC, kC, kC, kC, kC, kC, lC, lC, kC, kC, kC, lC, lC, lC, lC, lC, lC, lC, lC] #[kC, kC, kC, kC, lC, kC, kC, kC, kC, lC, kC, kC, kC, lC, lC, lC, lC, lC, lC, lC, lC] #[kC, kC, kC, kC, lC, kC, kC, kC, lC, lC, kC, kC, kC, kC, lC, lC, lC, lC, lC, lC, lC] rfl rfl rfl rfl rfl rfl (three_of HT_.out (by kernel_rfl)) (by decide) (by decide) (by decide) (fun K hK => ?_) (fun K hK => ?_) (fun K hK => ?_)
          ·
           skip
           refine eA (Kd.os 59 k59 w.heap.size) (w0 := w) w.heap.size (by rfl) (.tmp 29) (.tmp 31) 74 29 (.slice none 0 0) 24 rfl Try.underlying74 info29 rfl (show 0 < 1 by decide) (by omega) (.slice Nx Cx.length Ox) Cx kx _ _ _ (fun k_ => (Qx k_ ∨ w.heap.size ≤ k_) ∧ some k_ ≠ (jC Kx Bx.length Lx).ownBlock ∧ some k_ ≠ (jC Fx Ax.length Gx).ownBlock ∧ some k_ ≠ (jC Wx Tx.length Xx).ownBlock ∧ k_ ≠ Ex ∧ k_ ≠ Dx) (fun k_ => ((fun k_ => (Qx k_ ∨ w.heap.size ≤ k_) ∧ some k_ ≠ (jC Kx Bx.length Lx).ownBlock ∧ some k_ ≠ (jC Fx Ax.length Gx).ownBlock ∧ some k_ ≠ (jC Wx Tx.length Xx).ownBlock ∧ k_ ≠ Ex ∧ k_ ≠ Dx)) k_ ∧ some k_ ≠ (jC Nx Cx.length Ox).ownBlock) rfl rfl ?aO ?aR (fun _ hk => hk) ?aF ?aB ?aS ?aL ?_
           (case aR => exact (by skip; exact bA (nA (ok' := (fun k_ => ((fun k_ => (Qx k_ ∨ w.heap.size ≤ k_) ∧ some k_ ≠ (jC Kx Bx.length Lx).ownBlock ∧ some k_ ≠ (jC Fx Ax.length Gx).ownBlock ∧ some k_ ≠ (jC Wx Tx.length Xx).ownBlock ∧ k_ ≠ Ex ∧ k_ ≠ Dx)) k_ ∧ some k_ ≠ (jC Nx Cx.length Ox).ownBlock)) (Yx.out) (fun k_ hk => ⟨⟨hk.1, hk.2.2.2.1, hk.2.2.2.2.1, hk.2.1, hk.2.2.2.2.2.1, hk.2.2.2.2.2.2⟩, hk.2.2.1⟩))))
           (case aB => exact (by repeat (first | (with_reducible first | exact HB.out | apply uB | apply vB | apply wB | refine xB ?_ Rx.out | refine xB ?_ Vx.out) | exact HB.out)))
           (case aF => exact (fun k_ hk => ⟨(.inr (Nat.le_trans (yB (by repeat (first | (with_reducible first | exact HB.out | apply uB | apply vB | apply wB | refine xB ?_ Rx.out | refine xB ?_ Vx.out) | exact HB.out))) hk)), Kd.fresh' (mA (by (with_reducible repeat (first | apply dA | apply hA | apply gA)); exact Ix.out)) k_ hk, Kd.fresh' (dB (by (with_reducible repeat (first | apply sA | apply xA | apply wA)); exact Hx.out)) k_ hk, Kd.fresh' (dB (by (with_reducible repeat (first | apply sA | apply xA | apply wA)); exact dx.out)) k_ hk, Kd.freshB (g := Ex) (o := .cells #[.slice none 0 0, .slice none 0 0, .slice none 0 0] 79 (0, 0)) (by (with_reducible repeat (first | refine aC ?_ _ | refine bC ?_ | refine cC ?_ _)); exact Px.out) k_ hk, Kd.freshB (g := Dx) (o := .cells #[.slice Nx Cx.length Ox, .slice Kx Bx.length Lx, .slice Fx Ax.length Gx] 79 (0, 0)) (by (with_reducible repeat (first | refine aC ?_ _ | refine bC ?_ | refine cC ?_ _)); exact Jx.out) k_ hk⟩))
           (case aO => exact (by (with_reducible repeat (first | apply dA | apply hA | apply gA)); exact nA Mx.out (fun _ hk => ⟨hk.1, hk.2.2.2.1, hk.2.2.2.2.1, hk.2.1, hk.2.2.2.2.2.1, hk.2.2.2.2.2.2⟩)))
           (case aS => exact (yB (by repeat (first | (with_reducible first | exact HB.out | apply uB | apply vB | apply wB | refine xB ?_ Rx.out | refine xB ?_ Vx.out) | exact HB.out))))
           (case aL => have := Ez.out; omega)
           intro ex w31 ho hb hg hat
           rw [← Fz.out] at ho
           replace Zx := Aside0.mk (mB (ok := (fun k_ => (Qx k_ ∨ w.heap.size ≤ k_) ∧ some k_ ≠ (jC Kx Bx.length Lx).ownBlock ∧ some k_ ≠ (jC Fx Ax.length Gx).ownBlock ∧ some k_ ≠ (jC Wx Tx.length Xx).ownBlock ∧ some k_ ≠ (jC jy kx.length ky).ownBlock ∧ k_ ≠ Ex ∧ k_ ≠ Dx)) (by (with_reducible repeat (first | apply nB | apply pB | apply oB)); exact sB Zx.out (fun _ hk => ⟨⟨hk.1, hk.2.2.2.2.1, hk.2.2.2.2.2.1, hk.2.1, hk.2.2.1, hk.2.2.2.2.2.2.1, hk.2.2.2.2.2.2.2⟩, hk.2.2.2.1⟩)) hg hat)
           replace Ix := Aside0.mk (cA (ok := (fun k_ => (Qx k_ ∨ w.heap.size ≤ k_) ∧ some k_ ≠ (jC Fx Ax.length Gx).ownBlock ∧ some k_ ≠ (jC Wx Tx.length Xx).ownBlock ∧ some k_ ≠ (jC jy kx.length ky).ownBlock ∧ k_ ≠ Ex ∧ k_ ≠ Dx)) (by (with_reducible repeat (first | apply dA | apply hA | apply gA)); exact nA Ix.out (fun _ hk => ⟨⟨hk.1, hk.2.2.2.2.1, hk.2.1, hk.2.2.1, hk.2.2.2.2.2.1, hk.2.2.2.2.2.2⟩, hk.2.2.2.1⟩)) hg hat)
           replace Hx := Aside0.mk (hB (by (with_reducible repeat (first | apply sA | apply xA | apply wA)); exact Hx.out) (qA (by (with_reducible repeat (first | apply dA | apply hA | apply gA)); exact Mx.out)) (by decide) hg)
           replace Px := Aside0.mk (blk_grown (g := Ex) (o := .cells #[.slice none 0 0, .slice none 0 0, .slice none 0 0] 79 (0, 0)) (by (with_reducible repeat (first | refine aC ?_ _ | refine bC ?_ | refine cC ?_ _)); exact Px.out) hg (oA Mx.out Px.out (by decide)))
           replace Jx := Aside0.mk (blk_grown (g := Dx) (o := .cells #[.slice Nx Cx.length Ox, .slice Kx Bx.length Lx, .slice Fx Ax.length Gx] 79 (0, 0)) (by (with_reducible repeat (first | refine aC ?_ _ | refine bC ?_ | refine cC ?_ _)); exact Jx.out) hg (oA Mx.out Jx.out (by decide)))
           replace Sx := Aside0.mk (mB (ok := (fun k_ => (Qx k_ ∨ w.heap.size ≤ k_) ∧ some k_ ≠ (jC Kx Bx.length Lx).ownBlock ∧ some k_ ≠ (jC Fx Ax.length Gx).ownBlock ∧ some k_ ≠ (jC Wx Tx.length Xx).ownBlock ∧ some k_ ≠ (jC jy kx.length ky).ownBlock ∧ k_ ≠ Ex ∧ k_ ≠ Dx)) (by (with_reducible repeat (first | apply nB | apply pB | apply oB)); exact sB Sx.out (fun _ hk => ⟨⟨hk.1, hk.2.2.2.2.1, hk.2.2.2.2.2.1, hk.2.1, hk.2.2.1, hk.2.2.2.2.2.2.1, hk.2.2.2.2.2.2.2⟩, hk.2.2.2.1⟩)) hg hat)
           replace dx := Aside0.mk (hB (by (with_reducible repeat (first | apply sA | apply xA | apply wA)); exact dx.out) (qA (by (with_reducible repeat (first | apply dA | apply hA | apply gA)); exact Mx.out)) (by decide) hg)
           replace Yx := Aside0.mk (cA (ok := (fun k_ => (Qx k_ ∨ w.heap.size ≤ k_) ∧ some k_ ≠ (jC Kx Bx.length Lx).ownBlock ∧ some k_ ≠ (jC Fx Ax.length Gx).ownBlock ∧ some k_ ≠ (jC Wx Tx.length Xx).ownBlock ∧ k_ ≠ Ex ∧ k_ ≠ Dx)) (by (with_reducible repeat (first | apply dA | apply hA | apply gA)); exact nA Yx.out (fun _ hk => ⟨⟨hk.1, hk.2.2.2.1, hk.2.2.2.2.1, hk.2.1, hk.2.2.2.2.2.1, hk.2.2.2.2.2.2⟩, hk.2.2.1⟩)) hg hat)
           replace HB := Aside0.mk (hb)
           have lx := Aside0.mk (ho)
           clear Mx ho hb hg hat
           refine hK.out _ _ ⟨(dC Jx.out 0).trans rfl, (dC Jx.out 1).trans rfl, (dC Jx.out 2).trans rfl⟩ (fun fx => ?_)
           clear hK K
           refine norm_ (a' := ?_) ?_ ?_
           rotate_left
           ·
            show Act.put _ (some 32) _ = _
            simp only [Act.put, gC, hC, iC, i64_w, i32_w]
            rfl
           refine pure_ (i := 15) (N := some 43) (v := ?_) (a' := ?_) #[kC, kC, kC, kC, kC, kC, kC, kC, lC, lC, kC, kC, kC, lC, lC, kC, lC, lC, lC, lC, lC] rfl rfl (any_of HT_.out (by kernel_rfl)) (fun _ _ _ h => h) (Or.inl ⟨by rfl, ?_⟩) ?_ ?_
           rotate_left
           ·
            intro w'
            go_simp
            with_reducible rfl
           rotate_left
           ·
            simp only [Act.put, gC, hC, iC, i64_w, i32_w]
            rfl
           exact norm_ (by first | (simp only [fC, Act.put, gC, hC, iC]; done) | (simp only [fC, Act.put, gC, hC, iC]; rfl)) (dz (.slice jy kx.length ky, ex) _ ⟨fx, (sB Sx.out (fun _ hk => ⟨hk.1.1, hk.1.2.2.2.1, hk.1.2.2.2.2.1, hk.2, hk.1.2.1, hk.1.2.2.1, hk.1.2.2.2.2.2.1, hk.1.2.2.2.2.2.2⟩)), dx.out, (nA Yx.out (fun _ hk => ⟨hk.1.1, hk.1.2.2.2.1, hk.2, hk.1.2.1, hk.1.2.2.1, hk.1.2.2.2.2.1, hk.1.2.2.2.2.2⟩)), (nA lx.out (fun _ hk => ⟨hk.1, hk.2.2.2.1, hk.2.1, hk.2.2.1, hk.2.2.2.2.1, hk.2.2.2.2.2⟩)), (sB Zx.out (fun _ hk => ⟨hk.1.1, hk.1.2.2.2.1, hk.1.2.2.2.2.1, hk.2, hk.1.2.1, hk.1.2.2.1, hk.1.2.2.2.2.2.1, hk.1.2.2.2.2.2.2⟩)), (nA Ix.out (fun _ hk => ⟨hk.1.1, hk.1.2.2.1, hk.1.2.2.2.1, hk.2, hk.1.2.1, hk.1.2.2.2.2.1, hk.1.2.2.2.2.2⟩)), Hx.out, Px.out, Jx.out, (HB.out)⟩)
          ·
           skip
           refine kA (Kd.slice 3 (Kd.int .i64)) _ 22 ?hg (N' := 36) ?hd (xs := ([Tx] : List (List Int))) (inner := [.slice Wx Tx.length Xx]) (ok := (fun k_ => (Qx k_ ∨ w.heap.size ≤ k_) ∧ some k_ ≠ (jC Nx Cx.length Ox).ownBlock ∧ some k_ ≠ (jC Kx Bx.length Lx).ownBlock ∧ some k_ ≠ (jC Fx Ax.length Gx).ownBlock ∧ some k_ ≠ ((.slice jy kx.length ky) : Value).ownBlock ∧ k_ ≠ Ex ∧ k_ ≠ Dx)) (okp := (fun k_ => (Qx k_ ∨ w.heap.size ≤ k_) ∧ some k_ ≠ (jC Nx Cx.length Ox).ownBlock ∧ some k_ ≠ (jC Kx Bx.length Lx).ownBlock ∧ some k_ ≠ (jC Fx Ax.length Gx).ownBlock ∧ some k_ ≠ ((.slice jy kx.length ky) : Value).ownBlock ∧ k_ ≠ Ex ∧ k_ ≠ Dx)) ?hr ?hp (fun _ hk => hk) ((show ∀ k_, w30.heap.size ≤ k_ → (fun k_ => (Qx k_ ∨ w.heap.size ≤ k_) ∧ some k_ ≠ (jC Nx Cx.length Ox).ownBlock ∧ some k_ ≠ (jC Kx Bx.length Lx).ownBlock ∧ some k_ ≠ (jC Fx Ax.length Gx).ownBlock ∧ some k_ ≠ ((.slice jy kx.length ky) : Value).ownBlock ∧ k_ ≠ Ex ∧ k_ ≠ Dx) k_ from fun k_ hk => ⟨(.inr (Nat.le_trans (yB (by repeat (first | (with_reducible first | exact HB.out | apply uB | apply vB | apply wB | refine xB ?_ Rx.out | refine xB ?_ Vx.out) | exact HB.out))) hk)), Kd.fresh' (mA (by (with_reducible repeat (first | apply dA | apply hA | apply gA)); exact Mx.out)) k_ hk, Kd.fresh' (mA (by (with_reducible repeat (first | apply dA | apply hA | apply gA)); exact Ix.out)) k_ hk, Kd.fresh' (dB (by (with_reducible repeat (first | apply sA | apply xA | apply wA)); exact Hx.out)) k_ hk, Kd.fresh' (mA (by (with_reducible repeat (first | apply dA | apply hA | apply gA)); exact Yx.out)) k_ hk, Kd.freshB (g := Ex) (o := .cells #[.slice none 0 0, .slice none 0 0, .slice none 0 0] 79 (0, 0)) (by (with_reducible repeat (first | refine aC ?_ _ | refine bC ?_ | refine cC ?_ _)); exact Px.out) k_ hk, Kd.freshB (g := Dx) (o := .cells #[.slice Nx Cx.length Ox, .slice Kx Bx.length Lx, .slice Fx Ax.length Gx] 79 (0, 0)) (by (with_reducible repeat (first | refine aC ?_ _ | refine bC ?_ | refine cC ?_ _)); exact Jx.out) k_ hk⟩) _ (Nat.le_refl _)) (Below.refl _ _) (Nat.le_refl _) (by simp) ?_; (case hd => rfl); (case hg => rfl); (case hr => first | (go_simp; done) | (go_simp; rfl)); (case hp => exact (Reps.one (show Kd.FK (Kd.slice 3 (Kd.int .i64)) _ _ Tx [.slice Wx Tx.length Xx] from (aA (iB (eB (ok' := (fun k_ => (Qx k_ ∨ w.heap.size ≤ k_) ∧ some k_ ≠ (jC Nx Cx.length Ox).ownBlock ∧ some k_ ≠ (jC Kx Bx.length Lx).ownBlock ∧ some k_ ≠ (jC Fx Ax.length Gx).ownBlock ∧ some k_ ≠ ((.slice jy kx.length ky) : Value).ownBlock ∧ k_ ≠ Ex ∧ k_ ≠ Dx)) (kB (kB (tA (tA (tA (dx.out) (qA Mx.out) (by decide)) (qA Ix.out) (by decide)) (qA Yx.out) (by decide)) Px.out (by decide)) Jx.out (by decide)) (fun k_ hk => ⟨(.inr (hk.1.1.1.1.1.1)), hk.1.1.1.1.2, hk.1.1.1.2, hk.1.1.1.1.1.2, hk.1.1.2, hk.1.2, hk.2⟩))).2.1 (rA (eB (ok' := (fun k_ => (Qx k_ ∨ w.heap.size ≤ k_) ∧ some k_ ≠ (jC Nx Cx.length Ox).ownBlock ∧ some k_ ≠ (jC Kx Bx.length Lx).ownBlock ∧ some k_ ≠ (jC Fx Ax.length Gx).ownBlock ∧ some k_ ≠ ((.slice jy kx.length ky) : Value).ownBlock ∧ k_ ≠ Ex ∧ k_ ≠ Dx)) (kB (kB (tA (tA (tA (dx.out) (qA Mx.out) (by decide)) (qA Ix.out) (by decide)) (qA Yx.out) (by decide)) Px.out (by decide)) Jx.out (by decide)) (fun k_ hk => ⟨(.inr (hk.1.1.1.1.1.1)), hk.1.1.1.1.2, hk.1.1.1.2, hk.1.1.1.1.1.2, hk.1.1.2, hk.1.2, hk.2⟩))))) (Reps.none _ _)))
           intro cx w31 ho32 hb hg_ hnew_
           clear hg_ hnew_
           (first | rw [← Xy.out] at ho32 | (simp only [Int.reduceToNat] at ho32; rw [← Xy.out] at ho32))
           replace Zx := Aside0.mk (qB (by (with_reducible repeat (first | apply nB | apply pB | apply oB)); exact Zx.out) (fA ho32) hb)
           replace Mx := Aside0.mk (iA (by (with_reducible repeat (first | apply dA | apply hA | apply gA)); exact Mx.out) (fA ho32) hb)
           replace Ix := Aside0.mk (iA (by (with_reducible repeat (first | apply dA | apply hA | apply gA)); exact Ix.out) (fA ho32) hb)
           replace Hx := Aside0.mk (vA (by (with_reducible repeat (first | apply sA | apply xA | apply wA)); exact Hx.out) hb)
           replace Sx := Aside0.mk (qB (by (with_reducible repeat (first | apply nB | apply pB | apply oB)); exact Sx.out) (fA ho32) hb)
           replace Yx := Aside0.mk (iA (by (with_reducible repeat (first | apply dA | apply hA | apply gA)); exact Yx.out) (fA ho32) hb)
           have ix := Aside0.mk (lA ho32 (yB (by repeat (first | (with_reducible first | exact HB.out | apply uB | apply vB | apply wB | refine xB ?_ Rx.out | refine xB ?_ Vx.out) | exact HB.out))))
           replace Px := Aside0.mk (eC (g := Ex) (o := .cells #[.slice none 0 0, .slice none 0 0, .slice none 0 0] 79 (0, 0)) (by (with_reducible repeat (first | refine aC ?_ _ | refine bC ?_ | refine cC ?_ _)); exact Px.out) hb)
           replace Jx := Aside0.mk (eC (g := Dx) (o := .cells #[.slice Nx Cx.length Ox, .slice Kx Bx.length Lx, .slice Fx Ax.length Gx] 79 (0, 0)) (by (with_reducible repeat (first | refine aC ?_ _ | refine bC ?_ | refine cC ?_ _)); exact Jx.out) hb)
           replace HB := Aside0.mk (zB (by repeat (first | (with_reducible first | exact HB.out | apply uB | apply vB | apply wB | refine xB ?_ Rx.out | refine xB ?_ Vx.out) | exact HB.out)) hb)
           clear dx hb ho32
           refine hK.out _ _ ⟨(dC Jx.out 0).trans rfl, (dC Jx.out 1).trans rfl, (dC Jx.out 2).trans rfl⟩ (fun fx => ?_)
           clear hK K
           refine norm_ (a' := ?_) ?_ ?_
           rotate_left
           ·
            show Act.put _ (some 36) _ = _
            simp only [Act.put, gC, hC, iC, i64_w, i32_w]
            rfl
           exact norm_ (by first | (simp only [fC, Act.put, gC, hC, iC]; done) | (simp only [fC, Act.put, gC, hC, iC]; rfl)) (Yz ((.slice jy kx.length ky), cx) _ ⟨fx, (sB Sx.out (fun _ hk => ⟨hk.1.1, hk.1.2.2.1, hk.2, hk.1.2.2.2.1, hk.1.2.2.2.2.1, hk.1.2.2.2.2.2.1, hk.1.2.2.2.2.2.2.1, hk.1.2.2.2.2.2.2.2⟩)), (nA Yx.out (fun _ hk => ⟨hk.1.1, hk.2, hk.1.2.2.1, hk.1.2.2.2.1, hk.1.2.2.2.2.1, hk.1.2.2.2.2.2.1, hk.1.2.2.2.2.2.2⟩)), (nA ix.out (fun _ hk => ⟨hk.1, hk.2.2.2.2.1, hk.2.1, hk.2.2.1, hk.2.2.2.1, hk.2.2.2.2.2.1, hk.2.2.2.2.2.2⟩)), (sB Zx.out (fun _ hk => ⟨hk.1.1, hk.1.2.2.1, hk.2, hk.1.2.2.2.1, hk.1.2.2.2.2.1, hk.1.2.2.2.2.2.1, hk.1.2.2.2.2.2.2.1, hk.1.2.2.2.2.2.2.2⟩)), (nA Mx.out (fun _ hk => ⟨hk.1.1, hk.1.2.2.1, hk.2, hk.1.2.2.2.1, hk.1.2.2.2.2.1, hk.1.2.2.2.2.2.1, hk.1.2.2.2.2.2.2⟩)), (nA Ix.out (fun _ hk => ⟨hk.1.1, hk.1.2.2.1, hk.2, hk.1.2.2.2.1, hk.1.2.2.2.2.1, hk.1.2.2.2.2.2.1, hk.1.2.2.2.2.2.2⟩)), (eB Hx.out (fun _ hk => hk.1)), Px.out, Jx.out, (HB.out)⟩)
          ·
           skip
           refine bB (Kd.int .i64) _ 3 ?hg (N := 41) ?hd (xs := ([vx] : List Int)) (inner := [.int .i64 vx]) (ok := fun _ => True) (okp := fun _ => True) ?hr ?hp (fun _ hk => hk) trivial (Below.refl _ _) (Nat.le_refl _) (by simp) ?_; (case hd => rfl); (case hg => rfl); (case hr => first | (go_simp; done) | (go_simp; rfl)); (case hp => exact (Reps.one (show Kd.M (Kd.int .i64) _ _ _ vx [.int .i64 vx] from rfl) (Reps.none _ _)))
           intro Ux w31 ho32 hb hg_ hnew_
           clear hg_ hnew_
           (first | rw [← Uy.out] at ho32 | (simp only [Int.reduceToNat] at ho32; rw [← Uy.out] at ho32))
           replace Zx := Aside0.mk (qB (by (with_reducible repeat (first | apply nB | apply pB | apply oB)); exact Zx.out) (uA ho32) hb)
           replace Mx := Aside0.mk (iA (by (with_reducible repeat (first | apply dA | apply hA | apply gA)); exact Mx.out) (uA ho32) hb)
           replace Ix := Aside0.mk (iA (by (with_reducible repeat (first | apply dA | apply hA | apply gA)); exact Ix.out) (uA ho32) hb)
           replace Sx := Aside0.mk (qB (by (with_reducible repeat (first | apply nB | apply pB | apply oB)); exact Sx.out) (uA ho32) hb)
           replace Yx := Aside0.mk (iA (by (with_reducible repeat (first | apply dA | apply hA | apply gA)); exact Yx.out) (uA ho32) hb)
           have jx := Aside0.mk (cB (fB (fB (gB (M := fun k_ => (w.heap.size ≤ k_)) ho32 (yB (by repeat (first | (with_reducible first | exact HB.out | apply uB | apply vB | apply wB | refine xB ?_ Rx.out | refine xB ?_ Vx.out) | exact HB.out))) (fun k_ h_ => h_)) (dB (by (with_reducible repeat (first | apply sA | apply xA | apply wA)); exact Hx.out))) (dB (by (with_reducible repeat (first | apply sA | apply xA | apply wA)); exact dx.out))) (yB (by repeat (first | (with_reducible first | exact HB.out | apply uB | apply vB | apply wB | refine xB ?_ Rx.out | refine xB ?_ Vx.out) | exact HB.out))))
           replace Hx := Aside0.mk (yA (by (with_reducible repeat (first | apply sA | apply xA | apply wA)); exact Hx.out) (uA ho32) hb)
           replace dx := Aside0.mk (yA (by (with_reducible repeat (first | apply sA | apply xA | apply wA)); exact dx.out) (uA ho32) hb)
           replace Px := Aside0.mk (eC (g := Ex) (o := .cells #[.slice none 0 0, .slice none 0 0, .slice none 0 0] 79 (0, 0)) (by (with_reducible repeat (first | refine aC ?_ _ | refine bC ?_ | refine cC ?_ _)); exact Px.out) hb)
           replace Jx := Aside0.mk (eC (g := Dx) (o := .cells #[.slice Nx Cx.length Ox, .slice Kx Bx.length Lx, .slice Fx Ax.length Gx] 79 (0, 0)) (by (with_reducible repeat (first | refine aC ?_ _ | refine bC ?_ | refine cC ?_ _)); exact Jx.out) hb)
           replace HB := Aside0.mk (zB (by repeat (first | (with_reducible first | exact HB.out | apply uB | apply vB | apply wB | refine xB ?_ Rx.out | refine xB ?_ Vx.out) | exact HB.out)) hb)
           clear hb ho32
           refine hK.out _ _ ⟨(dC Jx.out 0).trans rfl, (dC Jx.out 1).trans rfl, (dC Jx.out 2).trans rfl⟩ (fun fx => ?_)
           clear hK K
           refine norm_ (a' := ?_) ?_ ?_
           rotate_left
           ·
            show Act.put _ (some 41) _ = _
            simp only [Act.put, gC, hC, iC, i64_w, i32_w]
            rfl
           exact norm_ (by first | (simp only [fC, Act.put, gC, hC, iC]; done) | (simp only [fC, Act.put, gC, hC, iC]; rfl)) (Tz ((.slice jy kx.length ky), Ux) _ ⟨fx, (sB Sx.out (fun _ hk => ⟨hk.1.1, hk.1.2.1, hk.1.2.2.1, hk.2, hk.1.2.2.2.1, hk.1.2.2.2.2.1, hk.1.2.2.2.2.2.1, hk.1.2.2.2.2.2.2.1, hk.1.2.2.2.2.2.2.2⟩)), (eB dx.out (fun _ hk => ⟨hk.1.1, hk.2, hk.1.2⟩)), (nA Yx.out (fun _ hk => ⟨hk.1.1, hk.1.2.1, hk.2, hk.1.2.2.1, hk.1.2.2.2.1, hk.1.2.2.2.2.1, hk.1.2.2.2.2.2.1, hk.1.2.2.2.2.2.2⟩)), (eB jx.out (fun _ hk => ⟨hk.1.1.1, hk.2, hk.1.2⟩)), (sB Zx.out (fun _ hk => ⟨hk.1.1, hk.1.2.1, hk.1.2.2.1, hk.2, hk.1.2.2.2.1, hk.1.2.2.2.2.1, hk.1.2.2.2.2.2.1, hk.1.2.2.2.2.2.2.1, hk.1.2.2.2.2.2.2.2⟩)), (nA Mx.out (fun _ hk => ⟨hk.1.1, hk.1.2.1, hk.1.2.2.1, hk.2, hk.1.2.2.2.1, hk.1.2.2.2.2.1, hk.1.2.2.2.2.2.1, hk.1.2.2.2.2.2.2⟩)), (nA Ix.out (fun _ hk => ⟨hk.1.1, hk.1.2.1, hk.1.2.2.1, hk.2, hk.1.2.2.2.1, hk.1.2.2.2.2.1, hk.1.2.2.2.2.2.1, hk.1.2.2.2.2.2.2⟩)), (eB Hx.out (fun _ hk => ⟨hk.1.1, hk.1.2, hk.2⟩)), Px.out, Jx.out, (HB.out)⟩)
         ·
          skip
          rintro cx w30 ⟨hS_, Ey, Fy, Gy, Hy, Iy, Jy, Ky, Ly, My⟩
          have px : Aside0 (Kd.U k59 59 w30 w.heap.size (fun k_ => (Qx k_ ∨ w.heap.size ≤ k_) ∧ some k_ ≠ (cx : Value).ownBlock ∧ some k_ ≠ (jC Nx Cx.length Ox).ownBlock ∧ some k_ ≠ (jC Kx Bx.length Lx).ownBlock ∧ some k_ ≠ (jC Fx Ax.length Gx).ownBlock ∧ k_ ≠ Ex ∧ k_ ≠ Dx) (.slice xx gx.length yx) gx) := ⟨Ey⟩
          have qx : Aside0 (Kd.N (Kd.slice 3 (Kd.int .i64)) 22 w30 w.heap.size (fun k_ => (Qx k_ ∨ w.heap.size ≤ k_) ∧ some k_ ≠ (jC Nx Cx.length Ox).ownBlock ∧ some k_ ≠ (jC Kx Bx.length Lx).ownBlock ∧ some k_ ≠ (jC Fx Ax.length Gx).ownBlock ∧ k_ ≠ Ex ∧ k_ ≠ Dx) cx nx) := ⟨Fy⟩
          have rx : Aside0 (Kd.U k59 59 w30 w.heap.size (fun k_ => (Qx k_ ∨ w.heap.size ≤ k_) ∧ some k_ ≠ (cx : Value).ownBlock ∧ some k_ ≠ (jC Nx Cx.length Ox).ownBlock ∧ some k_ ≠ (jC Kx Bx.length Lx).ownBlock ∧ some k_ ≠ (jC Fx Ax.length Gx).ownBlock ∧ k_ ≠ Ex ∧ k_ ≠ Dx) (.slice Ny mx.length Oy) mx) := ⟨Gy⟩
          have sx : Aside0 (Kd.N (Kd.os 59 k59 w.heap.size) 29 w30 w.heap.size (fun k_ => (Qx k_ ∨ w.heap.size ≤ k_) ∧ some k_ ≠ (cx : Value).ownBlock ∧ some k_ ≠ (jC Kx Bx.length Lx).ownBlock ∧ some k_ ≠ (jC Fx Ax.length Gx).ownBlock ∧ k_ ≠ Ex ∧ k_ ≠ Dx) (.slice Nx Cx.length Ox) Cx) := ⟨Hy⟩
          have tx : Aside0 (Kd.N (Kd.slice 3 (Kd.int .i64)) 22 w30 w.heap.size (fun k_ => (Qx k_ ∨ w.heap.size ≤ k_) ∧ some k_ ≠ (cx : Value).ownBlock ∧ some k_ ≠ (jC Nx Cx.length Ox).ownBlock ∧ some k_ ≠ (jC Fx Ax.length Gx).ownBlock ∧ k_ ≠ Ex ∧ k_ ≠ Dx) (.slice Kx Bx.length Lx) Bx) := ⟨Iy⟩
          have zx : Aside0 (Kd.R (Kd.int .i64) 3 w30 w.heap.size (fun k_ => (w.heap.size ≤ k_)) (.slice Fx Ax.length Gx) Ax) := ⟨Jy⟩
          have Ay : Aside0 (w30.heap[Ex]? = some (.cells #[.slice none 0 0, .slice none 0 0, .slice none 0 0] 79 (0, 0))) := ⟨Ky⟩
          have By : Aside0 (w30.heap[Dx]? = some (.cells #[.slice Nx Cx.length Ox, .slice Kx Bx.length Lx, .slice Fx Ax.length Gx] 79 (0, 0))) := ⟨Ly⟩
          have Cy : Aside0 (Below w.heap.size w w30) := ⟨My⟩
          clear Zx Mx Ix Hx Sx dx Px Jx HB Ey Fy Gy Hy Iy Jy Ky Ly My
          have Sx := px
          have ix := qx
          have Zx := rx
          have Mx := sx
          have Ix := tx
          have Hx := zx
          have Px := Ay
          have Jx := By
          have HB := Cy
          clear px qx rx sx tx zx Ay By Cy
          have fx : w30.cell? ⟨Dx, 0, none⟩ = some (.slice Nx Cx.length Ox) ∧ w30.cell? ⟨Dx, 1, none⟩ = some (.slice Kx Bx.length Lx) ∧ w30.cell? ⟨Dx, 2, none⟩ = some (.slice Fx Ax.length Gx) := hS_
          refine norm_ (a' := ?_) ?_ ?_
          rotate_left
          ·
           simp only [fC, Act.put, gC, hC, iC]
           rfl
          refine two_ (i := 3) (j := 13) (Ni := some 31) (Nj := some 41) #[kC, kC, kC, kC, lC, kC, kC, kC, kC, lC, kC, kC, kC, lC, lC, lC, lC, lC, lC, lC, lC] #[kC, kC, kC, lC, lC, kC, kC, kC, kC, lC, kC, kC, kC, kC, lC, lC, lC, lC, lC, lC, lC] rfl rfl rfl rfl (two_of HT_.out (by kernel_rfl)) (by decide) (by decide) (fun K hK => ?_) (fun K hK => ?_)
          ·
           skip
           refine kA (Kd.os 59 k59 w.heap.size) _ 29 ?hg (N' := 31) ?hd (xs := ([gx] : List (List (S59)))) (inner := [.slice xx gx.length yx]) (ok := (fun k_ => (Qx k_ ∨ w.heap.size ≤ k_) ∧ some k_ ≠ (jC Nx Cx.length Ox).ownBlock ∧ some k_ ≠ (jC Kx Bx.length Lx).ownBlock ∧ some k_ ≠ (jC Fx Ax.length Gx).ownBlock ∧ some k_ ≠ (cx : Value).ownBlock ∧ k_ ≠ Ex ∧ k_ ≠ Dx)) (okp := (fun k_ => (Qx k_ ∨ w.heap.size ≤ k_) ∧ some k_ ≠ (jC Nx Cx.length Ox).ownBlock ∧ some k_ ≠ (jC Kx Bx.length Lx).ownBlock ∧ some k_ ≠ (jC Fx Ax.length Gx).ownBlock ∧ some k_ ≠ (cx : Value).ownBlock ∧ k_ ≠ Ex ∧ k_ ≠ Dx)) ?hr ?hp (fun _ hk => hk) ((show ∀ k_, w30.heap.size ≤ k_ → (fun k_ => (Qx k_ ∨ w.heap.size ≤ k_) ∧ some k_ ≠ (jC Nx Cx.length Ox).ownBlock ∧ some k_ ≠ (jC Kx Bx.length Lx).ownBlock ∧ some k_ ≠ (jC Fx Ax.length Gx).ownBlock ∧ some k_ ≠ (cx : Value).ownBlock ∧ k_ ≠ Ex ∧ k_ ≠ Dx) k_ from fun k_ hk => ⟨(.inr (Nat.le_trans (yB (by repeat (first | (with_reducible first | exact HB.out | apply uB | apply vB | apply wB | refine xB ?_ Rx.out | refine xB ?_ Vx.out) | exact HB.out))) hk)), Kd.fresh' (mA (by (with_reducible repeat (first | apply dA | apply hA | apply gA)); exact Mx.out)) k_ hk, Kd.fresh' (mA (by (with_reducible repeat (first | apply dA | apply hA | apply gA)); exact Ix.out)) k_ hk, Kd.fresh' (dB (by (with_reducible repeat (first | apply sA | apply xA | apply wA)); exact Hx.out)) k_ hk, Kd.fresh' (mA (by (with_reducible repeat (first | apply dA | apply hA | apply gA)); exact ix.out)) k_ hk, Kd.freshB (g := Ex) (o := .cells #[.slice none 0 0, .slice none 0 0, .slice none 0 0] 79 (0, 0)) (by (with_reducible repeat (first | refine aC ?_ _ | refine bC ?_ | refine cC ?_ _)); exact Px.out) k_ hk, Kd.freshB (g := Dx) (o := .cells #[.slice Nx Cx.length Ox, .slice Kx Bx.length Lx, .slice Fx Ax.length Gx] 79 (0, 0)) (by (with_reducible repeat (first | refine aC ?_ _ | refine bC ?_ | refine cC ?_ _)); exact Jx.out) k_ hk⟩) _ (Nat.le_refl _)) (Below.refl _ _) (Nat.le_refl _) (by simp) ?_; (case hd => rfl); (case hg => rfl); (case hr => first | (go_simp; done) | (go_simp; rfl)); (case hp => exact (Reps.one (show Kd.FK (Kd.os 59 k59 w.heap.size) _ _ gx [.slice xx gx.length yx] from (Kd.FK_os_U FRz (sB (ok' := (fun k_ => (Qx k_ ∨ w.heap.size ≤ k_) ∧ some k_ ≠ (jC Nx Cx.length Ox).ownBlock ∧ some k_ ≠ (jC Kx Bx.length Lx).ownBlock ∧ some k_ ≠ (jC Fx Ax.length Gx).ownBlock ∧ some k_ ≠ (cx : Value).ownBlock ∧ k_ ≠ Ex ∧ k_ ≠ Dx)) (Sx.out) (fun k_ hk => ⟨hk.1, hk.2.2.1, hk.2.2.2.1, hk.2.2.2.2.1, hk.2.1, hk.2.2.2.2.2.1, hk.2.2.2.2.2.2⟩)))) (Reps.none _ _)))
           intro bx w31 ho32 hb hg_ hnew_
           clear hg_ hnew_
           (first | rw [← ly.out] at ho32 | (simp only [Int.reduceToNat] at ho32; rw [← ly.out] at ho32))
           replace Zx := Aside0.mk (qB (by (with_reducible repeat (first | apply nB | apply pB | apply oB)); exact Zx.out) (fA ho32) hb)
           replace Mx := Aside0.mk (iA (by (with_reducible repeat (first | apply dA | apply hA | apply gA)); exact Mx.out) (fA ho32) hb)
           replace Ix := Aside0.mk (iA (by (with_reducible repeat (first | apply dA | apply hA | apply gA)); exact Ix.out) (fA ho32) hb)
           replace Hx := Aside0.mk (vA (by (with_reducible repeat (first | apply sA | apply xA | apply wA)); exact Hx.out) hb)
           replace Sx := Aside0.mk (qB (by (with_reducible repeat (first | apply nB | apply pB | apply oB)); exact Sx.out) (fA ho32) hb)
           replace ix := Aside0.mk (iA (by (with_reducible repeat (first | apply dA | apply hA | apply gA)); exact ix.out) (fA ho32) hb)
           have Yx := Aside0.mk (lA ho32 (yB (by repeat (first | (with_reducible first | exact HB.out | apply uB | apply vB | apply wB | refine xB ?_ Rx.out | refine xB ?_ Vx.out) | exact HB.out))))
           replace Px := Aside0.mk (eC (g := Ex) (o := .cells #[.slice none 0 0, .slice none 0 0, .slice none 0 0] 79 (0, 0)) (by (with_reducible repeat (first | refine aC ?_ _ | refine bC ?_ | refine cC ?_ _)); exact Px.out) hb)
           replace Jx := Aside0.mk (eC (g := Dx) (o := .cells #[.slice Nx Cx.length Ox, .slice Kx Bx.length Lx, .slice Fx Ax.length Gx] 79 (0, 0)) (by (with_reducible repeat (first | refine aC ?_ _ | refine bC ?_ | refine cC ?_ _)); exact Jx.out) hb)
           replace HB := Aside0.mk (zB (by repeat (first | (with_reducible first | exact HB.out | apply uB | apply vB | apply wB | refine xB ?_ Rx.out | refine xB ?_ Vx.out) | exact HB.out)) hb)
           clear hb ho32
           refine hK.out _ _ ⟨(dC Jx.out 0).trans rfl, (dC Jx.out 1).trans rfl, (dC Jx.out 2).trans rfl⟩ (fun fx => ?_)
           clear hK K
           refine norm_ (a' := ?_) ?_ ?_
           rotate_left
           ·
            show Act.put _ (some 31) _ = _
            simp only [Act.put, gC, hC, iC, i64_w, i32_w]
            rfl
           exact norm_ (by first | (simp only [fC, Act.put, gC, hC, iC]; done) | (simp only [fC, Act.put, gC, hC, iC]; rfl)) (Yz (bx, cx) _ ⟨fx, (sB Sx.out (fun _ hk => ⟨hk.1.1, hk.2, hk.1.2.1, hk.1.2.2.1, hk.1.2.2.2.1, hk.1.2.2.2.2.1, hk.1.2.2.2.2.2.1, hk.1.2.2.2.2.2.2⟩)), (nA Yx.out (fun _ hk => ⟨hk.1, hk.2.2.2.2.1, hk.2.1, hk.2.2.1, hk.2.2.2.1, hk.2.2.2.2.2.1, hk.2.2.2.2.2.2⟩)), (nA ix.out (fun _ hk => ⟨hk.1.1, hk.2, hk.1.2.1, hk.1.2.2.1, hk.1.2.2.2.1, hk.1.2.2.2.2.1, hk.1.2.2.2.2.2⟩)), (sB Zx.out (fun _ hk => ⟨hk.1.1, hk.2, hk.1.2.1, hk.1.2.2.1, hk.1.2.2.2.1, hk.1.2.2.2.2.1, hk.1.2.2.2.2.2.1, hk.1.2.2.2.2.2.2⟩)), (nA Mx.out (fun _ hk => ⟨hk.1.1, hk.2, hk.1.2.1, hk.1.2.2.1, hk.1.2.2.2.1, hk.1.2.2.2.2.1, hk.1.2.2.2.2.2⟩)), (nA Ix.out (fun _ hk => ⟨hk.1.1, hk.2, hk.1.2.1, hk.1.2.2.1, hk.1.2.2.2.1, hk.1.2.2.2.2.1, hk.1.2.2.2.2.2⟩)), Hx.out, Px.out, Jx.out, (HB.out)⟩)
          ·
           skip
           refine bB (Kd.int .i64) _ 3 ?hg (N := 41) ?hd (xs := ([vx] : List Int)) (inner := [.int .i64 vx]) (ok := fun _ => True) (okp := fun _ => True) ?hr ?hp (fun _ hk => hk) trivial (Below.refl _ _) (Nat.le_refl _) (by simp) ?_; (case hd => rfl); (case hg => rfl); (case hr => first | (go_simp; done) | (go_simp; rfl)); (case hp => exact (Reps.one (show Kd.M (Kd.int .i64) _ _ _ vx [.int .i64 vx] from rfl) (Reps.none _ _)))
           intro Ux w31 ho32 hb hg_ hnew_
           clear hg_ hnew_
           (first | rw [← Uy.out] at ho32 | (simp only [Int.reduceToNat] at ho32; rw [← Uy.out] at ho32))
           replace Zx := Aside0.mk (qB (by (with_reducible repeat (first | apply nB | apply pB | apply oB)); exact Zx.out) (uA ho32) hb)
           replace Mx := Aside0.mk (iA (by (with_reducible repeat (first | apply dA | apply hA | apply gA)); exact Mx.out) (uA ho32) hb)
           replace Ix := Aside0.mk (iA (by (with_reducible repeat (first | apply dA | apply hA | apply gA)); exact Ix.out) (uA ho32) hb)
           replace Sx := Aside0.mk (qB (by (with_reducible repeat (first | apply nB | apply pB | apply oB)); exact Sx.out) (uA ho32) hb)
           replace ix := Aside0.mk (iA (by (with_reducible repeat (first | apply dA | apply hA | apply gA)); exact ix.out) (uA ho32) hb)
           have jx := Aside0.mk (cB (fB (gB (M := fun k_ => (w.heap.size ≤ k_)) ho32 (yB (by repeat (first | (with_reducible first | exact HB.out | apply uB | apply vB | apply wB | refine xB ?_ Rx.out | refine xB ?_ Vx.out) | exact HB.out))) (fun k_ h_ => h_)) (dB (by (with_reducible repeat (first | apply sA | apply xA | apply wA)); exact Hx.out))) (yB (by repeat (first | (with_reducible first | exact HB.out | apply uB | apply vB | apply wB | refine xB ?_ Rx.out | refine xB ?_ Vx.out) | exact HB.out))))
           replace Hx := Aside0.mk (yA (by (with_reducible repeat (first | apply sA | apply xA | apply wA)); exact Hx.out) (uA ho32) hb)
           replace Px := Aside0.mk (eC (g := Ex) (o := .cells #[.slice none 0 0, .slice none 0 0, .slice none 0 0] 79 (0, 0)) (by (with_reducible repeat (first | refine aC ?_ _ | refine bC ?_ | refine cC ?_ _)); exact Px.out) hb)
           replace Jx := Aside0.mk (eC (g := Dx) (o := .cells #[.slice Nx Cx.length Ox, .slice Kx Bx.length Lx, .slice Fx Ax.length Gx] 79 (0, 0)) (by (with_reducible repeat (first | refine aC ?_ _ | refine bC ?_ | refine cC ?_ _)); exact Jx.out) hb)
           replace HB := Aside0.mk (zB (by repeat (first | (with_reducible first | exact HB.out | apply uB | apply vB | apply wB | refine xB ?_ Rx.out | refine xB ?_ Vx.out) | exact HB.out)) hb)
           clear hb ho32
           refine hK.out _ _ ⟨(dC Jx.out 0).trans rfl, (dC Jx.out 1).trans rfl, (dC Jx.out 2).trans rfl⟩ (fun fx => ?_)
           clear hK K
           refine norm_ (a' := ?_) ?_ ?_
           rotate_left
           ·
            show Act.put _ (some 41) _ = _
            simp only [Act.put, gC, hC, iC, i64_w, i32_w]
            rfl
           exact norm_ (by first | (simp only [fC, Act.put, gC, hC, iC]; done) | (simp only [fC, Act.put, gC, hC, iC]; rfl)) (Uz (cx, Ux) _ ⟨fx, (sB Sx.out (fun _ hk => ⟨hk.1.1, hk.1.2.1, hk.2, hk.1.2.2.1, hk.1.2.2.2.1, hk.1.2.2.2.2.1, hk.1.2.2.2.2.2.1, hk.1.2.2.2.2.2.2⟩)), (nA ix.out (fun _ hk => ⟨hk.1.1, hk.2, hk.1.2.1, hk.1.2.2.1, hk.1.2.2.2.1, hk.1.2.2.2.2.1, hk.1.2.2.2.2.2⟩)), (eB jx.out (fun _ hk => ⟨hk.1.1, hk.2⟩)), (sB Zx.out (fun _ hk => ⟨hk.1.1, hk.1.2.1, hk.2, hk.1.2.2.1, hk.1.2.2.2.1, hk.1.2.2.2.2.1, hk.1.2.2.2.2.2.1, hk.1.2.2.2.2.2.2⟩)), (nA Mx.out (fun _ hk => ⟨hk.1.1, hk.1.2.1, hk.2, hk.1.2.2.1, hk.1.2.2.2.1, hk.1.2.2.2.2.1, hk.1.2.2.2.2.2⟩)), (nA Ix.out (fun _ hk => ⟨hk.1.1, hk.1.2.1, hk.2, hk.1.2.2.1, hk.1.2.2.2.1, hk.1.2.2.2.2.1, hk.1.2.2.2.2.2⟩)), Hx.out, Px.out, Jx.out, (HB.out)⟩)
         ·
          skip
          rintro Ux w30 ⟨hS_, Ey, Fy, Gy, Hy, Iy, Jy, Ky, Ly, My, Qy⟩
          have px : Aside0 (Kd.U k59 59 w30 w.heap.size (fun k_ => (Qx k_ ∨ w.heap.size ≤ k_) ∧ some k_ ≠ (jC Wx Tx.length Xx).ownBlock ∧ some k_ ≠ (Ux : Value).ownBlock ∧ some k_ ≠ (jC Nx Cx.length Ox).ownBlock ∧ some k_ ≠ (jC Kx Bx.length Lx).ownBlock ∧ some k_ ≠ (jC Fx Ax.length Gx).ownBlock ∧ k_ ≠ Ex ∧ k_ ≠ Dx) (.slice xx gx.length yx) gx) := ⟨Ey⟩
          have qx : Aside0 (Kd.R (Kd.int .i64) 3 w30 w.heap.size (fun k_ => (w.heap.size ≤ k_) ∧ some k_ ≠ (Ux : Value).ownBlock ∧ some k_ ≠ (jC Fx Ax.length Gx).ownBlock) (.slice Wx Tx.length Xx) Tx) := ⟨Fy⟩
          have rx : Aside0 (Kd.R (Kd.int .i64) 3 w30 w.heap.size (fun k_ => (w.heap.size ≤ k_) ∧ some k_ ≠ (jC Wx Tx.length Xx).ownBlock ∧ some k_ ≠ (jC Fx Ax.length Gx).ownBlock) Ux ox) := ⟨Gy⟩
          have sx : Aside0 (Kd.U k59 59 w30 w.heap.size (fun k_ => (Qx k_ ∨ w.heap.size ≤ k_) ∧ some k_ ≠ (jC Wx Tx.length Xx).ownBlock ∧ some k_ ≠ (Ux : Value).ownBlock ∧ some k_ ≠ (jC Nx Cx.length Ox).ownBlock ∧ some k_ ≠ (jC Kx Bx.length Lx).ownBlock ∧ some k_ ≠ (jC Fx Ax.length Gx).ownBlock ∧ k_ ≠ Ex ∧ k_ ≠ Dx) (.slice Ny mx.length Oy) mx) := ⟨Hy⟩
          have tx : Aside0 (Kd.N (Kd.os 59 k59 w.heap.size) 29 w30 w.heap.size (fun k_ => (Qx k_ ∨ w.heap.size ≤ k_) ∧ some k_ ≠ (jC Wx Tx.length Xx).ownBlock ∧ some k_ ≠ (Ux : Value).ownBlock ∧ some k_ ≠ (jC Kx Bx.length Lx).ownBlock ∧ some k_ ≠ (jC Fx Ax.length Gx).ownBlock ∧ k_ ≠ Ex ∧ k_ ≠ Dx) (.slice Nx Cx.length Ox) Cx) := ⟨Iy⟩
          have zx : Aside0 (Kd.N (Kd.slice 3 (Kd.int .i64)) 22 w30 w.heap.size (fun k_ => (Qx k_ ∨ w.heap.size ≤ k_) ∧ some k_ ≠ (jC Wx Tx.length Xx).ownBlock ∧ some k_ ≠ (Ux : Value).ownBlock ∧ some k_ ≠ (jC Nx Cx.length Ox).ownBlock ∧ some k_ ≠ (jC Fx Ax.length Gx).ownBlock ∧ k_ ≠ Ex ∧ k_ ≠ Dx) (.slice Kx Bx.length Lx) Bx) := ⟨Jy⟩
          have Ay : Aside0 (Kd.R (Kd.int .i64) 3 w30 w.heap.size (fun k_ => (w.heap.size ≤ k_) ∧ some k_ ≠ (jC Wx Tx.length Xx).ownBlock ∧ some k_ ≠ (Ux : Value).ownBlock) (.slice Fx Ax.length Gx) Ax) := ⟨Ky⟩
          have By : Aside0 (w30.heap[Ex]? = some (.cells #[.slice none 0 0, .slice none 0 0, .slice none 0 0] 79 (0, 0))) := ⟨Ly⟩
          have Cy : Aside0 (w30.heap[Dx]? = some (.cells #[.slice Nx Cx.length Ox, .slice Kx Bx.length Lx, .slice Fx Ax.length Gx] 79 (0, 0))) := ⟨My⟩
          have Ry : Aside0 (Below w.heap.size w w30) := ⟨Qy⟩
          clear Zx Mx Ix Hx Sx dx Px Jx HB Ey Fy Gy Hy Iy Jy Ky Ly My Qy
          have Sx := px
          have dx := qx
          have jx := rx
          have Zx := sx
          have Mx := tx
          have Ix := zx
          have Hx := Ay
          have Px := By
          have Jx := Cy
          have HB := Ry
          clear px qx rx sx tx zx Ay By Cy Ry
          have fx : w30.cell? ⟨Dx, 0, none⟩ = some (.slice Nx Cx.length Ox) ∧ w30.cell? ⟨Dx, 1, none⟩ = some (.slice Kx Bx.length Lx) ∧ w30.cell? ⟨Dx, 2, none⟩ = some (.slice Fx Ax.length Gx) := hS_
          refine norm_ (a' := ?_) ?_ ?_
          rotate_left
          ·
           simp only [fC, Act.put, gC, hC, iC]
           rfl
          refine two_ (i := 3) (j := 8) (Ni := some 31) (Nj := some 36) #[kC, kC, kC, kC, lC, kC, kC, kC, lC, lC, kC, kC, kC, kC, lC, lC, lC, lC, lC, lC, lC] #[kC, kC, kC, lC, lC, kC, kC, kC, kC, lC, kC, kC, kC, kC, lC, lC, lC, lC, lC, lC, lC] rfl rfl rfl rfl (two_of HT_.out (by kernel_rfl)) (by decide) (by decide) (fun K hK => ?_) (fun K hK => ?_)
          ·
           skip
           refine kA (Kd.os 59 k59 w.heap.size) _ 29 ?hg (N' := 31) ?hd (xs := ([gx] : List (List (S59)))) (inner := [.slice xx gx.length yx]) (ok := (fun k_ => (Qx k_ ∨ w.heap.size ≤ k_) ∧ some k_ ≠ (jC Nx Cx.length Ox).ownBlock ∧ some k_ ≠ (jC Kx Bx.length Lx).ownBlock ∧ some k_ ≠ (jC Fx Ax.length Gx).ownBlock ∧ some k_ ≠ (jC Wx Tx.length Xx).ownBlock ∧ some k_ ≠ (Ux : Value).ownBlock ∧ k_ ≠ Ex ∧ k_ ≠ Dx)) (okp := (fun k_ => (Qx k_ ∨ w.heap.size ≤ k_) ∧ some k_ ≠ (jC Nx Cx.length Ox).ownBlock ∧ some k_ ≠ (jC Kx Bx.length Lx).ownBlock ∧ some k_ ≠ (jC Fx Ax.length Gx).ownBlock ∧ some k_ ≠ (jC Wx Tx.length Xx).ownBlock ∧ some k_ ≠ (Ux : Value).ownBlock ∧ k_ ≠ Ex ∧ k_ ≠ Dx)) ?hr ?hp (fun _ hk => hk) ((show ∀ k_, w30.heap.size ≤ k_ → (fun k_ => (Qx k_ ∨ w.heap.size ≤ k_) ∧ some k_ ≠ (jC Nx Cx.length Ox).ownBlock ∧ some k_ ≠ (jC Kx Bx.length Lx).ownBlock ∧ some k_ ≠ (jC Fx Ax.length Gx).ownBlock ∧ some k_ ≠ (jC Wx Tx.length Xx).ownBlock ∧ some k_ ≠ (Ux : Value).ownBlock ∧ k_ ≠ Ex ∧ k_ ≠ Dx) k_ from fun k_ hk => ⟨(.inr (Nat.le_trans (yB (by repeat (first | (with_reducible first | exact HB.out | apply uB | apply vB | apply wB | refine xB ?_ Rx.out | refine xB ?_ Vx.out) | exact HB.out))) hk)), Kd.fresh' (mA (by (with_reducible repeat (first | apply dA | apply hA | apply gA)); exact Mx.out)) k_ hk, Kd.fresh' (mA (by (with_reducible repeat (first | apply dA | apply hA | apply gA)); exact Ix.out)) k_ hk, Kd.fresh' (dB (by (with_reducible repeat (first | apply sA | apply xA | apply wA)); exact Hx.out)) k_ hk, Kd.fresh' (dB (by (with_reducible repeat (first | apply sA | apply xA | apply wA)); exact dx.out)) k_ hk, Kd.fresh' (dB (by (with_reducible repeat (first | apply sA | apply xA | apply wA)); exact jx.out)) k_ hk, Kd.freshB (g := Ex) (o := .cells #[.slice none 0 0, .slice none 0 0, .slice none 0 0] 79 (0, 0)) (by (with_reducible repeat (first | refine aC ?_ _ | refine bC ?_ | refine cC ?_ _)); exact Px.out) k_ hk, Kd.freshB (g := Dx) (o := .cells #[.slice Nx Cx.length Ox, .slice Kx Bx.length Lx, .slice Fx Ax.length Gx] 79 (0, 0)) (by (with_reducible repeat (first | refine aC ?_ _ | refine bC ?_ | refine cC ?_ _)); exact Jx.out) k_ hk⟩) _ (Nat.le_refl _)) (Below.refl _ _) (Nat.le_refl _) (by simp) ?_; (case hd => rfl); (case hg => rfl); (case hr => first | (go_simp; done) | (go_simp; rfl)); (case hp => exact (Reps.one (show Kd.FK (Kd.os 59 k59 w.heap.size) _ _ gx [.slice xx gx.length yx] from (Kd.FK_os_U FRz (sB (ok' := (fun k_ => (Qx k_ ∨ w.heap.size ≤ k_) ∧ some k_ ≠ (jC Nx Cx.length Ox).ownBlock ∧ some k_ ≠ (jC Kx Bx.length Lx).ownBlock ∧ some k_ ≠ (jC Fx Ax.length Gx).ownBlock ∧ some k_ ≠ (jC Wx Tx.length Xx).ownBlock ∧ some k_ ≠ (Ux : Value).ownBlock ∧ k_ ≠ Ex ∧ k_ ≠ Dx)) (Sx.out) (fun k_ hk => ⟨hk.1, hk.2.2.2.1, hk.2.2.2.2.1, hk.2.2.2.2.2.1, hk.2.1, hk.2.2.1, hk.2.2.2.2.2.2.1, hk.2.2.2.2.2.2.2⟩)))) (Reps.none _ _)))
           intro bx w31 ho32 hb hg_ hnew_
           clear hg_ hnew_
           (first | rw [← ly.out] at ho32 | (simp only [Int.reduceToNat] at ho32; rw [← ly.out] at ho32))
           replace Zx := Aside0.mk (qB (by (with_reducible repeat (first | apply nB | apply pB | apply oB)); exact Zx.out) (fA ho32) hb)
           replace Mx := Aside0.mk (iA (by (with_reducible repeat (first | apply dA | apply hA | apply gA)); exact Mx.out) (fA ho32) hb)
           replace Ix := Aside0.mk (iA (by (with_reducible repeat (first | apply dA | apply hA | apply gA)); exact Ix.out) (fA ho32) hb)
           replace Hx := Aside0.mk (vA (by (with_reducible repeat (first | apply sA | apply xA | apply wA)); exact Hx.out) hb)
           replace Sx := Aside0.mk (qB (by (with_reducible repeat (first | apply nB | apply pB | apply oB)); exact Sx.out) (fA ho32) hb)
           replace dx := Aside0.mk (vA (by (with_reducible repeat (first | apply sA | apply xA | apply wA)); exact dx.out) hb)
           replace jx := Aside0.mk (vA (by (with_reducible repeat (first | apply sA | apply xA | apply wA)); exact jx.out) hb)
           have Yx := Aside0.mk (lA ho32 (yB (by repeat (first | (with_reducible first | exact HB.out | apply uB | apply vB | apply wB | refine xB ?_ Rx.out | refine xB ?_ Vx.out) | exact HB.out))))
           replace Px := Aside0.mk (eC (g := Ex) (o := .cells #[.slice none 0 0, .slice none 0 0, .slice none 0 0] 79 (0, 0)) (by (with_reducible repeat (first | refine aC ?_ _ | refine bC ?_ | refine cC ?_ _)); exact Px.out) hb)
           replace Jx := Aside0.mk (eC (g := Dx) (o := .cells #[.slice Nx Cx.length Ox, .slice Kx Bx.length Lx, .slice Fx Ax.length Gx] 79 (0, 0)) (by (with_reducible repeat (first | refine aC ?_ _ | refine bC ?_ | refine cC ?_ _)); exact Jx.out) hb)
           replace HB := Aside0.mk (zB (by repeat (first | (with_reducible first | exact HB.out | apply uB | apply vB | apply wB | refine xB ?_ Rx.out | refine xB ?_ Vx.out) | exact HB.out)) hb)
           clear hb ho32
           refine hK.out _ _ ⟨(dC Jx.out 0).trans rfl, (dC Jx.out 1).trans rfl, (dC Jx.out 2).trans rfl⟩ (fun fx => ?_)
           clear hK K
           refine norm_ (a' := ?_) ?_ ?_
           rotate_left
           ·
            show Act.put _ (some 31) _ = _
            simp only [Act.put, gC, hC, iC, i64_w, i32_w]
            rfl
           exact norm_ (by first | (simp only [fC, Act.put, gC, hC, iC]; done) | (simp only [fC, Act.put, gC, hC, iC]; rfl)) (Tz (bx, Ux) _ ⟨fx, (sB Sx.out (fun _ hk => ⟨hk.1.1, hk.1.2.1, hk.2, hk.1.2.2.1, hk.1.2.2.2.1, hk.1.2.2.2.2.1, hk.1.2.2.2.2.2.1, hk.1.2.2.2.2.2.2.1, hk.1.2.2.2.2.2.2.2⟩)), dx.out, (nA Yx.out (fun _ hk => ⟨hk.1, hk.2.2.2.2.1, hk.2.2.2.2.2.1, hk.2.1, hk.2.2.1, hk.2.2.2.1, hk.2.2.2.2.2.2.1, hk.2.2.2.2.2.2.2⟩)), jx.out, (sB Zx.out (fun _ hk => ⟨hk.1.1, hk.1.2.1, hk.2, hk.1.2.2.1, hk.1.2.2.2.1, hk.1.2.2.2.2.1, hk.1.2.2.2.2.2.1, hk.1.2.2.2.2.2.2.1, hk.1.2.2.2.2.2.2.2⟩)), (nA Mx.out (fun _ hk => ⟨hk.1.1, hk.1.2.1, hk.2, hk.1.2.2.1, hk.1.2.2.2.1, hk.1.2.2.2.2.1, hk.1.2.2.2.2.2.1, hk.1.2.2.2.2.2.2⟩)), (nA Ix.out (fun _ hk => ⟨hk.1.1, hk.1.2.1, hk.2, hk.1.2.2.1, hk.1.2.2.2.1, hk.1.2.2.2.2.1, hk.1.2.2.2.2.2.1, hk.1.2.2.2.2.2.2⟩)), Hx.out, Px.out, Jx.out, (HB.out)⟩)
          ·
           skip
           refine kA (Kd.slice 3 (Kd.int .i64)) _ 22 ?hg (N' := 36) ?hd (xs := ([Tx] : List (List Int))) (inner := [.slice Wx Tx.length Xx]) (ok := (fun k_ => (Qx k_ ∨ w.heap.size ≤ k_) ∧ some k_ ≠ (jC Nx Cx.length Ox).ownBlock ∧ some k_ ≠ (jC Kx Bx.length Lx).ownBlock ∧ some k_ ≠ (jC Fx Ax.length Gx).ownBlock ∧ some k_ ≠ (Ux : Value).ownBlock ∧ k_ ≠ Ex ∧ k_ ≠ Dx)) (okp := (fun k_ => (Qx k_ ∨ w.heap.size ≤ k_) ∧ some k_ ≠ (jC Nx Cx.length Ox).ownBlock ∧ some k_ ≠ (jC Kx Bx.length Lx).ownBlock ∧ some k_ ≠ (jC Fx Ax.length Gx).ownBlock ∧ some k_ ≠ (Ux : Value).ownBlock ∧ k_ ≠ Ex ∧ k_ ≠ Dx)) ?hr ?hp (fun _ hk => hk) ((show ∀ k_, w30.heap.size ≤ k_ → (fun k_ => (Qx k_ ∨ w.heap.size ≤ k_) ∧ some k_ ≠ (jC Nx Cx.length Ox).ownBlock ∧ some k_ ≠ (jC Kx Bx.length Lx).ownBlock ∧ some k_ ≠ (jC Fx Ax.length Gx).ownBlock ∧ some k_ ≠ (Ux : Value).ownBlock ∧ k_ ≠ Ex ∧ k_ ≠ Dx) k_ from fun k_ hk => ⟨(.inr (Nat.le_trans (yB (by repeat (first | (with_reducible first | exact HB.out | apply uB | apply vB | apply wB | refine xB ?_ Rx.out | refine xB ?_ Vx.out) | exact HB.out))) hk)), Kd.fresh' (mA (by (with_reducible repeat (first | apply dA | apply hA | apply gA)); exact Mx.out)) k_ hk, Kd.fresh' (mA (by (with_reducible repeat (first | apply dA | apply hA | apply gA)); exact Ix.out)) k_ hk, Kd.fresh' (dB (by (with_reducible repeat (first | apply sA | apply xA | apply wA)); exact Hx.out)) k_ hk, Kd.fresh' (dB (by (with_reducible repeat (first | apply sA | apply xA | apply wA)); exact jx.out)) k_ hk, Kd.freshB (g := Ex) (o := .cells #[.slice none 0 0, .slice none 0 0, .slice none 0 0] 79 (0, 0)) (by (with_reducible repeat (first | refine aC ?_ _ | refine bC ?_ | refine cC ?_ _)); exact Px.out) k_ hk, Kd.freshB (g := Dx) (o := .cells #[.slice Nx Cx.length Ox, .slice Kx Bx.length Lx, .slice Fx Ax.length Gx] 79 (0, 0)) (by (with_reducible repeat (first | refine aC ?_ _ | refine bC ?_ | refine cC ?_ _)); exact Jx.out) k_ hk⟩) _ (Nat.le_refl _)) (Below.refl _ _) (Nat.le_refl _) (by simp) ?_; (case hd => rfl); (case hg => rfl); (case hr => first | (go_simp; done) | (go_simp; rfl)); (case hp => exact (Reps.one (show Kd.FK (Kd.slice 3 (Kd.int .i64)) _ _ Tx [.slice Wx Tx.length Xx] from (aA (iB (eB (ok' := (fun k_ => (Qx k_ ∨ w.heap.size ≤ k_) ∧ some k_ ≠ (jC Nx Cx.length Ox).ownBlock ∧ some k_ ≠ (jC Kx Bx.length Lx).ownBlock ∧ some k_ ≠ (jC Fx Ax.length Gx).ownBlock ∧ some k_ ≠ (Ux : Value).ownBlock ∧ k_ ≠ Ex ∧ k_ ≠ Dx)) (kB (kB (tA (tA (dx.out) (qA Mx.out) (by decide)) (qA Ix.out) (by decide)) Px.out (by decide)) Jx.out (by decide)) (fun k_ hk => ⟨(.inr (hk.1.1.1.1.1)), hk.1.1.1.2, hk.1.1.2, hk.1.1.1.1.2.2, hk.1.1.1.1.2.1, hk.1.2, hk.2⟩))).2.1 (rA (eB (ok' := (fun k_ => (Qx k_ ∨ w.heap.size ≤ k_) ∧ some k_ ≠ (jC Nx Cx.length Ox).ownBlock ∧ some k_ ≠ (jC Kx Bx.length Lx).ownBlock ∧ some k_ ≠ (jC Fx Ax.length Gx).ownBlock ∧ some k_ ≠ (Ux : Value).ownBlock ∧ k_ ≠ Ex ∧ k_ ≠ Dx)) (kB (kB (tA (tA (dx.out) (qA Mx.out) (by decide)) (qA Ix.out) (by decide)) Px.out (by decide)) Jx.out (by decide)) (fun k_ hk => ⟨(.inr (hk.1.1.1.1.1)), hk.1.1.1.2, hk.1.1.2, hk.1.1.1.1.2.2, hk.1.1.1.1.2.1, hk.1.2, hk.2⟩))))) (Reps.none _ _)))
           intro cx w31 ho32 hb hg_ hnew_
           clear hg_ hnew_
           (first | rw [← Xy.out] at ho32 | (simp only [Int.reduceToNat] at ho32; rw [← Xy.out] at ho32))
           replace Zx := Aside0.mk (qB (by (with_reducible repeat (first | apply nB | apply pB | apply oB)); exact Zx.out) (fA ho32) hb)
           replace Mx := Aside0.mk (iA (by (with_reducible repeat (first | apply dA | apply hA | apply gA)); exact Mx.out) (fA ho32) hb)
           replace Ix := Aside0.mk (iA (by (with_reducible repeat (first | apply dA | apply hA | apply gA)); exact Ix.out) (fA ho32) hb)
           replace Hx := Aside0.mk (vA (by (with_reducible repeat (first | apply sA | apply xA | apply wA)); exact Hx.out) hb)
           replace Sx := Aside0.mk (qB (by (with_reducible repeat (first | apply nB | apply pB | apply oB)); exact Sx.out) (fA ho32) hb)
           replace jx := Aside0.mk (vA (by (with_reducible repeat (first | apply sA | apply xA | apply wA)); exact jx.out) hb)
           have ix := Aside0.mk (lA ho32 (yB (by repeat (first | (with_reducible first | exact HB.out | apply uB | apply vB | apply wB | refine xB ?_ Rx.out | refine xB ?_ Vx.out) | exact HB.out))))
           replace Px := Aside0.mk (eC (g := Ex) (o := .cells #[.slice none 0 0, .slice none 0 0, .slice none 0 0] 79 (0, 0)) (by (with_reducible repeat (first | refine aC ?_ _ | refine bC ?_ | refine cC ?_ _)); exact Px.out) hb)
           replace Jx := Aside0.mk (eC (g := Dx) (o := .cells #[.slice Nx Cx.length Ox, .slice Kx Bx.length Lx, .slice Fx Ax.length Gx] 79 (0, 0)) (by (with_reducible repeat (first | refine aC ?_ _ | refine bC ?_ | refine cC ?_ _)); exact Jx.out) hb)
           replace HB := Aside0.mk (zB (by repeat (first | (with_reducible first | exact HB.out | apply uB | apply vB | apply wB | refine xB ?_ Rx.out | refine xB ?_ Vx.out) | exact HB.out)) hb)
           clear dx hb ho32
           refine hK.out _ _ ⟨(dC Jx.out 0).trans rfl, (dC Jx.out 1).trans rfl, (dC Jx.out 2).trans rfl⟩ (fun fx => ?_)
           clear hK K
           refine norm_ (a' := ?_) ?_ ?_
           rotate_left
           ·
            show Act.put _ (some 36) _ = _
            simp only [Act.put, gC, hC, iC, i64_w, i32_w]
            rfl
           exact norm_ (by first | (simp only [fC, Act.put, gC, hC, iC]; done) | (simp only [fC, Act.put, gC, hC, iC]; rfl)) (Uz (cx, Ux) _ ⟨fx, (sB Sx.out (fun _ hk => ⟨hk.1.1, hk.2, hk.1.2.2.1, hk.1.2.2.2.1, hk.1.2.2.2.2.1, hk.1.2.2.2.2.2.1, hk.1.2.2.2.2.2.2.1, hk.1.2.2.2.2.2.2.2⟩)), (nA ix.out (fun _ hk => ⟨hk.1, hk.2.2.2.2.1, hk.2.1, hk.2.2.1, hk.2.2.2.1, hk.2.2.2.2.2.1, hk.2.2.2.2.2.2⟩)), (eB jx.out (fun _ hk => ⟨hk.1, hk.2.2⟩)), (sB Zx.out (fun _ hk => ⟨hk.1.1, hk.2, hk.1.2.2.1, hk.1.2.2.2.1, hk.1.2.2.2.2.1, hk.1.2.2.2.2.2.1, hk.1.2.2.2.2.2.2.1, hk.1.2.2.2.2.2.2.2⟩)), (nA Mx.out (fun _ hk => ⟨hk.1.1, hk.2, hk.1.2.2.1, hk.1.2.2.2.1, hk.1.2.2.2.2.1, hk.1.2.2.2.2.2.1, hk.1.2.2.2.2.2.2⟩)), (nA Ix.out (fun _ hk => ⟨hk.1.1, hk.2, hk.1.2.2.1, hk.1.2.2.2.1, hk.1.2.2.2.2.1, hk.1.2.2.2.2.2.1, hk.1.2.2.2.2.2.2⟩)), (eB Hx.out (fun _ hk => ⟨hk.1, hk.2.2⟩)), Px.out, Jx.out, (HB.out)⟩)
        ·
         rw [if_neg c19] at H
         exact absurd H (by simp)
       ·
        rw [if_neg c18] at H
        exact absurd H (by simp)
      ·
       rw [if_neg c17] at H
       exact absurd H (by simp)
     ·
      rw [if_neg c15] at H
      exact absurd H (by simp)
    ·
     rw [if_neg c14] at H
     exact absurd H (by simp)
   ·
    rw [if_neg c13] at H
    have c13b0 : decide (Dy < (l1.length : Int)) = false := decide_eq_false c13
    clear c13
    simp only [Option.some.injEq, Prod.mk.injEq] at H
    obtain ⟨rfl, rfl, rfl⟩ := H
    have hnb47 := ey.out
    have hnc47 := Py.out
    have hcz48_0 : wr.cell? ⟨Dx, 0, none⟩ = some (u225000) := (dC Jx.out 0).trans rfl
    have hcz48_1 : wr.cell? ⟨Dx, 1, none⟩ = some (u225001) := (dC Jx.out 1).trans rfl
    have hcz48_2 : wr.cell? ⟨Dx, 2, none⟩ = some (u225002) := (dC Jx.out 2).trans rfl
    have hfz48_0 := blk_frozen Jx.out 0
    have hfz48_1 := blk_frozen Jx.out 1
    have hfz48_2 := blk_frozen Jx.out 2
    obtain ⟨Bz, Cz, eo49⟩ := pA Mx.out
    subst eo49
    have hcz50_0 : wr.cell? ⟨Ex, 0, none⟩ = some (.slice none 0 0) := (dC Px.out 0).trans rfl
    have hcz50_1 : wr.cell? ⟨Ex, 1, none⟩ = some (.slice none 0 0) := (dC Px.out 1).trans rfl
    have hcz50_2 : wr.cell? ⟨Ex, 2, none⟩ = some (.slice none 0 0) := (dC Px.out 2).trans rfl
    have hfz50_0 := blk_frozen Px.out 0
    have hfz50_1 := blk_frozen Px.out 1
    have hfz50_2 := blk_frozen Px.out 2
    obtain ⟨Lz, Mz, eo51⟩ := pA Ix.out
    subst eo51
    obtain ⟨Oz, Pz, eo52⟩ := jB Hx.out
    subst eo52
    go_wp2
    refine bodyPost_ret (results_cell_row rfl _ _ Ex 79 #[.slice Bz Cx.length Cz, .slice Lz Bx.length Mz, .slice Oz Ax.length Pz] (0, 0) _ rfl (by (with_reducible repeat (first | refine aC ?_ _ | refine bC ?_ | refine cC ?_ _)); refine blk_put (cs := #[.slice Bz Cx.length Cz, .slice Lz Bx.length Mz, .slice none 0 0]) ?_ 2 _ rfl; (with_reducible repeat (first | refine aC ?_ _ | refine bC ?_ | refine cC ?_ _)); refine blk_put (cs := #[.slice Bz Cx.length Cz, .slice none 0 0, .slice none 0 0]) ?_ 1 _ rfl; (with_reducible repeat (first | refine aC ?_ _ | refine bC ?_ | refine cC ?_ _)); refine blk_put (cs := #[.slice none 0 0, .slice none 0 0, .slice none 0 0]) ?_ 0 _ rfl; (with_reducible repeat (first | refine aC ?_ _ | refine bC ?_ | refine cC ?_ _)); exact Px.out) Try.underlying79 rfl (by kernel_rfl)) rfl ?_
    exact ⟨_, _, _, by first | rfl | (simp [errW_none, errW_some] <;> rfl) | (simp [*, errW_none, errW_some] <;> rfl), by (with_reducible repeat (first | apply dA | apply hA | apply gA)); exact nA (jA (p := ⟨Ex, 2, none⟩) (jA (p := ⟨Ex, 1, none⟩) (jA (p := ⟨Ex, 0, none⟩) (nA Mx.out (fun k_ hk => (⟨hk, hk.2.2.2.1⟩ : _ ∧ k_ ≠ Ex))) (fun _ hk => hk.2) (.slice Bz Cx.length Cz)) (fun _ hk => hk.2) (.slice Lz Bx.length Mz)) (fun _ hk => hk.2) (.slice Oz Ax.length Pz)) (fun _ hk => ⟨hk.1.1, hk.1.2.1, hk.1.2.2.1⟩), by (with_reducible repeat (first | apply dA | apply hA | apply gA)); exact nA (jA (p := ⟨Ex, 2, none⟩) (jA (p := ⟨Ex, 1, none⟩) (jA (p := ⟨Ex, 0, none⟩) (nA Ix.out (fun k_ hk => (⟨hk, hk.2.2.2.1⟩ : _ ∧ k_ ≠ Ex))) (fun _ hk => hk.2) (.slice Bz Cx.length Cz)) (fun _ hk => hk.2) (.slice Lz Bx.length Mz)) (fun _ hk => hk.2) (.slice Oz Ax.length Pz)) (fun _ hk => ⟨hk.1.1, hk.1.2.1, hk.1.2.2.1⟩), by (with_reducible repeat (first | apply sA | apply xA | apply wA)); exact eB (zA (p := ⟨Ex, 2, none⟩) (zA (p := ⟨Ex, 1, none⟩) (zA (p := ⟨Ex, 0, none⟩) (kB Hx.out Px.out (by decide)) (fun _ hk => hk.2) (.slice Bz Cx.length Cz)) (fun _ hk => hk.2) (.slice Lz Bx.length Mz)) (fun _ hk => hk.2) (.slice Oz Ax.length Pz)) (fun _ hk => hk.1), by repeat (first | (with_reducible first | exact HB.out | apply uB | apply vB | apply wB | refine xB ?_ Rx.out | refine xB ?_ Vx.out) | exact HB.out)⟩

end Go.Proofs.Ytcalhmjnoahliaa.Pr
