/- What the Go functions of this seat compute, each with the proof that its call computes it; laid by a program of this session (wip/tools/ownprint.py), for all inputs. -/
import Derived.Test.YtbpkfdclplcbaaaPr0
import Derived.Test.YtbpkfdclplcbaaaMq
import Derived.Test.YtbpkfdclplcbaaaPr4
import Derived.Test.YtbpkfdclplcbaaaPr18
namespace Go.Proofs.Ytbpkfdclplcbaaa.Pr
open Go.RowKit Go.Proofs.YtbpkfdclplcbaaaW.PrintWords Go.Proofs.YtbpkfdclplcbaaaW.PrintLast Go.Proofs.YtbpkfdclplcbaaaW.PrintMore
attribute [local go_sem] max2_int min2_int max_two min_two max_three min_three max_four min_four   -- for this text's walks alone
set_option linter.unusedVariables false
set_option linter.unusedSimpArgs false

/-! ### impl_PeriodOfChain: function 41 (by hand) -/
def chZ : L4 := ⟨⟨0, false⟩, ⟨0, false⟩, ⟨0, false⟩, ⟨0, false⟩⟩
def chSel (x : L4) : Nat → S37
  | 0 => x.a
  | 1 => x.b
  | 2 => x.c
  | _ => x.d
def chSet (x : L4) : Nat → S37 → L4
  | 0, y => { x with a := y }
  | 1, y => { x with b := y }
  | 2, y => { x with c := y }
  | _, y => { x with d := y }
theorem avC_get0 (x : L4) : ∀ (i : Nat), i < 4 → (avC x)[i * 2]? = some (.int .i64 (chSel x i).f0)
  | 0, _ => rfl
  | 1, _ => rfl
  | 2, _ => rfl
  | 3, _ => rfl
  | n + 4, h => absurd h (by omega)
theorem avC_get1 (x : L4) : ∀ (i : Nat), i < 4 → (avC x)[i * 2 + 1]? = some (.bool (chSel x i).f1)
  | 0, _ => rfl
  | 1, _ => rfl
  | 2, _ => rfl
  | 3, _ => rfl
  | n + 4, h => absurd h (by omega)
theorem avC_set (x : L4) (y : S37) : ∀ (i : Nat), i < 4 → ((avC x).setIfInBounds (i * 2) (.int .i64 y.f0)).setIfInBounds (i * 2 + 1) (.bool y.f1) = avC (chSet x i y)
  | 0, _ => rfl
  | 1, _ => rfl
  | 2, _ => rfl
  | 3, _ => rfl
  | n + 4, h => absurd h (by omega)
def chTick : List S26 → Nat → L4 → Int → Option L4
  | [], _, now, _ => some now
  | s :: r, i, now, x => (impl_Siphon_tick.f s.f0 s.f1 s.f2 s.f3 (chSel now i).f0 (chSel now i).f1 x).bind fun t => chTick r (i + 1) (chSet now i ⟨t.1, t.2.1⟩) t.2.2.1
def chLoop : Nat → List S26 → Int → L4 → List (L4 × Int) → Int → Option (Int × Int × Bool)
  | 0, _, _, _, _, _ => none
  | k + 1, l, x, now, m, n => if n ≤ 5000 then (chTick l 0 now x).bind fun y => (if avW y = true then (if (mqGet y m).isSome = true then some ((mqGet y m).getD 0, wrap64 (n - (mqGet y m).getD 0), true) else (if mqGet y m = none then chLoop k l x y (m ++ [(y, n)]) (wrap64 (n + 1)) else none)) else none) else some (0, 0, false)
def impl_PeriodOfChain.f (k : Nat) (l0 : List S26) (a1 : Int) : Option (Int × Int × Bool) := (impl_isChain.f l0).bind fun c => if c = true then ((impl_isInflow.f a1).bind fun d => if d = true then chLoop k l0 a1 chZ [(chZ, 0)] 1 else some (0, 0, false)) else some (0, 0, false)
theorem chTick_drop (l : List S26) (j : Nat) (h : j < l.length) (now : L4) (x : Int) : chTick (l.drop j) j now x = (impl_Siphon_tick.f (rd_T26 l j).f0 (rd_T26 l j).f1 (rd_T26 l j).f2 (rd_T26 l j).f3 (chSel now j).f0 (chSel now j).f1 x).bind fun t => chTick (l.drop (j + 1)) (j + 1) (chSet now j ⟨t.1, t.2.1⟩) t.2.2.1 := by
  rw [List.drop_eq_getElem_cons h]
  have e : rd_T26 l j = l[j] := by simp [rd_T26, h]
  rw [e]
  rfl
theorem chLoop_mono : ∀ k l x now m n, LeO (chLoop k l x now m n) (chLoop (k + 1) l x now m n)
  | 0, _, _, _, _, _ => fun r h => by simp [chLoop] at h
  | k + 1, l, x, now, m, n => by
    have ih := chLoop_mono k
    unfold chLoop
    repeat' first
      | (with_reducible exact ih _ _ _ _ _)
      | (with_reducible exact LeO.refl _)
      | (with_reducible exact LeO.none _)
      | (with_reducible refine LeO.ite ?_ ?_)
      | (with_reducible refine LeO.bind ?_ (fun _ => ?_))
theorem impl_PeriodOfChain.mono : ∀ a0 a1 k, LeO (impl_PeriodOfChain.f k a0 a1) (impl_PeriodOfChain.f (k + 1) a0 a1) := by
  intro a0 a1 k
  unfold impl_PeriodOfChain.f
  repeat' first
      | (with_reducible exact chLoop_mono _ _ _ _ _ _)
      | (with_reducible exact LeO.refl _)
      | (with_reducible exact LeO.none _)
      | (with_reducible refine LeO.ite ?_ ?_)
      | (with_reducible refine LeO.bind ?_ (fun _ => ?_))
set_option maxHeartbeats 1600000 in
theorem impl_PeriodOfChain.no1 (A0 : Option Addr) (c0 : Nat) (l0 : List S26) (a1 : Int) (w : World) (hr0 : Kd.C k26 w A0 l0.length l0) (hc0 : l0.length ≤ c0) (h : impl_isChain.f l0 = some false) :
    Calls Try.prog 41 #[.slice A0 l0.length c0, .int .i64 a1] w fun e w' => e = .returned (.tuple #[.int .i64 0, .int .i64 0, .bool false]) ∧ Below w.heap.size w w' := by
  have HA := Aside0.mk h
  have HR0 := Aside0.mk hr0
  have HC0 := Aside0.mk hc0
  clear h hr0 hc0
  go_enter Try.func41, Try.ntmps41
  go_wp2_with (first | (go_at_call 62; refine (impl_isChain.calls _ _ l0 false _ HR0.out HC0.out HA.out).mono ?_; rintro e w' ⟨rfl, hb⟩; have HB := Aside0.mk hb; clear hb))
  go_ret3
  exact ⟨rfl, HB.out⟩
set_option maxHeartbeats 1600000 in
theorem impl_PeriodOfChain.no2 (A0 : Option Addr) (c0 : Nat) (l0 : List S26) (a1 : Int) (w : World) (hr0 : Kd.C k26 w A0 l0.length l0) (hc0 : l0.length ≤ c0) (h : impl_isChain.f l0 = some true) (h2 : impl_isInflow.f a1 = some false) :
    Calls Try.prog 41 #[.slice A0 l0.length c0, .int .i64 a1] w fun e w' => e = .returned (.tuple #[.int .i64 0, .int .i64 0, .bool false]) ∧ Below w.heap.size w w' := by
  have HA := Aside0.mk h
  have HA2 := Aside0.mk h2
  have HR0 := Aside0.mk hr0
  have HC0 := Aside0.mk hc0
  clear h hr0 hc0 h2
  go_enter Try.func41, Try.ntmps41
  go_wp2_with (first | (go_at_call 62; refine (impl_isChain.calls _ _ l0 true _ HR0.out HC0.out HA.out).mono ?_; rintro e w' ⟨rfl, hb⟩; have HB := Aside0.mk hb; clear hb) | (go_at_call 50; refine (impl_isInflow.calls _ false _ HA2.out).mono ?_; rintro e w' ⟨rfl, ⟨nd, rfl⟩⟩))
  go_ret3
  exact ⟨rfl, pw_below_drewN HB.out _⟩
set_option maxHeartbeats 800000 in
set_option maxRecDepth 100000 in
theorem impl_PeriodOfChain.yes (k : Nat) (A0 : Option Addr) (c0 : Nat) (l0 : List S26) (a1 r1 r2 : Int) (r3 : Bool) (w : World) (hr0 : Kd.C k26 w A0 l0.length l0) (hc0 : l0.length ≤ c0) (h : impl_isChain.f l0 = some true) (h2 : impl_isInflow.f a1 = some true) (hL : l0.length ≤ 4)
    (H : chLoop k l0 a1 chZ [(chZ, 0)] 1 = some (r1, r2, r3)) :
    Calls Try.prog 41 #[.slice A0 l0.length c0, .int .i64 a1] w fun e w' => e = .returned (.tuple #[.int .i64 r1, .int .i64 r2, .bool r3]) ∧ Below w.heap.size w w' := by
  have HA := Aside0.mk h
  have HA2 := Aside0.mk h2
  have HR0 := Aside0.mk hr0
  have HC0 := Aside0.mk hc0
  have HH := Aside0.mk H
  clear h hr0 hc0 h2 H
  go_enter Try.func41, Try.ntmps41
  go_wp2_with (first | (go_at_call 62; refine (impl_isChain.calls _ _ l0 true _ HR0.out HC0.out HA.out).mono ?_; rintro e w' ⟨rfl, hb⟩; have HB := Aside0.mk hb; clear hb) | (go_at_call 50; refine (impl_isInflow.calls _ true _ HA2.out).mono ?_; rintro e w' ⟨rfl, ⟨nd, rfl⟩⟩; have HB' := Aside0.mk (pw_below_drewN HB.out nd); clear HB; have HB := HB'; clear HB') | ((with_reducible refine gate_dst (N := 7) rfl ?_); refine box_event ?hg (N := 7) ?hd (cs := avC chZ) (t := 84) ?hr ?_; (case hd => rfl); (case hg => rfl); (case hr => first | (go_simp; done) | (go_simp; rfl)); intro gN hg w1 hbox hb; have BKN := Aside0.mk hbox; have GWN := Aside0.mk (show w.heap.size ≤ gN by rw [hg]; exact HB.out.size); have HB1 := Aside0.mk (below_step HB.out hb); clear hg hbox hb; have hcza_0 : w1.cell? ⟨gN, 0, none⟩ = some (.int .i64 0) := (blk_cell BKN.out 0).trans rfl; have hfza_0 := blk_frozen BKN.out 0; have hcza_1 : w1.cell? ⟨gN, 1, none⟩ = some (.bool false) := (blk_cell BKN.out 1).trans rfl; have hfza_1 := blk_frozen BKN.out 1; have hcza_2 : w1.cell? ⟨gN, 2, none⟩ = some (.int .i64 0) := (blk_cell BKN.out 2).trans rfl; have hfza_2 := blk_frozen BKN.out 2; have hcza_3 : w1.cell? ⟨gN, 3, none⟩ = some (.bool false) := (blk_cell BKN.out 3).trans rfl; have hfza_3 := blk_frozen BKN.out 3; have hcza_4 : w1.cell? ⟨gN, 4, none⟩ = some (.int .i64 0) := (blk_cell BKN.out 4).trans rfl; have hfza_4 := blk_frozen BKN.out 4; have hcza_5 : w1.cell? ⟨gN, 5, none⟩ = some (.bool false) := (blk_cell BKN.out 5).trans rfl; have hfza_5 := blk_frozen BKN.out 5; have hcza_6 : w1.cell? ⟨gN, 6, none⟩ = some (.int .i64 0) := (blk_cell BKN.out 6).trans rfl; have hfza_6 := blk_frozen BKN.out 6; have hcza_7 : w1.cell? ⟨gN, 7, none⟩ = some (.bool false) := (blk_cell BKN.out 7).trans rfl; have hfza_7 := blk_frozen BKN.out 7) | ((with_reducible refine gate_dst (N := 24) rfl ?_); refine mq_event ?hg (N := 24) ?hd ?ho ?_; (case hd => rfl); (case hg => rfl); (case ho => rfl); intro gM hg w2 hbox hb; have BKN2 := Aside0.mk (blk_below (blk_put (cs' := avC chZ) (blk_put (cs' := avC chZ) (blk_put (cs' := avC chZ) (blk_put (cs' := avC chZ) (blk_put (cs' := avC chZ) (blk_put (cs' := avC chZ) (blk_put (cs' := avC chZ) (blk_put (cs' := avC chZ) BKN.out 0 (.int .i64 0) rfl) 1 (.bool false) rfl) 2 (.int .i64 0) rfl) 3 (.bool false) rfl) 4 (.int .i64 0) rfl) 5 (.bool false) rfl) 6 (.int .i64 0) rfl) 7 (.bool false) rfl) hb); have BKM2 := Aside0.mk hbox; have NMN := Aside0.mk (show gM ≠ gN by rw [hg]; exact Nat.ne_of_gt (blk_lt (blk_put (cs' := avC chZ) (blk_put (cs' := avC chZ) (blk_put (cs' := avC chZ) (blk_put (cs' := avC chZ) (blk_put (cs' := avC chZ) (blk_put (cs' := avC chZ) (blk_put (cs' := avC chZ) (blk_put (cs' := avC chZ) BKN.out 0 (.int .i64 0) rfl) 1 (.bool false) rfl) 2 (.int .i64 0) rfl) 3 (.bool false) rfl) 4 (.int .i64 0) rfl) 5 (.bool false) rfl) 6 (.int .i64 0) rfl) 7 (.bool false) rfl))); have NNM := Aside0.mk (Ne.symm NMN.out); have GWM := Aside0.mk (show w.heap.size ≤ gM by rw [hg]; exact below_size (by repeat (first | (with_reducible first | exact HB1.out | refine below_set ?_ GWN.out) | exact HB1.out))); have HB2 := Aside0.mk (below_step (by repeat (first | (with_reducible first | exact HB1.out | refine below_set ?_ GWN.out) | exact HB1.out)) hb); clear hg hbox hb) | (refine wpList_load_row rfl 84 _ rfl gN rfl 84 (avC chZ) (0, 0) _ BKN2.out Try.underlying84 rfl (by kernel_rfl) ?_) | (refine mq_put_event ?hg ?hN (mo := ?mo_1) (xo := ?xo_1) (vo := ?vo_1) ?ho (g := gM) (m := []) chZ 0 ?hm ?hx ?hv ?hb ?hw ?hget ?_; (case ho => first | (apply Or.inl; rfl) | (apply Or.inr; rfl)); (case hg => rfl); (case hN => rfl); (case hm => first | rfl | (go_simp; done)); (case hx => first | rfl | (go_simp; done)); (case hv => first | rfl | (go_simp; done)); (case hb => exact BKM2.out); (case hw => rfl); (case hget => rfl); intro w3 hbox hg; have BKN3 := Aside0.mk (blk_grown BKN2.out hg (fun e_ => NNM.out (Option.some.inj e_))); have BKM3 := Aside0.mk hbox; have HB3 := Aside0.mk (Below.grown HB2.out hg (below_size HB2.out) (fun k_ e_ => (Option.some.inj e_) ▸ GWM.out)); clear hbox hg))
  clear HB1 BKN BKN2 BKM2 HB2 HB
  try clear hcza_0 hcza_1 hcza_2 hcza_3 hcza_4 hcza_5 hcza_6 hcza_7 hfza_0 hfza_1 hfza_2 hfza_3 hfza_4 hfza_5 hfza_6 hfza_7
  go_loopg [9] k (fun kq v9 w' => ∃ (now : L4) (m : List (L4 × Int)) (n : Int), v9 = .int .i64 n ∧ Aside0 (chLoop kq l0 a1 now m n = some (r1, r2, r3)) ∧ Aside0 (w'.heap[gN]? = some (.cells (avC now) 84 (0, 0))) ∧ Aside0 (w'.heap[gM]? = some (mqObj m)) ∧ Aside0 (Below w.heap.size w w'))
  case atStart => exact ⟨chZ, _, 1, rfl, HH, BKN3, BKM3, HB3⟩
  case round =>
    clear HH BKN3 BKM3 HB3
    obtain ⟨now, m, n, rfl, HA3, BKN, BKM, HB⟩ := hrel
    cases gk with
    | zero => exact absurd HA3.out (by simp [chLoop])
    | succ kO =>
      have H := HA3.out
      clear HA3
      simp only [chLoop] at H
      by_cases c1 : n ≤ 5000
      · rw [if_pos c1] at H
        have c1b : decide (n ≤ 5000) = true := decide_eq_true c1
        clear c1
        obtain ⟨y, HT, H⟩ := Option.bind_eq_some_iff.mp H
        by_cases c2 : avW y = true
        · rw [if_pos c2] at H
          have HW := Aside0.mk c2
          have HT' := Aside0.mk (show chTick (l0.drop 0) 0 now a1 = some y from HT)
          have HH := Aside0.mk H
          clear H HT c2
          go_wp2
          obtain ⟨wo, rfl⟩ : ∃ wo : World, wo = wr := ⟨_, rfl⟩
          go_loopg [10, 34] l0.length (fun kq v10 v34 w' => ∃ (j : Nat) (nw : L4) (x : Int), v10 = .int .i64 x ∧ v34 = .int .i64 (j : Int) ∧ Aside0 (j + kq = l0.length) ∧ Aside0 (chTick (l0.drop j) j nw x = some y) ∧ Aside0 (w'.heap[gN]? = some (.cells (avC nw) 84 (0, 0))) ∧ Aside0 (w'.heap[gM]? = some (mqObj m)) ∧ Aside0 (Below w.heap.size w w'))
          case atStart => exact ⟨0, now, a1, rfl, rfl, ⟨by omega⟩, HT', BKN, BKM, HB⟩
          case round =>
            clear HT' BKN BKM HB
            obtain ⟨j, nw, x, rfl, rfl, HK, HT, BKN, BKM, HB⟩ := hrel
            by_cases hlt : j < l0.length
            · have h4' : j < 4 := by omega
              have h4 : (j : Int) < 4 := by omega
              have h64 : (j : Int) + 1 ≤ 140737488351233 := by omega
              obtain ⟨⟨t1, t2, t3, t4⟩, hA, hB⟩ := Option.bind_eq_some_iff.mp ((chTick_drop l0 j hlt nw x).symm.trans HT.out)
              have HAt : Aside0 (impl_Siphon_tick.f (rd_T26 l0 j).f0 (rd_T26 l0 j).f1 (rd_T26 l0 j).f2 (rd_T26 l0 j).f3 (chSel nw j).f0 (chSel nw j).f1 x = some (t1, t2, t3, t4)) := ⟨hA⟩
              have HBt : Aside0 (chTick (l0.drop (j + 1)) (j + 1) (chSet nw j ⟨t1, t2⟩) t3 = some y) := ⟨hB⟩
              have H4 := Aside0.mk h4'
              clear hA hB HT h4'
              obtain ⟨ad, e, hx0, hx1, hx2, hx3⟩ := at_T26 HR0.out (j : Int) (by omega) (by omega)
              cases e
              simp only [Int.toNat_natCast] at hx0 hx1 hx2 hx3
              replace hx0 := (HB.out.cell (World.block_lt_of_cell? w _ hx0)).trans hx0
              replace hx1 := (HB.out.cell (World.block_lt_of_cell? w _ hx1)).trans hx1
              replace hx2 := (HB.out.cell (World.block_lt_of_cell? w _ hx2)).trans hx2
              replace hx3 := (HB.out.cell (World.block_lt_of_cell? w _ hx3)).trans hx3
              go_wp2_with (first | ((with_reducible refine gate_dst (N := 12) rfl ?_); refine box_event ?hg (N := 12) ?hd (cs := #[.int .i64 0, .int .i64 0, .int .i64 0, .int .i64 0]) (t := 26) ?hr ?_; (case hd => rfl); (case hg => rfl); (case hr => first | (go_simp; done) | (go_simp; rfl)); intro gS hg w5 hbox hb; have BKS := Aside0.mk hbox; have GWS := Aside0.mk (show w.heap.size ≤ gS by rw [hg]; exact below_size HB.out); have NSN := Aside0.mk (show gS ≠ gN by rw [hg]; exact Nat.ne_of_gt (blk_lt BKN.out)); have NNS := Aside0.mk (Ne.symm NSN.out); have NSM := Aside0.mk (show gS ≠ gM by rw [hg]; exact Nat.ne_of_gt (blk_lt BKM.out)); have NMS := Aside0.mk (Ne.symm NSM.out); have BKN5 := Aside0.mk (blk_below BKN.out hb); have BKM5 := Aside0.mk (blk_below BKM.out hb); have HB5 := Aside0.mk (below_step HB.out hb); clear hg hbox hb; have hcs_0 : w5.cell? ⟨gS, 0, none⟩ = some (.int .i64 0) := (blk_cell BKS.out 0).trans rfl; have hfs_0 := blk_frozen BKS.out 0; have hcs_1 : w5.cell? ⟨gS, 1, none⟩ = some (.int .i64 0) := (blk_cell BKS.out 1).trans rfl; have hfs_1 := blk_frozen BKS.out 1; have hcs_2 : w5.cell? ⟨gS, 2, none⟩ = some (.int .i64 0) := (blk_cell BKS.out 2).trans rfl; have hfs_2 := blk_frozen BKS.out 2; have hcs_3 : w5.cell? ⟨gS, 3, none⟩ = some (.int .i64 0) := (blk_cell BKS.out 3).trans rfl; have hfs_3 := blk_frozen BKS.out 3))
              have BKS6 : Aside0 (((((w5.setCell ⟨gS, 0, none⟩ (.int .i64 (rd_T26 l0 (j : Int)).f0)).setCell ⟨gS, 1, none⟩ (.int .i64 (rd_T26 l0 (j : Int)).f1)).setCell ⟨gS, 2, none⟩ (.int .i64 (rd_T26 l0 (j : Int)).f2)).setCell ⟨gS, 3, none⟩ (.int .i64 (rd_T26 l0 (j : Int)).f3)).heap[gS]? = some (.cells #[.int .i64 (rd_T26 l0 (j : Int)).f0, .int .i64 (rd_T26 l0 (j : Int)).f1, .int .i64 (rd_T26 l0 (j : Int)).f2, .int .i64 (rd_T26 l0 (j : Int)).f3] 26 (0, 0))) := ⟨(blk_put (cs' := #[.int .i64 (rd_T26 l0 (j : Int)).f0, .int .i64 (rd_T26 l0 (j : Int)).f1, .int .i64 (rd_T26 l0 (j : Int)).f2, .int .i64 (rd_T26 l0 (j : Int)).f3]) (blk_put (cs' := #[.int .i64 (rd_T26 l0 (j : Int)).f0, .int .i64 (rd_T26 l0 (j : Int)).f1, .int .i64 (rd_T26 l0 (j : Int)).f2, .int .i64 0]) (blk_put (cs' := #[.int .i64 (rd_T26 l0 (j : Int)).f0, .int .i64 (rd_T26 l0 (j : Int)).f1, .int .i64 0, .int .i64 0]) (blk_put (cs' := #[.int .i64 (rd_T26 l0 (j : Int)).f0, .int .i64 0, .int .i64 0, .int .i64 0]) BKS.out 0 (.int .i64 (rd_T26 l0 (j : Int)).f0) rfl) 1 (.int .i64 (rd_T26 l0 (j : Int)).f1) rfl) 2 (.int .i64 (rd_T26 l0 (j : Int)).f2) rfl) 3 (.int .i64 (rd_T26 l0 (j : Int)).f3) rfl)⟩
              have BKN6 : Aside0 (((((w5.setCell ⟨gS, 0, none⟩ (.int .i64 (rd_T26 l0 (j : Int)).f0)).setCell ⟨gS, 1, none⟩ (.int .i64 (rd_T26 l0 (j : Int)).f1)).setCell ⟨gS, 2, none⟩ (.int .i64 (rd_T26 l0 (j : Int)).f2)).setCell ⟨gS, 3, none⟩ (.int .i64 (rd_T26 l0 (j : Int)).f3)).heap[gN]? = some (.cells (avC nw) 84 (0, 0))) := ⟨(blk_far (blk_far (blk_far (blk_far BKN5.out NNS.out _) NNS.out _) NNS.out _) NNS.out _)⟩
              have BKM6 : Aside0 (((((w5.setCell ⟨gS, 0, none⟩ (.int .i64 (rd_T26 l0 (j : Int)).f0)).setCell ⟨gS, 1, none⟩ (.int .i64 (rd_T26 l0 (j : Int)).f1)).setCell ⟨gS, 2, none⟩ (.int .i64 (rd_T26 l0 (j : Int)).f2)).setCell ⟨gS, 3, none⟩ (.int .i64 (rd_T26 l0 (j : Int)).f3)).heap[gM]? = some (mqObj m)) := ⟨(blk_far (blk_far (blk_far (blk_far BKM5.out NMS.out _) NMS.out _) NMS.out _) NMS.out _)⟩
              have HB6 : Aside0 (Below w.heap.size w ((((w5.setCell ⟨gS, 0, none⟩ (.int .i64 (rd_T26 l0 (j : Int)).f0)).setCell ⟨gS, 1, none⟩ (.int .i64 (rd_T26 l0 (j : Int)).f1)).setCell ⟨gS, 2, none⟩ (.int .i64 (rd_T26 l0 (j : Int)).f2)).setCell ⟨gS, 3, none⟩ (.int .i64 (rd_T26 l0 (j : Int)).f3))) := ⟨below_set (below_set (below_set (below_set HB5.out GWS.out) GWS.out) GWS.out) GWS.out⟩
              clear BKS BKN5 BKM5 HB5 BKN BKM HB hcs_0 hcs_1 hcs_2 hcs_3 hfs_0 hfs_1 hfs_2 hfs_3
              generalize ((((w5.setCell ⟨gS, 0, none⟩ (.int .i64 (rd_T26 l0 (j : Int)).f0)).setCell ⟨gS, 1, none⟩ (.int .i64 (rd_T26 l0 (j : Int)).f1)).setCell ⟨gS, 2, none⟩ (.int .i64 (rd_T26 l0 (j : Int)).f2)).setCell ⟨gS, 3, none⟩ (.int .i64 (rd_T26 l0 (j : Int)).f3)) = w6 at BKS6 BKN6 BKM6 HB6 ⊢
              have BKS := Aside0.mk (blk_drew BKS6.out)
              have BKN := Aside0.mk (blk_drew BKN6.out)
              have BKM := Aside0.mk (blk_drew BKM6.out)
              have HB := Aside0.mk (below_drew1 HB6.out)
              clear BKS6 BKN6 BKM6 HB6
              refine start_ (n := 14) (S := fun w' => w'.cell? ⟨gS, 0, none⟩ = some (.int .i64 (rd_T26 l0 (j : Int)).f0) ∧ w'.cell? ⟨gS, 1, none⟩ = some (.int .i64 (rd_T26 l0 (j : Int)).f1) ∧ w'.cell? ⟨gS, 2, none⟩ = some (.int .i64 (rd_T26 l0 (j : Int)).f2) ∧ w'.cell? ⟨gS, 3, none⟩ = some (.int .i64 (rd_T26 l0 (j : Int)).f3) ∧ w'.cell? ⟨gN, j * 2, none⟩ = some (.int .i64 (chSel nw j).f0) ∧ w'.cell? ⟨gN, j * 2 + 1, none⟩ = some (.bool (chSel nw j).f1)) (ds := [12]) #[false, false, false, false, false, false, false, false, false, false, false, false, false, false] (by kernel_rfl) rfl rfl ⟨(blk_cell BKS.out 0).trans rfl, (blk_cell BKS.out 1).trans rfl, (blk_cell BKS.out 2).trans rfl, (blk_cell BKS.out 3).trans rfl, (blk_cell BKN.out (j * 2)).trans (avC_get0 nw j H4.out), (blk_cell BKN.out (j * 2 + 1)).trans (avC_get1 nw j H4.out)⟩ (fun hHeld => ?_)
              generalize w6.drew = w7 at BKS BKN BKM HB hHeld ⊢
              refine pure_ (i := 0) (N := some 40) (v := ?_) (a' := ?_) #[true, false, false, false, false, false, false, false, false, false, false, false, false, false] rfl rfl (by kernel_rfl) (fun _ _ _ h => h) (Or.inl ⟨by rfl, ?_⟩) ?_ ?_
              rotate_left
              · intro w'
                go_simp
                with_reducible rfl
              rotate_left
              · simp only [Act.put, List.setIfInBounds_toArray, List.set_cons_zero, List.set_cons_succ, i64_w, i32_w]
                rfl
              refine pure_ (i := 2) (N := some 42) (v := ?_) (a' := ?_) #[true, false, true, false, false, false, false, false, false, false, false, false, false, false] rfl rfl (by kernel_rfl) (fun _ _ _ h => h) (Or.inl ⟨by rfl, ?_⟩) ?_ ?_
              rotate_left
              · intro w'
                go_simp
                with_reducible rfl
              rotate_left
              · simp only [Act.put, List.setIfInBounds_toArray, List.set_cons_zero, List.set_cons_succ, i64_w, i32_w]
                rfl
              refine pure_ (i := 5) (N := some 45) (v := ?_) (a' := ?_) #[true, false, true, false, false, true, false, false, false, false, false, false, false, false] rfl rfl (by kernel_rfl) (fun _ _ _ h => h) (Or.inl ⟨by rfl, ?_⟩) ?_ ?_
              rotate_left
              · intro w'
                go_simp
                with_reducible rfl
              rotate_left
              · simp only [Act.put, List.setIfInBounds_toArray, List.set_cons_zero, List.set_cons_succ, i64_w, i32_w]
                rfl
              refine pure_ (i := 3) (N := some 43) (v := ?_) (a' := ?_) #[true, false, true, true, false, true, false, false, false, false, false, false, false, false] rfl rfl (by kernel_rfl) (fun _ _ _ h => h) (Or.inl ⟨by rfl, ?_⟩) ?_ ?_
              rotate_left
              · intro w'
                go_simp
                with_reducible rfl
              rotate_left
              · simp only [Act.put, List.setIfInBounds_toArray, List.set_cons_zero, List.set_cons_succ, i64_w, i32_w]
                rfl
              refine take_ (i := 1) (N := some 41) (v := ?_) (a' := ?_) #[true, true, true, true, false, true, false, false, false, false, false, false, false, false] rfl rfl (by kernel_rfl) (fun _ _ _ h => h) (Or.inl ⟨by rfl, ?_⟩) hHeld ?_ ?_
              rotate_left
              · rintro w' ⟨s0, s1, s2, s3, s4, s5⟩
                go_simp
                with_reducible rfl
              rotate_left
              · simp only [Act.put, List.setIfInBounds_toArray, List.set_cons_zero, List.set_cons_succ, i64_w, i32_w]
                rfl
              refine take_ (i := 4) (N := some 44) (v := ?_) (a' := ?_) #[true, true, true, true, true, true, false, false, false, false, false, false, false, false] rfl rfl (by kernel_rfl) (fun _ _ _ h => h) (Or.inl ⟨by rfl, ?_⟩) hHeld ?_ ?_
              rotate_left
              · rintro w' ⟨s0, s1, s2, s3, s4, s5⟩
                go_simp
                with_reducible rfl
              rotate_left
              · simp only [Act.put, List.setIfInBounds_toArray, List.set_cons_zero, List.set_cons_succ, i64_w, i32_w]
                rfl
              refine one_ (i := 6) (N := some 46) #[true, true, true, true, true, true, true, false, false, false, false, false, false, false] rfl rfl (by kernel_rfl) (by decide) (fun K hK => ?_)
              refine goes_ Try.func51 (by kernel_rfl) rfl #[.agg #[.int .i64 (rd_T26 l0 (j : Int)).f0, .int .i64 (rd_T26 l0 (j : Int)).f1, .int .i64 (rd_T26 l0 (j : Int)).f2, .int .i64 (rd_T26 l0 (j : Int)).f3], .agg #[.int .i64 (chSel nw j).f0, .bool (chSel nw j).f1], .int .i64 x] (by rfl) rfl rfl (by (try simp only [List.map_toArray, List.map_cons, List.map_nil]); first | done | rfl) ?_
              with_reducible refine (impl_Siphon_tick.calls (rd_T26 l0 (j : Int)).f0 (rd_T26 l0 (j : Int)).f1 (rd_T26 l0 (j : Int)).f2 (rd_T26 l0 (j : Int)).f3 (chSel nw j).f0 (chSel nw j).f1 x t1 t2 t3 t4 _ HAt.out).mono ?_
              rintro e w8 ⟨rfl, hb⟩
              refine ⟨_, rfl, ?_⟩
              have BKS8 := Aside0.mk (blk_below BKS.out hb)
              have BKN8 := Aside0.mk (blk_below BKN.out hb)
              have BKM8 := Aside0.mk (blk_below BKM.out hb)
              have HB8 := Aside0.mk (below_step HB.out hb)
              clear BKS BKN BKM HB hb
              refine hK.out _ _ ⟨(blk_cell BKS8.out 0).trans rfl, (blk_cell BKS8.out 1).trans rfl, (blk_cell BKS8.out 2).trans rfl, (blk_cell BKS8.out 3).trans rfl, (blk_cell BKN8.out (j * 2)).trans (avC_get0 nw j H4.out), (blk_cell BKN8.out (j * 2 + 1)).trans (avC_get1 nw j H4.out)⟩ (fun hHeld => ?_)
              clear hK K
              refine norm_ (a' := ?_) ?_ ?_
              rotate_left
              · show Act.put _ (some 46) _ = _
                simp only [Act.put, List.setIfInBounds_toArray, List.set_cons_zero, List.set_cons_succ, i64_w, i32_w]
                rfl
              refine pure_ (i := 7) (N := some 39) (v := ?_) (a' := ?_) #[true, true, true, true, true, true, true, true, false, false, false, false, false, false] rfl rfl (by kernel_rfl) (fun _ _ _ h => h) (Or.inl ⟨by rfl, ?_⟩) ?_ ?_
              rotate_left
              · intro w'
                go_simp
                with_reducible rfl
              rotate_left
              · simp only [Act.put, List.setIfInBounds_toArray, List.set_cons_zero, List.set_cons_succ, i64_w, i32_w]
                rfl
              refine pure_ (i := 8) (N := some 47) (v := ?_) (a' := ?_) #[true, true, true, true, true, true, true, true, true, false, false, false, false, false] rfl rfl (by kernel_rfl) (fun _ _ _ h => h) (Or.inl ⟨by rfl, ?_⟩) ?_ ?_
              rotate_left
              · intro w'
                go_simp
                with_reducible rfl
              rotate_left
              · simp only [Act.put, List.setIfInBounds_toArray, List.set_cons_zero, List.set_cons_succ, i64_w, i32_w]
                rfl
              refine pure_ (i := 9) (N := some 48) (v := ?_) (a' := ?_) #[true, true, true, true, true, true, true, true, true, true, false, false, false, false] rfl rfl (by kernel_rfl) (fun _ _ _ h => h) (Or.inl ⟨by rfl, ?_⟩) ?_ ?_
              rotate_left
              · intro w'
                go_simp
                with_reducible rfl
              rotate_left
              · simp only [Act.put, List.setIfInBounds_toArray, List.set_cons_zero, List.set_cons_succ, i64_w, i32_w]
                rfl
              refine pure_ (i := 10) (N := some 49) (v := ?_) (a' := ?_) #[true, true, true, true, true, true, true, true, true, true, true, false, false, false] rfl rfl (by kernel_rfl) (fun _ _ _ h => h) (Or.inl ⟨by rfl, ?_⟩) ?_ ?_
              rotate_left
              · intro w'
                go_simp
                with_reducible rfl
              rotate_left
              · simp only [Act.put, List.setIfInBounds_toArray, List.set_cons_zero, List.set_cons_succ, i64_w, i32_w]
                rfl
              refine pure_ (i := 11) (N := some 50) (v := ?_) (a' := ?_) #[true, true, true, true, true, true, true, true, true, true, true, true, false, false] rfl rfl (by kernel_rfl) (fun _ _ _ h => h) (Or.inl ⟨by rfl, ?_⟩) ?_ ?_
              rotate_left
              · intro w'
                go_simp
                with_reducible rfl
              rotate_left
              · simp only [Act.put, List.setIfInBounds_toArray, List.set_cons_zero, List.set_cons_succ, i64_w, i32_w]
                rfl
              refine last_ (i := 12) (N := none) #[true, true, true, true, true, true, true, true, true, true, true, true, true, false] rfl rfl (by kernel_rfl) (by decide) (fun K hK => ?_)
              have hcn0 : w8.cell? ⟨gN, j * 2, none⟩ = some (.int .i64 (chSel nw j).f0) := (blk_cell BKN8.out (j * 2)).trans (avC_get0 nw j H4.out)
              have hcn1 : w8.cell? ⟨gN, j * 2 + 1, none⟩ = some (.bool (chSel nw j).f1) := (blk_cell BKN8.out (j * 2 + 1)).trans (avC_get1 nw j H4.out)
              have hfn0 := blk_frozen BKN8.out (j * 2)
              have hfn1 := blk_frozen BKN8.out (j * 2 + 1)
              refine skip_ (w1 := ?_) (by rfl) rfl ?_ ?_
              rotate_left
              · go_simp
                rfl
              refine hK.out _ _ ?_
              clear hK K
              refine pure_ (i := 13) (N := some 10) (v := ?_) (a' := ?_) #[true, true, true, true, true, true, true, true, true, true, true, true, true, true] rfl rfl (by kernel_rfl) (fun _ _ _ h => h) (Or.inl ⟨by rfl, ?_⟩) ?_ ?_
              rotate_left
              · intro w'
                go_simp
                with_reducible rfl
              rotate_left
              · simp only [Act.put, List.setIfInBounds_toArray, List.set_cons_zero, List.set_cons_succ, i64_w, i32_w]
                rfl
              refine done_ (by kernel_rfl) ?_
              go_wp2
              go_roundg (gk - 1)
              case measure => have := HK.out; omega
              case rel => exact ⟨j + 1, chSet nw j ⟨t1, t2⟩, t3, rfl, by go_num, ⟨by have := HK.out; omega⟩, HBt, ⟨blk_put (blk_put BKN8.out (j * 2) (.int .i64 t1) rfl) (j * 2 + 1) (.bool t2) (avC_set nw ⟨t1, t2⟩ j H4.out)⟩, ⟨blk_far (blk_far BKM8.out NMN.out _) NMN.out _⟩, ⟨below_set (below_set HB8.out GWN.out) GWN.out⟩⟩
            · have hy : nw = y := by
                have h := HT.out
                rw [List.drop_of_length_le (by omega)] at h
                exact Option.some.inj h
              subst hy
              have hlk : (Instr.lookup 85 (.map (some gM)) (.agg (avC nw)) true).run Try.prog wr = .ok (.tuple #[.int .i64 ((mqGet nw m).getD 0), .bool (mqGet nw m).isSome]) wr := mq_look BKM.out nw HW.out
              by_cases c3 : (mqGet nw m).isSome = true
              · have H := HH.out
                rw [if_pos c3] at H
                simp only [Option.some.injEq, Prod.mk.injEq] at H
                obtain ⟨rfl, rfl, rfl⟩ := H
                clear HH HT
                go_wp2_with (first | (refine wpList_load_row rfl 84 _ rfl gN rfl 84 (avC nw) (0, 0) _ BKN.out Try.underlying84 rfl (by kernel_rfl) ?_))
                go_ret3
                exact ⟨rfl, HB.out⟩
              · have H := HH.out
                rw [if_neg c3] at H
                by_cases c4 : mqGet nw m = none
                · rw [if_pos c4] at H
                  have HH2 := Aside0.mk H
                  have HG := Aside0.mk c4
                  have c3b : (mqGet nw m).isSome = false := Bool.eq_false_iff.mpr c3
                  clear HH HT H c3 c4
                  go_wp2_with (first | (refine wpList_load_row rfl 84 _ rfl gN rfl 84 (avC nw) (0, 0) _ BKN.out Try.underlying84 rfl (by kernel_rfl) ?_) | (refine mq_put_event ?hg ?hN (mo := ?mo_2) (xo := ?xo_2) (vo := ?vo_2) ?ho (g := gM) (m := m) nw n ?hm ?hx ?hv ?hb ?hw ?hget ?_; (case ho => first | (apply Or.inl; rfl) | (apply Or.inr; rfl)); (case hg => rfl); (case hN => rfl); (case hm => first | rfl | (go_simp; done)); (case hx => first | rfl | (go_simp; done)); (case hv => first | rfl | (go_simp; done)); (case hb => exact BKM.out); (case hw => exact HW.out); (case hget => exact HG.out); intro w3 hbox hg; have BKN3 := Aside0.mk (blk_grown BKN.out hg (fun e_ => NNM.out (Option.some.inj e_))); have BKM3 := Aside0.mk hbox; have HB3 := Aside0.mk (Below.grown HB.out hg (below_size HB.out) (fun k_ e_ => (Option.some.inj e_) ▸ GWM.out)); clear hbox hg))
                  go_roundg kO
                  case measure => omega
                  case rel => exact ⟨nw, m ++ [(nw, n)], wrap64 (n + 1), rfl, HH2, BKN3, BKM3, HB3⟩
                · rw [if_neg c4] at H
                  exact absurd H (by simp)
        · rw [if_neg c2] at H
          exact absurd H (by simp)
      · rw [if_neg c1] at H
        have c1b : decide (n ≤ 5000) = false := decide_eq_false c1
        clear c1
        obtain ⟨rfl, rfl, rfl⟩ : (0 : Int) = r1 ∧ (0 : Int) = r2 ∧ false = r3 := by simpa using H
        go_wp2
        go_ret3
        exact ⟨rfl, HB.out⟩
theorem impl_PeriodOfChain.calls (k : Nat) (A0 : Option Addr) (c0 : Nat) (l0 : List (S26)) (a1 : Int) (r1 : Int) (r2 : Int) (r3 : Bool) (w : World) (hr0 : Kd.C k26 w A0 l0.length l0) (hc0 : l0.length ≤ c0) (h : impl_PeriodOfChain.f k l0 a1 = some (r1, r2, r3)) :
    Calls Try.prog 41 #[.slice A0 l0.length c0, .int .i64 a1] w fun e w' => e = .returned (.tuple #[.int .i64 r1, .int .i64 r2, .bool r3]) ∧ Below w.heap.size w w' := by
  unfold impl_PeriodOfChain.f at h
  obtain ⟨c, h1, h⟩ := Option.bind_eq_some_iff.mp h
  cases c with
  | false =>
    rw [if_neg (by decide)] at h
    simp only [Option.some.injEq, Prod.mk.injEq] at h
    obtain ⟨rfl, rfl, rfl⟩ := h
    exact impl_PeriodOfChain.no1 A0 c0 l0 a1 w hr0 hc0 h1
  | true =>
    rw [if_pos rfl] at h
    obtain ⟨d, h2, h⟩ := Option.bind_eq_some_iff.mp h
    cases d with
    | false =>
      rw [if_neg (by decide)] at h
      simp only [Option.some.injEq, Prod.mk.injEq] at h
      obtain ⟨rfl, rfl, rfl⟩ := h
      exact impl_PeriodOfChain.no2 A0 c0 l0 a1 w hr0 hc0 h1 h2
    | true =>
      rw [if_pos rfl] at h
      have hL : l0.length ≤ 4 := by
        have g := h1
        unfold impl_isChain.f at g
        split at g
        · have g2 := Option.some.inj g
          rw [Bool.and_eq_true, decide_eq_true_eq] at g2
          exact g2.1.2
        · cases g
      exact impl_PeriodOfChain.yes k A0 c0 l0 a1 r1 r2 r3 w hr0 hc0 h1 h2 hL h

/-! ### laws_eqSiphon: function 63 -/
def laws_eqSiphon.f (a0_0 : Int) (a0_1 : Int) (a0_2 : Int) (a0_3 : Int) (a1_0 : Int) (a1_1 : Int) (a1_2 : Int) (a1_3 : Int) : Option (Bool) := if a0_0 = a1_0 then (if a0_1 = a1_1 then (if a0_2 = a1_2 then (if a0_3 = a1_3 then (some true) else (some false)) else (some false)) else (some false)) else (some false)
set_option maxHeartbeats 8000000 in
set_option maxRecDepth 100000 in
theorem laws_eqSiphon.calls (a0_0 : Int) (a0_1 : Int) (a0_2 : Int) (a0_3 : Int) (a1_0 : Int) (a1_1 : Int) (a1_2 : Int) (a1_3 : Int) (r : Bool) (w : World) (h : laws_eqSiphon.f a0_0 a0_1 a0_2 a0_3 a1_0 a1_1 a1_2 a1_3 = some r) :
    Calls Try.prog 63 #[.agg #[.int .i64 a0_0, .int .i64 a0_1, .int .i64 a0_2, .int .i64 a0_3], .agg #[.int .i64 a1_0, .int .i64 a1_1, .int .i64 a1_2, .int .i64 a1_3]] w fun e w' => e = .returned (.bool r) ∧ Below w.heap.size w w' := by
  have hu26 := Try.underlying26
  have HB := Aside0.mk (Below.refl w.heap.size w)
  have H : (if a0_0 = a1_0 then (if a0_1 = a1_1 then (if a0_2 = a1_2 then (if a0_3 = a1_3 then (some true) else (some false)) else (some false)) else (some false)) else (some false)) = some r := h
  clear h
  by_cases c3 : a0_0 = a1_0
  · rw [if_pos c3] at H
    have c3b0 : (a0_0 == a1_0) = true := beq_iff_eq.mpr c3
    have c3b1 : (a0_0 != a1_0) = false := bne_eq_false_iff_eq.mpr c3
    clear c3
    by_cases c4 : a0_1 = a1_1
    · rw [if_pos c4] at H
      have c4b0 : (a0_1 == a1_1) = true := beq_iff_eq.mpr c4
      have c4b1 : (a0_1 != a1_1) = false := bne_eq_false_iff_eq.mpr c4
      clear c4
      by_cases c5 : a0_2 = a1_2
      · rw [if_pos c5] at H
        have c5b0 : (a0_2 == a1_2) = true := beq_iff_eq.mpr c5
        have c5b1 : (a0_2 != a1_2) = false := bne_eq_false_iff_eq.mpr c5
        clear c5
        by_cases c6 : a0_3 = a1_3
        · rw [if_pos c6] at H
          have c6b0 : (a0_3 == a1_3) = true := beq_iff_eq.mpr c6
          have c6b1 : (a0_3 != a1_3) = false := bne_eq_false_iff_eq.mpr c6
          clear c6
          obtain rfl := Option.some.inj H
          go_enter Try.func63, Try.ntmps63
          go_wp2_with (first | ((with_reducible refine gate_dst (N := 2) rfl ?_); refine box_event ?hg (N := 2) ?hd (cs := #[.int .i64 a0_0, .int .i64 a0_1, .int .i64 a0_2, .int .i64 a0_3]) (t := 26) ?hr ?_; (case hd => rfl); (case hg => rfl); (case hr => first | (go_simp; done) | (go_simp; rfl)); intro gb355 hg w7 hbox hb; have n0_ := Aside0.mk (below_step (by repeat (first | (with_reducible first | exact HB.out | apply below_alloc | apply pw_below_drewN | apply below_drew1) | exact HB.out)) hb); have n1_ := Aside0.mk (hbox); have n2_ := Aside0.mk ((by rw [hg]; exact (below_size (by repeat (first | (with_reducible first | exact HB.out | apply below_alloc | apply pw_below_drewN | apply below_drew1) | exact HB.out))) : w.heap.size ≤ gb355)); have n3_ := Aside0.mk ((by rw [hg]; exact (below_size (by repeat (first | (with_reducible first | exact HB.out | apply below_alloc | apply pw_below_drewN | apply below_drew1) | exact HB.out))) : w.heap.size ≤ gb355)); clear HB; have HB := n0_; have BK355 := n1_; have GW355 := n2_; have GE355 := n3_; clear n0_ n1_ n2_ n3_; clear hb hbox hg) | ((with_reducible refine gate_dst (N := 3) rfl ?_); refine box_event ?hg (N := 3) ?hd (cs := #[.int .i64 a1_0, .int .i64 a1_1, .int .i64 a1_2, .int .i64 a1_3]) (t := 26) ?hr ?_; (case hd => rfl); (case hg => rfl); (case hr => first | (go_simp; done) | (go_simp; rfl)); intro gb356 hg w8 hbox hb; have n0_ := Aside0.mk (blk_below (g := gb355) (o := .cells #[.int .i64 a0_0, .int .i64 a0_1, .int .i64 a0_2, .int .i64 a0_3] 26 (0, 0)) (by (with_reducible repeat (first | refine blk_drewN ?_ _ | refine blk_drew ?_ | refine blk_alloc ?_ _)); exact BK355.out) hb); have n1_ := Aside0.mk (below_step (by repeat (first | (with_reducible first | exact HB.out | apply below_alloc | apply pw_below_drewN | apply below_drew1 | refine below_set ?_ GE355.out) | exact HB.out)) hb); have n2_ := Aside0.mk (hbox); have n3_ := Aside0.mk ((by rw [hg]; exact (below_size (by repeat (first | (with_reducible first | exact HB.out | apply below_alloc | apply pw_below_drewN | apply below_drew1 | refine below_set ?_ GE355.out) | exact HB.out))) : w.heap.size ≤ gb356)); have n4_ := Aside0.mk ((by rw [hg]; exact (below_size (by repeat (first | (with_reducible first | exact HB.out | apply below_alloc | apply pw_below_drewN | apply below_drew1 | refine below_set ?_ GE355.out) | exact HB.out))) : w.heap.size ≤ gb356)); have n5_ := Aside0.mk ((by rw [hg]; exact Nat.ne_of_lt (blk_lt (g := gb355) (o := .cells #[.int .i64 a0_0, .int .i64 a0_1, .int .i64 a0_2, .int .i64 a0_3] 26 (0, 0)) (by (with_reducible repeat (first | refine blk_drewN ?_ _ | refine blk_drew ?_ | refine blk_alloc ?_ _)); exact BK355.out)) : gb355 ≠ gb356)); have n6_ := Aside0.mk ((by rw [hg]; exact Nat.ne_of_gt (blk_lt (g := gb355) (o := .cells #[.int .i64 a0_0, .int .i64 a0_1, .int .i64 a0_2, .int .i64 a0_3] 26 (0, 0)) (by (with_reducible repeat (first | refine blk_drewN ?_ _ | refine blk_drew ?_ | refine blk_alloc ?_ _)); exact BK355.out)) : gb356 ≠ gb355)); clear BK355; clear HB; have BK355 := n0_; have HB := n1_; have BK356 := n2_; have GW356 := n3_; have GE356 := n4_; have NB355_356 := n5_; have NB356_355 := n6_; clear n0_ n1_ n2_ n3_ n4_ n5_ n6_; clear hb hbox hg; have hnb9 := NB355_356.out; have hnc9 := NB356_355.out; have hcz10_0 : w8.cell? ⟨gb355, 0, none⟩ = some (.int .i64 a0_0) := (blk_cell BK355.out 0).trans rfl; have hcz10_1 : w8.cell? ⟨gb355, 1, none⟩ = some (.int .i64 a0_1) := (blk_cell BK355.out 1).trans rfl; have hcz10_2 : w8.cell? ⟨gb355, 2, none⟩ = some (.int .i64 a0_2) := (blk_cell BK355.out 2).trans rfl; have hcz10_3 : w8.cell? ⟨gb355, 3, none⟩ = some (.int .i64 a0_3) := (blk_cell BK355.out 3).trans rfl; have hfz10_0 := blk_frozen BK355.out 0; have hfz10_1 := blk_frozen BK355.out 1; have hfz10_2 := blk_frozen BK355.out 2; have hfz10_3 := blk_frozen BK355.out 3; have hcz11_0 : w8.cell? ⟨gb356, 0, none⟩ = some (.int .i64 a1_0) := (blk_cell BK356.out 0).trans rfl; have hcz11_1 : w8.cell? ⟨gb356, 1, none⟩ = some (.int .i64 a1_1) := (blk_cell BK356.out 1).trans rfl; have hcz11_2 : w8.cell? ⟨gb356, 2, none⟩ = some (.int .i64 a1_2) := (blk_cell BK356.out 2).trans rfl; have hcz11_3 : w8.cell? ⟨gb356, 3, none⟩ = some (.int .i64 a1_3) := (blk_cell BK356.out 3).trans rfl; have hfz11_0 := blk_frozen BK356.out 0; have hfz11_1 := blk_frozen BK356.out 1; have hfz11_2 := blk_frozen BK356.out 2; have hfz11_3 := blk_frozen BK356.out 3))
          go_ret
          exact ⟨by first | rfl | (simp [errW_none, errW_some] <;> rfl) | (simp [*, errW_none, errW_some] <;> rfl), by repeat (first | (with_reducible first | exact HB.out | apply below_alloc | apply pw_below_drewN | apply below_drew1 | refine below_set ?_ GE355.out | refine below_set ?_ GE356.out) | exact HB.out)⟩
        · rw [if_neg c6] at H
          have c6b0 : (a0_3 == a1_3) = false := beq_eq_false_iff_ne.mpr c6
          have c6b1 : (a0_3 != a1_3) = true := bne_iff_ne.mpr c6
          obtain rfl := Option.some.inj H
          go_enter Try.func63, Try.ntmps63
          go_wp2_with (first | ((with_reducible refine gate_dst (N := 2) rfl ?_); refine box_event ?hg (N := 2) ?hd (cs := #[.int .i64 a0_0, .int .i64 a0_1, .int .i64 a0_2, .int .i64 a0_3]) (t := 26) ?hr ?_; (case hd => rfl); (case hg => rfl); (case hr => first | (go_simp; done) | (go_simp; rfl)); intro gb355 hg w12 hbox hb; have n0_ := Aside0.mk (below_step (by repeat (first | (with_reducible first | exact HB.out | apply below_alloc | apply pw_below_drewN | apply below_drew1) | exact HB.out)) hb); have n1_ := Aside0.mk (hbox); have n2_ := Aside0.mk ((by rw [hg]; exact (below_size (by repeat (first | (with_reducible first | exact HB.out | apply below_alloc | apply pw_below_drewN | apply below_drew1) | exact HB.out))) : w.heap.size ≤ gb355)); have n3_ := Aside0.mk ((by rw [hg]; exact (below_size (by repeat (first | (with_reducible first | exact HB.out | apply below_alloc | apply pw_below_drewN | apply below_drew1) | exact HB.out))) : w.heap.size ≤ gb355)); clear HB; have HB := n0_; have BK355 := n1_; have GW355 := n2_; have GE355 := n3_; clear n0_ n1_ n2_ n3_; clear hb hbox hg) | ((with_reducible refine gate_dst (N := 3) rfl ?_); refine box_event ?hg (N := 3) ?hd (cs := #[.int .i64 a1_0, .int .i64 a1_1, .int .i64 a1_2, .int .i64 a1_3]) (t := 26) ?hr ?_; (case hd => rfl); (case hg => rfl); (case hr => first | (go_simp; done) | (go_simp; rfl)); intro gb356 hg w13 hbox hb; have n0_ := Aside0.mk (blk_below (g := gb355) (o := .cells #[.int .i64 a0_0, .int .i64 a0_1, .int .i64 a0_2, .int .i64 a0_3] 26 (0, 0)) (by (with_reducible repeat (first | refine blk_drewN ?_ _ | refine blk_drew ?_ | refine blk_alloc ?_ _)); exact BK355.out) hb); have n1_ := Aside0.mk (below_step (by repeat (first | (with_reducible first | exact HB.out | apply below_alloc | apply pw_below_drewN | apply below_drew1 | refine below_set ?_ GE355.out) | exact HB.out)) hb); have n2_ := Aside0.mk (hbox); have n3_ := Aside0.mk ((by rw [hg]; exact (below_size (by repeat (first | (with_reducible first | exact HB.out | apply below_alloc | apply pw_below_drewN | apply below_drew1 | refine below_set ?_ GE355.out) | exact HB.out))) : w.heap.size ≤ gb356)); have n4_ := Aside0.mk ((by rw [hg]; exact (below_size (by repeat (first | (with_reducible first | exact HB.out | apply below_alloc | apply pw_below_drewN | apply below_drew1 | refine below_set ?_ GE355.out) | exact HB.out))) : w.heap.size ≤ gb356)); have n5_ := Aside0.mk ((by rw [hg]; exact Nat.ne_of_lt (blk_lt (g := gb355) (o := .cells #[.int .i64 a0_0, .int .i64 a0_1, .int .i64 a0_2, .int .i64 a0_3] 26 (0, 0)) (by (with_reducible repeat (first | refine blk_drewN ?_ _ | refine blk_drew ?_ | refine blk_alloc ?_ _)); exact BK355.out)) : gb355 ≠ gb356)); have n6_ := Aside0.mk ((by rw [hg]; exact Nat.ne_of_gt (blk_lt (g := gb355) (o := .cells #[.int .i64 a0_0, .int .i64 a0_1, .int .i64 a0_2, .int .i64 a0_3] 26 (0, 0)) (by (with_reducible repeat (first | refine blk_drewN ?_ _ | refine blk_drew ?_ | refine blk_alloc ?_ _)); exact BK355.out)) : gb356 ≠ gb355)); clear BK355; clear HB; have BK355 := n0_; have HB := n1_; have BK356 := n2_; have GW356 := n3_; have GE356 := n4_; have NB355_356 := n5_; have NB356_355 := n6_; clear n0_ n1_ n2_ n3_ n4_ n5_ n6_; clear hb hbox hg; have hnb14 := NB355_356.out; have hnc14 := NB356_355.out; have hcz15_0 : w13.cell? ⟨gb355, 0, none⟩ = some (.int .i64 a0_0) := (blk_cell BK355.out 0).trans rfl; have hcz15_1 : w13.cell? ⟨gb355, 1, none⟩ = some (.int .i64 a0_1) := (blk_cell BK355.out 1).trans rfl; have hcz15_2 : w13.cell? ⟨gb355, 2, none⟩ = some (.int .i64 a0_2) := (blk_cell BK355.out 2).trans rfl; have hcz15_3 : w13.cell? ⟨gb355, 3, none⟩ = some (.int .i64 a0_3) := (blk_cell BK355.out 3).trans rfl; have hfz15_0 := blk_frozen BK355.out 0; have hfz15_1 := blk_frozen BK355.out 1; have hfz15_2 := blk_frozen BK355.out 2; have hfz15_3 := blk_frozen BK355.out 3; have hcz16_0 : w13.cell? ⟨gb356, 0, none⟩ = some (.int .i64 a1_0) := (blk_cell BK356.out 0).trans rfl; have hcz16_1 : w13.cell? ⟨gb356, 1, none⟩ = some (.int .i64 a1_1) := (blk_cell BK356.out 1).trans rfl; have hcz16_2 : w13.cell? ⟨gb356, 2, none⟩ = some (.int .i64 a1_2) := (blk_cell BK356.out 2).trans rfl; have hcz16_3 : w13.cell? ⟨gb356, 3, none⟩ = some (.int .i64 a1_3) := (blk_cell BK356.out 3).trans rfl; have hfz16_0 := blk_frozen BK356.out 0; have hfz16_1 := blk_frozen BK356.out 1; have hfz16_2 := blk_frozen BK356.out 2; have hfz16_3 := blk_frozen BK356.out 3))
          go_ret
          exact ⟨by first | rfl | (simp [errW_none, errW_some] <;> rfl) | (simp [*, errW_none, errW_some] <;> rfl), by repeat (first | (with_reducible first | exact HB.out | apply below_alloc | apply pw_below_drewN | apply below_drew1 | refine below_set ?_ GE355.out | refine below_set ?_ GE356.out) | exact HB.out)⟩
      · rw [if_neg c5] at H
        have c5b0 : (a0_2 == a1_2) = false := beq_eq_false_iff_ne.mpr c5
        have c5b1 : (a0_2 != a1_2) = true := bne_iff_ne.mpr c5
        obtain rfl := Option.some.inj H
        go_enter Try.func63, Try.ntmps63
        go_wp2_with (first | ((with_reducible refine gate_dst (N := 2) rfl ?_); refine box_event ?hg (N := 2) ?hd (cs := #[.int .i64 a0_0, .int .i64 a0_1, .int .i64 a0_2, .int .i64 a0_3]) (t := 26) ?hr ?_; (case hd => rfl); (case hg => rfl); (case hr => first | (go_simp; done) | (go_simp; rfl)); intro gb355 hg w17 hbox hb; have n0_ := Aside0.mk (below_step (by repeat (first | (with_reducible first | exact HB.out | apply below_alloc | apply pw_below_drewN | apply below_drew1) | exact HB.out)) hb); have n1_ := Aside0.mk (hbox); have n2_ := Aside0.mk ((by rw [hg]; exact (below_size (by repeat (first | (with_reducible first | exact HB.out | apply below_alloc | apply pw_below_drewN | apply below_drew1) | exact HB.out))) : w.heap.size ≤ gb355)); have n3_ := Aside0.mk ((by rw [hg]; exact (below_size (by repeat (first | (with_reducible first | exact HB.out | apply below_alloc | apply pw_below_drewN | apply below_drew1) | exact HB.out))) : w.heap.size ≤ gb355)); clear HB; have HB := n0_; have BK355 := n1_; have GW355 := n2_; have GE355 := n3_; clear n0_ n1_ n2_ n3_; clear hb hbox hg) | ((with_reducible refine gate_dst (N := 3) rfl ?_); refine box_event ?hg (N := 3) ?hd (cs := #[.int .i64 a1_0, .int .i64 a1_1, .int .i64 a1_2, .int .i64 a1_3]) (t := 26) ?hr ?_; (case hd => rfl); (case hg => rfl); (case hr => first | (go_simp; done) | (go_simp; rfl)); intro gb356 hg w18 hbox hb; have n0_ := Aside0.mk (blk_below (g := gb355) (o := .cells #[.int .i64 a0_0, .int .i64 a0_1, .int .i64 a0_2, .int .i64 a0_3] 26 (0, 0)) (by (with_reducible repeat (first | refine blk_drewN ?_ _ | refine blk_drew ?_ | refine blk_alloc ?_ _)); exact BK355.out) hb); have n1_ := Aside0.mk (below_step (by repeat (first | (with_reducible first | exact HB.out | apply below_alloc | apply pw_below_drewN | apply below_drew1 | refine below_set ?_ GE355.out) | exact HB.out)) hb); have n2_ := Aside0.mk (hbox); have n3_ := Aside0.mk ((by rw [hg]; exact (below_size (by repeat (first | (with_reducible first | exact HB.out | apply below_alloc | apply pw_below_drewN | apply below_drew1 | refine below_set ?_ GE355.out) | exact HB.out))) : w.heap.size ≤ gb356)); have n4_ := Aside0.mk ((by rw [hg]; exact (below_size (by repeat (first | (with_reducible first | exact HB.out | apply below_alloc | apply pw_below_drewN | apply below_drew1 | refine below_set ?_ GE355.out) | exact HB.out))) : w.heap.size ≤ gb356)); have n5_ := Aside0.mk ((by rw [hg]; exact Nat.ne_of_lt (blk_lt (g := gb355) (o := .cells #[.int .i64 a0_0, .int .i64 a0_1, .int .i64 a0_2, .int .i64 a0_3] 26 (0, 0)) (by (with_reducible repeat (first | refine blk_drewN ?_ _ | refine blk_drew ?_ | refine blk_alloc ?_ _)); exact BK355.out)) : gb355 ≠ gb356)); have n6_ := Aside0.mk ((by rw [hg]; exact Nat.ne_of_gt (blk_lt (g := gb355) (o := .cells #[.int .i64 a0_0, .int .i64 a0_1, .int .i64 a0_2, .int .i64 a0_3] 26 (0, 0)) (by (with_reducible repeat (first | refine blk_drewN ?_ _ | refine blk_drew ?_ | refine blk_alloc ?_ _)); exact BK355.out)) : gb356 ≠ gb355)); clear BK355; clear HB; have BK355 := n0_; have HB := n1_; have BK356 := n2_; have GW356 := n3_; have GE356 := n4_; have NB355_356 := n5_; have NB356_355 := n6_; clear n0_ n1_ n2_ n3_ n4_ n5_ n6_; clear hb hbox hg; have hnb19 := NB355_356.out; have hnc19 := NB356_355.out; have hcz20_0 : w18.cell? ⟨gb355, 0, none⟩ = some (.int .i64 a0_0) := (blk_cell BK355.out 0).trans rfl; have hcz20_1 : w18.cell? ⟨gb355, 1, none⟩ = some (.int .i64 a0_1) := (blk_cell BK355.out 1).trans rfl; have hcz20_2 : w18.cell? ⟨gb355, 2, none⟩ = some (.int .i64 a0_2) := (blk_cell BK355.out 2).trans rfl; have hcz20_3 : w18.cell? ⟨gb355, 3, none⟩ = some (.int .i64 a0_3) := (blk_cell BK355.out 3).trans rfl; have hfz20_0 := blk_frozen BK355.out 0; have hfz20_1 := blk_frozen BK355.out 1; have hfz20_2 := blk_frozen BK355.out 2; have hfz20_3 := blk_frozen BK355.out 3; have hcz21_0 : w18.cell? ⟨gb356, 0, none⟩ = some (.int .i64 a1_0) := (blk_cell BK356.out 0).trans rfl; have hcz21_1 : w18.cell? ⟨gb356, 1, none⟩ = some (.int .i64 a1_1) := (blk_cell BK356.out 1).trans rfl; have hcz21_2 : w18.cell? ⟨gb356, 2, none⟩ = some (.int .i64 a1_2) := (blk_cell BK356.out 2).trans rfl; have hcz21_3 : w18.cell? ⟨gb356, 3, none⟩ = some (.int .i64 a1_3) := (blk_cell BK356.out 3).trans rfl; have hfz21_0 := blk_frozen BK356.out 0; have hfz21_1 := blk_frozen BK356.out 1; have hfz21_2 := blk_frozen BK356.out 2; have hfz21_3 := blk_frozen BK356.out 3))
        go_ret
        exact ⟨by first | rfl | (simp [errW_none, errW_some] <;> rfl) | (simp [*, errW_none, errW_some] <;> rfl), by repeat (first | (with_reducible first | exact HB.out | apply below_alloc | apply pw_below_drewN | apply below_drew1 | refine below_set ?_ GE355.out | refine below_set ?_ GE356.out) | exact HB.out)⟩
    · rw [if_neg c4] at H
      have c4b0 : (a0_1 == a1_1) = false := beq_eq_false_iff_ne.mpr c4
      have c4b1 : (a0_1 != a1_1) = true := bne_iff_ne.mpr c4
      obtain rfl := Option.some.inj H
      go_enter Try.func63, Try.ntmps63
      go_wp2_with (first | ((with_reducible refine gate_dst (N := 2) rfl ?_); refine box_event ?hg (N := 2) ?hd (cs := #[.int .i64 a0_0, .int .i64 a0_1, .int .i64 a0_2, .int .i64 a0_3]) (t := 26) ?hr ?_; (case hd => rfl); (case hg => rfl); (case hr => first | (go_simp; done) | (go_simp; rfl)); intro gb355 hg w22 hbox hb; have n0_ := Aside0.mk (below_step (by repeat (first | (with_reducible first | exact HB.out | apply below_alloc | apply pw_below_drewN | apply below_drew1) | exact HB.out)) hb); have n1_ := Aside0.mk (hbox); have n2_ := Aside0.mk ((by rw [hg]; exact (below_size (by repeat (first | (with_reducible first | exact HB.out | apply below_alloc | apply pw_below_drewN | apply below_drew1) | exact HB.out))) : w.heap.size ≤ gb355)); have n3_ := Aside0.mk ((by rw [hg]; exact (below_size (by repeat (first | (with_reducible first | exact HB.out | apply below_alloc | apply pw_below_drewN | apply below_drew1) | exact HB.out))) : w.heap.size ≤ gb355)); clear HB; have HB := n0_; have BK355 := n1_; have GW355 := n2_; have GE355 := n3_; clear n0_ n1_ n2_ n3_; clear hb hbox hg) | ((with_reducible refine gate_dst (N := 3) rfl ?_); refine box_event ?hg (N := 3) ?hd (cs := #[.int .i64 a1_0, .int .i64 a1_1, .int .i64 a1_2, .int .i64 a1_3]) (t := 26) ?hr ?_; (case hd => rfl); (case hg => rfl); (case hr => first | (go_simp; done) | (go_simp; rfl)); intro gb356 hg w23 hbox hb; have n0_ := Aside0.mk (blk_below (g := gb355) (o := .cells #[.int .i64 a0_0, .int .i64 a0_1, .int .i64 a0_2, .int .i64 a0_3] 26 (0, 0)) (by (with_reducible repeat (first | refine blk_drewN ?_ _ | refine blk_drew ?_ | refine blk_alloc ?_ _)); exact BK355.out) hb); have n1_ := Aside0.mk (below_step (by repeat (first | (with_reducible first | exact HB.out | apply below_alloc | apply pw_below_drewN | apply below_drew1 | refine below_set ?_ GE355.out) | exact HB.out)) hb); have n2_ := Aside0.mk (hbox); have n3_ := Aside0.mk ((by rw [hg]; exact (below_size (by repeat (first | (with_reducible first | exact HB.out | apply below_alloc | apply pw_below_drewN | apply below_drew1 | refine below_set ?_ GE355.out) | exact HB.out))) : w.heap.size ≤ gb356)); have n4_ := Aside0.mk ((by rw [hg]; exact (below_size (by repeat (first | (with_reducible first | exact HB.out | apply below_alloc | apply pw_below_drewN | apply below_drew1 | refine below_set ?_ GE355.out) | exact HB.out))) : w.heap.size ≤ gb356)); have n5_ := Aside0.mk ((by rw [hg]; exact Nat.ne_of_lt (blk_lt (g := gb355) (o := .cells #[.int .i64 a0_0, .int .i64 a0_1, .int .i64 a0_2, .int .i64 a0_3] 26 (0, 0)) (by (with_reducible repeat (first | refine blk_drewN ?_ _ | refine blk_drew ?_ | refine blk_alloc ?_ _)); exact BK355.out)) : gb355 ≠ gb356)); have n6_ := Aside0.mk ((by rw [hg]; exact Nat.ne_of_gt (blk_lt (g := gb355) (o := .cells #[.int .i64 a0_0, .int .i64 a0_1, .int .i64 a0_2, .int .i64 a0_3] 26 (0, 0)) (by (with_reducible repeat (first | refine blk_drewN ?_ _ | refine blk_drew ?_ | refine blk_alloc ?_ _)); exact BK355.out)) : gb356 ≠ gb355)); clear BK355; clear HB; have BK355 := n0_; have HB := n1_; have BK356 := n2_; have GW356 := n3_; have GE356 := n4_; have NB355_356 := n5_; have NB356_355 := n6_; clear n0_ n1_ n2_ n3_ n4_ n5_ n6_; clear hb hbox hg; have hnb24 := NB355_356.out; have hnc24 := NB356_355.out; have hcz25_0 : w23.cell? ⟨gb355, 0, none⟩ = some (.int .i64 a0_0) := (blk_cell BK355.out 0).trans rfl; have hcz25_1 : w23.cell? ⟨gb355, 1, none⟩ = some (.int .i64 a0_1) := (blk_cell BK355.out 1).trans rfl; have hcz25_2 : w23.cell? ⟨gb355, 2, none⟩ = some (.int .i64 a0_2) := (blk_cell BK355.out 2).trans rfl; have hcz25_3 : w23.cell? ⟨gb355, 3, none⟩ = some (.int .i64 a0_3) := (blk_cell BK355.out 3).trans rfl; have hfz25_0 := blk_frozen BK355.out 0; have hfz25_1 := blk_frozen BK355.out 1; have hfz25_2 := blk_frozen BK355.out 2; have hfz25_3 := blk_frozen BK355.out 3; have hcz26_0 : w23.cell? ⟨gb356, 0, none⟩ = some (.int .i64 a1_0) := (blk_cell BK356.out 0).trans rfl; have hcz26_1 : w23.cell? ⟨gb356, 1, none⟩ = some (.int .i64 a1_1) := (blk_cell BK356.out 1).trans rfl; have hcz26_2 : w23.cell? ⟨gb356, 2, none⟩ = some (.int .i64 a1_2) := (blk_cell BK356.out 2).trans rfl; have hcz26_3 : w23.cell? ⟨gb356, 3, none⟩ = some (.int .i64 a1_3) := (blk_cell BK356.out 3).trans rfl; have hfz26_0 := blk_frozen BK356.out 0; have hfz26_1 := blk_frozen BK356.out 1; have hfz26_2 := blk_frozen BK356.out 2; have hfz26_3 := blk_frozen BK356.out 3))
      go_ret
      exact ⟨by first | rfl | (simp [errW_none, errW_some] <;> rfl) | (simp [*, errW_none, errW_some] <;> rfl), by repeat (first | (with_reducible first | exact HB.out | apply below_alloc | apply pw_below_drewN | apply below_drew1 | refine below_set ?_ GE355.out | refine below_set ?_ GE356.out) | exact HB.out)⟩
  · rw [if_neg c3] at H
    have c3b0 : (a0_0 == a1_0) = false := beq_eq_false_iff_ne.mpr c3
    have c3b1 : (a0_0 != a1_0) = true := bne_iff_ne.mpr c3
    obtain rfl := Option.some.inj H
    go_enter Try.func63, Try.ntmps63
    go_wp2_with (first | ((with_reducible refine gate_dst (N := 2) rfl ?_); refine box_event ?hg (N := 2) ?hd (cs := #[.int .i64 a0_0, .int .i64 a0_1, .int .i64 a0_2, .int .i64 a0_3]) (t := 26) ?hr ?_; (case hd => rfl); (case hg => rfl); (case hr => first | (go_simp; done) | (go_simp; rfl)); intro gb355 hg w27 hbox hb; have n0_ := Aside0.mk (below_step (by repeat (first | (with_reducible first | exact HB.out | apply below_alloc | apply pw_below_drewN | apply below_drew1) | exact HB.out)) hb); have n1_ := Aside0.mk (hbox); have n2_ := Aside0.mk ((by rw [hg]; exact (below_size (by repeat (first | (with_reducible first | exact HB.out | apply below_alloc | apply pw_below_drewN | apply below_drew1) | exact HB.out))) : w.heap.size ≤ gb355)); have n3_ := Aside0.mk ((by rw [hg]; exact (below_size (by repeat (first | (with_reducible first | exact HB.out | apply below_alloc | apply pw_below_drewN | apply below_drew1) | exact HB.out))) : w.heap.size ≤ gb355)); clear HB; have HB := n0_; have BK355 := n1_; have GW355 := n2_; have GE355 := n3_; clear n0_ n1_ n2_ n3_; clear hb hbox hg) | ((with_reducible refine gate_dst (N := 3) rfl ?_); refine box_event ?hg (N := 3) ?hd (cs := #[.int .i64 a1_0, .int .i64 a1_1, .int .i64 a1_2, .int .i64 a1_3]) (t := 26) ?hr ?_; (case hd => rfl); (case hg => rfl); (case hr => first | (go_simp; done) | (go_simp; rfl)); intro gb356 hg w28 hbox hb; have n0_ := Aside0.mk (blk_below (g := gb355) (o := .cells #[.int .i64 a0_0, .int .i64 a0_1, .int .i64 a0_2, .int .i64 a0_3] 26 (0, 0)) (by (with_reducible repeat (first | refine blk_drewN ?_ _ | refine blk_drew ?_ | refine blk_alloc ?_ _)); exact BK355.out) hb); have n1_ := Aside0.mk (below_step (by repeat (first | (with_reducible first | exact HB.out | apply below_alloc | apply pw_below_drewN | apply below_drew1 | refine below_set ?_ GE355.out) | exact HB.out)) hb); have n2_ := Aside0.mk (hbox); have n3_ := Aside0.mk ((by rw [hg]; exact (below_size (by repeat (first | (with_reducible first | exact HB.out | apply below_alloc | apply pw_below_drewN | apply below_drew1 | refine below_set ?_ GE355.out) | exact HB.out))) : w.heap.size ≤ gb356)); have n4_ := Aside0.mk ((by rw [hg]; exact (below_size (by repeat (first | (with_reducible first | exact HB.out | apply below_alloc | apply pw_below_drewN | apply below_drew1 | refine below_set ?_ GE355.out) | exact HB.out))) : w.heap.size ≤ gb356)); have n5_ := Aside0.mk ((by rw [hg]; exact Nat.ne_of_lt (blk_lt (g := gb355) (o := .cells #[.int .i64 a0_0, .int .i64 a0_1, .int .i64 a0_2, .int .i64 a0_3] 26 (0, 0)) (by (with_reducible repeat (first | refine blk_drewN ?_ _ | refine blk_drew ?_ | refine blk_alloc ?_ _)); exact BK355.out)) : gb355 ≠ gb356)); have n6_ := Aside0.mk ((by rw [hg]; exact Nat.ne_of_gt (blk_lt (g := gb355) (o := .cells #[.int .i64 a0_0, .int .i64 a0_1, .int .i64 a0_2, .int .i64 a0_3] 26 (0, 0)) (by (with_reducible repeat (first | refine blk_drewN ?_ _ | refine blk_drew ?_ | refine blk_alloc ?_ _)); exact BK355.out)) : gb356 ≠ gb355)); clear BK355; clear HB; have BK355 := n0_; have HB := n1_; have BK356 := n2_; have GW356 := n3_; have GE356 := n4_; have NB355_356 := n5_; have NB356_355 := n6_; clear n0_ n1_ n2_ n3_ n4_ n5_ n6_; clear hb hbox hg; have hnb29 := NB355_356.out; have hnc29 := NB356_355.out; have hcz30_0 : w28.cell? ⟨gb355, 0, none⟩ = some (.int .i64 a0_0) := (blk_cell BK355.out 0).trans rfl; have hcz30_1 : w28.cell? ⟨gb355, 1, none⟩ = some (.int .i64 a0_1) := (blk_cell BK355.out 1).trans rfl; have hcz30_2 : w28.cell? ⟨gb355, 2, none⟩ = some (.int .i64 a0_2) := (blk_cell BK355.out 2).trans rfl; have hcz30_3 : w28.cell? ⟨gb355, 3, none⟩ = some (.int .i64 a0_3) := (blk_cell BK355.out 3).trans rfl; have hfz30_0 := blk_frozen BK355.out 0; have hfz30_1 := blk_frozen BK355.out 1; have hfz30_2 := blk_frozen BK355.out 2; have hfz30_3 := blk_frozen BK355.out 3; have hcz31_0 : w28.cell? ⟨gb356, 0, none⟩ = some (.int .i64 a1_0) := (blk_cell BK356.out 0).trans rfl; have hcz31_1 : w28.cell? ⟨gb356, 1, none⟩ = some (.int .i64 a1_1) := (blk_cell BK356.out 1).trans rfl; have hcz31_2 : w28.cell? ⟨gb356, 2, none⟩ = some (.int .i64 a1_2) := (blk_cell BK356.out 2).trans rfl; have hcz31_3 : w28.cell? ⟨gb356, 3, none⟩ = some (.int .i64 a1_3) := (blk_cell BK356.out 3).trans rfl; have hfz31_0 := blk_frozen BK356.out 0; have hfz31_1 := blk_frozen BK356.out 1; have hfz31_2 := blk_frozen BK356.out 2; have hfz31_3 := blk_frozen BK356.out 3))
    go_ret
    exact ⟨by first | rfl | (simp [errW_none, errW_some] <;> rfl) | (simp [*, errW_none, errW_some] <;> rfl), by repeat (first | (with_reducible first | exact HB.out | apply below_alloc | apply pw_below_drewN | apply below_drew1 | refine below_set ?_ GE355.out | refine below_set ?_ GE356.out) | exact HB.out)⟩

/-! ### laws_eqSiphonS: function 42 -/
def laws_eqSiphonS.l0 : Nat → List (S26) → List (S26) → Int → Option (Bool)
  | 0, _, _, _ => none
  | k + 1, x0, x1, x5 => if x5 < (x0.length : Int) then (if 0 ≤ x5 then (if x5 < (x1.length : Int) then ((laws_eqSiphon.f ((rd_T26 x0 x5).f0) ((rd_T26 x0 x5).f1) ((rd_T26 x0 x5).f2) ((rd_T26 x0 x5).f3) ((rd_T26 x1 x5).f0) ((rd_T26 x1 x5).f1) ((rd_T26 x1 x5).f2) ((rd_T26 x1 x5).f3)).bind fun t359 => (if t359 = true then (laws_eqSiphonS.l0 k x0 x1 (wrap64 (x5 + 1))) else (some false))) else (none)) else (none)) else (some true)
def laws_eqSiphonS.f (k : Nat) (l0 : List (S26)) (l1 : List (S26)) : Option (Bool) := if (l0.length : Int) = (l1.length : Int) then (laws_eqSiphonS.l0 k l0 l1 0) else (some false)
theorem laws_eqSiphonS.mono_l : ∀ k, (∀ y0 y1 y2, LeO (laws_eqSiphonS.l0 k y0 y1 y2) (laws_eqSiphonS.l0 (k + 1) y0 y1 y2))
  | 0 => fun _ _ _ r h => by simp [laws_eqSiphonS.l0] at h
  | k + 1 => by
    have ih0 := laws_eqSiphonS.mono_l k
    · intro y0 y1 y2
      unfold laws_eqSiphonS.l0
      repeat' first
      | (with_reducible exact ih0 _ _ _)
      | (with_reducible exact LeO.refl _)
      | (with_reducible exact LeO.none _)
      | (with_reducible refine LeO.ite ?_ ?_)
      | (with_reducible refine LeO.bind ?_ (fun _ => ?_))
      | exact ih0 _ _ _
      | exact LeO.none _
      | refine LeO.ite ?_ ?_
      | refine LeO.bind ?_ (fun _ => ?_)
theorem laws_eqSiphonS.mono : ∀ a0 a1 k, LeO (laws_eqSiphonS.f k a0 a1) (laws_eqSiphonS.f (k + 1) a0 a1) := by
  intro a0 a1 k
  have ih0 := laws_eqSiphonS.mono_l k
  unfold laws_eqSiphonS.f
  repeat' first
      | (with_reducible exact ih0 _ _ _)
      | (with_reducible exact LeO.refl _)
      | (with_reducible exact LeO.none _)
      | (with_reducible refine LeO.ite ?_ ?_)
      | (with_reducible refine LeO.bind ?_ (fun _ => ?_))
      | exact ih0 _ _ _
      | exact LeO.none _
      | refine LeO.ite ?_ ?_
      | refine LeO.bind ?_ (fun _ => ?_)
def laws_eqSiphonS.T6 : Bool × List (List Nat × List Nat) := (true, [([], []), ([], []), ([0, 1], [0, 1]), ([2], [2]), ([], []), ([], []), ([4, 5], [4, 5]), ([6], [6]), ([3, 7], [3, 7]), ([8], [8])])
def laws_eqSiphonS.B6 : List Nat := [0, 0, 3, 7, 0, 0, 48, 112, 255, 511]
theorem laws_eqSiphonS.tab6 : rtab .any (opsOf Try.f42 6) = laws_eqSiphonS.T6 := by kernel_rfl
theorem laws_eqSiphonS.bits6 : waitsOk laws_eqSiphonS.T6.2 laws_eqSiphonS.B6 = true := by kernel_rfl
set_option maxHeartbeats 8000000 in
set_option maxRecDepth 100000 in
theorem laws_eqSiphonS.calls (k : Nat) (A0 : Option Addr) (c0 : Nat) (l0 : List (S26)) (A1 : Option Addr) (c1 : Nat) (l1 : List (S26)) (r : Bool) (w : World) (hr0 : Kd.C k26 w A0 l0.length l0) (hc0 : l0.length ≤ c0) (hr1 : Kd.C k26 w A1 l1.length l1) (hc1 : l1.length ≤ c1) (h : laws_eqSiphonS.f k l0 l1 = some r) :
    Calls Try.prog 42 #[.slice A0 l0.length c0, .slice A1 l1.length c1] w fun e w' => e = .returned (.bool r) ∧ Below w.heap.size w w' := by
  have hu26 := Try.underlying26
  have HR0 := Aside0.mk hr0
  have HC0 := Aside0.mk hc0
  clear hr0 hc0
  have HR1 := Aside0.mk hr1
  have HC1 := Aside0.mk hc1
  clear hr1 hc1
  have HB := Aside0.mk (Below.refl w.heap.size w)
  have H : (if (l0.length : Int) = (l1.length : Int) then (laws_eqSiphonS.l0 k l0 l1 0) else (some false)) = some r := h
  clear h
  by_cases c3 : (l0.length : Int) = (l1.length : Int)
  · rw [if_pos c3] at H
    have c3b0 : ((l0.length : Int) == (l1.length : Int)) = true := beq_iff_eq.mpr c3
    have c3b1 : ((l0.length : Int) != (l1.length : Int)) = false := bne_eq_false_iff_eq.mpr c3
    have c3b2 : (l0.length == l1.length) = true := by first | simpa using c3 | (simp at c3 ⊢; omega)
    clear c3
    have H' := Aside0.mk H
    clear H
    go_enter Try.func42, Try.ntmps42
    go_wp2
    go_loopg [5] k (fun kq v5 w' => ∃ (x5_1 : Int), v5 = .int .i64 x5_1 ∧ Aside0 (laws_eqSiphonS.l0 kq l0 l1 x5_1 = some r) ∧ Aside0 (kq ≤ k) ∧ Aside0 (Below w.heap.size w w'))
    case atStart => exact ⟨(0), (by first | rfl | (simp; done) | (simp [*]; done)), H', ⟨Nat.le_refl _⟩, ⟨by repeat (first | (with_reducible first | exact HB.out | apply below_alloc | apply pw_below_drewN | apply below_drew1) | exact HB.out)⟩⟩
    case round =>
      clear H'
      try clear c1
      try clear p2
      try clear c3
      try clear c3b0
      try clear c3b1
      try clear c3b2
      obtain ⟨x5_1, rfl, HA, HK1, HB⟩ := hrel
      cases gk with
      | zero => exact absurd HA.out (by simp [laws_eqSiphonS.l0])
      | succ k1 =>
        have H := HA.out
        clear HA
        simp only [laws_eqSiphonS.l0] at H
        by_cases c4 : x5_1 < (l0.length : Int)
        · rw [if_pos c4] at H
          have c4b0 : decide (x5_1 < (l0.length : Int)) = true := decide_eq_true c4
          clear c4
          by_cases c5 : 0 ≤ x5_1
          · rw [if_pos c5] at H
            have c5b0 : decide (0 ≤ x5_1) = true := decide_eq_true c5
            clear c5
            by_cases c6 : x5_1 < (l1.length : Int)
            · rw [if_pos c6] at H
              have c6b0 : decide (x5_1 < (l1.length : Int)) = true := decide_eq_true c6
              clear c6
              replace H := Option.bind_eq_some_iff.mp H
              obtain ⟨t359, A70, H⟩ := H
              replace H : (if t359 = true then (laws_eqSiphonS.l0 k1 l0 l1 (wrap64 (x5_1 + 1))) else (some false)) = some r := H
              have A7 := Aside0.mk A70
              clear A70
              by_cases c8 : t359 = true
              · subst c8
                have H1 : (laws_eqSiphonS.l0 k1 l0 l1 (wrap64 (x5_1 + 1))) = some r := by rw [if_pos rfl] at H; exact H
                clear H
                have H := H1
                clear H1
                have H' := Aside0.mk H
                clear H
                try go_wp2
                have n0_ := Aside0.mk (below_drew1 HB.out)
                clear HB
                have HB := n0_
                clear n0_
                have p357 : 0 ≤ (x5_1 : Int) := of_decide_eq_true (by first | (with_reducible assumption) | assumption)
                have q357 : x5_1 < (l0.length : Int) := of_decide_eq_true (by first | (with_reducible assumption) | assumption)
                obtain ⟨ad357, e357, hx357_0, hx357_1, hx357_2, hx357_3⟩ := at_T26 HR0.out x5_1 p357 q357
                have hw357_3 := hx357_3
                have hw357_2 := hx357_2
                have hw357_1 := hx357_1
                have hw357_0 := hx357_0
                cases e357
                replace hx357_0 := (HB.out.cell (World.block_lt_of_cell? w _ hx357_0)).trans hx357_0
                replace hx357_1 := (HB.out.cell (World.block_lt_of_cell? w _ hx357_1)).trans hx357_1
                replace hx357_2 := (HB.out.cell (World.block_lt_of_cell? w _ hx357_2)).trans hx357_2
                replace hx357_3 := (HB.out.cell (World.block_lt_of_cell? w _ hx357_3)).trans hx357_3
                replace p357 := eq_true p357
                replace q357 := eq_true q357
                have p358 : 0 ≤ (x5_1 : Int) := of_decide_eq_true (by first | (with_reducible assumption) | assumption)
                have q358 : x5_1 < (l1.length : Int) := of_decide_eq_true (by first | (with_reducible assumption) | assumption)
                obtain ⟨ad358, e358, hx358_0, hx358_1, hx358_2, hx358_3⟩ := at_T26 HR1.out x5_1 p358 q358
                have hw358_3 := hx358_3
                have hw358_2 := hx358_2
                have hw358_1 := hx358_1
                have hw358_0 := hx358_0
                cases e358
                replace hx358_0 := (HB.out.cell (World.block_lt_of_cell? w _ hx358_0)).trans hx358_0
                replace hx358_1 := (HB.out.cell (World.block_lt_of_cell? w _ hx358_1)).trans hx358_1
                replace hx358_2 := (HB.out.cell (World.block_lt_of_cell? w _ hx358_2)).trans hx358_2
                replace hx358_3 := (HB.out.cell (World.block_lt_of_cell? w _ hx358_3)).trans hx358_3
                replace p358 := eq_true p358
                replace q358 := eq_true q358
                refine start_ (n := 10) (S := fun w' => w'.cell? (ad357.add ((x5_1).toNat * 4)) = some (.int .i64 ((rd_T26 l0 x5_1).f0)) ∧ w'.cell? ⟨(ad357.add ((x5_1).toNat * 4)).block, (ad357.add ((x5_1).toNat * 4)).off + 1, none⟩ = some (.int .i64 ((rd_T26 l0 x5_1).f1)) ∧ w'.cell? ⟨(ad357.add ((x5_1).toNat * 4)).block, (ad357.add ((x5_1).toNat * 4)).off + 2, none⟩ = some (.int .i64 ((rd_T26 l0 x5_1).f2)) ∧ w'.cell? ⟨(ad357.add ((x5_1).toNat * 4)).block, (ad357.add ((x5_1).toNat * 4)).off + 3, none⟩ = some (.int .i64 ((rd_T26 l0 x5_1).f3)) ∧ w'.cell? (ad358.add ((x5_1).toNat * 4)) = some (.int .i64 ((rd_T26 l1 x5_1).f0)) ∧ w'.cell? ⟨(ad358.add ((x5_1).toNat * 4)).block, (ad358.add ((x5_1).toNat * 4)).off + 1, none⟩ = some (.int .i64 ((rd_T26 l1 x5_1).f1)) ∧ w'.cell? ⟨(ad358.add ((x5_1).toNat * 4)).block, (ad358.add ((x5_1).toNat * 4)).off + 2, none⟩ = some (.int .i64 ((rd_T26 l1 x5_1).f2)) ∧ w'.cell? ⟨(ad358.add ((x5_1).toNat * 4)).block, (ad358.add ((x5_1).toNat * 4)).off + 3, none⟩ = some (.int .i64 ((rd_T26 l1 x5_1).f3))) (ds := []) #[false, false, false, false, false, false, false, false, false, false] (by kernel_rfl) rfl rfl ⟨((HB.out.cell (World.block_lt_of_cell? w _ hw357_0)).trans hw357_0), ((HB.out.cell (World.block_lt_of_cell? w _ hw357_1)).trans hw357_1), ((HB.out.cell (World.block_lt_of_cell? w _ hw357_2)).trans hw357_2), ((HB.out.cell (World.block_lt_of_cell? w _ hw357_3)).trans hw357_3), ((HB.out.cell (World.block_lt_of_cell? w _ hw358_0)).trans hw358_0), ((HB.out.cell (World.block_lt_of_cell? w _ hw358_1)).trans hw358_1), ((HB.out.cell (World.block_lt_of_cell? w _ hw358_2)).trans hw358_2), ((HB.out.cell (World.block_lt_of_cell? w _ hw358_3)).trans hw358_3)⟩ (fun hHeld => ?_); refine with_tabW laws_eqSiphonS.tab6 laws_eqSiphonS.bits6 (fun HT_ HW_ => ?_)
                generalize wr.drew = w9 at HB hx357_0 hx357_1 hx357_2 hx357_3 hx358_0 hx358_1 hx358_2 hx358_3 hHeld ⊢
                refine pure_ (i := 0) (N := some 17) (v := ?_) (a' := ?_) #[true, false, false, false, false, false, false, false, false, false] rfl rfl (any_of HT_.out (by kernel_rfl)) (fun _ _ _ h => h) (Or.inl ⟨by rfl, ?_⟩) ?_ ?_
                rotate_left
                · intro w'
                  go_simp
                  with_reducible rfl
                rotate_left
                · simp only [Act.put, List.setIfInBounds_toArray, List.set_cons_zero, List.set_cons_succ, i64_w, i32_w]
                  rfl
                refine pure_ (i := 1) (N := some 18) (v := ?_) (a' := ?_) #[true, true, false, false, false, false, false, false, false, false] rfl rfl (any_of HT_.out (by kernel_rfl)) (fun _ _ _ h => h) (Or.inl ⟨by rfl, ?_⟩) ?_ ?_
                rotate_left
                · intro w'
                  go_simp
                  with_reducible rfl
                rotate_left
                · simp only [Act.put, List.setIfInBounds_toArray, List.set_cons_zero, List.set_cons_succ, i64_w, i32_w]
                  rfl
                refine pure_ (i := 2) (N := some 19) (v := ?_) (a' := ?_) #[true, true, true, false, false, false, false, false, false, false] rfl rfl (any_of HT_.out (by kernel_rfl)) (fun _ _ _ h => h) (Or.inl ⟨by rfl, ?_⟩) ?_ ?_
                rotate_left
                · intro w'
                  go_simp
                  with_reducible rfl
                rotate_left
                · simp only [Act.put, List.setIfInBounds_toArray, List.set_cons_zero, List.set_cons_succ, i64_w, i32_w]
                  rfl
                refine pure_ (i := 4) (N := some 21) (v := ?_) (a' := ?_) #[true, true, true, false, true, false, false, false, false, false] rfl rfl (any_of HT_.out (by kernel_rfl)) (fun _ _ _ h => h) (Or.inl ⟨by rfl, ?_⟩) ?_ ?_
                rotate_left
                · intro w'
                  go_simp
                  with_reducible rfl
                rotate_left
                · simp only [Act.put, List.setIfInBounds_toArray, List.set_cons_zero, List.set_cons_succ, i64_w, i32_w]
                  rfl
                refine pure_ (i := 5) (N := some 22) (v := ?_) (a' := ?_) #[true, true, true, false, true, true, false, false, false, false] rfl rfl (any_of HT_.out (by kernel_rfl)) (fun _ _ _ h => h) (Or.inl ⟨by rfl, ?_⟩) ?_ ?_
                rotate_left
                · intro w'
                  go_simp
                  with_reducible rfl
                rotate_left
                · simp only [Act.put, List.setIfInBounds_toArray, List.set_cons_zero, List.set_cons_succ, i64_w, i32_w]
                  rfl
                refine pure_ (i := 6) (N := some 23) (v := ?_) (a' := ?_) #[true, true, true, false, true, true, true, false, false, false] rfl rfl (any_of HT_.out (by kernel_rfl)) (fun _ _ _ h => h) (Or.inl ⟨by rfl, ?_⟩) ?_ ?_
                rotate_left
                · intro w'
                  go_simp
                  with_reducible rfl
                rotate_left
                · simp only [Act.put, List.setIfInBounds_toArray, List.set_cons_zero, List.set_cons_succ, i64_w, i32_w]
                  rfl
                refine take_ (i := 3) (N := some 20) (v := ?_) (a' := ?_) #[true, true, true, true, true, true, true, false, false, false] rfl rfl (take_ofW HT_.out HW_.out (by kernel_rfl)) (fun _ _ _ h => h) (Or.inl ⟨by rfl, ?_⟩) hHeld ?_ ?_
                rotate_left
                · rintro w' ⟨s0, s1, s2, s3, s4, s5, s6, s7⟩
                  go_simp
                  with_reducible rfl
                rotate_left
                · simp only [Act.put, List.setIfInBounds_toArray, List.set_cons_zero, List.set_cons_succ, i64_w, i32_w]
                  rfl
                refine take_ (i := 7) (N := some 24) (v := ?_) (a' := ?_) #[true, true, true, true, true, true, true, true, false, false] rfl rfl (take_ofW HT_.out HW_.out (by kernel_rfl)) (fun _ _ _ h => h) (Or.inl ⟨by rfl, ?_⟩) hHeld ?_ ?_
                rotate_left
                · rintro w' ⟨s0, s1, s2, s3, s4, s5, s6, s7⟩
                  go_simp
                  with_reducible rfl
                rotate_left
                · simp only [Act.put, List.setIfInBounds_toArray, List.set_cons_zero, List.set_cons_succ, i64_w, i32_w]
                  rfl
                refine one_ (i := 8) (N := some 25) #[true, true, true, true, true, true, true, true, true, false] rfl rfl (one_of HT_.out (by kernel_rfl)) (by decide) (fun K hK => ?_)
                refine goes_ Try.func63 (by kernel_rfl) rfl #[.agg #[.int .i64 ((rd_T26 l0 x5_1).f0), .int .i64 ((rd_T26 l0 x5_1).f1), .int .i64 ((rd_T26 l0 x5_1).f2), .int .i64 ((rd_T26 l0 x5_1).f3)], .agg #[.int .i64 ((rd_T26 l1 x5_1).f0), .int .i64 ((rd_T26 l1 x5_1).f1), .int .i64 ((rd_T26 l1 x5_1).f2), .int .i64 ((rd_T26 l1 x5_1).f3)]] (by rfl) rfl rfl (by (try simp only [List.map_toArray, List.map_cons, List.map_nil]); first | done | rfl | (simp only [List.length_drop, List.length_take]; rfl)) ?_
                with_reducible refine (laws_eqSiphon.calls ((rd_T26 l0 x5_1).f0) ((rd_T26 l0 x5_1).f1) ((rd_T26 l0 x5_1).f2) ((rd_T26 l0 x5_1).f3) ((rd_T26 l1 x5_1).f0) ((rd_T26 l1 x5_1).f1) ((rd_T26 l1 x5_1).f2) ((rd_T26 l1 x5_1).f3) true _ A7.out).mono ?_
                rintro e w10 ⟨rfl, hb⟩
                refine ⟨_, rfl, ?_⟩
                have n0_ := Aside0.mk (below_step (by repeat (first | (with_reducible first | exact HB.out | apply below_alloc | apply pw_below_drewN | apply below_drew1) | exact HB.out)) hb)
                clear HB
                have HB := n0_
                clear n0_
                (try clear hb)
                (try clear hb2)
                (try clear hk)
                (try clear hi)
                refine hK.out _ _ ⟨((HB.out.cell (World.block_lt_of_cell? w _ hw357_0)).trans hw357_0), ((HB.out.cell (World.block_lt_of_cell? w _ hw357_1)).trans hw357_1), ((HB.out.cell (World.block_lt_of_cell? w _ hw357_2)).trans hw357_2), ((HB.out.cell (World.block_lt_of_cell? w _ hw357_3)).trans hw357_3), ((HB.out.cell (World.block_lt_of_cell? w _ hw358_0)).trans hw358_0), ((HB.out.cell (World.block_lt_of_cell? w _ hw358_1)).trans hw358_1), ((HB.out.cell (World.block_lt_of_cell? w _ hw358_2)).trans hw358_2), ((HB.out.cell (World.block_lt_of_cell? w _ hw358_3)).trans hw358_3)⟩ (fun hHeld => ?_)
                clear hK K
                refine norm_ (a' := ?_) ?_ ?_
                rotate_left
                · show Act.put _ (some 25) _ = _
                  simp only [Act.put, List.setIfInBounds_toArray, List.set_cons_zero, List.set_cons_succ, i64_w, i32_w]
                  rfl
                refine pure_ (i := 9) (N := some 26) (v := ?_) (a' := ?_) #[true, true, true, true, true, true, true, true, true, true] rfl rfl (any_of HT_.out (by kernel_rfl)) (fun _ _ _ h => h) (Or.inl ⟨by rfl, ?_⟩) ?_ ?_
                rotate_left
                · intro w'
                  go_simp
                  with_reducible rfl
                rotate_left
                · simp only [Act.put, List.setIfInBounds_toArray, List.set_cons_zero, List.set_cons_succ, i64_w, i32_w]
                  rfl
                refine done_ (done_of HT_.out (by kernel_rfl)) ?_
                try go_wp2
                go_roundg k1
                case measure => have := HK1.out; omega
                case rel => exact ⟨(wrap64 (x5_1 + 1)), (by first | rfl | (simp; done) | (simp [*]; done)), H', ⟨by have := HK1.out; omega⟩, ⟨by repeat (first | (with_reducible first | exact HB.out | apply below_alloc | apply pw_below_drewN | apply below_drew1) | exact HB.out)⟩⟩
              · replace c8 := Bool.eq_false_iff.mpr c8
                subst c8
                have H1 : (some false) = some r := by rw [if_neg (show ¬ (false = true) by decide)] at H; exact H
                clear H
                have H := H1
                clear H1
                obtain rfl := Option.some.inj H
                try go_wp2
                have n0_ := Aside0.mk (below_drew1 HB.out)
                clear HB
                have HB := n0_
                clear n0_
                have p357 : 0 ≤ (x5_1 : Int) := of_decide_eq_true (by first | (with_reducible assumption) | assumption)
                have q357 : x5_1 < (l0.length : Int) := of_decide_eq_true (by first | (with_reducible assumption) | assumption)
                obtain ⟨ad357, e357, hx357_0, hx357_1, hx357_2, hx357_3⟩ := at_T26 HR0.out x5_1 p357 q357
                have hw357_3 := hx357_3
                have hw357_2 := hx357_2
                have hw357_1 := hx357_1
                have hw357_0 := hx357_0
                cases e357
                replace hx357_0 := (HB.out.cell (World.block_lt_of_cell? w _ hx357_0)).trans hx357_0
                replace hx357_1 := (HB.out.cell (World.block_lt_of_cell? w _ hx357_1)).trans hx357_1
                replace hx357_2 := (HB.out.cell (World.block_lt_of_cell? w _ hx357_2)).trans hx357_2
                replace hx357_3 := (HB.out.cell (World.block_lt_of_cell? w _ hx357_3)).trans hx357_3
                replace p357 := eq_true p357
                replace q357 := eq_true q357
                have p358 : 0 ≤ (x5_1 : Int) := of_decide_eq_true (by first | (with_reducible assumption) | assumption)
                have q358 : x5_1 < (l1.length : Int) := of_decide_eq_true (by first | (with_reducible assumption) | assumption)
                obtain ⟨ad358, e358, hx358_0, hx358_1, hx358_2, hx358_3⟩ := at_T26 HR1.out x5_1 p358 q358
                have hw358_3 := hx358_3
                have hw358_2 := hx358_2
                have hw358_1 := hx358_1
                have hw358_0 := hx358_0
                cases e358
                replace hx358_0 := (HB.out.cell (World.block_lt_of_cell? w _ hx358_0)).trans hx358_0
                replace hx358_1 := (HB.out.cell (World.block_lt_of_cell? w _ hx358_1)).trans hx358_1
                replace hx358_2 := (HB.out.cell (World.block_lt_of_cell? w _ hx358_2)).trans hx358_2
                replace hx358_3 := (HB.out.cell (World.block_lt_of_cell? w _ hx358_3)).trans hx358_3
                replace p358 := eq_true p358
                replace q358 := eq_true q358
                refine start_ (n := 10) (S := fun w' => w'.cell? (ad357.add ((x5_1).toNat * 4)) = some (.int .i64 ((rd_T26 l0 x5_1).f0)) ∧ w'.cell? ⟨(ad357.add ((x5_1).toNat * 4)).block, (ad357.add ((x5_1).toNat * 4)).off + 1, none⟩ = some (.int .i64 ((rd_T26 l0 x5_1).f1)) ∧ w'.cell? ⟨(ad357.add ((x5_1).toNat * 4)).block, (ad357.add ((x5_1).toNat * 4)).off + 2, none⟩ = some (.int .i64 ((rd_T26 l0 x5_1).f2)) ∧ w'.cell? ⟨(ad357.add ((x5_1).toNat * 4)).block, (ad357.add ((x5_1).toNat * 4)).off + 3, none⟩ = some (.int .i64 ((rd_T26 l0 x5_1).f3)) ∧ w'.cell? (ad358.add ((x5_1).toNat * 4)) = some (.int .i64 ((rd_T26 l1 x5_1).f0)) ∧ w'.cell? ⟨(ad358.add ((x5_1).toNat * 4)).block, (ad358.add ((x5_1).toNat * 4)).off + 1, none⟩ = some (.int .i64 ((rd_T26 l1 x5_1).f1)) ∧ w'.cell? ⟨(ad358.add ((x5_1).toNat * 4)).block, (ad358.add ((x5_1).toNat * 4)).off + 2, none⟩ = some (.int .i64 ((rd_T26 l1 x5_1).f2)) ∧ w'.cell? ⟨(ad358.add ((x5_1).toNat * 4)).block, (ad358.add ((x5_1).toNat * 4)).off + 3, none⟩ = some (.int .i64 ((rd_T26 l1 x5_1).f3))) (ds := []) #[false, false, false, false, false, false, false, false, false, false] (by kernel_rfl) rfl rfl ⟨((HB.out.cell (World.block_lt_of_cell? w _ hw357_0)).trans hw357_0), ((HB.out.cell (World.block_lt_of_cell? w _ hw357_1)).trans hw357_1), ((HB.out.cell (World.block_lt_of_cell? w _ hw357_2)).trans hw357_2), ((HB.out.cell (World.block_lt_of_cell? w _ hw357_3)).trans hw357_3), ((HB.out.cell (World.block_lt_of_cell? w _ hw358_0)).trans hw358_0), ((HB.out.cell (World.block_lt_of_cell? w _ hw358_1)).trans hw358_1), ((HB.out.cell (World.block_lt_of_cell? w _ hw358_2)).trans hw358_2), ((HB.out.cell (World.block_lt_of_cell? w _ hw358_3)).trans hw358_3)⟩ (fun hHeld => ?_); refine with_tabW laws_eqSiphonS.tab6 laws_eqSiphonS.bits6 (fun HT_ HW_ => ?_)
                generalize wr.drew = w11 at HB hx357_0 hx357_1 hx357_2 hx357_3 hx358_0 hx358_1 hx358_2 hx358_3 hHeld ⊢
                refine pure_ (i := 0) (N := some 17) (v := ?_) (a' := ?_) #[true, false, false, false, false, false, false, false, false, false] rfl rfl (any_of HT_.out (by kernel_rfl)) (fun _ _ _ h => h) (Or.inl ⟨by rfl, ?_⟩) ?_ ?_
                rotate_left
                · intro w'
                  go_simp
                  with_reducible rfl
                rotate_left
                · simp only [Act.put, List.setIfInBounds_toArray, List.set_cons_zero, List.set_cons_succ, i64_w, i32_w]
                  rfl
                refine pure_ (i := 1) (N := some 18) (v := ?_) (a' := ?_) #[true, true, false, false, false, false, false, false, false, false] rfl rfl (any_of HT_.out (by kernel_rfl)) (fun _ _ _ h => h) (Or.inl ⟨by rfl, ?_⟩) ?_ ?_
                rotate_left
                · intro w'
                  go_simp
                  with_reducible rfl
                rotate_left
                · simp only [Act.put, List.setIfInBounds_toArray, List.set_cons_zero, List.set_cons_succ, i64_w, i32_w]
                  rfl
                refine pure_ (i := 2) (N := some 19) (v := ?_) (a' := ?_) #[true, true, true, false, false, false, false, false, false, false] rfl rfl (any_of HT_.out (by kernel_rfl)) (fun _ _ _ h => h) (Or.inl ⟨by rfl, ?_⟩) ?_ ?_
                rotate_left
                · intro w'
                  go_simp
                  with_reducible rfl
                rotate_left
                · simp only [Act.put, List.setIfInBounds_toArray, List.set_cons_zero, List.set_cons_succ, i64_w, i32_w]
                  rfl
                refine pure_ (i := 4) (N := some 21) (v := ?_) (a' := ?_) #[true, true, true, false, true, false, false, false, false, false] rfl rfl (any_of HT_.out (by kernel_rfl)) (fun _ _ _ h => h) (Or.inl ⟨by rfl, ?_⟩) ?_ ?_
                rotate_left
                · intro w'
                  go_simp
                  with_reducible rfl
                rotate_left
                · simp only [Act.put, List.setIfInBounds_toArray, List.set_cons_zero, List.set_cons_succ, i64_w, i32_w]
                  rfl
                refine pure_ (i := 5) (N := some 22) (v := ?_) (a' := ?_) #[true, true, true, false, true, true, false, false, false, false] rfl rfl (any_of HT_.out (by kernel_rfl)) (fun _ _ _ h => h) (Or.inl ⟨by rfl, ?_⟩) ?_ ?_
                rotate_left
                · intro w'
                  go_simp
                  with_reducible rfl
                rotate_left
                · simp only [Act.put, List.setIfInBounds_toArray, List.set_cons_zero, List.set_cons_succ, i64_w, i32_w]
                  rfl
                refine pure_ (i := 6) (N := some 23) (v := ?_) (a' := ?_) #[true, true, true, false, true, true, true, false, false, false] rfl rfl (any_of HT_.out (by kernel_rfl)) (fun _ _ _ h => h) (Or.inl ⟨by rfl, ?_⟩) ?_ ?_
                rotate_left
                · intro w'
                  go_simp
                  with_reducible rfl
                rotate_left
                · simp only [Act.put, List.setIfInBounds_toArray, List.set_cons_zero, List.set_cons_succ, i64_w, i32_w]
                  rfl
                refine take_ (i := 3) (N := some 20) (v := ?_) (a' := ?_) #[true, true, true, true, true, true, true, false, false, false] rfl rfl (take_ofW HT_.out HW_.out (by kernel_rfl)) (fun _ _ _ h => h) (Or.inl ⟨by rfl, ?_⟩) hHeld ?_ ?_
                rotate_left
                · rintro w' ⟨s0, s1, s2, s3, s4, s5, s6, s7⟩
                  go_simp
                  with_reducible rfl
                rotate_left
                · simp only [Act.put, List.setIfInBounds_toArray, List.set_cons_zero, List.set_cons_succ, i64_w, i32_w]
                  rfl
                refine take_ (i := 7) (N := some 24) (v := ?_) (a' := ?_) #[true, true, true, true, true, true, true, true, false, false] rfl rfl (take_ofW HT_.out HW_.out (by kernel_rfl)) (fun _ _ _ h => h) (Or.inl ⟨by rfl, ?_⟩) hHeld ?_ ?_
                rotate_left
                · rintro w' ⟨s0, s1, s2, s3, s4, s5, s6, s7⟩
                  go_simp
                  with_reducible rfl
                rotate_left
                · simp only [Act.put, List.setIfInBounds_toArray, List.set_cons_zero, List.set_cons_succ, i64_w, i32_w]
                  rfl
                refine one_ (i := 8) (N := some 25) #[true, true, true, true, true, true, true, true, true, false] rfl rfl (one_of HT_.out (by kernel_rfl)) (by decide) (fun K hK => ?_)
                refine goes_ Try.func63 (by kernel_rfl) rfl #[.agg #[.int .i64 ((rd_T26 l0 x5_1).f0), .int .i64 ((rd_T26 l0 x5_1).f1), .int .i64 ((rd_T26 l0 x5_1).f2), .int .i64 ((rd_T26 l0 x5_1).f3)], .agg #[.int .i64 ((rd_T26 l1 x5_1).f0), .int .i64 ((rd_T26 l1 x5_1).f1), .int .i64 ((rd_T26 l1 x5_1).f2), .int .i64 ((rd_T26 l1 x5_1).f3)]] (by rfl) rfl rfl (by (try simp only [List.map_toArray, List.map_cons, List.map_nil]); first | done | rfl | (simp only [List.length_drop, List.length_take]; rfl)) ?_
                with_reducible refine (laws_eqSiphon.calls ((rd_T26 l0 x5_1).f0) ((rd_T26 l0 x5_1).f1) ((rd_T26 l0 x5_1).f2) ((rd_T26 l0 x5_1).f3) ((rd_T26 l1 x5_1).f0) ((rd_T26 l1 x5_1).f1) ((rd_T26 l1 x5_1).f2) ((rd_T26 l1 x5_1).f3) false _ A7.out).mono ?_
                rintro e w12 ⟨rfl, hb⟩
                refine ⟨_, rfl, ?_⟩
                have n0_ := Aside0.mk (below_step (by repeat (first | (with_reducible first | exact HB.out | apply below_alloc | apply pw_below_drewN | apply below_drew1) | exact HB.out)) hb)
                clear HB
                have HB := n0_
                clear n0_
                (try clear hb)
                (try clear hb2)
                (try clear hk)
                (try clear hi)
                refine hK.out _ _ ⟨((HB.out.cell (World.block_lt_of_cell? w _ hw357_0)).trans hw357_0), ((HB.out.cell (World.block_lt_of_cell? w _ hw357_1)).trans hw357_1), ((HB.out.cell (World.block_lt_of_cell? w _ hw357_2)).trans hw357_2), ((HB.out.cell (World.block_lt_of_cell? w _ hw357_3)).trans hw357_3), ((HB.out.cell (World.block_lt_of_cell? w _ hw358_0)).trans hw358_0), ((HB.out.cell (World.block_lt_of_cell? w _ hw358_1)).trans hw358_1), ((HB.out.cell (World.block_lt_of_cell? w _ hw358_2)).trans hw358_2), ((HB.out.cell (World.block_lt_of_cell? w _ hw358_3)).trans hw358_3)⟩ (fun hHeld => ?_)
                clear hK K
                refine norm_ (a' := ?_) ?_ ?_
                rotate_left
                · show Act.put _ (some 25) _ = _
                  simp only [Act.put, List.setIfInBounds_toArray, List.set_cons_zero, List.set_cons_succ, i64_w, i32_w]
                  rfl
                refine pure_ (i := 9) (N := some 26) (v := ?_) (a' := ?_) #[true, true, true, true, true, true, true, true, true, true] rfl rfl (any_of HT_.out (by kernel_rfl)) (fun _ _ _ h => h) (Or.inl ⟨by rfl, ?_⟩) ?_ ?_
                rotate_left
                · intro w'
                  go_simp
                  with_reducible rfl
                rotate_left
                · simp only [Act.put, List.setIfInBounds_toArray, List.set_cons_zero, List.set_cons_succ, i64_w, i32_w]
                  rfl
                refine done_ (done_of HT_.out (by kernel_rfl)) ?_
                try go_wp2
                go_ret
                exact ⟨by first | rfl | (simp [errW_none, errW_some] <;> rfl) | (simp [*, errW_none, errW_some] <;> rfl), by repeat (first | (with_reducible first | exact HB.out | apply below_alloc | apply pw_below_drewN | apply below_drew1) | exact HB.out)⟩
            · rw [if_neg c6] at H
              exact absurd H (by simp)
          · rw [if_neg c5] at H
            exact absurd H (by simp)
        · rw [if_neg c4] at H
          have c4b0 : decide (x5_1 < (l0.length : Int)) = false := decide_eq_false c4
          clear c4
          obtain rfl := Option.some.inj H
          go_wp2
          go_ret
          exact ⟨by first | rfl | (simp [errW_none, errW_some] <;> rfl) | (simp [*, errW_none, errW_some] <;> rfl), by repeat (first | (with_reducible first | exact HB.out | apply below_alloc | apply pw_below_drewN | apply below_drew1) | exact HB.out)⟩
  · rw [if_neg c3] at H
    have c3b0 : ((l0.length : Int) == (l1.length : Int)) = false := beq_eq_false_iff_ne.mpr c3
    have c3b1 : ((l0.length : Int) != (l1.length : Int)) = true := bne_iff_ne.mpr c3
    have c3b2 : (l0.length == l1.length) = false := by first | simpa using c3 | (simp at c3 ⊢; omega)
    obtain rfl := Option.some.inj H
    go_enter Try.func42, Try.ntmps42
    go_wp2
    go_ret
    exact ⟨by first | rfl | (simp [errW_none, errW_some] <;> rfl) | (simp [*, errW_none, errW_some] <;> rfl), by repeat (first | (with_reducible first | exact HB.out | apply below_alloc | apply pw_below_drewN | apply below_drew1) | exact HB.out)⟩

end Go.Proofs.Ytbpkfdclplcbaaa.Pr
