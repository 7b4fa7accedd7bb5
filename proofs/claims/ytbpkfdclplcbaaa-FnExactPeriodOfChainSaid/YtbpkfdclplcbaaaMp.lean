/- A map from levels to whole numbers that the call itself has made, and into which it lays what is not yet in it: the map's block is a function of the list of what was laid in. -/
import Derived.Test.YtbpkfdclplcbaaaPr0
import Derived.Test.YtbpkfdclplcbaaaPr1
import Derived.Maps.OwnSet
import Derived.DeepKeys4
namespace Go.Proofs.Ytbpkfdclplcbaaa.Pr
open Go.RowKit Go.Proofs.YtbpkfdclplcbaaaW.PrintWords Go.Proofs.YtbpkfdclplcbaaaW.PrintLast Go.Proofs.YtbpkfdclplcbaaaW.PrintMore
open Go.ChangeMaps (setBlock)
open Go.Maps (Keyed)

theorem mp_laidOut : laidOutB Try.prog = true := by kernel_rfl
theorem mp_row37 : (37 : TypeId) < Try.prog.types.size := of_decide_eq_true (by kernel_rfl)
theorem mp_wide37 : (match Try.prog.underlying 37 with | some (.array _ _) | some (.struct _) => true | _ => false) = true := by rw [Try.underlying37]
theorem mp_K37 : Keyed Try.prog 37 := Keyed.of_law (deep_law_laid mp_laidOut (m := 2) (by omega) mp_row37 (by kernel_rfl) mp_wide37)
/-- A level as a key. -/
def lvV (x : S37) : Value := .agg #[.int .i64 x.f0, .bool x.f1]
theorem lv_eq (x y : S37) (w : World) : (Op.equal 37 (lvV x) (lvV y)).run Try.prog w = .ok (x.f0 == y.f0 && (x.f1 == y.f1)) w := by
  refine eqA_of Try.underlying37 (by kernel_rfl) ?_
  refine eqf_cons (by rfl) (by go_simp; rfl) (by go_simp; rfl) (by go_simp) ?_
  refine eqf_last (by rfl) (by go_simp; rfl) (by go_simp; rfl) (by go_simp)
theorem lv_key (x : S37) (hw : (Lit.int .i64 x.f0).wf = true) : ∃ kl, keyOf Try.prog 37 (lvV x) = some kl := by
  have h1 : Try.prog.keyType 37 = true := by kernel_rfl
  have h2 : (lvV x).formed Try.prog 37 = true := by
    have : Try.prog.cellsOf 37 = 2 := by kernel_rfl
    simp [Value.formed, lvV, Try.underlying37, this]
  obtain ⟨d, hd⟩ : ∃ d, Try.prog.types.size = d + 2 := ⟨Try.prog.types.size - 2, by have : 2 < Try.prog.types.size := of_decide_eq_true (by kernel_rfl); omega⟩
  have c3 : Try.prog.cellsOf 3 = 1 := by kernel_rfl
  have c4 : Try.prog.cellsOf 4 = 1 := by kernel_rfl
  have c37 : Try.prog.cellsOf 37 = 2 := by kernel_rfl
  have h3 : ∃ ls, Try.prog.keyLits (Try.prog.types.size + 1) 37 (lvV x).cells.toList = some ls := by
    rw [hd]
    simp [Program.keyLits, lvV, Value.cells, Try.underlying37, Try.underlying3, Try.underlying4, c3, c4, c37, hw]
  obtain ⟨ls, h3⟩ := h3
  exact ⟨.string (keyBytes ls), by unfold keyOf; rw [Try.underlying37]; simp only [h1, h2, Bool.and_self, if_true, h3, Option.map_some]⟩
/-- The entries: in the order in which they were laid in. -/
def mpE : Nat → List (S37 × Int) → List MapEntry
  | _, [] => []
  | i, (x, n) :: r => ⟨lvV x, .int .i64 n, i⟩ :: mpE (i + 1) r
def mpObj (m : List (S37 × Int)) : Obj := .map (mpE 0 m).toArray m.length
/-- What is found, and where. -/
def mpLook (x : S37) : Nat → List (S37 × Int) → Option (Nat × Int)
  | _, [] => none
  | j, (y, n) :: r => if (x.f0 == y.f0 && (x.f1 == y.f1)) = true then some (j, n) else mpLook x (j + 1) r
def mpGet (x : S37) (m : List (S37 × Int)) : Option Int := (mpLook x 0 m).map (·.2)
theorem mp_asking (x : S37) (w : World) : ∀ (m : List (S37 × Int)) (i j : Nat), (Instr.findAsking 37 (lvV x) (mpE i m) j).run Try.prog w = .ok ((mpLook x j m).map fun p => (p.1, .int .i64 p.2)) w
  | [], _, _ => by simp [Instr.findAsking, mpE, mpLook]
  | (y, n) :: r, i, j => by
    have ih := mp_asking x w r (i + 1) (j + 1)
    simp only [mpE, mpLook]
    by_cases h : (x.f0 == y.f0 && (x.f1 == y.f1)) = true
    · rw [if_pos h]
      have e := lv_eq x y w
      rw [h] at e
      simp [Instr.findAsking, e, Result.andThen]
    · rw [if_neg h]
      have e := lv_eq x y w
      rw [Bool.eq_false_iff.mpr h] at e
      simp [Instr.findAsking, e, Result.andThen]
      exact ih
theorem mp_find (x : S37) (w : World) (m : List (S37 × Int)) : (Instr.findKey 37 (lvV x) (mpE 0 m)).run Try.prog w = .ok ((mpLook x 0 m).map fun p => (p.1, .int .i64 p.2)) w := by
  cases m with
  | nil => simp [Instr.findKey, run_underlying Try.underlying37, mpE, Instr.findNow, mpLook, Result.andThen]
  | cons p r =>
    obtain ⟨y, n⟩ := p
    have := mp_asking x w ((y, n) :: r) 0 0
    simp [Instr.findKey, run_underlying Try.underlying37, mpE, Instr.findNow, Instr.sameNow, Result.andThen, lvV]
    simpa [mpE, lvV] using this
theorem mp_look {w : World} {b : Nat} {m : List (S37 × Int)} (hb : w.heap[b]? = some (mpObj m)) (x : S37) (hw : (Lit.int .i64 x.f0).wf = true) :
    (Instr.lookup 88 (.map (some b)) (lvV x) true).run Try.prog w = .ok (.tuple #[.int .i64 ((mpGet x m).getD 0), .bool (mpGet x m).isSome]) w := by
  obtain ⟨kl, hk⟩ := lv_key x hw
  have hz : (zeroValue 3).run Try.prog w = .ok (.int .i64 0) w := by go_simp
  have hf := mp_find x w m
  unfold mpGet
  cases hl : mpLook x 0 m with
  | none =>
    rw [hl] at hf
    simp [Instr.lookup, run_underlying Try.underlying88, MapKept.run_getObj_map hb, mp_K37.check w _ hk, hf, hz, Result.andThen]
  | some p =>
    rw [hl] at hf
    simp [Instr.lookup, run_underlying Try.underlying88, MapKept.run_getObj_map hb, mp_K37.check w _ hk, hf, Result.andThen]
theorem mpE_push (x : S37) (n : Int) : ∀ (m : List (S37 × Int)) (i : Nat), mpE i (m ++ [(x, n)]) = mpE i m ++ [⟨lvV x, .int .i64 n, i + m.length⟩]
  | [], i => by simp [mpE]
  | (y, k) :: r, i => by
    have := mpE_push x n r (i + 1)
    simp [mpE, this]
    omega
theorem mp_put {w : World} {b : Nat} {m : List (S37 × Int)} (hb : w.heap[b]? = some (mpObj m)) (x : S37) (hw : (Lit.int .i64 x.f0).wf = true) (n : Int) (hn : mpGet x m = none) :
    (Instr.mapUpdate 88 (.map (some b)) (lvV x) (.int .i64 n)).run Try.prog w = .ok () (setBlock w b (mpObj (m ++ [(x, n)]))) := by
  obtain ⟨kl, hk⟩ := lv_key x hw
  have hf := mp_find x w m
  have hl : mpLook x 0 m = none := by
    unfold mpGet at hn
    simpa using hn
  rw [hl] at hf
  have hp := mpE_push x n m 0
  have he : mpObj (m ++ [(x, n)]) = .map ((mpE 0 m).toArray.push ⟨lvV x, .int .i64 n, m.length⟩) (m.length + 1) := by
    unfold mpObj
    rw [hp]
    simp
  rw [he]
  have hb' : w.heap[b]? = some (.map (mpE 0 m).toArray m.length) := hb
  simp [Instr.mapUpdate, run_underlying Try.underlying88, MapKept.run_getObj_map hb', mp_K37.check w _ hk, hf, MapKept.run_setObj_map _ hb', Result.andThen, setBlock]
theorem mp_make (w : World) : (Instr.makeMap 88 none).run Try.prog w = .ok (.map (some w.heap.size)) (w.alloc (mpObj [])) := by
  go_simp
  rfl
/-- A block keeps what it holds when a cell of another block is written: whatever it holds. -/
theorem blk_far {w : World} {g : Nat} {o : Obj} (h : w.heap[g]? = some o) {p : Addr} (hp : g ≠ p.block) (u : Value) : (w.setCell p u).heap[g]? = some o := (Below.heap_setCell w p u g hp).trans h
theorem R_mapgrown {α : Type} {d : Kd α} {e base g : Nat} {ok : Nat → Prop} {w w1 : World} {v : Value} {xs : List α} {m : List (S37 × Int)} (h : d.R e w base ok v xs) (hb : w.heap[g]? = some (mpObj m)) (hg : w.grownBy w1 (some g)) : d.R e w1 base ok v xs :=
  Kd.R_mono (Kd.R_grown (Kd.R_bound h) hg (fun k hk he => by
    obtain ⟨_, _, _, q, _, cells, hc⟩ := hk
    obtain rfl := Option.some.inj he
    rw [hb] at hc
    unfold mpObj at hc
    cases hc)) (fun _ hk => hk.1)
/-- A row of the call's own does not lie in a map's block. -/
theorem mp_ne {α : Type} {d : Kd α} {e base g : Nat} {ok : Nat → Prop} {w : World} {v : Value} {xs : List α} {m : List (S37 × Int)} (h : d.R e w base ok v xs) (hb : w.heap[g]? = some (mpObj m)) : some g ≠ v.ownBlock := fun he => by
  obtain ⟨_, _, _, q, _, cells, hc⟩ := (Kd.R_bound h).1 g he.symm
  rw [hb] at hc
  unfold mpObj at hc
  cases hc
section
variable {ops : Array Oper} {rest : List Oper} {o : Oper} {a : Act} {Q : Exit → Act → World → Prop}
/-- A map is made. -/
theorem mp_event {W : World} (hgd : o.guard = none) {N : Tmp} (_hd : o.dst = some N)
    (ho : o.op = .makeMap 88 none)
    (h : ∀ g, g = W.heap.size → ∀ w1, w1.heap[g]? = some (mpObj []) → Below W.heap.size W w1 → wpList Try.prog ops Q rest (a.put o.dst (.map (some g))) w1) : wpList Try.prog ops Q (o :: rest) a W :=
  Kd.event_run hgd (show (execOp a.eval o).run Try.prog W = .ok (.value (.map (some W.heap.size))) (W.alloc (mpObj [])) by simp [execOp, ho, mp_make, Result.andThen]) (h _ rfl _ (blk_new W _) (below_alloc (Below.refl _ _) _))
/-- What is not yet in it is laid in. -/
theorem mp_put_event {W : World} (hgd : o.guard = none) (hN : o.dst = none) {mo xo vo : Operand} (ho : o.op = .mapUpdate 88 mo xo vo ∨ o.op = .insert 88 mo xo vo) {g : Nat} {m : List (S37 × Int)} (x : S37) (n : Int)
    (hm : a.eval mo = .map (some g)) (hx : a.eval xo = .agg #[.int .i64 x.f0, .bool x.f1]) (hv : a.eval vo = .int .i64 n) (hb : W.heap[g]? = some (mpObj m)) (hw : (Lit.int .i64 x.f0).wf = true) (hget : mpGet x m = none)
    (h : ∀ w1, w1.heap[g]? = some (mpObj (m ++ [(x, n)])) → W.grownBy w1 (some g) → wpList Try.prog ops Q rest a w1) : wpList Try.prog ops Q (o :: rest) a W := by
  refine wpList_plain hgd fun K' hK' => ?_
  have hrun := mp_put hb x hw n hget
  have hx' : a.eval xo = lvV x := hx
  have hg : W.grownBy (setBlock W g (mpObj (m ++ [(x, n)]))) (some g) := ⟨rfl, rfl, rfl, by simp [setBlock], fun i _ hi => Go.ChangeMaps.heap_setBlock_other hb _ (fun e => hi (by rw [e]))⟩
  have hs : (setBlock W g (mpObj (m ++ [(x, n)]))).heap[g]? = some (mpObj (m ++ [(x, n)])) := Go.ChangeMaps.heap_setBlock_same hb _
  have he : (execOp a.eval o).run Try.prog W = .ok .skip (setBlock W g (mpObj (m ++ [(x, n)]))) := by
    rcases ho with ho | ho <;> simp [execOp, ho, hm, hx', hv, hrun, Result.andThen]
  unfold Oper.wp
  rw [he]
  show K' (a.put o.dst undef) _
  rw [hN]
  exact hK' _ _ (h _ hs hg)
end
end Go.Proofs.Ytbpkfdclplcbaaa.Pr
