/- A map from rows of four levels to whole numbers that the call itself has made, and into which it lays what is not yet in it: the map's block is a function of the list of what was laid in. -/
import Derived.Test.YtbpkfdclplcbaaaMp
import Derived.ChangeKeysEq
namespace Go.Proofs.Ytbpkfdclplcbaaa.Pr
open Go.RowKit Go.Proofs.YtbpkfdclplcbaaaW.PrintWords Go.Proofs.YtbpkfdclplcbaaaW.PrintLast Go.Proofs.YtbpkfdclplcbaaaW.PrintMore
open Go.ChangeMaps (setBlock)
open Go.Maps (Keyed)

theorem mq_row84 : (84 : TypeId) < Try.prog.types.size := of_decide_eq_true (by kernel_rfl)
theorem mq_wide84 : (match Try.prog.underlying 84 with | some (.array _ _) | some (.struct _) => true | _ => false) = true := by rw [Try.underlying84]
theorem mq_K84 : Keyed Try.prog 84 := Keyed.of_law (deep_law_laid mp_laidOut (m := 3) (by omega) mq_row84 (by kernel_rfl) mq_wide84)
/-- Four levels. -/
structure L4 where
  a : S37
  b : S37
  c : S37
  d : S37
/-- The cells of four levels. -/
def avC (x : L4) : Array Value := #[.int .i64 x.a.f0, .bool x.a.f1, .int .i64 x.b.f0, .bool x.b.f1, .int .i64 x.c.f0, .bool x.c.f1, .int .i64 x.d.f0, .bool x.d.f1]
def avV (x : L4) : Value := .agg (avC x)
def lvB (x y : S37) : Bool := x.f0 == y.f0 && (x.f1 == y.f1)
def avB (x y : L4) : Bool := lvB x.a y.a && (lvB x.b y.b && (lvB x.c y.c && lvB x.d y.d))
theorem mq_cells37 : Try.prog.cellsOf 37 = 2 := by kernel_rfl
theorem mq_info37 : ∃ i, Try.prog.info? 37 = some i := info_of_underlying Try.underlying37
theorem lvB_run (x y : S37) (d : Nat) (w : World) : (Op.equalIn (d + 2) 37 (.agg #[.int .i64 x.f0, .bool x.f1]) (.agg #[.int .i64 y.f0, .bool y.f1])).run Try.prog w = .ok (lvB x y) w := by
  refine eqA_of Try.underlying37 (by kernel_rfl) ?_
  refine eqf_cons (by rfl) (by go_simp; rfl) (by go_simp; rfl) (by simp [Op.equalIn, run_underlying Try.underlying3]) ?_
  refine eqf_last (by rfl) (by go_simp; rfl) (by go_simp; rfl) (by simp [Op.equalIn, run_underlying Try.underlying4])
theorem av_eq (x y : L4) (w : World) : (Op.equal 84 (avV x) (avV y)).run Try.prog w = .ok (avB x y) w := by
  obtain ⟨i, hi⟩ := mq_info37
  unfold Op.equal Op.maxDepth avV
  rw [run_equalIn_array (P := Try.prog) w 9999 _ _ Try.underlying84 hi]
  have p (z : L4) : (part 37 (avC z) 0).run Try.prog w = .ok (.agg #[.int .i64 z.a.f0, .bool z.a.f1]) w ∧ (part 37 (avC z) 2).run Try.prog w = .ok (.agg #[.int .i64 z.b.f0, .bool z.b.f1]) w ∧ (part 37 (avC z) 4).run Try.prog w = .ok (.agg #[.int .i64 z.c.f0, .bool z.c.f1]) w ∧ (part 37 (avC z) 6).run Try.prog w = .ok (.agg #[.int .i64 z.d.f0, .bool z.d.f1]) w := by
    unfold avC
    refine ⟨?_, ?_, ?_, ?_⟩ <;> go_simp <;> rfl
  obtain ⟨p0, p1, p2, p3⟩ := p x
  obtain ⟨q0, q1, q2, q3⟩ := p y
  have e0 := lvB_run x.a y.a 9997 w
  have e1 := lvB_run x.b y.b 9997 w
  have e2 := lvB_run x.c y.c 9997 w
  have e3 := lvB_run x.d y.d 9997 w
  unfold avB
  revert e0 e1 e2 e3
  generalize lvB x.a y.a = b0, lvB x.b y.b = b1, lvB x.c y.c = b2, lvB x.d y.d = b3
  intro e0 e1 e2 e3
  rw [mq_cells37, show List.range 4 = [0, 1, 2, 3] from rfl]
  cases b0 <;> cases b1 <;> cases b2 <;> cases b3 <;> simp [Op.eqItems, p0, p1, p2, p3, q0, q1, q2, q3, e0, e1, e2, e3]
/-- Its numbers are whole numbers of the machine. -/
def avW (x : L4) : Bool := (Lit.int .i64 x.a.f0).wf && ((Lit.int .i64 x.b.f0).wf && ((Lit.int .i64 x.c.f0).wf && (Lit.int .i64 x.d.f0).wf))
theorem av_key (x : L4) (hw : avW x = true) : ∃ kl, keyOf Try.prog 84 (avV x) = some kl := by
  unfold avW at hw
  simp only [Bool.and_eq_true] at hw
  obtain ⟨w0, w1, w2, w3⟩ := hw
  have h1 : Try.prog.keyType 84 = true := by kernel_rfl
  have c84 : Try.prog.cellsOf 84 = 8 := by kernel_rfl
  have h2 : (avV x).formed Try.prog 84 = true := by
    simp [Value.formed, avV, avC, Try.underlying84, c84]
  obtain ⟨d, hd⟩ : ∃ d, Try.prog.types.size = d + 3 := ⟨Try.prog.types.size - 3, by have : 3 < Try.prog.types.size := of_decide_eq_true (by kernel_rfl); omega⟩
  have c3 : Try.prog.cellsOf 3 = 1 := by kernel_rfl
  have c4 : Try.prog.cellsOf 4 = 1 := by kernel_rfl
  have c37 := mq_cells37
  have h3 : ∃ ls, Try.prog.keyLits (Try.prog.types.size + 1) 84 (avV x).cells.toList = some ls := by
    rw [hd]
    simp [Program.keyLits, avV, avC, Value.cells, Try.underlying84, Try.underlying37, Try.underlying3, Try.underlying4, c3, c4, c37, c84, w0, w1, w2, w3, show List.range 4 = [0, 1, 2, 3] from rfl]
  obtain ⟨ls, h3⟩ := h3
  exact ⟨.string (keyBytes ls), by unfold keyOf; rw [Try.underlying84]; simp only [h1, h2, Bool.and_self, if_true, h3, Option.map_some]⟩
/-- The entries: in the order in which they were laid in. -/
def mqE : Nat → List (L4 × Int) → List MapEntry
  | _, [] => []
  | i, (x, n) :: r => ⟨avV x, .int .i64 n, i⟩ :: mqE (i + 1) r
def mqObj (m : List (L4 × Int)) : Obj := .map (mqE 0 m).toArray m.length
/-- What is found, and where. -/
def mqLook (x : L4) : Nat → List (L4 × Int) → Option (Nat × Int)
  | _, [] => none
  | j, (y, n) :: r => if avB x y = true then some (j, n) else mqLook x (j + 1) r
def mqGet (x : L4) (m : List (L4 × Int)) : Option Int := (mqLook x 0 m).map (·.2)
theorem mq_asking (x : L4) (w : World) : ∀ (m : List (L4 × Int)) (i j : Nat), (Instr.findAsking 84 (avV x) (mqE i m) j).run Try.prog w = .ok ((mqLook x j m).map fun p => (p.1, .int .i64 p.2)) w
  | [], _, _ => by simp [Instr.findAsking, mqE, mqLook]
  | (y, n) :: r, i, j => by
    have ih := mq_asking x w r (i + 1) (j + 1)
    simp only [mqE, mqLook]
    by_cases h : avB x y = true
    · rw [if_pos h]
      have e := av_eq x y w
      rw [h] at e
      simp [Instr.findAsking, e, Result.andThen]
    · rw [if_neg h]
      have e := av_eq x y w
      rw [Bool.eq_false_iff.mpr h] at e
      simp [Instr.findAsking, e, Result.andThen]
      exact ih
theorem mq_find (x : L4) (w : World) (m : List (L4 × Int)) : (Instr.findKey 84 (avV x) (mqE 0 m)).run Try.prog w = .ok ((mqLook x 0 m).map fun p => (p.1, .int .i64 p.2)) w := by
  cases m with
  | nil => simp [Instr.findKey, run_underlying Try.underlying84, mqE, Instr.findNow, mqLook, Result.andThen]
  | cons p r =>
    obtain ⟨y, n⟩ := p
    have := mq_asking x w ((y, n) :: r) 0 0
    simp [Instr.findKey, run_underlying Try.underlying84, mqE, Instr.findNow, Instr.sameNow, Result.andThen, avV]
    simpa [mqE, avV] using this
theorem mq_look {w : World} {b : Nat} {m : List (L4 × Int)} (hb : w.heap[b]? = some (mqObj m)) (x : L4) (hw : avW x = true) :
    (Instr.lookup 85 (.map (some b)) (avV x) true).run Try.prog w = .ok (.tuple #[.int .i64 ((mqGet x m).getD 0), .bool (mqGet x m).isSome]) w := by
  obtain ⟨kl, hk⟩ := av_key x hw
  have hz : (zeroValue 3).run Try.prog w = .ok (.int .i64 0) w := by go_simp
  have hf := mq_find x w m
  unfold mqGet
  cases hl : mqLook x 0 m with
  | none =>
    rw [hl] at hf
    simp [Instr.lookup, run_underlying Try.underlying85, MapKept.run_getObj_map hb, mq_K84.check w _ hk, hf, hz, Result.andThen]
  | some p =>
    rw [hl] at hf
    simp [Instr.lookup, run_underlying Try.underlying85, MapKept.run_getObj_map hb, mq_K84.check w _ hk, hf, Result.andThen]
theorem mqE_push (x : L4) (n : Int) : ∀ (m : List (L4 × Int)) (i : Nat), mqE i (m ++ [(x, n)]) = mqE i m ++ [⟨avV x, .int .i64 n, i + m.length⟩]
  | [], i => by simp [mqE]
  | (y, k) :: r, i => by
    have := mqE_push x n r (i + 1)
    simp [mqE, this]
    omega
theorem mq_put {w : World} {b : Nat} {m : List (L4 × Int)} (hb : w.heap[b]? = some (mqObj m)) (x : L4) (hw : avW x = true) (n : Int) (hn : mqGet x m = none) :
    (Instr.mapUpdate 85 (.map (some b)) (avV x) (.int .i64 n)).run Try.prog w = .ok () (setBlock w b (mqObj (m ++ [(x, n)]))) := by
  obtain ⟨kl, hk⟩ := av_key x hw
  have hf := mq_find x w m
  have hl : mqLook x 0 m = none := by
    unfold mqGet at hn
    simpa using hn
  rw [hl] at hf
  have hp := mqE_push x n m 0
  have he : mqObj (m ++ [(x, n)]) = .map ((mqE 0 m).toArray.push ⟨avV x, .int .i64 n, m.length⟩) (m.length + 1) := by
    unfold mqObj
    rw [hp]
    simp
  rw [he]
  have hb' : w.heap[b]? = some (.map (mqE 0 m).toArray m.length) := hb
  simp [Instr.mapUpdate, run_underlying Try.underlying85, MapKept.run_getObj_map hb', mq_K84.check w _ hk, hf, MapKept.run_setObj_map _ hb', Result.andThen, setBlock]
theorem mq_make (w : World) : (Instr.makeMap 85 none).run Try.prog w = .ok (.map (some w.heap.size)) (w.alloc (mqObj [])) := by
  go_simp
  rfl
section
variable {ops : Array Oper} {rest : List Oper} {o : Oper} {a : Act} {Q : Exit → Act → World → Prop}
/-- A map is made. -/
theorem mq_event {W : World} (hgd : o.guard = none) {N : Tmp} (_hd : o.dst = some N)
    (ho : o.op = .makeMap 85 none)
    (h : ∀ g, g = W.heap.size → ∀ w1, w1.heap[g]? = some (mqObj []) → Below W.heap.size W w1 → wpList Try.prog ops Q rest (a.put o.dst (.map (some g))) w1) : wpList Try.prog ops Q (o :: rest) a W :=
  Kd.event_run hgd (show (execOp a.eval o).run Try.prog W = .ok (.value (.map (some W.heap.size))) (W.alloc (mqObj [])) by simp [execOp, ho, mq_make, Result.andThen]) (h _ rfl _ (blk_new W _) (below_alloc (Below.refl _ _) _))
/-- What is not yet in it is laid in. -/
theorem mq_put_event {W : World} (hgd : o.guard = none) (hN : o.dst = none) {mo xo vo : Operand} (ho : o.op = .mapUpdate 85 mo xo vo ∨ o.op = .insert 85 mo xo vo) {g : Nat} {m : List (L4 × Int)} (x : L4) (n : Int)
    (hm : a.eval mo = .map (some g)) (hx : a.eval xo = avV x) (hv : a.eval vo = .int .i64 n) (hb : W.heap[g]? = some (mqObj m)) (hw : avW x = true) (hget : mqGet x m = none)
    (h : ∀ w1, w1.heap[g]? = some (mqObj (m ++ [(x, n)])) → W.grownBy w1 (some g) → wpList Try.prog ops Q rest a w1) : wpList Try.prog ops Q (o :: rest) a W := by
  refine wpList_plain hgd fun K' hK' => ?_
  have hrun := mq_put hb x hw n hget
  have hg : W.grownBy (setBlock W g (mqObj (m ++ [(x, n)]))) (some g) := ⟨rfl, rfl, rfl, by simp [setBlock], fun i _ hi => Go.ChangeMaps.heap_setBlock_other hb _ (fun e => hi (by rw [e]))⟩
  have hs : (setBlock W g (mqObj (m ++ [(x, n)]))).heap[g]? = some (mqObj (m ++ [(x, n)])) := Go.ChangeMaps.heap_setBlock_same hb _
  have he : (execOp a.eval o).run Try.prog W = .ok .skip (setBlock W g (mqObj (m ++ [(x, n)]))) := by
    rcases ho with ho | ho <;> simp [execOp, ho, hm, hx, hv, hrun, Result.andThen]
  unfold Oper.wp
  rw [he]
  show K' (a.put o.dst undef) _
  rw [hN]
  exact hK' _ _ (h _ hs hg)
end
end Go.Proofs.Ytbpkfdclplcbaaa.Pr
