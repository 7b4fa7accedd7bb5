/- A row that is read under one name and may be written under another: what is read of it (V), and, if its block is younger than B, that it is a row of the call's own (R). -/
import Derived.Test.YtcalhmjnoahliaaWMore
namespace Go.Proofs.YtcalhmjnoahliaaW.PrintWords
open Go.RowKit
namespace Kd
/-- What is read (V); and its block is older than B, or the row is the call's own. -/
def U {α : Type} (d : Kd α) (e : Nat) (W : World) (B : Nat) (ok : Nat → Prop) (v : Value) (xs : List α) : Prop := V d e W B ok v xs ∧ ((∃ k, v.ownBlock = some k ∧ k < B) ∨ d.R e W B ok v xs)
/-- A row of the call's own, younger than B, as an element. -/
def os {α : Type} (e : Nat) (d : Kd α) (B : Nat) : Kd (List α) where
  sz := 1
  E := e :: d.E
  K := fun w xs cs => ∃ v, cs = [v] ∧ d.R e w B (fun _ => True) v xs
  M := fun _ _ _ _ _ => False
  K_len := by
    rintro w x cs ⟨v, rfl, _⟩
    rfl
  K_one := by
    rintro w x cs ⟨v, rfl, h⟩ u hu
    obtain ⟨A, c, rfl⟩ := R_slice h
    rw [List.mem_singleton.1 hu]
    rfl
  K_below := by
    rintro w w1 x cs hb ⟨v, rfl, h⟩
    exact ⟨v, rfl, R_below h hb⟩
  K_of_M := fun h => h.elim
  M_mono := fun _ h => h
  M_bound := fun h => h.elim
  M_move := fun _ h => h
  M_lower := fun _ h => h
section
variable {α : Type} {d : Kd α} {e base base' n m c B : Nat} {ok ok' : Nat → Prop} {w W w1 : World} {A : Option Addr} {u v v1 : Value} {xs l : List α} {cs : List Value}
theorem FK_os_R (h : d.R e W B ok (.slice A l.length c) l) : FK (os e d B) W ok l [.slice A l.length c] := fun _ hW => ⟨_, rfl, R_mono (R_step h hW) (fun _ _ => trivial)⟩
theorem FK_os_U (fr : ∀ k, (Value.slice A l.length c).ownBlock = some k → B ≤ k) (h : U d e W B ok (.slice A l.length c) l) : FK (os e d B) W ok l [.slice A l.length c] := by
  rcases h.2 with ⟨k, hk, hlt⟩ | hr
  · exact absurd (fr k hk) (by omega)
  · exact FK_os_R hr
theorem FK_os_open (h : FK (os e d B) W ok l cs) : ∃ A c, cs = [.slice A l.length c] ∧ l.length ≤ c ∧ d.R e W B (fun _ => True) (.slice A l.length c) l := by
  obtain ⟨v, rfl, hr⟩ := FK_now h
  obtain ⟨A, c, rfl⟩ := R_slice hr
  exact ⟨A, c, rfl, (R_reads' hr).2.1, hr⟩
theorem C_os {xs : List (List α)} (h : (os e d B).C w A n xs) : (Kd.slice e d).C w A n xs := ReadsRow.imp_ h (Below.refl _ _) (fun x c hp => by
  obtain ⟨v, rfl, hr⟩ := hp
  obtain ⟨A, c, rfl⟩ := R_slice hr
  exact ⟨A, c, rfl, (R_reads' hr).2.1, (R_reads' hr).2.2⟩)
theorem U_of_V (h : V d e W base ok (.slice A n c) xs) (hs : 0 < d.sz) (hn : 0 < xs.length) : U d e W W.heap.size ok (.slice A n c) xs := by
  refine ⟨h, .inl ?_⟩
  obtain ⟨hl, _, hC⟩ := V_reads' h
  obtain ⟨ad, rfl, hc⟩ := hC.2.2 hn
  obtain ⟨x, hx⟩ : ∃ x, xs[0]? = some x := ⟨xs[0], List.getElem?_eq_getElem hn⟩
  obtain ⟨cc, hcl, hK, hcell⟩ := hc 0 x hx
  have h0 : cc[0]? = some (cc[0]'(by rw [d.K_len hK]; exact hs)) := List.getElem?_eq_getElem _
  have := World.block_lt_of_cell? W _ (hcell 0 _ h0)
  exact ⟨ad.block, rfl, by cases ad; simpa [Addr.add] using this⟩
theorem U_V (h : U d e W base ok v xs) : V d e W base ok v xs := h.1
theorem U_F (h : U d e W base ok (.slice A n c) xs) : F d W ok A n xs := V_F h.1
theorem U_reads' (h : U d e W base ok (.slice A n c) xs) : n = xs.length ∧ n ≤ c ∧ d.C W A xs.length xs := V_reads' h.1
theorem U_slice (h : U d e W base ok v xs) : ∃ A c, v = .slice A xs.length c := V_slice h.1
theorem U_nil (d : Kd α) (e : Nat) (W : World) (base : Nat) (ok : Nat → Prop) : U d e W base ok (.slice none 0 0) [] := ⟨V_nil d e W base ok, .inr (R_nil d e W base ok)⟩
theorem U_mono (h : U d e W base ok v xs) (hok : ∀ k, ok k → ok' k) : U d e W base ok' v xs := ⟨V_mono h.1 hok, h.2.imp_right (fun r => R_mono r hok)⟩
theorem U_below (h : U d e W base ok v xs) (hb : Below W.heap.size W w1) : U d e w1 base ok v xs := ⟨V_below h.1 hb, h.2.imp_right (fun r => R_below r hb)⟩
theorem U_alloc (h : U d e W base ok v xs) (o : Obj) : U d e (W.alloc o) base ok v xs := ⟨V_alloc h.1 o, h.2.imp_right (fun r => R_alloc r o)⟩
theorem U_drew (h : U d e W base ok v xs) : U d e W.drew base ok v xs := ⟨V_drew h.1, h.2.imp_right (fun r => R_drew r)⟩
theorem U_drewN (h : U d e W base ok v xs) (m : Nat) : U d e (W.drewN m) base ok v xs := ⟨V_drewN h.1 m, h.2.imp_right (fun r => R_drewN r m)⟩
theorem U_far (h : U d e W base ok v xs) {p : Addr} (hok : ∀ k, ok k → k ≠ p.block) (u : Value) : U d e (W.setCell p u) base ok v xs := ⟨V_far h.1 hok u, h.2.imp_right (fun r => R_far r hok u)⟩
theorem U_afterv (h : U d e W base (fun k => ok k ∧ some k ≠ v.ownBlock) u xs) (hg : W.grownBy w1 v.ownBlock) (hat : v1.ownBlock = v.ownBlock ∨ ∃ b, v1.ownBlock = some b ∧ W.heap.size ≤ b) : U d e w1 base (fun k => ok k ∧ some k ≠ v1.ownBlock) u xs := ⟨V_afterv h.1 hg hat, h.2.imp_right (fun r => R_after r hg hat)⟩
theorem U_elder' (h : U d e W base ok v xs) (hbase : ∀ k, u.ownBlock = some k → W.heap.size ≤ k) (hb : Below W.heap.size W w1) : U d e w1 base (fun k => ok k ∧ some k ≠ u.ownBlock) v xs :=
  ⟨V_elder' h.1 hbase hb, h.2.imp_right (fun r => R_mono (R_below (R_bound r) hb) (fun k hk => ⟨hk.1, fun he => by have := hbase k he.symm; have := hk.2.2.1; omega⟩))⟩
theorem U_elderB (h : U d e W base ok v xs) (a : Nat) (ha : W.heap.size ≤ a) : U d e W base (fun k => ok k ∧ k ≠ a) v xs := ⟨V_elderB h.1 a ha, h.2.imp_right (fun r => R_elderB r a ha)⟩
theorem U_lowR (h : d.R e W base ok v xs) (hb : base' ≤ base) : U d e W base' ok v xs := ⟨R_V h, .inr (R_lower h hb)⟩
end
end Kd
end Go.Proofs.YtcalhmjnoahliaaW.PrintWords
