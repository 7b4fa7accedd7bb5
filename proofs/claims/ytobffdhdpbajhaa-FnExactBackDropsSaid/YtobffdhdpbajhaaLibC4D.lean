/- Buckets as digits: the number that a list of what is held stands for, and that only its rest by the product of all caps counts. Caps are 1 to 6 numbers from 2 to 60. -/
import Derived.Test.YtobffdhdpbajhaaLibA
import Derived.Test.YtobffdhdpbajhaaLibC4
import Derived.Test.YtobffdhdpbajhaaPr11
namespace Go.Proofs.Ytobffdhdpbajhaa.Pure
open Go.RowKit Go.Proofs.Ytobffdhdpbajhaa.Pr Go.Proofs.YtobffdhdpbajhaaW.PrintWords Go.Proofs.YtobffdhdpbajhaaW.PrintLast
set_option linter.unusedVariables false
set_option linter.unusedSimpArgs false

def pr : List Int → Int
  | [] => 1
  | c :: cs => c * pr cs
theorem pr_bd : ∀ (l : List Int), (∀ x ∈ l, 2 ≤ x ∧ x ≤ 60) → 1 ≤ pr l ∧ pr l ≤ 60 ^ l.length
  | [], _ => by simp [pr]
  | c :: cs, h => by
    have hc := h c (by simp)
    have ih := pr_bd cs (fun x hx => h x (by simp [hx]))
    have h1 : 1 * 1 ≤ c * pr cs := Int.mul_le_mul (by omega) ih.1 (by omega) (by omega)
    have h2 : c * pr cs ≤ 60 * 60 ^ cs.length := Int.mul_le_mul hc.2 ih.2 (by omega) (by omega)
    simp only [pr, List.length_cons]
    rw [show (60 : Int) ^ (cs.length + 1) = 60 * 60 ^ cs.length by rw [Int.pow_succ]; omega]
    omega
theorem pow60 (n : Nat) (h : n ≤ 6) : (60 : Int) ^ n ≤ 46656000000 := by
  have : n = 0 ∨ n = 1 ∨ n = 2 ∨ n = 3 ∨ n = 4 ∨ n = 5 ∨ n = 6 := by omega
  rcases this with rfl | rfl | rfl | rfl | rfl | rfl | rfl <;> decide
theorem wprod_eq : ∀ (l : List Int) (acc : Int), 0 ≤ acc → acc * 60 ^ l.length ≤ 46656000000 → (∀ x ∈ l, 2 ≤ x ∧ x ≤ 60) → wprod acc l = acc * pr l
  | [], acc, _, _, _ => by simp [wprod, pr]
  | c :: cs, acc, h0, h1, h => by
    have hc := h c (by simp)
    rw [List.length_cons, show (60 : Int) ^ (cs.length + 1) = 60 * 60 ^ cs.length by rw [Int.pow_succ]; omega] at h1
    have hp : (0 : Int) < 60 ^ cs.length := Int.pow_pos (by omega)
    have a1 : acc * c ≤ acc * 60 := Int.mul_le_mul_of_nonneg_left hc.2 h0
    have a2 : 0 ≤ acc * c := Int.mul_nonneg h0 (by omega)
    have a3 : acc * 60 * 1 ≤ acc * 60 * 60 ^ cs.length := Int.mul_le_mul_of_nonneg_left hp (by omega)
    have a4 : acc * c * 60 ^ cs.length ≤ acc * 60 * 60 ^ cs.length := Int.mul_le_mul_of_nonneg_right a1 (by omega)
    rw [← Int.mul_assoc] at h1
    have hw : wrap64 (acc * c) = acc * c := w64 (by omega) (by omega)
    have ih := wprod_eq cs (acc * c) a2 (by omega) (fun x hx => h x (by simp [hx]))
    unfold wprod at ih ⊢
    simp only [List.foldl_cons, hw, ih, pr, Int.mul_assoc]
theorem round_pr {l : List Int} (h : capsB l = true) : wprod 1 l = pr l ∧ 1 ≤ pr l ∧ pr l ≤ 46656000000 := by
  obtain ⟨h1, h2, h3⟩ := capsB_get h
  have hp := pow60 l.length h2
  have hb := pr_bd l h3
  have e := wprod_eq l 1 (by omega) (by omega) h3
  rw [Int.one_mul] at e
  exact ⟨e, hb.1, by omega⟩

/-- The number that b stands for. -/
def valD : List Int → List Int → Int
  | c :: cs, h :: hs => h + c * valD cs hs
  | _, _ => 0
theorem valD_bd : ∀ (a b : List Int), a.length = b.length → (∀ x ∈ a, 2 ≤ x ∧ x ≤ 60) → (∀ m : Nat, m < a.length → 0 ≤ rd b (m : Int) ∧ rd b (m : Int) ≤ rd a (m : Int) - 1) → 0 ≤ valD a b ∧ valD a b ≤ pr a - 1
  | [], [], _, _, _ => by simp [valD, pr]
  | c :: cs, h :: hs, hl, hc, hd => by
    have c0 := hc c (by simp)
    have d0 := hd 0 (by simp)
    have e0 : rd (h :: hs) ((0 : Nat) : Int) = h := rfl
    have e1 : rd (c :: cs) ((0 : Nat) : Int) = c := rfl
    rw [e0, e1] at d0
    have ih := valD_bd cs hs (by simpa using hl) (fun x hx => hc x (by simp [hx])) (fun m hm => by
      have := hd (m + 1) (by simpa using hm)
      have e2 : rd (h :: hs) ((m + 1 : Nat) : Int) = rd hs (m : Int) := by simp [rd, show ((m : Int) + 1).toNat = m + 1 by omega]
      have e3 : rd (c :: cs) ((m + 1 : Nat) : Int) = rd cs (m : Int) := by simp [rd, show ((m : Int) + 1).toNat = m + 1 by omega]
      rw [e2, e3] at this
      exact this)
    have h1 : 0 ≤ c * valD cs hs := Int.mul_nonneg (by omega) ih.1
    have h2 : c * valD cs hs ≤ c * (pr cs - 1) := Int.mul_le_mul_of_nonneg_left ih.2 (by omega)
    rw [Int.mul_sub, Int.mul_one] at h2
    simp only [valD, pr]
    omega
  | [], _ :: _, hl, _, _ => by simp at hl
  | _ :: _, [], hl, _, _ => by simp at hl
theorem drop_mem {a : List Int} {i : Nat} {x : Int} (h : x ∈ a.drop i) : x ∈ a := List.mem_of_mem_drop h
theorem rd_drop (a : List Int) (i m : Nat) : rd (a.drop i) (m : Int) = rd a ((i + m : Nat) : Int) := by
  simp [rd, show ((i : Int) + (m : Int)).toNat = i + m by omega]
theorem numb_val (a b : List Int) (hab : a.length = b.length) (hc : ∀ x ∈ a, 2 ≤ x ∧ x ≤ 60) (hd : ∀ m : Nat, m < a.length → 0 ≤ rd b (m : Int) ∧ rd b (m : Int) ≤ rd a (m : Int) - 1) (h6 : a.length ≤ 6) :
    ∀ i : Nat, i ≤ a.length → numb a b i (valD (a.drop i) (b.drop i)) = valD a b
  | 0, _ => rfl
  | i + 1, hi => by
    have ih := numb_val a b hab hc hd h6 i (by omega)
    have ea := drop_rd a i (by omega)
    have eb := drop_rd b i (by omega)
    have ev : valD (a.drop i) (b.drop i) = rd b (i : Int) + rd a (i : Int) * valD (a.drop (i + 1)) (b.drop (i + 1)) := by rw [ea, eb, valD]
    have bd1 := valD_bd (a.drop (i + 1)) (b.drop (i + 1)) (by simp; omega) (fun x hx => hc x (drop_mem hx)) (fun m hm => by
      rw [rd_drop, rd_drop]
      exact hd (i + 1 + m) (by simp at hm; omega))
    have p1 := pr_bd (a.drop (i + 1)) (fun x hx => hc x (drop_mem hx))
    have q1 := pow60 (a.drop (i + 1)).length (by simp; omega)
    have c0 := hc _ (rd_mem a i (by omega))
    have d0 := hd i (by omega)
    have m1 : 0 ≤ rd a (i : Int) * valD (a.drop (i + 1)) (b.drop (i + 1)) := Int.mul_nonneg (by omega) bd1.1
    have m2 : rd a (i : Int) * valD (a.drop (i + 1)) (b.drop (i + 1)) ≤ 60 * valD (a.drop (i + 1)) (b.drop (i + 1)) := Int.mul_le_mul_of_nonneg_right c0.2 bd1.1
    have e : wrap64 (wrap64 (valD (a.drop (i + 1)) (b.drop (i + 1)) * rd a (i : Int)) + rd b (i : Int)) = valD (a.drop i) (b.drop i) := by
      rw [ev, Int.mul_comm (valD _ _), w64 (i := rd a (i : Int) * _) (by omega) (by omega), w64 (by omega) (by omega)]
      omega
    unfold numb
    rw [e]
    exact ih
theorem numb_ok {a b : List Int} (h : heldB a b = true) : numb a b a.length 0 = valD a b ∧ 0 ≤ valD a b ∧ valD a b ≤ pr a - 1 := by
  obtain ⟨h1, h2, h3⟩ := heldB_get h
  obtain ⟨c1, c2, c3⟩ := capsB_get h1
  have e := numb_val a b h2 c3 h3 c2 a.length (by omega)
  rw [drop_all a a.length (by omega), drop_all b a.length (by omega)] at e
  exact ⟨e, valD_bd a b h2 c3 h3⟩
theorem emod_le_self (x p : Int) (h0 : 0 ≤ x) (hp : 0 < p) : x % p ≤ x := by
  have h1 := Int.mul_ediv_add_emod x p
  have h2 : 0 ≤ p * (x / p) := Int.mul_nonneg (by omega) (Int.ediv_nonneg h0 (by omega))
  omega
theorem mod_div (x c p : Int) (hx : 0 ≤ x) (hc : 0 < c) (hp : 0 < p) : x % (c * p) / c = x / c % p := by
  obtain ⟨X, rfl⟩ := Int.eq_ofNat_of_zero_le hx
  obtain ⟨C, rfl⟩ := Int.eq_ofNat_of_zero_le (show 0 ≤ c by omega)
  obtain ⟨Q, rfl⟩ := Int.eq_ofNat_of_zero_le (show 0 ≤ p by omega)
  have := Nat.mod_mul_right_div_self X C Q
  exact_mod_cast this
theorem fall_mod : ∀ (l : List Int) (x : Int), 0 ≤ x → x ≤ 1000000000000 → (∀ c ∈ l, 2 ≤ c ∧ c ≤ 60) → (fall x l).1 = (fall (x % pr l) l).1
  | [], _, _, _, _ => rfl
  | c :: cs, x, h0, h1, h => by
    have hc := h c (by simp)
    have hp := pr_bd cs (fun y hy => h y (by simp [hy]))
    have hcp : 0 < c * pr cs := Int.mul_pos (by omega) (by omega)
    have y0 := Int.emod_nonneg x (show c * pr cs ≠ 0 by omega)
    have y1 := emod_le_self x (c * pr cs) h0 hcp
    have t1 : Int.tmod x c = x % c := Int.tmod_eq_emod_of_nonneg h0
    have t2 : Int.tmod (x % (c * pr cs)) c = x % c := by
      rw [Int.tmod_eq_emod_of_nonneg y0, Int.emod_emod_of_dvd x (Int.dvd_mul_right c (pr cs))]
    have d1 : Int.tdiv x c = x / c := Int.tdiv_eq_ediv_of_nonneg h0
    have d2 : Int.tdiv (x % (c * pr cs)) c = x / c % pr cs := by
      rw [Int.tdiv_eq_ediv_of_nonneg y0, mod_div x c (pr cs) h0 (by omega) (by omega)]
    have q0 : 0 ≤ x / c := Int.ediv_nonneg h0 (by omega)
    have q1 : x / c ≤ x := Int.ediv_le_self _ h0
    have r0 := Int.emod_nonneg (x / c) (show pr cs ≠ 0 by omega)
    have r1 := emod_le_self (x / c) (pr cs) q0 (by omega)
    have ih := fall_mod cs (x / c) q0 (by omega) (fun y hy => h y (by simp [hy]))
    simp only [fall, pr, t1, t2, d1, d2]
    rw [w64 (i := x / c) (by omega) (by omega), w64 (i := x / c % pr cs) (by omega) (by omega), ih]
theorem tmod_around (x p : Int) (hp : 0 < p) : Int.tmod (Int.tmod x p + p) p = x % p := by
  have h1 := Int.mul_tdiv_add_tmod x p
  have h2 := Int.lt_tmod_of_pos x hp
  rw [Int.tmod_eq_emod_of_nonneg (by omega), Int.add_emod_right]
  conv => rhs; rw [← h1]
  rw [Int.mul_add_emod_self_left]
theorem tmod_bd (x p : Int) (hp : 0 < p) : -p < Int.tmod x p ∧ Int.tmod x p < p := ⟨Int.lt_tmod_of_pos x hp, Int.tmod_lt_of_pos x hp⟩
/-- What buckets hold x drops on (or back, x less than 0). -/
theorem moved_ok (a b : List Int) (x : Int) (k : Nat) (hl : a.length ≤ 1048576) (h : heldB a b = true) (h0 : -1000000 ≤ x) (h1 : x ≤ 1000000) (hk : 2000000 ≤ k) :
    impl_moved.f k a b x = some (fall ((valD a b + x) % pr a) a).1 := by
  obtain ⟨g1, g2, g3⟩ := heldB_get h
  obtain ⟨c1, c2, c3⟩ := capsB_get g1
  obtain ⟨n1, n2, n3⟩ := numb_ok h
  obtain ⟨p1, p2, p3⟩ := round_pr g1
  have hz : ∀ y ∈ a, y ≠ 0 := fun y hy => by have := c3 y hy; omega
  have hb := tmod_bd (valD a b + x) (pr a) (by omega)
  unfold impl_moved.f
  rw [round_ok a k hl hk, Option.bind_some, dropsFor_ok a b k hl g2 hk, Option.bind_some, p1, n1, if_neg (by omega), w64 (i := valD a b + x) (by omega) (by omega),
    w64 (i := Int.tmod (valD a b + x) (pr a) + pr a) (by omega) (by omega), tmod_around _ _ (by omega), fallen_ok a _ k hl hz hk, Option.bind_some]

end Go.Proofs.Ytobffdhdpbajhaa.Pure
