/- ref01.Mul at this program: the product's digits. Conditions: digits in range; at most 2^20 of them each. -/
import Derived.Test.YtpeebjnfmlfocaaDoorTR
namespace Go.Proofs.YtpeebjnfmlfocaaDoor.TpR
open Go.RowKit Go.Proofs.YtpeebjnfmlfocaaDoorW.PrintWords Go.Proofs.YtpeebjnfmlfocaaDoorW.PrintLast Go.Proofs.YtpeebjnfmlfocaaDoorW.PrintMore Go.Proofs.YtpeebjnfmlfocaaDoor.Tm
set_option linter.unusedVariables false

structure Inv (a b : List Int) (i j : Nat) (L : List Int) (c : Int) : Prop where
  len : L.length = a.length + b.length + 1
  dig : Dig L
  c0 : 0 ≤ c
  c1 : c < 16777216
  top : ∀ t, i + b.length ≤ t → L.getD t 0 = 0
  v : val L + 16777216 ^ (i + j) * c.toNat = val (a.take i) * val b + 16777216 ^ i * ((a.getD i 0).toNat * val (b.take j))
structure Outr (a b : List Int) (i : Nat) (L : List Int) : Prop where
  len : L.length = a.length + b.length + 1
  dig : Dig L
  top : ∀ t, i + b.length ≤ t → L.getD t 0 = 0
  v : val L = val (a.take i) * val b
theorem dig_set {l : List Int} (h : Dig l) (t : Nat) {x : Int} (h0 : 0 ≤ x) (h1 : x < 16777216) : Dig (l.set t x) := by
  intro d hd
  rcases List.mem_or_eq_of_mem_set hd with hd | rfl
  · exact h d hd
  · exact ⟨h0, h1⟩
theorem dig_zeros (n : Nat) : Dig (List.replicate n (0 : Int)) := by
  intro d hd
  rw [List.eq_of_mem_replicate hd]
  exact ⟨by decide, by decide⟩
theorem val_zeros (n : Nat) : val (List.replicate n (0 : Int)) = 0 := by
  induction n with
  | zero => rfl
  | succ n ih => rw [List.replicate_succ, val, ih]; rfl
theorem getD_zeros (n t : Nat) : (List.replicate n (0 : Int)).getD t 0 = 0 := by
  rw [List.getD_eq_getElem?_getD, List.getElem?_replicate]
  split <;> rfl
theorem getD_set_other (l : List Int) (t u : Nat) (x : Int) (h : t ≠ u) : (l.set t x).getD u 0 = l.getD u 0 := by
  rw [List.getD_eq_getElem?_getD, List.getD_eq_getElem?_getD, List.getElem?_set_ne h]
theorem out_zero (a b : List Int) : Outr a b 0 (List.replicate (a.length + b.length + 1) 0) :=
  ⟨List.length_replicate, dig_zeros _, fun t _ => getD_zeros _ t, by rw [val_zeros, List.take_zero]; simp [val]⟩
theorem inv_zero {a b : List Int} {i : Nat} {L : List Int} (h : Outr a b i L) : Inv a b i 0 L 0 :=
  ⟨h.len, h.dig, by decide, by decide, h.top, by rw [h.v, List.take_zero]; simp [val]⟩
theorem val_take_succ (b : List Int) (j : Nat) (h : j < b.length) : val (b.take (j + 1)) = val (b.take j) + 16777216 ^ j * (b.getD j 0).toNat := by
  rw [take_push b j h, val_push, List.length_take, Nat.min_eq_left (by omega)]
theorem prod_lt {x y : Nat} (hx : x < 16777216) (hy : y < 16777216) : x * y ≤ 281474943156225 := by
  have := Nat.mul_le_mul (show x ≤ 16777215 by omega) (show y ≤ 16777215 by omega)
  omega
/-- the sum of a round -/
def sumOf (a b : List Int) (i j : Nat) (L : List Int) (c : Int) : Int := c + L.getD (i + j) 0 + a.getD i 0 * b.getD j 0
theorem sum_rg {a b : List Int} (ha : Dig a) (hb : Dig b) {i j : Nat} {L : List Int} {c : Int} (h : Inv a b i j L c) :
    0 ≤ a.getD i 0 * b.getD j 0 ∧ a.getD i 0 * b.getD j 0 ≤ 281474943156225 ∧ 0 ≤ c + L.getD (i + j) 0 ∧ c + L.getD (i + j) 0 < 33554432 ∧ 0 ≤ sumOf a b i j L c ∧ sumOf a b i j L c < 281474976710656 := by
  have h1 := dig_get ha i
  have h2 := dig_get hb j
  have h3 := dig_get h.dig (i + j)
  have hc0 := h.c0
  have hc1 := h.c1
  have hp := prod_lt (x := (a.getD i 0).toNat) (y := (b.getD j 0).toNat) (by omega) (by omega)
  have hq : a.getD i 0 * b.getD j 0 = (((a.getD i 0).toNat * (b.getD j 0).toNat : Nat) : Int) := by
    rw [Int.natCast_mul, Int.toNat_of_nonneg h1.1, Int.toNat_of_nonneg h2.1]
  unfold sumOf
  rw [hq]
  omega
theorem inv_step {a b : List Int} (ha : Dig a) (hb : Dig b) {i j : Nat} {L : List Int} {c : Int} (h : Inv a b i j L c) (hi : i < a.length) (hj : j < b.length) :
    Inv a b i (j + 1) (L.set (i + j) (sumOf a b i j L c % 16777216)) (sumOf a b i j L c / 16777216) := by
  have hr := sum_rg ha hb h
  have h1 := dig_get ha i
  have h2 := dig_get hb j
  have h3 := dig_get h.dig (i + j)
  have hc0 := h.c0
  refine ⟨by rw [List.length_set]; exact h.len, dig_set h.dig _ (by omega) (by omega), by omega, by omega, ?_, ?_⟩
  · intro t ht
    rw [getD_set_other _ _ _ _ (by omega)]
    exact h.top t ht
  · have hs := val_set L (i + j) (sumOf a b i j L c % 16777216) (by rw [h.len]; omega)
    have hv := h.v
    rw [val_take_succ b j hj]
    obtain ⟨x, hx⟩ : ∃ x : Nat, a.getD i 0 = (x : Int) := ⟨(a.getD i 0).toNat, by omega⟩
    obtain ⟨y, hy⟩ : ∃ y : Nat, b.getD j 0 = (y : Int) := ⟨(b.getD j 0).toNat, by omega⟩
    obtain ⟨l, hl⟩ : ∃ y : Nat, L.getD (i + j) 0 = (y : Int) := ⟨(L.getD (i + j) 0).toNat, by omega⟩
    obtain ⟨d, rfl⟩ : ∃ y : Nat, c = (y : Int) := ⟨c.toNat, by omega⟩
    have es : sumOf a b i j L (d : Int) = ((d + l + x * y : Nat) : Int) := by unfold sumOf; rw [hx, hy, hl]; simp
    rw [es] at hs ⊢
    rw [hx, hy, hl] at *
    have e1 : (((d + l + x * y : Nat) : Int) % 16777216).toNat = (d + l + x * y) % 16777216 := by omega
    have e2 : (((d + l + x * y : Nat) : Int) / 16777216).toNat = (d + l + x * y) / 16777216 := by omega
    rw [e1] at hs
    rw [e1, e2] at *
    simp only [Int.toNat_natCast] at hs hv ⊢
    have e3 : 16777216 ^ (i + j) * (d + l + x * y) = 16777216 ^ (i + j) * d + 16777216 ^ (i + j) * l + 16777216 ^ (i + j) * (x * y) := by rw [Nat.mul_add, Nat.mul_add]
    have e4 : 16777216 ^ (i + j) * (d + l + x * y) = 16777216 ^ (i + (j + 1)) * ((d + l + x * y) / 16777216) + 16777216 ^ (i + j) * ((d + l + x * y) % 16777216) := by
      rw [show i + (j + 1) = (i + j) + 1 by omega, Nat.pow_succ, Nat.mul_assoc, ← Nat.mul_add, Nat.div_add_mod]
    have e5 : 16777216 ^ i * (x * (val (b.take j) + 16777216 ^ j * y)) = 16777216 ^ i * (x * val (b.take j)) + 16777216 ^ (i + j) * (x * y) := by
      rw [Nat.mul_add, Nat.mul_add, Nat.pow_add, Nat.mul_left_comm x, Nat.mul_assoc]
    rw [e5]
    omega
theorem inv_end {a b : List Int} (ha : Dig a) {i : Nat} {L : List Int} {c : Int} (h : Inv a b i b.length L c) (hi : i < a.length) :
    Outr a b (i + 1) (L.set (i + b.length) (L.getD (i + b.length) 0 + c)) := by
  have h0 := h.top (i + b.length) (Nat.le_refl _)
  have hc0 := h.c0
  have hc1 := h.c1
  rw [h0, Int.zero_add]
  refine ⟨by rw [List.length_set]; exact h.len, dig_set h.dig _ hc0 hc1, ?_, ?_⟩
  · intro t ht
    rw [getD_set_other _ _ _ _ (by omega)]
    exact h.top t (by omega)
  · have hs := val_set L (i + b.length) c (by rw [h.len]; omega)
    have hv := h.v
    rw [h0] at hs
    rw [List.take_length] at hv
    rw [val_take_succ a i hi, Nat.add_mul]
    rw [Nat.mul_assoc]
    have e0 : 16777216 ^ (i + b.length) * (0 : Int).toNat = 0 := rfl
    omega
theorem out_end {a b : List Int} {L : List Int} (h : Outr a b a.length L) : val L = val a * val b := by
  rw [h.v, List.take_length]

/-- the product's digits -/
def mulD (a b : List Int) : List Int := digs (a.length + b.length + 1) (val a * val b)
theorem mul_lt {a b : List Int} (ha : Dig a) (hb : Dig b) : val a * val b < 16777216 ^ (a.length + b.length + 1) := by
  have h1 := val_lt a ha
  have h2 := val_lt b hb
  have h3 : val a * val b < 16777216 ^ a.length * 16777216 ^ b.length := by
    exact Nat.mul_lt_mul'' h1 h2
  rw [← Nat.pow_add] at h3
  exact Nat.lt_of_lt_of_le h3 (Nat.pow_le_pow_right (by decide) (by omega))
theorem trim_mul {a b : List Int} (ha : Dig a) (hb : Dig b) {L : List Int} (h : Outr a b a.length L) (hl : L.length < 9223372036854775807) (k : Nat) (hk : L.length < k) : cleromancyref01_Trim.f k L = some (mulD a b) := by
  rw [Trim_f k L (by omega) (by omega)]
  congr 1
  have hv := trimN_val L L.length (Nat.le_refl _)
  rw [List.take_length, out_end h] at hv
  have := digs_of (trimN_dig h.dig L.length) (trimN_can L L.length (Nat.le_refl _)) (a.length + b.length + 1) (by rw [hv]; exact mul_lt ha hb)
  rw [hv] at this
  exact this
end Go.Proofs.YtpeebjnfmlfocaaDoor.TpR
