/- Plain facts on a deed's number: what tale.number and the document's Number answer is one plain function. No condition. -/
import Derived.Test.YtpeebjnfmlfocaaDoorTn1
import Derived.Test.YtpeebjnfmlfocaaDoorTm2
import Derived.Test.YtpeebjnfmlfocaaDoorHPl
namespace Go.Proofs.YtpeebjnfmlfocaaDoor.TpP
open Go.RowKit Go.Proofs.YtpeebjnfmlfocaaDoorW.PrintWords Go.Proofs.YtpeebjnfmlfocaaDoorW.PrintLast Go.Proofs.YtpeebjnfmlfocaaDoorW.PrintMore Go.Proofs.YtpeebjnfmlfocaaDoor.Tn Go.Proofs.YtpeebjnfmlfocaaDoor.Tm Go.Proofs.YtpeebjnfmlfocaaDoor.TpR
set_option linter.unusedVariables false

theorem leo_up {α : Type} {f : Nat → Option α} (h : ∀ k, LeO (f k) (f (k + 1))) {j k : Nat} (hjk : j ≤ k) {r : α} (hr : f j = some r) : f k = some r := by
  obtain ⟨d, rfl⟩ : ∃ d, k = j + d := ⟨k - j, by omega⟩
  clear hjk
  induction d with
  | zero => exact hr
  | succ d ih => exact h _ _ ih

def top : Nat := 4611686018427387904
/-- the value of digits behind n; none: one is none -/
def numGo : List UInt8 → Nat → Option Nat
  | [], n => some n
  | c :: cs, n => if 48 ≤ c.toNat ∧ c.toNat ≤ 57 then numGo cs (10 * n + (c.toNat - 48)) else none
def capO : Option Nat → Option Nat
  | none => none
  | some v => if v ≤ top then some v else none
def numO (s : ByteArray) : Option Nat := if s.size = 0 ∨ (1 < s.size ∧ bt s 0 = 48) then none else capO (numGo s.data.toList 0)
def numT (s : ByteArray) : Int × Bool := match numO s with
  | none => (0, false)
  | some v => ((v : Int), true)
def numR (s : ByteArray) : Int := match numO s with
  | none => -1
  | some v => (v : Int)

theorem numGo_ge : ∀ (cs : List UInt8) (n v : Nat), numGo cs n = some v → n * 10 ^ cs.length ≤ v
  | [], n, v, h => by cases h; simp
  | c :: cs, n, v, h => by
    rw [numGo] at h
    split at h
    · have := numGo_ge cs _ v h
      rw [List.length_cons, Nat.pow_succ, Nat.mul_comm (10 ^ cs.length) 10, ← Nat.mul_assoc]
      refine Nat.le_trans (Nat.mul_le_mul_right _ ?_) this
      omega
    · cases h
theorem numGo_le {cs : List UInt8} {n v : Nat} (h : numGo cs n = some v) : n ≤ v := by
  have := numGo_ge cs n v h
  exact Nat.le_trans (Nat.le_mul_of_pos_right n (Nat.pow_pos (by decide))) this
theorem cap_over {cs : List UInt8} {n : Nat} (h : top < n) : capO (numGo cs n) = none := by
  cases hg : numGo cs n with
  | none => rfl
  | some v => have := numGo_le hg; rw [capO, if_neg (by omega)]

theorem ovf_no {C : Nat} (n x : Nat) (h : ¬ (n : Int) > ((C : Int) - (x : Int)) / 10) : 10 * n + x ≤ C := by
  have h1 : 10 * (((C : Int) - (x : Int)) / 10) ≤ (C : Int) - (x : Int) := Int.mul_ediv_self_le (by decide)
  omega
theorem ovf_yes {C : Nat} (n x : Nat) (h : (n : Int) > ((C : Int) - (x : Int)) / 10) : C < 10 * n + x := by
  have h1 : ((C : Int) - (x : Int)) < 10 * (((C : Int) - (x : Int)) / 10) + 10 := Int.lt_mul_ediv_self_add (by decide)
  omega
def resT : Option Nat → Int × Bool
  | none => (0, false)
  | some v => ((v : Int), true)
theorem number_l0 (s : ByteArray) (hs : s.size ≤ 100) (d : Nat) : ∀ (k i n : Nat), i + d = s.size → 2 * d < k → n ≤ top →
    tale_number.l0 k s (n : Int) (s.size : Int) (i : Int) = some (resT (capO (numGo (s.data.toList.drop i) n))) := by
  induction d with
  | zero =>
    intro k i n hi hk hn
    obtain ⟨k, rfl⟩ : ∃ m, k = m + 1 := ⟨k - 1, by omega⟩
    simp only [tale_number.l0]
    have : s.data.toList.length = s.size := by simp
    rw [if_neg (by omega), List.drop_of_length_le (by omega), numGo, capO, if_pos hn]
    rfl
  | succ d ih =>
    intro k i n hi hk hn
    obtain ⟨k, rfl⟩ : ∃ m, k = m + 1 + 1 := ⟨k - 2, by omega⟩
    have hil : i < s.size := by omega
    have hrg := bt_rg s (i : Int)
    have hw : wrap64 ((i : Int) + 1) = ((i + 1 : Nat) : Int) := by rw [IntWalk.wrap64_in _ (by omega)]; omega
    unfold top at hn
    rw [list_at s i hil, numGo]
    have hb := bt_nat s i hil
    simp only [tale_number.l0]
    rw [if_pos (by omega), if_pos (by omega), if_pos (by omega)]
    by_cases h1 : bt s (i : Int) < 48
    · rw [if_pos h1, if_neg (by omega)]
      simp only [tale_number.j2]
      rw [if_pos trivial]
      rfl
    · rw [if_neg h1]
      simp only [tale_number.j2]
      by_cases h2 : bt s (i : Int) > 57
      · rw [decide_eq_true h2, if_pos rfl, if_neg (by omega)]
        rfl
      · rw [decide_eq_false h2, if_neg (by decide), if_pos (by omega), if_pos (by omega), if_pos (show 48 ≤ (s[i]'hil).toNat ∧ (s[i]'hil).toNat ≤ 57 by omega)]
        have e1 : (bt s (i : Int) - 48) % 256 = ((s[i]'hil).toNat - 48 : Nat) := by omega
        rw [e1]
        clear e1
        obtain ⟨x, hx⟩ : ∃ x, x = (s[i]'hil).toNat - 48 := ⟨_, rfl⟩
        have hx9 : x ≤ 9 := by omega
        rw [← hx]
        clear hx hb hrg h1 h2
        by_cases h3 : (n : Int) > (4611686018427387904 - (x : Int)) / 10
        · rw [if_pos h3, cap_over (ovf_yes (C := top) n x h3)]
          rfl
        · have h4 := ovf_no (C := top) n x h3
          rw [if_neg h3, hw]
          clear h3
          have e2 : wrap64 (wrap64 (10 * (n : Int)) + (x : Int)) = ((10 * n + x : Nat) : Int) := by
            have h5 : 10 * n + x ≤ 4611686018427387904 := h4
            rw [IntWalk.wrap64_in (10 * (n : Int)) (by omega), IntWalk.wrap64_in _ (by omega)]
            omega
          rw [e2]
          have h6 : i + 1 + d = s.size := by omega
          have h7 : 2 * d < k := by omega
          exact ih k (i + 1) (10 * n + x) h6 h7 h4
theorem numO_long (s : ByteArray) (h : 19 < s.size) : numO s = none := by
  unfold numO
  split
  · rfl
  · next h2 =>
    cases hg : numGo s.data.toList 0 with
    | none => rfl
    | some v =>
      have h0 : bt s 0 ≠ 48 := fun h3 => h2 (.inr ⟨by omega, h3⟩)
      have hl := list_at s 0 (by omega)
      rw [List.drop_zero] at hl
      rw [hl, numGo] at hg
      have hb := bt_nat s 0 (by omega)
      rw [show ((0 : Nat) : Int) = 0 from rfl] at hb
      split at hg
      · have := numGo_ge _ _ _ hg
        have hlen : (s.data.toList.drop (0 + 1)).length = s.size - 1 := by simp
        rw [hlen] at this
        have hp : 10 ^ 19 ≤ 10 ^ (s.size - 1) := Nat.pow_le_pow_right (by decide) (by omega)
        have h1 : 1 * 10 ^ (s.size - 1) ≤ (10 * 0 + ((s[0]'(by omega)).toNat - 48)) * 10 ^ (s.size - 1) := Nat.mul_le_mul_right _ (by omega)
        rw [capO, if_neg (by unfold top; omega)]
      · cases hg
theorem number_eq (s : ByteArray) (k : Nat) (hk : 50 ≤ k) : tale_number.f k s = some (numT s) := by
  have hT : numT s = resT (numO s) := by unfold numT resT; split <;> simp_all
  obtain ⟨k, rfl⟩ : ∃ m, k = m + 1 := ⟨k - 1, by omega⟩
  unfold tale_number.f
  rw [hT]
  by_cases h0 : (s.size : Int) = 0
  · rw [if_pos h0]
    simp only [tale_number.j0]
    rw [if_pos trivial, numO, if_pos (.inl (by omega))]
    rfl
  · rw [if_neg h0]
    by_cases h1 : (s.size : Int) > 19
    · rw [if_pos h1, numO_long s (by omega)]
      simp only [tale_number.j0]
      rw [if_pos trivial]
      rfl
    · rw [if_neg h1]
      have hl0 := number_l0 s (by omega) s.size k 0 0 (by omega) (by omega) (by unfold top; omega)
      rw [List.drop_zero] at hl0
      by_cases h2 : (s.size : Int) > 1
      · rw [if_pos h2, if_pos (by omega)]
        simp only [tale_number.j0]
        by_cases h3 : bt s 0 = 48
        · rw [if_pos (by rw [h3]; rfl), numO, if_pos (.inr ⟨by omega, h3⟩)]
          rfl
        · rw [if_neg (by simpa using h3), numO, if_neg (by intro h; rcases h with h | h; omega; exact h3 h.2)]
          exact hl0
      · rw [if_neg h2]
        simp only [tale_number.j0]
        rw [if_neg (by decide), numO, if_neg (by omega)]
        exact hl0
end Go.Proofs.YtpeebjnfmlfocaaDoor.TpP
