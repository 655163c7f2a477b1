/- Plain facts on the document's Number at this program: the same plain function as tale.number's. No condition. -/
import Derived.Test.YtpeebjnfmlfocaaDoorNumP
namespace Go.Proofs.YtpeebjnfmlfocaaDoor.TpP
open Go.RowKit Go.Proofs.YtpeebjnfmlfocaaDoorW.PrintWords Go.Proofs.YtpeebjnfmlfocaaDoorW.PrintLast Go.Proofs.YtpeebjnfmlfocaaDoorW.PrintMore Go.Proofs.YtpeebjnfmlfocaaDoor.Tm Go.Proofs.YtpeebjnfmlfocaaDoor.TpR
set_option linter.unusedVariables false

theorem mul_eq (k : Nat) (a : List Int) (ha : Dig a) (hc : a.length ≤ 100) (j y : Nat) (hj : j ≤ 100) (hy : y < 16777216 ^ j) (x : Nat) (hx : val a = x) (m : Nat) (hm : x * y < 16777216 ^ m) :
    cleromancyref01_Mul.f a (digs j y) = some (digs m (x * y)) := by
  have hl := digs_len j y
  have hd := digs_dig j y
  unfold cleromancyref01_Mul.f
  rw [if_pos ⟨⟨ha, hd⟩, by omega, by omega⟩, mulD, digs_val j y hy, hx]
  congr 1
  refine digs_any _ _ _ ?_ hm
  have := mul_lt ha hd
  rw [digs_val j y hy, hx] at this
  exact this
theorem power_eq (k : Nat) (hk : 40 ≤ k) : cleromancyref01_Power.f k 62 = some [0, 0, 16384] :=
  leo_up (f := fun k => cleromancyref01_Power.f k 62) (fun k => cleromancyref01_Power.mono 62 k) hk (by decide +kernel)

/-- one more digit -/
theorem digit_eq2 (k n d : Nat) (hk : 60 ≤ k) (hn : n < 10 ^ 29) (hd : d ≤ 9) :
    ((cleromancyref01_Small.f k (digs 5 n) 10).bind fun t155 => (cleromancyref01_Int.f k (d : Int)).bind fun t158 => cleromancyref01_Add.f k t155 t158) = some (digs 5 (10 * n + d)) := by
  have h5 : n < 16777216 ^ 5 := Nat.lt_trans hn (by decide)
  have h10 : n * 10 < 16777216 ^ 5 := by
    have : n * 10 < 10 ^ 29 * 10 := by omega
    exact Nat.lt_trans this (by decide)
  unfold cleromancyref01_Small.f
  have e10 := Int_f k 10 (by omega) (by decide)
  have ed := Int_f k d (by omega) (by omega)
  rw [show ((10 : Nat) : Int) = 10 from rfl] at e10
  rw [e10, Option.bind_some, mul_eq k (digs 5 n) (digs_dig 5 n) (by have := digs_len 5 n; omega) 3 10 (by decide) (by decide) n (digs_val 5 n h5) 5 h10, Option.bind_some, Option.bind_some, ed, Option.bind_some]
  have hl1 := digs_len 5 (n * 10)
  have hl2 := digs_len 3 d
  obtain ⟨r, hr, hrd, hrc, hrv, hrl⟩ := Add_f k (digs 5 (n * 10)) (digs 3 d) (digs_dig _ _) (digs_dig _ _) 5 (by decide) hl1 (by omega) (by omega)
  rw [hr]
  congr 1
  have hd3 : d < 16777216 ^ 3 := Nat.lt_of_le_of_lt hd (by decide)
  rw [digs_val 5 _ h10, digs_val 3 d hd3] at hrv
  have hs : 10 * n + d < 16777216 ^ 5 := by
    have : 10 * n + d < 10 ^ 30 := by
      have : (10 : Nat) ^ 30 = 10 * 10 ^ 29 := by decide
      omega
    exact Nat.lt_trans this (by decide)
  have e : val r = 10 * n + d := by omega
  have := digs_of hrd hrc 5 (by rw [e]; exact hs)
  rw [e] at this
  exact this

theorem cmp_top (k v : Nat) (hk : 10 ≤ k) (h5 : v < 16777216 ^ 5) : ∃ c, cleromancyref01_Cmp.f k (digs 5 v) [0, 0, 16384] = some c ∧ (c > 0 ↔ top < v) := by
  have hv := digs_val 5 v h5
  have hd := digs_dig 5 v
  have hc := digs_can 5 v h5
  have hl := digs_len 5 v
  obtain ⟨l, hl0⟩ : ∃ l, l = digs 5 v := ⟨_, rfl⟩
  rw [← hl0] at hv hd hc hl ⊢
  clear hl0 h5
  obtain ⟨k, rfl⟩ : ∃ m, k = m + 5 := ⟨k - 5, by omega⟩
  unfold cleromancyref01_Cmp.f top
  match l, hv, hd, hc, hl with
  | [], hv, hd, hc, hl => exact ⟨-1, by simp, by simp [val] at hv; omega⟩
  | [x], hv, hd, hc, hl =>
    have h1 := hd x (by simp)
    exact ⟨-1, by simp, by simp [val] at hv; omega⟩
  | [x, y], hv, hd, hc, hl =>
    have h1 := hd x (by simp)
    have h2 := hd y (by simp)
    exact ⟨-1, by simp, by simp [val] at hv; omega⟩
  | [x, y, z], hv, hd, hc, hl =>
    have h1 := hd x (by simp)
    have h2 := hd y (by simp)
    have h3 := hd z (by simp)
    have w1 : wrap64 ((3 : Int) - 1) = 2 := w64 (by decide) (by decide)
    have w2 : wrap64 ((2 : Int) - 1) = 1 := w64 (by decide) (by decide)
    have w3 : wrap64 ((1 : Int) - 1) = 0 := w64 (by decide) (by decide)
    have w4 : wrap64 ((0 : Int) - 1) = -1 := w64 (by decide) (by decide)
    have r2 : rd [x, y, z] 2 = z := rfl
    have r1 : rd [x, y, z] 1 = y := rfl
    have r0 : rd [x, y, z] 0 = x := rfl
    have s2 : rd [(0 : Int), 0, 16384] 2 = 16384 := rfl
    have s1 : rd [(0 : Int), 0, 16384] 1 = 0 := rfl
    have s0 : rd [(0 : Int), 0, 16384] 0 = 0 := rfl
    rw [if_neg (by simp), if_neg (by simp)]
    simp only [val] at hv
    show ∃ c, (cleromancyref01_Cmp.l0 (k + 5) [x, y, z] [0, 0, 16384] (wrap64 ((3 : Int) - 1))) = some c ∧ _
    rw [w1]
    simp only [cleromancyref01_Cmp.l0, w2, w3, w4, r2, r1, r0, s2, s1, s0, List.length_cons, List.length_nil]
    rw [if_pos (by decide), if_pos (by decide), if_pos (by decide), if_pos (by decide)]
    by_cases a1 : z < 16384
    · exact ⟨-1, by rw [if_pos a1], by omega⟩
    · rw [if_neg a1]
      by_cases a2 : z > 16384
      · exact ⟨1, by rw [if_pos a2], by omega⟩
      · rw [if_neg a2, if_pos (by decide), if_pos (by decide), if_pos (by decide), if_pos (by decide), if_neg (by omega)]
        by_cases a3 : y > 0
        · exact ⟨1, by rw [if_pos a3], by omega⟩
        · rw [if_neg a3, if_pos (by decide), if_pos (by decide), if_pos (by decide), if_pos (by decide), if_neg (by omega)]
          by_cases a4 : x > 0
          · exact ⟨1, by rw [if_pos a4], by omega⟩
          · exact ⟨0, by rw [if_neg a4, if_neg (by decide)], by omega⟩
  | x :: y :: z :: t :: l, hv, hd, hc, hl =>
    have h4 : 0 < val (t :: l) := can_pos (t :: l) (fun a ha => hd a (List.mem_cons_of_mem _ (List.mem_cons_of_mem _ (List.mem_cons_of_mem _ ha)))) (can_tail (can_tail (can_tail hc))) (by simp)
    refine ⟨1, by rw [if_neg (by simp; omega), if_pos (by simp; omega)], ?_⟩
    rw [val, val, val] at hv
    omega

theorem sum_l1 (l : List Int) (hd : Dig l) (hv : val l ≤ 4611686018427387904) (hl : l.length ≤ 100) : ∀ m k, m ≤ l.length → m < k → cleromancyref44_Number.l1 k l (val (l.drop m) : Int) ((m : Int) - 1) = some (val l : Int) := by
  intro m
  induction m with
  | zero =>
    intro k _ hk
    obtain ⟨k, rfl⟩ : ∃ m, k = m + 1 := ⟨k - 1, by omega⟩
    simp only [cleromancyref44_Number.l1]
    rw [if_neg (by omega), List.drop_zero]
  | succ m ih =>
    intro k hm hk
    obtain ⟨k, rfl⟩ : ∃ m, k = m + 1 := ⟨k - 1, by omega⟩
    simp only [cleromancyref44_Number.l1]
    have e0 : ((m + 1 : Nat) : Int) - 1 = (m : Int) := by omega
    have h1 := dig_get hd m
    have h2 := val_drop l m
    have h3 : val (l.drop m) ≤ val l := by
      have := val_app (l.take m) (l.drop m)
      rw [List.take_append_drop] at this
      have hp : 1 * val (l.drop m) ≤ 16777216 ^ (l.take m).length * val (l.drop m) := Nat.mul_le_mul_right _ (Nat.pow_pos (by decide))
      omega
    rw [e0, if_pos (by omega), if_pos (by omega), if_pos (by omega), rd_eq]
    have e1 : wrap64 (wrap64 ((val (l.drop (m + 1)) : Int) * 16777216) + l.getD m 0) = (val (l.drop m) : Int) := by
      rw [w64 (x := (val (l.drop (m + 1)) : Int) * 16777216) (by omega) (by omega), w64 (by omega) (by omega)]
      omega
    have e2 : wrap64 ((m : Int) - 1) = (m : Int) - 1 := w64 (by omega) (by omega)
    rw [e1, e2]
    exact ih k (by omega) (by omega)

def resR : Option Nat → Int
  | none => -1
  | some v => (v : Int)
theorem numGo_lt (s : ByteArray) : True := trivial
theorem Number_l0 (s : ByteArray) (hs : s.size ≤ 30) (d : Nat) : ∀ (k i n : Nat), i + d = s.size → 2 * d + 100 < k → n < 10 ^ i →
    cleromancyref44_Number.l0 k s (digs 5 n) (i : Int) = some (resR (capO (numGo (s.data.toList.drop i) n))) := by
  induction d with
  | zero =>
    intro k i n hi hk hn
    obtain ⟨k, rfl⟩ : ∃ m, k = m + 1 := ⟨k - 1, by omega⟩
    have hn5 : n < 16777216 ^ 5 := Nat.lt_of_lt_of_le hn (Nat.le_trans (Nat.pow_le_pow_right (by decide) (show i ≤ 30 by omega)) (by decide))
    simp only [cleromancyref44_Number.l0]
    have : s.data.toList.length = s.size := by simp
    obtain ⟨c, hc, hcv⟩ := cmp_top k n (by omega) hn5
    rw [if_neg (by omega), List.drop_of_length_le (by omega), numGo, power_eq k (by omega), Option.bind_some, hc, Option.bind_some, capO]
    by_cases h : top < n
    · rw [if_pos (hcv.2 h), if_neg (by omega)]
      rfl
    · rw [if_neg (fun h2 => h (hcv.1 h2)), if_pos (by omega)]
      have hl := digs_len 5 n
      have := sum_l1 (digs 5 n) (digs_dig _ _) (by rw [digs_val 5 n hn5]; unfold top at h; omega) (by omega) (digs 5 n).length k (Nat.le_refl _) (by omega)
      rw [List.drop_length, digs_val 5 n hn5] at this
      rw [w64 (by omega) (by omega)]
      exact this
  | succ d ih =>
    intro k i n hi hk hn
    obtain ⟨k, rfl⟩ : ∃ m, k = m + 1 + 1 := ⟨k - 2, by omega⟩
    have hil : i < s.size := by omega
    have hrg := bt_rg s (i : Int)
    have hw : wrap64 ((i : Int) + 1) = ((i + 1 : Nat) : Int) := by rw [IntWalk.wrap64_in _ (by omega)]; omega
    rw [list_at s i hil, numGo]
    have hb := bt_nat s i hil
    simp only [cleromancyref44_Number.l0]
    rw [if_pos (by omega), if_pos (by omega)]
    by_cases h1 : bt s (i : Int) < 48
    · rw [if_pos h1, if_neg (by omega)]
      simp only [cleromancyref44_Number.j2]
      rw [if_pos trivial]
      rfl
    · rw [if_neg h1]
      simp only [cleromancyref44_Number.j2]
      by_cases h2 : bt s (i : Int) > 57
      · rw [decide_eq_true h2, if_pos rfl, if_neg (by omega)]
        rfl
      · rw [decide_eq_false h2, if_neg (by decide), if_pos (show 48 ≤ (s[i]'hil).toNat ∧ (s[i]'hil).toNat ≤ 57 by omega)]
        obtain ⟨x, hx⟩ : ∃ x, x = (s[i]'hil).toNat - 48 := ⟨_, rfl⟩
        have hx9 : x ≤ 9 := by omega
        have e1 : wrap64 (wrap64 (bt s (i : Int)) - 48) = (x : Int) := by
          rw [w64 (x := bt s (i : Int)) (by omega) (by omega), w64 (by omega) (by omega)]
          omega
        rw [← hx, e1, hw]
        have hn29 : n < 10 ^ 29 := Nat.lt_of_lt_of_le hn (Nat.pow_le_pow_right (by decide) (by omega))
        have key := digit_eq2 k n x (by omega) hn29 hx9
        obtain ⟨a, ha⟩ : ∃ a, cleromancyref01_Small.f k (digs 5 n) 10 = some a := by
          cases h : cleromancyref01_Small.f k (digs 5 n) 10 with
          | none => rw [h] at key; cases key
          | some a => exact ⟨a, rfl⟩
        obtain ⟨b, hb2⟩ : ∃ b, cleromancyref01_Int.f k (x : Int) = some b := ⟨_, Int_f k x (by omega) (by omega)⟩
        rw [ha, hb2, Option.bind_some, Option.bind_some] at key
        rw [ha, Option.bind_some, if_pos (by omega), if_pos (by omega), hb2, Option.bind_some, key, Option.bind_some]
        refine ih k (i + 1) (10 * n + x) (by omega) (by omega) ?_
        rw [Nat.pow_succ]
        omega
theorem toList_nil (s : ByteArray) : s.toList = [] ↔ s.size = 0 := by
  rw [ByteArray.toList_eq]
  show s.data.toList = [] ↔ s.data.size = 0
  rw [← Array.length_toList, List.length_eq_zero_iff]
theorem Number_eq (s : ByteArray) (k : Nat) (hk : 300 ≤ k) : cleromancyref44_Number.f k s = some (numR s) := by
  have hT : numR s = resR (numO s) := by unfold numR resR; split <;> simp_all
  obtain ⟨k, rfl⟩ : ∃ m, k = m + 1 := ⟨k - 1, by omega⟩
  unfold cleromancyref44_Number.f
  rw [hT]
  by_cases h0 : s.size = 0
  · rw [if_pos ((toList_nil s).2 h0)]
    simp only [cleromancyref44_Number.j0]
    rw [if_pos trivial, numO, if_pos (.inl h0)]
    rfl
  · rw [if_neg (fun h => h0 ((toList_nil s).1 h))]
    by_cases h1 : (s.size : Int) > 30
    · rw [if_pos h1, numO_long s (by omega)]
      simp only [cleromancyref44_Number.j0]
      rw [if_pos trivial]
      rfl
    · rw [if_neg h1]
      have hl0 := Number_l0 s (by omega) s.size k 0 0 (by omega) (by omega) (by decide)
      rw [List.drop_zero, digs_zero] at hl0
      by_cases h2 : (s.size : Int) > 1
      · rw [if_pos h2, if_pos (by omega)]
        simp only [cleromancyref44_Number.j0]
        by_cases h3 : bt s 0 = 48
        · rw [if_pos (by rw [h3]; rfl), numO, if_pos (.inr ⟨by omega, h3⟩)]
          rfl
        · rw [if_neg (by simpa using h3), numO, if_neg (by intro h; rcases h with h | h; omega; exact h3 h.2)]
          exact hl0
      · rw [if_neg h2]
        simp only [cleromancyref44_Number.j0]
        rw [if_neg (by decide), numO, if_neg (by omega)]
        exact hl0
end Go.Proofs.YtpeebjnfmlfocaaDoor.TpP
