/- Plain facts on hex at this program: what hex.Bytes and the document's Bytes answer, as one plain function over lists. Condition: at most 100000 bytes. -/
import Derived.Test.YtpeebjnfmlfocaaDoorTh1
import Derived.Test.YtpeebjnfmlfocaaDoorTm3
import Derived.IntWalk
namespace Go.Proofs.YtpeebjnfmlfocaaDoor.TpP
open Go.RowKit Go.Proofs.YtpeebjnfmlfocaaDoorW.PrintWords Go.Proofs.YtpeebjnfmlfocaaDoorW.PrintLast Go.Proofs.YtpeebjnfmlfocaaDoorW.PrintMore Go.Proofs.YtpeebjnfmlfocaaDoor.Th Go.Proofs.YtpeebjnfmlfocaaDoor.Tm
set_option linter.unusedVariables false

/-- the pairs of digits of a text, from place i on; high: the first digit of a pair, or -1 -/
def prs (b : Bool) : List UInt8 → Nat → Int → List Int → List Int × Int × Int
  | [], i, high, out => if high ≥ 0 then ([], (i : Int), 2) else (out, 0, 0)
  | c :: cs, i, high, out =>
    if b = true ∧ c = 32 ∧ high < 0 then prs b cs (i + 1) high out
    else if digv (c.toNat : Int) < 0 then ([], (i : Int), 2)
    else if high < 0 then prs b cs (i + 1) (digv (c.toNat : Int)) out
    else prs b cs (i + 1) (-1) (out ++ [high * 16 + digv (c.toNat : Int)])

theorem digv_rg (c : Int) : -1 ≤ digv c ∧ digv c ≤ 15 := by unfold digv; omega
theorem digit_eq (c : Int) (h : 0 ≤ c ∧ c ≤ 255) : hex_digit.f c = some (digv c) := by unfold hex_digit.f; rw [if_pos h]
theorem bt_rg (s : ByteArray) (i : Int) : 0 ≤ bt s i ∧ bt s i ≤ 255 := by
  unfold bt
  split
  · rename_i h
    have := (s[i.toNat]'h).toNat_lt
    omega
  · omega
theorem or_eq (h t : Int) (h0 : 0 ≤ h ∧ h ≤ 15) (t0 : 0 ≤ t ∧ t ≤ 15) : (Go.bits .or .i64 (wrap64 (h * 16)) t) % 256 = h * 16 + t := by
  obtain ⟨a, rfl⟩ : ∃ a : Nat, h = a := ⟨h.toNat, by omega⟩
  obtain ⟨b, rfl⟩ : ∃ b : Nat, t = b := ⟨t.toNat, by omega⟩
  have : ∀ a b : Fin 16, (Go.bits .or .i64 (wrap64 ((a.1 : Int) * 16)) (b.1 : Int)) % 256 = (a.1 : Int) * 16 + b.1 := by decide +kernel
  exact this ⟨a, by omega⟩ ⟨b, by omega⟩

theorem list_at (s : ByteArray) (i : Nat) (h : i < s.size) : s.data.toList.drop i = s[i] :: s.data.toList.drop (i + 1) := by
  rw [List.drop_eq_getElem_cons (by simpa using h)]
  rfl
theorem bt_nat (s : ByteArray) (i : Nat) (h : i < s.size) : bt s (i : Int) = ((s[i]'h).toNat : Int) := by
  unfold bt
  simp [h]
theorem u8_32 (c : UInt8) : ((c.toNat : Int) = 32) ↔ c = 32 := by
  constructor
  · intro h
    apply UInt8.toNat_inj.1
    have : c.toNat = 32 := by omega
    rw [this]; rfl
  · rintro rfl; rfl

theorem pairs_run (s : ByteArray) (b : Bool) (hs : s.size ≤ 100000) (d : Nat) : ∀ (k i : Nat) (high : Int) (out : List Int), i + d = s.size → 2 * d < k → -1 ≤ high → high ≤ 15 → out.length ≤ i →
    hex_pairs.l0 k s b out high (s.size : Int) (i : Int) = some (prs b (s.data.toList.drop i) i high out) := by
  induction d with
  | zero =>
    intro k i high out hi hk h0 h1 ho
    obtain ⟨k, rfl⟩ : ∃ m, k = m + 1 := ⟨k - 1, by omega⟩
    simp only [hex_pairs.l0]
    have : s.data.toList.length = s.size := by simp
    rw [if_neg (by omega), List.drop_of_length_le (by omega), prs]
    by_cases hh : high ≥ 0
    · rw [if_pos hh, if_pos hh]
      have : (s.size : Int) = i := by omega
      rw [this]
    · rw [if_neg hh, if_neg hh]
  | succ d ih =>
    intro k i high out hi hk h0 h1 ho
    obtain ⟨k, rfl⟩ : ∃ m, k = m + 1 + 1 := ⟨k - 2, by omega⟩
    have hil : i < s.size := by omega
    have hw : wrap64 ((i : Int) + 1) = ((i + 1 : Nat) : Int) := by rw [IntWalk.wrap64_in _ (by omega)]; omega
    have hdg := digit_eq (bt s (i : Int)) (bt_rg s _)
    have hdr := digv_rg (bt s (i : Int))
    -- the second half of a round
    have hj : ∀ x : Bool, hex_pairs.j1 (k + 1) s b out high (i : Int) (s.size : Int) (i : Int) x =
        some (if x = true then prs b (s.data.toList.drop (i + 1)) (i + 1) high out else if digv (bt s (i : Int)) < 0 then ([], (i : Int), 2)
          else if high < 0 then prs b (s.data.toList.drop (i + 1)) (i + 1) (digv (bt s (i : Int))) out else prs b (s.data.toList.drop (i + 1)) (i + 1) (-1) (out ++ [high * 16 + digv (bt s (i : Int))])) := by
      intro x
      simp only [hex_pairs.j1, hw]
      cases x with
      | true => simp only [if_true]; exact ih _ _ _ _ (by omega) (by omega) h0 h1 (by omega)
      | false =>
        simp only [Bool.false_eq_true, if_false]
        rw [if_pos (by omega), if_pos (by omega), hdg, Option.bind_some]
        by_cases hd : digv (bt s (i : Int)) < 0
        · rw [if_pos hd, if_pos hd]
        · rw [if_neg hd, if_neg hd]
          by_cases hh : high < 0
          · rw [if_pos hh, if_pos hh]
            exact ih _ _ _ _ (by omega) (by omega) (by omega) (by omega) (by omega)
          · rw [if_neg hh, if_neg hh, if_pos (by omega), or_eq _ _ (by omega) (by omega)]
            exact ih _ _ _ _ (by omega) (by omega) (by omega) (by omega) (by simp; omega)
    rw [list_at s i hil, prs, ← bt_nat s i hil]
    simp only [hex_pairs.l0]
    rw [if_pos (by omega)]
    have hc := u8_32 (s[i]'hil)
    rw [← bt_nat s i hil] at hc
    cases b with
    | false =>
      simp only [Bool.false_eq_true, if_false, false_and]
      rw [hj]
      simp
    | true =>
      simp only [if_true, true_and]
      rw [if_pos (by omega), if_pos (by omega)]
      by_cases h32 : bt s (i : Int) = 32
      · rw [if_pos h32, hj]
        have h33 := hc.1 h32
        by_cases hh : high < 0
        · simp [hh, h33]
        · simp [hh, h33]
      · rw [if_neg h32, hj]
        have h33 : ¬ s[i]'hil = 32 := fun h => h32 (hc.2 h)
        simp [h33]

theorem bytes_eq (s : ByteArray) (hs : s.size ≤ 100000) (k : Nat) (hk : 2 * s.size < k) : hex_Bytes.f k s = some (prs false s.data.toList 0 (-1) []) := by
  have := pairs_run s false hs s.size k 0 (-1) [] (by omega) hk (by omega) (by omega) (by simp)
  simp only [hex_Bytes.f, hex_pairs.f]
  rw [show ((0 : Int)) = ((0 : Nat) : Int) from rfl, this, Option.bind_some]
  rfl
theorem rdigit_eq (c : Int) (h : 0 ≤ c ∧ c ≤ 255) (k : Nat) (hk : 0 < k) : cleromancyref37_Digit.f k c = some (digv c) := by
  obtain ⟨k, rfl⟩ : ∃ m, k = m + 1 := ⟨k - 1, by omega⟩
  unfold cleromancyref37_Digit.f digv
  simp only [cleromancyref37_Digit.j0, IntWalk.wrap64_in c (by omega), IntWalk.wrap64_in (c - 48) (by omega), IntWalk.wrap64_in (c - 97) (by omega), IntWalk.wrap64_in (c - 97 + 10) (by omega), Bool.false_eq_true, if_false, decide_eq_true_eq]
  (repeat' split) <;> first | rfl | (exfalso; omega) | (congr 1; omega)

/-- what the reference says, out of what pairs says -/
def rof (r : List Int × Int × Int) : List Int × Int := if r.2.2 = 0 then (r.1, -1) else ([], r.2.1)

theorem ref_run (s : ByteArray) (b : Bool) (hs : s.size ≤ 100000) (d : Nat) : ∀ (k i n : Nat) (high last : Int) (out : List Int), i + d = s.size → 2 * d + 1 < k → n ≤ i → (n % 2 = 1 → high = last ∧ 0 ≤ last ∧ last ≤ 15) → (n % 2 = 0 → high = -1) → out.length ≤ i →
    -1 ≤ last → last ≤ 15 →
    cleromancyref37_Bytes.l0 k s b out n last (i : Int) = some (rof (prs b (s.data.toList.drop i) i high out)) := by
  induction d with
  | zero =>
    intro k i n high last out hi hk hn ho he hl hl0 hl1
    obtain ⟨k, rfl⟩ : ∃ m, k = m + 1 := ⟨k - 1, by omega⟩
    have e1 : Int.tmod (n : Int) 2 = ((n % 2 : Nat) : Int) := by rw [Int.tmod_eq_emod_of_nonneg (by omega)]; simp
    simp only [cleromancyref37_Bytes.l0, e1]
    have : s.data.toList.length = s.size := by simp
    rw [if_neg (by omega), List.drop_of_length_le (by omega), prs]
    rcases Nat.mod_two_eq_zero_or_one n with h | h
    · rw [he h, h, if_neg (by decide), if_neg (by decide)]
      rfl
    · obtain ⟨rfl, h0, _⟩ := ho h
      rw [h, if_pos (by rfl), if_pos h0]
      have : (s.size : Int) = i := by omega
      rw [this]
      rfl
  | succ d ih =>
    intro k i n high last out hi hk hn ho he hl hl0 hl1
    obtain ⟨k, rfl⟩ : ∃ m, k = m + 1 + 1 := ⟨k - 2, by omega⟩
    have hil : i < s.size := by omega
    have hil1 : (i : Int) < (s.size : Int) := by omega
    have hi0 : (0 : Int) ≤ (i : Int) := by omega
    have hw : wrap64 ((i : Int) + 1) = ((i + 1 : Nat) : Int) := by rw [IntWalk.wrap64_in _ (by omega)]; omega
    have hwn : wrap64 ((n : Int) + 1) = ((n + 1 : Nat) : Int) := by rw [IntWalk.wrap64_in _ (by omega)]; omega
    have e1 : Int.tmod (n : Int) 2 = ((n % 2 : Nat) : Int) := by rw [Int.tmod_eq_emod_of_nonneg (by omega)]; simp
    have e2 : Int.tmod ((n + 1 : Nat) : Int) 2 = (((n + 1) % 2 : Nat) : Int) := by rw [Int.tmod_eq_emod_of_nonneg (by omega)]; omega
    have hdr := digv_rg (bt s (i : Int))
    have hrg := bt_rg s (i : Int)
    have hdg := rdigit_eq (bt s (i : Int)) hrg k (by omega)
    have hj : ∀ x : Bool, cleromancyref37_Bytes.j1 (k + 1) s b out n last (i : Int) x =
        some (if x = true then rof (prs b (s.data.toList.drop (i + 1)) (i + 1) high out) else if digv (bt s (i : Int)) < 0 then ([], (i : Int))
          else if high < 0 then rof (prs b (s.data.toList.drop (i + 1)) (i + 1) (digv (bt s (i : Int))) out) else rof (prs b (s.data.toList.drop (i + 1)) (i + 1) (-1) (out ++ [high * 16 + digv (bt s (i : Int))]))) := by
      intro x
      simp only [cleromancyref37_Bytes.j1, hw, hwn, e2]
      cases x with
      | true => simp only [if_true]; exact ih _ _ _ _ _ _ (by omega) (by omega) (by omega) ho he (by omega) hl0 hl1
      | false =>
        simp only [Bool.false_eq_true, if_false]
        rw [if_pos hi0, if_pos hil1, hdg, Option.bind_some]
        by_cases hd : digv (bt s (i : Int)) < 0
        · rw [if_pos hd, if_pos hd]
        · rw [if_neg hd, if_neg hd]
          rcases Nat.mod_two_eq_zero_or_one n with h | h
          · have h1 : (n + 1) % 2 = 1 := by omega
            have hh := he h
            rw [h1, if_neg (by decide), if_pos (by omega)]
            exact ih _ _ _ _ _ _ (by omega) (by omega) (by omega) (fun _ => ⟨rfl, by omega, by omega⟩) (fun h => by omega) (by omega) (by omega) (by omega)
          · have h1 : (n + 1) % 2 = 0 := by omega
            obtain ⟨rfl, h2, h3⟩ := ho h
            rw [h1, if_pos (by rfl), if_pos (by omega), if_neg (by omega)]
            have h4 : (wrap64 (wrap64 (16 * high) + digv (bt s (i : Int)))) % 256 = high * 16 + digv (bt s (i : Int)) := by
              rw [IntWalk.wrap64_in (16 * high) (by omega), IntWalk.wrap64_in _ (by omega)]; omega
            rw [h4]
            exact ih _ _ _ _ _ _ (by omega) (by omega) (by omega) (fun h => by omega) (fun _ => rfl) (by simp; omega) (by omega) (by omega)
    rw [list_at s i hil, prs, ← bt_nat s i hil]
    simp only [cleromancyref37_Bytes.l0, e1]
    rw [if_pos hil1]
    have hc := u8_32 (s[i]'hil)
    rw [← bt_nat s i hil] at hc
    have hfin : ∀ p : Prop, [Decidable p] → ∀ x y z u : List Int × Int × Int, (if p then rof x else rof y) = rof (if p then x else y) := fun p _ x y z u => by split <;> rfl
    have hlast : rof (([] : List Int), (i : Int), 2) = ([], (i : Int)) := rfl
    cases b with
    | false =>
      simp only [Bool.false_eq_true, if_false, false_and]
      rw [hj]
      simp only [Bool.false_eq_true, if_false]
      (repeat' split) <;> first | rfl | (exfalso; omega)
    | true =>
      simp only [if_true, true_and]
      rcases Nat.mod_two_eq_zero_or_one n with h | h
      · have hz : ((n % 2 : Nat) : Int) = 0 := by omega
        rw [if_pos hz, if_pos hi0, hj]
        have hh := he h
        by_cases h32 : bt s (i : Int) = 32
        · have h33 := hc.1 h32
          have h34 : (bt s (i : Int) == 32) = true := by simpa using h32
          have hcnd : s[i]'hil = 32 ∧ high < 0 := ⟨h33, by omega⟩
          rw [if_pos h34, if_pos hcnd]
        · have h34 : ¬ (bt s (i : Int) == 32) = true := by simpa using h32
          have hcnd : ¬ (s[i]'hil = 32 ∧ high < 0) := fun h => h32 (hc.2 h.1)
          rw [if_neg h34, if_neg hcnd]
          (repeat' split) <;> first | rfl | (exfalso; omega)
      · have hz : ¬ ((n % 2 : Nat) : Int) = 0 := by omega
        obtain ⟨rfl, h2, h3⟩ := ho h
        have hcnd : ¬ (s[i]'hil = 32 ∧ high < 0) := fun h => by omega
        rw [if_neg hz, hj, if_neg (by decide), if_neg hcnd]
        (repeat' split) <;> first | rfl | (exfalso; omega)

theorem rbytes_eq (s : ByteArray) (b : Bool) (hs : s.size ≤ 100000) (k : Nat) (hk : 2 * s.size + 1 < k) : cleromancyref37_Bytes.f k s b = some (rof (prs b s.data.toList 0 (-1) [])) := by
  have := ref_run s b hs s.size k 0 0 (-1) 0 [] (by omega) hk (by omega) (by omega) (by omega) (by simp) (by omega) (by omega)
  exact this

end Go.Proofs.YtpeebjnfmlfocaaDoor.TpP
