/- Plain facts on hex: what pairs and the reference's Bytes answer, as one plain function over lists. -/
import Derived.Test.YtpeebjnfmlfocaaPrint1
import Derived.IntWalk
namespace Go.Proofs.Ytpeebjnfmlfocaa.Print
open Go.RowKit Go.Proofs.YtpeebjnfmlfocaaW.PrintWords Go.Proofs.YtpeebjnfmlfocaaW.PrintLast Go.Proofs.YtpeebjnfmlfocaaW.PrintMore

/-- the pairs of digits of a text, from place i on; high: the first digit of a pair, or -1 -/
def prs (b : Bool) : List UInt8 → Nat → Int → List Int → List Int × Int × Int
  | [], i, high, out => if high ≥ 0 then ([], (i : Int), 2) else (out, 0, 0)
  | c :: cs, i, high, out =>
    if b = true ∧ c = 32 ∧ high < 0 then prs b cs (i + 1) high out
    else if digv (c.toNat : Int) < 0 then ([], (i : Int), 2)
    else if high < 0 then prs b cs (i + 1) (digv (c.toNat : Int)) out
    else prs b cs (i + 1) (-1) (out ++ [high * 16 + digv (c.toNat : Int)])

theorem digv_rg (c : Int) : -1 ≤ digv c ∧ digv c ≤ 15 := by unfold digv; omega
theorem digit_eq (c : Int) (h : 0 ≤ c ∧ c ≤ 255) : hex_digit.f c = some (digv c) := by unfold hex_digit.f; rw [if_pos h]
theorem bt_rg (s : ByteArray) (i : Int) : 0 ≤ bt s i ∧ bt s i ≤ 255 := by
  unfold bt
  split
  · rename_i h
    have := (s[i.toNat]'h).toNat_lt
    omega
  · omega
theorem or_eq (h t : Int) (h0 : 0 ≤ h ∧ h ≤ 15) (t0 : 0 ≤ t ∧ t ≤ 15) : (Go.bits .or .i64 (wrap64 (h * 16)) t) % 256 = h * 16 + t := by
  obtain ⟨a, rfl⟩ : ∃ a : Nat, h = a := ⟨h.toNat, by omega⟩
  obtain ⟨b, rfl⟩ : ∃ b : Nat, t = b := ⟨t.toNat, by omega⟩
  have : ∀ a b : Fin 16, (Go.bits .or .i64 (wrap64 ((a.1 : Int) * 16)) (b.1 : Int)) % 256 = (a.1 : Int) * 16 + b.1 := by decide +kernel
  exact this ⟨a, by omega⟩ ⟨b, by omega⟩

theorem list_at (s : ByteArray) (i : Nat) (h : i < s.size) : s.data.toList.drop i = s[i] :: s.data.toList.drop (i + 1) := by
  rw [List.drop_eq_getElem_cons (by simpa using h)]
  rfl
theorem bt_nat (s : ByteArray) (i : Nat) (h : i < s.size) : bt s (i : Int) = ((s[i]'h).toNat : Int) := by
  unfold bt
  simp [h]
theorem u8_32 (c : UInt8) : ((c.toNat : Int) = 32) ↔ c = 32 := by
  constructor
  · intro h
    apply UInt8.toNat_inj.1
    have : c.toNat = 32 := by omega
    rw [this]; rfl
  · rintro rfl; rfl

theorem pairs_run (s : ByteArray) (b : Bool) (hs : s.size ≤ 100000) (d : Nat) : ∀ (k i : Nat) (high : Int) (out : List Int), i + d = s.size → 2 * d < k → -1 ≤ high → high ≤ 15 → out.length ≤ i →
    hex_pairs.l0 k s b out high (s.size : Int) (i : Int) = some (prs b (s.data.toList.drop i) i high out) := by
  induction d with
  | zero =>
    intro k i high out hi hk h0 h1 ho
    obtain ⟨k, rfl⟩ : ∃ m, k = m + 1 := ⟨k - 1, by omega⟩
    simp only [hex_pairs.l0]
    have : s.data.toList.length = s.size := by simp
    rw [if_neg (by omega), List.drop_of_length_le (by omega), prs]
    by_cases hh : high ≥ 0
    · rw [if_pos hh, if_pos hh]
      have : (s.size : Int) = i := by omega
      rw [this]
    · rw [if_neg hh, if_neg hh]
  | succ d ih =>
    intro k i high out hi hk h0 h1 ho
    obtain ⟨k, rfl⟩ : ∃ m, k = m + 1 + 1 := ⟨k - 2, by omega⟩
    have hil : i < s.size := by omega
    have hw : wrap64 ((i : Int) + 1) = ((i + 1 : Nat) : Int) := by rw [IntWalk.wrap64_in _ (by omega)]; omega
    have hdg := digit_eq (bt s (i : Int)) (bt_rg s _)
    have hdr := digv_rg (bt s (i : Int))
    -- the second half of a round
    have hj : ∀ x : Bool, hex_pairs.j1 (k + 1) s b out high (i : Int) (s.size : Int) (i : Int) x =
        some (if x = true then prs b (s.data.toList.drop (i + 1)) (i + 1) high out else if digv (bt s (i : Int)) < 0 then ([], (i : Int), 2)
          else if high < 0 then prs b (s.data.toList.drop (i + 1)) (i + 1) (digv (bt s (i : Int))) out else prs b (s.data.toList.drop (i + 1)) (i + 1) (-1) (out ++ [high * 16 + digv (bt s (i : Int))])) := by
      intro x
      simp only [hex_pairs.j1, hw]
      cases x with
      | true => simp only [if_true]; exact ih _ _ _ _ (by omega) (by omega) h0 h1 (by omega)
      | false =>
        simp only [Bool.false_eq_true, if_false]
        rw [if_pos (by omega), if_pos (by omega), hdg, Option.bind_some]
        by_cases hd : digv (bt s (i : Int)) < 0
        · rw [if_pos hd, if_pos hd]
        · rw [if_neg hd, if_neg hd]
          by_cases hh : high < 0
          · rw [if_pos hh, if_pos hh]
            exact ih _ _ _ _ (by omega) (by omega) (by omega) (by omega) (by omega)
          · rw [if_neg hh, if_neg hh, if_pos (by omega), or_eq _ _ (by omega) (by omega)]
            exact ih _ _ _ _ (by omega) (by omega) (by omega) (by omega) (by simp; omega)
    rw [list_at s i hil, prs, ← bt_nat s i hil]
    simp only [hex_pairs.l0]
    rw [if_pos (by omega)]
    have hc := u8_32 (s[i]'hil)
    rw [← bt_nat s i hil] at hc
    cases b with
    | false =>
      simp only [Bool.false_eq_true, if_false, false_and]
      rw [hj]
      simp
    | true =>
      simp only [if_true, true_and]
      rw [if_pos (by omega), if_pos (by omega)]
      by_cases h32 : bt s (i : Int) = 32
      · rw [if_pos h32, hj]
        have h33 := hc.1 h32
        by_cases hh : high < 0
        · simp [hh, h33]
        · simp [hh, h33]
      · rw [if_neg h32, hj]
        have h33 : ¬ s[i]'hil = 32 := fun h => h32 (hc.2 h)
        simp [h33]

theorem bytes_eq (s : ByteArray) (hs : s.size ≤ 100000) (k : Nat) (hk : 2 * s.size < k) : hex_Bytes.f k s = some (prs false s.data.toList 0 (-1) []) := by
  have := pairs_run s false hs s.size k 0 (-1) [] (by omega) hk (by omega) (by omega) (by simp)
  simp only [hex_Bytes.f, hex_pairs.f]
  rw [show ((0 : Int)) = ((0 : Nat) : Int) from rfl, this, Option.bind_some]
  rfl
theorem of_eq (s : ByteArray) (hs : s.size ≤ 100000) (k : Nat) (hk : 2 * s.size < k) : hex_Of.f k s = some (prs true s.data.toList 0 (-1) []) := by
  have := pairs_run s true hs s.size k 0 (-1) [] (by omega) hk (by omega) (by omega) (by simp)
  simp only [hex_Of.f, hex_pairs.f]
  rw [show ((0 : Int)) = ((0 : Nat) : Int) from rfl, this, Option.bind_some]
  rfl

theorem digv_dg (q : Int) (h : 0 ≤ q ∧ q ≤ 15) : digv ((dg q).toNat : Int) = q ∧ dg q ≠ 32 := by
  obtain ⟨a, rfl⟩ : ∃ a : Nat, q = a := ⟨q.toNat, by omega⟩
  have : ∀ a : Fin 16, digv ((dg (a.1 : Int)).toNat : Int) = a.1 ∧ dg (a.1 : Int) ≠ 32 := by decide
  exact this ⟨a, by omega⟩
theorem dg_digv (c : UInt8) (h : 0 ≤ digv (c.toNat : Int)) : dg (digv (c.toNat : Int)) = c := by
  have : ∀ a : Fin 256, 0 ≤ digv ((UInt8.ofNat a.1).toNat : Int) → dg (digv ((UInt8.ofNat a.1).toNat : Int)) = UInt8.ofNat a.1 := by decide +kernel
  have h2 := this ⟨c.toNat, c.toNat_lt⟩
  simp only [UInt8.ofNat_toNat] at h2
  exact h2 h

theorem prs_pair (b : Bool) (x : Int) (hx : 0 ≤ x ∧ x ≤ 255) (cs : List UInt8) (i : Nat) (out : List Int) :
    prs b (hexL [x] ++ cs) i (-1) out = prs b cs (i + 1 + 1) (-1) (out ++ [x]) := by
  obtain ⟨a1, a2⟩ := digv_dg (x / 16) (by omega)
  obtain ⟨b1, b2⟩ := digv_dg (x % 16) (by omega)
  show prs b (dg (x / 16) :: dg (x % 16) :: cs) i (-1) out = _
  rw [prs, if_neg (fun h => a2 h.2.1), a1, if_neg (by omega), if_pos (by omega)]
  rw [prs, if_neg (fun h => b2 h.2.1), b1, if_neg (by omega), if_neg (by omega)]
  rw [show x / 16 * 16 + x % 16 = x by omega]

theorem prs_text (b : Bool) (l : List Int) : ∀ (i : Nat) (out : List Int), (∀ x ∈ l, 0 ≤ x ∧ x ≤ 255) → prs b (hexL l) i (-1) out = (out ++ l, 0, 0) := by
  induction l with
  | nil => intro i out _; simp [hexL, prs]
  | cons x l ih =>
    intro i out h
    rw [hexL_cons, prs_pair b x (h x (by simp)), ih _ _ (fun y hy => h y (by simp [hy]))]
    simp

theorem prs_groups (n : Nat) (l : List Int) : ∀ (j i : Nat) (out : List Int), (∀ x ∈ l, 0 ≤ x ∧ x ≤ 255) → prs true (refG n j l) i (-1) out = (out ++ l, 0, 0) := by
  induction l with
  | nil => intro j i out _; simp [refG, prs]
  | cons x l ih =>
    intro j i out h
    have hx := h x (by simp)
    have hr := fun i => ih (j + 1) i (out ++ [x]) (fun y hy => h y (by simp [hy]))
    rw [refG]
    split
    · rw [List.append_assoc]
      show prs true (32 :: (hexL [x] ++ refG n (j + 1) l)) i (-1) out = _
      rw [prs, if_pos ⟨rfl, rfl, by omega⟩, prs_pair true x hx, hr]
      simp
    · rw [List.nil_append, prs_pair true x hx, hr]
      simp

theorem prs_back (cs : List UInt8) : ∀ (i : Nat) (high : Int) (out : List Int), -1 ≤ high → high ≤ 15 →
    ((prs false cs i high out).2.2 = 0 ∧ (prs false cs i high out).2.1 = 0 ∧ ∃ l, (prs false cs i high out).1 = out ++ l ∧ (∀ x ∈ l, 0 ≤ x ∧ x ≤ 255) ∧ hexL l = (if high < 0 then cs else dg high :: cs)) ∨
    ((prs false cs i high out).2.2 = 2 ∧ (prs false cs i high out).1 = [] ∧ (i : Int) ≤ (prs false cs i high out).2.1 ∧ (prs false cs i high out).2.1 ≤ ((i + cs.length : Nat) : Int)) := by
  induction cs with
  | nil =>
    intro i high out h0 h1
    rw [prs]
    by_cases hh : high ≥ 0
    · rw [if_pos hh]
      exact .inr ⟨rfl, rfl, by simp, by simp⟩
    · rw [if_neg hh]
      refine .inl ⟨rfl, rfl, [], by simp, by simp, ?_⟩
      rw [if_pos (by omega)]
      rfl
  | cons c cs ih =>
    intro i high out h0 h1
    have hr := digv_rg (c.toNat : Int)
    rw [prs, if_neg (by simp)]
    by_cases hd : digv (c.toNat : Int) < 0
    · rw [if_pos hd]
      exact .inr ⟨rfl, rfl, by simp, by simp; omega⟩
    · rw [if_neg hd]
      have hc := dg_digv c (by omega)
      by_cases hh : high < 0
      · rw [if_pos hh, if_pos hh]
        rcases ih (i + 1) (digv (c.toNat : Int)) out (by omega) (by omega) with ⟨a1, a2, l, a3, a4, a5⟩ | ⟨a1, a2, a3, a4⟩
        · refine .inl ⟨a1, a2, l, a3, a4, ?_⟩
          rw [a5, if_neg (by omega), hc]
        · exact .inr ⟨a1, a2, by omega, by simp at a4 ⊢; omega⟩
      · rw [if_neg hh, if_neg hh]
        rcases ih (i + 1) (-1) (out ++ [high * 16 + digv (c.toNat : Int)]) (by omega) (by omega) with ⟨a1, a2, l, a3, a4, a5⟩ | ⟨a1, a2, a3, a4⟩
        · refine .inl ⟨a1, a2, (high * 16 + digv (c.toNat : Int)) :: l, by rw [a3]; simp, ?_, ?_⟩
          · intro x hx
            rcases List.mem_cons.1 hx with rfl | hx
            · omega
            · exact a4 x hx
          · rw [if_pos (by omega)] at a5
            rw [hexL_cons, a5]
            show [dg ((high * 16 + digv (c.toNat : Int)) / 16), dg ((high * 16 + digv (c.toNat : Int)) % 16)] ++ cs = _
            rw [show (high * 16 + digv (c.toNat : Int)) / 16 = high by omega, show (high * 16 + digv (c.toNat : Int)) % 16 = digv (c.toNat : Int) by omega, hc]
            rfl
        · exact .inr ⟨a1, a2, by omega, by simp at a4 ⊢; omega⟩
end Go.Proofs.Ytpeebjnfmlfocaa.Print
