/- The law HexBytes: the plain facts on the reference's Bytes, and the walk of the law's own function. No condition beyond the law's own. -/
import Derived.Test.YtpeebjnfmlfocaaPrint2
import Derived.Test.YtpeebjnfmlfocaaHexP
import Derived.Test.YtpeebjnfmlfocaaPureHexBack
namespace Go.Proofs.Ytpeebjnfmlfocaa.Print
open Go.RowKit Go.Proofs.YtpeebjnfmlfocaaW.PrintWords Go.Proofs.YtpeebjnfmlfocaaW.PrintLast Go.Proofs.YtpeebjnfmlfocaaW.PrintMore
set_option linter.unusedVariables false

theorem rdigit_eq (c : Int) (h : 0 ≤ c ∧ c ≤ 255) (k : Nat) (hk : 0 < k) : cleromancyref37_Digit.f k c = some (digv c) := by
  obtain ⟨k, rfl⟩ : ∃ m, k = m + 1 := ⟨k - 1, by omega⟩
  unfold cleromancyref37_Digit.f digv
  simp only [cleromancyref37_Digit.j0, IntWalk.wrap64_in c (by omega), IntWalk.wrap64_in (c - 48) (by omega), IntWalk.wrap64_in (c - 97) (by omega), IntWalk.wrap64_in (c - 97 + 10) (by omega), Bool.false_eq_true, if_false, decide_eq_true_eq]
  (repeat' split) <;> first | rfl | (exfalso; omega) | (congr 1; omega)

/-- what the reference says, out of what pairs says -/
def rof (r : List Int × Int × Int) : List Int × Int := if r.2.2 = 0 then (r.1, -1) else ([], r.2.1)

theorem ref_run (s : ByteArray) (b : Bool) (hs : s.size ≤ 100000) (d : Nat) : ∀ (k i n : Nat) (high last : Int) (out : List Int), i + d = s.size → 2 * d + 1 < k → n ≤ i → (n % 2 = 1 → high = last ∧ 0 ≤ last ∧ last ≤ 15) → (n % 2 = 0 → high = -1) → out.length ≤ i →
    -1 ≤ last → last ≤ 15 →
    cleromancyref37_Bytes.l0 k s b out n last (i : Int) = some (rof (prs b (s.data.toList.drop i) i high out)) := by
  induction d with
  | zero =>
    intro k i n high last out hi hk hn ho he hl hl0 hl1
    obtain ⟨k, rfl⟩ : ∃ m, k = m + 1 := ⟨k - 1, by omega⟩
    have e1 : Int.tmod (n : Int) 2 = ((n % 2 : Nat) : Int) := by rw [Int.tmod_eq_emod_of_nonneg (by omega)]; simp
    simp only [cleromancyref37_Bytes.l0, e1]
    have : s.data.toList.length = s.size := by simp
    rw [if_neg (by omega), List.drop_of_length_le (by omega), prs]
    rcases Nat.mod_two_eq_zero_or_one n with h | h
    · rw [he h, h, if_neg (by decide), if_neg (by decide)]
      rfl
    · obtain ⟨rfl, h0, _⟩ := ho h
      rw [h, if_pos (by rfl), if_pos h0]
      have : (s.size : Int) = i := by omega
      rw [this]
      rfl
  | succ d ih =>
    intro k i n high last out hi hk hn ho he hl hl0 hl1
    obtain ⟨k, rfl⟩ : ∃ m, k = m + 1 + 1 := ⟨k - 2, by omega⟩
    have hil : i < s.size := by omega
    have hil1 : (i : Int) < (s.size : Int) := by omega
    have hi0 : (0 : Int) ≤ (i : Int) := by omega
    have hw : wrap64 ((i : Int) + 1) = ((i + 1 : Nat) : Int) := by rw [IntWalk.wrap64_in _ (by omega)]; omega
    have hwn : wrap64 ((n : Int) + 1) = ((n + 1 : Nat) : Int) := by rw [IntWalk.wrap64_in _ (by omega)]; omega
    have e1 : Int.tmod (n : Int) 2 = ((n % 2 : Nat) : Int) := by rw [Int.tmod_eq_emod_of_nonneg (by omega)]; simp
    have e2 : Int.tmod ((n + 1 : Nat) : Int) 2 = (((n + 1) % 2 : Nat) : Int) := by rw [Int.tmod_eq_emod_of_nonneg (by omega)]; omega
    have hdr := digv_rg (bt s (i : Int))
    have hrg := bt_rg s (i : Int)
    have hdg := rdigit_eq (bt s (i : Int)) hrg k (by omega)
    have hj : ∀ x : Bool, cleromancyref37_Bytes.j1 (k + 1) s b out n last (i : Int) x =
        some (if x = true then rof (prs b (s.data.toList.drop (i + 1)) (i + 1) high out) else if digv (bt s (i : Int)) < 0 then ([], (i : Int))
          else if high < 0 then rof (prs b (s.data.toList.drop (i + 1)) (i + 1) (digv (bt s (i : Int))) out) else rof (prs b (s.data.toList.drop (i + 1)) (i + 1) (-1) (out ++ [high * 16 + digv (bt s (i : Int))]))) := by
      intro x
      simp only [cleromancyref37_Bytes.j1, hw, hwn, e2]
      cases x with
      | true => simp only [if_true]; exact ih _ _ _ _ _ _ (by omega) (by omega) (by omega) ho he (by omega) hl0 hl1
      | false =>
        simp only [Bool.false_eq_true, if_false]
        rw [if_pos hi0, if_pos hil1, hdg, Option.bind_some]
        by_cases hd : digv (bt s (i : Int)) < 0
        · rw [if_pos hd, if_pos hd]
        · rw [if_neg hd, if_neg hd]
          rcases Nat.mod_two_eq_zero_or_one n with h | h
          · have h1 : (n + 1) % 2 = 1 := by omega
            have hh := he h
            rw [h1, if_neg (by decide), if_pos (by omega)]
            exact ih _ _ _ _ _ _ (by omega) (by omega) (by omega) (fun _ => ⟨rfl, by omega, by omega⟩) (fun h => by omega) (by omega) (by omega) (by omega)
          · have h1 : (n + 1) % 2 = 0 := by omega
            obtain ⟨rfl, h2, h3⟩ := ho h
            rw [h1, if_pos (by rfl), if_pos (by omega), if_neg (by omega)]
            have h4 : (wrap64 (wrap64 (16 * high) + digv (bt s (i : Int)))) % 256 = high * 16 + digv (bt s (i : Int)) := by
              rw [IntWalk.wrap64_in (16 * high) (by omega), IntWalk.wrap64_in _ (by omega)]; omega
            rw [h4]
            exact ih _ _ _ _ _ _ (by omega) (by omega) (by omega) (fun h => by omega) (fun _ => rfl) (by simp; omega) (by omega) (by omega)
    rw [list_at s i hil, prs, ← bt_nat s i hil]
    simp only [cleromancyref37_Bytes.l0, e1]
    rw [if_pos hil1]
    have hc := u8_32 (s[i]'hil)
    rw [← bt_nat s i hil] at hc
    have hfin : ∀ p : Prop, [Decidable p] → ∀ x y z u : List Int × Int × Int, (if p then rof x else rof y) = rof (if p then x else y) := fun p _ x y z u => by split <;> rfl
    have hlast : rof (([] : List Int), (i : Int), 2) = ([], (i : Int)) := rfl
    cases b with
    | false =>
      simp only [Bool.false_eq_true, if_false, false_and]
      rw [hj]
      simp only [Bool.false_eq_true, if_false]
      (repeat' split) <;> first | rfl | (exfalso; omega)
    | true =>
      simp only [if_true, true_and]
      rcases Nat.mod_two_eq_zero_or_one n with h | h
      · have hz : ((n % 2 : Nat) : Int) = 0 := by omega
        rw [if_pos hz, if_pos hi0, hj]
        have hh := he h
        by_cases h32 : bt s (i : Int) = 32
        · have h33 := hc.1 h32
          have h34 : (bt s (i : Int) == 32) = true := by simpa using h32
          have hcnd : s[i]'hil = 32 ∧ high < 0 := ⟨h33, by omega⟩
          rw [if_pos h34, if_pos hcnd]
        · have h34 : ¬ (bt s (i : Int) == 32) = true := by simpa using h32
          have hcnd : ¬ (s[i]'hil = 32 ∧ high < 0) := fun h => h32 (hc.2 h.1)
          rw [if_neg h34, if_neg hcnd]
          (repeat' split) <;> first | rfl | (exfalso; omega)
      · have hz : ¬ ((n % 2 : Nat) : Int) = 0 := by omega
        obtain ⟨rfl, h2, h3⟩ := ho h
        have hcnd : ¬ (s[i]'hil = 32 ∧ high < 0) := fun h => by omega
        rw [if_neg hz, hj, if_neg (by decide), if_neg hcnd]
        (repeat' split) <;> first | rfl | (exfalso; omega)

theorem rbytes_eq (s : ByteArray) (b : Bool) (hs : s.size ≤ 100000) (k : Nat) (hk : 2 * s.size + 1 < k) : cleromancyref37_Bytes.f k s b = some (rof (prs b s.data.toList 0 (-1) [])) := by
  have := ref_run s b hs s.size k 0 0 (-1) 0 [] (by omega) hk (by omega) (by omega) (by omega) (by simp) (by omega) (by omega)
  exact this

theorem prs_shape (b : Bool) (cs : List UInt8) : ∀ (i : Nat) (high : Int) (out : List Int),
    ((prs b cs i high out).2.2 = 0 ∧ (prs b cs i high out).2.1 = 0 ∧ (prs b cs i high out).1.length ≤ out.length + cs.length) ∨
    ((prs b cs i high out).2.2 = 2 ∧ (prs b cs i high out).1 = [] ∧ 0 ≤ (prs b cs i high out).2.1) := by
  induction cs with
  | nil =>
    intro i high out
    rw [prs]
    split
    · exact .inr ⟨rfl, rfl, by simp⟩
    · exact .inl ⟨rfl, rfl, by simp⟩
  | cons c cs ih =>
    intro i high out
    rw [prs]
    split
    · rcases ih (i + 1) high out with ⟨h1, h2, h3⟩ | h
      · exact .inl ⟨h1, h2, by simp; omega⟩
      · exact .inr h
    · split
      · exact .inr ⟨rfl, rfl, by simp⟩
      · split
        · rcases ih (i + 1) (digv (c.toNat : Int)) out with ⟨h1, h2, h3⟩ | h
          · exact .inl ⟨h1, h2, by simp; omega⟩
          · exact .inr h
        · rcases ih (i + 1) (-1) (out ++ [high * 16 + digv (c.toNat : Int)]) with ⟨h1, h2, h3⟩ | h
          · exact .inl ⟨h1, h2, by simp at h3 ⊢; omega⟩
          · exact .inr h

theorem same_list (l : List Int) (hl : l.length ≤ 100000) : cleromancyref01_Same.f 100001 l l = some true := Pure.same_self l hl _ (by omega)

theorem same_R {v u : Value} {xs : List Int} {w1 w2 w : World} {b1 b2 : Nat} (h1 : Kd.R (Kd.int .u8) 5 w1 b1 (fun _ => True) v xs) (k1 : Below w1.heap.size w1 w) (h2 : Kd.R (Kd.int .u8) 5 w2 b2 (fun _ => True) u xs) (k2 : Below w2.heap.size w2 w) (hl : xs.length ≤ 100000) :
    Calls Try.prog 14 #[v, u] w fun e w' => e = .returned (.bool true) ∧ Drawn0 w w' := by
  obtain ⟨A, c, rfl, hc, hC⟩ := Kd.R_reads h1
  obtain ⟨B, d, rfl, hd, hD⟩ := Kd.R_reads h2
  exact cleromancyref01_Same.calls 100001 A c xs B d xs true w (Kd.C_below hC k1) hc (Kd.C_below hD k2) hd (same_list xs hl)

theorem len_R {v : Value} {xs : List Int} {w : World} {b : Nat} (h : Kd.R (Kd.int .u8) 5 w b (fun _ => True) v xs) : ∃ A c, v = .slice A xs.length c := Kd.R_slice h

set_option maxHeartbeats 4000000 in
set_option maxRecDepth 100000 in
theorem hexBytes_main (s : ByteArray) (hs : s.size ≤ 1000) (w : World) :
    Calls Try.prog 4 #[.string s] w fun e w' => e = .returned (.bool true) ∧ Below w.heap.size w w' := by
  have hdl : s.data.toList.length = s.size := by simp
  have hB := bytes_eq s (by omega) 10000 (by omega)
  have hO := of_eq s (by omega) 10000 (by omega)
  have hx := rbytes_eq s false (by omega) 10000 (by omega)
  have hy := rbytes_eq s true (by omega) 10000 (by omega)
  have hp := prs_shape false s.data.toList 0 (-1) []
  have hq := prs_shape true s.data.toList 0 (-1) []
  obtain ⟨⟨a, at1, e⟩, hP⟩ : ∃ p, p = prs false s.data.toList 0 (-1) [] := ⟨_, rfl⟩
  obtain ⟨⟨b, bt1, f⟩, hQ⟩ : ∃ p, p = prs true s.data.toList 0 (-1) [] := ⟨_, rfl⟩
  rw [← hP] at hB hx hp
  rw [← hQ] at hO hy hq
  clear hP hQ
  have hsz : ¬ (1000 < (s.size : Int)) := by omega
  simp only [List.length_nil, Nat.zero_add] at hp hq
  rcases hp with ⟨rfl, rfl, hp⟩ | ⟨rfl, rfl, hp⟩ <;> rcases hq with ⟨rfl, rfl, hq⟩ | ⟨rfl, rfl, hq⟩
  · have ha : a.length ≤ 100000 := by omega
    have hb : b.length ≤ 100000 := by omega
    have HX : cleromancyref37_Bytes.f 10000 s false = some (a, -1) := hx
    have HY : cleromancyref37_Bytes.f 10000 s true = some (b, -1) := hy
    have h1 := Lib.hid hB; have h2 := Lib.hid hO; have h3 := Lib.hid HX; have h4 := Lib.hid HY
    clear hx hy HX HY hB hO hdl
    go_enter Try.func4, Try.ntmps4
    go_wp2_with (first
      | (go_at_call 10; (with_reducible refine (cleromancylaw37_awake.calls true _ Pure.awake37).mono ?_); rintro e w1 ⟨rfl, hb1⟩)
      | (go_at_call 11; (with_reducible refine (hex_Bytes.calls 10000 s a _ _ _ h1.out).mono ?_); rintro e w2 ⟨v1, rfl, hR2, hb2⟩; obtain ⟨A1, c1, rfl⟩ := len_R hR2; have HR2 := Lib.hid hR2; clear hR2)
      | (go_at_call 12; (with_reducible refine (hex_Of.calls 10000 s b _ _ _ h2.out).mono ?_); rintro e w3 ⟨v2, rfl, hR3, hb3⟩; obtain ⟨A2, c2, rfl⟩ := len_R hR3; have HR3 := Lib.hid hR3; clear hR3)
      | (go_at_call 13; (with_reducible refine (cleromancyref37_Bytes.calls 10000 s false a _ _ h3.out).mono ?_); rintro e w4 ⟨v3, rfl, hR4, hb4⟩; obtain ⟨A3, c3, rfl⟩ := len_R hR4; have HR4 := Lib.hid hR4; clear hR4)
      | (go_at_call 13; (with_reducible refine (cleromancyref37_Bytes.calls 10000 s true b _ _ h4.out).mono ?_); rintro e w5 ⟨v4, rfl, hR5, hb5⟩; obtain ⟨A4, c4, rfl⟩ := len_R hR5; have HR5 := Lib.hid hR5; clear hR5)
      | (go_at_call 14; (with_reducible refine (same_R HR2.out ((hb3.trans (hb4.mono hb3.size)).trans (hb5.mono (Nat.le_trans hb3.size hb4.size))) HR4.out hb5 ha).mono ?_); rintro e w6 ⟨rfl, ⟨n6, rfl⟩⟩)
      | (go_at_call 14; (with_reducible refine (same_R HR3.out ((hb4.trans (hb5.mono hb4.size)).trans ((Drawn0.step (Drawn0.refl _) _).below.mono (Nat.le_trans hb4.size hb5.size))) HR5.out (Drawn0.step (Drawn0.refl _) _).below hb).mono ?_); rintro e w7 ⟨rfl, ⟨n7, rfl⟩⟩)
      | (go_at_call 14; (with_reducible refine (same_R HR3.out (hb4.trans (hb5.mono hb4.size)) HR5.out (Below.refl _ _) hb).mono ?_); rintro e w7 ⟨rfl, ⟨n7, rfl⟩⟩))
    go_ret
    refine ⟨rfl, ?_⟩
    have z1 := hb1.size; have z2 := hb2.size; have z3 := hb3.size; have z4 := hb4.size; have z5 := hb5.size
    have hB5 := (((hb1.trans (hb2.mono z1)).trans (hb3.mono (Nat.le_trans z1 z2))).trans (hb4.mono (by omega))).trans (hb5.mono (by omega))
    repeat (first | exact hB5 | apply pw_below_drewN)
  · have ha : a.length ≤ 100000 := by omega
    have hb : True := trivial
    have HX : cleromancyref37_Bytes.f 10000 s false = some (a, -1) := hx
    have HY : cleromancyref37_Bytes.f 10000 s true = some ([], bt1) := hy
    have h1 := Lib.hid hB; have h2 := Lib.hid hO; have h3 := Lib.hid HX; have h4 := Lib.hid HY
    clear hx hy HX HY hB hO hdl
    go_enter Try.func4, Try.ntmps4
    go_wp2_with (first
      | (go_at_call 10; (with_reducible refine (cleromancylaw37_awake.calls true _ Pure.awake37).mono ?_); rintro e w1 ⟨rfl, hb1⟩)
      | (go_at_call 11; (with_reducible refine (hex_Bytes.calls 10000 s a _ _ _ h1.out).mono ?_); rintro e w2 ⟨v1, rfl, hR2, hb2⟩; obtain ⟨A1, c1, rfl⟩ := len_R hR2; have HR2 := Lib.hid hR2; clear hR2)
      | (go_at_call 12; (with_reducible refine (hex_Of.calls 10000 s [] _ _ _ h2.out).mono ?_); rintro e w3 ⟨v2, rfl, hR3, hb3⟩; obtain ⟨A2, c2, rfl⟩ := len_R hR3; have HR3 := Lib.hid hR3; clear hR3)
      | (go_at_call 13; (with_reducible refine (cleromancyref37_Bytes.calls 10000 s false a _ _ h3.out).mono ?_); rintro e w4 ⟨v3, rfl, hR4, hb4⟩; obtain ⟨A3, c3, rfl⟩ := len_R hR4; have HR4 := Lib.hid hR4; clear hR4)
      | (go_at_call 13; (with_reducible refine (cleromancyref37_Bytes.calls 10000 s true [] _ _ h4.out).mono ?_); rintro e w5 ⟨v4, rfl, hR5, hb5⟩; obtain ⟨A4, c4, rfl⟩ := len_R hR5; have HR5 := Lib.hid hR5; clear hR5)
      | (go_at_call 14; (with_reducible refine (same_R HR2.out ((hb3.trans (hb4.mono hb3.size)).trans (hb5.mono (Nat.le_trans hb3.size hb4.size))) HR4.out hb5 ha).mono ?_); rintro e w6 ⟨rfl, ⟨n6, rfl⟩⟩)
      | (go_at_call 14; (with_reducible refine (same_R HR3.out ((hb4.trans (hb5.mono hb4.size)).trans ((Drawn0.step (Drawn0.refl _) _).below.mono (Nat.le_trans hb4.size hb5.size))) HR5.out (Drawn0.step (Drawn0.refl _) _).below hb).mono ?_); rintro e w7 ⟨rfl, ⟨n7, rfl⟩⟩)
      | (go_at_call 14; (with_reducible refine (same_R HR3.out (hb4.trans (hb5.mono hb4.size)) HR5.out (Below.refl _ _) hb).mono ?_); rintro e w7 ⟨rfl, ⟨n7, rfl⟩⟩))
    go_ret
    refine ⟨rfl, ?_⟩
    have z1 := hb1.size; have z2 := hb2.size; have z3 := hb3.size; have z4 := hb4.size; have z5 := hb5.size
    have hB5 := (((hb1.trans (hb2.mono z1)).trans (hb3.mono (Nat.le_trans z1 z2))).trans (hb4.mono (by omega))).trans (hb5.mono (by omega))
    repeat (first | exact hB5 | apply pw_below_drewN)
  · have ha : True := trivial
    have hb : b.length ≤ 100000 := by omega
    have HX : cleromancyref37_Bytes.f 10000 s false = some ([], at1) := hx
    have HY : cleromancyref37_Bytes.f 10000 s true = some (b, -1) := hy
    have h1 := Lib.hid hB; have h2 := Lib.hid hO; have h3 := Lib.hid HX; have h4 := Lib.hid HY
    clear hx hy HX HY hB hO hdl
    go_enter Try.func4, Try.ntmps4
    go_wp2_with (first
      | (go_at_call 10; (with_reducible refine (cleromancylaw37_awake.calls true _ Pure.awake37).mono ?_); rintro e w1 ⟨rfl, hb1⟩)
      | (go_at_call 11; (with_reducible refine (hex_Bytes.calls 10000 s [] _ _ _ h1.out).mono ?_); rintro e w2 ⟨v1, rfl, hR2, hb2⟩; obtain ⟨A1, c1, rfl⟩ := len_R hR2; have HR2 := Lib.hid hR2; clear hR2)
      | (go_at_call 12; (with_reducible refine (hex_Of.calls 10000 s b _ _ _ h2.out).mono ?_); rintro e w3 ⟨v2, rfl, hR3, hb3⟩; obtain ⟨A2, c2, rfl⟩ := len_R hR3; have HR3 := Lib.hid hR3; clear hR3)
      | (go_at_call 13; (with_reducible refine (cleromancyref37_Bytes.calls 10000 s false [] _ _ h3.out).mono ?_); rintro e w4 ⟨v3, rfl, hR4, hb4⟩; obtain ⟨A3, c3, rfl⟩ := len_R hR4; have HR4 := Lib.hid hR4; clear hR4)
      | (go_at_call 13; (with_reducible refine (cleromancyref37_Bytes.calls 10000 s true b _ _ h4.out).mono ?_); rintro e w5 ⟨v4, rfl, hR5, hb5⟩; obtain ⟨A4, c4, rfl⟩ := len_R hR5; have HR5 := Lib.hid hR5; clear hR5)
      | (go_at_call 14; (with_reducible refine (same_R HR2.out ((hb3.trans (hb4.mono hb3.size)).trans (hb5.mono (Nat.le_trans hb3.size hb4.size))) HR4.out hb5 ha).mono ?_); rintro e w6 ⟨rfl, ⟨n6, rfl⟩⟩)
      | (go_at_call 14; (with_reducible refine (same_R HR3.out ((hb4.trans (hb5.mono hb4.size)).trans ((Drawn0.step (Drawn0.refl _) _).below.mono (Nat.le_trans hb4.size hb5.size))) HR5.out (Drawn0.step (Drawn0.refl _) _).below hb).mono ?_); rintro e w7 ⟨rfl, ⟨n7, rfl⟩⟩)
      | (go_at_call 14; (with_reducible refine (same_R HR3.out (hb4.trans (hb5.mono hb4.size)) HR5.out (Below.refl _ _) hb).mono ?_); rintro e w7 ⟨rfl, ⟨n7, rfl⟩⟩))
    go_ret
    refine ⟨rfl, ?_⟩
    have z1 := hb1.size; have z2 := hb2.size; have z3 := hb3.size; have z4 := hb4.size; have z5 := hb5.size
    have hB5 := (((hb1.trans (hb2.mono z1)).trans (hb3.mono (Nat.le_trans z1 z2))).trans (hb4.mono (by omega))).trans (hb5.mono (by omega))
    repeat (first | exact hB5 | apply pw_below_drewN)
  · have ha : True := trivial
    have hb : True := trivial
    have HX : cleromancyref37_Bytes.f 10000 s false = some ([], at1) := hx
    have HY : cleromancyref37_Bytes.f 10000 s true = some ([], bt1) := hy
    have h1 := Lib.hid hB; have h2 := Lib.hid hO; have h3 := Lib.hid HX; have h4 := Lib.hid HY
    clear hx hy HX HY hB hO hdl
    go_enter Try.func4, Try.ntmps4
    go_wp2_with (first
      | (go_at_call 10; (with_reducible refine (cleromancylaw37_awake.calls true _ Pure.awake37).mono ?_); rintro e w1 ⟨rfl, hb1⟩)
      | (go_at_call 11; (with_reducible refine (hex_Bytes.calls 10000 s [] _ _ _ h1.out).mono ?_); rintro e w2 ⟨v1, rfl, hR2, hb2⟩; obtain ⟨A1, c1, rfl⟩ := len_R hR2; have HR2 := Lib.hid hR2; clear hR2)
      | (go_at_call 12; (with_reducible refine (hex_Of.calls 10000 s [] _ _ _ h2.out).mono ?_); rintro e w3 ⟨v2, rfl, hR3, hb3⟩; obtain ⟨A2, c2, rfl⟩ := len_R hR3; have HR3 := Lib.hid hR3; clear hR3)
      | (go_at_call 13; (with_reducible refine (cleromancyref37_Bytes.calls 10000 s false [] _ _ h3.out).mono ?_); rintro e w4 ⟨v3, rfl, hR4, hb4⟩; obtain ⟨A3, c3, rfl⟩ := len_R hR4; have HR4 := Lib.hid hR4; clear hR4)
      | (go_at_call 13; (with_reducible refine (cleromancyref37_Bytes.calls 10000 s true [] _ _ h4.out).mono ?_); rintro e w5 ⟨v4, rfl, hR5, hb5⟩; obtain ⟨A4, c4, rfl⟩ := len_R hR5; have HR5 := Lib.hid hR5; clear hR5)
      | (go_at_call 14; (with_reducible refine (same_R HR2.out ((hb3.trans (hb4.mono hb3.size)).trans (hb5.mono (Nat.le_trans hb3.size hb4.size))) HR4.out hb5 ha).mono ?_); rintro e w6 ⟨rfl, ⟨n6, rfl⟩⟩)
      | (go_at_call 14; (with_reducible refine (same_R HR3.out ((hb4.trans (hb5.mono hb4.size)).trans ((Drawn0.step (Drawn0.refl _) _).below.mono (Nat.le_trans hb4.size hb5.size))) HR5.out (Drawn0.step (Drawn0.refl _) _).below hb).mono ?_); rintro e w7 ⟨rfl, ⟨n7, rfl⟩⟩)
      | (go_at_call 14; (with_reducible refine (same_R HR3.out (hb4.trans (hb5.mono hb4.size)) HR5.out (Below.refl _ _) hb).mono ?_); rintro e w7 ⟨rfl, ⟨n7, rfl⟩⟩))
    go_ret
    refine ⟨rfl, ?_⟩
    have z1 := hb1.size; have z2 := hb2.size; have z3 := hb3.size; have z4 := hb4.size; have z5 := hb5.size
    have hB5 := (((hb1.trans (hb2.mono z1)).trans (hb3.mono (Nat.le_trans z1 z2))).trans (hb4.mono (by omega))).trans (hb5.mono (by omega))
    repeat (first | exact hB5 | apply pw_below_drewN)

set_option maxHeartbeats 1000000 in
theorem hexBytes_walk (s : ByteArray) (hm : s.size ≤ maxLen) (w : World) :
    Calls Try.prog 4 #[.string s] w fun e w' => e = .returned (.bool true) ∧ Below w.heap.size w w' := by
  by_cases hs : s.size ≤ 1000
  · exact hexBytes_main s hs w
  · have hsz : 1000 < (s.size : Int) := by omega
    unfold maxLen at hm
    go_enter Try.func4, Try.ntmps4
    go_wp2_with (first
      | (go_at_call 10; (with_reducible refine (cleromancylaw37_awake.calls true _ Pure.awake37).mono ?_); rintro e w1 ⟨rfl, hb1⟩))
    go_ret
    exact ⟨rfl, hb1⟩
end Go.Proofs.Ytpeebjnfmlfocaa.Print
