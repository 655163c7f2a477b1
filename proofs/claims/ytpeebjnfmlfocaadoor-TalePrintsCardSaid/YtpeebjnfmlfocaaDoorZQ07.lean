/- tale.Line and the document's Line in the print's form, given. Conditions: bytes in range, at most 1000000 of them. -/
import Derived.Test.YtpeebjnfmlfocaaDoorZQ06
import Derived.Test.YtpeebjnfmlfocaaDoorZQ03
namespace Go.Proofs.YtpeebjnfmlfocaaDoor.TpR
open Go.RowKit Go.Proofs.YtpeebjnfmlfocaaDoorW.PrintWords Go.Proofs.YtpeebjnfmlfocaaDoorW.PrintLast Go.Proofs.YtpeebjnfmlfocaaDoorW.PrintMore
set_option linter.unusedVariables false
set_option linter.unusedSimpArgs false
def rlG (K N I D P : Int) (n : Nat) (dS : Int → ByteArray) (T : ByteArray) : ByteArray × Bool :=
  if K = 1 ∧ N = 0 ∧ D = 0 ∧ P = 0 then ((⟨#[100, 101, 108, 105, 118, 101, 114, 32]⟩ : ByteArray) ++ dS I, true) else
  if K = 2 ∧ N = 0 ∧ D = 0 ∧ P = 0 then ((⟨#[99, 111, 112, 121, 32]⟩ : ByteArray) ++ dS I, true) else
  if K = 3 ∧ N = 0 ∧ D = 0 ∧ P = 0 then ((⟨#[108, 111, 115, 101, 32]⟩ : ByteArray) ++ dS I, true) else
  if K = 4 ∧ I = 0 ∧ P = 0 then ((⟨#[116, 105, 99, 107, 32]⟩ : ByteArray) ++ dS N ++ ⟨#[32]⟩ ++ dS D, true) else
  if K = 5 ∧ N = 0 ∧ D = 0 then ((⟨#[116, 101, 97, 114, 32]⟩ : ByteArray) ++ dS I ++ ⟨#[32]⟩ ++ dS P, true) else
  if K = 6 ∧ I = 0 ∧ D = 0 ∧ P = 0 then ((⟨#[102, 97, 108, 108, 32]⟩ : ByteArray) ++ dS N, true) else
  if K = 7 ∧ D = 0 ∧ P = 0 then (if 0 < n then (⟨#[105, 110, 106, 101, 99, 116, 32]⟩ : ByteArray) ++ dS N ++ ⟨#[32]⟩ ++ dS I ++ ⟨#[32]⟩ ++ T else (⟨#[105, 110, 106, 101, 99, 116, 32]⟩ : ByteArray) ++ dS N ++ ⟨#[32]⟩ ++ dS I, true) else
  (⟨#[]⟩, false)
instance (n : Int) : Decidable (mayB n) := by unfold mayB; infer_instance
def rlBad (K N I D P : Int) (n : Nat) : Prop := ¬ mayB N ∨ ¬ mayB I ∨ ¬ mayB D ∨ ¬ mayB P ∨ (K ≠ 7 ∧ 0 < n)
instance (K N I D P : Int) (n : Nat) : Decidable (rlBad K N I D P n) := by unfold rlBad; infer_instance
def refLine (K N I D P : Int) (bs : List Int) : ByteArray × Bool := if rlBad K N I D P bs.length then (⟨#[]⟩, false) else rlG K N I D P bs.length itoaB ⟨(Th.hexL bs).toArray⟩
abbrev RArgs (K N I D P : Int) (n : Nat) (A5 : Option Addr) (c5 : Nat) : Array Value := #[.agg #[Value.int IntKind.i64 K, Value.int IntKind.i64 N, Value.int IntKind.i64 I, Value.int IntKind.i64 D, Value.int IntKind.i64 P, Value.slice A5 n c5]]
structure Dgs (dS : Int → ByteArray) : Prop where
  may : ∀ n, mayB n → ∀ W, Calls Tryd.prog 80 #[.int .i64 n] W fun e w' => e = .returned (.bool true) ∧ w' = W
  dig : ∀ n, mayB n → ∀ W, Calls Tryd.prog 81 #[.int .i64 n] W fun e w' => e = .returned (.string (dS n)) ∧ w' = W
  sz : ∀ n, mayB n → (dS n).size ≤ 21
theorem dgs : Dgs itoaB := ⟨fun n h W => may_yes n h.1 h.2 W, fun n h W => by
  obtain ⟨u, rfl⟩ : ∃ u : Nat, n = u := ⟨n.toNat, by have := h.1; omega⟩
  exact digits_any 18 u W (by have := h.2; omega) (by have := h.2; omega), fun n h => itoaB_size n h.1 h.2⟩
set_option maxHeartbeats 4000000 in
set_option maxRecDepth 100000 in
theorem rl_bad (w : World) (K N I D P : Int) (n : Nat) (A5 : Option Addr) (c5 : Nat) (dS : Int → ByteArray) (HD : Dgs dS) (h : rlBad K N I D P n) :
    Calls Tryd.prog 38 (RArgs K N I D P n A5 c5) w fun e w' => e = .returned (.tuple #[.string ⟨#[]⟩, .bool false]) ∧ Below w.heap.size w w' := by
  have hb : ∀ c, Below w.heap.size w (w.alloc (.cells c 63)) := fun c => below_alloc (Below.refl _ _) _
  have HD := Lib.hid HD
  by_cases mN : mayB N
  · skip
    by_cases mI : mayB I
    · skip
      by_cases mD : mayB D
      · skip
        by_cases mP : mayB P
        · skip
          have hk : K ≠ 7 ∧ 0 < n := by rcases h with h | h | h | h | h <;> first | exact absurd ‹_› h | exact h
          have k1 : (K != 7) = true := bne_iff_ne.mpr hk.1
          have l1 : decide (0 < n) = true := decide_eq_true hk.2
          clear hk
          clear h
          go_enter Tryd.func38, Tryd.ntmps38
          go_wp2_with (first | (go_at_call 80; (with_reducible refine (HD.out.may _ (by assumption) _).mono ?_); rintro e w' ⟨rfl, rfl⟩))
          go_ret2
          exact ⟨rfl, hb _⟩
        · have cP := Lib.hid (may_no P mP)
          clear h mP
          go_enter Tryd.func38, Tryd.ntmps38
          go_wp2_with (first | (go_at_call 80; (with_reducible refine (HD.out.may _ (by assumption) _).mono ?_); rintro e w' ⟨rfl, rfl⟩) | (go_at_call 80; (with_reducible refine (cP.out _).mono ?_); rintro e w' ⟨rfl, rfl⟩))
          go_ret2
          exact ⟨rfl, hb _⟩
      · have cD := Lib.hid (may_no D mD)
        clear h mD
        go_enter Tryd.func38, Tryd.ntmps38
        go_wp2_with (first | (go_at_call 80; (with_reducible refine (HD.out.may _ (by assumption) _).mono ?_); rintro e w' ⟨rfl, rfl⟩) | (go_at_call 80; (with_reducible refine (cD.out _).mono ?_); rintro e w' ⟨rfl, rfl⟩))
        go_ret2
        exact ⟨rfl, hb _⟩
    · have cI := Lib.hid (may_no I mI)
      clear h mI
      go_enter Tryd.func38, Tryd.ntmps38
      go_wp2_with (first | (go_at_call 80; (with_reducible refine (HD.out.may _ (by assumption) _).mono ?_); rintro e w' ⟨rfl, rfl⟩) | (go_at_call 80; (with_reducible refine (cI.out _).mono ?_); rintro e w' ⟨rfl, rfl⟩))
      go_ret2
      exact ⟨rfl, hb _⟩
  · have cN := Lib.hid (may_no N mN)
    clear h mN
    go_enter Tryd.func38, Tryd.ntmps38
    go_wp2_with (first | (go_at_call 80; (with_reducible refine (HD.out.may _ (by assumption) _).mono ?_); rintro e w' ⟨rfl, rfl⟩) | (go_at_call 80; (with_reducible refine (cN.out _).mono ?_); rintro e w' ⟨rfl, rfl⟩))
    go_ret2
    exact ⟨rfl, hb _⟩
theorem rl_good_pre (K N I D P : Int) (n : Nat) (h : ¬ rlBad K N I D P n) : mayB N ∧ mayB I ∧ mayB D ∧ mayB P ∧ (K = 7 ∨ n = 0) := by
  unfold rlBad at h
  refine ⟨?_, ?_, ?_, ?_, ?_⟩
  · exact Classical.byContradiction fun x => h (.inl x)
  · exact Classical.byContradiction fun x => h (.inr (.inl x))
  · exact Classical.byContradiction fun x => h (.inr (.inr (.inl x)))
  · exact Classical.byContradiction fun x => h (.inr (.inr (.inr (.inl x))))
  · by_cases hk : K = 7
    · exact .inl hk
    · exact .inr (Nat.eq_zero_of_not_pos fun x => h (.inr (.inr (.inr (.inr ⟨hk, x⟩)))))
set_option maxHeartbeats 4000000 in
set_option maxRecDepth 100000 in
theorem rl_1 (w : World) (N I D P : Int) (n : Nat) (A5 : Option Addr) (c5 : Nat) (dS : Int → ByteArray) (T : ByteArray) (HD : Hid (Dgs dS)) (mN : mayB N) (mI : mayB I) (mD : mayB D) (mP : mayB P) (hn : n = 0) :
    Calls Tryd.prog 38 (RArgs 1 N I D P n A5 c5) w fun e w' => e = .returned (.tuple #[.string (rlG 1 N I D P n dS T).1, .bool (rlG 1 N I D P n dS T).2]) ∧ Below w.heap.size w w' := by
  have hb : ∀ c, Below w.heap.size w (w.alloc (.cells c 63)) := fun c => below_alloc (Below.refl _ _) _
  obtain ⟨R, hR⟩ : ∃ R, R = rlG 1 N I D P n dS T := ⟨_, rfl⟩
  rw [← hR]
  have zN := HD.out.sz N mN
  have zI := HD.out.sz I mI
  have zD := HD.out.sz D mD
  have zP := HD.out.sz P mP
  subst hn
  have k1 : ((1 : Int) != 7) = true := by decide
  have l1 : decide (0 < 0) = false := by decide
  obtain ⟨X, hX⟩ : ∃ X : ByteArray, X = ⟨#[100, 101, 108, 105, 118, 101, 114, 32]⟩ := ⟨_, rfl⟩
  have zX : X.size ≤ 8 := by rw [hX]; decide
  have HX := Lib.hid hX
  obtain ⟨B, hB⟩ : ∃ B : ByteArray, B = ⟨#[32]⟩ := ⟨_, rfl⟩
  have zB : B.size ≤ 1 := by rw [hB]; decide
  have HB := Lib.hid hB
  by_cases hN : N = 0
  · skip
    by_cases hD : D = 0
    · skip
      by_cases hP : P = 0
      · skip
        have HR : Hid (R = (X ++ dS I, true)) := Lib.hid (by rw [hR, rlG]; simp [hN, hD, hP, hX, hB])
        have bN : (N == 0) = true := beq_iff_eq.mpr hN
        have bD : (D == 0) = true := beq_iff_eq.mpr hD
        have bP : (P == 0) = true := beq_iff_eq.mpr hP
        have s0 : X.size + (dS I).size ≤ 9223372036854775807 := by (try simp only [ByteArray.size_append]); omega
        clear hN hD hP hR hX hB
        go_enter Tryd.func38, Tryd.ntmps38
        rw [← HX.out]
        go_wp2_with (first | (go_at_call 80; (with_reducible refine (HD.out.may _ (by assumption) _).mono ?_); rintro e w' ⟨rfl, rfl⟩) | (go_at_call 81; (with_reducible refine (HD.out.dig _ (by assumption) _).mono ?_); rintro e w' ⟨rfl, rfl⟩))
        go_ret2
        exact ⟨by rw [HR.out]; rfl, hb _⟩
      · skip
        have HR : Hid (R = ((⟨#[]⟩ : ByteArray), false)) := Lib.hid (by rw [hR, rlG]; simp [hN, hD, hP])
        have bN : (N == 0) = true := beq_iff_eq.mpr hN
        have bD : (D == 0) = true := beq_iff_eq.mpr hD
        have bP : (P == 0) = false := beq_eq_false_iff_ne.mpr hP
        clear hN hD hP hR hX hB
        go_enter Tryd.func38, Tryd.ntmps38
        go_wp2_with (first | (go_at_call 80; (with_reducible refine (HD.out.may _ (by assumption) _).mono ?_); rintro e w' ⟨rfl, rfl⟩) | (go_at_call 81; (with_reducible refine (HD.out.dig _ (by assumption) _).mono ?_); rintro e w' ⟨rfl, rfl⟩))
        go_ret2
        exact ⟨by rw [HR.out]; rfl, hb _⟩
    · skip
      have HR : Hid (R = ((⟨#[]⟩ : ByteArray), false)) := Lib.hid (by rw [hR, rlG]; simp [hN, hD])
      have bN : (N == 0) = true := beq_iff_eq.mpr hN
      have bD : (D == 0) = false := beq_eq_false_iff_ne.mpr hD
      clear hN hD hR hX hB
      go_enter Tryd.func38, Tryd.ntmps38
      go_wp2_with (first | (go_at_call 80; (with_reducible refine (HD.out.may _ (by assumption) _).mono ?_); rintro e w' ⟨rfl, rfl⟩) | (go_at_call 81; (with_reducible refine (HD.out.dig _ (by assumption) _).mono ?_); rintro e w' ⟨rfl, rfl⟩))
      go_ret2
      exact ⟨by rw [HR.out]; rfl, hb _⟩
  · skip
    have HR : Hid (R = ((⟨#[]⟩ : ByteArray), false)) := Lib.hid (by rw [hR, rlG]; simp [hN])
    have bN : (N == 0) = false := beq_eq_false_iff_ne.mpr hN
    clear hN hR hX hB
    go_enter Tryd.func38, Tryd.ntmps38
    go_wp2_with (first | (go_at_call 80; (with_reducible refine (HD.out.may _ (by assumption) _).mono ?_); rintro e w' ⟨rfl, rfl⟩) | (go_at_call 81; (with_reducible refine (HD.out.dig _ (by assumption) _).mono ?_); rintro e w' ⟨rfl, rfl⟩))
    go_ret2
    exact ⟨by rw [HR.out]; rfl, hb _⟩
set_option maxHeartbeats 4000000 in
set_option maxRecDepth 100000 in
theorem rl_2 (w : World) (N I D P : Int) (n : Nat) (A5 : Option Addr) (c5 : Nat) (dS : Int → ByteArray) (T : ByteArray) (HD : Hid (Dgs dS)) (mN : mayB N) (mI : mayB I) (mD : mayB D) (mP : mayB P) (hn : n = 0) :
    Calls Tryd.prog 38 (RArgs 2 N I D P n A5 c5) w fun e w' => e = .returned (.tuple #[.string (rlG 2 N I D P n dS T).1, .bool (rlG 2 N I D P n dS T).2]) ∧ Below w.heap.size w w' := by
  have hb : ∀ c, Below w.heap.size w (w.alloc (.cells c 63)) := fun c => below_alloc (Below.refl _ _) _
  obtain ⟨R, hR⟩ : ∃ R, R = rlG 2 N I D P n dS T := ⟨_, rfl⟩
  rw [← hR]
  have zN := HD.out.sz N mN
  have zI := HD.out.sz I mI
  have zD := HD.out.sz D mD
  have zP := HD.out.sz P mP
  subst hn
  have k1 : ((2 : Int) != 7) = true := by decide
  have l1 : decide (0 < 0) = false := by decide
  obtain ⟨X, hX⟩ : ∃ X : ByteArray, X = ⟨#[99, 111, 112, 121, 32]⟩ := ⟨_, rfl⟩
  have zX : X.size ≤ 8 := by rw [hX]; decide
  have HX := Lib.hid hX
  obtain ⟨B, hB⟩ : ∃ B : ByteArray, B = ⟨#[32]⟩ := ⟨_, rfl⟩
  have zB : B.size ≤ 1 := by rw [hB]; decide
  have HB := Lib.hid hB
  by_cases hN : N = 0
  · skip
    by_cases hD : D = 0
    · skip
      by_cases hP : P = 0
      · skip
        have HR : Hid (R = (X ++ dS I, true)) := Lib.hid (by rw [hR, rlG]; simp [hN, hD, hP, hX, hB])
        have bN : (N == 0) = true := beq_iff_eq.mpr hN
        have bD : (D == 0) = true := beq_iff_eq.mpr hD
        have bP : (P == 0) = true := beq_iff_eq.mpr hP
        have s0 : X.size + (dS I).size ≤ 9223372036854775807 := by (try simp only [ByteArray.size_append]); omega
        clear hN hD hP hR hX hB
        go_enter Tryd.func38, Tryd.ntmps38
        rw [← HX.out]
        go_wp2_with (first | (go_at_call 80; (with_reducible refine (HD.out.may _ (by assumption) _).mono ?_); rintro e w' ⟨rfl, rfl⟩) | (go_at_call 81; (with_reducible refine (HD.out.dig _ (by assumption) _).mono ?_); rintro e w' ⟨rfl, rfl⟩))
        go_ret2
        exact ⟨by rw [HR.out]; rfl, hb _⟩
      · skip
        have HR : Hid (R = ((⟨#[]⟩ : ByteArray), false)) := Lib.hid (by rw [hR, rlG]; simp [hN, hD, hP])
        have bN : (N == 0) = true := beq_iff_eq.mpr hN
        have bD : (D == 0) = true := beq_iff_eq.mpr hD
        have bP : (P == 0) = false := beq_eq_false_iff_ne.mpr hP
        clear hN hD hP hR hX hB
        go_enter Tryd.func38, Tryd.ntmps38
        go_wp2_with (first | (go_at_call 80; (with_reducible refine (HD.out.may _ (by assumption) _).mono ?_); rintro e w' ⟨rfl, rfl⟩) | (go_at_call 81; (with_reducible refine (HD.out.dig _ (by assumption) _).mono ?_); rintro e w' ⟨rfl, rfl⟩))
        go_ret2
        exact ⟨by rw [HR.out]; rfl, hb _⟩
    · skip
      have HR : Hid (R = ((⟨#[]⟩ : ByteArray), false)) := Lib.hid (by rw [hR, rlG]; simp [hN, hD])
      have bN : (N == 0) = true := beq_iff_eq.mpr hN
      have bD : (D == 0) = false := beq_eq_false_iff_ne.mpr hD
      clear hN hD hR hX hB
      go_enter Tryd.func38, Tryd.ntmps38
      go_wp2_with (first | (go_at_call 80; (with_reducible refine (HD.out.may _ (by assumption) _).mono ?_); rintro e w' ⟨rfl, rfl⟩) | (go_at_call 81; (with_reducible refine (HD.out.dig _ (by assumption) _).mono ?_); rintro e w' ⟨rfl, rfl⟩))
      go_ret2
      exact ⟨by rw [HR.out]; rfl, hb _⟩
  · skip
    have HR : Hid (R = ((⟨#[]⟩ : ByteArray), false)) := Lib.hid (by rw [hR, rlG]; simp [hN])
    have bN : (N == 0) = false := beq_eq_false_iff_ne.mpr hN
    clear hN hR hX hB
    go_enter Tryd.func38, Tryd.ntmps38
    go_wp2_with (first | (go_at_call 80; (with_reducible refine (HD.out.may _ (by assumption) _).mono ?_); rintro e w' ⟨rfl, rfl⟩) | (go_at_call 81; (with_reducible refine (HD.out.dig _ (by assumption) _).mono ?_); rintro e w' ⟨rfl, rfl⟩))
    go_ret2
    exact ⟨by rw [HR.out]; rfl, hb _⟩
set_option maxHeartbeats 4000000 in
set_option maxRecDepth 100000 in
theorem rl_3 (w : World) (N I D P : Int) (n : Nat) (A5 : Option Addr) (c5 : Nat) (dS : Int → ByteArray) (T : ByteArray) (HD : Hid (Dgs dS)) (mN : mayB N) (mI : mayB I) (mD : mayB D) (mP : mayB P) (hn : n = 0) :
    Calls Tryd.prog 38 (RArgs 3 N I D P n A5 c5) w fun e w' => e = .returned (.tuple #[.string (rlG 3 N I D P n dS T).1, .bool (rlG 3 N I D P n dS T).2]) ∧ Below w.heap.size w w' := by
  have hb : ∀ c, Below w.heap.size w (w.alloc (.cells c 63)) := fun c => below_alloc (Below.refl _ _) _
  obtain ⟨R, hR⟩ : ∃ R, R = rlG 3 N I D P n dS T := ⟨_, rfl⟩
  rw [← hR]
  have zN := HD.out.sz N mN
  have zI := HD.out.sz I mI
  have zD := HD.out.sz D mD
  have zP := HD.out.sz P mP
  subst hn
  have k1 : ((3 : Int) != 7) = true := by decide
  have l1 : decide (0 < 0) = false := by decide
  obtain ⟨X, hX⟩ : ∃ X : ByteArray, X = ⟨#[108, 111, 115, 101, 32]⟩ := ⟨_, rfl⟩
  have zX : X.size ≤ 8 := by rw [hX]; decide
  have HX := Lib.hid hX
  obtain ⟨B, hB⟩ : ∃ B : ByteArray, B = ⟨#[32]⟩ := ⟨_, rfl⟩
  have zB : B.size ≤ 1 := by rw [hB]; decide
  have HB := Lib.hid hB
  by_cases hN : N = 0
  · skip
    by_cases hD : D = 0
    · skip
      by_cases hP : P = 0
      · skip
        have HR : Hid (R = (X ++ dS I, true)) := Lib.hid (by rw [hR, rlG]; simp [hN, hD, hP, hX, hB])
        have bN : (N == 0) = true := beq_iff_eq.mpr hN
        have bD : (D == 0) = true := beq_iff_eq.mpr hD
        have bP : (P == 0) = true := beq_iff_eq.mpr hP
        have s0 : X.size + (dS I).size ≤ 9223372036854775807 := by (try simp only [ByteArray.size_append]); omega
        clear hN hD hP hR hX hB
        go_enter Tryd.func38, Tryd.ntmps38
        rw [← HX.out]
        go_wp2_with (first | (go_at_call 80; (with_reducible refine (HD.out.may _ (by assumption) _).mono ?_); rintro e w' ⟨rfl, rfl⟩) | (go_at_call 81; (with_reducible refine (HD.out.dig _ (by assumption) _).mono ?_); rintro e w' ⟨rfl, rfl⟩))
        go_ret2
        exact ⟨by rw [HR.out]; rfl, hb _⟩
      · skip
        have HR : Hid (R = ((⟨#[]⟩ : ByteArray), false)) := Lib.hid (by rw [hR, rlG]; simp [hN, hD, hP])
        have bN : (N == 0) = true := beq_iff_eq.mpr hN
        have bD : (D == 0) = true := beq_iff_eq.mpr hD
        have bP : (P == 0) = false := beq_eq_false_iff_ne.mpr hP
        clear hN hD hP hR hX hB
        go_enter Tryd.func38, Tryd.ntmps38
        go_wp2_with (first | (go_at_call 80; (with_reducible refine (HD.out.may _ (by assumption) _).mono ?_); rintro e w' ⟨rfl, rfl⟩) | (go_at_call 81; (with_reducible refine (HD.out.dig _ (by assumption) _).mono ?_); rintro e w' ⟨rfl, rfl⟩))
        go_ret2
        exact ⟨by rw [HR.out]; rfl, hb _⟩
    · skip
      have HR : Hid (R = ((⟨#[]⟩ : ByteArray), false)) := Lib.hid (by rw [hR, rlG]; simp [hN, hD])
      have bN : (N == 0) = true := beq_iff_eq.mpr hN
      have bD : (D == 0) = false := beq_eq_false_iff_ne.mpr hD
      clear hN hD hR hX hB
      go_enter Tryd.func38, Tryd.ntmps38
      go_wp2_with (first | (go_at_call 80; (with_reducible refine (HD.out.may _ (by assumption) _).mono ?_); rintro e w' ⟨rfl, rfl⟩) | (go_at_call 81; (with_reducible refine (HD.out.dig _ (by assumption) _).mono ?_); rintro e w' ⟨rfl, rfl⟩))
      go_ret2
      exact ⟨by rw [HR.out]; rfl, hb _⟩
  · skip
    have HR : Hid (R = ((⟨#[]⟩ : ByteArray), false)) := Lib.hid (by rw [hR, rlG]; simp [hN])
    have bN : (N == 0) = false := beq_eq_false_iff_ne.mpr hN
    clear hN hR hX hB
    go_enter Tryd.func38, Tryd.ntmps38
    go_wp2_with (first | (go_at_call 80; (with_reducible refine (HD.out.may _ (by assumption) _).mono ?_); rintro e w' ⟨rfl, rfl⟩) | (go_at_call 81; (with_reducible refine (HD.out.dig _ (by assumption) _).mono ?_); rintro e w' ⟨rfl, rfl⟩))
    go_ret2
    exact ⟨by rw [HR.out]; rfl, hb _⟩
set_option maxHeartbeats 4000000 in
set_option maxRecDepth 100000 in
theorem rl_4 (w : World) (N I D P : Int) (n : Nat) (A5 : Option Addr) (c5 : Nat) (dS : Int → ByteArray) (T : ByteArray) (HD : Hid (Dgs dS)) (mN : mayB N) (mI : mayB I) (mD : mayB D) (mP : mayB P) (hn : n = 0) :
    Calls Tryd.prog 38 (RArgs 4 N I D P n A5 c5) w fun e w' => e = .returned (.tuple #[.string (rlG 4 N I D P n dS T).1, .bool (rlG 4 N I D P n dS T).2]) ∧ Below w.heap.size w w' := by
  have hb : ∀ c, Below w.heap.size w (w.alloc (.cells c 63)) := fun c => below_alloc (Below.refl _ _) _
  obtain ⟨R, hR⟩ : ∃ R, R = rlG 4 N I D P n dS T := ⟨_, rfl⟩
  rw [← hR]
  have zN := HD.out.sz N mN
  have zI := HD.out.sz I mI
  have zD := HD.out.sz D mD
  have zP := HD.out.sz P mP
  subst hn
  have k1 : ((4 : Int) != 7) = true := by decide
  have l1 : decide (0 < 0) = false := by decide
  obtain ⟨X, hX⟩ : ∃ X : ByteArray, X = ⟨#[116, 105, 99, 107, 32]⟩ := ⟨_, rfl⟩
  have zX : X.size ≤ 8 := by rw [hX]; decide
  have HX := Lib.hid hX
  obtain ⟨B, hB⟩ : ∃ B : ByteArray, B = ⟨#[32]⟩ := ⟨_, rfl⟩
  have zB : B.size ≤ 1 := by rw [hB]; decide
  have HB := Lib.hid hB
  by_cases hN : N = 0
  · skip
    by_cases hD : D = 0
    · skip
      by_cases hI : I = 0
      · skip
        by_cases hP : P = 0
        · skip
          have HR : Hid (R = (X ++ dS N ++ B ++ dS D, true)) := Lib.hid (by rw [hR, rlG]; simp [hN, hD, hI, hP, hX, hB])
          have bN : (N == 0) = true := beq_iff_eq.mpr hN
          have bD : (D == 0) = true := beq_iff_eq.mpr hD
          have bI : (I == 0) = true := beq_iff_eq.mpr hI
          have bP : (P == 0) = true := beq_iff_eq.mpr hP
          have s0 : X.size + (dS N).size ≤ 9223372036854775807 := by (try simp only [ByteArray.size_append]); omega
          have s1 : (X ++ dS N).size + B.size ≤ 9223372036854775807 := by (try simp only [ByteArray.size_append]); omega
          have s2 : (X ++ dS N ++ B).size + (dS D).size ≤ 9223372036854775807 := by (try simp only [ByteArray.size_append]); omega
          clear hN hD hI hP hR hX hB
          go_enter Tryd.func38, Tryd.ntmps38
          rw [← HX.out]
          rw [← HB.out]
          go_wp2_with (first | (go_at_call 80; (with_reducible refine (HD.out.may _ (by assumption) _).mono ?_); rintro e w' ⟨rfl, rfl⟩) | (go_at_call 81; (with_reducible refine (HD.out.dig _ (by assumption) _).mono ?_); rintro e w' ⟨rfl, rfl⟩))
          go_ret2
          exact ⟨by rw [HR.out]; rfl, hb _⟩
        · skip
          have HR : Hid (R = ((⟨#[]⟩ : ByteArray), false)) := Lib.hid (by rw [hR, rlG]; simp [hN, hD, hI, hP])
          have bN : (N == 0) = true := beq_iff_eq.mpr hN
          have bD : (D == 0) = true := beq_iff_eq.mpr hD
          have bI : (I == 0) = true := beq_iff_eq.mpr hI
          have bP : (P == 0) = false := beq_eq_false_iff_ne.mpr hP
          clear hN hD hI hP hR hX hB
          go_enter Tryd.func38, Tryd.ntmps38
          go_wp2_with (first | (go_at_call 80; (with_reducible refine (HD.out.may _ (by assumption) _).mono ?_); rintro e w' ⟨rfl, rfl⟩) | (go_at_call 81; (with_reducible refine (HD.out.dig _ (by assumption) _).mono ?_); rintro e w' ⟨rfl, rfl⟩))
          go_ret2
          exact ⟨by rw [HR.out]; rfl, hb _⟩
      · skip
        have HR : Hid (R = ((⟨#[]⟩ : ByteArray), false)) := Lib.hid (by rw [hR, rlG]; simp [hN, hD, hI])
        have bN : (N == 0) = true := beq_iff_eq.mpr hN
        have bD : (D == 0) = true := beq_iff_eq.mpr hD
        have bI : (I == 0) = false := beq_eq_false_iff_ne.mpr hI
        clear hN hD hI hR hX hB
        go_enter Tryd.func38, Tryd.ntmps38
        go_wp2_with (first | (go_at_call 80; (with_reducible refine (HD.out.may _ (by assumption) _).mono ?_); rintro e w' ⟨rfl, rfl⟩) | (go_at_call 81; (with_reducible refine (HD.out.dig _ (by assumption) _).mono ?_); rintro e w' ⟨rfl, rfl⟩))
        go_ret2
        exact ⟨by rw [HR.out]; rfl, hb _⟩
    · skip
      by_cases hI : I = 0
      · skip
        by_cases hP : P = 0
        · skip
          have HR : Hid (R = (X ++ dS N ++ B ++ dS D, true)) := Lib.hid (by rw [hR, rlG]; simp [hN, hI, hP, hD, hX, hB])
          have bN : (N == 0) = true := beq_iff_eq.mpr hN
          have bI : (I == 0) = true := beq_iff_eq.mpr hI
          have bP : (P == 0) = true := beq_iff_eq.mpr hP
          have bD : (D == 0) = false := beq_eq_false_iff_ne.mpr hD
          have s0 : X.size + (dS N).size ≤ 9223372036854775807 := by (try simp only [ByteArray.size_append]); omega
          have s1 : (X ++ dS N).size + B.size ≤ 9223372036854775807 := by (try simp only [ByteArray.size_append]); omega
          have s2 : (X ++ dS N ++ B).size + (dS D).size ≤ 9223372036854775807 := by (try simp only [ByteArray.size_append]); omega
          clear hN hI hP hD hR hX hB
          go_enter Tryd.func38, Tryd.ntmps38
          rw [← HX.out]
          rw [← HB.out]
          go_wp2_with (first | (go_at_call 80; (with_reducible refine (HD.out.may _ (by assumption) _).mono ?_); rintro e w' ⟨rfl, rfl⟩) | (go_at_call 81; (with_reducible refine (HD.out.dig _ (by assumption) _).mono ?_); rintro e w' ⟨rfl, rfl⟩))
          go_ret2
          exact ⟨by rw [HR.out]; rfl, hb _⟩
        · skip
          have HR : Hid (R = ((⟨#[]⟩ : ByteArray), false)) := Lib.hid (by rw [hR, rlG]; simp [hN, hI, hD, hP])
          have bN : (N == 0) = true := beq_iff_eq.mpr hN
          have bI : (I == 0) = true := beq_iff_eq.mpr hI
          have bD : (D == 0) = false := beq_eq_false_iff_ne.mpr hD
          have bP : (P == 0) = false := beq_eq_false_iff_ne.mpr hP
          clear hN hI hD hP hR hX hB
          go_enter Tryd.func38, Tryd.ntmps38
          go_wp2_with (first | (go_at_call 80; (with_reducible refine (HD.out.may _ (by assumption) _).mono ?_); rintro e w' ⟨rfl, rfl⟩) | (go_at_call 81; (with_reducible refine (HD.out.dig _ (by assumption) _).mono ?_); rintro e w' ⟨rfl, rfl⟩))
          go_ret2
          exact ⟨by rw [HR.out]; rfl, hb _⟩
      · skip
        have HR : Hid (R = ((⟨#[]⟩ : ByteArray), false)) := Lib.hid (by rw [hR, rlG]; simp [hN, hD, hI])
        have bN : (N == 0) = true := beq_iff_eq.mpr hN
        have bD : (D == 0) = false := beq_eq_false_iff_ne.mpr hD
        have bI : (I == 0) = false := beq_eq_false_iff_ne.mpr hI
        clear hN hD hI hR hX hB
        go_enter Tryd.func38, Tryd.ntmps38
        go_wp2_with (first | (go_at_call 80; (with_reducible refine (HD.out.may _ (by assumption) _).mono ?_); rintro e w' ⟨rfl, rfl⟩) | (go_at_call 81; (with_reducible refine (HD.out.dig _ (by assumption) _).mono ?_); rintro e w' ⟨rfl, rfl⟩))
        go_ret2
        exact ⟨by rw [HR.out]; rfl, hb _⟩
  · skip
    by_cases hI : I = 0
    · skip
      by_cases hP : P = 0
      · skip
        have HR : Hid (R = (X ++ dS N ++ B ++ dS D, true)) := Lib.hid (by rw [hR, rlG]; simp [hI, hP, hN, hX, hB])
        have bI : (I == 0) = true := beq_iff_eq.mpr hI
        have bP : (P == 0) = true := beq_iff_eq.mpr hP
        have bN : (N == 0) = false := beq_eq_false_iff_ne.mpr hN
        have s0 : X.size + (dS N).size ≤ 9223372036854775807 := by (try simp only [ByteArray.size_append]); omega
        have s1 : (X ++ dS N).size + B.size ≤ 9223372036854775807 := by (try simp only [ByteArray.size_append]); omega
        have s2 : (X ++ dS N ++ B).size + (dS D).size ≤ 9223372036854775807 := by (try simp only [ByteArray.size_append]); omega
        clear hI hP hN hR hX hB
        go_enter Tryd.func38, Tryd.ntmps38
        rw [← HX.out]
        rw [← HB.out]
        go_wp2_with (first | (go_at_call 80; (with_reducible refine (HD.out.may _ (by assumption) _).mono ?_); rintro e w' ⟨rfl, rfl⟩) | (go_at_call 81; (with_reducible refine (HD.out.dig _ (by assumption) _).mono ?_); rintro e w' ⟨rfl, rfl⟩))
        go_ret2
        exact ⟨by rw [HR.out]; rfl, hb _⟩
      · skip
        have HR : Hid (R = ((⟨#[]⟩ : ByteArray), false)) := Lib.hid (by rw [hR, rlG]; simp [hI, hN, hP])
        have bI : (I == 0) = true := beq_iff_eq.mpr hI
        have bN : (N == 0) = false := beq_eq_false_iff_ne.mpr hN
        have bP : (P == 0) = false := beq_eq_false_iff_ne.mpr hP
        clear hI hN hP hR hX hB
        go_enter Tryd.func38, Tryd.ntmps38
        go_wp2_with (first | (go_at_call 80; (with_reducible refine (HD.out.may _ (by assumption) _).mono ?_); rintro e w' ⟨rfl, rfl⟩) | (go_at_call 81; (with_reducible refine (HD.out.dig _ (by assumption) _).mono ?_); rintro e w' ⟨rfl, rfl⟩))
        go_ret2
        exact ⟨by rw [HR.out]; rfl, hb _⟩
    · skip
      have HR : Hid (R = ((⟨#[]⟩ : ByteArray), false)) := Lib.hid (by rw [hR, rlG]; simp [hN, hI])
      have bN : (N == 0) = false := beq_eq_false_iff_ne.mpr hN
      have bI : (I == 0) = false := beq_eq_false_iff_ne.mpr hI
      clear hN hI hR hX hB
      go_enter Tryd.func38, Tryd.ntmps38
      go_wp2_with (first | (go_at_call 80; (with_reducible refine (HD.out.may _ (by assumption) _).mono ?_); rintro e w' ⟨rfl, rfl⟩) | (go_at_call 81; (with_reducible refine (HD.out.dig _ (by assumption) _).mono ?_); rintro e w' ⟨rfl, rfl⟩))
      go_ret2
      exact ⟨by rw [HR.out]; rfl, hb _⟩
set_option maxHeartbeats 4000000 in
set_option maxRecDepth 100000 in
theorem rl_5 (w : World) (N I D P : Int) (n : Nat) (A5 : Option Addr) (c5 : Nat) (dS : Int → ByteArray) (T : ByteArray) (HD : Hid (Dgs dS)) (mN : mayB N) (mI : mayB I) (mD : mayB D) (mP : mayB P) (hn : n = 0) :
    Calls Tryd.prog 38 (RArgs 5 N I D P n A5 c5) w fun e w' => e = .returned (.tuple #[.string (rlG 5 N I D P n dS T).1, .bool (rlG 5 N I D P n dS T).2]) ∧ Below w.heap.size w w' := by
  have hb : ∀ c, Below w.heap.size w (w.alloc (.cells c 63)) := fun c => below_alloc (Below.refl _ _) _
  obtain ⟨R, hR⟩ : ∃ R, R = rlG 5 N I D P n dS T := ⟨_, rfl⟩
  rw [← hR]
  have zN := HD.out.sz N mN
  have zI := HD.out.sz I mI
  have zD := HD.out.sz D mD
  have zP := HD.out.sz P mP
  subst hn
  have k1 : ((5 : Int) != 7) = true := by decide
  have l1 : decide (0 < 0) = false := by decide
  obtain ⟨X, hX⟩ : ∃ X : ByteArray, X = ⟨#[116, 101, 97, 114, 32]⟩ := ⟨_, rfl⟩
  have zX : X.size ≤ 8 := by rw [hX]; decide
  have HX := Lib.hid hX
  obtain ⟨B, hB⟩ : ∃ B : ByteArray, B = ⟨#[32]⟩ := ⟨_, rfl⟩
  have zB : B.size ≤ 1 := by rw [hB]; decide
  have HB := Lib.hid hB
  by_cases hN : N = 0
  · skip
    by_cases hD : D = 0
    · skip
      have HR : Hid (R = (X ++ dS I ++ B ++ dS P, true)) := Lib.hid (by rw [hR, rlG]; simp [hN, hD, hX, hB])
      have bN : (N == 0) = true := beq_iff_eq.mpr hN
      have bD : (D == 0) = true := beq_iff_eq.mpr hD
      have s0 : X.size + (dS I).size ≤ 9223372036854775807 := by (try simp only [ByteArray.size_append]); omega
      have s1 : (X ++ dS I).size + B.size ≤ 9223372036854775807 := by (try simp only [ByteArray.size_append]); omega
      have s2 : (X ++ dS I ++ B).size + (dS P).size ≤ 9223372036854775807 := by (try simp only [ByteArray.size_append]); omega
      clear hN hD hR hX hB
      go_enter Tryd.func38, Tryd.ntmps38
      rw [← HX.out]
      rw [← HB.out]
      go_wp2_with (first | (go_at_call 80; (with_reducible refine (HD.out.may _ (by assumption) _).mono ?_); rintro e w' ⟨rfl, rfl⟩) | (go_at_call 81; (with_reducible refine (HD.out.dig _ (by assumption) _).mono ?_); rintro e w' ⟨rfl, rfl⟩))
      go_ret2
      exact ⟨by rw [HR.out]; rfl, hb _⟩
    · skip
      have HR : Hid (R = ((⟨#[]⟩ : ByteArray), false)) := Lib.hid (by rw [hR, rlG]; simp [hN, hD])
      have bN : (N == 0) = true := beq_iff_eq.mpr hN
      have bD : (D == 0) = false := beq_eq_false_iff_ne.mpr hD
      clear hN hD hR hX hB
      go_enter Tryd.func38, Tryd.ntmps38
      go_wp2_with (first | (go_at_call 80; (with_reducible refine (HD.out.may _ (by assumption) _).mono ?_); rintro e w' ⟨rfl, rfl⟩) | (go_at_call 81; (with_reducible refine (HD.out.dig _ (by assumption) _).mono ?_); rintro e w' ⟨rfl, rfl⟩))
      go_ret2
      exact ⟨by rw [HR.out]; rfl, hb _⟩
  · skip
    have HR : Hid (R = ((⟨#[]⟩ : ByteArray), false)) := Lib.hid (by rw [hR, rlG]; simp [hN])
    have bN : (N == 0) = false := beq_eq_false_iff_ne.mpr hN
    clear hN hR hX hB
    go_enter Tryd.func38, Tryd.ntmps38
    go_wp2_with (first | (go_at_call 80; (with_reducible refine (HD.out.may _ (by assumption) _).mono ?_); rintro e w' ⟨rfl, rfl⟩) | (go_at_call 81; (with_reducible refine (HD.out.dig _ (by assumption) _).mono ?_); rintro e w' ⟨rfl, rfl⟩))
    go_ret2
    exact ⟨by rw [HR.out]; rfl, hb _⟩
set_option maxHeartbeats 4000000 in
set_option maxRecDepth 100000 in
theorem rl_6 (w : World) (N I D P : Int) (n : Nat) (A5 : Option Addr) (c5 : Nat) (dS : Int → ByteArray) (T : ByteArray) (HD : Hid (Dgs dS)) (mN : mayB N) (mI : mayB I) (mD : mayB D) (mP : mayB P) (hn : n = 0) :
    Calls Tryd.prog 38 (RArgs 6 N I D P n A5 c5) w fun e w' => e = .returned (.tuple #[.string (rlG 6 N I D P n dS T).1, .bool (rlG 6 N I D P n dS T).2]) ∧ Below w.heap.size w w' := by
  have hb : ∀ c, Below w.heap.size w (w.alloc (.cells c 63)) := fun c => below_alloc (Below.refl _ _) _
  obtain ⟨R, hR⟩ : ∃ R, R = rlG 6 N I D P n dS T := ⟨_, rfl⟩
  rw [← hR]
  have zN := HD.out.sz N mN
  have zI := HD.out.sz I mI
  have zD := HD.out.sz D mD
  have zP := HD.out.sz P mP
  subst hn
  have k1 : ((6 : Int) != 7) = true := by decide
  have l1 : decide (0 < 0) = false := by decide
  obtain ⟨X, hX⟩ : ∃ X : ByteArray, X = ⟨#[102, 97, 108, 108, 32]⟩ := ⟨_, rfl⟩
  have zX : X.size ≤ 8 := by rw [hX]; decide
  have HX := Lib.hid hX
  obtain ⟨B, hB⟩ : ∃ B : ByteArray, B = ⟨#[32]⟩ := ⟨_, rfl⟩
  have zB : B.size ≤ 1 := by rw [hB]; decide
  have HB := Lib.hid hB
  by_cases hN : N = 0
  · skip
    by_cases hD : D = 0
    · skip
      by_cases hI : I = 0
      · skip
        by_cases hP : P = 0
        · skip
          have HR : Hid (R = (X ++ dS N, true)) := Lib.hid (by rw [hR, rlG]; simp [hN, hD, hI, hP, hX, hB])
          have bN : (N == 0) = true := beq_iff_eq.mpr hN
          have bD : (D == 0) = true := beq_iff_eq.mpr hD
          have bI : (I == 0) = true := beq_iff_eq.mpr hI
          have bP : (P == 0) = true := beq_iff_eq.mpr hP
          have s0 : X.size + (dS N).size ≤ 9223372036854775807 := by (try simp only [ByteArray.size_append]); omega
          clear hN hD hI hP hR hX hB
          go_enter Tryd.func38, Tryd.ntmps38
          rw [← HX.out]
          go_wp2_with (first | (go_at_call 80; (with_reducible refine (HD.out.may _ (by assumption) _).mono ?_); rintro e w' ⟨rfl, rfl⟩) | (go_at_call 81; (with_reducible refine (HD.out.dig _ (by assumption) _).mono ?_); rintro e w' ⟨rfl, rfl⟩))
          go_ret2
          exact ⟨by rw [HR.out]; rfl, hb _⟩
        · skip
          have HR : Hid (R = ((⟨#[]⟩ : ByteArray), false)) := Lib.hid (by rw [hR, rlG]; simp [hN, hD, hI, hP])
          have bN : (N == 0) = true := beq_iff_eq.mpr hN
          have bD : (D == 0) = true := beq_iff_eq.mpr hD
          have bI : (I == 0) = true := beq_iff_eq.mpr hI
          have bP : (P == 0) = false := beq_eq_false_iff_ne.mpr hP
          clear hN hD hI hP hR hX hB
          go_enter Tryd.func38, Tryd.ntmps38
          go_wp2_with (first | (go_at_call 80; (with_reducible refine (HD.out.may _ (by assumption) _).mono ?_); rintro e w' ⟨rfl, rfl⟩) | (go_at_call 81; (with_reducible refine (HD.out.dig _ (by assumption) _).mono ?_); rintro e w' ⟨rfl, rfl⟩))
          go_ret2
          exact ⟨by rw [HR.out]; rfl, hb _⟩
      · skip
        have HR : Hid (R = ((⟨#[]⟩ : ByteArray), false)) := Lib.hid (by rw [hR, rlG]; simp [hN, hD, hI])
        have bN : (N == 0) = true := beq_iff_eq.mpr hN
        have bD : (D == 0) = true := beq_iff_eq.mpr hD
        have bI : (I == 0) = false := beq_eq_false_iff_ne.mpr hI
        clear hN hD hI hR hX hB
        go_enter Tryd.func38, Tryd.ntmps38
        go_wp2_with (first | (go_at_call 80; (with_reducible refine (HD.out.may _ (by assumption) _).mono ?_); rintro e w' ⟨rfl, rfl⟩) | (go_at_call 81; (with_reducible refine (HD.out.dig _ (by assumption) _).mono ?_); rintro e w' ⟨rfl, rfl⟩))
        go_ret2
        exact ⟨by rw [HR.out]; rfl, hb _⟩
    · skip
      by_cases hI : I = 0
      · skip
        have HR : Hid (R = ((⟨#[]⟩ : ByteArray), false)) := Lib.hid (by rw [hR, rlG]; simp [hN, hI, hD])
        have bN : (N == 0) = true := beq_iff_eq.mpr hN
        have bI : (I == 0) = true := beq_iff_eq.mpr hI
        have bD : (D == 0) = false := beq_eq_false_iff_ne.mpr hD
        clear hN hI hD hR hX hB
        go_enter Tryd.func38, Tryd.ntmps38
        go_wp2_with (first | (go_at_call 80; (with_reducible refine (HD.out.may _ (by assumption) _).mono ?_); rintro e w' ⟨rfl, rfl⟩) | (go_at_call 81; (with_reducible refine (HD.out.dig _ (by assumption) _).mono ?_); rintro e w' ⟨rfl, rfl⟩))
        go_ret2
        exact ⟨by rw [HR.out]; rfl, hb _⟩
      · skip
        have HR : Hid (R = ((⟨#[]⟩ : ByteArray), false)) := Lib.hid (by rw [hR, rlG]; simp [hN, hD, hI])
        have bN : (N == 0) = true := beq_iff_eq.mpr hN
        have bD : (D == 0) = false := beq_eq_false_iff_ne.mpr hD
        have bI : (I == 0) = false := beq_eq_false_iff_ne.mpr hI
        clear hN hD hI hR hX hB
        go_enter Tryd.func38, Tryd.ntmps38
        go_wp2_with (first | (go_at_call 80; (with_reducible refine (HD.out.may _ (by assumption) _).mono ?_); rintro e w' ⟨rfl, rfl⟩) | (go_at_call 81; (with_reducible refine (HD.out.dig _ (by assumption) _).mono ?_); rintro e w' ⟨rfl, rfl⟩))
        go_ret2
        exact ⟨by rw [HR.out]; rfl, hb _⟩
  · skip
    by_cases hI : I = 0
    · skip
      by_cases hD : D = 0
      · skip
        by_cases hP : P = 0
        · skip
          have HR : Hid (R = (X ++ dS N, true)) := Lib.hid (by rw [hR, rlG]; simp [hI, hD, hP, hN, hX, hB])
          have bI : (I == 0) = true := beq_iff_eq.mpr hI
          have bD : (D == 0) = true := beq_iff_eq.mpr hD
          have bP : (P == 0) = true := beq_iff_eq.mpr hP
          have bN : (N == 0) = false := beq_eq_false_iff_ne.mpr hN
          have s0 : X.size + (dS N).size ≤ 9223372036854775807 := by (try simp only [ByteArray.size_append]); omega
          clear hI hD hP hN hR hX hB
          go_enter Tryd.func38, Tryd.ntmps38
          rw [← HX.out]
          go_wp2_with (first | (go_at_call 80; (with_reducible refine (HD.out.may _ (by assumption) _).mono ?_); rintro e w' ⟨rfl, rfl⟩) | (go_at_call 81; (with_reducible refine (HD.out.dig _ (by assumption) _).mono ?_); rintro e w' ⟨rfl, rfl⟩))
          go_ret2
          exact ⟨by rw [HR.out]; rfl, hb _⟩
        · skip
          have HR : Hid (R = ((⟨#[]⟩ : ByteArray), false)) := Lib.hid (by rw [hR, rlG]; simp [hI, hD, hN, hP])
          have bI : (I == 0) = true := beq_iff_eq.mpr hI
          have bD : (D == 0) = true := beq_iff_eq.mpr hD
          have bN : (N == 0) = false := beq_eq_false_iff_ne.mpr hN
          have bP : (P == 0) = false := beq_eq_false_iff_ne.mpr hP
          clear hI hD hN hP hR hX hB
          go_enter Tryd.func38, Tryd.ntmps38
          go_wp2_with (first | (go_at_call 80; (with_reducible refine (HD.out.may _ (by assumption) _).mono ?_); rintro e w' ⟨rfl, rfl⟩) | (go_at_call 81; (with_reducible refine (HD.out.dig _ (by assumption) _).mono ?_); rintro e w' ⟨rfl, rfl⟩))
          go_ret2
          exact ⟨by rw [HR.out]; rfl, hb _⟩
      · skip
        have HR : Hid (R = ((⟨#[]⟩ : ByteArray), false)) := Lib.hid (by rw [hR, rlG]; simp [hI, hN, hD])
        have bI : (I == 0) = true := beq_iff_eq.mpr hI
        have bN : (N == 0) = false := beq_eq_false_iff_ne.mpr hN
        have bD : (D == 0) = false := beq_eq_false_iff_ne.mpr hD
        clear hI hN hD hR hX hB
        go_enter Tryd.func38, Tryd.ntmps38
        go_wp2_with (first | (go_at_call 80; (with_reducible refine (HD.out.may _ (by assumption) _).mono ?_); rintro e w' ⟨rfl, rfl⟩) | (go_at_call 81; (with_reducible refine (HD.out.dig _ (by assumption) _).mono ?_); rintro e w' ⟨rfl, rfl⟩))
        go_ret2
        exact ⟨by rw [HR.out]; rfl, hb _⟩
    · skip
      have HR : Hid (R = ((⟨#[]⟩ : ByteArray), false)) := Lib.hid (by rw [hR, rlG]; simp [hN, hI])
      have bN : (N == 0) = false := beq_eq_false_iff_ne.mpr hN
      have bI : (I == 0) = false := beq_eq_false_iff_ne.mpr hI
      clear hN hI hR hX hB
      go_enter Tryd.func38, Tryd.ntmps38
      go_wp2_with (first | (go_at_call 80; (with_reducible refine (HD.out.may _ (by assumption) _).mono ?_); rintro e w' ⟨rfl, rfl⟩) | (go_at_call 81; (with_reducible refine (HD.out.dig _ (by assumption) _).mono ?_); rintro e w' ⟨rfl, rfl⟩))
      go_ret2
      exact ⟨by rw [HR.out]; rfl, hb _⟩
set_option maxHeartbeats 4000000 in
set_option maxRecDepth 100000 in
theorem rl_7 (w : World) (N I D P : Int) (n : Nat) (A5 : Option Addr) (c5 : Nat) (dS : Int → ByteArray) (T : ByteArray) (HD : Hid (Dgs dS)) (mN : mayB N) (mI : mayB I) (mD : mayB D) (mP : mayB P) (zT : T.size ≤ 2000000) (hT : 0 < n → Hid (∀ W, Below w.heap.size w W → Calls Tryd.prog 82 #[.slice A5 n c5] W fun e w' => e = .returned (.string T) ∧ Below W.heap.size W w')) :
    Calls Tryd.prog 38 (RArgs 7 N I D P n A5 c5) w fun e w' => e = .returned (.tuple #[.string (rlG 7 N I D P n dS T).1, .bool (rlG 7 N I D P n dS T).2]) ∧ Below w.heap.size w w' := by
  have hb : ∀ c, Below w.heap.size w (w.alloc (.cells c 63)) := fun c => below_alloc (Below.refl _ _) _
  obtain ⟨R, hR⟩ : ∃ R, R = rlG 7 N I D P n dS T := ⟨_, rfl⟩
  rw [← hR]
  have zN := HD.out.sz N mN
  have zI := HD.out.sz I mI
  have zD := HD.out.sz D mD
  have zP := HD.out.sz P mP
  obtain ⟨X, hX⟩ : ∃ X : ByteArray, X = ⟨#[105, 110, 106, 101, 99, 116, 32]⟩ := ⟨_, rfl⟩
  have zX : X.size ≤ 8 := by rw [hX]; decide
  have HX := Lib.hid hX
  obtain ⟨B, hB⟩ : ∃ B : ByteArray, B = ⟨#[32]⟩ := ⟨_, rfl⟩
  have zB : B.size ≤ 1 := by rw [hB]; decide
  have HB := Lib.hid hB
  by_cases hn : 0 < n
  · have l1 : decide (0 < n) = true := decide_eq_true hn
    have hT := hT hn
    by_cases hN : N = 0
    · skip
      by_cases hD : D = 0
      · skip
        by_cases hP : P = 0
        · skip
          have HR : Hid (R = (X ++ dS N ++ B ++ dS I ++ B ++ T, true)) := Lib.hid (by rw [hR, rlG]; simp [hN, hD, hP, hX, hB, hn])
          have bN : (N == 0) = true := beq_iff_eq.mpr hN
          have bD : (D == 0) = true := beq_iff_eq.mpr hD
          have bP : (P == 0) = true := beq_iff_eq.mpr hP
          have s0 : X.size + (dS N).size ≤ 9223372036854775807 := by (try simp only [ByteArray.size_append]); omega
          have s1 : (X ++ dS N).size + B.size ≤ 9223372036854775807 := by (try simp only [ByteArray.size_append]); omega
          have s2 : (X ++ dS N ++ B).size + (dS I).size ≤ 9223372036854775807 := by (try simp only [ByteArray.size_append]); omega
          have s3 : (X ++ dS N ++ B ++ dS I).size + B.size ≤ 9223372036854775807 := by (try simp only [ByteArray.size_append]); omega
          have s4 : (X ++ dS N ++ B ++ dS I ++ B).size + T.size ≤ 9223372036854775807 := by (try simp only [ByteArray.size_append]); omega
          clear hN hD hP hR hX hB
          go_enter Tryd.func38, Tryd.ntmps38
          rw [← HX.out]
          rw [← HB.out]
          go_wp2_with (first | (go_at_call 80; (with_reducible refine (HD.out.may _ (by assumption) _).mono ?_); rintro e w' ⟨rfl, rfl⟩) | (go_at_call 81; (with_reducible refine (HD.out.dig _ (by assumption) _).mono ?_); rintro e w' ⟨rfl, rfl⟩) | (go_at_call 82; (with_reducible refine (hT.out _ (hb _)).mono ?_); rintro e w2 ⟨rfl, hb2⟩))
          go_ret2
          exact ⟨by rw [HR.out]; rfl, (hb _).trans (hb2.mono (hb _).size)⟩
        · skip
          have HR : Hid (R = ((⟨#[]⟩ : ByteArray), false)) := Lib.hid (by rw [hR, rlG]; simp [hN, hD, hP])
          have bN : (N == 0) = true := beq_iff_eq.mpr hN
          have bD : (D == 0) = true := beq_iff_eq.mpr hD
          have bP : (P == 0) = false := beq_eq_false_iff_ne.mpr hP
          clear hN hD hP hR hX hB
          go_enter Tryd.func38, Tryd.ntmps38
          go_wp2_with (first | (go_at_call 80; (with_reducible refine (HD.out.may _ (by assumption) _).mono ?_); rintro e w' ⟨rfl, rfl⟩) | (go_at_call 81; (with_reducible refine (HD.out.dig _ (by assumption) _).mono ?_); rintro e w' ⟨rfl, rfl⟩))
          go_ret2
          exact ⟨by rw [HR.out]; rfl, hb _⟩
      · skip
        have HR : Hid (R = ((⟨#[]⟩ : ByteArray), false)) := Lib.hid (by rw [hR, rlG]; simp [hN, hD])
        have bN : (N == 0) = true := beq_iff_eq.mpr hN
        have bD : (D == 0) = false := beq_eq_false_iff_ne.mpr hD
        clear hN hD hR hX hB
        go_enter Tryd.func38, Tryd.ntmps38
        go_wp2_with (first | (go_at_call 80; (with_reducible refine (HD.out.may _ (by assumption) _).mono ?_); rintro e w' ⟨rfl, rfl⟩) | (go_at_call 81; (with_reducible refine (HD.out.dig _ (by assumption) _).mono ?_); rintro e w' ⟨rfl, rfl⟩))
        go_ret2
        exact ⟨by rw [HR.out]; rfl, hb _⟩
    · skip
      by_cases hD : D = 0
      · skip
        by_cases hP : P = 0
        · skip
          have HR : Hid (R = (X ++ dS N ++ B ++ dS I ++ B ++ T, true)) := Lib.hid (by rw [hR, rlG]; simp [hD, hP, hN, hX, hB, hn])
          have bD : (D == 0) = true := beq_iff_eq.mpr hD
          have bP : (P == 0) = true := beq_iff_eq.mpr hP
          have bN : (N == 0) = false := beq_eq_false_iff_ne.mpr hN
          have s0 : X.size + (dS N).size ≤ 9223372036854775807 := by (try simp only [ByteArray.size_append]); omega
          have s1 : (X ++ dS N).size + B.size ≤ 9223372036854775807 := by (try simp only [ByteArray.size_append]); omega
          have s2 : (X ++ dS N ++ B).size + (dS I).size ≤ 9223372036854775807 := by (try simp only [ByteArray.size_append]); omega
          have s3 : (X ++ dS N ++ B ++ dS I).size + B.size ≤ 9223372036854775807 := by (try simp only [ByteArray.size_append]); omega
          have s4 : (X ++ dS N ++ B ++ dS I ++ B).size + T.size ≤ 9223372036854775807 := by (try simp only [ByteArray.size_append]); omega
          clear hD hP hN hR hX hB
          go_enter Tryd.func38, Tryd.ntmps38
          rw [← HX.out]
          rw [← HB.out]
          go_wp2_with (first | (go_at_call 80; (with_reducible refine (HD.out.may _ (by assumption) _).mono ?_); rintro e w' ⟨rfl, rfl⟩) | (go_at_call 81; (with_reducible refine (HD.out.dig _ (by assumption) _).mono ?_); rintro e w' ⟨rfl, rfl⟩) | (go_at_call 82; (with_reducible refine (hT.out _ (hb _)).mono ?_); rintro e w2 ⟨rfl, hb2⟩))
          go_ret2
          exact ⟨by rw [HR.out]; rfl, (hb _).trans (hb2.mono (hb _).size)⟩
        · skip
          have HR : Hid (R = ((⟨#[]⟩ : ByteArray), false)) := Lib.hid (by rw [hR, rlG]; simp [hD, hN, hP])
          have bD : (D == 0) = true := beq_iff_eq.mpr hD
          have bN : (N == 0) = false := beq_eq_false_iff_ne.mpr hN
          have bP : (P == 0) = false := beq_eq_false_iff_ne.mpr hP
          clear hD hN hP hR hX hB
          go_enter Tryd.func38, Tryd.ntmps38
          go_wp2_with (first | (go_at_call 80; (with_reducible refine (HD.out.may _ (by assumption) _).mono ?_); rintro e w' ⟨rfl, rfl⟩) | (go_at_call 81; (with_reducible refine (HD.out.dig _ (by assumption) _).mono ?_); rintro e w' ⟨rfl, rfl⟩))
          go_ret2
          exact ⟨by rw [HR.out]; rfl, hb _⟩
      · skip
        have HR : Hid (R = ((⟨#[]⟩ : ByteArray), false)) := Lib.hid (by rw [hR, rlG]; simp [hN, hD])
        have bN : (N == 0) = false := beq_eq_false_iff_ne.mpr hN
        have bD : (D == 0) = false := beq_eq_false_iff_ne.mpr hD
        clear hN hD hR hX hB
        go_enter Tryd.func38, Tryd.ntmps38
        go_wp2_with (first | (go_at_call 80; (with_reducible refine (HD.out.may _ (by assumption) _).mono ?_); rintro e w' ⟨rfl, rfl⟩) | (go_at_call 81; (with_reducible refine (HD.out.dig _ (by assumption) _).mono ?_); rintro e w' ⟨rfl, rfl⟩))
        go_ret2
        exact ⟨by rw [HR.out]; rfl, hb _⟩
  · have l1 : decide (0 < n) = false := decide_eq_false hn
    clear hT
    by_cases hN : N = 0
    · skip
      by_cases hD : D = 0
      · skip
        by_cases hP : P = 0
        · skip
          have HR : Hid (R = (X ++ dS N ++ B ++ dS I, true)) := Lib.hid (by rw [hR, rlG]; simp [hN, hD, hP, hX, hB, hn])
          have bN : (N == 0) = true := beq_iff_eq.mpr hN
          have bD : (D == 0) = true := beq_iff_eq.mpr hD
          have bP : (P == 0) = true := beq_iff_eq.mpr hP
          have s0 : X.size + (dS N).size ≤ 9223372036854775807 := by (try simp only [ByteArray.size_append]); omega
          have s1 : (X ++ dS N).size + B.size ≤ 9223372036854775807 := by (try simp only [ByteArray.size_append]); omega
          have s2 : (X ++ dS N ++ B).size + (dS I).size ≤ 9223372036854775807 := by (try simp only [ByteArray.size_append]); omega
          clear hN hD hP hR hX hB
          go_enter Tryd.func38, Tryd.ntmps38
          rw [← HX.out]
          rw [← HB.out]
          go_wp2_with (first | (go_at_call 80; (with_reducible refine (HD.out.may _ (by assumption) _).mono ?_); rintro e w' ⟨rfl, rfl⟩) | (go_at_call 81; (with_reducible refine (HD.out.dig _ (by assumption) _).mono ?_); rintro e w' ⟨rfl, rfl⟩))
          go_ret2
          exact ⟨by rw [HR.out]; rfl, hb _⟩
        · skip
          have HR : Hid (R = ((⟨#[]⟩ : ByteArray), false)) := Lib.hid (by rw [hR, rlG]; simp [hN, hD, hP])
          have bN : (N == 0) = true := beq_iff_eq.mpr hN
          have bD : (D == 0) = true := beq_iff_eq.mpr hD
          have bP : (P == 0) = false := beq_eq_false_iff_ne.mpr hP
          clear hN hD hP hR hX hB
          go_enter Tryd.func38, Tryd.ntmps38
          go_wp2_with (first | (go_at_call 80; (with_reducible refine (HD.out.may _ (by assumption) _).mono ?_); rintro e w' ⟨rfl, rfl⟩) | (go_at_call 81; (with_reducible refine (HD.out.dig _ (by assumption) _).mono ?_); rintro e w' ⟨rfl, rfl⟩))
          go_ret2
          exact ⟨by rw [HR.out]; rfl, hb _⟩
      · skip
        have HR : Hid (R = ((⟨#[]⟩ : ByteArray), false)) := Lib.hid (by rw [hR, rlG]; simp [hN, hD])
        have bN : (N == 0) = true := beq_iff_eq.mpr hN
        have bD : (D == 0) = false := beq_eq_false_iff_ne.mpr hD
        clear hN hD hR hX hB
        go_enter Tryd.func38, Tryd.ntmps38
        go_wp2_with (first | (go_at_call 80; (with_reducible refine (HD.out.may _ (by assumption) _).mono ?_); rintro e w' ⟨rfl, rfl⟩) | (go_at_call 81; (with_reducible refine (HD.out.dig _ (by assumption) _).mono ?_); rintro e w' ⟨rfl, rfl⟩))
        go_ret2
        exact ⟨by rw [HR.out]; rfl, hb _⟩
    · skip
      by_cases hD : D = 0
      · skip
        by_cases hP : P = 0
        · skip
          have HR : Hid (R = (X ++ dS N ++ B ++ dS I, true)) := Lib.hid (by rw [hR, rlG]; simp [hD, hP, hN, hX, hB, hn])
          have bD : (D == 0) = true := beq_iff_eq.mpr hD
          have bP : (P == 0) = true := beq_iff_eq.mpr hP
          have bN : (N == 0) = false := beq_eq_false_iff_ne.mpr hN
          have s0 : X.size + (dS N).size ≤ 9223372036854775807 := by (try simp only [ByteArray.size_append]); omega
          have s1 : (X ++ dS N).size + B.size ≤ 9223372036854775807 := by (try simp only [ByteArray.size_append]); omega
          have s2 : (X ++ dS N ++ B).size + (dS I).size ≤ 9223372036854775807 := by (try simp only [ByteArray.size_append]); omega
          clear hD hP hN hR hX hB
          go_enter Tryd.func38, Tryd.ntmps38
          rw [← HX.out]
          rw [← HB.out]
          go_wp2_with (first | (go_at_call 80; (with_reducible refine (HD.out.may _ (by assumption) _).mono ?_); rintro e w' ⟨rfl, rfl⟩) | (go_at_call 81; (with_reducible refine (HD.out.dig _ (by assumption) _).mono ?_); rintro e w' ⟨rfl, rfl⟩))
          go_ret2
          exact ⟨by rw [HR.out]; rfl, hb _⟩
        · skip
          have HR : Hid (R = ((⟨#[]⟩ : ByteArray), false)) := Lib.hid (by rw [hR, rlG]; simp [hD, hN, hP])
          have bD : (D == 0) = true := beq_iff_eq.mpr hD
          have bN : (N == 0) = false := beq_eq_false_iff_ne.mpr hN
          have bP : (P == 0) = false := beq_eq_false_iff_ne.mpr hP
          clear hD hN hP hR hX hB
          go_enter Tryd.func38, Tryd.ntmps38
          go_wp2_with (first | (go_at_call 80; (with_reducible refine (HD.out.may _ (by assumption) _).mono ?_); rintro e w' ⟨rfl, rfl⟩) | (go_at_call 81; (with_reducible refine (HD.out.dig _ (by assumption) _).mono ?_); rintro e w' ⟨rfl, rfl⟩))
          go_ret2
          exact ⟨by rw [HR.out]; rfl, hb _⟩
      · skip
        have HR : Hid (R = ((⟨#[]⟩ : ByteArray), false)) := Lib.hid (by rw [hR, rlG]; simp [hN, hD])
        have bN : (N == 0) = false := beq_eq_false_iff_ne.mpr hN
        have bD : (D == 0) = false := beq_eq_false_iff_ne.mpr hD
        clear hN hD hR hX hB
        go_enter Tryd.func38, Tryd.ntmps38
        go_wp2_with (first | (go_at_call 80; (with_reducible refine (HD.out.may _ (by assumption) _).mono ?_); rintro e w' ⟨rfl, rfl⟩) | (go_at_call 81; (with_reducible refine (HD.out.dig _ (by assumption) _).mono ?_); rintro e w' ⟨rfl, rfl⟩))
        go_ret2
        exact ⟨by rw [HR.out]; rfl, hb _⟩
set_option maxHeartbeats 4000000 in
set_option maxRecDepth 100000 in
theorem rl_o (w : World) (K : Int) (N I D P : Int) (n : Nat) (A5 : Option Addr) (c5 : Nat) (dS : Int → ByteArray) (T : ByteArray) (HD : Hid (Dgs dS)) (mN : mayB N) (mI : mayB I) (mD : mayB D) (mP : mayB P) (hn : K = 7 ∨ n = 0) (k1 : K ≠ 1) (k2 : K ≠ 2) (k3 : K ≠ 3) (k4 : K ≠ 4) (k5 : K ≠ 5) (k6 : K ≠ 6) (k7 : K ≠ 7) :
    Calls Tryd.prog 38 (RArgs K N I D P n A5 c5) w fun e w' => e = .returned (.tuple #[.string (rlG K N I D P n dS T).1, .bool (rlG K N I D P n dS T).2]) ∧ Below w.heap.size w w' := by
  have hb : ∀ c, Below w.heap.size w (w.alloc (.cells c 63)) := fun c => below_alloc (Below.refl _ _) _
  obtain ⟨R, hR⟩ : ∃ R, R = rlG K N I D P n dS T := ⟨_, rfl⟩
  rw [← hR]
  have zN := HD.out.sz N mN
  have zI := HD.out.sz I mI
  have zD := HD.out.sz D mD
  have zP := HD.out.sz P mP
  obtain rfl : n = 0 := by rcases hn with h | h; exact absurd h k7; exact h
  have e1 : (K == 1) = false := beq_eq_false_iff_ne.mpr k1
  have e2 : (K == 2) = false := beq_eq_false_iff_ne.mpr k2
  have e3 : (K == 3) = false := beq_eq_false_iff_ne.mpr k3
  have e4 : (K == 4) = false := beq_eq_false_iff_ne.mpr k4
  have e5 : (K == 5) = false := beq_eq_false_iff_ne.mpr k5
  have e6 : (K == 6) = false := beq_eq_false_iff_ne.mpr k6
  have e7 : (K == 7) = false := beq_eq_false_iff_ne.mpr k7
  have e8 : (K != 7) = true := bne_iff_ne.mpr k7
  have l1 : decide (0 < 0) = false := by decide
  by_cases hN : N = 0
  · skip
    by_cases hD : D = 0
    · skip
      have HR : Hid (R = ((⟨#[]⟩ : ByteArray), false)) := Lib.hid (by rw [hR, rlG]; simp [hN, hD, k1, k2, k3, k4, k5, k6, k7])
      have bN : (N == 0) = true := beq_iff_eq.mpr hN
      have bD : (D == 0) = true := beq_iff_eq.mpr hD
      clear hN hD k1 k2 k3 k4 k5 k6 k7 hR
      go_enter Tryd.func38, Tryd.ntmps38
      go_wp2_with (first | (go_at_call 80; (with_reducible refine (HD.out.may _ (by assumption) _).mono ?_); rintro e w' ⟨rfl, rfl⟩) | (go_at_call 81; (with_reducible refine (HD.out.dig _ (by assumption) _).mono ?_); rintro e w' ⟨rfl, rfl⟩))
      go_ret2
      exact ⟨by rw [HR.out]; rfl, hb _⟩
    · skip
      have HR : Hid (R = ((⟨#[]⟩ : ByteArray), false)) := Lib.hid (by rw [hR, rlG]; simp [hN, hD, k1, k2, k3, k4, k5, k6, k7])
      have bN : (N == 0) = true := beq_iff_eq.mpr hN
      have bD : (D == 0) = false := beq_eq_false_iff_ne.mpr hD
      clear hN hD k1 k2 k3 k4 k5 k6 k7 hR
      go_enter Tryd.func38, Tryd.ntmps38
      go_wp2_with (first | (go_at_call 80; (with_reducible refine (HD.out.may _ (by assumption) _).mono ?_); rintro e w' ⟨rfl, rfl⟩) | (go_at_call 81; (with_reducible refine (HD.out.dig _ (by assumption) _).mono ?_); rintro e w' ⟨rfl, rfl⟩))
      go_ret2
      exact ⟨by rw [HR.out]; rfl, hb _⟩
  · skip
    have HR : Hid (R = ((⟨#[]⟩ : ByteArray), false)) := Lib.hid (by rw [hR, rlG]; simp [hN, k1, k2, k3, k4, k5, k6, k7])
    have bN : (N == 0) = false := beq_eq_false_iff_ne.mpr hN
    clear hN k1 k2 k3 k4 k5 k6 k7 hR
    go_enter Tryd.func38, Tryd.ntmps38
    go_wp2_with (first | (go_at_call 80; (with_reducible refine (HD.out.may _ (by assumption) _).mono ?_); rintro e w' ⟨rfl, rfl⟩) | (go_at_call 81; (with_reducible refine (HD.out.dig _ (by assumption) _).mono ?_); rintro e w' ⟨rfl, rfl⟩))
    go_ret2
    exact ⟨by rw [HR.out]; rfl, hb _⟩
end Go.Proofs.YtpeebjnfmlfocaaDoor.TpR
namespace Go.Proofs.YtpeebjnfmlfocaaDoor.TpR
open Go.RowKit Go.Proofs.YtpeebjnfmlfocaaDoorW.PrintWords Go.Proofs.YtpeebjnfmlfocaaDoorW.PrintLast Go.Proofs.YtpeebjnfmlfocaaDoorW.PrintMore
set_option linter.unusedVariables false
theorem rline_any (w : World) (K N I D P : Int) (bs : List Int) (A5 : Option Addr) (c5 : Nat) (hC5 : (Kd.int .u8).C w A5 bs.length bs) (hc5 : bs.length ≤ c5) (hy : ∀ x ∈ bs, 0 ≤ x ∧ x ≤ 255) (hl5 : bs.length ≤ 1000000) :
    Calls Tryd.prog 38 (RArgs K N I D P bs.length A5 c5) w fun e w' => e = .returned (.tuple #[.string (refLine K N I D P bs).1, .bool (refLine K N I D P bs).2]) ∧ Below w.heap.size w w' := by
  unfold refLine
  by_cases h : rlBad K N I D P bs.length
  · rw [if_pos h]
    exact rl_bad w K N I D P bs.length A5 c5 itoaB dgs h
  · rw [if_neg h]
    obtain ⟨mN, mI, mD, mP, hk⟩ := rl_good_pre K N I D P bs.length h
    have HD := Lib.hid dgs
    have n0 : K ≠ 7 → bs.length = 0 := fun h7 => by rcases hk with h | h; exact absurd h h7; exact h
    by_cases k1 : K = 1
    · subst k1; exact rl_1 w N I D P _ A5 c5 itoaB _ HD mN mI mD mP (n0 (by decide))
    by_cases k2 : K = 2
    · subst k2; exact rl_2 w N I D P _ A5 c5 itoaB _ HD mN mI mD mP (n0 (by decide))
    by_cases k3 : K = 3
    · subst k3; exact rl_3 w N I D P _ A5 c5 itoaB _ HD mN mI mD mP (n0 (by decide))
    by_cases k4 : K = 4
    · subst k4; exact rl_4 w N I D P _ A5 c5 itoaB _ HD mN mI mD mP (n0 (by decide))
    by_cases k5 : K = 5
    · subst k5; exact rl_5 w N I D P _ A5 c5 itoaB _ HD mN mI mD mP (n0 (by decide))
    by_cases k6 : K = 6
    · subst k6; exact rl_6 w N I D P _ A5 c5 itoaB _ HD mN mI mD mP (n0 (by decide))
    by_cases k7 : K = 7
    · subst k7
      refine rl_7 w N I D P _ A5 c5 itoaB _ HD mN mI mD mP (by have := Th.hexL_len bs; show (Th.hexL bs).toArray.size ≤ 2000000; simp; omega) (fun _ => Lib.hid fun W hb => ?_)
      exact Th.cleromancyref37_Text.calls A5 c5 bs _ W (Kd.C_below hC5 hb) hc5 (by unfold Th.cleromancyref37_Text.f; rw [if_pos]; exact rfl; rw [Bool.and_eq_true]; exact ⟨List.all_eq_true.2 (fun x hx => by have := hy x hx; simp [this]), decide_eq_true hl5⟩)
    · exact rl_o w K N I D P _ A5 c5 itoaB _ HD mN mI mD mP hk k1 k2 k3 k4 k5 k6 k7
end Go.Proofs.YtpeebjnfmlfocaaDoor.TpR
namespace Go.Proofs.YtpeebjnfmlfocaaDoor.Tp
open Go.RowKit Go.Proofs.YtpeebjnfmlfocaaDoorW.PrintWords Go.Proofs.YtpeebjnfmlfocaaDoorW.PrintLast Go.Proofs.YtpeebjnfmlfocaaDoorW.PrintMore
set_option linter.unusedVariables false
def fldF (n i d k : Int) : Nat → Int
  | 1 => n
  | 2 => i
  | 3 => d
  | _ => k
end Go.Proofs.YtpeebjnfmlfocaaDoor.Tp
