/- show's pen at this program: word, numbers, bytes. Conditions: numbers of 64 bits; bytes in range, at most 1000000; the table of powers stands. -/
import Derived.Test.YtpeebjnfmlfocaaDoorSx08
import Derived.Deep.QuietTactic
import Derived.BigQuiet
import Derived.IntWalk
import Derived.Laws.Concat
import Derived.Test.YtpeebjnfmlfocaaDoorSx04
import Derived.Lib.ItoaLen
import Derived.Lib.AppendIntMem
import Derived.Handy
import Derived.Deep.LoopGhost
import Derived.WalkSpells
namespace Go.Proofs.YtpeebjnfmlfocaaDoor.Th
open Go.RowKit Go.Proofs.YtpeebjnfmlfocaaDoorW.PrintWords Go.Proofs.YtpeebjnfmlfocaaDoorW.PrintLast Go.Proofs.YtpeebjnfmlfocaaDoorW.PrintMore
set_option linter.unusedVariables false
def bs (l : List UInt8) : ByteArray := ⟨l.toArray⟩
theorem bs_app (a b : List UInt8) : bs a ++ bs b = bs (a ++ b) := by
  apply ByteArray.ext
  simp [bs]
theorem bs_size (a : List UInt8) : (bs a).size = a.length := by show a.toArray.size = _; simp
theorem hexD_ext (a : Nat) (h : a < 16) : (hexD.extract a (a + 1)) = bs [dg (a : Int)] := by
  have : ∀ q : Fin 16, (hexD.extract q.1 (q.1 + 1)) = bs [dg (q.1 : Int)] := by decide
  exact this ⟨a, h⟩
def cleromancyref37_Text.f (l : List Int) : Option ByteArray := if l.all (fun x => 0 ≤ x && x ≤ 255) && decide (l.length ≤ 1000000) then some (bs (hexL l)) else none
set_option maxHeartbeats 2000000 in
theorem cleromancyref37_Text.calls (A0 : Option Addr) (c0 : Nat) (l0 : List Int) (r : ByteArray) (w : World) (hr0 : Kd.C (Kd.int .u8) w A0 l0.length l0) (hc0 : l0.length ≤ c0) (h : cleromancyref37_Text.f l0 = some r) :
    Calls Tryd.prog 82 #[.slice A0 l0.length c0] w fun e w' => e = .returned (.string r) ∧ Below w.heap.size w w' := by
  unfold cleromancyref37_Text.f at h
  split at h
  · rename_i hb
    rw [Option.some.injEq] at h
    subst h
    simp only [Bool.and_eq_true, decide_eq_true_eq, List.all_eq_true] at hb
    obtain ⟨hb0, hn⟩ := hb
    have hb : Hid (∀ x ∈ l0, 0 ≤ x ∧ x ≤ 255) := hb0
    clear hb0
    have hr : Hid (Kd.C (Kd.int .u8) w A0 l0.length l0) := hr0
    clear hr0
    obtain ⟨D, hD⟩ : ∃ D, D = hexD := ⟨_, rfl⟩
    have HD : Hid (D = hexD) := hD
    have hDs : D.size = 16 := by rw [hD]; rfl
    unfold hexD at hD
    go_enter Tryd.func82, Tryd.ntmps82
    rw [← hD]
    clear hD
    go_wp2
    go_loopw [4, 5] (fun s i wr => ∃ (k : Nat) (t : List UInt8), k ≤ l0.length ∧ i = .int .i64 k ∧ s = .string (bs t) ∧ Hid (t = hexL (l0.take k)) ∧ t.length ≤ 2 * k ∧ Below w.heap.size w wr) (fun _ i _ => l0.length - (intOf i).toNat)
    case atStart => exact ⟨0, [], by omega, rfl, rfl, rfl, by simp, Below.refl _ _⟩
    case round =>
      obtain ⟨k, t, hk, rfl, rfl, ht, htl, hw⟩ := hrel
      have hts := bs_size t
      by_cases hlt : k < l0.length
      · obtain ⟨ad, rfl, hcell⟩ := C_int_at (Kd.C_below hr hw) k hlt
        obtain ⟨x, hx⟩ : ∃ x : Nat, (x : Int) = l0.getD k 0 := ⟨(l0.getD k 0).toNat, by
          have : 0 ≤ l0.getD k 0 := by rw [List.getD_eq_getElem?_getD, List.getElem?_eq_getElem hlt]; exact (hb _ (List.getElem_mem hlt)).1
          omega⟩
        have hx1 : x ≤ 255 := by
          have : l0.getD k 0 ≤ 255 := by rw [List.getD_eq_getElem?_getD, List.getElem?_eq_getElem hlt]; exact (hb _ (List.getElem_mem hlt)).2
          omega
        rw [← hx] at hcell
        have HX : Hid ((x : Int) = l0.getD k 0) := hx
        clear hx
        go_wp2
        obtain ⟨a, ha⟩ : ∃ a : Nat, a = x / 16 := ⟨_, rfl⟩
        obtain ⟨b, hb'⟩ : ∃ b : Nat, b = x % 16 := ⟨_, rfl⟩
        have q1 : IntKind.i64.wrap ((x : Int) / 16) = a := by rw [IntWalk.i64_in _ (by omega)]; omega
        have q2 : IntKind.i64.wrap ((a : Int) + 1) = (a : Int) + 1 := IntWalk.i64_in _ (by omega)
        have q3 : (x : Int) % 16 = b := by omega
        have q4 : IntKind.i64.wrap ((b : Int) + 1) = (b : Int) + 1 := IntWalk.i64_in _ (by omega)
        have q5 : IntKind.i64.wrap (b : Int) = b := IntWalk.i64_in _ (by omega)
        have ha16 : a < 16 := by omega
        have hb16 : b < 16 := by omega
        have e1 : D.extract a (a + 1) = bs [dg (a : Int)] := by rw [HD.out]; exact hexD_ext a ha16
        have e2 : D.extract b (b + 1) = bs [dg (b : Int)] := by rw [HD.out]; exact hexD_ext b hb16
        have s1 : ∀ W : World, (Instr.slice 9 (.string D) (some (.int .i64 a)) (some (.int .i64 ((a : Int) + 1))) none).run Tryd.prog W = .ok (.string (bs [dg (a : Int)])) W := fun W => by
          rw [run_slice_string W 9 D .i64 .i64 a ((a : Int) + 1) Tryd.underlying9 (by omega) (by omega) (by omega), ← e1]; rfl
        have s2 : ∀ W : World, (Instr.slice 9 (.string D) (some (.int .i64 b)) (some (.int .i64 ((b : Int) + 1))) none).run Tryd.prog W = .ok (.string (bs [dg (b : Int)])) W := fun W => by
          rw [run_slice_string W 9 D .i64 .i64 b ((b : Int) + 1) Tryd.underlying9 (by omega) (by omega) (by omega), ← e2]; rfl
        have c1 : ∀ W : World, (Op.stringOp .add (bs t) (bs [dg (a : Int)])).run Tryd.prog W = .ok (.string (bs (t ++ [dg (a : Int)]))) W := fun W => by
          rw [run_string_add_sum _ _ _ (by rw [bs_size, bs_size]; simp; omega), bs_app]
        have c2 : ∀ W : World, (Op.stringOp .add (bs (t ++ [dg (a : Int)])) (bs [dg (b : Int)])).run Tryd.prog W = .ok (.string (bs (t ++ [dg (a : Int)] ++ [dg (b : Int)]))) W := fun W => by
          rw [run_string_add_sum _ _ _ (by rw [bs_size, bs_size]; simp; omega), bs_app]
        have HA := Lib.hid ha
        have HB := Lib.hid hb'
        clear ha hb' e1 e2
        go_quiet (fail)
        clear q1 q2 q3 q4 q5 s1 s2 c1 c2
        go_wp2
        go_roundw
        case rel =>
          refine ⟨k + 1, t ++ [dg a, dg b], by omega, by go_num, rfl, ?_, by simp; omega, ?_⟩
          · show _ = hexL (l0.take (k + 1))
            rw [hexL_snoc _ _ hlt, ← ht.out, ← HX.out]
            have h1 : (a : Int) = (x : Int) / 16 := by have := HA.out; omega
            have h2 : (b : Int) = (x : Int) % 16 := by have := HB.out; omega
            rw [h1, h2]
          · exact hw.trans ((Drawn0.step (Drawn0.refl _) _).below.mono hw.size)
        case measure => simp [intOf]; omega
      · have hte : t = hexL l0 := by have := ht.out; rw [List.take_of_length_le (by omega)] at this; exact this
        have HT := Lib.hid hte
        clear hte
        go_wp2
        go_ret
        refine ⟨?_, hw⟩
        rw [← HT.out]
        rfl
  · simp at h
end Go.Proofs.YtpeebjnfmlfocaaDoor.Th
namespace Go.Proofs.YtpeebjnfmlfocaaDoor.Sh
open Go.RowKit Go.Proofs.YtpeebjnfmlfocaaDoor.Th Go.Proofs.YtpeebjnfmlfocaaDoorW.PrintWords Go.Proofs.YtpeebjnfmlfocaaDoorW.PrintLast Go.Proofs.YtpeebjnfmlfocaaDoorW.PrintMore
set_option linter.unusedVariables false
set_option linter.unusedSimpArgs false
def itoaB (n : Int) : ByteArray := ⟨(Lib.itoa n).toArray⟩
theorem itoaB_size (n : Int) (h0 : -1 ≤ n) (h1 : n ≤ 4611686018427387904) : (itoaB n).size ≤ 21 := by
  have := Lib.itoa_length_le n (by omega) (by omega)
  show (Lib.itoa n).toArray.size ≤ 21
  simpa using this
theorem itoaB_nat (u : Nat) : itoaB (u : Int) = ⟨(Lib.decDigits u).toArray⟩ := by unfold itoaB; rw [Lib.itoa_nonneg]
theorem itoaB_one (u : Nat) (h : u < 10) : itoaB (u : Int) = (⟨#[48, 49, 50, 51, 52, 53, 54, 55, 56, 57]⟩ : ByteArray).extract u (u + 1) := by
  rw [itoaB_nat, Lib.decDigits_one h]
  have : ∀ q : Fin 10, (⟨[UInt8.ofNat (48 + q.1)].toArray⟩ : ByteArray) = (⟨#[48, 49, 50, 51, 52, 53, 54, 55, 56, 57]⟩ : ByteArray).extract q.1 (q.1 + 1) := by decide
  exact this ⟨u, h⟩
theorem itoaB_more (u : Nat) (h : ¬ u < 10) : itoaB (u : Int) = itoaB ((u / 10 : Nat) : Int) ++ itoaB ((u % 10 : Nat) : Int) := by
  rw [itoaB_nat, itoaB_nat, itoaB_nat, Lib.decDigits_one (Nat.mod_lt u (by decide)), Lib.decDigits, dif_neg h]
  apply ByteArray.ext
  simp
def cleromancyref47_digits.f (n : Int) : Option ByteArray := if -1 ≤ n ∧ n ≤ 4611686018427387904 then some (itoaB n) else none
set_option maxHeartbeats 1000000 in
theorem digits_any (k : Nat) : ∀ (u : Nat) (w : World), u < 10 ^ (k + 1) → u ≤ 4611686018427387904 →
    Calls Tryd.prog 71 #[.int .i64 (u : Int)] w fun e w' => e = .returned (.string (itoaB (u : Int))) ∧ Drawn0 w w' := by
  induction k with
  | zero =>
    intro u w hu hm
    have hu10 : u < 10 := by simpa using hu
    have hd : decide ((u : Int) < 10) = true := decide_eq_true (by omega)
    have hq : ((u : Int) == -1) = false := beq_eq_false_iff_ne.mpr (by omega)
    rw [itoaB_one u hu10]
    obtain ⟨D, hD⟩ : ∃ D : ByteArray, D = ⟨#[48, 49, 50, 51, 52, 53, 54, 55, 56, 57]⟩ := ⟨_, rfl⟩
    have hDs : D.size = 10 := by rw [hD]; rfl
    have e1 : IntKind.i64.wrap ((u : Int) + 1) = (u : Int) + 1 := IntWalk.i64_in _ (by omega)
    have s1 : ∀ W : World, (Instr.slice 9 (.string D) (some (.int .i64 (u : Int))) (some (.int .i64 ((u : Int) + 1))) none).run Tryd.prog W = .ok (.string (D.extract u (u + 1))) W := fun W => by
      rw [run_slice_string W 9 D .i64 .i64 u ((u : Int) + 1) Tryd.underlying9 (by omega) (by omega) (by omega)]; rfl
    go_enter Tryd.func71, Tryd.ntmps71
    rw [← hD]
    clear hD hDs hu hm
    go_wp2
    go_ret
    exact ⟨rfl, Drawn0.refl _⟩
  | succ k ih =>
    intro u w hu hm
    by_cases hu10 : u < 10
    · exact ih u w (Nat.lt_of_lt_of_le hu10 (by rw [Nat.pow_succ]; have := Nat.one_le_pow k 10 (by decide); omega)) hm
    · have hd : decide ((u : Int) < 10) = false := decide_eq_false (by omega)
      have hqq : ((u : Int) == -1) = false := beq_eq_false_iff_ne.mpr (by omega)
      obtain ⟨q, hq⟩ : ∃ q, q = u / 10 := ⟨_, rfl⟩
      obtain ⟨m, hmm⟩ : ∃ m, m = u % 10 := ⟨_, rfl⟩
      have hq2 : q < 10 ^ (k + 1) := by rw [Nat.pow_succ] at hu; omega
      have hm10 : m < 10 := by omega
      have q1 : IntKind.i64.wrap ((u : Int) / 10) = (q : Int) := by rw [IntWalk.i64_in _ (by omega)]; omega
      have q1b : ((u : Int) / 10) = (q : Int) := by omega
      have q2 : (u : Int) % 10 = (m : Int) := by omega
      have q2t : (u : Int).tmod 10 = (m : Int) := by rw [Int.tmod_eq_emod_of_nonneg (by omega)]; omega
      have q1t : (u : Int).tdiv 10 = (q : Int) := by rw [Int.tdiv_eq_ediv_of_nonneg (by omega)]; omega
      have q3 : IntKind.i64.wrap ((m : Int) + 1) = (m : Int) + 1 := IntWalk.i64_in _ (by omega)
      have q4 : IntKind.i64.wrap (m : Int) = (m : Int) := IntWalk.i64_in _ (by omega)
      have q5 : IntKind.i64.wrap (q : Int) = (q : Int) := IntWalk.i64_in _ (by omega)
      have hqc := fun W => (ih q W hq2 (by omega)).mono fun e w' h => (show e = .returned (.string (itoaB (q : Int))) ∧ ∃ m, w' = W.drewN m from ⟨h.1, h.2.out⟩)
      have hs1 := itoaB_size (q : Int) (by omega) (by omega)
      rw [itoaB_more u hu10, ← hq, ← hmm, itoaB_one m hm10]
      obtain ⟨Q, hQ⟩ : ∃ Q, Q = itoaB (q : Int) := ⟨_, rfl⟩
      rw [← hQ] at hqc hs1 ⊢
      obtain ⟨D, hD⟩ : ∃ D : ByteArray, D = ⟨#[48, 49, 50, 51, 52, 53, 54, 55, 56, 57]⟩ := ⟨_, rfl⟩
      have hDs : D.size = 10 := by rw [hD]; rfl
      have s1 : ∀ W : World, (Instr.slice 9 (.string D) (some (.int .i64 (m : Int))) (some (.int .i64 ((m : Int) + 1))) none).run Tryd.prog W = .ok (.string (D.extract m (m + 1))) W := fun W => by
        rw [run_slice_string W 9 D .i64 .i64 m ((m : Int) + 1) Tryd.underlying9 (by omega) (by omega) (by omega)]; rfl
      obtain ⟨E, hE⟩ : ∃ E, E = D.extract m (m + 1) := ⟨_, rfl⟩
      have hEs : E.size ≤ 10 := by rw [hE, ByteArray.size_extract, hDs]; omega
      have s2 : ∀ W : World, (Op.stringOp .add Q E).run Tryd.prog W = .ok (.string (Q ++ E)) W := fun W => run_string_add_sum _ _ _ (by omega)
      rw [← hD, ← hE]
      rw [← hE] at s1
      have HQC := Lib.hid hqc
      clear hQ hqc ih hu hq2
      go_enter Tryd.func71, Tryd.ntmps71
      rw [← hD]
      clear hD hDs hE hq hmm hm hm10
      go_wp2
      go_quiet ((go_at_call 71; exact Calls.quiet_of (HQC.out _)))
      go_wp2
      go_ret
      exact ⟨rfl, by repeat (first | exact Drawn0.refl _ | apply Drawn0.step)⟩
theorem cleromancyref47_digits.calls (a0 : Int) (r : ByteArray) (w : World) (h : cleromancyref47_digits.f a0 = some r) :
    Calls Tryd.prog 71 #[.int .i64 a0] w fun e w' => e = .returned (.string r) ∧ Drawn0 w w' := by
  unfold cleromancyref47_digits.f at h
  split at h
  · rename_i hb
    rw [Option.some.injEq] at h
    subst h
    by_cases h1 : a0 = -1
    · subst h1
      have hv : itoaB (-1) = ⟨#[45, 49]⟩ := by decide +kernel
      rw [hv]
      clear hv hb
      go_enter Tryd.func71, Tryd.ntmps71
      go_wp2
      go_ret
      exact ⟨rfl, Drawn0.refl _⟩
    · obtain ⟨u, rfl⟩ : ∃ u : Nat, a0 = u := ⟨a0.toNat, by omega⟩
      exact digits_any 18 u w (by have : (10 : Nat) ^ 19 = 10000000000000000000 := rfl; omega) (by omega)
  · cases h
def cleromancyref37_Text.f (l : List Int) : Option ByteArray := if l.all (fun x => 0 ≤ x && x ≤ 255) && decide (l.length ≤ 1000000) then some (bs (hexL l)) else none
set_option maxHeartbeats 2000000 in
theorem cleromancyref37_Text.calls (A0 : Option Addr) (c0 : Nat) (l0 : List Int) (r : ByteArray) (w : World) (hr0 : Kd.C (Kd.int .u8) w A0 l0.length l0) (hc0 : l0.length ≤ c0) (h : cleromancyref37_Text.f l0 = some r) :
    Calls Tryd.prog 82 #[.slice A0 l0.length c0] w fun e w' => e = .returned (.string r) ∧ Drawn0 w w' := by
  unfold cleromancyref37_Text.f at h
  split at h
  · rename_i hb
    rw [Option.some.injEq] at h
    subst h
    simp only [Bool.and_eq_true, decide_eq_true_eq, List.all_eq_true] at hb
    obtain ⟨hb0, hn⟩ := hb
    have hb : Hid (∀ x ∈ l0, 0 ≤ x ∧ x ≤ 255) := hb0
    clear hb0
    have hr : Hid (Kd.C (Kd.int .u8) w A0 l0.length l0) := hr0
    clear hr0
    obtain ⟨D, hD⟩ : ∃ D, D = hexD := ⟨_, rfl⟩
    have HD : Hid (D = hexD) := hD
    have hDs : D.size = 16 := by rw [hD]; rfl
    unfold hexD at hD
    go_enter Tryd.func82, Tryd.ntmps82
    rw [← hD]
    clear hD
    go_wp2
    go_loopw [4, 5] (fun s i wr => ∃ (k : Nat) (t : List UInt8), k ≤ l0.length ∧ i = .int .i64 k ∧ s = .string (bs t) ∧ Hid (t = hexL (l0.take k)) ∧ t.length ≤ 2 * k ∧ Drawn0 w wr) (fun _ i _ => l0.length - (intOf i).toNat)
    case atStart => exact ⟨0, [], by omega, rfl, rfl, rfl, by simp, Drawn0.refl _⟩
    case round =>
      obtain ⟨k, t, hk, rfl, rfl, ht, htl, hw⟩ := hrel
      have hts := bs_size t
      by_cases hlt : k < l0.length
      · obtain ⟨ad, rfl, hcell⟩ := C_int_at (Kd.C_below hr hw.below) k hlt
        obtain ⟨x, hx⟩ : ∃ x : Nat, (x : Int) = l0.getD k 0 := ⟨(l0.getD k 0).toNat, by
          have : 0 ≤ l0.getD k 0 := by rw [List.getD_eq_getElem?_getD, List.getElem?_eq_getElem hlt]; exact (hb _ (List.getElem_mem hlt)).1
          omega⟩
        have hx1 : x ≤ 255 := by
          have : l0.getD k 0 ≤ 255 := by rw [List.getD_eq_getElem?_getD, List.getElem?_eq_getElem hlt]; exact (hb _ (List.getElem_mem hlt)).2
          omega
        rw [← hx] at hcell
        have HX : Hid ((x : Int) = l0.getD k 0) := hx
        clear hx
        go_wp2
        obtain ⟨a, ha⟩ : ∃ a : Nat, a = x / 16 := ⟨_, rfl⟩
        obtain ⟨b, hb'⟩ : ∃ b : Nat, b = x % 16 := ⟨_, rfl⟩
        have q1 : IntKind.i64.wrap ((x : Int) / 16) = a := by rw [IntWalk.i64_in _ (by omega)]; omega
        have q2 : IntKind.i64.wrap ((a : Int) + 1) = (a : Int) + 1 := IntWalk.i64_in _ (by omega)
        have q3 : (x : Int) % 16 = b := by omega
        have q4 : IntKind.i64.wrap ((b : Int) + 1) = (b : Int) + 1 := IntWalk.i64_in _ (by omega)
        have q5 : IntKind.i64.wrap (b : Int) = b := IntWalk.i64_in _ (by omega)
        have ha16 : a < 16 := by omega
        have hb16 : b < 16 := by omega
        have e1 : D.extract a (a + 1) = bs [dg (a : Int)] := by rw [HD.out]; exact hexD_ext a ha16
        have e2 : D.extract b (b + 1) = bs [dg (b : Int)] := by rw [HD.out]; exact hexD_ext b hb16
        have s1 : ∀ W : World, (Instr.slice 9 (.string D) (some (.int .i64 a)) (some (.int .i64 ((a : Int) + 1))) none).run Tryd.prog W = .ok (.string (bs [dg (a : Int)])) W := fun W => by
          rw [run_slice_string W 9 D .i64 .i64 a ((a : Int) + 1) Tryd.underlying9 (by omega) (by omega) (by omega), ← e1]; rfl
        have s2 : ∀ W : World, (Instr.slice 9 (.string D) (some (.int .i64 b)) (some (.int .i64 ((b : Int) + 1))) none).run Tryd.prog W = .ok (.string (bs [dg (b : Int)])) W := fun W => by
          rw [run_slice_string W 9 D .i64 .i64 b ((b : Int) + 1) Tryd.underlying9 (by omega) (by omega) (by omega), ← e2]; rfl
        have c1 : ∀ W : World, (Op.stringOp .add (bs t) (bs [dg (a : Int)])).run Tryd.prog W = .ok (.string (bs (t ++ [dg (a : Int)]))) W := fun W => by
          rw [run_string_add_sum _ _ _ (by rw [bs_size, bs_size]; simp; omega), bs_app]
        have c2 : ∀ W : World, (Op.stringOp .add (bs (t ++ [dg (a : Int)])) (bs [dg (b : Int)])).run Tryd.prog W = .ok (.string (bs (t ++ [dg (a : Int)] ++ [dg (b : Int)]))) W := fun W => by
          rw [run_string_add_sum _ _ _ (by rw [bs_size, bs_size]; simp; omega), bs_app]
        have HA := Lib.hid ha
        have HB := Lib.hid hb'
        clear ha hb' e1 e2
        go_quiet (fail)
        clear q1 q2 q3 q4 q5 s1 s2 c1 c2
        go_wp2
        go_roundw
        case rel =>
          refine ⟨k + 1, t ++ [dg a, dg b], by omega, by go_num, rfl, ?_, by simp; omega, ?_⟩
          · show _ = hexL (l0.take (k + 1))
            rw [hexL_snoc _ _ hlt, ← ht.out, ← HX.out]
            have h1 : (a : Int) = (x : Int) / 16 := by have := HA.out; omega
            have h2 : (b : Int) = (x : Int) % 16 := by have := HB.out; omega
            rw [h1, h2]
          · exact Drawn0.step hw _
        case measure => simp [intOf]; omega
      · have hte : t = hexL l0 := by have := ht.out; rw [List.take_of_length_le (by omega)] at this; exact this
        have HT := Lib.hid hte
        clear hte
        go_wp2
        go_ret
        refine ⟨?_, hw⟩
        rw [← HT.out]
        rfl
  · simp at h
end Go.Proofs.YtpeebjnfmlfocaaDoor.Sh
namespace Go.Proofs.YtpeebjnfmlfocaaDoor.Sh
open Go.RowKit Go.Proofs.YtpeebjnfmlfocaaDoor.Th Go.Proofs.YtpeebjnfmlfocaaDoorW.PrintWords Go.Proofs.YtpeebjnfmlfocaaDoorW.PrintLast Go.Proofs.YtpeebjnfmlfocaaDoorW.PrintMore
set_option maxRecDepth 100000
set_option linter.unusedVariables false
set_option linter.unusedSimpArgs false
abbrev Tab (w : World) : Prop := Lib.TabIs Tryd.prog w "internal/strconv.uint64pow10" .u64 Lib.pow10Tab
def Fr (w w' : World) : Prop := ∀ (k : Nat) (cs : Array Value) (t : TypeId), w.heap[k]? = some (.cells cs t) → t ≠ 9 → t ≠ 103 → w'.heap[k]? = some (.cells cs t)
theorem Fr.refl (w : World) : Fr w w := fun _ _ _ h _ _ => h
theorem Fr.trans {a b c : World} (h : Fr a b) (k : Fr b c) : Fr a c := fun i cs t hi h1 h2 => k i cs t (h i cs t hi h1 h2) h1 h2
theorem Fr.of_below {a b : World} (h : Below a.heap.size a b) : Fr a b := fun i cs t hi _ _ => blk_below hi h
structure Stp (base : Nat) (w w' : World) : Prop where
  b : Below base w w'
  f : Fr w w'
theorem Stp.refl (base : Nat) (w : World) : Stp base w w := ⟨Below.refl _ _, Fr.refl _⟩
theorem Stp.trans {base : Nat} {a b c : World} (h : Stp base a b) (k : Stp base b c) : Stp base a c := ⟨h.b.trans k.b, h.f.trans k.f⟩
theorem Stp.of_below {base : Nat} {a b : World} (h : Below a.heap.size a b) (hb : base ≤ a.heap.size) : Stp base a b := ⟨h.mono hb, Fr.of_below h⟩
theorem Stp.alloc {base : Nat} {a b : World} (h : Stp base a b) (hb : base ≤ a.heap.size) (o : Obj) : Stp base a (b.alloc o) :=
  h.trans (Stp.of_below (below_alloc (Below.refl _ _) o) (Nat.le_trans hb h.b.size))
structure Pen (w : World) (base g : Nat) (ws : List ByteArray) : Prop where
  le : base ≤ g
  own : ∃ v, w.heap[g]? = some (.cells #[v] 103) ∧ w.ownsRow base 9 1 v ws.length (encs Value.string ws)
theorem Pen.below {w w1 : World} {base g : Nat} {ws : List ByteArray} (h : Pen w base g ws) (hb : Below w.heap.size w w1) : Pen w1 base g ws := by
  obtain ⟨v, h1, h2⟩ := h.own
  exact ⟨h.le, v, blk_below h1 hb, pw_own_below h2 hb⟩
theorem Pen.lt {w : World} {base g : Nat} {ws : List ByteArray} (h : Pen w base g ws) : g < w.heap.size := by
  obtain ⟨v, h1, h2⟩ := h.own
  exact blk_lt h1
theorem Pen.size {w : World} {base g : Nat} {ws : List ByteArray} (h : Pen w base g ws) : base ≤ w.heap.size := Nat.le_trans h.le (Nat.le_of_lt h.lt)
theorem Pen.alloc {w : World} {base g : Nat} {ws : List ByteArray} (h : Pen w base g ws) (o : Obj) : Pen (w.alloc o) base g ws := h.below (below_alloc (Below.refl _ _) o)
set_option maxHeartbeats 2000000 in
theorem word_any (base g : Nat) (ws : List ByteArray) (s : ByteArray) (w : World) (hP : Pen w base g ws) (hl : ws.length ≤ 100000) :
    Calls Tryd.prog 62 #[.pointer (some ⟨g, 0, none⟩), .string s] w fun e w' => e = .returned (.tuple #[]) ∧ Pen w' base g (ws ++ [s]) ∧ Stp base w w' := by
  have hsz := hP.size
  have hle := hP.le
  obtain ⟨v, hg, ho⟩ := hP.own
  have c0 : w.cell? ⟨g, 0, none⟩ = some v := (blk_cell hg 0).trans rfl
  have f0 : w.frozen? ⟨g, 0, none⟩ = false := blk_frozen hg 0
  have hne := own_ne ho hg (by decide)
  have HG := Lib.hid hg
  have HO := Lib.hid ho
  have HNE := Lib.hid hne
  have hl2 : (ws.length + 1) * 16 ≤ 140737488355328 := by omega
  clear hg ho hne hP
  go_enter Tryd.func62, Tryd.ntmps62
  go_wp2_with (
    (at_builtin
     go_must (refine print_append_of (w0 := w) Value.string base rfl (.tmp 8) (.tmp 10) 88 9 (.string ⟨#[]⟩) 16 rfl Tryd.underlying88 info9 rfl (by decide) v ws s rfl rfl rfl HO.out (Below.refl base w) hsz hl2 ?_)
     intro v1 w1 ho1 hb1 hg1 hat1
     rw [show (ws ++ [s]).length = ws.length + 1 by simp] at ho1
     obtain ⟨A1, c1, rfl⟩ := own_slice ho1
     have hgk := blk_grown HG.out hg1 HNE.out
     have d0 : w1.cell? ⟨g, 0, none⟩ = some v := (blk_cell hgk 0).trans rfl
     have df0 : w1.frozen? ⟨g, 0, none⟩ = false := blk_frozen hgk 0
     have HG1 := Lib.hid hgk
     have HO1 := Lib.hid ho1
     have HB1 := Lib.hid hb1
     have HGR := Lib.hid hg1
     clear hgk ho1 hb1 hg1 hat1))
  go_end0
  refine ⟨rfl, ⟨hle, .slice A1 (ws.length + 1) c1, blk_set HG1.out 0 (.slice A1 (ws.length + 1) c1), ?_⟩, ⟨HB1.out.setCell (p := ⟨g, 0, none⟩) hle _, ?_⟩⟩
  · rw [show (ws ++ [s]).length = ws.length + 1 by simp]
    exact own_setCell (p := ⟨g, 0, none⟩) HO1.out (own_ne (g := g) HO1.out HG1.out (by decide)) _
  · intro k cs t hk h1 h2
    have hkg : k ≠ g := by
      rintro rfl
      have := HG.out
      rw [hk] at this
      injection this with this
      injection this with _ this
      exact h2 this
    have hkr : some k ≠ v.ownBlock := own_ne HO.out hk (Ne.symm h1)
    exact blk_far (blk_grown hk HGR.out hkr) (p := ⟨g, 0, none⟩) hkg _
def bytesS (l : List Int) : ByteArray := if l.length = 0 then ⟨#[45]⟩ else bs (hexL l)
theorem hexText_any (A : Option Addr) (c : Nat) (l : List Int) (w : World) (hC : Kd.C (Kd.int .u8) w A l.length l) (hc : l.length ≤ c) (hy : ∀ x ∈ l, 0 ≤ x ∧ x ≤ 255) (hn : l.length ≤ 1000000) :
    Calls Tryd.prog 79 #[.slice A l.length c] w fun e w' => e = .returned (.string (bs (hexL l))) ∧ Below w.heap.size w w' :=
  Th.hex_Text.calls A c l _ w hC hc (by unfold Th.hex_Text.f; rw [if_pos]; rfl; rw [Bool.and_eq_true]; exact ⟨List.all_eq_true.2 (fun x hx => by have := hy x hx; simp [this]), decide_eq_true hn⟩)
set_option maxHeartbeats 1000000 in
theorem bytes_any (base g : Nat) (ws : List ByteArray) (A : Option Addr) (c : Nat) (l : List Int) (w : World) (hP : Pen w base g ws) (hl : ws.length ≤ 100000) (hC : Kd.C (Kd.int .u8) w A l.length l) (hc : l.length ≤ c) (hy : ∀ x ∈ l, 0 ≤ x ∧ x ≤ 255) (hn : l.length ≤ 1000000) :
    Calls Tryd.prog 65 #[.pointer (some ⟨g, 0, none⟩), .slice A l.length c] w fun e w' => e = .returned (.tuple #[]) ∧ Pen w' base g (ws ++ [bytesS l]) ∧ Stp base w w' := by
  have HH := Lib.hid (hexText_any A c l w hC hc hy hn)
  have HP := Lib.hid hP
  have hsz := hP.size
  clear hC hy hP
  by_cases h0 : l.length = 0
  · have d1 : (l.length == 0) = true := beq_iff_eq.mpr h0
    have d2 : ((l.length : Int) == 0) = true := beq_iff_eq.mpr (by omega)
    have HS := Lib.hid (show bytesS l = ⟨#[45]⟩ from if_pos h0)
    clear h0
    go_enter Tryd.func65, Tryd.ntmps65
    go_wp2_with (go_at_call 62; (with_reducible refine (word_any base g ws _ _ HP.out hl).mono ?_); rintro e w2 ⟨rfl, hP2, hs2⟩)
    first | go_end0 | ((try simp only [Exit.inBlock, Exit.then]); refine bodyPost_ret (results_none rfl _ _ _) rfl ?_)
    exact ⟨rfl, by rw [HS.out]; exact hP2, hs2⟩
  · have d1 : (l.length == 0) = false := beq_eq_false_iff_ne.mpr h0
    have d2 : ((l.length : Int) == 0) = false := beq_eq_false_iff_ne.mpr (by omega)
    have HS := Lib.hid (show bytesS l = bs (hexL l) from if_neg h0)
    clear h0
    go_enter Tryd.func65, Tryd.ntmps65
    go_wp2_with (first
      | (go_at_call 79; (with_reducible refine (HH.out).mono ?_); rintro e w2 ⟨rfl, hb2⟩)
      | (go_at_call 62; (with_reducible refine (word_any base g ws _ _ (HP.out.below hb2) hl).mono ?_); rintro e w3 ⟨rfl, hP3, hs3⟩))
    first | go_end0 | ((try simp only [Exit.inBlock, Exit.then]); refine bodyPost_ret (results_none rfl _ _ _) rfl ?_)
    exact ⟨rfl, by rw [HS.out]; exact hP3, (Stp.of_below hb2 hsz).trans hs3⟩
theorem Stp.size {base : Nat} {w w' : World} (h : Stp base w w') : w.heap.size ≤ w'.heap.size := h.b.size
structure At (w0 w : World) (base : Nat) : Prop where
  b : Below w0.heap.size w0 w
  l : w0.heap.size ≤ base
theorem At.step {w0 w w' : World} {base : Nat} (h : At w0 w base) (hs : Stp base w w') : At w0 w' base := ⟨h.b.trans (hs.b.mono h.l), h.l⟩
theorem At.below {w0 w w' : World} {base : Nat} (h : At w0 w base) (hb : Below w.heap.size w w') : At w0 w' base := ⟨h.b.trans (hb.mono h.b.size), h.l⟩
theorem itoa_any (n : Int) (h0 : -9223372036854775808 ≤ n) (h1 : n ≤ 9223372036854775807) (w : World) (hT : Tab w) : Calls Tryd.prog 78 #[.int .i64 n] w fun e w' => e = .returned (.string (itoaB n)) ∧ Below w.heap.size w w' :=
  (Tryd.strconv_Itoa n h0 h1 w hT).mono fun e w' ⟨he, k, os, hw⟩ => ⟨he, by rw [hw]; exact Lib.below_grow _ w (Nat.le_refl _) k os⟩
set_option maxHeartbeats 2000000 in
theorem numbers_any (base g : Nat) (ws : List ByteArray) (b : Nat) (l : List Int) (w0 w : World) (hT : Tab w0) (hA : At w0 w base) (hP : Pen w base g ws) (hl : ws.length + l.length ≤ 100000) (hb : w.heap[b]? = some (.cells (l.map (Value.int .i64)).toArray 3)) (hn : ∀ x ∈ l, -9223372036854775808 ≤ x ∧ x ≤ 9223372036854775807) :
    Calls Tryd.prog 63 #[.pointer (some ⟨g, 0, none⟩), .slice (some ⟨b, 0, none⟩) l.length l.length] w fun e w' => e = .returned (.tuple #[]) ∧ Pen w' base g (ws ++ l.map itoaB) ∧ Stp base w w' := by
  have HT := Lib.hid hT
  have HA := Lib.hid hA
  have HP := Lib.hid hP
  have HB := Lib.hid hb
  have HN := Lib.hid hn
  have hsz := hP.size
  clear hT hA hP hb hn
  go_enter Tryd.func63, Tryd.ntmps63
  go_wp2
  go_loopw [8] (fun i wr => ∃ k : Nat, k ≤ l.length ∧ i = .int .i64 k ∧ Hid (Pen wr base g (ws ++ (l.take k).map itoaB)) ∧ Stp base w wr) (fun i _ => l.length - (intOf i).toNat)
  case atStart => exact ⟨0, by omega, rfl, Lib.hid (by simpa using HP.out), Stp.refl _ _⟩
  case round =>
    obtain ⟨k, hk, rfl, hPk, hs⟩ := hrel
    by_cases hlt : k < l.length
    · have hbk := hs.f _ _ _ HB.out (by decide) (by decide)
      obtain ⟨x, hx⟩ : ∃ x, x = l[k] := ⟨_, rfl⟩
      have e0 : wr.cell? ⟨b, k, none⟩ = some (.int .i64 x) := (blk_cell hbk k).trans (by rw [hx]; simp [hlt])
      have e1 : wr.cell? ((⟨b, 0, none⟩ : Addr).add k) = some (.int .i64 x) := by rw [add_plain]; exact e0
      have hxr := HN.out x (by rw [hx]; exact List.getElem_mem _)
      have HI := Lib.hid (itoa_any x hxr.1 hxr.2 wr (Lib.tabBelow_of_tabIs HT.out wr (HA.out.step hs).b))
      have HX := Lib.hid hx
      have hws : (ws ++ (l.take k).map itoaB).length ≤ 100000 := by simp; omega
      clear hbk hxr hx
      go_wp2_with (first
        | (go_at_call 78; (with_reducible refine (HI.out).mono ?_); rintro e w2 ⟨rfl, hb2⟩)
        | (go_at_call 62; (with_reducible refine (word_any base g _ _ _ (hPk.out.below hb2) hws).mono ?_); rintro e w3 ⟨rfl, hP3, hs3⟩))
      go_roundw
      case rel =>
        refine ⟨k + 1, by omega, by go_num, Lib.hid ?_, (hs.trans (Stp.of_below hb2 (Nat.le_trans hsz hs.size))).trans hs3⟩
        rw [List.take_succ_eq_append_getElem hlt, ← HX.out, List.map_append, ← List.append_assoc]
        exact hP3
      case measure => simp [intOf]; omega
    · have HE := Lib.hid (show (l.take k).map itoaB = l.map itoaB by rw [List.take_of_length_le (by omega)])
      go_wp2
      go_end0
      exact ⟨rfl, by rw [← HE.out]; exact hPk.out, hs⟩
end Go.Proofs.YtpeebjnfmlfocaaDoor.Sh
