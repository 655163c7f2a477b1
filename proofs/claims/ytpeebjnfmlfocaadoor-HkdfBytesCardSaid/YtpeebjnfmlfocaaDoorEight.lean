/- credit.eight and the two Messages at this program. Condition: lengths under 2^46. -/
import Derived.Test.YtpeebjnfmlfocaaDoorGrow
namespace Go.Proofs.YtpeebjnfmlfocaaDoor.Dig
open Go.RowKit Go.UW Go.Proofs.YtpeebjnfmlfocaaDoorW.PrintWords Go.Proofs.YtpeebjnfmlfocaaDoorW.PrintLast Go.Proofs.YtpeebjnfmlfocaaDoorW.PrintMore
set_option linter.unusedVariables false

def bigE (n : Nat) : List Int := (List.range 8).map fun j => ((n / 2 ^ (56 - 8 * j) % 256 : Nat) : Int)
theorem be8_eq (n : Nat) : be8 n = bigE (n * 8) := rfl
theorem bigE_len (n : Nat) : (bigE n).length = 8 := by simp [bigE]
theorem bigE_rg (n : Nat) : ∀ x ∈ bigE n, 0 ≤ x ∧ x ≤ 255 := by
  intro x hx
  simp only [bigE, List.mem_map] at hx
  obtain ⟨j, _, rfl⟩ := hx
  omega
def msgL (l : List Int) (r : Int) : List Int := [114, 111, 117, 110, 100, 0] ++ l ++ bigE r.toNat

set_option maxHeartbeats 2000000 in
set_option maxRecDepth 100000 in
theorem eight_any (n : Nat) (hn : n < 9223372036854775808) (w : World) :
    Calls Tryd.prog 41 #[.int .i64 (n : Int)] w fun e w' => ∃ v : Value, e = .returned v ∧ Kd.R (Kd.int .u8) 5 w' w.heap.size (fun _ => True) v (bigE n) ∧ Below w.heap.size w w' := by
  go_enter Tryd.func41, Tryd.ntmps41
  go_wp2
  go_loopg [3, 4] 8 (fun gk v3 v4 wr => ∃ (q m : Nat) (A : Option Addr) (c : Nat), q + gk = 8 ∧ v4 = .int .i64 (56 - 8 * (q : Int)) ∧ v3 = .slice A m c ∧ Hid (Kd.R (Kd.int .u8) 5 wr w.heap.size (fun _ => True) v3 ((bigE n).take q)) ∧ Below w.heap.size w wr)
  case atStart => exact ⟨0, 0, none, 0, by omega, rfl, rfl, Kd.R_nil _ _ _ _ _, Below.refl _ _⟩
  case round =>
    obtain ⟨q, m, A, c, hq, rfl, rfl, hO, hb⟩ := hrel
    by_cases hlq : q < 8
    · obtain ⟨s, hs⟩ : ∃ s : Nat, s + 8 * q = 56 := ⟨56 - 8 * q, by omega⟩
      have hs2 : (56 - 8 * (q : Int)) = (s : Int) := by omega
      have hs3 : s < 64 := by omega
      rw [hs2]
      have esh : Op.shift .shr .i64 (n : Int) .u64 (s : Int) = pure (.int .i64 ((n : Int) / 2 ^ s)) := by
        rw [shift_shr _ _ _ _ (by omega) (by show (s : Int) ≤ 64; omega), Int.toNat_natCast]
      have ei : IntKind.i64.wrap ((s : Int) - 8) = (s : Int) - 8 := IntWalk.i64_in _ (by omega)
      have HQ := Lib.hid hq
      have HSS := Lib.hid hs
      clear hs hs2 hq
      go_wp2_with (
        (at_builtin
         refine Kd.R_append (Kd.int .u8) (w0 := w) (W := wr) w.heap.size rfl (.tmp 9) (.tmp 15) 22 5 (.int .u8 0) 1 rfl Tryd.underlying22 infoU8 rfl (by decide) (by omega) _ ((bigE n).take q) ((n : Int) / 2 ^ s % 256) [.int .u8 ((n : Int) / 2 ^ s % 256)] (fun _ => True) (fun _ => False) rfl rfl rfl (fun _ hk => hk.elim) (fun _ _ => trivial) hO.out hb hb.size (by rw [List.length_take]; omega) ?_
         intro v1 w8 hO2 hb2 _ _
         go_must (
          obtain ⟨A8, m8, c8, hv8⟩ : ∃ A m c, v1 = .slice A m c := by obtain ⟨A1, c1, e⟩ := Kd.R_slice hO2; exact ⟨_, _, _, e⟩
          have HO2 := Lib.hid hO2
          clear hO2)))
      go_roundg (8 - (q + 1))
      case measure => have := HQ.out; omega
      case rel =>
        have hq := HQ.out
        have hs := HSS.out
        refine ⟨q + 1, _, _, _, by omega, by rw [show (s : Int) = 56 - 8 * (q : Int) by omega]; congr 1; omega, rfl, ?_, hb2⟩
        have e : (bigE n).take (q + 1) = (bigE n).take q ++ [(n : Int) / 2 ^ s % 256] := by
          rw [List.take_succ_eq_append_getElem (by rw [bigE_len]; omega)]
          congr 2
          simp only [bigE, List.getElem_map, List.getElem_range]
          rw [show 56 - 8 * q = s by omega]
          simp
        rw [e, ← hv8]
        exact HO2.out
    · have e24 : (56 - 8 * (q : Int)) = -8 := by omega
      rw [e24]
      clear e24
      obtain rfl : q = 8 := by omega
      have hfin : (bigE n).take 8 = bigE n := List.take_of_length_le (by rw [bigE_len]; omega)
      clear hq
      go_wp2
      go_ret
      refine ⟨_, rfl, ?_, hb⟩
      have := hO.out
      rw [hfin] at this
      exact this
end Go.Proofs.YtpeebjnfmlfocaaDoor.Dig
