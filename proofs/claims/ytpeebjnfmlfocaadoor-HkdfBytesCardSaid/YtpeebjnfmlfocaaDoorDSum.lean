/- digest.Sum at this program. Conditions: at most 2^31 bytes; the table of constants stands. -/
import Derived.Test.YtpeebjnfmlfocaaDoorHSum
namespace Go.Proofs.YtpeebjnfmlfocaaDoor.Dig
open Go.RowKit Go.UW Go.Proofs.YtpeebjnfmlfocaaDoorW.PrintWords Go.Proofs.YtpeebjnfmlfocaaDoorW.PrintLast Go.Proofs.YtpeebjnfmlfocaaDoorW.PrintMore
set_option linter.unusedVariables false

theorem Glob.lt {w : World} (h : Glob w) : 1 < w.heap.size := Nat.lt_of_le_of_lt (by decide) h.1

set_option maxHeartbeats 1000000 in
theorem dsum_any (ys : List Int) (A : Option Addr) (m c : Nat) (w : World) (hG : Glob w) (hC : (Kd.int .u8).C w A m ys) (hmc : m ≤ c) (hy : ∀ x ∈ ys, 0 ≤ x ∧ x ≤ 255) (hl : m ≤ 2147483648) :
    Calls Tryd.prog 129 #[.slice A m c] w fun e w' => ∃ v : Value, e = .returned v ∧ Kd.R (Kd.int .u8) 5 w' w.heap.size (fun _ => True) v (sha ys) ∧ Below w.heap.size w w' := by
  have hm := Kd.C_len hC
  have hgl := hG.lt
  have HM := Lib.hid hm
  have HC := Lib.hid hC
  have HY := Lib.hid hy
  clear hm hC hy
  go_enter Tryd.func129, Tryd.ntmps129
  go_wp2_with (first
    | (go_at_call 46; (with_reducible refine (new_any _).mono ?_); rintro e w1 ⟨g, rfl, hH, hb⟩; have HH := Lib.hid hH; clear hH)
    | (go_at_call 47; (with_reducible refine (write_any w.heap.size g [] ys A m c w1 (hG.below hb) hgl HH.out (Kd.C_below HC.out hb) hmc HY.out (by have := HM.out; simp only [List.length_nil]; omega)).mono ?_); rintro e w2 ⟨rfl, hH2, hb2⟩; have HH2 := Lib.hid hH2; clear hH2)
    | (go_at_call 48; (with_reducible refine (sum_any w.heap.size g ([] ++ ys) w2 (hG.below (hb.trans hb2)) HH2.out).mono ?_); rintro e w3 ⟨v, rfl, hO, hb3⟩))
  go_ret
  have hb12 := hb.trans hb2
  exact ⟨v, rfl, Kd.R_lower hO hb12.size, hb12.trans (hb3.mono hb12.size)⟩
end Go.Proofs.YtpeebjnfmlfocaaDoor.Dig
