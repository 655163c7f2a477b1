/- ref01.Mul in the print's form, given. Conditions: digits in range; at most 2^20 of them each. -/
import Derived.Test.YtpeebjnfmlfocaaDoorMulW
namespace Go.Proofs.YtpeebjnfmlfocaaDoor.Tm
open Go.RowKit Go.Proofs.YtpeebjnfmlfocaaDoorW.PrintWords Go.Proofs.YtpeebjnfmlfocaaDoorW.PrintLast Go.Proofs.YtpeebjnfmlfocaaDoorW.PrintMore
set_option linter.unusedVariables false

def cleromancyref01_Mul.f (l0 : List Int) (l1 : List Int) : Option (List Int) :=
  if ((∀ d ∈ l0, 0 ≤ d ∧ d < 16777216) ∧ (∀ d ∈ l1, 0 ≤ d ∧ d < 16777216)) ∧ l0.length ≤ 1048576 ∧ l1.length ≤ 1048576 then some (TpR.mulD l0 l1) else none
theorem cleromancyref01_Mul.calls (A0 : Option Addr) (c0 : Nat) (l0 : List Int) (A1 : Option Addr) (c1 : Nat) (l1 : List Int) (r : List Int) (w : World) (hr0 : Kd.C (Kd.int .i64) w A0 l0.length l0) (hc0 : l0.length ≤ c0) (hr1 : Kd.C (Kd.int .i64) w A1 l1.length l1) (hc1 : l1.length ≤ c1) (h : cleromancyref01_Mul.f l0 l1 = some r) :
    Calls Tryd.prog 156 #[.slice A0 l0.length c0, .slice A1 l1.length c1] w fun e w' => ∃ v0_ : Value, e = .returned (v0_) ∧ Kd.R (Kd.int .i64) 3 w' w.heap.size (fun _ => True) v0_ r ∧ Below w.heap.size w w' := by
  unfold cleromancyref01_Mul.f at h
  split at h
  · rename_i hc
    cases h
    exact TpR.mul_any A0 c0 l0 A1 c1 l1 w hr0 hc0 hr1 hc1 hc.1.1 hc.1.2 hc.2.1 hc.2.2
  · cases h
end Go.Proofs.YtpeebjnfmlfocaaDoor.Tm
