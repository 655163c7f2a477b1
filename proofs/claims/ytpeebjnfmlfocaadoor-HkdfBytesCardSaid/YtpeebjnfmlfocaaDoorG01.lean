/- The document's Shift of nothing, in the form in which the printed functions take it. Condition: no digit. -/
import Derived.Test.YtpeebjnfmlfocaaDoorPrint0
namespace Go.Proofs.YtpeebjnfmlfocaaDoor.Print
open Go.RowKit Go.Proofs.YtpeebjnfmlfocaaDoorW.PrintWords Go.Proofs.YtpeebjnfmlfocaaDoorW.PrintLast Go.Proofs.YtpeebjnfmlfocaaDoorW.PrintMore
set_option linter.unusedVariables false
set_option linter.unusedSimpArgs false

def cleromancyref01_Shift.f (k : Nat) (l0 : List Int) (a1 : Int) : Option (List Int) := if (l0.length : Int) = 0 then some [] else none
theorem cleromancyref01_Shift.mono : ∀ a0 a1 k, LeO (cleromancyref01_Shift.f k a0 a1) (cleromancyref01_Shift.f (k + 1) a0 a1) := fun _ _ _ _ h => h
set_option maxHeartbeats 1000000 in
theorem cleromancyref01_Shift.calls (k : Nat) (A0 : Option Addr) (c0 : Nat) (l0 : List Int) (a1 : Int) (r : List Int) (w : World) (hr0 : Kd.C (Kd.int .i64) w A0 l0.length l0) (hc0 : l0.length ≤ c0) (h : cleromancyref01_Shift.f k l0 a1 = some r) :
    Calls Tryd.prog 126 #[.slice A0 l0.length c0, .int .i64 a1] w fun e w' => ∃ v0_ : Value, e = .returned (v0_) ∧ Kd.R (Kd.int .i64) 3 w' w.heap.size (fun _ => True) v0_ r ∧ Below w.heap.size w w' := by
  unfold cleromancyref01_Shift.f at h
  split at h
  · rename_i c3
    have c3b0 : ((l0.length : Int) == 0) = true := beq_iff_eq.mpr c3
    have c3b1 : ((l0.length : Int) != 0) = false := bne_eq_false_iff_eq.mpr c3
    cases h
    clear c3
    go_enter Tryd.func126, Tryd.ntmps126
    go_wp2
    go_ret
    exact ⟨_, rfl, Kd.R_nil _ _ _ _ _, Below.refl _ _⟩
  · cases h
end Go.Proofs.YtpeebjnfmlfocaaDoor.Print
