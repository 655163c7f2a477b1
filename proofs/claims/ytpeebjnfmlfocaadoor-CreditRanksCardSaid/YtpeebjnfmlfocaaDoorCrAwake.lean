/- CreditRanks' awake at this program. Condition: the table of constants stands. -/
import Derived.Test.YtpeebjnfmlfocaaDoorPRank
import Derived.Test.YtpeebjnfmlfocaaDoorMsg
namespace Go.Proofs.YtpeebjnfmlfocaaDoor.Dig
open Go.RowKit Go.UW Go.Proofs.YtpeebjnfmlfocaaDoorW.PrintWords Go.Proofs.YtpeebjnfmlfocaaDoorW.PrintLast Go.Proofs.YtpeebjnfmlfocaaDoorW.PrintMore
set_option linter.unusedVariables false

theorem add0 (a : Addr) : a.add 0 = a := by cases a; rfl
theorem msg7 : msgL [7] 258 = [114, 111, 117, 110, 100, 0, 7, 0, 0, 0, 0, 0, 0, 1, 2] := by decide
theorem rank0 (ys : List Int) : rankV ys 0 = [] := rfl
theorem rank1_len (ys : List Int) : (rankV ys 1).length = 32 := rkN_len ys 0
theorem C_nil8 (w : World) : (Kd.int .u8).C w none 0 [] := (Kd.R_reads' (Kd.R_nil (Kd.int .u8) 5 w w.heap.size (fun _ => True))).2.2
theorem rank_zero (w : World) (hG : Glob w) :
    Calls Tryd.prog 17 #[.slice none 0 0, .int .i64 0] w fun e w' => ∃ v : Value, e = .returned (.tuple #[v, .bool false]) ∧ Kd.R (Kd.int .u8) 5 w' w.heap.size (fun _ => True) v [] ∧ Below w.heap.size w w' :=
  rank_any none 0 0 [] 0 w hG (C_nil8 w) (Nat.le_refl _) (fun _ h => by cases h) (by decide)
theorem rank_one (w : World) (hG : Glob w) :
    Calls Tryd.prog 17 #[.slice none 0 0, .int .i64 1] w fun e w' => ∃ v : Value, e = .returned (.tuple #[v, .bool true]) ∧ Kd.R (Kd.int .u8) 5 w' w.heap.size (fun _ => True) v (rankV [] 1) ∧ Below w.heap.size w w' :=
  rank_any none 0 0 [] 1 w hG (C_nil8 w) (Nat.le_refl _) (fun _ h => by cases h) (by decide)
theorem C_seven (w : World) : (Kd.int .u8).C (w.alloc (.cells #[.int .u8 7] 5)) (some ⟨w.heap.size, 0, none⟩) 1 [7] := C_box w 7
theorem message_seven (A : Option Addr) (w : World) (hC : (Kd.int .u8).C w A 1 [7]) :
    Calls Tryd.prog 13 #[.slice A 1 1, .int .i64 258] w fun e w' => ∃ v : Value, e = .returned v ∧ Kd.R (Kd.int .u8) 5 w' w.heap.size (fun _ => True) v (msgL [7] 258) ∧ Below w.heap.size w w' :=
  message_any A 1 1 [7] 258 w hC (by decide) (by decide) (by decide)

set_option maxHeartbeats 2000000 in
set_option maxRecDepth 100000 in
theorem awake21 (w : World) (hG : Glob w) : Calls Tryd.prog 11 #[] w fun e w' => e = .returned (.bool true) ∧ Below w.heap.size w w' := by
  have hB0 : Below w.heap.size w (w.alloc (.cells #[.int .u8 7] 5)) := (Below.refl _ _).alloc (Nat.le_refl _) _
  go_enter Tryd.func11, Tryd.ntmps11
  go_wp2_with (first
    | (go_at_call 13; (with_reducible refine (message_seven _ _ (C_seven w)).mono ?_); rintro e w1 ⟨v1, rfl, hO1, hb1⟩
       have hb1' := hB0.trans (hb1.mono hB0.size)
       rw [msg7] at hO1
       obtain ⟨g1, c1, rfl, _⟩ := Kd.R_form hO1 (by decide))
    | (go_at_call 17; (with_reducible refine (rank_zero _ (hG.below hb1')).mono ?_); rintro e w2 ⟨v2, rfl, hO2, hb2⟩)
    | (go_at_call 17; (with_reducible refine (rank_one _ (hG.below (hb1'.trans (hb2.mono hb1'.size)))).mono ?_); rintro e w3 ⟨v3, rfl, hO3, hb3⟩
       obtain ⟨A3, c3, rfl⟩ := Kd.R_slice hO3
       have hb23 := hb2.trans (hb3.mono hb2.size)
       have hC1 := Kd.C_below (Kd.R_reads' hO1).2.2 hb23
       obtain ⟨_, e0, x0⟩ := C_u8_at hC1 0 (by decide)
       cases e0
       have y0 : w3.cell? ⟨g1, 0, none⟩ = some (.int .u8 114) := x0
       obtain ⟨_, e0, x5⟩ := C_u8_at hC1 5 (by decide)
       cases e0
       have y5 : w3.cell? ⟨g1, 5, none⟩ = some (.int .u8 0) := x5
       obtain ⟨_, e0, x6⟩ := C_u8_at hC1 6 (by decide)
       cases e0
       have y6 : w3.cell? ⟨g1, 6, none⟩ = some (.int .u8 7) := x6
       obtain ⟨_, e0, x13⟩ := C_u8_at hC1 13 (by decide)
       cases e0
       have y13 : w3.cell? ⟨g1, 13, none⟩ = some (.int .u8 1) := x13
       obtain ⟨_, e0, x14⟩ := C_u8_at hC1 14 (by decide)
       cases e0
       have y14 : w3.cell? ⟨g1, 14, none⟩ = some (.int .u8 2) := x14
       clear x0 x5 x6 x13 x14
       rw [rank1_len]
       have hBF := hb1'.trans (hb23.mono hb1'.size)
       have HBF := Lib.hid hBF
       clear hO1 hO2 hO3 hC1 hb1 hb2 hb3 hb23 hb1' hBF))
  go_ret
  exact ⟨rfl, HBF.out⟩
end Go.Proofs.YtpeebjnfmlfocaaDoor.Dig
