/- credit.Message and the document's Message at this program. Condition: lengths under 2^40. -/
import Derived.Test.YtpeebjnfmlfocaaDoorEight
import Derived.Test.YtpeebjnfmlfocaaDoorR01
namespace Go.Proofs.YtpeebjnfmlfocaaDoor.Dig
open Go.RowKit Go.UW Go.Proofs.YtpeebjnfmlfocaaDoorW.PrintWords Go.Proofs.YtpeebjnfmlfocaaDoorW.PrintLast Go.Proofs.YtpeebjnfmlfocaaDoorW.PrintMore
attribute [local go_sem] max2_int min2_int max_two min_two max_three min_three max_four min_four
set_option linter.unusedVariables false

theorem bigE_rev (n : Nat) : bigE n = ((List.range 8).map fun t => ((n / 256 ^ t % 256 : Nat) : Int)).reverse := by
  simp [bigE, List.range_succ]

theorem lit_cells (W : World) (xs : List Int) (fz : Nat × Nat) : ∀ j u, (encB xs)[j]? = some u → (W.alloc (.cells (encB xs).toArray 5 fz)).cell? ((⟨W.heap.size, 0, none⟩ : Addr).add j) = some u := by
  intro j u hj
  have hb : (W.alloc (.cells (encB xs).toArray 5 fz)).heap[W.heap.size]? = some (.cells (encB xs).toArray 5 fz) := heap_alloc_new W _
  have hjl : j < (encB xs).length := (List.getElem?_eq_some_iff.1 hj).1
  rw [Addr.add_lit, Nat.zero_add]
  unfold World.cell?
  simp only [hb]
  simpa using hj

set_option maxHeartbeats 2000000 in
set_option maxRecDepth 100000 in
theorem message_any (A : Option Addr) (m c : Nat) (ys : List Int) (r : Int) (w : World) (hC : (Kd.int .u8).C w A m ys) (hmc : m ≤ c) (hm : m ≤ 1099511627776) (hr : r < 9223372036854775808) :
    Calls Tryd.prog 13 #[.slice A m c, .int .i64 r] w fun e w' => ∃ v : Value, e = .returned v ∧ Kd.R (Kd.int .u8) 5 w' w.heap.size (fun _ => True) v (msgL ys r) ∧ Below w.heap.size w w' := by
  have kc := fun (w : World) (C : Array Value) (n c : Nat) => Lib.run_convert_bytes_const (P := Tryd.prog) w 22 5 C n c Tryd.underlying22 Tryd.underlying5
  obtain ⟨R, hR⟩ : ∃ R : Nat, R = r.toNat := ⟨_, rfl⟩
  have hmx : (if r < 0 then 0 else r) = (R : Int) := by split <;> omega
  have hR2 : R < 9223372036854775808 := by omega
  have HC := Lib.hid hC
  have HM := Lib.hid (Kd.C_len hC)
  have HRR := Lib.hid hR
  clear hC hR
  go_enter Tryd.func13, Tryd.ntmps13
  go_wp2_with (first
    | (at_builtin
       refine wpList_grow_push _ rfl (.tmp 7) (.tmp 8) rfl ⟨w.heap.size, 0, none⟩ 5 [114, 111, 117, 110, 100] 0 rfl (by rw [size_alloc]; rfl) rfl (lit_cells w [114, 111, 117, 110, 100] _) (by rw [size_alloc]; exact Nat.lt_succ_self _) (by omega) ?_
       intro v1 w1 hO1 hb1
       go_must (
        have hb2 : Below w.heap.size w w1 := ((Below.refl w.heap.size w).alloc (Nat.le_refl _) _).trans (hb1.mono (by rw [size_alloc]; omega))
        have hO2 := Kd.R_lower hO1 (show w.heap.size ≤ _ by rw [size_alloc]; omega)
        have HO1 := Lib.hid hO2
        clear hO1 hO2 hb1))
    | (at_builtin
       refine Kd.R_append_row (Value.int .u8) (0 : Int) (w0 := w) (W := w1) w.heap.size rfl (.tmp 10) (.tmp 11) 22 5 (.int .u8 0) 1 rfl Tryd.underlying22 infoU8 rfl (by decide) v1 ([114, 111, 117, 110, 100] ++ [0]) ys A m c (fun _ => True) rfl rfl (fun _ _ => trivial) HO1.out (Kd.C_below HC.out hb2) hb2 hb2.size (by simp only [List.length_append, List.length_cons, List.length_nil]; omega) ?_
       intro v2 w2 hO2 hb3 _ _
       have HO2 := Lib.hid hO2
       clear hO2)
    | (go_at_call 41; (with_reducible refine (eight_any R hR2 _).mono ?_); rintro e w3 ⟨v3, rfl, hO3, hb4⟩; obtain ⟨A3, c3, rfl⟩ := Kd.R_slice hO3; have HO3 := Lib.hid hO3; clear hO3)
    | (at_builtin
       refine Kd.R_append_row (Value.int .u8) (0 : Int) (w0 := w) (W := w3) w.heap.size rfl (.tmp 13) (.tmp 16) 22 5 (.int .u8 0) 1 rfl Tryd.underlying22 infoU8 rfl (by decide) v2 _ (bigE R) A3 _ c3 (fun _ => True) rfl rfl (fun _ _ => trivial) (Kd.R_below HO2.out hb4) (Kd.R_reads' HO3.out).2.2 (hb3.trans (hb4.mono hb3.size)) (Nat.le_trans hb3.size hb4.size) (by have := HM.out; simp only [List.length_append, List.length_cons, List.length_nil, bigE_len]; omega) ?_
       intro v4 w4 hO4 hb5 _ _
       have HO4 := Lib.hid hO4
       clear hO4))
  go_ret
  refine ⟨_, rfl, ?_, hb5⟩
  have := HO4.out
  rw [HRR.out] at this
  exact this

set_option maxHeartbeats 2000000 in
set_option maxRecDepth 100000 in
theorem rmessage_any (A : Option Addr) (m c : Nat) (ys : List Int) (r : Int) (w : World) (hC : (Kd.int .u8).C w A m ys) (hmc : m ≤ c) (hm : m ≤ 1099511627776) (hr : r < 9223372036854775808) :
    Calls Tryd.prog 14 #[.slice A m c, .int .i64 r] w fun e w' => ∃ v : Value, e = .returned v ∧ Kd.R (Kd.int .u8) 5 w' w.heap.size (fun _ => True) v (msgL ys r) ∧ Below w.heap.size w w' := by
  have kc := fun (w : World) (C : Array Value) (n c : Nat) => Lib.run_convert_bytes_const (P := Tryd.prog) w 22 5 C n c Tryd.underlying22 Tryd.underlying5
  obtain ⟨R, hR⟩ : ∃ R : Nat, R = r.toNat := ⟨_, rfl⟩
  have hR2 : R < 9223372036854775808 := by omega
  have HC := Lib.hid hC
  have HM := Lib.hid (Kd.C_len hC)
  have HRR := Lib.hid hR
  have HI := Lib.hid (Ref01.Int_f 40 R (by omega) hR2)
  have HB := Lib.hid (show Print.cleromancyref01_ToBig.f 40 (Ref01.digs 3 R) 8 = some (bigE R) from (Ref01.big_of_int 40 8 R hR2 (by omega) (by omega)).trans (by rw [bigE_rev]))
  by_cases hneg : r < 0
  · have HI0 := Lib.hid (show Print.cleromancyref01_Int.f 40 0 = some (Ref01.digs 3 R) by rw [show (0 : Int) = (R : Int) by omega]; exact HI.out)
    clear hC hR hR2
    go_enter Tryd.func14, Tryd.ntmps14
    go_wp2_with (first
      | (at_builtin
         refine wpList_grow_push _ rfl (.tmp 8) (.tmp 9) rfl ⟨w.heap.size, 0, none⟩ 5 [114, 111, 117, 110, 100] 0 rfl (by rw [size_alloc]; rfl) rfl (lit_cells w [114, 111, 117, 110, 100] _) (by rw [size_alloc]; exact Nat.lt_succ_self _) (by omega) ?_
         intro v1 w1 hO1 hb1
         go_must (
          have hb2 : Below w.heap.size w w1 := ((Below.refl w.heap.size w).alloc (Nat.le_refl _) _).trans (hb1.mono (by rw [size_alloc]; omega))
          have hO2 := Kd.R_lower hO1 (show w.heap.size ≤ _ by rw [size_alloc]; omega)
          have HO1 := Lib.hid hO2
          clear hO1 hO2 hb1))
      | (at_builtin
         refine Kd.R_append_row (Value.int .u8) (0 : Int) (w0 := w) (W := w1) w.heap.size rfl (.tmp 11) (.tmp 12) 22 5 (.int .u8 0) 1 rfl Tryd.underlying22 infoU8 rfl (by decide) v1 ([114, 111, 117, 110, 100] ++ [0]) ys A m c (fun _ => True) rfl rfl (fun _ _ => trivial) HO1.out (Kd.C_below HC.out hb2) hb2 hb2.size (by simp only [List.length_append, List.length_cons, List.length_nil]; omega) ?_
         intro v2 w2 hO2 hb3 _ _
         have HO2 := Lib.hid hO2
         clear hO2)
      | (go_at_call 43; (with_reducible refine (Print.cleromancyref01_Int.calls 40 0 (Ref01.digs 3 R) _ HI0.out).mono ?_); rintro e w3 ⟨v3, rfl, hO3, hb4⟩; obtain ⟨A3, c3, rfl⟩ := Kd.R_slice hO3; have HO3 := Lib.hid hO3; clear hO3)
      | (go_at_call 42; (with_reducible refine (Print.cleromancyref01_ToBig.calls 40 A3 c3 (Ref01.digs 3 R) 8 (bigE R) _ (Kd.R_reads' HO3.out).2.2 (Kd.R_reads' HO3.out).2.1 HB.out).mono ?_); rintro e w5 ⟨v5, rfl, hO5, hb5⟩; obtain ⟨A5, c5, rfl⟩ := Kd.R_slice hO5; have HO5 := Lib.hid hO5; clear hO5)
      | (at_builtin
         refine Kd.R_append_row (Value.int .u8) (0 : Int) (w0 := w) (W := w5) w.heap.size rfl (.tmp 16) (.tmp 19) 22 5 (.int .u8 0) 1 rfl Tryd.underlying22 infoU8 rfl (by decide) v2 _ (bigE R) A5 _ c5 (fun _ => True) rfl rfl (fun _ _ => trivial) (Kd.R_below (Kd.R_below HO2.out hb4) hb5) (Kd.R_reads' HO5.out).2.2 ((hb3.trans (hb4.mono hb3.size)).trans (hb5.mono (Nat.le_trans hb3.size hb4.size))) (Nat.le_trans (Nat.le_trans hb3.size hb4.size) hb5.size) (by have := HM.out; simp only [List.length_append, List.length_cons, List.length_nil, bigE_len]; omega) ?_
         intro v6 w6 hO6 hb6 _ _
         have HO6 := Lib.hid hO6
         clear hO6))
    go_ret
    refine ⟨_, rfl, ?_, hb6⟩
    have := HO6.out
    rw [HRR.out] at this
    exact this
  · obtain rfl : r = (R : Int) := by omega
    clear hC hR
    go_enter Tryd.func14, Tryd.ntmps14
    go_wp2_with (first
      | (at_builtin
         refine wpList_grow_push _ rfl (.tmp 8) (.tmp 9) rfl ⟨w.heap.size, 0, none⟩ 5 [114, 111, 117, 110, 100] 0 rfl (by rw [size_alloc]; rfl) rfl (lit_cells w [114, 111, 117, 110, 100] _) (by rw [size_alloc]; exact Nat.lt_succ_self _) (by omega) ?_
         intro v1 w1 hO1 hb1
         go_must (
          have hb2 : Below w.heap.size w w1 := ((Below.refl w.heap.size w).alloc (Nat.le_refl _) _).trans (hb1.mono (by rw [size_alloc]; omega))
          have hO2 := Kd.R_lower hO1 (show w.heap.size ≤ _ by rw [size_alloc]; omega)
          have HO1 := Lib.hid hO2
          clear hO1 hO2 hb1))
      | (at_builtin
         refine Kd.R_append_row (Value.int .u8) (0 : Int) (w0 := w) (W := w1) w.heap.size rfl (.tmp 11) (.tmp 12) 22 5 (.int .u8 0) 1 rfl Tryd.underlying22 infoU8 rfl (by decide) v1 ([114, 111, 117, 110, 100] ++ [0]) ys A m c (fun _ => True) rfl rfl (fun _ _ => trivial) HO1.out (Kd.C_below HC.out hb2) hb2 hb2.size (by simp only [List.length_append, List.length_cons, List.length_nil]; omega) ?_
         intro v2 w2 hO2 hb3 _ _
         have HO2 := Lib.hid hO2
         clear hO2)
      | (go_at_call 43; (with_reducible refine (Print.cleromancyref01_Int.calls 40 (R : Int) (Ref01.digs 3 R) _ HI.out).mono ?_); rintro e w3 ⟨v3, rfl, hO3, hb4⟩; obtain ⟨A3, c3, rfl⟩ := Kd.R_slice hO3; have HO3 := Lib.hid hO3; clear hO3)
      | (go_at_call 42; (with_reducible refine (Print.cleromancyref01_ToBig.calls 40 A3 c3 (Ref01.digs 3 R) 8 (bigE R) _ (Kd.R_reads' HO3.out).2.2 (Kd.R_reads' HO3.out).2.1 HB.out).mono ?_); rintro e w5 ⟨v5, rfl, hO5, hb5⟩; obtain ⟨A5, c5, rfl⟩ := Kd.R_slice hO5; have HO5 := Lib.hid hO5; clear hO5)
      | (at_builtin
         refine Kd.R_append_row (Value.int .u8) (0 : Int) (w0 := w) (W := w5) w.heap.size rfl (.tmp 16) (.tmp 19) 22 5 (.int .u8 0) 1 rfl Tryd.underlying22 infoU8 rfl (by decide) v2 _ (bigE R) A5 _ c5 (fun _ => True) rfl rfl (fun _ _ => trivial) (Kd.R_below (Kd.R_below HO2.out hb4) hb5) (Kd.R_reads' HO5.out).2.2 ((hb3.trans (hb4.mono hb3.size)).trans (hb5.mono (Nat.le_trans hb3.size hb4.size))) (Nat.le_trans (Nat.le_trans hb3.size hb4.size) hb5.size) (by have := HM.out; simp only [List.length_append, List.length_cons, List.length_nil, bigE_len]; omega) ?_
         intro v6 w6 hO6 hb6 _ _
         have HO6 := Lib.hid hO6
         clear hO6))
    go_ret
    refine ⟨_, rfl, ?_, hb6⟩
    have := HO6.out
    rw [HRR.out] at this
    exact this
end Go.Proofs.YtpeebjnfmlfocaaDoor.Dig
