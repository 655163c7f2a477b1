/- letter.goodEntry and Good at this program. No condition. Printed by gen/shc.py. -/
import Derived.Test.YtpeebjnfmlfocaaDoorSx10
namespace Go.Proofs.YtpeebjnfmlfocaaDoor.Sh
open Go.RowKit Go.Proofs.YtpeebjnfmlfocaaDoorW.PrintWords Go.Proofs.YtpeebjnfmlfocaaDoorW.PrintLast Go.Proofs.YtpeebjnfmlfocaaDoorW.PrintMore
set_option maxRecDepth 100000
set_option linter.unusedVariables false
set_option linter.unusedSimpArgs false
structure Ae where
  A3 : Option Addr
  c3 : Nat
  A4 : Option Addr
  c4 : Nat
  A7 : Option Addr
  c7 : Nat
  A8 : Option Addr
  c8 : Nat
abbrev entV (e : S98) (q : Ae) : Value := .agg #[.int .i64 e.f0.f0, .int .i64 e.f0.f1, .int .i64 e.f0.f2, .slice q.A3 e.f0.f3.length q.c3, .slice q.A4 e.f0.f4.length q.c4, .int .i64 e.f1.f0, .int .i64 e.f1.f1, .slice q.A7 e.f1.f2.length q.c7, .slice q.A8 e.f1.f3.length q.c8]
structure EntC (w : World) (e : S98) (q : Ae) : Prop where
  h3 : Kd.C (Kd.int .u8) w q.A3 e.f0.f3.length e.f0.f3
  l3 : e.f0.f3.length ≤ q.c3
  h4 : Kd.C (Kd.int .u8) w q.A4 e.f0.f4.length e.f0.f4
  l4 : e.f0.f4.length ≤ q.c4
  h7 : Kd.C (Kd.int .u8) w q.A7 e.f1.f2.length e.f1.f2
  l7 : e.f1.f2.length ≤ q.c7
  h8 : Kd.C k100 w q.A8 e.f1.f3.length e.f1.f3
  l8 : e.f1.f3.length ≤ q.c8
theorem EntC.below {w w1 : World} {e : S98} {q : Ae} (h : EntC w e q) (hb : Below w.heap.size w w1) : EntC w1 e q :=
  ⟨Kd.C_below h.h3 hb, h.l3, Kd.C_below h.h4 hb, h.l4, Kd.C_below h.h7 hb, h.l7, Kd.C_below h.h8 hb, h.l8⟩
theorem bnot_t {c : Bool} (h : false = !c) : c = true := by cases c <;> simp_all
theorem bnot_f {c : Bool} (h : true = !c) : c = false := by cases c <;> simp_all
theorem dec_le (n m : Nat) : decide ((n : Int) ≤ (m : Int)) = decide (n ≤ m) := by
  by_cases h : n ≤ m
  · rw [decide_eq_true h, decide_eq_true (by omega)]
  · rw [decide_eq_false h, decide_eq_false (by omega)]
theorem C_max {α : Type} {d : Kd α} {w : World} {A : Option Addr} {n : Nat} {l : List α} (h : d.C w A n l) : n ≤ 9223372036854775807 := h.2.1
set_option maxHeartbeats 8000000 in
theorem goodEntry_any (e : S98) (q : Ae) (w : World) (hx : EntC w e q) : Calls Tryd.prog 108 #[entV e q] w fun r w' => r = .returned (.bool (gE e)) ∧ Below w.heap.size w w' := by
  have HX := Lib.hid hx
  clear hx
  show Calls Tryd.prog 108 #[.agg #[.int .i64 e.f0.f0, .int .i64 e.f0.f1, .int .i64 e.f0.f2, .slice q.A3 e.f0.f3.length q.c3, .slice q.A4 e.f0.f4.length q.c4, .int .i64 e.f1.f0, .int .i64 e.f1.f1, .slice q.A7 e.f1.f2.length q.c7, .slice q.A8 e.f1.f3.length q.c8]] w _
  go_enter Tryd.func108, Tryd.ntmps108
  go_upto_region 2 with (fail)
  obtain ⟨wx, hwx⟩ : ∃ wx, wx = (w.alloc (.cells #[.int .i64 e.f0.f0, .int .i64 e.f0.f1, .int .i64 e.f0.f2, .slice q.A3 e.f0.f3.length q.c3, .slice q.A4 e.f0.f4.length q.c4, .int .i64 e.f1.f0, .int .i64 e.f1.f1, .slice q.A7 e.f1.f2.length q.c7, .slice q.A8 e.f1.f3.length q.c8] 98)).alloc (.cells #[.int .i64 e.f1.f0, .int .i64 e.f1.f1, .slice q.A7 e.f1.f2.length q.c7, .slice q.A8 e.f1.f3.length q.c8] 96) := ⟨_, rfl⟩
  rw [← hwx]
  have s1 : (w.alloc (.cells #[.int .i64 e.f0.f0, .int .i64 e.f0.f1, .int .i64 e.f0.f2, .slice q.A3 e.f0.f3.length q.c3, .slice q.A4 e.f0.f4.length q.c4, .int .i64 e.f1.f0, .int .i64 e.f1.f1, .slice q.A7 e.f1.f2.length q.c7, .slice q.A8 e.f1.f3.length q.c8] 98)).heap.size = w.heap.size + 1 := by simp
  have HE := Lib.hid (show wx.heap[w.heap.size]? = some (.cells #[.int .i64 e.f0.f0, .int .i64 e.f0.f1, .int .i64 e.f0.f2, .slice q.A3 e.f0.f3.length q.c3, .slice q.A4 e.f0.f4.length q.c4, .int .i64 e.f1.f0, .int .i64 e.f1.f1, .slice q.A7 e.f1.f2.length q.c7, .slice q.A8 e.f1.f3.length q.c8] 98) by rw [hwx]; exact blk_alloc (blk_new _ _) _)
  have HC := Lib.hid (show wx.heap[w.heap.size + 1]? = some (.cells #[.int .i64 e.f1.f0, .int .i64 e.f1.f1, .slice q.A7 e.f1.f2.length q.c7, .slice q.A8 e.f1.f3.length q.c8] 96) by rw [hwx, ← s1]; exact blk_new _ _)
  have hbx : Below w.heap.size w wx := by rw [hwx]; exact below_alloc (below_alloc (Below.refl _ _) _) _
  have HB := Lib.hid hbx
  have HX2 := Lib.hid (HX.out.below hbx)
  clear hwx s1 hbx HX
  have HCS := Lib.hid (containsSigns_any q.A8 q.c8 e.f1.f3 wx HX2.out.h8 HX2.out.l8 (C_max HX2.out.h8))
  go_cut [4] (fun v4 wd => ∃ bd : Bool, v4 = .bool bd ∧ (bd = !e.f1.f3.all gS) ∧ Below wx.heap.size wx wd)
  case first =>
    obtain ⟨c0, c1, c2, c3⟩ := cells4 HC.out
    go_wp2_with (go_at_call 143; (with_reducible refine (HCS.out).mono ?_); rintro e w2 ⟨rfl, hb2⟩)
    go_meet
    case rel => exact ⟨!e.f1.f3.all gS, rfl, rfl, hb2⟩
  case rest =>
    obtain ⟨bd, rfl, hbd, hb⟩ := hcut
    have HE2 := Lib.hid (blk_below HE.out hb)
    have HC2 := Lib.hid (blk_below HC.out hb)
    have HX3 := Lib.hid (HX2.out.below hb)
    have HB2 := Lib.hid (HB.out.trans (hb.mono HB.out.size))
    have HBD := Lib.hid hbd
    clear hb HCS HE HC HX2 HB hbd
    obtain ⟨y0, y1, y2, y3, y4, y5, y6, y7, y8⟩ := cells9 HE2.out
    clear y5 y6 y7 y8
    have HGV := Lib.hid (goodValue_any (w := wc) e.f0 q.A3 q.c3 q.A4 q.c4 HX3.out.h3 HX3.out.l3 HX3.out.h4 HX3.out.l4)
    have HW1 := Lib.hid (fun W => letter_within.calls e.f1.f0 1 2147483648 _ W (within_f _ _ _))
    have HW2 := Lib.hid (fun W => letter_within.calls e.f1.f1 0 1048576 _ W (within_f _ _ _))
    cases bd
    case false =>
      have a6 : e.f1.f3.all gS = true := bnot_t HBD.out
      cases a1 : (gV e.f0)
      case false =>
        have HQ := HGV.out
        simp only [a1] at HQ
        have HGVq := Lib.hid HQ
        clear HQ
        have hv := (show gE e = (gV e.f0 && inR e.f1.f0 1 2147483648 && inR e.f1.f1 0 1048576 && (e.f1.f2.length == 32) && decide (e.f1.f3.length ≤ 128) && e.f1.f3.all gS) from rfl)
        simp only [a1, a6, Bool.true_and, Bool.false_and, Bool.and_true, Bool.and_false, Bool.true_or, Bool.false_or, Bool.or_true, Bool.or_false, Bool.not_true, Bool.not_false] at hv
        have HVV := Lib.hid hv
        clear hv
        go_wp2_with (first | (go_at_call 140; (with_reducible refine (HGVq.out).mono ?_); rintro e w3 ⟨rfl, hb3⟩; obtain ⟨m0, m1, m2, m3⟩ := cells4 (blk_below HC2.out hb3)))
        go_ret
        exact ⟨by rw [HVV.out] <;> rfl, by repeat (first | exact HB2.out.trans (hb3.mono HB2.out.size) | apply pw_below_drewN)⟩
      case true =>
        have HQ := HGV.out
        simp only [a1] at HQ
        have HGVq := Lib.hid HQ
        clear HQ
        cases a2 : (inR e.f1.f0 1 2147483648)
        case false =>
          have HQ := HW1.out
          simp only [a2] at HQ
          have HW1q := Lib.hid HQ
          clear HQ
          have hv := (show gE e = (gV e.f0 && inR e.f1.f0 1 2147483648 && inR e.f1.f1 0 1048576 && (e.f1.f2.length == 32) && decide (e.f1.f3.length ≤ 128) && e.f1.f3.all gS) from rfl)
          simp only [a1, a2, a6, Bool.true_and, Bool.false_and, Bool.and_true, Bool.and_false, Bool.true_or, Bool.false_or, Bool.or_true, Bool.or_false, Bool.not_true, Bool.not_false] at hv
          have HVV := Lib.hid hv
          clear hv
          go_wp2_with (first | (go_at_call 140; (with_reducible refine (HGVq.out).mono ?_); rintro e w3 ⟨rfl, hb3⟩; obtain ⟨m0, m1, m2, m3⟩ := cells4 (blk_below HC2.out hb3)) | (go_at_call 105; (with_reducible refine (HW1q.out _).mono ?_); rintro e w4 ⟨rfl, ⟨⟨n4, rfl⟩⟩⟩))
          go_ret
          exact ⟨by rw [HVV.out] <;> rfl, by repeat (first | exact HB2.out.trans (hb3.mono HB2.out.size) | apply pw_below_drewN)⟩
        case true =>
          have HQ := HW1.out
          simp only [a2] at HQ
          have HW1q := Lib.hid HQ
          clear HQ
          cases a3 : (inR e.f1.f1 0 1048576)
          case false =>
            have HQ := HW2.out
            simp only [a3] at HQ
            have HW2q := Lib.hid HQ
            clear HQ
            have hv := (show gE e = (gV e.f0 && inR e.f1.f0 1 2147483648 && inR e.f1.f1 0 1048576 && (e.f1.f2.length == 32) && decide (e.f1.f3.length ≤ 128) && e.f1.f3.all gS) from rfl)
            simp only [a1, a2, a3, a6, Bool.true_and, Bool.false_and, Bool.and_true, Bool.and_false, Bool.true_or, Bool.false_or, Bool.or_true, Bool.or_false, Bool.not_true, Bool.not_false] at hv
            have HVV := Lib.hid hv
            clear hv
            go_wp2_with (first | (go_at_call 140; (with_reducible refine (HGVq.out).mono ?_); rintro e w3 ⟨rfl, hb3⟩; obtain ⟨m0, m1, m2, m3⟩ := cells4 (blk_below HC2.out hb3)) | (go_at_call 105; (with_reducible refine (HW1q.out _).mono ?_); rintro e w4 ⟨rfl, ⟨⟨n4, rfl⟩⟩⟩) | (go_at_call 105; (with_reducible refine (HW2q.out _).mono ?_); rintro e w5 ⟨rfl, ⟨⟨n5, rfl⟩⟩⟩))
            go_ret
            exact ⟨by rw [HVV.out] <;> rfl, by repeat (first | exact HB2.out.trans (hb3.mono HB2.out.size) | apply pw_below_drewN)⟩
          case true =>
            have HQ := HW2.out
            simp only [a3] at HQ
            have HW2q := Lib.hid HQ
            clear HQ
            cases a4 : (e.f1.f2.length == 32)
            case false =>
              have a4i : ((e.f1.f2.length : Int) == 32) = false := (eq_len e.f1.f2.length 32).trans a4
              have a4n : ((e.f1.f2.length : Int) != 32) = true := by rw [bne, a4i]; rfl
              have hv := (show gE e = (gV e.f0 && inR e.f1.f0 1 2147483648 && inR e.f1.f1 0 1048576 && (e.f1.f2.length == 32) && decide (e.f1.f3.length ≤ 128) && e.f1.f3.all gS) from rfl)
              simp only [a1, a2, a3, a4, a6, Bool.true_and, Bool.false_and, Bool.and_true, Bool.and_false, Bool.true_or, Bool.false_or, Bool.or_true, Bool.or_false, Bool.not_true, Bool.not_false] at hv
              have HVV := Lib.hid hv
              clear hv
              go_wp2_with (first | (go_at_call 140; (with_reducible refine (HGVq.out).mono ?_); rintro e w3 ⟨rfl, hb3⟩; obtain ⟨m0, m1, m2, m3⟩ := cells4 (blk_below HC2.out hb3)) | (go_at_call 105; (with_reducible refine (HW1q.out _).mono ?_); rintro e w4 ⟨rfl, ⟨⟨n4, rfl⟩⟩⟩) | (go_at_call 105; (with_reducible refine (HW2q.out _).mono ?_); rintro e w5 ⟨rfl, ⟨⟨n5, rfl⟩⟩⟩))
              go_ret
              exact ⟨by rw [HVV.out] <;> rfl, by repeat (first | exact HB2.out.trans (hb3.mono HB2.out.size) | apply pw_below_drewN)⟩
            case true =>
              have a4i : ((e.f1.f2.length : Int) == 32) = true := (eq_len e.f1.f2.length 32).trans a4
              have a4n : ((e.f1.f2.length : Int) != 32) = false := by rw [bne, a4i]; rfl
              cases a5 : (decide (e.f1.f3.length ≤ 128))
              case false =>
                have a5i : decide ((e.f1.f3.length : Int) ≤ 128) = false := (dec_le e.f1.f3.length 128).trans a5
                have hv := (show gE e = (gV e.f0 && inR e.f1.f0 1 2147483648 && inR e.f1.f1 0 1048576 && (e.f1.f2.length == 32) && decide (e.f1.f3.length ≤ 128) && e.f1.f3.all gS) from rfl)
                simp only [a1, a2, a3, a4, a5, a6, Bool.true_and, Bool.false_and, Bool.and_true, Bool.and_false, Bool.true_or, Bool.false_or, Bool.or_true, Bool.or_false, Bool.not_true, Bool.not_false] at hv
                have HVV := Lib.hid hv
                clear hv
                go_wp2_with (first | (go_at_call 140; (with_reducible refine (HGVq.out).mono ?_); rintro e w3 ⟨rfl, hb3⟩; obtain ⟨m0, m1, m2, m3⟩ := cells4 (blk_below HC2.out hb3)) | (go_at_call 105; (with_reducible refine (HW1q.out _).mono ?_); rintro e w4 ⟨rfl, ⟨⟨n4, rfl⟩⟩⟩) | (go_at_call 105; (with_reducible refine (HW2q.out _).mono ?_); rintro e w5 ⟨rfl, ⟨⟨n5, rfl⟩⟩⟩))
                go_ret
                exact ⟨by rw [HVV.out] <;> rfl, by repeat (first | exact HB2.out.trans (hb3.mono HB2.out.size) | apply pw_below_drewN)⟩
              case true =>
                have a5i : decide ((e.f1.f3.length : Int) ≤ 128) = true := (dec_le e.f1.f3.length 128).trans a5
                have hv := (show gE e = (gV e.f0 && inR e.f1.f0 1 2147483648 && inR e.f1.f1 0 1048576 && (e.f1.f2.length == 32) && decide (e.f1.f3.length ≤ 128) && e.f1.f3.all gS) from rfl)
                simp only [a1, a2, a3, a4, a5, a6, Bool.true_and, Bool.false_and, Bool.and_true, Bool.and_false, Bool.true_or, Bool.false_or, Bool.or_true, Bool.or_false, Bool.not_true, Bool.not_false] at hv
                have HVV := Lib.hid hv
                clear hv
                go_wp2_with (first | (go_at_call 140; (with_reducible refine (HGVq.out).mono ?_); rintro e w3 ⟨rfl, hb3⟩; obtain ⟨m0, m1, m2, m3⟩ := cells4 (blk_below HC2.out hb3)) | (go_at_call 105; (with_reducible refine (HW1q.out _).mono ?_); rintro e w4 ⟨rfl, ⟨⟨n4, rfl⟩⟩⟩) | (go_at_call 105; (with_reducible refine (HW2q.out _).mono ?_); rintro e w5 ⟨rfl, ⟨⟨n5, rfl⟩⟩⟩))
                go_ret
                exact ⟨by rw [HVV.out] <;> rfl, by repeat (first | exact HB2.out.trans (hb3.mono HB2.out.size) | apply pw_below_drewN)⟩
    case true =>
      have a6 : e.f1.f3.all gS = false := bnot_f HBD.out
      cases a1 : (gV e.f0)
      case false =>
        have HQ := HGV.out
        simp only [a1] at HQ
        have HGVq := Lib.hid HQ
        clear HQ
        have hv := (show gE e = (gV e.f0 && inR e.f1.f0 1 2147483648 && inR e.f1.f1 0 1048576 && (e.f1.f2.length == 32) && decide (e.f1.f3.length ≤ 128) && e.f1.f3.all gS) from rfl)
        simp only [a1, a6, Bool.true_and, Bool.false_and, Bool.and_true, Bool.and_false, Bool.true_or, Bool.false_or, Bool.or_true, Bool.or_false, Bool.not_true, Bool.not_false] at hv
        have HVV := Lib.hid hv
        clear hv
        go_wp2_with (first | (go_at_call 140; (with_reducible refine (HGVq.out).mono ?_); rintro e w3 ⟨rfl, hb3⟩; obtain ⟨m0, m1, m2, m3⟩ := cells4 (blk_below HC2.out hb3)))
        go_ret
        exact ⟨by rw [HVV.out] <;> rfl, by repeat (first | exact HB2.out.trans (hb3.mono HB2.out.size) | apply pw_below_drewN)⟩
      case true =>
        have HQ := HGV.out
        simp only [a1] at HQ
        have HGVq := Lib.hid HQ
        clear HQ
        cases a2 : (inR e.f1.f0 1 2147483648)
        case false =>
          have HQ := HW1.out
          simp only [a2] at HQ
          have HW1q := Lib.hid HQ
          clear HQ
          have hv := (show gE e = (gV e.f0 && inR e.f1.f0 1 2147483648 && inR e.f1.f1 0 1048576 && (e.f1.f2.length == 32) && decide (e.f1.f3.length ≤ 128) && e.f1.f3.all gS) from rfl)
          simp only [a1, a2, a6, Bool.true_and, Bool.false_and, Bool.and_true, Bool.and_false, Bool.true_or, Bool.false_or, Bool.or_true, Bool.or_false, Bool.not_true, Bool.not_false] at hv
          have HVV := Lib.hid hv
          clear hv
          go_wp2_with (first | (go_at_call 140; (with_reducible refine (HGVq.out).mono ?_); rintro e w3 ⟨rfl, hb3⟩; obtain ⟨m0, m1, m2, m3⟩ := cells4 (blk_below HC2.out hb3)) | (go_at_call 105; (with_reducible refine (HW1q.out _).mono ?_); rintro e w4 ⟨rfl, ⟨⟨n4, rfl⟩⟩⟩))
          go_ret
          exact ⟨by rw [HVV.out] <;> rfl, by repeat (first | exact HB2.out.trans (hb3.mono HB2.out.size) | apply pw_below_drewN)⟩
        case true =>
          have HQ := HW1.out
          simp only [a2] at HQ
          have HW1q := Lib.hid HQ
          clear HQ
          cases a3 : (inR e.f1.f1 0 1048576)
          case false =>
            have HQ := HW2.out
            simp only [a3] at HQ
            have HW2q := Lib.hid HQ
            clear HQ
            have hv := (show gE e = (gV e.f0 && inR e.f1.f0 1 2147483648 && inR e.f1.f1 0 1048576 && (e.f1.f2.length == 32) && decide (e.f1.f3.length ≤ 128) && e.f1.f3.all gS) from rfl)
            simp only [a1, a2, a3, a6, Bool.true_and, Bool.false_and, Bool.and_true, Bool.and_false, Bool.true_or, Bool.false_or, Bool.or_true, Bool.or_false, Bool.not_true, Bool.not_false] at hv
            have HVV := Lib.hid hv
            clear hv
            go_wp2_with (first | (go_at_call 140; (with_reducible refine (HGVq.out).mono ?_); rintro e w3 ⟨rfl, hb3⟩; obtain ⟨m0, m1, m2, m3⟩ := cells4 (blk_below HC2.out hb3)) | (go_at_call 105; (with_reducible refine (HW1q.out _).mono ?_); rintro e w4 ⟨rfl, ⟨⟨n4, rfl⟩⟩⟩) | (go_at_call 105; (with_reducible refine (HW2q.out _).mono ?_); rintro e w5 ⟨rfl, ⟨⟨n5, rfl⟩⟩⟩))
            go_ret
            exact ⟨by rw [HVV.out] <;> rfl, by repeat (first | exact HB2.out.trans (hb3.mono HB2.out.size) | apply pw_below_drewN)⟩
          case true =>
            have HQ := HW2.out
            simp only [a3] at HQ
            have HW2q := Lib.hid HQ
            clear HQ
            cases a4 : (e.f1.f2.length == 32)
            case false =>
              have a4i : ((e.f1.f2.length : Int) == 32) = false := (eq_len e.f1.f2.length 32).trans a4
              have a4n : ((e.f1.f2.length : Int) != 32) = true := by rw [bne, a4i]; rfl
              have hv := (show gE e = (gV e.f0 && inR e.f1.f0 1 2147483648 && inR e.f1.f1 0 1048576 && (e.f1.f2.length == 32) && decide (e.f1.f3.length ≤ 128) && e.f1.f3.all gS) from rfl)
              simp only [a1, a2, a3, a4, a6, Bool.true_and, Bool.false_and, Bool.and_true, Bool.and_false, Bool.true_or, Bool.false_or, Bool.or_true, Bool.or_false, Bool.not_true, Bool.not_false] at hv
              have HVV := Lib.hid hv
              clear hv
              go_wp2_with (first | (go_at_call 140; (with_reducible refine (HGVq.out).mono ?_); rintro e w3 ⟨rfl, hb3⟩; obtain ⟨m0, m1, m2, m3⟩ := cells4 (blk_below HC2.out hb3)) | (go_at_call 105; (with_reducible refine (HW1q.out _).mono ?_); rintro e w4 ⟨rfl, ⟨⟨n4, rfl⟩⟩⟩) | (go_at_call 105; (with_reducible refine (HW2q.out _).mono ?_); rintro e w5 ⟨rfl, ⟨⟨n5, rfl⟩⟩⟩))
              go_ret
              exact ⟨by rw [HVV.out] <;> rfl, by repeat (first | exact HB2.out.trans (hb3.mono HB2.out.size) | apply pw_below_drewN)⟩
            case true =>
              have a4i : ((e.f1.f2.length : Int) == 32) = true := (eq_len e.f1.f2.length 32).trans a4
              have a4n : ((e.f1.f2.length : Int) != 32) = false := by rw [bne, a4i]; rfl
              cases a5 : (decide (e.f1.f3.length ≤ 128))
              case false =>
                have a5i : decide ((e.f1.f3.length : Int) ≤ 128) = false := (dec_le e.f1.f3.length 128).trans a5
                have hv := (show gE e = (gV e.f0 && inR e.f1.f0 1 2147483648 && inR e.f1.f1 0 1048576 && (e.f1.f2.length == 32) && decide (e.f1.f3.length ≤ 128) && e.f1.f3.all gS) from rfl)
                simp only [a1, a2, a3, a4, a5, a6, Bool.true_and, Bool.false_and, Bool.and_true, Bool.and_false, Bool.true_or, Bool.false_or, Bool.or_true, Bool.or_false, Bool.not_true, Bool.not_false] at hv
                have HVV := Lib.hid hv
                clear hv
                go_wp2_with (first | (go_at_call 140; (with_reducible refine (HGVq.out).mono ?_); rintro e w3 ⟨rfl, hb3⟩; obtain ⟨m0, m1, m2, m3⟩ := cells4 (blk_below HC2.out hb3)) | (go_at_call 105; (with_reducible refine (HW1q.out _).mono ?_); rintro e w4 ⟨rfl, ⟨⟨n4, rfl⟩⟩⟩) | (go_at_call 105; (with_reducible refine (HW2q.out _).mono ?_); rintro e w5 ⟨rfl, ⟨⟨n5, rfl⟩⟩⟩))
                go_ret
                exact ⟨by rw [HVV.out] <;> rfl, by repeat (first | exact HB2.out.trans (hb3.mono HB2.out.size) | apply pw_below_drewN)⟩
              case true =>
                have a5i : decide ((e.f1.f3.length : Int) ≤ 128) = true := (dec_le e.f1.f3.length 128).trans a5
                have hv := (show gE e = (gV e.f0 && inR e.f1.f0 1 2147483648 && inR e.f1.f1 0 1048576 && (e.f1.f2.length == 32) && decide (e.f1.f3.length ≤ 128) && e.f1.f3.all gS) from rfl)
                simp only [a1, a2, a3, a4, a5, a6, Bool.true_and, Bool.false_and, Bool.and_true, Bool.and_false, Bool.true_or, Bool.false_or, Bool.or_true, Bool.or_false, Bool.not_true, Bool.not_false] at hv
                have HVV := Lib.hid hv
                clear hv
                go_wp2_with (first | (go_at_call 140; (with_reducible refine (HGVq.out).mono ?_); rintro e w3 ⟨rfl, hb3⟩; obtain ⟨m0, m1, m2, m3⟩ := cells4 (blk_below HC2.out hb3)) | (go_at_call 105; (with_reducible refine (HW1q.out _).mono ?_); rintro e w4 ⟨rfl, ⟨⟨n4, rfl⟩⟩⟩) | (go_at_call 105; (with_reducible refine (HW2q.out _).mono ?_); rintro e w5 ⟨rfl, ⟨⟨n5, rfl⟩⟩⟩))
                go_ret
                exact ⟨by rw [HVV.out] <;> rfl, by repeat (first | exact HB2.out.trans (hb3.mono HB2.out.size) | apply pw_below_drewN)⟩
theorem entryBad_any (e : S98) (q : Ae) (w : World) (hx : EntC w e q) : Calls Tryd.prog 107 #[entV e q] w fun r w' => r = .returned (.bool (!gE e)) ∧ Below w.heap.size w w' := by
  have HG := Lib.hid (fun W (hb : Below w.heap.size w W) => goodEntry_any e q W (hx.below hb))
  clear hx
  show Calls Tryd.prog 107 #[.agg #[.int .i64 e.f0.f0, .int .i64 e.f0.f1, .int .i64 e.f0.f2, .slice q.A3 e.f0.f3.length q.c3, .slice q.A4 e.f0.f4.length q.c4, .int .i64 e.f1.f0, .int .i64 e.f1.f1, .slice q.A7 e.f1.f2.length q.c7, .slice q.A8 e.f1.f3.length q.c8]] w _
  go_enter Tryd.func107, Tryd.ntmps107
  go_wp2_with (go_at_call 108; (with_reducible refine (HG.out _ (below_alloc (Below.refl _ _) _)).mono ?_); rintro e w2 ⟨rfl, hb2⟩)
  go_ret
  exact ⟨rfl, (below_alloc (Below.refl _ _) _).trans (hb2.mono (by simp))⟩
theorem ent_at {w : World} {A : Option Addr} {l : List S98} (hC : Kd.C k98 w A l.length l) (k : Nat) (hk : k < l.length) :
    ∃ (ad : Addr) (q : Ae), A = some ad ∧ EntC w l[k] q ∧ w.cell? (ad.add (k * 9)) = some (.int .i64 l[k].f0.f0) ∧ w.cell? ⟨(ad.add (k * 9)).block, (ad.add (k * 9)).off + 1, none⟩ = some (.int .i64 l[k].f0.f1) ∧ w.cell? ⟨(ad.add (k * 9)).block, (ad.add (k * 9)).off + 2, none⟩ = some (.int .i64 l[k].f0.f2) ∧ w.cell? ⟨(ad.add (k * 9)).block, (ad.add (k * 9)).off + 3, none⟩ = some (.slice q.A3 l[k].f0.f3.length q.c3) ∧ w.cell? ⟨(ad.add (k * 9)).block, (ad.add (k * 9)).off + 4, none⟩ = some (.slice q.A4 l[k].f0.f4.length q.c4) ∧ w.cell? ⟨(ad.add (k * 9)).block, (ad.add (k * 9)).off + 5, none⟩ = some (.int .i64 l[k].f1.f0) ∧ w.cell? ⟨(ad.add (k * 9)).block, (ad.add (k * 9)).off + 6, none⟩ = some (.int .i64 l[k].f1.f1) ∧ w.cell? ⟨(ad.add (k * 9)).block, (ad.add (k * 9)).off + 7, none⟩ = some (.slice q.A7 l[k].f1.f2.length q.c7) ∧ w.cell? ⟨(ad.add (k * 9)).block, (ad.add (k * 9)).off + 8, none⟩ = some (.slice q.A8 l[k].f1.f3.length q.c8) := by
  obtain ⟨ad, A3, c3, A4, c4, A7, c7, A8, c8, rfl, e0, e1, e2, e3, e4, e5, e6, e7, e8, l3, g3, l4, g4, l7, g7, l8, g8⟩ := at_T98 hC (k : Int) (by omega) (by omega)
  have hxe : rd_T98 l (k : Int) = l[k] := by unfold rd_T98; rw [Int.toNat_natCast, List.getD_eq_getElem?_getD, List.getElem?_eq_getElem hk]; rfl
  rw [hxe] at e0 e1 e2 e3 e4 e5 e6 e7 e8 l3 g3 l4 g4 l7 g7 l8 g8
  simp only [Int.toNat_natCast] at e0 e1 e2 e3 e4 e5 e6 e7 e8
  exact ⟨ad, ⟨A3, c3, A4, c4, A7, c7, A8, c8⟩, rfl, ⟨g3, l3, g4, l4, g7, l7, g8, l8⟩, e0, e1, e2, e3, e4, e5, e6, e7, e8⟩
set_option maxHeartbeats 4000000 in
theorem indexEntries_any (A : Option Addr) (c : Nat) (l : List S98) (w : World) (hC : Kd.C k98 w A l.length l) (hc : l.length ≤ c) (hn : l.length ≤ 9223372036854775807) :
    Calls Tryd.prog 142 #[.slice A l.length c, .func (.func 107) #[] #[]] w fun e w' => ∃ i : Int, e = .returned (.int .i64 i) ∧ decide (0 ≤ i) = l.any (fun s => !gE s) ∧ Below w.heap.size w w' := by
  obtain ⟨R, hR⟩ : ∃ R, R = l.any (fun s => !gE s) := ⟨_, rfl⟩
  rw [← hR]
  have HR : Hid (anyFrom (fun s => !gE s) l 0 = R) := Lib.hid hR.symm
  have HC := Lib.hid hC
  clear hC hR
  go_enter Tryd.func142, Tryd.ntmps142
  go_wp2
  go_loopw [8] (fun i wr => ∃ k : Nat, k ≤ l.length ∧ i = .int .i64 k ∧ Hid (anyFrom (fun s => !gE s) l k = R) ∧ Below w.heap.size w wr) (fun i _ => l.length - (intOf i).toNat)
  case atStart => exact ⟨0, by omega, rfl, HR, Below.refl _ _⟩
  case round =>
    obtain ⟨k, hk, rfl, hP, hw⟩ := hrel
    clear HR
    by_cases hlt : k < l.length
    · obtain ⟨ad, q, rfl, hq, e0, e1, e2, e3, e4, e5, e6, e7, e8⟩ := ent_at (Kd.C_below HC.out hw) k hlt
      have hP2 := hP.out
      rw [anyFrom_at _ _ _ hlt] at hP2
      obtain ⟨x, hx⟩ : ∃ x, x = l[k] := ⟨_, rfl⟩
      rw [← hx] at hq e0 e1 e2 e3 e4 e5 e6 e7 e8 hP2
      have HF := Lib.hid (entryBad_any x q wr hq)
      clear hx hP hq
      cases hb : (!gE x)
      case false =>
        have HP2 := hP2
        simp only [hb, Bool.false_or] at HP2
        have HP3 := Lib.hid HP2
        have HF2 := HF.out
        simp only [hb] at HF2
        have HF3 := Lib.hid HF2
        clear hb hP2 HP2 HF2 HF
        go_wp2_with (go_at_call 107; (with_reducible refine (HF3.out).mono ?_); rintro e w2 ⟨rfl, hb2⟩)
        go_roundw
        case rel => exact ⟨k + 1, by omega, by go_num, HP3, hw.trans (hb2.mono hw.size)⟩
        case measure => simp [intOf]; omega
      case true =>
        have HP2 := hP2
        simp only [hb, Bool.true_or] at HP2
        have HP3 := Lib.hid HP2
        have HF2 := HF.out
        simp only [hb] at HF2
        have HF3 := Lib.hid HF2
        clear hb hP2 HP2 HF2 HF
        go_wp2_with (go_at_call 107; (with_reducible refine (HF3.out).mono ?_); rintro e w2 ⟨rfl, hb2⟩)
        go_ret
        exact ⟨(k : Int), rfl, by rw [← HP3.out]; simp, hw.trans (hb2.mono hw.size)⟩
    · have hP2 := hP.out
      rw [anyFrom_end _ _ _ (by omega)] at hP2
      have HP2 := Lib.hid hP2
      clear hP hP2
      go_wp2
      go_ret
      exact ⟨-1, rfl, by rw [← HP2.out]; rfl, hw⟩
theorem containsEntries_any (A : Option Addr) (c : Nat) (l : List S98) (w : World) (hC : Kd.C k98 w A l.length l) (hc : l.length ≤ c) (hn : l.length ≤ 9223372036854775807) :
    Calls Tryd.prog 106 #[.slice A l.length c, .func (.func 107) #[] #[]] w fun e w' => e = .returned (.bool (!l.all gE)) ∧ Below w.heap.size w w' := by
  have HC := Lib.hid (indexEntries_any A c l w hC hc hn)
  have hq : l.any (fun s => !gE s) = !l.all gE := by rw [List.all_eq_not_any_not]; simp
  rw [← hq]
  clear hC hq
  go_enter Tryd.func106, Tryd.ntmps106
  go_wp2_with (go_at_call 142; (with_reducible refine (HC.out).mono ?_); rintro e w2 ⟨i, rfl, hi, hb2⟩)
  go_ret
  exact ⟨by rw [← hi] <;> rfl, hb2⟩
set_option maxHeartbeats 8000000 in
theorem Good_any (x : Let) (a : Ad) (w : World) (hx : LetC w x a) : Calls Tryd.prog 61 #[letV x a] w fun e w' => e = .returned (.bool (goodL x)) ∧ Below w.heap.size w w' := by
  have HX := Lib.hid hx
  clear hx
  show Calls Tryd.prog 61 #[.agg #[.int .i64 x.k, .int .i64 x.pv, .int .i64 x.pf, .int .i64 x.px, .int .i64 x.v.f0, .int .i64 x.v.f1, .int .i64 x.v.f2, .slice a.A7 x.v.f3.length a.c7, .slice a.A8 x.v.f4.length a.c8, .slice a.A9 x.ps.length a.c9, .int .i64 x.vr, .int .i64 x.vv, .int .i64 x.vp, .int .i64 x.vf, .slice a.A14 x.vi.length a.c14, .slice a.A15 x.vs.length a.c15, .int .i64 x.r, .slice a.A17 x.es.length a.c17]] w _
  go_enter Tryd.func61, Tryd.ntmps61
  go_upto_region 1 with (fail)
  obtain ⟨wx, hwx⟩ : ∃ wx, wx = w.alloc (.cells #[.int .i64 x.k, .int .i64 x.pv, .int .i64 x.pf, .int .i64 x.px, .int .i64 x.v.f0, .int .i64 x.v.f1, .int .i64 x.v.f2, .slice a.A7 x.v.f3.length a.c7, .slice a.A8 x.v.f4.length a.c8, .slice a.A9 x.ps.length a.c9, .int .i64 x.vr, .int .i64 x.vv, .int .i64 x.vp, .int .i64 x.vf, .slice a.A14 x.vi.length a.c14, .slice a.A15 x.vs.length a.c15, .int .i64 x.r, .slice a.A17 x.es.length a.c17] 54) := ⟨_, rfl⟩
  rw [← hwx]
  have HL := Lib.hid (show wx.heap[w.heap.size]? = some (.cells #[.int .i64 x.k, .int .i64 x.pv, .int .i64 x.pf, .int .i64 x.px, .int .i64 x.v.f0, .int .i64 x.v.f1, .int .i64 x.v.f2, .slice a.A7 x.v.f3.length a.c7, .slice a.A8 x.v.f4.length a.c8, .slice a.A9 x.ps.length a.c9, .int .i64 x.vr, .int .i64 x.vv, .int .i64 x.vp, .int .i64 x.vf, .slice a.A14 x.vi.length a.c14, .slice a.A15 x.vs.length a.c15, .int .i64 x.r, .slice a.A17 x.es.length a.c17] 54) by rw [hwx]; exact blk_new _ _)
  have hbx : Below w.heap.size w wx := by rw [hwx]; exact below_alloc (Below.refl _ _) _
  have HB := Lib.hid hbx
  have HX2 := Lib.hid (HX.out.below hbx)
  clear hwx hbx HX
  obtain ⟨l0, l1, l2, l3, l4, l5, l6, l7, l8, l9, l10, l11, l12, l13, l14, l15, l16, l17⟩ := cells18 HL.out
  have HBA := Lib.hid (bare_any x a wx HX2.out)
  cases b0 : bareB x
  case false =>
    have HVV := Lib.hid (show goodL x = false by simp only [goodL, b0, Bool.false_and])
    have HQ := HBA.out
    simp only [b0] at HQ
    have HBAq := Lib.hid HQ
    clear HQ HBA
    go_wp2_with (first | ((with_reducible refine gate_dst (N := 3) rfl ?_); refine wpList_load_row rfl 54 (.tmp 1) rfl w.heap.size rfl 54 _ (0, 0) _ HL.out Tryd.underlying54 rfl (by kernel_rfl) ?_) | (go_at_call 102; (with_reducible refine (HBAq.out).mono ?_); rintro e w2 ⟨rfl, hb2⟩))
    go_ret
    exact ⟨by rw [HVV.out] <;> rfl, by exact HB.out.trans (hb2.mono HB.out.size)⟩
  case true =>
    have HQ := HBA.out
    simp only [b0] at HQ
    have HBAq := Lib.hid HQ
    clear HQ HBA
    by_cases hk1 : x.k = 1
    · have HVV := Lib.hid (show goodL x = gP x by simp [goodL, b0, hk1])
      have k1 : (x.k == 1) = true := by rw [hk1]; rfl
      have k2 : (x.k == 2) = false := by rw [hk1]; rfl
      have k3 : (x.k == 3) = false := by rw [hk1]; rfl
      have k4 : (x.k == 4) = false := by rw [hk1]; rfl
      clear hk1
      go_wp2_with (first | ((with_reducible refine gate_dst (N := 3) rfl ?_); refine wpList_load_row rfl 54 (.tmp 1) rfl w.heap.size rfl 54 _ (0, 0) _ HL.out Tryd.underlying54 rfl (by kernel_rfl) ?_) | (go_at_call 102; (with_reducible refine (HBAq.out).mono ?_); rintro e w2 ⟨rfl, hb2⟩; obtain ⟨m0, m1, m2, m3, m4, m5, m6, m7, m8, m9, m10, m11, m12, m13, m14, m15, m16, m17⟩ := cells18 (blk_below HL.out hb2); have HX3 := Lib.hid (HX2.out.below hb2)) | (go_at_call 103; (with_reducible refine (goodProposal_any x a HX3.out).mono ?_); rintro e w3 ⟨rfl, hb3⟩))
      go_ret
      exact ⟨by rw [HVV.out] <;> rfl, by exact (HB.out.trans (hb2.mono HB.out.size)).trans (hb3.mono (HB.out.trans (hb2.mono HB.out.size)).size)⟩
    by_cases hk2 : x.k = 2
    · have HVV := Lib.hid (show goodL x = gT x by simp [goodL, b0, hk2])
      have k1 : (x.k == 1) = false := by rw [hk2]; rfl
      have k2 : (x.k == 2) = true := by rw [hk2]; rfl
      have k3 : (x.k == 3) = false := by rw [hk2]; rfl
      have k4 : (x.k == 4) = false := by rw [hk2]; rfl
      clear hk2
      go_wp2_with (first | ((with_reducible refine gate_dst (N := 3) rfl ?_); refine wpList_load_row rfl 54 (.tmp 1) rfl w.heap.size rfl 54 _ (0, 0) _ HL.out Tryd.underlying54 rfl (by kernel_rfl) ?_) | (go_at_call 102; (with_reducible refine (HBAq.out).mono ?_); rintro e w2 ⟨rfl, hb2⟩; obtain ⟨m0, m1, m2, m3, m4, m5, m6, m7, m8, m9, m10, m11, m12, m13, m14, m15, m16, m17⟩ := cells18 (blk_below HL.out hb2); have HX3 := Lib.hid (HX2.out.below hb2)) | (go_at_call 104; (with_reducible refine (goodVote_any x a HX3.out).mono ?_); rintro e w3 ⟨rfl, hb3⟩))
      go_ret
      exact ⟨by rw [HVV.out] <;> rfl, by exact (HB.out.trans (hb2.mono HB.out.size)).trans (hb3.mono (HB.out.trans (hb2.mono HB.out.size)).size)⟩
    by_cases hk3 : x.k = 3
    · have HVV := Lib.hid (show goodL x = inR x.r 1 2147483648 by simp [goodL, b0, hk3])
      have k1 : (x.k == 1) = false := by rw [hk3]; rfl
      have k2 : (x.k == 2) = false := by rw [hk3]; rfl
      have k3 : (x.k == 3) = true := by rw [hk3]; rfl
      have k4 : (x.k == 4) = false := by rw [hk3]; rfl
      clear hk3
      go_wp2_with (first | ((with_reducible refine gate_dst (N := 3) rfl ?_); refine wpList_load_row rfl 54 (.tmp 1) rfl w.heap.size rfl 54 _ (0, 0) _ HL.out Tryd.underlying54 rfl (by kernel_rfl) ?_) | (go_at_call 102; (with_reducible refine (HBAq.out).mono ?_); rintro e w2 ⟨rfl, hb2⟩; obtain ⟨m0, m1, m2, m3, m4, m5, m6, m7, m8, m9, m10, m11, m12, m13, m14, m15, m16, m17⟩ := cells18 (blk_below HL.out hb2); have HX3 := Lib.hid (HX2.out.below hb2)) | (go_at_call 105; (with_reducible refine (within_any x.r 1 2147483648).mono ?_); rintro e w3 ⟨rfl, hb3⟩))
      go_ret
      exact ⟨by rw [HVV.out] <;> rfl, by exact (HB.out.trans (hb2.mono HB.out.size)).trans (hb3.mono (HB.out.trans (hb2.mono HB.out.size)).size)⟩
    by_cases hk4 : x.k = 4
    · have hv : goodL x = (decide (x.es.length ≤ 16) && x.es.all gE) := by simp [goodL, b0, hk4]
      have k1 : (x.k == 1) = false := by rw [hk4]; rfl
      have k2 : (x.k == 2) = false := by rw [hk4]; rfl
      have k3 : (x.k == 3) = false := by rw [hk4]; rfl
      have k4 : (x.k == 4) = true := by rw [hk4]; rfl
      clear hk4 hk1 hk2 hk3
      cases a5 : decide (x.es.length ≤ 16)
      case false =>
        have a5i : decide ((x.es.length : Int) ≤ 16) = false := (dec_le x.es.length 16).trans a5
        rw [a5] at hv
        rw [Bool.false_and] at hv
        have HVV := Lib.hid hv
        clear hv
        go_wp2_with (first | ((with_reducible refine gate_dst (N := 3) rfl ?_); refine wpList_load_row rfl 54 (.tmp 1) rfl w.heap.size rfl 54 _ (0, 0) _ HL.out Tryd.underlying54 rfl (by kernel_rfl) ?_) | (go_at_call 102; (with_reducible refine (HBAq.out).mono ?_); rintro e w2 ⟨rfl, hb2⟩; obtain ⟨m0, m1, m2, m3, m4, m5, m6, m7, m8, m9, m10, m11, m12, m13, m14, m15, m16, m17⟩ := cells18 (blk_below HL.out hb2); have HX3 := Lib.hid (HX2.out.below hb2)))
        go_ret
        exact ⟨by rw [HVV.out] <;> rfl, by exact HB.out.trans (hb2.mono HB.out.size)⟩
      case true =>
        have a5i : decide ((x.es.length : Int) ≤ 16) = true := (dec_le x.es.length 16).trans a5
        rw [a5] at hv
        rw [Bool.true_and] at hv
        have HVV := Lib.hid hv
        clear hv
        go_wp2_with (first | ((with_reducible refine gate_dst (N := 3) rfl ?_); refine wpList_load_row rfl 54 (.tmp 1) rfl w.heap.size rfl 54 _ (0, 0) _ HL.out Tryd.underlying54 rfl (by kernel_rfl) ?_) | (go_at_call 102; (with_reducible refine (HBAq.out).mono ?_); rintro e w2 ⟨rfl, hb2⟩; obtain ⟨m0, m1, m2, m3, m4, m5, m6, m7, m8, m9, m10, m11, m12, m13, m14, m15, m16, m17⟩ := cells18 (blk_below HL.out hb2); have HX3 := Lib.hid (HX2.out.below hb2)) | (go_at_call 106; (with_reducible refine (containsEntries_any a.A17 a.c17 x.es _ HX3.out.h17 HX3.out.l17 (C_max HX3.out.h17)).mono ?_); rintro e w3 ⟨rfl, hb3⟩))
        go_ret
        exact ⟨by rw [HVV.out] <;> simp <;> rfl, by exact (HB.out.trans (hb2.mono HB.out.size)).trans (hb3.mono (HB.out.trans (hb2.mono HB.out.size)).size)⟩
    · have HVV := Lib.hid (show goodL x = false by simp [goodL, b0, hk1, hk2, hk3, hk4])
      have k1 : (x.k == 1) = false := beq_eq_false_iff_ne.mpr hk1
      have k2 : (x.k == 2) = false := beq_eq_false_iff_ne.mpr hk2
      have k3 : (x.k == 3) = false := beq_eq_false_iff_ne.mpr hk3
      have k4 : (x.k == 4) = false := beq_eq_false_iff_ne.mpr hk4
      clear hk1 hk2 hk3 hk4
      go_wp2_with (first | ((with_reducible refine gate_dst (N := 3) rfl ?_); refine wpList_load_row rfl 54 (.tmp 1) rfl w.heap.size rfl 54 _ (0, 0) _ HL.out Tryd.underlying54 rfl (by kernel_rfl) ?_) | (go_at_call 102; (with_reducible refine (HBAq.out).mono ?_); rintro e w2 ⟨rfl, hb2⟩; obtain ⟨m0, m1, m2, m3, m4, m5, m6, m7, m8, m9, m10, m11, m12, m13, m14, m15, m16, m17⟩ := cells18 (blk_below HL.out hb2); have HX3 := Lib.hid (HX2.out.below hb2)))
      go_ret
      exact ⟨by rw [HVV.out] <;> rfl, by exact HB.out.trans (hb2.mono HB.out.size)⟩
end Go.Proofs.YtpeebjnfmlfocaaDoor.Sh
