/- HkdfBytes: the law's function answers true. Condition: the table of constants stands. -/
import Derived.Test.YtpeebjnfmlfocaaDoorHkR
namespace Go.Proofs.YtpeebjnfmlfocaaDoor.Dig
open Go.RowKit Go.UW Go.Proofs.YtpeebjnfmlfocaaDoorW.PrintWords Go.Proofs.YtpeebjnfmlfocaaDoorW.PrintLast Go.Proofs.YtpeebjnfmlfocaaDoorW.PrintMore Go.Proofs.YtpeebjnfmlfocaaDoor.Ref05
set_option linter.unusedVariables false

set_option maxHeartbeats 4000000 in
set_option maxRecDepth 100000 in
theorem bytes_walk (A : Option Addr) (c : Nat) (ys : List Int) (A2 : Option Addr) (c2 : Nat) (zs : List Int) (n : Int) (w : World) (hG : Glob w)
    (hC : (Kd.int .u8).C w A ys.length ys) (hmc : ys.length ≤ c) (hy : ∀ z ∈ ys, 0 ≤ z ∧ z ≤ 255) (hC2 : (Kd.int .u8).C w A2 zs.length zs) (hmc2 : zs.length ≤ c2) (hy2 : ∀ z ∈ zs, 0 ≤ z ∧ z ≤ 255) (hn : n < 9223372036854775808) :
    Calls Tryd.prog 5 #[.slice A ys.length c, .slice A2 zs.length c2, .int .i64 n] w fun e w' => e = .returned (.bool true) ∧ Below w.heap.size w w' := by
  have HC := Lib.hid hC
  have HC2 := Lib.hid hC2
  have HY := Lib.hid hy
  have HY2 := Lib.hid hy2
  clear hC hC2 hy hy2
  by_cases g0 : (ys.length : Int) > 500
  · have d0 := decide_eq_true g0
    go_enter Tryd.func5, Tryd.ntmps5
    go_wp2_with (go_at_call 19; (with_reducible refine (awake38 _ hG).mono ?_); rintro e w1 ⟨rfl, hb1⟩)
    go_ret
    exact ⟨rfl, hb1⟩
  have d0 := decide_eq_false g0
  by_cases g1 : (zs.length : Int) > 500
  · have d1 := decide_eq_true g1
    go_enter Tryd.func5, Tryd.ntmps5
    go_wp2_with (go_at_call 19; (with_reducible refine (awake38 _ hG).mono ?_); rintro e w1 ⟨rfl, hb1⟩)
    go_ret
    exact ⟨rfl, hb1⟩
  have d1 := decide_eq_false g1
  have hl1 : ys.length ≤ 1048576 := by omega
  have hl2 : zs.length ≤ 1048576 := by omega
  have hl3 : ys.length ≤ 500 := by omega
  have hl4 : zs.length ≤ 500 := by omega
  clear g0 g1
  by_cases gl : n < 0
  · have d2 := decide_eq_true gl
    go_enter Tryd.func5, Tryd.ntmps5
    go_wp2_with (first
        | (go_at_call 19; (with_reducible refine (awake38 _ hG).mono ?_); rintro e w1 ⟨rfl, hb1⟩)
        | (go_at_call 20; (with_reducible refine (expand_low _ _ n gl w1).mono ?_); rintro e w2 ⟨rfl, hb2⟩; have hb12 := hb1.trans (hb2.mono hb1.size))
        | (go_at_call 21; (with_reducible refine (extract_any A ys.length c ys A2 zs.length c2 zs w2 (hG.below hb12) (Kd.C_below HC.out hb12) hmc HY.out hl1 (Kd.C_below HC2.out hb12) hmc2 HY2.out hl2).mono ?_); rintro e w3 ⟨v3, rfl, hO3, hb3⟩; obtain ⟨A4, m4, c4, rfl, hm4, hC4, hc4⟩ := row_any hO3; have HC4 := Lib.hid hC4; have HM4 := Lib.hid hm4; have hb13 := hb12.trans (hb3.mono hb12.size); clear hO3 hC4 hm4)
        | (go_at_call 22; (with_reducible refine (rmac_any A ys.length c ys A2 zs.length c2 zs w3 (Kd.C_below HC.out hb13) hmc HY.out hl1 (Kd.C_below HC2.out hb13) hmc2 HY2.out hl2).mono ?_); rintro e w4 ⟨v4, rfl, hO4, hb4⟩; obtain ⟨A5, m5, c5, rfl, hm5, hC5, hc5⟩ := row_any hO4; have HC5 := Lib.hid hC5; have hb14 := hb13.trans (hb4.mono hb13.size); clear hO4 hC5 hm5)
        | (go_at_call 12; (with_reducible refine (same_true A4 m4 c4 A5 m5 c5 (hmac ys zs) w4 (Kd.C_below HC4.out hb4) hc4 HC5.out hc5 (by have := HM4.out; rw [hmac_len] at this; omega)).mono ?_); rintro e w5 ⟨rfl, hd5⟩; have hb5 := hd5.below; have hb15 := hb14.trans (hb5.mono hb14.size)))
    go_ret
    exact ⟨rfl, hb15⟩
  have d2 := decide_eq_false gl
  by_cases gh : n > 8160
  · have d3 := decide_eq_true gh
    go_enter Tryd.func5, Tryd.ntmps5
    go_wp2_with (first
        | (go_at_call 19; (with_reducible refine (awake38 _ hG).mono ?_); rintro e w1 ⟨rfl, hb1⟩)
        | (go_at_call 20; (with_reducible refine (expand_high _ _ n gh w1).mono ?_); rintro e w2 ⟨rfl, hb2⟩; have hb12 := hb1.trans (hb2.mono hb1.size))
        | (go_at_call 21; (with_reducible refine (extract_any A ys.length c ys A2 zs.length c2 zs w2 (hG.below hb12) (Kd.C_below HC.out hb12) hmc HY.out hl1 (Kd.C_below HC2.out hb12) hmc2 HY2.out hl2).mono ?_); rintro e w3 ⟨v3, rfl, hO3, hb3⟩; obtain ⟨A4, m4, c4, rfl, hm4, hC4, hc4⟩ := row_any hO3; have HC4 := Lib.hid hC4; have HM4 := Lib.hid hm4; have hb13 := hb12.trans (hb3.mono hb12.size); clear hO3 hC4 hm4)
        | (go_at_call 22; (with_reducible refine (rmac_any A ys.length c ys A2 zs.length c2 zs w3 (Kd.C_below HC.out hb13) hmc HY.out hl1 (Kd.C_below HC2.out hb13) hmc2 HY2.out hl2).mono ?_); rintro e w4 ⟨v4, rfl, hO4, hb4⟩; obtain ⟨A5, m5, c5, rfl, hm5, hC5, hc5⟩ := row_any hO4; have HC5 := Lib.hid hC5; have hb14 := hb13.trans (hb4.mono hb13.size); clear hO4 hC5 hm5)
        | (go_at_call 12; (with_reducible refine (same_true A4 m4 c4 A5 m5 c5 (hmac ys zs) w4 (Kd.C_below HC4.out hb4) hc4 HC5.out hc5 (by have := HM4.out; rw [hmac_len] at this; omega)).mono ?_); rintro e w5 ⟨rfl, hd5⟩; have hb5 := hd5.below; have hb15 := hb14.trans (hb5.mono hb14.size)))
    go_ret
    exact ⟨rfl, hb15⟩
  have d3 := decide_eq_false gh
  obtain ⟨N, rfl⟩ : ∃ N : Nat, n = (N : Int) := ⟨n.toNat, by omega⟩
  have hN : N ≤ 8160 := by omega
  by_cases g5 : (N : Int) > 500
  · have d4 := decide_eq_true g5
    go_enter Tryd.func5, Tryd.ntmps5
    go_wp2_with (first
        | (go_at_call 19; (with_reducible refine (awake38 _ hG).mono ?_); rintro e w1 ⟨rfl, hb1⟩)
        | (go_at_call 20; (with_reducible refine (expand_ok A ys.length c ys A2 zs.length c2 zs N hN w1 (hG.below hb1) (Kd.C_below HC.out hb1) hmc HY.out hl1 (Kd.C_below HC2.out hb1) hmc2 HY2.out hl2).mono ?_); rintro e w2 ⟨A3, rfl, hC3, hb2⟩; have HC3 := Lib.hid hC3; have hb12 := hb1.trans (hb2.mono hb1.size); clear hC3)
        | (go_at_call 21; (with_reducible refine (extract_any A ys.length c ys A2 zs.length c2 zs w2 (hG.below hb12) (Kd.C_below HC.out hb12) hmc HY.out hl1 (Kd.C_below HC2.out hb12) hmc2 HY2.out hl2).mono ?_); rintro e w3 ⟨v3, rfl, hO3, hb3⟩; obtain ⟨A4, m4, c4, rfl, hm4, hC4, hc4⟩ := row_any hO3; have HC4 := Lib.hid hC4; have HM4 := Lib.hid hm4; have hb13 := hb12.trans (hb3.mono hb12.size); clear hO3 hC4 hm4)
        | (go_at_call 22; (with_reducible refine (rmac_any A ys.length c ys A2 zs.length c2 zs w3 (Kd.C_below HC.out hb13) hmc HY.out hl1 (Kd.C_below HC2.out hb13) hmc2 HY2.out hl2).mono ?_); rintro e w4 ⟨v4, rfl, hO4, hb4⟩; obtain ⟨A5, m5, c5, rfl, hm5, hC5, hc5⟩ := row_any hO4; have HC5 := Lib.hid hC5; have hb14 := hb13.trans (hb4.mono hb13.size); clear hO4 hC5 hm5)
        | (go_at_call 12; (with_reducible refine (same_true A4 m4 c4 A5 m5 c5 (hmac ys zs) w4 (Kd.C_below HC4.out hb4) hc4 HC5.out hc5 (by have := HM4.out; rw [hmac_len] at this; omega)).mono ?_); rintro e w5 ⟨rfl, hd5⟩; have hb5 := hd5.below; have hb15 := hb14.trans (hb5.mono hb14.size)))
    go_ret
    exact ⟨rfl, hb15⟩
  have d4 := decide_eq_false g5
  go_enter Tryd.func5, Tryd.ntmps5
  go_wp2_with (first
      | (go_at_call 19; (with_reducible refine (awake38 _ hG).mono ?_); rintro e w1 ⟨rfl, hb1⟩)
      | (go_at_call 20; (with_reducible refine (expand_ok A ys.length c ys A2 zs.length c2 zs N hN w1 (hG.below hb1) (Kd.C_below HC.out hb1) hmc HY.out hl1 (Kd.C_below HC2.out hb1) hmc2 HY2.out hl2).mono ?_); rintro e w2 ⟨A3, rfl, hC3, hb2⟩; have HC3 := Lib.hid hC3; have hb12 := hb1.trans (hb2.mono hb1.size); clear hC3)
      | (go_at_call 21; (with_reducible refine (extract_any A ys.length c ys A2 zs.length c2 zs w2 (hG.below hb12) (Kd.C_below HC.out hb12) hmc HY.out hl1 (Kd.C_below HC2.out hb12) hmc2 HY2.out hl2).mono ?_); rintro e w3 ⟨v3, rfl, hO3, hb3⟩; obtain ⟨A4, m4, c4, rfl, hm4, hC4, hc4⟩ := row_any hO3; have HC4 := Lib.hid hC4; have HM4 := Lib.hid hm4; have hb13 := hb12.trans (hb3.mono hb12.size); clear hO3 hC4 hm4)
      | (go_at_call 22; (with_reducible refine (rmac_any A ys.length c ys A2 zs.length c2 zs w3 (Kd.C_below HC.out hb13) hmc HY.out hl1 (Kd.C_below HC2.out hb13) hmc2 HY2.out hl2).mono ?_); rintro e w4 ⟨v4, rfl, hO4, hb4⟩; obtain ⟨A5, m5, c5, rfl, hm5, hC5, hc5⟩ := row_any hO4; have HC5 := Lib.hid hC5; have hb14 := hb13.trans (hb4.mono hb13.size); clear hO4 hC5 hm5)
      | (go_at_call 12; (with_reducible refine (same_true A4 m4 c4 A5 m5 c5 (hmac ys zs) w4 (Kd.C_below HC4.out hb4) hc4 HC5.out hc5 (by have := HM4.out; rw [hmac_len] at this; omega)).mono ?_); rintro e w5 ⟨rfl, hd5⟩; have hb5 := hd5.below; have hb15 := hb14.trans (hb5.mono hb14.size))
      | (go_at_call 23; (with_reducible refine (rexpand_any A ys.length c ys A2 zs.length c2 zs N (by omega) w5 (Kd.C_below HC.out hb15) hmc HY.out (by omega) (Kd.C_below HC2.out hb15) hmc2 HY2.out (by omega)).mono ?_); rintro e w6 ⟨A6, c6, rfl, hC6, hc6, hb6⟩; have HC6 := Lib.hid hC6; have HC36 := Lib.hid (Kd.C_below (Kd.C_below (Kd.C_below (Kd.C_below HC3.out hb3) hb4) hb5) hb6); have hb16 := hb15.trans (hb6.mono hb15.size); clear hC6)
      | (go_at_call 12; (with_reducible refine (same_true A3 N N A6 N c6 ((xp ys zs 255).take N) w6 HC36.out (Nat.le_refl _) HC6.out hc6 (by omega)).mono ?_); rintro e w7 ⟨rfl, hd7⟩))
  go_ret
  exact ⟨rfl, hb16.trans (hd7.below.mono hb16.size)⟩
end Go.Proofs.YtpeebjnfmlfocaaDoor.Dig
