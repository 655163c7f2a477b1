/- The document's Expand (layer 38) at this program. Conditions: bytes in range, at most 500 of them are asked for; keys and infos of at most 2^19. -/
import Derived.Test.YtpeebjnfmlfocaaDoorHkAll
namespace Go.Proofs.YtpeebjnfmlfocaaDoor.Dig
open Go.RowKit Go.UW Go.Proofs.YtpeebjnfmlfocaaDoorW.PrintWords Go.Proofs.YtpeebjnfmlfocaaDoorW.PrintLast Go.Proofs.YtpeebjnfmlfocaaDoorW.PrintMore Go.Proofs.YtpeebjnfmlfocaaDoor.Ref05
set_option linter.unusedVariables false

theorem slice_up (A2 : Option Addr) (n2 c2 k : Nat) (h2 : k ≤ c2) (W : World) : (Instr.slice 22 (.slice A2 n2 c2) none (some (.int .i64 (k : Int))) none).run Tryd.prog W = .ok (.slice A2 k c2) W := by
  obtain ⟨i0, hi, hz0, hz1, hz2⟩ := info_parts infoU8
  have hel : Tryd.prog.elem 22 = 5 := by simp [Program.elem, Tryd.underlying22]
  have hu : Tryd.prog.underlying 22 = some (.slice (Tryd.prog.elem 22)) := by rw [hel]; exact Tryd.underlying22
  have ha : (A2.map fun x => x.add 0) = A2 := by cases A2 <;> simp [Addr.add]
  rw [run_slice_h W 22 A2 n2 c2 hu .i64 (k : Int) (by omega) (by omega), hel]
  simp [sizeOf, typeInfo, hi, hz1, sliced, Result.andThen, ha]
theorem C_cut {w : World} {A : Option Addr} {n : Nat} {l : List Int} (h : (Kd.int .u8).C w A n l) (k : Nat) (hk : k ≤ n) : (Kd.int .u8).C w A k (l.take k) := by
  obtain ⟨h1, h2, h3⟩ := h
  refine ⟨by rw [List.length_take]; omega, by omega, fun hp => ?_⟩
  obtain ⟨ad, e, hc⟩ := h3 (by omega)
  refine ⟨ad, e, fun j p hj => hc j p ?_⟩
  rw [List.getElem?_take] at hj
  split at hj
  · exact hj
  · cases hj

set_option maxHeartbeats 4000000 in
set_option maxRecDepth 100000 in
theorem rexpand_any (A : Option Addr) (m c : Nat) (ys : List Int) (A2 : Option Addr) (m2 c2 : Nat) (zs : List Int) (N : Nat) (hN : N ≤ 500) (w : World)
    (hC : (Kd.int .u8).C w A m ys) (hmc : m ≤ c) (hy : ∀ z ∈ ys, 0 ≤ z ∧ z ≤ 255) (hl : m ≤ 524288) (hC2 : (Kd.int .u8).C w A2 m2 zs) (hmc2 : m2 ≤ c2) (hy2 : ∀ z ∈ zs, 0 ≤ z ∧ z ≤ 255) (hl2 : m2 ≤ 524288) :
    Calls Tryd.prog 23 #[.slice A m c, .slice A2 m2 c2, .int .i64 (N : Int)] w fun e w' => ∃ A3 c3, e = .returned (.slice A3 N c3) ∧ (Kd.int .u8).C w' A3 N ((xp ys zs 255).take N) ∧ N ≤ c3 ∧ Below w.heap.size w w' := by
  have HC := Lib.hid hC
  have HC2 := Lib.hid hC2
  have HY := Lib.hid hy
  have HY2 := Lib.hid hy2
  have HM2 := Lib.hid (Kd.C_len hC2)
  clear hC hC2 hy hy2
  go_enter Tryd.func23, Tryd.ntmps23
  go_wp2
  go_loopg [7, 8, 9, 10] 16 (fun gk v7 v8 v9 v10 wr => ∃ (q : Nat) (A7 : Option Addr) (m7 c7 : Nat) (A8 : Option Addr) (m8 c8 : Nat), q + gk = 16 ∧ v9 = .int .i64 ((q : Int) + 1) ∧ v7 = .slice A7 m7 c7 ∧ v8 = .slice A8 m8 c8 ∧ Hid (Kd.R (Kd.int .u8) 5 wr w.heap.size (fun _ => True) v7 (xp ys zs q)) ∧ Hid (Kd.R (Kd.int .u8) 5 wr w.heap.size (fun _ => True) v8 (tb ys zs q)) ∧ Below w.heap.size w wr)
  case atStart => exact ⟨0, none, 0, 0, none, 0, 0, by omega, rfl, rfl, rfl, Kd.R_nil _ _ _ _ _, Kd.R_nil _ _ _ _ _, Below.refl _ _⟩
  case round =>
    obtain ⟨q, A7, m7, c7, A8, m8, c8, hq, rfl, rfl, rfl, hO, hT, hb⟩ := hrel
    obtain ⟨hm7, hc7, hC7⟩ := Kd.R_reads' hO.out
    obtain ⟨hm8, hc8, hC8⟩ := Kd.R_reads' hT.out
    have hx := hm7.trans (xp_len ys zs q)
    have ht32 := tb_len ys zs q
    have HQ := Lib.hid hq
    have HM8 := Lib.hid hm8
    by_cases hlt : (m7 : Int) < (N : Int)
    · have hdec := decide_eq_true hlt
      have e8 : IntKind.u8.wrap ((q : Int) + 1) = (q : Int) + 1 := by rw [IntKind.wrap_u8]; omega
      have ei : IntKind.i64.wrap ((q : Int) + 1 + 1) = (q : Int) + 1 + 1 := IntWalk.i64_in _ (by omega)
      have hq15 : q < 16 := by omega
      have HX := Lib.hid hx
      rw [← hm8] at hC8
      have HC8 := Lib.hid hC8
      have htl : (tb ys zs q).length ≤ 32 := ht32
      have HTL := Lib.hid htl
      clear hq hm7 hm8 hC7 hC8 hx ht32 htl
      go_wp2_with (first
        | (at_builtin
           refine Kd.R_append_row (Value.int .u8) (0 : Int) (w0 := wr) (W := wr) wr.heap.size rfl (.tmp 17) (.tmp 18) 22 5 (.int .u8 0) 1 rfl Tryd.underlying22 infoU8 rfl (by decide) (.slice none 0 0) [] (tb ys zs q) A8 _ c8 (fun _ => True) rfl rfl (fun _ _ => trivial) (Kd.R_nil _ _ _ _ _) HC8.out (Below.refl _ _) (Nat.le_refl _) (by have := HTL.out; have := HM8.out; simp only [List.length_nil]; omega) ?_
           intro v1 w1 hO1 hb1 _ _
           obtain ⟨A1q, m1q, c1q, hv1q⟩ : ∃ A m c, v1 = .slice A m c := by obtain ⟨A1, c1, e⟩ := Kd.R_slice hO1; exact ⟨_, _, _, e⟩
           have HO1 := Lib.hid hO1
           clear hO1)
        | (at_builtin
           refine Kd.R_append_row (Value.int .u8) (0 : Int) (w0 := wr) (W := w1) wr.heap.size rfl (.tmp 20) (.tmp 21) 22 5 (.int .u8 0) 1 rfl Tryd.underlying22 infoU8 rfl (by decide) (.slice A1q m1q c1q) ([] ++ tb ys zs q) zs A2 m2 c2 (fun _ => True) rfl rfl (fun _ _ => trivial) (by rw [← hv1q]; exact HO1.out) (Kd.C_below HC2.out (hb.trans (hb1.mono hb.size))) hb1 hb1.size (by have := HTL.out; simp only [List.length_append, List.length_nil]; omega) ?_
           intro v2 w2 hO2 hb2 _ _
           obtain ⟨A2q, m2q, c2q, hv2q⟩ : ∃ A m c, v2 = .slice A m c := by obtain ⟨A1, c1, e⟩ := Kd.R_slice hO2; exact ⟨_, _, _, e⟩
           have HO2 := Lib.hid hO2
           clear hO2)
        | (at_builtin
           refine Kd.R_append (Kd.int .u8) (w0 := wr) (W := w2) wr.heap.size rfl (.tmp 24) (.tmp 27) 22 5 (.int .u8 0) 1 rfl Tryd.underlying22 infoU8 rfl (by decide) (by omega) (.slice A2q m2q c2q) ([] ++ tb ys zs q ++ zs) ((q : Int) + 1) [.int .u8 ((q : Int) + 1)] (fun _ => True) (fun _ => False) rfl rfl rfl (fun _ hk => hk.elim) (fun _ _ => trivial) (by rw [← hv2q]; exact HO2.out) hb2 hb2.size (by have := HTL.out; have := HM2.out; simp only [List.length_append, List.length_nil]; omega) ?_
           intro v3 w3 hO3 hb3 _ _
           obtain ⟨A3q, m3q, c3q, hv3q, hm3q, hC3q, hc3q⟩ := row_any hO3
           have HC3Q := Lib.hid hC3q
           have HM3Q := Lib.hid hm3q
           clear hO3 hC3q hm3q)
        | (go_at_call 22; (with_reducible refine (rmac_any A m c ys A3q m3q c3q ([] ++ tb ys zs q ++ zs ++ [(q : Int) + 1]) w3 (Kd.C_below HC.out (hb.trans (hb3.mono hb.size))) hmc HY.out (by omega) HC3Q.out hc3q (rg_app (rg_app (by rw [List.nil_append]; exact tb_rg ys zs q) HY2.out) (by intro x hx; rw [List.mem_singleton] at hx; omega)) (by have := HM3Q.out; have := HTL.out; have := HM2.out; simp only [List.length_append, List.length_nil, List.length_cons] at *; omega)).mono ?_); rintro e w4 ⟨v4, rfl, hO4, hb4⟩
           obtain ⟨A4q, m4q, c4q, hv4q, hm4q, hC4q, hc4q⟩ := row_any hO4
           have hb14 := hb3.trans (hb4.mono hb3.size)
           have HO4 := Lib.hid hO4
           have HC4Q := Lib.hid hC4q
           have HM4Q := Lib.hid hm4q
           have HO7 := Lib.hid (Kd.R_below hO.out hb14)
           clear hO4 hC4q hm4q)
        | (at_builtin
           refine Kd.R_append_row (Value.int .u8) (0 : Int) (w0 := w) (W := w4) w.heap.size rfl (.tmp 30) (.tmp 31) 22 5 (.int .u8 0) 1 rfl Tryd.underlying22 infoU8 rfl (by decide) (.slice A7 m7 c7) (xp ys zs q) (hmac ys ([] ++ tb ys zs q ++ zs ++ [(q : Int) + 1])) A4q m4q c4q (fun _ => True) rfl rfl (fun _ _ => trivial) HO7.out HC4Q.out (hb.trans (hb14.mono hb.size)) (hb.trans (hb14.mono hb.size)).size (by have h1 := HM4Q.out; rw [hmac_len] at h1; rw [xp_len]; omega) ?_
           intro v5 w5 hO5 hb5 hg5 _
           obtain ⟨A5q, m5q, c5q, hv5q⟩ : ∃ A m c, v5 = .slice A m c := by obtain ⟨A1, c1, e⟩ := Kd.R_slice hO5; exact ⟨_, _, _, e⟩
           have hlast : Kd.R (Kd.int .u8) 5 w5 w3.heap.size (fun _ => True) v4 (hmac ys ([] ++ tb ys zs q ++ zs ++ [(q : Int) + 1])) := Kd.R_mono (Kd.R_move (Kd.R_bound HO4.out) (fun k hk => hg5.block k hk.2.2.1 (fun e => by have := Kd.R_lt hO.out k e.symm; have := hk.2.1; have := hb3.size; omega))) (fun _ _ => trivial)
           have HO5 := Lib.hid hO5
           have HLAST := Lib.hid hlast
           clear hO5 hlast hg5))
      go_roundg (16 - (q + 1))
      case measure => have := HQ.out; omega
      case rel =>
        have e1 : hmac ys ([] ++ tb ys zs q ++ zs ++ [(q : Int) + 1]) = tb ys zs (q + 1) := by rw [List.nil_append, tb]; rfl
        refine ⟨q + 1, _, _, _, _, _, _, by have := HQ.out; omega, by go_num, rfl, rfl, ?_, ?_, hb5⟩
        · rw [xp_succ, ← e1, ← hv5q]; exact HO5.out
        · rw [← e1, ← hv4q]; exact Kd.R_lower HLAST.out (Nat.le_trans hb.size hb3.size)
    · have hdec := decide_eq_false hlt
      have hsl := slice_up A7 m7 c7 N (by omega)
      have hNq : N ≤ 32 * q := by omega
      have htk : (xp ys zs 255).take N = (xp ys zs q).take N := by
        have := xp_take ys zs q N (255 - q) hNq
        rwa [show q + (255 - q) = 255 by omega] at this
      have hcc : N ≤ c7 := by omega
      have hres := C_cut hC7 N (by rw [xp_len]; exact hNq)
      rw [← htk] at hres
      have HRES := Lib.hid hres
      clear hq hm7 hm8 hC7 hC8 hx hres htk
      go_wp2
      go_ret
      exact ⟨_, _, rfl, HRES.out, hcc, hb⟩
end Go.Proofs.YtpeebjnfmlfocaaDoor.Dig
