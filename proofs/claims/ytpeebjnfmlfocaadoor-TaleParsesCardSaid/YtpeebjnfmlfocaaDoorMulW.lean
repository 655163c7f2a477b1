/- ref01.Mul's walk at this program: the product's digits. Conditions: digits in range; at most 2^20 of them each. -/
import Derived.Test.YtpeebjnfmlfocaaDoorMul
import Derived.Lib.Hide
import Derived.StillTailTactics
namespace Go.Proofs.YtpeebjnfmlfocaaDoor.TpR
open Go.RowKit Go.Proofs.YtpeebjnfmlfocaaDoorW.PrintWords Go.Proofs.YtpeebjnfmlfocaaDoorW.PrintLast Go.Proofs.YtpeebjnfmlfocaaDoorW.PrintMore Go.Proofs.YtpeebjnfmlfocaaDoor.Tm
set_option linter.unusedVariables false

set_option maxHeartbeats 4000000 in
set_option maxRecDepth 100000 in
theorem mul_any (A0 : Option Addr) (c0 : Nat) (a : List Int) (A1 : Option Addr) (c1 : Nat) (b : List Int) (w : World) (hr0 : Kd.C (Kd.int .i64) w A0 a.length a) (hc0 : a.length ≤ c0) (hr1 : Kd.C (Kd.int .i64) w A1 b.length b) (hc1 : b.length ≤ c1) (ha : Dig a) (hb : Dig b) (hla : a.length ≤ 1048576) (hlb : b.length ≤ 1048576) :
    Calls Tryd.prog 156 #[.slice A0 a.length c0, .slice A1 b.length c1] w fun e w' => ∃ v0_ : Value, e = .returned (v0_) ∧ Kd.R (Kd.int .i64) 3 w' w.heap.size (fun _ => True) v0_ (mulD a b) ∧ Below w.heap.size w w' := by
  have HC0 := Lib.hid hr0
  have HC1 := Lib.hid hr1
  have HA := Lib.hid ha
  have HB := Lib.hid hb
  clear hr0 hr1 ha hb
  obtain ⟨n, hn⟩ : ∃ n : Nat, n = a.length + b.length + 1 := ⟨_, rfl⟩
  have ew1 : IntKind.i64.wrap ((a.length : Int) + (b.length : Int)) = (a.length : Int) + (b.length : Int) := IntWalk.i64_in _ (by omega)
  have ew2 : IntKind.i64.wrap ((a.length : Int) + (b.length : Int) + 1) = (n : Int) := by rw [IntWalk.i64_in _ (by omega)]; omega
  have hn1 : n ≤ 2097153 := by omega
  have hn0 : 0 < n := by omega
  have HN := Lib.hid hn
  clear hn
  go_enter Tryd.func156, Tryd.ntmps156
  go_wp2_with (
    (refine Kd.R_make (Kd.int .i64) (w0 := w) (W := w) w.heap.size 3 rfl rfl 74 _ _ rfl (n : Int) rfl rfl Tryd.underlying74 (.int .i64 0) 8 info3 rfl (by decide) (by decide) (0 : Int) (ok := fun _ => True) (okp := fun _ => False) rfl (fun _ h => h.elim) trivial (by omega) (by omega) (Below.refl w.heap.size w) ((Below.refl w.heap.size w)).size ?_
     intro v2 w2 hO2 hb2 hg2 _
     rw [Int.toNat_natCast] at hO2
     obtain ⟨g, cv, rfl, hgb, _⟩ := Kd.R_form hO2 (by rw [List.length_replicate]; exact hn0)
     rw [List.length_replicate] at hO2 ⊢
     have HO2 := Lib.hid hO2
     clear hO2))
  go_loopg [6, 7, 8] a.length (fun gk v6 v7 v8 wr => ∃ (i : Nat) (L : List Int), i + gk = a.length ∧ v6 = .int .i64 (i : Int) ∧ Hid (Outr a b i L) ∧ Hid (Kd.R (Kd.int .i64) 3 wr w.heap.size (fun _ => True) (.slice (some ⟨g, 0, none⟩) n cv) L) ∧ Below w.heap.size w wr)
  case atStart => exact ⟨0, List.replicate n 0, by omega, rfl, Lib.hid (by rw [HN.out]; exact out_zero a b), HO2, hb2⟩
  case round =>
    obtain ⟨i, L, hi, rfl, hOu, hO, hb⟩ := hrel
    have HI := Lib.hid hi
    clear hb2 HO2
    by_cases hlt : (i : Int) < (a.length : Int)
    · have hdec := decide_eq_true hlt
      have hdec2 : decide (i < a.length) = true := decide_eq_true (by omega)
      have hlt2 : i < a.length := by omega
      have HLT := Lib.hid hlt2
      have ei : IntKind.i64.wrap ((i : Int) + 1) = (i : Int) + 1 := IntWalk.i64_in _ (by omega)
      have ei2 : IntKind.i64.wrap ((i : Int) + (b.length : Int)) = (i : Int) + (b.length : Int) := IntWalk.i64_in _ (by omega)
      clear hlt hi
      go_wp2
      go_loopg [7, 8] b.length (fun hk v7 v8 wq => ∃ (j : Nat) (M : List Int) (c : Int), j + hk = b.length ∧ v7 = .int .i64 c ∧ v8 = .int .i64 (j : Int) ∧ Hid (Inv a b i j M c) ∧ Hid (Kd.R (Kd.int .i64) 3 wq w.heap.size (fun _ => True) (.slice (some ⟨g, 0, none⟩) n cv) M) ∧ Below w.heap.size w wq)
      case atStart => exact ⟨0, L, 0, by omega, rfl, rfl, Lib.hid (inv_zero hOu.out), hO, hb⟩
      case round =>
        obtain ⟨j, M, c, hj, rfl, rfl, hIn, hO3, hb3⟩ := hrel
        have HJ := Lib.hid hj
        clear hO hb hOu
        by_cases jlt : (j : Int) < (b.length : Int)
        · have jdec := decide_eq_true jlt
          have jlt2 : j < b.length := by omega
          have jdec2 : decide (j < b.length) = true := decide_eq_true jlt2
          have HIn2 := Lib.hid (inv_step HA.out HB.out hIn.out HLT.out jlt2)
          have hrg := sum_rg HA.out HB.out hIn.out
          have ej : IntKind.i64.wrap ((j : Int) + 1) = (j : Int) + 1 := IntWalk.i64_in _ (by omega)
          obtain ⟨t, ht⟩ : ∃ t, t = i + j := ⟨_, rfl⟩
          have eij : IntKind.i64.wrap ((i : Int) + (j : Int)) = (t : Int) := by rw [IntWalk.i64_in _ (by have := HLT.out; omega)]; omega
          have hN2 := HN.out
          have hcf := Kd.R_celln (enc := Value.int .i64) (h1 := fun _ => rfl) (0 : Int) hO3.out (t : Int) (by omega) (by have := HLT.out; omega)
          rw [show rdOf (0 : Int) M (t : Int) = M.getD t 0 from by unfold rdOf; rw [Int.toNat_natCast], Int.toNat_natCast] at hcf
          obtain ⟨hcf1, hcf2⟩ := hcf
          obtain ⟨ad0, rfl, hca⟩ := Kd.at_int (Kd.C_below HC0.out hb3) (i : Int) (by omega) (by have := HLT.out; omega)
          obtain ⟨ad1, rfl, hcb⟩ := Kd.at_int (Kd.C_below HC1.out hb3) (j : Int) (by omega) (by omega)
          rw [show rd a (i : Int) = a.getD i 0 from by simp [rd], Int.toNat_natCast] at hca
          rw [show rd b (j : Int) = b.getD j 0 from by simp [rd], Int.toNat_natCast] at hcb
          unfold sumOf at hrg HIn2
          obtain ⟨x, hx⟩ : ∃ x, x = a.getD i 0 := ⟨_, rfl⟩
          obtain ⟨y, hy⟩ : ∃ y, y = b.getD j 0 := ⟨_, rfl⟩
          rw [← ht] at hrg HIn2
          obtain ⟨l, hl⟩ : ∃ y, y = M.getD t 0 := ⟨_, rfl⟩
          rw [← hx, ← hy, ← hl] at hrg HIn2
          rw [← hl] at hcf1
          rw [← hx] at hca
          rw [← hy] at hcb
          have e1 : IntKind.i64.wrap (c + l) = c + l := IntWalk.i64_in _ (by omega)
          have e2 : IntKind.i64.wrap (x * y) = x * y := IntWalk.i64_in _ (by omega)
          obtain ⟨S, hS⟩ : ∃ S, S = c + l + x * y := ⟨_, rfl⟩
          have e3 : IntKind.i64.wrap (c + l + x * y) = S := by rw [IntWalk.i64_in _ (by omega)]; exact hS.symm
          rw [← hS] at hrg HIn2
          have hs0 := hrg.2.2.2.2.1
          have hs1 := hrg.2.2.2.2.2
          have e4 : S.tmod 16777216 = S % 16777216 := Int.tmod_eq_emod_of_nonneg hs0
          have e5 : S.tdiv 16777216 = S / 16777216 := Int.tdiv_eq_ediv_of_nonneg hs0
          have e6 : IntKind.i64.wrap (S / 16777216) = S / 16777216 := IntWalk.i64_in _ (by omega)
          have e7 : IntKind.i64.wrap (S % 16777216) = S % 16777216 := IntWalk.i64_in _ (by omega)
          have hij : t < n := by have := HLT.out; have := HN.out; omega
          have p2 : (t : Int) < (n : Int) := by omega
          have p3 : (i : Int) < (a.length : Int) := by have := HLT.out; omega
          clear hrg hx hy hl hS hj hs0 hs1 jlt2 hij hN2 ht
          go_wp2
          go_quiet (fail)
          go_wp2
          go_roundg (b.length - (j + 1))
          case measure => have := HJ.out; omega
          case rel =>
            refine ⟨j + 1, M.set t (S % 16777216), S / 16777216, by have := HJ.out; omega, by go_num, by go_num, HIn2, ?_, (pw_below_drewN hb3 nq).setCell (p := ⟨g, t, none⟩) hgb _⟩
            have h5 := Kd.R_putn (enc := Value.int .i64) (h1 := fun _ => rfl) (Kd.R_drewN (m := nq) hO3.out) (t : Int) (S % 16777216)
            rw [Int.toNat_natCast] at h5
            exact h5
        · have jdec := decide_eq_false jlt
          obtain rfl : j = b.length := by omega
          have jdec2 : decide (b.length < b.length) = false := decide_eq_false (by omega)
          have HOu2 := Lib.hid (inv_end HA.out hIn.out HLT.out)
          have hrg := hIn.out.top (i + b.length) (Nat.le_refl _)
          have hcb := hIn.out.c0
          have hcb2 := hIn.out.c1
          obtain ⟨t, ht⟩ : ∃ t, t = i + b.length := ⟨_, rfl⟩
          have eij : IntKind.i64.wrap ((i : Int) + (b.length : Int)) = (t : Int) := by rw [IntWalk.i64_in _ (by have := HLT.out; omega)]; omega
          have hN2 := HN.out
          have hcf := Kd.R_celln (enc := Value.int .i64) (h1 := fun _ => rfl) (0 : Int) hO3.out (t : Int) (by omega) (by have := HLT.out; omega)
          rw [show rdOf (0 : Int) M (t : Int) = M.getD t 0 from by unfold rdOf; rw [Int.toNat_natCast], Int.toNat_natCast] at hcf
          obtain ⟨hcf1, hcf2⟩ := hcf
          rw [← ht] at HOu2 hrg
          rw [hrg] at hcf1 HOu2
          rw [Int.zero_add] at HOu2
          have e1 : IntKind.i64.wrap ((0 : Int) + c) = c := by rw [IntWalk.i64_in _ (by omega)]; omega
          have e2 : IntKind.i64.wrap c = c := by rw [IntWalk.i64_in _ (by omega)]
          have hij : t < n := by have := HLT.out; omega
          have p2 : (t : Int) < (n : Int) := by omega
          clear ei2 hN2 ht jlt hrg
          go_wp2
          go_roundg (a.length - (i + 1))
          case measure => have := HI.out; have := HLT.out; omega
          case rel =>
            refine ⟨i + 1, M.set t c, by have := HI.out; have := HLT.out; omega, by go_num, HOu2, ?_, hb3.setCell (p := ⟨g, t, none⟩) hgb _⟩
            have h5 := Kd.R_putn (enc := Value.int .i64) (h1 := fun _ => rfl) hO3.out (t : Int) c
            rw [Int.toNat_natCast] at h5
            exact h5
    · have hdec := decide_eq_false hlt
      obtain rfl : i = a.length := by omega
      have hdec2 : decide (a.length < a.length) = false := decide_eq_false (by omega)
      have hT := trim_mul HA.out HB.out hOu.out (by rw [hOu.out.len]; omega) (a.length + b.length + 2) (by rw [hOu.out.len]; omega)
      have HT := Lib.hid hT
      clear hT hlt hi
      go_wp2_with (go_at_call 128; (with_reducible refine (cleromancyref01_Trim.calls _ (fun _ => True) _ L (mulD a b) w _ hb hO.out HT.out).mono ?_); rintro e w' ⟨v, rfl, hv, hbv, _⟩)
      go_ret
      exact ⟨_, rfl, Kd.R_mono hv (fun _ _ => trivial), hbv⟩
end Go.Proofs.YtpeebjnfmlfocaaDoor.TpR
