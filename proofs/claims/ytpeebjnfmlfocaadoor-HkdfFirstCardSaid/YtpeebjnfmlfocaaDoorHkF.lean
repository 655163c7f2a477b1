/- HkdfFirst: the law's function answers true. Condition: the table of constants stands. -/
import Derived.Test.YtpeebjnfmlfocaaDoorHkAll
namespace Go.Proofs.YtpeebjnfmlfocaaDoor.Dig
open Go.RowKit Go.UW Go.Proofs.YtpeebjnfmlfocaaDoorW.PrintWords Go.Proofs.YtpeebjnfmlfocaaDoorW.PrintLast Go.Proofs.YtpeebjnfmlfocaaDoorW.PrintMore Go.Proofs.YtpeebjnfmlfocaaDoor.Ref05
set_option linter.unusedVariables false

theorem slice_to (A2 : Option Addr) (n2 c2 k : Nat) (h2 : k ≤ c2) (W : World) : (Instr.slice 22 (.slice A2 n2 c2) none (some (.int .i64 (k : Int))) none).run Tryd.prog W = .ok (.slice A2 k c2) W := by
  obtain ⟨i0, hi, hz0, hz1, hz2⟩ := info_parts infoU8
  have hel : Tryd.prog.elem 22 = 5 := by simp [Program.elem, Tryd.underlying22]
  have hu : Tryd.prog.underlying 22 = some (.slice (Tryd.prog.elem 22)) := by rw [hel]; exact Tryd.underlying22
  have ha : (A2.map fun x => x.add 0) = A2 := by cases A2 <;> simp [Addr.add]
  rw [run_slice_h W 22 A2 n2 c2 hu .i64 (k : Int) (by omega) (by omega), hel]
  simp [sizeOf, typeInfo, hi, hz1, sliced, Result.andThen, ha]
theorem C_take {w : World} {A : Option Addr} {n : Nat} {l : List Int} (h : (Kd.int .u8).C w A n l) (k : Nat) (hk : k ≤ n) : (Kd.int .u8).C w A k (l.take k) := by
  obtain ⟨h1, h2, h3⟩ := h
  refine ⟨by rw [List.length_take]; omega, by omega, fun hp => ?_⟩
  obtain ⟨ad, e, hc⟩ := h3 (by omega)
  refine ⟨ad, e, fun j p hj => hc j p ?_⟩
  rw [List.getElem?_take] at hj
  split at hj
  · exact hj
  · cases hj

set_option maxHeartbeats 4000000 in
set_option maxRecDepth 100000 in
theorem first_walk (A : Option Addr) (c : Nat) (ys : List Int) (A2 : Option Addr) (c2 : Nat) (zs : List Int) (n0 n1 : Nat) (w : World) (hG : Glob w)
    (hC : (Kd.int .u8).C w A ys.length ys) (hmc : ys.length ≤ c) (hy : ∀ z ∈ ys, 0 ≤ z ∧ z ≤ 255) (hC2 : (Kd.int .u8).C w A2 zs.length zs) (hmc2 : zs.length ≤ c2) (hy2 : ∀ z ∈ zs, 0 ≤ z ∧ z ≤ 255) (hn0 : n0 ≤ 65535) (hn1 : n1 ≤ 65535) :
    Calls Tryd.prog 4 #[.slice A ys.length c, .slice A2 zs.length c2, .agg #[.int .u16 (n0 : Int), .int .u16 (n1 : Int)]] w fun e w' => e = .returned (.bool true) ∧ Below w.heap.size w w' := by
  have HC := Lib.hid hC
  have HC2 := Lib.hid hC2
  have HY := Lib.hid hy
  have HY2 := Lib.hid hy2
  clear hC hC2 hy hy2
  have hbb : Below w.heap.size w (w.alloc (.cells #[.int .u16 (n0 : Int), .int .u16 (n1 : Int)] 31)) := (Below.refl _ _).alloc (Nat.le_refl _) _
  have x0 : (w.alloc (.cells #[.int .u16 (n0 : Int), .int .u16 (n1 : Int)] 31)).cell? ⟨w.heap.size, 0, none⟩ = some (.int .u16 (n0 : Int)) := by unfold World.cell?; rw [heap_alloc_new]; rfl
  have x1 : (w.alloc (.cells #[.int .u16 (n0 : Int), .int .u16 (n1 : Int)] 31)).cell? ⟨w.heap.size, 1, none⟩ = some (.int .u16 (n1 : Int)) := by unfold World.cell?; rw [heap_alloc_new]; rfl
  obtain ⟨a, ha⟩ : ∃ a, a = n0 % 2000 := ⟨_, rfl⟩
  obtain ⟨b, hb⟩ : ∃ b, b = n1 % 2000 := ⟨_, rfl⟩
  have ea : (n0 : Int) % 2000 = (a : Int) := by omega
  have eb : (n1 : Int) % 2000 = (b : Int) := by omega
  have ta : Int.tmod (n0 : Int) 2000 = (a : Int) := by rw [Int.tmod_eq_emod_of_nonneg (by omega)]; exact ea
  have tb' : Int.tmod (n1 : Int) 2000 = (b : Int) := by rw [Int.tmod_eq_emod_of_nonneg (by omega)]; exact eb
  have wa : IntKind.i64.wrap (n0 : Int) = (n0 : Int) := IntWalk.i64_in _ (by omega)
  have wb : IntKind.i64.wrap (n1 : Int) = (n1 : Int) := IntWalk.i64_in _ (by omega)
  have wa2 : IntKind.i64.wrap (a : Int) = (a : Int) := IntWalk.i64_in _ (by omega)
  have wb2 : IntKind.i64.wrap (b : Int) = (b : Int) := IntWalk.i64_in _ (by omega)
  have ha2 : a ≤ 2000 := by omega
  have hb2 : b ≤ 2000 := by omega
  clear ha hb
  go_enter Tryd.func4, Tryd.ntmps4
  go_wp2_with (go_at_call 19; (with_reducible refine (awake38 _ (hG.below hbb)).mono ?_); rintro e w1 ⟨rfl, hb1⟩
               have y0 := (hb1.cell (World.block_lt_of_cell? _ _ x0)).trans x0
               have y1 := (hb1.cell (World.block_lt_of_cell? _ _ x1)).trans x1)
  go_quiet (fail)
  generalize hW : w1.drewN _ = wA
  have hbA : Below w.heap.size w wA := by
    rw [← hW]
    have h1 := hbb.trans (hb1.mono hbb.size)
    exact h1.trans ((Drawn0.step (Drawn0.refl _) _).below.mono h1.size)
  clear hW y0 y1 x0 x1 hb1 ta tb' wa wb wa2 wb2 ea eb
  by_cases g0 : (ys.length : Int) > 500
  · have d0 := decide_eq_true g0
    go_wp2
    go_ret
    exact ⟨rfl, hbA⟩
  have d0 := decide_eq_false g0
  by_cases g1 : (zs.length : Int) > 500
  · have d1 := decide_eq_true g1
    go_wp2
    go_ret
    exact ⟨rfl, hbA⟩
  have d1 := decide_eq_false g1
  by_cases g2 : (a : Int) > (b : Int)
  · have d2 := decide_eq_true g2
    go_wp2
    go_ret
    exact ⟨rfl, hbA⟩
  have d2 := decide_eq_false g2
  have hl1 : ys.length ≤ 1048576 := by omega
  have hl2 : zs.length ≤ 1048576 := by omega
  have hab : a ≤ b := by omega
  have htk : ((xp ys zs 255).take b).take a = (xp ys zs 255).take a := by rw [List.take_take, Nat.min_eq_left hab]
  have HTK := Lib.hid htk
  have HBA := Lib.hid hbA
  clear htk hbA g0 g1 g2
  go_wp2_with (first
    | (go_at_call 20; (with_reducible refine (expand_ok A ys.length c ys A2 zs.length c2 zs a (by omega) wA (hG.below HBA.out) (Kd.C_below HC.out HBA.out) hmc HY.out hl1 (Kd.C_below HC2.out HBA.out) hmc2 HY2.out hl2).mono ?_); rintro e w2 ⟨A3, rfl, hC3, hb2q⟩; have HC3 := Lib.hid hC3; have HBB := Lib.hid (HBA.out.trans (hb2q.mono HBA.out.size)); clear hC3)
    | (go_at_call 20; (with_reducible refine (expand_ok A ys.length c ys A2 zs.length c2 zs b (by omega) w2 (hG.below HBB.out) (Kd.C_below HC.out HBB.out) hmc HY.out hl1 (Kd.C_below HC2.out HBB.out) hmc2 HY2.out hl2).mono ?_); rintro e w3 ⟨A4, rfl, hC4, hb3q⟩; have HC4 := Lib.hid hC4; have HBC := Lib.hid (HBB.out.trans (hb3q.mono HBB.out.size)); have hsl := slice_to A4 b b a hab; clear hC4)
    | (go_at_call 12; (with_reducible refine (same_true A3 a a A4 a b ((xp ys zs 255).take a) w3 (Kd.C_below HC3.out hb3q) (Nat.le_refl _) (by have := C_take HC4.out a hab; rw [HTK.out] at this; exact this) hab (by omega)).mono ?_); rintro e w4 ⟨rfl, hd4⟩))
  go_ret
  exact ⟨rfl, HBC.out.trans (hd4.below.mono HBC.out.size)⟩
end Go.Proofs.YtpeebjnfmlfocaaDoor.Dig
