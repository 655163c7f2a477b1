/- digest.mix at this program: a block goes into the eight words. Conditions: the block has 64 bytes, the table of constants stands. -/
import Derived.Test.YtpeebjnfmlfocaaDoorSha
import Derived.Test.YtpeebjnfmlfocaaDoorProg
import Derived.Test.YtpeebjnfmlfocaaDoorWWords
import Derived.Test.YtpeebjnfmlfocaaDoorWMore
import Derived.Deep.QuietTactic
import Derived.BigQuiet
import Derived.Deep.RegionHeld3
import Derived.Deep.DeepCutAuto
import Derived.RegionTactic
import Derived.StillTailTactics
import Derived.BigRegion
import Derived.Laws.Rows
import Derived.Handy
import Derived.Lib.Hide
import Derived.IntWalk
namespace Go.Proofs.YtpeebjnfmlfocaaDoor.Dig
open Go.RowKit Go.UW Go.Proofs.YtpeebjnfmlfocaaDoorW.PrintWords Go.Proofs.YtpeebjnfmlfocaaDoorW.PrintLast Go.Proofs.YtpeebjnfmlfocaaDoorW.PrintMore
set_option linter.unusedVariables false

/-- the table of constants stands -/
def Glob (w : World) : Prop := 1 < w.heap.size ∧ ∀ i : Nat, i < 64 → w.cell? ⟨1, i, none⟩ = some (.int .u32 (v32 (K256.getD i 0)))
theorem Glob.grown {w w1 : World} (h : Glob w) {row : Option Nat} (hg : w.grownBy w1 row) (hr : row ≠ some 1) : Glob w1 :=
  ⟨Nat.lt_of_lt_of_le h.1 hg.size, fun i hi => by rw [World.cell?_of_block (hg.block 1 (Nat.lt_of_le_of_lt (by decide) h.1) (Ne.symm hr))]; exact h.2 i hi⟩
theorem Glob.belowN {w w1 : World} (h : Glob w) {n : Nat} (hb : Below n w w1) (hn : 1 < n) : Glob w1 :=
  ⟨Nat.lt_of_lt_of_le h.1 hb.size, fun i hi => by rw [World.cell?_of_block (hb.block 1 hn)]; exact h.2 i hi⟩
theorem Glob.below {w w1 : World} (h : Glob w) (hb : Below w.heap.size w w1) : Glob w1 := h.grown (grown_below (row := none) hb) (by simp)

theorem rot32 (x : UInt32) (n : Nat) (h1 : 1 ≤ n) (h2 : n ≤ 31) (w : World) :
    Calls Tryd.prog 149 #[.int .u32 (v32 x), .int .i64 (-(n : Int))] w fun e w' => e = .returned (.int .u32 (v32 (rotr x n))) ∧ w' = w := by
  obtain ⟨m, hm⟩ : ∃ m : Nat, m + n = 32 := ⟨32 - n, by omega⟩
  have e1 : bits .and .u64 (IntKind.u64.wrap (-(n : Int))) 31 = (m : Int) := by
    have : ∀ a : Fin 31, bits .and .u64 (IntKind.u64.wrap (-((a.1 + 1 : Nat) : Int))) 31 = ((31 - a.1 : Nat) : Int) := by decide +kernel
    have h3 := this ⟨n - 1, by omega⟩
    have h4 : n - 1 + 1 = n := by omega
    have h5 : 31 - (n - 1) = m := by omega
    simp only [h4, h5] at h3
    exact h3
  have e2 : Op.shift .shl .u32 (v32 x) .u64 (m : Int) = pure (.int .u32 (v32 (x <<< UInt32.ofNat m))) := by
    rw [shift_shl _ _ _ _ (by omega) (by simp [IntKind.bits]; omega), Int.toNat_natCast, shl32 x m (by omega)]
  have e3 : IntKind.u64.wrap (32 - (m : Int)) = (n : Int) := by rw [u64_wrap]; omega
  have e4 := shr32 x n (by omega)
  have e5 := bits_or32 (x <<< UInt32.ofNat m) (x >>> UInt32.ofNat n)
  have e6 : rotr x n = (x <<< UInt32.ofNat m) ||| (x >>> UInt32.ofNat n) := by unfold rotr; rw [show 32 - n = m by omega]
  rw [e6]
  have HM := Lib.hid hm
  clear hm e6
  go_enter Tryd.func149, Tryd.ntmps149
  go_wp2
  go_ret
  exact ⟨rfl, rfl⟩

theorem turn32 (x : UInt32) (n : Nat) (h1 : 1 ≤ n) (h2 : n ≤ 31) (w : World) :
    Calls Tryd.prog 123 #[.int .u32 (v32 x), .int .i64 (n : Int)] w fun e w' => e = .returned (.int .u32 (v32 (rotr x n))) ∧ w' = w := by
  go_enter Tryd.func123, Tryd.ntmps123
  go_wp2_with (go_at_call 149; (with_reducible refine (rot32 x n h1 h2 _).mono ?_); rintro e w' ⟨rfl, rfl⟩)
  go_ret
  exact ⟨rfl, rfl⟩

theorem turn_any (x : UInt32) (m : Int) (h1 : 1 ≤ m) (h2 : m ≤ 31) (w : World) :
    Calls Tryd.prog 123 #[.int .u32 (v32 x), .int .i64 m] w fun e w' => e = .returned (.int .u32 (v32 (rotr x m.toNat))) ∧ w' = w := by
  obtain ⟨n, rfl⟩ : ∃ n : Nat, m = n := ⟨m.toNat, by omega⟩
  exact turn32 x n (by omega) (by omega) w

theorem shl8 (a : UInt32) : IntKind.u32.wrap (v32 a * (256 : Int)) = v32 (a <<< 8) := shl32 a 8 (by decide)
theorem shr3 (a : UInt32) : v32 a / (8 : Int) = v32 (a >>> 3) := shr32 a 3 (by decide)
theorem shr10 (a : UInt32) : v32 a / (1024 : Int) = v32 (a >>> 10) := shr32 a 10 (by decide)
theorem sum4 (a b c d : UInt32) : (v32 a + v32 b + v32 c + v32 d) % (4294967296 : Int) = v32 (a + b + c + d) := by
  unfold v32
  simp only [UInt32.toNat_add]
  omega
theorem not32x (a : UInt32) : bits .xor .u32 (if IntKind.u32.signed = true then -1 else IntKind.u32.max) (v32 a) = v32 (~~~ a) := by
  have h1 : (if IntKind.u32.signed = true then (-1 : Int) else IntKind.u32.max) = v32 4294967295 := by decide
  have h2 : (4294967295 : UInt32) ^^^ a = ~~~ a := by
    apply UInt32.toBitVec_inj.1
    simp only [UInt32.toBitVec_xor, UInt32.toBitVec_not]
    exact BitVec.allOnes_xor
  rw [h1, bits_xor32, h2]
theorem sum5 (a b c d e : UInt32) : (v32 a + v32 b + v32 c + v32 d + v32 e) % (4294967296 : Int) = v32 (a + b + c + d + e) := by
  unfold v32
  simp only [UInt32.toNat_add]
  omega
theorem sum4r (d a b c e : UInt32) : (v32 d + (v32 a + v32 b + v32 c + v32 e)) % (4294967296 : Int) = v32 (d + (a + b + c + e)) := by
  unfold v32
  simp only [UInt32.toNat_add]
  omega
theorem byte_v (y : Int) (h0 : 0 ≤ y) (h1 : y ≤ 255) : v32 (byte y) = y := by
  unfold v32 byte
  rw [UInt32.toNat_ofNat_of_lt' (by show _ < 4294967296; omega)]
  omega
theorem C_u8_at {w : World} {A : Option Addr} {n : Nat} {xs : List Int} (h : (Kd.int .u8).C w A n xs) (j : Nat) (hj : j < n) :
    ∃ ad, A = some ad ∧ w.cell? (ad.add j) = some (.int .u8 (xs.getD j 0)) := by
  obtain ⟨ad, c, e, hl, hK, hc⟩ := Kd.C_get h 0 (j : Int) (by omega) (by omega)
  refine ⟨ad, e, ?_⟩
  have hK' : c = [.int .u8 (xs.getD j 0)] := hK
  subst hK'
  have h2 : w.cell? (ad.add (j * 1 + 0)) = some (.int .u8 (xs.getD j 0)) := hc 0 _ rfl
  simpa using h2

attribute [local go_sem] bits_xor32 bits_and32 bits_or32 add32 shl8 shr3 shr10

set_option maxHeartbeats 4000000 in
set_option maxRecDepth 100000 in
theorem mix (g : Nat) (T : TypeId) (st : List UInt32) (rest : List Value) (hst : st.length = 8) (A : Option Addr) (c : Nat) (blk : List Int) (w : World) (hG : Glob w) (hgne : g ≠ 1)
    (hs : Arr w g T st rest) (hC0 : (Kd.int .u8).C w A 64 blk) (hc : 64 ≤ c) (hb0 : ∀ x ∈ blk, 0 ≤ x ∧ x ≤ 255) :
    Calls Tryd.prog 90 #[.pointer (some ⟨g, 0, none⟩), .slice A 64 c] w fun e w' => e = .returned (.tuple #[]) ∧ Arr w' g T (block st blk) rest ∧ w.grownBy w' (some g) := by
  have hC := Lib.hid hC0
  have hb := Lib.hid hb0
  have hl := Lib.hid (Kd.C_len hC0)
  have hS := Lib.hid hs
  have hgl := hs.lt
  have hGl := hG.1
  have hstart : Arr (w.alloc (.cells (List.replicate 64 (Value.int .u32 0)).toArray 176)) w.heap.size 176 (wIn blk 0) [] := by
    unfold Arr
    rw [heap_alloc_new]
    rfl
  clear hC0 hb0 hs
  go_enter Tryd.func90, Tryd.ntmps90
  go_wp2
  have HS := Lib.hid hstart
  clear hstart
  go_loopw [23] (fun i wr => ∃ k : Nat, k ≤ 64 ∧ i = .int .i64 k ∧ Hid (Arr wr w.heap.size 176 (wIn blk k) []) ∧ Below w.heap.size w wr) (fun i _ => 64 - (intOf i).toNat)
  case atStart => exact ⟨0, by omega, rfl, HS.out, (Below.refl _ _).alloc (Nat.le_refl _) _⟩
  case round =>
    obtain ⟨k, hk, rfl, hA, hw⟩ := hrel
    clear HS
    by_cases hlt : k < 64
    · obtain ⟨ad, rfl, hcell⟩ := C_u8_at (Kd.C_below hC.out hw) k hlt
      have hmem : blk.getD k 0 ∈ blk := by rw [List.getD_eq_getElem?_getD, List.getElem?_eq_getElem (by rw [hl.out]; exact hlt)]; exact List.getElem_mem _
      obtain ⟨z, hz⟩ : ∃ z, z = byte (blk.getD k 0) := ⟨_, rfl⟩
      have hrg := hb.out _ hmem
      have hz2 : v32 z = blk.getD k 0 := by rw [hz]; exact byte_v _ hrg.1 hrg.2
      have z1 : 0 ≤ v32 z := v32_nn z
      have z2 : v32 z ≤ 255 := by omega
      rw [← hz2] at hcell
      have HZ := Lib.hid hz
      clear hz hz2 hmem hrg
      obtain ⟨q, hq⟩ : ∃ q, q = k / 4 := ⟨_, rfl⟩
      have hq1 : q < 64 := by omega
      have hq2 : ((k : Int) / 4) = (q : Int) := by omega
      have ha := hA.out.get q (by rw [wIn_len]; exact hq1)
      have hf := hA.out.free q
      have HQ := Lib.hid hq
      clear hq
      go_wp2
      go_roundw
      case rel =>
        refine ⟨k + 1, by omega, by go_num, ?_, hw.setCell (Nat.le_refl _) _⟩
        have := hA.out.set q (by rw [wIn_len]; exact hq1) (((wIn blk k).getD q 0 <<< 8) ||| z)
        rw [HQ.out, HZ.out] at this ⊢
        exact this
      case measure => simp [intOf]; omega
    · obtain ⟨W0, hW0⟩ : ∃ W0, W0 = wIn blk k := ⟨_, rfl⟩
      have hWl : W0.length = 64 := by rw [hW0]; exact wIn_len _ _
      rw [← hW0] at hA
      have hk64 : k = 64 := by omega
      rw [hk64] at hW0
      have HW0 := Lib.hid hW0
      have HWl := Lib.hid hWl
      clear hW0 hWl hk64
      go_wp2
      go_loopw [7] (fun i wq => ∃ t : Nat, t ≤ 48 ∧ i = .int .i64 ((16 + t : Nat) : Int) ∧ Hid (Arr wq w.heap.size 176 (wSch W0 t) []) ∧ Below w.heap.size w wq) (fun i _ => 64 - (intOf i).toNat)
      case atStart => exact ⟨0, by omega, rfl, hA, hw⟩
      case round =>
        clear hA hw
        obtain ⟨t, ht, rfl, hA, hw⟩ := hrel
        obtain ⟨j, hj⟩ : ∃ j, j = 16 + t := ⟨_, rfl⟩
        rw [← hj]
        have HJ := Lib.hid hj
        have hj1 : 16 ≤ j := by omega
        have hj2 : j ≤ 64 := by omega
        have HT : Hid (t + 16 = j) := by show t + 16 = j; omega
        clear hj
        by_cases hlt : j < 64
        · have hWt : (wSch W0 t).length = 64 := wSch_len _ HWl.out _
          obtain ⟨p15, h15⟩ : ∃ p, p + 15 = j := ⟨j - 15, by omega⟩
          obtain ⟨p2, h2⟩ : ∃ p, p + 2 = j := ⟨j - 2, by omega⟩
          obtain ⟨p16, h16⟩ : ∃ p, p + 16 = j := ⟨j - 16, by omega⟩
          obtain ⟨p7, h7⟩ : ∃ p, p + 7 = j := ⟨j - 7, by omega⟩
          have q15 : IntKind.i64.wrap ((j : Int) - 15) = p15 := by rw [IntWalk.i64_in _ (by omega)]; omega
          have q2 : IntKind.i64.wrap ((j : Int) - 2) = p2 := by rw [IntWalk.i64_in _ (by omega)]; omega
          have q16 : IntKind.i64.wrap ((j : Int) - 16) = p16 := by rw [IntWalk.i64_in _ (by omega)]; omega
          have q7 : IntKind.i64.wrap ((j : Int) - 7) = p7 := by rw [IntWalk.i64_in _ (by omega)]; omega
          have b15 : p15 < 64 := by omega
          have b2 : p2 < 64 := by omega
          have b16 : p16 < 64 := by omega
          have b7 : p7 < 64 := by omega
          have c15 := hA.out.get p15 (by omega)
          have c2 := hA.out.get p2 (by omega)
          have c16 := hA.out.get p16 (by omega)
          have c7 := hA.out.get p7 (by omega)
          have f := hA.out.free j
          have cj := hA.out.get j (by omega)
          have H15 := Lib.hid h15; have H2 := Lib.hid h2; have H16 := Lib.hid h16; have H7 := Lib.hid h7
          clear h15 h2 h16 h7 hWt
          have s3 : ∀ a : UInt32, v32 a / (8 : Int) = v32 (a >>> 3) := shr3
          have s10 : ∀ a : UInt32, v32 a / (1024 : Int) = v32 (a >>> 10) := shr10
          go_wp2
          go_quiet (fail)
          clear q15 q2
          go_wp2_with (go_at_call 123; (with_reducible refine (turn_any _ _ (by omega) (by omega) _).mono ?_); rintro e w' ⟨rfl, rfl⟩)
          generalize hW : wr.drewN _ = w5
          have hA5 : Hid (Arr w5 w.heap.size 176 (wSch W0 t) []) := by rw [← hW]; exact hA.out.keep rfl
          have hw5 : Below w.heap.size w w5 := by rw [← hW]; exact hw.trans ((Drawn0.step (Drawn0.refl _) _).below.mono hw.size)
          clear hW c15 c2 c16 c7 f cj hA hw
          have hWt : (wSch W0 t).length = 64 := wSch_len _ HWl.out _
          have c16 := hA5.out.get p16 (by omega)
          have c7 := hA5.out.get p7 (by omega)
          have f := hA5.out.free j
          have cj := hA5.out.get j (by omega)
          clear hWt
          go_region
          clear q16 q7 s3 s10
          go_wp2
          go_roundw
          case rel =>
            refine ⟨t + 1, by have := HT.out; omega, ?_, ?_, by repeat (first | exact hw5 | apply Below.drew | apply pw_below_drewN | exact Below.setCell hw5 (p := ⟨w.heap.size, _, none⟩) (Nat.le_refl _) _)⟩
            · rw [show 16 + (t + 1) = j + 1 by have := HT.out; omega]; go_num
            · have hWt : (wSch W0 t).length = 64 := wSch_len _ HWl.out _
              try simp only [shr3, shr10, bits_xor32, add32, sum4]
              have := hA5.out.set j (by omega) ((wSch W0 t).getD p16 0 + sg0 ((wSch W0 t).getD p15 0) + (wSch W0 t).getD p7 0 + sg1 ((wSch W0 t).getD p2 0))
              have e1 : wSch W0 (t + 1) = (wSch W0 t).set j ((wSch W0 t).getD p16 0 + sg0 ((wSch W0 t).getD p15 0) + (wSch W0 t).getD p7 0 + sg1 ((wSch W0 t).getD p2 0)) := by
                have a1 := HT.out; have a2 := H15.out; have a3 := H2.out; have a4 := H16.out; have a5 := H7.out
                obtain rfl : p16 = t := by omega
                obtain rfl : p15 = p16 + 1 := by omega
                obtain rfl : p7 = p16 + 9 := by omega
                obtain rfl : p2 = p16 + 14 := by omega
                obtain rfl : j = 16 + p16 := by omega
                rfl
              rw [e1]
              simp only [List.getD_eq_getElem?_getD] at this ⊢
              exact Arr.keep this rfl
          case measure => simp [intOf]; omega
        · have hW2 : (wSch W0 t).length = 64 := wSch_len _ HWl.out _
          have ht48 : t = 48 := by have := HT.out; omega
          obtain ⟨W1, hW1⟩ : ∃ W1, W1 = wSch W0 t := ⟨_, rfl⟩
          rw [← hW1] at hA hW2
          rw [ht48] at hW1
          have HW1 := Lib.hid hW1
          have HW2 := Lib.hid hW2
          clear hW1 hW2 ht48
          -- what is known of the state's own words
          have hgs : wr.heap[g]? = w.heap[g]? := hw.block g hgl
          have hS1 := Lib.hid (hS.out.keep hgs)
          clear hgs
          obtain ⟨s0, s1, s2, s3, s4, s5, s6, s7, rfl⟩ : ∃ s0 s1 s2 s3 s4 s5 s6 s7, st = [s0, s1, s2, s3, s4, s5, s6, s7] := by
            match st, hst with
            | [s0, s1, s2, s3, s4, s5, s6, s7], _ => exact ⟨_, _, _, _, _, _, _, _, rfl⟩
          have k0 := hS1.out.get 0 (by simp)
          have k1 := hS1.out.get 1 (by simp)
          have k2 := hS1.out.get 2 (by simp)
          have k3 := hS1.out.get 3 (by simp)
          have k4 := hS1.out.get 4 (by simp)
          have k5 := hS1.out.get 5 (by simp)
          have k6 := hS1.out.get 6 (by simp)
          have k7 := hS1.out.get 7 (by simp)
          simp only [List.getD_cons_zero, List.getD_cons_succ] at k0 k1 k2 k3 k4 k5 k6 k7
          have hstart2 : Arr (wr.alloc (.cells #[.int .u32 (v32 s0), .int .u32 (v32 s1), .int .u32 (v32 s2), .int .u32 (v32 s3), .int .u32 (v32 s4), .int .u32 (v32 s5), .int .u32 (v32 s6), .int .u32 (v32 s7)] 144)) wr.heap.size 144 (vR [s0, s1, s2, s3, s4, s5, s6, s7] W1 0) [] := by
            unfold Arr
            rw [heap_alloc_new]
            rfl
          have hA1 := Lib.hid (hA.out.alloc (.cells #[.int .u32 (v32 s0), .int .u32 (v32 s1), .int .u32 (v32 s2), .int .u32 (v32 s3), .int .u32 (v32 s4), .int .u32 (v32 s5), .int .u32 (v32 s6), .int .u32 (v32 s7)] 144))
          have hS2 := Lib.hid (hS1.out.alloc (.cells #[.int .u32 (v32 s0), .int .u32 (v32 s1), .int .u32 (v32 s2), .int .u32 (v32 s3), .int .u32 (v32 s4), .int .u32 (v32 s5), .int .u32 (v32 s6), .int .u32 (v32 s7)] 144))
          have hw1 := hw.alloc hw.size (.cells #[.int .u32 (v32 s0), .int .u32 (v32 s1), .int .u32 (v32 s2), .int .u32 (v32 s3), .int .u32 (v32 s4), .int .u32 (v32 s5), .int .u32 (v32 s6), .int .u32 (v32 s7)] 144)
          have hVB : w.heap.size < wr.heap.size := hA.out.lt
          go_wp2
          have HS := Lib.hid hstart2
          clear hstart2 k0 k1 k2 k3 k4 k5 k6 k7
          generalize hVe : wr.heap.size = V at *
          generalize hwe : wr.alloc _ = wv at *
          clear hVe hwe hA hS1 hw
          go_loopw [86] (fun i wq => ∃ n : Nat, n ≤ 64 ∧ i = .int .i64 (n : Int) ∧ Hid (Arr wq V 144 (vR [s0, s1, s2, s3, s4, s5, s6, s7] W1 n) []) ∧ Hid (Arr wq w.heap.size 176 W1 []) ∧ Below w.heap.size w wq) (fun i _ => 64 - (intOf i).toNat)
          case atStart => exact ⟨0, by omega, rfl, HS.out, hA1.out, hw1⟩
          case round =>
            clear HS hA1 hw1 hS2
            obtain ⟨n, hn, rfl, hv, hA, hw⟩ := hrel
            obtain ⟨v0, v1, v2, v3, v4, v5, v6, v7, hve⟩ : ∃ v0 v1 v2 v3 v4 v5 v6 v7, vR [s0, s1, s2, s3, s4, s5, s6, s7] W1 n = [v0, v1, v2, v3, v4, v5, v6, v7] := by
              have := vR_len [s0, s1, s2, s3, s4, s5, s6, s7] W1 rfl n
              match vR [s0, s1, s2, s3, s4, s5, s6, s7] W1 n, this with
              | [s0, s1, s2, s3, s4, s5, s6, s7], _ => exact ⟨_, _, _, _, _, _, _, _, rfl⟩
            rw [hve] at hv
            have HVE := Lib.hid hve
            clear hve
            have k0 := hv.out.get 0 (by simp)
            have k1 := hv.out.get 1 (by simp)
            have k2 := hv.out.get 2 (by simp)
            have k3 := hv.out.get 3 (by simp)
            have k4 := hv.out.get 4 (by simp)
            have k5 := hv.out.get 5 (by simp)
            have k6 := hv.out.get 6 (by simp)
            have k7 := hv.out.get 7 (by simp)
            simp only [List.getD_cons_zero, List.getD_cons_succ] at k0 k1 k2 k3 k4 k5 k6 k7
            have fv := fun j => hv.out.free j
            by_cases hlt : n < 64
            · have kK0 := (hG.below hw).2 n hlt
              have kW0 := hA.out.get n (by rw [HW2.out]; exact hlt)
              obtain ⟨kk, hkk⟩ : ∃ kk, kk = K256.getD n 0 := ⟨_, rfl⟩
              obtain ⟨ww, hww⟩ : ∃ ww, ww = W1.getD n 0 := ⟨_, rfl⟩
              rw [← hkk] at kK0
              rw [← hww] at kW0
              have HKK := Lib.hid hkk
              have HWW := Lib.hid hww
              clear hkk hww
              go_wp2
              go_quiet (fail)
              go_wp2_with (go_at_call 123; (with_reducible refine (turn_any _ _ (by omega) (by omega) _).mono ?_); rintro e w' ⟨rfl, rfl⟩)
              go_quiet (fail)
              go_wp2_with (go_at_call 123; (with_reducible refine (turn_any _ _ (by omega) (by omega) _).mono ?_); rintro e w' ⟨rfl, rfl⟩)
              go_roundw
              case rel =>
                refine ⟨n + 1, by omega, by go_num, ?_, ?_, ?_⟩
                · simp only [not32x, bits_and32, bits_xor32, sum5, sum4r]
                  have e1 : vR [s0, s1, s2, s3, s4, s5, s6, s7] W1 (n + 1) = rnd32 [v0, v1, v2, v3, v4, v5, v6, v7] kk ww := by
                    rw [vR, HVE.out, HKK.out, HWW.out]
                  rw [e1]
                  exact ((((((((hv.out.keep rfl).set 0 (by simp) (one [v0, v1, v2, v3, v4, v5, v6, v7] kk ww + two [v0, v1, v2, v3, v4, v5, v6, v7])).set 1 (by simp) v0).set 2 (by simp) v1).set 3 (by simp) v2).set 4 (by simp) (v3 + one [v0, v1, v2, v3, v4, v5, v6, v7] kk ww)).set 5 (by simp) v4).set 6 (by simp) v5).set 7 (by simp) v6
                · exact (((((((((hA.out.keep rfl).far (p := ⟨V, 0, none⟩) (Nat.ne_of_lt hVB) _).far (p := ⟨V, 1, none⟩) (Nat.ne_of_lt hVB) _).far (p := ⟨V, 2, none⟩) (Nat.ne_of_lt hVB) _).far (p := ⟨V, 3, none⟩) (Nat.ne_of_lt hVB) _).far (p := ⟨V, 4, none⟩) (Nat.ne_of_lt hVB) _).far (p := ⟨V, 5, none⟩) (Nat.ne_of_lt hVB) _).far (p := ⟨V, 6, none⟩) (Nat.ne_of_lt hVB) _).far (p := ⟨V, 7, none⟩) (Nat.ne_of_lt hVB) _)
                · have hwd : ∀ q, Below w.heap.size w (wr.drewN q) := fun q => hw.trans ((Drawn0.step (Drawn0.refl wr) q).below.mono hw.size)
                  have hV := Nat.le_of_lt hVB
                  exact ((((((((hwd _).setCell (p := ⟨V, 0, none⟩) hV _).setCell (p := ⟨V, 1, none⟩) hV _).setCell (p := ⟨V, 2, none⟩) hV _).setCell (p := ⟨V, 3, none⟩) hV _).setCell (p := ⟨V, 4, none⟩) hV _).setCell (p := ⟨V, 5, none⟩) hV _).setCell (p := ⟨V, 6, none⟩) hV _).setCell (p := ⟨V, 7, none⟩) hV _
              case measure => simp [intOf]; omega
            · have hn64 : n = 64 := by omega
              have hw2 := Lib.hid hw
              rw [hn64] at HVE
              have hS3 := Lib.hid (hS.out.keep (hw.block g hgl))
              have hgV : g ≠ V := by omega
              obtain ⟨Vf, hVf⟩ : ∃ Vf, Vf = [v0, v1, v2, v3, v4, v5, v6, v7] := ⟨_, rfl⟩
              have hVl : Vf.length = 8 := by rw [hVf]; rfl
              rw [← hVf] at hv HVE
              obtain ⟨S, hSe⟩ : ∃ S, S = [s0, s1, s2, s3, s4, s5, s6, s7] := ⟨_, rfl⟩
              have hSl : S.length = 8 := by rw [hSe]; rfl
              rw [← hSe] at hS3 HVE
              have HSE := Lib.hid hSe
              have HSL := Lib.hid hSl
              have HVL := Lib.hid hVl
              have hgr : w.grownBy wr (some g) := grown_below hw
              clear hSe hSl hVl hVf hn64 hA hw k0 k1 k2 k3 k4 k5 k6 k7 fv
              go_wp2
              go_loopw [170] (fun i wq => ∃ m : Nat, m ≤ 8 ∧ i = .int .i64 (m : Int) ∧ Hid (Arr wq g T (addTo S Vf m) rest) ∧ Hid (Arr wq V 144 Vf []) ∧ Hid (w.grownBy wq (some g))) (fun i _ => 8 - (intOf i).toNat)
              case atStart => exact ⟨0, by omega, rfl, hS3.out, hv.out, hgr⟩
              case round =>
                clear hS3 hv hgr
                obtain ⟨m, hm, rfl, hs4, hv, hgr⟩ := hrel
                by_cases hlm : m < 8
                · have c1 := hs4.out.get m (by rw [addTo_len _ _ HSL.out]; exact hlm)
                  have c2 := hv.out.get m (by rw [HVL.out]; exact hlm)
                  have f1 := hs4.out.free m
                  obtain ⟨x, hx⟩ : ∃ x, x = (addTo S Vf m).getD m 0 := ⟨_, rfl⟩
                  obtain ⟨y, hy⟩ : ∃ y, y = Vf.getD m 0 := ⟨_, rfl⟩
                  rw [← hx] at c1
                  rw [← hy] at c2
                  have HX := Lib.hid hx
                  have HY := Lib.hid hy
                  clear hx hy
                  go_wp2
                  go_region
                  go_wp2
                  go_roundw
                  case rel =>
                    refine ⟨m + 1, by omega, by go_num, ?_, ?_, ?_⟩
                    · have e1 : addTo S Vf (m + 1) = (addTo S Vf m).set m (x + y) := by rw [addTo, HX.out, HY.out]
                      rw [e1]
                      exact (hs4.out.set m (by rw [addTo_len _ _ HSL.out]; exact hlm) (x + y)).keep rfl
                    · exact (hv.out.far (p := ⟨g, m, none⟩) (Ne.symm hgV) _).keep rfl
                    · exact grown_drew (grown_set hgr.out (.inr rfl) _)
                  case measure => simp [intOf]; omega
                · have hm8 : m = 8 := by omega
                  have hfin : addTo S Vf m = UW.block [s0, s1, s2, s3, s4, s5, s6, s7] blk := by
                    rw [hm8, UW.block, ← HW0.out, ← HW1.out, ← HSE.out, ← HVE.out]
                  have HF := Lib.hid hfin
                  clear hfin hm8
                  go_wp2
                  go_end0
                  refine ⟨rfl, ?_, hgr.out⟩
                  rw [← HF.out]
                  exact hs4.out
end Go.Proofs.YtpeebjnfmlfocaaDoor.Dig
