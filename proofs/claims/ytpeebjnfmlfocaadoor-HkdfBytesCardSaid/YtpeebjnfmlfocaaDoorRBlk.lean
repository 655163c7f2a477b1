/- The document's block of SHA-256 at this program. Conditions: 8 words, 64 bytes. -/
import Derived.Test.YtpeebjnfmlfocaaDoorR05
import Derived.Deep.RegionHeld3
import Derived.Deep.RegionWith
namespace Go.Proofs.YtpeebjnfmlfocaaDoor.Dig
open Go.RowKit Go.UW Go.Proofs.YtpeebjnfmlfocaaDoorW.PrintWords Go.Proofs.YtpeebjnfmlfocaaDoorW.PrintLast Go.Proofs.YtpeebjnfmlfocaaDoorW.PrintMore
set_option linter.unusedVariables false
set_option linter.unusedSimpArgs false

theorem add32e (a b : UInt32) : (v32 a + v32 b) % 4294967296 = v32 (a + b) := by rw [← add32, u32_wrap]
theorem mul256 (a : UInt32) : (v32 a * (256 : Int)) % 4294967296 = v32 (a * 256) := by
  unfold v32
  rw [UInt32.toNat_mul]
  show _ = ((a.toNat * 256 % 4294967296 : Nat) : Int)
  omega
theorem K256_list : K256.map v32 = [1116352408, 1899447441, 3049323471, 3921009573, 961987163, 1508970993, 2453635748, 2870763221, 3624381080, 310598401, 607225278, 1426881987, 1925078388, 2162078206, 2614888103, 3248222580, 3835390401, 4022224774, 264347078, 604807628, 770255983, 1249150122, 1555081692, 1996064986, 2554220882, 2821834349, 2952996808, 3210313671, 3336571891, 3584528711, 113926993, 338241895, 666307205, 773529912, 1294757372, 1396182291, 1695183700, 1986661051, 2177026350, 2456956037, 2730485921, 2820302411, 3259730800, 3345764771, 3516065817, 3600352804, 4094571909, 275423344, 430227734, 506948616, 659060556, 883997877, 958139571, 1322822218, 1537002063, 1747873779, 1955562222, 2024104815, 2227730452, 2361852424, 2428436474, 2756734187, 3204031479, 3329325298] := by decide +kernel
theorem consts_f : Print.cleromancyref05_Constants.f = some (K256.map v32) := by rw [K256_list]; rfl

theorem keepD {wr w w' : World} {p : Addr} {x : Option Value} (h : Drawn0 wr w ∧ w.cell? p = x) (hd : Drawn0 w w') : Drawn0 wr w' ∧ w'.cell? p = x := by
  obtain ⟨⟨n, rfl⟩⟩ := hd
  exact ⟨h.1.step n, h.2⟩
theorem drawn_cell {w w' : World} (hd : Drawn0 w w') (p : Addr) : w'.cell? p = w.cell? p := by
  obtain ⟨⟨n, rfl⟩⟩ := hd
  rfl
theorem drawn_trans {a b c : World} (h : Drawn0 a b) (k : Drawn0 b c) : Drawn0 a c := by
  obtain ⟨⟨n, rfl⟩⟩ := k
  exact h.step n

theorem append_wp {P : Program} {o : Oper} {a : Act} {Q : Exit → Act → World → Prop} {Kc : Act → World → Prop} {α : Type} (d : Kd α) {w0 W : World} (base : Nat) (hgd : o.guard = none) (s x : Operand) (t e : TypeId) (z : Value) (bytes : Nat)
    (ho : o.op = .call { callee := .builtin .append, args := #[s, x], argTypes := #[t, t] })
    (ht : P.underlying t = some (.slice e)) (hinfo : (P.info? e).map (fun i => (i.zero, i.size, i.bytes)) = some (some z, d.sz, bytes)) (hz : z.cells.size = d.sz) (hs0 : 0 < d.sz) (hb0 : 0 < bytes)
    (v : Value) (xs : List α) (p : α) (cs : List Value) (ok okp : Nat → Prop) (hs : a.eval s = v) (hx : a.eval x = .slice (some ⟨W.heap.size, 0, none⟩) 1 1) (hp : d.M W base okp p cs) (hokp : ∀ k, okp k → ok k ∧ some k ≠ v.ownBlock) (hfresh : ∀ k, W.heap.size ≤ k → ok k)
    (HO : d.R e W base ok v xs) (HB : Below base w0 W) (hbase : base ≤ W.heap.size) (hl : (xs.length + 1) * bytes ≤ 140737488355328)
    (h : ∀ v1 w1, d.R e w1 base ok v1 (xs ++ [p]) → Below base w0 w1 → W.grownBy w1 v.ownBlock → (v1.ownBlock = v.ownBlock ∨ ∃ b, v1.ownBlock = some b ∧ W.heap.size ≤ b) → Kc (a.put o.dst v1) w1) :
    Oper.wp P o a (W.alloc (.cells cs.toArray e)) Kc Q := by
  have hw : Region.wanted o (yielded #[] a.tmps) = true := by unfold Region.wanted; rw [hgd]
  have := Kd.R_append_step (P := P) (ops := #[]) (Q := Q) (Kc := Kc) d (w0 := w0) base hw s x t e z bytes ho ht hinfo hz hs0 hb0 v xs p cs ok okp hs hx hp hokp hfresh HO HB hbase hl h
  rw [if_pos hw] at this
  exact this

def rblkT17 : Bool × List (List Nat × List Nat) := (true, [([], []), ([], []), ([], []), ([], []), ([3], [3]), ([2, 4], [2, 4]), ([5], [5]), ([1, 6], [1, 6]), ([], []), ([7, 8], [7, 8]), ([], []), ([], []), ([11], [11]), ([10, 12], [10, 12]), ([13], [13]), ([9, 14], [9, 14]), ([15], [15]), ([0, 16], [0, 16]), ([17, 17, 0, 1, 2, 3, 4, 5, 6, 7, 8, 9, 10, 11, 12, 13, 14, 15, 16, 17], [0, 2, 10, 17])])
def rblkB17 : List Nat := [0, 0, 0, 0, 8, 28, 60, 126, 0, 510, 0, 0, 2048, 7168, 15360, 32766, 65534, 131071, 262143]
theorem rblktab17 : rtab .any (opsOf Tryd.f92 17) = rblkT17 := by kernel_rfl
theorem rblkbits17 : waitsOk rblkT17.2 rblkB17 = true := by kernel_rfl

def rblkT29 : Bool × List (List Nat × List Nat) := (true, [([], []), ([], []), ([0, 1], [0, 1]), ([], []), ([3], [3]), ([4], [4]), ([], []), ([6], [6]), ([7], [7]), ([], []), ([9], [9]), ([10], [10]), ([], []), ([12], [12]), ([13], [13]), ([], []), ([14, 15], [14, 15]), ([], []), ([17], [17]), ([18], [18]), ([], []), ([20], [20]), ([21], [21]), ([], []), ([23], [23]), ([24], [24]), ([2, 5, 8, 11, 16, 19, 22, 25], [2, 5, 8, 11, 16, 19, 22, 25]), ([26, 0, 1, 2, 3, 4, 5, 6, 7, 8, 9, 10, 11, 12, 13, 14, 15, 16, 17, 18, 19, 20, 21, 22, 23, 24, 25, 26], [3, 6, 9, 12, 17, 20, 23, 26])])
def rblkB29 : List Nat := [0, 0, 3, 0, 8, 24, 0, 64, 192, 0, 512, 1536, 0, 4096, 12288, 0, 61440, 0, 131072, 393216, 0, 1048576, 3145728, 0, 8388608, 25165824, 67108863, 134217727]
theorem rblktab29 : rtab .any (opsOf Tryd.f92 29) = rblkT29 := by kernel_rfl
theorem rblkbits29 : waitsOk rblkT29.2 rblkB29 = true := by kernel_rfl
def rblkT34 : Bool × List (List Nat × List Nat) := (true, [([], []), ([], []), ([], []), ([1, 2], [1, 2]), ([3], [3]), ([], []), ([], []), ([5, 6], [5, 6]), ([7], [7]), ([4, 8], [4, 8]), ([9], [9]), ([0, 10], [0, 10]), ([11, 11, 0, 1, 2, 3, 4, 5, 6, 7, 8, 9, 10, 11], [0, 11])])
def rblkB34 : List Nat := [0, 0, 0, 6, 14, 0, 0, 96, 224, 510, 1022, 2047, 4095]
theorem rblktab34 : rtab .any (opsOf Tryd.f92 34) = rblkT34 := by kernel_rfl
theorem rblkbits34 : waitsOk rblkT34.2 rblkB34 = true := by kernel_rfl
theorem cell_up {W : World} {p : Addr} {v : Value} (o : Obj) (h : W.cell? p = some v) : (W.alloc o).cell? p = some v := Lib.cell?_alloc_marked o h

attribute [local go_sem] bits_xor32 bits_and32 bits_or32 add32

set_option maxHeartbeats 8000000 in
set_option maxRecDepth 100000 in
theorem rblock_any (A : Option Addr) (c : Nat) (S : List UInt32) (B : Option Addr) (d : Nat) (blk : List Int) (w : World) (hS0 : (Kd.int .u32).C w A 8 (S.map v32)) (hA0 : 8 ≤ c) (hB0 : (Kd.int .u8).C w B 64 blk) (hc0 : 64 ≤ d) (hr0 : ∀ x ∈ blk, 0 ≤ x ∧ x ≤ 255) :
    Calls Tryd.prog 92 #[.slice A 8 c, .slice B 64 d] w fun e w' => ∃ v : Value, e = .returned v ∧ Kd.R (Kd.int .u32) 142 w' w.heap.size (fun _ => True) v ((rblock S blk).map v32) ∧ Below w.heap.size w w' := by
  have HSt := Lib.hid hS0
  have HBl := Lib.hid hB0
  have HR := Lib.hid hr0
  have HLS := Lib.hid (Kd.C_len hS0)
  have HLB := Lib.hid (Kd.C_len hB0)
  clear hS0 hB0 hr0
  go_enter Tryd.func92, Tryd.ntmps92
  go_wp2_with (go_at_call 124; (with_reducible refine (Print.cleromancyref05_Constants.calls (K256.map v32) _ consts_f).mono ?_); rintro e w1 ⟨vk, rfl, hK, hb1⟩; obtain ⟨Ak, ck, rfl⟩ := Kd.R_slice hK; have HK := Lib.hid hK; clear hK)
  go_loopg [6, 7] 16 (fun gk v6 v7 wr => ∃ (i m : Nat) (A6 : Option Addr) (c6 : Nat), i + gk = 16 ∧ v7 = .int .i64 (i : Int) ∧ v6 = .slice A6 m c6 ∧ Hid (Kd.R (Kd.int .u32) 142 wr w1.heap.size (fun _ => True) v6 ((rW blk i).map v32)) ∧ Below w1.heap.size w1 wr)
  case atStart => exact ⟨0, 0, none, 0, by omega, rfl, rfl, Kd.R_nil _ _ _ _ _, Below.refl _ _⟩
  case round =>
    obtain ⟨i, m, A6, c6, hi, rfl, rfl, hO, hb⟩ := hrel
    have HI := Lib.hid hi
    by_cases hlt : i < 16
    · have ei : IntKind.i64.wrap ((i : Int) + 1) = (i : Int) + 1 := IntWalk.i64_in _ (by omega)
      have hdec : decide ((i : Int) < 16) = true := by rw [decide_eq_true_iff]; omega
      have hb2 : Below w.heap.size w wr := hb1.trans (hb.mono hb1.size)
      obtain ⟨w2, hw2⟩ : ∃ w2, w2 = wr := ⟨_, rfl⟩
      rw [← hw2] at hO hb hb2 ⊢
      clear hi hw2 wr
      go_wp2
      go_loopg [8, 9] 4 (fun gk v8 v9 wr => ∃ j : Nat, j + gk = 4 ∧ v9 = .int .i64 (j : Int) ∧ v8 = .int .u32 (v32 (rword blk i j)) ∧ Drawn0 w2 wr)
      case atStart => exact ⟨0, by omega, rfl, rfl, Drawn0.refl _⟩
      case round =>
        obtain ⟨j, hj, rfl, rfl, hd⟩ := hrel
        have HJ := Lib.hid hj
        by_cases hlj : j < 4
        · have hp64 : 4 * i + j < 64 := by omega
          have ep : IntKind.i64.wrap (4 * (i : Int)) = 4 * (i : Int) := IntWalk.i64_in _ (by omega)
          have ep2 : IntKind.i64.wrap (4 * (i : Int) + (j : Int)) = 4 * (i : Int) + (j : Int) := IntWalk.i64_in _ (by omega)
          have ej : IntKind.i64.wrap ((j : Int) + 1) = (j : Int) + 1 := IntWalk.i64_in _ (by omega)
          have hbq : Below w.heap.size w wr := hb2.trans (hd.below.mono hb2.size)
          obtain ⟨ad, hBe, hcell⟩ := C_u8_at (Kd.C_below HBl.out hbq) (4 * i + j) hp64
          subst hBe
          obtain ⟨z, hz⟩ : ∃ z, z = UW.byte (blk.getD (4 * i + j) 0) := ⟨_, rfl⟩
          have hmem : blk.getD (4 * i + j) 0 ∈ blk := by rw [List.getD_eq_getElem?_getD, List.getElem?_eq_getElem (by rw [HLB.out]; exact hp64)]; exact List.getElem_mem _
          have hrg := HR.out _ hmem
          have hz2 : v32 z = blk.getD (4 * i + j) 0 := by rw [hz]; exact byte_v _ hrg.1 hrg.2
          have z2 : v32 z ≤ 255 := by omega
          have z1 : 0 ≤ v32 z := v32_nn z
          rw [← hz2] at hcell
          have HZ := Lib.hid hz
          clear hz hz2 hmem hrg hj hbq
          generalize hX : rword blk i j = X
          have HX := Lib.hid hX
          clear hX
          go_wp2
          go_roundg (4 - (j + 1))
          case measure => have := HJ.out; omega
          case rel =>
            refine ⟨j + 1, by have := HJ.out; omega, by go_num, ?_, hd⟩
            rw [rword, HX.out, ← HZ.out, ← add32e, ← mul256]
            congr 1
            (try rw [u32_wrap])
            omega
        · obtain rfl : j = 4 := by omega
          have hb3 := hb2.trans (hd.below.mono hb2.size)
          have hb4 : Below w1.heap.size w1 wr := hb.trans (hd.below.mono hb.size)
          have hO2 := Kd.R_below hO.out hd.below
          have HO2 := Lib.hid hO2
          have hil : ((rW blk i).map v32).length = i := by rw [List.length_map, rW_len]
          have HIL := Lib.hid hil
          clear hO2 hO hb hd hj hil hb2
          go_wp2_with (
            (at_builtin
             refine Kd.R_append (Kd.int .u32) (w0 := w1) (W := wr) w1.heap.size rfl (.tmp 43) (.tmp 45) 149 142 (.int .u32 0) 4 rfl Tryd.underlying149 infoU32 rfl (by decide) (by omega) _ ((rW blk i).map v32) (v32 (rword blk i 4)) [.int .u32 (v32 (rword blk i 4))] (fun _ => True) (fun _ => False) rfl rfl rfl (fun _ hk => hk.elim) (fun _ _ => trivial) HO2.out hb4 hb4.size (by rw [HIL.out]; omega) ?_
             intro v1 w8 hO3 hb5 _ _
             go_must (
              obtain ⟨A8, m8, c8, hv8⟩ : ∃ A m c, v1 = .slice A m c := by obtain ⟨A1, c1, e⟩ := Kd.R_slice hO3; exact ⟨_, _, _, e⟩
              have HO3 := Lib.hid hO3
              clear hO3)))
          go_roundg (16 - (i + 1))
          case measure => have := HI.out; omega
          case rel =>
            refine ⟨i + 1, _, _, _, by have := HI.out; omega, by go_num, rfl, ?_, hb5⟩
            have e : (rW blk (i + 1)).map v32 = (rW blk i).map v32 ++ [v32 (rword blk i 4)] := by
              rw [rW, rW, List.range_succ, List.map_append, List.map_append]
              rfl
            rw [e, ← hv8]
            exact HO3.out
    · obtain rfl : i = 16 := by omega
      have hb2 : Below w.heap.size w wr := hb1.trans (hb.mono hb1.size)
      obtain ⟨W0, hW0⟩ : ∃ W0, W0 = rW blk 16 := ⟨_, rfl⟩
      have hWl : W0.length = 16 := by rw [hW0, rW_len]
      rw [← hW0] at hO
      have HW0 := Lib.hid hW0
      have HWL := Lib.hid hWl
      clear hi hW0 hWl HI
      go_wp2
      go_loopg [6, 10] 48 (fun gk v6 v10 wr => ∃ (t m : Nat) (A6 : Option Addr) (c6 : Nat), t + gk = 48 ∧ v10 = .int .i64 ((16 + t : Nat) : Int) ∧ v6 = .slice A6 m c6 ∧ Hid (Kd.R (Kd.int .u32) 142 wr w1.heap.size (fun _ => True) v6 ((rSch W0 t).map v32)) ∧ Below w1.heap.size w1 wr)
      case atStart => exact ⟨0, _, _, _, by omega, rfl, rfl, hO, hb⟩
      case round =>
        clear hO hb hb2
        obtain ⟨t, m, A6, c6, ht, rfl, rfl, hO, hb⟩ := hrel
        obtain ⟨j, hj⟩ : ∃ j, j = 16 + t := ⟨_, rfl⟩
        rw [← hj]
        have HJ := Lib.hid hj
        have HT := Lib.hid ht
        have hj1 : 16 ≤ j := by omega
        have hj2 : j ≤ 64 := by omega
        clear hj ht
        by_cases hlt : j < 64
        · obtain ⟨p15, h15⟩ : ∃ p, p + 15 = j := ⟨j - 15, by omega⟩
          obtain ⟨p2, h2⟩ : ∃ p, p + 2 = j := ⟨j - 2, by omega⟩
          obtain ⟨p16, h16⟩ : ∃ p, p + 16 = j := ⟨j - 16, by omega⟩
          obtain ⟨p7, h7⟩ : ∃ p, p + 7 = j := ⟨j - 7, by omega⟩
          have q15 : IntKind.i64.wrap ((j : Int) - 15) = p15 := by rw [IntWalk.i64_in _ (by omega)]; omega
          have q2 : IntKind.i64.wrap ((j : Int) - 2) = p2 := by rw [IntWalk.i64_in _ (by omega)]; omega
          have q16 : IntKind.i64.wrap ((j : Int) - 16) = p16 := by rw [IntWalk.i64_in _ (by omega)]; omega
          have q7 : IntKind.i64.wrap ((j : Int) - 7) = p7 := by rw [IntWalk.i64_in _ (by omega)]; omega
          have hlen : (rSch W0 t).length = j := by rw [rSch_len _ HWL.out]; exact HJ.out.symm
          obtain ⟨hm, hmc, hCw⟩ := Kd.R_reads' hO.out
          rw [List.length_map, hlen] at hm hCw
          subst hm
          obtain ⟨ad, e0, c15⟩ := C_u32_at hCw p15 (by omega)
          subst e0
          obtain ⟨_, e0, c2⟩ := C_u32_at hCw p2 (by omega)
          cases e0
          obtain ⟨_, e0, c16⟩ := C_u32_at hCw p16 (by omega)
          cases e0
          obtain ⟨_, e0, c7⟩ := C_u32_at hCw p7 (by omega)
          cases e0
          generalize hx15 : (rSch W0 t).getD p15 0 = x15 at c15
          generalize hx2 : (rSch W0 t).getD p2 0 = x2 at c2
          generalize hx16 : (rSch W0 t).getD p16 0 = x16 at c16
          generalize hx7 : (rSch W0 t).getD p7 0 = x7 at c7
          have b15 : p15 < m := by omega
          have b2 : p2 < m := by omega
          have b16 : p16 < m := by omega
          have b7 : p7 < m := by omega
          have H15 := Lib.hid h15; have H2 := Lib.hid h2; have H16 := Lib.hid h16; have H7 := Lib.hid h7
          have X15 := Lib.hid hx15; have X2 := Lib.hid hx2; have X16 := Lib.hid hx16; have X7 := Lib.hid hx7
          have HLN := Lib.hid hlen
          have s3 : ∀ a : UInt32, v32 a / (8 : Int) = v32 (a >>> 3) := shr3
          have s10 : ∀ a : UInt32, v32 a / (1024 : Int) = v32 (a >>> 10) := shr10
          clear h15 h2 h16 h7 hx15 hx2 hx16 hx7 hlen hCw
          have hS0 : Drawn0 wr wr ∧ wr.cell? (ad.add p15) = some (.int .u32 (v32 x15)) := ⟨Drawn0.refl _, c15⟩
          have HS0 := Lib.hid hS0
          clear hS0
          go_wp2
          go_region_held3 (fun w' => Drawn0 wr w' ∧ w'.cell? (ad.add p15) = some (.int .u32 (v32 x15)))
            (first | exact HS0.out | assumption | exact keepD (by assumption) hd | exact keepD (by assumption) (Drawn0.step (Drawn0.refl _) 1))
            (first
              | (go_at_call 125; (with_reducible refine (rturn_any _ _ (by omega) (by omega) _).mono ?_); rintro e w' ⟨rfl, hd⟩))
          rename_i hH
          have hdA : Drawn0 wr w' := hH.1
          generalize w' = wA at hdA ⊢
          have hS1 : Drawn0 wA wA ∧ wA.cell? (ad.add p2) = some (.int .u32 (v32 x2)) := ⟨Drawn0.refl _, (drawn_cell hdA _).trans c2⟩
          have HS1 := Lib.hid hS1
          clear hS1 c15 HS0
          have c2a := (drawn_cell hdA _).trans c2
          have HDA := Lib.hid hdA
          clear hdA
          go_wp2
          go_region_held3 (fun w' => Drawn0 wA w' ∧ w'.cell? (ad.add p2) = some (.int .u32 (v32 x2)))
            (first | exact HS1.out | assumption | exact keepD (by assumption) hd | exact keepD (by assumption) (Drawn0.step (Drawn0.refl _) 1))
            (first
              | (go_at_call 125; (with_reducible refine (rturn_any _ _ (by omega) (by omega) _).mono ?_); rintro e w' ⟨rfl, hd⟩))
          rename_i hH
          have hdB : Drawn0 wA w' := hH.1
          generalize w' = wB at hdB ⊢
          have hdC := drawn_trans HDA.out hdB
          have c16b := (drawn_cell hdC _).trans c16
          have c7b := (drawn_cell hdC _).trans c7
          have HDC := Lib.hid hdC
          clear hdB hdC c2 c16 c7 c2a HS1
          go_wp2
          have hdd : Drawn0 wr wB.drew := drawn_trans HDC.out (Drawn0.step (Drawn0.refl _) 1)
          have hO2 : (Kd.int .u32).R 142 wB.drew w1.heap.size (fun _ => True) (.slice (some ad) m c6) ((rSch W0 t).map v32) := Kd.R_below hO.out hdd.below
          have hb4 : Below w1.heap.size w1 wB.drew := hb.trans (hdd.below.mono hb.size)
          have HO2 := Lib.hid hO2
          clear hO2 hO hb hdd
          have s7 := add32e
          have hil : ((rSch W0 t).map v32).length = m := by rw [List.length_map]; exact HLN.out
          have HIL := Lib.hid hil
          clear hil
          refine start_ (n := 19) (S := fun w' => w'.cell? (ad.add p7) = some (.int .u32 (v32 x7)) ∧ w'.cell? (ad.add p16) = some (.int .u32 (v32 x16))) (ds := [16, 17]) #[false, false, false, false, false, false, false, false, false, false, false, false, false, false, false, false, false, false, false] (by kernel_rfl) rfl rfl ⟨c7b, c16b⟩ (fun hHeld => ?_); refine with_tabW rblktab17 rblkbits17 (fun HT_ HW_ => ?_)
          generalize wB.drew = wC at HO2 hb4 hHeld ⊢
          refine pure_ (i := 0) (N := some 91) (v := ?_) (a' := ?_) #[true, false, false, false, false, false, false, false, false, false, false, false, false, false, false, false, false, false, false] rfl rfl (any_of HT_.out (by kernel_rfl)) (fun _ _ _ h => h) (Or.inl ⟨by rfl, ?_⟩) ?_ ?_
          rotate_left
          · intro w'
            go_simp
            with_reducible rfl
          rotate_left
          · simp only [Act.put, List.setIfInBounds_toArray, List.set_cons_zero, List.set_cons_succ, i64_w, i32_w]
            rfl
          refine pure_ (i := 1) (N := some 92) (v := ?_) (a' := ?_) #[true, true, false, false, false, false, false, false, false, false, false, false, false, false, false, false, false, false, false] rfl rfl (any_of HT_.out (by kernel_rfl)) (fun _ _ _ h => h) (Or.inl ⟨by rfl, ?_⟩) ?_ ?_
          rotate_left
          · intro w'
            go_simp
            with_reducible rfl
          rotate_left
          · simp only [Act.put, List.setIfInBounds_toArray, List.set_cons_zero, List.set_cons_succ, i64_w, i32_w]
            rfl
          refine pure_ (i := 2) (N := some 93) (v := ?_) (a' := ?_) #[true, true, true, false, false, false, false, false, false, false, false, false, false, false, false, false, false, false, false] rfl rfl (any_of HT_.out (by kernel_rfl)) (fun _ _ _ h => h) (Or.inl ⟨by rfl, ?_⟩) ?_ ?_
          rotate_left
          · intro w'
            go_simp
            with_reducible rfl
          rotate_left
          · simp only [Act.put, List.setIfInBounds_toArray, List.set_cons_zero, List.set_cons_succ, i64_w, i32_w]
            rfl
          refine pure_ (i := 3) (N := some 94) (v := ?_) (a' := ?_) #[true, true, true, true, false, false, false, false, false, false, false, false, false, false, false, false, false, false, false] rfl rfl (any_of HT_.out (by kernel_rfl)) (fun _ _ _ h => h) (Or.inl ⟨by rfl, ?_⟩) ?_ ?_
          rotate_left
          · intro w'
            go_simp
            with_reducible rfl
          rotate_left
          · simp only [Act.put, List.setIfInBounds_toArray, List.set_cons_zero, List.set_cons_succ, i64_w, i32_w]
            rfl
          refine pure_ (i := 4) (N := some 95) (v := ?_) (a' := ?_) #[true, true, true, true, true, false, false, false, false, false, false, false, false, false, false, false, false, false, false] rfl rfl (any_of HT_.out (by kernel_rfl)) (fun _ _ _ h => h) (Or.inl ⟨by rfl, ?_⟩) ?_ ?_
          rotate_left
          · intro w'
            go_simp
            with_reducible rfl
          rotate_left
          · simp only [Act.put, List.setIfInBounds_toArray, List.set_cons_zero, List.set_cons_succ, i64_w, i32_w]
            rfl
          refine pure_ (i := 5) (N := some 96) (v := ?_) (a' := ?_) #[true, true, true, true, true, true, false, false, false, false, false, false, false, false, false, false, false, false, false] rfl rfl (any_of HT_.out (by kernel_rfl)) (fun _ _ _ h => h) (Or.inl ⟨by rfl, ?_⟩) ?_ ?_
          rotate_left
          · intro w'
            go_simp
            with_reducible rfl
          rotate_left
          · simp only [Act.put, List.setIfInBounds_toArray, List.set_cons_zero, List.set_cons_succ, i64_w, i32_w]
            rfl
          refine pure_ (i := 8) (N := some 99) (v := ?_) (a' := ?_) #[true, true, true, true, true, true, false, false, true, false, false, false, false, false, false, false, false, false, false] rfl rfl (any_of HT_.out (by kernel_rfl)) (fun _ _ _ h => h) (Or.inl ⟨by rfl, ?_⟩) ?_ ?_
          rotate_left
          · intro w'
            go_simp
            with_reducible rfl
          rotate_left
          · simp only [Act.put, List.setIfInBounds_toArray, List.set_cons_zero, List.set_cons_succ, i64_w, i32_w]
            rfl
          refine pure_ (i := 10) (N := some 101) (v := ?_) (a' := ?_) #[true, true, true, true, true, true, false, false, true, false, true, false, false, false, false, false, false, false, false] rfl rfl (any_of HT_.out (by kernel_rfl)) (fun _ _ _ h => h) (Or.inl ⟨by rfl, ?_⟩) ?_ ?_
          rotate_left
          · intro w'
            go_simp
            with_reducible rfl
          rotate_left
          · simp only [Act.put, List.setIfInBounds_toArray, List.set_cons_zero, List.set_cons_succ, i64_w, i32_w]
            rfl
          refine pure_ (i := 11) (N := some 102) (v := ?_) (a' := ?_) #[true, true, true, true, true, true, false, false, true, false, true, true, false, false, false, false, false, false, false] rfl rfl (any_of HT_.out (by kernel_rfl)) (fun _ _ _ h => h) (Or.inl ⟨by rfl, ?_⟩) ?_ ?_
          rotate_left
          · intro w'
            go_simp
            with_reducible rfl
          rotate_left
          · simp only [Act.put, List.setIfInBounds_toArray, List.set_cons_zero, List.set_cons_succ, i64_w, i32_w]
            rfl
          refine pure_ (i := 12) (N := some 103) (v := ?_) (a' := ?_) #[true, true, true, true, true, true, false, false, true, false, true, true, true, false, false, false, false, false, false] rfl rfl (any_of HT_.out (by kernel_rfl)) (fun _ _ _ h => h) (Or.inl ⟨by rfl, ?_⟩) ?_ ?_
          rotate_left
          · intro w'
            go_simp
            with_reducible rfl
          rotate_left
          · simp only [Act.put, List.setIfInBounds_toArray, List.set_cons_zero, List.set_cons_succ, i64_w, i32_w]
            rfl
          refine pure_ (i := 13) (N := some 104) (v := ?_) (a' := ?_) #[true, true, true, true, true, true, false, false, true, false, true, true, true, true, false, false, false, false, false] rfl rfl (any_of HT_.out (by kernel_rfl)) (fun _ _ _ h => h) (Or.inl ⟨by rfl, ?_⟩) ?_ ?_
          rotate_left
          · intro w'
            go_simp
            with_reducible rfl
          rotate_left
          · simp only [Act.put, List.setIfInBounds_toArray, List.set_cons_zero, List.set_cons_succ, i64_w, i32_w]
            rfl
          refine take_ (i := 6) (N := some 97) (v := ?_) (a' := ?_) #[true, true, true, true, true, true, true, false, true, false, true, true, true, true, false, false, false, false, false] rfl rfl (take_ofW HT_.out HW_.out (by kernel_rfl)) (fun _ _ _ h => h) (Or.inl ⟨by rfl, ?_⟩) hHeld ?_ ?_
          rotate_left
          · rintro w' ⟨s0, s1⟩
            go_simp
            with_reducible rfl
          rotate_left
          · simp only [Act.put, List.setIfInBounds_toArray, List.set_cons_zero, List.set_cons_succ, i64_w, i32_w]
            rfl
          refine pure_ (i := 7) (N := some 98) (v := ?_) (a' := ?_) #[true, true, true, true, true, true, true, true, true, false, true, true, true, true, false, false, false, false, false] rfl rfl (any_of HT_.out (by kernel_rfl)) (fun _ _ _ h => h) (Or.inl ⟨by rfl, ?_⟩) ?_ ?_
          rotate_left
          · intro w'
            go_simp
            with_reducible rfl
          rotate_left
          · simp only [Act.put, List.setIfInBounds_toArray, List.set_cons_zero, List.set_cons_succ, i64_w, i32_w]
            rfl
          refine pure_ (i := 9) (N := some 100) (v := ?_) (a' := ?_) #[true, true, true, true, true, true, true, true, true, true, true, true, true, true, false, false, false, false, false] rfl rfl (any_of HT_.out (by kernel_rfl)) (fun _ _ _ h => h) (Or.inl ⟨by rfl, ?_⟩) ?_ ?_
          rotate_left
          · intro w'
            go_simp
            with_reducible rfl
          rotate_left
          · simp only [Act.put, List.setIfInBounds_toArray, List.set_cons_zero, List.set_cons_succ, i64_w, i32_w]
            rfl
          refine take_ (i := 14) (N := some 105) (v := ?_) (a' := ?_) #[true, true, true, true, true, true, true, true, true, true, true, true, true, true, true, false, false, false, false] rfl rfl (take_ofW HT_.out HW_.out (by kernel_rfl)) (fun _ _ _ h => h) (Or.inl ⟨by rfl, ?_⟩) hHeld ?_ ?_
          rotate_left
          · rintro w' ⟨s0, s1⟩
            go_simp
            with_reducible rfl
          rotate_left
          · simp only [Act.put, List.setIfInBounds_toArray, List.set_cons_zero, List.set_cons_succ, i64_w, i32_w]
            rfl
          refine pure_ (i := 15) (N := some 106) (v := ?_) (a' := ?_) #[true, true, true, true, true, true, true, true, true, true, true, true, true, true, true, true, false, false, false] rfl rfl (any_of HT_.out (by kernel_rfl)) (fun _ _ _ h => h) (Or.inl ⟨by rfl, ?_⟩) ?_ ?_
          rotate_left
          · intro w'
            go_simp
            with_reducible rfl
          rotate_left
          · simp only [Act.put, List.setIfInBounds_toArray, List.set_cons_zero, List.set_cons_succ, i64_w, i32_w]
            rfl
          refine last_ (i := 16) (N := some 107) #[true, true, true, true, true, true, true, true, true, true, true, true, true, true, true, true, true, false, false] rfl rfl (one_of HT_.out (by kernel_rfl)) (by decide) (fun K hK => ?_)
          refine value_ (w1 := ?_) (v := ?_) (by rfl) rfl ?_ ?_
          rotate_left 2
          · go_simp
            constructor
            · rfl
            · rfl
          refine hK.out _ _ ?_
          clear hK K
          refine norm_ (a' := ?_) ?_ ?_
          rotate_left
          · show Act.put _ (some 107) _ = _
            simp only [Act.put, List.setIfInBounds_toArray, List.set_cons_zero, List.set_cons_succ, i64_w, i32_w]
            rfl
          refine last_ (i := 17) (N := some 108) #[true, true, true, true, true, true, true, true, true, true, true, true, true, true, true, true, true, true, false] rfl rfl (one_of HT_.out (by kernel_rfl)) (by decide) (fun K hK => ?_)
          refine Kd.R_append_step (Kd.int .u32) (w0 := w1) (W := wC) w1.heap.size (by rfl) (.tmp 91) (.tmp 107) 149 142 (.int .u32 0) 4 rfl Tryd.underlying149 infoU32 rfl (by decide) (by omega) (.slice (some ad) m c6) ((rSch W0 t).map v32) (v32 ((rotr x2 17 ^^^ rotr x2 19 ^^^ x2 >>> 10) + x7 + (rotr x15 7 ^^^ rotr x15 18 ^^^ x15 >>> 3) + x16)) [.int .u32 (v32 ((rotr x2 17 ^^^ rotr x2 19 ^^^ x2 >>> 10) + x7 + (rotr x15 7 ^^^ rotr x15 18 ^^^ x15 >>> 3) + x16))] (fun _ => True) (fun _ => False) rfl rfl rfl (fun _ hk => hk.elim) (fun _ _ => trivial) HO2.out hb4 hb4.size (by rw [HIL.out]; omega) ?_
          intro v1 w8 hO3 hb5 _ _
          obtain ⟨A8, m8, c8, hv8⟩ : ∃ A m c, v1 = .slice A m c := by obtain ⟨A1, c1, e⟩ := Kd.R_slice hO3; exact ⟨_, _, _, e⟩
          have HO3 := Lib.hid hO3
          clear hO3
          refine hK.out _ _ ?_
          clear hK K
          refine norm_ (a' := ?_) ?_ ?_
          rotate_left
          · show Act.put _ (some 108) _ = _
            simp only [Act.put, List.setIfInBounds_toArray, List.set_cons_zero, List.set_cons_succ, i64_w, i32_w]
            rfl
          refine pure_ (i := 18) (N := some 6) (v := ?_) (a' := ?_) #[true, true, true, true, true, true, true, true, true, true, true, true, true, true, true, true, true, true, true] rfl rfl (any_of HT_.out (by kernel_rfl)) (fun _ _ _ h => h) (Or.inl ⟨by rfl, ?_⟩) ?_ ?_
          rotate_left
          · intro w'
            go_simp
            with_reducible rfl
          rotate_left
          · simp only [Act.put, List.setIfInBounds_toArray, List.set_cons_zero, List.set_cons_succ, i64_w, i32_w]
            rfl
          refine done_ (done_of HT_.out (by kernel_rfl)) ?_
          go_wp2
          go_roundg (48 - (t + 1))
          case measure => have := HT.out; have := HJ.out; omega
          case rel =>
            have hj := HJ.out
            refine ⟨t + 1, _, _, _, by have := HT.out; omega, by rw [show ((16 + (t + 1) : Nat) : Int) = (m : Int) + 1 by omega], rfl, ?_, hb5⟩
            have e : (rSch W0 (t + 1)).map v32 = (rSch W0 t).map v32 ++ [v32 ((rotr x2 17 ^^^ rotr x2 19 ^^^ x2 >>> 10) + x7 + (rotr x15 7 ^^^ rotr x15 18 ^^^ x15 >>> 3) + x16)] := by
              have a2 := H15.out; have a3 := H2.out; have a4 := H16.out; have a5 := H7.out
              obtain rfl : p16 = t := by omega
              obtain rfl : p15 = p16 + 1 := by omega
              obtain rfl : p7 = p16 + 9 := by omega
              obtain rfl : p2 = p16 + 14 := by omega
              rw [rSch, ← X15.out, ← X2.out, ← X16.out, ← X7.out, List.map_append]
              rfl
            rw [e, ← hv8]
            exact HO3.out
        · obtain rfl : j = 64 := by omega
          have ht48 : t = 48 := by have := HJ.out; omega
          obtain ⟨W1, hW1⟩ : ∃ W1, W1 = rSch W0 t := ⟨_, rfl⟩
          have hlen : W1.length = 64 := by rw [hW1, rSch_len _ HWL.out, ht48]
          rw [← hW1] at hO
          rw [ht48] at hW1
          obtain ⟨hm, hmc, hCw⟩ := Kd.R_reads' hO.out
          rw [List.length_map, hlen] at hm hCw
          subst hm
          obtain ⟨hk, hkc, hCk⟩ := Kd.R_reads' HK.out
          have hCk2 := Kd.C_below (by exact hCk) hb
          have hb2 : Below w.heap.size w wr := hb1.trans (hb.mono hb1.size)
          have hCs := Kd.C_below HSt.out hb2
          have HCW := Lib.hid hCw
          have HCK := Lib.hid (show (Kd.int .u32).C wr Ak 64 (K256.map v32) from hCk2)
          have HCS := Lib.hid hCs
          have HW1 := Lib.hid hW1
          have HB2 := Lib.hid hb2
          obtain ⟨w2, hw2⟩ : ∃ w2, w2 = wr := ⟨_, rfl⟩
          rw [← hw2] at HCW HCK HCS HB2 ⊢
          have hk64 : K256.length = 64 := rfl
          clear hw2 hO hb hb2 hCs hCk2 hCk hk hkc hCw hlen hW1 ht48 HK HT HJ wr hlt hj1 hj2 hmc
          go_wp2_with (
            (at_builtin
             refine Kd.R_append_row (Value.int .u32) (0 : Int) (w0 := w2) (W := w2) w2.heap.size rfl (.tmp 109) (.tmp 110) 149 142 (.int .u32 0) 4 rfl Tryd.underlying149 infoU32 rfl (by decide) (.slice none 0 0) [] (S.map v32) A 8 c (fun _ => True) rfl rfl (fun _ _ => trivial) (Kd.R_nil _ _ _ _ _) HCS.out (Below.refl _ _) (Nat.le_refl _) (by simp) ?_
             intro v1 w8 hO3 hb5 _ _
             go_must (
              have hl8 : ([] ++ S.map v32).length = 8 := HLS.out
              obtain ⟨g, cv, hv8, _⟩ := Kd.R_form hO3 (by rw [hl8]; decide)
              rw [hl8] at hv8
              subst hv8
              have hcv := (Kd.R_reads' hO3).2.1
              have hC8 := (Kd.R_reads' hO3).2.2
              rw [hl8] at hC8
              have hcells : ∀ j, j < 8 → w8.cell? ⟨g, j, none⟩ = some (.int .u32 (v32 (S.getD j 0))) := fun j hj => by
                obtain ⟨ad, e, h⟩ := C_u32_at (w := w8) (xs := S) hC8 j hj
                cases e
                rw [Addr.add_lit, Nat.zero_add] at h
                exact h
              have HC8 := Lib.hid hcells
              have HB5 := Lib.hid hb5
              clear hO3 hC8 hcells hb5 hl8)))
          have hSl : S.length = 8 := by have := HLS.out; rw [List.length_map] at this; exact this
          have HSL := Lib.hid hSl
          clear hSl
          go_loopg [13, 14] 64 (fun gk v13 v14 wr => ∃ (t g cv : Nat), t + gk = 64 ∧ v14 = .int .i64 (t : Int) ∧ v13 = .slice (some ⟨g, 0, none⟩) 8 cv ∧ Hid (∀ j, j < 8 → wr.cell? ⟨g, j, none⟩ = some (.int .u32 (v32 ((vR S W1 t).getD j 0)))) ∧ Below w2.heap.size w2 wr ∧ 8 ≤ cv)
          case atStart => exact ⟨0, _, _, by omega, rfl, rfl, HC8.out, HB5.out, hcv⟩
          case round =>
            clear HC8 HB5 hcv
            obtain ⟨t, g, cv, ht, rfl, rfl, hv, hb, hcv⟩ := hrel
            have HT := Lib.hid ht
            obtain ⟨v0, v1, v2, v3, v4, v5, v6, v7, hve⟩ : ∃ v0 v1 v2 v3 v4 v5 v6 v7, vR S W1 t = [v0, v1, v2, v3, v4, v5, v6, v7] := by
              have := vR_len S W1 HSL.out t
              match vR S W1 t, this with
              | [s0, s1, s2, s3, s4, s5, s6, s7], _ => exact ⟨_, _, _, _, _, _, _, _, rfl⟩
            rw [hve] at hv
            have HVE := Lib.hid hve
            have HMK : Hid (∀ wX, Drawn0 wr wX → ∀ j, j < 8 → wX.cell? ⟨g, j, none⟩ = some (.int .u32 (v32 ([v0, v1, v2, v3, v4, v5, v6, v7].getD j 0)))) := fun wX hd j hj => (drawn_cell hd _).trans (hv.out j hj)
            clear hve hv
            by_cases hlt : t < 64
            · obtain ⟨adk, e0, ck0⟩ := C_u32_at (Kd.C_below HCK.out hb) t hlt
              subst e0
              obtain ⟨adw, e0, cw0⟩ := C_u32_at (Kd.C_below HCW.out hb) t hlt
              subst e0
              generalize hkk : K256.getD t 0 = kk at ck0
              generalize hww : W1.getD t 0 = ww at cw0
              have HKK := Lib.hid hkk
              have HWW := Lib.hid hww
              have HCK0 := Lib.hid ck0
              have HCW0 := Lib.hid cw0
              have et : IntKind.i64.wrap ((t : Int) + 1) = (t : Int) + 1 := IntWalk.i64_in _ (by omega)
              have n1 := not32x
              clear hkk hww ck0 cw0 ht
              have hS0 : Drawn0 wr wr ∧ wr.cell? ⟨g, 4, none⟩ = some (.int .u32 (v32 v4)) := ⟨Drawn0.refl _, HMK.out wr (Drawn0.refl _) 4 (by omega)⟩
              have k4 := hS0.2
              have HS0 := Lib.hid hS0
              clear hS0
              go_wp2
              go_region_held3 (fun w' => Drawn0 wr w' ∧ w'.cell? ⟨g, 4, none⟩ = some (.int .u32 (v32 v4)))
                (first | exact HS0.out | assumption | exact keepD (by assumption) hd | exact keepD (by assumption) (Drawn0.step (Drawn0.refl _) 1))
                (first
                  | (go_at_call 125; (with_reducible refine (rturn_any _ _ (by omega) (by omega) _).mono ?_); rintro e w' ⟨rfl, hd⟩))
              rename_i hH
              have hdA : Drawn0 wr w' := hH.1
              generalize w' = wA at hdA ⊢
              clear k4 HS0
              have k4 : wA.cell? ⟨g, 4, none⟩ = some (.int .u32 (v32 v4)) := HMK.out wA hdA 4 (by omega)
              have k5 : wA.cell? ⟨g, 5, none⟩ = some (.int .u32 (v32 v5)) := HMK.out wA hdA 5 (by omega)
              have k6 : wA.cell? ⟨g, 6, none⟩ = some (.int .u32 (v32 v6)) := HMK.out wA hdA 6 (by omega)
              have HDA := Lib.hid hdA
              clear hdA
              go_wp2
              go_quiet (fail)
              generalize hW : wA.drewN _ = wB
              have hdB : Drawn0 wr wB := by rw [← hW]; exact HDA.out.step _
              clear hW k4 k5 k6 HDA
              have k7 : wB.cell? ⟨g, 7, none⟩ = some (.int .u32 (v32 v7)) := HMK.out wB hdB 7 (by omega)
              have kK := (drawn_cell hdB _).trans HCK0.out
              have kW := (drawn_cell hdB _).trans HCW0.out
              have HDB := Lib.hid hdB
              clear hdB
              go_wp2
              go_quiet (fail)
              generalize hW : wB.drewN _ = wC
              have hdC : Drawn0 wr wC := by rw [← hW]; exact HDB.out.step _
              clear hW k7 kK kW HDB
              have hS0 : Drawn0 wC wC ∧ wC.cell? ⟨g, 0, none⟩ = some (.int .u32 (v32 v0)) := ⟨Drawn0.refl _, HMK.out wC hdC 0 (by omega)⟩
              have k0 := hS0.2
              have HS0 := Lib.hid hS0
              have HDC := Lib.hid hdC
              clear hS0 hdC
              go_wp2
              go_region_held3 (fun w' => Drawn0 wC w' ∧ w'.cell? ⟨g, 0, none⟩ = some (.int .u32 (v32 v0)))
                (first | exact HS0.out | assumption | exact keepD (by assumption) hd | exact keepD (by assumption) (Drawn0.step (Drawn0.refl _) 1))
                (first
                  | (go_at_call 125; (with_reducible refine (rturn_any _ _ (by omega) (by omega) _).mono ?_); rintro e w' ⟨rfl, hd⟩))
              rename_i hH2
              have hdD : Drawn0 wr w' := drawn_trans HDC.out hH2.1
              generalize w' = wD at hdD ⊢
              clear k0 HS0 HDC
              have k0 : wD.cell? ⟨g, 0, none⟩ = some (.int .u32 (v32 v0)) := HMK.out wD hdD 0 (by omega)
              have k1 : wD.cell? ⟨g, 1, none⟩ = some (.int .u32 (v32 v1)) := HMK.out wD hdD 1 (by omega)
              have k2 : wD.cell? ⟨g, 2, none⟩ = some (.int .u32 (v32 v2)) := HMK.out wD hdD 2 (by omega)
              have HDD := Lib.hid hdD
              clear hdD
              go_wp2
              go_quiet (fail)
              generalize hW : wD.drewN _ = wE
              have hdE : Drawn0 wr wE := by rw [← hW]; exact HDD.out.step _
              clear hW k0 k1 k2 HDD
              have k0 : wE.cell? ⟨g, 0, none⟩ = some (.int .u32 (v32 v0)) := HMK.out wE hdE 0 (by omega)
              have k1 : wE.cell? ⟨g, 1, none⟩ = some (.int .u32 (v32 v1)) := HMK.out wE hdE 1 (by omega)
              have k2 : wE.cell? ⟨g, 2, none⟩ = some (.int .u32 (v32 v2)) := HMK.out wE hdE 2 (by omega)
              have k3 : wE.cell? ⟨g, 3, none⟩ = some (.int .u32 (v32 v3)) := HMK.out wE hdE 3 (by omega)
              have k4 : wE.cell? ⟨g, 4, none⟩ = some (.int .u32 (v32 v4)) := HMK.out wE hdE 4 (by omega)
              have k5 : wE.cell? ⟨g, 5, none⟩ = some (.int .u32 (v32 v5)) := HMK.out wE hdE 5 (by omega)
              have k6 : wE.cell? ⟨g, 6, none⟩ = some (.int .u32 (v32 v6)) := HMK.out wE hdE 6 (by omega)
              have HDE := Lib.hid hdE
              clear hdE
              go_wp2
              have hdF : Drawn0 wr wE.drew := drawn_trans HDE.out (Drawn0.step (Drawn0.refl _) 1)
              refine start_ (n := 28) (S := fun w' => w'.cell? ⟨g, 0, none⟩ = some (.int .u32 (v32 v0)) ∧ w'.cell? ⟨g, 1, none⟩ = some (.int .u32 (v32 v1)) ∧ w'.cell? ⟨g, 2, none⟩ = some (.int .u32 (v32 v2)) ∧ w'.cell? ⟨g, 3, none⟩ = some (.int .u32 (v32 v3)) ∧ w'.cell? ⟨g, 4, none⟩ = some (.int .u32 (v32 v4)) ∧ w'.cell? ⟨g, 5, none⟩ = some (.int .u32 (v32 v5)) ∧ w'.cell? ⟨g, 6, none⟩ = some (.int .u32 (v32 v6))) (ds := []) #[false, false, false, false, false, false, false, false, false, false, false, false, false, false, false, false, false, false, false, false, false, false, false, false, false, false, false, false] (by kernel_rfl) rfl rfl ⟨k0, k1, k2, k3, k4, k5, k6⟩ (fun hHeld => ?_); refine with_tabW rblktab29 rblkbits29 (fun HT_ HW_ => ?_)
              generalize wE.drew = wF at hdF hHeld ⊢
              refine pure_ (i := 0) (N := some 203) (v := ?_) (a' := ?_) #[true, false, false, false, false, false, false, false, false, false, false, false, false, false, false, false, false, false, false, false, false, false, false, false, false, false, false, false] rfl rfl (any_of HT_.out (by kernel_rfl)) (fun _ _ _ h => h) (Or.inl ⟨by rfl, ?_⟩) ?_ ?_
              rotate_left
              · intro w'
                go_simp
                with_reducible rfl
              rotate_left
              · simp only [Act.put, List.setIfInBounds_toArray, List.set_cons_zero, List.set_cons_succ, i64_w, i32_w]
                rfl
              refine pure_ (i := 1) (N := some 204) (v := ?_) (a' := ?_) #[true, true, false, false, false, false, false, false, false, false, false, false, false, false, false, false, false, false, false, false, false, false, false, false, false, false, false, false] rfl rfl (any_of HT_.out (by kernel_rfl)) (fun _ _ _ h => h) (Or.inl ⟨by rfl, ?_⟩) ?_ ?_
              rotate_left
              · intro w'
                go_simp
                with_reducible rfl
              rotate_left
              · simp only [Act.put, List.setIfInBounds_toArray, List.set_cons_zero, List.set_cons_succ, i64_w, i32_w]
                rfl
              refine pure_ (i := 2) (N := some 205) (v := ?_) (a' := ?_) #[true, true, true, false, false, false, false, false, false, false, false, false, false, false, false, false, false, false, false, false, false, false, false, false, false, false, false, false] rfl rfl (any_of HT_.out (by kernel_rfl)) (fun _ _ _ h => h) (Or.inl ⟨by rfl, ?_⟩) ?_ ?_
              rotate_left
              · intro w'
                go_simp
                with_reducible rfl
              rotate_left
              · simp only [Act.put, List.setIfInBounds_toArray, List.set_cons_zero, List.set_cons_succ, i64_w, i32_w]
                rfl
              refine pure_ (i := 3) (N := some 206) (v := ?_) (a' := ?_) #[true, true, true, true, false, false, false, false, false, false, false, false, false, false, false, false, false, false, false, false, false, false, false, false, false, false, false, false] rfl rfl (any_of HT_.out (by kernel_rfl)) (fun _ _ _ h => h) (Or.inl ⟨by rfl, ?_⟩) ?_ ?_
              rotate_left
              · intro w'
                go_simp
                with_reducible rfl
              rotate_left
              · simp only [Act.put, List.setIfInBounds_toArray, List.set_cons_zero, List.set_cons_succ, i64_w, i32_w]
                rfl
              refine pure_ (i := 4) (N := some 207) (v := ?_) (a' := ?_) #[true, true, true, true, true, false, false, false, false, false, false, false, false, false, false, false, false, false, false, false, false, false, false, false, false, false, false, false] rfl rfl (any_of HT_.out (by kernel_rfl)) (fun _ _ _ h => h) (Or.inl ⟨by rfl, ?_⟩) ?_ ?_
              rotate_left
              · intro w'
                go_simp
                with_reducible rfl
              rotate_left
              · simp only [Act.put, List.setIfInBounds_toArray, List.set_cons_zero, List.set_cons_succ, i64_w, i32_w]
                rfl
              refine pure_ (i := 6) (N := some 209) (v := ?_) (a' := ?_) #[true, true, true, true, true, false, true, false, false, false, false, false, false, false, false, false, false, false, false, false, false, false, false, false, false, false, false, false] rfl rfl (any_of HT_.out (by kernel_rfl)) (fun _ _ _ h => h) (Or.inl ⟨by rfl, ?_⟩) ?_ ?_
              rotate_left
              · intro w'
                go_simp
                with_reducible rfl
              rotate_left
              · simp only [Act.put, List.setIfInBounds_toArray, List.set_cons_zero, List.set_cons_succ, i64_w, i32_w]
                rfl
              refine pure_ (i := 7) (N := some 210) (v := ?_) (a' := ?_) #[true, true, true, true, true, false, true, true, false, false, false, false, false, false, false, false, false, false, false, false, false, false, false, false, false, false, false, false] rfl rfl (any_of HT_.out (by kernel_rfl)) (fun _ _ _ h => h) (Or.inl ⟨by rfl, ?_⟩) ?_ ?_
              rotate_left
              · intro w'
                go_simp
                with_reducible rfl
              rotate_left
              · simp only [Act.put, List.setIfInBounds_toArray, List.set_cons_zero, List.set_cons_succ, i64_w, i32_w]
                rfl
              refine pure_ (i := 9) (N := some 212) (v := ?_) (a' := ?_) #[true, true, true, true, true, false, true, true, false, true, false, false, false, false, false, false, false, false, false, false, false, false, false, false, false, false, false, false] rfl rfl (any_of HT_.out (by kernel_rfl)) (fun _ _ _ h => h) (Or.inl ⟨by rfl, ?_⟩) ?_ ?_
              rotate_left
              · intro w'
                go_simp
                with_reducible rfl
              rotate_left
              · simp only [Act.put, List.setIfInBounds_toArray, List.set_cons_zero, List.set_cons_succ, i64_w, i32_w]
                rfl
              refine pure_ (i := 10) (N := some 213) (v := ?_) (a' := ?_) #[true, true, true, true, true, false, true, true, false, true, true, false, false, false, false, false, false, false, false, false, false, false, false, false, false, false, false, false] rfl rfl (any_of HT_.out (by kernel_rfl)) (fun _ _ _ h => h) (Or.inl ⟨by rfl, ?_⟩) ?_ ?_
              rotate_left
              · intro w'
                go_simp
                with_reducible rfl
              rotate_left
              · simp only [Act.put, List.setIfInBounds_toArray, List.set_cons_zero, List.set_cons_succ, i64_w, i32_w]
                rfl
              refine pure_ (i := 12) (N := some 215) (v := ?_) (a' := ?_) #[true, true, true, true, true, false, true, true, false, true, true, false, true, false, false, false, false, false, false, false, false, false, false, false, false, false, false, false] rfl rfl (any_of HT_.out (by kernel_rfl)) (fun _ _ _ h => h) (Or.inl ⟨by rfl, ?_⟩) ?_ ?_
              rotate_left
              · intro w'
                go_simp
                with_reducible rfl
              rotate_left
              · simp only [Act.put, List.setIfInBounds_toArray, List.set_cons_zero, List.set_cons_succ, i64_w, i32_w]
                rfl
              refine pure_ (i := 13) (N := some 216) (v := ?_) (a' := ?_) #[true, true, true, true, true, false, true, true, false, true, true, false, true, true, false, false, false, false, false, false, false, false, false, false, false, false, false, false] rfl rfl (any_of HT_.out (by kernel_rfl)) (fun _ _ _ h => h) (Or.inl ⟨by rfl, ?_⟩) ?_ ?_
              rotate_left
              · intro w'
                go_simp
                with_reducible rfl
              rotate_left
              · simp only [Act.put, List.setIfInBounds_toArray, List.set_cons_zero, List.set_cons_succ, i64_w, i32_w]
                rfl
              refine pure_ (i := 15) (N := some 218) (v := ?_) (a' := ?_) #[true, true, true, true, true, false, true, true, false, true, true, false, true, true, false, true, false, false, false, false, false, false, false, false, false, false, false, false] rfl rfl (any_of HT_.out (by kernel_rfl)) (fun _ _ _ h => h) (Or.inl ⟨by rfl, ?_⟩) ?_ ?_
              rotate_left
              · intro w'
                go_simp
                with_reducible rfl
              rotate_left
              · simp only [Act.put, List.setIfInBounds_toArray, List.set_cons_zero, List.set_cons_succ, i64_w, i32_w]
                rfl
              refine pure_ (i := 17) (N := some 220) (v := ?_) (a' := ?_) #[true, true, true, true, true, false, true, true, false, true, true, false, true, true, false, true, false, true, false, false, false, false, false, false, false, false, false, false] rfl rfl (any_of HT_.out (by kernel_rfl)) (fun _ _ _ h => h) (Or.inl ⟨by rfl, ?_⟩) ?_ ?_
              rotate_left
              · intro w'
                go_simp
                with_reducible rfl
              rotate_left
              · simp only [Act.put, List.setIfInBounds_toArray, List.set_cons_zero, List.set_cons_succ, i64_w, i32_w]
                rfl
              refine pure_ (i := 18) (N := some 221) (v := ?_) (a' := ?_) #[true, true, true, true, true, false, true, true, false, true, true, false, true, true, false, true, false, true, true, false, false, false, false, false, false, false, false, false] rfl rfl (any_of HT_.out (by kernel_rfl)) (fun _ _ _ h => h) (Or.inl ⟨by rfl, ?_⟩) ?_ ?_
              rotate_left
              · intro w'
                go_simp
                with_reducible rfl
              rotate_left
              · simp only [Act.put, List.setIfInBounds_toArray, List.set_cons_zero, List.set_cons_succ, i64_w, i32_w]
                rfl
              refine pure_ (i := 20) (N := some 223) (v := ?_) (a' := ?_) #[true, true, true, true, true, false, true, true, false, true, true, false, true, true, false, true, false, true, true, false, true, false, false, false, false, false, false, false] rfl rfl (any_of HT_.out (by kernel_rfl)) (fun _ _ _ h => h) (Or.inl ⟨by rfl, ?_⟩) ?_ ?_
              rotate_left
              · intro w'
                go_simp
                with_reducible rfl
              rotate_left
              · simp only [Act.put, List.setIfInBounds_toArray, List.set_cons_zero, List.set_cons_succ, i64_w, i32_w]
                rfl
              refine pure_ (i := 21) (N := some 224) (v := ?_) (a' := ?_) #[true, true, true, true, true, false, true, true, false, true, true, false, true, true, false, true, false, true, true, false, true, true, false, false, false, false, false, false] rfl rfl (any_of HT_.out (by kernel_rfl)) (fun _ _ _ h => h) (Or.inl ⟨by rfl, ?_⟩) ?_ ?_
              rotate_left
              · intro w'
                go_simp
                with_reducible rfl
              rotate_left
              · simp only [Act.put, List.setIfInBounds_toArray, List.set_cons_zero, List.set_cons_succ, i64_w, i32_w]
                rfl
              refine pure_ (i := 23) (N := some 226) (v := ?_) (a' := ?_) #[true, true, true, true, true, false, true, true, false, true, true, false, true, true, false, true, false, true, true, false, true, true, false, true, false, false, false, false] rfl rfl (any_of HT_.out (by kernel_rfl)) (fun _ _ _ h => h) (Or.inl ⟨by rfl, ?_⟩) ?_ ?_
              rotate_left
              · intro w'
                go_simp
                with_reducible rfl
              rotate_left
              · simp only [Act.put, List.setIfInBounds_toArray, List.set_cons_zero, List.set_cons_succ, i64_w, i32_w]
                rfl
              refine pure_ (i := 24) (N := some 227) (v := ?_) (a' := ?_) #[true, true, true, true, true, false, true, true, false, true, true, false, true, true, false, true, false, true, true, false, true, true, false, true, true, false, false, false] rfl rfl (any_of HT_.out (by kernel_rfl)) (fun _ _ _ h => h) (Or.inl ⟨by rfl, ?_⟩) ?_ ?_
              rotate_left
              · intro w'
                go_simp
                with_reducible rfl
              rotate_left
              · simp only [Act.put, List.setIfInBounds_toArray, List.set_cons_zero, List.set_cons_succ, i64_w, i32_w]
                rfl
              refine take_ (i := 5) (N := some 208) (v := ?_) (a' := ?_) #[true, true, true, true, true, true, true, true, false, true, true, false, true, true, false, true, false, true, true, false, true, true, false, true, true, false, false, false] rfl rfl (take_ofW HT_.out HW_.out (by kernel_rfl)) (fun _ _ _ h => h) (Or.inl ⟨by rfl, ?_⟩) hHeld ?_ ?_
              rotate_left
              · rintro w' ⟨s0, s1, s2, s3, s4, s5, s6⟩
                go_simp
                with_reducible rfl
              rotate_left
              · simp only [Act.put, List.setIfInBounds_toArray, List.set_cons_zero, List.set_cons_succ, i64_w, i32_w]
                rfl
              refine take_ (i := 8) (N := some 211) (v := ?_) (a' := ?_) #[true, true, true, true, true, true, true, true, true, true, true, false, true, true, false, true, false, true, true, false, true, true, false, true, true, false, false, false] rfl rfl (take_ofW HT_.out HW_.out (by kernel_rfl)) (fun _ _ _ h => h) (Or.inl ⟨by rfl, ?_⟩) hHeld ?_ ?_
              rotate_left
              · rintro w' ⟨s0, s1, s2, s3, s4, s5, s6⟩
                go_simp
                with_reducible rfl
              rotate_left
              · simp only [Act.put, List.setIfInBounds_toArray, List.set_cons_zero, List.set_cons_succ, i64_w, i32_w]
                rfl
              refine take_ (i := 11) (N := some 214) (v := ?_) (a' := ?_) #[true, true, true, true, true, true, true, true, true, true, true, true, true, true, false, true, false, true, true, false, true, true, false, true, true, false, false, false] rfl rfl (take_ofW HT_.out HW_.out (by kernel_rfl)) (fun _ _ _ h => h) (Or.inl ⟨by rfl, ?_⟩) hHeld ?_ ?_
              rotate_left
              · rintro w' ⟨s0, s1, s2, s3, s4, s5, s6⟩
                go_simp
                with_reducible rfl
              rotate_left
              · simp only [Act.put, List.setIfInBounds_toArray, List.set_cons_zero, List.set_cons_succ, i64_w, i32_w]
                rfl
              refine take_ (i := 14) (N := some 217) (v := ?_) (a' := ?_) #[true, true, true, true, true, true, true, true, true, true, true, true, true, true, true, true, false, true, true, false, true, true, false, true, true, false, false, false] rfl rfl (take_ofW HT_.out HW_.out (by kernel_rfl)) (fun _ _ _ h => h) (Or.inl ⟨by rfl, ?_⟩) hHeld ?_ ?_
              rotate_left
              · rintro w' ⟨s0, s1, s2, s3, s4, s5, s6⟩
                go_simp
                with_reducible rfl
              rotate_left
              · simp only [Act.put, List.setIfInBounds_toArray, List.set_cons_zero, List.set_cons_succ, i64_w, i32_w]
                rfl
              refine pure_ (i := 16) (N := some 219) (v := ?_) (a' := ?_) #[true, true, true, true, true, true, true, true, true, true, true, true, true, true, true, true, true, true, true, false, true, true, false, true, true, false, false, false] rfl rfl (any_of HT_.out (by kernel_rfl)) (fun _ _ _ h => h) (Or.inl ⟨by rfl, ?_⟩) ?_ ?_
              rotate_left
              · intro w'
                go_simp
                with_reducible rfl
              rotate_left
              · simp only [Act.put, List.setIfInBounds_toArray, List.set_cons_zero, List.set_cons_succ, i64_w, i32_w]
                rfl
              refine take_ (i := 19) (N := some 222) (v := ?_) (a' := ?_) #[true, true, true, true, true, true, true, true, true, true, true, true, true, true, true, true, true, true, true, true, true, true, false, true, true, false, false, false] rfl rfl (take_ofW HT_.out HW_.out (by kernel_rfl)) (fun _ _ _ h => h) (Or.inl ⟨by rfl, ?_⟩) hHeld ?_ ?_
              rotate_left
              · rintro w' ⟨s0, s1, s2, s3, s4, s5, s6⟩
                go_simp
                with_reducible rfl
              rotate_left
              · simp only [Act.put, List.setIfInBounds_toArray, List.set_cons_zero, List.set_cons_succ, i64_w, i32_w]
                rfl
              refine take_ (i := 22) (N := some 225) (v := ?_) (a' := ?_) #[true, true, true, true, true, true, true, true, true, true, true, true, true, true, true, true, true, true, true, true, true, true, true, true, true, false, false, false] rfl rfl (take_ofW HT_.out HW_.out (by kernel_rfl)) (fun _ _ _ h => h) (Or.inl ⟨by rfl, ?_⟩) hHeld ?_ ?_
              rotate_left
              · rintro w' ⟨s0, s1, s2, s3, s4, s5, s6⟩
                go_simp
                with_reducible rfl
              rotate_left
              · simp only [Act.put, List.setIfInBounds_toArray, List.set_cons_zero, List.set_cons_succ, i64_w, i32_w]
                rfl
              refine take_ (i := 25) (N := some 228) (v := ?_) (a' := ?_) #[true, true, true, true, true, true, true, true, true, true, true, true, true, true, true, true, true, true, true, true, true, true, true, true, true, true, false, false] rfl rfl (take_ofW HT_.out HW_.out (by kernel_rfl)) (fun _ _ _ h => h) (Or.inl ⟨by rfl, ?_⟩) hHeld ?_ ?_
              rotate_left
              · rintro w' ⟨s0, s1, s2, s3, s4, s5, s6⟩
                go_simp
                with_reducible rfl
              rotate_left
              · simp only [Act.put, List.setIfInBounds_toArray, List.set_cons_zero, List.set_cons_succ, i64_w, i32_w]
                rfl
              refine one_ (i := 26) (N := some 229) #[true, true, true, true, true, true, true, true, true, true, true, true, true, true, true, true, true, true, true, true, true, true, true, true, true, true, true, false] rfl rfl (one_of HT_.out (by kernel_rfl)) (by decide) (fun K hK => ?_)
              refine value_ (w1 := ?_) (v := ?_) (by rfl) rfl ?_ ?_
              rotate_left 2
              · go_simp
                constructor
                · rfl
                · rfl
              refine hK.out _ _ ⟨(cell_up _ hHeld.1), (cell_up _ hHeld.2.1), (cell_up _ hHeld.2.2.1), (cell_up _ hHeld.2.2.2.1), (cell_up _ hHeld.2.2.2.2.1), (cell_up _ hHeld.2.2.2.2.2.1), (cell_up _ hHeld.2.2.2.2.2.2)⟩ (fun hHeld => ?_)
              clear hK K
              refine norm_ (a' := ?_) ?_ ?_
              rotate_left
              · show Act.put _ (some 229) _ = _
                simp only [Act.put, List.setIfInBounds_toArray, List.set_cons_zero, List.set_cons_succ, i64_w, i32_w]
                rfl
              refine pure_ (i := 27) (N := some 13) (v := ?_) (a' := ?_) #[true, true, true, true, true, true, true, true, true, true, true, true, true, true, true, true, true, true, true, true, true, true, true, true, true, true, true, true] rfl rfl (any_of HT_.out (by kernel_rfl)) (fun _ _ _ h => h) (Or.inl ⟨by rfl, ?_⟩) ?_ ?_
              rotate_left
              · intro w'
                go_simp
                with_reducible rfl
              rotate_left
              · simp only [Act.put, List.setIfInBounds_toArray, List.set_cons_zero, List.set_cons_succ, i64_w, i32_w]
                rfl
              refine done_ (done_of HT_.out (by kernel_rfl)) ?_
              go_wp2
              go_roundg (64 - (t + 1))
              case measure => have := HT.out; omega
              case rel =>
                have hbE : Below w2.heap.size w2 wF := hb.trans (hdF.below.mono hb.size)
                have e1 : vR S W1 (t + 1) = rnd32 [v0, v1, v2, v3, v4, v5, v6, v7] kk ww := by rw [vR, HVE.out, HKK.out, HWW.out]
                refine ⟨t + 1, _, _, by have := HT.out; omega, by go_num, rfl, ?_, hbE.alloc hbE.size _, by omega⟩
                intro j hj
                rw [e1]
                refine Arr.get (T := 142) (rest := []) ?_ j hj
                unfold Arr
                exact heap_alloc_new wF _
            · obtain rfl : t = 64 := by omega
              obtain ⟨V, hV⟩ : ∃ V, V = vR S W1 64 := ⟨_, rfl⟩
              have hcv2 : ∀ j, j < 8 → wr.cell? ⟨g, j, none⟩ = some (.int .u32 (v32 (V.getD j 0))) := fun j hj => by rw [hV, HVE.out]; exact HMK.out wr (Drawn0.refl _) j hj
              have hbw : Below w.heap.size w wr := HB2.out.trans (hb.mono HB2.out.size)
              have HCV := Lib.hid hcv2
              have HCSr := Lib.hid (Kd.C_below HCS.out hb)
              have HV := Lib.hid hV
              have HBW := Lib.hid hbw
              obtain ⟨w4, hw4⟩ : ∃ w4, w4 = wr := ⟨_, rfl⟩
              rw [← hw4] at HCV HCSr HBW ⊢
              clear hw4 hV hbw hcv2 ht hlt hb HMK HVE HT HCS HCK HCW HB2 hk64 wr
              go_wp2
              go_loopg [21, 22] 8 (fun gk v21 v22 wr => ∃ (i m : Nat) (A6 : Option Addr) (c6 : Nat), i + gk = 8 ∧ v22 = .int .i64 (i : Int) ∧ v21 = .slice A6 m c6 ∧ Hid (Kd.R (Kd.int .u32) 142 wr w4.heap.size (fun _ => True) v21 ((rAdd S V i).map v32)) ∧ Below w4.heap.size w4 wr)
              case atStart => exact ⟨0, 0, none, 0, by omega, rfl, rfl, Kd.R_nil _ _ _ _ _, Below.refl _ _⟩
              case round =>
                obtain ⟨i, m, A6, c6, hi, rfl, rfl, hO, hb⟩ := hrel
                have HI := Lib.hid hi
                by_cases hlt : i < 8
                · have ei : IntKind.i64.wrap ((i : Int) + 1) = (i : Int) + 1 := IntWalk.i64_in _ (by omega)
                  have hdec : decide ((i : Int) < 8) = true := by rw [decide_eq_true_iff]; omega
                  have hlti : ((i : Int) < 8) = True := eq_true (by omega)
                  obtain ⟨adS, e0, cS⟩ := C_u32_at (Kd.C_below HCSr.out hb) i hlt
                  subst e0
                  have cV : wr.cell? ⟨g, i, none⟩ = some (.int .u32 (v32 (V.getD i 0))) := (hb.cell (World.block_lt_of_cell? w4 _ (HCV.out i hlt))).trans (HCV.out i hlt)
                  generalize hx : S.getD i 0 = x at cS
                  generalize hy : V.getD i 0 = y at cV
                  have HX := Lib.hid hx
                  have HY := Lib.hid hy
                  have hil : ((rAdd S V i).map v32).length = i := by rw [List.length_map, rAdd_len]
                  have HIL := Lib.hid hil
                  clear hx hy hil hi
                  go_wp2
                  have hdd : Drawn0 wr wr.drew := Drawn0.step (Drawn0.refl _) 1
                  have hO2 : (Kd.int .u32).R 142 wr.drew w4.heap.size (fun _ => True) (.slice A6 m c6) ((rAdd S V i).map v32) := Kd.R_below hO.out hdd.below
                  have hb4 : Below w4.heap.size w4 wr.drew := hb.trans (hdd.below.mono hb.size)
                  have HO2 := Lib.hid hO2
                  clear hO2 hO hb hdd
                  refine start_ (n := 13) (S := fun w' => w'.cell? (adS.add i) = some (.int .u32 (v32 x)) ∧ w'.cell? ⟨g, i, none⟩ = some (.int .u32 (v32 y))) (ds := [10, 11]) #[false, false, false, false, false, false, false, false, false, false, false, false, false] (by kernel_rfl) rfl rfl ⟨cS, cV⟩ (fun hHeld => ?_); refine with_tabW rblktab34 rblkbits34 (fun HT_ HW_ => ?_)
                  generalize wr.drew = wC at HO2 hb4 hHeld ⊢
                  refine pure_ (i := 0) (N := some 234) (v := ?_) (a' := ?_) #[true, false, false, false, false, false, false, false, false, false, false, false, false] rfl rfl (any_of HT_.out (by kernel_rfl)) (fun _ _ _ h => h) (Or.inl ⟨by rfl, ?_⟩) ?_ ?_
                  rotate_left
                  · intro w'
                    go_simp
                    with_reducible rfl
                  rotate_left
                  · simp only [Act.put, List.setIfInBounds_toArray, List.set_cons_zero, List.set_cons_succ, i64_w, i32_w]
                    rfl
                  refine pure_ (i := 1) (N := some 235) (v := ?_) (a' := ?_) #[true, true, false, false, false, false, false, false, false, false, false, false, false] rfl rfl (any_of HT_.out (by kernel_rfl)) (fun _ _ _ h => h) (Or.inl ⟨by rfl, ?_⟩) ?_ ?_
                  rotate_left
                  · intro w'
                    go_simp
                    with_reducible rfl
                  rotate_left
                  · simp only [Act.put, List.setIfInBounds_toArray, List.set_cons_zero, List.set_cons_succ, i64_w, i32_w]
                    rfl
                  refine pure_ (i := 2) (N := some 236) (v := ?_) (a' := ?_) #[true, true, true, false, false, false, false, false, false, false, false, false, false] rfl rfl (any_of HT_.out (by kernel_rfl)) (fun _ _ _ h => h) (Or.inl ⟨by rfl, ?_⟩) ?_ ?_
                  rotate_left
                  · intro w'
                    go_simp
                    with_reducible rfl
                  rotate_left
                  · simp only [Act.put, List.setIfInBounds_toArray, List.set_cons_zero, List.set_cons_succ, i64_w, i32_w]
                    rfl
                  refine pure_ (i := 3) (N := some 237) (v := ?_) (a' := ?_) #[true, true, true, true, false, false, false, false, false, false, false, false, false] rfl rfl (any_of HT_.out (by kernel_rfl)) (fun _ _ _ h => h) (Or.inl ⟨by rfl, ?_⟩) ?_ ?_
                  rotate_left
                  · intro w'
                    go_simp
                    with_reducible rfl
                  rotate_left
                  · simp only [Act.put, List.setIfInBounds_toArray, List.set_cons_zero, List.set_cons_succ, i64_w, i32_w]
                    rfl
                  refine pure_ (i := 5) (N := some 239) (v := ?_) (a' := ?_) #[true, true, true, true, false, true, false, false, false, false, false, false, false] rfl rfl (any_of HT_.out (by kernel_rfl)) (fun _ _ _ h => h) (Or.inl ⟨by rfl, ?_⟩) ?_ ?_
                  rotate_left
                  · intro w'
                    go_simp
                    with_reducible rfl
                  rotate_left
                  · simp only [Act.put, List.setIfInBounds_toArray, List.set_cons_zero, List.set_cons_succ, i64_w, i32_w]
                    rfl
                  refine pure_ (i := 6) (N := some 240) (v := ?_) (a' := ?_) #[true, true, true, true, false, true, true, false, false, false, false, false, false] rfl rfl (any_of HT_.out (by kernel_rfl)) (fun _ _ _ h => h) (Or.inl ⟨by rfl, ?_⟩) ?_ ?_
                  rotate_left
                  · intro w'
                    go_simp
                    with_reducible rfl
                  rotate_left
                  · simp only [Act.put, List.setIfInBounds_toArray, List.set_cons_zero, List.set_cons_succ, i64_w, i32_w]
                    rfl
                  refine pure_ (i := 7) (N := some 241) (v := ?_) (a' := ?_) #[true, true, true, true, false, true, true, true, false, false, false, false, false] rfl rfl (any_of HT_.out (by kernel_rfl)) (fun _ _ _ h => h) (Or.inl ⟨by rfl, ?_⟩) ?_ ?_
                  rotate_left
                  · intro w'
                    go_simp
                    with_reducible rfl
                  rotate_left
                  · simp only [Act.put, List.setIfInBounds_toArray, List.set_cons_zero, List.set_cons_succ, i64_w, i32_w]
                    rfl
                  refine take_ (i := 4) (N := some 238) (v := ?_) (a' := ?_) #[true, true, true, true, true, true, true, true, false, false, false, false, false] rfl rfl (take_ofW HT_.out HW_.out (by kernel_rfl)) (fun _ _ _ h => h) (Or.inl ⟨by rfl, ?_⟩) hHeld ?_ ?_
                  rotate_left
                  · rintro w' ⟨s0, s1⟩
                    go_simp
                    with_reducible rfl
                  rotate_left
                  · simp only [Act.put, List.setIfInBounds_toArray, List.set_cons_zero, List.set_cons_succ, i64_w, i32_w]
                    rfl
                  refine take_ (i := 8) (N := some 242) (v := ?_) (a' := ?_) #[true, true, true, true, true, true, true, true, true, false, false, false, false] rfl rfl (take_ofW HT_.out HW_.out (by kernel_rfl)) (fun _ _ _ h => h) (Or.inl ⟨by rfl, ?_⟩) hHeld ?_ ?_
                  rotate_left
                  · rintro w' ⟨s0, s1⟩
                    go_simp
                    with_reducible rfl
                  rotate_left
                  · simp only [Act.put, List.setIfInBounds_toArray, List.set_cons_zero, List.set_cons_succ, i64_w, i32_w]
                    rfl
                  refine pure_ (i := 9) (N := some 243) (v := ?_) (a' := ?_) #[true, true, true, true, true, true, true, true, true, true, false, false, false] rfl rfl (any_of HT_.out (by kernel_rfl)) (fun _ _ _ h => h) (Or.inl ⟨by rfl, ?_⟩) ?_ ?_
                  rotate_left
                  · intro w'
                    go_simp
                    with_reducible rfl
                  rotate_left
                  · simp only [Act.put, List.setIfInBounds_toArray, List.set_cons_zero, List.set_cons_succ, i64_w, i32_w]
                    rfl
                  refine last_ (i := 10) (N := some 244) #[true, true, true, true, true, true, true, true, true, true, true, false, false] rfl rfl (one_of HT_.out (by kernel_rfl)) (by decide) (fun K hK => ?_)
                  refine value_ (w1 := ?_) (v := ?_) (by rfl) rfl ?_ ?_
                  rotate_left 2
                  · go_simp
                    constructor
                    · rfl
                    · rfl
                  refine hK.out _ _ ?_
                  clear hK K
                  refine norm_ (a' := ?_) ?_ ?_
                  rotate_left
                  · show Act.put _ (some 244) _ = _
                    simp only [Act.put, List.setIfInBounds_toArray, List.set_cons_zero, List.set_cons_succ, i64_w, i32_w]
                    rfl
                  refine last_ (i := 11) (N := some 245) #[true, true, true, true, true, true, true, true, true, true, true, true, false] rfl rfl (one_of HT_.out (by kernel_rfl)) (by decide) (fun K hK => ?_)
                  refine Kd.R_append_step (Kd.int .u32) (w0 := w4) (W := wC) w4.heap.size (by rfl) (.tmp 234) (.tmp 244) 149 142 (.int .u32 0) 4 rfl Tryd.underlying149 infoU32 rfl (by decide) (by omega) (.slice A6 m c6) ((rAdd S V i).map v32) (v32 (x + y)) [.int .u32 (v32 (x + y))] (fun _ => True) (fun _ => False) rfl rfl rfl (fun _ hk => hk.elim) (fun _ _ => trivial) HO2.out hb4 hb4.size (by rw [HIL.out]; omega) ?_
                  intro v1 w8 hO3 hb5 hgr hat
                  obtain ⟨A8, m8, c8, hv8⟩ : ∃ A m c, v1 = .slice A m c := by obtain ⟨A1, c1, e⟩ := Kd.R_slice hO3; exact ⟨_, _, _, e⟩
                  have HO3 := Lib.hid hO3
                  clear hO3
                  refine hK.out _ _ ?_
                  clear hK K
                  refine norm_ (a' := ?_) ?_ ?_
                  rotate_left
                  · show Act.put _ (some 245) _ = _
                    simp only [Act.put, List.setIfInBounds_toArray, List.set_cons_zero, List.set_cons_succ, i64_w, i32_w]
                    rfl
                  refine pure_ (i := 12) (N := some 21) (v := ?_) (a' := ?_) #[true, true, true, true, true, true, true, true, true, true, true, true, true] rfl rfl (any_of HT_.out (by kernel_rfl)) (fun _ _ _ h => h) (Or.inl ⟨by rfl, ?_⟩) ?_ ?_
                  rotate_left
                  · intro w'
                    go_simp
                    with_reducible rfl
                  rotate_left
                  · simp only [Act.put, List.setIfInBounds_toArray, List.set_cons_zero, List.set_cons_succ, i64_w, i32_w]
                    rfl
                  refine done_ (done_of HT_.out (by kernel_rfl)) ?_
                  go_wp2
                  go_roundg (8 - (i + 1))
                  case measure => have := HI.out; omega
                  case rel =>
                    refine ⟨i + 1, _, _, _, by have := HI.out; omega, by go_num, rfl, ?_, hb5⟩
                    have e : (rAdd S V (i + 1)).map v32 = (rAdd S V i).map v32 ++ [v32 (x + y)] := by
                      rw [rAdd, rAdd, List.range_succ, List.map_append, List.map_append, ← HX.out, ← HY.out]
                      rfl
                    rw [e, ← hv8]
                    exact HO3.out
                · obtain rfl : i = 8 := by omega
                  have hfin : rAdd S V 8 = rblock S blk := by unfold rblock; rw [HV.out, HW1.out, HW0.out]
                  clear hi
                  go_wp2
                  go_ret
                  refine ⟨_, rfl, ?_, HBW.out.trans (hb.mono HBW.out.size)⟩
                  have := Kd.R_lower hO.out HBW.out.size
                  rw [hfin] at this
                  exact this
end Go.Proofs.YtpeebjnfmlfocaaDoor.Dig
