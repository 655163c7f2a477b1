/- digest.Hash at this program: New, Write, Sum: SHA-256 of what was written. Conditions: bytes, at most 2^31 of them; the table of constants stands. -/
import Derived.Test.YtpeebjnfmlfocaaDoorMix
import Derived.Test.YtpeebjnfmlfocaaDoorQApp
import Derived.WalkSpells
import Derived.Deep.LoopGhost
namespace Go.Proofs.YtpeebjnfmlfocaaDoor.Dig
open Go.RowKit Go.UW Go.Proofs.YtpeebjnfmlfocaaDoorW.PrintWords Go.Proofs.YtpeebjnfmlfocaaDoorW.PrintLast Go.Proofs.YtpeebjnfmlfocaaDoorW.PrintMore
set_option linter.unusedVariables false

def blocks (bytes : List Int) : Nat → List UInt32
  | 0 => H256
  | k + 1 => UW.block (blocks bytes k) ((bytes.drop (64 * k)).take 64)
theorem blocks_len (bytes : List Int) (k : Nat) : (blocks bytes k).length = 8 := by
  induction k with
  | zero => rfl
  | succ k ih => exact block_len _ ih _
theorem blocks_app (a b : List Int) (k : Nat) (h : 64 * k ≤ a.length) : blocks (a ++ b) k = blocks a k := by
  induction k with
  | zero => rfl
  | succ k ih =>
    rw [blocks, blocks, ih (by omega)]
    congr 1
    rw [List.drop_append_of_le_length (by omega), List.take_append_of_le_length (by rw [List.length_drop]; omega)]

def IsH (w : World) (base g : Nat) (bytes : List Int) : Prop :=
  ∃ (k : Nat) (restv : Value), base ≤ g ∧ 64 * k ≤ bytes.length ∧ bytes.length < 64 * k + 64 ∧ Arr w g 148 (blocks bytes k) [restv, .int .u64 (bytes.length : Int), .bool true] ∧
    Qb w base restv (bytes.drop (64 * k)) ∧ (∀ x ∈ bytes, 0 ≤ x ∧ x ≤ 255) ∧ bytes.length ≤ 2147483648

theorem IsH.below {w w1 : World} {base g : Nat} {bytes : List Int} (h : IsH w base g bytes) {n : Nat} (hb : Below n w w1) (hn : w.heap.size ≤ n) : IsH w1 base g bytes := by
  obtain ⟨k, restv, h1, h2, h3, h4, h5, h6, h7⟩ := h
  exact ⟨k, restv, h1, h2, h3, h4.below hb (Nat.lt_of_lt_of_le h4.lt hn), h5.below hb hn, h6, h7⟩
theorem IsH.lower {w : World} {base base' g : Nat} {bytes : List Int} (h : IsH w base g bytes) (hb : base' ≤ base) : IsH w base' g bytes := by
  obtain ⟨k, restv, h1, h2, h3, h4, h5, h6, h7⟩ := h
  exact ⟨k, restv, Nat.le_trans hb h1, h2, h3, h4, h5.lower hb, h6, h7⟩
theorem IsH.lt {w : World} {base g : Nat} {bytes : List Int} (h : IsH w base g bytes) : g < w.heap.size := by
  obtain ⟨k, restv, h1, h2, h3, h4, h5, h6, h7⟩ := h
  exact h4.lt

theorem Qb.ne_block {w : World} {base : Nat} {v : Value} {l : List Int} (h : Qb w base v l) {g : Nat} {cells : Array Value} {T : TypeId} (hb : w.heap[g]? = some (.cells cells T (0, 0))) (hT : T ≠ 5) : ∀ k, v.ownBlock = some k → k ≠ g := by
  rintro k hk rfl
  obtain ⟨_, _, cs, hc⟩ := h.base_le k hk
  rw [hc] at hb
  injection hb with hb
  injection hb with _ hb
  exact hT hb.symm
theorem C_set {w : World} {A : Option Addr} {m : Nat} {ys : List Int} (h : (Kd.int .u8).C w A m ys) {p : Addr} (hp : ∀ x, w.cell? p ≠ some (.int .u8 x)) (v : Value) : (Kd.int .u8).C (w.setCell p v) A m ys := by
  refine ⟨h.1, h.2.1, fun h0 => ?_⟩
  obtain ⟨ad, e, hc⟩ := h.2.2 h0
  refine ⟨ad, e, fun j q hj => ?_⟩
  obtain ⟨cs, a1, a2, a3⟩ := hc j q hj
  refine ⟨cs, a1, a2, fun i u hu => ?_⟩
  have h4 := a3 i u hu
  have a2' : cs = [.int .u8 q] := a2
  subst a2'
  match i, hu with
  | 0, hu =>
    simp only [List.getElem?_cons_zero, Option.some.injEq] at hu
    subst hu
    have hne : ad.add (j * (Kd.int .u8).sz + 0) ≠ p := fun e => hp q (by rw [← e]; exact h4)
    rw [World.cell?_setCell_other]
    · exact h4
    · exact Ne.symm hne

theorem begin_any (w : World) : Calls Tryd.prog 89 #[] w fun e w' => e = .returned (.agg #[.int .u32 1779033703, .int .u32 3144134277, .int .u32 1013904242, .int .u32 2773480762, .int .u32 1359893119, .int .u32 2600822924, .int .u32 528734635, .int .u32 1541459225]) ∧ Below w.heap.size w w' := by
  go_enter Tryd.func89, Tryd.ntmps89
  go_wp2
  go_returns
  exact ⟨rfl, by go_grown⟩

theorem new_any (w : World) : Calls Tryd.prog 46 #[] w fun e w' => ∃ g : Nat, e = .returned (.pointer (some ⟨g, 0, none⟩)) ∧ IsH w' w.heap.size g [] ∧ Below w.heap.size w w' := by
  go_enter Tryd.func46, Tryd.ntmps46
  go_wp2_with (go_at_call 89; (with_reducible refine (begin_any _).mono ?_); rintro e w1 ⟨rfl, hb⟩)
  go_ret
  refine ⟨w1.heap.size, rfl, ⟨0, .slice none 0 0, hb.size, by simp, by simp, ?_, Qb.nil _ _, by simp, by simp⟩, hb.alloc hb.size _⟩
  unfold Arr
  rw [heap_alloc_new]
  rfl

set_option maxHeartbeats 4000000 in
set_option maxRecDepth 100000 in
theorem write_any (base g : Nat) (bytes ys : List Int) (A : Option Addr) (m c : Nat) (w : World) (hG : Glob w) (hgb : 1 < base) (hH : IsH w base g bytes) (hC : (Kd.int .u8).C w A m ys) (hmc : m ≤ c) (hy : ∀ x ∈ ys, 0 ≤ x ∧ x ≤ 255) (hl : bytes.length + ys.length ≤ 2147483648) :
    Calls Tryd.prog 47 #[.pointer (some ⟨g, 0, none⟩), .slice A m c] w fun e w' => e = .returned (.tuple #[]) ∧ IsH w' base g (bytes ++ ys) ∧ Below base w w' := by
  obtain ⟨k, restv, h1, h2, h3, h4, h5, h6, h7⟩ := hH
  have hm := Kd.C_len hC
  obtain ⟨N, hN⟩ : ∃ N, N = bytes.length + m := ⟨_, rfl⟩
  have e1 : IntKind.u64.wrap (m : Int) = m := by rw [u64_wrap]; omega
  have e2 : IntKind.u64.wrap ((bytes.length : Int) + m) = (N : Int) := by rw [u64_wrap]; omega
  have hbl := blocks_len bytes k
  have c8 := h4.getRest 0 8 (by rw [hbl]) restv rfl
  have c9 := h4.getRest 1 9 (by rw [hbl]) (.int .u64 (bytes.length : Int)) rfl
  have c10 := h4.getRest 2 10 (by rw [hbl]) (.bool true) rfl
  have f9 := h4.free 9
  have f8 := h4.free 8
  have hgl := h4.lt
  have hA1 : Arr (w.setCell ⟨g, 9, none⟩ (.int .u64 (N : Int))) g 148 (blocks bytes k) [restv, .int .u64 (N : Int), .bool true] := h4.setRest 1 9 (by rw [hbl]) _
  have hne := h5.ne_block h4 (by decide)
  have hQ1 : Qb (w.setCell ⟨g, 9, none⟩ (.int .u64 (N : Int))) base restv (bytes.drop (64 * k)) := h5.move fun q hq => Below.heap_setCell _ _ _ _ (hne q hq)
  have hC1 : (Kd.int .u8).C (w.setCell ⟨g, 9, none⟩ (.int .u64 (N : Int))) A m ys := C_set hC (fun x e => by rw [c9] at e; cases e) _
  have hB1 : Below base w (w.setCell ⟨g, 9, none⟩ (.int .u64 (N : Int))) := (Below.refl _ _).setCell (p := ⟨g, 9, none⟩) h1 _
  have HA1 := Lib.hid hA1
  have HQ1 := Lib.hid hQ1
  have HC1 := Lib.hid hC1
  have HY := Lib.hid hy
  have H6 := Lib.hid h6
  have HM := Lib.hid hm
  have HN := Lib.hid hN
  have HBL := Lib.hid hbl
  have HNE := Lib.hid hne
  have hlen2 : (bytes.drop (64 * k)).length + m ≤ 140737488355328 := by rw [List.length_drop]; omega
  have hNs : N ≤ 2147483648 := by omega
  clear hA1 hQ1 hC1 h4 hbl hC hy h5 h6 hm hN hne
  go_enter Tryd.func47, Tryd.ntmps47
  go_wp2_with (
    (at_builtin
     go_must (refine wpList_q_spread _ base rfl (.tmp 27) (.tmp 28) rfl restv (bytes.drop (64 * k)) ys A m c rfl rfl HQ1.out HC1.out (Nat.le_trans (Nat.le_of_lt (Nat.lt_of_le_of_lt h1 hgl)) hB1.size) hlen2 ?_)
     intro v1 w1 hQ2 hg2 hat
     go_must (
       have hA2 : Arr w1 g 148 (blocks bytes k) [restv, .int .u64 (N : Int), .bool true] := HA1.out.keep (hg2.block g (by rw [World.size_setCell]; exact hgl) (fun e => HNE.out g e.symm rfl))
       have d8 := hA2.getRest 0 8 (by rw [HBL.out]) restv rfl
       have df8 := hA2.free 8
       have hA3 : Arr (w1.setCell ⟨g, 8, none⟩ v1) g 148 (blocks bytes k) [v1, .int .u64 (N : Int), .bool true] := hA2.setRest 0 8 (by rw [HBL.out]) _
       have hb2 : Below base w w1 := hB1.grown hg2 (Nat.le_trans (Nat.le_of_lt (Nat.lt_of_le_of_lt h1 hgl)) hB1.size) (fun q hq => (HQ1.out.base_le q hq).1)
       have hb3 : Below base w (w1.setCell ⟨g, 8, none⟩ v1) := hb2.setCell (p := ⟨g, 8, none⟩) h1 _
       have hne2 := hQ2.ne_block hA2 (by decide)
       have hQ3 : Qb (w1.setCell ⟨g, 8, none⟩ v1) base v1 (bytes.drop (64 * k) ++ ys) := hQ2.move fun q hq => Below.heap_setCell _ _ _ _ (hne2 q hq)
       obtain ⟨tot, htot⟩ : ∃ tot, tot = bytes ++ ys := ⟨_, rfl⟩
       have htl : tot.length = N := by rw [htot, List.length_append, HM.out, HN.out]
       have hQ4 : Qb (w1.setCell ⟨g, 8, none⟩ v1) base v1 (tot.drop (64 * k)) := by rw [htot, List.drop_append_of_le_length h2]; exact hQ3
       have hA4 : Arr (w1.setCell ⟨g, 8, none⟩ v1) g 148 (blocks tot k) [v1, .int .u64 (N : Int), .bool true] := by rw [htot, blocks_app _ _ _ h2]; exact hA3
       obtain ⟨A1, n1, c1, hv1⟩ : ∃ A1 n1 c1, v1 = .slice A1 n1 c1 := by obtain ⟨A1, c1, e, _⟩ := hQ2.form; exact ⟨_, _, _, e⟩
       subst hv1
       have hgl2 := hA4.lt
       have HA4 := Lib.hid hA4
       have HQ4 := Lib.hid hQ4
       have HT := Lib.hid htot
       have HTL := Lib.hid htl
       have hkN : k ≤ N / 64 := by have := HN.out; omega
       clear hA2 hA3 hQ2 hQ3 hA4 hQ4 htot htl hne2 hat hg2 HQ1 HC1 HA1)))
  go_loopg [] (N / 64 - k) (fun gk wr => ∃ (k2 : Nat) (v2 : Value), k2 + gk = N / 64 ∧ 64 * k2 ≤ N ∧ Hid (Arr wr g 148 (blocks tot k2) [v2, .int .u64 (N : Int), .bool true]) ∧ Hid (Qb wr base v2 (tot.drop (64 * k2))) ∧ Below base w wr)
  case atStart => exact ⟨k, _, by omega, by omega, HA4.out, HQ4.out, hb3⟩
  case round =>
    clear HA4 HQ4 hb3 hgl2
    obtain ⟨k2, v2, hk, hkl, hA, hQ, hb⟩ := hrel
    obtain ⟨A2, n2, c2, hv2⟩ : ∃ A2 n2 c2, v2 = .slice A2 n2 c2 := by obtain ⟨A1, c1, e, _⟩ := hQ.out.form; exact ⟨_, _, _, e⟩
    subst hv2
    have hn2 : n2 = (tot.drop (64 * k2)).length := by obtain ⟨A1, c1, e, _⟩ := hQ.out.form; injection e
    have hc2 : n2 ≤ c2 := by obtain ⟨A1, c1, e, h⟩ := hQ.out.form; injection e with _ e1 e2; omega
    have hn3 : n2 = N - 64 * k2 := by rw [hn2, List.length_drop, HTL.out]
    have HN2 := Lib.hid hn2
    clear hn2
    have hbl2 := blocks_len tot k2
    have d8 := hA.out.getRest 0 8 (by rw [hbl2]) _ rfl
    have df8 := hA.out.free 8
    have hgl := hA.out.lt
    have HBL2 := Lib.hid hbl2
    clear hbl2
    by_cases hge : 64 ≤ n2
    · have HN3 := Lib.hid hn3
      have hneq := hQ.out.ne_block hA.out (by decide)
      have HNEQ := Lib.hid hneq
      have hsl : ∀ W : World, (Instr.slice 22 (.slice A2 n2 c2) none (some (.int .i64 64)) none).run Tryd.prog W = .ok (.slice A2 64 c2) W := by
        obtain ⟨i0, hi, hz0, hz1, hz2⟩ := info_parts infoU8
        have hel : Tryd.prog.elem 22 = 5 := by simp [Program.elem, Tryd.underlying22]
        have hu : Tryd.prog.underlying 22 = some (.slice (Tryd.prog.elem 22)) := by rw [hel]; exact Tryd.underlying22
        have ha : (A2.map fun x => x.add 0) = A2 := by cases A2 <;> simp [Addr.add]
        intro W
        rw [run_slice_h W 22 A2 n2 c2 hu .i64 64 (by omega) (by omega), hel]
        simp [sizeOf, typeInfo, hi, hz1, sliced, Result.andThen, ha]
      obtain ⟨A3, hsl2, hQd⟩ : ∃ A3 : Option Addr, (∀ W : World, (Instr.slice 22 (.slice A2 n2 c2) (some (.int .i64 64)) none none).run Tryd.prog W = .ok (.slice A3 (n2 - 64) (c2 - 64)) W) ∧
          (∀ W : World, Qb W base (.slice A2 n2 c2) (tot.drop (64 * k2)) → Qb W base (.slice A3 (n2 - 64) (c2 - 64)) (tot.drop (64 * (k2 + 1)))) := by
        obtain ⟨i0, hi, hz0, hz1, hz2⟩ := info_parts infoU8
        have hel : Tryd.prog.elem 22 = 5 := by simp [Program.elem, Tryd.underlying22]
        have hu : Tryd.prog.underlying 22 = some (.slice (Tryd.prog.elem 22)) := by rw [hel]; exact Tryd.underlying22
        refine ⟨if c2 = 64 then A2 else A2.map (·.add 64), fun W => ?_, fun W hW => ?_⟩
        · rw [run_slice_l W 22 A2 n2 c2 hu .i64 64 (by omega) (by omega), hel]
          simp [sizeOf, typeInfo, hi, hz1, sliced, Result.andThen]
        · have e := HN2.out
          rw [e] at hW ⊢
          have := hW.drop (m := 64) (by omega)
          rw [List.drop_drop, show 64 * k2 + 64 = 64 * (k2 + 1) by omega] at this
          exact this
      have HQD := Lib.hid hQd
      clear hneq hQd hn3
      go_wp2
      go_still_tail 8, (by kernel_rfl)
      change wpList _ _ _ _ _ wr.drew
      have hA6 : Hid (Arr wr.drew g 148 (blocks tot k2) [.slice A2 n2 c2, .int .u64 (N : Int), .bool true]) := hA.out.keep rfl
      have hQ6 : Hid (Qb wr.drew base (.slice A2 n2 c2) (tot.drop (64 * k2))) := hQ.out.move fun _ _ => rfl
      have hb6 : Below base w wr.drew := hb.drew
      clear hA hQ hb d8 df8
      generalize wr.drew = w6 at hA6 hQ6 hb6 ⊢
      have hG6 : Glob w6 := hG.belowN hb6 hgb
      have hblk : (Kd.int .u8).C w6 A2 64 ((tot.drop (64 * k2)).take 64) := by
        have := HN2.out
        have h9 := hQ6.out
        rw [this] at h9
        have h10 := (h9.take (m := 64) (by omega)).reads
        obtain ⟨h11, h12⟩ := h10
        rw [← h11] at h12
        exact h12
      have hrng : ∀ x ∈ (tot.drop (64 * k2)).take 64, 0 ≤ x ∧ x ≤ 255 := fun x hx => by
        have := List.mem_of_mem_drop (List.mem_of_mem_take hx)
        rw [HT.out, List.mem_append] at this
        rcases this with h | h
        · exact H6.out x h
        · exact HY.out x h
      have HBLK := Lib.hid hblk
      have HRNG := Lib.hid hrng
      clear hblk hrng
      go_wp2_with (go_at_call 90; (with_reducible refine (mix g 148 (blocks tot k2) _ HBL2.out A2 c2 _ w6 hG6 (by omega) hA6.out HBLK.out (by omega) HRNG.out).mono ?_); rintro e w7 ⟨rfl, hA7, hg7⟩; have HA7 := Lib.hid hA7; have HG7 := Lib.hid hg7; have d8 := hA7.getRest 0 8 (by rw [block_len _ HBL2.out]) _ rfl; have df8 := hA7.free 8; clear hA7 hg7)
      go_roundg (N / 64 - (k2 + 1))
      case measure => have := HN3.out; omega
      case rel =>
        have hgl6 := hA6.out.lt
        have hbl3 := block_len _ HBL2.out ((tot.drop (64 * k2)).take 64)
        have hA8 : Arr (w7.setCell ⟨g, 8, none⟩ (.slice A3 (n2 - 64) (c2 - 64))) g 148 (blocks tot (k2 + 1)) [.slice A3 (n2 - 64) (c2 - 64), .int .u64 (N : Int), .bool true] := HA7.out.setRest 0 8 (by rw [hbl3]) _
        have hQ7 : Qb w7 base (.slice A2 n2 c2) (tot.drop (64 * k2)) := hQ6.out.grown HG7.out (fun q hq e => HNEQ.out q hq (by injection e))
        have hne7 := hQ7.ne_block HA7.out (by decide)
        have hQ8 : Qb (w7.setCell ⟨g, 8, none⟩ (.slice A3 (n2 - 64) (c2 - 64))) base (.slice A2 n2 c2) (tot.drop (64 * k2)) := hQ7.move fun q hq => Below.heap_setCell _ _ _ _ (hne7 q hq)
        have hn9 := HN3.out
        refine ⟨k2 + 1, _, by omega, by omega, hA8, HQD.out _ hQ8, ?_⟩
        exact (hb6.grown HG7.out (Nat.le_trans h1 (Nat.le_of_lt hgl6)) (fun q hq => by injection hq with hq; omega)).setCell (p := ⟨g, 8, none⟩) h1 _
    · go_wp2
      go_end0
      rw [← HT.out]
      have hfin : tot.length = N := HTL.out
      refine ⟨rfl, ⟨k2, _, h1, by rw [hfin]; exact hkl, by rw [hfin]; omega, by rw [hfin]; exact hA.out, hQ.out, ?_, by rw [hfin]; exact hNs⟩, hb⟩
      intro x hx
      rw [HT.out, List.mem_append] at hx
      rcases hx with h | h
      · exact H6.out x h
      · exact HY.out x h
end Go.Proofs.YtpeebjnfmlfocaaDoor.Dig
