/- mac.block at this program: a key's block, each byte by exclusive or with another one. Conditions: at most 2^31 bytes in range; the table of constants stands. · mac.Sum at this program. Conditions: bytes in range, at most 2^29 of them a part, at most 3 parts; the table of constants stands. · A range over a function whose rounds must know what is handed to them in memory: the loop's law at the wide fence, rounds told by number. Plain law over the model, no program. Conditions: as its hypotheses say. · hkdf.blocks at this program: what its closure tells its rounds. Conditions: bytes in range, at most 2^20 of them; the table of constants stands. · hkdf.Expand, hkdf.Extract at this program. Conditions: bytes in range, at most 2^20 of them; the table of constants stands. · The document's mac (layer 7) at this program: With, Block, Sum. Conditions: bytes in range, at most 2^20 of them. · hkdf.Extract, hkdf.Expand of no number that may be, the laws' awake. Condition: the table of constants stands. -/
import Derived.Test.YtpeebjnfmlfocaaDoorDSum
import Derived.Test.YtpeebjnfmlfocaaDoorRank
import Derived.RangeFuncNested
import Derived.RangeFuncBound
import Derived.RangeFuncCalls
import Derived.RangeFuncLeaves
import Derived.Below
import Derived.Shelf.Abstract
import Derived.Shelf.RegionOpen
import Derived.WalkKit
import Derived.OwnWalkIn
import Derived.TacticsInMore
import Derived.LoopNIn
import Derived.LoopIn
import Derived.Test.YtpeebjnfmlfocaaDoorPRank
import Derived.Test.YtpeebjnfmlfocaaDoorPrint4
namespace Go.Proofs.YtpeebjnfmlfocaaDoor.Dig
open Go.RowKit Go.UW Go.Proofs.YtpeebjnfmlfocaaDoorW.PrintWords Go.Proofs.YtpeebjnfmlfocaaDoorW.PrintLast Go.Proofs.YtpeebjnfmlfocaaDoorW.PrintMore
set_option linter.unusedVariables false

def xorb (x b : Int) : Int := bits .xor .u8 b x
def keyK (l : List Int) : List Int := if l.length > 64 then sha l else l
def keyP (l : List Int) : List Int := keyK l ++ List.replicate (64 - (keyK l).length) 0
def keyB (l : List Int) (x : Int) : List Int := (keyP l).map (xorb x)
theorem keyK_len (l : List Int) : (keyK l).length ≤ 64 := by
  unfold keyK
  split
  · rw [sha_len]; decide
  · omega
theorem keyP_len (l : List Int) : (keyP l).length = 64 := by
  have := keyK_len l
  unfold keyP
  rw [List.length_append, List.length_replicate]
  omega
theorem keyB_len (l : List Int) (x : Int) : (keyB l x).length = 64 := by unfold keyB; rw [List.length_map, keyP_len]
/-- the first i are turned -/
def half (K : List Int) (x : Int) (i : Nat) : List Int := (K.take i).map (xorb x) ++ K.drop i
theorem half_zero (K : List Int) (x : Int) : half K x 0 = K := rfl
theorem half_len (K : List Int) (x : Int) (i : Nat) (h : i ≤ K.length) : (half K x i).length = K.length := by simp [half]; omega
theorem half_all (K : List Int) (x : Int) : half K x K.length = K.map (xorb x) := by simp [half]
theorem half_get (K : List Int) (x : Int) (i : Nat) (h : i < K.length) : (half K x i).getD i 0 = K.getD i 0 := by
  have hl : ((K.take i).map (xorb x)).length = i := by simp; omega
  unfold half
  rw [List.getD_eq_getElem?_getD, List.getElem?_append_right (by omega), hl, List.getElem?_drop, Nat.sub_self, Nat.add_zero, ← List.getD_eq_getElem?_getD]
theorem half_set (K : List Int) (x : Int) (i : Nat) (h : i < K.length) : (half K x i).set i (xorb x (K.getD i 0)) = half K x (i + 1) := by
  have hl : ((K.take i).map (xorb x)).length = i := by simp; omega
  unfold half
  rw [List.set_append_right _ _ (by omega), hl, Nat.sub_self, List.drop_eq_getElem_cons h, List.set_cons_zero, List.take_succ_eq_append_getElem h, List.map_append, List.append_assoc]
  congr 1
  rw [List.getD_eq_getElem?_getD, List.getElem?_eq_getElem h]
  rfl
theorem below_grown0 {a b : World} (h : a.grownBy b none) : Below a.heap.size a b := ⟨h.os, h.tape, h.output, h.size, fun k hk => h.block k hk (by simp)⟩
theorem copy_key (k : List Int) (h : k.length ≤ 64) : k.take (min k.length (List.replicate 64 (0 : Int)).length) ++ (List.replicate 64 (0 : Int)).drop (min k.length (List.replicate 64 (0 : Int)).length) = k ++ List.replicate (64 - k.length) 0 := by
  rw [List.length_replicate, Nat.min_eq_left h, List.take_length, List.drop_replicate]
theorem xor_rg (x b : Int) : 0 ≤ xorb x b ∧ xorb x b ≤ 255 := by
  have := wf_bits .xor .u8 b x
  simp [Lit.wf, IntKind.min, IntKind.max, IntKind.signed, IntKind.bits] at this
  unfold xorb
  omega
theorem keyB_rg (l : List Int) (x : Int) : ∀ b ∈ keyB l x, 0 ≤ b ∧ b ≤ 255 := by
  intro b hb
  obtain ⟨z, _, rfl⟩ := List.mem_map.1 hb
  exact xor_rg x z

set_option maxHeartbeats 4000000 in
set_option maxRecDepth 100000 in
theorem block_any (A : Option Addr) (m c : Nat) (ys : List Int) (x : Int) (w : World) (hG : Glob w) (hC : (Kd.int .u8).C w A m ys) (hmc : m ≤ c) (hy : ∀ z ∈ ys, 0 ≤ z ∧ z ≤ 255) (hl : m ≤ 2147483648) :
    Calls Tryd.prog 95 #[.slice A m c, .int .u8 x] w fun e w' => ∃ v : Value, e = .returned v ∧ Kd.R (Kd.int .u8) 5 w' w.heap.size (fun _ => True) v (keyB ys x) ∧ Below w.heap.size w w' := by
  have hm := Kd.C_len hC
  have HM := Lib.hid hm
  have HC := Lib.hid hC
  have HY := Lib.hid hy
  clear hC hy
  by_cases gt : (m : Int) > 64
  · have hd := decide_eq_true gt
    have hK : keyK ys = sha ys := by unfold keyK; rw [if_pos (by omega)]
    have HK := Lib.hid hK
    clear hm hK
    go_enter Tryd.func95, Tryd.ntmps95
    go_wp2_with (first
      | (go_at_call 129; (with_reducible refine (dsum_any ys A m c w hG HC.out hmc HY.out hl).mono ?_); rintro e w1 ⟨v0, rfl, hO0, hb1⟩; obtain ⟨A1, c1, rfl⟩ := Kd.R_slice hO0; have HC1 := Lib.hid (Kd.R_reads' hO0).2.2; clear hO0)
      | (refine Kd.R_make (Kd.int .u8) (w0 := w) (W := w1) w.heap.size 5 rfl rfl 22 _ _ rfl 64 rfl rfl Tryd.underlying22 (.int .u8 0) 1 infoU8 rfl (by decide) (by decide) (0 : Int) (ok := fun _ => True) (okp := fun _ => False) rfl (fun _ h => h.elim) trivial (by decide) (by decide) hb1 (hb1).size ?_
         intro v2 w2 hO2 hb2 hg2 _
         obtain ⟨g, cv, rfl, hgb, _⟩ := Kd.R_form hO2 (by decide)
         have hbg := below_grown0 hg2
         have HO2 := Lib.hid hO2
         clear hO2)
      | (refine Kd.R_copy (enc := Value.int .u8) (h1 := fun _ => rfl) (0 : Int) (w0 := w) (W := w2) w.heap.size rfl (.tmp 13) (.tmp 14) 22 22 5 rfl Tryd.underlying22 (by kernel_rfl) (.slice (some ⟨g, 0, none⟩) 64 cv) (List.replicate 64 0) (sha ys) A1 (sha ys).length _ (fun _ => True) rfl rfl HO2.out (Kd.C_below HC1.out hbg) hb2 hb2.size ?_
         intro w3 hO3 hb3 _
         have HO3 := Lib.hid hO3
         clear hO3)
      )
    have hkl : (sha ys).length ≤ 64 := by have := keyK_len ys; rw [HK.out] at this; exact this
    have hO4 := HO3.out
    rw [copy_key _ hkl] at hO4
    have hKP : keyP ys = sha ys ++ List.replicate (64 - (sha ys).length) 0 := by unfold keyP; rw [HK.out]
    rw [← hKP] at hO4
    have HKP := Lib.hid hKP
    have HO4 := Lib.hid hO4
    have hgb2 := hgb
    clear hO4 hKP HO3 hkl
    go_loopg [6, 18] 64 (fun gk v6 v18 wr => ∃ i : Nat, i + gk = 64 ∧ v18 = .int .i64 (i : Int) ∧ Hid (Kd.R (Kd.int .u8) 5 wr w.heap.size (fun _ => True) (.slice (some ⟨g, 0, none⟩) 64 cv) (half (keyP ys) x i)) ∧ Below w.heap.size w wr)
    case atStart => exact ⟨0, by omega, rfl, HO4, hb3⟩
    case round =>
      obtain ⟨i, hi, rfl, hO, hb⟩ := hrel
      have HI := Lib.hid hi
      clear HO4 hb3
      by_cases hlt : (i : Int) < 64
      · have hdec := decide_eq_true hlt
        have hlt2 : i < 64 := by omega
        have ei : IntKind.i64.wrap ((i : Int) + 1) = (i : Int) + 1 := IntWalk.i64_in _ (by omega)
        have hcf := Kd.R_celln (enc := Value.int .u8) (h1 := fun _ => rfl) (0 : Int) hO.out (i : Int) (by omega) (by omega)
        have hget : rdOf (0 : Int) (half (keyP ys) x i) (i : Int) = (keyP ys).getD i 0 := by unfold rdOf; rw [Int.toNat_natCast]; exact half_get _ _ _ (by rw [keyP_len]; exact hlt2)
        rw [hget, Int.toNat_natCast] at hcf
        obtain ⟨b, hbe⟩ : ∃ b, b = (keyP ys).getD i 0 := ⟨_, rfl⟩
        rw [← hbe] at hcf
        have hx1 := hcf.1
        have hx2 := hcf.2
        have HBE := Lib.hid hbe
        clear hget hcf hbe hi
        go_wp2
        go_roundg (64 - (i + 1))
        case measure => have := HI.out; omega
        case rel =>
          refine ⟨i + 1, by have := HI.out; omega, by go_num, ?_, hb.setCell (p := ⟨g, i, none⟩) hgb2 _⟩
          have h5 := Kd.R_putn (enc := Value.int .u8) (h1 := fun _ => rfl) hO.out (i : Int) (xorb x b)
          rw [Int.toNat_natCast, HBE.out, half_set _ _ _ (by rw [keyP_len]; exact hlt2), ← HBE.out] at h5
          exact h5
      · obtain rfl : i = 64 := by omega
        have hfin : half (keyP ys) x 64 = keyB ys x := by
          have := half_all (keyP ys) x
          rw [keyP_len] at this
          exact this
        rw [hfin] at hO
        have hdec := decide_eq_false hlt
        clear hi
        go_wp2
        go_ret
        exact ⟨_, rfl, hO.out, hb⟩
  · have hd := decide_eq_false gt
    have hK : keyK ys = ys := by unfold keyK; rw [if_neg (by omega)]
    have HK := Lib.hid hK
    have HC1 : Hid ((Kd.int .u8).C w A ys.length ys) := by rw [hm]; exact HC.out
    rw [← hm] at hd ⊢
    clear hm hK
    go_enter Tryd.func95, Tryd.ntmps95
    go_wp2_with (first
      | (refine Kd.R_make (Kd.int .u8) (w0 := w) (W := w) w.heap.size 5 rfl rfl 22 _ _ rfl 64 rfl rfl Tryd.underlying22 (.int .u8 0) 1 infoU8 rfl (by decide) (by decide) (0 : Int) (ok := fun _ => True) (okp := fun _ => False) rfl (fun _ h => h.elim) trivial (by decide) (by decide) (Below.refl w.heap.size w) ((Below.refl w.heap.size w)).size ?_
         intro v2 w2 hO2 hb2 hg2 _
         obtain ⟨g, cv, rfl, hgb, _⟩ := Kd.R_form hO2 (by decide)
         have hbg := below_grown0 hg2
         have HO2 := Lib.hid hO2
         clear hO2)
      | (refine Kd.R_copy (enc := Value.int .u8) (h1 := fun _ => rfl) (0 : Int) (w0 := w) (W := w2) w.heap.size rfl (.tmp 13) (.tmp 14) 22 22 5 rfl Tryd.underlying22 (by kernel_rfl) (.slice (some ⟨g, 0, none⟩) 64 cv) (List.replicate 64 0) ys A ys.length _ (fun _ => True) rfl rfl HO2.out (Kd.C_below HC1.out hbg) hb2 hb2.size ?_
         intro w3 hO3 hb3 _
         have HO3 := Lib.hid hO3
         clear hO3)
      )
    have hkl : (ys).length ≤ 64 := by have := keyK_len ys; rw [HK.out] at this; exact this
    have hO4 := HO3.out
    rw [copy_key _ hkl] at hO4
    have hKP : keyP ys = ys ++ List.replicate (64 - (ys).length) 0 := by unfold keyP; rw [HK.out]
    rw [← hKP] at hO4
    have HKP := Lib.hid hKP
    have HO4 := Lib.hid hO4
    have hgb2 := hgb
    clear hO4 hKP HO3 hkl
    go_loopg [6, 18] 64 (fun gk v6 v18 wr => ∃ i : Nat, i + gk = 64 ∧ v18 = .int .i64 (i : Int) ∧ Hid (Kd.R (Kd.int .u8) 5 wr w.heap.size (fun _ => True) (.slice (some ⟨g, 0, none⟩) 64 cv) (half (keyP ys) x i)) ∧ Below w.heap.size w wr)
    case atStart => exact ⟨0, by omega, rfl, HO4, hb3⟩
    case round =>
      obtain ⟨i, hi, rfl, hO, hb⟩ := hrel
      have HI := Lib.hid hi
      clear HO4 hb3
      by_cases hlt : (i : Int) < 64
      · have hdec := decide_eq_true hlt
        have hlt2 : i < 64 := by omega
        have ei : IntKind.i64.wrap ((i : Int) + 1) = (i : Int) + 1 := IntWalk.i64_in _ (by omega)
        have hcf := Kd.R_celln (enc := Value.int .u8) (h1 := fun _ => rfl) (0 : Int) hO.out (i : Int) (by omega) (by omega)
        have hget : rdOf (0 : Int) (half (keyP ys) x i) (i : Int) = (keyP ys).getD i 0 := by unfold rdOf; rw [Int.toNat_natCast]; exact half_get _ _ _ (by rw [keyP_len]; exact hlt2)
        rw [hget, Int.toNat_natCast] at hcf
        obtain ⟨b, hbe⟩ : ∃ b, b = (keyP ys).getD i 0 := ⟨_, rfl⟩
        rw [← hbe] at hcf
        have hx1 := hcf.1
        have hx2 := hcf.2
        have HBE := Lib.hid hbe
        clear hget hcf hbe hi
        go_wp2
        go_roundg (64 - (i + 1))
        case measure => have := HI.out; omega
        case rel =>
          refine ⟨i + 1, by have := HI.out; omega, by go_num, ?_, hb.setCell (p := ⟨g, i, none⟩) hgb2 _⟩
          have h5 := Kd.R_putn (enc := Value.int .u8) (h1 := fun _ => rfl) hO.out (i : Int) (xorb x b)
          rw [Int.toNat_natCast, HBE.out, half_set _ _ _ (by rw [keyP_len]; exact hlt2), ← HBE.out] at h5
          exact h5
      · obtain rfl : i = 64 := by omega
        have hfin : half (keyP ys) x 64 = keyB ys x := by
          have := half_all (keyP ys) x
          rw [keyP_len] at this
          exact this
        rw [hfin] at hO
        have hdec := decide_eq_false hlt
        clear hi
        go_wp2
        go_ret
        exact ⟨_, rfl, hO.out, hb⟩
end Go.Proofs.YtpeebjnfmlfocaaDoor.Dig

namespace Go.Proofs.YtpeebjnfmlfocaaDoor.Dig
open Go.RowKit Go.UW Go.Proofs.YtpeebjnfmlfocaaDoorW.PrintWords Go.Proofs.YtpeebjnfmlfocaaDoorW.PrintLast Go.Proofs.YtpeebjnfmlfocaaDoorW.PrintMore
set_option linter.unusedVariables false

abbrev Part := Option Addr × Nat × List Int
/-- a row of slices of bytes: where each lies, its capacity, what it reads -/
def PRow (w : World) (P : Option Addr) (ps : List Part) : Prop := ∀ j, j < ps.length → ∃ ad A c l, P = some ad ∧ ps[j]? = some (A, c, l) ∧ w.cell? (ad.add j) = some (.slice A l.length c) ∧ (Kd.int .u8).C w A l.length l ∧ l.length ≤ c ∧ (∀ x ∈ l, 0 ≤ x ∧ x ≤ 255) ∧ l.length ≤ 536870912
theorem PRow.below {w w1 : World} {P : Option Addr} {ps : List Part} (h : PRow w P ps) (hb : Below w.heap.size w w1) : PRow w1 P ps := fun j hj => by
  obtain ⟨ad, A, c, l, h1, h2, h3, h4, h5, h6, h7⟩ := h j hj
  exact ⟨ad, A, c, l, h1, h2, (hb.cell (World.block_lt_of_cell? w _ h3)).trans h3, Kd.C_below h4 hb, h5, h6, h7⟩
def cat (ps : List Part) : List Int := ps.flatMap fun p => p.2.2
theorem cat_push (ps : List Part) (i : Nat) (A : Option Addr) (c : Nat) (l : List Int) (h : ps[i]? = some (A, c, l)) : cat (ps.take (i + 1)) = cat (ps.take i) ++ l := by
  have hi : i < ps.length := (List.getElem?_eq_some_iff.1 h).1
  rw [List.take_succ_eq_append_getElem hi, cat, cat, List.flatMap_append]
  rw [List.getElem?_eq_getElem hi] at h
  rw [Option.some.inj h]
  simp
theorem sha_rg2 (l : List Int) : ∀ x ∈ sha l, 0 ≤ x ∧ x ≤ 255 := by
  intro x hx
  unfold sha outB at hx
  obtain ⟨u, _, hx⟩ := List.mem_flatMap.1 hx
  unfold be4 at hx
  obtain ⟨j, _, rfl⟩ := List.mem_map.1 hx
  omega
def hmac (key b : List Int) : List Int := sha (keyB key 92 ++ sha (keyB key 54 ++ b))

set_option maxHeartbeats 4000000 in
set_option maxRecDepth 100000 in
theorem msum_any (A : Option Addr) (m c : Nat) (ys : List Int) (P : Option Addr) (cp : Nat) (ps : List Part) (w : World) (hG : Glob w) (hC : (Kd.int .u8).C w A m ys) (hmc : m ≤ c) (hy : ∀ z ∈ ys, 0 ≤ z ∧ z ≤ 255) (hl : m ≤ 536870912) (hP : PRow w P ps) (hps : ps.length ≤ 3) (hcp : ps.length ≤ cp) (hcat : (cat ps).length ≤ 1073741824) :
    Calls Tryd.prog 52 #[.slice A m c, .slice P ps.length cp] w fun e w' => ∃ v : Value, e = .returned v ∧ Kd.R (Kd.int .u8) 5 w' w.heap.size (fun _ => True) v (hmac ys (cat ps)) ∧ Below w.heap.size w w' := by
  have hgl := hG.lt
  have HC := Lib.hid hC
  have HY := Lib.hid hy
  have HP := Lib.hid hP
  have HCAT := Lib.hid hcat
  have K1 := Lib.hid (keyB_len ys 54)
  have K2 := Lib.hid (keyB_len ys 92)
  clear hC hy hP hcat
  go_enter Tryd.func52, Tryd.ntmps52
  go_wp2_with (first
    | (go_at_call 46; (with_reducible refine (new_any _).mono ?_); rintro e w1 ⟨g, rfl, hH, hb⟩; have HH := Lib.hid hH; clear hH)
    | (go_at_call 95; (with_reducible refine (block_any A m c ys 54 w1 (hG.below hb) (Kd.C_below HC.out hb) hmc HY.out (by omega)).mono ?_); rintro e w2 ⟨v2, rfl, hO2, hb2⟩; obtain ⟨A2, c2, rfl⟩ := Kd.R_slice hO2; have HO2 := Lib.hid hO2; have hb12 := hb.trans (hb2.mono hb.size); have HH2 := Lib.hid (HH.out.below hb2 (Nat.le_refl _)); clear hO2)
    | (go_at_call 47; (with_reducible refine (write_any w.heap.size g [] (keyB ys 54) A2 (keyB ys 54).length c2 w2 (hG.below hb12) hgl HH2.out (Kd.R_reads' HO2.out).2.2 (Kd.R_reads' HO2.out).2.1 (keyB_rg ys 54) (by rw [K1.out]; decide)).mono ?_); rintro e w3 ⟨rfl, hH3, hb3⟩; have HH3 := Lib.hid hH3; have hb13 := hb12.trans hb3; clear hH3))
  go_loopg [7, 16] ps.length (fun gk v7 v16 wr => ∃ i : Nat, i + gk = ps.length ∧ v16 = .int .i64 (i : Int) ∧ Hid (IsH wr w.heap.size g (keyB ys 54 ++ cat (ps.take i))) ∧ Below w.heap.size w wr)
  case atStart => exact ⟨0, by omega, rfl, by have := HH3.out; rw [List.nil_append] at this; rw [List.take_zero]; show IsH _ _ _ (_ ++ []); rw [List.append_nil]; exact this, hb13⟩
  case round =>
    obtain ⟨i, hi, rfl, hH, hbr⟩ := hrel
    have HI := Lib.hid hi
    clear HH HH2 HH3 hb hb2 hb3 hb12 hb13 HO2
    by_cases hlt : (i : Int) < (ps.length : Int)
    · have hdec := decide_eq_true hlt
      have hlt2 : i < ps.length := by omega
      have ei : IntKind.i64.wrap ((i : Int) + 1) = (i : Int) + 1 := IntWalk.i64_in _ (by omega)
      obtain ⟨ad, Ai, ci, li, rfl, hpi, hcell, hCi, hci, hri, hli⟩ := (HP.out.below hbr) i hlt2
      have HPI := Lib.hid hpi
      have HCI := Lib.hid hCi
      have HRI := Lib.hid hri
      have hle : (keyB ys 54 ++ cat (ps.take i)).length + li.length ≤ 2147483648 := by
        have h1 : (cat (ps.take i)).length ≤ (cat ps).length := by
          conv => rhs; rw [← List.take_append_drop i ps]
          unfold cat
          rw [List.flatMap_append, List.length_append]
          omega
        have := HCAT.out
        rw [List.length_append, K1.out]
        omega
      have HLE := Lib.hid hle
      clear hpi hCi hri hle hi
      go_wp2_with (go_at_call 47; (with_reducible refine (write_any w.heap.size g (keyB ys 54 ++ cat (ps.take i)) li Ai li.length ci wr (hG.below hbr) hgl hH.out HCI.out hci HRI.out HLE.out).mono ?_); rintro e w4 ⟨rfl, hH4, hb4⟩; have HH4 := Lib.hid hH4; clear hH4)
      go_roundg (ps.length - (i + 1))
      case measure => have := HI.out; omega
      case rel =>
        refine ⟨i + 1, by have := HI.out; omega, by go_num, ?_, hbr.trans hb4⟩
        rw [cat_push _ _ _ _ _ HPI.out, ← List.append_assoc]
        exact HH4.out
    · have hdec := decide_eq_false hlt
      have hie : i = ps.length := by omega
      rw [hie, List.take_length] at hH
      have hle : (keyB ys 54 ++ cat ps).length ≤ 2000000000 := by have := HCAT.out; rw [List.length_append, K1.out]; omega
      clear hi hie
      have HLE := Lib.hid hle
      clear hle
      go_wp2_with (first
        | (go_at_call 46; (with_reducible refine (new_any _).mono ?_); rintro e w5 ⟨g5, rfl, hH5, hb5⟩; have HH5 := Lib.hid hH5; clear hH5)
        | (go_at_call 95; (with_reducible refine (block_any A m c ys 92 w5 (hG.below (hbr.trans (hb5.mono hbr.size))) (Kd.C_below HC.out (hbr.trans (hb5.mono hbr.size))) hmc HY.out (by omega)).mono ?_); rintro e w6 ⟨v6, rfl, hO6, hb6⟩; obtain ⟨A6, c6, rfl⟩ := Kd.R_slice hO6; have HO6 := Lib.hid hO6; have hb56 := hb5.trans (hb6.mono hb5.size); have HH6 := Lib.hid (HH5.out.below hb6 (Nat.le_refl _)); clear hO6)
        | (go_at_call 47; (with_reducible refine (write_any wr.heap.size g5 [] (keyB ys 92) A6 (keyB ys 92).length c6 w6 (hG.below (hbr.trans (hb56.mono hbr.size))) (Nat.lt_of_lt_of_le hgl hbr.size) HH6.out (Kd.R_reads' HO6.out).2.2 (Kd.R_reads' HO6.out).2.1 (keyB_rg ys 92) (by rw [K2.out]; decide)).mono ?_); rintro e w7 ⟨rfl, hH7, hb7⟩; have HH7 := Lib.hid hH7; have hb57 := hb56.trans hb7; have HHI := Lib.hid (hH.out.below hb57 (Nat.le_refl _)); clear hH7)
        | (go_at_call 48; (with_reducible refine (sum_any w.heap.size g (keyB ys 54 ++ cat ps) w7 (hG.below (hbr.trans (hb57.mono hbr.size))) HHI.out).mono ?_); rintro e w8 ⟨v8, rfl, hO8, hb8⟩; obtain ⟨A8, c8, rfl⟩ := Kd.R_slice hO8; have HO8 := Lib.hid hO8; have HH8 := Lib.hid (HH7.out.below hb8 (Nat.le_refl _)); have hb58 := hb57.trans (hb8.mono hb57.size); clear hO8)
        | (go_at_call 47; (with_reducible refine (write_any wr.heap.size g5 ([] ++ keyB ys 92) (sha (keyB ys 54 ++ cat ps)) A8 (sha (keyB ys 54 ++ cat ps)).length c8 w8 (hG.below (hbr.trans (hb58.mono hbr.size))) (Nat.lt_of_lt_of_le hgl hbr.size) HH8.out (Kd.R_reads' HO8.out).2.2 (Kd.R_reads' HO8.out).2.1 (sha_rg2 _) (by rw [List.nil_append, K2.out, sha_len]; decide)).mono ?_); rintro e w9 ⟨rfl, hH9, hb9⟩; have HH9 := Lib.hid hH9; have hb59 := hb58.trans hb9; clear hH9)
        | (go_at_call 48; (with_reducible refine (sum_any wr.heap.size g5 ([] ++ keyB ys 92 ++ sha (keyB ys 54 ++ cat ps)) w9 (hG.below (hbr.trans (hb59.mono hbr.size))) HH9.out).mono ?_); rintro e w10 ⟨v10, rfl, hO10, hb10⟩))
      go_ret
      have hbz := hbr.trans (hb59.mono hbr.size)
      exact ⟨_, rfl, Kd.R_lower hO10 hbz.size, hbz.trans (hb10.mono hbz.size)⟩
end Go.Proofs.YtpeebjnfmlfocaaDoor.Dig

namespace Go.UW
open Go Go.RowKit

/-- all but the two blocks of book-keeping, D and D + 1, lies as it lay -/
structure But2 (D : Nat) (X Y : World) : Prop where
  os : Y.os = X.os
  tape : Y.tape = X.tape
  output : Y.output = X.output
  size : X.heap.size ≤ Y.heap.size
  block : ∀ k, k < X.heap.size → k ≠ D → k ≠ D + 1 → Y.heap[k]? = X.heap[k]?
theorem But2.of_below {D : Nat} {X Y : World} (h : Below X.heap.size X Y) : But2 D X Y := ⟨h.os, h.tape, h.output, h.size, fun k hk _ _ => h.block k hk⟩
theorem But2.put {D : Nat} {X : World} {k : Nat} (o : Obj) (h : k = D ∨ k = D + 1) : But2 D X (X.putObj k o) :=
  ⟨rfl, rfl, rfl, by simp [World.putObj], fun j _ h1 h2 => World.putObj_heap_other (by rcases h with h | h <;> omega)⟩

/-- how a round may be left -/
def roundQ {α : Type} (I : Nat → World → Prop) (Qy : Nat → α → World → Prop) (Ix : Code → World → Prop) (i : Nat) (x : α) (W : World) : Exit → Act → World → Prop
  | .normal, _, V => KeepsOthers W V ∧ I (i + 1) V ∧ Qy i x V
  | .ret, _, V => KeepsOthers W V ∧ Ix .ret V
  | .exit id, _, V => KeepsOthers W V ∧ Ix (.exit id) V
  | .goto t, _, V => KeepsOthers W V ∧ Ix (.goto t) V
  | .panic _, _, _ => False
  | .outgrown, _, _ => False

theorem range_q {P : Program} {α : Type} {g : Operand} {ps : Array Tmp} {assign body : Code} {Q : Exit → Act → World → Prop} {a : Act} {w : World} {n gf : Nat} {lb : Array Value}
    (hg : a.eval g = .func (.func gf) #[] lb) (eg : ∀ args W, (callFunc gf args).run P W = .ok (.enter gf args) W)
    (encs : α → Array Value) (hps : ∀ x, (encs x).size = ps.size)
    (I : Nat → World → Prop) (Qx Qy : Nat → α → World → Prop) (Ix : Code → World → Prop) (N : Nat)
    (hI : ∀ i X Y, But2 w.heap.size X Y → I i X → I i Y) (hQx : ∀ i x X Y, But2 w.heap.size X Y → Qx i x X → Qx i x Y) (hQy : ∀ i x X Y, But2 w.heap.size X Y → Qy i x X → Qy i x Y) (hIx : ∀ c X Y, But2 w.heap.size X Y → Ix c X → Ix c Y)
    (h0 : I 0 w) (a₁ : α → Act)
    (hseq : ∀ (l : Nat) (J : Nat → World → Prop) (Jx : World → Prop) (W : World), J 0 W → (∀ i X Y, J i X → Below X.heap.size X Y → J i Y) → (∀ i X, J i X → I i X ∧ w.heap.size + 2 ≤ X.heap.size) →
      (∀ i x Y, i < N → J i Y → Qx i x Y → YieldAt Fence.wide (n - 1 - 1) P l (encs x) Y fun e V => (e = .returned (.bool true) ∧ J (i + 1) V ∧ Qy i x V) ∨ (e = .returned (.bool false) ∧ Jx V)) →
      CallsIn Fence.wide (n - 1) P gf (#[.func (.yield l) #[] #[]] ++ lb) W fun e V => (∃ v, e = .returned v) ∧ (J N V ∨ Jx V))
    (hassign : ∀ (l : Nat) (x : α) (W : World) (K : Act → World → Prop), K (a₁ x) W →
      assign.wpIn (Fence.wide.inRound l) (n - 1 - 1) P (Exit.then K (fun _ _ _ => False)) { tmps := (ps.zip (encs x)).foldl (fun t (p, v) => t.setIfInBounds p v) a.tmps, defers := [] } W)
    (hbody : ∀ (l i : Nat) (x : α) (W : World), i < N → I i W → Qx i x W → body.wpIn (Fence.wide.inRound l) (n - 1 - 1) P (roundQ I Qy Ix i x W) (a₁ x) W)
    (hdone : ∀ W, I N W → W.heap[w.heap.size]? = some (.deferred (some [])) → Q .normal { a with defers := { target := .collected w.heap.size, args := #[] } :: a.defers } W)
    (hstop : ∀ c W, Ix c W → W.heap[w.heap.size]? = some (.deferred (some [])) → c.wpIn Fence.wide n P Q { a with defers := { target := .collected w.heap.size, args := #[] } :: a.defers } W) :
    (Code.rangeFunc g ps assign body).wpIn Fence.wide n P Q a w := by
  obtain ⟨D, hD⟩ : ∃ D, D = w.heap.size := ⟨_, rfl⟩
  rw [← hD] at hI hQx hQy hIx hdone hstop
  refine wpIn_rangeFunc fun fn _ => ?_
  -- the record of the loop, at each of its states
  let rc : LoopState → Option Code → Loop := fun st pe => { state := st, pending := pe, fn, tmps := a.tmps, params := ps, assign, body, defers := D }
  let V0 : World := (w.alloc (.deferred (some []))).alloc (.loop (rc .ready none))
  have hs1 : (w.alloc (.deferred (some []))).heap.size = D + 1 := by rw [World.size_alloc, hD]
  have hrec0 : V0.heap[D + 1]? = some (.loop (rc .ready none)) := by
    have := World.alloc_heap_new (w.alloc (.deferred (some []))) (.loop (rc .ready none))
    rwa [hs1] at this
  have hdef0 : V0.heap[D]? = some (.deferred (some [])) := by
    have := World.alloc_heap_new w (.deferred (some []))
    rw [← hD] at this
    exact (Below.heap_alloc _ _ _ (by rw [hs1]; omega)).trans this
  have hbel : Below w.heap.size w V0 := ((Below.refl _ w).alloc (Nat.le_refl _) _).alloc (by rw [hs1]; omega) _
  refine ⟨D + 1, [{ target := .collected D, args := #[] }], V0, { target := .fn (.func gf) lb, args := #[.func (.yield (D + 1)) #[] #[]] }, V0, gf, #[.func (.yield (D + 1)) #[] #[]] ++ lb, V0, ?_, ?_, ?_, ?_, ?_, ?_⟩
  · have := run_enterLoop_outer (P := P) (w := w) fn a.tmps ps assign body
    rw [← hD] at this
    exact this
  · simp only [resolve, hg]
    simp [go_sem]
  · exact fun _ _ => trivial
  · simp [invoke, go_sem, eg]
  · intro h; exact absurd h (by decide)
  let J : Nat → World → Prop := fun i W => I i W ∧ W.heap[D + 1]? = some (.loop (rc .ready none)) ∧ W.heap[D]? = some (.deferred (some []))
  let Jx : World → Prop := fun W => ∃ c, Ix c W ∧ W.heap[D + 1]? = some (.loop (rc .done (some c))) ∧ W.heap[D]? = some (.deferred (some []))
  have lt_of : ∀ {W : World} {k : Nat} {o : Obj}, W.heap[k]? = some o → k < W.heap.size := fun h => (Array.getElem?_eq_some_iff.1 h).1
  have hround : ∀ i x Y, i < N → J i Y → Qx i x Y → YieldAt Fence.wide (n - 1 - 1) P (D + 1) (encs x) Y fun e V => (e = .returned (.bool true) ∧ J (i + 1) V ∧ Qy i x V) ∨ (e = .returned (.bool false) ∧ Jx V) := by
    rintro i x Y hi ⟨hIi, hl, hk⟩ hq
    have hy := run_yield (P := P) (args := encs x) hl (hps x)
    refine ⟨fn, _, assign, body, hy, roundIn_of_wpIn trivial (hassign _ x Y _ ?_)⟩
    refine ⟨_, run_beginRound hl rfl, ?_⟩
    obtain ⟨Z, hZ⟩ : ∃ Z, Z = Y.putObj (D + 1) (.loop (rc .busy none)) := ⟨_, rfl⟩
    have hYZ : But2 D Y Z := by rw [hZ]; exact But2.put _ (.inr rfl)
    have hlZ : Z.heap[D + 1]? = some (.loop (rc .busy none)) := by rw [hZ]; exact World.putObj_heap_same (lt_of hl)
    have hkZ : Z.heap[D]? = some (.deferred (some [])) := by rw [hZ]; exact (World.putObj_heap_other (by omega)).trans hk
    show body.wpIn _ _ P _ (a₁ x) (Y.putObj (D + 1) (.loop (rc .busy none)))
    rw [← hZ]
    refine wpIn_mono (hbody (D + 1) i x Z hi (hI _ _ _ hYZ hIi) (hQx _ _ _ _ hYZ hq)) ?_
    have fin : ∀ (jump : Option Code) (V : World), KeepsOthers Z V → ∃ U, (Instr.endRound (D + 1) jump).run P V = .ok (.bool jump.isNone) U ∧ But2 D V U ∧ U.heap[D + 1]? = some (.loop (rc (if jump.isNone then .ready else .done) jump)) ∧ U.heap[D]? = some (.deferred (some [])) := by
      intro jump V hV
      have hlV := hV.same _ _ hlZ rfl
      have hkV := hV.same _ _ hkZ rfl
      exact ⟨_, run_endRound (P := P) jump hlV, But2.put _ (.inr rfl), World.putObj_heap_same (lt_of hlV), (World.putObj_heap_other (by omega)).trans hkV⟩
    have leave : ∀ (c : Code) (V : World), KeepsOthers Z V → Ix c V → ∃ U, (Instr.endRound (D + 1) (some c)).run P V = .ok (.bool false) U ∧ Jx U := by
      intro c V hV hc
      obtain ⟨U, h1, h2, h3, h4⟩ := fin (some c) V hV
      exact ⟨U, h1, c, hIx _ _ _ h2 hc, h3, h4⟩
    rintro e b V hp
    cases e with
    | normal =>
      obtain ⟨hV, hi', hq'⟩ := hp
      obtain ⟨U, h1, h2, h3, h4⟩ := fin none V hV
      exact ⟨_, _, h1, .inl ⟨rfl, ⟨hI _ _ _ h2 hi', h3, h4⟩, hQy _ _ _ _ h2 hq'⟩⟩
    | ret => obtain ⟨U, h1, h2⟩ := leave .ret V hp.1 hp.2; exact ⟨_, _, h1, .inr ⟨rfl, h2⟩⟩
    | exit id => obtain ⟨U, h1, h2⟩ := leave (.exit id) V hp.1 hp.2; exact ⟨_, _, h1, .inr ⟨rfl, h2⟩⟩
    | goto t => obtain ⟨U, h1, h2⟩ := leave (.goto t) V hp.1 hp.2; exact ⟨_, _, h1, .inr ⟨rfl, h2⟩⟩
    | panic c => exact hp.elim
    | outgrown => exact hp.elim
  refine (hseq (D + 1) J Jx V0 ⟨hI _ _ _ (But2.of_below hbel) h0, hrec0, hdef0⟩ ?_ (fun _ _ h => ⟨h.1, by rw [← hD]; exact lt_of h.2.1⟩) hround).mono ?_
  · rintro i X Y ⟨h1, h2, h3⟩ hb
    exact ⟨hI _ _ _ (But2.of_below hb) h1, (hb.block _ (lt_of h2)).trans h2, (hb.block _ (lt_of h3)).trans h3⟩
  · rintro e V ⟨⟨v, rfl⟩, (⟨h1, h2, h3⟩ | ⟨c, h1, h2, h3⟩)⟩
    · exact ⟨none, _, run_endLoop (P := P) h2 (by simp [rc]), hdone _ (hI _ _ _ (But2.put _ (.inr rfl)) h1) ((World.putObj_heap_other (by omega)).trans h3)⟩
    · exact ⟨some c, _, run_endLoop (P := P) h2 (by simp [rc]), hstop c _ (hIx _ _ _ (But2.put _ (.inr rfl)) h1) ((World.putObj_heap_other (by omega)).trans h3)⟩
end Go.UW

namespace Go.Proofs.YtpeebjnfmlfocaaDoor.Dig
open Go.RowKit Go.Shelf Go.UW Go.Proofs.YtpeebjnfmlfocaaDoorW.PrintWords Go.Proofs.YtpeebjnfmlfocaaDoorW.PrintLast Go.Proofs.YtpeebjnfmlfocaaDoorW.PrintMore
attribute [local go_sem] Oper.semAt_some
set_option linter.unusedVariables false

/-- the i-th block of a key -/
def tb (key info : List Int) : Nat → List Int
  | 0 => []
  | i + 1 => hmac key (tb key info i ++ info ++ [((i + 1 : Nat) : Int)])
theorem hmac_len (k b : List Int) : (hmac k b).length = 32 := sha_len _
theorem hmac_rg (k b : List Int) : ∀ x ∈ hmac k b, 0 ≤ x ∧ x ≤ 255 := sha_rg2 _
theorem tb_len (k b : List Int) (i : Nat) : (tb k b i).length ≤ 32 := by
  cases i with
  | zero => simp [tb]
  | succ i => rw [tb, hmac_len]; decide
theorem tb_rg (k b : List Int) (i : Nat) : ∀ x ∈ tb k b i, 0 ≤ x ∧ x ≤ 255 := by
  cases i with
  | zero => intro x h; cases h
  | succ i => exact hmac_rg _ _

set_option maxHeartbeats 4000000 in
set_option maxRecDepth 100000 in
theorem blocks_in (n l : Nat) (kb ib : Addr) (A : Option Addr) (m c : Nat) (ys : List Int) (A2 : Option Addr) (m2 c2 : Nat) (zs : List Int) (W : World)
    (J : Nat → World → Prop) (Jx : World → Prop) (Qx Qy : Nat → Option Addr × Nat → World → Prop)
    (hGd : ∀ i X, J i X → Glob X ∧ X.cell? kb = some (.slice A m c) ∧ X.cell? ib = some (.slice A2 m2 c2) ∧ (Kd.int .u8).C X A m ys ∧ (Kd.int .u8).C X A2 m2 zs)
    (hmc : m ≤ c) (hy : ∀ z ∈ ys, 0 ≤ z ∧ z ≤ 255) (hl : m ≤ 1048576) (hmc2 : m2 ≤ c2) (hy2 : ∀ z ∈ zs, 0 ≤ z ∧ z ≤ 255) (hl2 : m2 ≤ 1048576)
    (hJ : ∀ i X Y, J i X → Below X.heap.size X Y → J i Y)
    (hQ : ∀ i X Y A3 c3, J i X → Below X.heap.size X Y → Kd.R (Kd.int .u8) 5 Y X.heap.size (fun _ => True) (.slice A3 32 c3) (tb ys zs (i + 1)) → Qx i (A3, c3) Y)
    (hQy : ∀ i x V, Qy i x V → (Kd.int .u8).C V x.1 32 (tb ys zs (i + 1)) ∧ 32 ≤ x.2)
    (hYd : ∀ i x Y, i < 255 → J i Y → Qx i x Y → YieldAt Fence.wide (n - 1) Tryd.prog l #[.slice x.1 32 x.2] Y fun e V => (e = .returned (.bool true) ∧ J (i + 1) V ∧ Qy i x V) ∨ (e = .returned (.bool false) ∧ Jx V))
    (h0 : J 0 W) :
    CallsIn Fence.wide n Tryd.prog 94 #[.func (.yield l) #[] #[], .pointer (some kb), .pointer (some ib)] W fun e V => (∃ v, e = .returned v) ∧ (J 255 V ∨ Jx V) := by
  have HGD := Lib.hid hGd
  have HY := Lib.hid hy
  have HY2 := Lib.hid hy2
  have HJ := Lib.hid hJ
  have HQ := Lib.hid hQ
  have HQY := Lib.hid hQy
  have HYD := Lib.hid hYd
  clear hGd hy hy2 hJ hQ hQy hYd
  refine callsIn_of_wp Tryd.func94 rfl trivial ?_ rfl
  simp only [Tryd.ntmps94, List.size_toArray, List.length_cons, List.length_nil, Nat.reduceAdd, Nat.reduceSub, Array.replicate_succ, Array.replicate_zero, List.push_toArray, List.append_toArray, List.nil_append, List.cons_append]
  gi_wp2
  gi_loopw [4, 5] (fun v4 v5 wr => ∃ (q : Nat) (A3 : Option Addr) (c3 : Nat), q ≤ 255 ∧ v4 = .slice A3 (tb ys zs q).length c3 ∧ v5 = .int .i64 ((q : Int) + 1) ∧ (tb ys zs q).length ≤ c3 ∧ Hid ((Kd.int .u8).C wr A3 (tb ys zs q).length (tb ys zs q)) ∧ J q wr) (fun v4 v5 wr => 256 - (intOf v5).toNat)
  case atStart => exact ⟨0, none, 0, by omega, rfl, rfl, Nat.le_refl _, (Kd.R_reads' (Kd.R_nil (Kd.int .u8) 5 W W.heap.size (fun _ => True))).2.2, h0⟩
  case round =>
    obtain ⟨q, A3, c3, hq, rfl, rfl, hc3, hC3, hJq⟩ := hrel
    obtain ⟨hG, hkc, hic, hCk, hCi⟩ := HGD.out q wr hJq
    have HG := Lib.hid hG
    clear hG
    by_cases hlt : (q : Int) + 1 ≤ 255
    · have hdec := decide_eq_true hlt
      have e8 : IntKind.u8.wrap ((q : Int) + 1) = (q : Int) + 1 := by rw [IntKind.wrap_u8]; omega
      have ei : IntKind.i64.wrap ((q : Int) + 1 + 1) = (q : Int) + 1 + 1 := IntWalk.i64_in _ (by omega)
      obtain ⟨Wp, hWp⟩ : ∃ Wp, Wp = (wr.alloc (.cells #[.int .u8 ((q : Int) + 1)] 5)).alloc (.cells #[.slice A3 (tb ys zs q).length c3, .slice A2 m2 c2, .slice (some ⟨wr.heap.size, 0, none⟩) 1 1] 22) := ⟨_, rfl⟩
      have hs1 : (wr.alloc (.cells #[.int .u8 ((q : Int) + 1)] 5)).heap.size = wr.heap.size + 1 := World.size_alloc _ _
      have hbp : Below wr.heap.size wr Wp := by rw [hWp]; exact ((Below.refl _ wr).alloc (Nat.le_refl _) _).alloc (by rw [hs1]; omega) _
      have hm2 := Kd.C_len hCi
      have hcells : ∀ j u, #[Value.slice A3 (tb ys zs q).length c3, .slice A2 m2 c2, .slice (some ⟨wr.heap.size, 0, none⟩) 1 1][j]? = some u → Wp.cell? ((⟨wr.heap.size + 1, 0, none⟩ : Addr).add j) = some u := by
        intro j u hj
        rw [hWp, Addr.add_lit, Nat.zero_add]
        have := heap_alloc_new (wr.alloc (.cells #[.int .u8 ((q : Int) + 1)] 5)) (.cells #[.slice A3 (tb ys zs q).length c3, .slice A2 m2 c2, .slice (some ⟨wr.heap.size, 0, none⟩) 1 1] 22)
        rw [hs1] at this
        unfold World.cell?
        rw [this]
        exact hj
      have hbyte : (Kd.int .u8).C Wp (some ⟨wr.heap.size, 0, none⟩) 1 [(q : Int) + 1] := by
        rw [hWp]
        exact Kd.C_below (C_box wr ((q : Int) + 1)) ((Below.refl _ _).alloc (Nat.le_refl _) _)
      have hPR : PRow Wp (some ⟨wr.heap.size + 1, 0, none⟩) [(A3, c3, tb ys zs q), (A2, c2, zs), (some ⟨wr.heap.size, 0, none⟩, 1, [(q : Int) + 1])] := by
        have hl32 := tb_len ys zs q
        intro j hj
        match j, hj with
        | 0, _ => exact ⟨_, A3, c3, tb ys zs q, rfl, rfl, hcells 0 _ rfl, Kd.C_below hC3.out hbp, hc3, tb_rg ys zs q, by omega⟩
        | 1, _ => exact ⟨_, A2, c2, zs, rfl, rfl, by rw [hm2]; exact hcells 1 _ rfl, by rw [hm2]; exact Kd.C_below hCi hbp, by omega, HY2.out, by omega⟩
        | 2, _ => exact ⟨_, _, 1, [(q : Int) + 1], rfl, rfl, hcells 2 _ rfl, hbyte, Nat.le_refl _, by intro x hx; rw [List.mem_singleton] at hx; omega, (by show 1 ≤ 536870912; decide)⟩
        | j + 3, hj => exact absurd hj (by show ¬ j + 3 < 3; omega)
      have hcat : cat [(A3, c3, tb ys zs q), (A2, c2, zs), ((some ⟨wr.heap.size, 0, none⟩ : Option Addr), 1, [(q : Int) + 1])] = tb ys zs q ++ zs ++ [((q + 1 : Nat) : Int)] := by simp [cat]
      have hms : Calls Tryd.prog 52 #[.slice A m c, .slice (some ⟨wr.heap.size + 1, 0, none⟩) 3 3] Wp fun e w' => ∃ v : Value, e = .returned v ∧ Kd.R (Kd.int .u8) 5 w' Wp.heap.size (fun _ => True) v (tb ys zs (q + 1)) ∧ Below Wp.heap.size Wp w' := by
        have := msum_any A m c ys (some ⟨wr.heap.size + 1, 0, none⟩) 3 [(A3, c3, tb ys zs q), (A2, c2, zs), (some ⟨wr.heap.size, 0, none⟩, 1, [(q : Int) + 1])] Wp (HG.out.below hbp) (Kd.C_below hCk hbp) hmc HY.out (by omega) hPR (show (3 : Nat) ≤ 3 from Nat.le_refl 3) (show (3 : Nat) ≤ 3 from Nat.le_refl 3) (by rw [hcat]; have := tb_len ys zs q; simp only [List.length_append, List.length_cons, List.length_nil]; omega)
        rw [hcat] at this
        exact this
      clear hcells hbyte hPR hcat hCk hCi hm2
      have HMS := Lib.hid hms
      have HBP := Lib.hid hbp
      clear hms hbp hs1
      gi_wp2
      refine ⟨trivial, fun h => absurd h (by decide), ?_⟩
      rw [← hWp]
      refine (callsIn_wide.2 HMS.out).mono ?_
      rintro e w3 ⟨v, rfl, hO, hb3⟩
      have hbb : Below wr.heap.size wr w3 := HBP.out.trans (hb3.mono HBP.out.size)
      obtain ⟨A4, c4, rfl⟩ := Kd.R_slice hO
      have h32 : (tb ys zs (q + 1)).length = 32 := hmac_len _ _
      have hc4 := (Kd.R_reads' hO).2.1
      rw [h32] at hO hc4 ⊢
      have hJ3 := HJ.out q wr w3 hJq hbb
      obtain ⟨fn, tmps, assign, body, hyy, hR⟩ := HYD.out q (A4, c4) w3 (by omega) hJ3 (HQ.out q wr w3 A4 c4 hJq hbb (Kd.R_lower hO HBP.out.size))
      dsimp only at hyy
      clear hO hWp HMS HBP
      gi_wp2
      refine ⟨fun h => absurd h (by decide), hR.mono ?_⟩
      clear hR hyy
      rintro e V (⟨rfl, hJ4, hQ4⟩ | ⟨rfl, hJx4⟩)
      · have hC4 := (HQY.out q (A4, c4) V hQ4).1
        dsimp only at hC4
        gi_wp2
        go_roundw
        case rel => exact ⟨q + 1, A4, c4, by omega, by rw [h32], by go_num, by rw [h32]; exact hc4, by rw [h32]; exact hC4, hJ4⟩
        case measure => simp only [intOf]; omega
      · gi_wp2
        refine bodyPost_ret (results_none rfl _ _ _) rfl ?_
        exact ⟨⟨_, rfl⟩, .inr hJx4⟩
    · have hdec := decide_eq_false hlt
      obtain rfl : q = 255 := by omega
      gi_wp2
      go_end0
      exact ⟨⟨_, rfl⟩, .inl hJq⟩
end Go.Proofs.YtpeebjnfmlfocaaDoor.Dig

namespace Go.Proofs.YtpeebjnfmlfocaaDoor.Dig
open Go.RowKit Go.Shelf Go.UW Go.Proofs.YtpeebjnfmlfocaaDoorW.PrintWords Go.Proofs.YtpeebjnfmlfocaaDoorW.PrintLast Go.Proofs.YtpeebjnfmlfocaaDoorW.PrintMore
attribute [local go_sem] Oper.semAt_some
set_option linter.unusedVariables false

/-- the first i blocks of a key -/
def xp (key info : List Int) (i : Nat) : List Int := (List.range i).flatMap fun j => tb key info (j + 1)
theorem xp_succ (k b : List Int) (i : Nat) : xp k b (i + 1) = xp k b i ++ tb k b (i + 1) := by
  unfold xp
  rw [List.range_succ, List.flatMap_append]
  simp
theorem xp_len (k b : List Int) (i : Nat) : (xp k b i).length = 32 * i := by
  induction i with
  | zero => rfl
  | succ i ih => rw [xp_succ, List.length_append, ih, tb, hmac_len]; omega
theorem xp_take (k b : List Int) (i n d : Nat) (h : n ≤ 32 * i) : (xp k b (i + d)).take n = (xp k b i).take n := by
  induction d with
  | zero => rfl
  | succ d ih =>
    rw [← Nat.add_assoc, xp_succ, List.take_append_of_le_length (by rw [xp_len]; omega), ih]
theorem xp_rg (k b : List Int) (i : Nat) : ∀ x ∈ xp k b i, 0 ≤ x ∧ x ≤ 255 := by
  intro x hx
  obtain ⟨j, _, h⟩ := List.mem_flatMap.1 hx
  exact tb_rg k b (j + 1) x h

theorem below_put {B : Nat} {a X : World} {k : Nat} (o : Obj) (h : Below B a X) (hk : B ≤ k) : Below B a (X.putObj k o) :=
  h.trans ⟨rfl, rfl, rfl, by simp [World.putObj], fun j hj => World.putObj_heap_other (by omega)⟩
theorem below_but {B D : Nat} {a X Y : World} (h : Below B a X) (hb : But2 D X Y) (hB : B ≤ D) (hBa : B ≤ a.heap.size) : Below B a Y :=
  ⟨hb.os.trans h.os, hb.tape.trans h.tape, hb.output.trans h.output, Nat.le_trans h.size hb.size, fun k hk => (hb.block k (by have := h.size; omega) (by omega) (by omega)).trans (h.block k hk)⟩
theorem but_at {D k : Nat} {X Y : World} {o : Obj} (hb : But2 D X Y) (h : X.heap[k]? = some o) (h1 : k ≠ D) (h2 : k ≠ D + 1) : Y.heap[k]? = some o :=
  (hb.block k (Array.getElem?_eq_some_iff.1 h).1 h1 h2).trans h
theorem but_Qb {D : Nat} {X Y : World} {v : Value} {l : List Int} (hb : But2 D X Y) (h : Qb X (D + 2) v l) : Qb Y (D + 2) v l :=
  h.move fun k hk => by have := h.base_le k hk; exact hb.block k this.2.1 (by omega) (by omega)
theorem cell_of_heap {X : World} {k : Nat} {cs : Array Value} {T : TypeId} {fz : Nat × Nat} (h : X.heap[k]? = some (.cells cs T fz)) (j : Nat) : X.cell? ⟨k, j, none⟩ = cs[j]? := by
  unfold World.cell?
  rw [h]
  rfl
theorem frozen_of_heap {X : World} {k : Nat} {cs : Array Value} {T : TypeId} (h : X.heap[k]? = some (.cells cs T (0, 0))) (j : Nat) : X.frozen? ⟨k, j, none⟩ = false := by
  unfold World.frozen?
  rw [h]
  simp

theorem slice_hm (A2 : Option Addr) (n2 c2 k : Nat) (h2 : k ≤ c2) (W : World) : (Instr.slice 22 (.slice A2 n2 c2) none (some (.int .i64 (k : Int))) (some (.int .i64 (k : Int)))).run Tryd.prog W = .ok (.slice A2 k k) W := by
  obtain ⟨i0, hi, hz0, hz1, hz2⟩ := info_parts infoU8
  have hel : Tryd.prog.elem 22 = 5 := by simp [Program.elem, Tryd.underlying22]
  have hu : Tryd.prog.underlying 22 = some (.slice (Tryd.prog.elem 22)) := by rw [hel]; exact Tryd.underlying22
  have ha : (A2.map fun x => x.add 0) = A2 := by cases A2 <;> simp [Addr.add]
  rw [run_slice_hm W 22 A2 n2 c2 hu .i64 .i64 (k : Int) (k : Int) (by omega) (by omega) (by omega), hel]
  simp [sizeOf, typeInfo, hi, hz1, sliced, Result.andThen, ha]

set_option maxHeartbeats 1000000 in
theorem blocks_any (A : Option Addr) (m c : Nat) (A2 : Option Addr) (m2 c2 : Nat) (w : World) :
    Calls Tryd.prog 51 #[.slice A m c, .slice A2 m2 c2] w fun e w' => e = .returned (.func (.func 94) #[] #[.pointer (some ⟨w.heap.size, 0, none⟩), .pointer (some ⟨w.heap.size + 1, 0, none⟩)]) ∧ w' = (w.alloc (.cells #[.slice A m c] 22)).alloc (.cells #[.slice A2 m2 c2] 22) := by
  go_enter Tryd.func51, Tryd.ntmps51
  go_wp2
  go_ret
  exact ⟨rfl, rfl⟩

/-- append in a fence, its run at hand -/
theorem wpListIn_spread {F : Fence} {n : Nat} {ops : Array Oper} {rest : List Oper} {o : Oper} {a : Act} {Q : Exit → Act → World → Prop} (W : World) (hg : o.guard = none) (s x : Operand)
    (hop : o.op = Op.call { callee := Callee.builtin Builtin.append, args := #[s, x], argTypes := #[22, 22] }) (v u v1 : Value) (W1 : World) (hs : a.eval s = v) (hx : a.eval x = u)
    (hrun : (Builtin.append_ #[22, 22] o.type #[v, u]).run Tryd.prog W = .ok v1 W1) (h : wpListIn F n Tryd.prog ops Q rest (a.put o.dst v1) W1) : wpListIn F n Tryd.prog ops Q (o :: rest) a W := by
  refine wpListIn_plain hg fun K hK => ?_
  unfold Oper.wpIn
  refine ⟨by simp [Oper.about, hop, resolve, Target.leads, Sem.run_pure], ?_⟩
  rw [Oper.semAt_plain F _ _ (by rw [hop]; intro c hc; cases hc)]
  simp only [execOp, hop, resolve, invoke, builtin, Sem.run_bind, Sem.run_pure, Result.andThen_ok, List.map_toArray, List.map_cons, List.map_nil, hs, hx, hrun]
  exact hK _ _ h

/-- a row that lies beyond the two blocks of book-keeping -/
theorem but_R {D b0 : Nat} {X Y : World} {v : Value} {l : List Int} (hb : But2 D X Y) (hD : D + 2 ≤ b0) (h : Kd.R (Kd.int .u8) 5 X b0 (fun _ => True) v l) : Kd.R (Kd.int .u8) 5 Y b0 (fun _ => True) v l :=
  Kd.R_mono (Kd.R_move (Kd.R_bound h) (fun k hk => hb.block k hk.2.2.1 (by have := hk.2.1; omega) (by have := hk.2.1; omega))) (fun _ _ => trivial)

theorem heap4 (w : World) (o0 o1 o2 o3 : Obj) : ((((w.alloc o0).alloc o1).alloc o2).alloc o3).heap.size = w.heap.size + 4 ∧ ((((w.alloc o0).alloc o1).alloc o2).alloc o3).heap[w.heap.size]? = some o0 ∧ ((((w.alloc o0).alloc o1).alloc o2).alloc o3).heap[w.heap.size + 1]? = some o1 ∧
    ((((w.alloc o0).alloc o1).alloc o2).alloc o3).heap[w.heap.size + 2]? = some o2 ∧ ((((w.alloc o0).alloc o1).alloc o2).alloc o3).heap[w.heap.size + 3]? = some o3 ∧ Below w.heap.size w ((((w.alloc o0).alloc o1).alloc o2).alloc o3) := by
  have s1 : (w.alloc o0).heap.size = w.heap.size + 1 := World.size_alloc _ _
  have s2 : ((w.alloc o0).alloc o1).heap.size = w.heap.size + 2 := by rw [World.size_alloc, s1]
  have s3 : (((w.alloc o0).alloc o1).alloc o2).heap.size = w.heap.size + 3 := by rw [World.size_alloc, s2]
  have n0 := World.alloc_heap_new w o0
  have n1 := World.alloc_heap_new (w.alloc o0) o1
  have n2 := World.alloc_heap_new ((w.alloc o0).alloc o1) o2
  have n3 := World.alloc_heap_new (((w.alloc o0).alloc o1).alloc o2) o3
  rw [s1] at n1
  rw [s2] at n2
  rw [s3] at n3
  refine ⟨by rw [World.size_alloc, s3], ?_, ?_, ?_, n3, ?_⟩
  · exact (Below.heap_alloc _ _ _ (by omega)).trans ((Below.heap_alloc _ _ _ (by omega)).trans ((Below.heap_alloc _ _ _ (by omega)).trans n0))
  · exact (Below.heap_alloc _ _ _ (by omega)).trans ((Below.heap_alloc _ _ _ (by omega)).trans n1)
  · exact (Below.heap_alloc _ _ _ (by omega)).trans n2
  · exact ((((Below.refl _ w).alloc (Nat.le_refl _) _).alloc (by omega) _).alloc (by omega) _).alloc (by omega) _

/-- what lies where between two rounds -/
def ExI (w : World) (A : Option Addr) (m c : Nat) (ys : List Int) (A2 : Option Addr) (m2 c2 : Nat) (zs : List Int) (N : Nat) (i : Nat) (X : World) : Prop :=
  i ≤ 255 ∧ Below w.heap.size w X ∧ X.heap[w.heap.size]? = some (.cells #[.int .i64 (N : Int)] 3 (0, 0)) ∧ (∃ v, X.heap[w.heap.size + 1]? = some (.cells #[v] 22 (0, 0)) ∧ Qb X (w.heap.size + 6) v (xp ys zs i)) ∧
    X.heap[w.heap.size + 2]? = some (.cells #[.slice A m c] 22 (0, 0)) ∧ X.heap[w.heap.size + 3]? = some (.cells #[.slice A2 m2 c2] 22 (0, 0))
def ExX (w : World) (ys zs : List Int) (i : Nat) (x : Option Addr × Nat) (X : World) : Prop :=
  ∃ b0, Kd.R (Kd.int .u8) 5 X b0 (fun _ => True) (.slice x.1 32 x.2) (tb ys zs (i + 1)) ∧ w.heap.size + 6 ≤ b0 ∧ w.heap.size + 6 ≤ X.heap.size ∧ ∀ v k, X.heap[w.heap.size + 1]? = some (.cells #[v] 22 (0, 0)) → v.ownBlock = some k → k < b0
def ExY (w : World) (ys zs : List Int) (i : Nat) (x : Option Addr × Nat) (X : World) : Prop :=
  ∃ b0, Kd.R (Kd.int .u8) 5 X b0 (fun _ => True) (.slice x.1 32 x.2) (tb ys zs (i + 1)) ∧ w.heap.size + 6 ≤ b0
theorem ExI.but {w : World} {A : Option Addr} {m c : Nat} {ys : List Int} {A2 : Option Addr} {m2 c2 : Nat} {zs : List Int} {N i : Nat} {X Y : World} (hb : But2 (w.heap.size + 4) X Y) (h : ExI w A m c ys A2 m2 c2 zs N i X) : ExI w A m c ys A2 m2 c2 zs N i Y := by
  obtain ⟨h1, h2, h3, ⟨v, h4, h5⟩, h6, h7⟩ := h
  exact ⟨h1, below_but h2 hb (by omega) (Nat.le_refl _), but_at hb h3 (by omega) (by omega), ⟨v, but_at hb h4 (by omega) (by omega), but_Qb hb h5⟩, but_at hb h6 (by omega) (by omega), but_at hb h7 (by omega) (by omega)⟩
theorem ExX.but {w : World} {ys zs : List Int} {i : Nat} {x : Option Addr × Nat} {X Y : World} (hb : But2 (w.heap.size + 4) X Y) (h : ExX w ys zs i x X) : ExX w ys zs i x Y := by
  obtain ⟨b0, h1, h2, h3, h4⟩ := h
  exact ⟨b0, but_R hb (by omega) h1, h2, Nat.le_trans h3 hb.size, fun v k hv hk => h4 v k ((hb.block _ (by omega) (by omega) (by omega)).symm.trans hv) hk⟩
theorem ExY.but {w : World} {ys zs : List Int} {i : Nat} {x : Option Addr × Nat} {X Y : World} (hb : But2 (w.heap.size + 4) X Y) (h : ExY w ys zs i x X) : ExY w ys zs i x Y := by
  obtain ⟨b0, h1, h2⟩ := h
  exact ⟨b0, but_R hb (by omega) h1, h2⟩

set_option maxHeartbeats 4000000 in
set_option maxRecDepth 100000 in
theorem expand_ok (A : Option Addr) (m c : Nat) (ys : List Int) (A2 : Option Addr) (m2 c2 : Nat) (zs : List Int) (N : Nat) (hN : N ≤ 8160) (w : World) (hG : Glob w)
    (hC : (Kd.int .u8).C w A m ys) (hmc : m ≤ c) (hy : ∀ z ∈ ys, 0 ≤ z ∧ z ≤ 255) (hl : m ≤ 1048576) (hC2 : (Kd.int .u8).C w A2 m2 zs) (hmc2 : m2 ≤ c2) (hy2 : ∀ z ∈ zs, 0 ≤ z ∧ z ≤ 255) (hl2 : m2 ≤ 1048576) :
    Calls Tryd.prog 20 #[.slice A m c, .slice A2 m2 c2, .int .i64 (N : Int)] w fun e w' => ∃ A3, e = .returned (.tuple #[.slice A3 N N, .int .i64 0]) ∧ (Kd.int .u8).C w' A3 N ((xp ys zs 255).take N) ∧ Below w.heap.size w w' := by
  have hd1 : decide ((N : Int) < 0) = false := decide_eq_false (by omega)
  have hd2 : decide ((N : Int) > 8160) = false := decide_eq_false (by omega)
  have HC := Lib.hid hC
  have HC2 := Lib.hid hC2
  have HY := Lib.hid hy
  have HY2 := Lib.hid hy2
  clear hC hC2 hy hy2
  refine (callsIn_wide (n := 3)).1 ?_
  refine callsIn_of_wp_marks Tryd.func20 rfl trivial ?_ rfl
  simp only [Tryd.ntmps20, List.size_toArray, List.length_cons, List.length_nil, Nat.reduceAdd, Nat.reduceSub, Array.replicate_succ, Array.replicate_zero, List.push_toArray, List.append_toArray, List.nil_append, List.cons_append]
  gi_wp2
  refine ⟨trivial, (callsIn_wide.2 (blocks_any _ _ _ _ _ _ _)).mono ?_⟩
  rintro e w' ⟨rfl, rfl⟩
  gi_wp2
  -- the four blocks that were laid
  obtain ⟨hz, q0, q1, q2, q3, hb0⟩ := heap4 w (.cells #[.int .i64 (N : Int)] 3) (.cells #[.slice none 0 0] 22) (.cells #[.slice A m c] 22) (.cells #[.slice A2 m2 c2] 22)
  have hx1 : (w.alloc (.cells #[.int .i64 (N : Int)] 3)).heap.size = w.heap.size + 1 := World.size_alloc _ _
  have hx2 : ((w.alloc (.cells #[.int .i64 (N : Int)] 3)).alloc (.cells #[.slice none 0 0] 22)).heap.size = w.heap.size + 2 := by rw [World.size_alloc, hx1]
  try simp only [hx2, hx1, World.size_alloc]
  obtain ⟨W0, hW0⟩ : ∃ W0, W0 = (((w.alloc (.cells #[.int .i64 (N : Int)] 3)).alloc (.cells #[.slice none 0 0] 22)).alloc (.cells #[.slice A m c] 22)).alloc (.cells #[.slice A2 m2 c2] 22) := ⟨_, rfl⟩
  rw [← hW0] at hz q0 q1 q2 q3 hb0 ⊢
  clear hx1 hx2 hW0
  refine range_q (P := Tryd.prog) (n := 3) (gf := 94) (lb := #[.pointer (some ⟨w.heap.size + 2, 0, none⟩), .pointer (some ⟨w.heap.size + 3, 0, none⟩)]) (α := Option Addr × Nat) rfl (enters_of Tryd.func94 (by kernel_rfl) rfl)
    (fun x => #[.slice x.1 32 x.2]) (fun _ => rfl) (ExI w A m c ys A2 m2 c2 zs N) (ExX w ys zs) (ExY w ys zs) (fun cd X => cd = .exit 0 ∧ ∃ i, i ≤ 255 ∧ N ≤ 32 * i ∧ ExI w A m c ys A2 m2 c2 zs N i X) 255
    (fun i X Y hb h => ExI.but (by rw [← hz]; exact hb) h) (fun i x X Y hb h => ExX.but (by rw [← hz]; exact hb) h) (fun i x X Y hb h => ExY.but (by rw [← hz]; exact hb) h) (fun cd X Y hb h => ⟨h.1, by obtain ⟨i, h1, h2, h3⟩ := h.2; exact ⟨i, h1, h2, ExI.but (by rw [← hz]; exact hb) h3⟩⟩)
    ⟨by omega, hb0, q0, ⟨_, q1, Qb.nil _ _⟩, q2, q3⟩ ?a1 ?seq ?assign ?body ?done ?stop
  case assign =>
    intro l x W K hK
    gi_wp2
    exact hK
  case seq =>
    intro l J Jx W hJ0 hJs hJI hY
    refine blocks_in 2 l ⟨w.heap.size + 2, 0, none⟩ ⟨w.heap.size + 3, 0, none⟩ A m c ys A2 m2 c2 zs W J Jx (ExX w ys zs) (ExY w ys zs) ?_ hmc HY.out hl hmc2 HY2.out hl2 hJs ?_ ?_ hY hJ0
    · intro i X hJ
      obtain ⟨⟨_, h2, _, _, h6, h7⟩, _⟩ := hJI i X hJ
      exact ⟨hG.below h2, (cell_of_heap h6 0).trans rfl, (cell_of_heap h7 0).trans rfl, Kd.C_below HC.out h2, Kd.C_below HC2.out h2⟩
    · intro i X Y A3 c3 hJ hb hR
      obtain ⟨⟨_, h2, _, ⟨v, h4, h5⟩, _, _⟩, hsz⟩ := hJI i X hJ
      rw [hz] at hsz
      refine ⟨X.heap.size, hR, by omega, Nat.le_trans (by omega) hb.size, fun v' k hv hk => ?_⟩
      have e1 := (hb.block (w.heap.size + 1) (by omega)).symm.trans hv
      rw [h4] at e1
      cases e1
      exact (h5.base_le k hk).2.1
    · rintro i x V ⟨b0, hR, _⟩
      have h32 : (tb ys zs (i + 1)).length = 32 := hmac_len _ _
      have := Kd.R_reads' hR
      exact ⟨by have h := this.2.2; rw [h32] at h; exact h, this.2.1⟩
  case body =>
    intro l i x W hi hI hX
    obtain ⟨_, hB, h3, ⟨v, h4, hQb⟩, h6, h7⟩ := id hI
    obtain ⟨Av, cv, rfl, hcv⟩ := hQb.form
    obtain ⟨L, hL⟩ : ∃ L, L = (xp ys zs i).length := ⟨_, rfl⟩
    have hL2 := hL.trans (xp_len ys zs i)
    rw [← hL] at h4 hQb hcv
    have y5 : W.cell? ⟨w.heap.size, 0, none⟩ = some (.int .i64 (N : Int)) := (cell_of_heap h3 0).trans rfl
    have y8 : W.cell? ⟨w.heap.size + 1, 0, none⟩ = some (.slice Av L cv) := (cell_of_heap h4 0).trans rfl
    have f8 : W.frozen? ⟨w.heap.size + 1, 0, none⟩ = false := frozen_of_heap h4 0
    by_cases hge : (L : Int) ≥ (N : Int)
    · have hd := decide_eq_true hge
      have HL2 := Lib.hid hL2
      clear hL hL2
      gi_wp2
      exact ⟨KeepsOthers.refl _, rfl, i, by omega, by have := HL2.out; omega, hI⟩
    · have hd := decide_eq_false hge
      obtain ⟨b0, hR, hb0', hsz, hown⟩ := hX
      have h32 : (tb ys zs (i + 1)).length = 32 := hmac_len _ _
      have hCx := (Kd.R_reads' hR).2.2
      rw [h32] at hCx
      obtain ⟨v1, w1, hrun, hQ1, hg1, hat⟩ := q_spread_run W (w.heap.size + 6) 22 (.slice Av L cv) (xp ys zs i) (tb ys zs (i + 1)) x.1 32 x.2 hQb hCx hsz (by omega)
      rw [← xp_succ] at hQ1
      have hne : ∀ k, k < w.heap.size + 6 → some k ≠ (Value.slice Av L cv).ownBlock := fun k hk e => by have := (hQb.base_le _ e.symm).1; omega
      have lt1 : w.heap.size + 6 ≤ w1.heap.size := Nat.le_trans hsz hg1.size
      have h31 := (hg1.block _ (by omega) (hne w.heap.size (by omega))).trans h3
      have h41 := (hg1.block _ (by omega) (hne (w.heap.size + 1) (by omega))).trans h4
      have h61 := (hg1.block _ (by omega) (hne (w.heap.size + 2) (by omega))).trans h6
      have h71 := (hg1.block _ (by omega) (hne (w.heap.size + 3) (by omega))).trans h7
      have hB1 : Below w.heap.size w w1 := hB.trans ⟨hg1.os, hg1.tape, hg1.output, hg1.size, fun k hk => hg1.block k (by omega) (hne k (by omega))⟩
      obtain ⟨Av1, cv1, rfl, hcv1⟩ := hQ1.form
      have y81 : w1.cell? ⟨w.heap.size + 1, 0, none⟩ = some (.slice Av L cv) := (cell_of_heap h41 0).trans rfl
      have f81 : w1.frozen? ⟨w.heap.size + 1, 0, none⟩ = false := frozen_of_heap h41 0
      have hk1 : KeepsOthers W w1 := KeepsOthers.of_grownBy hg1 (fun j o e ho => by
        obtain ⟨_, _, cells, hc⟩ := hQb.base_le j e
        rw [hc] at ho
        cases ho
        rfl)
      have hRx : Kd.R (Kd.int .u8) 5 w1 b0 (fun _ => True) (.slice x.1 32 x.2) (tb ys zs (i + 1)) :=
        Kd.R_mono (Kd.R_move (Kd.R_bound hR) (fun k hk => hg1.block k hk.2.2.1 (fun e => by have := hown _ k h4 e.symm; have := hk.2.1; omega))) (fun _ _ => trivial)
      have hatk : ∀ k, (Value.slice Av1 (xp ys zs (i + 1)).length cv1).ownBlock = some k → w.heap.size + 6 ≤ k := fun k hk => (hQ1.base_le k hk).1
      have hRS : ∀ u, Kd.R (Kd.int .u8) 5 (w1.setCell ⟨w.heap.size + 1, 0, none⟩ u) b0 (fun _ => True) (.slice x.1 32 x.2) (tb ys zs (i + 1)) := fun u =>
        Kd.R_mono (Kd.R_move (Kd.R_bound hRx) (fun k hk => Below.heap_setCell _ _ _ _ (by have := hk.2.1; show k ≠ w.heap.size + 1; omega))) (fun _ _ => trivial)
      have HFIN := Lib.hid (show roundQ (ExI w A m c ys A2 m2 c2 zs N) (ExY w ys zs) (fun cd X => cd = .exit 0 ∧ ∃ i, i ≤ 255 ∧ N ≤ 32 * i ∧ ExI w A m c ys A2 m2 c2 zs N i X) i x W .normal { tmps := #[], defers := [] } (w1.setCell ⟨w.heap.size + 1, 0, none⟩ (.slice Av1 (xp ys zs (i + 1)).length cv1)) from
        ⟨hk1.trans (KeepsOthers.setCell _ _ _), ⟨by omega, hB1.setCell (p := ⟨w.heap.size + 1, 0, none⟩) (by show w.heap.size ≤ w.heap.size + 1; omega) _,
          (Below.heap_setCell _ _ _ _ (by show w.heap.size ≠ w.heap.size + 1; omega)).trans h31,
          ⟨_, heap_setCell_same w1 _ 0 _ _ _ h41, hQ1.move fun k hk => Below.heap_setCell _ _ _ _ (by have := hatk k hk; show k ≠ w.heap.size + 1; omega)⟩,
          (Below.heap_setCell _ _ _ _ (by show w.heap.size + 2 ≠ w.heap.size + 1; omega)).trans h61, (Below.heap_setCell _ _ _ _ (by show w.heap.size + 3 ≠ w.heap.size + 1; omega)).trans h71⟩, b0, hRS _, hb0'⟩)
      clear hI h3 h4 h6 h7 h31 h41 h61 h71 hB hB1 hQb hQ1 hg1 hat hCx hR hRx hRS hk1 hown hL hL2 hne hatk
      have HRUN := Lib.hid hrun
      clear hrun
      gi_wp2_with (gi_at_builtin; refine wpListIn_spread _ rfl _ _ rfl _ _ _ _ rfl rfl HRUN.out ?_)
      exact HFIN.out
  case done =>
    intro W hI hK
    obtain ⟨_, hB, h3, ⟨v, h4, hQb⟩, h6, h7⟩ := id hI
    obtain ⟨Av, cv, rfl, hcv⟩ := hQb.form
    have hlen := xp_len ys zs 255
    obtain ⟨L, hL⟩ : ∃ L, L = (xp ys zs 255).length := ⟨_, rfl⟩
    rw [← hL] at h4 hcv hlen
    have y5 : W.cell? ⟨w.heap.size, 0, none⟩ = some (.int .i64 (N : Int)) := (cell_of_heap h3 0).trans rfl
    have y8 : W.cell? ⟨w.heap.size + 1, 0, none⟩ = some (.slice Av L cv) := (cell_of_heap h4 0).trans rfl
    have hsl := slice_hm Av L cv N (by omega)
    have HRES := Lib.hid (show ∀ o : Obj, (Kd.int .u8).C (W.putObj W0.heap.size o) Av N ((xp ys zs 255).take N) ∧ Below w.heap.size w (W.putObj W0.heap.size o) from fun o => by
      refine ⟨?_, below_put o hB (by rw [hz]; omega)⟩
      have hQ2 := hQb.move (w1 := W.putObj W0.heap.size o) fun k hk => World.putObj_heap_other (by have := (hQb.base_le k hk).1; rw [hz]; omega)
      have hQ3 := hQ2.take (m := N) (by rw [xp_len]; omega)
      have h := hQ3.reads.2
      rw [List.length_take, xp_len, show min N (32 * 255) = N by omega] at h
      exact h)
    clear hI hB h3 h4 h6 h7 hQb
    gi_wp2
    refine ⟨by simp, .inl ⟨_, _, rfl, run_takeDeferred hK, ?_⟩⟩
    exact ⟨_, results_tmp2 rfl _ _ _, _, rfl, HRES.out _⟩
  case stop =>
    rintro cd W ⟨rfl, i, hi, hNi, hI⟩ hK
    obtain ⟨_, hB, h3, ⟨v, h4, hQb⟩, h6, h7⟩ := id hI
    obtain ⟨Av, cv, rfl, hcv⟩ := hQb.form
    have hlen := xp_len ys zs i
    obtain ⟨L, hL⟩ : ∃ L, L = (xp ys zs i).length := ⟨_, rfl⟩
    rw [← hL] at h4 hcv hlen
    have y5 : W.cell? ⟨w.heap.size, 0, none⟩ = some (.int .i64 (N : Int)) := (cell_of_heap h3 0).trans rfl
    have y8 : W.cell? ⟨w.heap.size + 1, 0, none⟩ = some (.slice Av L cv) := (cell_of_heap h4 0).trans rfl
    have hsl := slice_hm Av L cv N (by omega)
    have htk : (xp ys zs 255).take N = (xp ys zs i).take N := by
      have := xp_take ys zs i N (255 - i) hNi
      rwa [show i + (255 - i) = 255 by omega] at this
    have HRES := Lib.hid (show ∀ o : Obj, (Kd.int .u8).C (W.putObj W0.heap.size o) Av N ((xp ys zs 255).take N) ∧ Below w.heap.size w (W.putObj W0.heap.size o) from fun o => by
      refine ⟨?_, below_put o hB (by rw [hz]; omega)⟩
      have hQ2 := hQb.move (w1 := W.putObj W0.heap.size o) fun k hk => World.putObj_heap_other (by have := (hQb.base_le k hk).1; rw [hz]; omega)
      have hQ3 := hQ2.take (m := N) (by rw [xp_len]; omega)
      have h := hQ3.reads.2
      rw [List.length_take, xp_len, show min N (32 * i) = N by omega, ← htk] at h
      exact h)
    clear hI hB h3 h4 h6 h7 hQb hL
    gi_wp2
    refine ⟨by simp, .inl ⟨_, _, rfl, run_takeDeferred hK, ?_⟩⟩
    exact ⟨_, results_tmp2 rfl _ _ _, _, rfl, HRES.out _⟩
end Go.Proofs.YtpeebjnfmlfocaaDoor.Dig

namespace Go.Proofs.YtpeebjnfmlfocaaDoor.Dig
open Go.RowKit Go.UW Go.Proofs.YtpeebjnfmlfocaaDoorW.PrintWords Go.Proofs.YtpeebjnfmlfocaaDoorW.PrintLast Go.Proofs.YtpeebjnfmlfocaaDoorW.PrintMore Go.Proofs.YtpeebjnfmlfocaaDoor.Print Go.Proofs.YtpeebjnfmlfocaaDoor.Ref01 Go.Proofs.YtpeebjnfmlfocaaDoor.Ref05
set_option linter.unusedVariables false

theorem With_l0 (l : List Int) (x : Int) (hl : l.length < 140737488355328) (r : Nat) : ∀ (k i : Nat) (acc : List Int), i + r = l.length → r < k → acc.length = i →
    cleromancyref07_With.l0 k l x acc (i : Int) = some (acc ++ (l.drop i).map (xorb x)) := by
  induction r with
  | zero =>
    intro k i acc hi hk ha
    obtain ⟨k, rfl⟩ : ∃ m, k = m + 1 := ⟨k - 1, by omega⟩
    simp only [cleromancyref07_With.l0]
    rw [if_neg (by omega), List.drop_eq_nil_of_le (by omega)]
    simp
  | succ r ih =>
    intro k i acc hi hk ha
    obtain ⟨k, rfl⟩ : ∃ m, k = m + 1 := ⟨k - 1, by omega⟩
    simp only [cleromancyref07_With.l0]
    have hlt : i < l.length := by omega
    have e1 : wrap64 ((i : Int) + 1) = ((i + 1 : Nat) : Int) := by rw [w64 (by omega) (by omega)]; rfl
    rw [if_pos (by omega), if_pos (by omega), if_pos (by omega), rd_eq, e1, ih k (i + 1) _ (by omega) (by omega) (by rw [List.length_append, ha]; rfl)]
    rw [List.drop_eq_getElem_cons hlt, List.map_cons, List.append_assoc, List.getD_eq_getElem?_getD, List.getElem?_eq_getElem hlt]
    rfl
theorem With_f (k : Nat) (l : List Int) (x : Int) (hl : l.length < 140737488355328) (hk : l.length < k) : cleromancyref07_With.f k l x = some (l.map (xorb x)) := by
  have := With_l0 l x hl l.length k 0 [] (by omega) hk rfl
  exact this

set_option maxHeartbeats 4000000 in
set_option maxRecDepth 100000 in
theorem rkey_any (A : Option Addr) (m c : Nat) (ys : List Int) (w : World) (hC : (Kd.int .u8).C w A m ys) (hmc : m ≤ c) (hy : ∀ z ∈ ys, 0 ≤ z ∧ z ≤ 255) (hl : m ≤ 1048576) :
    Calls Tryd.prog 53 #[.slice A m c] w fun e w' => ∃ v : Value, e = .returned v ∧ Kd.R (Kd.int .u8) 5 w' w.heap.size (fun _ => True) v (keyP ys) ∧ Below w.heap.size w w' := by
  obtain rfl := Kd.C_len hC
  have HC := Lib.hid hC
  have HY := Lib.hid hy
  clear hC hy
  by_cases gt : (ys.length : Int) > 64
  · have hd := decide_eq_true gt
    have hK : keyK ys = sha ys := by unfold keyK; rw [if_pos (by omega)]
    have HK := Lib.hid hK
    have HS := Lib.hid (sum_f (ys.length + 500) ys (by omega) HY.out (by omega))
    clear hK
    go_enter Tryd.func53, Tryd.ntmps53
    go_wp2_with (first
      | (go_at_call 50; (with_reducible refine (Print.cleromancyref05_Sum.calls (ys.length + 500) A c ys (sha ys) w HC.out hmc HS.out).mono ?_); rintro e w1 ⟨v0, rfl, hO0, hb1⟩; obtain ⟨A1, c1, rfl⟩ := Kd.R_slice hO0; have HC1 := Lib.hid (Kd.R_reads' hO0).2.2; clear hO0)
      | (at_builtin
         refine Kd.R_append_row (Value.int .u8) (0 : Int) (w0 := w) (W := w1) w.heap.size rfl (.tmp 9) (.tmp 10) 22 5 (.int .u8 0) 1 rfl Tryd.underlying22 infoU8 rfl (by decide) (.slice none 0 0) [] (sha ys) A1 _ c1 (fun _ => True) rfl rfl (fun _ _ => trivial) (Kd.R_nil _ _ _ _ _) HC1.out hb1 (hb1.size) (by rw [sha_len]; decide) ?_
         intro v2 w2 hO3 hb3 _ _
         obtain ⟨Av, cv, rfl⟩ := Kd.R_slice hO3))
    rw [List.nil_append] at hO3
    have HZ0 := Lib.hid hO3
    clear hO3
    go_loopg [3] (64 - (keyK ys).length) (fun gk v3 wr => ∃ z : Nat, z + gk = 64 - (keyK ys).length ∧ Hid (Kd.R (Kd.int .u8) 5 wr w.heap.size (fun _ => True) v3 (keyK ys ++ List.replicate z 0)) ∧ Below w.heap.size w wr)
    case atStart => exact ⟨0, by omega, by rw [HK.out, List.replicate_zero, List.append_nil]; exact HZ0.out, hb3⟩
    case round =>
      obtain ⟨z, hz, hO, hb⟩ := hrel
      have HZ := Lib.hid hz
      clear HZ0 hb3
      have hkl := keyK_len ys
      have hlen : (keyK ys ++ List.replicate z 0).length = (keyK ys).length + z := by rw [List.length_append, List.length_replicate]
      obtain ⟨L, hL⟩ : ∃ L, L = (keyK ys ++ List.replicate z 0).length := ⟨_, rfl⟩
      obtain ⟨Av, cv, rfl⟩ := Kd.R_slice hO.out
      rw [← hL] at hO hlen ⊢
      by_cases hlt : (L : Int) < 64
      · have hdec := decide_eq_true hlt
        have HLEN := Lib.hid hlen
        have hl64 : L < 64 := by omega
        have HL := Lib.hid hL
        clear hz hkl hlen hL
        go_wp2_with (
          (at_builtin
           refine Kd.R_append (Kd.int .u8) (w0 := w) (W := wr) w.heap.size rfl (.tmp 15) (.tmp 16) 22 5 (.int .u8 0) 1 rfl Tryd.underlying22 infoU8 rfl (by decide) (by omega) _ (keyK ys ++ List.replicate z 0) 0 [.int .u8 0] (fun _ => True) (fun _ => False) rfl rfl rfl (fun _ hk => hk.elim) (fun _ _ => trivial) hO.out hb hb.size (by rw [← HL.out]; omega) ?_
           intro v4 w4 hO4 hb4 _ _
           obtain ⟨A8, m8, c8, hv8⟩ : ∃ A m c, v4 = .slice A m c := by obtain ⟨A1, c1, e⟩ := Kd.R_slice hO4; exact ⟨_, _, _, e⟩
           have HO4 := Lib.hid hO4
           clear hO4))
        go_roundg (64 - (keyK ys).length - (z + 1))
        case measure => have := HZ.out; have := HLEN.out; omega
        case rel =>
          refine ⟨z + 1, by have := HZ.out; have := HLEN.out; omega, ?_, hb4⟩
          rw [List.replicate_succ', ← List.append_assoc, ← hv8]
          exact HO4.out
      · have hdec := decide_eq_false hlt
        have hze : z = 64 - (keyK ys).length := by omega
        rw [hze] at hO
        clear hz hlen hL
        go_wp2
        go_ret
        exact ⟨_, rfl, hO.out, hb⟩
  · have hd := decide_eq_false gt
    have hK : keyK ys = ys := by unfold keyK; rw [if_neg (by omega)]
    have HK := Lib.hid hK
    clear hK
    go_enter Tryd.func53, Tryd.ntmps53
    go_wp2_with (
      (at_builtin
       refine Kd.R_append_row (Value.int .u8) (0 : Int) (w0 := w) (W := w) w.heap.size rfl (.tmp 9) (.tmp 10) 22 5 (.int .u8 0) 1 rfl Tryd.underlying22 infoU8 rfl (by decide) (.slice none 0 0) [] ys A _ c (fun _ => True) rfl rfl (fun _ _ => trivial) (Kd.R_nil _ _ _ _ _) HC.out (Below.refl w.heap.size w) ((Below.refl w.heap.size w).size) (by simp only [List.length_nil]; omega) ?_
       intro v2 w2 hO3 hb3 _ _
       obtain ⟨Av, cv, rfl⟩ := Kd.R_slice hO3))
    rw [List.nil_append] at hO3
    have HZ0 := Lib.hid hO3
    clear hO3
    go_loopg [3] (64 - (keyK ys).length) (fun gk v3 wr => ∃ z : Nat, z + gk = 64 - (keyK ys).length ∧ Hid (Kd.R (Kd.int .u8) 5 wr w.heap.size (fun _ => True) v3 (keyK ys ++ List.replicate z 0)) ∧ Below w.heap.size w wr)
    case atStart => exact ⟨0, by omega, by rw [HK.out, List.replicate_zero, List.append_nil]; exact HZ0.out, hb3⟩
    case round =>
      obtain ⟨z, hz, hO, hb⟩ := hrel
      have HZ := Lib.hid hz
      clear HZ0 hb3
      have hkl := keyK_len ys
      have hlen : (keyK ys ++ List.replicate z 0).length = (keyK ys).length + z := by rw [List.length_append, List.length_replicate]
      obtain ⟨L, hL⟩ : ∃ L, L = (keyK ys ++ List.replicate z 0).length := ⟨_, rfl⟩
      obtain ⟨Av, cv, rfl⟩ := Kd.R_slice hO.out
      rw [← hL] at hO hlen ⊢
      by_cases hlt : (L : Int) < 64
      · have hdec := decide_eq_true hlt
        have HLEN := Lib.hid hlen
        have hl64 : L < 64 := by omega
        have HL := Lib.hid hL
        clear hz hkl hlen hL
        go_wp2_with (
          (at_builtin
           refine Kd.R_append (Kd.int .u8) (w0 := w) (W := wr) w.heap.size rfl (.tmp 15) (.tmp 16) 22 5 (.int .u8 0) 1 rfl Tryd.underlying22 infoU8 rfl (by decide) (by omega) _ (keyK ys ++ List.replicate z 0) 0 [.int .u8 0] (fun _ => True) (fun _ => False) rfl rfl rfl (fun _ hk => hk.elim) (fun _ _ => trivial) hO.out hb hb.size (by rw [← HL.out]; omega) ?_
           intro v4 w4 hO4 hb4 _ _
           obtain ⟨A8, m8, c8, hv8⟩ : ∃ A m c, v4 = .slice A m c := by obtain ⟨A1, c1, e⟩ := Kd.R_slice hO4; exact ⟨_, _, _, e⟩
           have HO4 := Lib.hid hO4
           clear hO4))
        go_roundg (64 - (keyK ys).length - (z + 1))
        case measure => have := HZ.out; have := HLEN.out; omega
        case rel =>
          refine ⟨z + 1, by have := HZ.out; have := HLEN.out; omega, ?_, hb4⟩
          rw [List.replicate_succ', ← List.append_assoc, ← hv8]
          exact HO4.out
      · have hdec := decide_eq_false hlt
        have hze : z = 64 - (keyK ys).length := by omega
        rw [hze] at hO
        clear hz hlen hL
        go_wp2
        go_ret
        exact ⟨_, rfl, hO.out, hb⟩

theorem rsum_any (A : Option Addr) (m c : Nat) (ys : List Int) (w : World) (hC : (Kd.int .u8).C w A m ys) (hmc : m ≤ c) (hy : ∀ z ∈ ys, 0 ≤ z ∧ z ≤ 255) (hl : m ≤ 1048576 * 2) :
    Calls Tryd.prog 50 #[.slice A m c] w fun e w' => ∃ v : Value, e = .returned v ∧ Kd.R (Kd.int .u8) 5 w' w.heap.size (fun _ => True) v (sha ys) ∧ Below w.heap.size w w' := by
  obtain rfl := Kd.C_len hC
  exact Print.cleromancyref05_Sum.calls (ys.length + 500) A c ys (sha ys) w hC hmc (sum_f (ys.length + 500) ys (by omega) hy (by omega))
theorem row_any {w : World} {base : Nat} {v : Value} {l : List Int} (h : Kd.R (Kd.int .u8) 5 w base (fun _ => True) v l) : ∃ A m c, v = .slice A m c ∧ m = l.length ∧ (Kd.int .u8).C w A m l ∧ m ≤ c := by
  obtain ⟨A, c, rfl⟩ := Kd.R_slice h
  exact ⟨A, _, c, rfl, rfl, (Kd.R_reads' h).2.2, (Kd.R_reads' h).2.1⟩
theorem rg_app {a b : List Int} (ha : ∀ x ∈ a, 0 ≤ x ∧ x ≤ 255) (hb : ∀ x ∈ b, 0 ≤ x ∧ x ≤ 255) : ∀ x ∈ a ++ b, 0 ≤ x ∧ x ≤ 255 := fun x hx => by
  rcases List.mem_append.1 hx with h | h
  · exact ha x h
  · exact hb x h
set_option maxHeartbeats 4000000 in
set_option maxRecDepth 100000 in
theorem rmac_any (A : Option Addr) (m c : Nat) (ys : List Int) (B : Option Addr) (n d : Nat) (bs : List Int) (w : World) (hC : (Kd.int .u8).C w A m ys) (hmc : m ≤ c) (hy : ∀ z ∈ ys, 0 ≤ z ∧ z ≤ 255) (hl : m ≤ 1048576) (hC2 : (Kd.int .u8).C w B n bs) (hnd : n ≤ d) (hy2 : ∀ z ∈ bs, 0 ≤ z ∧ z ≤ 255) (hl2 : n ≤ 1048576) :
    Calls Tryd.prog 22 #[.slice A m c, .slice B n d] w fun e w' => ∃ v : Value, e = .returned v ∧ Kd.R (Kd.int .u8) 5 w' w.heap.size (fun _ => True) v (hmac ys bs) ∧ Below w.heap.size w w' := by
  obtain rfl := Kd.C_len hC2
  have HC := Lib.hid hC
  have HC2 := Lib.hid hC2
  have HY := Lib.hid hy
  have HY2 := Lib.hid hy2
  have hk1 := keyB_len ys 54
  have hk2 := keyB_len ys 92
  have HW1 := Lib.hid (show cleromancyref07_With.f 200 (keyP ys) 54 = some (keyB ys 54) from With_f 200 (keyP ys) 54 (by rw [keyP_len]; decide) (by rw [keyP_len]; decide))
  have HW2 := Lib.hid (show cleromancyref07_With.f 200 (keyP ys) 92 = some (keyB ys 92) from With_f 200 (keyP ys) 92 (by rw [keyP_len]; decide) (by rw [keyP_len]; decide))
  have K1 := Lib.hid hk1
  have K2 := Lib.hid hk2
  clear hC hC2 hy hy2 hk1 hk2
  go_enter Tryd.func22, Tryd.ntmps22
  go_wp2_with (first
    | (go_at_call 53; (with_reducible refine (rkey_any A m c ys w HC.out hmc HY.out hl).mono ?_); rintro e w1 ⟨v1, rfl, hO1, hb1⟩; obtain ⟨A1, c1, rfl⟩ := Kd.R_slice hO1; have HO1 := Lib.hid hO1; clear hO1)
    | (go_at_call 54; (with_reducible refine (Print.cleromancyref07_With.calls 200 A1 c1 (keyP ys) 54 (keyB ys 54) w1 (Kd.R_reads' HO1.out).2.2 (Kd.R_reads' HO1.out).2.1 HW1.out).mono ?_); rintro e w2 ⟨v2, rfl, hO2, hb2⟩; obtain ⟨A2, c2, rfl⟩ := Kd.R_slice hO2; have HO2 := Lib.hid hO2; have hb12 := hb1.trans (hb2.mono hb1.size); clear hO2)
    | (at_builtin
       refine Kd.R_append_row (Value.int .u8) (0 : Int) (w0 := w) (W := w2) w.heap.size rfl (.tmp 10) (.tmp 11) 22 5 (.int .u8 0) 1 rfl Tryd.underlying22 infoU8 rfl (by decide) (.slice A2 (keyB ys 54).length c2) (keyB ys 54) bs B _ d (fun _ => True) rfl rfl (fun _ _ => trivial) (Kd.R_lower HO2.out hb1.size) (Kd.C_below HC2.out hb12) hb12 (hb12.size) (by rw [K1.out]; omega) ?_
       intro v3 w3 hO3 hb3 hg3 _
       have h1c : Kd.R (Kd.int .u8) 5 w3 w.heap.size (fun _ => True) (.slice A1 (keyP ys).length c1) (keyP ys) := Kd.R_mono (Kd.R_move (Kd.R_bound HO1.out) (fun k hk => (hg3.block k (Nat.lt_of_lt_of_le hk.2.2.1 hb2.size) (fun e => by have := Kd.R_base HO2.out k e.symm; have := hk.2.2.1; omega)).trans (hb2.block k hk.2.2.1))) (fun _ _ => trivial)
       have H1C := Lib.hid h1c
       clear h1c hg3
       obtain ⟨A3, m3, c3, hv3, hm3, hC3, hc3⟩ := row_any hO3
       have HC3 := Lib.hid hC3
       have HM3 := Lib.hid hm3
       clear hO3 hC3 hm3)
    | (go_at_call 50; (with_reducible refine (rsum_any A3 m3 c3 (keyB ys 54 ++ bs) w3 HC3.out hc3 (rg_app (keyB_rg ys 54) HY2.out) (by have := HM3.out; rw [List.length_append, K1.out] at this; omega)).mono ?_); rintro e w4 ⟨v4, rfl, hO4, hb4⟩; obtain ⟨A4, c4, rfl⟩ := Kd.R_slice hO4; have HO4 := Lib.hid hO4; have hb14 := hb3.trans (hb4.mono hb3.size); clear hO4)
    | (go_at_call 54; (with_reducible refine (Print.cleromancyref07_With.calls 200 A1 c1 (keyP ys) 92 (keyB ys 92) w4 (Kd.C_below (Kd.R_reads' H1C.out).2.2 hb4) (Kd.R_reads' HO1.out).2.1 HW2.out).mono ?_); rintro e w5 ⟨v5, rfl, hO5, hb5⟩; obtain ⟨A5, c5, rfl⟩ := Kd.R_slice hO5; have HO5 := Lib.hid hO5; have hb15 := hb14.trans (hb5.mono hb14.size); clear hO5)
    | (at_builtin
       refine Kd.R_append_row (Value.int .u8) (0 : Int) (w0 := w) (W := w5) w.heap.size rfl (.tmp 15) (.tmp 16) 22 5 (.int .u8 0) 1 rfl Tryd.underlying22 infoU8 rfl (by decide) (.slice A5 (keyB ys 92).length c5) (keyB ys 92) (sha (keyB ys 54 ++ bs)) A4 _ c4 (fun _ => True) rfl rfl (fun _ _ => trivial) (Kd.R_lower HO5.out hb14.size) (Kd.C_below (Kd.R_reads' HO4.out).2.2 hb5) hb15 (hb15.size) (by rw [K2.out, sha_len]; decide) ?_
       intro v6 w6 hO6 hb6 _ _
       obtain ⟨A6, m6, c6, hv6, hm6, hC6, hc6⟩ := row_any hO6
       have HC6 := Lib.hid hC6
       have HM6 := Lib.hid hm6
       clear hO6 hC6 hm6)
    | (go_at_call 50; (with_reducible refine (rsum_any A6 m6 c6 (keyB ys 92 ++ sha (keyB ys 54 ++ bs)) w6 HC6.out hc6 (rg_app (keyB_rg ys 92) (sha_rg2 _)) (by have := HM6.out; rw [List.length_append, K2.out, sha_len] at this; omega)).mono ?_); rintro e w7 ⟨v7, rfl, hO7, hb7⟩; obtain ⟨A7, c7, rfl⟩ := Kd.R_slice hO7; have HO7 := Lib.hid hO7; clear hO7))
  go_ret
  exact ⟨_, rfl, Kd.R_lower HO7.out hb6.size, hb6.trans (hb7.mono hb6.size)⟩
end Go.Proofs.YtpeebjnfmlfocaaDoor.Dig

namespace Go.Proofs.YtpeebjnfmlfocaaDoor.Dig
open Go.RowKit Go.UW Go.Proofs.YtpeebjnfmlfocaaDoorW.PrintWords Go.Proofs.YtpeebjnfmlfocaaDoorW.PrintLast Go.Proofs.YtpeebjnfmlfocaaDoorW.PrintMore Go.Proofs.YtpeebjnfmlfocaaDoor.Ref05
set_option linter.unusedVariables false

theorem same_true (A : Option Addr) (m c : Nat) (B : Option Addr) (n d : Nat) (l : List Int) (w : World) (h : (Kd.int .u8).C w A m l) (hmc : m ≤ c) (h2 : (Kd.int .u8).C w B n l) (hnd : n ≤ d) (hl : m ≤ 1048576) :
    Calls Tryd.prog 12 #[.slice A m c, .slice B n d] w fun e w' => e = .returned (.bool true) ∧ Drawn0 w w' := by
  obtain rfl := Kd.C_len h
  obtain rfl := Kd.C_len h2
  exact Print.cleromancyref01_Same.calls (l.length + 1) A c l B d l true w h hmc h2 hnd (Same_self (l.length + 1) l (by omega) (by omega))

set_option maxHeartbeats 1000000 in
theorem expand_low (x y : Value) (n : Int) (h : n < 0) (w : World) :
    Calls Tryd.prog 20 #[x, y, .int .i64 n] w fun e w' => e = .returned (.tuple #[.slice none 0 0, .int .i64 2]) ∧ Below w.heap.size w w' := by
  have hd := decide_eq_true h
  have hB : Below w.heap.size w (w.alloc (.cells #[.int .i64 n] 3)) := (Below.refl _ _).alloc (Nat.le_refl _) _
  go_enter Tryd.func20, Tryd.ntmps20
  go_wp2
  go_ret2
  exact ⟨rfl, hB⟩
set_option maxHeartbeats 1000000 in
theorem expand_high (x y : Value) (n : Int) (h : n > 8160) (w : World) :
    Calls Tryd.prog 20 #[x, y, .int .i64 n] w fun e w' => e = .returned (.tuple #[.slice none 0 0, .int .i64 2]) ∧ Below w.heap.size w w' := by
  have hd : decide (n < 0) = false := decide_eq_false (by omega)
  have hd2 := decide_eq_true h
  have hB : Below w.heap.size w (w.alloc (.cells #[.int .i64 n] 3)) := (Below.refl _ _).alloc (Nat.le_refl _) _
  go_enter Tryd.func20, Tryd.ntmps20
  go_wp2
  go_ret2
  exact ⟨rfl, hB⟩

set_option maxHeartbeats 1000000 in
set_option maxRecDepth 100000 in
theorem extract_any (A : Option Addr) (m c : Nat) (ys : List Int) (A2 : Option Addr) (m2 c2 : Nat) (zs : List Int) (w : World) (hG : Glob w)
    (hC : (Kd.int .u8).C w A m ys) (hmc : m ≤ c) (hy : ∀ z ∈ ys, 0 ≤ z ∧ z ≤ 255) (hl : m ≤ 1048576) (hC2 : (Kd.int .u8).C w A2 m2 zs) (hmc2 : m2 ≤ c2) (hy2 : ∀ z ∈ zs, 0 ≤ z ∧ z ≤ 255) (hl2 : m2 ≤ 1048576) :
    Calls Tryd.prog 21 #[.slice A m c, .slice A2 m2 c2] w fun e w' => ∃ v : Value, e = .returned v ∧ Kd.R (Kd.int .u8) 5 w' w.heap.size (fun _ => True) v (hmac ys zs) ∧ Below w.heap.size w w' := by
  obtain rfl := Kd.C_len hC2
  obtain ⟨Wp, hWp⟩ : ∃ Wp, Wp = w.alloc (.cells #[.slice A2 zs.length c2] 22) := ⟨_, rfl⟩
  have hbp : Below w.heap.size w Wp := by rw [hWp]; exact (Below.refl _ _).alloc (Nat.le_refl _) _
  have hPR : PRow Wp (some ⟨w.heap.size, 0, none⟩) [(A2, c2, zs)] := by
    intro j hj
    match j, hj with
    | 0, _ =>
      refine ⟨_, A2, c2, zs, rfl, rfl, ?_, Kd.C_below hC2 hbp, hmc2, hy2, by omega⟩
      rw [hWp]
      unfold World.cell?
      show (match (w.alloc (.cells #[.slice A2 zs.length c2] 22)).heap[w.heap.size]? with | some (.cells c elem frozen) => _ | _ => _) = _
      rw [heap_alloc_new]
      rfl
    | j + 1, hj => exact absurd hj (by show ¬ j + 1 < 1; omega)
  have hcat : cat [(A2, c2, zs)] = zs := by simp [cat]
  have hms : Calls Tryd.prog 52 #[.slice A m c, .slice (some ⟨w.heap.size, 0, none⟩) 1 1] Wp fun e w' => ∃ v : Value, e = .returned v ∧ Kd.R (Kd.int .u8) 5 w' Wp.heap.size (fun _ => True) v (hmac ys zs) ∧ Below Wp.heap.size Wp w' := by
    have := msum_any A m c ys (some ⟨w.heap.size, 0, none⟩) 1 [(A2, c2, zs)] Wp (hG.below hbp) (Kd.C_below hC hbp) hmc hy (by omega) hPR (show (1 : Nat) ≤ 3 by decide) (show (1 : Nat) ≤ 1 from Nat.le_refl 1) (by rw [hcat]; omega)
    rw [hcat] at this
    exact this
  have HMS := Lib.hid hms
  have HBP := Lib.hid hbp
  rw [hWp] at HMS HBP
  clear hms hbp hPR hcat hC hC2 hy hy2 hWp
  go_enter Tryd.func21, Tryd.ntmps21
  go_wp2_with (go_at_call 52; (with_reducible refine (HMS.out).mono ?_); rintro e w1 ⟨v, rfl, hO, hb⟩)
  go_ret
  exact ⟨v, rfl, Kd.R_lower hO HBP.out.size, HBP.out.trans (hb.mono HBP.out.size)⟩

theorem C_two (w : World) (x y : Int) : (Kd.int .u8).C (w.alloc (.cells #[.int .u8 x, .int .u8 y] 5)) (some ⟨w.heap.size, 0, none⟩) 2 [x, y] := by
  refine ⟨rfl, by omega, fun _ => ⟨_, rfl, fun j p hj => ⟨[.int .u8 p], rfl, rfl, fun i u hu => ?_⟩⟩⟩
  have h : Arr (w.alloc (.cells #[.int .u8 x, .int .u8 y] 5)) w.heap.size 5 [] [.int .u8 x, .int .u8 y] := by unfold Arr; rw [heap_alloc_new]; rfl
  match j, i, hj, hu with
  | 0, 0, hj, hu =>
    simp only [List.getElem?_cons_zero, Option.some.injEq] at hj hu
    subst hj hu
    exact h.getRest 0 0 rfl _ rfl
  | 1, 0, hj, hu =>
    simp only [List.getElem?_cons_succ, List.getElem?_cons_zero, Option.some.injEq] at hj hu
    subst hj hu
    exact h.getRest 1 1 rfl _ rfl

theorem exp32 : (xp [1] [2] 255).take 32 = hmac [1] [2, 1] := by
  have h := xp_take [1] [2] 1 32 254 (by decide)
  rw [show 1 + 254 = 255 from rfl] at h
  rw [h]
  have : xp [1] [2] 1 = hmac [1] [2, 1] := by
    rw [xp_succ]
    show [] ++ tb [1] [2] (0 + 1) = _
    rw [List.nil_append, tb]
    rfl
  rw [this, List.take_of_length_le (by rw [hmac_len]; decide)]
theorem expand_32 (A A2 : Option Addr) (w : World) (hG : Glob w) (hC : (Kd.int .u8).C w A 1 [1]) (hC2 : (Kd.int .u8).C w A2 1 [2]) :
    Calls Tryd.prog 20 #[.slice A 1 1, .slice A2 1 1, .int .i64 32] w fun e w' => ∃ A3, e = .returned (.tuple #[.slice A3 32 32, .int .i64 0]) ∧ (Kd.int .u8).C w' A3 32 (hmac [1] [2, 1]) ∧ Below w.heap.size w w' := by
  have := expand_ok A 1 1 [1] A2 1 1 [2] 32 (by decide) w hG hC (by decide) (by decide) (by decide) hC2 (by decide) (by decide) (by decide)
  rw [exp32] at this
  exact this

set_option maxHeartbeats 2000000 in
set_option maxRecDepth 100000 in
theorem awake38 (w : World) (hG : Glob w) : Calls Tryd.prog 19 #[] w fun e w' => e = .returned (.bool true) ∧ Below w.heap.size w w' := by
  obtain ⟨V1, hV1⟩ : ∃ V1, V1 = w.alloc (.cells #[.int .u8 1] 5) := ⟨_, rfl⟩
  have hs1 : V1.heap.size = w.heap.size + 1 := by rw [hV1]; exact World.size_alloc _ _
  obtain ⟨V2, hV2⟩ : ∃ V2, V2 = V1.alloc (.cells #[.int .u8 2] 5) := ⟨_, rfl⟩
  have hb12 : Below V1.heap.size V1 V2 := by rw [hV2]; exact (Below.refl _ _).alloc (Nat.le_refl _) _
  have hb02 : Below w.heap.size w V2 := by rw [hV2, hV1]; exact ((Below.refl _ _).alloc (Nat.le_refl _) _).alloc (by rw [World.size_alloc]; omega) _
  have c1 : (Kd.int .u8).C V2 (some ⟨w.heap.size, 0, none⟩) 1 [1] := Kd.C_below (by rw [hV1]; exact C_box w 1) hb12
  have c2 : (Kd.int .u8).C V2 (some ⟨w.heap.size + 1, 0, none⟩) 1 [2] := by rw [hV2, ← hs1]; exact C_box V1 2
  have HE := Lib.hid (expand_32 _ _ V2 (hG.below hb02) c1 c2)
  have HB := Lib.hid hb02
  have hmq : ∀ X : World, ∀ Y1 Y2, Y1 = X.alloc (.cells #[.int .u8 1] 5) → Y2 = Y1.alloc (.cells #[.int .u8 2, .int .u8 1] 5) → Below X.heap.size X Y2 ∧ Calls Tryd.prog 22 #[.slice (some ⟨X.heap.size, 0, none⟩) 1 1, .slice (some ⟨X.heap.size + 1, 0, none⟩) 2 2] Y2 fun e w' => ∃ v : Value, e = .returned v ∧ Kd.R (Kd.int .u8) 5 w' Y2.heap.size (fun _ => True) v (hmac [1] [2, 1]) ∧ Below Y2.heap.size Y2 w' := by
    intro X Y1 Y2 h1 h2
    have hz1 : Y1.heap.size = X.heap.size + 1 := by rw [h1]; exact World.size_alloc _ _
    have e12 : Below Y1.heap.size Y1 Y2 := by rw [h2]; exact (Below.refl _ _).alloc (Nat.le_refl _) _
    have e02 : Below X.heap.size X Y2 := by rw [h2, h1]; exact ((Below.refl _ _).alloc (Nat.le_refl _) _).alloc (by rw [World.size_alloc]; omega) _
    refine ⟨e02, ?_⟩
    exact rmac_any _ 1 1 [1] _ 2 2 [2, 1] Y2 (Kd.C_below (by rw [h1]; exact C_box X 1) e12) (by decide) (by decide) (by decide) (by rw [h2, ← hz1]; exact C_two Y1 2 1) (by decide) (by decide) (by decide)
  have HMQ := Lib.hid hmq
  rw [hV2, hV1] at HE HB
  clear hmq c1 c2 hb12 hb02 hs1 hV1 hV2 V1 V2
  go_enter Tryd.func19, Tryd.ntmps19
  go_wp2_with (first
    | (go_at_call 20; (with_reducible refine (HE.out).mono ?_); rintro e w1 ⟨A3, rfl, hC3, hb1⟩; have HC3 := Lib.hid hC3; obtain ⟨hq1, hq2⟩ := HMQ.out w1 _ _ rfl rfl; have HQ1 := Lib.hid hq1; have HQ2 := Lib.hid hq2; clear hC3 hq1 hq2)
    | (go_at_call 22; (with_reducible refine (HQ2.out).mono ?_); rintro e w2 ⟨v2, rfl, hO2, hb2⟩; obtain ⟨A4, m4, c4, rfl, hm4, hC4, hc4⟩ := row_any hO2; have HC4 := Lib.hid hC4; clear hC4 hO2 hm4)
    | (go_at_call 12; (with_reducible refine (same_true A3 32 32 A4 m4 c4 (hmac [1] [2, 1]) w2 (Kd.C_below HC3.out (HQ1.out.trans (hb2.mono HQ1.out.size))) (by decide) HC4.out hc4 (by decide)).mono ?_); rintro e w3 ⟨rfl, hd3⟩))
  go_ret
  have hz := HB.out.trans (hb1.mono HB.out.size)
  have hz2 := hz.trans ((HQ1.out.trans (hb2.mono HQ1.out.size)).mono hz.size)
  exact ⟨rfl, hz2.trans (hd3.below.mono hz2.size)⟩
end Go.Proofs.YtpeebjnfmlfocaaDoor.Dig
