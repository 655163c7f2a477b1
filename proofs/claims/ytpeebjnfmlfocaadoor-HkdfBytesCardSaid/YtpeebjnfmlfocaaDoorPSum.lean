/- The document's sum (SHA-256), as printed, is `sha`. Conditions: bytes in range, at most 2^31 of them; rounds enough. -/
import Derived.Test.YtpeebjnfmlfocaaDoorR01b
import Derived.Test.YtpeebjnfmlfocaaDoorPrint3
import Derived.Test.YtpeebjnfmlfocaaDoorHSum
namespace Go.Proofs.YtpeebjnfmlfocaaDoor.Ref05
open Go.RowKit Go.UW Go.Proofs.YtpeebjnfmlfocaaDoorW.PrintWords Go.Proofs.YtpeebjnfmlfocaaDoorW.PrintLast Go.Proofs.YtpeebjnfmlfocaaDoorW.PrintMore Go.Proofs.YtpeebjnfmlfocaaDoor.Print Go.Proofs.YtpeebjnfmlfocaaDoor.Dig Go.Proofs.YtpeebjnfmlfocaaDoor.Ref01
set_option linter.unusedVariables false

theorem u64_of (x : UInt32) : IntKind.u64.wrap (v32 x) = ((x.toNat : Nat) : Int) := by
  have := x.toNat_lt
  rw [IntKind.wrap_u64]
  unfold v32
  omega
theorem rd_map (s : List UInt32) (i : Nat) (h : i < s.length) : rd (s.map v32) (i : Int) = v32 (s.getD i 0) := by
  rw [rd_eq, List.getD_eq_getElem?_getD, List.getElem?_map, List.getElem?_eq_getElem h, List.getD_eq_getElem?_getD, List.getElem?_eq_getElem h]
  rfl
theorem be4_of (x : UInt32) (l : List Int) (hd : Dig l) (hv : val l = x.toNat) : ((List.range 4).map fun t => (byteAt l t : Int)).reverse = be4 x 4 := by
  have h : ∀ t, byteAt l t = x.toNat / 256 ^ t % 256 := fun t => by rw [byteAt_val l hd, hv]
  simp only [h]
  have e : ∀ n : Nat, ((x.toNat / n % 256 : Nat) : Int) = v32 x / (n : Int) % 256 := fun n => rfl
  show [_, _, _, _] = [_, _, _, _]
  simp only [e]
  rfl
theorem sum_l2 (s : List UInt32) (hs : s.length = 8) (r : Nat) : ∀ (k i : Nat) (acc : List Int), i + r = 8 → 2 * r + 60 < k → acc.length = 4 * i →
    cleromancyref05_Sum.l2 k (s.map v32) acc (i : Int) = some (acc ++ outB (s.drop i)) := by
  induction r with
  | zero =>
    intro k i acc hi hk ha
    obtain ⟨k, rfl⟩ : ∃ m, k = m + 1 := ⟨k - 1, by omega⟩
    simp only [cleromancyref05_Sum.l2]
    rw [if_neg (by omega), List.drop_eq_nil_of_le (by omega)]
    simp [outB]
  | succ r ih =>
    intro k i acc hi hk ha
    obtain ⟨k, rfl⟩ : ∃ m, k = m + 1 := ⟨k - 1, by omega⟩
    simp only [cleromancyref05_Sum.l2]
    have hlt : i < s.length := by omega
    have e1 : wrap64 ((i : Int) + 1) = ((i + 1 : Nat) : Int) := by rw [w64 (by omega) (by omega)]; rfl
    obtain ⟨l, hl, hld, _, hlv, hll⟩ := Words_one k (s.getD i 0).toNat (by omega) (by have := (s.getD i 0).toNat_lt; omega)
    rw [if_pos (by omega), if_pos (by omega), if_pos (by rw [List.length_map]; omega), rd_map s i hlt, u64_of, hl, Option.bind_some]
    rw [show ((4 : Int)) = ((4 : Nat) : Int) by rfl, ToBig_f k 4 l hld (by omega) (by omega) (by omega), Option.bind_some, be4_of _ l hld hlv, if_pos (by rw [be4_len]; omega), e1,
      ih k (i + 1) _ (by omega) (by omega) (by rw [List.length_append, be4_len]; omega)]
    rw [List.drop_eq_getElem_cons hlt, List.append_assoc]
    congr 2
    simp only [outB, List.flatMap_cons]
    rw [List.getD_eq_getElem?_getD, List.getElem?_eq_getElem hlt]
    rfl
theorem blk_f (k : Nat) (s : List UInt32) (hs : s.length = 8) (blk : List Int) (hl : blk.length = 64) (hb : ∀ x ∈ blk, 0 ≤ x ∧ x ≤ 255) : cleromancyref05_block.f k (s.map v32) blk = some ((UW.block s blk).map v32) := by
  unfold cleromancyref05_block.f
  rw [if_pos ⟨by rw [List.length_map]; exact hs, hl, fun x hx => by obtain ⟨u, _, rfl⟩ := List.mem_map.1 hx; exact ⟨v32_nn u, lt32 u⟩, hb⟩, w32_v32s]
theorem sum_l1 (m : List Int) (q : Nat) (hm : m.length = 64 * q) (hq : m.length ≤ 4294967296) (hb : ∀ x ∈ m, 0 ≤ x ∧ x ≤ 255) (r : Nat) : ∀ (k j : Nat), j + r = q → r + 100 < k →
    cleromancyref05_Sum.l1 k m ((blocks m j).map v32) ((64 * j : Nat) : Int) = some (outB (blocks m q)) := by
  induction r with
  | zero =>
    intro k j hj hk
    obtain ⟨k, rfl⟩ : ∃ m, k = m + 1 := ⟨k - 1, by omega⟩
    obtain rfl : j = q := by omega
    simp only [cleromancyref05_Sum.l1]
    rw [if_neg (by omega)]
    have := sum_l2 (blocks m j) (blocks_len m j) 8 k 0 [] (by omega) (by omega) rfl
    exact this
  | succ r ih =>
    intro k j hj hk
    obtain ⟨k, rfl⟩ : ∃ m, k = m + 1 := ⟨k - 1, by omega⟩
    simp only [cleromancyref05_Sum.l1]
    have e1 : wrap64 (((64 * j : Nat) : Int) + 64) = ((64 * (j + 1) : Nat) : Int) := by rw [w64 (by omega) (by omega)]; omega
    have e2 : (m.take (64 * (j + 1))).drop (64 * j) = (m.drop (64 * j)).take 64 := by
      rw [List.drop_take, show 64 * (j + 1) - 64 * j = 64 by omega]
    rw [if_pos (by omega), e1, if_pos (by omega), if_pos (by omega), if_pos (by omega), Int.toNat_natCast, Int.toNat_natCast, e2,
      blk_f k _ (blocks_len m j) _ (by rw [List.length_take, List.length_drop]; omega) (fun x hx => hb x (List.mem_of_mem_drop (List.mem_of_mem_take hx))), Option.bind_some]
    exact ih k (j + 1) (by omega) (by omega)
theorem H256_list : H256.map v32 = [1779033703, 3144134277, 1013904242, 2773480762, 1359893119, 2600822924, 528734635, 1541459225] := by decide
theorem be8_of (n : Nat) : ((List.range 8).map fun t => ((n * 8 / 256 ^ t % 256 : Nat) : Int)).reverse = be8 n := by
  show [_, _, _, _, _, _, _, _] = [_, _, _, _, _, _, _, _]
  rfl
theorem sum_l0 (b : List Int) (hl : b.length ≤ 2147483648) (hb : ∀ x ∈ b, 0 ≤ x ∧ x ≤ 255) (r : Nat) : ∀ (k z : Nat), z + r = (119 - b.length % 64) % 64 → r + b.length + 300 < k →
    cleromancyref05_Sum.l0 k b (b ++ [128] ++ List.replicate z 0) = some (sha b) := by
  have hlen : ∀ z, (b ++ [128] ++ List.replicate z (0 : Int)).length = b.length + 1 + z := fun z => by simp; omega
  induction r with
  | zero =>
    intro k z hz hk
    obtain ⟨k, rfl⟩ : ∃ m, k = m + 1 := ⟨k - 1, by omega⟩
    simp only [cleromancyref05_Sum.l0]
    have e1 : wrap64 (8 * (b.length : Int)) = ((b.length * 8 : Nat) : Int) := by rw [w64 (by omega) (by omega)]; omega
    rw [if_pos (by rw [hlen]; omega), e1, Int_f k _ (by omega) (by omega), Option.bind_some, show (8 : Int) = ((8 : Nat) : Int) by rfl, big_of_int k 8 _ (by omega) (by omega) (by omega), Option.bind_some, be8_of]
    rw [if_pos (by rw [hlen]; simp [be8]; omega)]
    have eb : cleromancyref05_Begin.f = some (H256.map v32) := by rw [H256_list]; rfl
    rw [eb, Option.bind_some]
    have ep : b ++ [128] ++ List.replicate z 0 ++ be8 b.length = b ++ pad b.length := by
      have : z = (119 - b.length % 64) % 64 := by omega
      rw [this]
      simp [pad]
    rw [ep]
    have hpm := pad_mod b.length
    have hpl := pad_len b.length
    obtain ⟨q, hq⟩ : ∃ q, b.length + (pad b.length).length = 64 * q := ⟨(b.length + (pad b.length).length) / 64, by omega⟩
    have := sum_l1 (b ++ pad b.length) q (by rw [List.length_append]; exact hq) (by rw [List.length_append]; omega) (fun x hx => by
      rcases List.mem_append.1 hx with h | h
      · exact hb x h
      · exact pad_rg _ x h) q k 0 (by omega) (by omega)
    unfold sha
    rw [hq, Nat.mul_div_cancel_left q (by decide)]
    exact this
  | succ r ih =>
    intro k z hz hk
    obtain ⟨k, rfl⟩ : ∃ m, k = m + 1 := ⟨k - 1, by omega⟩
    simp only [cleromancyref05_Sum.l0]
    rw [if_neg (by rw [hlen]; omega), if_pos (by rw [hlen]; omega)]
    have := ih k (z + 1) (by omega) (by omega)
    rw [List.replicate_succ', ← List.append_assoc] at this
    exact this
theorem sum_f (k : Nat) (b : List Int) (hl : b.length ≤ 2147483648) (hb : ∀ x ∈ b, 0 ≤ x ∧ x ≤ 255) (hk : b.length + 400 < k) : cleromancyref05_Sum.f k b = some (sha b) := by
  unfold cleromancyref05_Sum.f
  rw [if_pos (by simp; omega), Option.bind_some, List.nil_append, if_pos (by omega)]
  have := sum_l0 b hl hb ((119 - b.length % 64) % 64) k 0 (by omega) (by omega)
  simpa using this
end Go.Proofs.YtpeebjnfmlfocaaDoor.Ref05
