/- Plain laws of the document's numbers (base 2^24, the lowest first), as printed: Int, ToLittle, Turned, ToBig. Conditions: digits in range; rounds enough. -/
import Derived.Test.YtpeebjnfmlfocaaDoorPrint1
import Derived.IntWalk
namespace Go.Proofs.YtpeebjnfmlfocaaDoor.Ref01
open Go.RowKit Go.Proofs.YtpeebjnfmlfocaaDoorW.PrintWords Go.Proofs.YtpeebjnfmlfocaaDoorW.PrintLast Go.Proofs.YtpeebjnfmlfocaaDoorW.PrintMore Go.Proofs.YtpeebjnfmlfocaaDoor.Print
set_option linter.unusedVariables false

def val : List Int → Nat
  | [] => 0
  | d :: l => d.toNat + 16777216 * val l
def Dig (l : List Int) : Prop := ∀ d ∈ l, 0 ≤ d ∧ d < 16777216
def digs : Nat → Nat → List Int
  | 0, _ => []
  | k + 1, x => if x = 0 then [] else ((x % 16777216 : Nat) : Int) :: digs k (x / 16777216)
theorem digs_dig (k x : Nat) : Dig (digs k x) := by
  induction k generalizing x with
  | zero => intro d hd; cases hd
  | succ k ih =>
    intro d hd
    rw [digs] at hd
    split at hd
    · cases hd
    · rcases List.mem_cons.1 hd with rfl | h
      · omega
      · exact ih _ d h
theorem digs_val (k x : Nat) (h : x < 16777216 ^ k) : val (digs k x) = x := by
  induction k generalizing x with
  | zero => simp at h; subst h; rfl
  | succ k ih =>
    rw [digs]
    split
    · next h0 => rw [h0]; rfl
    · rw [val, ih _ (by rw [Nat.div_lt_iff_lt_mul (by decide)]; rw [Nat.pow_succ] at h; exact h)]
      omega
theorem digs_len (k x : Nat) : (digs k x).length ≤ k := by
  induction k generalizing x with
  | zero => simp [digs]
  | succ k ih =>
    rw [digs]
    split
    · simp
    · have := ih (x / 16777216); simp; omega

theorem w64 {x : Int} (h1 : -9223372036854775808 ≤ x) (h2 : x ≤ 9223372036854775807) : wrap64 x = x := IntWalk.wrap64_in x ⟨h1, h2⟩

theorem Int_l0 (j : Nat) : ∀ (k x : Nat) (acc : List Int), x < 16777216 ^ j → x < 9223372036854775808 → j < k → acc.length + j < 17592186044416 →
    cleromancyref01_Int.l0 k (x : Int) acc = some (acc ++ digs j x) := by
  induction j with
  | zero =>
    intro k x acc hx _ hk _
    obtain ⟨k, rfl⟩ : ∃ m, k = m + 1 := ⟨k - 1, by omega⟩
    have : x = 0 := by simpa using hx
    subst this
    simp only [cleromancyref01_Int.l0]
    rw [if_neg (by decide), digs, List.append_nil]
  | succ j ih =>
    intro k x acc hx hx2 hk hl
    obtain ⟨k, rfl⟩ : ∃ m, k = m + 1 := ⟨k - 1, by omega⟩
    simp only [cleromancyref01_Int.l0]
    by_cases h0 : x = 0
    · subst h0
      rw [if_neg (by decide), digs, if_pos rfl, List.append_nil]
    · have e1 : wrap64 (Int.tdiv (x : Int) 16777216) = ((x / 16777216 : Nat) : Int) := by
        rw [Int.tdiv_eq_ediv_of_nonneg (by omega), w64 (by omega) (by omega)]
        rfl
      have e2 : Int.tmod (x : Int) 16777216 = ((x % 16777216 : Nat) : Int) := by
        rw [Int.tmod_eq_emod_of_nonneg (by omega)]
        rfl
      rw [if_pos (by omega), if_pos (by omega), e1, e2, ih k _ _ (by rw [Nat.div_lt_iff_lt_mul (by decide)]; rw [Nat.pow_succ] at hx; exact hx) (by omega) (by omega) (by rw [List.length_append]; simp; omega), digs, if_neg h0, List.append_assoc]
      rfl

theorem Int_f (k n : Nat) (hk : 4 ≤ k) (hn : n < 9223372036854775808) : cleromancyref01_Int.f k (n : Int) = some (digs 3 n) := by
  unfold cleromancyref01_Int.f
  rw [Int_l0 3 k n [] (by omega) hn (by omega) (by simp)]
  rfl

theorem rd_eq (l : List Int) (i : Nat) : rd l (i : Int) = l.getD i 0 := by simp [rd]

theorem Turned_l0 (l : List Int) (hl : l.length < 140737488355328) (m : Nat) : ∀ (k : Nat) (acc : List Int), m ≤ l.length → m < k → acc.length + m ≤ l.length →
    cleromancyref01_Turned.l0 k l acc ((m : Int) - 1) = some (acc ++ (l.take m).reverse) := by
  induction m with
  | zero =>
    intro k acc _ hk _
    obtain ⟨k, rfl⟩ : ∃ m, k = m + 1 := ⟨k - 1, by omega⟩
    simp only [cleromancyref01_Turned.l0]
    rw [if_neg (by omega)]
    simp
  | succ m ih =>
    intro k acc hm hk hacc
    obtain ⟨k, rfl⟩ : ∃ m, k = m + 1 := ⟨k - 1, by omega⟩
    simp only [cleromancyref01_Turned.l0]
    have e0 : ((m + 1 : Nat) : Int) - 1 = (m : Int) := by omega
    rw [e0, if_pos (by omega), if_pos (by omega), if_pos (by omega), if_pos (by omega), w64 (by omega) (by omega), ih k _ (by omega) (by omega) (by rw [List.length_append]; simp; omega), rd_eq]
    congr 1
    rw [List.take_succ_eq_append_getElem (by omega), List.reverse_append, List.append_assoc]
    simp [List.getD_eq_getElem?_getD, List.getElem?_eq_getElem (show m < l.length by omega)]

theorem Turned_f (k : Nat) (l : List Int) (hl : l.length < 140737488355328) (hk : l.length < k) : cleromancyref01_Turned.f k l = some l.reverse := by
  unfold cleromancyref01_Turned.f
  rw [w64 (by omega) (by omega), Turned_l0 l hl l.length k [] (by omega) hk (by simp), List.take_length, List.nil_append]

def byteAt (l : List Int) (i : Nat) : Nat := (l.getD (i / 3) 0).toNat / 256 ^ (i % 3) % 256

theorem TL_l1 (l out : List Int) (n i : Nat) (hn : n < 140737488355328) (hi : i < n) (ho : out.length = n) (r : Nat) : ∀ (k v j : Nat), j + r = i % 3 → v < 9223372036854775808 → r < k →
    cleromancyref01_ToLittle.l1 k l (n : Int) out (i : Int) (v : Int) (j : Int) = cleromancyref01_ToLittle.l0 (k - r - 1) l (n : Int) (out.set i ((v / 256 ^ r % 256 : Nat) : Int)) ((i + 1 : Nat) : Int) := by
  have ei : Int.tmod (i : Int) 3 = ((i % 3 : Nat) : Int) := by rw [Int.tmod_eq_emod_of_nonneg (by omega)]; rfl
  induction r with
  | zero =>
    intro k v j hj hv hk
    obtain ⟨k, rfl⟩ : ∃ m, k = m + 1 := ⟨k - 1, by omega⟩
    simp only [cleromancyref01_ToLittle.l1]
    rw [ei, if_neg (by omega), if_pos (by omega), if_pos (by omega), w64 (by omega) (by omega), Int.tmod_eq_emod_of_nonneg (by omega)]
    congr 1
    · congr 1
      rw [Nat.pow_zero, Nat.div_one]
      omega
  | succ r ih =>
    intro k v j hj hv hk
    obtain ⟨k, rfl⟩ : ∃ m, k = m + 1 := ⟨k - 1, by omega⟩
    simp only [cleromancyref01_ToLittle.l1]
    have e1 : wrap64 (Int.tdiv (v : Int) 256) = ((v / 256 : Nat) : Int) := by
      rw [Int.tdiv_eq_ediv_of_nonneg (by omega), w64 (by omega) (by omega)]
      rfl
    have e2 : wrap64 ((j : Int) + 1) = ((j + 1 : Nat) : Int) := by rw [w64 (by omega) (by omega)]; rfl
    rw [ei, if_pos (by omega), e1, e2, ih k (v / 256) (j + 1) (by omega) (by omega) (by omega), Nat.div_div_eq_div_mul, ← Nat.pow_succ', show k + 1 - (r + 1) - 1 = k - r - 1 by omega]

theorem TL_l0 (l : List Int) (hd : Dig l) (hll : l.length < 9223372036854775807) (n : Nat) (hn : n < 140737488355328) (d : Nat) : ∀ (k i : Nat) (A : List Int), i + d = n → A.length = i → 4 * d < k →
    cleromancyref01_ToLittle.l0 k l (n : Int) (A ++ List.replicate d 0) (i : Int) = some (A ++ (List.range' i d).map fun t => (byteAt l t : Int)) := by
  induction d with
  | zero =>
    intro k i A hi hA hk
    obtain ⟨k, rfl⟩ : ∃ m, k = m + 1 := ⟨k - 1, by omega⟩
    simp only [cleromancyref01_ToLittle.l0]
    rw [if_neg (by omega)]
    simp
  | succ d ih =>
    intro k i A hi hA hk
    obtain ⟨k, rfl⟩ : ∃ m, k = m + 1 := ⟨k - 1, by omega⟩
    simp only [cleromancyref01_ToLittle.l0]
    have e1 : wrap64 (Int.tdiv (i : Int) 3) = ((i / 3 : Nat) : Int) := by
      rw [Int.tdiv_eq_ediv_of_nonneg (by omega), w64 (by omega) (by omega)]
      rfl
    have e2 : wrap64 ((i : Int) + 1) = ((i + 1 : Nat) : Int) := by rw [w64 (by omega) (by omega)]; rfl
    have key : ∀ b : Int, (A ++ List.replicate (d + 1) 0).set i b = (A ++ [b]) ++ List.replicate d 0 := by
      intro b
      rw [List.set_append_right _ _ (by omega), hA, Nat.sub_self, List.replicate_succ, List.set_cons_zero, List.append_assoc]
      rfl
    rw [if_pos (by omega), e1, e2, List.range'_succ, List.map_cons]
    by_cases hlt : i / 3 < l.length
    · have hv := hd (l.getD (i / 3) 0) (by rw [List.getD_eq_getElem?_getD, List.getElem?_eq_getElem hlt]; exact List.getElem_mem _)
      obtain ⟨v, hv2⟩ : ∃ v : Nat, l.getD (i / 3) 0 = (v : Int) := ⟨(l.getD (i / 3) 0).toNat, by omega⟩
      have hb : (byteAt l i : Int) = ((v / 256 ^ (i % 3) % 256 : Nat) : Int) := by rw [byteAt, hv2]; rfl
      have hl1 := TL_l1 l (A ++ List.replicate (d + 1) 0) n i hn (by omega) (by rw [List.length_append, List.length_replicate]; omega) (i % 3) k v 0 (by omega) (by omega) (by omega)
      rw [show ((0 : Nat) : Int) = 0 from rfl, key] at hl1
      rw [if_pos (by omega), if_pos (by omega), rd_eq, hv2, hl1, hb, ih (k - i % 3 - 1) (i + 1) _ (by omega) (by rw [List.length_append, hA]; rfl) (by omega), List.append_assoc]
      rfl
    · have hb : (byteAt l i : Int) = 0 := by rw [byteAt, List.getD_eq_getElem?_getD, List.getElem?_eq_none (by omega)]; simp
      have hk2 : A ++ List.replicate (d + 1) (0 : Int) = (A ++ [0]) ++ List.replicate d 0 := by rw [List.replicate_succ, List.append_assoc]; rfl
      rw [if_neg (by omega), hk2, ih k (i + 1) _ (by omega) (by rw [List.length_append, hA]; rfl) (by omega), hb, List.append_assoc]
      rfl

theorem ToLittle_f (k n : Nat) (l : List Int) (hd : Dig l) (hll : l.length < 9223372036854775807) (hn : n < 140737488355328) (hk : 4 * n < k) : cleromancyref01_ToLittle.f k l (n : Int) = some ((List.range n).map fun t => (byteAt l t : Int)) := by
  unfold cleromancyref01_ToLittle.f
  have := TL_l0 l hd hll n hn n k 0 [] (by omega) rfl hk
  rw [List.nil_append, List.nil_append, ← List.range_eq_range'] at this
  rw [if_pos (by omega), if_pos (by omega), Int.toNat_natCast]
  exact this

theorem ToBig_f (k n : Nat) (l : List Int) (hd : Dig l) (hll : l.length < 9223372036854775807) (hn : n < 140737488355328) (hk : 4 * n + 1 < k) : cleromancyref01_ToBig.f k l (n : Int) = some (((List.range n).map fun t => (byteAt l t : Int)).reverse) := by
  unfold cleromancyref01_ToBig.f
  rw [ToLittle_f k n l hd hll hn (by omega), Option.bind_some, Turned_f k _ (by simp; omega) (by simp; omega)]
  rfl

theorem byteAt_val (l : List Int) (hd : Dig l) (i : Nat) : byteAt l i = val l / 256 ^ i % 256 := by
  induction l generalizing i with
  | nil => simp [byteAt, val]
  | cons d l ih =>
    have h1 := hd d (List.mem_cons_self)
    have ih' := fun j => ih (fun x hx => hd x (List.mem_cons_of_mem _ hx)) j
    obtain ⟨v, rfl⟩ : ∃ v : Nat, d = (v : Int) := ⟨d.toNat, by omega⟩
    rcases Nat.lt_or_ge i 3 with h | h
    · have : i = 0 ∨ i = 1 ∨ i = 2 := by omega
      rcases this with rfl | rfl | rfl
      · simp [byteAt, val]; omega
      · simp [byteAt, val]; omega
      · simp [byteAt, val]; omega
    · obtain ⟨j, rfl⟩ : ∃ j, i = j + 3 := ⟨i - 3, by omega⟩
      have e1 : byteAt ((v : Int) :: l) (j + 3) = byteAt l j := by
        unfold byteAt
        rw [show (j + 3) / 3 = j / 3 + 1 by omega, show (j + 3) % 3 = j % 3 by omega, List.getD_cons_succ]
      rw [e1, ih', val, Nat.pow_add, Nat.mul_comm (256 ^ j), ← Nat.div_div_eq_div_mul]
      congr 2
      have : (v : Int).toNat = v := by omega
      rw [this, show 256 ^ 3 = 16777216 by decide]
      omega

theorem big_of_int (k n x : Nat) (hx : x < 9223372036854775808) (hn : n < 140737488355328) (hk : 4 * n + 1 < k) : cleromancyref01_ToBig.f k (digs 3 x) (n : Int) = some (((List.range n).map fun t => ((x / 256 ^ t % 256 : Nat) : Int)).reverse) := by
  rw [ToBig_f k n _ (digs_dig 3 x) (by have := digs_len 3 x; omega) hn hk]
  congr 3
  funext t
  rw [byteAt_val _ (digs_dig 3 x), digs_val 3 x (by omega)]
end Go.Proofs.YtpeebjnfmlfocaaDoor.Ref01
