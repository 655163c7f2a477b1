/- The document's block of SHA-256 is the program's, in plain Lean. Conditions: 8 words, bytes in range. -/
import Derived.Test.YtpeebjnfmlfocaaDoorR05
namespace Go.UW
open Go Go.RowKit
set_option linter.unusedVariables false

theorem byte_lt (c : Int) (h0 : 0 ≤ c) (h1 : c ≤ 255) : (byte c).toNat < 256 := by
  unfold byte
  rw [UInt32.toNat_ofNat_of_lt' (by show c.toNat < 4294967296; omega)]
  omega
theorem mul_or_nat (a b : Nat) (h : b < 256) (ha : a < 4294967296) : (a * 256 % 4294967296 + b) % 4294967296 = a * 256 % 4294967296 ||| b := by
  obtain ⟨q, hq⟩ : ∃ q, q = a % 16777216 := ⟨_, rfl⟩
  have e : a * 256 % 4294967296 = q * 256 := by omega
  have hb : b < 2 ^ 8 := h
  have e2 : q * 256 ||| b = q * 256 + b := by
    have h1 := Nat.shiftLeft_add_eq_or_of_lt hb q
    rw [Nat.shiftLeft_eq] at h1
    exact h1.symm
  rw [e, e2]
  clear e2
  have hq2 : q < 16777216 := by omega
  clear hq e ha
  omega
theorem mul_or (x c : UInt32) (h : c.toNat < 256) : (x * (256 : UInt32) + c) = ((x <<< (8 : UInt32)) ||| c) := by
  have h1 : (x <<< (8 : UInt32)).toNat = x.toNat * 256 % 4294967296 := by
    rw [UInt32.toNat_shiftLeft, Nat.shiftLeft_eq]
    rfl
  apply UInt32.toNat.inj
  rw [UInt32.toNat_or, h1, UInt32.toNat_add, UInt32.toNat_mul]
  exact mul_or_nat x.toNat c.toNat h x.toNat_lt
theorem getD_set32 (l : List UInt32) (i j : Nat) (v : UInt32) (h : i < l.length) : (l.set i v).getD j 0 = if i = j then v else l.getD j 0 := by
  by_cases hj : i = j
  · subst hj; simp [List.getD_eq_getElem?_getD, h]
  · simp [List.getD_eq_getElem?_getD, hj]
theorem getD_left (l m : List UInt32) (i : Nat) (h : i < l.length) : (l ++ m).getD i 0 = l.getD i 0 := by
  rw [List.getD_eq_getElem?_getD, List.getD_eq_getElem?_getD, List.getElem?_append_left h]
theorem getD_right (l : List UInt32) (x : UInt32) (i : Nat) (h : l.length = i) : (l ++ [x]).getD i 0 = x := by
  rw [List.getD_eq_getElem?_getD, List.getElem?_append_right (by omega), show i - l.length = 0 by omega]
  rfl
theorem wIn_get (blk : List Int) (hb : ∀ x ∈ blk, 0 ≤ x ∧ x ≤ 255) (hl : blk.length = 64) (k : Nat) : k ≤ 64 → ∀ i, (wIn blk k).getD i 0 = rword blk i (min 4 (k - 4 * i)) := by
  induction k with
  | zero =>
    intro _ i
    rw [show min 4 (0 - 4 * i) = 0 by omega, rword, wIn]
    rw [List.getD_eq_getElem?_getD, List.getElem?_replicate]
    by_cases hi : i < 64
    · rw [if_pos hi]; rfl
    · rw [if_neg hi]; rfl
  | succ k ih =>
    intro hk i
    have ih := ih (by omega)
    rw [wIn, getD_set32 _ _ _ _ (by rw [wIn_len]; omega)]
    by_cases e : k / 4 = i
    · rw [if_pos e, e, ih i]
      have hr : min 4 (k + 1 - 4 * i) = (min 4 (k - 4 * i)) + 1 := by omega
      have hk2 : 4 * i + min 4 (k - 4 * i) = k := by omega
      rw [hr, rword, hk2, mul_or]
      have hm : blk.getD k 0 ∈ blk := by rw [List.getD_eq_getElem?_getD, List.getElem?_eq_getElem (by omega)]; exact List.getElem_mem _
      exact byte_lt _ (hb _ hm).1 (hb _ hm).2
    · rw [if_neg e, ih i, show min 4 (k + 1 - 4 * i) = min 4 (k - 4 * i) by omega]
theorem rW_get (blk : List Int) (n i : Nat) (h : i < n) : (rW blk n).getD i 0 = rword blk i 4 := by
  simp [rW, List.getD_eq_getElem?_getD, h]
theorem sch_get (w r : List UInt32) (hw : w.length = 64) (hr : r.length = 16) (h : ∀ i, i < 16 → w.getD i 0 = r.getD i 0) (t : Nat) : t ≤ 48 → ∀ i, i < 16 + t → (wSch w t).getD i 0 = (rSch r t).getD i 0 := by
  induction t with
  | zero => intro _ i hi; exact h i hi
  | succ t ih =>
    intro ht i hi
    have ih := ih (by omega)
    rw [wSch, rSch]
    show (List.set _ _ _).getD i 0 = _
    rw [getD_set32 _ _ _ _ (by rw [wSch_len _ hw]; omega)]
    have hrl := rSch_len r hr t
    by_cases e : 16 + t = i
    · rw [if_pos e, ih t (by omega), ih (t + 1) (by omega), ih (t + 9) (by omega), ih (t + 14) (by omega)]
      rw [getD_right _ _ _ (by omega)]
      ac_rfl
    · rw [if_neg e, ih i (by omega), getD_left _ _ _ (by omega)]
theorem vR_same (s w r : List UInt32) (k : Nat) (h : ∀ i, i < k → w.getD i 0 = r.getD i 0) : vR s w k = vR s r k := by
  induction k with
  | zero => rfl
  | succ k ih => rw [vR, vR, ih (fun i hi => h i (by omega)), h k (by omega)]
theorem add_same (s v : List UInt32) (hs : s.length = 8) (hv : v.length = 8) : addTo s v 8 = rAdd s v 8 := by
  match s, hs, v, hv with
  | [a0, a1, a2, a3, a4, a5, a6, a7], _, [b0, b1, b2, b3, b4, b5, b6, b7], _ => rfl
theorem rblock_eq (s : List UInt32) (blk : List Int) (hs : s.length = 8) (hl : blk.length = 64) (hb : ∀ x ∈ blk, 0 ≤ x ∧ x ≤ 255) : rblock s blk = block s blk := by
  have h : vR s (wSch (wIn blk 64) 48) 64 = vR s (rSch (rW blk 16) 48) 64 := by
    refine vR_same s _ _ 64 fun i hi => ?_
    refine sch_get _ _ (wIn_len _ _) (rW_len _ _) (fun i hi => ?_) 48 (Nat.le_refl _) i hi
    rw [wIn_get blk hb hl 64 (Nat.le_refl _) i, rW_get blk 16 i hi, show min 4 (64 - 4 * i) = 4 by omega]
  unfold rblock block
  rw [h, add_same s _ hs (vR_len s _ hs 64)]
end Go.UW
