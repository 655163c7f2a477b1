/- The document's Less, Rank and Same, as printed, in plain Lean. Conditions: bytes in range; rounds enough. -/
import Derived.Test.YtpeebjnfmlfocaaDoorPSum
import Derived.Test.YtpeebjnfmlfocaaDoorRank
namespace Go.Proofs.YtpeebjnfmlfocaaDoor.Ref05
open Go.RowKit Go.UW Go.Proofs.YtpeebjnfmlfocaaDoorW.PrintWords Go.Proofs.YtpeebjnfmlfocaaDoorW.PrintLast Go.Proofs.YtpeebjnfmlfocaaDoorW.PrintMore Go.Proofs.YtpeebjnfmlfocaaDoor.Print Go.Proofs.YtpeebjnfmlfocaaDoor.Dig Go.Proofs.YtpeebjnfmlfocaaDoor.Ref01
set_option linter.unusedVariables false

theorem Same_l0 (l : List Int) (hl : l.length < 4611686018427387904) (r : Nat) : ∀ (k i : Nat), i + r = l.length → r < k → cleromancyref01_Same.l0 k l l (i : Int) = some true := by
  induction r with
  | zero =>
    intro k i hi hk
    obtain ⟨k, rfl⟩ : ∃ m, k = m + 1 := ⟨k - 1, by omega⟩
    simp only [cleromancyref01_Same.l0]
    rw [if_neg (by omega)]
  | succ r ih =>
    intro k i hi hk
    obtain ⟨k, rfl⟩ : ∃ m, k = m + 1 := ⟨k - 1, by omega⟩
    simp only [cleromancyref01_Same.l0]
    have e1 : wrap64 ((i : Int) + 1) = ((i + 1 : Nat) : Int) := by rw [w64 (by omega) (by omega)]; rfl
    rw [if_pos (by omega), if_pos (by omega), if_pos (by omega), if_pos trivial, e1]
    exact ih k (i + 1) (by omega) (by omega)
theorem Same_self (k : Nat) (l : List Int) (hl : l.length < 4611686018427387904) (hk : l.length < k) : cleromancyref01_Same.f k l l = some true := by
  unfold cleromancyref01_Same.f
  rw [if_pos rfl]
  exact Same_l0 l hl l.length k 0 (by omega) hk

theorem u8_lt (x y : Int) (hx : 0 ≤ x ∧ x ≤ 255) (hy : 0 ≤ y ∧ y ≤ 255) : UInt8.ofNat x.toNat < UInt8.ofNat y.toNat ↔ x < y := by
  rw [UInt8.lt_iff_toNat_lt, UInt8.toNat_ofNat_of_lt' (by show x.toNat < 256; omega), UInt8.toNat_ofNat_of_lt' (by show y.toNat < 256; omega)]
  omega
theorem bytesOf_drop (a : List Int) (i : Nat) (h : i < a.length) : Lib.bytesOf (a.drop i) = UInt8.ofNat (a.getD i 0).toNat :: Lib.bytesOf (a.drop (i + 1)) := by
  rw [List.drop_eq_getElem_cons h, List.getD_eq_getElem?_getD, List.getElem?_eq_getElem h]
  rfl
theorem Less_l0 (a b : List Int) (ha : ∀ x ∈ a, 0 ≤ x ∧ x ≤ 255) (hb : ∀ x ∈ b, 0 ≤ x ∧ x ≤ 255) (hl : a.length < 4611686018427387904) (r : Nat) : ∀ (k i : Nat), i + r = a.length → i ≤ b.length → 2 * r + 2 < k →
    cleromancyref21_Less.l0 k a b (i : Int) = some (lessB (a.drop i) (b.drop i)) := by
  have fin : ∀ (k i : Nat), (¬ i < a.length ∨ ¬ i < b.length) → i ≤ a.length → i ≤ b.length → cleromancyref21_Less.j1 (k + 1) a b (i : Int) false = some (lessB (a.drop i) (b.drop i)) := by
    intro k i h h1 h2
    simp only [cleromancyref21_Less.j1]
    rw [if_neg (by decide)]
    congr 1
    unfold lessB cmpB
    rcases Nat.lt_or_ge i a.length with la | la
    · rw [List.drop_eq_nil_of_le (by omega : b.length ≤ i), bytesOf_drop a i la]
      simp [Lib.bytesOf, Lib.compareBytes]
      omega
    · rw [List.drop_eq_nil_of_le la]
      rcases Nat.lt_or_ge i b.length with lb | lb
      · rw [bytesOf_drop b i lb]
        simp [Lib.bytesOf, Lib.compareBytes]
        omega
      · rw [List.drop_eq_nil_of_le lb]
        simp [Lib.bytesOf, Lib.compareBytes]
        omega
  induction r with
  | zero =>
    intro k i hi hib hk
    obtain ⟨k, rfl⟩ : ∃ m, k = m + 2 := ⟨k - 2, by omega⟩
    simp only [cleromancyref21_Less.l0]
    rw [if_neg (by omega)]
    exact fin k i (by omega) (by omega) hib
  | succ r ih =>
    intro k i hi hib hk
    obtain ⟨k, rfl⟩ : ∃ m, k = m + 2 := ⟨k - 2, by omega⟩
    simp only [cleromancyref21_Less.l0]
    rw [if_pos (by omega)]
    rcases Nat.lt_or_ge i b.length with lb | lb
    · rw [decide_eq_true (by omega)]
      have la : i < a.length := by omega
      simp only [cleromancyref21_Less.j1]
      have e1 : wrap64 ((i : Int) + 1) = ((i + 1 : Nat) : Int) := by rw [w64 (by omega) (by omega)]; rfl
      have hx : 0 ≤ a.getD i 0 ∧ a.getD i 0 ≤ 255 := ha _ (by rw [List.getD_eq_getElem?_getD, List.getElem?_eq_getElem la]; exact List.getElem_mem _)
      have hy : 0 ≤ b.getD i 0 ∧ b.getD i 0 ≤ 255 := hb _ (by rw [List.getD_eq_getElem?_getD, List.getElem?_eq_getElem lb]; exact List.getElem_mem _)
      rw [if_pos trivial, if_pos (by omega), if_pos (by omega), if_pos (by omega), rd_eq, rd_eq, e1]
      have l1 := u8_lt _ _ hx hy
      have l2 := u8_lt _ _ hy hx
      have eL : lessB (a.drop i) (b.drop i) = if a.getD i 0 < b.getD i 0 then true else if b.getD i 0 < a.getD i 0 then false else lessB (a.drop (i + 1)) (b.drop (i + 1)) := by
        unfold lessB cmpB
        rw [bytesOf_drop a i la, bytesOf_drop b i lb, Lib.compareBytes]
        by_cases c1 : a.getD i 0 < b.getD i 0
        · rw [if_pos c1, if_pos (l1.2 c1)]; rfl
        · rw [if_neg c1, if_neg (fun h => c1 (l1.1 h))]
          by_cases c2 : b.getD i 0 < a.getD i 0
          · rw [if_pos c2, if_pos (l2.2 c2)]; rfl
          · rw [if_neg c2, if_neg (fun h => c2 (l2.1 h))]
      rw [eL]
      by_cases c1 : a.getD i 0 < b.getD i 0
      · rw [if_pos c1, if_pos c1]
      · rw [if_neg c1, if_neg c1]
        by_cases c2 : b.getD i 0 < a.getD i 0
        · rw [if_pos c2, if_pos c2]
        · rw [if_neg c2, if_neg c2]
          exact ih k (i + 1) (by omega) (by omega) (by omega)
    · rw [decide_eq_false (by omega)]
      exact fin k i (by omega) (by omega) hib
theorem Less_f (k : Nat) (a b : List Int) (ha : ∀ x ∈ a, 0 ≤ x ∧ x ≤ 255) (hb : ∀ x ∈ b, 0 ≤ x ∧ x ≤ 255) (hl : a.length < 4611686018427387904) (hk : 2 * a.length + 2 < k) : cleromancyref21_Less.f k a b = some (lessB a b) :=
  Less_l0 a b ha hb hl a.length k 0 (by omega) (by omega) hk

theorem sha_rg (l : List Int) : ∀ x ∈ sha l, 0 ≤ x ∧ x ≤ 255 := by
  intro x hx
  unfold sha outB at hx
  obtain ⟨u, _, hx⟩ := List.mem_flatMap.1 hx
  unfold be4 at hx
  obtain ⟨j, _, rfl⟩ := List.mem_map.1 hx
  omega
theorem rkN_rg (l : List Int) (q : Nat) : ∀ x ∈ rkN l q, 0 ≤ x ∧ x ≤ 255 := by
  induction q with
  | zero => exact sha_rg _
  | succ q ih => rw [rkN]; split; exact sha_rg _; exact ih
theorem bigE_of (n : Nat) : ((List.range 8).map fun t => ((n / 256 ^ t % 256 : Nat) : Int)).reverse = bigE n := by
  show [_, _, _, _, _, _, _, _] = [_, _, _, _, _, _, _, _]
  rfl
/-- what one round reckons -/
theorem rank_h (l : List Int) (hl : l.length ≤ 1000000) (hy : ∀ x ∈ l, 0 ≤ x ∧ x ≤ 255) (k i : Nat) (hi : i ≤ 100000) (hk : l.length + 500 < k) :
    cleromancyref01_Int.f k (i : Int) = some (digs 3 i) ∧ cleromancyref01_ToBig.f k (digs 3 i) 8 = some (bigE i) ∧ cleromancyref05_Sum.f k (l ++ bigE i) = some (sha (l ++ bigE i)) := by
  refine ⟨Int_f k i (by omega) (by omega), ?_, ?_⟩
  · have := big_of_int k 8 i (by omega) (by omega) (by omega)
    rw [bigE_of] at this
    exact this
  · refine sum_f k _ (by rw [List.length_append, bigE_len]; omega) (fun x hx => ?_) (by rw [List.length_append, bigE_len]; omega)
    rcases List.mem_append.1 hx with h | h
    · exact hy x h
    · exact bigE_rg i x h
theorem Rank_l0 (l : List Int) (hl : l.length ≤ 1000000) (hy : ∀ x ∈ l, 0 ≤ x ∧ x ≤ 255) (n : Nat) (hn : n ≤ 5000) (r : Nat) : ∀ (k q : Nat), q + 1 + r = n → r + l.length + 600 < k →
    cleromancyref21_Rank.l0 k l (n : Int) (rkN l q) ((q + 2 : Nat) : Int) = some (rkN l (n - 1)) := by
  induction r with
  | zero =>
    intro k q hq hk
    obtain ⟨k, rfl⟩ : ∃ m, k = m + 1 := ⟨k - 1, by omega⟩
    simp only [cleromancyref21_Rank.l0]
    rw [if_neg (by omega), show n - 1 = q by omega]
  | succ r ih =>
    intro k q hq hk
    obtain ⟨k, rfl⟩ : ∃ m, k = m + 1 := ⟨k - 1, by omega⟩
    obtain ⟨h1, h2, h3⟩ := rank_h l hl hy k (q + 2) (by omega) (by omega)
    have e1 : wrap64 (((q + 2 : Nat) : Int) + 1) = ((q + 1 + 2 : Nat) : Int) := by rw [w64 (by omega) (by omega)]; omega
    simp only [cleromancyref21_Rank.l0]
    rw [if_pos (by omega), if_pos (by simp; omega), Option.bind_some, List.nil_append, h1, Option.bind_some, h2, Option.bind_some, if_pos (by rw [bigE_len]; omega), h3, Option.bind_some, if_neg (by omega),
      Less_f k _ _ (sha_rg _) (rkN_rg _ _) (by rw [sha_len]; decide) (by rw [sha_len]; omega), Option.bind_some, e1]
    have := ih k (q + 1) (by omega) (by omega)
    rw [rkN] at this
    by_cases c : lessB (sha (l ++ bigE (q + 2))) (rkN l q) = true
    · rw [if_pos c] at this ⊢
      exact this
    · rw [if_neg c] at this ⊢
      exact this
theorem Rank_f (k : Nat) (l : List Int) (hl : l.length ≤ 1000000) (hy : ∀ x ∈ l, 0 ≤ x ∧ x ≤ 255) (n : Nat) (h1 : 1 ≤ n) (hn : n ≤ 5000) (hk : n + l.length + 700 < k) : cleromancyref21_Rank.f k l (n : Int) = some (rkN l (n - 1)) := by
  obtain ⟨k, rfl⟩ : ∃ m, k = m + 1 := ⟨k - 1, by omega⟩
  unfold cleromancyref21_Rank.f
  obtain ⟨h1', h2, h3⟩ := rank_h l hl hy k 1 (by omega) (by omega)
  have e1 : wrap64 ((1 : Int) + 1) = ((0 + 2 : Nat) : Int) := by rw [w64 (by omega) (by omega)]; rfl
  have h1'' : cleromancyref01_Int.f k 1 = some (digs 3 1) := h1'
  simp only [cleromancyref21_Rank.l0]
  rw [if_pos (by omega), if_pos (by simp; omega), Option.bind_some, List.nil_append, h1'', Option.bind_some, h2, Option.bind_some, if_pos (by rw [bigE_len]; omega), h3, Option.bind_some, if_pos trivial, e1]
  exact Rank_l0 l hl hy n hn (n - 1) k 0 (by omega) (by omega)
end Go.Proofs.YtpeebjnfmlfocaaDoor.Ref05
