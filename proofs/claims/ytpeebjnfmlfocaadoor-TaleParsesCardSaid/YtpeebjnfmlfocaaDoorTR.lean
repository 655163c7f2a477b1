/- Plain laws of the document's numbers (base 2^24, the lowest first), as printed for the tale: Int, Trim, Add; a number has one row of digits. Conditions: digits in range; rounds enough. -/
import Derived.Test.YtpeebjnfmlfocaaDoorTm1
import Derived.IntWalk
namespace Go.Proofs.YtpeebjnfmlfocaaDoor.TpR
open Go.RowKit Go.Proofs.YtpeebjnfmlfocaaDoorW.PrintWords Go.Proofs.YtpeebjnfmlfocaaDoorW.PrintLast Go.Proofs.YtpeebjnfmlfocaaDoorW.PrintMore Go.Proofs.YtpeebjnfmlfocaaDoor.Tm
set_option linter.unusedVariables false

def val : List Int → Nat
  | [] => 0
  | d :: l => d.toNat + 16777216 * val l
def Dig (l : List Int) : Prop := ∀ d ∈ l, 0 ≤ d ∧ d < 16777216
def digs : Nat → Nat → List Int
  | 0, _ => []
  | k + 1, x => if x = 0 then [] else ((x % 16777216 : Nat) : Int) :: digs k (x / 16777216)
theorem digs_dig (k x : Nat) : Dig (digs k x) := by
  induction k generalizing x with
  | zero => intro d hd; cases hd
  | succ k ih =>
    intro d hd
    rw [digs] at hd
    split at hd
    · cases hd
    · rcases List.mem_cons.1 hd with rfl | h
      · omega
      · exact ih _ d h
theorem digs_val (k x : Nat) (h : x < 16777216 ^ k) : val (digs k x) = x := by
  induction k generalizing x with
  | zero => simp at h; subst h; rfl
  | succ k ih =>
    rw [digs]
    split
    · next h0 => rw [h0]; rfl
    · rw [val, ih _ (by rw [Nat.div_lt_iff_lt_mul (by decide)]; rw [Nat.pow_succ] at h; exact h)]
      omega
theorem digs_len (k x : Nat) : (digs k x).length ≤ k := by
  induction k generalizing x with
  | zero => simp [digs]
  | succ k ih =>
    rw [digs]
    split
    · simp
    · have := ih (x / 16777216); simp; omega

theorem w64 {x : Int} (h1 : -9223372036854775808 ≤ x) (h2 : x ≤ 9223372036854775807) : wrap64 x = x := IntWalk.wrap64_in x ⟨h1, h2⟩

theorem Int_l0 (j : Nat) : ∀ (k x : Nat) (acc : List Int), x < 16777216 ^ j → x < 9223372036854775808 → j < k → acc.length + j < 17592186044416 →
    cleromancyref01_Int.l0 k (x : Int) acc = some (acc ++ digs j x) := by
  induction j with
  | zero =>
    intro k x acc hx _ hk _
    obtain ⟨k, rfl⟩ : ∃ m, k = m + 1 := ⟨k - 1, by omega⟩
    have : x = 0 := by simpa using hx
    subst this
    simp only [cleromancyref01_Int.l0]
    rw [if_neg (by decide), digs, List.append_nil]
  | succ j ih =>
    intro k x acc hx hx2 hk hl
    obtain ⟨k, rfl⟩ : ∃ m, k = m + 1 := ⟨k - 1, by omega⟩
    simp only [cleromancyref01_Int.l0]
    by_cases h0 : x = 0
    · subst h0
      rw [if_neg (by decide), digs, if_pos rfl, List.append_nil]
    · have e1 : wrap64 (Int.tdiv (x : Int) 16777216) = ((x / 16777216 : Nat) : Int) := by
        rw [Int.tdiv_eq_ediv_of_nonneg (by omega), w64 (by omega) (by omega)]
        rfl
      have e2 : Int.tmod (x : Int) 16777216 = ((x % 16777216 : Nat) : Int) := by
        rw [Int.tmod_eq_emod_of_nonneg (by omega)]
        rfl
      rw [if_pos (by omega), if_pos (by omega), e1, e2, ih k _ _ (by rw [Nat.div_lt_iff_lt_mul (by decide)]; rw [Nat.pow_succ] at hx; exact hx) (by omega) (by omega) (by rw [List.length_append]; simp; omega), digs, if_neg h0, List.append_assoc]
      rfl

theorem Int_f (k n : Nat) (hk : 4 ≤ k) (hn : n < 9223372036854775808) : cleromancyref01_Int.f k (n : Int) = some (digs 3 n) := by
  unfold cleromancyref01_Int.f
  rw [Int_l0 3 k n [] (by omega) hn (by omega) (by simp)]
  rfl

theorem rd_eq (l : List Int) (i : Nat) : rd l (i : Int) = l.getD i 0 := by simp [rd]

theorem val_app (a b : List Int) : val (a ++ b) = val a + 16777216 ^ a.length * val b := by
  induction a with
  | nil => simp [val]
  | cons d a ih =>
    rw [List.cons_append, val, val, ih, List.length_cons, Nat.pow_succ', Nat.mul_add, Nat.mul_assoc, Nat.add_assoc]
theorem val_push (a : List Int) (x : Int) : val (a ++ [x]) = val a + 16777216 ^ a.length * x.toNat := by
  rw [val_app]
  simp [val]
theorem val_drop (a : List Int) (i : Nat) : val (a.drop i) = (a.getD i 0).toNat + 16777216 * val (a.drop (i + 1)) := by
  rcases Nat.lt_or_ge i a.length with h | h
  · rw [List.drop_eq_getElem_cons h, val, List.getD_eq_getElem?_getD, List.getElem?_eq_getElem h]
    rfl
  · rw [List.drop_eq_nil_of_le h, List.drop_eq_nil_of_le (by omega), List.getD_eq_getElem?_getD, List.getElem?_eq_none (by omega)]
    rfl
theorem dig_get {a : List Int} (h : Dig a) (i : Nat) : 0 ≤ a.getD i 0 ∧ a.getD i 0 < 16777216 := by
  rcases Nat.lt_or_ge i a.length with hl | hl
  · rw [List.getD_eq_getElem?_getD, List.getElem?_eq_getElem hl]
    exact h _ (List.getElem_mem _)
  · rw [List.getD_eq_getElem?_getD, List.getElem?_eq_none (by omega)]
    exact ⟨by decide, by decide⟩
theorem dig_push {a : List Int} (h : Dig a) {x : Int} (h0 : 0 ≤ x) (h1 : x < 16777216) : Dig (a ++ [x]) := by
  intro d hd
  rcases List.mem_append.1 hd with hd | hd
  · exact h d hd
  · rw [List.mem_singleton] at hd
    subst hd
    exact ⟨h0, h1⟩
theorem dig_take {a : List Int} (h : Dig a) (n : Nat) : Dig (a.take n) := fun d hd => h d (List.mem_of_mem_take hd)

def Can (l : List Int) : Prop := ∀ m, l.length = m + 1 → l.getD m 0 ≠ 0
def trimN (l : List Int) : Nat → List Int
  | 0 => []
  | n + 1 => if l.getD n 0 = 0 then trimN l n else l.take (n + 1)
theorem trimN_dig {l : List Int} (h : Dig l) (n : Nat) : Dig (trimN l n) := by
  induction n with
  | zero => intro d hd; cases hd
  | succ n ih => rw [trimN]; split; exact ih; exact dig_take h _
theorem take_push (l : List Int) (n : Nat) (h : n < l.length) : l.take (n + 1) = l.take n ++ [l.getD n 0] := by
  rw [List.take_succ_eq_append_getElem h, List.getD_eq_getElem?_getD, List.getElem?_eq_getElem h]
  rfl
theorem trimN_val (l : List Int) (n : Nat) (h : n ≤ l.length) : val (trimN l n) = val (l.take n) := by
  induction n with
  | zero => rfl
  | succ n ih =>
    rw [trimN]
    split
    · next h0 => rw [ih (by omega), take_push l n (by omega), val_push, h0]; rfl
    · rfl
theorem trimN_can (l : List Int) (n : Nat) (h : n ≤ l.length) : Can (trimN l n) := by
  induction n with
  | zero => intro m hm; cases hm
  | succ n ih =>
    rw [trimN]
    split
    · exact ih (by omega)
    · next h0 =>
      intro m hm
      rw [List.length_take] at hm
      obtain rfl : m = n := by omega
      rw [List.getD_eq_getElem?_getD, List.getElem?_take_of_lt (by omega), ← List.getD_eq_getElem?_getD]
      exact h0
theorem trimN_len (l : List Int) (n : Nat) : (trimN l n).length ≤ n := by
  induction n with
  | zero => simp [trimN]
  | succ n ih =>
    rw [trimN]
    split
    · omega
    · rw [List.length_take]; omega

theorem Trim_l0 (l : List Int) (hl : l.length < 9223372036854775807) (n : Nat) : ∀ k, n ≤ l.length → n < k → cleromancyref01_Trim.l0 k l (n : Int) = some (trimN l n) := by
  induction n with
  | zero =>
    intro k _ hk
    obtain ⟨k, rfl⟩ : ∃ m, k = m + 1 := ⟨k - 1, by omega⟩
    simp only [cleromancyref01_Trim.l0]
    rw [if_neg (by decide), if_pos (by decide), if_pos (by omega)]
    rfl
  | succ n ih =>
    intro k hn hk
    obtain ⟨k, rfl⟩ : ∃ m, k = m + 1 := ⟨k - 1, by omega⟩
    simp only [cleromancyref01_Trim.l0]
    have e : wrap64 (((n + 1 : Nat) : Int) - 1) = (n : Int) := by rw [w64 (by omega) (by omega)]; omega
    rw [if_pos (by omega), e, if_pos (by omega), if_pos (by omega), rd_eq, trimN]
    split
    · exact ih k (by omega) (by omega)
    · rw [if_pos (by omega), if_pos (by omega)]
      rfl
theorem Trim_f (k : Nat) (l : List Int) (hl : l.length < 9223372036854775807) (hk : l.length < k) : cleromancyref01_Trim.f k l = some (trimN l l.length) :=
  Trim_l0 l hl l.length k (Nat.le_refl _) hk

theorem add_step (p c x y A B acc : Nat) : acc + p * ((c + x + y) % 16777216) + p * 16777216 * ((c + x + y) / 16777216 + A + B) = acc + p * (c + (x + 16777216 * A) + (y + 16777216 * B)) := by
  have e : c + (x + 16777216 * A) + (y + 16777216 * B) = (c + x + y) % 16777216 + 16777216 * ((c + x + y) / 16777216 + A + B) := by omega
  have key : ∀ s q : Nat, p * (s + 16777216 * q) = p * s + p * 16777216 * q := fun s q => by rw [Nat.mul_add, Nat.mul_assoc]
  rw [e, key, Nat.add_assoc]

/-- one round of Add, with the digits that are not there as 0 -/
theorem Add_j1 (a b acc : List Int) (ha : Dig a) (hb : Dig b) (i c k : Nat) (hc : c ≤ 1) (hi : i < 17592186044416) (hacc : acc.length = i) :
    cleromancyref01_Add.j1 (k + 1) a b acc (c : Int) (i : Int) true = cleromancyref01_Add.l0 k a b (acc ++ [(((c + (a.getD i 0).toNat + (b.getD i 0).toNat) % 16777216 : Nat) : Int)]) (((c + (a.getD i 0).toNat + (b.getD i 0).toNat) / 16777216 : Nat) : Int) ((i + 1 : Nat) : Int) := by
  have h1 := dig_get ha i
  have h2 := dig_get hb i
  have e3 : wrap64 ((i : Int) + 1) = ((i + 1 : Nat) : Int) := by rw [w64 (by omega) (by omega)]; rfl
  simp only [cleromancyref01_Add.j1]
  rw [if_pos trivial, e3, rd_eq, rd_eq]
  obtain ⟨x, hx⟩ : ∃ x : Nat, a.getD i 0 = x := ⟨(a.getD i 0).toNat, by omega⟩
  obtain ⟨y, hy⟩ : ∃ y : Nat, b.getD i 0 = y := ⟨(b.getD i 0).toNat, by omega⟩
  rw [hx, hy, Int.toNat_natCast, Int.toNat_natCast]
  rw [hx] at h1
  rw [hy] at h2
  have hi0 : 0 ≤ (i : Int) := Int.natCast_nonneg i
  have hal : acc.length < 17592186044416 := by omega
  have hc' : (c : Int) ≤ 1 := by omega
  have b1 : ((c + x : Nat) : Int) < 100000000 := by omega
  have b2 : ((c + y : Nat) : Int) < 100000000 := by omega
  have b3 : ((c + x + y : Nat) : Int) < 100000000 := by omega
  have b4 : (c : Int) < 100000000 := by omega
  have hx0 : ¬ (i : Int) < (a.length : Int) → x = 0 := fun h => by
    rw [List.getD_eq_getElem?_getD, List.getElem?_eq_none (by omega)] at hx
    have : (0 : Int) = x := hx
    omega
  have hy0 : ¬ (i : Int) < (b.length : Int) → y = 0 := fun h => by
    rw [List.getD_eq_getElem?_getD, List.getElem?_eq_none (by omega)] at hy
    have : (0 : Int) = y := hy
    omega
  have g1 : wrap64 ((c : Int) + (x : Int)) = ((c + x : Nat) : Int) := by rw [w64 (by omega) (by omega)]; rfl
  have g2 : wrap64 ((c : Int) + (y : Int)) = ((c + y : Nat) : Int) := by rw [w64 (by omega) (by omega)]; rfl
  have g3 : wrap64 (((c + x : Nat) : Int) + (y : Int)) = ((c + x + y : Nat) : Int) := by rw [w64 (by omega) (by omega)]; rfl
  have m : ∀ s : Nat, Int.tmod (s : Int) 16777216 = ((s % 16777216 : Nat) : Int) := fun s => by rw [Int.tmod_eq_emod_of_nonneg (by omega)]; rfl
  have q : ∀ s : Nat, (s : Int) < 100000000 → wrap64 (Int.tdiv (s : Int) 16777216) = ((s / 16777216 : Nat) : Int) := fun s hs => by
    rw [Int.tdiv_eq_ediv_of_nonneg (by omega), w64 (by omega) (by omega)]; rfl
  clear h1 h2 hx hy hi hacc hc
  by_cases la : (i : Int) < (a.length : Int)
  · rw [if_pos la, if_pos hi0]
    by_cases lb : (i : Int) < (b.length : Int)
    · rw [if_pos lb, if_pos hal, g1, g3, m, q _ b3]
    · obtain rfl := hy0 lb
      rw [if_neg lb, if_pos hal, g1, m, q _ b1, Nat.add_zero (c + x)]
  · obtain rfl := hx0 la
    rw [if_neg la]
    by_cases lb : (i : Int) < (b.length : Int)
    · rw [if_pos lb, if_pos hi0, if_pos hal, g2, m, q _ b2, Nat.add_zero c]
    · obtain rfl := hy0 lb
      rw [if_neg lb, if_pos hal, m, q _ b4, Nat.add_zero (c + 0), Nat.add_zero c]

theorem Add_l0 (a b : List Int) (ha : Dig a) (hb : Dig b) (M : Nat) (hM : M < 17592186044400) (hMa : a.length ≤ M) (hMb : b.length ≤ M) (d : Nat) : ∀ (i c k : Nat) (acc : List Int), i + d = M + 1 → 3 * d + M + 4 < k → acc.length = i → Dig acc → c ≤ 1 → (i = M + 1 → c = 0) →
    val acc + 16777216 ^ i * (c + val (a.drop i) + val (b.drop i)) = val a + val b →
    ∃ r, cleromancyref01_Add.l0 k a b acc (c : Int) (i : Int) = some r ∧ Dig r ∧ Can r ∧ val r = val a + val b ∧ r.length ≤ M + 1 := by
  have fin : ∀ (i k : Nat) (acc : List Int), i ≤ M + 1 → M + 1 < k → acc.length = i → Dig acc → a.length ≤ i → b.length ≤ i → val acc + 16777216 ^ i * (0 + val (a.drop i) + val (b.drop i)) = val a + val b →
      ∃ r, ((cleromancyref01_Trim.f k acc).bind fun t169 => (some t169)) = some r ∧ Dig r ∧ Can r ∧ val r = val a + val b ∧ r.length ≤ M + 1 := by
    intro i k acc hi hk hacc hda la lb hv
    rw [Trim_f k acc (by omega) (by omega), Option.bind_some]
    refine ⟨_, rfl, trimN_dig hda _, trimN_can _ _ (Nat.le_refl _), ?_, by have := trimN_len acc acc.length; omega⟩
    rw [trimN_val _ _ (Nat.le_refl _), List.take_length, ← hv, List.drop_eq_nil_of_le la, List.drop_eq_nil_of_le lb]
    simp [val]
  have go : ∀ (i c k : Nat) (acc : List Int), cleromancyref01_Add.l0 (k + 1) a b acc (c : Int) (i : Int) = if (i : Int) < (a.length : Int) ∨ (i : Int) < (b.length : Int) ∨ 0 < c then cleromancyref01_Add.j1 k a b acc (c : Int) (i : Int) true else cleromancyref01_Add.j1 k a b acc (c : Int) (i : Int) false := by
    intro i c k acc
    simp only [cleromancyref01_Add.l0]
    by_cases la : (i : Int) < (a.length : Int)
    · rw [if_pos la, if_pos (Or.inl la)]
    · rw [if_neg la]
      by_cases lb : (i : Int) < (b.length : Int)
      · rw [if_pos lb, if_pos (Or.inr (Or.inl lb))]
      · rw [if_neg lb]
        by_cases lc : 0 < c
        · rw [if_pos (Or.inr (Or.inr lc)), decide_eq_true (by omega)]
        · rw [if_neg (by omega), decide_eq_false (by omega)]
  induction d with
  | zero =>
    intro i c k acc hi hk hacc hda hc hc0 hv
    obtain ⟨k, rfl⟩ : ∃ m, k = m + 2 := ⟨k - 2, by omega⟩
    obtain rfl := hc0 (by omega)
    rw [go, if_neg (by omega)]
    simp only [cleromancyref01_Add.j1]
    rw [if_neg (by decide)]
    exact fin i k acc (by omega) (by omega) hacc hda (by omega) (by omega) hv
  | succ d ih =>
    intro i c k acc hi hk hacc hda hc hc0 hv
    obtain ⟨k, rfl⟩ : ∃ m, k = m + 2 := ⟨k - 2, by omega⟩
    rw [go]
    split
    · rw [Add_j1 a b acc ha hb i c k hc (by omega) hacc]
      have h1 := dig_get ha i
      have h2 := dig_get hb i
      refine ih (i + 1) _ k _ (by omega) (by omega) (by rw [List.length_append, hacc]; rfl) (dig_push hda (by omega) (by omega)) (by omega) ?_ ?_
      · intro he
        have ea : a.getD i 0 = 0 := by rw [List.getD_eq_getElem?_getD, List.getElem?_eq_none (by omega)]; rfl
        have eb : b.getD i 0 = 0 := by rw [List.getD_eq_getElem?_getD, List.getElem?_eq_none (by omega)]; rfl
        rw [ea, eb]
        show (c + 0 + 0) / 16777216 = 0
        omega
      · rw [val_push, hacc, Int.toNat_natCast, ← hv, val_drop a i, val_drop b i, Nat.pow_succ]
        exact add_step _ _ _ _ _ _ _
    · next hn =>
      have hc' : c = 0 := by omega
      subst hc'
      simp only [cleromancyref01_Add.j1]
      rw [if_neg (by decide)]
      exact fin i k acc (by omega) (by omega) hacc hda (by omega) (by omega) hv
theorem Add_f (k : Nat) (a b : List Int) (ha : Dig a) (hb : Dig b) (M : Nat) (hM : M < 17592186044400) (hMa : a.length ≤ M) (hMb : b.length ≤ M) (hk : 4 * M + 8 < k) :
    ∃ r, cleromancyref01_Add.f k a b = some r ∧ Dig r ∧ Can r ∧ val r = val a + val b ∧ r.length ≤ M + 1 := by
  have := Add_l0 a b ha hb M hM hMa hMb (M + 1) 0 0 k [] (by omega) (by omega) rfl (fun _ h => by cases h) (by omega) (by omega) (by simp [val])
  exact this


theorem can_tail {d : Int} {l : List Int} (h : Can (d :: l)) : Can l := fun m hm => by
  have := h (m + 1) (by rw [List.length_cons, hm])
  rwa [List.getD_cons_succ] at this
theorem can_pos : ∀ (l : List Int), Dig l → Can l → l ≠ [] → 0 < val l
  | [], _, _, h => absurd rfl h
  | d :: [], hd, hc, _ => by
    have h1 := hc 0 rfl
    rw [List.getD_cons_zero] at h1
    have h2 := hd d (List.mem_cons_self)
    simp only [val]
    omega
  | d :: e :: l, hd, hc, _ => by
    have := can_pos (e :: l) (fun x hx => hd x (List.mem_cons_of_mem _ hx)) (can_tail hc) (by simp)
    rw [val]
    omega
theorem can_ext : ∀ (a b : List Int), Dig a → Dig b → Can a → Can b → val a = val b → a = b
  | [], [], _, _, _, _, _ => rfl
  | [], e :: b, _, hb, _, cb, h => by have := can_pos (e :: b) hb cb (by simp); rw [← h] at this; exact absurd this (by decide)
  | d :: a, [], ha, _, ca, _, h => by have := can_pos (d :: a) ha ca (by simp); rw [h] at this; exact absurd this (by decide)
  | d :: a, e :: b, ha, hb, ca, cb, h => by
    have h1 := ha d (List.mem_cons_self)
    have h2 := hb e (List.mem_cons_self)
    rw [val, val] at h
    have h3 : d = e := by omega
    have h4 : val a = val b := by omega
    rw [h3, can_ext a b (fun x hx => ha x (List.mem_cons_of_mem _ hx)) (fun x hx => hb x (List.mem_cons_of_mem _ hx)) (can_tail ca) (can_tail cb) h4]
theorem digs_zero (k : Nat) : digs k 0 = [] := by cases k <;> rfl
theorem digs_can (k : Nat) : ∀ (x : Nat), x < 16777216 ^ k → Can (digs k x) := by
  induction k with
  | zero => intro x _ m hm; cases hm
  | succ k ih =>
    intro x hx
    have hx2 : x / 16777216 < 16777216 ^ k := by rw [Nat.div_lt_iff_lt_mul (by decide)]; rw [Nat.pow_succ] at hx; exact hx
    rw [digs]
    split
    · intro m hm; cases hm
    · next h0 =>
      intro m hm
      cases m with
      | zero =>
        rw [List.getD_cons_zero]
        have hl : (digs k (x / 16777216)).length = 0 := by simpa using hm
        have hv := digs_val k _ hx2
        rw [List.length_eq_zero_iff.1 hl] at hv
        have : x / 16777216 = 0 := hv.symm
        omega
      | succ m =>
        rw [List.getD_cons_succ]
        exact ih _ hx2 m (by simpa using hm)
theorem digs_of {l : List Int} (hd : Dig l) (hc : Can l) (k : Nat) (h : val l < 16777216 ^ k) : l = digs k (val l) :=
  can_ext _ _ hd (digs_dig _ _) hc (digs_can _ _ h) (digs_val _ _ h).symm
theorem digs_any (k m x : Nat) (hk : x < 16777216 ^ k) (hm : x < 16777216 ^ m) : digs k x = digs m x :=
  can_ext _ _ (digs_dig _ _) (digs_dig _ _) (digs_can _ _ hk) (digs_can _ _ hm) (by rw [digs_val _ _ hk, digs_val _ _ hm])
theorem val_lt : ∀ (l : List Int), Dig l → val l < 16777216 ^ l.length
  | [], _ => by decide
  | d :: l, h => by
    have h1 := h d (List.mem_cons_self)
    have h2 := val_lt l (fun x hx => h x (List.mem_cons_of_mem _ hx))
    rw [val, List.length_cons, Nat.pow_succ]
    omega
theorem val_set : ∀ (l : List Int) (t : Nat) (x : Int), t < l.length → val (l.set t x) + 16777216 ^ t * (l.getD t 0).toNat = val l + 16777216 ^ t * x.toNat
  | [], _, _, h => absurd h (by simp)
  | d :: l, 0, x, _ => by simp [val]; omega
  | d :: l, t + 1, x, h => by
    have := val_set l t x (by simpa using h)
    rw [List.set_cons_succ, val, val, List.getD_cons_succ, Nat.pow_succ, Nat.mul_comm (16777216 ^ t) 16777216, Nat.mul_assoc, Nat.mul_assoc]
    omega
end Go.Proofs.YtpeebjnfmlfocaaDoor.TpR
