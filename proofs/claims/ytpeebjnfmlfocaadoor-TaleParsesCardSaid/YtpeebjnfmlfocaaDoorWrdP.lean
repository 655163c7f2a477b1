/- Plain: a line's words, as tale.words and the document's Words say; a text's lines. Condition: at most 100000 bytes. -/
import Derived.Test.YtpeebjnfmlfocaaDoorTp1
import Derived.Test.YtpeebjnfmlfocaaDoorTp2
namespace Go.Proofs.YtpeebjnfmlfocaaDoor.TpP
open Go.RowKit Go.Proofs.YtpeebjnfmlfocaaDoorW.PrintWords Go.Proofs.YtpeebjnfmlfocaaDoorW.PrintLast Go.Proofs.YtpeebjnfmlfocaaDoorW.PrintMore Go.Proofs.YtpeebjnfmlfocaaDoor.Tp Go.Proofs.YtpeebjnfmlfocaaDoor.TpR
set_option linter.unusedVariables false

def mk (l : List UInt8) : ByteArray := ⟨l.toArray⟩
theorem mk_data (s : ByteArray) : mk s.data.toList = s := rfl
theorem mk_list (l : List UInt8) : (mk l).data.toList = l := rfl
theorem mk_size (l : List UInt8) : (mk l).size = l.length := by simp [mk, ByteArray.size]
theorem mk_toList (l : List UInt8) : (mk l).toList = l := by rw [ByteArray.toList_eq]; rfl
theorem ext_mk (s : ByteArray) (a b : Nat) (h : a ≤ b) : s.extract a b = mk ((s.data.toList.drop a).take (b - a)) := by
  have h1 : (s.extract a b).data.toList = (s.data.toList.drop a).take (b - a) := by
    rw [Lib.extract_data]
  rw [← mk_data (s.extract a b), h1]
theorem mk_app (a b : List UInt8) : mk a ++ mk b = mk (a ++ b) := by
  rw [← mk_data (mk a ++ mk b)]
  congr 1

def isB (c : UInt8) : Bool := decide (c = 32 ∨ c = 9 ∨ c = 13)
def wds : List UInt8 → List UInt8 → List (List UInt8)
  | [], cur => if cur = [] then [] else [cur]
  | c :: cs, cur => if isB c = true then (if cur = [] then wds cs [] else cur :: wds cs []) else if cur = [] ∧ c = 35 then [] else wds cs (cur ++ [c])
theorem wds_len : ∀ (cs cur : List UInt8), ∀ x ∈ wds cs cur, x.length ≤ cs.length + cur.length
  | [], cur, x, h => by
    rw [wds] at h
    split at h
    · cases h
    · rw [List.mem_singleton] at h; subst h; omega
  | c :: cs, cur, x, h => by
    rw [wds] at h
    split at h
    · split at h
      · have := wds_len cs [] x h; simp at this ⊢; omega
      · rcases List.mem_cons.1 h with rfl | h
        · omega
        · have := wds_len cs [] x h; simp at this ⊢; omega
    · split at h
      · cases h
      · have := wds_len cs _ x h; simp at this ⊢; omega

theorem u8_iff (c : UInt8) (n : Nat) (hn : n < 256) : ((c.toNat : Int) = (n : Int)) ↔ c = UInt8.ofNat n := by
  constructor
  · intro h
    apply UInt8.toNat_inj.1
    rw [UInt8.toNat_ofNat']
    omega
  · rintro rfl
    rw [UInt8.toNat_ofNat']
    omega
theorem c32 (c : UInt8) : ((c.toNat : Int) = 32) ↔ c = 32 := u8_iff c 32 (by decide)
theorem c9 (c : UInt8) : ((c.toNat : Int) = 9) ↔ c = 9 := u8_iff c 9 (by decide)
theorem c13 (c : UInt8) : ((c.toNat : Int) = 13) ↔ c = 13 := u8_iff c 13 (by decide)
theorem c35 (c : UInt8) : ((c.toNat : Int) = 35) ↔ c = 35 := u8_iff c 35 (by decide)
theorem c10 (c : UInt8) : ((c.toNat : Int) = 10) ↔ c = 10 := u8_iff c 10 (by decide)
theorem blank_eq (c : UInt8) : tale_blank.f (c.toNat : Int) = some (isB c) := by
  unfold tale_blank.f isB
  by_cases h1 : c = 32
  · rw [if_pos ((c32 c).2 h1), decide_eq_true (.inl h1)]
  · rw [if_neg (fun h => h1 ((c32 c).1 h))]
    by_cases h2 : c = 9
    · rw [if_pos ((c9 c).2 h2), decide_eq_true (.inr (.inl h2))]
    · rw [if_neg (fun h => h2 ((c9 c).1 h))]
      congr 1
      by_cases h3 : c = 13
      · rw [decide_eq_true (.inr (.inr h3)), beq_iff_eq]
        exact (c13 c).2 h3
      · rw [decide_eq_false (by rintro (h | h | h); exact h1 h; exact h2 h; exact h3 h), beq_eq_false_iff_ne]
        exact fun h => h3 ((c13 c).1 h)

/-- the word under way of tale.words -/
def curT (s : ByteArray) (fr : Int) (i : Nat) : List UInt8 := if fr < 0 then [] else (s.data.toList.drop fr.toNat).take (i - fr.toNat)
theorem curT_ne (s : ByteArray) (fr : Int) (i : Nat) (h0 : 0 ≤ fr) (h1 : fr < i) (h2 : i ≤ s.size) : curT s fr i ≠ [] := by
  unfold curT
  rw [if_neg (by omega)]
  intro h
  have := congrArg List.length h
  rw [List.length_take, List.length_drop] at this
  have hs : s.data.toList.length = s.size := by simp
  rw [hs] at this
  simp at this
  omega
theorem curT_snoc (s : ByteArray) (fr : Int) (i : Nat) (h0 : 0 ≤ fr) (h1 : fr < i) (h2 : i < s.size) : curT s fr i ++ [s[i]'h2] = curT s fr (i + 1) := by
  unfold curT
  rw [if_neg (by omega), if_neg (by omega), show i + 1 - fr.toNat = (i - fr.toNat) + 1 by omega]
  have hs : s.data.toList.length = s.size := by simp
  rw [List.take_succ_eq_append_getElem (by rw [List.length_drop]; omega)]
  congr 1
  rw [List.getElem_drop]
  have e : fr.toNat + (i - fr.toNat) = i := by omega
  simp only [e]
  rfl
theorem curT_one (s : ByteArray) (i : Nat) (h2 : i < s.size) : [s[i]'h2] = curT s (i : Int) (i + 1) := by
  unfold curT
  rw [if_neg (by omega), show i + 1 - (i : Int).toNat = 1 by omega, Int.toNat_natCast, list_at s i h2]
  rfl
theorem words_l0 (s : ByteArray) (hs : s.size ≤ 100000) (d : Nat) : ∀ (k i : Nat) (fr : Int) (out : List ByteArray), i + d = s.size → 4 * d + 8 < k → (fr = -1 ∨ (0 ≤ fr ∧ fr < i)) → out.length ≤ i →
    tale_words.l0 k s out fr (i : Int) = some (out ++ (wds (s.data.toList.drop i) (curT s fr i)).map mk) := by
  induction d with
  | zero =>
    intro k i fr out hi hk hf ho
    obtain ⟨k, rfl⟩ : ∃ m, k = m + 1 + 1 + 1 + 1 + 1 + 1 := ⟨k - 6, by omega⟩
    have hl : s.data.toList.length = s.size := by simp
    have hie : (i : Int) = (s.size : Int) := by omega
    have hw : wrap64 ((i : Int) + 1) = (i : Int) + 1 := IntWalk.wrap64_in _ (by omega)
    rw [List.drop_of_length_le (by omega), wds]
    simp only [tale_words.l0]
    rw [if_pos (by omega), if_pos hie]
    simp only [tale_words.j1]
    rw [if_pos trivial]
    simp only [tale_words.j2]
    rcases hf with rfl | ⟨h0, h1⟩
    · have hc : curT s (-1) i = [] := by unfold curT; rw [if_pos (by decide)]
      rw [hc, if_pos rfl, if_neg (by decide), if_pos trivial]
      simp only [tale_words.j3]
      rw [if_neg (by decide), hw]
      simp only [tale_words.l0]
      rw [if_neg (by omega)]
      simp
    · rw [if_neg (curT_ne s fr i h0 h1 (by omega)), if_pos (by simpa using h0), if_pos h0, if_pos (by omega), if_pos (by omega), if_pos (by omega), hw]
      simp only [tale_words.l0]
      rw [if_neg (by omega)]
      congr 2
      rw [List.map_singleton, ext_mk s fr.toNat (i : Int).toNat (by omega), Int.toNat_natCast]
      unfold curT
      rw [if_neg (by omega)]
  | succ d ih =>
    intro k i fr out hi hk hf ho
    obtain ⟨k, rfl⟩ : ∃ m, k = m + 1 + 1 + 1 + 1 := ⟨k - 4, by omega⟩
    have hil : i < s.size := by omega
    have hw : wrap64 ((i : Int) + 1) = ((i + 1 : Nat) : Int) := by rw [IntWalk.wrap64_in _ (by omega)]; omega
    rw [list_at s i hil, wds]
    have hb := bt_nat s i hil
    simp only [tale_words.l0]
    rw [if_pos (by omega), if_neg (by omega), if_pos (by omega), if_pos (by omega), hb, blank_eq, Option.bind_some]
    simp only [tale_words.j1]
    cases hB : isB (s[i]'hil) with
    | true =>
      rw [if_pos rfl, if_pos rfl]
      simp only [tale_words.j2]
      rcases hf with rfl | ⟨h0, h1⟩
      · have hc : curT s (-1) i = [] := by unfold curT; rw [if_pos (by decide)]
        have hc2 : curT s (-1) (i + 1) = [] := by unfold curT; rw [if_pos (by decide)]
        rw [hc, if_pos rfl, if_neg (by decide), if_pos trivial]
        simp only [tale_words.j3]
        rw [if_neg (by decide), hw, ih k (i + 1) (-1) out (by omega) (by omega) (.inl rfl) (by omega), hc2]
      · have hc2 : curT s (-1) (i + 1) = [] := by unfold curT; rw [if_pos (by decide)]
        rw [if_neg (curT_ne s fr i h0 h1 (by omega)), if_pos (by simpa using h0), if_pos h0, if_pos (by omega), if_pos (by omega), if_pos (by omega), hw, ih (k + 1) (i + 1) (-1) _ (by omega) (by omega) (.inl rfl) (by simp; omega), hc2, List.map_cons, List.append_assoc]
        congr 3
        rw [ext_mk s fr.toNat (i : Int).toNat (by omega), Int.toNat_natCast]
        unfold curT
        rw [if_neg (by omega)]
        rfl
    | false =>
      rw [if_neg (by decide), if_neg (by decide)]
      simp only [tale_words.j2]
      rw [if_neg (by decide), if_neg (by decide)]
      simp only [tale_words.j3]
      rcases hf with rfl | ⟨h0, h1⟩
      · have hc : curT s (-1) i = [] := by unfold curT; rw [if_pos (by decide)]
        rw [hc, if_pos (by decide), if_pos (by omega), if_pos (by omega), hb]
        by_cases h35 : s[i]'hil = 35
        · rw [if_pos ((c35 _).2 h35), if_pos ⟨rfl, h35⟩]
          simp
        · rw [if_neg (fun h => h35 ((c35 _).1 h)), if_neg (fun h => h35 h.2), hw, ih (k) (i + 1) (i : Int) out (by omega) (by omega) (.inr ⟨by omega, by omega⟩) (by omega), List.nil_append, ← curT_one s i hil]
      · rw [if_neg (by simpa using h0), if_neg (fun h => curT_ne s fr i h0 h1 (by omega) h.1), hw, ih (k) (i + 1) fr out (by omega) (by omega) (.inr ⟨h0, by omega⟩) (by omega), curT_snoc s fr i h0 h1 hil]
theorem words_eq (s : ByteArray) (hs : s.size ≤ 100000) (k : Nat) (hk : 4 * s.size + 8 < k) : tale_words.f k s = some ((wds s.data.toList []).map mk) := by
  have := words_l0 s hs s.size k 0 (-1) [] (by omega) hk (.inl rfl) (by simp)
  have hc : curT s (-1) 0 = [] := by unfold curT; rw [if_pos (by decide)]
  rw [hc, List.drop_zero, List.nil_append] at this
  exact this

theorem Words_l0 (s : ByteArray) (hs : s.size ≤ 100000) (d : Nat) : ∀ (k i : Nat) (cur : List UInt8) (out : List ByteArray), i + d = s.size → 2 * d + 2 < k → cur.length ≤ i → out.length ≤ i →
    cleromancyref44_Words.l0 k s out (mk cur) (i : Int) = some (out ++ (wds (s.data.toList.drop i) cur).map mk) := by
  induction d with
  | zero =>
    intro k i cur out hi hk hcl ho
    obtain ⟨k, rfl⟩ : ∃ m, k = m + 1 := ⟨k - 1, by omega⟩
    have hl : s.data.toList.length = s.size := by simp
    rw [List.drop_of_length_le (by omega), wds]
    simp only [cleromancyref44_Words.l0]
    rw [if_neg (by omega), mk_toList]
    by_cases h : cur = []
    · rw [if_pos h, if_pos h]; simp
    · rw [if_neg h, if_neg h, if_pos (by omega)]; rfl
  | succ d ih =>
    intro k i cur out hi hk hcl ho
    obtain ⟨k, rfl⟩ : ∃ m, k = m + 1 + 1 := ⟨k - 2, by omega⟩
    have hil : i < s.size := by omega
    have hw : wrap64 ((i : Int) + 1) = ((i + 1 : Nat) : Int) := by rw [IntWalk.wrap64_in _ (by omega)]; omega
    rw [list_at s i hil, wds]
    have hb := bt_nat s i hil
    have hj : ∀ x : Bool, cleromancyref44_Words.j1 (k + 1) s out (mk cur) (i : Int) (bt s (i : Int)) x = some (out ++ (if x = true then (if cur = [] then wds (s.data.toList.drop (i + 1)) [] else cur :: wds (s.data.toList.drop (i + 1)) []) else if cur = [] ∧ s[i]'hil = 35 then [] else wds (s.data.toList.drop (i + 1)) (cur ++ [s[i]'hil])).map mk) := by
      intro x
      have hx1 : s.extract (i : Int).toNat ((i + 1 : Nat) : Int).toNat = mk [s[i]'hil] := by
        rw [Int.toNat_natCast, Int.toNat_natCast, ext_mk s i (i + 1) (by omega), show i + 1 - i = 1 by omega, list_at s i hil]
        rfl
      simp only [cleromancyref44_Words.j1, mk_toList, hw, hx1, hb]
      cases x with
      | true =>
        rw [if_pos rfl, if_pos rfl]
        by_cases h : cur = []
        · rw [if_pos h, if_pos h]
          exact ih k (i + 1) [] out (by omega) (by omega) (by simp) (by omega)
        · rw [if_neg h, if_neg h, if_pos (by omega)]
          have := ih k (i + 1) [] (out ++ [mk cur]) (by omega) (by omega) (by simp) (by simp; omega)
          rw [List.append_assoc] at this
          exact this
      | false =>
        simp only [Bool.false_eq_true, if_false]
        have hsz : (mk cur).size + (mk [s[i]'hil]).size ≤ 9223372036854775807 := by rw [mk_size, mk_size]; simp; omega
        have hnext := ih k (i + 1) (cur ++ [s[i]'hil]) out (by omega) (by omega) (by simp; omega) (by omega)
        rw [← mk_app] at hnext
        by_cases h : cur = []
        · rw [if_pos h]
          by_cases h35 : s[i]'hil = 35
          · rw [if_pos ((c35 _).2 h35), if_pos ⟨h, h35⟩]
            simp
          · rw [if_neg (fun h2 => h35 ((c35 _).1 h2)), if_neg (show ¬ (cur = [] ∧ s[i]'hil = 35) from fun h2 => h35 h2.2), if_pos (by omega), if_pos (by omega), if_pos (by omega), if_pos hsz]
            exact hnext
        · rw [if_neg h, if_neg (show ¬ (cur = [] ∧ s[i]'hil = 35) from fun h2 => h h2.1), if_pos (by omega), if_pos (by omega), if_pos (by omega), if_pos hsz]
          exact hnext
    simp only [cleromancyref44_Words.l0]
    rw [if_pos (by omega), if_pos (by omega)]
    have hB : isB (s[i]'hil) = decide (s[i]'hil = 32 ∨ s[i]'hil = 9 ∨ s[i]'hil = 13) := rfl
    by_cases h1 : s[i]'hil = 32
    · rw [if_pos (by rw [hb]; exact (c32 _).2 h1), hj, hB, decide_eq_true (.inl h1)]
    · rw [if_neg (by rw [hb]; exact fun h => h1 ((c32 _).1 h))]
      by_cases h2 : s[i]'hil = 9
      · rw [if_pos (by rw [hb]; exact (c9 _).2 h2), hj, hB, decide_eq_true (.inr (.inl h2))]
      · rw [if_neg (by rw [hb]; exact fun h => h2 ((c9 _).1 h))]
        by_cases h3 : s[i]'hil = 13
        · rw [show (bt s (i : Int) == 13) = true from by rw [hb, beq_iff_eq]; exact (c13 _).2 h3, hj, hB, decide_eq_true (.inr (.inr h3))]
        · rw [show (bt s (i : Int) == 13) = false from by rw [hb, beq_eq_false_iff_ne]; exact fun h => h3 ((c13 _).1 h), hj, hB, decide_eq_false (by rintro (h | h | h); exact h1 h; exact h2 h; exact h3 h)]
theorem Words_eq (s : ByteArray) (hs : s.size ≤ 100000) (k : Nat) (hk : 2 * s.size + 2 < k) : cleromancyref44_Words.f k s = some ((wds s.data.toList []).map mk) := by
  have := Words_l0 s hs s.size k 0 [] [] (by omega) hk (by simp) (by simp)
  rw [List.drop_zero, List.nil_append] at this
  exact this
end Go.Proofs.YtpeebjnfmlfocaaDoor.TpP
