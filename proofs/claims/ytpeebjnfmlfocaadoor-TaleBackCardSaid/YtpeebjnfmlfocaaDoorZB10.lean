/- Plain: a line's words, as tale.words and the document's Words say; a text's lines. Condition: at most 100000 bytes. -/
import Derived.Test.YtpeebjnfmlfocaaDoorZB08
import Derived.Test.YtpeebjnfmlfocaaDoorZB09
namespace Go.Proofs.YtpeebjnfmlfocaaDoor.TpP
open Go.RowKit Go.Proofs.YtpeebjnfmlfocaaDoorW.PrintWords Go.Proofs.YtpeebjnfmlfocaaDoorW.PrintLast Go.Proofs.YtpeebjnfmlfocaaDoorW.PrintMore Go.Proofs.YtpeebjnfmlfocaaDoor.Tp Go.Proofs.YtpeebjnfmlfocaaDoor.TpR
set_option linter.unusedVariables false
def mk (l : List UInt8) : ByteArray := ⟨l.toArray⟩
theorem mk_data (s : ByteArray) : mk s.data.toList = s := rfl
theorem mk_list (l : List UInt8) : (mk l).data.toList = l := rfl
theorem mk_size (l : List UInt8) : (mk l).size = l.length := by simp [mk, ByteArray.size]
theorem mk_toList (l : List UInt8) : (mk l).toList = l := by rw [ByteArray.toList_eq]; rfl
theorem ext_mk (s : ByteArray) (a b : Nat) (h : a ≤ b) : s.extract a b = mk ((s.data.toList.drop a).take (b - a)) := by
  have h1 : (s.extract a b).data.toList = (s.data.toList.drop a).take (b - a) := by
    rw [Lib.extract_data]
  rw [← mk_data (s.extract a b), h1]
def isB (c : UInt8) : Bool := decide (c = 32 ∨ c = 9 ∨ c = 13)
def wds : List UInt8 → List UInt8 → List (List UInt8)
  | [], cur => if cur = [] then [] else [cur]
  | c :: cs, cur => if isB c = true then (if cur = [] then wds cs [] else cur :: wds cs []) else if cur = [] ∧ c = 35 then [] else wds cs (cur ++ [c])
theorem wds_len : ∀ (cs cur : List UInt8), ∀ x ∈ wds cs cur, x.length ≤ cs.length + cur.length
  | [], cur, x, h => by
    rw [wds] at h
    split at h
    · cases h
    · rw [List.mem_singleton] at h; subst h; omega
  | c :: cs, cur, x, h => by
    rw [wds] at h
    split at h
    · split at h
      · have := wds_len cs [] x h; simp at this ⊢; omega
      · rcases List.mem_cons.1 h with rfl | h
        · omega
        · have := wds_len cs [] x h; simp at this ⊢; omega
    · split at h
      · cases h
      · have := wds_len cs _ x h; simp at this ⊢; omega
theorem u8_iff (c : UInt8) (n : Nat) (hn : n < 256) : ((c.toNat : Int) = (n : Int)) ↔ c = UInt8.ofNat n := by
  constructor
  · intro h
    apply UInt8.toNat_inj.1
    rw [UInt8.toNat_ofNat']
    omega
  · rintro rfl
    rw [UInt8.toNat_ofNat']
    omega
theorem c32 (c : UInt8) : ((c.toNat : Int) = 32) ↔ c = 32 := u8_iff c 32 (by decide)
theorem c9 (c : UInt8) : ((c.toNat : Int) = 9) ↔ c = 9 := u8_iff c 9 (by decide)
theorem c13 (c : UInt8) : ((c.toNat : Int) = 13) ↔ c = 13 := u8_iff c 13 (by decide)
theorem c35 (c : UInt8) : ((c.toNat : Int) = 35) ↔ c = 35 := u8_iff c 35 (by decide)
theorem c10 (c : UInt8) : ((c.toNat : Int) = 10) ↔ c = 10 := u8_iff c 10 (by decide)
theorem blank_eq (c : UInt8) : tale_blank.f (c.toNat : Int) = some (isB c) := by
  unfold tale_blank.f isB
  by_cases h1 : c = 32
  · rw [if_pos ((c32 c).2 h1), decide_eq_true (.inl h1)]
  · rw [if_neg (fun h => h1 ((c32 c).1 h))]
    by_cases h2 : c = 9
    · rw [if_pos ((c9 c).2 h2), decide_eq_true (.inr (.inl h2))]
    · rw [if_neg (fun h => h2 ((c9 c).1 h))]
      congr 1
      by_cases h3 : c = 13
      · rw [decide_eq_true (.inr (.inr h3)), beq_iff_eq]
        exact (c13 c).2 h3
      · rw [decide_eq_false (by rintro (h | h | h); exact h1 h; exact h2 h; exact h3 h), beq_eq_false_iff_ne]
        exact fun h => h3 ((c13 c).1 h)
def curT (s : ByteArray) (fr : Int) (i : Nat) : List UInt8 := if fr < 0 then [] else (s.data.toList.drop fr.toNat).take (i - fr.toNat)
theorem curT_ne (s : ByteArray) (fr : Int) (i : Nat) (h0 : 0 ≤ fr) (h1 : fr < i) (h2 : i ≤ s.size) : curT s fr i ≠ [] := by
  unfold curT
  rw [if_neg (by omega)]
  intro h
  have := congrArg List.length h
  rw [List.length_take, List.length_drop] at this
  have hs : s.data.toList.length = s.size := by simp
  rw [hs] at this
  simp at this
  omega
theorem curT_snoc (s : ByteArray) (fr : Int) (i : Nat) (h0 : 0 ≤ fr) (h1 : fr < i) (h2 : i < s.size) : curT s fr i ++ [s[i]'h2] = curT s fr (i + 1) := by
  unfold curT
  rw [if_neg (by omega), if_neg (by omega), show i + 1 - fr.toNat = (i - fr.toNat) + 1 by omega]
  have hs : s.data.toList.length = s.size := by simp
  rw [List.take_succ_eq_append_getElem (by rw [List.length_drop]; omega)]
  congr 1
  rw [List.getElem_drop]
  have e : fr.toNat + (i - fr.toNat) = i := by omega
  simp only [e]
  rfl
theorem curT_one (s : ByteArray) (i : Nat) (h2 : i < s.size) : [s[i]'h2] = curT s (i : Int) (i + 1) := by
  unfold curT
  rw [if_neg (by omega), show i + 1 - (i : Int).toNat = 1 by omega, Int.toNat_natCast, list_at s i h2]
  rfl
theorem words_l0 (s : ByteArray) (hs : s.size ≤ 100000) (d : Nat) : ∀ (k i : Nat) (fr : Int) (out : List ByteArray), i + d = s.size → 4 * d + 8 < k → (fr = -1 ∨ (0 ≤ fr ∧ fr < i)) → out.length ≤ i →
    tale_words.l0 k s out fr (i : Int) = some (out ++ (wds (s.data.toList.drop i) (curT s fr i)).map mk) := by
  induction d with
  | zero =>
    intro k i fr out hi hk hf ho
    obtain ⟨k, rfl⟩ : ∃ m, k = m + 1 + 1 + 1 + 1 + 1 + 1 := ⟨k - 6, by omega⟩
    have hl : s.data.toList.length = s.size := by simp
    have hie : (i : Int) = (s.size : Int) := by omega
    have hw : wrap64 ((i : Int) + 1) = (i : Int) + 1 := IntWalk.wrap64_in _ (by omega)
    rw [List.drop_of_length_le (by omega), wds]
    simp only [tale_words.l0]
    rw [if_pos (by omega), if_pos hie]
    simp only [tale_words.j1]
    rw [if_pos trivial]
    simp only [tale_words.j2]
    rcases hf with rfl | ⟨h0, h1⟩
    · have hc : curT s (-1) i = [] := by unfold curT; rw [if_pos (by decide)]
      rw [hc, if_pos rfl, if_neg (by decide), if_pos trivial]
      simp only [tale_words.j3]
      rw [if_neg (by decide), hw]
      simp only [tale_words.l0]
      rw [if_neg (by omega)]
      simp
    · rw [if_neg (curT_ne s fr i h0 h1 (by omega)), if_pos (by simpa using h0), if_pos h0, if_pos (by omega), if_pos (by omega), if_pos (by omega), hw]
      simp only [tale_words.l0]
      rw [if_neg (by omega)]
      congr 2
      rw [List.map_singleton, ext_mk s fr.toNat (i : Int).toNat (by omega), Int.toNat_natCast]
      unfold curT
      rw [if_neg (by omega)]
  | succ d ih =>
    intro k i fr out hi hk hf ho
    obtain ⟨k, rfl⟩ : ∃ m, k = m + 1 + 1 + 1 + 1 := ⟨k - 4, by omega⟩
    have hil : i < s.size := by omega
    have hw : wrap64 ((i : Int) + 1) = ((i + 1 : Nat) : Int) := by rw [IntWalk.wrap64_in _ (by omega)]; omega
    rw [list_at s i hil, wds]
    have hb := bt_nat s i hil
    simp only [tale_words.l0]
    rw [if_pos (by omega), if_neg (by omega), if_pos (by omega), if_pos (by omega), hb, blank_eq, Option.bind_some]
    simp only [tale_words.j1]
    cases hB : isB (s[i]'hil) with
    | true =>
      rw [if_pos rfl, if_pos rfl]
      simp only [tale_words.j2]
      rcases hf with rfl | ⟨h0, h1⟩
      · have hc : curT s (-1) i = [] := by unfold curT; rw [if_pos (by decide)]
        have hc2 : curT s (-1) (i + 1) = [] := by unfold curT; rw [if_pos (by decide)]
        rw [hc, if_pos rfl, if_neg (by decide), if_pos trivial]
        simp only [tale_words.j3]
        rw [if_neg (by decide), hw, ih k (i + 1) (-1) out (by omega) (by omega) (.inl rfl) (by omega), hc2]
      · have hc2 : curT s (-1) (i + 1) = [] := by unfold curT; rw [if_pos (by decide)]
        rw [if_neg (curT_ne s fr i h0 h1 (by omega)), if_pos (by simpa using h0), if_pos h0, if_pos (by omega), if_pos (by omega), if_pos (by omega), hw, ih (k + 1) (i + 1) (-1) _ (by omega) (by omega) (.inl rfl) (by simp; omega), hc2, List.map_cons, List.append_assoc]
        congr 3
        rw [ext_mk s fr.toNat (i : Int).toNat (by omega), Int.toNat_natCast]
        unfold curT
        rw [if_neg (by omega)]
        rfl
    | false =>
      rw [if_neg (by decide), if_neg (by decide)]
      simp only [tale_words.j2]
      rw [if_neg (by decide), if_neg (by decide)]
      simp only [tale_words.j3]
      rcases hf with rfl | ⟨h0, h1⟩
      · have hc : curT s (-1) i = [] := by unfold curT; rw [if_pos (by decide)]
        rw [hc, if_pos (by decide), if_pos (by omega), if_pos (by omega), hb]
        by_cases h35 : s[i]'hil = 35
        · rw [if_pos ((c35 _).2 h35), if_pos ⟨rfl, h35⟩]
          simp
        · rw [if_neg (fun h => h35 ((c35 _).1 h)), if_neg (fun h => h35 h.2), hw, ih (k) (i + 1) (i : Int) out (by omega) (by omega) (.inr ⟨by omega, by omega⟩) (by omega), List.nil_append, ← curT_one s i hil]
      · rw [if_neg (by simpa using h0), if_neg (fun h => curT_ne s fr i h0 h1 (by omega) h.1), hw, ih (k) (i + 1) fr out (by omega) (by omega) (.inr ⟨h0, by omega⟩) (by omega), curT_snoc s fr i h0 h1 hil]
theorem words_eq (s : ByteArray) (hs : s.size ≤ 100000) (k : Nat) (hk : 4 * s.size + 8 < k) : tale_words.f k s = some ((wds s.data.toList []).map mk) := by
  have := words_l0 s hs s.size k 0 (-1) [] (by omega) hk (.inl rfl) (by simp)
  have hc : curT s (-1) 0 = [] := by unfold curT; rw [if_pos (by decide)]
  rw [hc, List.drop_zero, List.nil_append] at this
  exact this
end Go.Proofs.YtpeebjnfmlfocaaDoor.TpP
