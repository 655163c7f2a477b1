/- Plain: a text's lines, as strings.Split and a scan say; tale.Parse and the document's Parse. Condition: at most 3000 bytes. -/
import Derived.Test.YtpeebjnfmlfocaaDoorWrdP
namespace Go.Proofs.YtpeebjnfmlfocaaDoor.TpP
open Go.RowKit Go.Proofs.YtpeebjnfmlfocaaDoorW.PrintWords Go.Proofs.YtpeebjnfmlfocaaDoorW.PrintLast Go.Proofs.YtpeebjnfmlfocaaDoorW.PrintMore Go.Proofs.YtpeebjnfmlfocaaDoor.Tp Go.Proofs.YtpeebjnfmlfocaaDoor.TpR
set_option linter.unusedVariables false

def linesP : List UInt8 → List UInt8 → List (List UInt8)
  | [], cur => [cur]
  | c :: cs, cur => if c = 10 then cur :: linesP cs [] else linesP cs (cur ++ [c])
theorem linesP_len : ∀ (cs cur : List UInt8), (linesP cs cur).length ≤ cs.length + 1
  | [], cur => by simp [linesP]
  | c :: cs, cur => by
    rw [linesP]
    split
    · have := linesP_len cs []; simp; omega
    · have := linesP_len cs (cur ++ [c]); simp; omega
theorem linesP_each : ∀ (cs cur : List UInt8), ∀ x ∈ linesP cs cur, x.length ≤ cs.length + cur.length
  | [], cur, x, h => by rw [linesP, List.mem_singleton] at h; subst h; simp
  | c :: cs, cur, x, h => by
    rw [linesP] at h
    split at h
    · rcases List.mem_cons.1 h with rfl | h
      · simp
      · have := linesP_each cs [] x h; simp at this ⊢; omega
    · have := linesP_each cs _ x h; simp at this ⊢; omega
def pre (cur : List UInt8) : List (List UInt8) → List (List UInt8)
  | [] => [cur]
  | h :: t => (cur ++ h) :: t
theorem index_self (l : List UInt8) : Lib.index (10 :: l) [10] = 0 := by rw [Lib.index_one]; rfl
theorem index_other (b : UInt8) (l : List UInt8) (h : b ≠ 10) : Lib.index (b :: l) [10] = if Lib.index l [10] == -1 then -1 else Lib.index l [10] + 1 := by
  rw [Lib.index_one, Lib.index_one, Lib.indexByte, if_neg (by simpa using h)]
theorem index_none (l : List UInt8) (h : 0 < l.count 10) : ∃ i : Nat, Lib.index l [10] = (i : Int) := by
  have h1 := Lib.index_ge l [10]
  by_cases h2 : Lib.index l [10] = -1
  · rw [Lib.index_one] at h2
    have h3 := Lib.indexByte_none h2
    have h4 : 10 ∈ l := List.count_pos_iff.1 h
    obtain ⟨k, hk, he⟩ := List.getElem_of_mem h4
    exact absurd (by rw [List.getElem?_eq_getElem hk, he]) (h3 k)
  · exact ⟨(Lib.index l [10]).toNat, by omega⟩
theorem splitK_pos (k : Nat) (l : List UInt8) (i : Nat) (h : Lib.index l [10] = (i : Int)) : Lib.splitK [10] 0 (k + 1) l = l.take i :: Lib.splitK [10] 0 k (l.drop (i + 1)) := by
  have hm : ¬ (Lib.index l [10] == -1) = true := fun e => by have := beq_iff_eq.1 e; omega
  rw [Lib.splitK, if_neg hm, h]
  rfl
theorem split_lines : ∀ (l cur : List UInt8), linesP l cur = pre cur (Lib.splitK [10] 0 (l.count 10) l)
  | [], cur => by simp [linesP, Lib.splitK, pre]
  | b :: l, cur => by
    rw [linesP]
    by_cases hb : b = 10
    · subst hb
      rw [if_pos rfl, List.count_cons_self, splitK_pos _ _ 0 (index_self l), pre, split_lines l []]
      have hne : Lib.splitK [10] 0 (l.count 10) l ≠ [] := by
        cases l.count 10 with
        | zero => simp [Lib.splitK]
        | succ k => rw [Lib.splitK]; split <;> simp
      cases hs : Lib.splitK [10] 0 (l.count 10) l with
      | nil => exact absurd hs hne
      | cons a t => simp [pre, hs]
    · rw [if_neg hb, split_lines l (cur ++ [b]), List.count_cons_of_ne (by simpa using hb)]
      cases hk : l.count 10 with
      | zero => simp [Lib.splitK, pre]
      | succ k =>
        obtain ⟨i, hi⟩ := index_none l (by omega)
        have hi2 : Lib.index (b :: l) [10] = ((i + 1 : Nat) : Int) := by
          rw [index_other b l hb, if_neg (fun e => by have := beq_iff_eq.1 e; omega), hi]
          rfl
        rw [splitK_pos k l i hi, splitK_pos k (b :: l) (i + 1) hi2]
        simp [pre]
theorem split_eq (s : ByteArray) (hs : s.size ≤ 2097152) : strings_Split.f s ⟨#[10]⟩ = some ((linesP s.data.toList []).map mk) := by
  unfold strings_Split.f
  rw [if_pos ⟨rfl, hs⟩]
  congr 1
  have h := Lib.splitB_data ⟨#[10]⟩ 0 (Lib.countB s ⟨#[10]⟩) s
  have hc : Lib.countB s ⟨#[10]⟩ = s.data.toList.count 10 := by
    show Lib.count s.data.toList [10] = _
    rw [Lib.count_one]
  have hl := split_lines s.data.toList []
  have e : pre [] (Lib.splitK [10] 0 (s.data.toList.count 10) s.data.toList) = Lib.splitK [10] 0 (s.data.toList.count 10) s.data.toList := by
    cases hs : Lib.splitK [10] 0 (s.data.toList.count 10) s.data.toList with
    | nil => 
      exfalso
      cases hk : s.data.toList.count 10 with
      | zero => rw [hk] at hs; simp [Lib.splitK] at hs
      | succ k => rw [hk, Lib.splitK] at hs; split at hs <;> simp at hs
    | cons a t => rfl
  rw [hl, e, ← hc]
  have h2 : Lib.splitK [10] 0 (Lib.countB s ⟨#[10]⟩) s.data.toList = (Lib.splitB ⟨#[10]⟩ 0 (Lib.countB s ⟨#[10]⟩) s).map (·.data.toList) := h.symm
  rw [h2, List.map_map]
  exact (List.map_id _).symm

def wl (line : List UInt8) : List ByteArray := (wds line []).map mk
def dT (R : Res) : S63 := ⟨R.1, R.2.1 1, R.2.1 2, R.2.1 3, R.2.1 4, R.2.2.1⟩
def goT : List (List UInt8) → Nat → List S63 → List S63 × Int × Int
  | [], _, out => (out, 0, 0)
  | ln :: ls, i, out => if wl ln = [] then goT ls (i + 1) out else if (readF numT hexT (wl ln)).2.2.2 = true then goT ls (i + 1) (out ++ [dT (readF numT hexT (wl ln))]) else ([], ((i + 1 : Nat) : Int), 2)
def goR : List (List UInt8) → Nat → List S63 → List S63 × Int
  | [], _, out => (out, 0)
  | ln :: ls, i, out => if wl ln = [] then goR ls (i + 1) out else if (refRead numR hexR (wl ln)).2.2.2 = true then goR ls (i + 1) (out ++ [dT (refRead numR hexR (wl ln))]) else ([], ((i + 1 : Nat) : Int))
theorem go_alike : ∀ (ls : List (List UInt8)) (i : Nat) (out : List S63), (0 < (goR ls i out).2 ∧ goT ls i out = ([], (goR ls i out).2, 2)) ∨ ((goR ls i out).2 = 0 ∧ goT ls i out = ((goR ls i out).1, 0, 0))
  | [], i, out => .inr ⟨rfl, rfl⟩
  | ln :: ls, i, out => by
    rw [goR, goT]
    by_cases h : wl ln = []
    · rw [if_pos h, if_pos h]
      exact go_alike ls _ _
    · rw [if_neg h, if_neg h]
      obtain ⟨x, rest, he⟩ : ∃ x rest, wl ln = x :: rest := by
        cases hw : wl ln with
        | nil => exact absurd hw h
        | cons x rest => exact ⟨x, rest, rfl⟩
      rw [he]
      obtain ⟨h1, h2⟩ := read_alike x rest
      by_cases hok : (readF numT hexT (x :: rest)).2.2.2 = true
      · have hok2 := hok
        rw [h1] at hok2
        rw [if_pos hok, if_pos hok2]
        have hd : dT (readF numT hexT (x :: rest)) = dT (refRead numR hexR (x :: rest)) := by
          obtain ⟨a1, a2, a3, a4, a5, a6⟩ := h2 hok
          unfold dT
          rw [a1, a2, a3, a4, a5, a6]
        rw [hd]
        exact go_alike ls _ _
      · have hok2 := hok
        rw [h1] at hok2
        rw [if_neg hok, if_neg hok2]
        exact .inl ⟨by simp, rfl⟩

theorem wl_sizes (ln : List UInt8) (h : ln.length ≤ 100000) : ∀ x ∈ wl ln, x.size ≤ 100000 := by
  intro x hx
  obtain ⟨y, hy, rfl⟩ := List.mem_map.1 hx
  have := wds_len ln [] y hy
  rw [mk_size]
  simp at this
  omega
theorem tread_eq (ln : List UInt8) (h : ln.length ≤ 100000) (hne : wl ln ≠ []) : tale_read.f (wl ln) = some (tup (readF numT hexT (wl ln))) := by
  unfold tale_read.f
  rw [if_pos ⟨List.length_pos_iff.2 hne, wl_sizes ln h⟩]
theorem rread_eq (ln : List UInt8) (h : ln.length ≤ 100000) (hne : wl ln ≠ []) : cleromancyref44_Read.f (wl ln) = some (tup (refRead numR hexR (wl ln))) := by
  unfold cleromancyref44_Read.f
  rw [if_pos ⟨List.length_pos_iff.2 hne, wl_sizes ln h⟩]
theorem wl_len0 (ln : List UInt8) : ((wl ln).length : Int) = 0 ↔ wl ln = [] := by
  rw [← List.length_eq_zero_iff]
  omega

theorem tParse_l0 (L : List (List UInt8)) (hL : L.length ≤ 100000) (hL2 : ∀ x ∈ L, x.length ≤ 3000) (d : Nat) : ∀ (k i : Nat) (out : List S63), i + d = L.length → d + 20000 < k → out.length ≤ i →
    tale_Parse.l0 k out (L.map mk) (L.length : Int) (i : Int) = some (goT (L.drop i) i out) := by
  induction d with
  | zero =>
    intro k i out hi hk ho
    obtain ⟨k, rfl⟩ : ∃ m, k = m + 1 := ⟨k - 1, by omega⟩
    simp only [tale_Parse.l0]
    rw [if_neg (by omega), List.drop_of_length_le (by omega)]
    rfl
  | succ d ih =>
    intro k i out hi hk ho
    obtain ⟨k, rfl⟩ : ∃ m, k = m + 1 := ⟨k - 1, by omega⟩
    have hil : i < L.length := by omega
    have hw : wrap64 ((i : Int) + 1) = ((i + 1 : Nat) : Int) := by rw [IntWalk.wrap64_in _ (by omega)]; omega
    have hx := hL2 (L[i]'hil) (List.getElem_mem _)
    have hr : rdOf ByteArray.empty (L.map mk) (i : Int) = mk (L[i]'hil) := by
      unfold rdOf
      rw [Int.toNat_natCast, List.getD_eq_getElem?_getD, List.getElem?_eq_getElem (by simpa using hil), List.getElem_map]
      rfl
    have hwd : tale_words.f k (mk (L[i]'hil)) = some (wl (L[i]'hil)) := words_eq (mk (L[i]'hil)) (by rw [mk_size]; omega) k (by rw [mk_size]; omega)
    rw [List.drop_eq_getElem_cons hil, goT]
    simp only [tale_Parse.l0]
    rw [if_pos (by omega), if_pos (by omega), if_pos (by simp; omega), hr, hwd, Option.bind_some, hw]
    by_cases h : wl (L[i]'hil) = []
    · rw [if_pos ((wl_len0 _).2 h), if_pos h]
      exact ih k (i + 1) out (by omega) (by omega) (by omega)
    · rw [if_neg (fun h2 => h ((wl_len0 _).1 h2)), if_neg h, tread_eq _ (by omega) h, Option.bind_some]
      show (if (readF numT hexT (wl (L[i]'hil))).2.2.2 = true then _ else _) = _
      by_cases hok : (readF numT hexT (wl (L[i]'hil))).2.2.2 = true
      · rw [if_pos hok, if_pos hok, if_pos (by omega)]
        exact ih k (i + 1) (out ++ [dT (readF numT hexT (wl (L[i]'hil)))]) (by omega) (by omega) (by simp; omega)
      · rw [if_neg hok, if_neg hok]
theorem tParse_eq (s : ByteArray) (hs : s.size ≤ 3000) (k : Nat) (hk : 30000 ≤ k) : tale_Parse.f k s = some (goT (linesP s.data.toList []) 0 []) := by
  have hl : s.data.toList.length = s.size := by simp
  have h1 := linesP_len s.data.toList []
  have := tParse_l0 (linesP s.data.toList []) (by omega) (fun x hx => by have := linesP_each _ _ x hx; simp at this; omega) (linesP s.data.toList []).length k 0 [] (by omega) (by omega) (by simp)
  unfold tale_Parse.f
  rw [if_neg (by omega), split_eq s (by omega), Option.bind_some, List.length_map]
  exact this

theorem rParse_l0 (s : ByteArray) (hs : s.size ≤ 3000) (d : Nat) : ∀ (k i fr ln : Nat) (out : List S63), i + d = s.size → 2 * d + 20000 < k → fr ≤ i → ln ≤ i → out.length ≤ i →
    cleromancyref44_Parse.l0 k s out ((ln + 1 : Nat) : Int) (fr : Int) (i : Int) = some (goR (linesP (s.data.toList.drop i) ((s.data.toList.drop fr).take (i - fr))) ln out) := by
  have hl : s.data.toList.length = s.size := by simp
  -- a line's end
  have step : ∀ (k i fr ln : Nat) (out : List S63) (ls : List (List UInt8)), 19000 < k → i ≤ s.size → fr ≤ i → ln ≤ i → out.length ≤ i →
      (∀ out2 : List S63, out2.length ≤ i + 1 → cleromancyref44_Parse.l0 k s out2 ((ln + 1 + 1 : Nat) : Int) ((i + 1 : Nat) : Int) ((i + 1 : Nat) : Int) = some (goR ls (ln + 1) out2)) →
      cleromancyref44_Parse.j1 (k + 1) s out ((ln + 1 : Nat) : Int) (fr : Int) (i : Int) false = some (goR (((s.data.toList.drop fr).take (i - fr)) :: ls) ln out) := by
    intro k i fr ln out ls hk hi hf hln ho hnext
    have hw : wrap64 ((i : Int) + 1) = ((i + 1 : Nat) : Int) := by rw [IntWalk.wrap64_in _ (by omega)]; omega
    have hw2 : wrap64 (((ln + 1 : Nat) : Int) + 1) = ((ln + 1 + 1 : Nat) : Int) := by rw [IntWalk.wrap64_in _ (by omega)]; omega
    obtain ⟨cur, hcur⟩ : ∃ cur, cur = (s.data.toList.drop fr).take (i - fr) := ⟨_, rfl⟩
    have hcl : cur.length ≤ 3000 := by rw [hcur, List.length_take, List.length_drop]; omega
    have hx : s.extract (fr : Int).toNat (i : Int).toNat = mk cur := by rw [Int.toNat_natCast, Int.toNat_natCast, ext_mk s fr i hf, hcur]
    have hwd : cleromancyref44_Words.f k (mk cur) = some (wl cur) := Words_eq (mk cur) (by rw [mk_size]; omega) k (by rw [mk_size]; omega)
    rw [← hcur, goR]
    simp only [cleromancyref44_Parse.j1]
    rw [if_neg (by decide), if_pos (by omega), if_pos (by omega), if_pos (by omega), hx, hwd, Option.bind_some, hw, hw2]
    by_cases h : wl cur = []
    · rw [if_neg (by have := (wl_len0 cur).2 h; omega), if_pos h]
      exact hnext out (by omega)
    · rw [if_pos (by have := List.length_pos_iff.2 h; omega), if_neg h, rread_eq _ (by omega) h, Option.bind_some]
      show (if (refRead numR hexR (wl cur)).2.2.2 = true then _ else _) = _
      by_cases hok : (refRead numR hexR (wl cur)).2.2.2 = true
      · rw [if_pos hok, if_pos hok, if_pos (by omega)]
        exact hnext (out ++ [dT (refRead numR hexR (wl cur))]) (by simp; omega)
      · rw [if_neg hok, if_neg hok]
  induction d with
  | zero =>
    intro k i fr ln out hi hk hf hln ho
    obtain ⟨k, rfl⟩ : ∃ m, k = m + 1 + 1 := ⟨k - 2, by omega⟩
    rw [List.drop_of_length_le (by omega), linesP]
    simp only [cleromancyref44_Parse.l0]
    rw [if_pos (by omega), if_neg (by omega)]
    refine step k i fr ln out [] (by omega) (by omega) hf hln ho (fun out2 _ => ?_)
    obtain ⟨k, rfl⟩ : ∃ m, k = m + 1 := ⟨k - 1, by omega⟩
    simp only [cleromancyref44_Parse.l0]
    rw [if_neg (by omega)]
    rfl
  | succ d ih =>
    intro k i fr ln out hi hk hf hln ho
    obtain ⟨k, rfl⟩ : ∃ m, k = m + 1 + 1 := ⟨k - 2, by omega⟩
    have hil : i < s.size := by omega
    have hw : wrap64 ((i : Int) + 1) = ((i + 1 : Nat) : Int) := by rw [IntWalk.wrap64_in _ (by omega)]; omega
    have hb := bt_nat s i hil
    rw [list_at s i hil, linesP]
    simp only [cleromancyref44_Parse.l0]
    rw [if_pos (by omega), if_pos (by omega), if_pos (by omega), hb]
    by_cases h : s[i]'hil = 10
    · rw [if_pos h, show (((s[i]'hil).toNat : Int) != 10) = false from by rw [bne_eq_false_iff_eq]; exact (c10 _).2 h]
      refine step k i fr ln out _ (by omega) (by omega) hf hln ho (fun out2 ho2 => ?_)
      have := ih k (i + 1) (i + 1) (ln + 1) out2 (by omega) (by omega) (by omega) (by omega) ho2
      rw [Nat.sub_self, List.take_zero] at this
      exact this
    · rw [if_neg h, show (((s[i]'hil).toNat : Int) != 10) = true from by rw [bne_iff_ne]; exact fun h2 => h ((c10 _).1 h2)]
      simp only [cleromancyref44_Parse.j1]
      rw [if_pos trivial, hw, ih k (i + 1) fr ln out (by omega) (by omega) (by omega) (by omega) (by omega)]
      congr 3
      rw [show i + 1 - fr = (i - fr) + 1 by omega, List.take_succ_eq_append_getElem (by rw [List.length_drop]; omega)]
      congr 1
      rw [List.getElem_drop]
      have e : fr + (i - fr) = i := by omega
      simp only [e]
      rfl
theorem rParse_eq (s : ByteArray) (hs : s.size ≤ 3000) (k : Nat) (hk : 30000 ≤ k) : cleromancyref44_Parse.f k s = some (goR (linesP s.data.toList []) 0 []) := by
  have := rParse_l0 s hs s.size k 0 0 0 [] (by omega) (by omega) (by omega) (by omega) (by simp)
  rw [List.drop_zero, Nat.sub_self, List.take_zero] at this
  exact this
end Go.Proofs.YtpeebjnfmlfocaaDoor.TpP
