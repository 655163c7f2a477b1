/- TaleParses' plain statement: any text is the document's deeds, or wrong in the line that it says. No condition. -/
import Derived.Test.YtpeebjnfmlfocaaDoorLinP
import Derived.Test.YtpeebjnfmlfocaaDoorTp3
namespace Go.Proofs.YtpeebjnfmlfocaaDoor.TpP
open Go.RowKit Go.Proofs.YtpeebjnfmlfocaaDoorW.PrintWords Go.Proofs.YtpeebjnfmlfocaaDoorW.PrintLast Go.Proofs.YtpeebjnfmlfocaaDoorW.PrintMore Go.Proofs.YtpeebjnfmlfocaaDoor.Tp Go.Proofs.YtpeebjnfmlfocaaDoor.TpR Go.Proofs.YtpeebjnfmlfocaaDoor.Th
set_option linter.unusedVariables false

theorem same01_l0 (l : List Int) (hl : l.length ≤ 1000000) (d : Nat) : ∀ (k i : Nat), i + d = l.length → d < k → cleromancyref01_Same.l0 k l l (i : Int) = some true := by
  induction d with
  | zero =>
    intro k i hi hk
    obtain ⟨k, rfl⟩ : ∃ m, k = m + 1 := ⟨k - 1, by omega⟩
    simp only [cleromancyref01_Same.l0]
    rw [if_neg (by omega)]
  | succ d ih =>
    intro k i hi hk
    obtain ⟨k, rfl⟩ : ∃ m, k = m + 1 := ⟨k - 1, by omega⟩
    have hw : wrap64 ((i : Int) + 1) = ((i + 1 : Nat) : Int) := by rw [IntWalk.wrap64_in _ (by omega)]; omega
    simp only [cleromancyref01_Same.l0]
    rw [if_pos (by omega), if_pos (by omega), if_pos (by omega), if_pos trivial, hw]
    exact ih k (i + 1) (by omega) (by omega)
theorem same01 (l : List Int) (hl : l.length ≤ 1000000) (k : Nat) (hk : 1000000 < k) : cleromancyref01_Same.f k l l = some true := by
  unfold cleromancyref01_Same.f
  rw [if_pos rfl]
  exact same01_l0 l hl l.length k 0 (by omega) (by omega)
theorem same44 (a b c d e : Int) (l : List Int) (hl : l.length ≤ 1000000) (k : Nat) (hk : 1000000 < k) : cleromancyref44_Same.f k a b c d e l a b c d e l = some true := by
  unfold cleromancyref44_Same.f
  rw [if_pos rfl, if_pos rfl, if_pos rfl, if_pos rfl, if_pos rfl, same01 l hl k hk]
  rfl
theorem sameL_l0 (l : List S63) (hl : l.length ≤ 1000000) (hb : ∀ x ∈ l, x.f5.length ≤ 1000000) (d : Nat) : ∀ (k i : Nat), i + d = l.length → d + 1000001 < k → cleromancylaw44_Same.l0 k l l (l.length : Int) (i : Int) = some true := by
  induction d with
  | zero =>
    intro k i hi hk
    obtain ⟨k, rfl⟩ : ∃ m, k = m + 1 := ⟨k - 1, by omega⟩
    simp only [cleromancylaw44_Same.l0]
    rw [if_neg (by omega)]
  | succ d ih =>
    intro k i hi hk
    obtain ⟨k, rfl⟩ : ∃ m, k = m + 1 := ⟨k - 1, by omega⟩
    have hw : wrap64 ((i : Int) + 1) = ((i + 1 : Nat) : Int) := by rw [IntWalk.wrap64_in _ (by omega)]; omega
    have hr : rd_T63 l (i : Int) = l[i]'(by omega) := by
      unfold rd_T63
      rw [Int.toNat_natCast, List.getD_eq_getElem?_getD, List.getElem?_eq_getElem (by omega)]
      rfl
    simp only [cleromancylaw44_Same.l0]
    rw [if_pos (by omega), if_pos (by omega), if_pos (by omega), if_pos (by omega), hr, same44 _ _ _ _ _ _ (hb _ (List.getElem_mem _)) k (by omega), Option.bind_some, if_pos rfl, hw]
    exact ih k (i + 1) (by omega) (by omega)
theorem sameL (l : List S63) (hl : l.length ≤ 1000000) (hb : ∀ x ∈ l, x.f5.length ≤ 1000000) (k : Nat) (hk : 3000000 ≤ k) : cleromancylaw44_Same.f k l l = some true := by
  unfold cleromancylaw44_Same.f
  rw [if_pos rfl]
  exact sameL_l0 l hl hb l.length k 0 (by omega) (by omega)

theorem prs_len (b : Bool) (cs : List UInt8) : ∀ (i : Nat) (high : Int) (out : List Int), (prs b cs i high out).1.length ≤ out.length + cs.length := by
  induction cs with
  | nil => intro i high out; unfold prs; split <;> simp
  | cons c cs ih =>
    intro i high out
    unfold prs
    split
    · have := ih (i + 1) high out; simp; omega
    · split
      · simp
      · split
        · have := ih (i + 1) (digv (c.toNat : Int)) out; simp; omega
        · have := ih (i + 1) (-1) (out ++ [high * 16 + digv (c.toNat : Int)]); simp at this ⊢; omega
theorem hexT_len (s : ByteArray) : (hexT s).1.length ≤ s.size := by
  have := prs_len false s.data.toList 0 (-1) []
  have hl : s.data.toList.length = s.size := by simp
  unfold hexT
  simp at this ⊢
  omega
theorem readAt_len (r : Nat) (rest : List ByteArray) (h : ∀ x ∈ rest, x.size ≤ 100000) : (readAt numT hexT r rest).2.2.1.length ≤ 100000 := by
  unfold readAt
  split
  · exact Nat.zero_le _
  · split
    · exact Nat.zero_le _
    · unfold doneF
      split
      · refine Nat.le_trans (hexT_len _) ?_
        rw [List.getD_eq_getElem?_getD]
        cases hg : rest[fN r]? with
        | none => exact Nat.zero_le _
        | some y => exact h y (List.mem_of_getElem? hg)
      · exact Nat.zero_le _
theorem hitF_len (c : ByteArray) (rest : List ByteArray) (h : ∀ x ∈ rest, x.size ≤ 100000) : ∀ m r, (hitF numT hexT c rest m r).2.2.1.length ≤ 100000
  | 0, r => Nat.zero_le _
  | m + 1, r => by
    rw [hitF]
    split
    · exact readAt_len r rest h
    · exact hitF_len c rest h m (r + 1)
theorem goT_len : ∀ (ls : List (List UInt8)) (i : Nat) (out : List S63), (∀ x ∈ ls, x.length ≤ 100000) → (∀ x ∈ out, x.f5.length ≤ 1000000) →
    (goT ls i out).1.length ≤ out.length + ls.length ∧ ∀ x ∈ (goT ls i out).1, x.f5.length ≤ 1000000
  | [], i, out, _, ho => ⟨by simp [goT], ho⟩
  | ln :: ls, i, out, hl, ho => by
    rw [goT]
    split
    · have := goT_len ls (i + 1) out (fun x hx => hl x (List.mem_cons_of_mem _ hx)) ho
      exact ⟨by simp; omega, this.2⟩
    · split
      · have hx := hl ln (List.mem_cons_self)
        have hd : (dT (readF numT hexT (wl ln))).f5.length ≤ 1000000 := by
          have := hitF_len ((wl ln).getD 0 ByteArray.empty) (wl ln).tail (fun x hx2 => wl_sizes ln hx x (List.mem_of_mem_tail hx2)) 7 0
          exact Nat.le_trans this (by decide)
        have := goT_len ls (i + 1) (out ++ [dT (readF numT hexT (wl ln))]) (fun x hx => hl x (List.mem_cons_of_mem _ hx)) (fun x hx => by
          rcases List.mem_append.1 hx with hx | hx
          · exact ho x hx
          · rw [List.mem_singleton] at hx; subst hx; exact hd)
        exact ⟨by have := this.1; simp at this ⊢; omega, this.2⟩
      · exact ⟨Nat.zero_le _, fun x hx => by cases hx⟩

def awT : List UInt8 := [116, 105, 99, 107, 32, 48, 32, 53, 32, 35, 32, 102, 105, 118, 101, 32, 108, 97, 116, 101, 114]
theorem numO0 : numO (mk [48]) = some 0 := by unfold numO; rw [if_neg (by rw [mk_size]; simp)]; rfl
theorem numO5 : numO (mk [53]) = some 5 := by unfold numO; rw [if_neg (by rw [mk_size]; simp)]; rfl
theorem aw_lines : linesP awT [] = [awT] := by decide +kernel
theorem aw_words : wds awT [] = [[116, 105, 99, 107], [48], [53]] := by decide +kernel
theorem aw_read : readF numT hexT [mk [116, 105, 99, 107], mk [48], mk [53]] = (4, setF (setF zeroF 1 0) 3 5, [], true) := by
  unfold readF
  rw [List.getD_cons_zero, List.tail_cons, hit_eq, mk_toList, if_neg (by decide), if_neg (by decide), if_neg (by decide), if_pos rfl]
  unfold readAt
  rw [if_neg (by decide), show fN 3 = 2 from rfl, partsF, partsF, partsF]
  have e0 : [mk [48], mk [53]].getD 0 ByteArray.empty = mk [48] := rfl
  have e1 : [mk [48], mk [53]].getD (0 + 1) ByteArray.empty = mk [53] := rfl
  rw [e0, e1, numT_eq, numT_eq, numO0, numO5, if_pos (show (resT (some 0)).2 = true from rfl), if_pos (show (resT (some 5)).2 = true from rfl)]
  show doneF hexT 3 [mk [48], mk [53]] _ = _
  rw [doneF, if_neg (by decide)]
  rfl
theorem aw_go : goT [awT] 0 [] = ([⟨4, 0, 0, 5, 0, []⟩], 0, 0) := by
  have hw : wl awT = [mk [116, 105, 99, 107], mk [48], mk [53]] := by unfold wl; rw [aw_words]; rfl
  rw [goT, hw, if_neg (by simp), aw_read, if_pos rfl, goT]
  rfl
theorem awake_eq (k : Nat) (hk : 30000 ≤ k) : cleromancylaw44_awake.f k = some true := by
  have h := tParse_eq (mk awT) (by rw [mk_size]; decide) k hk
  rw [mk_list, aw_lines, aw_go] at h
  unfold cleromancylaw44_awake.f
  rw [show (⟨#[116, 105, 99, 107, 32, 48, 32, 53, 32, 35, 32, 102, 105, 118, 101, 32, 108, 97, 116, 101, 114]⟩ : ByteArray) = mk awT from rfl, h, Option.bind_some, if_pos rfl, if_pos rfl]
  simp [rd_T63]
theorem law_eq (s : ByteArray) : cleromancylaw44_TaleParses.f 3000000 s = some true := by
  unfold cleromancylaw44_TaleParses.f
  rw [awake_eq 3000000 (by decide), Option.bind_some, if_pos rfl]
  by_cases hs : (s.size : Int) > 3000
  · rw [if_pos hs]
  · rw [if_neg hs, tParse_eq s (by omega) 3000000 (by decide), Option.bind_some, rParse_eq s (by omega) 3000000 (by decide), Option.bind_some]
    have hl : s.data.toList.length = s.size := by simp
    have h1 := linesP_len s.data.toList []
    have hlen := goT_len (linesP s.data.toList []) 0 [] (fun x hx => by have := linesP_each _ _ x hx; simp at this; omega) (fun x hx => by cases hx)
    rcases go_alike (linesP s.data.toList []) 0 [] with ⟨h2, h3⟩ | ⟨h2, h3⟩
    · rw [if_pos (by omega), h3, if_pos rfl, if_pos rfl]
      rfl
    · rw [if_neg (by omega), h3]
      rw [h3] at hlen
      rw [if_pos rfl, if_pos rfl]
      have := sameL (goR (linesP s.data.toList []) 0 []).1 (by have := hlen.1; simp at this; omega) hlen.2 3000000 (Nat.le_refl _)
      rw [this]
      rfl
theorem parses_walk (s : ByteArray) (w : World) : Calls Tryd.prog 6 #[.string s] w fun e w' => e = .returned (.bool true) ∧ Below w.heap.size w w' :=
  (cleromancylaw44_TaleParses.calls 3000000 s true w (law_eq s)).mono fun e w' h => h
end Go.Proofs.YtpeebjnfmlfocaaDoor.TpP
