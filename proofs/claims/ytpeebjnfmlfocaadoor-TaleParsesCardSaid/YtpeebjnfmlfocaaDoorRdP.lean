/- Plain: tale.read and the document's Read answer alike. Condition: at least one word. -/
import Derived.Test.YtpeebjnfmlfocaaDoorRRd
import Derived.Test.YtpeebjnfmlfocaaDoorNumQ
namespace Go.Proofs.YtpeebjnfmlfocaaDoor.TpP
open Go.RowKit Go.Proofs.YtpeebjnfmlfocaaDoorW.PrintWords Go.Proofs.YtpeebjnfmlfocaaDoorW.PrintLast Go.Proofs.YtpeebjnfmlfocaaDoorW.PrintMore Go.Proofs.YtpeebjnfmlfocaaDoor.TpR
set_option linter.unusedVariables false
set_option linter.unusedSimpArgs false

def hexT (s : ByteArray) : List Int × Int := ((prs false s.data.toList 0 (-1) []).1, (prs false s.data.toList 0 (-1) []).2.2)
def hexR (s : ByteArray) : List Int × Int := rof (prs false s.data.toList 0 (-1) [])
def Alike (A B : Res) : Prop := A.2.2.2 = B.2.2.2 ∧ (A.2.2.2 = true → A.1 = B.1 ∧ A.2.1 1 = B.2.1 1 ∧ A.2.1 2 = B.2.1 2 ∧ A.2.1 3 = B.2.1 3 ∧ A.2.1 4 = B.2.1 4 ∧ A.2.2.1 = B.2.2.1)
theorem prs_end (b : Bool) (cs : List UInt8) : ∀ (i : Nat) (high : Int) (out : List Int), ((prs b cs i high out).2.2 = 0) ∨ ((prs b cs i high out).2.2 ≠ 0 ∧ 0 ≤ (prs b cs i high out).2.1) := by
  induction cs with
  | nil => intro i high out; unfold prs; split; exact .inr ⟨(show (2 : Int) ≠ 0 by decide), by simp⟩; exact .inl rfl
  | cons c cs ih =>
    intro i high out
    unfold prs
    split
    · exact ih _ _ _
    · split
      · exact .inr ⟨(show (2 : Int) ≠ 0 by decide), by simp⟩
      · split
        · exact ih _ _ _
        · exact ih _ _ _
theorem hex_alike (s : ByteArray) : decide ((hexT s).2 = 0) = decide ((hexR s).2 < 0) ∧ ((hexT s).2 = 0 → (hexT s).1 = (hexR s).1) := by
  unfold hexT hexR rof
  have := prs_end false s.data.toList 0 (-1) []
  generalize prs false s.data.toList 0 (-1) [] = p at this
  obtain ⟨a, b, c⟩ := p
  dsimp only at this ⊢
  rcases this with h | ⟨h, h2⟩
  · rw [if_pos h]
    exact ⟨by rw [decide_eq_true h]; rfl, fun _ => rfl⟩
  · rw [if_neg h]
    exact ⟨by rw [decide_eq_false h, decide_eq_false (by omega)], fun h3 => absurd h3 h⟩
theorem numT_eq (s : ByteArray) : numT s = resT (numO s) := by unfold numT resT; split <;> simp_all
theorem numR_eq (s : ByteArray) : numR s = resR (numO s) := by unfold numR resR; split <;> simp_all
theorem w0 : (fWord 0).toList = [100, 101, 108, 105, 118, 101, 114] := by rw [ByteArray.toList_eq]; rfl
theorem w1 : (fWord 1).toList = [99, 111, 112, 121] := by rw [ByteArray.toList_eq]; rfl
theorem w2 : (fWord 2).toList = [108, 111, 115, 101] := by rw [ByteArray.toList_eq]; rfl
theorem w3 : (fWord 3).toList = [116, 105, 99, 107] := by rw [ByteArray.toList_eq]; rfl
theorem w4 : (fWord 4).toList = [116, 101, 97, 114] := by rw [ByteArray.toList_eq]; rfl
theorem w5 : (fWord 5).toList = [102, 97, 108, 108] := by rw [ByteArray.toList_eq]; rfl
theorem w6 : (fWord 6).toList = [105, 110, 106, 101, 99, 116] := by rw [ByteArray.toList_eq]; rfl
theorem hit_eq (nf : ByteArray → Int × Bool) (hf : ByteArray → List Int × Int) (c : ByteArray) (rest : List ByteArray) : hitF nf hf c rest 7 0 =
    if [100, 101, 108, 105, 118, 101, 114] = c.toList then readAt nf hf 0 rest else if [99, 111, 112, 121] = c.toList then readAt nf hf 1 rest else if [108, 111, 115, 101] = c.toList then readAt nf hf 2 rest
    else if [116, 105, 99, 107] = c.toList then readAt nf hf 3 rest else if [116, 101, 97, 114] = c.toList then readAt nf hf 4 rest else if [102, 97, 108, 108] = c.toList then readAt nf hf 5 rest
    else if [105, 110, 106, 101, 99, 116] = c.toList then readAt nf hf 6 rest else zeroR := by
  simp only [hitF, w0, w1, w2, w3, w4, w5, w6, Nat.zero_add, Nat.reduceAdd]
/-- the two at a word of one number -/
theorem one_alike (r : Nat) (hr : fN r = 1) (h6 : r ≠ 6) (rest : List ByteArray) (D : Int × (Nat → Int) × List Int × Bool)
    (hD : ∀ n : Int, 0 ≤ n → numR (rest.getD 0 ByteArray.empty) = n → D.2.2.2 = true ∧ ((r : Int) + 1 = D.1 ∧ setF zeroF (fK r 0) n 1 = D.2.1 1 ∧ setF zeroF (fK r 0) n 2 = D.2.1 2 ∧ setF zeroF (fK r 0) n 3 = D.2.1 3 ∧ setF zeroF (fK r 0) n 4 = D.2.1 4 ∧ [] = D.2.2.1)) :
    Alike (readAt numT hexT r rest) (if rest.length = 1 ∧ 0 ≤ numR (rest.getD 0 ByteArray.empty) then D else zeroR) := by
  unfold readAt
  by_cases h1 : rest.length < fN r
  · rw [if_pos h1, if_neg (by omega)]
    exact ⟨rfl, fun h => by cases h⟩
  · rw [if_neg h1, hr, partsF]
    cases ho : numO (rest.getD 0 ByteArray.empty) with
    | none =>
      rw [numT_eq, numR_eq, ho, if_neg (by simp [resT]), if_neg (by simp [resR])]
      exact ⟨rfl, fun h => by cases h⟩
    | some v =>
      have hd := hD (v : Int) (by omega) (by rw [numR_eq, ho]; rfl)
      rw [numT_eq, numR_eq, ho, if_pos (show (resT (some v)).2 = true from rfl), partsF]
      show Alike (doneF hexT r rest (setF zeroF (fK r 0) (v : Int))) _
      rw [doneF, if_neg (fun h => h6 h.1), hr]
      by_cases h2 : rest.length = 1
      · rw [if_pos ⟨h2, by simp [resR]⟩]
        refine ⟨?_, fun _ => hd.2⟩
        rw [hd.1]
        exact decide_eq_true (by omega)
      · rw [if_neg (fun h => h2 h.1)]
        refine ⟨decide_eq_false (by omega), fun h => ?_⟩
        exact absurd (of_decide_eq_true h) (by omega)
/-- the two at a word of two numbers and no bytes -/
theorem two_alike (r : Nat) (hr : fN r = 2) (rest : List ByteArray) (h6 : ¬ (r = 6 ∧ rest.length - 2 = 1)) (D : Int × (Nat → Int) × List Int × Bool)
    (hD : ∀ n m : Int, 0 ≤ n → 0 ≤ m → numR (rest.getD 0 ByteArray.empty) = n → numR (rest.getD 1 ByteArray.empty) = m → D.2.2.2 = true ∧ ((r : Int) + 1 = D.1 ∧ setF (setF zeroF (fK r 0) n) (fK r 1) m 1 = D.2.1 1 ∧ setF (setF zeroF (fK r 0) n) (fK r 1) m 2 = D.2.1 2 ∧ setF (setF zeroF (fK r 0) n) (fK r 1) m 3 = D.2.1 3 ∧ setF (setF zeroF (fK r 0) n) (fK r 1) m 4 = D.2.1 4 ∧ [] = D.2.2.1)) :
    Alike (readAt numT hexT r rest) (if rest.length = 2 ∧ 0 ≤ numR (rest.getD 0 ByteArray.empty) ∧ 0 ≤ numR (rest.getD 1 ByteArray.empty) then D else zeroR) := by
  unfold readAt
  by_cases h1 : rest.length < fN r
  · rw [if_pos h1, if_neg (by omega)]
    exact ⟨rfl, fun h => by cases h⟩
  · rw [if_neg h1, hr, partsF]
    cases ho : numO (rest.getD 0 ByteArray.empty) with
    | none =>
      rw [numT_eq, numR_eq, ho, if_neg (by simp [resT]), if_neg (by simp [resR])]
      exact ⟨rfl, fun h => by cases h⟩
    | some v =>
      rw [numT_eq, ho, if_pos (show (resT (some v)).2 = true from rfl), partsF]
      cases ho2 : numO (rest.getD 1 ByteArray.empty) with
      | none =>
        rw [numR_eq (rest.getD 1 ByteArray.empty), show 0 + 1 = 1 from rfl, numT_eq (rest.getD 1 ByteArray.empty), ho2, if_neg (by simp [resT]), if_neg (by simp [resR])]
        exact ⟨rfl, fun h => by cases h⟩
      | some u =>
        have hd := hD (v : Int) (u : Int) (by omega) (by omega) (by rw [numR_eq, ho]; rfl) (by rw [numR_eq, ho2]; rfl)
        rw [show 0 + 1 = 1 from rfl, numT_eq (rest.getD 1 ByteArray.empty), ho2, if_pos (show (resT (some u)).2 = true from rfl), partsF]
        show Alike (doneF hexT r rest (setF (setF zeroF (fK r 0) (v : Int)) (fK r 1) (u : Int))) _
        rw [doneF, hr, if_neg h6, numR_eq, ho, numR_eq, ho2]
        by_cases h2 : rest.length = 2
        · rw [if_pos ⟨h2, by simp [resR], by simp [resR]⟩]
          refine ⟨?_, fun _ => hd.2⟩
          rw [hd.1]
          exact decide_eq_true (by omega)
        · rw [if_neg (fun h => h2 h.1)]
          refine ⟨decide_eq_false (by omega), fun h => ?_⟩
          exact absurd (of_decide_eq_true h) (by omega)
/-- inject with bytes -/
theorem bytes_alike (rest : List ByteArray) (h3 : rest.length = 3) :
    Alike (readAt numT hexT 6 rest) (if 0 ≤ numR (rest.getD 0 ByteArray.empty) ∧ 0 ≤ numR (rest.getD 1 ByteArray.empty) then (7, fld (numR (rest.getD 0 ByteArray.empty)) (numR (rest.getD 1 ByteArray.empty)) 0 0, (hexR (rest.getD 2 ByteArray.empty)).1, decide ((hexR (rest.getD 2 ByteArray.empty)).2 < 0)) else zeroR) := by
  unfold readAt
  have hr : fN 6 = 2 := rfl
  rw [if_neg (by omega), hr, partsF]
  cases ho : numO (rest.getD 0 ByteArray.empty) with
  | none =>
    rw [numT_eq, numR_eq, ho, if_neg (by simp [resT]), if_neg (by simp [resR])]
    exact ⟨rfl, fun h => by cases h⟩
  | some v =>
    rw [numT_eq, ho, if_pos (show (resT (some v)).2 = true from rfl), partsF]
    cases ho2 : numO (rest.getD 1 ByteArray.empty) with
    | none =>
      rw [numR_eq (rest.getD 1 ByteArray.empty), show 0 + 1 = 1 from rfl, numT_eq (rest.getD 1 ByteArray.empty), ho2, if_neg (by simp [resT]), if_neg (by simp [resR])]
      exact ⟨rfl, fun h => by cases h⟩
    | some u =>
      rw [show 0 + 1 = 1 from rfl, numT_eq (rest.getD 1 ByteArray.empty), ho2, if_pos (show (resT (some u)).2 = true from rfl), partsF]
      show Alike (doneF hexT 6 rest (setF (setF zeroF (fK 6 0) (v : Int)) (fK 6 1) (u : Int))) _
      rw [doneF, hr, if_pos ⟨rfl, by omega⟩, numR_eq, ho, numR_eq, ho2, if_pos ⟨by simp [resR], by simp [resR]⟩]
      obtain ⟨e1, e2⟩ := hex_alike (rest.getD 2 ByteArray.empty)
      refine ⟨e1, fun h => ⟨rfl, rfl, rfl, rfl, rfl, e2 (of_decide_eq_true h)⟩⟩
theorem rr_deliver (o t2 f4 : Bool) (n0 n1 : Int) (hx : List Int × Int) : rrF [100, 101, 108, 105, 118, 101, 114] o t2 f4 n0 n1 hx = if o = true then (1, fld 0 n0 0 0, [], true) else zeroR := by simp [rrF]
theorem rr_copy (o t2 f4 : Bool) (n0 n1 : Int) (hx : List Int × Int) : rrF [99, 111, 112, 121] o t2 f4 n0 n1 hx = if o = true then (2, fld 0 n0 0 0, [], true) else zeroR := by simp [rrF]
theorem rr_lose (o t2 f4 : Bool) (n0 n1 : Int) (hx : List Int × Int) : rrF [108, 111, 115, 101] o t2 f4 n0 n1 hx = if o = true then (3, fld 0 n0 0 0, [], true) else zeroR := by simp [rrF]
theorem rr_tick (o t2 f4 : Bool) (n0 n1 : Int) (hx : List Int × Int) : rrF [116, 105, 99, 107] o t2 f4 n0 n1 hx = if t2 = true then (4, fld n0 0 n1 0, [], true) else zeroR := by simp [rrF]
theorem rr_tear (o t2 f4 : Bool) (n0 n1 : Int) (hx : List Int × Int) : rrF [116, 101, 97, 114] o t2 f4 n0 n1 hx = if t2 = true then (5, fld 0 n0 0 n1, [], true) else zeroR := by simp [rrF]
theorem rr_fall (o t2 f4 : Bool) (n0 n1 : Int) (hx : List Int × Int) : rrF [102, 97, 108, 108] o t2 f4 n0 n1 hx = if o = true then (6, fld n0 0 0 0, [], true) else zeroR := by simp [rrF]
theorem rr_inject (o t2 f4 : Bool) (n0 n1 : Int) (hx : List Int × Int) : rrF [105, 110, 106, 101, 99, 116] o t2 f4 n0 n1 hx = if t2 = true then (7, fld n0 n1 0 0, [], true) else if f4 = true then (7, fld n0 n1 0 0, hx.1, decide (hx.2 < 0)) else zeroR := by simp [rrF]
theorem read_alike (x : ByteArray) (rest : List ByteArray) : Alike (readF numT hexT (x :: rest)) (refRead numR hexR (x :: rest)) := by
  unfold readF refRead
  rw [List.getD_cons_zero, List.tail_cons, hit_eq]
  have l1 : (x :: rest).getD 1 ByteArray.empty = rest.getD 0 ByteArray.empty := rfl
  have l2 : (x :: rest).getD 2 ByteArray.empty = rest.getD 1 ByteArray.empty := rfl
  have l3 : (x :: rest).getD 3 ByteArray.empty = rest.getD 2 ByteArray.empty := rfl
  rw [l1, l2, l3, List.length_cons]
  have c1 : ∀ n : Int, (decide (rest.length + 1 = 2 ∧ 0 ≤ n) = true) = (rest.length = 1 ∧ 0 ≤ n) := fun n => by simp
  have c2 : ∀ n m : Int, (decide (rest.length + 1 = 3 ∧ 0 ≤ n ∧ 0 ≤ m) = true) = (rest.length = 2 ∧ 0 ≤ n ∧ 0 ≤ m) := fun n m => by simp
  have c3 : ∀ n m : Int, (decide (rest.length + 1 = 4 ∧ 0 ≤ n ∧ 0 ≤ m) = true) = (rest.length = 3 ∧ 0 ≤ n ∧ 0 ≤ m) := fun n m => by simp
  by_cases h0 : x.toList = [100, 101, 108, 105, 118, 101, 114]
  · rw [if_pos h0.symm, h0, rr_deliver]
    simp only [c1]
    exact one_alike 0 rfl (by decide) rest _ (fun n hn e1 => by subst e1; simp [setF, fK, zeroF, fld])
  by_cases h1 : x.toList = [99, 111, 112, 121]
  · rw [if_neg (fun h => h0 h.symm)]; rw [if_pos h1.symm, h1, rr_copy]
    simp only [c1]
    exact one_alike 1 rfl (by decide) rest _ (fun n hn e1 => by subst e1; simp [setF, fK, zeroF, fld])
  by_cases h2 : x.toList = [108, 111, 115, 101]
  · rw [if_neg (fun h => h0 h.symm)]; rw [if_neg (fun h => h1 h.symm)]; rw [if_pos h2.symm, h2, rr_lose]
    simp only [c1]
    exact one_alike 2 rfl (by decide) rest _ (fun n hn e1 => by subst e1; simp [setF, fK, zeroF, fld])
  by_cases h3 : x.toList = [116, 105, 99, 107]
  · rw [if_neg (fun h => h0 h.symm)]; rw [if_neg (fun h => h1 h.symm)]; rw [if_neg (fun h => h2 h.symm)]; rw [if_pos h3.symm, h3, rr_tick]
    simp only [c2]
    exact two_alike 3 rfl rest (by omega) _ (fun n m hn hm e1 e2 => by subst e1 e2; simp [setF, fK, zeroF, fld])
  by_cases h4 : x.toList = [116, 101, 97, 114]
  · rw [if_neg (fun h => h0 h.symm)]; rw [if_neg (fun h => h1 h.symm)]; rw [if_neg (fun h => h2 h.symm)]; rw [if_neg (fun h => h3 h.symm)]; rw [if_pos h4.symm, h4, rr_tear]
    simp only [c2]
    exact two_alike 4 rfl rest (by omega) _ (fun n m hn hm e1 e2 => by subst e1 e2; simp [setF, fK, zeroF, fld])
  by_cases h5 : x.toList = [102, 97, 108, 108]
  · rw [if_neg (fun h => h0 h.symm)]; rw [if_neg (fun h => h1 h.symm)]; rw [if_neg (fun h => h2 h.symm)]; rw [if_neg (fun h => h3 h.symm)]; rw [if_neg (fun h => h4 h.symm)]; rw [if_pos h5.symm, h5, rr_fall]
    simp only [c1]
    exact one_alike 5 rfl (by decide) rest _ (fun n hn e1 => by subst e1; simp [setF, fK, zeroF, fld])
  by_cases h6 : x.toList = [105, 110, 106, 101, 99, 116]
  · rw [if_neg (fun h => h0 h.symm)]; rw [if_neg (fun h => h1 h.symm)]; rw [if_neg (fun h => h2 h.symm)]; rw [if_neg (fun h => h3 h.symm)]; rw [if_neg (fun h => h4 h.symm)]; rw [if_neg (fun h => h5 h.symm)]; rw [if_pos h6.symm, h6, rr_inject]
    simp only [c2, c3]
    by_cases h3 : rest.length = 3
    · have e : ∀ p : Prop, (rest.length = 3 ∧ p) = p := fun p => by simp [h3]
      rw [if_neg (by omega)]
      simp only [e]
      exact bytes_alike rest h3
    · rw [if_neg (c := rest.length = 3 ∧ _) (fun h => h3 h.1)]
      exact two_alike 6 rfl rest (by omega) _ (fun n m hn hm e1 e2 => by subst e1 e2; simp [setF, fK, zeroF, fld])
  rw [if_neg (fun h => h0 h.symm)]; rw [if_neg (fun h => h1 h.symm)]; rw [if_neg (fun h => h2 h.symm)]; rw [if_neg (fun h => h3 h.symm)]; rw [if_neg (fun h => h4 h.symm)]; rw [if_neg (fun h => h5 h.symm)]; rw [if_neg (fun h => h6 h.symm)]
  rw [rrF, if_neg (fun h => h0 h.1), if_neg (fun h => h1 h.1), if_neg (fun h => h2 h.1), if_neg (fun h => h3 h.1), if_neg (fun h => h4 h.1), if_neg (fun h => h5 h.1), if_neg (fun h => h6 h.1), if_neg (fun h => h6 h.1)]
  exact ⟨rfl, fun h => by cases h⟩
end Go.Proofs.YtpeebjnfmlfocaaDoor.TpP
