/- tale.read, the document's Read and strings.Split in the print's form, given. Conditions: at least one word; each of at most 100000 bytes. -/
import Derived.Test.YtpeebjnfmlfocaaDoorZB06
import Derived.Test.YtpeebjnfmlfocaaDoorZB05
import Derived.Test.YtpeebjnfmlfocaaDoorZB02
import Derived.WalkKit
import Derived.Test.YtpeebjnfmlfocaaDoorProg
import Derived.Below
import Derived.Deep.Draws
import Derived.Deep.AppendLies
import Derived.Maps.AppendAt
import Derived.OwnWalk
import Derived.Laws.BytesArg
import Derived.Laws.MakeOwn
import Derived.Laws.OwnMore
import Derived.Deep.OwnRows
import Derived.Tactics
import Derived.Lib.ConvBytes
import Derived.Laws.Slices
import Derived.KernelRfl
import Derived.RowKit3
import Derived.Deep.LoopGhost
import Derived.Deep.QuietTactic
import Derived.BigQuiet
import Derived.WideLaws
import Derived.Deep.DeepCutAuto
import Derived.Deep.CutBlock
import Derived.Deep.RegionHeld3
import Derived.Laws.Rows
import Derived.Lib.AppendStr
import Derived.ArgAppend
import Derived.Laws.IdiomCopy
import Derived.OrdersHeld
import Derived.Laws.BitsLemmas
import Derived.RowKit
import Derived.Test.YtpeebjnfmlfocaaDoorZB01
import Derived.Laws.StructEq
import Derived.Test.YtpeebjnfmlfocaaDoorZB03
import Derived.IntWalk
import Derived.Lib.Hide
import Derived.StillTailTactics
import Derived.Test.YtpeebjnfmlfocaaDoorZB04
namespace Go.Proofs.YtpeebjnfmlfocaaDoor.Tp
open Go.RowKit Go.Proofs.YtpeebjnfmlfocaaDoor.TpR
set_option linter.unusedVariables false
set_option linter.unusedSimpArgs false
def Same2 (S : ByteArray × Int) (Q : ByteArray × Bool) : Prop := Q.1 = S.1 ∧ ((S.2 = 0 ∧ Q.2 = true) ∨ (S.2 = 2 ∧ S.1 = ⟨#[]⟩ ∧ Q.2 = false))
theorem same_no : Same2 (⟨#[]⟩, 2) (⟨#[]⟩, false) := ⟨rfl, .inr ⟨rfl, rfl, rfl⟩⟩
theorem same_yes {a b : ByteArray} (h : b = a) : Same2 (a, 0) (b, true) := ⟨h, .inl ⟨rfl, rfl⟩⟩
theorem hit_at (K : Int) (F : Nat → Int) (bs : List Int) : lineHit K F bs 7 0 = if K = 1 then lineAt 0 F bs else if K = 2 then lineAt 1 F bs else if K = 3 then lineAt 2 F bs else if K = 4 then lineAt 3 F bs else if K = 5 then lineAt 4 F bs else if K = 6 then lineAt 5 F bs else if K = 7 then lineAt 6 F bs else (⟨#[]⟩, 2) := by
  simp only [lineHit, eq_comm (b := K)]
  rfl
theorem may_zero : mayB 0 := ⟨by decide, by decide⟩
theorem not_bad {K N I D P : Int} {n : Nat} (hN : mayB N) (hI : mayB I) (hD : mayB D) (hP : mayB P) (h : K = 7 ∨ n = 0) : ¬ rlBad K N I D P n := by
  rintro (h1 | h1 | h1 | h1 | ⟨h1, h2⟩)
  · exact h1 hN
  · exact h1 hI
  · exact h1 hD
  · exact h1 hP
  · rcases h with h | h
    · exact h1 h
    · omega
theorem go_some (r : Nat) (F : Nat → Int) (m i : Nat) (out : ByteArray) (G : Nat → Int) (h : mayB (F (fK r i))) : lineGo r F (m + 1) i out G = lineGo r F m (i + 1) (out ++ (⟨#[32]⟩ ++ itoaB (F (fK r i)))) (setF G (fK r i) 0) := by
  rw [lineGo]; exact if_pos h
theorem go_none (r : Nat) (F : Nat → Int) (m i : Nat) (out : ByteArray) (G : Nat → Int) (h : ¬ mayB (F (fK r i))) : lineGo r F (m + 1) i out G = none := by
  rw [lineGo]; exact if_neg h
theorem alike_1 (N I D P : Int) (bs : List Int) : Same2 (lineAt 0 (fldF N I D P) bs) (refLine 1 N I D P bs) := by
  have hg : ∀ out, lineGo 0 (fldF N I D P) (fN 0) 0 out (fldF N I D P) = if mayB I then some (out ++ (⟨#[32]⟩ ++ itoaB I), setF (fldF N I D P) 2 0) else none := fun out => by
    rw [show fN 0 = 1 from rfl]
    by_cases m1 : mayB I
    · rw [go_some _ _ _ _ _ _ (show mayB (fldF N I D P (fK 0 0)) from m1)]
      rw [if_pos m1, lineGo]
      rfl
    · rw [go_none _ _ _ _ _ _ (show ¬ mayB (fldF N I D P (fK 0 0)) from m1), if_neg m1]
  unfold lineAt
  rw [hg]
  by_cases h : mayB I ∧ N = 0 ∧ D = 0 ∧ P = 0 ∧ bs.length = 0
  · obtain ⟨mI, rfl, rfl, rfl, hl⟩ := h
    rw [if_pos mI]
    unfold refLine
    rw [if_neg (not_bad may_zero mI may_zero may_zero (.inr hl))]
    show Same2 (lineEnd 0 _ _ bs) _
    rw [lineEnd, if_neg (by simp [setF, fldF, hl]), if_neg (by omega)]
    have e : rlG 1 0 I 0 0 bs.length itoaB ⟨(Th.hexL bs).toArray⟩ = ((⟨#[100, 101, 108, 105, 118, 101, 114, 32]⟩ : ByteArray) ++ itoaB I, true) := by simp [rlG]
    rw [e]
    refine same_yes ?_
    simp only [← ByteArray.append_assoc]
    rfl
  · have e1 : refLine 1 N I D P bs = (⟨#[]⟩, false) := by
      unfold refLine
      by_cases hb : rlBad 1 N I D P bs.length
      · rw [if_pos hb]
      · rw [if_neg hb]
        obtain ⟨mN, mI, mD, mP, hk⟩ := rl_good_pre _ _ _ _ _ _ hb
        have hl : bs.length = 0 := by rcases hk with h | h; exact absurd h (by decide); exact h
        have hz : ¬ (N = 0 ∧ D = 0 ∧ P = 0) := fun hz => h ⟨mI, hz.1, hz.2.1, hz.2.2, hl⟩
        simp only [rlG]
        have hz2 : ¬ (1 = 7 ∧ D = 0 ∧ P = 0) := by omega
        split <;> first | (exfalso; omega) | (split <;> first | (exfalso; omega) | (split <;> first | (exfalso; omega) | (split <;> first | (exfalso; omega) | (split <;> first | (exfalso; omega) | (split <;> first | (exfalso; omega) | (split <;> first | (exfalso; omega) | rfl))))))
    rw [e1]
    by_cases mm : mayB I
    · rw [if_pos mm]
      show Same2 (lineEnd 0 _ _ bs) _
      rw [lineEnd, if_pos]
      · exact same_no
      · have hz : ¬ (N = 0 ∧ D = 0 ∧ P = 0 ∧ bs.length = 0) := fun hz => h ⟨mm, hz⟩
        simp [setF, fldF]
        omega
    · rw [if_neg mm]
      exact same_no
theorem alike_2 (N I D P : Int) (bs : List Int) : Same2 (lineAt 1 (fldF N I D P) bs) (refLine 2 N I D P bs) := by
  have hg : ∀ out, lineGo 1 (fldF N I D P) (fN 1) 0 out (fldF N I D P) = if mayB I then some (out ++ (⟨#[32]⟩ ++ itoaB I), setF (fldF N I D P) 2 0) else none := fun out => by
    rw [show fN 1 = 1 from rfl]
    by_cases m1 : mayB I
    · rw [go_some _ _ _ _ _ _ (show mayB (fldF N I D P (fK 1 0)) from m1)]
      rw [if_pos m1, lineGo]
      rfl
    · rw [go_none _ _ _ _ _ _ (show ¬ mayB (fldF N I D P (fK 1 0)) from m1), if_neg m1]
  unfold lineAt
  rw [hg]
  by_cases h : mayB I ∧ N = 0 ∧ D = 0 ∧ P = 0 ∧ bs.length = 0
  · obtain ⟨mI, rfl, rfl, rfl, hl⟩ := h
    rw [if_pos mI]
    unfold refLine
    rw [if_neg (not_bad may_zero mI may_zero may_zero (.inr hl))]
    show Same2 (lineEnd 1 _ _ bs) _
    rw [lineEnd, if_neg (by simp [setF, fldF, hl]), if_neg (by omega)]
    have e : rlG 2 0 I 0 0 bs.length itoaB ⟨(Th.hexL bs).toArray⟩ = ((⟨#[99, 111, 112, 121, 32]⟩ : ByteArray) ++ itoaB I, true) := by simp [rlG]
    rw [e]
    refine same_yes ?_
    simp only [← ByteArray.append_assoc]
    rfl
  · have e1 : refLine 2 N I D P bs = (⟨#[]⟩, false) := by
      unfold refLine
      by_cases hb : rlBad 2 N I D P bs.length
      · rw [if_pos hb]
      · rw [if_neg hb]
        obtain ⟨mN, mI, mD, mP, hk⟩ := rl_good_pre _ _ _ _ _ _ hb
        have hl : bs.length = 0 := by rcases hk with h | h; exact absurd h (by decide); exact h
        have hz : ¬ (N = 0 ∧ D = 0 ∧ P = 0) := fun hz => h ⟨mI, hz.1, hz.2.1, hz.2.2, hl⟩
        simp only [rlG]
        have hz2 : ¬ (2 = 7 ∧ D = 0 ∧ P = 0) := by omega
        split <;> first | (exfalso; omega) | (split <;> first | (exfalso; omega) | (split <;> first | (exfalso; omega) | (split <;> first | (exfalso; omega) | (split <;> first | (exfalso; omega) | (split <;> first | (exfalso; omega) | (split <;> first | (exfalso; omega) | rfl))))))
    rw [e1]
    by_cases mm : mayB I
    · rw [if_pos mm]
      show Same2 (lineEnd 1 _ _ bs) _
      rw [lineEnd, if_pos]
      · exact same_no
      · have hz : ¬ (N = 0 ∧ D = 0 ∧ P = 0 ∧ bs.length = 0) := fun hz => h ⟨mm, hz⟩
        simp [setF, fldF]
        omega
    · rw [if_neg mm]
      exact same_no
theorem alike_3 (N I D P : Int) (bs : List Int) : Same2 (lineAt 2 (fldF N I D P) bs) (refLine 3 N I D P bs) := by
  have hg : ∀ out, lineGo 2 (fldF N I D P) (fN 2) 0 out (fldF N I D P) = if mayB I then some (out ++ (⟨#[32]⟩ ++ itoaB I), setF (fldF N I D P) 2 0) else none := fun out => by
    rw [show fN 2 = 1 from rfl]
    by_cases m1 : mayB I
    · rw [go_some _ _ _ _ _ _ (show mayB (fldF N I D P (fK 2 0)) from m1)]
      rw [if_pos m1, lineGo]
      rfl
    · rw [go_none _ _ _ _ _ _ (show ¬ mayB (fldF N I D P (fK 2 0)) from m1), if_neg m1]
  unfold lineAt
  rw [hg]
  by_cases h : mayB I ∧ N = 0 ∧ D = 0 ∧ P = 0 ∧ bs.length = 0
  · obtain ⟨mI, rfl, rfl, rfl, hl⟩ := h
    rw [if_pos mI]
    unfold refLine
    rw [if_neg (not_bad may_zero mI may_zero may_zero (.inr hl))]
    show Same2 (lineEnd 2 _ _ bs) _
    rw [lineEnd, if_neg (by simp [setF, fldF, hl]), if_neg (by omega)]
    have e : rlG 3 0 I 0 0 bs.length itoaB ⟨(Th.hexL bs).toArray⟩ = ((⟨#[108, 111, 115, 101, 32]⟩ : ByteArray) ++ itoaB I, true) := by simp [rlG]
    rw [e]
    refine same_yes ?_
    simp only [← ByteArray.append_assoc]
    rfl
  · have e1 : refLine 3 N I D P bs = (⟨#[]⟩, false) := by
      unfold refLine
      by_cases hb : rlBad 3 N I D P bs.length
      · rw [if_pos hb]
      · rw [if_neg hb]
        obtain ⟨mN, mI, mD, mP, hk⟩ := rl_good_pre _ _ _ _ _ _ hb
        have hl : bs.length = 0 := by rcases hk with h | h; exact absurd h (by decide); exact h
        have hz : ¬ (N = 0 ∧ D = 0 ∧ P = 0) := fun hz => h ⟨mI, hz.1, hz.2.1, hz.2.2, hl⟩
        simp only [rlG]
        have hz2 : ¬ (3 = 7 ∧ D = 0 ∧ P = 0) := by omega
        split <;> first | (exfalso; omega) | (split <;> first | (exfalso; omega) | (split <;> first | (exfalso; omega) | (split <;> first | (exfalso; omega) | (split <;> first | (exfalso; omega) | (split <;> first | (exfalso; omega) | (split <;> first | (exfalso; omega) | rfl))))))
    rw [e1]
    by_cases mm : mayB I
    · rw [if_pos mm]
      show Same2 (lineEnd 2 _ _ bs) _
      rw [lineEnd, if_pos]
      · exact same_no
      · have hz : ¬ (N = 0 ∧ D = 0 ∧ P = 0 ∧ bs.length = 0) := fun hz => h ⟨mm, hz⟩
        simp [setF, fldF]
        omega
    · rw [if_neg mm]
      exact same_no
theorem alike_4 (N I D P : Int) (bs : List Int) : Same2 (lineAt 3 (fldF N I D P) bs) (refLine 4 N I D P bs) := by
  have hg : ∀ out, lineGo 3 (fldF N I D P) (fN 3) 0 out (fldF N I D P) = if mayB N ∧ mayB D then some (out ++ (⟨#[32]⟩ ++ itoaB N) ++ (⟨#[32]⟩ ++ itoaB D), setF (setF (fldF N I D P) 1 0) 3 0) else none := fun out => by
    rw [show fN 3 = 2 from rfl]
    by_cases m1 : mayB N
    · rw [go_some _ _ _ _ _ _ (show mayB (fldF N I D P (fK 3 0)) from m1)]
      by_cases m2 : mayB D
      · rw [go_some _ _ _ _ _ _ (show mayB (fldF N I D P (fK 3 (0 + 1))) from m2), if_pos ⟨m1, m2⟩, lineGo]
        rfl
      · rw [go_none _ _ _ _ _ _ (show ¬ mayB (fldF N I D P (fK 3 (0 + 1))) from m2), if_neg (fun h => m2 h.2)]
    · rw [go_none _ _ _ _ _ _ (show ¬ mayB (fldF N I D P (fK 3 0)) from m1), if_neg (fun h => m1 h.1)]
  unfold lineAt
  rw [hg]
  by_cases h : mayB N ∧ mayB D ∧ I = 0 ∧ P = 0 ∧ bs.length = 0
  · obtain ⟨mN, mD, rfl, rfl, hl⟩ := h
    rw [if_pos ⟨mN, mD⟩]
    unfold refLine
    rw [if_neg (not_bad mN may_zero mD may_zero (.inr hl))]
    show Same2 (lineEnd 3 _ _ bs) _
    rw [lineEnd, if_neg (by simp [setF, fldF, hl]), if_neg (by omega)]
    have e : rlG 4 N 0 D 0 bs.length itoaB ⟨(Th.hexL bs).toArray⟩ = ((⟨#[116, 105, 99, 107, 32]⟩ : ByteArray) ++ itoaB N ++ ⟨#[32]⟩ ++ itoaB D, true) := by simp [rlG]
    rw [e]
    refine same_yes ?_
    simp only [← ByteArray.append_assoc]
    rfl
  · have e1 : refLine 4 N I D P bs = (⟨#[]⟩, false) := by
      unfold refLine
      by_cases hb : rlBad 4 N I D P bs.length
      · rw [if_pos hb]
      · rw [if_neg hb]
        obtain ⟨mN, mI, mD, mP, hk⟩ := rl_good_pre _ _ _ _ _ _ hb
        have hl : bs.length = 0 := by rcases hk with h | h; exact absurd h (by decide); exact h
        have hz : ¬ (I = 0 ∧ P = 0) := fun hz => h ⟨mN, mD, hz.1, hz.2, hl⟩
        simp only [rlG]
        have hz2 : ¬ (4 = 7 ∧ D = 0 ∧ P = 0) := by omega
        split <;> first | (exfalso; omega) | (split <;> first | (exfalso; omega) | (split <;> first | (exfalso; omega) | (split <;> first | (exfalso; omega) | (split <;> first | (exfalso; omega) | (split <;> first | (exfalso; omega) | (split <;> first | (exfalso; omega) | rfl))))))
    rw [e1]
    by_cases mm : mayB N ∧ mayB D
    · rw [if_pos mm]
      show Same2 (lineEnd 3 _ _ bs) _
      rw [lineEnd, if_pos]
      · exact same_no
      · have hz : ¬ (I = 0 ∧ P = 0 ∧ bs.length = 0) := fun hz => h ⟨mm.1, mm.2, hz⟩
        simp [setF, fldF]
        omega
    · rw [if_neg mm]
      exact same_no
theorem alike_5 (N I D P : Int) (bs : List Int) : Same2 (lineAt 4 (fldF N I D P) bs) (refLine 5 N I D P bs) := by
  have hg : ∀ out, lineGo 4 (fldF N I D P) (fN 4) 0 out (fldF N I D P) = if mayB I ∧ mayB P then some (out ++ (⟨#[32]⟩ ++ itoaB I) ++ (⟨#[32]⟩ ++ itoaB P), setF (setF (fldF N I D P) 2 0) 4 0) else none := fun out => by
    rw [show fN 4 = 2 from rfl]
    by_cases m1 : mayB I
    · rw [go_some _ _ _ _ _ _ (show mayB (fldF N I D P (fK 4 0)) from m1)]
      by_cases m2 : mayB P
      · rw [go_some _ _ _ _ _ _ (show mayB (fldF N I D P (fK 4 (0 + 1))) from m2), if_pos ⟨m1, m2⟩, lineGo]
        rfl
      · rw [go_none _ _ _ _ _ _ (show ¬ mayB (fldF N I D P (fK 4 (0 + 1))) from m2), if_neg (fun h => m2 h.2)]
    · rw [go_none _ _ _ _ _ _ (show ¬ mayB (fldF N I D P (fK 4 0)) from m1), if_neg (fun h => m1 h.1)]
  unfold lineAt
  rw [hg]
  by_cases h : mayB I ∧ mayB P ∧ N = 0 ∧ D = 0 ∧ bs.length = 0
  · obtain ⟨mI, mP, rfl, rfl, hl⟩ := h
    rw [if_pos ⟨mI, mP⟩]
    unfold refLine
    rw [if_neg (not_bad may_zero mI may_zero mP (.inr hl))]
    show Same2 (lineEnd 4 _ _ bs) _
    rw [lineEnd, if_neg (by simp [setF, fldF, hl]), if_neg (by omega)]
    have e : rlG 5 0 I 0 P bs.length itoaB ⟨(Th.hexL bs).toArray⟩ = ((⟨#[116, 101, 97, 114, 32]⟩ : ByteArray) ++ itoaB I ++ ⟨#[32]⟩ ++ itoaB P, true) := by simp [rlG]
    rw [e]
    refine same_yes ?_
    simp only [← ByteArray.append_assoc]
    rfl
  · have e1 : refLine 5 N I D P bs = (⟨#[]⟩, false) := by
      unfold refLine
      by_cases hb : rlBad 5 N I D P bs.length
      · rw [if_pos hb]
      · rw [if_neg hb]
        obtain ⟨mN, mI, mD, mP, hk⟩ := rl_good_pre _ _ _ _ _ _ hb
        have hl : bs.length = 0 := by rcases hk with h | h; exact absurd h (by decide); exact h
        have hz : ¬ (N = 0 ∧ D = 0) := fun hz => h ⟨mI, mP, hz.1, hz.2, hl⟩
        simp only [rlG]
        have hz2 : ¬ (5 = 7 ∧ D = 0 ∧ P = 0) := by omega
        split <;> first | (exfalso; omega) | (split <;> first | (exfalso; omega) | (split <;> first | (exfalso; omega) | (split <;> first | (exfalso; omega) | (split <;> first | (exfalso; omega) | (split <;> first | (exfalso; omega) | (split <;> first | (exfalso; omega) | rfl))))))
    rw [e1]
    by_cases mm : mayB I ∧ mayB P
    · rw [if_pos mm]
      show Same2 (lineEnd 4 _ _ bs) _
      rw [lineEnd, if_pos]
      · exact same_no
      · have hz : ¬ (N = 0 ∧ D = 0 ∧ bs.length = 0) := fun hz => h ⟨mm.1, mm.2, hz⟩
        simp [setF, fldF]
        omega
    · rw [if_neg mm]
      exact same_no
theorem alike_6 (N I D P : Int) (bs : List Int) : Same2 (lineAt 5 (fldF N I D P) bs) (refLine 6 N I D P bs) := by
  have hg : ∀ out, lineGo 5 (fldF N I D P) (fN 5) 0 out (fldF N I D P) = if mayB N then some (out ++ (⟨#[32]⟩ ++ itoaB N), setF (fldF N I D P) 1 0) else none := fun out => by
    rw [show fN 5 = 1 from rfl]
    by_cases m1 : mayB N
    · rw [go_some _ _ _ _ _ _ (show mayB (fldF N I D P (fK 5 0)) from m1)]
      rw [if_pos m1, lineGo]
      rfl
    · rw [go_none _ _ _ _ _ _ (show ¬ mayB (fldF N I D P (fK 5 0)) from m1), if_neg m1]
  unfold lineAt
  rw [hg]
  by_cases h : mayB N ∧ I = 0 ∧ D = 0 ∧ P = 0 ∧ bs.length = 0
  · obtain ⟨mN, rfl, rfl, rfl, hl⟩ := h
    rw [if_pos mN]
    unfold refLine
    rw [if_neg (not_bad mN may_zero may_zero may_zero (.inr hl))]
    show Same2 (lineEnd 5 _ _ bs) _
    rw [lineEnd, if_neg (by simp [setF, fldF, hl]), if_neg (by omega)]
    have e : rlG 6 N 0 0 0 bs.length itoaB ⟨(Th.hexL bs).toArray⟩ = ((⟨#[102, 97, 108, 108, 32]⟩ : ByteArray) ++ itoaB N, true) := by simp [rlG]
    rw [e]
    refine same_yes ?_
    simp only [← ByteArray.append_assoc]
    rfl
  · have e1 : refLine 6 N I D P bs = (⟨#[]⟩, false) := by
      unfold refLine
      by_cases hb : rlBad 6 N I D P bs.length
      · rw [if_pos hb]
      · rw [if_neg hb]
        obtain ⟨mN, mI, mD, mP, hk⟩ := rl_good_pre _ _ _ _ _ _ hb
        have hl : bs.length = 0 := by rcases hk with h | h; exact absurd h (by decide); exact h
        have hz : ¬ (I = 0 ∧ D = 0 ∧ P = 0) := fun hz => h ⟨mN, hz.1, hz.2.1, hz.2.2, hl⟩
        simp only [rlG]
        have hz2 : ¬ (6 = 7 ∧ D = 0 ∧ P = 0) := by omega
        split <;> first | (exfalso; omega) | (split <;> first | (exfalso; omega) | (split <;> first | (exfalso; omega) | (split <;> first | (exfalso; omega) | (split <;> first | (exfalso; omega) | (split <;> first | (exfalso; omega) | (split <;> first | (exfalso; omega) | rfl))))))
    rw [e1]
    by_cases mm : mayB N
    · rw [if_pos mm]
      show Same2 (lineEnd 5 _ _ bs) _
      rw [lineEnd, if_pos]
      · exact same_no
      · have hz : ¬ (I = 0 ∧ D = 0 ∧ P = 0 ∧ bs.length = 0) := fun hz => h ⟨mm, hz⟩
        simp [setF, fldF]
        omega
    · rw [if_neg mm]
      exact same_no
theorem alike_7 (N I D P : Int) (bs : List Int) : Same2 (lineAt 6 (fldF N I D P) bs) (refLine 7 N I D P bs) := by
  have hg : ∀ out, lineGo 6 (fldF N I D P) (fN 6) 0 out (fldF N I D P) = if mayB N ∧ mayB I then some (out ++ (⟨#[32]⟩ ++ itoaB N) ++ (⟨#[32]⟩ ++ itoaB I), setF (setF (fldF N I D P) 1 0) 2 0) else none := fun out => by
    rw [show fN 6 = 2 from rfl]
    by_cases m1 : mayB N
    · rw [go_some _ _ _ _ _ _ (show mayB (fldF N I D P (fK 6 0)) from m1)]
      by_cases m2 : mayB I
      · rw [go_some _ _ _ _ _ _ (show mayB (fldF N I D P (fK 6 (0 + 1))) from m2), if_pos ⟨m1, m2⟩, lineGo]
        rfl
      · rw [go_none _ _ _ _ _ _ (show ¬ mayB (fldF N I D P (fK 6 (0 + 1))) from m2), if_neg (fun h => m2 h.2)]
    · rw [go_none _ _ _ _ _ _ (show ¬ mayB (fldF N I D P (fK 6 0)) from m1), if_neg (fun h => m1 h.1)]
  unfold lineAt
  rw [hg]
  by_cases h : mayB N ∧ mayB I ∧ D = 0 ∧ P = 0
  · obtain ⟨mN, mI, rfl, rfl⟩ := h
    rw [if_pos ⟨mN, mI⟩]
    unfold refLine
    rw [if_neg (not_bad mN mI may_zero may_zero (.inl rfl))]
    show Same2 (lineEnd 6 _ _ bs) _
    by_cases hl : 0 < bs.length
    · skip
      rw [lineEnd, if_neg (by simp [setF, fldF]), if_pos hl]
      have e : rlG 7 N I 0 0 bs.length itoaB ⟨(Th.hexL bs).toArray⟩ = ((⟨#[105, 110, 106, 101, 99, 116, 32]⟩ : ByteArray) ++ itoaB N ++ ⟨#[32]⟩ ++ itoaB I ++ ⟨#[32]⟩ ++ ⟨(Th.hexL bs).toArray⟩, true) := by simp [rlG, hl]
      rw [e]
      refine same_yes ?_
      simp only [← ByteArray.append_assoc]
      rfl
    · skip
      rw [lineEnd, if_neg (by simp [setF, fldF]), if_neg hl]
      have e : rlG 7 N I 0 0 bs.length itoaB ⟨(Th.hexL bs).toArray⟩ = ((⟨#[105, 110, 106, 101, 99, 116, 32]⟩ : ByteArray) ++ itoaB N ++ ⟨#[32]⟩ ++ itoaB I, true) := by simp only [rlG, if_neg hl]; simp
      rw [e]
      refine same_yes ?_
      simp only [← ByteArray.append_assoc]
      rfl
  · have e1 : refLine 7 N I D P bs = (⟨#[]⟩, false) := by
      unfold refLine
      by_cases hb : rlBad 7 N I D P bs.length
      · rw [if_pos hb]
      · rw [if_neg hb]
        obtain ⟨mN, mI, mD, mP, hk⟩ := rl_good_pre _ _ _ _ _ _ hb
        have hz : ¬ (D = 0 ∧ P = 0) := fun hz => h ⟨mN, mI, hz.1, hz.2⟩
        simp only [rlG]
        have hz2 : ¬ (7 = 7 ∧ D = 0 ∧ P = 0) := by omega
        split <;> first | (exfalso; omega) | (split <;> first | (exfalso; omega) | (split <;> first | (exfalso; omega) | (split <;> first | (exfalso; omega) | (split <;> first | (exfalso; omega) | (split <;> first | (exfalso; omega) | (split <;> first | (exfalso; omega) | rfl))))))
    rw [e1]
    by_cases mm : mayB N ∧ mayB I
    · rw [if_pos mm]
      show Same2 (lineEnd 6 _ _ bs) _
      rw [lineEnd, if_pos]
      · exact same_no
      · have hz : ¬ (D = 0 ∧ P = 0) := fun hz => h ⟨mm.1, mm.2, hz⟩
        simp [setF, fldF]
        omega
    · rw [if_neg mm]
      exact same_no
theorem alike (K N I D P : Int) (bs : List Int) : Same2 (lineHit K (fldF N I D P) bs 7 0) (refLine K N I D P bs) := by
  rw [hit_at]
  by_cases k1 : K = 1
  · subst k1; exact alike_1 ..
  rw [if_neg k1]
  by_cases k2 : K = 2
  · subst k2; exact alike_2 ..
  rw [if_neg k2]
  by_cases k3 : K = 3
  · subst k3; exact alike_3 ..
  rw [if_neg k3]
  by_cases k4 : K = 4
  · subst k4; exact alike_4 ..
  rw [if_neg k4]
  by_cases k5 : K = 5
  · subst k5; exact alike_5 ..
  rw [if_neg k5]
  by_cases k6 : K = 6
  · subst k6; exact alike_6 ..
  rw [if_neg k6]
  by_cases k7 : K = 7
  · subst k7; exact alike_7 ..
  rw [if_neg k7]
  unfold refLine
  by_cases hb : rlBad K N I D P bs.length
  · rw [if_pos hb]; exact same_no
  · rw [if_neg hb, rlG, if_neg (by omega), if_neg (by omega), if_neg (by omega), if_neg (by omega), if_neg (by omega), if_neg (by omega), if_neg (by omega)]
    exact same_no
end Go.Proofs.YtpeebjnfmlfocaaDoor.Tp
namespace Go.Proofs.YtpeebjnfmlfocaaDoor.Tp
open Go.RowKit Go.Proofs.YtpeebjnfmlfocaaDoorW.PrintWords Go.Proofs.YtpeebjnfmlfocaaDoorW.PrintLast Go.Proofs.YtpeebjnfmlfocaaDoorW.PrintMore
set_option linter.unusedVariables false
set_option maxHeartbeats 1000000 in
theorem split_one (s : ByteArray) (c : UInt8) (w : World) (hs : s.size < 4294967281) :
    Calls Tryd.prog 55 #[.string s, .string ⟨#[c]⟩] w fun e w' =>
      e = .returned (.slice (some ⟨w.heap.size, 0, none⟩) (Lib.countB s ⟨#[c]⟩ + 1) (Lib.countB s ⟨#[c]⟩ + 1)) ∧ w' = w.alloc (.cells ((Lib.splitB ⟨#[c]⟩ 0 (Lib.countB s ⟨#[c]⟩) s).map Value.string).toArray 9) := by
  have h1 : 1 ≤ (⟨#[c]⟩ : ByteArray).size := Nat.le_refl 1
  have hle := Lib.countB_le ⟨#[c]⟩ h1 s.size s (Nat.le_refl _)
  have hlen := Lib.splitB_all ⟨#[c]⟩ h1 0 _ s rfl
  have hI : ∀ (x : ByteArray) (cs : Array Value), x.size ≤ s.size → Calls Tryd.prog 132 #[.string x, .string ⟨#[c]⟩] (w.alloc (.cells cs 9)) fun e w' => e = .returned (.int .i64 (Lib.indexB x ⟨#[c]⟩)) ∧ w' = w.alloc (.cells cs 9) := fun x cs _ =>
    (Any.strings_Index_one Tryd.lays143 x c _).mono fun e w' ⟨he, hw⟩ => ⟨by rw [he]; show _ = Ending.returned (Value.int .i64 (Lib.index x.data.toList [c])); rw [Lib.index_one], hw⟩
  have hC : Calls Tryd.prog 131 #[.string s, .string ⟨#[c]⟩] w fun e w' => e = .returned (.int .i64 (Lib.countB s ⟨#[c]⟩)) ∧ w' = w :=
    (Any.strings_Count_one Tryd.lays138 s c w).mono fun e w' ⟨he, hw⟩ => ⟨by rw [he]; show _ = Ending.returned (Value.int .i64 ((Lib.count s.data.toList [c] : Nat) : Int)); rw [Lib.count_one]; rfl, hw⟩
  have hc : Calls Tryd.prog 96 #[.string s, .string ⟨#[c]⟩, .int .i64 0, .int .i64 (-1)] w fun e w' => e = .returned (.slice (some ⟨w.heap.size, 0, none⟩) (Lib.countB s ⟨#[c]⟩ + 1) (Lib.countB s ⟨#[c]⟩ + 1)) ∧ w' = w.alloc (.cells ((Lib.splitB ⟨#[c]⟩ 0 (Lib.countB s ⟨#[c]⟩) s).map Value.string).toArray 9) := by
    have := Any.strings_genSplit_core Tryd.lays221 (by kernel_rfl) s ⟨#[c]⟩ 0 (-1) (Lib.countB s ⟨#[c]⟩ + 1) w hs h1 (Nat.zero_le _) hI hC (by decide) (by decide) (by rw [if_pos (by decide)]; omega)
    rw [Nat.add_sub_cancel, hlen] at this
    have e2 : Lib.cellsOf (Lib.splitB ⟨#[c]⟩ 0 (Lib.countB s ⟨#[c]⟩) s) (Lib.countB s ⟨#[c]⟩ + 1) = ((Lib.splitB ⟨#[c]⟩ 0 (Lib.countB s ⟨#[c]⟩) s).map Value.string).toArray := by rw [← hlen]; exact Lib.cellsOf_full _
    rw [e2] at this
    exact this
  have HC := Lib.hid hc
  clear hc hI hC hlen hle
  go_enter Tryd.func55, Tryd.ntmps55
  go_wp2_with (go_at_call 96; (with_reducible refine (HC.out).mono ?_); rintro e w' ⟨rfl, hw⟩; rw [hw])
  go_ret
  exact ⟨rfl, rfl⟩
def strings_Split.f (a0 : ByteArray) (a1 : ByteArray) : Option (List ByteArray) := if a1.size = 1 ∧ a0.size ≤ 2097152 then some (Lib.splitB a1 0 (Lib.countB a0 a1) a0) else none
theorem strings_Split.calls (a0 : ByteArray) (a1 : ByteArray) (r : List ByteArray) (w : World) (h : strings_Split.f a0 a1 = some r) :
    Calls Tryd.prog 55 #[.string a0, .string a1] w fun e w' => ∃ v0_ : Value, e = .returned (v0_) ∧ Kd.R Kd.string 9 w' w.heap.size (fun _ => True) v0_ r ∧ Below w.heap.size w w' := by
  unfold strings_Split.f at h
  split at h
  · rename_i hc
    obtain ⟨h1, h2⟩ := hc
    cases h
    obtain ⟨c, rfl⟩ := Lib.one_byte a1 h1
    have hlen := Lib.splitB_all ⟨#[c]⟩ (Nat.le_refl 1) 0 _ a0 rfl
    have hle := Lib.countB_le ⟨#[c]⟩ (Nat.le_refl 1) a0.size a0 (Nat.le_refl _)
    refine (split_one a0 c w (by omega)).mono ?_
    rintro e w' ⟨rfl, rfl⟩
    refine ⟨_, rfl, ?_, (Below.refl _ _).alloc (Nat.le_refl _) _⟩
    have ho := World.ownsRow_lit (base := w.heap.size) (e := 9) (size := 1) w ((Lib.splitB ⟨#[c]⟩ 0 (Lib.countB a0 ⟨#[c]⟩) a0).map Value.string).toArray (Lib.countB a0 ⟨#[c]⟩ + 1) (Nat.le_refl _) (by unfold maxLen; omega) (by simp; exact hlen)
    refine Kd.R_of_own (enc := Value.string) (h1 := fun _ => rfl) ?_ (fun _ _ => trivial)
    rw [hlen]
    exact ho
  · cases h
end Go.Proofs.YtpeebjnfmlfocaaDoor.Tp
namespace Go.Proofs.YtpeebjnfmlfocaaDoor.Tm
open Go.RowKit Go.Proofs.YtpeebjnfmlfocaaDoorW.PrintWords Go.Proofs.YtpeebjnfmlfocaaDoorW.PrintLast Go.Proofs.YtpeebjnfmlfocaaDoorW.PrintMore
attribute [local go_sem] max2_int min2_int max_two min_two max_three min_three max_four min_four   -- for this text's walks alone
set_option linter.unusedVariables false
set_option linter.unusedSimpArgs false
def errW : Option Int → Value
  | none => .nilIface
  | some c => .iface 0 (.int .i64 c)
theorem errW_none : errW none = .nilIface := rfl
theorem errW_some (c : Int) : errW (some c) = .iface 0 (.int .i64 c) := rfl
theorem info5 : (Tryd.prog.info? 5).map (fun i => (i.zero, i.size, i.bytes)) = some (some (.int .u8 0), 1, 1) := by kernel_rfl
end Go.Proofs.YtpeebjnfmlfocaaDoor.Tm
namespace Go.Proofs.YtpeebjnfmlfocaaDoor.TpP
open Go.RowKit Go.Proofs.YtpeebjnfmlfocaaDoorW.PrintWords Go.Proofs.YtpeebjnfmlfocaaDoorW.PrintLast Go.Proofs.YtpeebjnfmlfocaaDoorW.PrintMore Go.Proofs.YtpeebjnfmlfocaaDoor.Th Go.Proofs.YtpeebjnfmlfocaaDoor.Tm
set_option linter.unusedVariables false
def prs (b : Bool) : List UInt8 → Nat → Int → List Int → List Int × Int × Int
  | [], i, high, out => if high ≥ 0 then ([], (i : Int), 2) else (out, 0, 0)
  | c :: cs, i, high, out =>
    if b = true ∧ c = 32 ∧ high < 0 then prs b cs (i + 1) high out
    else if digv (c.toNat : Int) < 0 then ([], (i : Int), 2)
    else if high < 0 then prs b cs (i + 1) (digv (c.toNat : Int)) out
    else prs b cs (i + 1) (-1) (out ++ [high * 16 + digv (c.toNat : Int)])
theorem digv_rg (c : Int) : -1 ≤ digv c ∧ digv c ≤ 15 := by unfold digv; omega
theorem digit_eq (c : Int) (h : 0 ≤ c ∧ c ≤ 255) : hex_digit.f c = some (digv c) := by unfold hex_digit.f; rw [if_pos h]
theorem bt_rg (s : ByteArray) (i : Int) : 0 ≤ bt s i ∧ bt s i ≤ 255 := by
  unfold bt
  split
  · rename_i h
    have := (s[i.toNat]'h).toNat_lt
    omega
  · omega
theorem or_eq (h t : Int) (h0 : 0 ≤ h ∧ h ≤ 15) (t0 : 0 ≤ t ∧ t ≤ 15) : (Go.bits .or .i64 (wrap64 (h * 16)) t) % 256 = h * 16 + t := by
  obtain ⟨a, rfl⟩ : ∃ a : Nat, h = a := ⟨h.toNat, by omega⟩
  obtain ⟨b, rfl⟩ : ∃ b : Nat, t = b := ⟨t.toNat, by omega⟩
  have : ∀ a b : Fin 16, (Go.bits .or .i64 (wrap64 ((a.1 : Int) * 16)) (b.1 : Int)) % 256 = (a.1 : Int) * 16 + b.1 := by decide +kernel
  exact this ⟨a, by omega⟩ ⟨b, by omega⟩
theorem list_at (s : ByteArray) (i : Nat) (h : i < s.size) : s.data.toList.drop i = s[i] :: s.data.toList.drop (i + 1) := by
  rw [List.drop_eq_getElem_cons (by simpa using h)]
  rfl
theorem bt_nat (s : ByteArray) (i : Nat) (h : i < s.size) : bt s (i : Int) = ((s[i]'h).toNat : Int) := by
  unfold bt
  simp [h]
theorem u8_32 (c : UInt8) : ((c.toNat : Int) = 32) ↔ c = 32 := by
  constructor
  · intro h
    apply UInt8.toNat_inj.1
    have : c.toNat = 32 := by omega
    rw [this]; rfl
  · rintro rfl; rfl
theorem pairs_run (s : ByteArray) (b : Bool) (hs : s.size ≤ 100000) (d : Nat) : ∀ (k i : Nat) (high : Int) (out : List Int), i + d = s.size → 2 * d < k → -1 ≤ high → high ≤ 15 → out.length ≤ i →
    hex_pairs.l0 k s b out high (s.size : Int) (i : Int) = some (prs b (s.data.toList.drop i) i high out) := by
  induction d with
  | zero =>
    intro k i high out hi hk h0 h1 ho
    obtain ⟨k, rfl⟩ : ∃ m, k = m + 1 := ⟨k - 1, by omega⟩
    simp only [hex_pairs.l0]
    have : s.data.toList.length = s.size := by simp
    rw [if_neg (by omega), List.drop_of_length_le (by omega), prs]
    by_cases hh : high ≥ 0
    · rw [if_pos hh, if_pos hh]
      have : (s.size : Int) = i := by omega
      rw [this]
    · rw [if_neg hh, if_neg hh]
  | succ d ih =>
    intro k i high out hi hk h0 h1 ho
    obtain ⟨k, rfl⟩ : ∃ m, k = m + 1 + 1 := ⟨k - 2, by omega⟩
    have hil : i < s.size := by omega
    have hw : wrap64 ((i : Int) + 1) = ((i + 1 : Nat) : Int) := by rw [IntWalk.wrap64_in _ (by omega)]; omega
    have hdg := digit_eq (bt s (i : Int)) (bt_rg s _)
    have hdr := digv_rg (bt s (i : Int))
    -- the second half of a round
    have hj : ∀ x : Bool, hex_pairs.j1 (k + 1) s b out high (i : Int) (s.size : Int) (i : Int) x =
        some (if x = true then prs b (s.data.toList.drop (i + 1)) (i + 1) high out else if digv (bt s (i : Int)) < 0 then ([], (i : Int), 2)
          else if high < 0 then prs b (s.data.toList.drop (i + 1)) (i + 1) (digv (bt s (i : Int))) out else prs b (s.data.toList.drop (i + 1)) (i + 1) (-1) (out ++ [high * 16 + digv (bt s (i : Int))])) := by
      intro x
      simp only [hex_pairs.j1, hw]
      cases x with
      | true => simp only [if_true]; exact ih _ _ _ _ (by omega) (by omega) h0 h1 (by omega)
      | false =>
        simp only [Bool.false_eq_true, if_false]
        rw [if_pos (by omega), if_pos (by omega), hdg, Option.bind_some]
        by_cases hd : digv (bt s (i : Int)) < 0
        · rw [if_pos hd, if_pos hd]
        · rw [if_neg hd, if_neg hd]
          by_cases hh : high < 0
          · rw [if_pos hh, if_pos hh]
            exact ih _ _ _ _ (by omega) (by omega) (by omega) (by omega) (by omega)
          · rw [if_neg hh, if_neg hh, if_pos (by omega), or_eq _ _ (by omega) (by omega)]
            exact ih _ _ _ _ (by omega) (by omega) (by omega) (by omega) (by simp; omega)
    rw [list_at s i hil, prs, ← bt_nat s i hil]
    simp only [hex_pairs.l0]
    rw [if_pos (by omega)]
    have hc := u8_32 (s[i]'hil)
    rw [← bt_nat s i hil] at hc
    cases b with
    | false =>
      simp only [Bool.false_eq_true, if_false, false_and]
      rw [hj]
      simp
    | true =>
      simp only [if_true, true_and]
      rw [if_pos (by omega), if_pos (by omega)]
      by_cases h32 : bt s (i : Int) = 32
      · rw [if_pos h32, hj]
        have h33 := hc.1 h32
        by_cases hh : high < 0
        · simp [hh, h33]
        · simp [hh, h33]
      · rw [if_neg h32, hj]
        have h33 : ¬ s[i]'hil = 32 := fun h => h32 (hc.2 h)
        simp [h33]
theorem bytes_eq (s : ByteArray) (hs : s.size ≤ 100000) (k : Nat) (hk : 2 * s.size < k) : hex_Bytes.f k s = some (prs false s.data.toList 0 (-1) []) := by
  have := pairs_run s false hs s.size k 0 (-1) [] (by omega) hk (by omega) (by omega) (by simp)
  simp only [hex_Bytes.f, hex_pairs.f]
  rw [show ((0 : Int)) = ((0 : Nat) : Int) from rfl, this, Option.bind_some]
  rfl
end Go.Proofs.YtpeebjnfmlfocaaDoor.TpP
namespace Go.Proofs.YtpeebjnfmlfocaaDoor.TpP
open Go.RowKit Go.Proofs.YtpeebjnfmlfocaaDoorW.PrintWords Go.Proofs.YtpeebjnfmlfocaaDoorW.PrintLast Go.Proofs.YtpeebjnfmlfocaaDoorW.PrintMore Go.Proofs.YtpeebjnfmlfocaaDoor.Tn Go.Proofs.YtpeebjnfmlfocaaDoor.Tm Go.Proofs.YtpeebjnfmlfocaaDoor.TpR
set_option linter.unusedVariables false
def top : Nat := 4611686018427387904
def numGo : List UInt8 → Nat → Option Nat
  | [], n => some n
  | c :: cs, n => if 48 ≤ c.toNat ∧ c.toNat ≤ 57 then numGo cs (10 * n + (c.toNat - 48)) else none
def capO : Option Nat → Option Nat
  | none => none
  | some v => if v ≤ top then some v else none
def numO (s : ByteArray) : Option Nat := if s.size = 0 ∨ (1 < s.size ∧ bt s 0 = 48) then none else capO (numGo s.data.toList 0)
def numT (s : ByteArray) : Int × Bool := match numO s with
  | none => (0, false)
  | some v => ((v : Int), true)
theorem numGo_ge : ∀ (cs : List UInt8) (n v : Nat), numGo cs n = some v → n * 10 ^ cs.length ≤ v
  | [], n, v, h => by cases h; simp
  | c :: cs, n, v, h => by
    rw [numGo] at h
    split at h
    · have := numGo_ge cs _ v h
      rw [List.length_cons, Nat.pow_succ, Nat.mul_comm (10 ^ cs.length) 10, ← Nat.mul_assoc]
      refine Nat.le_trans (Nat.mul_le_mul_right _ ?_) this
      omega
    · cases h
theorem numGo_le {cs : List UInt8} {n v : Nat} (h : numGo cs n = some v) : n ≤ v := by
  have := numGo_ge cs n v h
  exact Nat.le_trans (Nat.le_mul_of_pos_right n (Nat.pow_pos (by decide))) this
theorem cap_over {cs : List UInt8} {n : Nat} (h : top < n) : capO (numGo cs n) = none := by
  cases hg : numGo cs n with
  | none => rfl
  | some v => have := numGo_le hg; rw [capO, if_neg (by omega)]
theorem ovf_no {C : Nat} (n x : Nat) (h : ¬ (n : Int) > ((C : Int) - (x : Int)) / 10) : 10 * n + x ≤ C := by
  have h1 : 10 * (((C : Int) - (x : Int)) / 10) ≤ (C : Int) - (x : Int) := Int.mul_ediv_self_le (by decide)
  omega
theorem ovf_yes {C : Nat} (n x : Nat) (h : (n : Int) > ((C : Int) - (x : Int)) / 10) : C < 10 * n + x := by
  have h1 : ((C : Int) - (x : Int)) < 10 * (((C : Int) - (x : Int)) / 10) + 10 := Int.lt_mul_ediv_self_add (by decide)
  omega
def resT : Option Nat → Int × Bool
  | none => (0, false)
  | some v => ((v : Int), true)
theorem number_l0 (s : ByteArray) (hs : s.size ≤ 100) (d : Nat) : ∀ (k i n : Nat), i + d = s.size → 2 * d < k → n ≤ top →
    tale_number.l0 k s (n : Int) (s.size : Int) (i : Int) = some (resT (capO (numGo (s.data.toList.drop i) n))) := by
  induction d with
  | zero =>
    intro k i n hi hk hn
    obtain ⟨k, rfl⟩ : ∃ m, k = m + 1 := ⟨k - 1, by omega⟩
    simp only [tale_number.l0]
    have : s.data.toList.length = s.size := by simp
    rw [if_neg (by omega), List.drop_of_length_le (by omega), numGo, capO, if_pos hn]
    rfl
  | succ d ih =>
    intro k i n hi hk hn
    obtain ⟨k, rfl⟩ : ∃ m, k = m + 1 + 1 := ⟨k - 2, by omega⟩
    have hil : i < s.size := by omega
    have hrg := bt_rg s (i : Int)
    have hw : wrap64 ((i : Int) + 1) = ((i + 1 : Nat) : Int) := by rw [IntWalk.wrap64_in _ (by omega)]; omega
    unfold top at hn
    rw [list_at s i hil, numGo]
    have hb := bt_nat s i hil
    simp only [tale_number.l0]
    rw [if_pos (by omega), if_pos (by omega), if_pos (by omega)]
    by_cases h1 : bt s (i : Int) < 48
    · rw [if_pos h1, if_neg (by omega)]
      simp only [tale_number.j2]
      rw [if_pos trivial]
      rfl
    · rw [if_neg h1]
      simp only [tale_number.j2]
      by_cases h2 : bt s (i : Int) > 57
      · rw [decide_eq_true h2, if_pos rfl, if_neg (by omega)]
        rfl
      · rw [decide_eq_false h2, if_neg (by decide), if_pos (by omega), if_pos (by omega), if_pos (show 48 ≤ (s[i]'hil).toNat ∧ (s[i]'hil).toNat ≤ 57 by omega)]
        have e1 : (bt s (i : Int) - 48) % 256 = ((s[i]'hil).toNat - 48 : Nat) := by omega
        rw [e1]
        clear e1
        obtain ⟨x, hx⟩ : ∃ x, x = (s[i]'hil).toNat - 48 := ⟨_, rfl⟩
        have hx9 : x ≤ 9 := by omega
        rw [← hx]
        clear hx hb hrg h1 h2
        by_cases h3 : (n : Int) > (4611686018427387904 - (x : Int)) / 10
        · rw [if_pos h3, cap_over (ovf_yes (C := top) n x h3)]
          rfl
        · have h4 := ovf_no (C := top) n x h3
          rw [if_neg h3, hw]
          clear h3
          have e2 : wrap64 (wrap64 (10 * (n : Int)) + (x : Int)) = ((10 * n + x : Nat) : Int) := by
            have h5 : 10 * n + x ≤ 4611686018427387904 := h4
            rw [IntWalk.wrap64_in (10 * (n : Int)) (by omega), IntWalk.wrap64_in _ (by omega)]
            omega
          rw [e2]
          have h6 : i + 1 + d = s.size := by omega
          have h7 : 2 * d < k := by omega
          exact ih k (i + 1) (10 * n + x) h6 h7 h4
theorem numO_long (s : ByteArray) (h : 19 < s.size) : numO s = none := by
  unfold numO
  split
  · rfl
  · next h2 =>
    cases hg : numGo s.data.toList 0 with
    | none => rfl
    | some v =>
      have h0 : bt s 0 ≠ 48 := fun h3 => h2 (.inr ⟨by omega, h3⟩)
      have hl := list_at s 0 (by omega)
      rw [List.drop_zero] at hl
      rw [hl, numGo] at hg
      have hb := bt_nat s 0 (by omega)
      rw [show ((0 : Nat) : Int) = 0 from rfl] at hb
      split at hg
      · have := numGo_ge _ _ _ hg
        have hlen : (s.data.toList.drop (0 + 1)).length = s.size - 1 := by simp
        rw [hlen] at this
        have hp : 10 ^ 19 ≤ 10 ^ (s.size - 1) := Nat.pow_le_pow_right (by decide) (by omega)
        have h1 : 1 * 10 ^ (s.size - 1) ≤ (10 * 0 + ((s[0]'(by omega)).toNat - 48)) * 10 ^ (s.size - 1) := Nat.mul_le_mul_right _ (by omega)
        rw [capO, if_neg (by unfold top; omega)]
      · cases hg
theorem number_eq (s : ByteArray) (k : Nat) (hk : 50 ≤ k) : tale_number.f k s = some (numT s) := by
  have hT : numT s = resT (numO s) := by unfold numT resT; split <;> simp_all
  obtain ⟨k, rfl⟩ : ∃ m, k = m + 1 := ⟨k - 1, by omega⟩
  unfold tale_number.f
  rw [hT]
  by_cases h0 : (s.size : Int) = 0
  · rw [if_pos h0]
    simp only [tale_number.j0]
    rw [if_pos trivial, numO, if_pos (.inl (by omega))]
    rfl
  · rw [if_neg h0]
    by_cases h1 : (s.size : Int) > 19
    · rw [if_pos h1, numO_long s (by omega)]
      simp only [tale_number.j0]
      rw [if_pos trivial]
      rfl
    · rw [if_neg h1]
      have hl0 := number_l0 s (by omega) s.size k 0 0 (by omega) (by omega) (by unfold top; omega)
      rw [List.drop_zero] at hl0
      by_cases h2 : (s.size : Int) > 1
      · rw [if_pos h2, if_pos (by omega)]
        simp only [tale_number.j0]
        by_cases h3 : bt s 0 = 48
        · rw [if_pos (by rw [h3]; rfl), numO, if_pos (.inr ⟨by omega, h3⟩)]
          rfl
        · rw [if_neg (by simpa using h3), numO, if_neg (by intro h; rcases h with h | h; omega; exact h3 h.2)]
          exact hl0
      · rw [if_neg h2]
        simp only [tale_number.j0]
        rw [if_neg (by decide), numO, if_neg (by omega)]
        exact hl0
end Go.Proofs.YtpeebjnfmlfocaaDoor.TpP
namespace Go.Proofs.YtpeebjnfmlfocaaDoor.TpP
open Go.RowKit Go.Proofs.YtpeebjnfmlfocaaDoorW.PrintWords Go.Proofs.YtpeebjnfmlfocaaDoorW.PrintLast Go.Proofs.YtpeebjnfmlfocaaDoorW.PrintMore Go.Proofs.YtpeebjnfmlfocaaDoor.TpR
set_option linter.unusedVariables false
set_option linter.unusedSimpArgs false
def hexT (s : ByteArray) : List Int × Int := ((prs false s.data.toList 0 (-1) []).1, (prs false s.data.toList 0 (-1) []).2.2)
theorem numT_eq (s : ByteArray) : numT s = resT (numO s) := by unfold numT resT; split <;> simp_all
theorem w0 : (fWord 0).toList = [100, 101, 108, 105, 118, 101, 114] := by rw [ByteArray.toList_eq]; rfl
theorem w1 : (fWord 1).toList = [99, 111, 112, 121] := by rw [ByteArray.toList_eq]; rfl
theorem w2 : (fWord 2).toList = [108, 111, 115, 101] := by rw [ByteArray.toList_eq]; rfl
theorem w3 : (fWord 3).toList = [116, 105, 99, 107] := by rw [ByteArray.toList_eq]; rfl
theorem w4 : (fWord 4).toList = [116, 101, 97, 114] := by rw [ByteArray.toList_eq]; rfl
theorem w5 : (fWord 5).toList = [102, 97, 108, 108] := by rw [ByteArray.toList_eq]; rfl
theorem w6 : (fWord 6).toList = [105, 110, 106, 101, 99, 116] := by rw [ByteArray.toList_eq]; rfl
theorem hit_eq (nf : ByteArray → Int × Bool) (hf : ByteArray → List Int × Int) (c : ByteArray) (rest : List ByteArray) : hitF nf hf c rest 7 0 =
    if [100, 101, 108, 105, 118, 101, 114] = c.toList then readAt nf hf 0 rest else if [99, 111, 112, 121] = c.toList then readAt nf hf 1 rest else if [108, 111, 115, 101] = c.toList then readAt nf hf 2 rest
    else if [116, 105, 99, 107] = c.toList then readAt nf hf 3 rest else if [116, 101, 97, 114] = c.toList then readAt nf hf 4 rest else if [102, 97, 108, 108] = c.toList then readAt nf hf 5 rest
    else if [105, 110, 106, 101, 99, 116] = c.toList then readAt nf hf 6 rest else zeroR := by
  simp only [hitF, w0, w1, w2, w3, w4, w5, w6, Nat.zero_add, Nat.reduceAdd]
end Go.Proofs.YtpeebjnfmlfocaaDoor.TpP
namespace Go.Proofs.YtpeebjnfmlfocaaDoor.Tp
open Go.RowKit Go.Proofs.YtpeebjnfmlfocaaDoorW.PrintWords Go.Proofs.YtpeebjnfmlfocaaDoorW.PrintLast Go.Proofs.YtpeebjnfmlfocaaDoorW.PrintMore
set_option linter.unusedVariables false
def tup (R : TpR.Res) : Int × Int × Int × Int × Int × (List Int) × Bool := (R.1, R.2.1 1, R.2.1 2, R.2.1 3, R.2.1 4, R.2.2.1, R.2.2.2)
def tale_read.f (l0 : List ByteArray) : Option (Int × Int × Int × Int × Int × (List Int) × Bool) := if 0 < l0.length ∧ (∀ x ∈ l0, x.size ≤ 100000) then some (tup (TpR.readF TpP.numT TpP.hexT l0)) else none
theorem tale_read.calls (A0 : Option Addr) (c0 : Nat) (l0 : List ByteArray) (r1 : Int) (r2 : Int) (r3 : Int) (r4 : Int) (r5 : Int) (r6 : List Int) (r7 : Bool) (w : World) (hr0 : Kd.C Kd.string w A0 l0.length l0) (hc0 : l0.length ≤ c0) (h : tale_read.f l0 = some (r1, r2, r3, r4, r5, r6, r7)) :
    Calls Tryd.prog 57 #[.slice A0 l0.length c0] w fun e w' => ∃ v5_ : Value, e = .returned (.tuple #[.agg #[.int .i64 r1, .int .i64 r2, .int .i64 r3, .int .i64 r4, .int .i64 r5, v5_], .bool r7]) ∧ Kd.R (Kd.int .u8) 5 w' w.heap.size (fun _ => True) v5_ r6 ∧ Below w.heap.size w w' := by
  unfold tale_read.f at h
  split at h
  · rename_i hc
    have h2 := Option.some.inj h
    have hx := TpR.read_any TpP.numT TpP.hexT (fun s w hs => (Th.hex_Bytes.calls 300000 s _ _ _ w (TpP.bytes_eq s hs 300000 (by omega))).mono fun e w' ⟨v, he, hR, hb⟩ => ⟨v, _, he, hR, hb⟩)
      (fun s w => Tn.tale_number.calls 50 s _ _ w (TpP.number_eq s 50 (Nat.le_refl _))) A0 c0 l0 w hr0 hc0 hc.1 hc.2
    unfold tup at h2
    simp only [Prod.mk.injEq] at h2
    obtain ⟨e1, e2, e3, e4, e5, e6, e7⟩ := h2
    rw [← e1, ← e2, ← e3, ← e4, ← e5, ← e6, ← e7]
    exact hx
  · cases h
end Go.Proofs.YtpeebjnfmlfocaaDoor.Tp
