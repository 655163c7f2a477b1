/- HexBack in plain numbers and lists: what is told as text is the bytes again, in groups or not; a text that is read is told so again. No condition beyond the law's own. -/
import Derived.Test.YtpeebjnfmlfocaaPrint2
import Derived.Test.YtpeebjnfmlfocaaHexP
import Derived.Test.YtpeebjnfmlfocaaPureHexTexts
import Derived.OpenShut
namespace Go.Proofs.Ytpeebjnfmlfocaa.Pure
open Go.RowKit Go.Proofs.Ytpeebjnfmlfocaa.Print Go.Proofs.YtpeebjnfmlfocaaW.PrintWords Go.Proofs.YtpeebjnfmlfocaaW.PrintLast

theorem same_run (l : List Int) (hl : l.length ≤ 100000) (d : Nat) : ∀ (k i : Nat), i + d = l.length → d < k → cleromancyref01_Same.l0 k l l (i : Int) = some true := by
  induction d with
  | zero =>
    intro k i hi hk
    obtain ⟨k, rfl⟩ : ∃ m, k = m + 1 := ⟨k - 1, by omega⟩
    simp only [cleromancyref01_Same.l0]
    rw [if_neg (by omega)]
  | succ d ih =>
    intro k i hi hk
    obtain ⟨k, rfl⟩ : ∃ m, k = m + 1 := ⟨k - 1, by omega⟩
    have hw : wrap64 ((i : Int) + 1) = ((i + 1 : Nat) : Int) := by rw [IntWalk.wrap64_in _ (by omega)]; omega
    simp only [cleromancyref01_Same.l0, hw]
    have h1 : (i : Int) < l.length := by omega
    have h2 : (0 : Int) ≤ i := by omega
    simp only [h1, h2, if_true]
    exact ih k (i + 1) (by omega) (by omega)
theorem same_self (l : List Int) (hl : l.length ≤ 100000) (k : Nat) (hk : l.length < k) : cleromancyref01_Same.f k l l = some true := by
  unfold cleromancyref01_Same.f
  rw [if_pos rfl]
  exact same_run l hl l.length k 0 (by omega) hk

theorem HexBack : cleromancylaw37_HexBack.Pure := by
  intro l0 a1 a2 _ _ hw _ _
  refine ⟨10003, ?_⟩
  unfold cleromancylaw37_HexBack.f
  rw [awake37, Option.bind_some, if_pos rfl]
  by_cases hn : (l0.length : Int) > 500
  · rw [if_pos hn]
    rfl
  · rw [if_neg hn]
    by_cases hs : (a2.size : Int) > 1000
    · rw [decide_eq_true hs]
      rfl
    · rw [decide_eq_false hs]
      have hok := text_ok (l0 := l0) (by omega) hw
      have hrg : ∀ x ∈ l0, 0 ≤ x ∧ x ≤ 255 := fun x hx => bounds_u8 (hw x hx)
      have ht : hex_Text.f l0 = some (bs (hexL l0)) := by unfold hex_Text.f; rw [if_pos hok]; rfl
      have hg : hex_Groups.f l0 a1 = some (bs (refG a1.toNat 0 l0)) := by unfold hex_Groups.f; rw [if_pos hok]; rfl
      have hlen := hexL_len l0
      have hlen2 := refG_len a1.toNat l0 0
      have hd : ∀ l, (bs l).data.toList = l := fun l => rfl
      have hb1 : hex_Bytes.f 10002 (bs (hexL l0)) = some (l0, 0, 0) := by
        rw [bytes_eq _ (by rw [bs_size]; omega) _ (by rw [bs_size]; omega), hd, prs_text false l0 0 [] hrg]
        rfl
      have hb2 : hex_Of.f 10002 (bs (refG a1.toNat 0 l0)) = some (l0, 0, 0) := by
        rw [of_eq _ (by rw [bs_size]; omega) _ (by rw [bs_size]; omega), hd, prs_groups a1.toNat l0 0 0 [] hrg]
        rfl
      have hsm := same_self l0 (by omega) 10002 (by omega)
      have hsz : ((bs (hexL l0)).size : Int) = 2 * (l0.length : Int) := by rw [bs_size]; omega
      simp only [cleromancylaw37_HexBack.j0]
      rw [if_neg (by decide), ht, Option.bind_some, hb1, Option.bind_some, hg, Option.bind_some, hb2, Option.bind_some, if_pos rfl, if_pos rfl, hsm, Option.bind_some, if_pos rfl, Option.bind_some, if_pos rfl, Option.bind_some, hsz,
        IntWalk.wrap64_in _ (by omega)]
      simp only [bne_self_eq_false, cleromancylaw37_HexBack.j1]
      rw [if_neg (by decide), bytes_eq a2 (by omega) _ (by omega), Option.bind_some]
      rcases prs_back a2.data.toList 0 (-1) [] (by omega) (by omega) with ⟨e1, e2, l, e3, e4, e5⟩ | ⟨e1, e2, e3, e4⟩
      · rw [if_pos e1, e3, List.nil_append]
        rw [if_pos (by omega)] at e5
        have h5 := hexL_len l
        have h6 : a2.data.toList.length = a2.size := by simp
        have hlt : hex_Text.f l = some (bs (hexL l)) := by
          unfold hex_Text.f
          rw [if_pos]
          · rfl
          · simp only [Bool.and_eq_true, decide_eq_true_eq, List.all_eq_true]
            exact ⟨e4, by rw [e5] at h5; omega⟩
        rw [hlt, Option.bind_some, ba_toList, e5, Lib.toList_data]
        simp
      · have h6 : a2.data.toList.length = a2.size := by simp
        rw [if_neg (by rw [e1]; decide), if_pos (by omega), decide_eq_true (by omega)]

end Go.Proofs.Ytpeebjnfmlfocaa.Pure
