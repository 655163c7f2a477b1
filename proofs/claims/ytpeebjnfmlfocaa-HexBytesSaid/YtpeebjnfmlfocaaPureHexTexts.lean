/- HexTexts in plain numbers and lists: for any list of bytes both texts and both grouped texts are the same. No condition beyond the law's own. -/
import Derived.Test.YtpeebjnfmlfocaaPrint2
import Derived.OpenShut
namespace Go.Proofs.Ytpeebjnfmlfocaa.Pure
open Go.RowKit Go.Proofs.Ytpeebjnfmlfocaa.Print Go.Proofs.YtpeebjnfmlfocaaW.PrintWords Go.Proofs.YtpeebjnfmlfocaaW.PrintLast

theorem ba_toList (l : List UInt8) : (bs l).toList = l := by
  rw [Lib.toList_data]
  rfl

theorem awake37 : cleromancylaw37_awake.f = some true := by
  unfold cleromancylaw37_awake.f
  have : hex_Text.f ([1, 171] : List Int) = some (bs [48, 49, 97, 98]) := by
    unfold hex_Text.f
    rw [if_pos (by decide)]
    rfl
  rw [this, Option.bind_some, ba_toList]
  rfl

theorem text_ok {l0 : List Int} (hn : l0.length ≤ 500) (hw : ∀ x ∈ l0, (Lit.int .u8 x).wf = true) : (l0.all (fun x => 0 ≤ x && x ≤ 255) && decide (l0.length ≤ 1000000)) = true := by
  simp only [Bool.and_eq_true, decide_eq_true_eq, List.all_eq_true]
  exact ⟨fun x hx => bounds_u8 (hw x hx), by omega⟩

theorem HexTexts : cleromancylaw37_HexTexts.Pure := by
  intro l0 a1 _ _ hw _
  unfold cleromancylaw37_HexTexts.f
  rw [awake37, Option.bind_some, if_pos rfl]
  by_cases hn : (l0.length : Int) > 500
  · rw [if_pos hn]
  · have hok := text_ok (by omega) hw
    rw [if_neg hn]
    unfold hex_Text.f cleromancyref37_Text.f hex_Groups.f cleromancyref37_Groups.f
    simp only [hok, if_true, Option.bind_some]
    rw [if_pos (by rfl)]
    simp [bs]

end Go.Proofs.Ytpeebjnfmlfocaa.Pure
