/- What the rows over the table of constants share: from the listed datum to `Glob`; the world that the door's own run leaves meets it. No condition. -/
import Derived.Test.YtpeebjnfmlfocaaDoorRows
import Derived.Test.YtpeebjnfmlfocaaDoorDSum
import Derived.WalkKit
import Derived.ProofKit
import Derived.OpenShut
import Derived.ShutString
import Derived.ChangeOld
import Derived.Below
import Derived.SizedLaws
import Derived.LaidMore
import Derived.LaidOnce
import Derived.Lib.LaidTab
import Derived.Stop.Joined
namespace Go.Proofs.YtpeebjnfmlfocaaDoor.Door
open Go.ChangeShapes Go.WideShapes Go.ChangeAt Go.RowKit Go.UW
set_option linter.unusedVariables false

theorem own : ownKnob Tryd.prog.godebug = none := by kernel_rfl
theorem laidOut : laidOutB Tryd.prog = true := by kernel_rfl
def IsRow (k : IntKind) (w : World) (a : Option Addr) (len cap : Nat) (zs : List Int) : Prop :=
  (a = none ∧ len = 0 ∧ cap = 0 ∧ zs = []) ∨
  ∃ x, a = some x ∧ len ≤ cap ∧ cap ≤ maxLen ∧ zs.length = cap ∧ (∀ i, i < zs.length → w.cell? (x.add i) = some (.int k (zs.getD i 0))) ∧ ∀ n ∈ zs, (Lit.int k n).wf = true

abbrev tab : List (String × DataW Unit) := [("cleromancy/digest.constants", Rows.laid_cleromancy_digest_constants)]
theorem gname : Tryd.prog.globalNamed "cleromancy/digest.constants" = some 1 := by kernel_rfl
theorem gtype : (Tryd.prog.globals[(1 : Nat)]?).map (·.type) = some 176 := by kernel_rfl
theorem datum : (Rows.laid_cleromancy_digest_constants : DataW Unit) = Lib.tabData .u32 (K256.map v32) := by kernel_rfl
theorem glob_of_laid {W : World} (h : laidMetH Tryd.prog tab W) : Dig.Glob W := by
  rw [MakeChecks.laidMetH_plain _ _ _ (by kernel_rfl)] at h
  unfold tab at h
  rw [datum] at h
  have hT := Lib.tabIs_of_head gname gtype Tryd.underlying176 Tryd.underlying142 (by kernel_rfl) (by kernel_rfl) h
  have hc : ∀ i : Nat, i < 64 → W.cell? ⟨1, i, none⟩ = some (.int .u32 (v32 (K256.getD i 0))) := fun i hi => by
    have := hT.cell gname i (by rw [List.length_map]; exact hi)
    rw [this, List.getD_eq_getElem?_getD, List.getElem?_map, List.getElem?_eq_getElem (by exact hi), List.getD_eq_getElem?_getD, List.getElem?_eq_getElem (by exact hi)]
    rfl
  exact ⟨World.block_lt_of_cell? _ _ (hc 0 (by decide)), hc⟩
/-- The door's own heap meets the condition. -/
theorem door_met (os : Os) (args : Array Value) : laidMetH Tryd.prog tab ((World.doorLaid Tryd.prog 39 os).forCall (fun _ _ => 0) ⟨#[], args, []⟩).memory :=
  laidMetH_of_parts3 (fuel := 8) (laidMet_of_run' 8 (by kernel_rfl) (by kernel_rfl)) (by kernel_rfl) (by kernel_rfl)
end Go.Proofs.YtpeebjnfmlfocaaDoor.Door
