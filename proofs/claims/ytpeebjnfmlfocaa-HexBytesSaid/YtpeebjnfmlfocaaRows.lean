/-
  No cell of these rows narrows 'for every input' (looked for: loops, veiled, ifaces, maps, wideKeys, modest, calm, conditions, laid).
  DERIVED. THE GIVEN ROWS OF THIS SEAT. 4 by the template 'for every input the law returns true; each argument reads behind the call as it read before'; 0 by the template 'total and deterministic' (their statements: YtpeebjnfmlfocaaTotals.lean).
  GIVEN WITH THE SEED: the statements are not yours to turn. If you find one false, say at which input.
  Laid BY PROGRAM, IN A SANDBOX (cutbox-rows.mjs): the forced cells as the released guide's own fill.sh prints them over the translation 062f310f57747516… (all of the seat's roots in one cut). By AI agents, Wed Nov 11 2026. No macro, syntax, notation, axiom, sorry.
-/
import Derived.Test.YtpeebjnfmlfocaaChecked
import GoSem.Claim
import GoSem.ClaimJoined
import GoSem.ClaimMapViews
import Derived.JoinedTies
import Derived.KernelRfl
namespace Go.Proofs.Ytpeebjnfmlfocaa
/- THE CELL 'sum', in the pinned program and in every row, IS THE sha256 OF THE DUMP (.gsa) THAT YtpeebjnfmlfocaaProg.lean LOADS. Nothing in Lean hashes anything: it is a label: what it is worth is what the hold of that sum in a sandbox is worth. -/
noncomputable def Try.pinned : Pinned := { name := "ytpeebjnfmlfocaa", sum := "062f310f57747516b4c4d5aef6eff02fc704b0dd59c3dd46195295a401c5e8e3", checked := Try.checked }
namespace Rows
def none {H : Type} : Left H := { results := [], args := [] }

/-- 'cleromancylaw26.TurnRounds': WHATEVER THE INPUT: true; the input reads as it did. -/
def turnRoundsSpec : ChangeSpec := { name := "turnRounds", fn := fun _ => fun
  | [d1, d2, d3] => { results := [.lit (.bool true)], args := [d1, d2, d3] }
  | _ => none }
def turnRoundsRow : OpenClaim := { program := "ytpeebjnfmlfocaa", sum := "062f310f57747516b4c4d5aef6eff02fc704b0dd59c3dd46195295a401c5e8e3", func := "cleromancy/cleromancylaw26.TurnRounds", spec := "turnRounds", apart := false }
def TurnRoundsSaid : Prop := turnRoundsRow.holds Try.pinned (OpenSpec.ofChange turnRoundsSpec)

/-- ITS FALSE NEIGHBOUR: 'it returns false'. Refute it at one input. -/
def turnRoundsWrong : ChangeSpec := { name := "turnRounds", fn := fun _ => fun
  | [d1, d2, d3] => { results := [.lit (.bool false)], args := [d1, d2, d3] }
  | _ => none }
def TurnRoundsWrongFalsely : Prop := turnRoundsRow.holds Try.pinned (OpenSpec.ofChange turnRoundsWrong)

/-- 'cleromancylaw37.HexBytes': WHATEVER THE INPUT: true; the input reads as it did. -/
def hexBytesSpec : ChangeSpec := { name := "hexBytes", fn := fun _ => fun
  | [d] => { results := [.lit (.bool true)], args := [d] }
  | _ => none }
def hexBytesRow : OpenClaim := { program := "ytpeebjnfmlfocaa", sum := "062f310f57747516b4c4d5aef6eff02fc704b0dd59c3dd46195295a401c5e8e3", func := "cleromancy/cleromancylaw37.HexBytes", spec := "hexBytes", inPlace := ["internal/abi.NoEscape"], apart := false }
def HexBytesSaid : Prop := hexBytesRow.holds Try.pinned (OpenSpec.ofChange hexBytesSpec)

/-- ITS FALSE NEIGHBOUR: 'it returns false'. Refute it at one input. -/
def hexBytesWrong : ChangeSpec := { name := "hexBytes", fn := fun _ => fun
  | [d] => { results := [.lit (.bool false)], args := [d] }
  | _ => none }
def HexBytesWrongFalsely : Prop := hexBytesRow.holds Try.pinned (OpenSpec.ofChange hexBytesWrong)

/-- 'cleromancylaw37.HexTexts': WHATEVER THE INPUT: true; the input reads as it did. -/
def hexTextsSpec : ChangeSpec := { name := "hexTexts", fn := fun _ => fun
  | [d1, d2] => { results := [.lit (.bool true)], args := [d1, d2] }
  | _ => none }
def hexTextsRow : OpenClaim := { program := "ytpeebjnfmlfocaa", sum := "062f310f57747516b4c4d5aef6eff02fc704b0dd59c3dd46195295a401c5e8e3", func := "cleromancy/cleromancylaw37.HexTexts", spec := "hexTexts", inPlace := ["internal/abi.NoEscape", "internal/bytealg.MakeNoZero"], apart := false }
def HexTextsSaid : Prop := hexTextsRow.holds Try.pinned (OpenSpec.ofChange hexTextsSpec)

/-- ITS FALSE NEIGHBOUR: 'it returns false'. Refute it at one input. -/
def hexTextsWrong : ChangeSpec := { name := "hexTexts", fn := fun _ => fun
  | [d1, d2] => { results := [.lit (.bool false)], args := [d1, d2] }
  | _ => none }
def HexTextsWrongFalsely : Prop := hexTextsRow.holds Try.pinned (OpenSpec.ofChange hexTextsWrong)

/-- 'cleromancylaw37.HexBack': WHATEVER THE INPUT: true; the input reads as it did. -/
def hexBackSpec : ChangeSpec := { name := "hexBack", fn := fun _ => fun
  | [d1, d2, d3] => { results := [.lit (.bool true)], args := [d1, d2, d3] }
  | _ => none }
def hexBackRow : OpenClaim := { program := "ytpeebjnfmlfocaa", sum := "062f310f57747516b4c4d5aef6eff02fc704b0dd59c3dd46195295a401c5e8e3", func := "cleromancy/cleromancylaw37.HexBack", spec := "hexBack", inPlace := ["internal/abi.NoEscape", "internal/bytealg.MakeNoZero"], apart := false }
def HexBackSaid : Prop := hexBackRow.holds Try.pinned (OpenSpec.ofChange hexBackSpec)

/-- ITS FALSE NEIGHBOUR: 'it returns false'. Refute it at one input. -/
def hexBackWrong : ChangeSpec := { name := "hexBack", fn := fun _ => fun
  | [d1, d2, d3] => { results := [.lit (.bool false)], args := [d1, d2, d3] }
  | _ => none }
def HexBackWrongFalsely : Prop := hexBackRow.holds Try.pinned (OpenSpec.ofChange hexBackWrong)

/- THE SECOND FORM. 'bulk': how many values and letters a reading holds, each counted each time it is reached (what is shared counts as often as it is met; a slice's spare places count too). A statement '..UptoSaid' is the law's where the arguments, and the package variables that the reading takes, are together of bulk at most 1048576: NARROWER than '..Said'. Prove '..Said' where nothing that the law and all that it calls make is longer than what came in: it says more and counts as full. Else prove '..UptoSaid'. A law counts once. -/
mutual
def uptoBulk {H : Type} : DataW H → Nat
  | .lit (.string bytes) => bytes.length + 1
  | .lit _ => 1
  | .nil => 1
  | .ptr d => uptoBulk d + 1
  | .slice elems spare => uptoBulkAll elems + uptoBulkAll spare + 1
  | .agg parts => uptoBulkAll parts + 1
  | .iface _ d => uptoBulk d + 1
  | .map entries => uptoBulkEntries entries + 1
  | .held _ => 1
def uptoBulkAll {H : Type} : List (DataW H) → Nat
  | [] => 0
  | d :: r => uptoBulk d + uptoBulkAll r
def uptoBulkEntries {H : Type} : List (Lit × DataW H) → Nat
  | [] => 0
  | x :: r => uptoBulkEntry x + uptoBulkEntries r
def uptoBulkEntry {H : Type} : Lit × DataW H → Nat
  | (.string bytes, d) => bytes.length + uptoBulk d + 1
  | (_, d) => uptoBulk d + 1
 end
def uptoSmall : (H : Type) → List (DataW H) → Bool := fun _ ds => decide (uptoBulkAll ds ≤ 1048576)
def OpenSpec.upto (s : _root_.Go.ChangeSpec) : _root_.Go.OpenSpec := { _root_.Go.OpenSpec.ofChange s with cond := some uptoSmall }

/-- 'cleromancylaw26.TurnRounds', WHERE WHAT IT READS IS OF BULK AT MOST 1048576: true; the input reads as it did. -/
def turnRoundsUptoRow : OpenClaim := { program := "ytpeebjnfmlfocaa", sum := "062f310f57747516b4c4d5aef6eff02fc704b0dd59c3dd46195295a401c5e8e3", func := "cleromancy/cleromancylaw26.TurnRounds", spec := "turnRounds", apart := false, narrowed := true }
def TurnRoundsUptoSaid : Prop := turnRoundsUptoRow.holds Try.pinned (OpenSpec.upto turnRoundsSpec)

/-- 'cleromancylaw37.HexBytes', WHERE WHAT IT READS IS OF BULK AT MOST 1048576: true; the input reads as it did. -/
def hexBytesUptoRow : OpenClaim := { program := "ytpeebjnfmlfocaa", sum := "062f310f57747516b4c4d5aef6eff02fc704b0dd59c3dd46195295a401c5e8e3", func := "cleromancy/cleromancylaw37.HexBytes", spec := "hexBytes", inPlace := ["internal/abi.NoEscape"], apart := false, narrowed := true }
def HexBytesUptoSaid : Prop := hexBytesUptoRow.holds Try.pinned (OpenSpec.upto hexBytesSpec)

/-- 'cleromancylaw37.HexTexts', WHERE WHAT IT READS IS OF BULK AT MOST 1048576: true; the input reads as it did. -/
def hexTextsUptoRow : OpenClaim := { program := "ytpeebjnfmlfocaa", sum := "062f310f57747516b4c4d5aef6eff02fc704b0dd59c3dd46195295a401c5e8e3", func := "cleromancy/cleromancylaw37.HexTexts", spec := "hexTexts", inPlace := ["internal/abi.NoEscape", "internal/bytealg.MakeNoZero"], apart := false, narrowed := true }
def HexTextsUptoSaid : Prop := hexTextsUptoRow.holds Try.pinned (OpenSpec.upto hexTextsSpec)

/-- 'cleromancylaw37.HexBack', WHERE WHAT IT READS IS OF BULK AT MOST 1048576: true; the input reads as it did. -/
def hexBackUptoRow : OpenClaim := { program := "ytpeebjnfmlfocaa", sum := "062f310f57747516b4c4d5aef6eff02fc704b0dd59c3dd46195295a401c5e8e3", func := "cleromancy/cleromancylaw37.HexBack", spec := "hexBack", inPlace := ["internal/abi.NoEscape", "internal/bytealg.MakeNoZero"], apart := false, narrowed := true }
def HexBackUptoSaid : Prop := hexBackUptoRow.holds Try.pinned (OpenSpec.upto hexBackSpec)

end Rows
end Go.Proofs.Ytpeebjnfmlfocaa
