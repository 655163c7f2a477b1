/- tale.read, the document's Read and strings.Split in the print's form, given. Conditions: at least one word; each of at most 100000 bytes. -/
import Derived.Test.YtpeebjnfmlfocaaDoorTp0
import Derived.Test.YtpeebjnfmlfocaaDoorSpl
import Derived.Test.YtpeebjnfmlfocaaDoorRdP
namespace Go.Proofs.YtpeebjnfmlfocaaDoor.Tp
open Go.RowKit Go.Proofs.YtpeebjnfmlfocaaDoorW.PrintWords Go.Proofs.YtpeebjnfmlfocaaDoorW.PrintLast Go.Proofs.YtpeebjnfmlfocaaDoorW.PrintMore
set_option linter.unusedVariables false

def tup (R : TpR.Res) : Int × Int × Int × Int × Int × (List Int) × Bool := (R.1, R.2.1 1, R.2.1 2, R.2.1 3, R.2.1 4, R.2.2.1, R.2.2.2)
def tale_read.f (l0 : List ByteArray) : Option (Int × Int × Int × Int × Int × (List Int) × Bool) := if 0 < l0.length ∧ (∀ x ∈ l0, x.size ≤ 100000) then some (tup (TpR.readF TpP.numT TpP.hexT l0)) else none
def cleromancyref44_Read.f (l0 : List ByteArray) : Option (Int × Int × Int × Int × Int × (List Int) × Bool) := if 0 < l0.length ∧ (∀ x ∈ l0, x.size ≤ 100000) then some (tup (TpR.refRead TpP.numR TpP.hexR l0)) else none
theorem tale_read.calls (A0 : Option Addr) (c0 : Nat) (l0 : List ByteArray) (r1 : Int) (r2 : Int) (r3 : Int) (r4 : Int) (r5 : Int) (r6 : List Int) (r7 : Bool) (w : World) (hr0 : Kd.C Kd.string w A0 l0.length l0) (hc0 : l0.length ≤ c0) (h : tale_read.f l0 = some (r1, r2, r3, r4, r5, r6, r7)) :
    Calls Tryd.prog 57 #[.slice A0 l0.length c0] w fun e w' => ∃ v5_ : Value, e = .returned (.tuple #[.agg #[.int .i64 r1, .int .i64 r2, .int .i64 r3, .int .i64 r4, .int .i64 r5, v5_], .bool r7]) ∧ Kd.R (Kd.int .u8) 5 w' w.heap.size (fun _ => True) v5_ r6 ∧ Below w.heap.size w w' := by
  unfold tale_read.f at h
  split at h
  · rename_i hc
    have h2 := Option.some.inj h
    have hx := TpR.read_any TpP.numT TpP.hexT (fun s w hs => (Th.hex_Bytes.calls 300000 s _ _ _ w (TpP.bytes_eq s hs 300000 (by omega))).mono fun e w' ⟨v, he, hR, hb⟩ => ⟨v, _, he, hR, hb⟩)
      (fun s w => Tn.tale_number.calls 50 s _ _ w (TpP.number_eq s 50 (Nat.le_refl _))) A0 c0 l0 w hr0 hc0 hc.1 hc.2
    unfold tup at h2
    simp only [Prod.mk.injEq] at h2
    obtain ⟨e1, e2, e3, e4, e5, e6, e7⟩ := h2
    rw [← e1, ← e2, ← e3, ← e4, ← e5, ← e6, ← e7]
    exact hx
  · cases h
theorem cleromancyref44_Read.calls (A0 : Option Addr) (c0 : Nat) (l0 : List ByteArray) (r1 : Int) (r2 : Int) (r3 : Int) (r4 : Int) (r5 : Int) (r6 : List Int) (r7 : Bool) (w : World) (hr0 : Kd.C Kd.string w A0 l0.length l0) (hc0 : l0.length ≤ c0) (h : cleromancyref44_Read.f l0 = some (r1, r2, r3, r4, r5, r6, r7)) :
    Calls Tryd.prog 59 #[.slice A0 l0.length c0] w fun e w' => ∃ v5_ : Value, e = .returned (.tuple #[.agg #[.int .i64 r1, .int .i64 r2, .int .i64 r3, .int .i64 r4, .int .i64 r5, v5_], .bool r7]) ∧ Kd.R (Kd.int .u8) 5 w' w.heap.size (fun _ => True) v5_ r6 ∧ Below w.heap.size w w' := by
  unfold cleromancyref44_Read.f at h
  split at h
  · rename_i hc
    have h2 := Option.some.inj h
    have hx := TpR.rread_any TpP.numR TpP.hexR (fun s w hs => Tm.cleromancyref37_Bytes.calls 300000 s false _ _ w (TpP.rbytes_eq s false hs 300000 (by omega)))
      (fun s w => Tm.cleromancyref44_Number.calls 300 s _ w (TpP.Number_eq s 300 (Nat.le_refl _))) A0 c0 l0 w hr0 hc0 hc.1 hc.2
    unfold tup at h2
    simp only [Prod.mk.injEq] at h2
    obtain ⟨e1, e2, e3, e4, e5, e6, e7⟩ := h2
    rw [← e1, ← e2, ← e3, ← e4, ← e5, ← e6, ← e7]
    exact hx
  · cases h
end Go.Proofs.YtpeebjnfmlfocaaDoor.Tp
