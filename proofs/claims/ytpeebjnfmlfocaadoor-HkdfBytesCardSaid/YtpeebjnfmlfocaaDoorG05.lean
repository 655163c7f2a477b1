/- The document's block of SHA-256 in the form in which the printed functions take it. Conditions: 8 words, 64 bytes. -/
import Derived.Test.YtpeebjnfmlfocaaDoorRBlk
import Derived.Test.YtpeebjnfmlfocaaDoorPBlk
namespace Go.UW
open Go Go.RowKit
def w32 (x : Int) : UInt32 := UInt32.ofNat x.toNat
theorem v32_w32 (x : Int) (h0 : 0 ≤ x) (h1 : x < 4294967296) : v32 (w32 x) = x := by
  unfold v32 w32
  rw [UInt32.toNat_ofNat_of_lt' (by show x.toNat < 4294967296; omega)]
  omega
theorem w32_v32 (x : UInt32) : w32 (v32 x) = x := by
  apply UInt32.toNat.inj
  unfold v32 w32
  rw [UInt32.toNat_ofNat_of_lt' (by rw [Int.toNat_natCast]; exact x.toNat_lt)]
  rfl
theorem v32_w32s (l : List Int) (h : ∀ x ∈ l, 0 ≤ x ∧ x < 4294967296) : (l.map w32).map v32 = l := by
  rw [List.map_map]
  conv => rhs; rw [← List.map_id l]
  exact List.map_congr_left fun x hx => v32_w32 x (h x hx).1 (h x hx).2
theorem w32_v32s (l : List UInt32) : (l.map v32).map w32 = l := by
  rw [List.map_map]
  conv => rhs; rw [← List.map_id l]
  exact List.map_congr_left fun x _ => w32_v32 x
end Go.UW
namespace Go.Proofs.YtpeebjnfmlfocaaDoor.Print
open Go.RowKit Go.UW Go.Proofs.YtpeebjnfmlfocaaDoorW.PrintWords Go.Proofs.YtpeebjnfmlfocaaDoorW.PrintLast Go.Proofs.YtpeebjnfmlfocaaDoorW.PrintMore
set_option linter.unusedVariables false

def cleromancyref05_block.f (k : Nat) (l0 : List Int) (l1 : List Int) : Option (List Int) :=
  if l0.length = 8 ∧ l1.length = 64 ∧ (∀ x ∈ l0, 0 ≤ x ∧ x < 4294967296) ∧ (∀ x ∈ l1, 0 ≤ x ∧ x ≤ 255) then some ((UW.block (l0.map w32) l1).map v32) else none
theorem cleromancyref05_block.mono : ∀ a0 a1 k, LeO (cleromancyref05_block.f k a0 a1) (cleromancyref05_block.f (k + 1) a0 a1) := fun _ _ _ _ h => h
theorem cleromancyref05_block.calls (k : Nat) (A0 : Option Addr) (c0 : Nat) (l0 : List Int) (A1 : Option Addr) (c1 : Nat) (l1 : List Int) (r : List Int) (w : World) (hr0 : Kd.C (Kd.int .u32) w A0 l0.length l0) (hc0 : l0.length ≤ c0) (hr1 : Kd.C (Kd.int .u8) w A1 l1.length l1) (hc1 : l1.length ≤ c1) (h : cleromancyref05_block.f k l0 l1 = some r) :
    Calls Tryd.prog 92 #[.slice A0 l0.length c0, .slice A1 l1.length c1] w fun e w' => ∃ v0_ : Value, e = .returned (v0_) ∧ Kd.R (Kd.int .u32) 142 w' w.heap.size (fun _ => True) v0_ r ∧ Below w.heap.size w w' := by
  unfold cleromancyref05_block.f at h
  split at h
  · rename_i hc
    obtain ⟨h0, h1, h2, h3⟩ := hc
    cases h
    rw [h0] at hr0 hc0 ⊢
    rw [h1] at hr1 hc1 ⊢
    rw [← v32_w32s l0 h2] at hr0
    have := Dig.rblock_any A0 c0 (l0.map w32) A1 c1 l1 w hr0 hc0 hr1 hc1 h3
    rw [rblock_eq (l0.map w32) l1 (by rw [List.length_map]; exact h0) h1 h3] at this
    exact this
  · cases h
end Go.Proofs.YtpeebjnfmlfocaaDoor.Print
