/- hex.digit at this program: the value of a digit, or -1. Condition: a byte in range. -/
import Derived.Test.YtpeebjnfmlfocaaDoorTh0
import Derived.LoopTactic
import Derived.Lib.Hide
import Derived.Laws.RangeString
namespace Go.Proofs.YtpeebjnfmlfocaaDoor.Th
open Go.RowKit Go.Proofs.YtpeebjnfmlfocaaDoorW.PrintWords Go.Proofs.YtpeebjnfmlfocaaDoorW.PrintLast Go.Proofs.YtpeebjnfmlfocaaDoorW.PrintMore
set_option linter.unusedVariables false

def hexD : ByteArray := ⟨#[48, 49, 50, 51, 52, 53, 54, 55, 56, 57, 97, 98, 99, 100, 101, 102]⟩
/-- a digit's byte -/
def dg (i : Int) : UInt8 := if h : i.toNat < hexD.size then hexD[i.toNat] else 0
theorem dg_at (i : Int) : ∀ h : i.toNat < hexD.size, hexD[i.toNat]'h = dg i := fun h => by simp [dg, h]
def digv (c : Int) : Int := if 48 ≤ c ∧ c ≤ 57 then c - 48 else if 97 ≤ c ∧ c ≤ 102 then c - 87 else -1
def hex_digit.f (c : Int) : Option Int := if 0 ≤ c ∧ c ≤ 255 then some (digv c) else none

theorem hexD_asc (p : Nat) (h : p < hexD.size) : (hexD[p]'h).toNat < 128 := by
  have : ∀ q : Fin 16, (hexD[q.1]'q.2).toNat < 128 := by decide
  exact this ⟨p, h⟩
theorem digv_hexD (p : Nat) (h : p < hexD.size) : digv ((hexD[p]'h).toNat : Int) = p := by
  have : ∀ q : Fin 16, digv ((hexD[q.1]'q.2).toNat : Int) = q.1 := by decide
  exact this ⟨p, h⟩
theorem digv_none (c : Int) (h : ∀ j, (hj : j < hexD.size) → ((hexD[j]'hj).toNat : Int) ≠ c) : digv c = -1 := by
  have h0 : (48 : Int) ≠ c := h 0 (by decide)
  have h1 : (49 : Int) ≠ c := h 1 (by decide)
  have h2 : (50 : Int) ≠ c := h 2 (by decide)
  have h3 : (51 : Int) ≠ c := h 3 (by decide)
  have h4 : (52 : Int) ≠ c := h 4 (by decide)
  have h5 : (53 : Int) ≠ c := h 5 (by decide)
  have h6 : (54 : Int) ≠ c := h 6 (by decide)
  have h7 : (55 : Int) ≠ c := h 7 (by decide)
  have h8 : (56 : Int) ≠ c := h 8 (by decide)
  have h9 : (57 : Int) ≠ c := h 9 (by decide)
  have ha : (97 : Int) ≠ c := h 10 (by decide)
  have hb : (98 : Int) ≠ c := h 11 (by decide)
  have hc : (99 : Int) ≠ c := h 12 (by decide)
  have hd : (100 : Int) ≠ c := h 13 (by decide)
  have he : (101 : Int) ≠ c := h 14 (by decide)
  have hf : (102 : Int) ≠ c := h 15 (by decide)
  unfold digv
  omega

set_option maxHeartbeats 1000000 in
set_option maxRecDepth 1000000 in
theorem hex_digit.calls (a0 : Int) (r : Int) (w : World) (h : hex_digit.f a0 = some r) :
    Calls Tryd.prog 155 #[.int .u8 a0] w fun e w' => e = .returned (.int .i64 r) ∧ Below w.heap.size w w' := by
  unfold hex_digit.f at h
  split at h
  · rename_i hb
    rw [Option.some.injEq] at h
    subst h
    obtain ⟨h0, h1⟩ := hb
    obtain ⟨S, hS⟩ : ∃ S, S = hexD := ⟨_, rfl⟩
    go_enter Tryd.func155, Tryd.ntmps155
    have HS : Hid (S = hexD) := hS
    unfold hexD at hS
    rw [← hS]
    clear hS
    have hsz : S.size = 16 := by rw [HS.out]; rfl
    go_wp2
    go_loopw [] (fun w' => ∃ pos : Nat, w' = w.iter S pos ∧ pos ≤ S.size ∧ Hid (∀ j, (hj : j < S.size) → j < pos → ((S[j]'hj).toNat : Int) ≠ a0)) (fun w' => S.size - w'.iterPos w.heap.size)
    case atStart => exact ⟨0, rfl, by omega, fun j _ hj => by omega⟩
    case round =>
      obtain ⟨pos, rfl, hp0, hall⟩ := hrel
      by_cases hp : pos < S.size
      · have hasc : (S[pos]'hp).toNat < 128 := by
          have := HS.out
          subst this
          exact hexD_asc pos hp
        have hnx : ∀ ty, (Instr.next (.pointer (some ⟨w.heap.size, 0, none⟩)) true ty).run Tryd.prog (w.iter S pos) = _ := fun ty => run_next_ascii w S pos ty hp hasc
        go_wp2
        · rename_i hit
          have hit' : ((S[pos]'hp).toNat : Int) = a0 := by simpa using hit
          go_ret
          have hd : digv a0 = pos := by
            have := HS.out
            subst this
            rw [← hit']
            exact digv_hexD pos hp
          exact ⟨by rw [hd]; rfl, (Below.refl _ _).alloc (Nat.le_refl _) _⟩
        · rename_i hit
          have hit' : ((S[pos]'hp).toNat : Int) ≠ a0 := by simpa using hit
          clear hit
          go_roundw
          case rel =>
            refine ⟨pos + 1, rfl, by omega, fun j hj hlt => ?_⟩
            rcases Nat.lt_or_ge j pos with h | h
            · exact hall.out j hj h
            · obtain rfl : j = pos := by omega
              exact hit'
          case measure =>
            simp
            omega
      · have hnx : ∀ ty, (Instr.next (.pointer (some ⟨w.heap.size, 0, none⟩)) true ty).run Tryd.prog (w.iter S pos) = _ := fun ty => run_next_end w S pos ty hp
        go_wp2
        go_ret
        have hd : digv a0 = -1 := by
          have := HS.out
          subst this
          exact digv_none a0 fun j hj => hall.out j hj (by omega)
        exact ⟨by rw [hd]; rfl, (Below.refl _ _).alloc (Nat.le_refl _) _⟩
  · simp at h

end Go.Proofs.YtpeebjnfmlfocaaDoor.Th
