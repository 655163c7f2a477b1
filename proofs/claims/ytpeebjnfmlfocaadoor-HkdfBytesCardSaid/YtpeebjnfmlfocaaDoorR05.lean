/- The document's block of SHA-256, step by step as its text takes it; its turn at this program. Condition: none but the lengths. -/
import Derived.Test.YtpeebjnfmlfocaaDoorEight
import Derived.Test.YtpeebjnfmlfocaaDoorK05
namespace Go.UW
open Go Go.RowKit

def rword (blk : List Int) (i : Nat) : Nat → UInt32
  | 0 => 0
  | j + 1 => rword blk i j * 256 + byte (blk.getD (4 * i + j) 0)
def rW (blk : List Int) (n : Nat) : List UInt32 := (List.range n).map fun i => rword blk i 4
def rSch (w : List UInt32) : Nat → List UInt32
  | 0 => w
  | k + 1 => let v := rSch w k
    v ++ [sg1 (v.getD (k + 14) 0) + v.getD (k + 9) 0 + sg0 (v.getD (k + 1) 0) + v.getD k 0]
def rAdd (s v : List UInt32) (n : Nat) : List UInt32 := (List.range n).map fun i => s.getD i 0 + v.getD i 0
def rblock (s : List UInt32) (blk : List Int) : List UInt32 := rAdd s (vR s (rSch (rW blk 16) 48) 64) 8
theorem rW_len (blk : List Int) (n : Nat) : (rW blk n).length = n := by simp [rW]
theorem rSch_len (w : List UInt32) (h : w.length = 16) (k : Nat) : (rSch w k).length = 16 + k := by
  induction k with
  | zero => exact h
  | succ k ih => simp [rSch, ih]; omega
theorem rAdd_len (s v : List UInt32) (n : Nat) : (rAdd s v n).length = n := by simp [rAdd]
end Go.UW
namespace Go.Proofs.YtpeebjnfmlfocaaDoor.Dig
open Go.RowKit Go.UW Go.Proofs.YtpeebjnfmlfocaaDoorW.PrintWords Go.Proofs.YtpeebjnfmlfocaaDoorW.PrintLast Go.Proofs.YtpeebjnfmlfocaaDoorW.PrintMore
set_option linter.unusedVariables false

theorem infoU32 : (Tryd.prog.info? 142).map (fun i => (i.zero, i.size, i.bytes)) = some (some (.int .u32 0), 1, 4) := by kernel_rfl

set_option maxHeartbeats 1000000 in
set_option maxRecDepth 100000 in
theorem rturn (x : UInt32) (n : Nat) (h1 : 1 ≤ n) (h2 : n ≤ 31) (w : World) :
    Calls Tryd.prog 125 #[.int .u32 (v32 x), .int .i64 (n : Int)] w fun e w' => e = .returned (.int .u32 (v32 (rotr x n))) ∧ Drawn0 w w' := by
  obtain ⟨m, hm⟩ : ∃ m : Nat, m + n = 32 := ⟨32 - n, by omega⟩
  have e2 : Op.shift .shl .u32 (v32 x) .i64 (m : Int) = pure (.int .u32 (v32 (x <<< UInt32.ofNat m))) := by
    rw [shift_shl _ _ _ _ (by omega) (by simp [IntKind.bits]; omega), Int.toNat_natCast, shl32 x m (by omega)]
  have e3 : IntKind.i64.wrap (32 - (n : Int)) = (m : Int) := by rw [IntWalk.i64_in _ (by omega)]; omega
  have e4 := shr32 x n (by omega)
  have e5 := bits_or32 (x >>> UInt32.ofNat n) (x <<< UInt32.ofNat m)
  have e6 : rotr x n = (x >>> UInt32.ofNat n) ||| (x <<< UInt32.ofNat m) := by unfold rotr; rw [show 32 - n = m by omega, UInt32.or_comm]
  rw [e6]
  have HM := Lib.hid hm
  clear hm e6
  go_enter Tryd.func125, Tryd.ntmps125
  go_wp2
  go_quiet (fail)
  clear e3
  go_wp2
  go_ret
  exact ⟨rfl, Drawn0.step (Drawn0.refl _) _⟩
theorem rturn_any (x : UInt32) (m : Int) (h1 : 1 ≤ m) (h2 : m ≤ 31) (w : World) :
    Calls Tryd.prog 125 #[.int .u32 (v32 x), .int .i64 m] w fun e w' => e = .returned (.int .u32 (v32 (rotr x m.toNat))) ∧ Drawn0 w w' := by
  obtain ⟨n, rfl⟩ : ∃ n : Nat, m = n := ⟨m.toNat, by omega⟩
  exact rturn x n (by omega) (by omega) w

theorem C_u32_at {w : World} {A : Option Addr} {n : Nat} {xs : List UInt32} (h : (Kd.int .u32).C w A n (xs.map v32)) (j : Nat) (hj : j < n) :
    ∃ ad, A = some ad ∧ w.cell? (ad.add j) = some (.int .u32 (v32 (xs.getD j 0))) := by
  have hl := Kd.C_len h
  rw [List.length_map] at hl
  obtain ⟨ad, e, hc⟩ := h.2.2 (by omega)
  refine ⟨ad, e, ?_⟩
  obtain ⟨cs, h1, h2, h3⟩ := hc j (v32 (xs.getD j 0)) (by simp [List.getD_eq_getElem?_getD, List.getElem?_eq_getElem (show j < xs.length by omega)])
  have h2' : cs = [.int .u32 (v32 (xs.getD j 0))] := h2
  subst h2'
  have h4 : w.cell? (ad.add (j * 1 + 0)) = some (.int .u32 (v32 (xs.getD j 0))) := h3 0 _ rfl
  simpa using h4
end Go.Proofs.YtpeebjnfmlfocaaDoor.Dig
