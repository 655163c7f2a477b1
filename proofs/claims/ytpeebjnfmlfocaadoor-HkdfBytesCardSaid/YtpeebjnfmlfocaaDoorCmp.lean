/- bytes.Compare and credit.Less at this program. Condition: none. -/
import Derived.Test.YtpeebjnfmlfocaaDoorQApp
import Derived.Lib.BytesEntry
import Derived.Lib.Bytealg
import Derived.Lib.Hide
import Derived.Handy
namespace Go.Proofs.YtpeebjnfmlfocaaDoor.Dig
open Go.RowKit Go.Proofs.YtpeebjnfmlfocaaDoorW.PrintWords
set_option linter.unusedVariables false

theorem run_bytesOf_sl {P : Program} {w : World} {A : Option Addr} {n c : Nat} {xs : List Int} (h : (Kd.int .u8).C w A n xs) :
    (Extern.Bytes.bytesOf (.slice A n c)).run P w = .ok ⟨(Lib.bytesOf xs).toArray⟩ w := by
  have hl := Kd.C_len h
  rcases Nat.eq_zero_or_pos n with h0 | h0
  · subst h0
    obtain rfl : xs = [] := List.eq_nil_of_length_eq_zero hl
    cases A with
    | none => rfl
    | some a => rfl
  · obtain ⟨ad, rfl, hcell⟩ := h.2.2 h0
    have := Lib.run_loadBytesX (P := P) (w := w) xs ad .empty (fun j x hj => by
      obtain ⟨cs, h1, h2, h3⟩ := hcell j x hj
      have h2' : cs = [.int .u8 x] := h2
      subst h2'
      have h4 : w.cell? (ad.add (j * 1 + 0)) = some (.int .u8 x) := h3 0 _ rfl
      simpa using h4)
    rw [hl] at this
    show (Extern.Bytes.loadBytes ad n .empty).run P w = _
    rw [this]
    congr 2
    simp

def cmpB (xs ys : List Int) : Int := Lib.compareBytes (Lib.bytesOf xs) (Lib.bytesOf ys)

theorem run_compareSl {P : Program} {w : World} {A B : Option Addr} {n c m d : Nat} {xs ys : List Int} (h : (Kd.int .u8).C w A n xs) (h2 : (Kd.int .u8).C w B m ys) :
    (Extern.BytealgCompare.compare #[.slice A n c, .slice B m d]).run P w = .ok (.int .i64 (cmpB xs ys)) w := by
  change Sem.run P (do pure (goInt (Extern.BytealgCompare.cmp (← Extern.Bytes.bytesOf (.slice A n c)) (← Extern.Bytes.bytesOf (.slice B m d))))) w = _
  simp only [Sem.run_bind, Sem.run_pure, run_bytesOf_sl h, run_bytesOf_sl h2, Result.andThen]
  rw [Lib.cmp_eq]
  rfl

set_option maxHeartbeats 1000000 in
set_option maxRecDepth 100000 in
theorem compare_any (w : World) (A B : Option Addr) (n c m d : Nat) (xs ys : List Int) (h : (Kd.int .u8).C w A n xs) (h2 : (Kd.int .u8).C w B m ys) :
    Calls Tryd.prog 44 #[.slice A n c, .slice B m d] w fun e w' => e = .returned (.int .i64 (cmpB xs ys)) ∧ w' = w := by
  have H1 := Lib.hid h
  have H2 := Lib.hid h2
  clear h h2
  go_enter Tryd.func44, Tryd.ntmps44
  go_wp2
  rw [run_callFunc_extern Tryd.func88 (by kernel_rfl) (by kernel_rfl) (by kernel_rfl) (e := Extern.BytealgCompare.compare) (by kernel_rfl), run_compareSl H1.out H2.out]
  simp only [Result.andThen]
  rw [Oper.upon_value]
  go_wp2
  go_ret
  exact ⟨rfl, rfl⟩

def lessB (xs ys : List Int) : Bool := decide (cmpB xs ys < 0)

set_option maxHeartbeats 1000000 in
set_option maxRecDepth 100000 in
theorem less_any (w : World) (A B : Option Addr) (n c m d : Nat) (xs ys : List Int) (h : (Kd.int .u8).C w A n xs) (h2 : (Kd.int .u8).C w B m ys) :
    Calls Tryd.prog 15 #[.slice A n c, .slice B m d] w fun e w' => e = .returned (.bool (lessB xs ys)) ∧ w' = w := by
  have H1 := Lib.hid h
  have H2 := Lib.hid h2
  clear h h2
  go_enter Tryd.func15, Tryd.ntmps15
  go_wp2_with (go_at_call 44; (with_reducible refine (compare_any _ _ _ _ _ _ _ xs ys H1.out H2.out).mono ?_); rintro e w' ⟨rfl, rfl⟩)
  go_ret
  exact ⟨by simp [lessB], rfl⟩
end Go.Proofs.YtpeebjnfmlfocaaDoor.Dig
