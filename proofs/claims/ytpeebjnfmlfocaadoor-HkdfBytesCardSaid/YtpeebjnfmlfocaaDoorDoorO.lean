/- Arguments of the door's rows, opened: bytes; two numbers of 16 bits. No condition. -/
import Derived.Test.YtpeebjnfmlfocaaDoorDoorK
namespace Go.Proofs.YtpeebjnfmlfocaaDoor.Door
open Go.ChangeShapes Go.WideShapes Go.ChangeAt Go.RowKit Go.UW Go.Proofs.YtpeebjnfmlfocaaDoorW.PrintWords
set_option linter.unusedVariables false
set_option maxRecDepth 100000

theorem open_bytes_arg {H : Type} {enc : TypeId × Value → H} {W : World} {base : Nat} {v : Value} {d : DataW H} {p : List MemPlace} (hv : Value.okWide Tryd.prog W .any base 22 v) (h : DataW.Trod enc Tryd.prog W 0 (fun _ => true) true 22 v d p) :
    ∃ (A : Option Addr) (c : Nat) (l : List Int), v = .slice A l.length c ∧ (Kd.int .u8).C W A l.length l ∧ l.length ≤ c ∧ ∀ z ∈ l, 0 ≤ z ∧ z ≤ 255 := by
  obtain ⟨a0, len0, cap0, rfl⟩ := okWide_slice Tryd.underlying22 hv
  obtain ⟨fuel, hf⟩ := h
  obtain ⟨A, len, c, zs, e, w0⟩ : ∃ A len c zs, Value.slice a0 len0 cap0 = .slice A len c ∧ IsRow .u8 W A len c zs := by
    rcases open_ints Tryd.underlying22 Tryd.underlying5 (by kernel_rfl) hf with ⟨hcs, _⟩ | ⟨a, l, c, zs, hcs, _, hl, hm, hz, _, hcell, hwz⟩
    · exact ⟨none, 0, 0, [], List.singleton_inj.1 hcs, .inl ⟨rfl, rfl, rfl, rfl⟩⟩
    · exact ⟨some a, l, c, zs, List.singleton_inj.1 hcs, .inr ⟨_, rfl, hl, hm, by simpa using hz, hcell, hwz⟩⟩
  rw [e]
  obtain ⟨l, rfl, hr, hm, hw, hc⟩ := ReadsInt.ofRowC w0
  refine ⟨A, c, l, rfl, Kd.C_of_reads (d := (0 : Int)) (h1 := fun _ => rfl) hr, hc, fun z hz => ?_⟩
  have := hw z hz
  simp [Lit.wf, IntKind.min, IntKind.max, IntKind.signed, IntKind.bits] at this
  omega

theorem cells31 : Tryd.prog.cellsOf 31 = 2 := by kernel_rfl
theorem cells30 : Tryd.prog.cellsOf 30 = 1 := by kernel_rfl
theorem open_two16 {H : Type} {enc : TypeId × Value → H} {W : World} {base : Nat} {v : Value} {d : DataW H} {p : List MemPlace} (hv : Value.okWide Tryd.prog W .any base 31 v) (h : DataW.Trod enc Tryd.prog W 0 (fun _ => true) true 31 v d p) :
    ∃ m n : Nat, v = .agg #[.int .u16 (m : Int), .int .u16 (n : Int)] ∧ m ≤ 65535 ∧ n ≤ 65535 := by
  simp only [Value.okWide, Tryd.underlying31] at hv
  obtain ⟨cs, rfl, hsz, _⟩ := hv
  rw [cells31] at hsz
  obtain ⟨fuel, hf⟩ := h
  obtain ⟨xs, m, _, _, _, hlen, hel⟩ := DataW.trod_array Tryd.underlying31 hf
  rw [cells30] at hel
  obtain ⟨l⟩ := cs
  have one : ∀ (a : Value) (y : DataW H × List MemPlace), DataW.trod enc Tryd.prog W 0 (fun _ => true) true m 30 [a] = some y → ∃ k : Nat, a = .int .u16 (k : Int) ∧ k ≤ 65535 := by
    intro a y hy
    obtain ⟨k, e1, _, e3⟩ := DataW.trod_int Tryd.underlying30 hy
    have hr : 0 ≤ k ∧ k ≤ 65535 := by
      simp [Lit.wf, IntKind.min, IntKind.max, IntKind.signed, IntKind.bits] at e3
      omega
    exact ⟨k.toNat, by rw [List.singleton_inj.1 e1]; congr 1; omega, by omega⟩
  match l, hsz with
  | [a, b], _ =>
    have e0 : DataW.trod enc Tryd.prog W 0 (fun _ => true) true m 30 [a] = xs[0]? := hel 0 (by decide)
    have e1 : DataW.trod enc Tryd.prog W 0 (fun _ => true) true m 30 [b] = xs[1]? := hel 1 (by decide)
    rw [List.getElem?_eq_getElem (by omega)] at e0 e1
    obtain ⟨k0, rfl, h0⟩ := one a _ e0
    obtain ⟨k1, rfl, h1⟩ := one b _ e1
    exact ⟨k0, k1, rfl, h0, h1⟩
end Go.Proofs.YtpeebjnfmlfocaaDoor.Door
