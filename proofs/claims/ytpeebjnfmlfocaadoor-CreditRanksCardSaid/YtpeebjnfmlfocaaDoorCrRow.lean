/- CreditRanks: for every input the law returns true and leaves it as it was; the table of constants is tied to the program's text. No condition. -/
import Derived.Test.YtpeebjnfmlfocaaDoorCrWalk
import Derived.Test.YtpeebjnfmlfocaaDoorDoorK
import Derived.Test.YtpeebjnfmlfocaaDoorCards
import Derived.Test.YtpeebjnfmlfocaaDoorTie
import Derived.SevenTiedAt
namespace Go.Proofs.YtpeebjnfmlfocaaDoor.creditRanks
open Go.ChangeShapes Go.WideShapes Go.ChangeAt Go.RowKit Go.UW Go.Proofs.YtpeebjnfmlfocaaDoor.Door Go.Proofs.YtpeebjnfmlfocaaDoorW.PrintWords
set_option linter.unusedVariables false
set_option maxRecDepth 100000

set_option maxRecDepth 100000 in
/-- A slice of bytes as the reader reads it, as the walk wants it. -/
theorem open_bytes {H : Type} {enc : TypeId × Value → H} {W : World} {fuel : Nat} {x : Value} {y : DataW H × List MemPlace}
    (hf : DataW.trod enc Tryd.prog W 0 (fun _ => true) true fuel 22 [x] = some y) :
    ∃ (A : Option Addr) (c : Nat) (l : List Int), x = .slice A l.length c ∧ (Kd.int .u8).C W A l.length l ∧ l.length ≤ c ∧ ∀ z ∈ l, 0 ≤ z ∧ z ≤ 255 := by
  obtain ⟨A, len, c, zs, rfl, w0⟩ : ∃ A len c zs, x = .slice A len c ∧ IsRow .u8 W A len c zs := by
    rcases open_ints Tryd.underlying22 Tryd.underlying5 (by kernel_rfl) hf with ⟨hcs, _⟩ | ⟨a, l, c, zs, hcs, _, hl, hm, hz, _, hcell, hwz⟩
    · exact ⟨none, 0, 0, [], List.singleton_inj.1 hcs, .inl ⟨rfl, rfl, rfl, rfl⟩⟩
    · exact ⟨some a, l, c, zs, List.singleton_inj.1 hcs, .inr ⟨_, rfl, hl, hm, by simpa using hz, hcell, hwz⟩⟩
  obtain ⟨l, rfl, hr, hm, hw, hc⟩ := ReadsInt.ofRowC w0
  refine ⟨A, c, l, rfl, Kd.C_of_reads (d := (0 : Int)) (h1 := fun _ => rfl) hr, hc, fun z hz => ?_⟩
  have := hw z hz
  simp [Lit.wf, IntKind.min, IntKind.max, IntKind.signed, IntKind.bits] at this
  omega

theorem cells23 : Tryd.prog.cellsOf 23 = 2 := by kernel_rfl
theorem cells22 : Tryd.prog.cellsOf 22 = 1 := by kernel_rfl
set_option maxRecDepth 100000 in
theorem open_two {H : Type} {enc : TypeId × Value → H} {W : World} {base : Nat} {v : Value} {d : DataW H} {p : List MemPlace} (hv : Value.okWide Tryd.prog W .any base 23 v) (h : DataW.Trod enc Tryd.prog W 0 (fun _ => true) true 23 v d p) :
    ∃ (A0 : Option Addr) (c0 : Nat) (z0 : List Int) (A1 : Option Addr) (c1 : Nat) (z1 : List Int), v = .agg #[.slice A0 z0.length c0, .slice A1 z1.length c1] ∧ (Kd.int .u8).C W A0 z0.length z0 ∧ z0.length ≤ c0 ∧ (∀ x ∈ z0, 0 ≤ x ∧ x ≤ 255) ∧ (Kd.int .u8).C W A1 z1.length z1 ∧ z1.length ≤ c1 ∧ ∀ x ∈ z1, 0 ≤ x ∧ x ≤ 255 := by
  simp only [Value.okWide, Tryd.underlying23] at hv
  obtain ⟨cs, rfl, hsz, _⟩ := hv
  rw [cells23] at hsz
  obtain ⟨fuel, hf⟩ := h
  obtain ⟨xs, m, _, _, _, hlen, hel⟩ := DataW.trod_array Tryd.underlying23 hf
  rw [cells22] at hel
  obtain ⟨l⟩ := cs
  match l, hsz with
  | [a, b], _ =>
    have e0 : DataW.trod enc Tryd.prog W 0 (fun _ => true) true m 22 [a] = xs[0]? := hel 0 (by decide)
    have e1 : DataW.trod enc Tryd.prog W 0 (fun _ => true) true m 22 [b] = xs[1]? := hel 1 (by decide)
    rw [List.getElem?_eq_getElem (by omega)] at e0 e1
    obtain ⟨A0, c0, z0, rfl, g1, g2, g3⟩ := open_bytes (x := a) e0
    obtain ⟨A1, c1, z1, rfl, g4, g5, g6⟩ := open_bytes (x := b) e1
    exact ⟨A0, c0, z0, A1, c1, z1, rfl, g1, g2, g3, g4, g5, g6⟩

set_option maxHeartbeats 1000000 in
set_option maxRecDepth 100000 in
theorem lifted (os : Os) (started : os.Started) (H : Type) (enc : TypeId × Value → H) :
    ReturnsInHanded {} Tryd.checked os 3 .any (fun w args => (Rows.creditRanksSpec.pre enc Tryd.prog Tryd.f3 [] false w args ∧ laidMetH Tryd.prog tab w) ∧ sizedMet enc Tryd.prog Tryd.f3 (OpenSpec.ofChange Rows.creditRanksSpec) false w args)
      (Rows.creditRanksSpec.post enc Tryd.prog Tryd.f3 false true false false) := by
  refine returnsInHanded_of_change_and (C := Tryd.checked) (X := fun w _ => laidMetH Tryd.prog tab w) (fun _ _ _ hh h => h.of_heap hh) own started (by kernel_rfl) Tryd.func3
    (ChangeSpec.witness_shaped (enc := enc) (C := Tryd.checked) (os := os) (X := fun w _ => laidMetH Tryd.prog tab w) false (World.doorLaid Tryd.prog 39 os) #[.agg #[.slice none 0 0, .slice none 0 0], .int .i64 0, .int .i64 0] 8 rfl (World.shaped_of_RefB (by kernel_rfl) (by kernel_rfl)) (by kernel_rfl) (by kernel_rfl) (by kernel_rfl) (door_met os _)) ?_
  intro W base args ds gs before hval0 hW _ _ hL _
  have hval : ∀ (j : Nat) t v, Tryd.f3.params[j]? = some t → args[j]? = some v → Value.okWide Tryd.prog W .any base t v := hval0
  have hW' := hW
  obtain ⟨p, q, hA0, hV, rfl, hfz, hnd⟩ := hW
  have hA : DataW.TrodAll enc Tryd.prog W 0 (fun _ => true) true Tryd.f3.params.toList args.toList ds p := hA0
  rw [Tryd.params3] at hA hval
  obtain ⟨v0, vs0, d0, ds0, p0, q0, hargs, rfl, rfl, h0, r0⟩ := trodAll_cons hA
  obtain ⟨v1, vs1, d1, ds1, p1, q1, rfl, rfl, rfl, h1, r1⟩ := trodAll_cons r0
  obtain ⟨v2, vs2, d2, ds2, p2, q2, rfl, rfl, rfl, h2, r2⟩ := trodAll_cons r1
  obtain ⟨rfl, rfl, rfl⟩ := trodAll_nil r2
  obtain rfl : args = #[v0, v1, v2] := by cases args; simp_all
  obtain ⟨rfl, rfl⟩ := trodVars_none hV
  have k0 := h0
  have lt0 : ∀ x ∈ p0, x.block < W.heap.size := by obtain ⟨m, hm⟩ := k0; exact DataW.trod_lt m _ _ _ hm
  obtain ⟨A0, c0, z0, A1, c1, z1, rfl, hC0, hc0, hy0, hC1, hc1, hy1⟩ := open_two (hval 0 23 v0 rfl rfl) h0
  obtain ⟨a1, rfl, rfl, rfl, w1⟩ := open_int Tryd.underlying3 (hval 1 3 v1 rfl rfl) h1
  obtain ⟨a2, rfl, rfl, rfl, w2⟩ := open_int Tryd.underlying3 (hval 2 3 v2 rfl rfl) h2
  have hr : a1 < 9223372036854775808 := by
    have := w1
    simp [Lit.wf, IntKind.min, IntKind.max, IntKind.signed, IntKind.bits] at this
    omega
  clear hA0 hval0
  refine (Dig.credit_walk A0 c0 z0 A1 c1 z1 a1 a2 W (glob_of_laid hL) hC0 hc0 hy0 hC1 hc1 hy1 hr).mono fun e W' ⟨he, bel⟩ => ?_
  subst he
  exact ⟨_, rfl, _, _, _, [], _, [], hW', trodAll_mk1 (shut_bool Tryd.underlying4 _), (trodAll_cons_mk (Below.trod laidOut (by kernel_rfl) (of_decide_eq_true (by kernel_rfl)) k0 bel lt0) (trodAll_cons_mk (shut_int Tryd.underlying3 w1) (trodAll_cons_mk (shut_int Tryd.underlying3 w2) trodAll_mk0))), rfl, bel.frame _, fun h => by cases h⟩

theorem over : Rows.CreditRanksSaid :=
  OpenClaim.holds_of_wide 3 Tryd.f3 rfl rfl rfl rfl rfl rfl rfl ⟨rfl, rfl, rfl, rfl, rfl⟩ rfl rfl rfl rfl rfl (by kernel_rfl) Tryd.func3 (by kernel_rfl)
    (of_decide_eq_true (by kernel_rfl)) (by unfold Func.isWrapper; first | (rw [if_pos (by decide +kernel)]; kernel_rfl) | (rw [if_neg (by decide +kernel)]; exact ⟨rfl, rfl⟩))
    (fun os started H enc _ => lifted os started H enc)
end Go.Proofs.YtpeebjnfmlfocaaDoor.creditRanks
namespace Go.Proofs.YtpeebjnfmlfocaaDoor
open Go
theorem creditRanks_card : Rows.CreditRanksCardSaid :=
  Claim7.holds_tied_plain_at .later [] [.data] true (true, "88ad74f4235768ce2ee27f4660809d551552ad15cc6fba27e3a6463438547031") true
    creditRanks.over (fun _ h => by cases h) (by kernel_rfl) (fun _ h => by cases h) creditRanks_row_tie rfl ⟨rfl, rfl⟩ (by kernel_rfl) rfl
    (fun f fn hf hfn => by
      obtain rfl : f = 3 := Option.some.inj ((show Tryd.prog.funcNamed "cleromancy/cleromancylaw21.CreditRanks" = some 3 by kernel_rfl).symm.trans hf) |>.symm
      obtain rfl : fn = Tryd.f3 := (Option.some.inj (Tryd.func3.symm.trans hfn)).symm
      exact ⟨by kernel_rfl, fun j t ht => by
        rw [Tryd.params3] at ht
        have hm : t ∈ [23, 3, 3] := by simpa using Array.mem_of_getElem? ht
        have hall : ([23, 3, 3].all fun u => !Tryd.prog.wantsStandIn u) = true := by kernel_rfl
        exact (show Tryd.prog.wantsStandIn t = false by simpa using List.all_eq_true.1 hall t hm)⟩)
    (by kernel_rfl)
#print axioms creditRanks_card
end Go.Proofs.YtpeebjnfmlfocaaDoor
