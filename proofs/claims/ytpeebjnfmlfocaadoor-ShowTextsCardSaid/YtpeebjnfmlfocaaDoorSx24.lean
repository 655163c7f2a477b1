/- ShowTexts: for any letter the law returns true and leaves it as it was; the tables are tied to the program's text. No condition. -/
import Derived.Test.YtpeebjnfmlfocaaDoorSx23
import Derived.Test.YtpeebjnfmlfocaaDoorRows
import Derived.WalkKit
import Derived.ProofKit
import Derived.OpenShut
import Derived.ShutString
import Derived.ChangeOld
import Derived.Below
import Derived.LaidMore
import Derived.Lay
import Derived.SizedLaws
import Derived.Lib.LaidTab
import Derived.Deep.Slices
import Derived.Stop.Joined
import Derived.Test.YtpeebjnfmlfocaaDoorCards
import Derived.Test.YtpeebjnfmlfocaaDoorTie
import Derived.SevenTiedAt
namespace Go.Proofs.YtpeebjnfmlfocaaDoor.ShD
open Go.ChangeShapes Go.WideShapes Go.ChangeAt Go.RowKit Go.Deep Go.Proofs.YtpeebjnfmlfocaaDoorW.PrintWords Go.Proofs.YtpeebjnfmlfocaaDoor.Sh
set_option linter.unusedVariables false
set_option linter.unusedSimpArgs false
set_option maxRecDepth 100000
theorem own : ownKnob Tryd.prog.godebug = none := by kernel_rfl
theorem laidOut : laidOutB Tryd.prog = true := by kernel_rfl
theorem laid_tail {P : Program} {W : World} {x : String × DataW Unit} {r : List (String × DataW Unit)} (h : laidMet P (x :: r) W) : laidMet P r W := by
  obtain ⟨ps, ⟨g, t, cs, fuel, p, q, _, _, _, _, hr, rfl⟩, hnd, hf⟩ := h
  exact ⟨q, hr, (List.nodup_append.1 hnd).2.1, fun b off hm => hf b off (List.mem_append_right _ hm)⟩
theorem gname : Tryd.prog.globalNamed "internal/strconv.uint64pow10" = some 2 := by kernel_rfl
theorem gtype : (Tryd.prog.globals[(2 : Nat)]?).map (·.type) = some 203 := by kernel_rfl
theorem datum : (Rows.laid_internal_strconv_uint64pow10 : DataW Unit) = Lib.tabData .u64 Lib.pow10Tab := by kernel_rfl
theorem tab_of {W : World} {r : List (String × DataW Unit)} (h : laidMet Tryd.prog (("internal/strconv.uint64pow10", Rows.laid_internal_strconv_uint64pow10) :: r) W) : Sh.Tab W := by
  rw [datum] at h
  exact Lib.tabIs_of_head gname gtype Tryd.underlying203 Tryd.underlying146 (by kernel_rfl) (by kernel_rfl) h
def IsRow (k : IntKind) (w : World) (a : Option Addr) (len cap : Nat) (zs : List Int) : Prop :=
  (a = none ∧ len = 0 ∧ cap = 0 ∧ zs = []) ∨
  ∃ x, a = some x ∧ len ≤ cap ∧ cap ≤ maxLen ∧ zs.length = cap ∧ (∀ i, i < zs.length → w.cell? (x.add i) = some (.int k (zs.getD i 0))) ∧ ∀ n ∈ zs, (Lit.int k n).wf = true
section
variable {H : Type} {enc : TypeId × Value → H} {W : World}
theorem open_bytes {fuel : Nat} {x : Value} {y : DataW H × List MemPlace}
    (hf : DataW.trod enc Tryd.prog W 0 (fun _ => true) true fuel 22 [x] = some y) :
    ∃ (A : Option Addr) (c : Nat) (l : List Int), x = .slice A l.length c ∧ (Kd.int .u8).C W A l.length l ∧ l.length ≤ c ∧ ∀ z ∈ l, 0 ≤ z ∧ z ≤ 255 := by
  obtain ⟨A, len, c, zs, rfl, w0⟩ : ∃ A len c zs, x = .slice A len c ∧ IsRow .u8 W A len c zs := by
    rcases open_ints Tryd.underlying22 Tryd.underlying5 (by kernel_rfl) hf with ⟨hcs, _⟩ | ⟨a, l, c, zs, hcs, _, hl, hm, hz, _, hcell, hwz⟩
    · exact ⟨none, 0, 0, [], List.singleton_inj.1 hcs, .inl ⟨rfl, rfl, rfl, rfl⟩⟩
    · exact ⟨some a, l, c, zs, List.singleton_inj.1 hcs, .inr ⟨_, rfl, hl, hm, by simpa using hz, hcell, hwz⟩⟩
  obtain ⟨l, rfl, hr, hm, hw, hc⟩ := ReadsInt.ofRowC w0
  refine ⟨A, c, l, rfl, Kd.C_of_reads (d := (0 : Int)) (h1 := fun _ => rfl) hr, hc, fun z hz => ?_⟩
  have := hw z hz
  simp [Lit.wf, IntKind.min, IntKind.max, IntKind.signed, IntKind.bits] at this
  omega
theorem open_rows {α : Type} (d : Kd α) (T e : TypeId) (sz : Nat) (hu : Tryd.prog.underlying T = some (.slice e)) (hce : Tryd.prog.cellsOf e = sz) (hsz : d.sz = sz) (z : α) (Q : α → Prop)
    (hel : ∀ (fuel : Nat) (cs : List Value) (y : DataW H × List MemPlace), DataW.trod enc Tryd.prog W 0 (fun _ => true) true fuel e cs = some y → ∃ x : α, d.K W x cs ∧ Q x)
    {fuel : Nat} {v : Value} {y : DataW H × List MemPlace} (hf : DataW.trod enc Tryd.prog W 0 (fun _ => true) true fuel T [v] = some y) :
    ∃ (A : Option Addr) (c : Nat) (l : List α), v = .slice A l.length c ∧ d.C W A l.length l ∧ l.length ≤ c ∧ l.length ≤ 9223372036854775807 ∧ ∀ x ∈ l, Q x := by
  rcases open_slice hu hf with ⟨hcs, _⟩ | ⟨a, len, cap, m, n, D, Pl, hcs, _, hl, hm, hmm, _, hi⟩
  · have e := List.singleton_inj.1 hcs
    subst e
    exact ⟨none, 0, [], rfl, ⟨rfl, Nat.zero_le _, fun h => absurd h (Nat.lt_irrefl 0)⟩, Nat.le_refl _, Nat.zero_le _, fun x hx => by cases hx⟩
  · have e := List.singleton_inj.1 hcs
    subst e
    have hmc : m = cap := by rw [hmm]; rfl
    have hel2 : ∀ i : Nat, ∃ x : α, i < len → (∃ cs, cs.length = sz ∧ d.K W x cs ∧ ∀ j u, cs[j]? = some u → W.cell? (a.add (i * sz + j)) = some u) ∧ Q x := by
      intro i
      by_cases hlt : i < len
      · obtain ⟨cs', hc, ht⟩ := hi i (by omega)
        obtain ⟨x, hK, hb⟩ := hel _ _ _ ht
        rw [hce] at hc
        obtain ⟨_, hcl, hat⟩ := World.cells?_some hc
        refine ⟨x, fun _ => ⟨⟨cs', hcl, hK, fun j u hu => ?_⟩, hb⟩⟩
        have hj : j < sz := by have := (List.getElem?_eq_some_iff.1 hu).1; omega
        have := hat j hj
        rw [Go.Deep.add_add] at this
        rw [this, hu]
      · exact ⟨z, fun h => absurd h hlt⟩
    refine ⟨some a, cap, (List.range len).map (fun i => Classical.choose (hel2 i)), by simp, ⟨by simp, ?_, fun h0 => ⟨a, rfl, fun j q hq => ?_⟩⟩, by simpa using hl, ?_, fun x hx => ?_⟩
    · simp; unfold maxLen at hm; omega
    · have hj : j < len := by have := (List.getElem?_eq_some_iff.1 hq).1; simpa using this
      have hqe : q = Classical.choose (hel2 j) := by
        rw [List.getElem?_map, List.getElem?_range hj] at hq
        exact (Option.some.inj hq).symm
      obtain ⟨⟨cs, h1, h2, h3⟩, _⟩ := Classical.choose_spec (hel2 j) hj
      rw [hqe]
      exact ⟨cs, by rw [hsz]; exact h1, h2, by rw [hsz]; exact h3⟩
    · simp; unfold maxLen at hm; omega
    · obtain ⟨i, hir, rfl⟩ := List.mem_map.1 hx
      exact (Classical.choose_spec (hel2 i) (List.mem_range.1 hir)).2
theorem kI : Tryd.prog.cellsOf 3 = 1 := by kernel_rfl
theorem kB : Tryd.prog.cellsOf 22 = 1 := by kernel_rfl
theorem kV : Tryd.prog.cellsOf 47 = 5 := by kernel_rfl
theorem kS : Tryd.prog.cellsOf 100 = 2 := by kernel_rfl
theorem kSS : Tryd.prog.cellsOf 94 = 1 := by kernel_rfl
theorem kC : Tryd.prog.cellsOf 96 = 4 := by kernel_rfl
theorem kE : Tryd.prog.cellsOf 98 = 9 := by kernel_rfl
theorem kEE : Tryd.prog.cellsOf 52 = 1 := by kernel_rfl
theorem kP : Tryd.prog.cellsOf 49 = 9 := by kernel_rfl
theorem kT : Tryd.prog.cellsOf 51 = 6 := by kernel_rfl
theorem kL : Tryd.prog.cellsOf 54 = 18 := by kernel_rfl
theorem open_val {fuel : Nat} {cs : List Value} {y : DataW H × List MemPlace} (hf : DataW.trod enc Tryd.prog W 0 (fun _ => true) true fuel 47 cs = some y) :
    ∃ (v : S47) (A3 : Option Addr) (c3 : Nat) (A4 : Option Addr) (c4 : Nat), cs = [.int .i64 v.f0, .int .i64 v.f1, .int .i64 v.f2, .slice A3 v.f3.length c3, .slice A4 v.f4.length c4] ∧ v.f3.length ≤ c3 ∧ (Kd.int .u8).C W A3 v.f3.length v.f3 ∧ v.f4.length ≤ c4 ∧ (Kd.int .u8).C W A4 v.f4.length v.f4 ∧ byB v.f3 ∧ byB v.f4 := by
  obtain ⟨xs, n, _, _, hlen, hxl, hg⟩ := DataW.trod_struct Tryd.underlying47 hf
  rw [kV] at hlen
  match cs, hlen with
  | [c0, c1, c2, c3, c4], _ =>
    match xs, hxl with
    | [y0, y1, y2, y3, y4], _ =>
      have i0 := hg 0 _ rfl
      have i1 := hg 1 _ rfl
      have i2 := hg 2 _ rfl
      have i3 := hg 3 _ rfl
      have i4 := hg 4 _ rfl
      simp only [kI, kB, List.drop_zero, List.drop_succ_cons, List.take_succ_cons, List.take_zero, List.getElem?_cons_zero, List.getElem?_cons_succ] at i0 i1 i2 i3 i4
      obtain ⟨n0, e0, _, _⟩ := DataW.trod_int Tryd.underlying3 i0
      obtain ⟨n1, e1, _, _⟩ := DataW.trod_int Tryd.underlying3 i1
      obtain ⟨n2, e2, _, _⟩ := DataW.trod_int Tryd.underlying3 i2
      obtain ⟨A3, a3, l3, rfl, g1, g2, g3⟩ := open_bytes i3
      obtain ⟨A4, a4, l4, rfl, h1, h2, h3⟩ := open_bytes i4
      rw [List.singleton_inj.1 e0, List.singleton_inj.1 e1, List.singleton_inj.1 e2]
      exact ⟨⟨n0, n1, n2, l3, l4⟩, A3, a3, A4, a4, rfl, g2, g1, h2, h1, g3, h3⟩
theorem open_sig {fuel : Nat} {cs : List Value} {y : DataW H × List MemPlace} (hf : DataW.trod enc Tryd.prog W 0 (fun _ => true) true fuel 100 cs = some y) :
    ∃ x : S100, k100.K W x cs ∧ byB x.f1 := by
  obtain ⟨xs, n, _, _, hlen, hxl, hg⟩ := DataW.trod_struct Tryd.underlying100 hf
  rw [kS] at hlen
  match cs, hlen with
  | [c0, c1], _ =>
    match xs, hxl with
    | [y0, y1], _ =>
      have i0 := hg 0 _ rfl
      have i1 := hg 1 _ rfl
      simp only [kI, kB, List.drop_zero, List.drop_succ_cons, List.take_succ_cons, List.take_zero, List.getElem?_cons_zero, List.getElem?_cons_succ] at i0 i1
      obtain ⟨n0, e0, _, _⟩ := DataW.trod_int Tryd.underlying3 i0
      obtain ⟨A1, a1, l1, rfl, g1, g2, g3⟩ := open_bytes i1
      rw [List.singleton_inj.1 e0]
      exact ⟨⟨n0, l1⟩, k100_mk W ⟨n0, l1⟩ g2 g1, g3⟩
theorem open_entry {fuel : Nat} {cs : List Value} {y : DataW H × List MemPlace} (hf : DataW.trod enc Tryd.prog W 0 (fun _ => true) true fuel 98 cs = some y) :
    ∃ x : S98, k98.K W x cs ∧ byE x ∧ x.f1.f3.length ≤ 9223372036854775807 := by
  obtain ⟨xs, n, _, _, hlen, hxl, hg⟩ := DataW.trod_struct Tryd.underlying98 hf
  rw [kE] at hlen
  match cs, hlen with
  | [c0, c1, c2, c3, c4, c5, c6, c7, c8], _ =>
    match xs, hxl with
    | [y0, y1], _ =>
      have i0 := hg 0 _ rfl
      have i1 := hg 1 _ rfl
      simp only [kV, kC, List.drop_zero, List.drop_succ_cons, List.take_succ_cons, List.take_zero, List.getElem?_cons_zero, List.getElem?_cons_succ] at i0 i1
      obtain ⟨v, A3, a3, A4, a4, ev, p1, p2, p3, p4, p5, p6⟩ := open_val (show DataW.trod enc Tryd.prog W 0 (fun _ => true) true n 47 [c0, c1, c2, c3, c4] = some y0 from i0)
      obtain ⟨zs, n2, _, _, hlen2, hzl, hg2⟩ := DataW.trod_struct Tryd.underlying96 (show DataW.trod enc Tryd.prog W 0 (fun _ => true) true n 96 [c5, c6, c7, c8] = some y1 from i1)
      match zs, hzl with
      | [w0, w1, w2, w3], _ =>
        have j0 := hg2 0 _ rfl
        have j1 := hg2 1 _ rfl
        have j2 := hg2 2 _ rfl
        have j3 := hg2 3 _ rfl
        simp only [kI, kB, kSS, List.drop_zero, List.drop_succ_cons, List.take_succ_cons, List.take_zero, List.getElem?_cons_zero, List.getElem?_cons_succ] at j0 j1 j2 j3
        obtain ⟨n0, e0, _, _⟩ := DataW.trod_int Tryd.underlying3 j0
        obtain ⟨n1, e1, _, _⟩ := DataW.trod_int Tryd.underlying3 j1
        obtain ⟨A7, a7, l7, rfl, g1, g2, g3⟩ := open_bytes j2
        obtain ⟨A8, a8, l8, rfl, h1, h2, h3, h4⟩ := open_rows k100 94 100 2 Tryd.underlying94 kS rfl z100 (fun s => byB s.f1) (fun _ _ _ h => open_sig h) j3
        simp only [List.cons.injEq, and_true] at ev
        obtain ⟨rfl, rfl, rfl, rfl, rfl⟩ := ev
        rw [List.singleton_inj.1 e0, List.singleton_inj.1 e1]
        exact ⟨⟨v, ⟨n0, n1, l7, l8⟩⟩, k98_mk W ⟨v, ⟨n0, n1, l7, l8⟩⟩ p1 p2 p3 p4 g2 g1 h2 h1, ⟨p5, p6, g3, h4⟩, h3⟩
theorem open_letter {base : Nat} {v : Value} {d : DataW H} {p : List MemPlace} (hv : Value.okWide Tryd.prog W .any base 54 v) (h : DataW.Trod enc Tryd.prog W 0 (fun _ => true) true 54 v d p) :
    ∃ (x : Let) (a : Ad), v = letV x a ∧ LetC W x a ∧ byL x ∧ ∀ e ∈ x.es, e.f1.f3.length ≤ 9223372036854775807 := by
  obtain ⟨cs0, rfl, hsz0⟩ := okWide_struct Tryd.underlying54 hv
  obtain ⟨fuel, hf0⟩ := h
  have hf : DataW.trod enc Tryd.prog W 0 (fun _ => true) true fuel 54 cs0.toList = some (d, p) := hf0
  obtain ⟨xs, n, _, _, hlen, hxl, hg⟩ := DataW.trod_struct Tryd.underlying54 hf
  rw [kL] at hlen
  obtain ⟨cs, hcs⟩ : ∃ cs, cs = cs0.toList := ⟨_, rfl⟩
  have hcs2 : cs0 = cs.toArray := by rw [hcs]
  rw [← hcs] at hlen hg
  rw [hcs2]
  clear hcs hcs2 hf hf0 hsz0 hv
  match cs, hlen with
  | [c0, c1, c2, c3, c4, c5, c6, c7, c8, c9, c10, c11, c12, c13, c14, c15, c16, c17], _ =>
    match xs, hxl with
    | [y0, y1, y2, y3, y4], _ =>
      have i0 := hg 0 _ rfl
      have i1 := hg 1 _ rfl
      have i2 := hg 2 _ rfl
      have i3 := hg 3 _ rfl
      have i4 := hg 4 _ rfl
      simp only [kI, kP, kT, kEE, List.drop_zero, List.drop_succ_cons, List.take_succ_cons, List.take_zero, List.getElem?_cons_zero, List.getElem?_cons_succ] at i0 i1 i2 i3 i4
      obtain ⟨m0, f0, _, _⟩ := DataW.trod_int Tryd.underlying3 i0
      obtain ⟨m16, f16, _, _⟩ := DataW.trod_int Tryd.underlying3 i3
      obtain ⟨A17, a17, l17, rfl, r1, r2, r3, r4⟩ := open_rows k98 52 98 9 Tryd.underlying52 kE rfl z98 (fun e => byE e ∧ e.f1.f3.length ≤ 9223372036854775807) (fun _ _ _ h => open_entry h) i4
      obtain ⟨ps, n1, _, _, hlen1, hpl, hg1⟩ := DataW.trod_struct Tryd.underlying49 (show DataW.trod enc Tryd.prog W 0 (fun _ => true) true n 49 [c1, c2, c3, c4, c5, c6, c7, c8, c9] = some y1 from i1)
      obtain ⟨ts, n2, _, _, hlen2, htl, hg2⟩ := DataW.trod_struct Tryd.underlying51 (show DataW.trod enc Tryd.prog W 0 (fun _ => true) true n 51 [c10, c11, c12, c13, c14, c15] = some y2 from i2)
      match ps, hpl with
      | [p0, p1, p2, p3, p4], _ =>
        have j0 := hg1 0 _ rfl
        have j1 := hg1 1 _ rfl
        have j2 := hg1 2 _ rfl
        have j3 := hg1 3 _ rfl
        have j4 := hg1 4 _ rfl
        simp only [kI, kB, kV, List.drop_zero, List.drop_succ_cons, List.take_succ_cons, List.take_zero, List.getElem?_cons_zero, List.getElem?_cons_succ] at j0 j1 j2 j3 j4
        obtain ⟨m1, f1, _, _⟩ := DataW.trod_int Tryd.underlying3 j0
        obtain ⟨m2, f2, _, _⟩ := DataW.trod_int Tryd.underlying3 j1
        obtain ⟨m3, f3, _, _⟩ := DataW.trod_int Tryd.underlying3 j2
        obtain ⟨v, A7, a7, A8, a8, ev, q1, q2, q3, q4, q5, q6⟩ := open_val (show DataW.trod enc Tryd.prog W 0 (fun _ => true) true n1 47 [c4, c5, c6, c7, c8] = some p3 from j3)
        obtain ⟨A9, a9, l9, rfl, g1, g2, g3⟩ := open_bytes j4
        match ts, htl with
        | [t0, t1, t2, t3, t4, t5], _ =>
          have b0 := hg2 0 _ rfl
          have b1 := hg2 1 _ rfl
          have b2 := hg2 2 _ rfl
          have b3 := hg2 3 _ rfl
          have b4 := hg2 4 _ rfl
          have b5 := hg2 5 _ rfl
          simp only [kI, kB, List.drop_zero, List.drop_succ_cons, List.take_succ_cons, List.take_zero, List.getElem?_cons_zero, List.getElem?_cons_succ] at b0 b1 b2 b3 b4 b5
          obtain ⟨m10, f10, _, _⟩ := DataW.trod_int Tryd.underlying3 b0
          obtain ⟨m11, f11, _, _⟩ := DataW.trod_int Tryd.underlying3 b1
          obtain ⟨m12, f12, _, _⟩ := DataW.trod_int Tryd.underlying3 b2
          obtain ⟨m13, f13, _, _⟩ := DataW.trod_int Tryd.underlying3 b3
          obtain ⟨A14, a14, l14, rfl, h1, h2, h3⟩ := open_bytes b4
          obtain ⟨A15, a15, l15, rfl, s1, s2, s3⟩ := open_bytes b5
          simp only [List.cons.injEq, and_true] at ev
          obtain ⟨rfl, rfl, rfl, rfl, rfl⟩ := ev
          rw [List.singleton_inj.1 f0, List.singleton_inj.1 f1, List.singleton_inj.1 f2, List.singleton_inj.1 f3, List.singleton_inj.1 f10, List.singleton_inj.1 f11, List.singleton_inj.1 f12, List.singleton_inj.1 f13, List.singleton_inj.1 f16]
          exact ⟨⟨m0, m1, m2, m3, v, l9, m10, m11, m12, m13, l14, l15, m16, l17⟩, ⟨A7, a7, A8, a8, A9, a9, A14, a14, A15, a15, A17, a17⟩, rfl, ⟨q2, q1, q4, q3, g1, g2, h1, h2, s1, s2, r1, r2⟩, ⟨q5, q6, g3, h3, s3, fun e he => (r4 e he).1⟩, fun e he => (r4 e he).2⟩
end
end Go.Proofs.YtpeebjnfmlfocaaDoor.ShD
namespace Go.Proofs.YtpeebjnfmlfocaaDoor.showTexts
open Go.ChangeShapes Go.WideShapes Go.ChangeAt Go.RowKit
open Go.Proofs.YtpeebjnfmlfocaaDoor.ShD
set_option linter.unusedVariables false
set_option maxRecDepth 100000
abbrev tab : List (String × DataW Unit) := Rows.showTextsRow.laid
set_option maxHeartbeats 1000000 in
theorem lifted (os : Os) (started : os.Started) (H : Type) (enc : TypeId × Value → H) :
    ReturnsInHanded {} Tryd.checked os 7 .any (fun w args => (Rows.showTextsSpec.pre enc Tryd.prog Tryd.f7 [] false w args ∧ laidMetH Tryd.prog tab w) ∧ sizedMet enc Tryd.prog Tryd.f7 (OpenSpec.ofChange Rows.showTextsSpec) false w args)
      (Rows.showTextsSpec.post enc Tryd.prog Tryd.f7 false true false false) := by
  refine returnsInHanded_of_change_and (C := Tryd.checked) (X := fun w _ => laidMetH Tryd.prog tab w) (fun _ _ _ hh h => h.of_heap hh) own started (by kernel_rfl) Tryd.func7
    (ChangeSpec.witness_shaped (enc := enc) (C := Tryd.checked) (os := os) (X := fun w _ => laidMetH Tryd.prog tab w) false (World.laidAll Tryd.prog os tab) #[Sh.letV Sh.x7 Sh.a7] 8 (World.laidAll_os _ _ _)
      (World.shaped_of_ZipB (by kernel_rfl) (by kernel_rfl)) (by kernel_rfl) (by kernel_rfl) (by kernel_rfl)
      (by rw [MakeChecks.laidMetH_plain _ _ _ (by kernel_rfl)]; exact laidMet_laidAll _ (by kernel_rfl) (by kernel_rfl))) ?_
  intro W base args ds gs before hval0 hW _ _ hL _
  have hval : ∀ (j : Nat) t v, Tryd.f7.params[j]? = some t → args[j]? = some v → Value.okWide Tryd.prog W .any base t v := hval0
  have hW' := hW
  obtain ⟨p, q, hA0, hV, rfl, hfz, hnd⟩ := hW
  have hA : DataW.TrodAll enc Tryd.prog W 0 (fun _ => true) true Tryd.f7.params.toList args.toList ds p := hA0
  rw [Tryd.params7] at hA hval
  obtain ⟨v0, vs0, d0, ds0, p0, q0, hargs, rfl, rfl, h0, r0⟩ := trodAll_cons hA
  obtain ⟨rfl, rfl, rfl⟩ := trodAll_nil r0
  obtain rfl : args = #[v0] := by cases args; simp_all
  obtain ⟨rfl, rfl⟩ := trodVars_none hV
  have k0 := h0
  have lt0 : ∀ x ∈ p0, x.block < W.heap.size := by obtain ⟨m, hm⟩ := k0; exact DataW.trod_lt m _ _ _ hm
  obtain ⟨x, a, rfl, hC0, hy0, hs0⟩ := open_letter (hval 0 54 v0 rfl rfl) h0
  have hT : Sh.Tab W := by
    rw [MakeChecks.laidMetH_plain _ _ _ (by kernel_rfl)] at hL
    exact tab_of (laid_tail (laid_tail hL))
  clear hA0 hval0
  refine (Sh.texts_walk x a W hT hC0 hy0 hs0).mono fun e W' ⟨he, bel⟩ => ?_
  subst he
  exact ⟨_, rfl, _, _, _, [], _, [], hW', trodAll_mk1 (shut_bool Tryd.underlying4 _), (trodAll_cons_mk (Below.trod laidOut (by kernel_rfl) (of_decide_eq_true (by kernel_rfl)) k0 bel lt0) trodAll_mk0), rfl, bel.frame _, fun h => by cases h⟩
theorem over : Rows.ShowTextsSaid :=
  OpenClaim.holds_of_wide 7 Tryd.f7 rfl rfl rfl rfl rfl rfl rfl ⟨rfl, rfl, rfl, rfl, rfl⟩ rfl rfl rfl rfl rfl (by kernel_rfl) Tryd.func7 (by kernel_rfl)
    (of_decide_eq_true (by kernel_rfl)) (by unfold Func.isWrapper; first | (rw [if_pos (by decide +kernel)]; kernel_rfl) | (rw [if_neg (by decide +kernel)]; exact ⟨rfl, rfl⟩))
    (fun os started H enc _ => lifted os started H enc)
end Go.Proofs.YtpeebjnfmlfocaaDoor.showTexts
namespace Go.Proofs.YtpeebjnfmlfocaaDoor
open Go
theorem showTexts_card : Rows.ShowTextsCardSaid :=
  Claim7.holds_tied_plain_at .later [] [.data, .data, .data] true (true, "88ad74f4235768ce2ee27f4660809d551552ad15cc6fba27e3a6463438547031") true
    showTexts.over (fun _ h => by cases h) (by kernel_rfl) (fun _ h => by cases h) showTexts_row_tie rfl ⟨rfl, rfl⟩ (by kernel_rfl) rfl
    (fun f fn hf hfn => by
      obtain rfl : f = 7 := Option.some.inj ((show Tryd.prog.funcNamed "cleromancy/cleromancylaw47.ShowTexts" = some 7 by kernel_rfl).symm.trans hf) |>.symm
      obtain rfl : fn = Tryd.f7 := (Option.some.inj (Tryd.func7.symm.trans hfn)).symm
      exact ⟨by kernel_rfl, fun j t ht => by
        rw [Tryd.params7] at ht
        have hm : t ∈ [54] := by simpa using Array.mem_of_getElem? ht
        have hall : ([54].all fun u => !Tryd.prog.wantsStandIn u) = true := by kernel_rfl
        exact (show Tryd.prog.wantsStandIn t = false by simpa using List.all_eq_true.1 hall t hm)⟩)
    (by kernel_rfl)
end Go.Proofs.YtpeebjnfmlfocaaDoor
