/- Deeds printed and parsed again; deeds parsed are printable. Plain, no condition. -/
import Derived.Test.YtpeebjnfmlfocaaDoorZB11
import Derived.Test.YtpeebjnfmlfocaaDoorZB07
import Derived.Test.YtpeebjnfmlfocaaDoorRows
import Derived.WalkKit
import Derived.ProofKit
import Derived.OpenShut
import Derived.ShutString
import Derived.ChangeOld
import Derived.Below
import Derived.LaidMore
import Derived.Lay
import Derived.SizedLaws
import Derived.Lib.LaidTab
import Derived.Deep.Slices
import Derived.Stop.Joined
namespace Go.Proofs.YtpeebjnfmlfocaaDoor.TpP
open Go.RowKit Go.Proofs.YtpeebjnfmlfocaaDoorW.PrintWords Go.Proofs.YtpeebjnfmlfocaaDoorW.PrintLast Go.Proofs.YtpeebjnfmlfocaaDoorW.PrintMore Go.Proofs.YtpeebjnfmlfocaaDoor.Tp Go.Proofs.YtpeebjnfmlfocaaDoor.TpR Go.Proofs.YtpeebjnfmlfocaaDoor.Th
set_option linter.unusedVariables false
theorem same01_l0 (l : List Int) (hl : l.length ≤ 1000000) (d : Nat) : ∀ (k i : Nat), i + d = l.length → d < k → cleromancyref01_Same.l0 k l l (i : Int) = some true := by
  induction d with
  | zero =>
    intro k i hi hk
    obtain ⟨k, rfl⟩ : ∃ m, k = m + 1 := ⟨k - 1, by omega⟩
    simp only [cleromancyref01_Same.l0]
    rw [if_neg (by omega)]
  | succ d ih =>
    intro k i hi hk
    obtain ⟨k, rfl⟩ : ∃ m, k = m + 1 := ⟨k - 1, by omega⟩
    have hw : wrap64 ((i : Int) + 1) = ((i + 1 : Nat) : Int) := by rw [IntWalk.wrap64_in _ (by omega)]; omega
    simp only [cleromancyref01_Same.l0]
    rw [if_pos (by omega), if_pos (by omega), if_pos (by omega), if_pos trivial, hw]
    exact ih k (i + 1) (by omega) (by omega)
theorem same01 (l : List Int) (hl : l.length ≤ 1000000) (k : Nat) (hk : 1000000 < k) : cleromancyref01_Same.f k l l = some true := by
  unfold cleromancyref01_Same.f
  rw [if_pos rfl]
  exact same01_l0 l hl l.length k 0 (by omega) (by omega)
theorem same44 (a b c d e : Int) (l : List Int) (hl : l.length ≤ 1000000) (k : Nat) (hk : 1000000 < k) : cleromancyref44_Same.f k a b c d e l a b c d e l = some true := by
  unfold cleromancyref44_Same.f
  rw [if_pos rfl, if_pos rfl, if_pos rfl, if_pos rfl, if_pos rfl, same01 l hl k hk]
  rfl
theorem sameL_l0 (l : List S63) (hl : l.length ≤ 1000000) (hb : ∀ x ∈ l, x.f5.length ≤ 1000000) (d : Nat) : ∀ (k i : Nat), i + d = l.length → d + 1000001 < k → cleromancylaw44_Same.l0 k l l (l.length : Int) (i : Int) = some true := by
  induction d with
  | zero =>
    intro k i hi hk
    obtain ⟨k, rfl⟩ : ∃ m, k = m + 1 := ⟨k - 1, by omega⟩
    simp only [cleromancylaw44_Same.l0]
    rw [if_neg (by omega)]
  | succ d ih =>
    intro k i hi hk
    obtain ⟨k, rfl⟩ : ∃ m, k = m + 1 := ⟨k - 1, by omega⟩
    have hw : wrap64 ((i : Int) + 1) = ((i + 1 : Nat) : Int) := by rw [IntWalk.wrap64_in _ (by omega)]; omega
    have hr : rd_T63 l (i : Int) = l[i]'(by omega) := by
      unfold rd_T63
      rw [Int.toNat_natCast, List.getD_eq_getElem?_getD, List.getElem?_eq_getElem (by omega)]
      rfl
    simp only [cleromancylaw44_Same.l0]
    rw [if_pos (by omega), if_pos (by omega), if_pos (by omega), if_pos (by omega), hr, same44 _ _ _ _ _ _ (hb _ (List.getElem_mem _)) k (by omega), Option.bind_some, if_pos rfl, hw]
    exact ih k (i + 1) (by omega) (by omega)
theorem sameL (l : List S63) (hl : l.length ≤ 1000000) (hb : ∀ x ∈ l, x.f5.length ≤ 1000000) (k : Nat) (hk : 3000000 ≤ k) : cleromancylaw44_Same.f k l l = some true := by
  unfold cleromancylaw44_Same.f
  rw [if_pos rfl]
  exact sameL_l0 l hl hb l.length k 0 (by omega) (by omega)
def awT : List UInt8 := [116, 105, 99, 107, 32, 48, 32, 53, 32, 35, 32, 102, 105, 118, 101, 32, 108, 97, 116, 101, 114]
theorem numO0 : numO (mk [48]) = some 0 := by unfold numO; rw [if_neg (by rw [mk_size]; simp)]; rfl
theorem numO5 : numO (mk [53]) = some 5 := by unfold numO; rw [if_neg (by rw [mk_size]; simp)]; rfl
theorem aw_lines : linesP awT [] = [awT] := by decide +kernel
theorem aw_words : wds awT [] = [[116, 105, 99, 107], [48], [53]] := by decide +kernel
theorem aw_read : readF numT hexT [mk [116, 105, 99, 107], mk [48], mk [53]] = (4, setF (setF zeroF 1 0) 3 5, [], true) := by
  unfold readF
  rw [List.getD_cons_zero, List.tail_cons, hit_eq, mk_toList, if_neg (by decide), if_neg (by decide), if_neg (by decide), if_pos rfl]
  unfold readAt
  rw [if_neg (by decide), show fN 3 = 2 from rfl, partsF, partsF, partsF]
  have e0 : [mk [48], mk [53]].getD 0 ByteArray.empty = mk [48] := rfl
  have e1 : [mk [48], mk [53]].getD (0 + 1) ByteArray.empty = mk [53] := rfl
  rw [e0, e1, numT_eq, numT_eq, numO0, numO5, if_pos (show (resT (some 0)).2 = true from rfl), if_pos (show (resT (some 5)).2 = true from rfl)]
  show doneF hexT 3 [mk [48], mk [53]] _ = _
  rw [doneF, if_neg (by decide)]
  rfl
theorem aw_go : goT [awT] 0 [] = ([⟨4, 0, 0, 5, 0, []⟩], 0, 0) := by
  have hw : wl awT = [mk [116, 105, 99, 107], mk [48], mk [53]] := by unfold wl; rw [aw_words]; rfl
  rw [goT, hw, if_neg (by simp), aw_read, if_pos rfl, goT]
  rfl
theorem awake_eq (k : Nat) (hk : 30000 ≤ k) : cleromancylaw44_awake.f k = some true := by
  have h := tParse_eq (mk awT) (by rw [mk_size]; decide) k hk
  rw [mk_list, aw_lines, aw_go] at h
  unfold cleromancylaw44_awake.f
  rw [show (⟨#[116, 105, 99, 107, 32, 48, 32, 53, 32, 35, 32, 102, 105, 118, 101, 32, 108, 97, 116, 101, 114]⟩ : ByteArray) = mk awT from rfl, h, Option.bind_some, if_pos rfl, if_pos rfl]
  simp [rd_T63]
end Go.Proofs.YtpeebjnfmlfocaaDoor.TpP
namespace Go.Proofs.YtpeebjnfmlfocaaDoor.Tp
open Go.RowKit Go.Proofs.YtpeebjnfmlfocaaDoorW.PrintWords Go.Proofs.YtpeebjnfmlfocaaDoorW.PrintLast Go.Proofs.YtpeebjnfmlfocaaDoorW.PrintMore
set_option linter.unusedVariables false
def smallB (l : List S63) : Bool := l.all (fun x => decide (x.f5.length ≤ 200)) && decide (l.length ≤ 40)
theorem small_l0 (l : List S63) (hl : l.length ≤ 9223372036854775807) (d : Nat) : ∀ (k i : Nat), i + d = l.length → d < k →
    cleromancylaw44_small.l0 k l l (l.length : Int) (i : Int) = some ((l.drop i).all (fun x => decide (x.f5.length ≤ 200)) && decide (l.length ≤ 40)) := by
  induction d with
  | zero =>
    intro k i hi hk
    obtain ⟨k, rfl⟩ : ∃ m, k = m + 1 := ⟨k - 1, by omega⟩
    rw [cleromancylaw44_small.l0, if_neg (by omega), List.drop_eq_nil_of_le (by omega)]
    simp only [List.all_nil, Bool.true_and, Option.some.injEq]
    exact decide_eq_decide.2 (by omega)
  | succ d ih =>
    intro k i hi hk
    obtain ⟨k, rfl⟩ : ∃ m, k = m + 1 := ⟨k - 1, by omega⟩
    have hw : wrap64 ((i : Int) + 1) = ((i + 1 : Nat) : Int) := by rw [IntWalk.wrap64_in _ (by omega)]; omega
    have hr : rd_T63 l (i : Int) = l[i]'(by omega) := by
      unfold rd_T63
      rw [Int.toNat_natCast, List.getD_eq_getElem?_getD, List.getElem?_eq_getElem (by omega)]
      rfl
    rw [cleromancylaw44_small.l0, if_pos (by omega), if_pos (by omega), if_pos (by omega), hr, List.drop_eq_getElem_cons (by omega), List.all_cons]
    by_cases h : l[i].f5.length ≤ 200
    · rw [if_neg (by omega), hw, ih k (i + 1) (by omega) (by omega)]
      simp [h]
    · rw [if_pos (by omega)]
      simp [h]
theorem small_f (l : List S63) (hl : l.length ≤ 9223372036854775807) : cleromancylaw44_small.f (l.length + 1) l = some (smallB l) :=
  small_l0 l hl l.length (l.length + 1) 0 (by omega) (by omega)
end Go.Proofs.YtpeebjnfmlfocaaDoor.Tp
namespace Go.Proofs.YtpeebjnfmlfocaaDoor.TpD
open Go.ChangeShapes Go.WideShapes Go.ChangeAt Go.RowKit Go.Deep Go.Proofs.YtpeebjnfmlfocaaDoorW.PrintWords Go.Proofs.YtpeebjnfmlfocaaDoor.Tp
set_option linter.unusedVariables false
set_option linter.unusedSimpArgs false
set_option maxRecDepth 100000
theorem own : ownKnob Tryd.prog.godebug = none := by kernel_rfl
theorem laidOut : laidOutB Tryd.prog = true := by kernel_rfl
theorem laid_tail {P : Program} {W : World} {x : String × DataW Unit} {r : List (String × DataW Unit)} (h : laidMet P (x :: r) W) : laidMet P r W := by
  obtain ⟨ps, ⟨g, t, cs, fuel, p, q, _, _, _, _, hr, rfl⟩, hnd, hf⟩ := h
  exact ⟨q, hr, (List.nodup_append.1 hnd).2.1, fun b off hm => hf b off (List.mem_append_right _ hm)⟩
theorem gname : Tryd.prog.globalNamed "internal/strconv.uint64pow10" = some 2 := by kernel_rfl
theorem gtype : (Tryd.prog.globals[(2 : Nat)]?).map (·.type) = some 203 := by kernel_rfl
theorem datum : (Rows.laid_internal_strconv_uint64pow10 : DataW Unit) = Lib.tabData .u64 Lib.pow10Tab := by kernel_rfl
theorem tab_of {W : World} {r : List (String × DataW Unit)} (h : laidMet Tryd.prog (("internal/strconv.uint64pow10", Rows.laid_internal_strconv_uint64pow10) :: r) W) : TpR.Tab W := by
  rw [datum] at h
  exact Lib.tabIs_of_head gname gtype Tryd.underlying203 Tryd.underlying146 (by kernel_rfl) (by kernel_rfl) h
def IsRow (k : IntKind) (w : World) (a : Option Addr) (len cap : Nat) (zs : List Int) : Prop :=
  (a = none ∧ len = 0 ∧ cap = 0 ∧ zs = []) ∨
  ∃ x, a = some x ∧ len ≤ cap ∧ cap ≤ maxLen ∧ zs.length = cap ∧ (∀ i, i < zs.length → w.cell? (x.add i) = some (.int k (zs.getD i 0))) ∧ ∀ n ∈ zs, (Lit.int k n).wf = true
section
variable {H : Type} {enc : TypeId × Value → H} {W : World}
theorem open_bytes {fuel : Nat} {x : Value} {y : DataW H × List MemPlace}
    (hf : DataW.trod enc Tryd.prog W 0 (fun _ => true) true fuel 22 [x] = some y) :
    ∃ (A : Option Addr) (c : Nat) (l : List Int), x = .slice A l.length c ∧ (Kd.int .u8).C W A l.length l ∧ l.length ≤ c ∧ ∀ z ∈ l, 0 ≤ z ∧ z ≤ 255 := by
  obtain ⟨A, len, c, zs, rfl, w0⟩ : ∃ A len c zs, x = .slice A len c ∧ IsRow .u8 W A len c zs := by
    rcases open_ints Tryd.underlying22 Tryd.underlying5 (by kernel_rfl) hf with ⟨hcs, _⟩ | ⟨a, l, c, zs, hcs, _, hl, hm, hz, _, hcell, hwz⟩
    · exact ⟨none, 0, 0, [], List.singleton_inj.1 hcs, .inl ⟨rfl, rfl, rfl, rfl⟩⟩
    · exact ⟨some a, l, c, zs, List.singleton_inj.1 hcs, .inr ⟨_, rfl, hl, hm, by simpa using hz, hcell, hwz⟩⟩
  obtain ⟨l, rfl, hr, hm, hw, hc⟩ := ReadsInt.ofRowC w0
  refine ⟨A, c, l, rfl, Kd.C_of_reads (d := (0 : Int)) (h1 := fun _ => rfl) hr, hc, fun z hz => ?_⟩
  have := hw z hz
  simp [Lit.wf, IntKind.min, IntKind.max, IntKind.signed, IntKind.bits] at this
  omega
theorem cellsD : Tryd.prog.cellsOf 63 = 6 := by kernel_rfl
theorem open_deed {fuel : Nat} {cs : List Value} {y : DataW H × List MemPlace} (hf : DataW.trod enc Tryd.prog W 0 (fun _ => true) true fuel 63 cs = some y) :
    ∃ x : S63, k63.K W x cs ∧ ∀ z ∈ x.f5, 0 ≤ z ∧ z ≤ 255 := by
  obtain ⟨xs, n, _, _, hlen, hxl, hg⟩ := DataW.trod_struct Tryd.underlying63 hf
  rw [cellsD] at hlen
  match cs, hlen with
  | [c0, c1, c2, c3, c4, c5], _ =>
    match xs, hxl with
    | [y0, y1, y2, y3, y4, y5], _ =>
      have i0 := hg 0 _ rfl
      have i1 := hg 1 _ rfl
      have i2 := hg 2 _ rfl
      have i3 := hg 3 _ rfl
      have i4 := hg 4 _ rfl
      have i5 := hg 5 _ rfl
      have k3 : Tryd.prog.cellsOf 3 = 1 := by kernel_rfl
      have k22 : Tryd.prog.cellsOf 22 = 1 := by kernel_rfl
      simp only [k3, k22, List.drop_zero, List.drop_succ_cons, List.take_succ_cons, List.take_zero, List.getElem?_cons_zero, List.getElem?_cons_succ] at i0 i1 i2 i3 i4 i5
      obtain ⟨n0, e0, _, _⟩ := DataW.trod_int Tryd.underlying3 i0
      obtain ⟨n1, e1, _, _⟩ := DataW.trod_int Tryd.underlying3 i1
      obtain ⟨n2, e2, _, _⟩ := DataW.trod_int Tryd.underlying3 i2
      obtain ⟨n3, e3, _, _⟩ := DataW.trod_int Tryd.underlying3 i3
      obtain ⟨n4, e4, _, _⟩ := DataW.trod_int Tryd.underlying3 i4
      obtain ⟨A5, a5, l5, rfl, g1, g2, g3⟩ := open_bytes i5
      rw [List.singleton_inj.1 e0, List.singleton_inj.1 e1, List.singleton_inj.1 e2, List.singleton_inj.1 e3, List.singleton_inj.1 e4]
      exact ⟨⟨n0, n1, n2, n3, n4, l5⟩, k63_mk W ⟨n0, n1, n2, n3, n4, l5⟩ g2 g1, g3⟩
theorem open_deeds {base : Nat} {v : Value} {d : DataW H} {p : List MemPlace} (hv : Value.okWide Tryd.prog W .any base 39 v) (h : DataW.Trod enc Tryd.prog W 0 (fun _ => true) true 39 v d p) :
    ∃ (A : Option Addr) (c : Nat) (l : List S63), v = .slice A l.length c ∧ Kd.C k63 W A l.length l ∧ l.length ≤ c ∧ l.length ≤ 9223372036854775807 ∧ ∀ x ∈ l, ∀ z ∈ x.f5, 0 ≤ z ∧ z ≤ 255 := by
  obtain ⟨a0, len0, cap0, rfl⟩ := okWide_slice Tryd.underlying39 hv
  obtain ⟨fuel, hf⟩ := h
  rcases open_slice Tryd.underlying39 hf with ⟨hcs, _⟩ | ⟨a, len, cap, m, n, D, Pl, hcs, _, hl, hm, hmm, _, hi⟩
  · have e := List.singleton_inj.1 hcs
    injection e with e1 e2 e3
    subst e1 e2 e3
    exact ⟨none, 0, [], rfl, ⟨rfl, by decide, fun h => absurd h (by decide)⟩, Nat.le_refl _, by decide, fun x hx => by cases hx⟩
  · have e := List.singleton_inj.1 hcs
    injection e with e1 e2 e3
    subst e1 e2 e3
    have hmc : m = cap0 := by rw [hmm]; rfl
    have hel : ∀ i : Nat, ∃ x : S63, i < len0 → (∃ cs, cs.length = 6 ∧ k63.K W x cs ∧ ∀ j u, cs[j]? = some u → W.cell? (a.add (i * 6 + j)) = some u) ∧ ∀ z ∈ x.f5, 0 ≤ z ∧ z ≤ 255 := by
      intro i
      by_cases hlt : i < len0
      · obtain ⟨cs', hc, ht⟩ := hi i (by omega)
        obtain ⟨x, hK, hb⟩ := open_deed ht
        rw [cellsD] at hc
        obtain ⟨_, hcl, hat⟩ := World.cells?_some hc
        refine ⟨x, fun _ => ⟨⟨cs', hcl, hK, fun j u hu => ?_⟩, hb⟩⟩
        have hj : j < 6 := by have := (List.getElem?_eq_some_iff.1 hu).1; omega
        have := hat j hj
        rw [Go.Deep.add_add] at this
        rw [this, hu]
      · exact ⟨z63, fun h => absurd h hlt⟩
    refine ⟨some a, cap0, (List.range len0).map (fun i => Classical.choose (hel i)), by simp, ⟨by simp, ?_, fun h0 => ⟨a, rfl, fun j q hq => ?_⟩⟩, by simpa using hl, ?_, fun x hx => ?_⟩
    · simp; unfold maxLen at hm; omega
    · have hj : j < len0 := by have := (List.getElem?_eq_some_iff.1 hq).1; simpa using this
      have hqe : q = Classical.choose (hel j) := by
        rw [List.getElem?_map, List.getElem?_range hj] at hq
        exact (Option.some.inj hq).symm
      obtain ⟨⟨cs, h1, h2, h3⟩, _⟩ := Classical.choose_spec (hel j) hj
      rw [hqe]
      exact ⟨cs, h1, h2, h3⟩
    · simp; unfold maxLen at hm; omega
    · obtain ⟨i, hir, rfl⟩ := List.mem_map.1 hx
      exact (Classical.choose_spec (hel i) (List.mem_range.1 hir)).2
end
end Go.Proofs.YtpeebjnfmlfocaaDoor.TpD
namespace Go.Proofs.YtpeebjnfmlfocaaDoor.TpB
open Go.RowKit Go.Proofs.YtpeebjnfmlfocaaDoorW.PrintWords Go.Proofs.YtpeebjnfmlfocaaDoor.Tp Go.Proofs.YtpeebjnfmlfocaaDoor.TpR Go.Proofs.YtpeebjnfmlfocaaDoor.TpP Go.Proofs.YtpeebjnfmlfocaaDoor.Th
set_option linter.unusedVariables false
set_option linter.unusedSimpArgs false
theorem numGo_app : ∀ (a b : List UInt8) (n : Nat), numGo (a ++ b) n = (numGo a n).bind (numGo b)
  | [], b, n => rfl
  | c :: a, b, n => by
    rw [List.cons_append, numGo, numGo]
    split
    · exact numGo_app a b _
    · rfl
theorem dg_nat (d : Nat) (h : d < 10) : (UInt8.ofNat (48 + d)).toNat = 48 + d := by
  have : ∀ q : Fin 10, (UInt8.ofNat (48 + q.1)).toNat = 48 + q.1 := by decide
  exact this ⟨d, h⟩
theorem numGo_digits (u : Nat) : numGo (Lib.decDigits u) 0 = some u := by
  induction u using Nat.strongRecOn with
  | _ u ih =>
    rw [Lib.decDigits]
    split
    · rename_i h
      rw [numGo, dg_nat u h, if_pos (by omega), numGo]
      congr 1
      omega
    · rename_i h
      rw [numGo_app, ih (u / 10) (by omega), Option.bind_some, numGo, dg_nat _ (by omega), if_pos (by omega), numGo]
      congr 1
      omega
theorem digits_ne (u : Nat) : Lib.decDigits u ≠ [] := by
  rw [Lib.decDigits]
  split <;> simp
theorem head_digits (u : Nat) (h0 : 0 < u) : ∃ c l, Lib.decDigits u = c :: l ∧ c ≠ 48 := by
  induction u using Nat.strongRecOn with
  | _ u ih =>
    rw [Lib.decDigits]
    split
    · rename_i h
      refine ⟨_, [], rfl, fun e => ?_⟩
      have := congrArg UInt8.toNat e
      rw [dg_nat u h] at this
      have h48 : (48 : UInt8).toNat = 48 := rfl
      omega
    · rename_i h
      obtain ⟨c, l, e, hc⟩ := ih (u / 10) (by omega) (by omega)
      exact ⟨c, l ++ [UInt8.ofNat (48 + u % 10)], by rw [e]; rfl, hc⟩
theorem digit_range (u : Nat) : ∀ c ∈ Lib.decDigits u, 48 ≤ c.toNat ∧ c.toNat ≤ 57 := by
  induction u using Nat.strongRecOn with
  | _ u ih =>
    rw [Lib.decDigits]
    split
    · rename_i h
      intro c hc
      rw [List.mem_singleton] at hc
      subst hc
      rw [dg_nat u h]
      omega
    · rename_i h
      intro c hc
      rcases List.mem_append.1 hc with hc | hc
      · exact ih (u / 10) (by omega) c hc
      · rw [List.mem_singleton] at hc
        subst hc
        rw [dg_nat _ (by omega)]
        omega
def dgL (n : Int) : List UInt8 := Lib.decDigits n.toNat
theorem itoaB_mk (n : Int) (h : 0 ≤ n) : itoaB n = mk (dgL n) := by
  obtain ⟨u, rfl⟩ : ∃ u : Nat, n = u := ⟨n.toNat, by omega⟩
  exact itoaB_nat u
theorem numT_back (n : Int) (h : mayB n) : numT (mk (dgL n)) = (n, true) := by
  obtain ⟨u, rfl⟩ : ∃ u : Nat, n = u := ⟨n.toNat, by have := h.1; omega⟩
  have hu : u ≤ top := by have := h.2; unfold top; omega
  have ho : numO (mk (dgL (u : Int))) = some u := by
    unfold numO
    have h1 : ¬ ((mk (dgL (u : Int))).size = 0 ∨ 1 < (mk (dgL (u : Int))).size ∧ bt (mk (dgL (u : Int))) 0 = 48) := by
      rw [mk_size]
      show ¬ ((Lib.decDigits u).length = 0 ∨ 1 < (Lib.decDigits u).length ∧ bt (mk (Lib.decDigits u)) 0 = 48)
      rintro (e | ⟨e1, e2⟩)
      · exact digits_ne u (List.length_eq_zero_iff.1 e)
      · have hu0 : 0 < u := by
          rcases Nat.eq_zero_or_pos u with e | e
          · subst e; rw [Lib.decDigits_one (by decide)] at e1; simp at e1
          · exact e
        obtain ⟨c, l, e, hc⟩ := head_digits u hu0
        rw [e] at e2
        have hb : bt (mk (c :: l)) 0 = (c.toNat : Int) := by
          have := bt_nat (mk (c :: l)) 0 (by rw [mk_size]; simp)
          exact this
        rw [hb] at e2
        apply hc
        apply UInt8.toNat_inj.1
        show c.toNat = 48
        omega
    rw [if_neg h1, mk_list]
    show capO (numGo (Lib.decDigits u) 0) = some u
    rw [numGo_digits, capO, if_pos hu]
  unfold numT
  rw [ho]
theorem dgv (x : Int) (h0 : 0 ≤ x) (h1 : x < 16) : digv ((dg x).toNat : Int) = x := by
  obtain ⟨u, rfl⟩ : ∃ u : Nat, x = u := ⟨x.toNat, by omega⟩
  have : ∀ q : Fin 16, digv ((dg (q.1 : Int)).toNat : Int) = q.1 := by decide
  exact this ⟨u, by omega⟩
theorem prs_hex : ∀ (l : List Int) (i : Nat) (out : List Int), (∀ x ∈ l, 0 ≤ x ∧ x ≤ 255) → prs false (hexL l) i (-1) out = (out ++ l, 0, 0)
  | [], i, out, _ => by simp [hexL, prs]
  | x :: l, i, out, h => by
    have hx := h x List.mem_cons_self
    have e : hexL (x :: l) = dg (x / 16) :: dg (x % 16) :: hexL l := rfl
    have a := dgv (x / 16) (by omega) (by omega)
    have b := dgv (x % 16) (by omega) (by omega)
    rw [e, prs, a, if_neg (by simp), if_neg (by omega), if_pos (by decide), prs, b, if_neg (by simp), if_neg (by omega), if_neg (by omega), prs_hex l _ _ (fun y hy => h y (List.mem_cons_of_mem _ hy))]
    have : x / 16 * 16 + x % 16 = x := by omega
    rw [this]
    simp
theorem hexT_back (l : List Int) (h : ∀ x ∈ l, 0 ≤ x ∧ x ≤ 255) : hexT (mk (hexL l)) = (l, 0) := by
  unfold hexT
  rw [mk_list, prs_hex l 0 [] h]
  rfl
def Wd (l : List UInt8) : Prop := ∀ c ∈ l, c ≠ 32 ∧ c ≠ 9 ∧ c ≠ 13 ∧ c ≠ 10
theorem wd_isB {c : UInt8} (h : c ≠ 32 ∧ c ≠ 9 ∧ c ≠ 13 ∧ c ≠ 10) : isB c = false := by
  unfold isB
  exact decide_eq_false (fun x => by rcases x with x | x | x; exact h.1 x; exact h.2.1 x; exact h.2.2.1 x)
theorem wds_run : ∀ (w cur rest : List UInt8), Wd w → cur ≠ [] → wds (w ++ rest) cur = wds rest (cur ++ w)
  | [], cur, rest, _, _ => by simp
  | c :: w, cur, rest, h, hc => by
    have hcc := h c List.mem_cons_self
    rw [List.cons_append, wds, wd_isB hcc, if_neg (by simp), if_neg (fun x => hc x.1), wds_run w _ rest (fun x hx => h x (List.mem_cons_of_mem _ hx)) (by simp)]
    simp
structure Word (l : List UInt8) : Prop where
  ne : l ≠ []
  wd : Wd l
  head : l.head? ≠ some 35
theorem wds_word {l : List UInt8} (h : Word l) (rest : List UInt8) : wds (l ++ rest) [] = wds rest l := by
  obtain ⟨hne, hw, hh⟩ := h
  match l, hne, hw, hh with
  | c :: l, _, hw, hh =>
    have hcc := hw c List.mem_cons_self
    rw [List.cons_append, wds, wd_isB hcc, if_neg (by simp), if_neg (fun x => hh (by rw [x.2]; rfl)), List.nil_append, wds_run l [c] rest (fun x hx => hw x (List.mem_cons_of_mem _ hx)) (by simp)]
    rfl
theorem wds_sp {l : List UInt8} (h : Word l) (rest : List UInt8) : wds (l ++ 32 :: rest) [] = l :: wds rest [] := by
  rw [wds_word h, wds, if_pos (by decide), if_neg h.ne]
theorem wds_last {l : List UInt8} (h : Word l) : wds l [] = [l] := by
  have := wds_word h []
  rw [List.append_nil] at this
  rw [this, wds, if_neg h.ne]
theorem word_digits (n : Int) : Word (dgL n) := by
  have hr := digit_range n.toNat
  refine ⟨digits_ne _, fun c hc => ?_, ?_⟩
  · have := hr c hc
    refine ⟨?_, ?_, ?_, ?_⟩ <;> (rintro rfl; revert this; decide)
  · intro e
    have hm : (35 : UInt8) ∈ dgL n := List.mem_of_mem_head? e
    have := hr _ hm
    revert this
    decide
theorem dg_word (x : Int) (h0 : 0 ≤ x) (h1 : x < 16) : dg x ≠ 32 ∧ dg x ≠ 9 ∧ dg x ≠ 13 ∧ dg x ≠ 10 ∧ dg x ≠ 35 := by
  obtain ⟨u, rfl⟩ : ∃ u : Nat, x = u := ⟨x.toNat, by omega⟩
  have : ∀ q : Fin 16, dg (q.1 : Int) ≠ 32 ∧ dg (q.1 : Int) ≠ 9 ∧ dg (q.1 : Int) ≠ 13 ∧ dg (q.1 : Int) ≠ 10 ∧ dg (q.1 : Int) ≠ 35 := by decide
  exact this ⟨u, by omega⟩
theorem word_hex (l : List Int) (hne : l ≠ []) (h : ∀ x ∈ l, 0 ≤ x ∧ x ≤ 255) : Word (hexL l) := by
  have hall : ∀ c ∈ hexL l, c ≠ 32 ∧ c ≠ 9 ∧ c ≠ 13 ∧ c ≠ 10 ∧ c ≠ 35 := by
    intro c hc
    obtain ⟨x, hx, hc⟩ := List.mem_flatMap.1 hc
    have hb := h x hx
    simp only [List.mem_cons, List.not_mem_nil, or_false] at hc
    rcases hc with rfl | rfl
    · exact dg_word _ (by omega) (by omega)
    · exact dg_word _ (by omega) (by omega)
  refine ⟨?_, fun c hc => ⟨(hall c hc).1, (hall c hc).2.1, (hall c hc).2.2.1, (hall c hc).2.2.2.1⟩, fun e => ?_⟩
  · cases l with
    | nil => exact absurd rfl hne
    | cons x l => simp [hexL]
  · exact (hall 35 (List.mem_of_mem_head? e)).2.2.2.2 rfl
def fL (r : Nat) : List UInt8 := (fWord r).data.toList
theorem word_form (r : Nat) : Word (fL r) := by
  unfold fL fWord
  split <;> exact ⟨by decide, by unfold Wd; decide, by decide⟩
theorem lines_word : ∀ (w cur rest : List UInt8), (∀ c ∈ w, c ≠ 10) → linesP (w ++ 10 :: rest) cur = (cur ++ w) :: linesP rest []
  | [], cur, rest, _ => by rw [List.nil_append, linesP, if_pos rfl, List.append_nil]
  | c :: w, cur, rest, h => by
    rw [List.cons_append, linesP, if_neg (h c List.mem_cons_self), lines_word w _ rest (fun x hx => h x (List.mem_cons_of_mem _ hx))]
    simp
end Go.Proofs.YtpeebjnfmlfocaaDoor.TpB
namespace Go.Proofs.YtpeebjnfmlfocaaDoor.TpB
open Go.RowKit Go.Proofs.YtpeebjnfmlfocaaDoorW.PrintWords Go.Proofs.YtpeebjnfmlfocaaDoor.Tp Go.Proofs.YtpeebjnfmlfocaaDoor.TpR Go.Proofs.YtpeebjnfmlfocaaDoor.TpP Go.Proofs.YtpeebjnfmlfocaaDoor.Th
set_option linter.unusedVariables false
set_option linter.unusedSimpArgs false
theorem wd_ne10 {l : List UInt8} (h : Word l) : ∀ c ∈ l, c ≠ 10 := fun c hc => (h.wd c hc).2.2.2
theorem ne10_app {a b : List UInt8} (ha : ∀ c ∈ a, c ≠ 10) (hb : ∀ c ∈ b, c ≠ 10) : ∀ c ∈ a ++ 32 :: b, c ≠ 10 := fun c hc => by
  rcases List.mem_append.1 hc with h | h
  · exact ha c h
  · rcases List.mem_cons.1 h with rfl | h
    · decide
    · exact hb c h
structure Reads (line : List UInt8) (K : Int) (N I D P : Int) (bs : List Int) : Prop where
  ne10 : ∀ c ∈ line, c ≠ 10
  some : wl line ≠ []
  ok : (readF numT hexT (wl line)).2.2.2 = true
  deed : dT (readF numT hexT (wl line)) = ⟨K, N, I, D, P, bs⟩
theorem reads_of {line : List UInt8} {ws : List ByteArray} {K N I D P : Int} {bs : List Int} {f : Nat → Int} (h10 : ∀ c ∈ line, c ≠ 10) (hw : wl line = ws) (hne : ws ≠ []) (hr : readF numT hexT ws = (K, f, bs, true)) (h1 : f 1 = N) (h2 : f 2 = I) (h3 : f 3 = D) (h4 : f 4 = P) : Reads line K N I D P bs := by
  refine ⟨h10, by rw [hw]; exact hne, by rw [hw, hr], ?_⟩
  rw [hw, hr, ← h1, ← h2, ← h3, ← h4]
  rfl
theorem reads_1 (I : Int) (mI : mayB I) : Reads (fL 0 ++ 32 :: (dgL I)) 1 0 I 0 0 [] := by
  have w0 := word_form 0
  have w1 := word_digits I
  refine reads_of (ws := [mk (fL 0), mk (dgL I)]) (f := setF (zeroF) 2 I) (ne10_app (wd_ne10 w0) (wd_ne10 w1)) ?_ (by simp) ?_ (by simp [setF, zeroF]) (by simp [setF, zeroF]) (by simp [setF, zeroF]) (by simp [setF, zeroF])
  · unfold wl
    rw [wds_sp w0, wds_last w1]
    rfl
  · unfold readF
    rw [List.getD_cons_zero, List.tail_cons, hit_eq, mk_toList]
    rw [if_pos (by decide)]
    unfold readAt
    rw [if_neg (by show ¬ (1 < fN 0); decide), show fN 0 = 1 from rfl]
    have e0 : numT ([mk (dgL I)].getD 0 ByteArray.empty) = (I, true) := numT_back I mI
    rw [partsF, e0, if_pos rfl]
    rw [partsF]
    show doneF hexT 0 _ _ = _
    rw [doneF, if_neg (fun h => absurd h.1 (by decide))]
    rfl
theorem reads_2 (I : Int) (mI : mayB I) : Reads (fL 1 ++ 32 :: (dgL I)) 2 0 I 0 0 [] := by
  have w0 := word_form 1
  have w1 := word_digits I
  refine reads_of (ws := [mk (fL 1), mk (dgL I)]) (f := setF (zeroF) 2 I) (ne10_app (wd_ne10 w0) (wd_ne10 w1)) ?_ (by simp) ?_ (by simp [setF, zeroF]) (by simp [setF, zeroF]) (by simp [setF, zeroF]) (by simp [setF, zeroF])
  · unfold wl
    rw [wds_sp w0, wds_last w1]
    rfl
  · unfold readF
    rw [List.getD_cons_zero, List.tail_cons, hit_eq, mk_toList]
    rw [if_neg (by decide)]
    rw [if_pos (by decide)]
    unfold readAt
    rw [if_neg (by show ¬ (1 < fN 1); decide), show fN 1 = 1 from rfl]
    have e0 : numT ([mk (dgL I)].getD 0 ByteArray.empty) = (I, true) := numT_back I mI
    rw [partsF, e0, if_pos rfl]
    rw [partsF]
    show doneF hexT 1 _ _ = _
    rw [doneF, if_neg (fun h => absurd h.1 (by decide))]
    rfl
theorem reads_3 (I : Int) (mI : mayB I) : Reads (fL 2 ++ 32 :: (dgL I)) 3 0 I 0 0 [] := by
  have w0 := word_form 2
  have w1 := word_digits I
  refine reads_of (ws := [mk (fL 2), mk (dgL I)]) (f := setF (zeroF) 2 I) (ne10_app (wd_ne10 w0) (wd_ne10 w1)) ?_ (by simp) ?_ (by simp [setF, zeroF]) (by simp [setF, zeroF]) (by simp [setF, zeroF]) (by simp [setF, zeroF])
  · unfold wl
    rw [wds_sp w0, wds_last w1]
    rfl
  · unfold readF
    rw [List.getD_cons_zero, List.tail_cons, hit_eq, mk_toList]
    rw [if_neg (by decide)]
    rw [if_neg (by decide)]
    rw [if_pos (by decide)]
    unfold readAt
    rw [if_neg (by show ¬ (1 < fN 2); decide), show fN 2 = 1 from rfl]
    have e0 : numT ([mk (dgL I)].getD 0 ByteArray.empty) = (I, true) := numT_back I mI
    rw [partsF, e0, if_pos rfl]
    rw [partsF]
    show doneF hexT 2 _ _ = _
    rw [doneF, if_neg (fun h => absurd h.1 (by decide))]
    rfl
theorem reads_4 (N D : Int) (mN : mayB N) (mD : mayB D) : Reads (fL 3 ++ 32 :: (dgL N ++ 32 :: (dgL D))) 4 N 0 D 0 [] := by
  have w0 := word_form 3
  have w1 := word_digits N
  have w2 := word_digits D
  refine reads_of (ws := [mk (fL 3), mk (dgL N), mk (dgL D)]) (f := setF (setF (zeroF) 1 N) 3 D) (ne10_app (wd_ne10 w0) (ne10_app (wd_ne10 w1) (wd_ne10 w2))) ?_ (by simp) ?_ (by simp [setF, zeroF]) (by simp [setF, zeroF]) (by simp [setF, zeroF]) (by simp [setF, zeroF])
  · unfold wl
    rw [wds_sp w0, wds_sp w1, wds_last w2]
    rfl
  · unfold readF
    rw [List.getD_cons_zero, List.tail_cons, hit_eq, mk_toList]
    rw [if_neg (by decide)]
    rw [if_neg (by decide)]
    rw [if_neg (by decide)]
    rw [if_pos (by decide)]
    unfold readAt
    rw [if_neg (by show ¬ (2 < fN 3); decide), show fN 3 = 2 from rfl]
    have e0 : numT ([mk (dgL N), mk (dgL D)].getD 0 ByteArray.empty) = (N, true) := numT_back N mN
    rw [partsF, e0, if_pos rfl]
    have e1 : numT ([mk (dgL N), mk (dgL D)].getD (0 + 1) ByteArray.empty) = (D, true) := numT_back D mD
    rw [partsF, e1, if_pos rfl]
    rw [partsF]
    show doneF hexT 3 _ _ = _
    rw [doneF, if_neg (fun h => absurd h.1 (by decide))]
    rfl
theorem reads_5 (I P : Int) (mI : mayB I) (mP : mayB P) : Reads (fL 4 ++ 32 :: (dgL I ++ 32 :: (dgL P))) 5 0 I 0 P [] := by
  have w0 := word_form 4
  have w1 := word_digits I
  have w2 := word_digits P
  refine reads_of (ws := [mk (fL 4), mk (dgL I), mk (dgL P)]) (f := setF (setF (zeroF) 2 I) 4 P) (ne10_app (wd_ne10 w0) (ne10_app (wd_ne10 w1) (wd_ne10 w2))) ?_ (by simp) ?_ (by simp [setF, zeroF]) (by simp [setF, zeroF]) (by simp [setF, zeroF]) (by simp [setF, zeroF])
  · unfold wl
    rw [wds_sp w0, wds_sp w1, wds_last w2]
    rfl
  · unfold readF
    rw [List.getD_cons_zero, List.tail_cons, hit_eq, mk_toList]
    rw [if_neg (by decide)]
    rw [if_neg (by decide)]
    rw [if_neg (by decide)]
    rw [if_neg (by decide)]
    rw [if_pos (by decide)]
    unfold readAt
    rw [if_neg (by show ¬ (2 < fN 4); decide), show fN 4 = 2 from rfl]
    have e0 : numT ([mk (dgL I), mk (dgL P)].getD 0 ByteArray.empty) = (I, true) := numT_back I mI
    rw [partsF, e0, if_pos rfl]
    have e1 : numT ([mk (dgL I), mk (dgL P)].getD (0 + 1) ByteArray.empty) = (P, true) := numT_back P mP
    rw [partsF, e1, if_pos rfl]
    rw [partsF]
    show doneF hexT 4 _ _ = _
    rw [doneF, if_neg (fun h => absurd h.1 (by decide))]
    rfl
theorem reads_6 (N : Int) (mN : mayB N) : Reads (fL 5 ++ 32 :: (dgL N)) 6 N 0 0 0 [] := by
  have w0 := word_form 5
  have w1 := word_digits N
  refine reads_of (ws := [mk (fL 5), mk (dgL N)]) (f := setF (zeroF) 1 N) (ne10_app (wd_ne10 w0) (wd_ne10 w1)) ?_ (by simp) ?_ (by simp [setF, zeroF]) (by simp [setF, zeroF]) (by simp [setF, zeroF]) (by simp [setF, zeroF])
  · unfold wl
    rw [wds_sp w0, wds_last w1]
    rfl
  · unfold readF
    rw [List.getD_cons_zero, List.tail_cons, hit_eq, mk_toList]
    rw [if_neg (by decide)]
    rw [if_neg (by decide)]
    rw [if_neg (by decide)]
    rw [if_neg (by decide)]
    rw [if_neg (by decide)]
    rw [if_pos (by decide)]
    unfold readAt
    rw [if_neg (by show ¬ (1 < fN 5); decide), show fN 5 = 1 from rfl]
    have e0 : numT ([mk (dgL N)].getD 0 ByteArray.empty) = (N, true) := numT_back N mN
    rw [partsF, e0, if_pos rfl]
    rw [partsF]
    show doneF hexT 5 _ _ = _
    rw [doneF, if_neg (fun h => absurd h.1 (by decide))]
    rfl
theorem reads_7 (N I : Int) (mN : mayB N) (mI : mayB I) : Reads (fL 6 ++ 32 :: (dgL N ++ 32 :: (dgL I))) 7 N I 0 0 [] := by
  have w0 := word_form 6
  have w1 := word_digits N
  have w2 := word_digits I
  refine reads_of (ws := [mk (fL 6), mk (dgL N), mk (dgL I)]) (f := setF (setF (zeroF) 1 N) 2 I) (ne10_app (wd_ne10 w0) (ne10_app (wd_ne10 w1) (wd_ne10 w2))) ?_ (by simp) ?_ (by simp [setF, zeroF]) (by simp [setF, zeroF]) (by simp [setF, zeroF]) (by simp [setF, zeroF])
  · unfold wl
    rw [wds_sp w0, wds_sp w1, wds_last w2]
    rfl
  · unfold readF
    rw [List.getD_cons_zero, List.tail_cons, hit_eq, mk_toList]
    rw [if_neg (by decide)]
    rw [if_neg (by decide)]
    rw [if_neg (by decide)]
    rw [if_neg (by decide)]
    rw [if_neg (by decide)]
    rw [if_neg (by decide)]
    rw [if_pos (by decide)]
    unfold readAt
    rw [if_neg (by show ¬ (2 < fN 6); decide), show fN 6 = 2 from rfl]
    have e0 : numT ([mk (dgL N), mk (dgL I)].getD 0 ByteArray.empty) = (N, true) := numT_back N mN
    rw [partsF, e0, if_pos rfl]
    have e1 : numT ([mk (dgL N), mk (dgL I)].getD (0 + 1) ByteArray.empty) = (I, true) := numT_back I mI
    rw [partsF, e1, if_pos rfl]
    rw [partsF]
    show doneF hexT 6 _ _ = _
    rw [doneF, if_neg (fun h => absurd (show (2 - 2 = 1) from h.2) (by decide))]
    rfl
theorem reads_7b (N I : Int) (mN : mayB N) (mI : mayB I) (bs : List Int) (hne : bs ≠ []) (hb : ∀ x ∈ bs, 0 ≤ x ∧ x ≤ 255) : Reads (fL 6 ++ 32 :: (dgL N ++ 32 :: (dgL I ++ 32 :: (hexL bs)))) 7 N I 0 0 bs := by
  have w0 := word_form 6
  have w1 := word_digits N
  have w2 := word_digits I
  have w3 := word_hex bs hne hb
  refine reads_of (ws := [mk (fL 6), mk (dgL N), mk (dgL I), mk (hexL bs)]) (f := setF (setF (zeroF) 1 N) 2 I) (ne10_app (wd_ne10 w0) (ne10_app (wd_ne10 w1) (ne10_app (wd_ne10 w2) (wd_ne10 w3)))) ?_ (by simp) ?_ (by simp [setF, zeroF]) (by simp [setF, zeroF]) (by simp [setF, zeroF]) (by simp [setF, zeroF])
  · unfold wl
    rw [wds_sp w0, wds_sp w1, wds_sp w2, wds_last w3]
    rfl
  · unfold readF
    rw [List.getD_cons_zero, List.tail_cons, hit_eq, mk_toList]
    rw [if_neg (by decide)]
    rw [if_neg (by decide)]
    rw [if_neg (by decide)]
    rw [if_neg (by decide)]
    rw [if_neg (by decide)]
    rw [if_neg (by decide)]
    rw [if_pos (by decide)]
    unfold readAt
    rw [if_neg (by show ¬ (3 < fN 6); decide), show fN 6 = 2 from rfl]
    have e0 : numT ([mk (dgL N), mk (dgL I), mk (hexL bs)].getD 0 ByteArray.empty) = (N, true) := numT_back N mN
    rw [partsF, e0, if_pos rfl]
    have e1 : numT ([mk (dgL N), mk (dgL I), mk (hexL bs)].getD (0 + 1) ByteArray.empty) = (I, true) := numT_back I mI
    rw [partsF, e1, if_pos rfl]
    rw [partsF]
    show doneF hexT 6 _ _ = _
    have eh : hexT ([mk (dgL N), mk (dgL I), mk (hexL bs)].getD (fN 6) ByteArray.empty) = (bs, 0) := hexT_back bs hb
    rw [doneF, if_pos ⟨rfl, rfl⟩, eh]
    rfl
theorem reads_conv {a b : List UInt8} {K N I D P : Int} {bs : List Int} (h : Reads b K N I D P bs) (e : a = b) : Reads a K N I D P bs := e ▸ h
theorem dgl (n : Int) (h : mayB n) : (itoaB n).data.toList = dgL n := by rw [itoaB_mk n h.1, mk_list]
theorem reads_line (x : S63) (hx : Fit x) (h : (lineS x).2 = 0) : Reads (lineS x).1.data.toList x.f0 x.f1 x.f2 x.f3 x.f4 x.f5 := by
  obtain ⟨K, N, I, D, P, bs⟩ := x
  obtain ⟨e1, e2⟩ := alike K N I D P bs
  have e3 : (refLine K N I D P bs).2 = true := by
    rcases e2 with e2 | e2
    · exact e2.2
    · have h2 : (lineHit K (fldF N I D P) bs 7 0).2 = 0 := h
      rw [e2.1] at h2
      exact absurd h2 (by decide)
  show Reads (lineHit K (fldF N I D P) bs 7 0).1.data.toList K N I D P bs
  rw [← e1]
  clear e1 e2 h
  have hb : ∀ y ∈ bs, 0 ≤ y ∧ y ≤ 255 := hx.1
  unfold refLine at e3 ⊢
  by_cases hbad : rlBad K N I D P bs.length
  · rw [if_pos hbad] at e3; exact absurd e3 (by decide)
  rw [if_neg hbad] at e3 ⊢
  obtain ⟨mN, mI, mD, mP, hk⟩ := rl_good_pre _ _ _ _ _ _ hbad
  have hnil : K ≠ 7 → bs = [] := fun h7 => by
    rcases hk with h | h
    · exact absurd h h7
    · exact List.length_eq_zero_iff.1 h
  unfold rlG at e3 ⊢
  by_cases c1 : K = 1 ∧ N = 0 ∧ D = 0 ∧ P = 0
  · rw [if_pos c1]
    obtain ⟨rfl, rfl, rfl, rfl⟩ := c1
    obtain rfl := hnil (by decide)
    refine reads_conv (reads_1 I mI) ?_
    simp only [ByteArray.data_append, Array.toList_append, dgl _ mI]
    simp [fL, fWord]
  rw [if_neg c1] at e3 ⊢
  by_cases c2 : K = 2 ∧ N = 0 ∧ D = 0 ∧ P = 0
  · rw [if_pos c2]
    obtain ⟨rfl, rfl, rfl, rfl⟩ := c2
    obtain rfl := hnil (by decide)
    refine reads_conv (reads_2 I mI) ?_
    simp only [ByteArray.data_append, Array.toList_append, dgl _ mI]
    simp [fL, fWord]
  rw [if_neg c2] at e3 ⊢
  by_cases c3 : K = 3 ∧ N = 0 ∧ D = 0 ∧ P = 0
  · rw [if_pos c3]
    obtain ⟨rfl, rfl, rfl, rfl⟩ := c3
    obtain rfl := hnil (by decide)
    refine reads_conv (reads_3 I mI) ?_
    simp only [ByteArray.data_append, Array.toList_append, dgl _ mI]
    simp [fL, fWord]
  rw [if_neg c3] at e3 ⊢
  by_cases c4 : K = 4 ∧ I = 0 ∧ P = 0
  · rw [if_pos c4]
    obtain ⟨rfl, rfl, rfl⟩ := c4
    obtain rfl := hnil (by decide)
    refine reads_conv (reads_4 N D mN mD) ?_
    simp only [ByteArray.data_append, Array.toList_append, dgl _ mN, dgl _ mD]
    simp [fL, fWord]
  rw [if_neg c4] at e3 ⊢
  by_cases c5 : K = 5 ∧ N = 0 ∧ D = 0
  · rw [if_pos c5]
    obtain ⟨rfl, rfl, rfl⟩ := c5
    obtain rfl := hnil (by decide)
    refine reads_conv (reads_5 I P mI mP) ?_
    simp only [ByteArray.data_append, Array.toList_append, dgl _ mI, dgl _ mP]
    simp [fL, fWord]
  rw [if_neg c5] at e3 ⊢
  by_cases c6 : K = 6 ∧ I = 0 ∧ D = 0 ∧ P = 0
  · rw [if_pos c6]
    obtain ⟨rfl, rfl, rfl, rfl⟩ := c6
    obtain rfl := hnil (by decide)
    refine reads_conv (reads_6 N mN) ?_
    simp only [ByteArray.data_append, Array.toList_append, dgl _ mN]
    simp [fL, fWord]
  rw [if_neg c6] at e3 ⊢
  by_cases c7 : K = 7 ∧ D = 0 ∧ P = 0
  · rw [if_pos c7]
    obtain ⟨rfl, rfl, rfl⟩ := c7
    by_cases hl : 0 < bs.length
    · rw [if_pos hl]
      refine reads_conv (reads_7b N I mN mI bs (List.length_pos_iff.1 hl) hb) ?_
      simp only [ByteArray.data_append, Array.toList_append, dgl _ mN, dgl _ mI]
      simp [fL, fWord]
    · rw [if_neg hl]
      obtain rfl := List.length_eq_zero_iff.1 (Nat.eq_zero_of_not_pos hl)
      refine reads_conv (reads_7 N I mN mI) ?_
      simp only [ByteArray.data_append, Array.toList_append, dgl _ mN, dgl _ mI]
      simp [fL, fWord]
  rw [if_neg c7] at e3 ⊢
  exact absurd e3 (by decide)
end Go.Proofs.YtpeebjnfmlfocaaDoor.TpB
namespace Go.Proofs.YtpeebjnfmlfocaaDoor.TpB
open Go.RowKit Go.Proofs.YtpeebjnfmlfocaaDoorW.PrintWords Go.Proofs.YtpeebjnfmlfocaaDoor.Tp Go.Proofs.YtpeebjnfmlfocaaDoor.TpR Go.Proofs.YtpeebjnfmlfocaaDoor.TpP Go.Proofs.YtpeebjnfmlfocaaDoor.Th
set_option linter.unusedVariables false
set_option linter.unusedSimpArgs false
def lnB (x : S63) : List UInt8 := (lineS x).1.data.toList
def txt (l : List S63) : List UInt8 := l.flatMap fun x => lnB x ++ [10]
theorem print_good : ∀ (l : List S63) (i : Nat) (acc : List UInt8), (∀ x ∈ l, (lineS x).2 = 0) → printGo l i acc = (⟨(acc ++ txt l).toArray⟩, 0, 0)
  | [], i, acc, _ => by simp [printGo, txt]
  | x :: l, i, acc, h => by
    rw [printGo, if_pos (h x List.mem_cons_self), print_good l _ _ (fun y hy => h y (List.mem_cons_of_mem _ hy))]
    simp [txt, lnB]
theorem print_ok : ∀ (l : List S63) (i : Nat) (acc : List UInt8), (printGo l i acc).2.2 = 0 → ∀ x ∈ l, (lineS x).2 = 0
  | [], i, acc, _ => fun x hx => by cases hx
  | x :: l, i, acc, h => by
    rw [printGo] at h
    split at h
    · rename_i hx
      intro y hy
      rcases List.mem_cons.1 hy with rfl | hy
      · exact hx
      · exact print_ok l _ _ h y hy
    · rename_i hx
      exact absurd h hx
theorem lines_txt : ∀ (l : List S63), (∀ x ∈ l, ∀ c ∈ lnB x, c ≠ 10) → linesP (txt l) [] = l.map lnB ++ [[]]
  | [], _ => rfl
  | x :: l, h => by
    have e : txt (x :: l) = lnB x ++ 10 :: txt l := by simp [txt]
    rw [e, lines_word _ _ _ (h x List.mem_cons_self), lines_txt l (fun y hy => h y (List.mem_cons_of_mem _ hy))]
    rfl
theorem wl_nil : wl [] = [] := by unfold wl; rw [wds]; rfl
theorem go_txt : ∀ (l : List S63) (i : Nat) (out : List S63), (∀ x ∈ l, Reads (lnB x) x.f0 x.f1 x.f2 x.f3 x.f4 x.f5) → goT (l.map lnB ++ [[]]) i out = (out ++ l, 0, 0)
  | [], i, out, _ => by
    show goT [[]] i out = _
    rw [goT, if_pos wl_nil, goT, List.append_nil]
  | x :: l, i, out, h => by
    have hr := h x List.mem_cons_self
    show goT (lnB x :: (l.map lnB ++ [[]])) i out = _
    rw [goT, if_neg hr.some, if_pos hr.ok, hr.deed, go_txt l _ _ (fun y hy => h y (List.mem_cons_of_mem _ hy))]
    simp
theorem back_txt (l : List S63) (hf : ∀ x ∈ l, Fit x) (hg : ∀ x ∈ l, (lineS x).2 = 0) : goT (linesP (txt l) []) 0 [] = (l, 0, 0) := by
  have hr : ∀ x ∈ l, Reads (lnB x) x.f0 x.f1 x.f2 x.f3 x.f4 x.f5 := fun x hx => reads_line x (hf x hx) (hg x hx)
  rw [lines_txt l (fun x hx => (hr x hx).ne10), go_txt l 0 [] hr]
  simp
theorem numT_rg (s : ByteArray) (h : (numT s).2 = true) : mayB (numT s).1 := by
  unfold numT at h ⊢
  cases ho : numO s with
  | none => rw [ho] at h; exact absurd h (by decide)
  | some v =>
    have hv : v ≤ top := by
      unfold numO at ho
      split at ho
      · cases ho
      · cases hg : numGo s.data.toList 0 with
        | none => rw [hg] at ho; cases ho
        | some u =>
          rw [hg, capO] at ho
          split at ho
          · rename_i hu
            rw [← Option.some.inj ho]; exact hu
          · cases ho
    show mayB (v : Int)
    exact ⟨by omega, by unfold top at hv; omega⟩
theorem prs_rg : ∀ (cs : List UInt8) (i : Nat) (high : Int) (out : List Int), high ≤ 15 → (∀ x ∈ out, 0 ≤ x ∧ x ≤ 255) → ∀ x ∈ (prs false cs i high out).1, 0 ≤ x ∧ x ≤ 255
  | [], i, high, out, hh, ho => by
    rw [prs]
    split
    · intro x hx; cases hx
    · exact ho
  | c :: cs, i, high, out, hh, ho => by
    have hd := digv_rg (c.toNat : Int)
    rw [prs, if_neg (by simp)]
    split
    · intro x hx; cases hx
    · split
      · exact prs_rg cs _ _ _ (by omega) ho
      · exact prs_rg cs _ _ _ (by omega) (fun x hx => by
          rcases List.mem_append.1 hx with hx | hx
          · exact ho x hx
          · rw [List.mem_singleton] at hx; subst hx; omega)
theorem prs_size (b : Bool) (cs : List UInt8) : ∀ (i : Nat) (high : Int) (out : List Int), 2 * (prs b cs i high out).1.length ≤ 2 * out.length + cs.length + (if high < 0 then 0 else 1) := by
  induction cs with
  | nil => intro i high out; rw [prs]; split <;> simp <;> omega
  | cons c cs ih =>
    intro i high out
    rw [prs]
    split
    · have := ih (i + 1) high out; simp at this ⊢; omega
    · split
      · simp
      · split
        · rename_i h1 h2 h3
          have := ih (i + 1) (digv (c.toNat : Int)) out
          rw [if_neg (by omega)] at this
          simp at this ⊢; omega
        · rename_i h1 h2 h3
          have := ih (i + 1) (-1) (out ++ [high * 16 + digv (c.toNat : Int)])
          rw [if_pos (by omega)] at this
          simp at this ⊢; omega
structure Plain (x : S63) (n : Nat) : Prop where
  good : (lineS x).2 = 0
  rg : ∀ y ∈ x.f5, 0 ≤ y ∧ y ≤ 255
  few : 2 * x.f5.length ≤ n
theorem plain_of {K N I D P : Int} {bs : List Int} {n : Nat} (hm : ¬ rlBad K N I D P bs.length) (hg : (rlG K N I D P bs.length itoaB ⟨(hexL bs).toArray⟩).2 = true) (hr : ∀ y ∈ bs, 0 ≤ y ∧ y ≤ 255) (hn : 2 * bs.length ≤ n) : Plain ⟨K, N, I, D, P, bs⟩ n := by
  refine ⟨?_, hr, hn⟩
  obtain ⟨e1, e2⟩ := alike K N I D P bs
  rcases e2 with e2 | e2
  · exact e2.1
  · have h := e2.2.2
    unfold refLine at h
    rw [if_neg hm, hg] at h
    exact absurd h (by decide)
theorem parts_one {r : Nat} {rest : List ByteArray} {f : Nat → Int} (hn : fN r = 1) (h : partsF numT r rest (fN r) 0 zeroF = some f) : ∃ n, mayB n ∧ f = setF zeroF (fK r 0) n := by
  rw [hn, partsF] at h
  split at h
  · rename_i hc
    rw [partsF] at h
    exact ⟨_, numT_rg _ hc, (Option.some.inj h).symm⟩
  · cases h
theorem parts_two {r : Nat} {rest : List ByteArray} {f : Nat → Int} (hn : fN r = 2) (h : partsF numT r rest (fN r) 0 zeroF = some f) : ∃ n m, mayB n ∧ mayB m ∧ f = setF (setF zeroF (fK r 0) n) (fK r 1) m := by
  rw [hn, partsF] at h
  split at h
  · rename_i hc
    rw [partsF] at h
    split at h
    · rename_i hd
      rw [partsF] at h
      exact ⟨_, _, numT_rg _ hc, numT_rg _ hd, (Option.some.inj h).symm⟩
    · cases h
  · cases h
theorem readAt_ok {r : Nat} {rest : List ByteArray} (h : (readAt numT hexT r rest).2.2.2 = true) : ∃ f, partsF numT r rest (fN r) 0 zeroF = some f ∧ readAt numT hexT r rest = doneF hexT r rest f ∧ fN r ≤ rest.length := by
  unfold readAt at h ⊢
  by_cases hl : rest.length < fN r
  · rw [if_pos hl] at h; exact absurd h (by decide)
  · rw [if_neg hl] at h ⊢
    cases hp : partsF numT r rest (fN r) 0 zeroF with
    | none => rw [hp] at h; exact Bool.noConfusion (show false = true from h)
    | some f => exact ⟨f, rfl, rfl, by omega⟩
theorem done_plain {r : Nat} (h6 : r ≠ 6) (rest : List ByteArray) (f : Nat → Int) : doneF hexT r rest f = (((r : Int) + 1), f, [], decide (rest.length - fN r = 0)) := by
  rw [doneF, if_neg (fun h => h6 h.1)]
theorem may0 : mayB 0 := may_zero
theorem plain_at (r : Nat) (hr : r < 7) (rest : List ByteArray) (n : Nat) (hs : ∀ x ∈ rest, x.size ≤ n) (h : (readAt numT hexT r rest).2.2.2 = true) : Plain (dT (readAt numT hexT r rest)) n := by
  obtain ⟨f, hp, he, hlen⟩ := readAt_ok h
  rw [he]
  have : r = 0 ∨ r = 1 ∨ r = 2 ∨ r = 3 ∨ r = 4 ∨ r = 5 ∨ r = 6 := by omega
  rcases this with rfl | rfl | rfl | rfl | rfl | rfl | rfl
  · obtain ⟨a, ma, rfl⟩ := parts_one rfl hp
    rw [done_plain (by decide)]
    exact plain_of (K := 1) (N := 0) (I := a) (D := 0) (P := 0) (not_bad may0 ma may0 may0 (.inr rfl)) (by simp [rlG]) (fun y hy => by cases hy) (by simp)
  · obtain ⟨a, ma, rfl⟩ := parts_one rfl hp
    rw [done_plain (by decide)]
    exact plain_of (K := 2) (N := 0) (I := a) (D := 0) (P := 0) (not_bad may0 ma may0 may0 (.inr rfl)) (by simp [rlG]) (fun y hy => by cases hy) (by simp)
  · obtain ⟨a, ma, rfl⟩ := parts_one rfl hp
    rw [done_plain (by decide)]
    exact plain_of (K := 3) (N := 0) (I := a) (D := 0) (P := 0) (not_bad may0 ma may0 may0 (.inr rfl)) (by simp [rlG]) (fun y hy => by cases hy) (by simp)
  · obtain ⟨a, b, ma, mb, rfl⟩ := parts_two rfl hp
    rw [done_plain (by decide)]
    exact plain_of (K := 4) (N := a) (I := 0) (D := b) (P := 0) (not_bad ma may0 mb may0 (.inr rfl)) (by simp [rlG]) (fun y hy => by cases hy) (by simp)
  · obtain ⟨a, b, ma, mb, rfl⟩ := parts_two rfl hp
    rw [done_plain (by decide)]
    exact plain_of (K := 5) (N := 0) (I := a) (D := 0) (P := b) (not_bad may0 ma may0 mb (.inr rfl)) (by simp [rlG]) (fun y hy => by cases hy) (by simp)
  · obtain ⟨a, ma, rfl⟩ := parts_one rfl hp
    rw [done_plain (by decide)]
    exact plain_of (K := 6) (N := a) (I := 0) (D := 0) (P := 0) (not_bad ma may0 may0 may0 (.inr rfl)) (by simp [rlG]) (fun y hy => by cases hy) (by simp)
  · obtain ⟨a, b, ma, mb, rfl⟩ := parts_two rfl hp
    have hg : ∀ bs : List Int, (rlG 7 a b 0 0 bs.length itoaB ⟨(hexL bs).toArray⟩).2 = true := fun bs => by simp [rlG]
    rw [doneF]
    by_cases hb : 6 = 6 ∧ rest.length - fN 6 = 1
    · rw [if_pos hb]
      refine plain_of (K := 7) (N := a) (I := b) (D := 0) (P := 0) (not_bad ma mb may0 may0 (.inl rfl)) (hg _) ?_ ?_
      · unfold hexT
        exact prs_rg _ _ _ _ (by decide) (fun y hy => by cases hy)
      · have hz : (rest.getD (fN 6) ByteArray.empty).size ≤ n := by
          rw [List.getD_eq_getElem?_getD]
          cases hg : rest[fN 6]? with
          | none => exact Nat.zero_le _
          | some y => exact hs y (List.mem_of_getElem? hg)
        have := prs_size false (rest.getD (fN 6) ByteArray.empty).data.toList 0 (-1) []
        have hl : (rest.getD (fN 6) ByteArray.empty).data.toList.length = (rest.getD (fN 6) ByteArray.empty).size := by simp
        rw [if_pos (by decide), hl] at this
        simp only [List.length_nil] at this
        show 2 * (prs false (rest.getD (fN 6) ByteArray.empty).data.toList 0 (-1) []).1.length ≤ n
        omega
    · rw [if_neg hb]
      exact plain_of (K := 7) (N := a) (I := b) (D := 0) (P := 0) (not_bad ma mb may0 may0 (.inl rfl)) (by simp [rlG]) (fun y hy => by cases hy) (by simp)
theorem plain_read (l : List ByteArray) (n : Nat) (hs : ∀ x ∈ l, x.size ≤ n) (h : (readF numT hexT l).2.2.2 = true) : Plain (dT (readF numT hexT l)) n := by
  unfold readF at h ⊢
  have hr : ∀ x ∈ l.tail, x.size ≤ n := fun x hx => hs x (List.mem_of_mem_tail hx)
  have go : ∀ m r, m + r = 7 → (hitF numT hexT (l.getD 0 ByteArray.empty) l.tail m r).2.2.2 = true → Plain (dT (hitF numT hexT (l.getD 0 ByteArray.empty) l.tail m r)) n := by
    intro m
    induction m with
    | zero => intro r _ h; exact Bool.noConfusion (show false = true from h)
    | succ m ih =>
      intro r hm h
      rw [hitF] at h ⊢
      split at h
      · rename_i hc
        rw [if_pos hc]
        exact plain_at r (by omega) _ n hr h
      · rename_i hc
        rw [if_neg hc]
        exact ih (r + 1) (by omega) h
  exact go 7 0 rfl h
theorem wl_few (ln : List UInt8) : ∀ x ∈ wl ln, x.size ≤ ln.length := by
  intro x hx
  obtain ⟨y, hy, rfl⟩ := List.mem_map.1 hx
  have := wds_len ln [] y hy
  rw [mk_size]
  simp at this
  omega
def big (l : List S63) : Nat := (l.map fun x => 2 * x.f5.length).sum
theorem big_app (a : List S63) (x : S63) : big (a ++ [x]) = big a + 2 * x.f5.length := by simp [big]
theorem go_plain (n : Nat) : ∀ (ls : List (List UInt8)) (i : Nat) (out : List S63), (∀ ln ∈ ls, ln.length ≤ n) → (∀ x ∈ out, Plain x n) →
    (∀ x ∈ (goT ls i out).1, Plain x n) ∧ (goT ls i out).1.length ≤ out.length + ls.length ∧ big (goT ls i out).1 ≤ big out + (ls.map List.length).sum
  | [], i, out, _, ho => ⟨ho, by simp [goT], by simp [goT]⟩
  | ln :: ls, i, out, hl, ho => by
    rw [goT]
    split
    · have := go_plain n ls (i + 1) out (fun x hx => hl x (List.mem_cons_of_mem _ hx)) ho
      exact ⟨this.1, by have := this.2.1; simp; omega, by have := this.2.2; simp; omega⟩
    · split
      · rename_i h1 h2
        have hp := plain_read (wl ln) ln.length (wl_few ln) h2
        have hln := hl ln List.mem_cons_self
        have := go_plain n ls (i + 1) (out ++ [dT (readF numT hexT (wl ln))]) (fun x hx => hl x (List.mem_cons_of_mem _ hx)) (fun x hx => by
          rcases List.mem_append.1 hx with hx | hx
          · exact ho x hx
          · rw [List.mem_singleton] at hx; subst hx; exact ⟨hp.good, hp.rg, by have := hp.few; omega⟩)
        rw [big_app] at this
        have hf := hp.few
        exact ⟨this.1, by have := this.2.1; simp at this ⊢; omega, by have := this.2.2; simp at this ⊢; omega⟩
      · exact ⟨fun x hx => (by cases hx), Nat.zero_le _, Nat.zero_le _⟩
theorem lines_sum : ∀ (cs cur : List UInt8), ((linesP cs cur).map List.length).sum ≤ cs.length + cur.length
  | [], cur => by simp [linesP]
  | c :: cs, cur => by
    rw [linesP]
    split
    · have := lines_sum cs []; simp at this ⊢; omega
    · have := lines_sum cs (cur ++ [c]); simp at this ⊢; omega
theorem txt_len : ∀ (l : List S63), (txt l).length ≤ 61 * l.length + big l
  | [] => by simp [txt]
  | x :: l => by
    have h1 := txt_len l
    have h2 : (lnB x).length ≤ 60 + 2 * x.f5.length := by
      have := lineHit_size x.f0 (fldF x.f1 x.f2 x.f3 x.f4) x.f5 7 0
      have e : (lnB x).length = (lineS x).1.size := by simp [lnB]
      rw [e]; exact this
    simp [txt, big] at h1 ⊢
    omega
end Go.Proofs.YtpeebjnfmlfocaaDoor.TpB
