/- hex.Text at this program: bytes as text. Conditions: bytes in range; at most 1000000 of them. -/
import Derived.Test.YtpeebjnfmlfocaaDoorSx05
import Derived.Test.YtpeebjnfmlfocaaDoorSx06
import Derived.Test.YtpeebjnfmlfocaaDoorSx07
import Derived.Lib.Hide
import Derived.WalkKit
import Derived.LoopTactic
import Derived.Test.YtpeebjnfmlfocaaDoorProg
import Derived.Below
import Derived.Deep.Draws
import Derived.Deep.AppendLies
import Derived.Maps.AppendAt
import Derived.OwnWalk
import Derived.Laws.BytesArg
import Derived.Laws.MakeOwn
import Derived.Laws.OwnMore
import Derived.Deep.OwnRows
import Derived.Tactics
import Derived.Lib.ConvBytes
import Derived.Laws.Slices
import Derived.KernelRfl
import Derived.RowKit3
import Derived.Deep.LoopGhost
import Derived.Deep.QuietTactic
import Derived.BigQuiet
import Derived.WideLaws
import Derived.Deep.DeepCutAuto
import Derived.Deep.CutBlock
import Derived.Deep.RegionHeld3
import Derived.Laws.Rows
import Derived.Lib.AppendStr
import Derived.ArgAppend
import Derived.Laws.IdiomCopy
import Derived.OrdersHeld
import Derived.Laws.BitsLemmas
import Derived.RowKit
import Derived.Test.YtpeebjnfmlfocaaDoorSx01
import Derived.Test.YtpeebjnfmlfocaaDoorSx02
import Derived.Test.YtpeebjnfmlfocaaDoorSx03
import Derived.Laws.StructEq
import Derived.Laws.RangeString
import Derived.Lib.Strings
import Derived.Lib.Slices
import Derived.Lib.Walk
import Derived.Lib.Builder
import Derived.Lib.UnsafeStr
import Derived.Laws.Externs
import Derived.Handy
import Derived.Shelf.Strings.Builder1
import Derived.Shelf.Strings.Builder2
import Derived.Shelf.Strings.OnBuilder
import Derived.Shelf.Strconv.Itoa0
import Derived.Shelf.Strconv.Itoa1
import Derived.Shelf.LaysM
import Derived.Shelf.Strconv.Itoa2
import Derived.Shelf.Strconv.Itoa3
import Derived.Shelf.Strings.Search1
import Derived.Shelf.Strings.Search2
import Derived.Shelf.Strings.Search3
import Derived.Shelf.Strings.Count
import Derived.Shelf.Strings.Shaped
import Derived.Shelf.Strings.Split
import Derived.Shelf.Unicode.Decode
import Derived.Shelf.Strings.RuneCount
import Derived.Shelf.Strings.Explode
import Derived.Shelf.Unicode.DecodeSlow
namespace Go.Proofs.YtpeebjnfmlfocaaDoor.Sh
open Go.RowKit Go.Proofs.YtpeebjnfmlfocaaDoorW.PrintWords Go.Proofs.YtpeebjnfmlfocaaDoorW.PrintLast Go.Proofs.YtpeebjnfmlfocaaDoorW.PrintMore
set_option linter.unusedVariables false
set_option linter.unusedSimpArgs false
structure Let where
  k : Int
  pv : Int
  pf : Int
  px : Int
  v : S47
  ps : List Int
  vr : Int
  vv : Int
  vp : Int
  vf : Int
  vi : List Int
  vs : List Int
  r : Int
  es : List S98
structure Ad where
  A7 : Option Addr
  c7 : Nat
  A8 : Option Addr
  c8 : Nat
  A9 : Option Addr
  c9 : Nat
  A14 : Option Addr
  c14 : Nat
  A15 : Option Addr
  c15 : Nat
  A17 : Option Addr
  c17 : Nat
abbrev letV (x : Let) (a : Ad) : Value := .agg #[.int .i64 x.k, .int .i64 x.pv, .int .i64 x.pf, .int .i64 x.px, .int .i64 x.v.f0, .int .i64 x.v.f1, .int .i64 x.v.f2, .slice a.A7 x.v.f3.length a.c7, .slice a.A8 x.v.f4.length a.c8, .slice a.A9 x.ps.length a.c9, .int .i64 x.vr, .int .i64 x.vv, .int .i64 x.vp, .int .i64 x.vf, .slice a.A14 x.vi.length a.c14, .slice a.A15 x.vs.length a.c15, .int .i64 x.r, .slice a.A17 x.es.length a.c17]
structure LetC (w : World) (x : Let) (a : Ad) : Prop where
  h7 : Kd.C (Kd.int .u8) w a.A7 x.v.f3.length x.v.f3
  l7 : x.v.f3.length ≤ a.c7
  h8 : Kd.C (Kd.int .u8) w a.A8 x.v.f4.length x.v.f4
  l8 : x.v.f4.length ≤ a.c8
  h9 : Kd.C (Kd.int .u8) w a.A9 x.ps.length x.ps
  l9 : x.ps.length ≤ a.c9
  h14 : Kd.C (Kd.int .u8) w a.A14 x.vi.length x.vi
  l14 : x.vi.length ≤ a.c14
  h15 : Kd.C (Kd.int .u8) w a.A15 x.vs.length x.vs
  l15 : x.vs.length ≤ a.c15
  h17 : Kd.C k98 w a.A17 x.es.length x.es
  l17 : x.es.length ≤ a.c17
theorem LetC.below {w w1 : World} {x : Let} {a : Ad} (h : LetC w x a) (hb : Below w.heap.size w w1) : LetC w1 x a :=
  ⟨Kd.C_below h.h7 hb, h.l7, Kd.C_below h.h8 hb, h.l8, Kd.C_below h.h9 hb, h.l9, Kd.C_below h.h14 hb, h.l14, Kd.C_below h.h15 hb, h.l15, Kd.C_below h.h17 hb, h.l17⟩
def inR (n lo hi : Int) : Bool := decide (lo ≤ n) && decide (n ≤ hi)
def gV (v : S47) : Bool := inR v.f0 1 2147483648 && inR v.f1 0 1048576 && inR v.f2 0 127 && inR v.f3.length 32 81 && (v.f4.length == 32)
def gS (s : S100) : Bool := inR s.f0 0 127 && (s.f1.length == 64)
def gE (e : S98) : Bool := gV e.f0 && inR e.f1.f0 1 2147483648 && inR e.f1.f1 0 1048576 && (e.f1.f2.length == 32) && decide (e.f1.f3.length ≤ 128) && e.f1.f3.all gS
def gP (x : Let) : Bool := inR x.pv 0 1048576 && inR x.pf 0 127 && inR x.px (-1) (x.pv - 1) && gV x.v && (x.ps.length == 64)
def gT (x : Let) : Bool := inR x.vr 1 2147483648 && inR x.vv 0 1048576 && inR x.vp 0 1 && inR x.vf 0 127 && (x.vi.length == 0 || x.vi.length == 32) && (x.vs.length == 64)
def zV (v : S47) : Bool := v.f0 == 0 && v.f1 == 0 && v.f2 == 0 && v.f3.length == 0 && v.f4.length == 0
def noP (x : Let) : Bool := x.pv == 0 && x.pf == 0 && x.px == 0 && x.ps.length == 0 && zV x.v
def noV (x : Let) : Bool := x.vr == 0 && x.vv == 0 && x.vp == 0 && x.vf == 0 && x.vi.length == 0 && x.vs.length == 0
def bareB (x : Let) : Bool := (x.k == 1 || noP x) && (x.k == 2 || noV x) && (x.k == 3 || x.r == 0) && (x.k == 4 || x.es.length == 0)
def goodL (x : Let) : Bool := bareB x && (if x.k = 1 then gP x else if x.k = 2 then gT x else if x.k = 3 then inR x.r 1 2147483648 else if x.k = 4 then decide (x.es.length ≤ 16) && x.es.all gE else false)
theorem ite_some (b c : Bool) : (if b = true then some c else some false) = some (b && c) := by cases b <;> rfl
theorem within_f (a lo hi : Int) : letter_within.f a lo hi = some (inR a lo hi) := by
  unfold letter_within.f inR
  by_cases h : lo ≤ a
  · rw [if_pos h, decide_eq_true h]; simp
  · rw [if_neg h, decide_eq_false h]; simp
theorem from_f (a lo hi : Int) : cleromancyref24_from.f a lo hi = some (inR a lo hi) := by
  unfold cleromancyref24_from.f inR
  by_cases h : lo ≤ a
  · rw [if_pos h, decide_eq_true h]; simp
  · rw [if_neg h, decide_eq_false h]; simp
theorem member_f (a : Int) : letter_member.f a = some (inR a 0 127) := by unfold letter_member.f; rw [within_f]; rfl
theorem inR_len (n m : Nat) : inR (n : Int) m m = (n == m) := by
  unfold inR
  by_cases h : n = m
  · subst h; simp
  · have : (n == m) = false := by simpa using h
    rw [this]
    by_cases h1 : (m : Int) ≤ n
    · have : ¬ ((n : Int) ≤ m) := by omega
      simp [this]
    · simp [h1]
theorem eq_len (n m : Nat) : ((n : Int) == (m : Int)) = (n == m) := by
  by_cases h : n = m
  · subst h; simp
  · have : (n == m) = false := by simpa using h
    rw [this]; simp; omega
theorem gV_l (v : S47) : letter_goodValue.f v.f0 v.f1 v.f2 v.f3 v.f4 = some (gV v) := by
  simp only [letter_goodValue.f, letter_size.f, letter_member.f, within_f, Option.bind_some, ite_some, gV]
  rw [show (32 : Int) = ((32 : Nat) : Int) from rfl, inR_len]
  simp only [Bool.and_assoc]
theorem gV_r (v : S47) : cleromancyref24_GoodValue.f v.f0 v.f1 v.f2 v.f3 v.f4 = some (gV v) := by
  simp only [cleromancyref24_GoodValue.f, from_f, Option.bind_some, ite_some, gV]
  rw [show (32 : Int) = ((32 : Nat) : Int) from rfl, eq_len]
  simp only [Bool.and_assoc]
theorem gP_l (x : Let) : letter_goodProposal.f x.pv x.pf x.px x.v.f0 x.v.f1 x.v.f2 x.v.f3 x.v.f4 x.ps = some (gP x) := by
  simp only [letter_goodProposal.f, letter_size.f, letter_member.f, within_f, gV_l, Option.bind_some, ite_some, gP]
  rw [show (64 : Int) = ((64 : Nat) : Int) from rfl, inR_len]
  by_cases h : inR x.pv 0 1048576 = true
  · have h2 : 0 ≤ x.pv ∧ x.pv ≤ 1048576 := by simpa [inR] using h
    rw [wrap64, show (x.pv - 1 + 9223372036854775808) % 18446744073709551616 - 9223372036854775808 = x.pv - 1 by omega]
    simp only [Bool.and_assoc]
  · have h2 : inR x.pv 0 1048576 = false := by simpa using h
    simp only [h2, Bool.false_and]
theorem gT_l (x : Let) : letter_goodVote.f x.vr x.vv x.vp x.vf x.vi x.vs = some (gT x) := by
  simp only [letter_goodVote.f, letter_size.f, letter_member.f, within_f, Option.bind_some, ite_some, gT]
  rw [show (64 : Int) = ((64 : Nat) : Int) from rfl, inR_len]
  have e : (if (x.vi.length : Int) = 0 then some (x.vs.length == 64) else if (x.vi.length : Int) = 32 then some (x.vs.length == 64) else some false) = some ((x.vi.length == 0 || x.vi.length == 32) && (x.vs.length == 64)) := by
    by_cases h : x.vi.length = 0
    · rw [if_pos (by omega)]; simp [h]
    · rw [if_neg (by omega)]
      by_cases h2 : x.vi.length = 32
      · rw [if_pos (by omega)]; simp [h2]
      · rw [if_neg (by omega)]
        have e1 : (x.vi.length == 0) = false := by simpa using h
        have e2 : (x.vi.length == 32) = false := by simpa using h2
        rw [e1, e2]; rfl
  rw [e]
  simp only [ite_some, Bool.and_assoc]
theorem eq_nil (l : List Int) : slices_Equal_byte_byte.f 1 l [] = some (l.length == 0) := by
  unfold slices_Equal_byte_byte.f
  by_cases h : l.length = 0
  · obtain rfl : l = [] := List.eq_nil_of_length_eq_zero h
    rfl
  · rw [if_neg (by simp; intro h2; exact h (by rw [h2]; rfl))]
    have e1 : (l.length == 0) = false := by simpa using h
    rw [e1]
theorem same_nil (l : List Int) : cleromancyref01_Same.f 1 l [] = some (l.length == 0) := by
  unfold cleromancyref01_Same.f
  by_cases h : l.length = 0
  · obtain rfl : l = [] := List.eq_nil_of_length_eq_zero h
    rfl
  · rw [if_neg (by simp; intro h2; exact h (by rw [h2]; rfl))]
    have e1 : (l.length == 0) = false := by simpa using h
    rw [e1]
theorem ite_eq (a b : Int) (c : Bool) : (if a = b then some c else some false) = some ((a == b) && c) := by
  by_cases h : a = b
  · subst h; simp
  · rw [if_neg h]; have : (a == b) = false := by simpa using h
    rw [this]; rfl
theorem zV_l (v : S47) : letter_sameValue.f 1 v.f0 v.f1 v.f2 v.f3 v.f4 0 0 0 [] [] = some (zV v) := by
  simp only [letter_sameValue.f, eq_nil, Option.bind_some, ite_some, ite_eq, zV, Bool.and_assoc]
theorem zV_r (v : S47) : cleromancyref24_SameValue.f 1 v.f0 v.f1 v.f2 v.f3 v.f4 0 0 0 [] [] = some (zV v) := by
  simp only [cleromancyref24_SameValue.f, same_nil, Option.bind_some, ite_some, ite_eq, zV, Bool.and_assoc]
section
variable {w : World}
abbrev valV (v : S47) (A3 : Option Addr) (c3 : Nat) (A4 : Option Addr) (c4 : Nat) : Value := .agg #[.int .i64 v.f0, .int .i64 v.f1, .int .i64 v.f2, .slice A3 v.f3.length c3, .slice A4 v.f4.length c4]
theorem goodValue_any (v : S47) (A3 : Option Addr) (c3 : Nat) (A4 : Option Addr) (c4 : Nat) (h3 : Kd.C (Kd.int .u8) w A3 v.f3.length v.f3) (l3 : v.f3.length ≤ c3) (h4 : Kd.C (Kd.int .u8) w A4 v.f4.length v.f4) (l4 : v.f4.length ≤ c4) :
    Calls Tryd.prog 140 #[valV v A3 c3 A4 c4] w fun e w' => e = .returned (.bool (gV v)) ∧ Below w.heap.size w w' :=
  letter_goodValue.calls _ _ _ _ _ _ _ _ _ _ w h3 l3 h4 l4 (gV_l v)
theorem GoodValue_any (v : S47) (A3 : Option Addr) (c3 : Nat) (A4 : Option Addr) (c4 : Nat) (h3 : Kd.C (Kd.int .u8) w A3 v.f3.length v.f3) (l3 : v.f3.length ≤ c3) (h4 : Kd.C (Kd.int .u8) w A4 v.f4.length v.f4) (l4 : v.f4.length ≤ c4) :
    Calls Tryd.prog 70 #[valV v A3 c3 A4 c4] w fun e w' => e = .returned (.bool (gV v)) ∧ Below w.heap.size w w' :=
  cleromancyref24_GoodValue.calls _ _ _ _ _ _ _ _ _ _ w h3 l3 h4 l4 (gV_r v)
theorem sameValue0_any (v : S47) (A3 : Option Addr) (c3 : Nat) (A4 : Option Addr) (c4 : Nat) (h3 : Kd.C (Kd.int .u8) w A3 v.f3.length v.f3) (l3 : v.f3.length ≤ c3) (h4 : Kd.C (Kd.int .u8) w A4 v.f4.length v.f4) (l4 : v.f4.length ≤ c4) :
    Calls Tryd.prog 138 #[valV v A3 c3 A4 c4, .agg #[.int .i64 0, .int .i64 0, .int .i64 0, .slice none 0 0, .slice none 0 0]] w fun e w' => e = .returned (.bool (zV v)) ∧ Below w.heap.size w w' :=
  letter_sameValue.calls 1 _ _ _ _ _ _ _ _ _ 0 0 0 none 0 [] none 0 [] _ w h3 l3 h4 l4 (Kd.C_nil _ _) (Nat.le_refl _) (Kd.C_nil _ _) (Nat.le_refl _) (zV_l v)
theorem SameValue0_any (v : S47) (A3 : Option Addr) (c3 : Nat) (A4 : Option Addr) (c4 : Nat) (h3 : Kd.C (Kd.int .u8) w A3 v.f3.length v.f3) (l3 : v.f3.length ≤ c3) (h4 : Kd.C (Kd.int .u8) w A4 v.f4.length v.f4) (l4 : v.f4.length ≤ c4) :
    Calls Tryd.prog 68 #[valV v A3 c3 A4 c4, .agg #[.int .i64 0, .int .i64 0, .int .i64 0, .slice none 0 0, .slice none 0 0]] w fun e w' => e = .returned (.bool (zV v)) ∧ Below w.heap.size w w' :=
  cleromancyref24_SameValue.calls 1 _ _ _ _ _ _ _ _ _ 0 0 0 none 0 [] none 0 [] _ w h3 l3 h4 l4 (Kd.C_nil _ _) (Nat.le_refl _) (Kd.C_nil _ _) (Nat.le_refl _) (zV_r v)
theorem goodProposal_any (x : Let) (a : Ad) (h : LetC w x a) :
    Calls Tryd.prog 103 #[.agg #[.int .i64 x.pv, .int .i64 x.pf, .int .i64 x.px, .int .i64 x.v.f0, .int .i64 x.v.f1, .int .i64 x.v.f2, .slice a.A7 x.v.f3.length a.c7, .slice a.A8 x.v.f4.length a.c8, .slice a.A9 x.ps.length a.c9]] w fun e w' => e = .returned (.bool (gP x)) ∧ Below w.heap.size w w' :=
  letter_goodProposal.calls _ _ _ _ _ _ _ _ _ _ _ _ _ _ _ _ w h.h7 h.l7 h.h8 h.l8 h.h9 h.l9 (gP_l x)
theorem goodVote_any (x : Let) (a : Ad) (h : LetC w x a) :
    Calls Tryd.prog 104 #[.agg #[.int .i64 x.vr, .int .i64 x.vv, .int .i64 x.vp, .int .i64 x.vf, .slice a.A14 x.vi.length a.c14, .slice a.A15 x.vs.length a.c15]] w fun e w' => e = .returned (.bool (gT x)) ∧ Below w.heap.size w w' :=
  letter_goodVote.calls _ _ _ _ _ _ _ _ _ _ _ w h.h14 h.l14 h.h15 h.l15 (gT_l x)
theorem within_any (n lo hi : Int) : Calls Tryd.prog 105 #[.int .i64 n, .int .i64 lo, .int .i64 hi] w fun e w' => e = .returned (.bool (inR n lo hi)) ∧ Below w.heap.size w w' :=
  (letter_within.calls n lo hi _ w (within_f n lo hi)).mono fun e w' h => ⟨h.1, h.2.below⟩
theorem member_any (n : Int) : Calls Tryd.prog 139 #[.int .i64 n] w fun e w' => e = .returned (.bool (inR n 0 127)) ∧ Below w.heap.size w w' :=
  (letter_member.calls n _ w (member_f n)).mono fun e w' h => ⟨h.1, h.2.below⟩
end
end Go.Proofs.YtpeebjnfmlfocaaDoor.Sh
namespace Go.Proofs.YtpeebjnfmlfocaaDoor.Th
open Go.RowKit Go.Proofs.YtpeebjnfmlfocaaDoorW.PrintWords Go.Proofs.YtpeebjnfmlfocaaDoorW.PrintLast Go.Proofs.YtpeebjnfmlfocaaDoorW.PrintMore
attribute [local go_sem] max2_int min2_int max_two min_two max_three min_three max_four min_four   -- for this text's walks alone
set_option linter.unusedVariables false
set_option linter.unusedSimpArgs false
def errW : Option Int → Value
  | none => .nilIface
  | some c => .iface 0 (.int .i64 c)
theorem errW_none : errW none = .nilIface := rfl
theorem errW_some (c : Int) : errW (some c) = .iface 0 (.int .i64 c) := rfl
end Go.Proofs.YtpeebjnfmlfocaaDoor.Th
namespace Go.Proofs.YtpeebjnfmlfocaaDoor.Th
open Go.RowKit Go.Proofs.YtpeebjnfmlfocaaDoorW.PrintWords Go.Proofs.YtpeebjnfmlfocaaDoorW.PrintLast Go.Proofs.YtpeebjnfmlfocaaDoorW.PrintMore
set_option linter.unusedVariables false
def hexD : ByteArray := ⟨#[48, 49, 50, 51, 52, 53, 54, 55, 56, 57, 97, 98, 99, 100, 101, 102]⟩
def dg (i : Int) : UInt8 := if h : i.toNat < hexD.size then hexD[i.toNat] else 0
theorem dg_at (i : Int) : ∀ h : i.toNat < hexD.size, hexD[i.toNat]'h = dg i := fun h => by simp [dg, h]
end Go.Proofs.YtpeebjnfmlfocaaDoor.Th
set_option linter.unusedVariables false
namespace Go.Proofs.YtpeebjnfmlfocaaDoor.Bld
open Go.RowKit
theorem sizeB : (Tryd.prog.info? 117).map (·.size) = some 2 := by kernel_rfl
theorem liesB : liesAt Tryd.prog Tryd.prog.depth 117 (2 / Tryd.prog.cellsOf 117) 0 117 1 = true := by kernel_rfl
theorem infoByte : (Tryd.prog.info? 5).map (fun i => (i.zero, i.size, i.bytes)) = some (some (.int .u8 0), 1, 1) := by kernel_rfl
set_option maxHeartbeats 1000000 in
set_option maxRecDepth 100000 in
theorem copyCheck_used (b : Nat) (w : World) (h0 : w.cell? ⟨b, 0, none⟩ = some (.pointer (some ⟨b, 0, none⟩))) :
    Calls Tryd.prog 110 #[.pointer (some ⟨b, 0, none⟩)] w fun e w' => e = .returned (.tuple #[]) ∧ w' = w := by
  obtain ⟨j, hj, _⟩ := Option.map_eq_some_iff.1 sizeB
  go_enter Tryd.func110, Tryd.ntmps110
  go_wp2
  rw [Lib.run_neq_ptr_same w _ Tryd.underlying115 hj]
  go_wp2
  go_end0
  exact ⟨rfl, rfl⟩
set_option maxHeartbeats 1000000 in
set_option maxRecDepth 100000 in
theorem copyCheck_fresh (b : Nat) (w : World) (h0 : w.cell? ⟨b, 0, none⟩ = some (.pointer none)) (hsh : w.shape? b = some (117, 2)) (hfz : w.frozen? ⟨b, 0, none⟩ = false) :
    Calls Tryd.prog 110 #[.pointer (some ⟨b, 0, none⟩)] w fun e w' => e = .returned (.tuple #[]) ∧ w' = w.setCell ⟨b, 0, none⟩ (.pointer (some ⟨b, 0, none⟩)) := by
  obtain ⟨j, hj, hjs⟩ := Option.map_eq_some_iff.1 sizeB
  go_enter Tryd.func110, Tryd.ntmps110
  go_wp2
  rw [Lib.run_to_unsafe w ⟨b, 0, none⟩ Tryd.underlying115 Tryd.underlying190 hj (by rw [hjs]; decide) hsh (Nat.zero_lt_succ 1)]
  simp only [Result.andThen]
  rw [Oper.upon_value]
  go_wp2
  rw [run_callFunc_extern Tryd.func146 (by kernel_rfl) (by kernel_rfl) (by kernel_rfl) (e := Extern.AbiNoEscape.same) (by kernel_rfl)]
  rw [Lib.run_noEscape]
  simp only [Result.andThen]
  rw [Oper.upon_value]
  go_wp2
  rw [Lib.run_from_unsafe w ⟨b, 0, none⟩ Tryd.underlying190 Tryd.underlying115 hj hsh liesB]
  simp only [Result.andThen]
  rw [Oper.upon_value]
  go_wp2
  go_end0
  exact ⟨rfl, rfl⟩
theorem copyCheck (B b : Nat) (bs : List Value) (w : World) (h : Lib.IsBuilder 117 5 B b bs w) :
    Calls Tryd.prog 110 #[.pointer (some ⟨b, 0, none⟩)] w fun e w' => e = .returned (.tuple #[]) ∧ (Lib.BuilderAt 117 5 B b (.pointer (some ⟨b, 0, none⟩)) bs w' ∧ Below B w w') := by
  rcases h with h | h
  · refine (copyCheck_fresh b w h.cell0 h.shape h.frozen0).mono ?_
    rintro e w' ⟨rfl, rfl⟩
    exact ⟨rfl, h.used _, (Below.refl B w).setCell (p := ⟨b, 0, none⟩) h.1 _⟩
  · refine (copyCheck_used b w h.cell0).mono ?_
    rintro e w' ⟨rfl, rfl⟩
    exact ⟨rfl, h, Below.refl B _⟩
set_option maxHeartbeats 2000000 in
set_option maxRecDepth 100000 in
theorem writeByte (B b : Nat) (bs : List Value) (c : Int) (w : World) (h : Lib.IsBuilder 117 5 B b bs w) (hlen : bs.length + 1 ≤ 140737488355328) (hBw : B ≤ w.heap.size) :
    Calls Tryd.prog 75 #[.pointer (some ⟨b, 0, none⟩), .int .u8 c] w fun e w' => e = .returned .nilIface ∧ (Lib.BuilderAt 117 5 B b (.pointer (some ⟨b, 0, none⟩)) (bs ++ [.int .u8 c]) w' ∧ Below B w w') := by
  obtain ⟨i0, hi, hz0, hz1, hz2⟩ := info_parts infoByte
  go_enter Tryd.func75, Tryd.ntmps75
  go_wp2_with (go_at_call 110; refine (copyCheck B b bs _ h).mono ?_)
  rintro e w1 ⟨rfl, h1, hb1⟩
  obtain ⟨hB, v, hbk, hown, hne⟩ := h1
  have c0 : w1.cell? ⟨b, 0, none⟩ = some (.pointer (some ⟨b, 0, none⟩)) := by rw [Lib.cell_of_heap hbk]; rfl
  have c1 : w1.cell? ⟨b, 1, none⟩ = some v := by rw [Lib.cell_of_heap hbk]; rfl
  go_wp2_with (at_builtin; refine wpList_append_own _ rfl _ _ 22 rfl B 5 i0 (.int .u8 0) 1 1 Tryd.underlying22 hi hz0 hz1 hz2 rfl (by decide) _ _ _ rfl (hown.alloc _) ⟨w1.heap.size, 0, none⟩ 1 1 [.int .u8 c] rfl rfl ?c1 ?c2 ?c3 ?c4 ?c5 ?_)
  case c1 =>
    intro j u hj
    match j, hj with
    | 0, hj => simp at hj; subst hj; simp [Addr.add]
  case c2 => intro u hu; simp at hu; subst hu; rfl
  case c3 => unfold maxLen; omega
  case c4 => omega
  case c5 => have := hb1.size; simp; omega
  intro v' w2 hown' hgrow _
  have hlt : b < w1.heap.size := by
    rcases Nat.lt_or_ge b w1.heap.size with h' | h'
    · exact h'
    · simp [Array.getElem?_eq_none h'] at hbk
  have hb2 : w2.heap[b]? = some (.cells #[.pointer (some ⟨b, 0, none⟩), v] 117 (0, 0)) := by
    rw [hgrow.block b (by simp; omega) (fun e => hne e.symm), Lib.alloc_old w1 _ b hlt]
    exact hbk
  have d0 : w2.cell? ⟨b, 0, none⟩ = some (.pointer (some ⟨b, 0, none⟩)) := by rw [Lib.cell_of_heap hb2]; rfl
  have d1 : w2.cell? ⟨b, 1, none⟩ = some v := by rw [Lib.cell_of_heap hb2]; rfl
  have f1 : w2.frozen? ⟨b, 1, none⟩ = false := Lib.frozen_of_heap hb2 1
  obtain ⟨g, cap, rfl⟩ : ∃ g cap, v' = .slice (some ⟨g, 0, none⟩) (bs.length + 1) cap := by
    rcases hown'.2 with ⟨_, h0⟩ | ⟨g, cap, cur, hv, _⟩
    · omega
    · exact ⟨g, cap, hv⟩
  go_wp2
  go_ret
  refine ⟨rfl, ?_, ?_⟩
  · exact Lib.BuilderAt.put (T := 117) (e := 5) hB hb2 (bs' := bs ++ [.int .u8 c]) (by simpa using hown') (by decide)
  · exact ((hb1.alloc (by have := hb1.size; omega) _).grown hgrow (by have := hb1.size; simp; omega) (fun k hk => (hown.lt k hk).1)).setCell (p := ⟨b, 1, none⟩) hB _
end Go.Proofs.YtpeebjnfmlfocaaDoor.Bld
namespace Go.Proofs
open Go.Shelf
def Tryd.lays169_ren : Go.Shelf.Ren := ⟨fun | 169 => 76 | n => n, fun | 70 => 115 | 9 => 9 | 0 => 0 | 72 => 117 | 37 => 22 | 127 => 170 | 3 => 3 | 5 => 5 | n => n, fun | n => n⟩
theorem Tryd.lays169 : Go.Proofs.Lays.n169 Tryd.prog Tryd.lays169_ren := {
  mixed := by kernel_rfl
  f169 := Tryd.func76.trans (congrArg some (by kernel_rfl))
  t0 := Tryd.underlying0
  a0 := Tryd.isAgg0
  z0 := Tryd.sizeOf0
  v0 := Tryd.zeroValue0
  t3 := Tryd.underlying3
  a3 := Tryd.isAgg3
  z3 := Tryd.sizeOf3
  v3 := Tryd.zeroValue3
  t9 := Tryd.underlying9
  a9 := Tryd.isAgg9
  z9 := Tryd.sizeOf9
  v9 := Tryd.zeroValue9
  t37 := Tryd.underlying22
  a37 := Tryd.isAgg22
  z37 := Tryd.sizeOf22
  v37 := Tryd.zeroValue22
  t70 := Tryd.underlying115
  a70 := Tryd.isAgg115
  z70 := Tryd.sizeOf115
  v70 := Tryd.zeroValue115
  t72 := Tryd.underlying117
  a72 := Tryd.isAgg117
  z72 := Tryd.sizeOf117
  v72 := Tryd.zeroValue117
  t127 := Tryd.underlying170
  a127 := Tryd.isAgg170
  z127 := Tryd.sizeOf170
  v127 := Tryd.zeroValue170 }
theorem Tryd.Builder_Extra_169 : Builder.Extra Tryd.prog Tryd.lays169_ren := {
  sizeBuilder := by kernel_rfl
  liesBuilder := by kernel_rfl
  t5 := Tryd.underlying5
  a5 := Tryd.isAgg5
  z5 := Tryd.sizeOf5
  v5 := Tryd.zeroValue5
  infoByte := by kernel_rfl
  cellsByte := by kernel_rfl
  sizeByte := by kernel_rfl
  neB5 := by decide }
open Go.RowKit in
theorem Tryd.Builder_String_any (B b : Nat) (l : List UInt8) (w : World) (h : Lib.IsBuilder 117 5 B b (Lib.byteCells l) w) (hBw : B ≤ w.heap.size) :
    Calls Tryd.prog 76 #[.pointer (some ⟨b, 0, none⟩)] w fun e w' => e = .returned (.string ⟨l.toArray⟩) ∧ Below B w w' := Any.Builder_String_any Tryd.lays169 Tryd.Builder_Extra_169 B b l w h hBw
def Tryd.lays156_ren : Go.Shelf.Ren := ⟨fun | 156 => 67 | 165 => 109 | 166 => 74 | 169 => 76 | 240 => 110 | 241 => 145 | 276 => 146 | 277 => 159 | n => n, fun | 31 => 88 | 9 => 9 | 3 => 3 | 4 => 4 | 0 => 0 | 20 => 20 | 72 => 117 | 76 => 120 | 70 => 115 | 37 => 22 | 75 => 119 | 127 => 170 | 164 => 190 | 5 => 5 | 80 => 123 | n => n, fun | n => n⟩
theorem Tryd.lays156 : Go.Proofs.Lays.n156 Tryd.prog Tryd.lays156_ren := {
  mixed := by kernel_rfl
  f156 := Tryd.func67.trans (congrArg some (by kernel_rfl))
  f165 := Tryd.func109.trans (congrArg some (by kernel_rfl))
  f166 := Tryd.func74.trans (congrArg some (by kernel_rfl))
  f169 := Tryd.func76.trans (congrArg some (by kernel_rfl))
  f240 := Tryd.func110.trans (congrArg some (by kernel_rfl))
  f241 := Tryd.func145.trans (congrArg some (by kernel_rfl))
  f276 := Tryd.func146.trans (congrArg some (by kernel_rfl))
  f277 := Tryd.func159.trans (congrArg some (by kernel_rfl))
  t0 := Tryd.underlying0
  a0 := Tryd.isAgg0
  z0 := Tryd.sizeOf0
  v0 := Tryd.zeroValue0
  t3 := Tryd.underlying3
  a3 := Tryd.isAgg3
  z3 := Tryd.sizeOf3
  v3 := Tryd.zeroValue3
  t4 := Tryd.underlying4
  a4 := Tryd.isAgg4
  z4 := Tryd.sizeOf4
  v4 := Tryd.zeroValue4
  t9 := Tryd.underlying9
  a9 := Tryd.isAgg9
  z9 := Tryd.sizeOf9
  v9 := Tryd.zeroValue9
  t20 := Tryd.underlying20
  a20 := Tryd.isAgg20
  z20 := Tryd.sizeOf20
  v20 := Tryd.zeroValue20
  t31 := Tryd.underlying88
  a31 := Tryd.isAgg88
  z31 := Tryd.sizeOf88
  v31 := Tryd.zeroValue88
  t37 := Tryd.underlying22
  a37 := Tryd.isAgg22
  z37 := Tryd.sizeOf22
  v37 := Tryd.zeroValue22
  t70 := Tryd.underlying115
  a70 := Tryd.isAgg115
  z70 := Tryd.sizeOf115
  v70 := Tryd.zeroValue115
  t72 := Tryd.underlying117
  a72 := Tryd.isAgg117
  z72 := Tryd.sizeOf117
  v72 := Tryd.zeroValue117
  t75 := Tryd.underlying119
  a75 := Tryd.isAgg119
  z75 := Tryd.sizeOf119
  v75 := Tryd.zeroValue119
  t76 := Tryd.underlying120
  a76 := Tryd.isAgg120
  z76 := Tryd.sizeOf120
  v76 := Tryd.zeroValue120
  t127 := Tryd.underlying170
  a127 := Tryd.isAgg170
  z127 := Tryd.sizeOf170
  v127 := Tryd.zeroValue170
  t164 := Tryd.underlying190
  a164 := Tryd.isAgg190
  z164 := Tryd.sizeOf190
  v164 := Tryd.zeroValue190 }
theorem Tryd.Builder_Extra_156 : Builder.Extra Tryd.prog Tryd.lays156_ren := {
  sizeBuilder := by kernel_rfl
  liesBuilder := by kernel_rfl
  t5 := Tryd.underlying5
  a5 := Tryd.isAgg5
  z5 := Tryd.sizeOf5
  v5 := Tryd.zeroValue5
  infoByte := by kernel_rfl
  cellsByte := by kernel_rfl
  sizeByte := by kernel_rfl
  neB5 := by decide }
open Go.RowKit in
theorem Tryd.strings_Join_none (a : Option Addr) (c : Nat) (sep : ByteArray) (w : World) :
    Calls Tryd.prog 67 #[.slice a 0 c, .string sep] w fun e w' => e = .returned (.string ⟨#[]⟩) ∧ w' = w := Any.strings_Join_none Tryd.lays156 Tryd.Builder_Extra_156 a c sep w
open Go.RowKit in
theorem Tryd.strings_Join (bk o c : Nat) (xs : List ByteArray) (sep : ByteArray) (w : World) (hcells : ∀ (j : Nat) x, xs[j]? = some x → w.cell? ⟨bk, o + j, none⟩ = some (.string x)) (hbk : bk < w.heap.size) (hN : xs.length ≤ 140737488355328) (hcap : xs.length ≤ c) (hlen : (Lib.join (xs.map (·.data.toList)) sep.data.toList).length ≤ 140737488355328) :
    Calls Tryd.prog 67 #[.slice (some ⟨bk, o, none⟩) xs.length c, .string sep] w fun e w' => e = .returned (.string ⟨(Lib.join (xs.map (·.data.toList)) sep.data.toList).toArray⟩) ∧ Below w.heap.size w w' := Any.strings_Join Tryd.lays156 Tryd.Builder_Extra_156 bk o c xs sep w hcells hbk hN hcap hlen
def Tryd.laysM171_ren : Go.Shelf.Ren := ⟨fun | 171 => 78 | 243 => 115 | 246 => 147 | 283 => 160 | 284 => 161 | 285 => 162 | 286 => 163 | 129 => 170 | 317 => 169 | 318 => 171 | 319 => 172 | 320 => 173 | 337 => 176 | 338 => 177 | n => n, fun | 3 => 3 | 9 => 9 | 2 => 2 | 4 => 4 | 171 => 197 | 0 => 0 | 53 => 146 | 37 => 22 | 5 => 5 | 173 => 200 | 212 => 203 | 51 => 142 | 20 => 20 | 213 => 204 | 46 => 141 | 232 => 213 | 233 => 214 | n => n, fun | 17 => 2 | 18 => 5 | 19 => 6 | n => n⟩
theorem Tryd.laysM171 : Go.Proofs.LaysM.n171 Tryd.prog Tryd.laysM171_ren := {
  mixed := by kernel_rfl
  f129 := Tryd.func170.trans (congrArg some (by kernel_rfl))
  f171 := Tryd.func78.trans (congrArg some (by kernel_rfl))
  f243 := Tryd.func115.trans (congrArg some (by kernel_rfl))
  f246 := Tryd.func147.trans (congrArg some (by kernel_rfl))
  f283 := Tryd.func160.trans (congrArg some (by kernel_rfl))
  f284 := Tryd.func161.trans (congrArg some (by kernel_rfl))
  f285 := Tryd.func162.trans (congrArg some (by kernel_rfl))
  f286 := Tryd.func163.trans (congrArg some (by kernel_rfl))
  f317 := Tryd.func169.trans (congrArg some (by kernel_rfl))
  f318 := Tryd.func171.trans (congrArg some (by kernel_rfl))
  f319 := Tryd.func172.trans (congrArg some (by kernel_rfl))
  f320 := Tryd.func173.trans (congrArg some (by kernel_rfl))
  f337 := Tryd.func176.trans (congrArg some (by kernel_rfl))
  f338 := Tryd.func177.trans (congrArg some (by kernel_rfl))
  t0 := Tryd.underlying0
  a0 := Tryd.isAgg0
  z0 := Tryd.sizeOf0
  v0 := Tryd.zeroValue0
  t2 := Tryd.underlying2
  a2 := Tryd.isAgg2
  z2 := Tryd.sizeOf2
  v2 := Tryd.zeroValue2
  t3 := Tryd.underlying3
  a3 := Tryd.isAgg3
  z3 := Tryd.sizeOf3
  v3 := Tryd.zeroValue3
  t4 := Tryd.underlying4
  a4 := Tryd.isAgg4
  z4 := Tryd.sizeOf4
  v4 := Tryd.zeroValue4
  t5 := Tryd.underlying5
  a5 := Tryd.isAgg5
  z5 := Tryd.sizeOf5
  v5 := Tryd.zeroValue5
  t9 := Tryd.underlying9
  a9 := Tryd.isAgg9
  z9 := Tryd.sizeOf9
  v9 := Tryd.zeroValue9
  t20 := Tryd.underlying20
  a20 := Tryd.isAgg20
  z20 := Tryd.sizeOf20
  v20 := Tryd.zeroValue20
  t37 := Tryd.underlying22
  a37 := Tryd.isAgg22
  z37 := Tryd.sizeOf22
  v37 := Tryd.zeroValue22
  t46 := Tryd.underlying141
  a46 := Tryd.isAgg141
  z46 := Tryd.sizeOf141
  v46 := Tryd.zeroValue141
  t51 := Tryd.underlying142
  a51 := Tryd.isAgg142
  z51 := Tryd.sizeOf142
  v51 := Tryd.zeroValue142
  t53 := Tryd.underlying146
  a53 := Tryd.isAgg146
  z53 := Tryd.sizeOf146
  v53 := Tryd.zeroValue146
  t171 := Tryd.underlying197
  a171 := Tryd.isAgg197
  z171 := Tryd.sizeOf197
  v171 := Tryd.zeroValue197
  t173 := Tryd.underlying200
  a173 := Tryd.isAgg200
  z173 := Tryd.sizeOf200
  v173 := Tryd.zeroValue200
  t212 := Tryd.underlying203
  a212 := Tryd.isAgg203
  z212 := Tryd.sizeOf203
  v212 := Tryd.zeroValue203
  t213 := Tryd.underlying204
  a213 := Tryd.isAgg204
  z213 := Tryd.sizeOf204
  t232 := Tryd.underlying213
  a232 := Tryd.isAgg213
  z232 := Tryd.sizeOf213
  v232 := Tryd.zeroValue213
  t233 := Tryd.underlying214
  a233 := Tryd.isAgg214
  z233 := Tryd.sizeOf214
  v233 := Tryd.zeroValue214
  g17 := by kernel_rfl
  g18 := by kernel_rfl
  g19 := by kernel_rfl
  i0 := by kernel_rfl
  i2 := by kernel_rfl
  i3 := by kernel_rfl
  i4 := by kernel_rfl
  i5 := by kernel_rfl
  i9 := by kernel_rfl
  i20 := by kernel_rfl
  i37 := by kernel_rfl
  i46 := by kernel_rfl
  i51 := by kernel_rfl
  i53 := by kernel_rfl
  i171 := by kernel_rfl
  i173 := by kernel_rfl
  i212 := by kernel_rfl
  i232 := by kernel_rfl
  i233 := by kernel_rfl
  m17 := by kernel_rfl
  m18 := by kernel_rfl
  m19 := by kernel_rfl }
open Go.RowKit Go.Sort Go.Lib in
theorem Tryd.strconv_Itoa (n : Int) (h0 : -9223372036854775808 ≤ n) (h1 : n ≤ 9223372036854775807) (w : World) (htab : Lib.TabIs Tryd.prog w "internal/strconv.uint64pow10" .u64 Lib.pow10Tab) :
    Calls Tryd.prog 78 #[.int .i64 n] w fun e w' => e = .returned (.string ⟨(Lib.itoa n).toArray⟩) ∧ ∃ k os, w' = grow (w.drewN k) os := Any.strconv_Itoa Tryd.laysM171 n h0 h1 w htab
end Go.Proofs
namespace Go.Proofs.YtpeebjnfmlfocaaDoor.Th
open Go.RowKit Go.Proofs.YtpeebjnfmlfocaaDoorW.PrintWords Go.Proofs.YtpeebjnfmlfocaaDoorW.PrintLast Go.Proofs.YtpeebjnfmlfocaaDoorW.PrintMore
set_option linter.unusedVariables false
def hexL (l : List Int) : List UInt8 := l.flatMap fun x => [dg (x / 16), dg (x % 16)]
def hex_Text.f (l : List Int) : Option ByteArray := if l.all (fun x => 0 ≤ x && x ≤ 255) && decide (l.length ≤ 1000000) then some ⟨(hexL l).toArray⟩ else none
theorem C_int_at {k : IntKind} {w : World} {A : Option Addr} {n : Nat} {xs : List Int} (h : (Kd.int k).C w A n xs) (j : Nat) (hj : j < n) :
    ∃ ad, A = some ad ∧ w.cell? (ad.add j) = some (.int k (xs.getD j 0)) := by
  obtain ⟨ad, c, e, hl, hK, hc⟩ := Kd.C_get h 0 (j : Int) (by omega) (by omega)
  refine ⟨ad, e, ?_⟩
  have hK' : c = [.int k (xs.getD j 0)] := hK
  subst hK'
  have h2 : w.cell? (ad.add (j * 1 + 0)) = some (.int k (xs.getD j 0)) := hc 0 _ rfl
  simpa using h2
theorem hexL_len (l : List Int) : (hexL l).length = 2 * l.length := by
  induction l with
  | nil => rfl
  | cons x l ih => simp [hexL] at ih ⊢; omega
theorem hexL_snoc (l : List Int) (k : Nat) (h : k < l.length) : hexL (l.take (k + 1)) = hexL (l.take k) ++ [dg (l.getD k 0 / 16), dg (l.getD k 0 % 16)] := by
  rw [List.take_succ_eq_append_getElem h]
  simp only [hexL, List.flatMap_append, List.flatMap_cons, List.flatMap_nil, List.append_nil]
  simp [h]
theorem start_builder (w : World) : Lib.IsBuilder 117 5 w.heap.size w.heap.size (Lib.byteCells []) (w.alloc (.cells #[.pointer none, .slice none 0 0] 117)) :=
  .inl ⟨Nat.le_refl _, _, heap_alloc_new w _, World.ownsRow_nil _ _ _ _, by simp [Value.ownBlock]⟩
set_option maxHeartbeats 1000000 in
theorem hex_Text.calls (A0 : Option Addr) (c0 : Nat) (l0 : List Int) (r : ByteArray) (w : World) (hr0 : Kd.C (Kd.int .u8) w A0 l0.length l0) (hc0 : l0.length ≤ c0) (h : hex_Text.f l0 = some r) :
    Calls Tryd.prog 79 #[.slice A0 l0.length c0] w fun e w' => e = .returned (.string r) ∧ Below w.heap.size w w' := by
  unfold hex_Text.f at h
  split at h
  · rename_i hb
    rw [Option.some.injEq] at h
    subst h
    simp only [Bool.and_eq_true, decide_eq_true_eq, List.all_eq_true] at hb
    obtain ⟨hb0, hn⟩ := hb
    have hb : Hid (∀ x ∈ l0, 0 ≤ x ∧ x ≤ 255) := hb0
    clear hb0
    have hr : Hid (Kd.C (Kd.int .u8) w A0 l0.length l0) := hr0
    clear hr0
    have hst := start_builder w
    go_enter Tryd.func79, Tryd.ntmps79
    go_wp2
    go_loopw [8] (fun i wr => ∃ k : Nat, k ≤ l0.length ∧ i = .int .i64 k ∧ Lib.IsBuilder 117 5 w.heap.size w.heap.size (Lib.byteCells (hexL (l0.take k))) wr ∧ Below w.heap.size w wr) (fun i _ => l0.length - (intOf i).toNat)
    case atStart => exact ⟨0, by omega, rfl, hst, (Below.refl _ _).alloc (Nat.le_refl _) _⟩
    case round =>
      obtain ⟨k, hk, rfl, hB, hw⟩ := hrel
      clear hst
      have hlen := hexL_len (l0.take k)
      have hlen2 : (l0.take k).length ≤ k := List.length_take_le _ _
      have hsz := hw.size
      by_cases hlt : k < l0.length
      · obtain ⟨ad, rfl, hcell⟩ := C_int_at (Kd.C_below hr hw) k hlt
        obtain ⟨x, hx⟩ : ∃ x, x = l0.getD k 0 := ⟨_, rfl⟩
        have hx1 : 0 ≤ x ∧ x ≤ 255 := by rw [hx]; refine hb _ ?_; rw [List.getD_eq_getElem?_getD, List.getElem?_eq_getElem hlt]; exact List.getElem_mem hlt
        rw [← hx] at hcell
        have HX : Hid (x = l0.getD k 0) := hx
        clear hx
        go_wp2_with (first
          | (go_at_call 75; refine (Bld.writeByte _ _ _ _ _ hB (by simp [Lib.byteCells]; omega) hsz).mono ?_; rintro e w2 ⟨rfl, hB2, hb2⟩)
          | (go_at_call 75; refine (Bld.writeByte _ _ _ _ _ (.inr hB2) (by simp [Lib.byteCells]; omega) (by have := hb2.size; omega)).mono ?_; rintro e w3 ⟨rfl, hB3, hb3⟩))
        go_roundw
        case rel =>
          refine ⟨k + 1, by omega, by go_num, .inr ?_, (hw.trans hb2).trans hb3⟩
          rw [hexL_snoc _ _ hlt, ← HX.out]
          have e1 := dg_at (x / 16) (by show _ < 16; omega)
          have e2 := dg_at (x % 16) (by show _ < 16; omega)
          unfold hexD at e1 e2
          rw [e1, e2] at hB3
          simpa [Lib.byteCells] using hB3
        case measure => simp [intOf]; omega
      · go_wp2_with (go_at_call 76; refine (Tryd.Builder_String_any _ _ _ _ hB hsz).mono ?_; rintro e w2 ⟨rfl, hb2⟩)
        go_ret
        refine ⟨?_, hw.trans hb2⟩
        rw [List.take_of_length_le (by omega)]
        rfl
  · simp at h
end Go.Proofs.YtpeebjnfmlfocaaDoor.Th
