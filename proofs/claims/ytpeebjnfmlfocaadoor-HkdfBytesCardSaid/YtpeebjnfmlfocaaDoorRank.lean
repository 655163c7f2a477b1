/- credit.Rank at this program: its closure, least, Rank. Conditions: bytes in range, at most 2^30 of them; the table of constants stands. -/
import Derived.Test.YtpeebjnfmlfocaaDoorDSum
import Derived.Test.YtpeebjnfmlfocaaDoorEight
import Derived.Test.YtpeebjnfmlfocaaDoorCmp
namespace Go.Proofs.YtpeebjnfmlfocaaDoor.Dig
open Go.RowKit Go.UW Go.Proofs.YtpeebjnfmlfocaaDoorW.PrintWords Go.Proofs.YtpeebjnfmlfocaaDoorW.PrintLast Go.Proofs.YtpeebjnfmlfocaaDoorW.PrintMore
set_option linter.unusedVariables false

/-- the least of the sums of l with 1 .. q + 1 behind it -/
def rkN (l : List Int) : Nat → List Int
  | 0 => sha (l ++ bigE 1)
  | q + 1 => if lessB (sha (l ++ bigE (q + 2))) (rkN l q) then sha (l ++ bigE (q + 2)) else rkN l q
theorem sha_len (l : List Int) : (sha l).length = 32 := by
  unfold sha
  rw [outB_len, blocks_len]
theorem rkN_len (l : List Int) (q : Nat) : (rkN l q).length = 32 := by
  induction q with
  | zero => exact sha_len _
  | succ q ih => rw [rkN]; split; exact sha_len _; exact ih

set_option maxHeartbeats 1000000 in
theorem of_any (p : Addr) (A : Option Addr) (m c : Nat) (ys : List Int) (i : Nat) (w : World) (hG : Glob w) (hp : w.cell? p = some (.slice A m c)) (hC : (Kd.int .u8).C w A m ys) (hmc : m ≤ c) (hy : ∀ x ∈ ys, 0 ≤ x ∧ x ≤ 255) (hl : m ≤ 1073741824) (hi : i < 9223372036854775808) :
    Calls Tryd.prog 45 #[.int .i64 (i : Int), .pointer (some p)] w fun e w' => ∃ v : Value, e = .returned v ∧ Kd.R (Kd.int .u8) 5 w' w.heap.size (fun _ => True) v (sha (ys ++ bigE i)) ∧ Below w.heap.size w w' := by
  have hm := Kd.C_len hC
  have hgl := hG.lt
  have HM := Lib.hid hm
  have HC := Lib.hid hC
  have HY := Lib.hid hy
  have HE := Lib.hid (bigE_len i)
  clear hm hC hy
  go_enter Tryd.func45, Tryd.ntmps45
  go_wp2_with (first
    | (go_at_call 46; (with_reducible refine (new_any _).mono ?_); rintro e w1 ⟨g, rfl, hH, hb⟩; have HH := Lib.hid hH; clear hH; have hp1 := (hb.cell (World.block_lt_of_cell? w _ hp)).trans hp)
    | (go_at_call 47; (with_reducible refine (write_any w.heap.size g [] ys A m c w1 (hG.below hb) hgl HH.out (Kd.C_below HC.out hb) hmc HY.out (by have := HM.out; simp only [List.length_nil]; omega)).mono ?_); rintro e w2 ⟨rfl, hH2, hb2⟩; have HH2 := Lib.hid hH2; clear hH2)
    | (go_at_call 41; (with_reducible refine (eight_any i hi _).mono ?_); rintro e w3 ⟨v3, rfl, hO3, hb3⟩; obtain ⟨A3, c3, rfl⟩ := Kd.R_slice hO3; have HO3 := Lib.hid hO3; clear hO3)
    | (go_at_call 47; (with_reducible refine (write_any w.heap.size g ([] ++ ys) (bigE i) A3 (bigE i).length c3 w3 (hG.below ((hb.trans hb2).trans (hb3.mono (hb.trans hb2).size))) hgl (HH2.out.below hb3 (Nat.le_refl _)) (Kd.R_reads' HO3.out).2.2 (Kd.R_reads' HO3.out).2.1 (bigE_rg i) (by have := HM.out; have := HE.out; simp only [List.length_nil, List.length_append]; omega)).mono ?_); rintro e w4 ⟨rfl, hH4, hb4⟩; have HH4 := Lib.hid hH4; clear hH4)
    | (go_at_call 48; (with_reducible refine (sum_any w.heap.size g ([] ++ ys ++ bigE i) w4 (hG.below (((hb.trans hb2).trans (hb3.mono (hb.trans hb2).size)).trans hb4)) HH4.out).mono ?_); rintro e w5 ⟨v, rfl, hO, hb5⟩))
  go_ret
  have h12 := ((hb.trans hb2).trans (hb3.mono (hb.trans hb2).size)).trans hb4
  exact ⟨v, rfl, Kd.R_lower hO h12.size, h12.trans (hb5.mono h12.size)⟩

theorem of_two (p : Addr) (A : Option Addr) (m c : Nat) (ys : List Int) (q : Nat) (w : World) (hG : Glob w) (hp : w.cell? p = some (.slice A m c)) (hC : (Kd.int .u8).C w A m ys) (hmc : m ≤ c) (hy : ∀ x ∈ ys, 0 ≤ x ∧ x ≤ 255) (hl : m ≤ 1073741824) (hq : q < 4611686018427387904) :
    Calls Tryd.prog 45 #[.int .i64 ((q : Int) + 2), .pointer (some p)] w fun e w' => ∃ v : Value, e = .returned v ∧ Kd.R (Kd.int .u8) 5 w' w.heap.size (fun _ => True) v (sha (ys ++ bigE (q + 2))) ∧ Below w.heap.size w w' := of_any p A m c ys (q + 2) w hG hp hC hmc hy hl (by omega)
theorem of_one (p : Addr) (A : Option Addr) (m c : Nat) (ys : List Int) (w : World) (hG : Glob w) (hp : w.cell? p = some (.slice A m c)) (hC : (Kd.int .u8).C w A m ys) (hmc : m ≤ c) (hy : ∀ x ∈ ys, 0 ≤ x ∧ x ≤ 255) (hl : m ≤ 1073741824) :
    Calls Tryd.prog 45 #[.int .i64 1, .pointer (some p)] w fun e w' => ∃ v : Value, e = .returned v ∧ Kd.R (Kd.int .u8) 5 w' w.heap.size (fun _ => True) v (sha (ys ++ bigE 1)) ∧ Below w.heap.size w w' := of_any p A m c ys 1 w hG hp hC hmc hy hl (by decide)
set_option maxHeartbeats 2000000 in
set_option maxRecDepth 100000 in
theorem least_any (p : Addr) (A : Option Addr) (m c : Nat) (ys : List Int) (n : Nat) (w : World) (hG : Glob w) (hp : w.cell? p = some (.slice A m c)) (hC : (Kd.int .u8).C w A m ys) (hmc : m ≤ c) (hy : ∀ x ∈ ys, 0 ≤ x ∧ x ≤ 255) (hl : m ≤ 1073741824) (hn1 : 1 ≤ n) (hn : n ≤ 4096) :
    Calls Tryd.prog 49 #[.int .i64 (n : Int), .func (.func 45) #[] #[.pointer (some p)], .func (.func 15) #[] #[]] w fun e w' => ∃ v : Value, e = .returned v ∧ Kd.R (Kd.int .u8) 5 w' w.heap.size (fun _ => True) v (rkN ys (n - 1)) ∧ Below w.heap.size w w' := by
  have HC := Lib.hid hC
  have HY := Lib.hid hy
  have HP := Lib.hid hp
  have H1 := Lib.hid hn1
  clear hC hy hn1 hp
  go_enter Tryd.func49, Tryd.ntmps49
  go_wp2_with (go_at_call 45; (with_reducible refine (of_one p A m c ys w hG HP.out HC.out hmc HY.out hl).mono ?_); rintro e w1 ⟨v1, rfl, hO1, hb1⟩; have HO1 := Lib.hid hO1; clear hO1)
  go_loopg [7, 8] (n - 1) (fun gk v7 v8 wr => ∃ (q : Nat), q + 1 + gk = n ∧ v8 = .int .i64 ((q : Int) + 2) ∧ Hid (Kd.R (Kd.int .u8) 5 wr w.heap.size (fun _ => True) v7 (rkN ys q)) ∧ Below w.heap.size w wr)
  case atStart => exact ⟨0, by have := H1.out; omega, rfl, HO1, hb1⟩
  case round =>
    obtain ⟨q, hq, rfl, hO, hb⟩ := hrel
    have HQ := Lib.hid hq
    obtain ⟨A2, c2, rfl⟩ := Kd.R_slice hO.out
    clear HO1 hb1
    by_cases hlt : (q : Int) + 2 ≤ (n : Int)
    · have hdec : decide ((q : Int) + 2 ≤ (n : Int)) = true := decide_eq_true hlt
      have eq : IntKind.i64.wrap ((q : Int) + 2 + 1) = (q : Int) + 1 + 2 := by rw [IntWalk.i64_in _ (by omega)]; omega
      clear hq
      go_wp2_with (first
        | (go_at_call 45; (with_reducible refine (of_two p A m c ys q wr (hG.below hb) ((hb.cell (World.block_lt_of_cell? w _ HP.out)).trans HP.out) (Kd.C_below HC.out hb) hmc HY.out hl (by have := H1.out; omega)).mono ?_); rintro e w2 ⟨v2, rfl, hO2, hb2⟩; obtain ⟨A3, c3, rfl⟩ := Kd.R_slice hO2; have HO2 := Lib.hid hO2; clear hO2)
        | (go_at_call 15; (with_reducible refine (less_any w2 _ _ _ _ _ _ _ (rkN ys q) (Kd.R_reads' HO2.out).2.2 (Kd.R_reads' (Kd.R_below hO.out hb2)).2.2).mono ?_); rintro e w3 ⟨rfl, rfl⟩; cases hless : lessB (sha (ys ++ bigE (q + 2))) (rkN ys q)))
      · go_roundg (n - 1 - (q + 1))
        case measure => have := HQ.out; omega
        case rel =>
          refine ⟨q + 1, by have := HQ.out; have := H1.out; omega, by go_num, ?_, hb.trans (hb2.mono hb.size)⟩
          rw [rkN, hless, if_neg (by decide)]
          exact Kd.R_below hO.out hb2
      · go_wp2
        go_roundg (n - 1 - (q + 1))
        case measure => have := HQ.out; omega
        case rel =>
          refine ⟨q + 1, by have := HQ.out; have := H1.out; omega, by go_num, ?_, hb.trans (hb2.mono hb.size)⟩
          rw [rkN, hless, if_pos rfl]
          exact Kd.R_lower HO2.out hb.size
    · have hqn : q = n - 1 := by have := H1.out; omega
      have hdec : decide ((q : Int) + 2 ≤ (n : Int)) = false := decide_eq_false hlt
      clear hq
      go_wp2
      go_ret
      rw [hqn] at hO
      exact ⟨_, rfl, hO.out, hb⟩

def rankV (ys : List Int) (n : Int) : List Int := if n < 1 ∨ n > 4096 then [] else rkN ys (n.toNat - 1)
def rankOk (n : Int) : Bool := decide (1 ≤ n ∧ n ≤ 4096)
set_option maxHeartbeats 2000000 in
theorem rank_any (A : Option Addr) (m c : Nat) (ys : List Int) (n : Int) (w : World) (hG : Glob w) (hC : (Kd.int .u8).C w A m ys) (hmc : m ≤ c) (hy : ∀ x ∈ ys, 0 ≤ x ∧ x ≤ 255) (hl : m ≤ 1073741824) :
    Calls Tryd.prog 17 #[.slice A m c, .int .i64 n] w fun e w' => ∃ v : Value, e = .returned (.tuple #[v, .bool (rankOk n)]) ∧ Kd.R (Kd.int .u8) 5 w' w.heap.size (fun _ => True) v (rankV ys n) ∧ Below w.heap.size w w' := by
  have HC := Lib.hid hC
  have HY := Lib.hid hy
  clear hC hy
  by_cases h1 : n < 1
  · have hd : decide (n < 1) = true := decide_eq_true h1
    have e1 : rankV ys n = [] := by unfold rankV; rw [if_pos (Or.inl h1)]
    have e2 : rankOk n = false := decide_eq_false (by omega)
    rw [e1, e2]
    go_enter Tryd.func17, Tryd.ntmps17
    go_wp2
    go_ret2
    exact ⟨_, rfl, Kd.R_nil _ _ _ _ _, (Below.refl _ _).alloc (Nat.le_refl _) _⟩
  · have hd : decide (n < 1) = false := decide_eq_false h1
    by_cases h2 : n > 4096
    · have hd2 : decide (n > 4096) = true := decide_eq_true h2
      have e1 : rankV ys n = [] := by unfold rankV; rw [if_pos (Or.inr h2)]
      have e2 : rankOk n = false := decide_eq_false (by omega)
      rw [e1, e2]
      go_enter Tryd.func17, Tryd.ntmps17
      go_wp2
      go_ret2
      exact ⟨_, rfl, Kd.R_nil _ _ _ _ _, (Below.refl _ _).alloc (Nat.le_refl _) _⟩
    · have hd2 : decide (n > 4096) = false := decide_eq_false h2
      obtain ⟨k, rfl⟩ : ∃ k : Nat, n = (k : Int) := ⟨n.toNat, by omega⟩
      have e1 : rankV ys (k : Int) = rkN ys (k - 1) := by unfold rankV; rw [if_neg (by omega)]; rfl
      have e2 : rankOk (k : Int) = true := decide_eq_true (by omega)
      rw [e1, e2]
      have hk1 : 1 ≤ k := by omega
      have hk2 : k ≤ 4096 := by omega
      have hB : Below w.heap.size w (w.alloc (.cells #[.slice A m c] 22)) := (Below.refl _ _).alloc (Nat.le_refl _) _
      have hcell : (w.alloc (.cells #[.slice A m c] 22)).cell? ⟨w.heap.size, 0, none⟩ = some (.slice A m c) := by unfold World.cell?; rw [heap_alloc_new]; rfl
      have HB := Lib.hid hB
      have HCE := Lib.hid hcell
      clear hB hcell e1 e2
      go_enter Tryd.func17, Tryd.ntmps17
      go_wp2_with (go_at_call 49; (with_reducible refine (least_any ⟨w.heap.size, 0, none⟩ A m c ys k _ (hG.below HB.out) HCE.out (Kd.C_below HC.out HB.out) hmc HY.out hl hk1 hk2).mono ?_); rintro e w1 ⟨v1, rfl, hO1, hb1⟩; have HO1 := Lib.hid hO1; clear hO1)
      go_ret2
      exact ⟨_, rfl, Kd.R_lower HO1.out HB.out.size, HB.out.trans (hb1.mono HB.out.size)⟩
end Go.Proofs.YtpeebjnfmlfocaaDoor.Dig
