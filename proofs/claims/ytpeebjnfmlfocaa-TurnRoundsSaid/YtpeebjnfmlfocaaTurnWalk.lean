/- The walk of TurnRounds: the law's Go text returns true for every input and writes nothing that was there. No condition. -/
import Derived.Test.YtpeebjnfmlfocaaProg
import Derived.WalkKit
import Derived.RowKit3
import Derived.Handy
import Derived.WalkSpells
import Derived.OwnWalk
import Derived.OpenShut
import Derived.Laws.OwnMore
import Derived.Deep.RegionHeld3
import Derived.Deep.DeepCutAuto
namespace Go.Proofs.Ytpeebjnfmlfocaa.TR
open Go.RowKit
set_option maxHeartbeats 1000000

theorem max2i (k k' : IntKind) (x y : Int) : Builtin.max2 (.int k x) (.int k' y) = pure (.int k (if x < y then y else x)) := by simp only [Builtin.max2, gt_iff_lt]
theorem min2i (k k' : IntKind) (x y : Int) : Builtin.min2 (.int k x) (.int k' y) = pure (.int k (if y < x then y else x)) := by simp only [Builtin.min2]
theorem maxi (ats : Array TypeId) (ty : TypeId) (a b : Value) : Builtin.max_ ats ty #[a, b] = (Builtin.max2 a b >>= fun s => pure s) := by simp only [Builtin.max_, List.foldlM_cons, List.foldlM_nil]
theorem mini (ats : Array TypeId) (ty : TypeId) (a b : Value) : Builtin.min_ ats ty #[a, b] = (Builtin.min2 a b >>= fun s => pure s) := by simp only [Builtin.min_, List.foldlM_cons, List.foldlM_nil]
attribute [local go_sem] max2i min2i maxi mini

theorem within_any (n lo hi : Int) (w : World) :
    Calls Try.prog 19 #[.int .i64 n, .int .i64 lo, .int .i64 hi] w fun e w' => e = .returned (.bool (decide (lo ≤ n) && decide (n ≤ hi))) ∧ w' = w := by
  go_enter Try.func19, Try.ntmps19
  go_wp2
  · go_ret; simp_all
  · go_ret; simp; omega

def near (n lo hi : Int) : Int := if hi < (if n < lo then lo else n) then hi else (if n < lo then lo else n)

theorem near_any (n lo hi : Int) (w : World) :
    Calls Try.prog 20 #[.int .i64 n, .int .i64 lo, .int .i64 hi] w fun e w' => e = .returned (.int .i64 (near n lo hi)) ∧ w' = w := by
  go_enter Try.func20, Try.ntmps20
  go_wp2
  all_goals (go_ret; simp [near, *]; try omega)

theorem near_bd (n lo hi : Int) (h : lo ≤ hi) : lo ≤ near n lo hi ∧ near n lo hi ≤ hi := by unfold near; omega

theorem turn_any (s tau views base j : Int) (seed : Value) (a : Option Addr) (len cap : Nat) (r v : Int) (w : World)
    (hl : 1 ≤ len) (hl2 : len ≤ 255) (hr : 1 ≤ r) (hr2 : r ≤ 2147483648) (hv : 0 ≤ v) (hv2 : v ≤ 1048576) :
    Calls Try.prog 8 #[.agg #[.int .u8 s, .int .i64 tau, .int .i64 views, .int .i64 base, .int .i64 j, seed, .slice a len cap], .int .i64 r, .int .i64 v] w
      fun e w' => e = .returned (.tuple #[.int .i64 ((r + v) % len), .int .i64 0]) ∧ Below w.heap.size w w' := by
  go_enter Try.func8, Try.ntmps8
  go_wp2_with (go_at_call 19; refine (within_any _ _ _ _).mono ?_; rintro e w' ⟨rfl, rfl⟩)
  go_ret2
  exact ⟨rfl, by go_grown⟩

theorem wait_any (s tau views base j : Int) (seed : Value) (a : Option Addr) (len cap : Nat) (v : Int) (w : World) :
    Calls Try.prog 9 #[.agg #[.int .u8 s, .int .i64 tau, .int .i64 views, .int .i64 base, .int .i64 j, seed, .slice a len cap], .int .i64 v] w
      fun e w' => e = .returned (.int .i64 (near base 1 1048576 * (near v 0 1048576 + 1))) ∧ Below w.heap.size w w' := by
  have h1 := near_bd base 1 1048576 (by omega)
  have h2 := near_bd v 0 1048576 (by omega)
  have h3 : 0 ≤ near base 1 1048576 * (near v 0 1048576 + 1) := Int.mul_nonneg (by omega) (by omega)
  have h4 : near base 1 1048576 * (near v 0 1048576 + 1) ≤ 1048576 * 1048577 := Int.mul_le_mul h1.2 (by omega) (by omega) (by omega)
  go_enter Try.func9, Try.ntmps9
  go_wp2_with (go_at_call 20; refine (near_any _ _ _ _).mono ?_; rintro e w' ⟨rfl, rfl⟩)
  go_ret
  exact ⟨rfl, by go_grown⟩


theorem Try.info80 : (Try.prog.info? 80).map (fun i => (i.zero, i.size, i.bytes)) = some (some (.agg #[.slice none 0 0, .int .i64 0]), 2, 32) := by kernel_rfl
theorem Try.info4 : (Try.prog.info? 4).map (fun i => (i.zero, i.size, i.bytes)) = some (some (.bool false), 1, 1) := by kernel_rfl

theorem mk24 (k : IntKind) (n : Nat) (hn : n ≤ 255) (w : World) : (Instr.makeSlice 24 (.int k n) (.int k n)).run Try.prog w =
    .ok (.slice (some ⟨w.heap.size, 0, none⟩) n n) (w.alloc (.cells (madeCells #[.slice none 0 0, .int .i64 0] (n * 2)) 80)) := by
  obtain ⟨i0, hi, hz0, hz1, hz2⟩ := info_parts Try.info80
  have := run_make (P := Try.prog) w 24 80 i0 _ Try.underlying24 hi hz0 k k n n (by omega) (by omega) (by rw [hz2]; omega) (by omega)
  rw [this, hz1]; rfl

theorem mk28 (k : IntKind) (n : Nat) (hn : n ≤ 255) (w : World) : (Instr.makeSlice 28 (.int k n) (.int k n)).run Try.prog w =
    .ok (.slice (some ⟨w.heap.size, 0, none⟩) n n) (w.alloc (.cells (madeCells #[.bool false] (n * 1)) 4)) := by
  obtain ⟨i0, hi, hz0, hz1, hz2⟩ := info_parts Try.info4
  have := run_make (P := Try.prog) w 28 4 i0 _ Try.underlying28 hi hz0 k k n n (by omega) (by omega) (by rw [hz2]; omega) (by omega)
  rw [this, hz1]; rfl

theorem awake_any (w : World) : Calls Try.prog 7 #[] w fun e w' => e = .returned (.bool true) ∧ Below w.heap.size w w' := by
  have hmk : ∀ w : World, (Instr.makeSlice 24 (.int .i64 4) (.int .i64 4)).run Try.prog w = .ok (.slice (some ⟨w.heap.size, 0, none⟩) 4 4) (w.alloc (.cells (madeCells #[.slice none 0 0, .int .i64 0] (4 * 2)) 80)) := mk24 .i64 4 (by omega)
  go_enter Try.func7, Try.ntmps7
  go_wp2_with (first
    | (go_at_call 8; refine (turn_any _ _ _ _ _ _ _ _ _ _ _ _ (by omega) (by omega) (by omega) (by omega) (by omega) (by omega)).mono ?_; rintro e w' ⟨rfl, hb⟩)
    | (go_at_call 9; refine (wait_any _ _ _ _ _ _ _ _ _ _ _).mono ?_; rintro e w' ⟨rfl, hb2⟩))
  go_ret
  have h1 := hb.size
  simp at h1
  exact ⟨by simp [near], (((Below.refl _ w).alloc (Nat.le_refl _) _).trans (hb.mono (by simp))).trans (hb2.mono (by omega))⟩

/-- whose turn it is, i views on -/
def wh (r v n : Nat) (i : Nat) : Nat := (r + (v + i)) % n
def wt (n m : Nat) : Nat := n * (m + 1)

theorem turn_nat (s tau views base j : Int) (seed : Value) (a : Option Addr) (n cap : Nat) (r v k : Nat) (w : World)
    (hl : 1 ≤ n) (hl2 : n ≤ 255) (hr : 1 ≤ r) (hr2 : r ≤ 2147483648) (hv2 : v + k ≤ 1048576) :
    Calls Try.prog 8 #[.agg #[.int .u8 s, .int .i64 tau, .int .i64 views, .int .i64 base, .int .i64 j, seed, .slice a n cap], .int .i64 r, .int .i64 (v + k)] w
      fun e w' => e = .returned (.tuple #[.int .i64 (wh r v n k : Nat), .int .i64 0]) ∧ Below w.heap.size w w' := by
  refine (turn_any s tau views base j seed a n cap r (v + k) w hl hl2 (by omega) (by omega) (by omega) (by omega)).mono ?_
  rintro e w' ⟨rfl, hb⟩
  refine ⟨?_, hb⟩
  have : ((r : Int) + (v + k)) % n = (wh r v n k : Nat) := by unfold wh; simp
  rw [this]

theorem wait_nat (s tau views j : Int) (seed : Value) (a : Option Addr) (len cap : Nat) (n m : Nat) (V : Int) (w : World) (hn : 1 ≤ n) (hn2 : n ≤ 255) (hm : m ≤ 1048576) (hV : V = m) :
    Calls Try.prog 9 #[.agg #[.int .u8 s, .int .i64 tau, .int .i64 views, .int .i64 n, .int .i64 j, seed, .slice a len cap], .int .i64 V] w
      fun e w' => e = .returned (.int .i64 (wt n m : Nat)) ∧ Below w.heap.size w w' := by
  refine (wait_any s tau views n j seed a len cap V w).mono ?_
  rintro e w' ⟨rfl, hb⟩
  refine ⟨?_, hb⟩
  have e1 : near n 1 1048576 = n := by unfold near; omega
  have e2 : near V 0 1048576 = m := by unfold near; omega
  rw [e1, e2]
  simp [wt]

theorem wt_lt (n m : Nat) (h : 1 ≤ n) : wt n m < wt n (m + 1) := by
  unfold wt
  have : n * (m + 1 + 1) = n * (m + 1) + n := by rw [Nat.mul_succ]
  omega

def met (r v n : Nat) : Nat → List Value
  | 0 => List.replicate n (.bool false)
  | k + 1 => (met r v n k).set (wh r v n k) (.bool true)

theorem met_len (r v n k : Nat) : (met r v n k).length = n := by
  induction k with
  | zero => simp [met]
  | succ k ih => simp [met, ih]

theorem wh_ne (r v n i k : Nat) (h : i < k) (hk : k < n) : wh r v n i ≠ wh r v n k := by
  unfold wh
  intro e
  have h1 := Nat.div_add_mod (r + (v + i)) n
  have h2 := Nat.div_add_mod (r + (v + k)) n
  rw [e] at h1
  have h3 : n * ((r + (v + k)) / n) - n * ((r + (v + i)) / n) = k - i := by omega
  rw [← Nat.mul_sub] at h3
  have h4 : (r + (v + k)) / n - (r + (v + i)) / n = 0 := by
    rcases Nat.eq_zero_or_pos ((r + (v + k)) / n - (r + (v + i)) / n) with h | h
    · exact h
    · have := Nat.le_mul_of_pos_right n h
      omega
  rw [h4] at h3
  omega

theorem met_at (r v n k j : Nat) (h : ∀ i, i < k → wh r v n i ≠ j) (hj : j < n) : (met r v n k)[j]? = some (.bool false) := by
  induction k with
  | zero => simp [met, hj]
  | succ k ih =>
    rw [met, List.getElem?_set_ne (h k (by omega))]
    exact ih fun i hi => h i (by omega)

structure St (w : World) (B n r v k : Nat) (wr : World) : Prop where
  below : Below w.heap.size w wr
  base : w.heap.size ≤ B
  c : wr.heap[B + 1]? = some (.cells #[.int .u8 0, .int .i64 0, .int .i64 0, .int .i64 n, .int .i64 0, .slice none 0 0, .slice (some ⟨B, 0, none⟩) n n] 27 (0, 0))
  m : wr.ownsRow B 4 1 (.slice (some ⟨B + 2, 0, none⟩) n n) n (met r v n k)

theorem St.next {w : World} {B n r v k : Nat} {wr w1 : World} (h : St w B n r v k wr) (hb : Below wr.heap.size wr w1) : St w B n r v k w1 := by
  have hl := (h.m.lt (B + 2) rfl).2
  refine ⟨h.below.trans (hb.mono h.below.size), h.base, ?_, h.m.kept (row := none) ⟨hb.os, hb.tape, hb.output, hb.size, fun k hk _ => hb.block k hk⟩ (by simp [Value.ownBlock])⟩
  rw [hb.block (B + 1) (by omega)]
  exact h.c

theorem St.drew {w : World} {B n r v k : Nat} {wr : World} (h : St w B n r v k wr) : St w B n r v k wr.drew := h.next (Below.refl _ _).drew

theorem St.cells {w : World} {B n r v k : Nat} {wr : World} (h : St w B n r v k wr) :
    wr.cell? ⟨B + 1, 0, none⟩ = some (.int .u8 0) ∧ wr.cell? ⟨B + 1, 1, none⟩ = some (.int .i64 0) ∧ wr.cell? ⟨B + 1, 2, none⟩ = some (.int .i64 0) ∧
    wr.cell? ⟨B + 1, 3, none⟩ = some (.int .i64 n) ∧ wr.cell? ⟨B + 1, 4, none⟩ = some (.int .i64 0) ∧ wr.cell? ⟨B + 1, 5, none⟩ = some (.slice none 0 0) ∧
    wr.cell? ⟨B + 1, 6, none⟩ = some (.slice (some ⟨B, 0, none⟩) n n) := by
  refine ⟨?_, ?_, ?_, ?_, ?_, ?_, ?_⟩ <;> (rw [cell_of_row wr (B + 1) _ _ _ _ h.c]; rfl)

theorem St.free {w : World} {B n r v k : Nat} {wr : World} (h : St w B n r v k wr) (hk : k < n) :
    wr.cell? ⟨B + 2, wh r v n k, none⟩ = some (.bool false) ∧ wr.frozen? ⟨B + 2, wh r v n k, none⟩ = false := by
  have hj : wh r v n k < n := Nat.mod_lt _ (by omega)
  refine ⟨?_, h.m.frozenAt _⟩
  rw [h.m.cellAt _ (by omega)]
  exact met_at r v n k _ (fun i hi => wh_ne r v n i k hi hk) hj

theorem St.stored {w : World} {B n r v k : Nat} {wr : World} (h : St w B n r v k wr) : St w B n r v (k + 1) (wr.setCell ⟨B + 2, wh r v n k, none⟩ (.bool true)) := by
  have hb := h.base
  refine ⟨h.below.setCell (by show _ ≤ B + 2; omega) _, h.base, ?_, (h.m.stored _ _).1⟩
  rw [Below.heap_setCell _ _ _ _ (by show B + 1 ≠ B + 2; omega)]
  exact h.c

theorem st_start {w w1 : World} (n r v : Nat) (hb : Below w.heap.size w w1) (hn : n ≤ 255) :
    St w w1.heap.size n r v 0 (((w1.alloc (.cells (madeCells #[.slice none 0 0, .int .i64 0] (n * 2)) 80)).alloc (.cells #[.int .u8 0, .int .i64 0, .int .i64 0, .int .i64 n, .int .i64 0, .slice none 0 0, .slice (some ⟨w1.heap.size, 0, none⟩) n n] 27)).alloc (.cells (madeCells #[.bool false] (n * 1)) 4)) := by
  have := hb.size
  refine ⟨((hb.alloc this _).alloc (by simp; omega) _).alloc (by simp; omega) _, this, ?_, ?_⟩
  · rw [Below.heap_alloc _ _ _ (by simp)]
    have := heap_alloc_new (w1.alloc (.cells (madeCells #[.slice none 0 0, .int .i64 0] (n * 2)) 80)) (.cells #[.int .u8 0, .int .i64 0, .int .i64 0, .int .i64 n, .int .i64 0, .slice none 0 0, .slice (some ⟨w1.heap.size, 0, none⟩) n n] 27)
    simpa using this
  · have := World.ownsRow_lit (base := w1.heap.size) (e := 4) (size := 1) ((w1.alloc (.cells (madeCells #[.slice none 0 0, .int .i64 0] (n * 2)) 80)).alloc (.cells #[.int .u8 0, .int .i64 0, .int .i64 0, .int .i64 n, .int .i64 0, .slice none 0 0, .slice (some ⟨w1.heap.size, 0, none⟩) n n] 27)) (madeCells #[.bool false] (n * 1)) n (by simp; omega) (by unfold maxLen; omega) (size_madeCells _ _)
    rw [toList_madeCells_one, Nat.mul_one] at this
    simpa [met] using this

theorem walk_easy (a0 : Int) (a1 : Int) (a2 : Int) (hz : a0 = 0 ∨ a1 < 1 ∨ 2147483648 < a1) (w : World) :
    Calls Try.prog 3 #[.int .u8 a0, .int .i64 a1, .int .u16 a2] w fun e w' => e = .returned (.bool true) ∧ Below w.heap.size w w' := by
  go_enter Try.func3, Try.ntmps3
  go_wp2_with (first
    | (go_at_call 7; refine (awake_any _).mono ?_; rintro e w' ⟨rfl, hb⟩))
  all_goals (go_ret; exact ⟨rfl, hb⟩)

theorem walk_main (n r v : Nat) (hn0 : 1 ≤ n) (hn1 : n ≤ 255) (hr0 : 1 ≤ r) (hr1 : r ≤ 2147483648) (hv1 : v ≤ 65535) (w : World) :
    Calls Try.prog 3 #[.int .u8 n, .int .i64 r, .int .u16 v] w fun e w' => e = .returned (.bool true) ∧ Below w.heap.size w w' := by
  have hmk := mk24 .u8 n hn1
  have hmk2 := mk28 .u8 n hn1
  have hd0 : ((n : Int) == 0) = false := by simp; omega
  have hd1 : decide ((r : Int) < 1) = false := by simp; omega
  have hd2 : decide ((2147483648 : Int) < r) = false := by simp; omega
  go_enter Try.func3, Try.ntmps3
  go_wp2_with (first
    | (go_at_call 7; refine (awake_any _).mono ?_; rintro e w1 ⟨rfl, hb⟩))
  have hs0 := st_start n r v hb hn1
  rw [Nat.mul_one] at hs0
  obtain ⟨B, hB⟩ : ∃ B, B = w1.heap.size := ⟨_, rfl⟩
  go_loopw [33] (fun i wr => ∃ k : Nat, k ≤ n ∧ i = .int .i64 k ∧ St w w1.heap.size n r v k wr) (fun i _ => n - (intOf i).toNat)
  case atStart => exact ⟨0, by omega, rfl, hs0⟩
  case round =>
    obtain ⟨k, hk, rfl, hs⟩ := hrel
    clear hs0 hb hmk hmk2
    by_cases hlt : k < n
    · have hwl : wh r v n k < n := Nat.mod_lt _ (by omega)
      have hsi : IntKind.i64.wrap ((v : Int) + k) = v + k := IntWalk.i64_in _ (by omega)
      obtain ⟨c0, c1, c2, c3, c4, c5, c6⟩ := hs.cells
      go_wp2_with (first
        | (go_at_call 8; refine (turn_nat _ _ _ _ _ _ _ n _ r v k _ hn0 hn1 hr0 hr1 (by omega)).mono ?_; rintro e w2 ⟨rfl, hb2⟩; have hs2 := hs.next hb2; clear c0 c1 c2 c3 c4 c5 c6; obtain ⟨m1, m2⟩ := hs2.free hlt))
      have hs3 := hs2.stored
      clear m1 m2 hs hs2
      generalize (w2.setCell _ _) = w3 at hs3
      obtain ⟨c0, c1, c2, c3, c4, c5, c6⟩ := hs3.cells
      have hs5 : IntKind.i64.wrap (v : Int) = v := IntWalk.i64_in _ (by omega)
      have hs4 : IntKind.i64.wrap ((v : Int) + k + 1) = v + k + 1 := IntWalk.i64_in _ (by omega)
      go_region_held3 (fun w' => St w w1.heap.size n r v (k + 1) w' ∧ w'.cell? ⟨w1.heap.size + 1, 0, none⟩ = some (.int .u8 0) ∧ w'.cell? ⟨w1.heap.size + 1, 1, none⟩ = some (.int .i64 0) ∧ w'.cell? ⟨w1.heap.size + 1, 2, none⟩ = some (.int .i64 0) ∧
          w'.cell? ⟨w1.heap.size + 1, 3, none⟩ = some (.int .i64 n) ∧ w'.cell? ⟨w1.heap.size + 1, 4, none⟩ = some (.int .i64 0) ∧ w'.cell? ⟨w1.heap.size + 1, 5, none⟩ = some (.slice none 0 0) ∧
          w'.cell? ⟨w1.heap.size + 1, 6, none⟩ = some (.slice (some ⟨w1.heap.size, 0, none⟩) n n))
        (first | exact ⟨hs3, hs3.cells⟩ | exact ⟨hs3.drew, hs3.drew.cells⟩ | exact ⟨hs3', hs3'.cells⟩)
        (first
          | (go_at_call 9; refine (wait_nat _ _ _ _ _ _ _ _ n (v + k) _ _ hn0 hn1 (by omega) (by simp)).mono ?_; rintro e w4 ⟨rfl, hb4⟩; have hs3' := hs3.drew.next hb4)
          | (go_at_call 9; refine (wait_nat _ _ _ _ _ _ _ _ n (v + k + 1) _ _ hn0 hn1 (by omega) (by simp)).mono ?_; rintro e w4 ⟨rfl, hb4⟩; have hs3' := hs3'.next hb4))
      have hw := wt_lt n (v + k) hn0
      clear hsi hs4 hs5
      go_wp2
      go_roundw
      case rel => exact ⟨k + 1, by omega, by go_num, by assumption⟩
      case measure => simp [intOf]; omega
    · go_wp2
      go_ret
      exact ⟨rfl, hs.below⟩

theorem walk (a0 : Int) (a1 : Int) (a2 : Int) (w0 : (Lit.int .u8 a0).wf = true) (w1 : (Lit.int .i64 a1).wf = true) (w2 : (Lit.int .u16 a2).wf = true) (w : World) :
    Calls Try.prog 3 #[.int .u8 a0, .int .i64 a1, .int .u16 a2] w fun e w' => e = .returned (.bool true) ∧ Below w.heap.size w w' := by
  have b0 := bounds_u8 w0
  have b2 := bounds_u16 w2
  by_cases hz : a0 = 0 ∨ a1 < 1 ∨ 2147483648 < a1
  · exact walk_easy a0 a1 a2 hz w
  · obtain ⟨n, rfl⟩ : ∃ n : Nat, a0 = n := ⟨a0.toNat, by omega⟩
    obtain ⟨r, rfl⟩ : ∃ n : Nat, a1 = n := ⟨a1.toNat, by omega⟩
    obtain ⟨v, rfl⟩ : ∃ n : Nat, a2 = n := ⟨a2.toNat, by omega⟩
    exact walk_main n r v (by omega) (by omega) (by omega) (by omega) (by omega) w

end Go.Proofs.Ytpeebjnfmlfocaa.TR
