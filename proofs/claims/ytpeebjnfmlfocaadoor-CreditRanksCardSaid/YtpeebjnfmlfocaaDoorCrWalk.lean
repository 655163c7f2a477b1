/- CreditRanks: the law's function answers true. Condition: the table of constants stands. -/
import Derived.Test.YtpeebjnfmlfocaaDoorCrAwake
import Derived.Test.YtpeebjnfmlfocaaDoorWTab
import Derived.Test.YtpeebjnfmlfocaaDoorPrint4
namespace Go.Proofs.YtpeebjnfmlfocaaDoor.Dig
open Go.RowKit Go.UW Go.Proofs.YtpeebjnfmlfocaaDoorW.PrintWords Go.Proofs.YtpeebjnfmlfocaaDoorW.PrintLast Go.Proofs.YtpeebjnfmlfocaaDoorW.PrintMore Go.Proofs.YtpeebjnfmlfocaaDoor.Ref05
set_option linter.unusedVariables false
set_option linter.unusedSimpArgs false

def cr5.T : Bool × List (List Nat × List Nat) := (true, [([], []), ([0], [0]), ([], []), ([1, 2], [1, 2]), ([], []), ([4], [4]), ([], []), ([5, 6, 3], [5, 6]), ([3, 7, 7], [3, 7]), ([8], [8]), ([9, 8], [9]), ([10], [10]), ([11, 10], [10, 11]), ([10], [10]), ([13, 10], [10, 13]), ([12, 14, 10, 10], [10, 12, 14]), ([10], [10]), ([16, 10], [10, 16]), ([10], [10]), ([18, 10], [10, 18]), ([17, 19, 15, 10], [10, 17, 19]), ([15, 20, 10], [10, 15, 20]), ([10, 21], [10, 21])])
def cr5.B : List Nat := [0, 1, 0, 7, 0, 16, 0, 127, 255, 511, 1023, 2047, 4095, 2047, 10239, 32767, 2047, 67583, 2047, 264191, 1048575, 2097151, 4194303]
theorem cr5.tab : rtab .any (opsOf Tryd.f3 5) = cr5.T := by kernel_rfl
theorem cr5.bits : waitsOk cr5.T.2 cr5.B = true := by kernel_rfl

theorem msgL_len (l : List Int) (r : Int) : (msgL l r).length = l.length + 14 := by simp [msgL, bigE_len]
theorem rank_bad (A : Option Addr) (m c : Nat) (ys : List Int) (n : Int) (w : World) (hG : Glob w) (hC : (Kd.int .u8).C w A m ys) (hmc : m ≤ c) (hy : ∀ x ∈ ys, 0 ≤ x ∧ x ≤ 255) (hl : m ≤ 1073741824) (hn : n < 1 ∨ n > 4096) :
    Calls Tryd.prog 17 #[.slice A m c, .int .i64 n] w fun e w' => ∃ v : Value, e = .returned (.tuple #[v, .bool false]) ∧ Kd.R (Kd.int .u8) 5 w' w.heap.size (fun _ => True) v [] ∧ Below w.heap.size w w' := by
  have := rank_any A m c ys n w hG hC hmc hy hl
  have e1 : rankV ys n = [] := by unfold rankV; rw [if_pos hn]
  have e2 : rankOk n = false := decide_eq_false (by omega)
  rw [e1, e2] at this
  exact this
theorem rank_good (A : Option Addr) (m c : Nat) (ys : List Int) (k : Nat) (w : World) (hG : Glob w) (hC : (Kd.int .u8).C w A m ys) (hmc : m ≤ c) (hy : ∀ x ∈ ys, 0 ≤ x ∧ x ≤ 255) (hl : m ≤ 1073741824) (h1 : 1 ≤ k) (h2 : k ≤ 4096) :
    Calls Tryd.prog 17 #[.slice A m c, .int .i64 (k : Int)] w fun e w' => ∃ v : Value, e = .returned (.tuple #[v, .bool true]) ∧ Kd.R (Kd.int .u8) 5 w' w.heap.size (fun _ => True) v (rkN ys (k - 1)) ∧ Below w.heap.size w w' := by
  have := rank_any A m c ys (k : Int) w hG hC hmc hy hl
  have e1 : rankV ys (k : Int) = rkN ys (k - 1) := by unfold rankV; rw [if_neg (by omega)]; rfl
  have e2 : rankOk (k : Int) = true := decide_eq_true (by omega)
  rw [e1, e2] at this
  exact this
set_option maxHeartbeats 4000000 in
set_option maxRecDepth 100000 in
theorem credit_walk (A0 : Option Addr) (c0 : Nat) (z0 : List Int) (A1 : Option Addr) (c1 : Nat) (z1 : List Int) (r n : Int) (w : World) (hG : Glob w) (h0 : (Kd.int .u8).C w A0 z0.length z0) (hc0 : z0.length ≤ c0) (hy0 : ∀ x ∈ z0, 0 ≤ x ∧ x ≤ 255) (h1 : (Kd.int .u8).C w A1 z1.length z1) (hc1 : z1.length ≤ c1) (hy1 : ∀ x ∈ z1, 0 ≤ x ∧ x ≤ 255) (hr : r < 9223372036854775808) :
    Calls Tryd.prog 3 #[.agg #[.slice A0 z0.length c0, .slice A1 z1.length c1], .int .i64 r, .int .i64 n] w fun e w' => e = .returned (.bool true) ∧ Below w.heap.size w w' := by
  have H0 := Lib.hid h0
  have H1 := Lib.hid h1
  have Y0 := Lib.hid hy0
  have Y1 := Lib.hid hy1
  clear h0 h1 hy0 hy1
  have hbb : Below w.heap.size w (w.alloc (.cells #[.slice A0 z0.length c0, .slice A1 z1.length c1] 23)) := (Below.refl _ _).alloc (Nat.le_refl _) _
  have x0 : (w.alloc (.cells #[.slice A0 z0.length c0, .slice A1 z1.length c1] 23)).cell? ⟨w.heap.size, 0, none⟩ = some (.slice A0 z0.length c0) := by unfold World.cell?; rw [heap_alloc_new]; rfl
  have x1 : (w.alloc (.cells #[.slice A0 z0.length c0, .slice A1 z1.length c1] 23)).cell? ⟨w.heap.size, 1, none⟩ = some (.slice A1 z1.length c1) := by unfold World.cell?; rw [heap_alloc_new]; rfl
  by_cases g0 : (z0.length : Int) > 200
  · have d0 := decide_eq_true g0
    go_enter Tryd.func3, Tryd.ntmps3
    go_wp2_with (go_at_call 11; (with_reducible refine (awake21 _ (hG.below hbb)).mono ?_); rintro e w1 ⟨rfl, hb1⟩
                 have y0 := (hb1.cell (World.block_lt_of_cell? _ _ x0)).trans x0)
    go_ret
    exact ⟨rfl, hbb.trans (hb1.mono hbb.size)⟩
  have d0 := decide_eq_false g0
  by_cases g1 : (z1.length : Int) > 200
  · have d1 := decide_eq_true g1
    go_enter Tryd.func3, Tryd.ntmps3
    go_wp2_with (go_at_call 11; (with_reducible refine (awake21 _ (hG.below hbb)).mono ?_); rintro e w1 ⟨rfl, hb1⟩
                 have y0 := (hb1.cell (World.block_lt_of_cell? _ _ x0)).trans x0
                 have y1 := (hb1.cell (World.block_lt_of_cell? _ _ x1)).trans x1)
    go_ret
    exact ⟨rfl, hbb.trans (hb1.mono hbb.size)⟩
  have d1 := decide_eq_false g1
  have hl0 : z0.length ≤ 200 := by omega
  have hl1 : z1.length ≤ 200 := by omega
  have HSM := Lib.hid (Same_self 1000 (msgL z0 r) (by rw [msgL_len]; omega) (by rw [msgL_len]; omega))
  have HLS := Lib.hid (Less_f 1000 z0 z1 Y0.out Y1.out (by omega) (by omega))
  have X0 := Lib.hid x0
  have X1 := Lib.hid x1
  have HBB0 := Lib.hid hbb
  clear x0 x1 hbb
  go_enter Tryd.func3, Tryd.ntmps3
  go_wp2_with (go_at_call 11; (with_reducible refine (awake21 _ (hG.below HBB0.out)).mono ?_); rintro e w1 ⟨rfl, hb1⟩
               have y0 := (hb1.cell (World.block_lt_of_cell? _ _ X0.out)).trans X0.out
               have y1 := (hb1.cell (World.block_lt_of_cell? _ _ X1.out)).trans X1.out)
  have HX0 : Hid (w1.drew.cell? ⟨w.heap.size, 0, none⟩ = some (.slice A0 z0.length c0)) := y0
  have HX1 : Hid (w1.drew.cell? ⟨w.heap.size, 1, none⟩ = some (.slice A1 z1.length c1)) := y1
  have HBA : Hid (Below w.heap.size w w1.drew) := (HBB0.out.trans (hb1.mono HBB0.out.size)).trans ((Drawn0.step (Drawn0.refl _) 1).below.mono (HBB0.out.trans (hb1.mono HBB0.out.size)).size)
  clear y0 y1 hb1
  with_reducible skip
  refine start_ (n := 23) (S := fun w' => w'.cell? ⟨w.heap.size, 0, none⟩ = some (.slice A0 z0.length c0) ∧ w'.cell? ⟨w.heap.size, 1, none⟩ = some (.slice A1 z1.length c1)) (ds := []) #[false, false, false, false, false, false, false, false, false, false, false, false, false, false, false, false, false, false, false, false, false, false, false] (by kernel_rfl) rfl rfl ⟨HX0.out, HX1.out⟩ (fun hHeld => ?_); refine with_tabW cr5.tab cr5.bits (fun HT_ HW_ => ?_)
  generalize w1.drew = wA at HBA hHeld ⊢
  refine pure_ (i := 0) (N := some 21) (v := ?_) (a' := ?_) #[true, false, false, false, false, false, false, false, false, false, false, false, false, false, false, false, false, false, false, false, false, false, false] rfl rfl (any_of HT_.out (by kernel_rfl)) (fun _ _ _ h => h) (Or.inl ⟨by rfl, ?_⟩) ?_ ?_
  rotate_left
  · intro w'
    go_simp
    with_reducible rfl
  rotate_left
  · simp only [Act.put, List.setIfInBounds_toArray, List.set_cons_zero, List.set_cons_succ, i64_w, i32_w]
    rfl
  refine pure_ (i := 2) (N := some 23) (v := ?_) (a' := ?_) #[true, false, true, false, false, false, false, false, false, false, false, false, false, false, false, false, false, false, false, false, false, false, false] rfl rfl (any_of HT_.out (by kernel_rfl)) (fun _ _ _ h => h) (Or.inl ⟨by rfl, ?_⟩) ?_ ?_
  rotate_left
  · intro w'
    go_simp
    with_reducible rfl
  rotate_left
  · simp only [Act.put, List.setIfInBounds_toArray, List.set_cons_zero, List.set_cons_succ, i64_w, i32_w]
    rfl
  refine pure_ (i := 4) (N := some 25) (v := ?_) (a' := ?_) #[true, false, true, false, true, false, false, false, false, false, false, false, false, false, false, false, false, false, false, false, false, false, false] rfl rfl (any_of HT_.out (by kernel_rfl)) (fun _ _ _ h => h) (Or.inl ⟨by rfl, ?_⟩) ?_ ?_
  rotate_left
  · intro w'
    go_simp
    with_reducible rfl
  rotate_left
  · simp only [Act.put, List.setIfInBounds_toArray, List.set_cons_zero, List.set_cons_succ, i64_w, i32_w]
    rfl
  refine pure_ (i := 6) (N := some 27) (v := ?_) (a' := ?_) #[true, false, true, false, true, false, true, false, false, false, false, false, false, false, false, false, false, false, false, false, false, false, false] rfl rfl (any_of HT_.out (by kernel_rfl)) (fun _ _ _ h => h) (Or.inl ⟨by rfl, ?_⟩) ?_ ?_
  rotate_left
  · intro w'
    go_simp
    with_reducible rfl
  rotate_left
  · simp only [Act.put, List.setIfInBounds_toArray, List.set_cons_zero, List.set_cons_succ, i64_w, i32_w]
    rfl
  refine take_ (i := 1) (N := some 22) (v := ?_) (a' := ?_) #[true, true, true, false, true, false, true, false, false, false, false, false, false, false, false, false, false, false, false, false, false, false, false] rfl rfl (take_ofW HT_.out HW_.out (by kernel_rfl)) (fun _ _ _ h => h) (Or.inl ⟨by rfl, ?_⟩) hHeld ?_ ?_
  rotate_left
  · rintro w' ⟨s0, s1⟩
    go_simp
    with_reducible rfl
  rotate_left
  · simp only [Act.put, List.setIfInBounds_toArray, List.set_cons_zero, List.set_cons_succ, i64_w, i32_w]
    rfl
  refine take_ (i := 5) (N := some 26) (v := ?_) (a' := ?_) #[true, true, true, false, true, true, true, false, false, false, false, false, false, false, false, false, false, false, false, false, false, false, false] rfl rfl (take_ofW HT_.out HW_.out (by kernel_rfl)) (fun _ _ _ h => h) (Or.inl ⟨by rfl, ?_⟩) hHeld ?_ ?_
  rotate_left
  · rintro w' ⟨s0, s1⟩
    go_simp
    with_reducible rfl
  rotate_left
  · simp only [Act.put, List.setIfInBounds_toArray, List.set_cons_zero, List.set_cons_succ, i64_w, i32_w]
    rfl
  refine one_ (i := 3) (N := some 24) #[true, true, true, true, true, true, true, false, false, false, false, false, false, false, false, false, false, false, false, false, false, false, false] rfl rfl (one_of HT_.out (by kernel_rfl)) (by decide) (fun K hK => ?_)
  refine goes_ Tryd.func13 (by kernel_rfl) rfl #[.slice A0 z0.length c0, .int .i64 r] (by rfl) rfl rfl (by first | rfl | (simp only [List.map_toArray, List.map_cons, List.map_nil]; rfl)) ?_
  with_reducible refine (message_any A0 z0.length c0 z0 r wA (Kd.C_below H0.out HBA.out) hc0 (by omega) (by omega)).mono ?_
  rintro e wB ⟨v1, rfl, hO1, hb1⟩
  refine ⟨_, rfl, ?_⟩
  obtain ⟨A2, c2, rfl⟩ := Kd.R_slice hO1
  have HO1 := Lib.hid hO1
  have HBB := Lib.hid (HBA.out.trans (hb1.mono HBA.out.size))
  clear hO1
  refine hK.out _ _ ⟨(hb1.cell (World.block_lt_of_cell? _ _ hHeld.1)).trans hHeld.1, (hb1.cell (World.block_lt_of_cell? _ _ hHeld.2)).trans hHeld.2⟩ (fun hHeld => ?_)
  clear hK K
  refine norm_ (a' := ?_) ?_ ?_
  rotate_left
  · show Act.put _ (some 24) _ = _
    simp only [Act.put, List.setIfInBounds_toArray, List.set_cons_zero, List.set_cons_succ, i64_w, i32_w]
    rfl
  refine one_ (i := 7) (N := some 28) #[true, true, true, true, true, true, true, true, false, false, false, false, false, false, false, false, false, false, false, false, false, false, false] rfl rfl (one_of HT_.out (by kernel_rfl)) (by decide) (fun K hK => ?_)
  refine goes_ Tryd.func14 (by kernel_rfl) rfl #[.slice A0 z0.length c0, .int .i64 r] (by rfl) rfl rfl (by first | rfl | (simp only [List.map_toArray, List.map_cons, List.map_nil]; rfl)) ?_
  with_reducible refine (rmessage_any A0 z0.length c0 z0 r wB (Kd.C_below H0.out HBB.out) hc0 (by omega) (by omega)).mono ?_
  rintro e wC ⟨v2, rfl, hO2, hb2⟩
  refine ⟨_, rfl, ?_⟩
  obtain ⟨A3, c3, rfl⟩ := Kd.R_slice hO2
  have HO2 := Lib.hid hO2
  have HBC := Lib.hid (HBB.out.trans (hb2.mono HBB.out.size))
  clear hO2
  refine hK.out _ _ ⟨(hb2.cell (World.block_lt_of_cell? _ _ hHeld.1)).trans hHeld.1, (hb2.cell (World.block_lt_of_cell? _ _ hHeld.2)).trans hHeld.2⟩ (fun hHeld => ?_)
  clear hK K
  refine norm_ (a' := ?_) ?_ ?_
  rotate_left
  · show Act.put _ (some 28) _ = _
    simp only [Act.put, List.setIfInBounds_toArray, List.set_cons_zero, List.set_cons_succ, i64_w, i32_w]
    rfl
  refine one_ (i := 8) (N := some 29) #[true, true, true, true, true, true, true, true, true, false, false, false, false, false, false, false, false, false, false, false, false, false, false] rfl rfl (one_of HT_.out (by kernel_rfl)) (by decide) (fun K hK => ?_)
  refine goes_ Tryd.func12 (by kernel_rfl) rfl #[.slice A2 (msgL z0 r).length c2, .slice A3 (msgL z0 r).length c3] (by rfl) rfl rfl (by first | rfl | (simp only [List.map_toArray, List.map_cons, List.map_nil]; rfl)) ?_
  with_reducible refine (Print.cleromancyref01_Same.calls 1000 A2 c2 (msgL z0 r) A3 c3 (msgL z0 r) true wC (Kd.R_reads' (Kd.R_below HO1.out hb2)).2.2 (Kd.R_reads' HO1.out).2.1 (Kd.R_reads' HO2.out).2.2 (Kd.R_reads' HO2.out).2.1 HSM.out).mono ?_
  rintro e wD ⟨rfl, hd3⟩
  refine ⟨_, rfl, ?_⟩
  have hb3 := hd3.below
  have HBD := Lib.hid (HBC.out.trans (hb3.mono HBC.out.size))
  refine hK.out _ _ ⟨(hb3.cell (World.block_lt_of_cell? _ _ hHeld.1)).trans hHeld.1, (hb3.cell (World.block_lt_of_cell? _ _ hHeld.2)).trans hHeld.2⟩ (fun hHeld => ?_)
  clear hK K
  refine norm_ (a' := ?_) ?_ ?_
  rotate_left
  · show Act.put _ (some 29) _ = _
    simp only [Act.put, List.setIfInBounds_toArray, List.set_cons_zero, List.set_cons_succ, i64_w, i32_w]
    rfl
  refine pure_ (i := 9) (N := some 30) (v := ?_) (a' := ?_) #[true, true, true, true, true, true, true, true, true, true, false, false, false, false, false, false, false, false, false, false, false, false, false] rfl rfl (any_of HT_.out (by kernel_rfl)) (fun _ _ _ h => h) (Or.inl ⟨by rfl, ?_⟩) ?_ ?_
  rotate_left
  · intro w'
    go_simp
    with_reducible rfl
  rotate_left
  · simp only [Act.put, List.setIfInBounds_toArray, List.set_cons_zero, List.set_cons_succ, i64_w, i32_w]
    rfl
  refine pure_ (i := 10) (N := some 31) (v := ?_) (a' := ?_) #[true, true, true, true, true, true, true, true, true, true, true, false, false, false, false, false, false, false, false, false, false, false, false] rfl rfl (any_of HT_.out (by kernel_rfl)) (fun _ _ _ h => h) (Or.inl ⟨by rfl, ?_⟩) ?_ ?_
  rotate_left
  · intro w'
    go_simp
    with_reducible rfl
  rotate_left
  · simp only [Act.put, List.setIfInBounds_toArray, List.set_cons_zero, List.set_cons_succ, i64_w, i32_w]
    rfl
  refine pure_ (i := 11) (N := some 32) (v := ?_) (a' := ?_) #[true, true, true, true, true, true, true, true, true, true, true, true, false, false, false, false, false, false, false, false, false, false, false] rfl rfl (any_of HT_.out (by kernel_rfl)) (fun _ _ _ h => h) (Or.inl ⟨by rfl, ?_⟩) ?_ ?_
  rotate_left
  · intro w'
    go_simp
    with_reducible rfl
  rotate_left
  · simp only [Act.put, List.setIfInBounds_toArray, List.set_cons_zero, List.set_cons_succ, i64_w, i32_w]
    rfl
  refine pure_ (i := 13) (N := some 34) (v := ?_) (a' := ?_) #[true, true, true, true, true, true, true, true, true, true, true, true, false, true, false, false, false, false, false, false, false, false, false] rfl rfl (any_of HT_.out (by kernel_rfl)) (fun _ _ _ h => h) (Or.inl ⟨by rfl, ?_⟩) ?_ ?_
  rotate_left
  · intro w'
    go_simp
    with_reducible rfl
  rotate_left
  · simp only [Act.put, List.setIfInBounds_toArray, List.set_cons_zero, List.set_cons_succ, i64_w, i32_w]
    rfl
  refine pure_ (i := 16) (N := some 37) (v := ?_) (a' := ?_) #[true, true, true, true, true, true, true, true, true, true, true, true, false, true, false, false, true, false, false, false, false, false, false] rfl rfl (any_of HT_.out (by kernel_rfl)) (fun _ _ _ h => h) (Or.inl ⟨by rfl, ?_⟩) ?_ ?_
  rotate_left
  · intro w'
    go_simp
    with_reducible rfl
  rotate_left
  · simp only [Act.put, List.setIfInBounds_toArray, List.set_cons_zero, List.set_cons_succ, i64_w, i32_w]
    rfl
  refine pure_ (i := 18) (N := some 39) (v := ?_) (a' := ?_) #[true, true, true, true, true, true, true, true, true, true, true, true, false, true, false, false, true, false, true, false, false, false, false] rfl rfl (any_of HT_.out (by kernel_rfl)) (fun _ _ _ h => h) (Or.inl ⟨by rfl, ?_⟩) ?_ ?_
  rotate_left
  · intro w'
    go_simp
    with_reducible rfl
  rotate_left
  · simp only [Act.put, List.setIfInBounds_toArray, List.set_cons_zero, List.set_cons_succ, i64_w, i32_w]
    rfl
  refine take_ (i := 12) (N := some 33) (v := ?_) (a' := ?_) #[true, true, true, true, true, true, true, true, true, true, true, true, true, true, false, false, true, false, true, false, false, false, false] rfl rfl (take_ofW HT_.out HW_.out (by kernel_rfl)) (fun _ _ _ h => h) (Or.inl ⟨by rfl, ?_⟩) hHeld ?_ ?_
  rotate_left
  · rintro w' ⟨s0, s1⟩
    go_simp
    with_reducible rfl
  rotate_left
  · simp only [Act.put, List.setIfInBounds_toArray, List.set_cons_zero, List.set_cons_succ, i64_w, i32_w]
    rfl
  refine take_ (i := 14) (N := some 35) (v := ?_) (a' := ?_) #[true, true, true, true, true, true, true, true, true, true, true, true, true, true, true, false, true, false, true, false, false, false, false] rfl rfl (take_ofW HT_.out HW_.out (by kernel_rfl)) (fun _ _ _ h => h) (Or.inl ⟨by rfl, ?_⟩) hHeld ?_ ?_
  rotate_left
  · rintro w' ⟨s0, s1⟩
    go_simp
    with_reducible rfl
  rotate_left
  · simp only [Act.put, List.setIfInBounds_toArray, List.set_cons_zero, List.set_cons_succ, i64_w, i32_w]
    rfl
  refine take_ (i := 17) (N := some 38) (v := ?_) (a' := ?_) #[true, true, true, true, true, true, true, true, true, true, true, true, true, true, true, false, true, true, true, false, false, false, false] rfl rfl (take_ofW HT_.out HW_.out (by kernel_rfl)) (fun _ _ _ h => h) (Or.inl ⟨by rfl, ?_⟩) hHeld ?_ ?_
  rotate_left
  · rintro w' ⟨s0, s1⟩
    go_simp
    with_reducible rfl
  rotate_left
  · simp only [Act.put, List.setIfInBounds_toArray, List.set_cons_zero, List.set_cons_succ, i64_w, i32_w]
    rfl
  refine take_ (i := 19) (N := some 40) (v := ?_) (a' := ?_) #[true, true, true, true, true, true, true, true, true, true, true, true, true, true, true, false, true, true, true, true, false, false, false] rfl rfl (take_ofW HT_.out HW_.out (by kernel_rfl)) (fun _ _ _ h => h) (Or.inl ⟨by rfl, ?_⟩) hHeld ?_ ?_
  rotate_left
  · rintro w' ⟨s0, s1⟩
    go_simp
    with_reducible rfl
  rotate_left
  · simp only [Act.put, List.setIfInBounds_toArray, List.set_cons_zero, List.set_cons_succ, i64_w, i32_w]
    rfl
  refine one_ (i := 15) (N := some 36) #[true, true, true, true, true, true, true, true, true, true, true, true, true, true, true, true, true, true, true, true, false, false, false] rfl rfl (one_of HT_.out (by kernel_rfl)) (by decide) (fun K hK => ?_)
  refine goes_ Tryd.func15 (by kernel_rfl) rfl #[.slice A0 z0.length c0, .slice A1 z1.length c1] (by rfl) rfl rfl (by first | rfl | (simp only [List.map_toArray, List.map_cons, List.map_nil]; rfl)) ?_
  with_reducible refine (less_any wD A0 A1 z0.length c0 z1.length c1 z0 z1 (Kd.C_below H0.out HBD.out) (Kd.C_below H1.out HBD.out)).mono ?_
  rintro e wE ⟨rfl, rfl⟩
  refine ⟨_, rfl, ?_⟩
  refine hK.out _ _ hHeld (fun hHeld => ?_)
  clear hK K
  refine norm_ (a' := ?_) ?_ ?_
  rotate_left
  · show Act.put _ (some 36) _ = _
    simp only [Act.put, List.setIfInBounds_toArray, List.set_cons_zero, List.set_cons_succ, i64_w, i32_w]
    rfl
  refine one_ (i := 20) (N := some 41) #[true, true, true, true, true, true, true, true, true, true, true, true, true, true, true, true, true, true, true, true, true, false, false] rfl rfl (one_of HT_.out (by kernel_rfl)) (by decide) (fun K hK => ?_)
  refine goes_ Tryd.func16 (by kernel_rfl) rfl #[.slice A0 z0.length c0, .slice A1 z1.length c1] (by rfl) rfl rfl (by first | rfl | (simp only [List.map_toArray, List.map_cons, List.map_nil]; rfl)) ?_
  with_reducible refine (Print.cleromancyref21_Less.calls 1000 A0 c0 z0 A1 c1 z1 (lessB z0 z1) wE (Kd.C_below H0.out HBD.out) hc0 (Kd.C_below H1.out HBD.out) hc1 HLS.out).mono ?_
  rintro e wF ⟨rfl, hd4⟩
  refine ⟨_, rfl, ?_⟩
  have hb4 := hd4.below
  have HBF := Lib.hid (HBD.out.trans (hb4.mono HBD.out.size))
  refine hK.out _ _ ⟨(hb4.cell (World.block_lt_of_cell? _ _ hHeld.1)).trans hHeld.1, (hb4.cell (World.block_lt_of_cell? _ _ hHeld.2)).trans hHeld.2⟩ (fun hHeld => ?_)
  clear hK K
  refine norm_ (a' := ?_) ?_ ?_
  rotate_left
  · show Act.put _ (some 41) _ = _
    simp only [Act.put, List.setIfInBounds_toArray, List.set_cons_zero, List.set_cons_succ, i64_w, i32_w]
    rfl
  refine pure_ (i := 21) (N := some 42) (v := ?_) (a' := ?_) #[true, true, true, true, true, true, true, true, true, true, true, true, true, true, true, true, true, true, true, true, true, true, false] rfl rfl (any_of HT_.out (by kernel_rfl)) (fun _ _ _ h => h) (Or.inl ⟨by rfl, ?_⟩) ?_ ?_
  rotate_left
  · intro w'
    go_simp
    with_reducible rfl
  rotate_left
  · simp only [Act.put, List.setIfInBounds_toArray, List.set_cons_zero, List.set_cons_succ, i64_w, i32_w]
    rfl
  refine pure_ (i := 22) (N := some 43) (v := ?_) (a' := ?_) #[true, true, true, true, true, true, true, true, true, true, true, true, true, true, true, true, true, true, true, true, true, true, true] rfl rfl (any_of HT_.out (by kernel_rfl)) (fun _ _ _ h => h) (Or.inl ⟨by rfl, ?_⟩) ?_ ?_
  rotate_left
  · intro w'
    go_simp
    with_reducible rfl
  rotate_left
  · simp only [Act.put, List.setIfInBounds_toArray, List.set_cons_zero, List.set_cons_succ, i64_w, i32_w]
    rfl
  refine done_ (done_of HT_.out (by kernel_rfl)) ?_
  have z0c := hHeld.1
  clear hHeld HSM HLS
  have hbf := HBF.out
  by_cases gn : n < 1 ∨ n > 4096
  · by_cases gn1 : n < 1
    · have e1 := decide_eq_true gn1
      clear hb1 hb2 hb3 hb4
      go_wp2_with (go_at_call 17; (with_reducible refine (rank_bad A0 z0.length c0 z0 n wF (hG.below hbf) (Kd.C_below H0.out hbf) hc0 Y0.out (by omega) gn).mono ?_); rintro e wG ⟨v, rfl, hO, hb5⟩; obtain ⟨A4, c4, rfl⟩ := Kd.R_slice hO)
      go_ret
      exact ⟨rfl, hbf.trans (hb5.mono hbf.size)⟩
    · have e1 := decide_eq_false gn1
      have e2 : decide (n > 4096) = true := decide_eq_true (by omega)
      clear hb1 hb2 hb3 hb4
      go_wp2_with (go_at_call 17; (with_reducible refine (rank_bad A0 z0.length c0 z0 n wF (hG.below hbf) (Kd.C_below H0.out hbf) hc0 Y0.out (by omega) gn).mono ?_); rintro e wG ⟨v, rfl, hO, hb5⟩; obtain ⟨A4, c4, rfl⟩ := Kd.R_slice hO)
      go_ret
      exact ⟨rfl, hbf.trans (hb5.mono hbf.size)⟩
  obtain ⟨k, rfl⟩ : ∃ k : Nat, n = (k : Int) := ⟨n.toNat, by omega⟩
  have e1 : decide ((k : Int) < 1) = false := decide_eq_false (by omega)
  have e2 : decide ((k : Int) > 4096) = false := decide_eq_false (by omega)
  by_cases g30 : (k : Int) > 30
  · have e3 := decide_eq_true g30
    clear hb1 hb2 hb3 hb4
    go_wp2_with (go_at_call 17; (with_reducible refine (rank_good A0 z0.length c0 z0 k wF (hG.below hbf) (Kd.C_below H0.out hbf) hc0 Y0.out (by omega) (by omega) (by omega)).mono ?_); rintro e wG ⟨v, rfl, hO, hb5⟩; obtain ⟨A4, c4, rfl⟩ := Kd.R_slice hO)
    go_ret
    exact ⟨rfl, hbf.trans (hb5.mono hbf.size)⟩
  have e3 := decide_eq_false g30
  clear hb1 hb2 hb3 hb4
  have HRK := Lib.hid (Rank_f 2000 z0 (by omega) Y0.out k (by omega) (by omega) (by omega))
  have HSR := Lib.hid (Same_self 1000 (rkN z0 (k - 1)) (by rw [rkN_len]; decide) (by rw [rkN_len]; decide))
  go_wp2_with (first
    | (go_at_call 17; (with_reducible refine (rank_good A0 z0.length c0 z0 k wF (hG.below hbf) (Kd.C_below H0.out hbf) hc0 Y0.out (by omega) (by omega) (by omega)).mono ?_); rintro e wG ⟨v, rfl, hO, hb5⟩; obtain ⟨A4, c4, rfl⟩ := Kd.R_slice hO; have HO4 := Lib.hid hO; clear hO; have z0g := (hb5.cell (World.block_lt_of_cell? _ _ z0c)).trans z0c; have hbg := hbf.trans (hb5.mono hbf.size))
    | (go_at_call 18; (with_reducible refine (Print.cleromancyref21_Rank.calls 2000 A0 c0 z0 (k : Int) (rkN z0 (k - 1)) wG (Kd.C_below H0.out hbg) hc0 HRK.out).mono ?_); rintro e wH ⟨v, rfl, hO, hb6⟩; obtain ⟨A5, c5, rfl⟩ := Kd.R_slice hO; have HO5 := Lib.hid hO; clear hO; have hbh := hbg.trans (hb6.mono hbg.size))
    | (go_at_call 12; (with_reducible refine (Print.cleromancyref01_Same.calls 1000 A4 c4 (rkN z0 (k - 1)) A5 c5 (rkN z0 (k - 1)) true wH (Kd.R_reads' (Kd.R_below HO4.out hb6)).2.2 (Kd.R_reads' HO4.out).2.1 (Kd.R_reads' HO5.out).2.2 (Kd.R_reads' HO5.out).2.1 HSR.out).mono ?_); rintro e wI ⟨rfl, hd7⟩; have hb7 := hd7.below))
  go_ret
  exact ⟨rfl, hbh.trans (hb7.mono hbh.size)⟩
end Go.Proofs.YtpeebjnfmlfocaaDoor.Dig
