/- ShowTexts' walk: any letter has the document's text, if it is good. Conditions: bytes in range; the table of powers stands. Printed by gen/shl.py. -/
import Derived.Test.YtpeebjnfmlfocaaDoorSx18
import Derived.Test.YtpeebjnfmlfocaaDoorSx19
import Derived.Test.YtpeebjnfmlfocaaDoorSx20
import Derived.Test.YtpeebjnfmlfocaaDoorSx21
import Derived.Test.YtpeebjnfmlfocaaDoorSx22
import Derived.Laws.Rows
namespace Go.Proofs.YtpeebjnfmlfocaaDoor.Sh
open Go.RowKit Go.Proofs.YtpeebjnfmlfocaaDoor.Th Go.Proofs.YtpeebjnfmlfocaaDoorW.PrintWords Go.Proofs.YtpeebjnfmlfocaaDoorW.PrintLast Go.Proofs.YtpeebjnfmlfocaaDoorW.PrintMore
set_option maxRecDepth 100000
set_option linter.unusedVariables false
set_option linter.unusedSimpArgs false
theorem RGood_any (x : Let) (a : Ad) (w : World) (hx : LetC w x a) : Calls Tryd.prog 33 #[letV x a] w fun e w' => e = .returned (.bool (goodL x)) ∧ Below w.heap.size w w' := by
  by_cases h1 : x.k = 1
  · exact RGood1_any x a w hx h1
  · by_cases h2 : x.k = 2
    · exact RGood2_any x a w hx h2
    · by_cases h3 : x.k = 3
      · exact RGood3_any x a w hx h3
      · by_cases h4 : x.k = 4
        · exact RGood4_any x a w hx h4
        · exact RGood0_any x a w hx ⟨h1, h2, h3, h4⟩
theorem exec_load_row {P : Program} {o : Oper} {a : Act} {w : World} (ty : TypeId) (x : Operand) (ho : o.op = .load ty x) (g : Nat) (hx : a.eval x = .pointer (some ⟨g, 0, none⟩)) (t : TypeId) (cs : Array Value) (d : TypeDesc) (hg : w.heap[g]? = some (.cells cs t))
    (hu : P.underlying ty = some d) (hd : (match d with | .struct _ | .array _ _ => true | _ => false) = true) (hi : (P.info? ty).map (·.size) = some cs.size) : (execOp a.eval o).run P w = .ok (.value (.agg cs)) w := by
  unfold execOp
  simp only [ho, hx, Instr.loadAt, Instr.sureAddr, Sem.run_bind, Sem.run_pure, Result.andThen_ok, run_loadVar_row w g t ty cs (0, 0) d hg hu hd hi]
theorem wpList_load_row_g {P : Program} {ops : Array Oper} {rest : List Oper} {o : Oper} {a : Act} {w : World} {Q : Exit → Act → World → Prop} (hw : Region.wanted o (yielded ops a.tmps) = true) (ty : TypeId) (x : Operand) (ho : o.op = .load ty x)
    (g : Nat) (hx : a.eval x = .pointer (some ⟨g, 0, none⟩)) (t : TypeId) (cs : Array Value) (d : TypeDesc) (hg : w.heap[g]? = some (.cells cs t))
    (hu : P.underlying ty = some d) (hd : (match d with | .struct _ | .array _ _ => true | _ => false) = true) (hi : (P.info? ty).map (·.size) = some cs.size)
    (h : wpList P ops Q rest (a.put o.dst (.agg cs)) w) : wpList P ops Q (o :: rest) a w :=
  wpList_step fun K hK => by rw [if_pos hw]; exact wp_load_row ty x ho g hx t cs (0, 0) d hg hu hd hi (hK _ _ h)
set_option maxHeartbeats 2000000 in
theorem awake_any (w : World) (hT : Tab w) : Calls Tryd.prog 28 #[] w fun e w' => e = .returned (.bool true) ∧ Below w.heap.size w w' := by
  obtain ⟨S, hS⟩ : ∃ S, S = (⟨#[97, 115, 107, 32, 55]⟩ : ByteArray) := ⟨_, rfl⟩
  have HTX : Hid (Calls Tryd.prog 30 #[.agg #[.int .i64 3, .int .i64 0, .int .i64 0, .int .i64 0, .int .i64 0, .int .i64 0, .int .i64 0, .slice none 0 0, .slice none 0 0, .slice none 0 0, .int .i64 0, .int .i64 0, .int .i64 0, .int .i64 0, .slice none 0 0, .slice none 0 0, .int .i64 7, .slice none 0 0]] w fun e w' => e = .returned (.tuple #[.string S, .int .i64 0]) ∧ Below w.heap.size w w') := Lib.hid (by
    have := Text_any x7 a7 w hT (x7_C w) x7_by
    rw [x7_S, ← hS] at this
    exact this)
  clear hT
  go_enter Tryd.func28, Tryd.ntmps28
  rw [← hS]
  clear hS
  go_wp2_with (go_at_call 30; (with_reducible refine (HTX.out).mono ?_); rintro e w2 ⟨rfl, hb2⟩)
  go_ret
  exact ⟨by first | rfl | simp, hb2⟩
def ShL.T : Bool × List (List Nat × List Nat) := (true, [([], []), ([0], [0]), ([], []), ([2, 1], [2]), ([1, 3], [1, 3])])
def ShL.B : List Nat := [0, 1, 0, 7, 15]
theorem ShL.tab : rtab .any (opsOf Tryd.f7 6) = ShL.T := by kernel_rfl
theorem ShL.bits : waitsOk ShL.T.2 ShL.B = true := by kernel_rfl
set_option maxHeartbeats 8000000 in
theorem texts_few (x : Let) (a : Ad) (w : World) (hT : Tab w) (hx : LetC w x a) (hy : byL x) (hf : ∀ (w : World), LetC w x a → Calls Tryd.prog 29 #[letV x a] w fun e w' => e = .returned (.bool false) ∧ Below w.heap.size w w') :
    Calls Tryd.prog 7 #[letV x a] w fun e w' => e = .returned (.bool true) ∧ Below w.heap.size w w' := by
  have HF := Lib.hid hf
  clear hf
  have HX0 := Lib.hid hx
  have HY := Lib.hid hy
  have HT := Lib.hid hT
  clear hx hy hT
  show Calls Tryd.prog 7 #[.agg #[.int .i64 x.k, .int .i64 x.pv, .int .i64 x.pf, .int .i64 x.px, .int .i64 x.v.f0, .int .i64 x.v.f1, .int .i64 x.v.f2, .slice a.A7 x.v.f3.length a.c7, .slice a.A8 x.v.f4.length a.c8, .slice a.A9 x.ps.length a.c9, .int .i64 x.vr, .int .i64 x.vv, .int .i64 x.vp, .int .i64 x.vf, .slice a.A14 x.vi.length a.c14, .slice a.A15 x.vs.length a.c15, .int .i64 x.r, .slice a.A17 x.es.length a.c17]] w _
  go_enter Tryd.func7, Tryd.ntmps7
  go_upto_region 1 with (fail)
  obtain ⟨wx, hwx⟩ : ∃ wx, wx = w.alloc (.cells #[.int .i64 x.k, .int .i64 x.pv, .int .i64 x.pf, .int .i64 x.px, .int .i64 x.v.f0, .int .i64 x.v.f1, .int .i64 x.v.f2, .slice a.A7 x.v.f3.length a.c7, .slice a.A8 x.v.f4.length a.c8, .slice a.A9 x.ps.length a.c9, .int .i64 x.vr, .int .i64 x.vv, .int .i64 x.vp, .int .i64 x.vf, .slice a.A14 x.vi.length a.c14, .slice a.A15 x.vs.length a.c15, .int .i64 x.r, .slice a.A17 x.es.length a.c17] 54) := ⟨_, rfl⟩
  rw [← hwx]
  have HL0 := Lib.hid (show wx.heap[w.heap.size]? = some (.cells #[.int .i64 x.k, .int .i64 x.pv, .int .i64 x.pf, .int .i64 x.px, .int .i64 x.v.f0, .int .i64 x.v.f1, .int .i64 x.v.f2, .slice a.A7 x.v.f3.length a.c7, .slice a.A8 x.v.f4.length a.c8, .slice a.A9 x.ps.length a.c9, .int .i64 x.vr, .int .i64 x.vv, .int .i64 x.vp, .int .i64 x.vf, .slice a.A14 x.vi.length a.c14, .slice a.A15 x.vs.length a.c15, .int .i64 x.r, .slice a.A17 x.es.length a.c17] 54) by rw [hwx]; exact blk_new _ _)
  have HB0 := Lib.hid (show Below w.heap.size w wx by rw [hwx]; exact below_alloc (Below.refl _ _) _)
  clear hwx
  have HAW := Lib.hid (awake_any wx (Lib.tabBelow_of_tabIs HT.out wx HB0.out))
  go_wp2_with (first | (go_at_call 28; (with_reducible refine (HAW.out).mono ?_); rintro e w1 ⟨rfl, hb1⟩; have hB1 := HB0.out.trans (hb1.mono HB0.out.size); have hL1 := blk_below HL0.out hb1) | ((with_reducible refine gate_dst (N := 7) rfl ?_); refine wpList_load_row rfl 54 (.tmp 1) rfl w.heap.size rfl 54 _ (0, 0) _ hL1 Tryd.underlying54 rfl (by kernel_rfl) ?_) | (go_at_call 29; (with_reducible refine (HF.out _ (HX0.out.below hB1)).mono ?_); rintro e w2 ⟨rfl, hb2⟩))
  go_ret
  exact ⟨rfl, hB1.trans (hb2.mono hB1.size)⟩
set_option maxHeartbeats 8000000 in
theorem texts_bad (x : Let) (a : Ad) (w : World) (hT : Tab w) (hx : LetC w x a) (hy : byL x) (hf : ∀ (w : World), LetC w x a → Calls Tryd.prog 29 #[letV x a] w fun e w' => e = .returned (.bool true) ∧ Below w.heap.size w w') (hg : goodL x = false) :
    Calls Tryd.prog 7 #[letV x a] w fun e w' => e = .returned (.bool true) ∧ Below w.heap.size w w' := by
  have HF := Lib.hid hf
  have HGG := Lib.hid hg
  clear hf hg
  have HX0 := Lib.hid hx
  have HY := Lib.hid hy
  have HT := Lib.hid hT
  clear hx hy hT
  show Calls Tryd.prog 7 #[.agg #[.int .i64 x.k, .int .i64 x.pv, .int .i64 x.pf, .int .i64 x.px, .int .i64 x.v.f0, .int .i64 x.v.f1, .int .i64 x.v.f2, .slice a.A7 x.v.f3.length a.c7, .slice a.A8 x.v.f4.length a.c8, .slice a.A9 x.ps.length a.c9, .int .i64 x.vr, .int .i64 x.vv, .int .i64 x.vp, .int .i64 x.vf, .slice a.A14 x.vi.length a.c14, .slice a.A15 x.vs.length a.c15, .int .i64 x.r, .slice a.A17 x.es.length a.c17]] w _
  go_enter Tryd.func7, Tryd.ntmps7
  go_upto_region 1 with (fail)
  obtain ⟨wx, hwx⟩ : ∃ wx, wx = w.alloc (.cells #[.int .i64 x.k, .int .i64 x.pv, .int .i64 x.pf, .int .i64 x.px, .int .i64 x.v.f0, .int .i64 x.v.f1, .int .i64 x.v.f2, .slice a.A7 x.v.f3.length a.c7, .slice a.A8 x.v.f4.length a.c8, .slice a.A9 x.ps.length a.c9, .int .i64 x.vr, .int .i64 x.vv, .int .i64 x.vp, .int .i64 x.vf, .slice a.A14 x.vi.length a.c14, .slice a.A15 x.vs.length a.c15, .int .i64 x.r, .slice a.A17 x.es.length a.c17] 54) := ⟨_, rfl⟩
  rw [← hwx]
  have HL0 := Lib.hid (show wx.heap[w.heap.size]? = some (.cells #[.int .i64 x.k, .int .i64 x.pv, .int .i64 x.pf, .int .i64 x.px, .int .i64 x.v.f0, .int .i64 x.v.f1, .int .i64 x.v.f2, .slice a.A7 x.v.f3.length a.c7, .slice a.A8 x.v.f4.length a.c8, .slice a.A9 x.ps.length a.c9, .int .i64 x.vr, .int .i64 x.vv, .int .i64 x.vp, .int .i64 x.vf, .slice a.A14 x.vi.length a.c14, .slice a.A15 x.vs.length a.c15, .int .i64 x.r, .slice a.A17 x.es.length a.c17] 54) by rw [hwx]; exact blk_new _ _)
  have HB0 := Lib.hid (show Below w.heap.size w wx by rw [hwx]; exact below_alloc (Below.refl _ _) _)
  clear hwx
  have HAW := Lib.hid (awake_any wx (Lib.tabBelow_of_tabIs HT.out wx HB0.out))
  have HTX := Lib.hid (fun W (hb : Below w.heap.size w W) => (show Calls Tryd.prog 30 #[letV x a] W fun e w' => e = .returned (.tuple #[.string ⟨#[]⟩, .int .i64 22]) ∧ Below W.heap.size W w' by
    have := Text_any x a W (Lib.tabBelow_of_tabIs HT.out W hb) (HX0.out.below hb) HY.out
    rw [show txtS x = (⟨#[]⟩, 22) by unfold txtS; rw [if_neg (by rw [HGG.out]; decide)]] at this
    exact this))
  have HRG := Lib.hid (fun W (hb : Below w.heap.size w W) => (show Calls Tryd.prog 33 #[letV x a] W fun e w' => e = .returned (.bool false) ∧ Below W.heap.size W w' by have := RGood_any x a W (HX0.out.below hb); rw [HGG.out] at this; exact this))
  obtain ⟨U, hU⟩ : ∃ U, U = shortS x.k := ⟨_, rfl⟩
  have HS1 := Lib.hid (fun W (hc : LetC W x a) => (show Calls Tryd.prog 31 #[letV x a] W fun e w' => e = .returned (.string U) ∧ Below W.heap.size W w' by rw [hU]; exact Short_any x a W hc))
  have HS2 := Lib.hid (fun W (hc : LetC W x a) => (show Calls Tryd.prog 32 #[letV x a] W fun e w' => e = .returned (.string U) ∧ Below W.heap.size W w' by rw [hU]; exact lawShort_any x a W hc))
  clear hU
  go_upto_region 6 with (first | (go_at_call 28; (with_reducible refine (HAW.out).mono ?_); rintro e w1 ⟨rfl, hb1⟩; have hB1 := HB0.out.trans (hb1.mono HB0.out.size); have hL1 := blk_below HL0.out hb1) | ((with_reducible refine gate_dst (N := 7) rfl ?_); refine wpList_load_row rfl 54 (.tmp 1) rfl w.heap.size rfl 54 _ (0, 0) _ hL1 Tryd.underlying54 rfl (by kernel_rfl) ?_) | (go_at_call 29; (with_reducible refine (HF.out _ (HX0.out.below hB1)).mono ?_); rintro e w2 ⟨rfl, hb2⟩; have hB2 := hB1.trans (hb2.mono hB1.size); have hL2 := blk_below hL1 hb2) | ((with_reducible refine gate_dst (N := 11) rfl ?_); refine wpList_load_row rfl 54 (.tmp 1) rfl w.heap.size rfl 54 _ (0, 0) _ hL2 Tryd.underlying54 rfl (by kernel_rfl) ?_) | (go_at_call 30; (with_reducible refine (HTX.out _ hB2).mono ?_); rintro e w3 ⟨rfl, hb3⟩; have hB3 := hB2.trans (hb3.mono hB2.size); have hL3 := blk_below hL2 hb3))
  have HLA : Hid (w3.drew.heap[w.heap.size]? = some (.cells #[.int .i64 x.k, .int .i64 x.pv, .int .i64 x.pf, .int .i64 x.px, .int .i64 x.v.f0, .int .i64 x.v.f1, .int .i64 x.v.f2, .slice a.A7 x.v.f3.length a.c7, .slice a.A8 x.v.f4.length a.c8, .slice a.A9 x.ps.length a.c9, .int .i64 x.vr, .int .i64 x.vv, .int .i64 x.vp, .int .i64 x.vf, .slice a.A14 x.vi.length a.c14, .slice a.A15 x.vs.length a.c15, .int .i64 x.r, .slice a.A17 x.es.length a.c17] 54)) := Lib.hid (blk_drew hL3)
  have HBA : Hid (Below w.heap.size w w3.drew) := Lib.hid hB3.drew
  clear hB1 hL1 hB2 hL2 hB3 hL3 hb1 hb2 hb3 HAW HF HTX HL0 HB0
  refine start_ (n := 5) (S := fun w' => w'.heap[w.heap.size]? = some (.cells #[.int .i64 x.k, .int .i64 x.pv, .int .i64 x.pf, .int .i64 x.px, .int .i64 x.v.f0, .int .i64 x.v.f1, .int .i64 x.v.f2, .slice a.A7 x.v.f3.length a.c7, .slice a.A8 x.v.f4.length a.c8, .slice a.A9 x.ps.length a.c9, .int .i64 x.vr, .int .i64 x.vv, .int .i64 x.vp, .int .i64 x.vf, .slice a.A14 x.vi.length a.c14, .slice a.A15 x.vs.length a.c15, .int .i64 x.r, .slice a.A17 x.es.length a.c17] 54) ∧ Below w.heap.size w w') (ds := []) #[false, false, false, false, false] (by kernel_rfl) rfl rfl ⟨HLA.out, HBA.out⟩ (fun hHeld => ?_); refine with_tabW ShL.tab ShL.bits (fun HT_ HW_ => ?_)
  generalize w3.drew = wA at HLA HBA hHeld ⊢
  refine take_ (i := 0) (N := some 15) (v := ?_) (a' := ?_) #[true, false, false, false, false] rfl rfl (take_ofW HT_.out HW_.out (by kernel_rfl)) (fun _ _ _ h => h) (Or.inl ⟨by rfl, ?_⟩) hHeld ?_ ?_
  rotate_left
  · rintro w' ⟨s0, s1⟩
    refine exec_load_row 54 (.tmp 1) ?_ w.heap.size ?_ 54 _ _ s0 Tryd.underlying54 ?_ ?_
    all_goals first | rfl | kernel_rfl
  rotate_left
  · simp only [Act.put, List.setIfInBounds_toArray, List.set_cons_zero, List.set_cons_succ, i64_w, i32_w]
    rfl
  refine take_ (i := 2) (N := some 17) (v := ?_) (a' := ?_) #[true, false, true, false, false] rfl rfl (take_ofW HT_.out HW_.out (by kernel_rfl)) (fun _ _ _ h => h) (Or.inl ⟨by rfl, ?_⟩) hHeld ?_ ?_
  rotate_left
  · rintro w' ⟨s0, s1⟩
    refine exec_load_row 54 (.tmp 1) ?_ w.heap.size ?_ 54 _ _ s0 Tryd.underlying54 ?_ ?_
    all_goals first | rfl | kernel_rfl
  rotate_left
  · simp only [Act.put, List.setIfInBounds_toArray, List.set_cons_zero, List.set_cons_succ, i64_w, i32_w]
    rfl
  refine one_ (i := 1) (N := some 16) #[true, true, true, false, false] rfl rfl (one_of HT_.out (by kernel_rfl)) (by decide) (fun K hK => ?_)
  refine goes_ Tryd.func31 (by kernel_rfl) rfl #[.agg #[.int .i64 x.k, .int .i64 x.pv, .int .i64 x.pf, .int .i64 x.px, .int .i64 x.v.f0, .int .i64 x.v.f1, .int .i64 x.v.f2, .slice a.A7 x.v.f3.length a.c7, .slice a.A8 x.v.f4.length a.c8, .slice a.A9 x.ps.length a.c9, .int .i64 x.vr, .int .i64 x.vv, .int .i64 x.vp, .int .i64 x.vf, .slice a.A14 x.vi.length a.c14, .slice a.A15 x.vs.length a.c15, .int .i64 x.r, .slice a.A17 x.es.length a.c17]] (by rfl) rfl rfl (by first | rfl | (simp only [List.map_toArray, List.map_cons, List.map_nil]; rfl)) ?_
  with_reducible refine (HS1.out _ (HX0.out.below hHeld.2)).mono ?_
  rintro e wB ⟨rfl, hb1⟩
  refine ⟨_, rfl, ?_⟩
  refine hK.out _ _ ⟨blk_below hHeld.1 hb1, hHeld.2.trans (hb1.mono hHeld.2.size)⟩ (fun hHeld => ?_)
  clear hK K
  refine norm_ (a' := ?_) ?_ ?_
  rotate_left
  · show Act.put _ (some 16) _ = _
    simp only [Act.put, List.setIfInBounds_toArray, List.set_cons_zero, List.set_cons_succ, i64_w, i32_w]
    rfl
  refine one_ (i := 3) (N := some 18) #[true, true, true, true, false] rfl rfl (one_of HT_.out (by kernel_rfl)) (by decide) (fun K hK => ?_)
  refine goes_ Tryd.func32 (by kernel_rfl) rfl #[.agg #[.int .i64 x.k, .int .i64 x.pv, .int .i64 x.pf, .int .i64 x.px, .int .i64 x.v.f0, .int .i64 x.v.f1, .int .i64 x.v.f2, .slice a.A7 x.v.f3.length a.c7, .slice a.A8 x.v.f4.length a.c8, .slice a.A9 x.ps.length a.c9, .int .i64 x.vr, .int .i64 x.vv, .int .i64 x.vp, .int .i64 x.vf, .slice a.A14 x.vi.length a.c14, .slice a.A15 x.vs.length a.c15, .int .i64 x.r, .slice a.A17 x.es.length a.c17]] (by rfl) rfl rfl (by first | rfl | (simp only [List.map_toArray, List.map_cons, List.map_nil]; rfl)) ?_
  with_reducible refine (HS2.out _ (HX0.out.below hHeld.2)).mono ?_
  rintro e wC ⟨rfl, hb1⟩
  refine ⟨_, rfl, ?_⟩
  refine hK.out _ _ ⟨blk_below hHeld.1 hb1, hHeld.2.trans (hb1.mono hHeld.2.size)⟩ (fun hHeld => ?_)
  clear hK K
  refine norm_ (a' := ?_) ?_ ?_
  rotate_left
  · show Act.put _ (some 18) _ = _
    simp only [Act.put, List.setIfInBounds_toArray, List.set_cons_zero, List.set_cons_succ, i64_w, i32_w]
    rfl
  refine pure_ (i := 4) (N := some 19) (v := ?_) (a' := ?_) #[true, true, true, true, true] rfl rfl (any_of HT_.out (by kernel_rfl)) (fun _ _ _ h => h) (Or.inl ⟨by rfl, ?_⟩) ?_ ?_
  rotate_left
  · intro w'
    go_simp
    with_reducible rfl
  rotate_left
  · simp only [Act.put, List.setIfInBounds_toArray, List.set_cons_zero, List.set_cons_succ, i64_w, i32_w]
    rfl
  refine done_ (done_of HT_.out (by kernel_rfl)) ?_
  have hL4 := hHeld.1
  have hB4 := hHeld.2
  clear hHeld HLA HBA HS1 HS2
  go_wp2_with (first | ((with_reducible refine gate_dst (N := 20) rfl ?_); refine wpList_load_row rfl 54 (.tmp 1) rfl w.heap.size rfl 54 _ (0, 0) _ hL4 Tryd.underlying54 rfl (by kernel_rfl) ?_) | (go_at_call 33; (with_reducible refine (HRG.out _ hB4).mono ?_); rintro e w5 ⟨rfl, hb5⟩; have hB5 := hB4.trans (hb5.mono hB4.size); have hL5 := blk_below hL4 hb5))
  go_ret
  exact ⟨by first | rfl | simp, hB5⟩
set_option maxHeartbeats 8000000 in
theorem texts_good (x : Let) (a : Ad) (w : World) (hT : Tab w) (hx : LetC w x a) (hy : byL x) (hf : ∀ (w : World), LetC w x a → Calls Tryd.prog 29 #[letV x a] w fun e w' => e = .returned (.bool true) ∧ Below w.heap.size w w') (hg : goodL x = true) :
    Calls Tryd.prog 7 #[letV x a] w fun e w' => e = .returned (.bool true) ∧ Below w.heap.size w w' := by
  have HF := Lib.hid hf
  have HGG := Lib.hid hg
  clear hf hg
  have HX0 := Lib.hid hx
  have HY := Lib.hid hy
  have HT := Lib.hid hT
  clear hx hy hT
  show Calls Tryd.prog 7 #[.agg #[.int .i64 x.k, .int .i64 x.pv, .int .i64 x.pf, .int .i64 x.px, .int .i64 x.v.f0, .int .i64 x.v.f1, .int .i64 x.v.f2, .slice a.A7 x.v.f3.length a.c7, .slice a.A8 x.v.f4.length a.c8, .slice a.A9 x.ps.length a.c9, .int .i64 x.vr, .int .i64 x.vv, .int .i64 x.vp, .int .i64 x.vf, .slice a.A14 x.vi.length a.c14, .slice a.A15 x.vs.length a.c15, .int .i64 x.r, .slice a.A17 x.es.length a.c17]] w _
  go_enter Tryd.func7, Tryd.ntmps7
  go_upto_region 1 with (fail)
  obtain ⟨wx, hwx⟩ : ∃ wx, wx = w.alloc (.cells #[.int .i64 x.k, .int .i64 x.pv, .int .i64 x.pf, .int .i64 x.px, .int .i64 x.v.f0, .int .i64 x.v.f1, .int .i64 x.v.f2, .slice a.A7 x.v.f3.length a.c7, .slice a.A8 x.v.f4.length a.c8, .slice a.A9 x.ps.length a.c9, .int .i64 x.vr, .int .i64 x.vv, .int .i64 x.vp, .int .i64 x.vf, .slice a.A14 x.vi.length a.c14, .slice a.A15 x.vs.length a.c15, .int .i64 x.r, .slice a.A17 x.es.length a.c17] 54) := ⟨_, rfl⟩
  rw [← hwx]
  have HL0 := Lib.hid (show wx.heap[w.heap.size]? = some (.cells #[.int .i64 x.k, .int .i64 x.pv, .int .i64 x.pf, .int .i64 x.px, .int .i64 x.v.f0, .int .i64 x.v.f1, .int .i64 x.v.f2, .slice a.A7 x.v.f3.length a.c7, .slice a.A8 x.v.f4.length a.c8, .slice a.A9 x.ps.length a.c9, .int .i64 x.vr, .int .i64 x.vv, .int .i64 x.vp, .int .i64 x.vf, .slice a.A14 x.vi.length a.c14, .slice a.A15 x.vs.length a.c15, .int .i64 x.r, .slice a.A17 x.es.length a.c17] 54) by rw [hwx]; exact blk_new _ _)
  have HB0 := Lib.hid (show Below w.heap.size w wx by rw [hwx]; exact below_alloc (Below.refl _ _) _)
  clear hwx
  have HAW := Lib.hid (awake_any wx (Lib.tabBelow_of_tabIs HT.out wx HB0.out))
  obtain ⟨S, hS⟩ : ∃ S, S = joinB (txtW x) := ⟨_, rfl⟩
  have HTX := Lib.hid (fun W (hb : Below w.heap.size w W) => (show Calls Tryd.prog 30 #[letV x a] W fun e w' => e = .returned (.tuple #[.string S, .int .i64 0]) ∧ Below W.heap.size W w' by
    have := Text_any x a W (Lib.tabBelow_of_tabIs HT.out W hb) (HX0.out.below hb) HY.out
    rw [show txtS x = (S, 0) by rw [hS]; unfold txtS; rw [if_pos HGG.out]] at this
    exact this))
  have HRT := Lib.hid (fun W (hb : Below w.heap.size w W) => (show Calls Tryd.prog 34 #[letV x a] W fun e w' => e = .returned (.string S) ∧ Below W.heap.size W w' by rw [hS]; exact RText_any x a W (HX0.out.below hb) HY.out HGG.out))
  have HRG := Lib.hid (fun W (hb : Below w.heap.size w W) => (show Calls Tryd.prog 33 #[letV x a] W fun e w' => e = .returned (.bool true) ∧ Below W.heap.size W w' by have := RGood_any x a W (HX0.out.below hb); rw [HGG.out] at this; exact this))
  clear hS
  obtain ⟨U, hU⟩ : ∃ U, U = shortS x.k := ⟨_, rfl⟩
  have HS1 := Lib.hid (fun W (hc : LetC W x a) => (show Calls Tryd.prog 31 #[letV x a] W fun e w' => e = .returned (.string U) ∧ Below W.heap.size W w' by rw [hU]; exact Short_any x a W hc))
  have HS2 := Lib.hid (fun W (hc : LetC W x a) => (show Calls Tryd.prog 32 #[letV x a] W fun e w' => e = .returned (.string U) ∧ Below W.heap.size W w' by rw [hU]; exact lawShort_any x a W hc))
  clear hU
  go_upto_region 6 with (first | (go_at_call 28; (with_reducible refine (HAW.out).mono ?_); rintro e w1 ⟨rfl, hb1⟩; have hB1 := HB0.out.trans (hb1.mono HB0.out.size); have hL1 := blk_below HL0.out hb1) | ((with_reducible refine gate_dst (N := 7) rfl ?_); refine wpList_load_row rfl 54 (.tmp 1) rfl w.heap.size rfl 54 _ (0, 0) _ hL1 Tryd.underlying54 rfl (by kernel_rfl) ?_) | (go_at_call 29; (with_reducible refine (HF.out _ (HX0.out.below hB1)).mono ?_); rintro e w2 ⟨rfl, hb2⟩; have hB2 := hB1.trans (hb2.mono hB1.size); have hL2 := blk_below hL1 hb2) | ((with_reducible refine gate_dst (N := 11) rfl ?_); refine wpList_load_row rfl 54 (.tmp 1) rfl w.heap.size rfl 54 _ (0, 0) _ hL2 Tryd.underlying54 rfl (by kernel_rfl) ?_) | (go_at_call 30; (with_reducible refine (HTX.out _ hB2).mono ?_); rintro e w3 ⟨rfl, hb3⟩; have hB3 := hB2.trans (hb3.mono hB2.size); have hL3 := blk_below hL2 hb3))
  have HLA : Hid (w3.drew.heap[w.heap.size]? = some (.cells #[.int .i64 x.k, .int .i64 x.pv, .int .i64 x.pf, .int .i64 x.px, .int .i64 x.v.f0, .int .i64 x.v.f1, .int .i64 x.v.f2, .slice a.A7 x.v.f3.length a.c7, .slice a.A8 x.v.f4.length a.c8, .slice a.A9 x.ps.length a.c9, .int .i64 x.vr, .int .i64 x.vv, .int .i64 x.vp, .int .i64 x.vf, .slice a.A14 x.vi.length a.c14, .slice a.A15 x.vs.length a.c15, .int .i64 x.r, .slice a.A17 x.es.length a.c17] 54)) := Lib.hid (blk_drew hL3)
  have HBA : Hid (Below w.heap.size w w3.drew) := Lib.hid hB3.drew
  clear hB1 hL1 hB2 hL2 hB3 hL3 hb1 hb2 hb3 HAW HF HTX HL0 HB0
  refine start_ (n := 5) (S := fun w' => w'.heap[w.heap.size]? = some (.cells #[.int .i64 x.k, .int .i64 x.pv, .int .i64 x.pf, .int .i64 x.px, .int .i64 x.v.f0, .int .i64 x.v.f1, .int .i64 x.v.f2, .slice a.A7 x.v.f3.length a.c7, .slice a.A8 x.v.f4.length a.c8, .slice a.A9 x.ps.length a.c9, .int .i64 x.vr, .int .i64 x.vv, .int .i64 x.vp, .int .i64 x.vf, .slice a.A14 x.vi.length a.c14, .slice a.A15 x.vs.length a.c15, .int .i64 x.r, .slice a.A17 x.es.length a.c17] 54) ∧ Below w.heap.size w w') (ds := []) #[false, false, false, false, false] (by kernel_rfl) rfl rfl ⟨HLA.out, HBA.out⟩ (fun hHeld => ?_); refine with_tabW ShL.tab ShL.bits (fun HT_ HW_ => ?_)
  generalize w3.drew = wA at HLA HBA hHeld ⊢
  refine take_ (i := 0) (N := some 15) (v := ?_) (a' := ?_) #[true, false, false, false, false] rfl rfl (take_ofW HT_.out HW_.out (by kernel_rfl)) (fun _ _ _ h => h) (Or.inl ⟨by rfl, ?_⟩) hHeld ?_ ?_
  rotate_left
  · rintro w' ⟨s0, s1⟩
    refine exec_load_row 54 (.tmp 1) ?_ w.heap.size ?_ 54 _ _ s0 Tryd.underlying54 ?_ ?_
    all_goals first | rfl | kernel_rfl
  rotate_left
  · simp only [Act.put, List.setIfInBounds_toArray, List.set_cons_zero, List.set_cons_succ, i64_w, i32_w]
    rfl
  refine take_ (i := 2) (N := some 17) (v := ?_) (a' := ?_) #[true, false, true, false, false] rfl rfl (take_ofW HT_.out HW_.out (by kernel_rfl)) (fun _ _ _ h => h) (Or.inl ⟨by rfl, ?_⟩) hHeld ?_ ?_
  rotate_left
  · rintro w' ⟨s0, s1⟩
    refine exec_load_row 54 (.tmp 1) ?_ w.heap.size ?_ 54 _ _ s0 Tryd.underlying54 ?_ ?_
    all_goals first | rfl | kernel_rfl
  rotate_left
  · simp only [Act.put, List.setIfInBounds_toArray, List.set_cons_zero, List.set_cons_succ, i64_w, i32_w]
    rfl
  refine one_ (i := 1) (N := some 16) #[true, true, true, false, false] rfl rfl (one_of HT_.out (by kernel_rfl)) (by decide) (fun K hK => ?_)
  refine goes_ Tryd.func31 (by kernel_rfl) rfl #[.agg #[.int .i64 x.k, .int .i64 x.pv, .int .i64 x.pf, .int .i64 x.px, .int .i64 x.v.f0, .int .i64 x.v.f1, .int .i64 x.v.f2, .slice a.A7 x.v.f3.length a.c7, .slice a.A8 x.v.f4.length a.c8, .slice a.A9 x.ps.length a.c9, .int .i64 x.vr, .int .i64 x.vv, .int .i64 x.vp, .int .i64 x.vf, .slice a.A14 x.vi.length a.c14, .slice a.A15 x.vs.length a.c15, .int .i64 x.r, .slice a.A17 x.es.length a.c17]] (by rfl) rfl rfl (by first | rfl | (simp only [List.map_toArray, List.map_cons, List.map_nil]; rfl)) ?_
  with_reducible refine (HS1.out _ (HX0.out.below hHeld.2)).mono ?_
  rintro e wB ⟨rfl, hb1⟩
  refine ⟨_, rfl, ?_⟩
  refine hK.out _ _ ⟨blk_below hHeld.1 hb1, hHeld.2.trans (hb1.mono hHeld.2.size)⟩ (fun hHeld => ?_)
  clear hK K
  refine norm_ (a' := ?_) ?_ ?_
  rotate_left
  · show Act.put _ (some 16) _ = _
    simp only [Act.put, List.setIfInBounds_toArray, List.set_cons_zero, List.set_cons_succ, i64_w, i32_w]
    rfl
  refine one_ (i := 3) (N := some 18) #[true, true, true, true, false] rfl rfl (one_of HT_.out (by kernel_rfl)) (by decide) (fun K hK => ?_)
  refine goes_ Tryd.func32 (by kernel_rfl) rfl #[.agg #[.int .i64 x.k, .int .i64 x.pv, .int .i64 x.pf, .int .i64 x.px, .int .i64 x.v.f0, .int .i64 x.v.f1, .int .i64 x.v.f2, .slice a.A7 x.v.f3.length a.c7, .slice a.A8 x.v.f4.length a.c8, .slice a.A9 x.ps.length a.c9, .int .i64 x.vr, .int .i64 x.vv, .int .i64 x.vp, .int .i64 x.vf, .slice a.A14 x.vi.length a.c14, .slice a.A15 x.vs.length a.c15, .int .i64 x.r, .slice a.A17 x.es.length a.c17]] (by rfl) rfl rfl (by first | rfl | (simp only [List.map_toArray, List.map_cons, List.map_nil]; rfl)) ?_
  with_reducible refine (HS2.out _ (HX0.out.below hHeld.2)).mono ?_
  rintro e wC ⟨rfl, hb1⟩
  refine ⟨_, rfl, ?_⟩
  refine hK.out _ _ ⟨blk_below hHeld.1 hb1, hHeld.2.trans (hb1.mono hHeld.2.size)⟩ (fun hHeld => ?_)
  clear hK K
  refine norm_ (a' := ?_) ?_ ?_
  rotate_left
  · show Act.put _ (some 18) _ = _
    simp only [Act.put, List.setIfInBounds_toArray, List.set_cons_zero, List.set_cons_succ, i64_w, i32_w]
    rfl
  refine pure_ (i := 4) (N := some 19) (v := ?_) (a' := ?_) #[true, true, true, true, true] rfl rfl (any_of HT_.out (by kernel_rfl)) (fun _ _ _ h => h) (Or.inl ⟨by rfl, ?_⟩) ?_ ?_
  rotate_left
  · intro w'
    go_simp
    with_reducible rfl
  rotate_left
  · simp only [Act.put, List.setIfInBounds_toArray, List.set_cons_zero, List.set_cons_succ, i64_w, i32_w]
    rfl
  refine done_ (done_of HT_.out (by kernel_rfl)) ?_
  have hL4 := hHeld.1
  have hB4 := hHeld.2
  clear hHeld HLA HBA HS1 HS2
  go_wp2_with (first | ((with_reducible refine gate_dst (N := 20) rfl ?_); refine wpList_load_row rfl 54 (.tmp 1) rfl w.heap.size rfl 54 _ (0, 0) _ hL4 Tryd.underlying54 rfl (by kernel_rfl) ?_) | (go_at_call 33; (with_reducible refine (HRG.out _ hB4).mono ?_); rintro e w5 ⟨rfl, hb5⟩; have hB5 := hB4.trans (hb5.mono hB4.size); have hL5 := blk_below hL4 hb5) | ((with_reducible refine gate_dst (N := 33) rfl ?_); refine wpList_load_row_g (by rfl) 54 (.tmp 1) rfl w.heap.size rfl 54 _ _ hL5 Tryd.underlying54 rfl (by kernel_rfl) ?_) | (go_at_call 34; (with_reducible refine (HRT.out _ hB5).mono ?_); rintro e w6 ⟨rfl, hb6⟩))
  go_ret
  exact ⟨by first | rfl | simp, hB5.trans (hb6.mono hB5.size)⟩
theorem texts_walk (x : Let) (a : Ad) (w : World) (hT : Tab w) (hx : LetC w x a) (hy : byL x) (hs : ∀ e ∈ x.es, e.f1.f3.length ≤ 9223372036854775807) :
    Calls Tryd.prog 7 #[letV x a] w fun e w' => e = .returned (.bool true) ∧ Below w.heap.size w w' := by
  obtain ⟨r, hr⟩ := Few_any x hs
  cases r with
  | false => exact texts_few x a w hT hx hy (fun W hc => hr a W hc)
  | true =>
    cases hg : goodL x with
    | false => exact texts_bad x a w hT hx hy (fun W hc => hr a W hc) hg
    | true => exact texts_good x a w hT hx hy (fun W hc => hr a W hc) hg
end Go.Proofs.YtpeebjnfmlfocaaDoor.Sh
