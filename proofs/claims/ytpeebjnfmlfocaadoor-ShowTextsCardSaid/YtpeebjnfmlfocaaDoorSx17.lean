/- show.Text at this program, for good letters. Conditions: bytes in range; the table of powers stands. -/
import Derived.Test.YtpeebjnfmlfocaaDoorSx14
namespace Go.Proofs.YtpeebjnfmlfocaaDoor.Sh
open Go.RowKit Go.Proofs.YtpeebjnfmlfocaaDoor.Th Go.Proofs.YtpeebjnfmlfocaaDoorW.PrintWords Go.Proofs.YtpeebjnfmlfocaaDoorW.PrintLast Go.Proofs.YtpeebjnfmlfocaaDoorW.PrintMore
set_option maxRecDepth 100000
set_option linter.unusedVariables false
set_option linter.unusedSimpArgs false
set_option maxHeartbeats 8000000 in
theorem Text1_any (x : Let) (a : Ad) (w : World) (hT : Tab w) (hx : LetC w x a) (hy : byL x) (hg : goodL x = true) (hk : x.k = 1) (hp : gP x = true) :
    Calls Tryd.prog 30 #[letV x a] w fun e w' => e = .returned (.tuple #[.string (txtS x).1, .int .i64 (txtS x).2]) ∧ Below w.heap.size w w' := by
  have HGd := Lib.hid hg
  have HKK := Lib.hid hk
  have HPP := Lib.hid hp
  clear hg hk hp
  have HT := Lib.hid hT
  have HX := Lib.hid hx
  have HY := Lib.hid hy
  have HX0 := Lib.hid hx
  clear hT hx hy
  show Calls Tryd.prog 30 #[.agg #[.int .i64 x.k, .int .i64 x.pv, .int .i64 x.pf, .int .i64 x.px, .int .i64 x.v.f0, .int .i64 x.v.f1, .int .i64 x.v.f2, .slice a.A7 x.v.f3.length a.c7, .slice a.A8 x.v.f4.length a.c8, .slice a.A9 x.ps.length a.c9, .int .i64 x.vr, .int .i64 x.vv, .int .i64 x.vp, .int .i64 x.vf, .slice a.A14 x.vi.length a.c14, .slice a.A15 x.vs.length a.c15, .int .i64 x.r, .slice a.A17 x.es.length a.c17]] w _
  go_enter Tryd.func30, Tryd.ntmps30
  go_upto_region 1 with (fail)
  obtain ⟨wx, hwx⟩ : ∃ wx, wx = w.alloc (.cells #[.int .i64 x.k, .int .i64 x.pv, .int .i64 x.pf, .int .i64 x.px, .int .i64 x.v.f0, .int .i64 x.v.f1, .int .i64 x.v.f2, .slice a.A7 x.v.f3.length a.c7, .slice a.A8 x.v.f4.length a.c8, .slice a.A9 x.ps.length a.c9, .int .i64 x.vr, .int .i64 x.vv, .int .i64 x.vp, .int .i64 x.vf, .slice a.A14 x.vi.length a.c14, .slice a.A15 x.vs.length a.c15, .int .i64 x.r, .slice a.A17 x.es.length a.c17] 54) := ⟨_, rfl⟩
  rw [← hwx]
  have HL0 := Lib.hid (show wx.heap[w.heap.size]? = some (.cells #[.int .i64 x.k, .int .i64 x.pv, .int .i64 x.pf, .int .i64 x.px, .int .i64 x.v.f0, .int .i64 x.v.f1, .int .i64 x.v.f2, .slice a.A7 x.v.f3.length a.c7, .slice a.A8 x.v.f4.length a.c8, .slice a.A9 x.ps.length a.c9, .int .i64 x.vr, .int .i64 x.vv, .int .i64 x.vp, .int .i64 x.vf, .slice a.A14 x.vi.length a.c14, .slice a.A15 x.vs.length a.c15, .int .i64 x.r, .slice a.A17 x.es.length a.c17] 54) by rw [hwx]; exact blk_new _ _)
  have hbx : Below w.heap.size w wx := by rw [hwx]; exact below_alloc (Below.refl _ _) _
  have HB0 := Lib.hid hbx
  have HX1 := Lib.hid (HX.out.below hbx)
  clear hwx hbx HX
  obtain ⟨l0, l1, l2, l3, l4, l5, l6, l7, l8, l9, l10, l11, l12, l13, l14, l15, l16, l17⟩ := cells18 HL0.out
  have HG := Lib.hid (Good_any x a wx HX1.out)
  have hg := HGd.out
  have HVV := Lib.hid (show txtS x = (joinB (txtW x), 0) by simp [txtS, hg])
  have HW := Lib.hid (txtW_ok x (good_k x hg) HY.out)
  have HQ := HG.out
  simp only [hg] at HQ
  have HGq := Lib.hid HQ
  clear HQ HG hg
  go_upto_region 4 with (first | ((with_reducible refine gate_dst (N := 9) rfl ?_); refine wpList_load_row rfl 54 (.tmp 1) rfl w.heap.size rfl 54 _ (0, 0) _ HL0.out Tryd.underlying54 rfl (by kernel_rfl) ?_) | (go_at_call 61; (with_reducible refine (HGq.out).mono ?_); rintro e w2 ⟨rfl, hb2⟩))
  clear l0 l1 l2 l3 l4 l5 l6 l7 l8 l9 l10 l11 l12 l13 l14 l15 l16 l17
  have hb3 : Below w.heap.size w w2 := HB0.out.trans (hb2.mono HB0.out.size)
  obtain ⟨g, hgg⟩ : ∃ g, g = w2.heap.size := ⟨_, rfl⟩
  have HP0 := Pen.new w2 w.heap.size hb3.size
  obtain ⟨wp, hwp⟩ : ∃ wp, wp = w2.alloc (.cells #[.slice none 0 0] 103) := ⟨_, rfl⟩
  rw [← hwp] at HP0 ⊢
  rw [← hgg] at HP0 ⊢
  have hbp : Below w.heap.size w wp := by rw [hwp]; exact hb3.alloc hb3.size _
  have HL1 := Lib.hid (show wp.heap[w.heap.size]? = some (.cells #[.int .i64 x.k, .int .i64 x.pv, .int .i64 x.pf, .int .i64 x.px, .int .i64 x.v.f0, .int .i64 x.v.f1, .int .i64 x.v.f2, .slice a.A7 x.v.f3.length a.c7, .slice a.A8 x.v.f4.length a.c8, .slice a.A9 x.ps.length a.c9, .int .i64 x.vr, .int .i64 x.vv, .int .i64 x.vp, .int .i64 x.vf, .slice a.A14 x.vi.length a.c14, .slice a.A15 x.vs.length a.c15, .int .i64 x.r, .slice a.A17 x.es.length a.c17] 54) by rw [hwp]; exact blk_alloc (blk_below HL0.out hb2) _)
  have HX2 := Lib.hid (HX0.out.below hbp)
  have HA0 : Hid (At w wp w.heap.size) := Lib.hid ⟨hbp, Nat.le_refl _⟩
  have HP1 := Lib.hid HP0
  have HB1 := Lib.hid hbp
  clear hwp hgg HP0 hb2 hb3 hbp HB0 HL0 HX1 HGq
  obtain ⟨l0, l1, l2, l3, l4, l5, l6, l7, l8, l9, l10, l11, l12, l13, l14, l15, l16, l17⟩ := cells18 HL1.out
  go_upto_region 5 with (first
    | ((with_reducible refine gate_dst (N := 15) rfl ?_); refine wpList_load_row rfl 54 (.tmp 1) rfl w.heap.size rfl 54 _ (0, 0) _ HL1.out Tryd.underlying54 rfl (by kernel_rfl) ?_)
    | (go_at_call 31; (with_reducible refine (Short_any x a _ HX2.out).mono ?_); rintro e w3 ⟨rfl, hb3⟩; have hs3 := Stp.of_below hb3 (HP1.out.size))
    | (go_at_call 62; (with_reducible refine (word_any w.heap.size g [] (shortS x.k) _ (HP1.out.below hb3) (by simp)).mono ?_); rintro e w4 ⟨rfl, hP4, hs4⟩; have hs5 := hs3.trans hs4))
  clear l0 l1 l2 l3 l4 l5 l6 l7 l8 l9 l10 l11 l12 l13 l14 l15 l16 l17
  have HP2 : Hid (Pen w4 w.heap.size g [shortS x.k]) := Lib.hid hP4
  have HL2 := Lib.hid (hs5.f _ _ _ HL1.out (by decide) (by decide))
  have HA2 := Lib.hid (HA0.out.step hs5)
  have HB2 := Lib.hid (HB1.out.trans hs5.b)
  clear hb3 hs3 hs4 hs5 hP4 HX2 HP1 HL1 HA0 HB1
  obtain ⟨l0, l1, l2, l3, l4, l5, l6, l7, l8, l9, l10, l11, l12, l13, l14, l15, l16, l17⟩ := cells18 HL2.out
  go_upto_block 0 with (fail)
  go_cut [4] (fun v4 wc => v4 = .pointer (some ⟨g, 0, none⟩) ∧ Pen wc w.heap.size g (txtW x) ∧ Stp w.heap.size w4 wc)
  case first =>
    have hk := HKK.out
    have hp := HPP.out
    have HOV := Lib.hid (okV_of x.v (by simp only [gP, Bool.and_eq_true] at hp; exact hp.1.2) HY.out.a HY.out.b)
    have HIP := Lib.hid (show okI x.pv ∧ okI x.pf ∧ okI x.px ∧ okB x.ps by
      simp only [gP, Bool.and_eq_true, beq_iff_eq] at hp
      have := inR_t hp.1.1.1.1; have := inR_t hp.1.1.1.2; have := inR_t hp.1.1.2; have := hp.2
      exact ⟨⟨by omega, by omega⟩, ⟨by omega, by omega⟩, ⟨by omega, by omega⟩, HY.out.c, by omega⟩)
    have HVT := Lib.hid (show txtW x = [shortS 1, itoaB x.pv, itoaB x.pf, itoaB x.px] ++ valW x.v ++ [bytesS x.ps] by unfold txtW; rw [if_pos hk])
    have HP2' := HP2.out
    rw [hk] at HP2'
    have HP3 := Lib.hid HP2'
    have k1 : (x.k == 1) = true := by rw [hk]; rfl
    clear hk hp HP2' HP2
    go_upto_region 8 with (fail)
    obtain ⟨wy, hwy⟩ : ∃ wy, wy = w4.alloc (.cells #[.int .i64 x.pv, .int .i64 x.pf, .int .i64 x.px, .int .i64 x.v.f0, .int .i64 x.v.f1, .int .i64 x.v.f2, .slice a.A7 x.v.f3.length a.c7, .slice a.A8 x.v.f4.length a.c8, .slice a.A9 x.ps.length a.c9] 49) := ⟨_, rfl⟩
    rw [← hwy]
    have HBY := Lib.hid (show wy.heap[w4.heap.size]? = some (.cells #[.int .i64 x.pv, .int .i64 x.pf, .int .i64 x.px, .int .i64 x.v.f0, .int .i64 x.v.f1, .int .i64 x.v.f2, .slice a.A7 x.v.f3.length a.c7, .slice a.A8 x.v.f4.length a.c8, .slice a.A9 x.ps.length a.c9] 49) by rw [hwy]; exact blk_new _ _)
    have hby : Below w4.heap.size w4 wy := by rw [hwy]; exact below_alloc (Below.refl _ _) _
    have HSY := Lib.hid (Stp.of_below hby HP3.out.size)
    have HPY := Lib.hid (HP3.out.below hby)
    have HAY := Lib.hid (HA2.out.below hby)
    clear hwy hby l0 l1 l2 l3 l4 l5 l6 l7 l8 l9 l10 l11 l12 l13 l14 l15 l16 l17
    obtain ⟨y0, y1, y2, y3, y4, y5, y6, y7, y8⟩ := cells9 HBY.out
    clear y3 y4 y5 y6 y7 y8
    go_wp2_with (first
      | (go_at_call 63; (with_reducible refine (nums3_any w.heap.size g _ w wy HT.out HAY.out HPY.out (by simp) x.pv x.pf x.px HIP.out.1 HIP.out.2.1 HIP.out.2.2.1).mono ?_); rintro e w5 ⟨rfl, hP5, hs5⟩; have HP5 := Lib.hid hP5; have HS5 := Lib.hid hs5; have HA5 := Lib.hid (HAY.out.step hs5); have HB5 := Lib.hid (hs5.f _ _ _ HBY.out (by decide) (by decide)); clear hP5 hs5 y0 y1 y2; obtain ⟨y0, y1, y2, y3, y4, y5, y6, y7, y8⟩ := cells9 HB5.out; clear y0 y1 y2 y8)
      | (go_at_call 64; (with_reducible refine (value_any w.heap.size g _ x.v a.A7 a.c7 a.A8 a.c8 w w5 HT.out HA5.out HP5.out (by simp) HX0.out.h7 HX0.out.l7 HX0.out.h8 HX0.out.l8 HOV.out).mono ?_); rintro e w6 ⟨rfl, hP6, hs6⟩; have HP6 := Lib.hid hP6; have HS6 := Lib.hid hs6; have HA6 := Lib.hid (HA5.out.step hs6); have HB6 := Lib.hid (hs6.f _ _ _ HB5.out (by decide) (by decide)); clear hP6 hs6 y3 y4 y5 y6 y7; obtain ⟨y0, y1, y2, y3, y4, y5, y6, y7, y8⟩ := cells9 HB6.out; clear y0 y1 y2 y3 y4 y5 y6 y7)
      | (go_at_call 65; (with_reducible refine (bytesC_any w.heap.size g _ w w6 HT.out HA6.out HP6.out (by simp [valW_len]) a.A9 a.c9 x.ps HX0.out.h9 HX0.out.l9 HIP.out.2.2.2).mono ?_); rintro e w7 ⟨rfl, hP7, hs7⟩; have HP7 := Lib.hid hP7; have HS7 := Lib.hid hs7; clear hP7 hs7))
    go_meet
    case rel => exact ⟨rfl, by have := HP7.out; rw [HVT.out]; simpa using this, ((HSY.out.trans HS5.out).trans HS6.out).trans HS7.out⟩
  case rest =>
    obtain ⟨rfl, hPc, hsc⟩ := hcut
    have HJ := Lib.hid (join_any w.heap.size g (txtW x) wc hPc HW.out.1 HW.out.2)
    obtain ⟨v, hpg, hco⟩ := pen_cell hPc
    have HB3 := Lib.hid (HB2.out.trans hsc.b)
    clear hPc hsc l0 l1 l2 l3 l4 l5 l6 l7 l8 l9 l10 l11 l12 l13 l14 l15 l16 l17
    obtain ⟨A1, n1, c1, rfl⟩ := hco
    go_wp2_with (go_at_call 67; (with_reducible refine (HJ.out _ _ _ hpg).mono ?_); rintro e w5 ⟨rfl, hb5⟩)
    go_ret2
    exact ⟨by rw [HVV.out] <;> rfl, HB3.out.trans (hb5.mono HB3.out.size)⟩
set_option maxHeartbeats 8000000 in
theorem Text2_any (x : Let) (a : Ad) (w : World) (hT : Tab w) (hx : LetC w x a) (hy : byL x) (hg : goodL x = true) (hk : x.k = 2) (hp : gT x = true) :
    Calls Tryd.prog 30 #[letV x a] w fun e w' => e = .returned (.tuple #[.string (txtS x).1, .int .i64 (txtS x).2]) ∧ Below w.heap.size w w' := by
  have HGd := Lib.hid hg
  have HKK := Lib.hid hk
  have HPP := Lib.hid hp
  clear hg hk hp
  have HT := Lib.hid hT
  have HX := Lib.hid hx
  have HY := Lib.hid hy
  have HX0 := Lib.hid hx
  clear hT hx hy
  show Calls Tryd.prog 30 #[.agg #[.int .i64 x.k, .int .i64 x.pv, .int .i64 x.pf, .int .i64 x.px, .int .i64 x.v.f0, .int .i64 x.v.f1, .int .i64 x.v.f2, .slice a.A7 x.v.f3.length a.c7, .slice a.A8 x.v.f4.length a.c8, .slice a.A9 x.ps.length a.c9, .int .i64 x.vr, .int .i64 x.vv, .int .i64 x.vp, .int .i64 x.vf, .slice a.A14 x.vi.length a.c14, .slice a.A15 x.vs.length a.c15, .int .i64 x.r, .slice a.A17 x.es.length a.c17]] w _
  go_enter Tryd.func30, Tryd.ntmps30
  go_upto_region 1 with (fail)
  obtain ⟨wx, hwx⟩ : ∃ wx, wx = w.alloc (.cells #[.int .i64 x.k, .int .i64 x.pv, .int .i64 x.pf, .int .i64 x.px, .int .i64 x.v.f0, .int .i64 x.v.f1, .int .i64 x.v.f2, .slice a.A7 x.v.f3.length a.c7, .slice a.A8 x.v.f4.length a.c8, .slice a.A9 x.ps.length a.c9, .int .i64 x.vr, .int .i64 x.vv, .int .i64 x.vp, .int .i64 x.vf, .slice a.A14 x.vi.length a.c14, .slice a.A15 x.vs.length a.c15, .int .i64 x.r, .slice a.A17 x.es.length a.c17] 54) := ⟨_, rfl⟩
  rw [← hwx]
  have HL0 := Lib.hid (show wx.heap[w.heap.size]? = some (.cells #[.int .i64 x.k, .int .i64 x.pv, .int .i64 x.pf, .int .i64 x.px, .int .i64 x.v.f0, .int .i64 x.v.f1, .int .i64 x.v.f2, .slice a.A7 x.v.f3.length a.c7, .slice a.A8 x.v.f4.length a.c8, .slice a.A9 x.ps.length a.c9, .int .i64 x.vr, .int .i64 x.vv, .int .i64 x.vp, .int .i64 x.vf, .slice a.A14 x.vi.length a.c14, .slice a.A15 x.vs.length a.c15, .int .i64 x.r, .slice a.A17 x.es.length a.c17] 54) by rw [hwx]; exact blk_new _ _)
  have hbx : Below w.heap.size w wx := by rw [hwx]; exact below_alloc (Below.refl _ _) _
  have HB0 := Lib.hid hbx
  have HX1 := Lib.hid (HX.out.below hbx)
  clear hwx hbx HX
  obtain ⟨l0, l1, l2, l3, l4, l5, l6, l7, l8, l9, l10, l11, l12, l13, l14, l15, l16, l17⟩ := cells18 HL0.out
  have HG := Lib.hid (Good_any x a wx HX1.out)
  have hg := HGd.out
  have HVV := Lib.hid (show txtS x = (joinB (txtW x), 0) by simp [txtS, hg])
  have HW := Lib.hid (txtW_ok x (good_k x hg) HY.out)
  have HQ := HG.out
  simp only [hg] at HQ
  have HGq := Lib.hid HQ
  clear HQ HG hg
  go_upto_region 4 with (first | ((with_reducible refine gate_dst (N := 9) rfl ?_); refine wpList_load_row rfl 54 (.tmp 1) rfl w.heap.size rfl 54 _ (0, 0) _ HL0.out Tryd.underlying54 rfl (by kernel_rfl) ?_) | (go_at_call 61; (with_reducible refine (HGq.out).mono ?_); rintro e w2 ⟨rfl, hb2⟩))
  clear l0 l1 l2 l3 l4 l5 l6 l7 l8 l9 l10 l11 l12 l13 l14 l15 l16 l17
  have hb3 : Below w.heap.size w w2 := HB0.out.trans (hb2.mono HB0.out.size)
  obtain ⟨g, hgg⟩ : ∃ g, g = w2.heap.size := ⟨_, rfl⟩
  have HP0 := Pen.new w2 w.heap.size hb3.size
  obtain ⟨wp, hwp⟩ : ∃ wp, wp = w2.alloc (.cells #[.slice none 0 0] 103) := ⟨_, rfl⟩
  rw [← hwp] at HP0 ⊢
  rw [← hgg] at HP0 ⊢
  have hbp : Below w.heap.size w wp := by rw [hwp]; exact hb3.alloc hb3.size _
  have HL1 := Lib.hid (show wp.heap[w.heap.size]? = some (.cells #[.int .i64 x.k, .int .i64 x.pv, .int .i64 x.pf, .int .i64 x.px, .int .i64 x.v.f0, .int .i64 x.v.f1, .int .i64 x.v.f2, .slice a.A7 x.v.f3.length a.c7, .slice a.A8 x.v.f4.length a.c8, .slice a.A9 x.ps.length a.c9, .int .i64 x.vr, .int .i64 x.vv, .int .i64 x.vp, .int .i64 x.vf, .slice a.A14 x.vi.length a.c14, .slice a.A15 x.vs.length a.c15, .int .i64 x.r, .slice a.A17 x.es.length a.c17] 54) by rw [hwp]; exact blk_alloc (blk_below HL0.out hb2) _)
  have HX2 := Lib.hid (HX0.out.below hbp)
  have HA0 : Hid (At w wp w.heap.size) := Lib.hid ⟨hbp, Nat.le_refl _⟩
  have HP1 := Lib.hid HP0
  have HB1 := Lib.hid hbp
  clear hwp hgg HP0 hb2 hb3 hbp HB0 HL0 HX1 HGq
  obtain ⟨l0, l1, l2, l3, l4, l5, l6, l7, l8, l9, l10, l11, l12, l13, l14, l15, l16, l17⟩ := cells18 HL1.out
  go_upto_region 5 with (first
    | ((with_reducible refine gate_dst (N := 15) rfl ?_); refine wpList_load_row rfl 54 (.tmp 1) rfl w.heap.size rfl 54 _ (0, 0) _ HL1.out Tryd.underlying54 rfl (by kernel_rfl) ?_)
    | (go_at_call 31; (with_reducible refine (Short_any x a _ HX2.out).mono ?_); rintro e w3 ⟨rfl, hb3⟩; have hs3 := Stp.of_below hb3 (HP1.out.size))
    | (go_at_call 62; (with_reducible refine (word_any w.heap.size g [] (shortS x.k) _ (HP1.out.below hb3) (by simp)).mono ?_); rintro e w4 ⟨rfl, hP4, hs4⟩; have hs5 := hs3.trans hs4))
  clear l0 l1 l2 l3 l4 l5 l6 l7 l8 l9 l10 l11 l12 l13 l14 l15 l16 l17
  have HP2 : Hid (Pen w4 w.heap.size g [shortS x.k]) := Lib.hid hP4
  have HL2 := Lib.hid (hs5.f _ _ _ HL1.out (by decide) (by decide))
  have HA2 := Lib.hid (HA0.out.step hs5)
  have HB2 := Lib.hid (HB1.out.trans hs5.b)
  clear hb3 hs3 hs4 hs5 hP4 HX2 HP1 HL1 HA0 HB1
  obtain ⟨l0, l1, l2, l3, l4, l5, l6, l7, l8, l9, l10, l11, l12, l13, l14, l15, l16, l17⟩ := cells18 HL2.out
  go_upto_block 0 with (fail)
  go_cut [4] (fun v4 wc => v4 = .pointer (some ⟨g, 0, none⟩) ∧ Pen wc w.heap.size g (txtW x) ∧ Stp w.heap.size w4 wc)
  case first =>
    have hk := HKK.out
    have hp := HPP.out
    have HIP := Lib.hid (show okI x.vr ∧ okI x.vv ∧ okI x.vp ∧ okI x.vf ∧ okB x.vi ∧ okB x.vs by
      simp only [gT, Bool.and_eq_true, Bool.or_eq_true, beq_iff_eq] at hp
      have := inR_t hp.1.1.1.1.1; have := inR_t hp.1.1.1.1.2; have := inR_t hp.1.1.1.2; have := inR_t hp.1.1.2; have := hp.1.2; have := hp.2
      exact ⟨⟨by omega, by omega⟩, ⟨by omega, by omega⟩, ⟨by omega, by omega⟩, ⟨by omega, by omega⟩, ⟨HY.out.d, by omega⟩, HY.out.e, by omega⟩)
    have HVT := Lib.hid (show txtW x = [shortS 2, itoaB x.vr, itoaB x.vv, itoaB x.vp, itoaB x.vf, bytesS x.vi, bytesS x.vs] by unfold txtW; rw [if_neg (by omega), if_pos hk])
    have HP2' := HP2.out
    rw [hk] at HP2'
    have HP3 := Lib.hid HP2'
    have k1 : (x.k == 1) = false := by rw [hk]; rfl
    have k2 : (x.k == 2) = true := by rw [hk]; rfl
    clear hk hp HP2' HP2
    go_upto_region 13 with (fail)
    obtain ⟨wy, hwy⟩ : ∃ wy, wy = w4.alloc (.cells #[.int .i64 x.vr, .int .i64 x.vv, .int .i64 x.vp, .int .i64 x.vf, .slice a.A14 x.vi.length a.c14, .slice a.A15 x.vs.length a.c15] 51) := ⟨_, rfl⟩
    rw [← hwy]
    have HBY := Lib.hid (show wy.heap[w4.heap.size]? = some (.cells #[.int .i64 x.vr, .int .i64 x.vv, .int .i64 x.vp, .int .i64 x.vf, .slice a.A14 x.vi.length a.c14, .slice a.A15 x.vs.length a.c15] 51) by rw [hwy]; exact blk_new _ _)
    have hby : Below w4.heap.size w4 wy := by rw [hwy]; exact below_alloc (Below.refl _ _) _
    have HSY := Lib.hid (Stp.of_below hby HP3.out.size)
    have HPY := Lib.hid (HP3.out.below hby)
    have HAY := Lib.hid (HA2.out.below hby)
    clear hwy hby l0 l1 l2 l3 l4 l5 l6 l7 l8 l9 l10 l11 l12 l13 l14 l15 l16 l17
    obtain ⟨y0, y1, y2, y3, y4, y5⟩ := cells6 HBY.out
    clear y4 y5
    go_wp2_with (first
      | (go_at_call 63; (with_reducible refine (nums4_any w.heap.size g _ w wy HT.out HAY.out HPY.out (by simp) x.vr x.vv x.vp x.vf HIP.out.1 HIP.out.2.1 HIP.out.2.2.1 HIP.out.2.2.2.1).mono ?_); rintro e w5 ⟨rfl, hP5, hs5⟩; have HP5 := Lib.hid hP5; have HS5 := Lib.hid hs5; have HA5 := Lib.hid (HAY.out.step hs5); have HB5 := Lib.hid (hs5.f _ _ _ HBY.out (by decide) (by decide)); clear hP5 hs5 y0 y1 y2 y3; obtain ⟨y0, y1, y2, y3, y4, y5⟩ := cells6 HB5.out; clear y0 y1 y2 y3 y5)
      | (go_at_call 65; (with_reducible refine (bytesC_any w.heap.size g _ w w5 HT.out HA5.out HP5.out (by simp) a.A14 a.c14 x.vi HX0.out.h14 HX0.out.l14 HIP.out.2.2.2.2.1).mono ?_); rintro e w6 ⟨rfl, hP6, hs6⟩; have HP6 := Lib.hid hP6; have HS6 := Lib.hid hs6; have HA6 := Lib.hid (HA5.out.step hs6); have HB6 := Lib.hid (hs6.f _ _ _ HB5.out (by decide) (by decide)); clear hP6 hs6 y4; obtain ⟨y0, y1, y2, y3, y4, y5⟩ := cells6 HB6.out; clear y0 y1 y2 y3 y4)
      | (go_at_call 65; (with_reducible refine (bytesC_any w.heap.size g _ w w6 HT.out HA6.out HP6.out (by simp) a.A15 a.c15 x.vs HX0.out.h15 HX0.out.l15 HIP.out.2.2.2.2.2).mono ?_); rintro e w7 ⟨rfl, hP7, hs7⟩; have HP7 := Lib.hid hP7; have HS7 := Lib.hid hs7; clear hP7 hs7))
    go_meet
    case rel => exact ⟨rfl, by have := HP7.out; rw [HVT.out]; simpa using this, ((HSY.out.trans HS5.out).trans HS6.out).trans HS7.out⟩
  case rest =>
    obtain ⟨rfl, hPc, hsc⟩ := hcut
    have HJ := Lib.hid (join_any w.heap.size g (txtW x) wc hPc HW.out.1 HW.out.2)
    obtain ⟨v, hpg, hco⟩ := pen_cell hPc
    have HB3 := Lib.hid (HB2.out.trans hsc.b)
    clear hPc hsc l0 l1 l2 l3 l4 l5 l6 l7 l8 l9 l10 l11 l12 l13 l14 l15 l16 l17
    obtain ⟨A1, n1, c1, rfl⟩ := hco
    go_wp2_with (go_at_call 67; (with_reducible refine (HJ.out _ _ _ hpg).mono ?_); rintro e w5 ⟨rfl, hb5⟩)
    go_ret2
    exact ⟨by rw [HVV.out] <;> rfl, HB3.out.trans (hb5.mono HB3.out.size)⟩
set_option maxHeartbeats 8000000 in
theorem Text3_any (x : Let) (a : Ad) (w : World) (hT : Tab w) (hx : LetC w x a) (hy : byL x) (hg : goodL x = true) (hk : x.k = 3) (hp : inR x.r 1 2147483648 = true) :
    Calls Tryd.prog 30 #[letV x a] w fun e w' => e = .returned (.tuple #[.string (txtS x).1, .int .i64 (txtS x).2]) ∧ Below w.heap.size w w' := by
  have HGd := Lib.hid hg
  have HKK := Lib.hid hk
  have HPP := Lib.hid hp
  clear hg hk hp
  have HT := Lib.hid hT
  have HX := Lib.hid hx
  have HY := Lib.hid hy
  have HX0 := Lib.hid hx
  clear hT hx hy
  show Calls Tryd.prog 30 #[.agg #[.int .i64 x.k, .int .i64 x.pv, .int .i64 x.pf, .int .i64 x.px, .int .i64 x.v.f0, .int .i64 x.v.f1, .int .i64 x.v.f2, .slice a.A7 x.v.f3.length a.c7, .slice a.A8 x.v.f4.length a.c8, .slice a.A9 x.ps.length a.c9, .int .i64 x.vr, .int .i64 x.vv, .int .i64 x.vp, .int .i64 x.vf, .slice a.A14 x.vi.length a.c14, .slice a.A15 x.vs.length a.c15, .int .i64 x.r, .slice a.A17 x.es.length a.c17]] w _
  go_enter Tryd.func30, Tryd.ntmps30
  go_upto_region 1 with (fail)
  obtain ⟨wx, hwx⟩ : ∃ wx, wx = w.alloc (.cells #[.int .i64 x.k, .int .i64 x.pv, .int .i64 x.pf, .int .i64 x.px, .int .i64 x.v.f0, .int .i64 x.v.f1, .int .i64 x.v.f2, .slice a.A7 x.v.f3.length a.c7, .slice a.A8 x.v.f4.length a.c8, .slice a.A9 x.ps.length a.c9, .int .i64 x.vr, .int .i64 x.vv, .int .i64 x.vp, .int .i64 x.vf, .slice a.A14 x.vi.length a.c14, .slice a.A15 x.vs.length a.c15, .int .i64 x.r, .slice a.A17 x.es.length a.c17] 54) := ⟨_, rfl⟩
  rw [← hwx]
  have HL0 := Lib.hid (show wx.heap[w.heap.size]? = some (.cells #[.int .i64 x.k, .int .i64 x.pv, .int .i64 x.pf, .int .i64 x.px, .int .i64 x.v.f0, .int .i64 x.v.f1, .int .i64 x.v.f2, .slice a.A7 x.v.f3.length a.c7, .slice a.A8 x.v.f4.length a.c8, .slice a.A9 x.ps.length a.c9, .int .i64 x.vr, .int .i64 x.vv, .int .i64 x.vp, .int .i64 x.vf, .slice a.A14 x.vi.length a.c14, .slice a.A15 x.vs.length a.c15, .int .i64 x.r, .slice a.A17 x.es.length a.c17] 54) by rw [hwx]; exact blk_new _ _)
  have hbx : Below w.heap.size w wx := by rw [hwx]; exact below_alloc (Below.refl _ _) _
  have HB0 := Lib.hid hbx
  have HX1 := Lib.hid (HX.out.below hbx)
  clear hwx hbx HX
  obtain ⟨l0, l1, l2, l3, l4, l5, l6, l7, l8, l9, l10, l11, l12, l13, l14, l15, l16, l17⟩ := cells18 HL0.out
  have HG := Lib.hid (Good_any x a wx HX1.out)
  have hg := HGd.out
  have HVV := Lib.hid (show txtS x = (joinB (txtW x), 0) by simp [txtS, hg])
  have HW := Lib.hid (txtW_ok x (good_k x hg) HY.out)
  have HQ := HG.out
  simp only [hg] at HQ
  have HGq := Lib.hid HQ
  clear HQ HG hg
  go_upto_region 4 with (first | ((with_reducible refine gate_dst (N := 9) rfl ?_); refine wpList_load_row rfl 54 (.tmp 1) rfl w.heap.size rfl 54 _ (0, 0) _ HL0.out Tryd.underlying54 rfl (by kernel_rfl) ?_) | (go_at_call 61; (with_reducible refine (HGq.out).mono ?_); rintro e w2 ⟨rfl, hb2⟩))
  clear l0 l1 l2 l3 l4 l5 l6 l7 l8 l9 l10 l11 l12 l13 l14 l15 l16 l17
  have hb3 : Below w.heap.size w w2 := HB0.out.trans (hb2.mono HB0.out.size)
  obtain ⟨g, hgg⟩ : ∃ g, g = w2.heap.size := ⟨_, rfl⟩
  have HP0 := Pen.new w2 w.heap.size hb3.size
  obtain ⟨wp, hwp⟩ : ∃ wp, wp = w2.alloc (.cells #[.slice none 0 0] 103) := ⟨_, rfl⟩
  rw [← hwp] at HP0 ⊢
  rw [← hgg] at HP0 ⊢
  have hbp : Below w.heap.size w wp := by rw [hwp]; exact hb3.alloc hb3.size _
  have HL1 := Lib.hid (show wp.heap[w.heap.size]? = some (.cells #[.int .i64 x.k, .int .i64 x.pv, .int .i64 x.pf, .int .i64 x.px, .int .i64 x.v.f0, .int .i64 x.v.f1, .int .i64 x.v.f2, .slice a.A7 x.v.f3.length a.c7, .slice a.A8 x.v.f4.length a.c8, .slice a.A9 x.ps.length a.c9, .int .i64 x.vr, .int .i64 x.vv, .int .i64 x.vp, .int .i64 x.vf, .slice a.A14 x.vi.length a.c14, .slice a.A15 x.vs.length a.c15, .int .i64 x.r, .slice a.A17 x.es.length a.c17] 54) by rw [hwp]; exact blk_alloc (blk_below HL0.out hb2) _)
  have HX2 := Lib.hid (HX0.out.below hbp)
  have HA0 : Hid (At w wp w.heap.size) := Lib.hid ⟨hbp, Nat.le_refl _⟩
  have HP1 := Lib.hid HP0
  have HB1 := Lib.hid hbp
  clear hwp hgg HP0 hb2 hb3 hbp HB0 HL0 HX1 HGq
  obtain ⟨l0, l1, l2, l3, l4, l5, l6, l7, l8, l9, l10, l11, l12, l13, l14, l15, l16, l17⟩ := cells18 HL1.out
  go_upto_region 5 with (first
    | ((with_reducible refine gate_dst (N := 15) rfl ?_); refine wpList_load_row rfl 54 (.tmp 1) rfl w.heap.size rfl 54 _ (0, 0) _ HL1.out Tryd.underlying54 rfl (by kernel_rfl) ?_)
    | (go_at_call 31; (with_reducible refine (Short_any x a _ HX2.out).mono ?_); rintro e w3 ⟨rfl, hb3⟩; have hs3 := Stp.of_below hb3 (HP1.out.size))
    | (go_at_call 62; (with_reducible refine (word_any w.heap.size g [] (shortS x.k) _ (HP1.out.below hb3) (by simp)).mono ?_); rintro e w4 ⟨rfl, hP4, hs4⟩; have hs5 := hs3.trans hs4))
  clear l0 l1 l2 l3 l4 l5 l6 l7 l8 l9 l10 l11 l12 l13 l14 l15 l16 l17
  have HP2 : Hid (Pen w4 w.heap.size g [shortS x.k]) := Lib.hid hP4
  have HL2 := Lib.hid (hs5.f _ _ _ HL1.out (by decide) (by decide))
  have HA2 := Lib.hid (HA0.out.step hs5)
  have HB2 := Lib.hid (HB1.out.trans hs5.b)
  clear hb3 hs3 hs4 hs5 hP4 HX2 HP1 HL1 HA0 HB1
  obtain ⟨l0, l1, l2, l3, l4, l5, l6, l7, l8, l9, l10, l11, l12, l13, l14, l15, l16, l17⟩ := cells18 HL2.out
  go_upto_block 0 with (fail)
  go_cut [4] (fun v4 wc => v4 = .pointer (some ⟨g, 0, none⟩) ∧ Pen wc w.heap.size g (txtW x) ∧ Stp w.heap.size w4 wc)
  case first =>
    have hk := HKK.out
    have hp := HPP.out
    have HIP := Lib.hid (show okI x.r by have := inR_t hp; exact ⟨by omega, by omega⟩)
    have HVT := Lib.hid (show txtW x = [shortS 3, itoaB x.r] by unfold txtW; rw [if_neg (by omega), if_neg (by omega), if_pos hk])
    have HP2' := HP2.out
    rw [hk] at HP2'
    have HP3 := Lib.hid HP2'
    have k1 : (x.k == 1) = false := by rw [hk]; rfl
    have k2 : (x.k == 2) = false := by rw [hk]; rfl
    have k3 : (x.k == 3) = true := by rw [hk]; rfl
    clear hk hp HP2' HP2
    go_wp2_with (go_at_call 63; (with_reducible refine (nums1_any w.heap.size g _ w w4 HT.out HA2.out HP3.out (by simp) x.r HIP.out).mono ?_); rintro e w5 ⟨rfl, hP5, hs5⟩)
    go_meet
    case rel => exact ⟨rfl, by rw [HVT.out]; simpa using hP5, hs5⟩
  case rest =>
    obtain ⟨rfl, hPc, hsc⟩ := hcut
    have HJ := Lib.hid (join_any w.heap.size g (txtW x) wc hPc HW.out.1 HW.out.2)
    obtain ⟨v, hpg, hco⟩ := pen_cell hPc
    have HB3 := Lib.hid (HB2.out.trans hsc.b)
    clear hPc hsc l0 l1 l2 l3 l4 l5 l6 l7 l8 l9 l10 l11 l12 l13 l14 l15 l16 l17
    obtain ⟨A1, n1, c1, rfl⟩ := hco
    go_wp2_with (go_at_call 67; (with_reducible refine (HJ.out _ _ _ hpg).mono ?_); rintro e w5 ⟨rfl, hb5⟩)
    go_ret2
    exact ⟨by rw [HVV.out] <;> rfl, HB3.out.trans (hb5.mono HB3.out.size)⟩
set_option maxHeartbeats 8000000 in
theorem Text4_any (x : Let) (a : Ad) (w : World) (hT : Tab w) (hx : LetC w x a) (hy : byL x) (hg : goodL x = true) (hk : x.k = 4) (hn16 : x.es.length ≤ 16) (hp : ∀ e ∈ x.es, gE e = true) :
    Calls Tryd.prog 30 #[letV x a] w fun e w' => e = .returned (.tuple #[.string (txtS x).1, .int .i64 (txtS x).2]) ∧ Below w.heap.size w w' := by
  have HGd := Lib.hid hg
  have HKK := Lib.hid hk
  have HPP := Lib.hid hp
  have HNN := Lib.hid hn16
  clear hg hk hp hn16
  have HT := Lib.hid hT
  have HX := Lib.hid hx
  have HY := Lib.hid hy
  have HX0 := Lib.hid hx
  clear hT hx hy
  show Calls Tryd.prog 30 #[.agg #[.int .i64 x.k, .int .i64 x.pv, .int .i64 x.pf, .int .i64 x.px, .int .i64 x.v.f0, .int .i64 x.v.f1, .int .i64 x.v.f2, .slice a.A7 x.v.f3.length a.c7, .slice a.A8 x.v.f4.length a.c8, .slice a.A9 x.ps.length a.c9, .int .i64 x.vr, .int .i64 x.vv, .int .i64 x.vp, .int .i64 x.vf, .slice a.A14 x.vi.length a.c14, .slice a.A15 x.vs.length a.c15, .int .i64 x.r, .slice a.A17 x.es.length a.c17]] w _
  go_enter Tryd.func30, Tryd.ntmps30
  go_upto_region 1 with (fail)
  obtain ⟨wx, hwx⟩ : ∃ wx, wx = w.alloc (.cells #[.int .i64 x.k, .int .i64 x.pv, .int .i64 x.pf, .int .i64 x.px, .int .i64 x.v.f0, .int .i64 x.v.f1, .int .i64 x.v.f2, .slice a.A7 x.v.f3.length a.c7, .slice a.A8 x.v.f4.length a.c8, .slice a.A9 x.ps.length a.c9, .int .i64 x.vr, .int .i64 x.vv, .int .i64 x.vp, .int .i64 x.vf, .slice a.A14 x.vi.length a.c14, .slice a.A15 x.vs.length a.c15, .int .i64 x.r, .slice a.A17 x.es.length a.c17] 54) := ⟨_, rfl⟩
  rw [← hwx]
  have HL0 := Lib.hid (show wx.heap[w.heap.size]? = some (.cells #[.int .i64 x.k, .int .i64 x.pv, .int .i64 x.pf, .int .i64 x.px, .int .i64 x.v.f0, .int .i64 x.v.f1, .int .i64 x.v.f2, .slice a.A7 x.v.f3.length a.c7, .slice a.A8 x.v.f4.length a.c8, .slice a.A9 x.ps.length a.c9, .int .i64 x.vr, .int .i64 x.vv, .int .i64 x.vp, .int .i64 x.vf, .slice a.A14 x.vi.length a.c14, .slice a.A15 x.vs.length a.c15, .int .i64 x.r, .slice a.A17 x.es.length a.c17] 54) by rw [hwx]; exact blk_new _ _)
  have hbx : Below w.heap.size w wx := by rw [hwx]; exact below_alloc (Below.refl _ _) _
  have HB0 := Lib.hid hbx
  have HX1 := Lib.hid (HX.out.below hbx)
  clear hwx hbx HX
  obtain ⟨l0, l1, l2, l3, l4, l5, l6, l7, l8, l9, l10, l11, l12, l13, l14, l15, l16, l17⟩ := cells18 HL0.out
  have HG := Lib.hid (Good_any x a wx HX1.out)
  have hg := HGd.out
  have HVV := Lib.hid (show txtS x = (joinB (txtW x), 0) by simp [txtS, hg])
  have HW := Lib.hid (txtW_ok x (good_k x hg) HY.out)
  have HQ := HG.out
  simp only [hg] at HQ
  have HGq := Lib.hid HQ
  clear HQ HG hg
  go_upto_region 4 with (first | ((with_reducible refine gate_dst (N := 9) rfl ?_); refine wpList_load_row rfl 54 (.tmp 1) rfl w.heap.size rfl 54 _ (0, 0) _ HL0.out Tryd.underlying54 rfl (by kernel_rfl) ?_) | (go_at_call 61; (with_reducible refine (HGq.out).mono ?_); rintro e w2 ⟨rfl, hb2⟩))
  clear l0 l1 l2 l3 l4 l5 l6 l7 l8 l9 l10 l11 l12 l13 l14 l15 l16 l17
  have hb3 : Below w.heap.size w w2 := HB0.out.trans (hb2.mono HB0.out.size)
  obtain ⟨g, hgg⟩ : ∃ g, g = w2.heap.size := ⟨_, rfl⟩
  have HP0 := Pen.new w2 w.heap.size hb3.size
  obtain ⟨wp, hwp⟩ : ∃ wp, wp = w2.alloc (.cells #[.slice none 0 0] 103) := ⟨_, rfl⟩
  rw [← hwp] at HP0 ⊢
  rw [← hgg] at HP0 ⊢
  have hbp : Below w.heap.size w wp := by rw [hwp]; exact hb3.alloc hb3.size _
  have HL1 := Lib.hid (show wp.heap[w.heap.size]? = some (.cells #[.int .i64 x.k, .int .i64 x.pv, .int .i64 x.pf, .int .i64 x.px, .int .i64 x.v.f0, .int .i64 x.v.f1, .int .i64 x.v.f2, .slice a.A7 x.v.f3.length a.c7, .slice a.A8 x.v.f4.length a.c8, .slice a.A9 x.ps.length a.c9, .int .i64 x.vr, .int .i64 x.vv, .int .i64 x.vp, .int .i64 x.vf, .slice a.A14 x.vi.length a.c14, .slice a.A15 x.vs.length a.c15, .int .i64 x.r, .slice a.A17 x.es.length a.c17] 54) by rw [hwp]; exact blk_alloc (blk_below HL0.out hb2) _)
  have HX2 := Lib.hid (HX0.out.below hbp)
  have HA0 : Hid (At w wp w.heap.size) := Lib.hid ⟨hbp, Nat.le_refl _⟩
  have HP1 := Lib.hid HP0
  have HB1 := Lib.hid hbp
  clear hwp hgg HP0 hb2 hb3 hbp HB0 HL0 HX1 HGq
  obtain ⟨l0, l1, l2, l3, l4, l5, l6, l7, l8, l9, l10, l11, l12, l13, l14, l15, l16, l17⟩ := cells18 HL1.out
  go_upto_region 5 with (first
    | ((with_reducible refine gate_dst (N := 15) rfl ?_); refine wpList_load_row rfl 54 (.tmp 1) rfl w.heap.size rfl 54 _ (0, 0) _ HL1.out Tryd.underlying54 rfl (by kernel_rfl) ?_)
    | (go_at_call 31; (with_reducible refine (Short_any x a _ HX2.out).mono ?_); rintro e w3 ⟨rfl, hb3⟩; have hs3 := Stp.of_below hb3 (HP1.out.size))
    | (go_at_call 62; (with_reducible refine (word_any w.heap.size g [] (shortS x.k) _ (HP1.out.below hb3) (by simp)).mono ?_); rintro e w4 ⟨rfl, hP4, hs4⟩; have hs5 := hs3.trans hs4))
  clear l0 l1 l2 l3 l4 l5 l6 l7 l8 l9 l10 l11 l12 l13 l14 l15 l16 l17
  have HP2 : Hid (Pen w4 w.heap.size g [shortS x.k]) := Lib.hid hP4
  have HL2 := Lib.hid (hs5.f _ _ _ HL1.out (by decide) (by decide))
  have HA2 := Lib.hid (HA0.out.step hs5)
  have HB2 := Lib.hid (HB1.out.trans hs5.b)
  clear hb3 hs3 hs4 hs5 hP4 HX2 HP1 HL1 HA0 HB1
  obtain ⟨l0, l1, l2, l3, l4, l5, l6, l7, l8, l9, l10, l11, l12, l13, l14, l15, l16, l17⟩ := cells18 HL2.out
  go_upto_block 0 with (fail)
  go_cut [4] (fun v4 wc => v4 = .pointer (some ⟨g, 0, none⟩) ∧ Pen wc w.heap.size g (txtW x) ∧ Stp w.heap.size w4 wc)
  case first =>
    have hk := HKK.out
    have hp := HPP.out
    have hn16 := HNN.out
    have HEN := Lib.hid hp
    have HVT := Lib.hid (show txtW x = [shortS 4, itoaB (x.es.length : Int)] ++ x.es.flatMap entW by unfold txtW; rw [if_neg (by omega), if_neg (by omega), if_neg (by omega)])
    have HP2' := HP2.out
    rw [hk] at HP2'
    have HP3 := Lib.hid HP2'
    have k1 : (x.k == 1) = false := by rw [hk]; rfl
    have k2 : (x.k == 2) = false := by rw [hk]; rfl
    have k3 : (x.k == 3) = false := by rw [hk]; rfl
    have k4 : (x.k == 4) = true := by rw [hk]; rfl
    clear hk hp HP2' HP2
    go_wp2_with (go_at_call 63; (with_reducible refine (nums1_any w.heap.size g _ w w4 HT.out HA2.out HP3.out (by simp) (x.es.length : Int) (len_ok (by omega))).mono ?_); rintro e w5 ⟨rfl, hP5, hs5⟩; have HP5 := Lib.hid hP5; have HS5 := Lib.hid hs5; have HA5 := Lib.hid (HA2.out.step hs5); have HB5 := Lib.hid (hs5.f _ _ _ HL2.out (by decide) (by decide)); clear hP5 hs5 l0 l1 l2 l3 l4 l5 l6 l7 l8 l9 l10 l11 l12 l13 l14 l15 l16 l17; obtain ⟨l0, l1, l2, l3, l4, l5, l6, l7, l8, l9, l10, l11, l12, l13, l14, l15, l16, l17⟩ := cells18 HB5.out; clear l0 l1 l2 l3 l4 l5 l6 l7 l8 l9 l10 l11 l12 l13 l14 l15 l16)
    clear l17
    go_loopw [82] (fun i wr => ∃ k : Nat, k ≤ x.es.length ∧ i = .int .i64 k ∧ Hid (Pen wr w.heap.size g ([shortS 4, itoaB (x.es.length : Int)] ++ (x.es.take k).flatMap entW)) ∧ Stp w.heap.size w5 wr) (fun i _ => x.es.length - (intOf i).toNat)
    case atStart => exact ⟨0, by omega, rfl, Lib.hid (by simpa using HP5.out), Stp.refl _ _⟩
    case round =>
      obtain ⟨k, hk, rfl, hPk, hs⟩ := hrel
      by_cases hlt : k < x.es.length
      · have HAk := Lib.hid (HA5.out.step hs)
        obtain ⟨ad, q, had, hq, e0, e1, e2, e3, e4, e5, e6, e7, e8⟩ := ent_at HX0.out.h17 k hlt
        replace e0 := pw_cell_below HAk.out.b e0
        replace e1 := pw_cell_below HAk.out.b e1
        replace e2 := pw_cell_below HAk.out.b e2
        replace e3 := pw_cell_below HAk.out.b e3
        replace e4 := pw_cell_below HAk.out.b e4
        replace e5 := pw_cell_below HAk.out.b e5
        replace e6 := pw_cell_below HAk.out.b e6
        replace e7 := pw_cell_below HAk.out.b e7
        replace e8 := pw_cell_below HAk.out.b e8
        have hmem := List.getElem_mem hlt
        have hen := okE_of x.es[k] (HEN.out _ hmem) (HY.out.f _ hmem)
        have hsn := entsW_snoc x.es k hlt
        obtain ⟨n, hn⟩ : ∃ n, n = x.es[k] := ⟨_, rfl⟩
        rw [← hn] at hq e0 e1 e2 e3 e4 e5 e6 e7 e8 hen hsn
        have HQ := Lib.hid hq
        have HEK := Lib.hid hen
        have HSN := Lib.hid hsn
        rw [had]
        have hkl : ([shortS 4, itoaB (x.es.length : Int)] ++ (x.es.take k).flatMap entW).length ≤ 90000 := by
          have := entsW_len (x.es.take k) (fun e he => (okE_of e (HEN.out e (List.mem_of_mem_take he)) (HY.out.f e (List.mem_of_mem_take he))).n3)
          rw [List.length_append, List.length_cons, List.length_singleton]
          rw [List.length_take] at this
          omega
        have hszr : w.heap.size ≤ wr.heap.size := hPk.out.size
        clear hq hen hsn hn hmem
        go_upto_region 23 with (fail)
        obtain ⟨wy, hwy⟩ : ∃ wy, wy = wr.alloc (.cells #[.int .i64 n.f0.f0, .int .i64 n.f0.f1, .int .i64 n.f0.f2, .slice q.A3 n.f0.f3.length q.c3, .slice q.A4 n.f0.f4.length q.c4, .int .i64 n.f1.f0, .int .i64 n.f1.f1, .slice q.A7 n.f1.f2.length q.c7, .slice q.A8 n.f1.f3.length q.c8] 98) := ⟨_, rfl⟩
        rw [← hwy]
        have HBY := Lib.hid (show wy.heap[wr.heap.size]? = some (.cells #[.int .i64 n.f0.f0, .int .i64 n.f0.f1, .int .i64 n.f0.f2, .slice q.A3 n.f0.f3.length q.c3, .slice q.A4 n.f0.f4.length q.c4, .int .i64 n.f1.f0, .int .i64 n.f1.f1, .slice q.A7 n.f1.f2.length q.c7, .slice q.A8 n.f1.f3.length q.c8] 98) by rw [hwy]; exact blk_new _ _)
        have hby : Below wr.heap.size wr wy := by rw [hwy]; exact below_alloc (Below.refl _ _) _
        have HSY := Lib.hid (Stp.of_below hby hszr)
        have HPY := Lib.hid (hPk.out.below hby)
        have HAY := Lib.hid (HAk.out.below hby)
        clear hwy hby e0 e1 e2 e3 e4 e5 e6 e7 e8
        obtain ⟨y0, y1, y2, y3, y4, y5, y6, y7, y8⟩ := cells9 HBY.out
        go_wp2_with (go_at_call 66; (with_reducible refine (entry_any w.heap.size g _ n q w wy HT.out HAY.out HPY.out hkl HQ.out HEK.out).mono ?_); rintro e wz ⟨rfl, hPz, hsz⟩)
        go_roundw
        case rel =>
          refine ⟨k + 1, by omega, by go_num, Lib.hid ?_, (hs.trans HSY.out).trans hsz⟩
          rw [HSN.out]
          simpa using hPz
        case measure => simp [intOf]; omega
      · have HE := Lib.hid (show (x.es.take k).flatMap entW = x.es.flatMap entW by rw [List.take_of_length_le (by omega)])
        go_wp2
        go_meet
        case rel => exact ⟨rfl, by have := hPk.out; rw [HE.out] at this; rw [HVT.out]; exact this, HS5.out.trans hs⟩
  case rest =>
    obtain ⟨rfl, hPc, hsc⟩ := hcut
    have HJ := Lib.hid (join_any w.heap.size g (txtW x) wc hPc HW.out.1 HW.out.2)
    obtain ⟨v, hpg, hco⟩ := pen_cell hPc
    have HB3 := Lib.hid (HB2.out.trans hsc.b)
    clear hPc hsc l0 l1 l2 l3 l4 l5 l6 l7 l8 l9 l10 l11 l12 l13 l14 l15 l16 l17
    obtain ⟨A1, n1, c1, rfl⟩ := hco
    go_wp2_with (go_at_call 67; (with_reducible refine (HJ.out _ _ _ hpg).mono ?_); rintro e w5 ⟨rfl, hb5⟩)
    go_ret2
    exact ⟨by rw [HVV.out] <;> rfl, HB3.out.trans (hb5.mono HB3.out.size)⟩
theorem Text_any (x : Let) (a : Ad) (w : World) (hT : Tab w) (hx : LetC w x a) (hy : byL x) :
    Calls Tryd.prog 30 #[letV x a] w fun e w' => e = .returned (.tuple #[.string (txtS x).1, .int .i64 (txtS x).2]) ∧ Below w.heap.size w w' := by
  cases hg : goodL x
  case false => exact TextBad_any x a w hT hx hy hg
  case true =>
    rcases good_k x hg with ⟨hk, hp⟩ | ⟨hk, hp⟩ | ⟨hk, hp⟩ | ⟨hk, hn, hp⟩
    · exact Text1_any x a w hT hx hy hg hk hp
    · exact Text2_any x a w hT hx hy hg hk hp
    · exact Text3_any x a w hT hx hy hg hk hp
    · exact Text4_any x a w hT hx hy hg hk hn hp
end Go.Proofs.YtpeebjnfmlfocaaDoor.Sh
