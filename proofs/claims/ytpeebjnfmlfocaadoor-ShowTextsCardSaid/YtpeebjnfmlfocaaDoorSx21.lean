/- The document's Good of a letter at this program. No condition. Printed by gen/shd.py. -/
import Derived.Test.YtpeebjnfmlfocaaDoorSx12
namespace Go.Proofs.YtpeebjnfmlfocaaDoor.Sh
open Go.RowKit Go.Proofs.YtpeebjnfmlfocaaDoorW.PrintWords Go.Proofs.YtpeebjnfmlfocaaDoorW.PrintLast Go.Proofs.YtpeebjnfmlfocaaDoorW.PrintMore
set_option maxRecDepth 100000
set_option linter.unusedVariables false
set_option linter.unusedSimpArgs false
set_option maxHeartbeats 8000000 in
theorem RGood3_any (x : Let) (a : Ad) (w : World) (hx : LetC w x a) (hk : x.k = 3) : Calls Tryd.prog 33 #[letV x a] w fun e w' => e = .returned (.bool (goodL x)) ∧ Below w.heap.size w w' := by
  have HK := Lib.hid hk
  clear hk
  have HX := Lib.hid hx
  clear hx
  show Calls Tryd.prog 33 #[.agg #[.int .i64 x.k, .int .i64 x.pv, .int .i64 x.pf, .int .i64 x.px, .int .i64 x.v.f0, .int .i64 x.v.f1, .int .i64 x.v.f2, .slice a.A7 x.v.f3.length a.c7, .slice a.A8 x.v.f4.length a.c8, .slice a.A9 x.ps.length a.c9, .int .i64 x.vr, .int .i64 x.vv, .int .i64 x.vp, .int .i64 x.vf, .slice a.A14 x.vi.length a.c14, .slice a.A15 x.vs.length a.c15, .int .i64 x.r, .slice a.A17 x.es.length a.c17]] w _
  go_enter Tryd.func33, Tryd.ntmps33
  go_upto_region 1 with (fail)
  obtain ⟨wa, hwa⟩ : ∃ wa, wa = w.alloc (.cells #[.int .i64 x.k, .int .i64 x.pv, .int .i64 x.pf, .int .i64 x.px, .int .i64 x.v.f0, .int .i64 x.v.f1, .int .i64 x.v.f2, .slice a.A7 x.v.f3.length a.c7, .slice a.A8 x.v.f4.length a.c8, .slice a.A9 x.ps.length a.c9, .int .i64 x.vr, .int .i64 x.vv, .int .i64 x.vp, .int .i64 x.vf, .slice a.A14 x.vi.length a.c14, .slice a.A15 x.vs.length a.c15, .int .i64 x.r, .slice a.A17 x.es.length a.c17] 54) := ⟨_, rfl⟩
  rw [← hwa]
  have hla : wa.heap[w.heap.size]? = some (.cells #[.int .i64 x.k, .int .i64 x.pv, .int .i64 x.pf, .int .i64 x.px, .int .i64 x.v.f0, .int .i64 x.v.f1, .int .i64 x.v.f2, .slice a.A7 x.v.f3.length a.c7, .slice a.A8 x.v.f4.length a.c8, .slice a.A9 x.ps.length a.c9, .int .i64 x.vr, .int .i64 x.vv, .int .i64 x.vp, .int .i64 x.vf, .slice a.A14 x.vi.length a.c14, .slice a.A15 x.vs.length a.c15, .int .i64 x.r, .slice a.A17 x.es.length a.c17] 54) := by rw [hwa]; exact blk_new _ _
  have hba : Below w.heap.size w wa := by rw [hwa]; exact below_alloc (Below.refl _ _) _
  have hsa : wa.heap.size = w.heap.size + 1 := by rw [hwa]; simp
  have HLA := Lib.hid hla
  have HBA := Lib.hid hba
  have HSA := Lib.hid hsa
  clear hwa hla hba hsa
  obtain ⟨l0, l1, l2, l3, l4, l5, l6, l7, l8, l9, l10, l11, l12, l13, l14, l15, l16, l17⟩ := cells18 HLA.out
  clear l0 l10 l11 l12 l13 l14 l15 l16 l17
  go_upto_region 2 with (fail)
  obtain ⟨wb, hwb⟩ : ∃ wb, wb = wa.alloc (.cells #[.int .i64 x.pv, .int .i64 x.pf, .int .i64 x.px, .int .i64 x.v.f0, .int .i64 x.v.f1, .int .i64 x.v.f2, .slice a.A7 x.v.f3.length a.c7, .slice a.A8 x.v.f4.length a.c8, .slice a.A9 x.ps.length a.c9] 49) := ⟨_, rfl⟩
  rw [← hwb]
  have hlb : wb.heap[w.heap.size]? = some (.cells #[.int .i64 x.k, .int .i64 x.pv, .int .i64 x.pf, .int .i64 x.px, .int .i64 x.v.f0, .int .i64 x.v.f1, .int .i64 x.v.f2, .slice a.A7 x.v.f3.length a.c7, .slice a.A8 x.v.f4.length a.c8, .slice a.A9 x.ps.length a.c9, .int .i64 x.vr, .int .i64 x.vv, .int .i64 x.vp, .int .i64 x.vf, .slice a.A14 x.vi.length a.c14, .slice a.A15 x.vs.length a.c15, .int .i64 x.r, .slice a.A17 x.es.length a.c17] 54) := by rw [hwb]; exact blk_alloc HLA.out _
  have hpb : wb.heap[wa.heap.size]? = some (.cells #[.int .i64 x.pv, .int .i64 x.pf, .int .i64 x.px, .int .i64 x.v.f0, .int .i64 x.v.f1, .int .i64 x.v.f2, .slice a.A7 x.v.f3.length a.c7, .slice a.A8 x.v.f4.length a.c8, .slice a.A9 x.ps.length a.c9] 49) := by rw [hwb]; exact blk_new _ _
  have hbb : Below w.heap.size w wb := by rw [hwb]; exact HBA.out.alloc HBA.out.size _
  have HLB := Lib.hid hlb
  have HPB := Lib.hid hpb
  have HBB := Lib.hid hbb
  clear hwb hlb hpb hbb l1 l2 l3 l4 l5 l6 l7 l8 l9
  obtain ⟨l0, l1, l2, l3, l4, l5, l6, l7, l8, l9, l10, l11, l12, l13, l14, l15, l16, l17⟩ := cells18 HLB.out
  clear l0 l1 l2 l3 l4 l5 l6 l7 l8 l9 l16 l17
  go_upto_region 3 with (fail)
  obtain ⟨wx, hwx⟩ : ∃ wx, wx = wb.alloc (.cells #[.int .i64 x.vr, .int .i64 x.vv, .int .i64 x.vp, .int .i64 x.vf, .slice a.A14 x.vi.length a.c14, .slice a.A15 x.vs.length a.c15] 51) := ⟨_, rfl⟩
  rw [← hwx]
  obtain ⟨bp, hbp⟩ : ∃ bp, bp = wa.heap.size := ⟨_, rfl⟩
  obtain ⟨bv, hbv⟩ : ∃ bv, bv = wb.heap.size := ⟨_, rfl⟩
  have hbx : Below w.heap.size w wx := by rw [hwx]; exact HBB.out.alloc HBB.out.size _
  have H0 : Hid (Blk3 x a w wx w.heap.size bp bv) := Lib.hid ⟨by rw [hwx]; exact blk_alloc HLB.out _, by rw [hwx, hbp]; exact blk_alloc HPB.out _, by rw [hwx, hbv]; exact blk_new _ _, hbx, HX.out.below hbx⟩
  rw [← hbp, ← hbv]
  clear hwx hbx HX HLA HBA HSA HLB HPB HBB hbp hbv l10 l11 l12 l13 l14 l15
  have HS := Lib.hid (SameValue0_any (w := wx) x.v a.A7 a.c7 a.A8 a.c8 H0.out.c.h7 H0.out.c.l7 H0.out.c.h8 H0.out.c.l8)
  obtain ⟨l0, l1, l2, l3, l4, l5, l6, l7, l8, l9, l10, l11, l12, l13, l14, l15, l16, l17⟩ := cells18 H0.out.l
  clear l1 l2 l3 l4 l5 l6 l7 l8 l9 l10 l11 l12 l13 l14 l15
  obtain ⟨p0, p1, p2, p3, p4, p5, p6, p7, p8⟩ := cells9 H0.out.p
  have k1 : (x.k == 1) = false := by rw [HK.out]; rfl
  have k1n : (x.k != 1) = true := by rw [bne, k1]; rfl
  have k2 : (x.k == 2) = false := by rw [HK.out]; rfl
  have k2n : (x.k != 2) = true := by rw [bne, k2]; rfl
  have k3 : (x.k == 3) = true := by rw [HK.out]; rfl
  have k3n : (x.k != 3) = false := by rw [bne, k3]; rfl
  have k4 : (x.k == 4) = false := by rw [HK.out]; rfl
  have k4n : (x.k != 4) = true := by rw [bne, k4]; rfl
  cases h1 : (x.pv == 0)
  case false =>
    have h1n : (x.pv != 0) = true := by rw [bne, h1]; rfl
    have hbv : bareB x = false := by simp only [bareB, noP, k1, k2, k3, k4, h1, Bool.true_and, Bool.false_and, Bool.and_true, Bool.and_false, Bool.true_or, Bool.false_or, Bool.or_true, Bool.or_false, Bool.not_true, Bool.not_false]
    have HVV := Lib.hid (show goodL x = false by unfold goodL; rw [hbv]; rfl)
    clear hbv
    go_wp2
    go_ret
    exact ⟨by rw [HVV.out] <;> rfl, H0.out.b⟩
  case true =>
    have h1n : (x.pv != 0) = false := by rw [bne, h1]; rfl
    cases h2 : (x.pf == 0)
    case false =>
      have h2n : (x.pf != 0) = true := by rw [bne, h2]; rfl
      have hbv : bareB x = false := by simp only [bareB, noP, k1, k2, k3, k4, h1, h2, Bool.true_and, Bool.false_and, Bool.and_true, Bool.and_false, Bool.true_or, Bool.false_or, Bool.or_true, Bool.or_false, Bool.not_true, Bool.not_false]
      have HVV := Lib.hid (show goodL x = false by unfold goodL; rw [hbv]; rfl)
      clear hbv
      go_wp2
      go_ret
      exact ⟨by rw [HVV.out] <;> rfl, H0.out.b⟩
    case true =>
      have h2n : (x.pf != 0) = false := by rw [bne, h2]; rfl
      cases h3 : (x.px == 0)
      case false =>
        have h3n : (x.px != 0) = true := by rw [bne, h3]; rfl
        have hbv : bareB x = false := by simp only [bareB, noP, k1, k2, k3, k4, h1, h2, h3, Bool.true_and, Bool.false_and, Bool.and_true, Bool.and_false, Bool.true_or, Bool.false_or, Bool.or_true, Bool.or_false, Bool.not_true, Bool.not_false]
        have HVV := Lib.hid (show goodL x = false by unfold goodL; rw [hbv]; rfl)
        clear hbv
        go_wp2
        go_ret
        exact ⟨by rw [HVV.out] <;> rfl, H0.out.b⟩
      case true =>
        have h3n : (x.px != 0) = false := by rw [bne, h3]; rfl
        cases h4 : (x.ps.length == 0)
        case false =>
          have h4i : ((x.ps.length : Int) == 0) = false := (eq_len x.ps.length 0).trans h4
          have h4n : ((x.ps.length : Int) != 0) = true := by rw [bne, h4i]; rfl
          have hbv : bareB x = false := by simp only [bareB, noP, k1, k2, k3, k4, h1, h2, h3, h4, Bool.true_and, Bool.false_and, Bool.and_true, Bool.and_false, Bool.true_or, Bool.false_or, Bool.or_true, Bool.or_false, Bool.not_true, Bool.not_false]
          have HVV := Lib.hid (show goodL x = false by unfold goodL; rw [hbv]; rfl)
          clear hbv
          go_wp2
          go_ret
          exact ⟨by rw [HVV.out] <;> rfl, H0.out.b⟩
        case true =>
          have h4i : ((x.ps.length : Int) == 0) = true := (eq_len x.ps.length 0).trans h4
          have h4n : ((x.ps.length : Int) != 0) = false := by rw [bne, h4i]; rfl
          cases h5 : (zV x.v)
          case false =>
            have HQ := HS.out
            simp only [h5] at HQ
            have HSq := Lib.hid HQ
            clear HQ
            have hbv : bareB x = false := by simp only [bareB, noP, k1, k2, k3, k4, h1, h2, h3, h4, h5, Bool.true_and, Bool.false_and, Bool.and_true, Bool.and_false, Bool.true_or, Bool.false_or, Bool.or_true, Bool.or_false, Bool.not_true, Bool.not_false]
            have HVV := Lib.hid (show goodL x = false by unfold goodL; rw [hbv]; rfl)
            clear hbv
            go_wp2_with (go_at_call 68; (with_reducible refine (HSq.out).mono ?_); rintro e w2 ⟨rfl, hb2⟩)
            go_ret
            exact ⟨by rw [HVV.out] <;> rfl, H0.out.b.trans (hb2.mono H0.out.b.size)⟩
          case true =>
            have HQ := HS.out
            simp only [h5] at HQ
            have HSq := Lib.hid HQ
            clear HQ
            have hno : noP x = true := by simp only [noP, h1, h2, h3, h4, h5, Bool.true_and, Bool.false_and, Bool.and_true, Bool.and_false, Bool.true_or, Bool.false_or, Bool.or_true, Bool.or_false, Bool.not_true, Bool.not_false]
            have HNO := Lib.hid hno
            clear hno h1 h2 h3 h4
            go_upto_region 5 with (go_at_call 68; (with_reducible refine (HSq.out).mono ?_); rintro e w2 ⟨rfl, hb2⟩)
            have H1 := Lib.hid (H0.out.below hb2)
            clear hb2 l0 l16 l17 p0 p1 p2 p3 p4 p5 p6 p7 p8 h1n h2n h3n h4i h4n h5 HSq HS
            obtain ⟨l0, l1, l2, l3, l4, l5, l6, l7, l8, l9, l10, l11, l12, l13, l14, l15, l16, l17⟩ := cells18 H1.out.l
            clear l1 l2 l3 l4 l5 l6 l7 l8 l9 l10 l11 l12 l13 l14 l15
            obtain ⟨v0, v1, v2, v3, v4, v5⟩ := cells6 H1.out.v
            cases g1 : (x.vr == 0)
            case false =>
              have g1n : (x.vr != 0) = true := by rw [bne, g1]; rfl
              have hbv : bareB x = false := by simp only [bareB, noV, k1, k2, k3, k4, g1, Bool.true_and, Bool.false_and, Bool.and_true, Bool.and_false, Bool.true_or, Bool.false_or, Bool.or_true, Bool.or_false, Bool.not_true, Bool.not_false]
              have HVV := Lib.hid (show goodL x = false by unfold goodL; rw [hbv]; rfl)
              clear hbv
              go_wp2
              go_ret
              exact ⟨by rw [HVV.out] <;> rfl, H1.out.b⟩
            case true =>
              have g1n : (x.vr != 0) = false := by rw [bne, g1]; rfl
              cases g2 : (x.vv == 0)
              case false =>
                have g2n : (x.vv != 0) = true := by rw [bne, g2]; rfl
                have hbv : bareB x = false := by simp only [bareB, noV, k1, k2, k3, k4, g1, g2, Bool.true_and, Bool.false_and, Bool.and_true, Bool.and_false, Bool.true_or, Bool.false_or, Bool.or_true, Bool.or_false, Bool.not_true, Bool.not_false]
                have HVV := Lib.hid (show goodL x = false by unfold goodL; rw [hbv]; rfl)
                clear hbv
                go_wp2
                go_ret
                exact ⟨by rw [HVV.out] <;> rfl, H1.out.b⟩
              case true =>
                have g2n : (x.vv != 0) = false := by rw [bne, g2]; rfl
                cases g3 : (x.vp == 0)
                case false =>
                  have g3n : (x.vp != 0) = true := by rw [bne, g3]; rfl
                  have hbv : bareB x = false := by simp only [bareB, noV, k1, k2, k3, k4, g1, g2, g3, Bool.true_and, Bool.false_and, Bool.and_true, Bool.and_false, Bool.true_or, Bool.false_or, Bool.or_true, Bool.or_false, Bool.not_true, Bool.not_false]
                  have HVV := Lib.hid (show goodL x = false by unfold goodL; rw [hbv]; rfl)
                  clear hbv
                  go_wp2
                  go_ret
                  exact ⟨by rw [HVV.out] <;> rfl, H1.out.b⟩
                case true =>
                  have g3n : (x.vp != 0) = false := by rw [bne, g3]; rfl
                  cases g4 : (x.vf == 0)
                  case false =>
                    have g4n : (x.vf != 0) = true := by rw [bne, g4]; rfl
                    have hbv : bareB x = false := by simp only [bareB, noV, k1, k2, k3, k4, g1, g2, g3, g4, Bool.true_and, Bool.false_and, Bool.and_true, Bool.and_false, Bool.true_or, Bool.false_or, Bool.or_true, Bool.or_false, Bool.not_true, Bool.not_false]
                    have HVV := Lib.hid (show goodL x = false by unfold goodL; rw [hbv]; rfl)
                    clear hbv
                    go_wp2
                    go_ret
                    exact ⟨by rw [HVV.out] <;> rfl, H1.out.b⟩
                  case true =>
                    have g4n : (x.vf != 0) = false := by rw [bne, g4]; rfl
                    cases g5 : (x.vi.length == 0)
                    case false =>
                      have g5i : ((x.vi.length : Int) == 0) = false := (eq_len x.vi.length 0).trans g5
                      have g5n : ((x.vi.length : Int) != 0) = true := by rw [bne, g5i]; rfl
                      have hbv : bareB x = false := by simp only [bareB, noV, k1, k2, k3, k4, g1, g2, g3, g4, g5, Bool.true_and, Bool.false_and, Bool.and_true, Bool.and_false, Bool.true_or, Bool.false_or, Bool.or_true, Bool.or_false, Bool.not_true, Bool.not_false]
                      have HVV := Lib.hid (show goodL x = false by unfold goodL; rw [hbv]; rfl)
                      clear hbv
                      go_wp2
                      go_ret
                      exact ⟨by rw [HVV.out] <;> rfl, H1.out.b⟩
                    case true =>
                      have g5i : ((x.vi.length : Int) == 0) = true := (eq_len x.vi.length 0).trans g5
                      have g5n : ((x.vi.length : Int) != 0) = false := by rw [bne, g5i]; rfl
                      cases g6 : (x.vs.length == 0)
                      case false =>
                        have g6i : ((x.vs.length : Int) == 0) = false := (eq_len x.vs.length 0).trans g6
                        have g6n : ((x.vs.length : Int) != 0) = true := by rw [bne, g6i]; rfl
                        have hbv : bareB x = false := by simp only [bareB, noV, k1, k2, k3, k4, g1, g2, g3, g4, g5, g6, Bool.true_and, Bool.false_and, Bool.and_true, Bool.and_false, Bool.true_or, Bool.false_or, Bool.or_true, Bool.or_false, Bool.not_true, Bool.not_false]
                        have HVV := Lib.hid (show goodL x = false by unfold goodL; rw [hbv]; rfl)
                        clear hbv
                        go_wp2
                        go_ret
                        exact ⟨by rw [HVV.out] <;> rfl, H1.out.b⟩
                      case true =>
                        have g6i : ((x.vs.length : Int) == 0) = true := (eq_len x.vs.length 0).trans g6
                        have g6n : ((x.vs.length : Int) != 0) = false := by rw [bne, g6i]; rfl
                        have hnv : noV x = true := by simp only [noV, g1, g2, g3, g4, g5, g6, Bool.true_and, Bool.false_and, Bool.and_true, Bool.and_false, Bool.true_or, Bool.false_or, Bool.or_true, Bool.or_false, Bool.not_true, Bool.not_false]
                        have HNV := Lib.hid hnv
                        clear hnv g1 g2 g3 g4
                        go_upto_region 7 with (fail)
                        clear v0 v1 v2 v3 v4 v5 g1n g2n g3n g4n g5 g5i g5n g6 g6i g6n
                        cases e0 : (x.es.length == 0)
                        case false =>
                          have e0p : decide ((0 : Int) < (x.es.length : Int)) = true := by rw [dec_pos, e0]; rfl
                          have e0q : decide (0 < x.es.length) = true := (show decide (0 < x.es.length) = decide ((0 : Int) < (x.es.length : Int)) by simp).trans e0p
                          have hbv : bareB x = false := by simp only [bareB, HNO.out, HNV.out, k1, k2, k3, k4, e0, Bool.true_and, Bool.false_and, Bool.and_true, Bool.and_false, Bool.true_or, Bool.false_or, Bool.or_true, Bool.or_false, Bool.not_true, Bool.not_false]
                          have HVV := Lib.hid (show goodL x = false by unfold goodL; rw [hbv]; rfl)
                          clear hbv
                          go_wp2
                          go_ret
                          exact ⟨by rw [HVV.out] <;> rfl, H1.out.b⟩
                        case true =>
                          have e0p : decide ((0 : Int) < (x.es.length : Int)) = false := by rw [dec_pos, e0]; rfl
                          have e0q : decide (0 < x.es.length) = false := (show decide (0 < x.es.length) = decide ((0 : Int) < (x.es.length : Int)) by simp).trans e0p
                          have hbr : bareB x = true := by simp only [bareB, HNO.out, HNV.out, k1, k2, k3, k4, e0, Bool.true_and, Bool.false_and, Bool.and_true, Bool.and_false, Bool.true_or, Bool.false_or, Bool.or_true, Bool.or_false, Bool.not_true, Bool.not_false]
                          have HGV := Lib.hid (show goodL x = inR x.r 1 2147483648 by unfold goodL; rw [hbr, HK.out]; rfl)
                          clear hbr
                          go_wp2_with (go_at_call 69; (with_reducible refine (cleromancyref24_from.calls x.r 1 2147483648 _ _ (from_f _ _ _)).mono ?_); rintro e w' ⟨rfl, ⟨⟨nd, rfl⟩⟩⟩)
                          go_ret
                          exact ⟨by rw [HGV.out] <;> rfl, by repeat (first | exact H1.out.b | apply pw_below_drewN)⟩
end Go.Proofs.YtpeebjnfmlfocaaDoor.Sh
