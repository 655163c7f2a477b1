/- The document's Good of a letter at this program. No condition. Printed by gen/shd.py. -/
import Derived.Test.YtpeebjnfmlfocaaDoorSx12
namespace Go.Proofs.YtpeebjnfmlfocaaDoor.Sh
open Go.RowKit Go.Proofs.YtpeebjnfmlfocaaDoorW.PrintWords Go.Proofs.YtpeebjnfmlfocaaDoorW.PrintLast Go.Proofs.YtpeebjnfmlfocaaDoorW.PrintMore
set_option maxRecDepth 100000
set_option linter.unusedVariables false
set_option linter.unusedSimpArgs false
set_option maxHeartbeats 8000000 in
theorem RGood4_any (x : Let) (a : Ad) (w : World) (hx : LetC w x a) (hk : x.k = 4) : Calls Tryd.prog 33 #[letV x a] w fun e w' => e = .returned (.bool (goodL x)) ∧ Below w.heap.size w w' := by
  have HK := Lib.hid hk
  clear hk
  have HX := Lib.hid hx
  clear hx
  show Calls Tryd.prog 33 #[.agg #[.int .i64 x.k, .int .i64 x.pv, .int .i64 x.pf, .int .i64 x.px, .int .i64 x.v.f0, .int .i64 x.v.f1, .int .i64 x.v.f2, .slice a.A7 x.v.f3.length a.c7, .slice a.A8 x.v.f4.length a.c8, .slice a.A9 x.ps.length a.c9, .int .i64 x.vr, .int .i64 x.vv, .int .i64 x.vp, .int .i64 x.vf, .slice a.A14 x.vi.length a.c14, .slice a.A15 x.vs.length a.c15, .int .i64 x.r, .slice a.A17 x.es.length a.c17]] w _
  go_enter Tryd.func33, Tryd.ntmps33
  go_upto_region 1 with (fail)
  obtain ⟨wa, hwa⟩ : ∃ wa, wa = w.alloc (.cells #[.int .i64 x.k, .int .i64 x.pv, .int .i64 x.pf, .int .i64 x.px, .int .i64 x.v.f0, .int .i64 x.v.f1, .int .i64 x.v.f2, .slice a.A7 x.v.f3.length a.c7, .slice a.A8 x.v.f4.length a.c8, .slice a.A9 x.ps.length a.c9, .int .i64 x.vr, .int .i64 x.vv, .int .i64 x.vp, .int .i64 x.vf, .slice a.A14 x.vi.length a.c14, .slice a.A15 x.vs.length a.c15, .int .i64 x.r, .slice a.A17 x.es.length a.c17] 54) := ⟨_, rfl⟩
  rw [← hwa]
  have hla : wa.heap[w.heap.size]? = some (.cells #[.int .i64 x.k, .int .i64 x.pv, .int .i64 x.pf, .int .i64 x.px, .int .i64 x.v.f0, .int .i64 x.v.f1, .int .i64 x.v.f2, .slice a.A7 x.v.f3.length a.c7, .slice a.A8 x.v.f4.length a.c8, .slice a.A9 x.ps.length a.c9, .int .i64 x.vr, .int .i64 x.vv, .int .i64 x.vp, .int .i64 x.vf, .slice a.A14 x.vi.length a.c14, .slice a.A15 x.vs.length a.c15, .int .i64 x.r, .slice a.A17 x.es.length a.c17] 54) := by rw [hwa]; exact blk_new _ _
  have hba : Below w.heap.size w wa := by rw [hwa]; exact below_alloc (Below.refl _ _) _
  have hsa : wa.heap.size = w.heap.size + 1 := by rw [hwa]; simp
  have HLA := Lib.hid hla
  have HBA := Lib.hid hba
  have HSA := Lib.hid hsa
  clear hwa hla hba hsa
  obtain ⟨l0, l1, l2, l3, l4, l5, l6, l7, l8, l9, l10, l11, l12, l13, l14, l15, l16, l17⟩ := cells18 HLA.out
  clear l0 l10 l11 l12 l13 l14 l15 l16 l17
  go_upto_region 2 with (fail)
  obtain ⟨wb, hwb⟩ : ∃ wb, wb = wa.alloc (.cells #[.int .i64 x.pv, .int .i64 x.pf, .int .i64 x.px, .int .i64 x.v.f0, .int .i64 x.v.f1, .int .i64 x.v.f2, .slice a.A7 x.v.f3.length a.c7, .slice a.A8 x.v.f4.length a.c8, .slice a.A9 x.ps.length a.c9] 49) := ⟨_, rfl⟩
  rw [← hwb]
  have hlb : wb.heap[w.heap.size]? = some (.cells #[.int .i64 x.k, .int .i64 x.pv, .int .i64 x.pf, .int .i64 x.px, .int .i64 x.v.f0, .int .i64 x.v.f1, .int .i64 x.v.f2, .slice a.A7 x.v.f3.length a.c7, .slice a.A8 x.v.f4.length a.c8, .slice a.A9 x.ps.length a.c9, .int .i64 x.vr, .int .i64 x.vv, .int .i64 x.vp, .int .i64 x.vf, .slice a.A14 x.vi.length a.c14, .slice a.A15 x.vs.length a.c15, .int .i64 x.r, .slice a.A17 x.es.length a.c17] 54) := by rw [hwb]; exact blk_alloc HLA.out _
  have hpb : wb.heap[wa.heap.size]? = some (.cells #[.int .i64 x.pv, .int .i64 x.pf, .int .i64 x.px, .int .i64 x.v.f0, .int .i64 x.v.f1, .int .i64 x.v.f2, .slice a.A7 x.v.f3.length a.c7, .slice a.A8 x.v.f4.length a.c8, .slice a.A9 x.ps.length a.c9] 49) := by rw [hwb]; exact blk_new _ _
  have hbb : Below w.heap.size w wb := by rw [hwb]; exact HBA.out.alloc HBA.out.size _
  have HLB := Lib.hid hlb
  have HPB := Lib.hid hpb
  have HBB := Lib.hid hbb
  clear hwb hlb hpb hbb l1 l2 l3 l4 l5 l6 l7 l8 l9
  obtain ⟨l0, l1, l2, l3, l4, l5, l6, l7, l8, l9, l10, l11, l12, l13, l14, l15, l16, l17⟩ := cells18 HLB.out
  clear l0 l1 l2 l3 l4 l5 l6 l7 l8 l9 l16 l17
  go_upto_region 3 with (fail)
  obtain ⟨wx, hwx⟩ : ∃ wx, wx = wb.alloc (.cells #[.int .i64 x.vr, .int .i64 x.vv, .int .i64 x.vp, .int .i64 x.vf, .slice a.A14 x.vi.length a.c14, .slice a.A15 x.vs.length a.c15] 51) := ⟨_, rfl⟩
  rw [← hwx]
  obtain ⟨bp, hbp⟩ : ∃ bp, bp = wa.heap.size := ⟨_, rfl⟩
  obtain ⟨bv, hbv⟩ : ∃ bv, bv = wb.heap.size := ⟨_, rfl⟩
  have hbx : Below w.heap.size w wx := by rw [hwx]; exact HBB.out.alloc HBB.out.size _
  have H0 : Hid (Blk3 x a w wx w.heap.size bp bv) := Lib.hid ⟨by rw [hwx]; exact blk_alloc HLB.out _, by rw [hwx, hbp]; exact blk_alloc HPB.out _, by rw [hwx, hbv]; exact blk_new _ _, hbx, HX.out.below hbx⟩
  rw [← hbp, ← hbv]
  clear hwx hbx HX HLA HBA HSA HLB HPB HBB hbp hbv l10 l11 l12 l13 l14 l15
  have HS := Lib.hid (SameValue0_any (w := wx) x.v a.A7 a.c7 a.A8 a.c8 H0.out.c.h7 H0.out.c.l7 H0.out.c.h8 H0.out.c.l8)
  obtain ⟨l0, l1, l2, l3, l4, l5, l6, l7, l8, l9, l10, l11, l12, l13, l14, l15, l16, l17⟩ := cells18 H0.out.l
  clear l1 l2 l3 l4 l5 l6 l7 l8 l9 l10 l11 l12 l13 l14 l15
  obtain ⟨p0, p1, p2, p3, p4, p5, p6, p7, p8⟩ := cells9 H0.out.p
  have k1 : (x.k == 1) = false := by rw [HK.out]; rfl
  have k1n : (x.k != 1) = true := by rw [bne, k1]; rfl
  have k2 : (x.k == 2) = false := by rw [HK.out]; rfl
  have k2n : (x.k != 2) = true := by rw [bne, k2]; rfl
  have k3 : (x.k == 3) = false := by rw [HK.out]; rfl
  have k3n : (x.k != 3) = true := by rw [bne, k3]; rfl
  have k4 : (x.k == 4) = true := by rw [HK.out]; rfl
  have k4n : (x.k != 4) = false := by rw [bne, k4]; rfl
  cases h1 : (x.pv == 0)
  case false =>
    have h1n : (x.pv != 0) = true := by rw [bne, h1]; rfl
    have hbv : bareB x = false := by simp only [bareB, noP, k1, k2, k3, k4, h1, Bool.true_and, Bool.false_and, Bool.and_true, Bool.and_false, Bool.true_or, Bool.false_or, Bool.or_true, Bool.or_false, Bool.not_true, Bool.not_false]
    have HVV := Lib.hid (show goodL x = false by unfold goodL; rw [hbv]; rfl)
    clear hbv
    go_wp2
    go_ret
    exact ⟨by rw [HVV.out] <;> rfl, H0.out.b⟩
  case true =>
    have h1n : (x.pv != 0) = false := by rw [bne, h1]; rfl
    cases h2 : (x.pf == 0)
    case false =>
      have h2n : (x.pf != 0) = true := by rw [bne, h2]; rfl
      have hbv : bareB x = false := by simp only [bareB, noP, k1, k2, k3, k4, h1, h2, Bool.true_and, Bool.false_and, Bool.and_true, Bool.and_false, Bool.true_or, Bool.false_or, Bool.or_true, Bool.or_false, Bool.not_true, Bool.not_false]
      have HVV := Lib.hid (show goodL x = false by unfold goodL; rw [hbv]; rfl)
      clear hbv
      go_wp2
      go_ret
      exact ⟨by rw [HVV.out] <;> rfl, H0.out.b⟩
    case true =>
      have h2n : (x.pf != 0) = false := by rw [bne, h2]; rfl
      cases h3 : (x.px == 0)
      case false =>
        have h3n : (x.px != 0) = true := by rw [bne, h3]; rfl
        have hbv : bareB x = false := by simp only [bareB, noP, k1, k2, k3, k4, h1, h2, h3, Bool.true_and, Bool.false_and, Bool.and_true, Bool.and_false, Bool.true_or, Bool.false_or, Bool.or_true, Bool.or_false, Bool.not_true, Bool.not_false]
        have HVV := Lib.hid (show goodL x = false by unfold goodL; rw [hbv]; rfl)
        clear hbv
        go_wp2
        go_ret
        exact ⟨by rw [HVV.out] <;> rfl, H0.out.b⟩
      case true =>
        have h3n : (x.px != 0) = false := by rw [bne, h3]; rfl
        cases h4 : (x.ps.length == 0)
        case false =>
          have h4i : ((x.ps.length : Int) == 0) = false := (eq_len x.ps.length 0).trans h4
          have h4n : ((x.ps.length : Int) != 0) = true := by rw [bne, h4i]; rfl
          have hbv : bareB x = false := by simp only [bareB, noP, k1, k2, k3, k4, h1, h2, h3, h4, Bool.true_and, Bool.false_and, Bool.and_true, Bool.and_false, Bool.true_or, Bool.false_or, Bool.or_true, Bool.or_false, Bool.not_true, Bool.not_false]
          have HVV := Lib.hid (show goodL x = false by unfold goodL; rw [hbv]; rfl)
          clear hbv
          go_wp2
          go_ret
          exact ⟨by rw [HVV.out] <;> rfl, H0.out.b⟩
        case true =>
          have h4i : ((x.ps.length : Int) == 0) = true := (eq_len x.ps.length 0).trans h4
          have h4n : ((x.ps.length : Int) != 0) = false := by rw [bne, h4i]; rfl
          cases h5 : (zV x.v)
          case false =>
            have HQ := HS.out
            simp only [h5] at HQ
            have HSq := Lib.hid HQ
            clear HQ
            have hbv : bareB x = false := by simp only [bareB, noP, k1, k2, k3, k4, h1, h2, h3, h4, h5, Bool.true_and, Bool.false_and, Bool.and_true, Bool.and_false, Bool.true_or, Bool.false_or, Bool.or_true, Bool.or_false, Bool.not_true, Bool.not_false]
            have HVV := Lib.hid (show goodL x = false by unfold goodL; rw [hbv]; rfl)
            clear hbv
            go_wp2_with (go_at_call 68; (with_reducible refine (HSq.out).mono ?_); rintro e w2 ⟨rfl, hb2⟩)
            go_ret
            exact ⟨by rw [HVV.out] <;> rfl, H0.out.b.trans (hb2.mono H0.out.b.size)⟩
          case true =>
            have HQ := HS.out
            simp only [h5] at HQ
            have HSq := Lib.hid HQ
            clear HQ
            have hno : noP x = true := by simp only [noP, h1, h2, h3, h4, h5, Bool.true_and, Bool.false_and, Bool.and_true, Bool.and_false, Bool.true_or, Bool.false_or, Bool.or_true, Bool.or_false, Bool.not_true, Bool.not_false]
            have HNO := Lib.hid hno
            clear hno h1 h2 h3 h4
            go_upto_region 5 with (go_at_call 68; (with_reducible refine (HSq.out).mono ?_); rintro e w2 ⟨rfl, hb2⟩)
            have H1 := Lib.hid (H0.out.below hb2)
            clear hb2 l0 l16 l17 p0 p1 p2 p3 p4 p5 p6 p7 p8 h1n h2n h3n h4i h4n h5 HSq HS
            obtain ⟨l0, l1, l2, l3, l4, l5, l6, l7, l8, l9, l10, l11, l12, l13, l14, l15, l16, l17⟩ := cells18 H1.out.l
            clear l1 l2 l3 l4 l5 l6 l7 l8 l9 l10 l11 l12 l13 l14 l15
            obtain ⟨v0, v1, v2, v3, v4, v5⟩ := cells6 H1.out.v
            cases g1 : (x.vr == 0)
            case false =>
              have g1n : (x.vr != 0) = true := by rw [bne, g1]; rfl
              have hbv : bareB x = false := by simp only [bareB, noV, k1, k2, k3, k4, g1, Bool.true_and, Bool.false_and, Bool.and_true, Bool.and_false, Bool.true_or, Bool.false_or, Bool.or_true, Bool.or_false, Bool.not_true, Bool.not_false]
              have HVV := Lib.hid (show goodL x = false by unfold goodL; rw [hbv]; rfl)
              clear hbv
              go_wp2
              go_ret
              exact ⟨by rw [HVV.out] <;> rfl, H1.out.b⟩
            case true =>
              have g1n : (x.vr != 0) = false := by rw [bne, g1]; rfl
              cases g2 : (x.vv == 0)
              case false =>
                have g2n : (x.vv != 0) = true := by rw [bne, g2]; rfl
                have hbv : bareB x = false := by simp only [bareB, noV, k1, k2, k3, k4, g1, g2, Bool.true_and, Bool.false_and, Bool.and_true, Bool.and_false, Bool.true_or, Bool.false_or, Bool.or_true, Bool.or_false, Bool.not_true, Bool.not_false]
                have HVV := Lib.hid (show goodL x = false by unfold goodL; rw [hbv]; rfl)
                clear hbv
                go_wp2
                go_ret
                exact ⟨by rw [HVV.out] <;> rfl, H1.out.b⟩
              case true =>
                have g2n : (x.vv != 0) = false := by rw [bne, g2]; rfl
                cases g3 : (x.vp == 0)
                case false =>
                  have g3n : (x.vp != 0) = true := by rw [bne, g3]; rfl
                  have hbv : bareB x = false := by simp only [bareB, noV, k1, k2, k3, k4, g1, g2, g3, Bool.true_and, Bool.false_and, Bool.and_true, Bool.and_false, Bool.true_or, Bool.false_or, Bool.or_true, Bool.or_false, Bool.not_true, Bool.not_false]
                  have HVV := Lib.hid (show goodL x = false by unfold goodL; rw [hbv]; rfl)
                  clear hbv
                  go_wp2
                  go_ret
                  exact ⟨by rw [HVV.out] <;> rfl, H1.out.b⟩
                case true =>
                  have g3n : (x.vp != 0) = false := by rw [bne, g3]; rfl
                  cases g4 : (x.vf == 0)
                  case false =>
                    have g4n : (x.vf != 0) = true := by rw [bne, g4]; rfl
                    have hbv : bareB x = false := by simp only [bareB, noV, k1, k2, k3, k4, g1, g2, g3, g4, Bool.true_and, Bool.false_and, Bool.and_true, Bool.and_false, Bool.true_or, Bool.false_or, Bool.or_true, Bool.or_false, Bool.not_true, Bool.not_false]
                    have HVV := Lib.hid (show goodL x = false by unfold goodL; rw [hbv]; rfl)
                    clear hbv
                    go_wp2
                    go_ret
                    exact ⟨by rw [HVV.out] <;> rfl, H1.out.b⟩
                  case true =>
                    have g4n : (x.vf != 0) = false := by rw [bne, g4]; rfl
                    cases g5 : (x.vi.length == 0)
                    case false =>
                      have g5i : ((x.vi.length : Int) == 0) = false := (eq_len x.vi.length 0).trans g5
                      have g5n : ((x.vi.length : Int) != 0) = true := by rw [bne, g5i]; rfl
                      have hbv : bareB x = false := by simp only [bareB, noV, k1, k2, k3, k4, g1, g2, g3, g4, g5, Bool.true_and, Bool.false_and, Bool.and_true, Bool.and_false, Bool.true_or, Bool.false_or, Bool.or_true, Bool.or_false, Bool.not_true, Bool.not_false]
                      have HVV := Lib.hid (show goodL x = false by unfold goodL; rw [hbv]; rfl)
                      clear hbv
                      go_wp2
                      go_ret
                      exact ⟨by rw [HVV.out] <;> rfl, H1.out.b⟩
                    case true =>
                      have g5i : ((x.vi.length : Int) == 0) = true := (eq_len x.vi.length 0).trans g5
                      have g5n : ((x.vi.length : Int) != 0) = false := by rw [bne, g5i]; rfl
                      cases g6 : (x.vs.length == 0)
                      case false =>
                        have g6i : ((x.vs.length : Int) == 0) = false := (eq_len x.vs.length 0).trans g6
                        have g6n : ((x.vs.length : Int) != 0) = true := by rw [bne, g6i]; rfl
                        have hbv : bareB x = false := by simp only [bareB, noV, k1, k2, k3, k4, g1, g2, g3, g4, g5, g6, Bool.true_and, Bool.false_and, Bool.and_true, Bool.and_false, Bool.true_or, Bool.false_or, Bool.or_true, Bool.or_false, Bool.not_true, Bool.not_false]
                        have HVV := Lib.hid (show goodL x = false by unfold goodL; rw [hbv]; rfl)
                        clear hbv
                        go_wp2
                        go_ret
                        exact ⟨by rw [HVV.out] <;> rfl, H1.out.b⟩
                      case true =>
                        have g6i : ((x.vs.length : Int) == 0) = true := (eq_len x.vs.length 0).trans g6
                        have g6n : ((x.vs.length : Int) != 0) = false := by rw [bne, g6i]; rfl
                        have hnv : noV x = true := by simp only [noV, g1, g2, g3, g4, g5, g6, Bool.true_and, Bool.false_and, Bool.and_true, Bool.and_false, Bool.true_or, Bool.false_or, Bool.or_true, Bool.or_false, Bool.not_true, Bool.not_false]
                        have HNV := Lib.hid hnv
                        clear hnv g1 g2 g3 g4
                        go_upto_region 7 with (fail)
                        clear v0 v1 v2 v3 v4 v5 g1n g2n g3n g4n g5 g5i g5n g6 g6i g6n
                        cases r0 : (x.r == 0)
                        case false =>
                          have r0n : (x.r != 0) = true := by rw [bne, r0]; rfl
                          have hbv : bareB x = false := by simp only [bareB, HNO.out, HNV.out, k1, k2, k3, k4, r0, Bool.true_and, Bool.false_and, Bool.and_true, Bool.and_false, Bool.true_or, Bool.false_or, Bool.or_true, Bool.or_false, Bool.not_true, Bool.not_false]
                          have HVV := Lib.hid (show goodL x = false by unfold goodL; rw [hbv]; rfl)
                          clear hbv
                          go_wp2
                          go_ret
                          exact ⟨by rw [HVV.out] <;> rfl, H1.out.b⟩
                        case true =>
                          have r0n : (x.r != 0) = false := by rw [bne, r0]; rfl
                          have hbr : bareB x = true := by simp only [bareB, HNO.out, HNV.out, k1, k2, k3, k4, r0, Bool.true_and, Bool.false_and, Bool.and_true, Bool.and_false, Bool.true_or, Bool.false_or, Bool.or_true, Bool.or_false, Bool.not_true, Bool.not_false]
                          have HGV := Lib.hid (show goodL x = (decide (x.es.length ≤ 16) && x.es.all gE) by unfold goodL; rw [hbr, HK.out]; rfl)
                          clear hbr
                          have dg := dec_gt x.es.length 16
                          cases a5 : decide (x.es.length ≤ 16)
                          case false =>
                            have hv := HGV.out
                            rw [a5, Bool.false_and] at hv
                            have HVV := Lib.hid hv
                            clear hv
                            rw [a5] at dg
                            simp only [Bool.not_false] at dg
                            have dg2 : decide ((16 : Int) < (x.es.length : Int)) = true := dg
                            have dg3 : decide (16 < x.es.length) = true := (show decide (16 < x.es.length) = decide ((16 : Int) < (x.es.length : Int)) by rw [decide_eq_decide]; omega).trans dg2
                            go_wp2
                            go_ret
                            exact ⟨by rw [HVV.out] <;> rfl, H1.out.b⟩
                          case true =>
                            have hv := HGV.out
                            rw [a5, Bool.true_and] at hv
                            rw [a5] at dg
                            simp only [Bool.not_true] at dg
                            have dg2 : decide ((16 : Int) < (x.es.length : Int)) = false := dg
                            have dg3 : decide (16 < x.es.length) = false := (show decide (16 < x.es.length) = decide ((16 : Int) < (x.es.length : Int)) by rw [decide_eq_decide]; omega).trans dg2
                            have hn16 : x.es.length ≤ 16 := of_decide_eq_true a5
                            obtain ⟨R, hR⟩ : ∃ R, R = goodL x := ⟨_, rfl⟩
                            rw [← hR] at hv
                            have HR : Hid (allFrom gE x.es 0 = R) := Lib.hid hv.symm
                            have HRG := Lib.hid hR
                            clear hR hv HGV a5 HNO HNV
                            skip
                            go_wp2
                            clear dg dg2 dg3 l0 l16 l17 r0 r0n
                            go_loopw [5] (fun i wr => ∃ k : Nat, k ≤ x.es.length ∧ i = .int .i64 k ∧ Hid (allFrom gE x.es k = R) ∧ Blk3 x a w wr w.heap.size bp bv) (fun i _ => x.es.length - (intOf i).toNat)
                            case atStart => exact ⟨0, by omega, rfl, HR, H1.out⟩
                            case round =>
                              obtain ⟨k, hk, rfl, hP, hB⟩ := hrel
                              clear HR
                              obtain ⟨l0, l1, l2, l3, l4, l5, l6, l7, l8, l9, l10, l11, l12, l13, l14, l15, l16, l17⟩ := cells18 hB.l
                              clear l0 l1 l2 l3 l4 l5 l6 l7 l8 l9 l10 l11 l12 l13 l14 l15 l16
                              have HBB := Lib.hid hB
                              clear hB
                              by_cases hlt : k < x.es.length
                              · obtain ⟨ad, q, had, hq, e0, e1, e2, e3, e4, e5, e6, e7, e8⟩ := ent_at HBB.out.c.h17 k hlt
                                have hP2 := hP.out
                                rw [allFrom_at _ _ _ hlt] at hP2
                                obtain ⟨n, hn⟩ : ∃ n, n = x.es[k] := ⟨_, rfl⟩
                                rw [← hn] at hq e0 e1 e2 e3 e4 e5 e6 e7 e8 hP2
                                have HQ := Lib.hid hq
                                have HP2 := Lib.hid hP2
                                have HAD := Lib.hid had
                                rw [had] at l17 ⊢
                                have dlt : decide ((k : Int) < (x.es.length : Int)) = true := decide_eq_true (by omega)
                                clear hn hP hq hP2 had
                                go_upto_region 21 with (fail)
                                obtain ⟨wy, hwy⟩ : ∃ wy, wy = wr.alloc (.cells #[.int .i64 n.f1.f0, .int .i64 n.f1.f1, .slice q.A7 n.f1.f2.length q.c7, .slice q.A8 n.f1.f3.length q.c8] 96) := ⟨_, rfl⟩
                                rw [← hwy]
                                have hby : Below wr.heap.size wr wy := by rw [hwy]; exact below_alloc (Below.refl _ _) _
                                have hcy : wy.heap[wr.heap.size]? = some (.cells #[.int .i64 n.f1.f0, .int .i64 n.f1.f1, .slice q.A7 n.f1.f2.length q.c7, .slice q.A8 n.f1.f3.length q.c8] 96) := by rw [hwy]; exact blk_new _ _
                                obtain ⟨bc, hbc⟩ : ∃ bc, bc = wr.heap.size := ⟨_, rfl⟩
                                rw [← hbc] at hcy ⊢
                                have HCY := Lib.hid hcy
                                have HB2 := Lib.hid (HBB.out.below hby)
                                have HQ2 := Lib.hid (HQ.out.below hby)
                                replace e0 := pw_cell_below hby e0
                                replace e1 := pw_cell_below hby e1
                                replace e2 := pw_cell_below hby e2
                                replace e3 := pw_cell_below hby e3
                                replace e4 := pw_cell_below hby e4
                                replace l17 := pw_cell_below hby l17
                                clear hwy hby hcy hbc e5 e6 e7 e8 HBB HQ
                                obtain ⟨c0, c1, c2, c3⟩ := cells4 HCY.out
                                have HGV := Lib.hid (GoodValue_any (w := wy) n.f0 q.A3 q.c3 q.A4 q.c4 HQ2.out.h3 HQ2.out.l3 HQ2.out.h4 HQ2.out.l4)
                                have HW1 := Lib.hid (fun W => cleromancyref24_from.calls n.f1.f0 1 2147483648 _ W (from_f _ _ _))
                                have HW2 := Lib.hid (fun W => cleromancyref24_from.calls n.f1.f1 0 1048576 _ W (from_f _ _ _))
                                have dn := dec_gt n.f1.f3.length 128
                                cases a1 : (gV n.f0)
                                case false =>
                                  have HQ := HGV.out
                                  simp only [a1] at HQ
                                  have HGVq := Lib.hid HQ
                                  clear HQ
                                  have hg0 := (show gE n = (gV n.f0 && inR n.f1.f0 1 2147483648 && inR n.f1.f1 0 1048576 && (n.f1.f2.length == 32) && decide (n.f1.f3.length ≤ 128) && n.f1.f3.all gS) from rfl)
                                  simp only [a1, Bool.true_and, Bool.false_and, Bool.and_true, Bool.and_false, Bool.true_or, Bool.false_or, Bool.or_true, Bool.or_false, Bool.not_true, Bool.not_false] at hg0
                                  have hv := HP2.out
                                  rw [hg0, Bool.false_and] at hv
                                  have HVV := Lib.hid hv
                                  clear hv hg0
                                  go_wp2_with (first | (go_at_call 70; (with_reducible refine (HGVq.out).mono ?_); rintro e w3 ⟨rfl, hb3⟩; obtain ⟨m0, m1, m2, m3⟩ := cells4 (blk_below HCY.out hb3)))
                                  go_ret
                                  exact ⟨by rw [← HRG.out, ← HVV.out] <;> rfl, by repeat (first | exact HB2.out.b.trans (hb3.mono HB2.out.b.size) | apply pw_below_drewN)⟩
                                case true =>
                                  have HQ := HGV.out
                                  simp only [a1] at HQ
                                  have HGVq := Lib.hid HQ
                                  clear HQ
                                  cases a2 : (inR n.f1.f0 1 2147483648)
                                  case false =>
                                    have HQ := HW1.out
                                    simp only [a2] at HQ
                                    have HW1q := Lib.hid HQ
                                    clear HQ
                                    have hg0 := (show gE n = (gV n.f0 && inR n.f1.f0 1 2147483648 && inR n.f1.f1 0 1048576 && (n.f1.f2.length == 32) && decide (n.f1.f3.length ≤ 128) && n.f1.f3.all gS) from rfl)
                                    simp only [a1, a2, Bool.true_and, Bool.false_and, Bool.and_true, Bool.and_false, Bool.true_or, Bool.false_or, Bool.or_true, Bool.or_false, Bool.not_true, Bool.not_false] at hg0
                                    have hv := HP2.out
                                    rw [hg0, Bool.false_and] at hv
                                    have HVV := Lib.hid hv
                                    clear hv hg0
                                    go_wp2_with (first | (go_at_call 70; (with_reducible refine (HGVq.out).mono ?_); rintro e w3 ⟨rfl, hb3⟩; obtain ⟨m0, m1, m2, m3⟩ := cells4 (blk_below HCY.out hb3)) | (go_at_call 69; (with_reducible refine (HW1q.out _).mono ?_); rintro e w' ⟨rfl, ⟨⟨nd, rfl⟩⟩⟩))
                                    go_ret
                                    exact ⟨by rw [← HRG.out, ← HVV.out] <;> rfl, by repeat (first | exact HB2.out.b.trans (hb3.mono HB2.out.b.size) | apply pw_below_drewN)⟩
                                  case true =>
                                    have HQ := HW1.out
                                    simp only [a2] at HQ
                                    have HW1q := Lib.hid HQ
                                    clear HQ
                                    cases a3 : (inR n.f1.f1 0 1048576)
                                    case false =>
                                      have HQ := HW2.out
                                      simp only [a3] at HQ
                                      have HW2q := Lib.hid HQ
                                      clear HQ
                                      have hg0 := (show gE n = (gV n.f0 && inR n.f1.f0 1 2147483648 && inR n.f1.f1 0 1048576 && (n.f1.f2.length == 32) && decide (n.f1.f3.length ≤ 128) && n.f1.f3.all gS) from rfl)
                                      simp only [a1, a2, a3, Bool.true_and, Bool.false_and, Bool.and_true, Bool.and_false, Bool.true_or, Bool.false_or, Bool.or_true, Bool.or_false, Bool.not_true, Bool.not_false] at hg0
                                      have hv := HP2.out
                                      rw [hg0, Bool.false_and] at hv
                                      have HVV := Lib.hid hv
                                      clear hv hg0
                                      go_wp2_with (first | (go_at_call 70; (with_reducible refine (HGVq.out).mono ?_); rintro e w3 ⟨rfl, hb3⟩; obtain ⟨m0, m1, m2, m3⟩ := cells4 (blk_below HCY.out hb3)) | (go_at_call 69; (with_reducible refine (HW1q.out _).mono ?_); rintro e w' ⟨rfl, ⟨⟨nd, rfl⟩⟩⟩) | (go_at_call 69; (with_reducible refine (HW2q.out _).mono ?_); rintro e w' ⟨rfl, ⟨⟨nd, rfl⟩⟩⟩))
                                      go_ret
                                      exact ⟨by rw [← HRG.out, ← HVV.out] <;> rfl, by repeat (first | exact HB2.out.b.trans (hb3.mono HB2.out.b.size) | apply pw_below_drewN)⟩
                                    case true =>
                                      have HQ := HW2.out
                                      simp only [a3] at HQ
                                      have HW2q := Lib.hid HQ
                                      clear HQ
                                      cases a4 : (n.f1.f2.length == 32)
                                      case false =>
                                        have a4i : ((n.f1.f2.length : Int) == 32) = false := (eq_len n.f1.f2.length 32).trans a4
                                        have a4n : ((n.f1.f2.length : Int) != 32) = true := by rw [bne, a4i]; rfl
                                        have hg0 := (show gE n = (gV n.f0 && inR n.f1.f0 1 2147483648 && inR n.f1.f1 0 1048576 && (n.f1.f2.length == 32) && decide (n.f1.f3.length ≤ 128) && n.f1.f3.all gS) from rfl)
                                        simp only [a1, a2, a3, a4, Bool.true_and, Bool.false_and, Bool.and_true, Bool.and_false, Bool.true_or, Bool.false_or, Bool.or_true, Bool.or_false, Bool.not_true, Bool.not_false] at hg0
                                        have hv := HP2.out
                                        rw [hg0, Bool.false_and] at hv
                                        have HVV := Lib.hid hv
                                        clear hv hg0
                                        go_wp2_with (first | (go_at_call 70; (with_reducible refine (HGVq.out).mono ?_); rintro e w3 ⟨rfl, hb3⟩; obtain ⟨m0, m1, m2, m3⟩ := cells4 (blk_below HCY.out hb3)) | (go_at_call 69; (with_reducible refine (HW1q.out _).mono ?_); rintro e w' ⟨rfl, ⟨⟨nd, rfl⟩⟩⟩) | (go_at_call 69; (with_reducible refine (HW2q.out _).mono ?_); rintro e w' ⟨rfl, ⟨⟨nd, rfl⟩⟩⟩))
                                        go_ret
                                        exact ⟨by rw [← HRG.out, ← HVV.out] <;> rfl, by repeat (first | exact HB2.out.b.trans (hb3.mono HB2.out.b.size) | apply pw_below_drewN)⟩
                                      case true =>
                                        have a4i : ((n.f1.f2.length : Int) == 32) = true := (eq_len n.f1.f2.length 32).trans a4
                                        have a4n : ((n.f1.f2.length : Int) != 32) = false := by rw [bne, a4i]; rfl
                                        cases a5 : (decide (n.f1.f3.length ≤ 128))
                                        case false =>
                                          rw [a5] at dn
                                          simp only [Bool.not_false] at dn
                                          have dn2 : decide ((128 : Int) < (n.f1.f3.length : Int)) = true := dn
                                          have dn3 : decide (128 < n.f1.f3.length) = true := (show decide (128 < n.f1.f3.length) = decide ((128 : Int) < (n.f1.f3.length : Int)) by rw [decide_eq_decide]; omega).trans dn2
                                          have hg0 := (show gE n = (gV n.f0 && inR n.f1.f0 1 2147483648 && inR n.f1.f1 0 1048576 && (n.f1.f2.length == 32) && decide (n.f1.f3.length ≤ 128) && n.f1.f3.all gS) from rfl)
                                          simp only [a1, a2, a3, a4, a5, Bool.true_and, Bool.false_and, Bool.and_true, Bool.and_false, Bool.true_or, Bool.false_or, Bool.or_true, Bool.or_false, Bool.not_true, Bool.not_false] at hg0
                                          have hv := HP2.out
                                          rw [hg0, Bool.false_and] at hv
                                          have HVV := Lib.hid hv
                                          clear hv hg0
                                          go_wp2_with (first | (go_at_call 70; (with_reducible refine (HGVq.out).mono ?_); rintro e w3 ⟨rfl, hb3⟩; obtain ⟨m0, m1, m2, m3⟩ := cells4 (blk_below HCY.out hb3)) | (go_at_call 69; (with_reducible refine (HW1q.out _).mono ?_); rintro e w' ⟨rfl, ⟨⟨nd, rfl⟩⟩⟩) | (go_at_call 69; (with_reducible refine (HW2q.out _).mono ?_); rintro e w' ⟨rfl, ⟨⟨nd, rfl⟩⟩⟩))
                                          go_ret
                                          exact ⟨by rw [← HRG.out, ← HVV.out] <;> rfl, by repeat (first | exact HB2.out.b.trans (hb3.mono HB2.out.b.size) | apply pw_below_drewN)⟩
                                        case true =>
                                          rw [a5] at dn
                                          simp only [Bool.not_true] at dn
                                          have dn2 : decide ((128 : Int) < (n.f1.f3.length : Int)) = false := dn
                                          have dn3 : decide (128 < n.f1.f3.length) = false := (show decide (128 < n.f1.f3.length) = decide ((128 : Int) < (n.f1.f3.length : Int)) by rw [decide_eq_decide]; omega).trans dn2
                                          have hg0 := (show gE n = (gV n.f0 && inR n.f1.f0 1 2147483648 && inR n.f1.f1 0 1048576 && (n.f1.f2.length == 32) && decide (n.f1.f3.length ≤ 128) && n.f1.f3.all gS) from rfl)
                                          simp only [a1, a2, a3, a4, a5, Bool.true_and, Bool.false_and, Bool.and_true, Bool.and_false, Bool.true_or, Bool.false_or, Bool.or_true, Bool.or_false, Bool.not_true, Bool.not_false] at hg0
                                          have hv := HP2.out
                                          rw [hg0] at hv
                                          have HS0 : Hid ((allFrom gS n.f1.f3 0 && allFrom gE x.es (k + 1)) = R) := Lib.hid hv
                                          clear hv hg0 HP2
                                          have hn128 : n.f1.f3.length ≤ 128 := of_decide_eq_true a5
                                          clear a5 dn
                                          go_upto_block 2 with (first | (go_at_call 70; (with_reducible refine (HGVq.out).mono ?_); rintro e w3 ⟨rfl, hb3⟩; obtain ⟨m0, m1, m2, m3⟩ := cells4 (blk_below HCY.out hb3)) | (go_at_call 69; (with_reducible refine (HW1q.out _).mono ?_); rintro e w' ⟨rfl, ⟨⟨nd, rfl⟩⟩⟩) | (go_at_call 69; (with_reducible refine (HW2q.out _).mono ?_); rintro e w' ⟨rfl, ⟨⟨nd, rfl⟩⟩⟩))
                                          skip
                                          clear a1 a2 a3 a4 a4i a4n dn2 dn3 c0 c1 c2 c3 m0 m1 m2 m3 e0 e1 e2 e3 e4 l17 dlt
                                          go_wp2
                                          go_loopw [7] (fun i wr => ∃ j : Nat, j ≤ n.f1.f3.length ∧ i = .int .i64 j ∧ Hid ((allFrom gS n.f1.f3 j && allFrom gE x.es (k + 1)) = R) ∧ Below wy.heap.size wy wr) (fun i _ => n.f1.f3.length - (intOf i).toNat)
                                          case atStart => exact ⟨0, by omega, rfl, HS0, by repeat (first | exact hb3 | apply pw_below_drewN)⟩
                                          case round =>
                                            obtain ⟨j, hj, rfl, hPj, hbj⟩ := hrel
                                            clear HS0
                                            have HCJ := Lib.hid (blk_below HCY.out hbj)
                                            have HBJ := Lib.hid (HB2.out.below hbj)
                                            obtain ⟨c0, c1, c2, c3⟩ := cells4 HCJ.out
                                            clear c0 c1 c2
                                            by_cases jlt : j < n.f1.f3.length
                                            · obtain ⟨ad2, A1, c1, had2, s0, s1, hc1, g1⟩ := at_T100 (HQ2.out.below hbj).h8 (j : Int) (by omega) (by omega)
                                              have hxe : rd_T100 n.f1.f3 (j : Int) = n.f1.f3[j] := by unfold rd_T100; rw [Int.toNat_natCast, List.getD_eq_getElem?_getD, List.getElem?_eq_getElem jlt]; rfl
                                              rw [hxe] at s0 s1
                                              simp only [Int.toNat_natCast] at s0 s1
                                              have hP2 := hPj.out
                                              rw [allFrom_at _ _ _ jlt] at hP2
                                              obtain ⟨z, hz⟩ : ∃ z, z = n.f1.f3[j] := ⟨_, rfl⟩
                                              rw [← hz] at s0 s1 hP2
                                              have HP3 := Lib.hid hP2
                                              have HBJ2 := Lib.hid hbj
                                              rw [had2] at c3
                                              have djl : decide ((j : Int) < (n.f1.f3.length : Int)) = true := decide_eq_true (by omega)
                                              have HM := Lib.hid (fun W => cleromancyref24_from.calls z.f0 0 127 _ W (from_f _ _ _))
                                              clear hxe hz hP2 hPj hbj had2 hc1 g1
                                              cases m : (inR z.f0 0 127)
                                              case false =>
                                                have HQ := HM.out
                                                simp only [m] at HQ
                                                have HMq := Lib.hid HQ
                                                clear HQ
                                                have hv := HP3.out
                                                rw [show gS z = (inR z.f0 0 127 && (z.f1.length == 64)) from rfl] at hv
                                                simp only [m, Bool.true_and, Bool.false_and, Bool.and_true, Bool.and_false, Bool.true_or, Bool.false_or, Bool.or_true, Bool.or_false, Bool.not_true, Bool.not_false] at hv
                                                have HVV := Lib.hid hv
                                                clear hv
                                                go_wp2_with ((go_at_call 69; (with_reducible refine (HMq.out _).mono ?_); rintro e w' ⟨rfl, ⟨⟨nd, rfl⟩⟩⟩))
                                                go_ret
                                                exact ⟨by rw [← HRG.out, ← HVV.out] <;> rfl, by repeat (first | exact HBJ.out.b | apply pw_below_drewN)⟩
                                              case true =>
                                                have HQ := HM.out
                                                simp only [m] at HQ
                                                have HMq := Lib.hid HQ
                                                clear HQ
                                                cases m6 : (z.f1.length == 64)
                                                case false =>
                                                  have m6i : ((z.f1.length : Int) == 64) = false := (eq_len z.f1.length 64).trans m6
                                                  have m6n : ((z.f1.length : Int) != 64) = true := by rw [bne, m6i]; rfl
                                                  have hv := HP3.out
                                                  rw [show gS z = (inR z.f0 0 127 && (z.f1.length == 64)) from rfl] at hv
                                                  simp only [m, m6, Bool.true_and, Bool.false_and, Bool.and_true, Bool.and_false, Bool.true_or, Bool.false_or, Bool.or_true, Bool.or_false, Bool.not_true, Bool.not_false] at hv
                                                  have HVV := Lib.hid hv
                                                  clear hv
                                                  go_wp2_with ((go_at_call 69; (with_reducible refine (HMq.out _).mono ?_); rintro e w' ⟨rfl, ⟨⟨nd, rfl⟩⟩⟩))
                                                  go_ret
                                                  exact ⟨by rw [← HRG.out, ← HVV.out] <;> rfl, by repeat (first | exact HBJ.out.b | apply pw_below_drewN)⟩
                                                case true =>
                                                  have m6i : ((z.f1.length : Int) == 64) = true := (eq_len z.f1.length 64).trans m6
                                                  have m6n : ((z.f1.length : Int) != 64) = false := by rw [bne, m6i]; rfl
                                                  have hv := HP3.out
                                                  rw [show gS z = (inR z.f0 0 127 && (z.f1.length == 64)) from rfl] at hv
                                                  simp only [m, m6, Bool.true_and, Bool.false_and, Bool.and_true, Bool.and_false, Bool.true_or, Bool.false_or, Bool.or_true, Bool.or_false, Bool.not_true, Bool.not_false] at hv
                                                  have HVV := Lib.hid hv
                                                  clear hv
                                                  go_wp2_with ((go_at_call 69; (with_reducible refine (HMq.out _).mono ?_); rintro e w' ⟨rfl, ⟨⟨nd, rfl⟩⟩⟩))
                                                  go_roundw
                                                  case rel => exact ⟨j + 1, by omega, by go_num, HVV, by repeat (first | exact HBJ2.out | apply pw_below_drewN)⟩
                                                  case measure => simp [intOf]; omega
                                            · have hP2 := hPj.out
                                              rw [allFrom_end _ _ _ (by omega), Bool.true_and] at hP2
                                              have HP3 := Lib.hid hP2
                                              have djl : decide ((j : Int) < (n.f1.f3.length : Int)) = false := decide_eq_false (by omega)
                                              clear hPj hP2
                                              go_wp2
                                              go_roundw
                                              case rel => exact ⟨k + 1, by omega, by go_num, HP3, HBJ.out⟩
                                              case measure => simp [intOf]; omega
                              · have hP2 := hP.out
                                rw [allFrom_end _ _ _ (by omega)] at hP2
                                have HVV := Lib.hid hP2
                                have dlt : decide ((k : Int) < (x.es.length : Int)) = false := decide_eq_false (by omega)
                                clear hP hP2
                                go_wp2
                                go_ret
                                exact ⟨by rw [← HRG.out, ← HVV.out] <;> rfl, HBB.out.b⟩
end Go.Proofs.YtpeebjnfmlfocaaDoor.Sh
