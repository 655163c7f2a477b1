/- letter.Good and its parts at this program. No condition. Printed by gen/shb.py. -/
import Derived.Test.YtpeebjnfmlfocaaDoorSx08
import Derived.Handy
import Derived.Deep.DeepCutAuto
import Derived.RegionTactic
import Derived.Deep.LoopGhost
import Derived.WalkSpells
namespace Go.Proofs.YtpeebjnfmlfocaaDoor.Sh
open Go.RowKit Go.Proofs.YtpeebjnfmlfocaaDoorW.PrintWords Go.Proofs.YtpeebjnfmlfocaaDoorW.PrintLast Go.Proofs.YtpeebjnfmlfocaaDoorW.PrintMore
set_option maxRecDepth 100000
set_option linter.unusedVariables false
set_option linter.unusedSimpArgs false
theorem heap3 (w : World) (L X Y : Obj) : (((w.alloc L).alloc X).alloc Y).drew.heap[w.heap.size]? = some L ∧ (((w.alloc L).alloc X).alloc Y).drew.heap[w.heap.size + 1]? = some X ∧ (((w.alloc L).alloc X).alloc Y).drew.heap[w.heap.size + 1 + 1]? = some Y := by
  have s1 : (w.alloc L).heap.size = w.heap.size + 1 := by simp
  have s2 : ((w.alloc L).alloc X).heap.size = w.heap.size + 1 + 1 := by simp
  refine ⟨blk_drew (blk_alloc (blk_alloc (blk_new w L) X) Y), blk_drew (blk_alloc ?_ Y), blk_drew ?_⟩
  · rw [← s1]; exact blk_new _ _
  · rw [← s2]; exact blk_new _ _
theorem cells18 {W : World} {b : Nat} {T : TypeId} {c0 c1 c2 c3 c4 c5 c6 c7 c8 c9 c10 c11 c12 c13 c14 c15 c16 c17 : Value} (h : W.heap[b]? = some (.cells #[c0, c1, c2, c3, c4, c5, c6, c7, c8, c9, c10, c11, c12, c13, c14, c15, c16, c17] T)) :
    W.cell? ⟨b, 0, none⟩ = some c0 ∧ W.cell? ⟨b, 1, none⟩ = some c1 ∧ W.cell? ⟨b, 2, none⟩ = some c2 ∧ W.cell? ⟨b, 3, none⟩ = some c3 ∧ W.cell? ⟨b, 4, none⟩ = some c4 ∧ W.cell? ⟨b, 5, none⟩ = some c5 ∧ W.cell? ⟨b, 6, none⟩ = some c6 ∧ W.cell? ⟨b, 7, none⟩ = some c7 ∧ W.cell? ⟨b, 8, none⟩ = some c8 ∧ W.cell? ⟨b, 9, none⟩ = some c9 ∧ W.cell? ⟨b, 10, none⟩ = some c10 ∧ W.cell? ⟨b, 11, none⟩ = some c11 ∧ W.cell? ⟨b, 12, none⟩ = some c12 ∧ W.cell? ⟨b, 13, none⟩ = some c13 ∧ W.cell? ⟨b, 14, none⟩ = some c14 ∧ W.cell? ⟨b, 15, none⟩ = some c15 ∧ W.cell? ⟨b, 16, none⟩ = some c16 ∧ W.cell? ⟨b, 17, none⟩ = some c17 :=
  ⟨blk_cell h 0, blk_cell h 1, blk_cell h 2, blk_cell h 3, blk_cell h 4, blk_cell h 5, blk_cell h 6, blk_cell h 7, blk_cell h 8, blk_cell h 9, blk_cell h 10, blk_cell h 11, blk_cell h 12, blk_cell h 13, blk_cell h 14, blk_cell h 15, blk_cell h 16, blk_cell h 17⟩
theorem cells9 {W : World} {b : Nat} {T : TypeId} {c0 c1 c2 c3 c4 c5 c6 c7 c8 : Value} (h : W.heap[b]? = some (.cells #[c0, c1, c2, c3, c4, c5, c6, c7, c8] T)) :
    W.cell? ⟨b, 0, none⟩ = some c0 ∧ W.cell? ⟨b, 1, none⟩ = some c1 ∧ W.cell? ⟨b, 2, none⟩ = some c2 ∧ W.cell? ⟨b, 3, none⟩ = some c3 ∧ W.cell? ⟨b, 4, none⟩ = some c4 ∧ W.cell? ⟨b, 5, none⟩ = some c5 ∧ W.cell? ⟨b, 6, none⟩ = some c6 ∧ W.cell? ⟨b, 7, none⟩ = some c7 ∧ W.cell? ⟨b, 8, none⟩ = some c8 :=
  ⟨blk_cell h 0, blk_cell h 1, blk_cell h 2, blk_cell h 3, blk_cell h 4, blk_cell h 5, blk_cell h 6, blk_cell h 7, blk_cell h 8⟩
theorem cells6 {W : World} {b : Nat} {T : TypeId} {c0 c1 c2 c3 c4 c5 : Value} (h : W.heap[b]? = some (.cells #[c0, c1, c2, c3, c4, c5] T)) :
    W.cell? ⟨b, 0, none⟩ = some c0 ∧ W.cell? ⟨b, 1, none⟩ = some c1 ∧ W.cell? ⟨b, 2, none⟩ = some c2 ∧ W.cell? ⟨b, 3, none⟩ = some c3 ∧ W.cell? ⟨b, 4, none⟩ = some c4 ∧ W.cell? ⟨b, 5, none⟩ = some c5 :=
  ⟨blk_cell h 0, blk_cell h 1, blk_cell h 2, blk_cell h 3, blk_cell h 4, blk_cell h 5⟩
theorem cells4 {W : World} {b : Nat} {T : TypeId} {c0 c1 c2 c3 : Value} (h : W.heap[b]? = some (.cells #[c0, c1, c2, c3] T)) :
    W.cell? ⟨b, 0, none⟩ = some c0 ∧ W.cell? ⟨b, 1, none⟩ = some c1 ∧ W.cell? ⟨b, 2, none⟩ = some c2 ∧ W.cell? ⟨b, 3, none⟩ = some c3 :=
  ⟨blk_cell h 0, blk_cell h 1, blk_cell h 2, blk_cell h 3⟩
set_option maxHeartbeats 8000000 in
theorem bare_any (x : Let) (a : Ad) (w : World) (hx : LetC w x a) : Calls Tryd.prog 102 #[letV x a] w fun e w' => e = .returned (.bool (bareB x)) ∧ Below w.heap.size w w' := by
  have HX := Lib.hid hx
  clear hx
  show Calls Tryd.prog 102 #[.agg #[.int .i64 x.k, .int .i64 x.pv, .int .i64 x.pf, .int .i64 x.px, .int .i64 x.v.f0, .int .i64 x.v.f1, .int .i64 x.v.f2, .slice a.A7 x.v.f3.length a.c7, .slice a.A8 x.v.f4.length a.c8, .slice a.A9 x.ps.length a.c9, .int .i64 x.vr, .int .i64 x.vv, .int .i64 x.vp, .int .i64 x.vf, .slice a.A14 x.vi.length a.c14, .slice a.A15 x.vs.length a.c15, .int .i64 x.r, .slice a.A17 x.es.length a.c17]] w _
  go_enter Tryd.func102, Tryd.ntmps102
  go_upto_region 1 with (fail)
  go_cut [3, 4] (fun v3 v4 wc => ∃ bp bv : Nat, v3 = .pointer (some ⟨bp, 0, none⟩) ∧ v4 = .pointer (some ⟨bv, 0, none⟩) ∧ wc.heap[bp]? = some (.cells #[.int .i64 x.pv, .int .i64 x.pf, .int .i64 x.px, .int .i64 x.v.f0, .int .i64 x.v.f1, .int .i64 x.v.f2, .slice a.A7 x.v.f3.length a.c7, .slice a.A8 x.v.f4.length a.c8, .slice a.A9 x.ps.length a.c9] 49) ∧ wc.heap[bv]? = some (.cells #[.int .i64 x.vr, .int .i64 x.vv, .int .i64 x.vp, .int .i64 x.vf, .slice a.A14 x.vi.length a.c14, .slice a.A15 x.vs.length a.c15] 51) ∧ wc.heap[w.heap.size]? = some (.cells #[.int .i64 x.k, .int .i64 x.pv, .int .i64 x.pf, .int .i64 x.px, .int .i64 x.v.f0, .int .i64 x.v.f1, .int .i64 x.v.f2, .slice a.A7 x.v.f3.length a.c7, .slice a.A8 x.v.f4.length a.c8, .slice a.A9 x.ps.length a.c9, .int .i64 x.vr, .int .i64 x.vv, .int .i64 x.vp, .int .i64 x.vf, .slice a.A14 x.vi.length a.c14, .slice a.A15 x.vs.length a.c15, .int .i64 x.r, .slice a.A17 x.es.length a.c17] 54) ∧ Below w.heap.size w wc)
  case first =>
    go_region
    all_goals (go_wp2; go_meet; case rel => exact ⟨_, _, rfl, rfl, by first | exact (heap3 _ _ _ _).1 | exact (heap3 _ _ _ _).2.1 | exact (heap3 _ _ _ _).2.2, by first | exact (heap3 _ _ _ _).1 | exact (heap3 _ _ _ _).2.1 | exact (heap3 _ _ _ _).2.2, by first | exact (heap3 _ _ _ _).1 | exact (heap3 _ _ _ _).2.1 | exact (heap3 _ _ _ _).2.2, by go_grown⟩)
  case rest =>
    obtain ⟨bp, bv, rfl, rfl, hp, hv, hl, hb⟩ := hcut
    have HP := Lib.hid hp
    have HV := Lib.hid hv
    have HL := Lib.hid hl
    have HB := Lib.hid hb
    have HS := Lib.hid (sameValue0_any (w := wc) x.v a.A7 a.c7 a.A8 a.c8 (HX.out.below hb).h7 HX.out.l7 (HX.out.below hb).h8 HX.out.l8)
    clear hp hv hl hb
    go_upto_region 2 with (fail)
    go_cut [5] (fun v5 wd => v5 = .bool (noP x) ∧ Below wc.heap.size wc wd)
    case first =>
      obtain ⟨p0, p1, p2, p3, p4, p5, p6, p7, p8⟩ := cells9 HP.out
      cases h1 : (x.pv == 0)
      case false =>
        have h1n : (x.pv != 0) = true := by rw [bne, h1]; rfl
        have hv : noP x = false := by simp only [noP, h1, Bool.true_and, Bool.false_and, Bool.and_true, Bool.and_false, Bool.true_or, Bool.false_or, Bool.or_true, Bool.or_false, Bool.not_true, Bool.not_false]
        have HVV := Lib.hid hv
        clear hv
        go_wp2
        go_meet
        case rel => exact ⟨by rw [HVV.out] <;> rfl, Below.refl _ _⟩
      case true =>
        have h1n : (x.pv != 0) = false := by rw [bne, h1]; rfl
        cases h2 : (x.pf == 0)
        case false =>
          have h2n : (x.pf != 0) = true := by rw [bne, h2]; rfl
          have hv : noP x = false := by simp only [noP, h1, h2, Bool.true_and, Bool.false_and, Bool.and_true, Bool.and_false, Bool.true_or, Bool.false_or, Bool.or_true, Bool.or_false, Bool.not_true, Bool.not_false]
          have HVV := Lib.hid hv
          clear hv
          go_wp2
          go_meet
          case rel => exact ⟨by rw [HVV.out] <;> rfl, Below.refl _ _⟩
        case true =>
          have h2n : (x.pf != 0) = false := by rw [bne, h2]; rfl
          cases h3 : (x.px == 0)
          case false =>
            have h3n : (x.px != 0) = true := by rw [bne, h3]; rfl
            have hv : noP x = false := by simp only [noP, h1, h2, h3, Bool.true_and, Bool.false_and, Bool.and_true, Bool.and_false, Bool.true_or, Bool.false_or, Bool.or_true, Bool.or_false, Bool.not_true, Bool.not_false]
            have HVV := Lib.hid hv
            clear hv
            go_wp2
            go_meet
            case rel => exact ⟨by rw [HVV.out] <;> rfl, Below.refl _ _⟩
          case true =>
            have h3n : (x.px != 0) = false := by rw [bne, h3]; rfl
            cases h4 : (x.ps.length == 0)
            case false =>
              have h4i : ((x.ps.length : Int) == 0) = false := (eq_len x.ps.length 0).trans h4
              have h4n : ((x.ps.length : Int) != 0) = true := by rw [bne, h4i]; rfl
              have hv : noP x = false := by simp only [noP, h1, h2, h3, h4, Bool.true_and, Bool.false_and, Bool.and_true, Bool.and_false, Bool.true_or, Bool.false_or, Bool.or_true, Bool.or_false, Bool.not_true, Bool.not_false]
              have HVV := Lib.hid hv
              clear hv
              go_wp2
              go_meet
              case rel => exact ⟨by rw [HVV.out] <;> rfl, Below.refl _ _⟩
            case true =>
              have h4i : ((x.ps.length : Int) == 0) = true := (eq_len x.ps.length 0).trans h4
              have h4n : ((x.ps.length : Int) != 0) = false := by rw [bne, h4i]; rfl
              cases h5 : (zV x.v)
              case false =>
                have HS2 := HS.out
                rw [h5] at HS2
                have HS3 := Lib.hid HS2
                clear HS2
                have hv : noP x = false := by simp only [noP, h1, h2, h3, h4, h5, Bool.true_and, Bool.false_and, Bool.and_true, Bool.and_false, Bool.true_or, Bool.false_or, Bool.or_true, Bool.or_false, Bool.not_true, Bool.not_false]
                have HVV := Lib.hid hv
                clear hv
                go_wp2_with (go_at_call 138; (with_reducible refine (HS3.out).mono ?_); rintro e w2 ⟨rfl, hb2⟩)
                go_meet
                case rel => exact ⟨by rw [HVV.out] <;> rfl, hb2⟩
              case true =>
                have HS2 := HS.out
                rw [h5] at HS2
                have HS3 := Lib.hid HS2
                clear HS2
                have hv : noP x = true := by simp only [noP, h1, h2, h3, h4, h5, Bool.true_and, Bool.false_and, Bool.and_true, Bool.and_false, Bool.true_or, Bool.false_or, Bool.or_true, Bool.or_false, Bool.not_true, Bool.not_false]
                have HVV := Lib.hid hv
                clear hv
                go_wp2_with (go_at_call 138; (with_reducible refine (HS3.out).mono ?_); rintro e w2 ⟨rfl, hb2⟩)
                go_meet
                case rel => exact ⟨by rw [HVV.out] <;> rfl, hb2⟩
    case rest =>
      obtain ⟨rfl, hbd⟩ := hcut
      have HV2 := Lib.hid (blk_below HV.out hbd)
      have HL2 := Lib.hid (blk_below HL.out hbd)
      have HB2 := Lib.hid (HB.out.trans (hbd.mono HB.out.size))
      clear hbd HP HV HL HB HS
      go_upto_region 3 with (fail)
      go_cut [6] (fun v6 we => v6 = .bool (noV x) ∧ we = wc)
      case first =>
        obtain ⟨v0, v1, v2, v3, v4, v5⟩ := cells6 HV2.out
        cases g1 : (x.vr == 0)
        case false =>
          have g1n : (x.vr != 0) = true := by rw [bne, g1]; rfl
          have hv : noV x = false := by simp only [noV, g1, Bool.true_and, Bool.false_and, Bool.and_true, Bool.and_false, Bool.true_or, Bool.false_or, Bool.or_true, Bool.or_false, Bool.not_true, Bool.not_false]
          have HVV := Lib.hid hv
          clear hv
          go_wp2
          go_meet
          case rel => exact ⟨by rw [HVV.out] <;> rfl, rfl⟩
        case true =>
          have g1n : (x.vr != 0) = false := by rw [bne, g1]; rfl
          cases g2 : (x.vv == 0)
          case false =>
            have g2n : (x.vv != 0) = true := by rw [bne, g2]; rfl
            have hv : noV x = false := by simp only [noV, g1, g2, Bool.true_and, Bool.false_and, Bool.and_true, Bool.and_false, Bool.true_or, Bool.false_or, Bool.or_true, Bool.or_false, Bool.not_true, Bool.not_false]
            have HVV := Lib.hid hv
            clear hv
            go_wp2
            go_meet
            case rel => exact ⟨by rw [HVV.out] <;> rfl, rfl⟩
          case true =>
            have g2n : (x.vv != 0) = false := by rw [bne, g2]; rfl
            cases g3 : (x.vp == 0)
            case false =>
              have g3n : (x.vp != 0) = true := by rw [bne, g3]; rfl
              have hv : noV x = false := by simp only [noV, g1, g2, g3, Bool.true_and, Bool.false_and, Bool.and_true, Bool.and_false, Bool.true_or, Bool.false_or, Bool.or_true, Bool.or_false, Bool.not_true, Bool.not_false]
              have HVV := Lib.hid hv
              clear hv
              go_wp2
              go_meet
              case rel => exact ⟨by rw [HVV.out] <;> rfl, rfl⟩
            case true =>
              have g3n : (x.vp != 0) = false := by rw [bne, g3]; rfl
              cases g4 : (x.vf == 0)
              case false =>
                have g4n : (x.vf != 0) = true := by rw [bne, g4]; rfl
                have hv : noV x = false := by simp only [noV, g1, g2, g3, g4, Bool.true_and, Bool.false_and, Bool.and_true, Bool.and_false, Bool.true_or, Bool.false_or, Bool.or_true, Bool.or_false, Bool.not_true, Bool.not_false]
                have HVV := Lib.hid hv
                clear hv
                go_wp2
                go_meet
                case rel => exact ⟨by rw [HVV.out] <;> rfl, rfl⟩
              case true =>
                have g4n : (x.vf != 0) = false := by rw [bne, g4]; rfl
                cases g5 : (x.vi.length == 0)
                case false =>
                  have g5i : ((x.vi.length : Int) == 0) = false := (eq_len x.vi.length 0).trans g5
                  have g5n : ((x.vi.length : Int) != 0) = true := by rw [bne, g5i]; rfl
                  have hv : noV x = false := by simp only [noV, g1, g2, g3, g4, g5, Bool.true_and, Bool.false_and, Bool.and_true, Bool.and_false, Bool.true_or, Bool.false_or, Bool.or_true, Bool.or_false, Bool.not_true, Bool.not_false]
                  have HVV := Lib.hid hv
                  clear hv
                  go_wp2
                  go_meet
                  case rel => exact ⟨by rw [HVV.out] <;> rfl, rfl⟩
                case true =>
                  have g5i : ((x.vi.length : Int) == 0) = true := (eq_len x.vi.length 0).trans g5
                  have g5n : ((x.vi.length : Int) != 0) = false := by rw [bne, g5i]; rfl
                  cases g6 : (x.vs.length == 0)
                  case false =>
                    have g6i : ((x.vs.length : Int) == 0) = false := (eq_len x.vs.length 0).trans g6
                    have g6n : ((x.vs.length : Int) != 0) = true := by rw [bne, g6i]; rfl
                    have hv : noV x = false := by simp only [noV, g1, g2, g3, g4, g5, g6, Bool.true_and, Bool.false_and, Bool.and_true, Bool.and_false, Bool.true_or, Bool.false_or, Bool.or_true, Bool.or_false, Bool.not_true, Bool.not_false]
                    have HVV := Lib.hid hv
                    clear hv
                    go_wp2
                    go_meet
                    case rel => exact ⟨by rw [HVV.out] <;> rfl, rfl⟩
                  case true =>
                    have g6i : ((x.vs.length : Int) == 0) = true := (eq_len x.vs.length 0).trans g6
                    have g6n : ((x.vs.length : Int) != 0) = false := by rw [bne, g6i]; rfl
                    have hv : noV x = true := by simp only [noV, g1, g2, g3, g4, g5, g6, Bool.true_and, Bool.false_and, Bool.and_true, Bool.and_false, Bool.true_or, Bool.false_or, Bool.or_true, Bool.or_false, Bool.not_true, Bool.not_false]
                    have HVV := Lib.hid hv
                    clear hv
                    go_wp2
                    go_meet
                    case rel => exact ⟨by rw [HVV.out] <;> rfl, rfl⟩
      case rest =>
        obtain ⟨rfl, rfl⟩ := hcut
        obtain ⟨l0, l1, l2, l3, l4, l5, l6, l7, l8, l9, l10, l11, l12, l13, l14, l15, l16, l17⟩ := cells18 HL2.out
        clear l1 l2 l3 l4 l5 l6 l7 l8 l9 l10 l11 l12 l13 l14 l15
        by_cases hk1 : x.k = 1
        · have k1 : (x.k == 1) = true := by rw [hk1]; rfl
          have k2 : (x.k == 2) = false := by rw [hk1]; rfl
          have k3 : (x.k == 3) = false := by rw [hk1]; rfl
          have k4 : (x.k == 4) = false := by rw [hk1]; rfl
          clear hk1
          cases n2 : (noV x)
          case false =>
            have hv : bareB x = false := by simp only [bareB, k1, k2, k3, k4, n2, Bool.true_and, Bool.false_and, Bool.and_true, Bool.and_false, Bool.true_or, Bool.false_or, Bool.or_true, Bool.or_false, Bool.not_true, Bool.not_false]
            have HVV := Lib.hid hv
            clear hv
            go_wp2
            go_ret
            exact ⟨by rw [HVV.out] <;> rfl, HB2.out⟩
          case true =>
            cases r0 : (x.r == 0)
            case false =>
              have r0n : (x.r != 0) = true := by rw [bne, r0]; rfl
              have hv : bareB x = false := by simp only [bareB, k1, k2, k3, k4, n2, r0, Bool.true_and, Bool.false_and, Bool.and_true, Bool.and_false, Bool.true_or, Bool.false_or, Bool.or_true, Bool.or_false, Bool.not_true, Bool.not_false]
              have HVV := Lib.hid hv
              clear hv
              go_wp2
              go_ret
              exact ⟨by rw [HVV.out] <;> rfl, HB2.out⟩
            case true =>
              have r0n : (x.r != 0) = false := by rw [bne, r0]; rfl
              cases e0 : (x.es.length == 0)
              case false =>
                have e0i : ((x.es.length : Int) == 0) = false := (eq_len x.es.length 0).trans e0
                have e0n : ((x.es.length : Int) != 0) = true := by rw [bne, e0i]; rfl
                have hv : bareB x = false := by simp only [bareB, k1, k2, k3, k4, n2, r0, e0, Bool.true_and, Bool.false_and, Bool.and_true, Bool.and_false, Bool.true_or, Bool.false_or, Bool.or_true, Bool.or_false, Bool.not_true, Bool.not_false]
                have HVV := Lib.hid hv
                clear hv
                go_wp2
                go_ret
                exact ⟨by rw [HVV.out] <;> rfl, HB2.out⟩
              case true =>
                have e0i : ((x.es.length : Int) == 0) = true := (eq_len x.es.length 0).trans e0
                have e0n : ((x.es.length : Int) != 0) = false := by rw [bne, e0i]; rfl
                have hv : bareB x = true := by simp only [bareB, k1, k2, k3, k4, n2, r0, e0, Bool.true_and, Bool.false_and, Bool.and_true, Bool.and_false, Bool.true_or, Bool.false_or, Bool.or_true, Bool.or_false, Bool.not_true, Bool.not_false]
                have HVV := Lib.hid hv
                clear hv
                go_wp2
                go_ret
                exact ⟨by rw [HVV.out] <;> rfl, HB2.out⟩
        by_cases hk2 : x.k = 2
        · have k1 : (x.k == 1) = false := by rw [hk2]; rfl
          have k2 : (x.k == 2) = true := by rw [hk2]; rfl
          have k3 : (x.k == 3) = false := by rw [hk2]; rfl
          have k4 : (x.k == 4) = false := by rw [hk2]; rfl
          clear hk2
          cases n1 : (noP x)
          case false =>
            have hv : bareB x = false := by simp only [bareB, k1, k2, k3, k4, n1, Bool.true_and, Bool.false_and, Bool.and_true, Bool.and_false, Bool.true_or, Bool.false_or, Bool.or_true, Bool.or_false, Bool.not_true, Bool.not_false]
            have HVV := Lib.hid hv
            clear hv
            go_wp2
            go_ret
            exact ⟨by rw [HVV.out] <;> rfl, HB2.out⟩
          case true =>
            cases r0 : (x.r == 0)
            case false =>
              have r0n : (x.r != 0) = true := by rw [bne, r0]; rfl
              have hv : bareB x = false := by simp only [bareB, k1, k2, k3, k4, n1, r0, Bool.true_and, Bool.false_and, Bool.and_true, Bool.and_false, Bool.true_or, Bool.false_or, Bool.or_true, Bool.or_false, Bool.not_true, Bool.not_false]
              have HVV := Lib.hid hv
              clear hv
              go_wp2
              go_ret
              exact ⟨by rw [HVV.out] <;> rfl, HB2.out⟩
            case true =>
              have r0n : (x.r != 0) = false := by rw [bne, r0]; rfl
              cases e0 : (x.es.length == 0)
              case false =>
                have e0i : ((x.es.length : Int) == 0) = false := (eq_len x.es.length 0).trans e0
                have e0n : ((x.es.length : Int) != 0) = true := by rw [bne, e0i]; rfl
                have hv : bareB x = false := by simp only [bareB, k1, k2, k3, k4, n1, r0, e0, Bool.true_and, Bool.false_and, Bool.and_true, Bool.and_false, Bool.true_or, Bool.false_or, Bool.or_true, Bool.or_false, Bool.not_true, Bool.not_false]
                have HVV := Lib.hid hv
                clear hv
                go_wp2
                go_ret
                exact ⟨by rw [HVV.out] <;> rfl, HB2.out⟩
              case true =>
                have e0i : ((x.es.length : Int) == 0) = true := (eq_len x.es.length 0).trans e0
                have e0n : ((x.es.length : Int) != 0) = false := by rw [bne, e0i]; rfl
                have hv : bareB x = true := by simp only [bareB, k1, k2, k3, k4, n1, r0, e0, Bool.true_and, Bool.false_and, Bool.and_true, Bool.and_false, Bool.true_or, Bool.false_or, Bool.or_true, Bool.or_false, Bool.not_true, Bool.not_false]
                have HVV := Lib.hid hv
                clear hv
                go_wp2
                go_ret
                exact ⟨by rw [HVV.out] <;> rfl, HB2.out⟩
        by_cases hk3 : x.k = 3
        · have k1 : (x.k == 1) = false := by rw [hk3]; rfl
          have k2 : (x.k == 2) = false := by rw [hk3]; rfl
          have k3 : (x.k == 3) = true := by rw [hk3]; rfl
          have k4 : (x.k == 4) = false := by rw [hk3]; rfl
          clear hk3
          cases n1 : (noP x)
          case false =>
            have hv : bareB x = false := by simp only [bareB, k1, k2, k3, k4, n1, Bool.true_and, Bool.false_and, Bool.and_true, Bool.and_false, Bool.true_or, Bool.false_or, Bool.or_true, Bool.or_false, Bool.not_true, Bool.not_false]
            have HVV := Lib.hid hv
            clear hv
            go_wp2
            go_ret
            exact ⟨by rw [HVV.out] <;> rfl, HB2.out⟩
          case true =>
            cases n2 : (noV x)
            case false =>
              have hv : bareB x = false := by simp only [bareB, k1, k2, k3, k4, n1, n2, Bool.true_and, Bool.false_and, Bool.and_true, Bool.and_false, Bool.true_or, Bool.false_or, Bool.or_true, Bool.or_false, Bool.not_true, Bool.not_false]
              have HVV := Lib.hid hv
              clear hv
              go_wp2
              go_ret
              exact ⟨by rw [HVV.out] <;> rfl, HB2.out⟩
            case true =>
              cases e0 : (x.es.length == 0)
              case false =>
                have e0i : ((x.es.length : Int) == 0) = false := (eq_len x.es.length 0).trans e0
                have e0n : ((x.es.length : Int) != 0) = true := by rw [bne, e0i]; rfl
                have hv : bareB x = false := by simp only [bareB, k1, k2, k3, k4, n1, n2, e0, Bool.true_and, Bool.false_and, Bool.and_true, Bool.and_false, Bool.true_or, Bool.false_or, Bool.or_true, Bool.or_false, Bool.not_true, Bool.not_false]
                have HVV := Lib.hid hv
                clear hv
                go_wp2
                go_ret
                exact ⟨by rw [HVV.out] <;> rfl, HB2.out⟩
              case true =>
                have e0i : ((x.es.length : Int) == 0) = true := (eq_len x.es.length 0).trans e0
                have e0n : ((x.es.length : Int) != 0) = false := by rw [bne, e0i]; rfl
                have hv : bareB x = true := by simp only [bareB, k1, k2, k3, k4, n1, n2, e0, Bool.true_and, Bool.false_and, Bool.and_true, Bool.and_false, Bool.true_or, Bool.false_or, Bool.or_true, Bool.or_false, Bool.not_true, Bool.not_false]
                have HVV := Lib.hid hv
                clear hv
                go_wp2
                go_ret
                exact ⟨by rw [HVV.out] <;> rfl, HB2.out⟩
        by_cases hk4 : x.k = 4
        · have k1 : (x.k == 1) = false := by rw [hk4]; rfl
          have k2 : (x.k == 2) = false := by rw [hk4]; rfl
          have k3 : (x.k == 3) = false := by rw [hk4]; rfl
          have k4 : (x.k == 4) = true := by rw [hk4]; rfl
          clear hk4
          cases n1 : (noP x)
          case false =>
            have hv : bareB x = false := by simp only [bareB, k1, k2, k3, k4, n1, Bool.true_and, Bool.false_and, Bool.and_true, Bool.and_false, Bool.true_or, Bool.false_or, Bool.or_true, Bool.or_false, Bool.not_true, Bool.not_false]
            have HVV := Lib.hid hv
            clear hv
            go_wp2
            go_ret
            exact ⟨by rw [HVV.out] <;> rfl, HB2.out⟩
          case true =>
            cases n2 : (noV x)
            case false =>
              have hv : bareB x = false := by simp only [bareB, k1, k2, k3, k4, n1, n2, Bool.true_and, Bool.false_and, Bool.and_true, Bool.and_false, Bool.true_or, Bool.false_or, Bool.or_true, Bool.or_false, Bool.not_true, Bool.not_false]
              have HVV := Lib.hid hv
              clear hv
              go_wp2
              go_ret
              exact ⟨by rw [HVV.out] <;> rfl, HB2.out⟩
            case true =>
              cases r0 : (x.r == 0)
              case false =>
                have r0n : (x.r != 0) = true := by rw [bne, r0]; rfl
                have hv : bareB x = false := by simp only [bareB, k1, k2, k3, k4, n1, n2, r0, Bool.true_and, Bool.false_and, Bool.and_true, Bool.and_false, Bool.true_or, Bool.false_or, Bool.or_true, Bool.or_false, Bool.not_true, Bool.not_false]
                have HVV := Lib.hid hv
                clear hv
                go_wp2
                go_ret
                exact ⟨by rw [HVV.out] <;> rfl, HB2.out⟩
              case true =>
                have r0n : (x.r != 0) = false := by rw [bne, r0]; rfl
                have hv : bareB x = true := by simp only [bareB, k1, k2, k3, k4, n1, n2, r0, Bool.true_and, Bool.false_and, Bool.and_true, Bool.and_false, Bool.true_or, Bool.false_or, Bool.or_true, Bool.or_false, Bool.not_true, Bool.not_false]
                have HVV := Lib.hid hv
                clear hv
                go_wp2
                go_ret
                exact ⟨by rw [HVV.out] <;> rfl, HB2.out⟩
        have k1 : (x.k == 1) = false := beq_eq_false_iff_ne.mpr hk1
        have k2 : (x.k == 2) = false := beq_eq_false_iff_ne.mpr hk2
        have k3 : (x.k == 3) = false := beq_eq_false_iff_ne.mpr hk3
        have k4 : (x.k == 4) = false := beq_eq_false_iff_ne.mpr hk4
        clear hk1 hk2 hk3 hk4
        cases n1 : (noP x)
        case false =>
          have hv : bareB x = false := by simp only [bareB, k1, k2, k3, k4, n1, Bool.true_and, Bool.false_and, Bool.and_true, Bool.and_false, Bool.true_or, Bool.false_or, Bool.or_true, Bool.or_false, Bool.not_true, Bool.not_false]
          have HVV := Lib.hid hv
          clear hv
          go_wp2
          go_ret
          exact ⟨by rw [HVV.out] <;> rfl, HB2.out⟩
        case true =>
          cases n2 : (noV x)
          case false =>
            have hv : bareB x = false := by simp only [bareB, k1, k2, k3, k4, n1, n2, Bool.true_and, Bool.false_and, Bool.and_true, Bool.and_false, Bool.true_or, Bool.false_or, Bool.or_true, Bool.or_false, Bool.not_true, Bool.not_false]
            have HVV := Lib.hid hv
            clear hv
            go_wp2
            go_ret
            exact ⟨by rw [HVV.out] <;> rfl, HB2.out⟩
          case true =>
            cases r0 : (x.r == 0)
            case false =>
              have r0n : (x.r != 0) = true := by rw [bne, r0]; rfl
              have hv : bareB x = false := by simp only [bareB, k1, k2, k3, k4, n1, n2, r0, Bool.true_and, Bool.false_and, Bool.and_true, Bool.and_false, Bool.true_or, Bool.false_or, Bool.or_true, Bool.or_false, Bool.not_true, Bool.not_false]
              have HVV := Lib.hid hv
              clear hv
              go_wp2
              go_ret
              exact ⟨by rw [HVV.out] <;> rfl, HB2.out⟩
            case true =>
              have r0n : (x.r != 0) = false := by rw [bne, r0]; rfl
              cases e0 : (x.es.length == 0)
              case false =>
                have e0i : ((x.es.length : Int) == 0) = false := (eq_len x.es.length 0).trans e0
                have e0n : ((x.es.length : Int) != 0) = true := by rw [bne, e0i]; rfl
                have hv : bareB x = false := by simp only [bareB, k1, k2, k3, k4, n1, n2, r0, e0, Bool.true_and, Bool.false_and, Bool.and_true, Bool.and_false, Bool.true_or, Bool.false_or, Bool.or_true, Bool.or_false, Bool.not_true, Bool.not_false]
                have HVV := Lib.hid hv
                clear hv
                go_wp2
                go_ret
                exact ⟨by rw [HVV.out] <;> rfl, HB2.out⟩
              case true =>
                have e0i : ((x.es.length : Int) == 0) = true := (eq_len x.es.length 0).trans e0
                have e0n : ((x.es.length : Int) != 0) = false := by rw [bne, e0i]; rfl
                have hv : bareB x = true := by simp only [bareB, k1, k2, k3, k4, n1, n2, r0, e0, Bool.true_and, Bool.false_and, Bool.and_true, Bool.and_false, Bool.true_or, Bool.false_or, Bool.or_true, Bool.or_false, Bool.not_true, Bool.not_false]
                have HVV := Lib.hid hv
                clear hv
                go_wp2
                go_ret
                exact ⟨by rw [HVV.out] <;> rfl, HB2.out⟩
theorem signBad_any (s : S100) (A1 : Option Addr) (c1 : Nat) (w : World) : Calls Tryd.prog 144 #[.agg #[.int .i64 s.f0, .slice A1 s.f1.length c1]] w fun e w' => e = .returned (.bool (!gS s)) ∧ Below w.heap.size w w' := by
  have HM := Lib.hid (fun W => member_any (w := W) s.f0)
  cases m : inR s.f0 0 127
  case false =>
    have hv : (!gS s) = true := by simp only [gS, m, Bool.true_and, Bool.false_and, Bool.not_false]
    have HVV := Lib.hid hv
    have HM2 := HM.out
    rw [m] at HM2
    have HM3 := Lib.hid HM2
    clear hv HM2
    go_enter Tryd.func144, Tryd.ntmps144
    go_wp2_with (go_at_call 139; (with_reducible refine (HM3.out _).mono ?_); rintro e w2 ⟨rfl, hb2⟩)
    go_ret
    exact ⟨by rw [HVV.out] <;> rfl, ((Below.refl _ _).alloc (Nat.le_refl _) _).trans (hb2.mono (by simp))⟩
  case true =>
    cases h : (s.f1.length == 64)
    all_goals
      have hi := (eq_len s.f1.length 64).trans h
      replace hi := (show ((s.f1.length : Int) == 64) = _ from hi)
      have hn := (show ((s.f1.length : Int) != 64) = !((s.f1.length : Int) == 64) from rfl)
      rw [hi] at hn
      simp only [Bool.not_false, Bool.not_true] at hn
      have hv := (show (!gS s) = !(inR s.f0 0 127 && (s.f1.length == 64)) from rfl)
      rw [m, h] at hv
      simp only [Bool.and_self, Bool.and_false, Bool.not_false, Bool.not_true] at hv
      have HVV := Lib.hid hv
      have HM2 := HM.out
      rw [m] at HM2
      have HM3 := Lib.hid HM2
      clear hv HM2
      go_enter Tryd.func144, Tryd.ntmps144
      obtain ⟨wx, hwx⟩ : ∃ wx, wx = w.alloc (.cells #[.int .i64 s.f0, .slice A1 s.f1.length c1] 100) := ⟨_, rfl⟩
      have hbx : Below w.heap.size w wx := by rw [hwx]; exact (Below.refl _ _).alloc (Nat.le_refl _) _
      have x1 : wx.cell? ⟨w.heap.size, 1, none⟩ = some (.slice A1 s.f1.length c1) := by rw [hwx]; simp
      have hlx : w.heap.size < wx.heap.size := by rw [hwx]; simp
      have X1 := Lib.hid x1
      have HLX := Lib.hid hlx
      clear x1 hlx
      go_wp2_with (go_at_call 139; (try rw [← hwx]); (with_reducible refine (HM3.out _).mono ?_); rintro e w2 ⟨rfl, hb2⟩; have x2 := (hb2.cell (p := ⟨w.heap.size, 1, none⟩) HLX.out).trans X1.out)
      go_ret
      exact ⟨by rw [HVV.out] <;> rfl, hbx.trans (hb2.mono hbx.size)⟩
def anyFrom {α : Type} (p : α → Bool) (l : List α) (k : Nat) : Bool := (l.drop k).any p
theorem anyFrom_at {α : Type} (p : α → Bool) (l : List α) (k : Nat) (h : k < l.length) : anyFrom p l k = (p l[k] || anyFrom p l (k + 1)) := by
  unfold anyFrom; rw [List.drop_eq_getElem_cons h]; rfl
theorem anyFrom_end {α : Type} (p : α → Bool) (l : List α) (k : Nat) (h : l.length ≤ k) : anyFrom p l k = false := by
  unfold anyFrom; rw [List.drop_eq_nil_of_le h]; rfl
set_option maxHeartbeats 4000000 in
theorem indexSigns_any (A : Option Addr) (c : Nat) (l : List S100) (w : World) (hC : Kd.C k100 w A l.length l) (hc : l.length ≤ c) (hn : l.length ≤ 9223372036854775807) :
    Calls Tryd.prog 158 #[.slice A l.length c, .func (.func 144) #[] #[]] w fun e w' => ∃ i : Int, e = .returned (.int .i64 i) ∧ decide (0 ≤ i) = l.any (fun s => !gS s) ∧ Below w.heap.size w w' := by
  obtain ⟨R, hR⟩ : ∃ R, R = l.any (fun s => !gS s) := ⟨_, rfl⟩
  rw [← hR]
  have HR : Hid (anyFrom (fun s => !gS s) l 0 = R) := Lib.hid hR.symm
  have HC := Lib.hid hC
  clear hC hR
  go_enter Tryd.func158, Tryd.ntmps158
  go_wp2
  go_loopw [8] (fun i wr => ∃ k : Nat, k ≤ l.length ∧ i = .int .i64 k ∧ Hid (anyFrom (fun s => !gS s) l k = R) ∧ Below w.heap.size w wr) (fun i _ => l.length - (intOf i).toNat)
  case atStart => exact ⟨0, by omega, rfl, HR, Below.refl _ _⟩
  case round =>
    obtain ⟨k, hk, rfl, hP, hw⟩ := hrel
    clear HR
    by_cases hlt : k < l.length
    · obtain ⟨ad, A1, c1, rfl, e0, e1, hc1, g1⟩ := at_T100 (Kd.C_below HC.out hw) (k : Int) (by omega) (by omega)
      obtain ⟨x, hx⟩ : ∃ x, x = rd_T100 l (k : Int) := ⟨_, rfl⟩
      have hxe : x = l[k] := by rw [hx]; unfold rd_T100; rw [Int.toNat_natCast, List.getD_eq_getElem?_getD, List.getElem?_eq_getElem hlt]; rfl
      rw [← hx] at e0 e1 hc1 g1
      have hP2 := hP.out
      rw [anyFrom_at _ _ _ hlt, ← hxe] at hP2
      have HF := Lib.hid (fun W => signBad_any x A1 c1 W)
      simp only [Int.toNat_natCast] at e0 e1
      clear hx hxe hP
      cases hb : (!gS x)
      case false =>
        have HP2 := hP2
        simp only [hb, Bool.false_or] at HP2
        have HP3 := Lib.hid HP2
        have HF2 := HF.out
        simp only [hb] at HF2
        have HF3 := Lib.hid HF2
        clear hb hP2 HP2 HF2 HF
        go_wp2_with (go_at_call 144; (with_reducible refine (HF3.out _).mono ?_); rintro e w2 ⟨rfl, hb2⟩)
        go_roundw
        case rel => exact ⟨k + 1, by omega, by go_num, HP3, hw.trans (hb2.mono hw.size)⟩
        case measure => simp [intOf]; omega
      case true =>
        have HP2 := hP2
        simp only [hb, Bool.true_or] at HP2
        have HP3 := Lib.hid HP2
        have HF2 := HF.out
        simp only [hb] at HF2
        have HF3 := Lib.hid HF2
        clear hb hP2 HP2 HF2 HF
        go_wp2_with (go_at_call 144; (with_reducible refine (HF3.out _).mono ?_); rintro e w2 ⟨rfl, hb2⟩)
        go_ret
        exact ⟨(k : Int), rfl, by rw [← HP3.out]; simp, hw.trans (hb2.mono hw.size)⟩
    · have hP2 := hP.out
      rw [anyFrom_end _ _ _ (by omega)] at hP2
      have HP2 := Lib.hid hP2
      clear hP hP2
      go_wp2
      go_ret
      exact ⟨-1, rfl, by rw [← HP2.out]; rfl, hw⟩
theorem containsSigns_any (A : Option Addr) (c : Nat) (l : List S100) (w : World) (hC : Kd.C k100 w A l.length l) (hc : l.length ≤ c) (hn : l.length ≤ 9223372036854775807) :
    Calls Tryd.prog 143 #[.slice A l.length c, .func (.func 144) #[] #[]] w fun e w' => e = .returned (.bool (!l.all gS)) ∧ Below w.heap.size w w' := by
  have HC := Lib.hid (indexSigns_any A c l w hC hc hn)
  have hq : l.any (fun s => !gS s) = !l.all gS := by rw [List.all_eq_not_any_not]; simp
  rw [← hq]
  clear hC hq
  go_enter Tryd.func143, Tryd.ntmps143
  go_wp2_with (go_at_call 158; (with_reducible refine (HC.out).mono ?_); rintro e w2 ⟨i, rfl, hi, hb2⟩)
  go_ret
  exact ⟨by rw [← hi] <;> rfl, hb2⟩
end Go.Proofs.YtpeebjnfmlfocaaDoor.Sh
