/- The document's text of a letter, a vote, or what is asked, at this program. Conditions: it is good; bytes in range. Printed by gen/r47.py. -/
import Derived.Test.YtpeebjnfmlfocaaDoorSx12
import Derived.Test.YtpeebjnfmlfocaaDoorSx14
import Derived.Deep.QuietTactic
import Derived.BigQuiet
import Derived.Deep.RegionHeld3
namespace Go.Proofs.YtpeebjnfmlfocaaDoor.Sh
open Go.RowKit Go.Proofs.YtpeebjnfmlfocaaDoor.Th Go.Proofs.YtpeebjnfmlfocaaDoorW.PrintWords Go.Proofs.YtpeebjnfmlfocaaDoorW.PrintLast Go.Proofs.YtpeebjnfmlfocaaDoorW.PrintMore
set_option maxRecDepth 100000
set_option linter.unusedVariables false
set_option linter.unusedSimpArgs false
def txR2 (x : Let) : ByteArray := (⟨#[118, 111, 116, 101, 32]⟩ : ByteArray) ++ itoaB x.vr ++ (⟨#[32]⟩ : ByteArray) ++ itoaB x.vv ++ (⟨#[32]⟩ : ByteArray) ++ itoaB x.vp ++ (⟨#[32]⟩ : ByteArray) ++ itoaB x.vf ++ (⟨#[32]⟩ : ByteArray) ++ bytesS x.vi ++ (⟨#[32]⟩ : ByteArray) ++ bytesS x.vs
set_option maxHeartbeats 8000000 in
theorem RText2_any (x : Let) (a : Ad) (w : World) (hx : LetC w x a) (hy : byL x) (hk : x.k = 2) (hp : gT x = true) : Calls Tryd.prog 34 #[letV x a] w fun e w' => e = .returned (.string (txR2 x)) ∧ Below w.heap.size w w' := by
  have HIP : okI x.vr ∧ okI x.vv ∧ okI x.vp ∧ okI x.vf ∧ okB x.vi ∧ okB x.vs := by
    simp only [gT, Bool.and_eq_true, Bool.or_eq_true, beq_iff_eq] at hp
    have := inR_t hp.1.1.1.1.1; have := inR_t hp.1.1.1.1.2; have := inR_t hp.1.1.1.2; have := inR_t hp.1.1.2; have := hp.1.2; have := hp.2
    exact ⟨⟨by omega, by omega⟩, ⟨by omega, by omega⟩, ⟨by omega, by omega⟩, ⟨by omega, by omega⟩, ⟨hy.d, by omega⟩, hy.e, by omega⟩
  have hR := (show txR2 x = (⟨#[118, 111, 116, 101, 32]⟩ : ByteArray) ++ itoaB x.vr ++ (⟨#[32]⟩ : ByteArray) ++ itoaB x.vv ++ (⟨#[32]⟩ : ByteArray) ++ itoaB x.vp ++ (⟨#[32]⟩ : ByteArray) ++ itoaB x.vf ++ (⟨#[32]⟩ : ByteArray) ++ bytesS x.vi ++ (⟨#[32]⟩ : ByteArray) ++ bytesS x.vs from rfl)
  have hd0 := fun W => rdigits_any x.vr HIP.1 W
  have hd1 := fun W => rdigits_any x.vv HIP.2.1 W
  have hd2 := fun W => rdigits_any x.vp HIP.2.2.1 W
  have hd3 := fun W => rdigits_any x.vf HIP.2.2.2.1 W
  have hd4 := fun W (hc : LetC W x a) => rbytes_any a.A14 a.c14 x.vi W hc.h14 hc.l14 HIP.2.2.2.2.1
  have hd5 := fun W (hc : LetC W x a) => rbytes_any a.A15 a.c15 x.vs W hc.h15 hc.l15 HIP.2.2.2.2.2
  have ed0 := itoaB_szr HIP.1
  obtain ⟨d0, qd0⟩ : ∃ d, d = itoaB x.vr := ⟨_, rfl⟩
  rw [← qd0] at ed0
  have ed1 := itoaB_szr HIP.2.1
  obtain ⟨d1, qd1⟩ : ∃ d, d = itoaB x.vv := ⟨_, rfl⟩
  rw [← qd1] at ed1
  have ed2 := itoaB_szr HIP.2.2.1
  obtain ⟨d2, qd2⟩ : ∃ d, d = itoaB x.vp := ⟨_, rfl⟩
  rw [← qd2] at ed2
  have ed3 := itoaB_szr HIP.2.2.2.1
  obtain ⟨d3, qd3⟩ : ∃ d, d = itoaB x.vf := ⟨_, rfl⟩
  rw [← qd3] at ed3
  have ed4 := bytesS_szr HIP.2.2.2.2.1
  obtain ⟨d4, qd4⟩ : ∃ d, d = bytesS x.vi := ⟨_, rfl⟩
  rw [← qd4] at ed4
  have ed5 := bytesS_szr HIP.2.2.2.2.2
  obtain ⟨d5, qd5⟩ : ∃ d, d = bytesS x.vs := ⟨_, rfl⟩
  rw [← qd5] at ed5
  rw [← qd0, ← qd1, ← qd2, ← qd3, ← qd4, ← qd5] at hR
  rw [← qd0] at hd0
  have HD0 := Lib.hid hd0
  rw [← qd1] at hd1
  have HD1 := Lib.hid hd1
  rw [← qd2] at hd2
  have HD2 := Lib.hid hd2
  rw [← qd3] at hd3
  have HD3 := Lib.hid hd3
  rw [← qd4] at hd4
  have HD4 := Lib.hid hd4
  rw [← qd5] at hd5
  have HD5 := Lib.hid hd5
  have HR := Lib.hid hR
  have HK := Lib.hid hk
  clear hd0 hd1 hd2 hd3 hd4 hd5 hR qd0 qd1 qd2 qd3 qd4 qd5 hk hp HIP hy
  have zc0t : (⟨#[118, 111, 116, 101, 32]⟩ : ByteArray).size = 5 := rfl
  have zc1t : (⟨#[32]⟩ : ByteArray).size = 1 := rfl
  obtain ⟨t1, ht1⟩ : ∃ q, q = (⟨#[118, 111, 116, 101, 32]⟩ : ByteArray) ++ d0 := ⟨_, rfl⟩
  have zt1 : t1.size ≤ 26 := by rw [ht1, ByteArray.size_append]; omega
  have st1 : ∀ W : World, (Op.stringOp .add (⟨#[118, 111, 116, 101, 32]⟩ : ByteArray) d0).run Tryd.prog W = .ok (.string t1) W := fun W => by rw [ht1]; exact run_string_add_sum _ _ _ (by omega)
  obtain ⟨t2, ht2⟩ : ∃ q, q = t1 ++ (⟨#[32]⟩ : ByteArray) := ⟨_, rfl⟩
  have zt2 : t2.size ≤ 27 := by rw [ht2, ByteArray.size_append]; omega
  have st2 : ∀ W : World, (Op.stringOp .add t1 (⟨#[32]⟩ : ByteArray)).run Tryd.prog W = .ok (.string t2) W := fun W => by rw [ht2]; exact run_string_add_sum _ _ _ (by omega)
  obtain ⟨t3, ht3⟩ : ∃ q, q = t2 ++ d1 := ⟨_, rfl⟩
  have zt3 : t3.size ≤ 48 := by rw [ht3, ByteArray.size_append]; omega
  have st3 : ∀ W : World, (Op.stringOp .add t2 d1).run Tryd.prog W = .ok (.string t3) W := fun W => by rw [ht3]; exact run_string_add_sum _ _ _ (by omega)
  obtain ⟨t4, ht4⟩ : ∃ q, q = t3 ++ (⟨#[32]⟩ : ByteArray) := ⟨_, rfl⟩
  have zt4 : t4.size ≤ 49 := by rw [ht4, ByteArray.size_append]; omega
  have st4 : ∀ W : World, (Op.stringOp .add t3 (⟨#[32]⟩ : ByteArray)).run Tryd.prog W = .ok (.string t4) W := fun W => by rw [ht4]; exact run_string_add_sum _ _ _ (by omega)
  obtain ⟨t5, ht5⟩ : ∃ q, q = t4 ++ d2 := ⟨_, rfl⟩
  have zt5 : t5.size ≤ 70 := by rw [ht5, ByteArray.size_append]; omega
  have st5 : ∀ W : World, (Op.stringOp .add t4 d2).run Tryd.prog W = .ok (.string t5) W := fun W => by rw [ht5]; exact run_string_add_sum _ _ _ (by omega)
  obtain ⟨t6, ht6⟩ : ∃ q, q = t5 ++ (⟨#[32]⟩ : ByteArray) := ⟨_, rfl⟩
  have zt6 : t6.size ≤ 71 := by rw [ht6, ByteArray.size_append]; omega
  have st6 : ∀ W : World, (Op.stringOp .add t5 (⟨#[32]⟩ : ByteArray)).run Tryd.prog W = .ok (.string t6) W := fun W => by rw [ht6]; exact run_string_add_sum _ _ _ (by omega)
  obtain ⟨t7, ht7⟩ : ∃ q, q = t6 ++ d3 := ⟨_, rfl⟩
  have zt7 : t7.size ≤ 92 := by rw [ht7, ByteArray.size_append]; omega
  have st7 : ∀ W : World, (Op.stringOp .add t6 d3).run Tryd.prog W = .ok (.string t7) W := fun W => by rw [ht7]; exact run_string_add_sum _ _ _ (by omega)
  obtain ⟨t8, ht8⟩ : ∃ q, q = t7 ++ (⟨#[32]⟩ : ByteArray) := ⟨_, rfl⟩
  have zt8 : t8.size ≤ 93 := by rw [ht8, ByteArray.size_append]; omega
  have st8 : ∀ W : World, (Op.stringOp .add t7 (⟨#[32]⟩ : ByteArray)).run Tryd.prog W = .ok (.string t8) W := fun W => by rw [ht8]; exact run_string_add_sum _ _ _ (by omega)
  obtain ⟨t9, ht9⟩ : ∃ q, q = t8 ++ d4 := ⟨_, rfl⟩
  have zt9 : t9.size ≤ 2093 := by rw [ht9, ByteArray.size_append]; omega
  have st9 : ∀ W : World, (Op.stringOp .add t8 d4).run Tryd.prog W = .ok (.string t9) W := fun W => by rw [ht9]; exact run_string_add_sum _ _ _ (by omega)
  obtain ⟨t10, ht10⟩ : ∃ q, q = t9 ++ (⟨#[32]⟩ : ByteArray) := ⟨_, rfl⟩
  have zt10 : t10.size ≤ 2094 := by rw [ht10, ByteArray.size_append]; omega
  have st10 : ∀ W : World, (Op.stringOp .add t9 (⟨#[32]⟩ : ByteArray)).run Tryd.prog W = .ok (.string t10) W := fun W => by rw [ht10]; exact run_string_add_sum _ _ _ (by omega)
  obtain ⟨t11, ht11⟩ : ∃ q, q = t10 ++ d5 := ⟨_, rfl⟩
  have zt11 : t11.size ≤ 4094 := by rw [ht11, ByteArray.size_append]; omega
  have st11 : ∀ W : World, (Op.stringOp .add t10 d5).run Tryd.prog W = .ok (.string t11) W := fun W => by rw [ht11]; exact run_string_add_sum _ _ _ (by omega)
  have Ht1 := Lib.hid ht1
  have Ht2 := Lib.hid ht2
  have Ht3 := Lib.hid ht3
  have Ht4 := Lib.hid ht4
  have Ht5 := Lib.hid ht5
  have Ht6 := Lib.hid ht6
  have Ht7 := Lib.hid ht7
  have Ht8 := Lib.hid ht8
  have Ht9 := Lib.hid ht9
  have Ht10 := Lib.hid ht10
  have Ht11 := Lib.hid ht11
  clear ht1 ht2 ht3 ht4 ht5 ht6 ht7 ht8 ht9 ht10 ht11
  have HX := Lib.hid hx
  clear hx
  show Calls Tryd.prog 34 #[.agg #[.int .i64 x.k, .int .i64 x.pv, .int .i64 x.pf, .int .i64 x.px, .int .i64 x.v.f0, .int .i64 x.v.f1, .int .i64 x.v.f2, .slice a.A7 x.v.f3.length a.c7, .slice a.A8 x.v.f4.length a.c8, .slice a.A9 x.ps.length a.c9, .int .i64 x.vr, .int .i64 x.vv, .int .i64 x.vp, .int .i64 x.vf, .slice a.A14 x.vi.length a.c14, .slice a.A15 x.vs.length a.c15, .int .i64 x.r, .slice a.A17 x.es.length a.c17]] w _
  go_enter Tryd.func34, Tryd.ntmps34
  go_upto_region 1 with (fail)
  obtain ⟨wa, hwa⟩ : ∃ wa, wa = w.alloc (.cells #[.int .i64 x.k, .int .i64 x.pv, .int .i64 x.pf, .int .i64 x.px, .int .i64 x.v.f0, .int .i64 x.v.f1, .int .i64 x.v.f2, .slice a.A7 x.v.f3.length a.c7, .slice a.A8 x.v.f4.length a.c8, .slice a.A9 x.ps.length a.c9, .int .i64 x.vr, .int .i64 x.vv, .int .i64 x.vp, .int .i64 x.vf, .slice a.A14 x.vi.length a.c14, .slice a.A15 x.vs.length a.c15, .int .i64 x.r, .slice a.A17 x.es.length a.c17] 54) := ⟨_, rfl⟩
  rw [← hwa]
  have hla : wa.heap[w.heap.size]? = some (.cells #[.int .i64 x.k, .int .i64 x.pv, .int .i64 x.pf, .int .i64 x.px, .int .i64 x.v.f0, .int .i64 x.v.f1, .int .i64 x.v.f2, .slice a.A7 x.v.f3.length a.c7, .slice a.A8 x.v.f4.length a.c8, .slice a.A9 x.ps.length a.c9, .int .i64 x.vr, .int .i64 x.vv, .int .i64 x.vp, .int .i64 x.vf, .slice a.A14 x.vi.length a.c14, .slice a.A15 x.vs.length a.c15, .int .i64 x.r, .slice a.A17 x.es.length a.c17] 54) := by rw [hwa]; exact blk_new _ _
  have hba : Below w.heap.size w wa := by rw [hwa]; exact below_alloc (Below.refl _ _) _
  have hsa : wa.heap.size = w.heap.size + 1 := by rw [hwa]; simp
  have HLA := Lib.hid hla
  have HBA := Lib.hid hba
  have HSA := Lib.hid hsa
  clear hwa hla hba hsa
  obtain ⟨l0, l1, l2, l3, l4, l5, l6, l7, l8, l9, l10, l11, l12, l13, l14, l15, l16, l17⟩ := cells18 HLA.out
  clear l0 l10 l11 l12 l13 l14 l15 l16 l17
  go_upto_region 2 with (fail)
  obtain ⟨wb, hwb⟩ : ∃ wb, wb = wa.alloc (.cells #[.int .i64 x.pv, .int .i64 x.pf, .int .i64 x.px, .int .i64 x.v.f0, .int .i64 x.v.f1, .int .i64 x.v.f2, .slice a.A7 x.v.f3.length a.c7, .slice a.A8 x.v.f4.length a.c8, .slice a.A9 x.ps.length a.c9] 49) := ⟨_, rfl⟩
  rw [← hwb]
  have hlb : wb.heap[w.heap.size]? = some (.cells #[.int .i64 x.k, .int .i64 x.pv, .int .i64 x.pf, .int .i64 x.px, .int .i64 x.v.f0, .int .i64 x.v.f1, .int .i64 x.v.f2, .slice a.A7 x.v.f3.length a.c7, .slice a.A8 x.v.f4.length a.c8, .slice a.A9 x.ps.length a.c9, .int .i64 x.vr, .int .i64 x.vv, .int .i64 x.vp, .int .i64 x.vf, .slice a.A14 x.vi.length a.c14, .slice a.A15 x.vs.length a.c15, .int .i64 x.r, .slice a.A17 x.es.length a.c17] 54) := by rw [hwb]; exact blk_alloc HLA.out _
  have hpb : wb.heap[wa.heap.size]? = some (.cells #[.int .i64 x.pv, .int .i64 x.pf, .int .i64 x.px, .int .i64 x.v.f0, .int .i64 x.v.f1, .int .i64 x.v.f2, .slice a.A7 x.v.f3.length a.c7, .slice a.A8 x.v.f4.length a.c8, .slice a.A9 x.ps.length a.c9] 49) := by rw [hwb]; exact blk_new _ _
  have hbb : Below w.heap.size w wb := by rw [hwb]; exact HBA.out.alloc HBA.out.size _
  have HLB := Lib.hid hlb
  have HPB := Lib.hid hpb
  have HBB := Lib.hid hbb
  clear hwb hlb hpb hbb l1 l2 l3 l4 l5 l6 l7 l8 l9
  obtain ⟨l0, l1, l2, l3, l4, l5, l6, l7, l8, l9, l10, l11, l12, l13, l14, l15, l16, l17⟩ := cells18 HLB.out
  clear l0 l1 l2 l3 l4 l5 l6 l7 l8 l9 l16 l17
  go_upto_region 3 with (fail)
  obtain ⟨wx, hwx⟩ : ∃ wx, wx = wb.alloc (.cells #[.int .i64 x.vr, .int .i64 x.vv, .int .i64 x.vp, .int .i64 x.vf, .slice a.A14 x.vi.length a.c14, .slice a.A15 x.vs.length a.c15] 51) := ⟨_, rfl⟩
  rw [← hwx]
  obtain ⟨bp, hbp⟩ : ∃ bp, bp = wa.heap.size := ⟨_, rfl⟩
  obtain ⟨bv, hbv⟩ : ∃ bv, bv = wb.heap.size := ⟨_, rfl⟩
  have hbx : Below w.heap.size w wx := by rw [hwx]; exact HBB.out.alloc HBB.out.size _
  have H0 : Hid (Blk3 x a w wx w.heap.size bp bv) := Lib.hid ⟨by rw [hwx]; exact blk_alloc HLB.out _, by rw [hwx, hbp]; exact blk_alloc HPB.out _, by rw [hwx, hbv]; exact blk_new _ _, hbx, HX.out.below hbx⟩
  rw [← hbp, ← hbv]
  clear hwx hbx HX HLA HBA HSA HLB HPB HBB hbp hbv l10 l11 l12 l13 l14 l15
  have k1 : (x.k == 1) = false := by rw [HK.out]; rfl
  have k2 : (x.k == 2) = true := by rw [HK.out]; rfl
  have k3 : (x.k == 3) = false := by rw [HK.out]; rfl
  obtain ⟨l0, l1, l2, l3, l4, l5, l6, l7, l8, l9, l10, l11, l12, l13, l14, l15, l16, l17⟩ := cells18 H0.out.l
  clear l1 l2 l3 l4 l5 l6 l7 l8 l9 l10 l11 l12 l13 l14 l15 l16 l17
  go_upto_region 7 with (fail)
  clear l0
  obtain ⟨v0, v1, v2, v3, v4, v5⟩ := cells6 H0.out.v
  go_quiet (first
      | (go_at_call 71; (with_reducible refine (HD0.out _).mono ?_); rintro e w' ⟨rfl, nd, rfl⟩; first | exact ⟨rfl, _, World.drewN_drewN _ _ _⟩ | exact ⟨rfl, _, Eq.trans (World.drewN_drewN _ _ _) (congrArg (World.drewN _) (Nat.add_assoc _ _ _))⟩)
      | (go_at_call 71; (with_reducible refine (HD1.out _).mono ?_); rintro e w' ⟨rfl, nd, rfl⟩; first | exact ⟨rfl, _, World.drewN_drewN _ _ _⟩ | exact ⟨rfl, _, Eq.trans (World.drewN_drewN _ _ _) (congrArg (World.drewN _) (Nat.add_assoc _ _ _))⟩)
      | (go_at_call 71; (with_reducible refine (HD2.out _).mono ?_); rintro e w' ⟨rfl, nd, rfl⟩; first | exact ⟨rfl, _, World.drewN_drewN _ _ _⟩ | exact ⟨rfl, _, Eq.trans (World.drewN_drewN _ _ _) (congrArg (World.drewN _) (Nat.add_assoc _ _ _))⟩)
      | (go_at_call 71; (with_reducible refine (HD3.out _).mono ?_); rintro e w' ⟨rfl, nd, rfl⟩; first | exact ⟨rfl, _, World.drewN_drewN _ _ _⟩ | exact ⟨rfl, _, Eq.trans (World.drewN_drewN _ _ _) (congrArg (World.drewN _) (Nat.add_assoc _ _ _))⟩)
      | (go_at_call 73; (with_reducible refine (HD4.out _ (H0.out.c.below (pw_below_drewN (Below.refl _ _) _))).mono ?_); rintro e w' ⟨rfl, nd, rfl⟩; first | exact ⟨rfl, _, World.drewN_drewN _ _ _⟩ | exact ⟨rfl, _, Eq.trans (World.drewN_drewN _ _ _) (congrArg (World.drewN _) (Nat.add_assoc _ _ _))⟩)
      | (go_at_call 73; (with_reducible refine (HD5.out _ (H0.out.c.below (pw_below_drewN (Below.refl _ _) _))).mono ?_); rintro e w' ⟨rfl, nd, rfl⟩; first | exact ⟨rfl, _, World.drewN_drewN _ _ _⟩ | exact ⟨rfl, _, Eq.trans (World.drewN_drewN _ _ _) (congrArg (World.drewN _) (Nat.add_assoc _ _ _))⟩))
  go_wp2
  go_ret
  exact ⟨by rw [HR.out, ← Ht1.out, ← Ht2.out, ← Ht3.out, ← Ht4.out, ← Ht5.out, ← Ht6.out, ← Ht7.out, ← Ht8.out, ← Ht9.out, ← Ht10.out, ← Ht11.out] <;> rfl, by repeat (first | exact H0.out.b | apply pw_below_drewN)⟩
def txR3 (x : Let) : ByteArray := (⟨#[97, 115, 107, 32]⟩ : ByteArray) ++ itoaB x.r
set_option maxHeartbeats 8000000 in
theorem RText3_any (x : Let) (a : Ad) (w : World) (hx : LetC w x a) (hy : byL x) (hk : x.k = 3) (hp : inR x.r 1 2147483648 = true) : Calls Tryd.prog 34 #[letV x a] w fun e w' => e = .returned (.string (txR3 x)) ∧ Below w.heap.size w w' := by
  have HIP : okI x.r := by have := inR_t hp; exact ⟨by omega, by omega⟩
  have hR := (show txR3 x = (⟨#[97, 115, 107, 32]⟩ : ByteArray) ++ itoaB x.r from rfl)
  have hd0 := fun W => rdigits_any x.r HIP W
  have ed0 := itoaB_szr HIP
  obtain ⟨d0, qd0⟩ : ∃ d, d = itoaB x.r := ⟨_, rfl⟩
  rw [← qd0] at ed0
  rw [← qd0] at hR hd0
  have HD0 := Lib.hid hd0
  have HR := Lib.hid hR
  have HK := Lib.hid hk
  clear hd0 hR qd0 hk hp HIP hy
  have zc0t : (⟨#[97, 115, 107, 32]⟩ : ByteArray).size = 4 := rfl
  obtain ⟨t1, ht1⟩ : ∃ q, q = (⟨#[97, 115, 107, 32]⟩ : ByteArray) ++ d0 := ⟨_, rfl⟩
  have zt1 : t1.size ≤ 25 := by rw [ht1, ByteArray.size_append]; omega
  have st1 : ∀ W : World, (Op.stringOp .add (⟨#[97, 115, 107, 32]⟩ : ByteArray) d0).run Tryd.prog W = .ok (.string t1) W := fun W => by rw [ht1]; exact run_string_add_sum _ _ _ (by omega)
  have Ht1 := Lib.hid ht1
  clear ht1
  have HX := Lib.hid hx
  clear hx
  show Calls Tryd.prog 34 #[.agg #[.int .i64 x.k, .int .i64 x.pv, .int .i64 x.pf, .int .i64 x.px, .int .i64 x.v.f0, .int .i64 x.v.f1, .int .i64 x.v.f2, .slice a.A7 x.v.f3.length a.c7, .slice a.A8 x.v.f4.length a.c8, .slice a.A9 x.ps.length a.c9, .int .i64 x.vr, .int .i64 x.vv, .int .i64 x.vp, .int .i64 x.vf, .slice a.A14 x.vi.length a.c14, .slice a.A15 x.vs.length a.c15, .int .i64 x.r, .slice a.A17 x.es.length a.c17]] w _
  go_enter Tryd.func34, Tryd.ntmps34
  go_upto_region 1 with (fail)
  obtain ⟨wa, hwa⟩ : ∃ wa, wa = w.alloc (.cells #[.int .i64 x.k, .int .i64 x.pv, .int .i64 x.pf, .int .i64 x.px, .int .i64 x.v.f0, .int .i64 x.v.f1, .int .i64 x.v.f2, .slice a.A7 x.v.f3.length a.c7, .slice a.A8 x.v.f4.length a.c8, .slice a.A9 x.ps.length a.c9, .int .i64 x.vr, .int .i64 x.vv, .int .i64 x.vp, .int .i64 x.vf, .slice a.A14 x.vi.length a.c14, .slice a.A15 x.vs.length a.c15, .int .i64 x.r, .slice a.A17 x.es.length a.c17] 54) := ⟨_, rfl⟩
  rw [← hwa]
  have hla : wa.heap[w.heap.size]? = some (.cells #[.int .i64 x.k, .int .i64 x.pv, .int .i64 x.pf, .int .i64 x.px, .int .i64 x.v.f0, .int .i64 x.v.f1, .int .i64 x.v.f2, .slice a.A7 x.v.f3.length a.c7, .slice a.A8 x.v.f4.length a.c8, .slice a.A9 x.ps.length a.c9, .int .i64 x.vr, .int .i64 x.vv, .int .i64 x.vp, .int .i64 x.vf, .slice a.A14 x.vi.length a.c14, .slice a.A15 x.vs.length a.c15, .int .i64 x.r, .slice a.A17 x.es.length a.c17] 54) := by rw [hwa]; exact blk_new _ _
  have hba : Below w.heap.size w wa := by rw [hwa]; exact below_alloc (Below.refl _ _) _
  have hsa : wa.heap.size = w.heap.size + 1 := by rw [hwa]; simp
  have HLA := Lib.hid hla
  have HBA := Lib.hid hba
  have HSA := Lib.hid hsa
  clear hwa hla hba hsa
  obtain ⟨l0, l1, l2, l3, l4, l5, l6, l7, l8, l9, l10, l11, l12, l13, l14, l15, l16, l17⟩ := cells18 HLA.out
  clear l0 l10 l11 l12 l13 l14 l15 l16 l17
  go_upto_region 2 with (fail)
  obtain ⟨wb, hwb⟩ : ∃ wb, wb = wa.alloc (.cells #[.int .i64 x.pv, .int .i64 x.pf, .int .i64 x.px, .int .i64 x.v.f0, .int .i64 x.v.f1, .int .i64 x.v.f2, .slice a.A7 x.v.f3.length a.c7, .slice a.A8 x.v.f4.length a.c8, .slice a.A9 x.ps.length a.c9] 49) := ⟨_, rfl⟩
  rw [← hwb]
  have hlb : wb.heap[w.heap.size]? = some (.cells #[.int .i64 x.k, .int .i64 x.pv, .int .i64 x.pf, .int .i64 x.px, .int .i64 x.v.f0, .int .i64 x.v.f1, .int .i64 x.v.f2, .slice a.A7 x.v.f3.length a.c7, .slice a.A8 x.v.f4.length a.c8, .slice a.A9 x.ps.length a.c9, .int .i64 x.vr, .int .i64 x.vv, .int .i64 x.vp, .int .i64 x.vf, .slice a.A14 x.vi.length a.c14, .slice a.A15 x.vs.length a.c15, .int .i64 x.r, .slice a.A17 x.es.length a.c17] 54) := by rw [hwb]; exact blk_alloc HLA.out _
  have hpb : wb.heap[wa.heap.size]? = some (.cells #[.int .i64 x.pv, .int .i64 x.pf, .int .i64 x.px, .int .i64 x.v.f0, .int .i64 x.v.f1, .int .i64 x.v.f2, .slice a.A7 x.v.f3.length a.c7, .slice a.A8 x.v.f4.length a.c8, .slice a.A9 x.ps.length a.c9] 49) := by rw [hwb]; exact blk_new _ _
  have hbb : Below w.heap.size w wb := by rw [hwb]; exact HBA.out.alloc HBA.out.size _
  have HLB := Lib.hid hlb
  have HPB := Lib.hid hpb
  have HBB := Lib.hid hbb
  clear hwb hlb hpb hbb l1 l2 l3 l4 l5 l6 l7 l8 l9
  obtain ⟨l0, l1, l2, l3, l4, l5, l6, l7, l8, l9, l10, l11, l12, l13, l14, l15, l16, l17⟩ := cells18 HLB.out
  clear l0 l1 l2 l3 l4 l5 l6 l7 l8 l9 l16 l17
  go_upto_region 3 with (fail)
  obtain ⟨wx, hwx⟩ : ∃ wx, wx = wb.alloc (.cells #[.int .i64 x.vr, .int .i64 x.vv, .int .i64 x.vp, .int .i64 x.vf, .slice a.A14 x.vi.length a.c14, .slice a.A15 x.vs.length a.c15] 51) := ⟨_, rfl⟩
  rw [← hwx]
  obtain ⟨bp, hbp⟩ : ∃ bp, bp = wa.heap.size := ⟨_, rfl⟩
  obtain ⟨bv, hbv⟩ : ∃ bv, bv = wb.heap.size := ⟨_, rfl⟩
  have hbx : Below w.heap.size w wx := by rw [hwx]; exact HBB.out.alloc HBB.out.size _
  have H0 : Hid (Blk3 x a w wx w.heap.size bp bv) := Lib.hid ⟨by rw [hwx]; exact blk_alloc HLB.out _, by rw [hwx, hbp]; exact blk_alloc HPB.out _, by rw [hwx, hbv]; exact blk_new _ _, hbx, HX.out.below hbx⟩
  rw [← hbp, ← hbv]
  clear hwx hbx HX HLA HBA HSA HLB HPB HBB hbp hbv l10 l11 l12 l13 l14 l15
  have k1 : (x.k == 1) = false := by rw [HK.out]; rfl
  have k2 : (x.k == 2) = false := by rw [HK.out]; rfl
  have k3 : (x.k == 3) = true := by rw [HK.out]; rfl
  obtain ⟨l0, l1, l2, l3, l4, l5, l6, l7, l8, l9, l10, l11, l12, l13, l14, l15, l16, l17⟩ := cells18 H0.out.l
  clear l1 l2 l3 l4 l5 l6 l7 l8 l9 l10 l11 l12 l13 l14 l15 l17
  go_wp2_with (go_at_call 71; (with_reducible refine (HD0.out _).mono ?_); rintro e w' ⟨rfl, nd, rfl⟩)
  go_ret
  exact ⟨by rw [HR.out, ← Ht1.out] <;> rfl, by repeat (first | exact H0.out.b | apply pw_below_drewN)⟩
end Go.Proofs.YtpeebjnfmlfocaaDoor.Sh
