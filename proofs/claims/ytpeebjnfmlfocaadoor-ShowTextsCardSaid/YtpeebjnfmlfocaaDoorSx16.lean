/- The document's text of a letter, a chain, at this program. Conditions: it is good; bytes in range. Printed by gen/r47.py. -/
import Derived.Test.YtpeebjnfmlfocaaDoorSx12
import Derived.Test.YtpeebjnfmlfocaaDoorSx14
import Derived.Deep.QuietTactic
import Derived.BigQuiet
import Derived.Deep.RegionHeld3
namespace Go.Proofs.YtpeebjnfmlfocaaDoor.Sh
open Go.RowKit Go.Proofs.YtpeebjnfmlfocaaDoor.Th Go.Proofs.YtpeebjnfmlfocaaDoorW.PrintWords Go.Proofs.YtpeebjnfmlfocaaDoorW.PrintLast Go.Proofs.YtpeebjnfmlfocaaDoorW.PrintMore
set_option maxRecDepth 100000
set_option linter.unusedVariables false
set_option linter.unusedSimpArgs false
def sgS (s : ByteArray) (z : S100) : ByteArray := s ++ (⟨#[32]⟩ : ByteArray) ++ itoaB z.f0 ++ (⟨#[32]⟩ : ByteArray) ++ bytesS z.f1
def enH (s : ByteArray) (e : S98) : ByteArray := s ++ (⟨#[32]⟩ : ByteArray) ++ valR e.f0 ++ (⟨#[32, 99, 101, 114, 116, 32]⟩ : ByteArray) ++ itoaB e.f1.f0 ++ (⟨#[32]⟩ : ByteArray) ++ itoaB e.f1.f1 ++ (⟨#[32]⟩ : ByteArray) ++ bytesS e.f1.f2 ++ (⟨#[32]⟩ : ByteArray) ++ itoaB (e.f1.f3.length : Int)
def enS (s : ByteArray) (e : S98) : ByteArray := e.f1.f3.foldl sgS (enH s e)
def txR4 (x : Let) : ByteArray := x.es.foldl enS ((⟨#[99, 104, 97, 105, 110, 32]⟩ : ByteArray) ++ itoaB (x.es.length : Int))
theorem fold_at {α β : Type} (f : β → α → β) (l : List α) (b : β) (k : Nat) (h : k < l.length) : (l.drop k).foldl f b = (l.drop (k + 1)).foldl f (f b l[k]) := by
  rw [List.drop_eq_getElem_cons h]; rfl
theorem fold_end {α β : Type} (f : β → α → β) (l : List α) (b : β) (k : Nat) (h : l.length ≤ k) : (l.drop k).foldl f b = b := by
  rw [List.drop_eq_nil_of_le h]; rfl
set_option maxHeartbeats 8000000 in
theorem RText4_any (x : Let) (a : Ad) (w : World) (hx : LetC w x a) (hy : byL x) (hk : x.k = 4) (hn16 : x.es.length ≤ 16) (hp : ∀ e ∈ x.es, gE e = true) : Calls Tryd.prog 34 #[letV x a] w fun e w' => e = .returned (.string (txR4 x)) ∧ Below w.heap.size w w' := by
  have hOE : ∀ e ∈ x.es, okE e := fun e he => okE_of e (hp e he) (hy.f e he)
  have HOE := Lib.hid hOE
  have hln := len_ok (show x.es.length ≤ 200 by omega)
  have hd0 := fun W => rdigits_any (x.es.length : Int) hln W
  have ed0 := itoaB_szr hln
  obtain ⟨d0, qd0⟩ : ∃ d, d = itoaB (x.es.length : Int) := ⟨_, rfl⟩
  rw [← qd0] at ed0
  obtain ⟨R, hR⟩ : ∃ R, R = txR4 x := ⟨_, rfl⟩
  have hR0 : (x.es.drop 0).foldl enS ((⟨#[99, 104, 97, 105, 110, 32]⟩ : ByteArray) ++ d0) = R := by rw [hR, qd0]; rfl
  rw [← qd0] at hd0
  have HD0 := Lib.hid hd0
  have HRR := Lib.hid hR
  have HK := Lib.hid hk
  have zc0t : (⟨#[99, 104, 97, 105, 110, 32]⟩ : ByteArray).size = 6 := rfl
  obtain ⟨t1, ht1⟩ : ∃ q, q = (⟨#[99, 104, 97, 105, 110, 32]⟩ : ByteArray) ++ d0 := ⟨_, rfl⟩
  have zt1 : t1.size ≤ 27 := by rw [ht1, ByteArray.size_append]; omega
  have st1 : ∀ W : World, (Op.stringOp .add (⟨#[99, 104, 97, 105, 110, 32]⟩ : ByteArray) d0).run Tryd.prog W = .ok (.string t1) W := fun W => by rw [ht1]; exact run_string_add_sum _ _ _ (by omega)
  have Ht1 := Lib.hid ht1
  clear ht1
  rw [← Ht1.out] at hR0
  have HR0 := Lib.hid hR0
  clear hd0 hR hR0 qd0 hk hp hOE hy hln
  have HX := Lib.hid hx
  clear hx
  show Calls Tryd.prog 34 #[.agg #[.int .i64 x.k, .int .i64 x.pv, .int .i64 x.pf, .int .i64 x.px, .int .i64 x.v.f0, .int .i64 x.v.f1, .int .i64 x.v.f2, .slice a.A7 x.v.f3.length a.c7, .slice a.A8 x.v.f4.length a.c8, .slice a.A9 x.ps.length a.c9, .int .i64 x.vr, .int .i64 x.vv, .int .i64 x.vp, .int .i64 x.vf, .slice a.A14 x.vi.length a.c14, .slice a.A15 x.vs.length a.c15, .int .i64 x.r, .slice a.A17 x.es.length a.c17]] w _
  go_enter Tryd.func34, Tryd.ntmps34
  go_upto_region 1 with (fail)
  obtain ⟨wa, hwa⟩ : ∃ wa, wa = w.alloc (.cells #[.int .i64 x.k, .int .i64 x.pv, .int .i64 x.pf, .int .i64 x.px, .int .i64 x.v.f0, .int .i64 x.v.f1, .int .i64 x.v.f2, .slice a.A7 x.v.f3.length a.c7, .slice a.A8 x.v.f4.length a.c8, .slice a.A9 x.ps.length a.c9, .int .i64 x.vr, .int .i64 x.vv, .int .i64 x.vp, .int .i64 x.vf, .slice a.A14 x.vi.length a.c14, .slice a.A15 x.vs.length a.c15, .int .i64 x.r, .slice a.A17 x.es.length a.c17] 54) := ⟨_, rfl⟩
  rw [← hwa]
  have hla : wa.heap[w.heap.size]? = some (.cells #[.int .i64 x.k, .int .i64 x.pv, .int .i64 x.pf, .int .i64 x.px, .int .i64 x.v.f0, .int .i64 x.v.f1, .int .i64 x.v.f2, .slice a.A7 x.v.f3.length a.c7, .slice a.A8 x.v.f4.length a.c8, .slice a.A9 x.ps.length a.c9, .int .i64 x.vr, .int .i64 x.vv, .int .i64 x.vp, .int .i64 x.vf, .slice a.A14 x.vi.length a.c14, .slice a.A15 x.vs.length a.c15, .int .i64 x.r, .slice a.A17 x.es.length a.c17] 54) := by rw [hwa]; exact blk_new _ _
  have hba : Below w.heap.size w wa := by rw [hwa]; exact below_alloc (Below.refl _ _) _
  have hsa : wa.heap.size = w.heap.size + 1 := by rw [hwa]; simp
  have HLA := Lib.hid hla
  have HBA := Lib.hid hba
  have HSA := Lib.hid hsa
  clear hwa hla hba hsa
  obtain ⟨l0, l1, l2, l3, l4, l5, l6, l7, l8, l9, l10, l11, l12, l13, l14, l15, l16, l17⟩ := cells18 HLA.out
  clear l0 l10 l11 l12 l13 l14 l15 l16 l17
  go_upto_region 2 with (fail)
  obtain ⟨wb, hwb⟩ : ∃ wb, wb = wa.alloc (.cells #[.int .i64 x.pv, .int .i64 x.pf, .int .i64 x.px, .int .i64 x.v.f0, .int .i64 x.v.f1, .int .i64 x.v.f2, .slice a.A7 x.v.f3.length a.c7, .slice a.A8 x.v.f4.length a.c8, .slice a.A9 x.ps.length a.c9] 49) := ⟨_, rfl⟩
  rw [← hwb]
  have hlb : wb.heap[w.heap.size]? = some (.cells #[.int .i64 x.k, .int .i64 x.pv, .int .i64 x.pf, .int .i64 x.px, .int .i64 x.v.f0, .int .i64 x.v.f1, .int .i64 x.v.f2, .slice a.A7 x.v.f3.length a.c7, .slice a.A8 x.v.f4.length a.c8, .slice a.A9 x.ps.length a.c9, .int .i64 x.vr, .int .i64 x.vv, .int .i64 x.vp, .int .i64 x.vf, .slice a.A14 x.vi.length a.c14, .slice a.A15 x.vs.length a.c15, .int .i64 x.r, .slice a.A17 x.es.length a.c17] 54) := by rw [hwb]; exact blk_alloc HLA.out _
  have hpb : wb.heap[wa.heap.size]? = some (.cells #[.int .i64 x.pv, .int .i64 x.pf, .int .i64 x.px, .int .i64 x.v.f0, .int .i64 x.v.f1, .int .i64 x.v.f2, .slice a.A7 x.v.f3.length a.c7, .slice a.A8 x.v.f4.length a.c8, .slice a.A9 x.ps.length a.c9] 49) := by rw [hwb]; exact blk_new _ _
  have hbb : Below w.heap.size w wb := by rw [hwb]; exact HBA.out.alloc HBA.out.size _
  have HLB := Lib.hid hlb
  have HPB := Lib.hid hpb
  have HBB := Lib.hid hbb
  clear hwb hlb hpb hbb l1 l2 l3 l4 l5 l6 l7 l8 l9
  obtain ⟨l0, l1, l2, l3, l4, l5, l6, l7, l8, l9, l10, l11, l12, l13, l14, l15, l16, l17⟩ := cells18 HLB.out
  clear l0 l1 l2 l3 l4 l5 l6 l7 l8 l9 l16 l17
  go_upto_region 3 with (fail)
  obtain ⟨wx, hwx⟩ : ∃ wx, wx = wb.alloc (.cells #[.int .i64 x.vr, .int .i64 x.vv, .int .i64 x.vp, .int .i64 x.vf, .slice a.A14 x.vi.length a.c14, .slice a.A15 x.vs.length a.c15] 51) := ⟨_, rfl⟩
  rw [← hwx]
  obtain ⟨bp, hbp⟩ : ∃ bp, bp = wa.heap.size := ⟨_, rfl⟩
  obtain ⟨bv, hbv⟩ : ∃ bv, bv = wb.heap.size := ⟨_, rfl⟩
  have hbx : Below w.heap.size w wx := by rw [hwx]; exact HBB.out.alloc HBB.out.size _
  have H0 : Hid (Blk3 x a w wx w.heap.size bp bv) := Lib.hid ⟨by rw [hwx]; exact blk_alloc HLB.out _, by rw [hwx, hbp]; exact blk_alloc HPB.out _, by rw [hwx, hbv]; exact blk_new _ _, hbx, HX.out.below hbx⟩
  rw [← hbp, ← hbv]
  clear hwx hbx HX HLA HBA HSA HLB HPB HBB hbp hbv l10 l11 l12 l13 l14 l15
  have k1 : (x.k == 1) = false := by rw [HK.out]; rfl
  have k2 : (x.k == 2) = false := by rw [HK.out]; rfl
  have k3 : (x.k == 3) = false := by rw [HK.out]; rfl
  obtain ⟨l0, l1, l2, l3, l4, l5, l6, l7, l8, l9, l10, l11, l12, l13, l14, l15, l16, l17⟩ := cells18 H0.out.l
  clear l1 l2 l3 l4 l5 l6 l7 l8 l9 l10 l11 l12 l13 l14 l15 l16
  go_wp2_with (go_at_call 71; (with_reducible refine (HD0.out _).mono ?_); rintro e w' ⟨rfl, nd, rfl⟩)
  clear l0 l17 st1
  go_loopw [5, 6] (fun v5 v6 wr => ∃ (k : Nat) (acc : ByteArray), k ≤ x.es.length ∧ v5 = .string acc ∧ v6 = .int .i64 k ∧ acc.size ≤ 1000 + 500000 * k ∧ Hid ((x.es.drop k).foldl enS acc = R) ∧ Blk3 x a w wr w.heap.size bp bv) (fun _ i _ => x.es.length - (intOf i).toNat)
  case atStart => exact ⟨0, t1, by omega, rfl, rfl, by omega, HR0, H0.out.below (pw_below_drewN (Below.refl _ _) nd)⟩
  case round =>
    obtain ⟨k, acc, hk, rfl, rfl, hacc, hP, hB⟩ := hrel
    clear HR0
    obtain ⟨l0, l1, l2, l3, l4, l5, l6, l7, l8, l9, l10, l11, l12, l13, l14, l15, l16, l17⟩ := cells18 hB.l
    clear l0 l1 l2 l3 l4 l5 l6 l7 l8 l9 l10 l11 l12 l13 l14 l15 l16
    have HBB := Lib.hid hB
    clear hB
    by_cases hlt : k < x.es.length
    · obtain ⟨ad, q, had, hq, e0, e1, e2, e3, e4, e5, e6, e7, e8⟩ := ent_at HBB.out.c.h17 k hlt
      have hP2 := hP.out
      rw [fold_at _ _ _ _ hlt] at hP2
      have hoe := HOE.out x.es[k] (List.getElem_mem hlt)
      obtain ⟨n, hn⟩ : ∃ n, n = x.es[k] := ⟨_, rfl⟩
      rw [← hn] at hq e0 e1 e2 e3 e4 e5 e6 e7 e8 hP2 hoe
      have HQ := Lib.hid hq
      have HP2 := Lib.hid hP2
      have HOK := Lib.hid hoe
      rw [had] at l17
      have dlt : decide ((k : Int) < (x.es.length : Int)) = true := decide_eq_true (by omega)
      clear hn hP hq hP2 hoe had
      go_upto_region 15 with (fail)
      obtain ⟨wy, hwy⟩ : ∃ wy, wy = wr.alloc (.cells #[.int .i64 n.f1.f0, .int .i64 n.f1.f1, .slice q.A7 n.f1.f2.length q.c7, .slice q.A8 n.f1.f3.length q.c8] 96) := ⟨_, rfl⟩
      rw [← hwy]
      have hby : Below wr.heap.size wr wy := by rw [hwy]; exact below_alloc (Below.refl _ _) _
      have hcy : wy.heap[wr.heap.size]? = some (.cells #[.int .i64 n.f1.f0, .int .i64 n.f1.f1, .slice q.A7 n.f1.f2.length q.c7, .slice q.A8 n.f1.f3.length q.c8] 96) := by rw [hwy]; exact blk_new _ _
      obtain ⟨bc, hbc⟩ : ∃ bc, bc = wr.heap.size := ⟨_, rfl⟩
      rw [← hbc] at hcy ⊢
      have HCY := Lib.hid hcy
      have HB2 := Lib.hid (HBB.out.below hby)
      have HQ2 := Lib.hid (HQ.out.below hby)
      replace e0 := pw_cell_below hby e0
      replace e1 := pw_cell_below hby e1
      replace e2 := pw_cell_below hby e2
      replace e3 := pw_cell_below hby e3
      replace e4 := pw_cell_below hby e4
      replace l17 := pw_cell_below hby l17
      clear hwy hby hcy hbc e5 e6 e7 e8 HBB HQ
      obtain ⟨c0, c1, c2, c3⟩ := cells4 HCY.out
      have hd0 := fun W => dig_below (rdigits_any n.f1.f0 HOK.out.i0 W)
      have hd1 := fun W => dig_below (rdigits_any n.f1.f1 HOK.out.i1 W)
      have hd2 := fun W => dig_below (rdigits_any (n.f1.f3.length : Int) (len_ok HOK.out.n3) W)
      have hd3 := fun W (hb : Below wy.heap.size wy W) => rvalue_any n.f0 q.A3 q.c3 q.A4 q.c4 W (Kd.C_below HQ2.out.h3 hb) HQ2.out.l3 (Kd.C_below HQ2.out.h4 hb) HQ2.out.l4 HOK.out.v
      have hd4 := fun W (hb : Below wy.heap.size wy W) => dig_below (rbytes_any q.A7 q.c7 n.f1.f2 W (Kd.C_below HQ2.out.h7 hb) HQ2.out.l7 HOK.out.b2)
      have hEN := (show enS acc n = n.f1.f3.foldl sgS (acc ++ (⟨#[32]⟩ : ByteArray) ++ valR n.f0 ++ (⟨#[32, 99, 101, 114, 116, 32]⟩ : ByteArray) ++ itoaB n.f1.f0 ++ (⟨#[32]⟩ : ByteArray) ++ itoaB n.f1.f1 ++ (⟨#[32]⟩ : ByteArray) ++ bytesS n.f1.f2 ++ (⟨#[32]⟩ : ByteArray) ++ itoaB (n.f1.f3.length : Int)) from rfl)
      have ef0 := itoaB_szr HOK.out.i0
      obtain ⟨f0, qf0⟩ : ∃ d, d = itoaB n.f1.f0 := ⟨_, rfl⟩
      rw [← qf0] at ef0
      have ef1 := itoaB_szr HOK.out.i1
      obtain ⟨f1, qf1⟩ : ∃ d, d = itoaB n.f1.f1 := ⟨_, rfl⟩
      rw [← qf1] at ef1
      have ef2 := itoaB_szr (len_ok HOK.out.n3)
      obtain ⟨f2, qf2⟩ : ∃ d, d = itoaB (n.f1.f3.length : Int) := ⟨_, rfl⟩
      rw [← qf2] at ef2
      have ef3 := valR_sz HOK.out.v
      obtain ⟨f3, qf3⟩ : ∃ d, d = valR n.f0 := ⟨_, rfl⟩
      rw [← qf3] at ef3
      have ef4 := bytesS_szr HOK.out.b2
      obtain ⟨f4, qf4⟩ : ∃ d, d = bytesS n.f1.f2 := ⟨_, rfl⟩
      rw [← qf4] at ef4
      rw [← qf0, ← qf1, ← qf2, ← qf3, ← qf4] at hEN
      rw [← qf0] at hd0
      have HF0 := Lib.hid hd0
      rw [← qf1] at hd1
      have HF1 := Lib.hid hd1
      rw [← qf2] at hd2
      have HF2 := Lib.hid hd2
      rw [← qf3] at hd3
      have HF3 := Lib.hid hd3
      rw [← qf4] at hd4
      have HF4 := Lib.hid hd4
      have hn3 := HOK.out.n3
      clear hd0 hd1 hd2 hd3 hd4 qf0 qf1 qf2 qf3 qf4
      have zc0u : (⟨#[32, 99, 101, 114, 116, 32]⟩ : ByteArray).size = 6 := rfl
      have zc1u : (⟨#[32]⟩ : ByteArray).size = 1 := rfl
      obtain ⟨u1, hu1⟩ : ∃ q, q = acc ++ (⟨#[32]⟩ : ByteArray) := ⟨_, rfl⟩
      have zu1 : u1.size ≤ (1000 + 500000 * k) + 1 := by rw [hu1, ByteArray.size_append]; omega
      have su1 : ∀ W : World, (Op.stringOp .add acc (⟨#[32]⟩ : ByteArray)).run Tryd.prog W = .ok (.string u1) W := fun W => by rw [hu1]; exact run_string_add_sum _ _ _ (by omega)
      obtain ⟨u2, hu2⟩ : ∃ q, q = u1 ++ f3 := ⟨_, rfl⟩
      have zu2 : u2.size ≤ (1000 + 500000 * k) + 1 + 5000 := by rw [hu2, ByteArray.size_append]; omega
      have su2 : ∀ W : World, (Op.stringOp .add u1 f3).run Tryd.prog W = .ok (.string u2) W := fun W => by rw [hu2]; exact run_string_add_sum _ _ _ (by omega)
      obtain ⟨u3, hu3⟩ : ∃ q, q = u2 ++ (⟨#[32, 99, 101, 114, 116, 32]⟩ : ByteArray) := ⟨_, rfl⟩
      have zu3 : u3.size ≤ (1000 + 500000 * k) + 1 + 5000 + 6 := by rw [hu3, ByteArray.size_append]; omega
      have su3 : ∀ W : World, (Op.stringOp .add u2 (⟨#[32, 99, 101, 114, 116, 32]⟩ : ByteArray)).run Tryd.prog W = .ok (.string u3) W := fun W => by rw [hu3]; exact run_string_add_sum _ _ _ (by omega)
      obtain ⟨u4, hu4⟩ : ∃ q, q = u3 ++ f0 := ⟨_, rfl⟩
      have zu4 : u4.size ≤ (1000 + 500000 * k) + 1 + 5000 + 6 + 21 := by rw [hu4, ByteArray.size_append]; omega
      have su4 : ∀ W : World, (Op.stringOp .add u3 f0).run Tryd.prog W = .ok (.string u4) W := fun W => by rw [hu4]; exact run_string_add_sum _ _ _ (by omega)
      obtain ⟨u5, hu5⟩ : ∃ q, q = u4 ++ (⟨#[32]⟩ : ByteArray) := ⟨_, rfl⟩
      have zu5 : u5.size ≤ (1000 + 500000 * k) + 1 + 5000 + 6 + 21 + 1 := by rw [hu5, ByteArray.size_append]; omega
      have su5 : ∀ W : World, (Op.stringOp .add u4 (⟨#[32]⟩ : ByteArray)).run Tryd.prog W = .ok (.string u5) W := fun W => by rw [hu5]; exact run_string_add_sum _ _ _ (by omega)
      obtain ⟨u6, hu6⟩ : ∃ q, q = u5 ++ f1 := ⟨_, rfl⟩
      have zu6 : u6.size ≤ (1000 + 500000 * k) + 1 + 5000 + 6 + 21 + 1 + 21 := by rw [hu6, ByteArray.size_append]; omega
      have su6 : ∀ W : World, (Op.stringOp .add u5 f1).run Tryd.prog W = .ok (.string u6) W := fun W => by rw [hu6]; exact run_string_add_sum _ _ _ (by omega)
      obtain ⟨u7, hu7⟩ : ∃ q, q = u6 ++ (⟨#[32]⟩ : ByteArray) := ⟨_, rfl⟩
      have zu7 : u7.size ≤ (1000 + 500000 * k) + 1 + 5000 + 6 + 21 + 1 + 21 + 1 := by rw [hu7, ByteArray.size_append]; omega
      have su7 : ∀ W : World, (Op.stringOp .add u6 (⟨#[32]⟩ : ByteArray)).run Tryd.prog W = .ok (.string u7) W := fun W => by rw [hu7]; exact run_string_add_sum _ _ _ (by omega)
      obtain ⟨u8, hu8⟩ : ∃ q, q = u7 ++ f4 := ⟨_, rfl⟩
      have zu8 : u8.size ≤ (1000 + 500000 * k) + 1 + 5000 + 6 + 21 + 1 + 21 + 1 + 2000 := by rw [hu8, ByteArray.size_append]; omega
      have su8 : ∀ W : World, (Op.stringOp .add u7 f4).run Tryd.prog W = .ok (.string u8) W := fun W => by rw [hu8]; exact run_string_add_sum _ _ _ (by omega)
      obtain ⟨u9, hu9⟩ : ∃ q, q = u8 ++ (⟨#[32]⟩ : ByteArray) := ⟨_, rfl⟩
      have zu9 : u9.size ≤ (1000 + 500000 * k) + 1 + 5000 + 6 + 21 + 1 + 21 + 1 + 2000 + 1 := by rw [hu9, ByteArray.size_append]; omega
      have su9 : ∀ W : World, (Op.stringOp .add u8 (⟨#[32]⟩ : ByteArray)).run Tryd.prog W = .ok (.string u9) W := fun W => by rw [hu9]; exact run_string_add_sum _ _ _ (by omega)
      obtain ⟨u10, hu10⟩ : ∃ q, q = u9 ++ f2 := ⟨_, rfl⟩
      have zu10 : u10.size ≤ (1000 + 500000 * k) + 1 + 5000 + 6 + 21 + 1 + 21 + 1 + 2000 + 1 + 21 := by rw [hu10, ByteArray.size_append]; omega
      have su10 : ∀ W : World, (Op.stringOp .add u9 f2).run Tryd.prog W = .ok (.string u10) W := fun W => by rw [hu10]; exact run_string_add_sum _ _ _ (by omega)
      have Hu1 := Lib.hid hu1
      have Hu2 := Lib.hid hu2
      have Hu3 := Lib.hid hu3
      have Hu4 := Lib.hid hu4
      have Hu5 := Lib.hid hu5
      have Hu6 := Lib.hid hu6
      have Hu7 := Lib.hid hu7
      have Hu8 := Lib.hid hu8
      have Hu9 := Lib.hid hu9
      have Hu10 := Lib.hid hu10
      clear hu1 hu2 hu3 hu4 hu5 hu6 hu7 hu8 hu9 hu10
      rw [← Hu1.out, ← Hu2.out, ← Hu3.out, ← Hu4.out, ← Hu5.out, ← Hu6.out, ← Hu7.out, ← Hu8.out, ← Hu9.out, ← Hu10.out] at hEN
      have HEN := Lib.hid hEN
      clear hEN
      have HS0 : Hid (Below wy.heap.size wy wy ∧ wy.cell? ⟨w.heap.size, 17, none⟩ = some (.slice (some ad) x.es.length a.c17) ∧ wy.cell? (ad.add (k * 9)) = some (.int .i64 n.f0.f0) ∧ wy.cell? ⟨(ad.add (k * 9)).block, (ad.add (k * 9)).off + 1, none⟩ = some (.int .i64 n.f0.f1) ∧ wy.cell? ⟨(ad.add (k * 9)).block, (ad.add (k * 9)).off + 2, none⟩ = some (.int .i64 n.f0.f2) ∧ wy.cell? ⟨(ad.add (k * 9)).block, (ad.add (k * 9)).off + 3, none⟩ = some (.slice q.A3 n.f0.f3.length q.c3) ∧ wy.cell? ⟨(ad.add (k * 9)).block, (ad.add (k * 9)).off + 4, none⟩ = some (.slice q.A4 n.f0.f4.length q.c4) ∧ wy.cell? ⟨bc, 0, none⟩ = some (.int .i64 n.f1.f0) ∧ wy.cell? ⟨bc, 1, none⟩ = some (.int .i64 n.f1.f1) ∧ wy.cell? ⟨bc, 2, none⟩ = some (.slice q.A7 n.f1.f2.length q.c7) ∧ wy.cell? ⟨bc, 3, none⟩ = some (.slice q.A8 n.f1.f3.length q.c8)) := Lib.hid ⟨Below.refl _ _, l17, e0, e1, e2, e3, e4, c0, c1, c2, c3⟩
      have hkeep : ∀ W W' : World, (Below wy.heap.size wy W ∧ W.cell? ⟨w.heap.size, 17, none⟩ = some (.slice (some ad) x.es.length a.c17) ∧ W.cell? (ad.add (k * 9)) = some (.int .i64 n.f0.f0) ∧ W.cell? ⟨(ad.add (k * 9)).block, (ad.add (k * 9)).off + 1, none⟩ = some (.int .i64 n.f0.f1) ∧ W.cell? ⟨(ad.add (k * 9)).block, (ad.add (k * 9)).off + 2, none⟩ = some (.int .i64 n.f0.f2) ∧ W.cell? ⟨(ad.add (k * 9)).block, (ad.add (k * 9)).off + 3, none⟩ = some (.slice q.A3 n.f0.f3.length q.c3) ∧ W.cell? ⟨(ad.add (k * 9)).block, (ad.add (k * 9)).off + 4, none⟩ = some (.slice q.A4 n.f0.f4.length q.c4) ∧ W.cell? ⟨bc, 0, none⟩ = some (.int .i64 n.f1.f0) ∧ W.cell? ⟨bc, 1, none⟩ = some (.int .i64 n.f1.f1) ∧ W.cell? ⟨bc, 2, none⟩ = some (.slice q.A7 n.f1.f2.length q.c7) ∧ W.cell? ⟨bc, 3, none⟩ = some (.slice q.A8 n.f1.f3.length q.c8)) → Below W.heap.size W W' → (Below wy.heap.size wy W' ∧ W'.cell? ⟨w.heap.size, 17, none⟩ = some (.slice (some ad) x.es.length a.c17) ∧ W'.cell? (ad.add (k * 9)) = some (.int .i64 n.f0.f0) ∧ W'.cell? ⟨(ad.add (k * 9)).block, (ad.add (k * 9)).off + 1, none⟩ = some (.int .i64 n.f0.f1) ∧ W'.cell? ⟨(ad.add (k * 9)).block, (ad.add (k * 9)).off + 2, none⟩ = some (.int .i64 n.f0.f2) ∧ W'.cell? ⟨(ad.add (k * 9)).block, (ad.add (k * 9)).off + 3, none⟩ = some (.slice q.A3 n.f0.f3.length q.c3) ∧ W'.cell? ⟨(ad.add (k * 9)).block, (ad.add (k * 9)).off + 4, none⟩ = some (.slice q.A4 n.f0.f4.length q.c4) ∧ W'.cell? ⟨bc, 0, none⟩ = some (.int .i64 n.f1.f0) ∧ W'.cell? ⟨bc, 1, none⟩ = some (.int .i64 n.f1.f1) ∧ W'.cell? ⟨bc, 2, none⟩ = some (.slice q.A7 n.f1.f2.length q.c7) ∧ W'.cell? ⟨bc, 3, none⟩ = some (.slice q.A8 n.f1.f3.length q.c8)) := by
        rintro W W' ⟨h0, h1, h2, h3, h4, h5, h6, h7, h8, h9, h10⟩ hb
        exact ⟨h0.trans (hb.mono h0.size), pw_cell_below hb h1, pw_cell_below hb h2, pw_cell_below hb h3, pw_cell_below hb h4, pw_cell_below hb h5, pw_cell_below hb h6, pw_cell_below hb h7, pw_cell_below hb h8, pw_cell_below hb h9, pw_cell_below hb h10⟩
      have HKP := Lib.hid hkeep
      have HE3 := Lib.hid (fun W (hS : Below wy.heap.size wy W ∧ W.cell? ⟨w.heap.size, 17, none⟩ = some (.slice (some ad) x.es.length a.c17) ∧ W.cell? (ad.add (k * 9)) = some (.int .i64 n.f0.f0) ∧ W.cell? ⟨(ad.add (k * 9)).block, (ad.add (k * 9)).off + 1, none⟩ = some (.int .i64 n.f0.f1) ∧ W.cell? ⟨(ad.add (k * 9)).block, (ad.add (k * 9)).off + 2, none⟩ = some (.int .i64 n.f0.f2) ∧ W.cell? ⟨(ad.add (k * 9)).block, (ad.add (k * 9)).off + 3, none⟩ = some (.slice q.A3 n.f0.f3.length q.c3) ∧ W.cell? ⟨(ad.add (k * 9)).block, (ad.add (k * 9)).off + 4, none⟩ = some (.slice q.A4 n.f0.f4.length q.c4) ∧ W.cell? ⟨bc, 0, none⟩ = some (.int .i64 n.f1.f0) ∧ W.cell? ⟨bc, 1, none⟩ = some (.int .i64 n.f1.f1) ∧ W.cell? ⟨bc, 2, none⟩ = some (.slice q.A7 n.f1.f2.length q.c7) ∧ W.cell? ⟨bc, 3, none⟩ = some (.slice q.A8 n.f1.f3.length q.c8)) => HF3.out W hS.1)
      have HE4 := Lib.hid (fun W (hS : Below wy.heap.size wy W ∧ W.cell? ⟨w.heap.size, 17, none⟩ = some (.slice (some ad) x.es.length a.c17) ∧ W.cell? (ad.add (k * 9)) = some (.int .i64 n.f0.f0) ∧ W.cell? ⟨(ad.add (k * 9)).block, (ad.add (k * 9)).off + 1, none⟩ = some (.int .i64 n.f0.f1) ∧ W.cell? ⟨(ad.add (k * 9)).block, (ad.add (k * 9)).off + 2, none⟩ = some (.int .i64 n.f0.f2) ∧ W.cell? ⟨(ad.add (k * 9)).block, (ad.add (k * 9)).off + 3, none⟩ = some (.slice q.A3 n.f0.f3.length q.c3) ∧ W.cell? ⟨(ad.add (k * 9)).block, (ad.add (k * 9)).off + 4, none⟩ = some (.slice q.A4 n.f0.f4.length q.c4) ∧ W.cell? ⟨bc, 0, none⟩ = some (.int .i64 n.f1.f0) ∧ W.cell? ⟨bc, 1, none⟩ = some (.int .i64 n.f1.f1) ∧ W.cell? ⟨bc, 2, none⟩ = some (.slice q.A7 n.f1.f2.length q.c7) ∧ W.cell? ⟨bc, 3, none⟩ = some (.slice q.A8 n.f1.f3.length q.c8)) => HF4.out W hS.1)
      clear hkeep l17 e0 e1 e2 e3 e4 c0 c1 c2 c3
      go_region_held3 (fun w' => Below wy.heap.size wy w' ∧ w'.cell? ⟨w.heap.size, 17, none⟩ = some (.slice (some ad) x.es.length a.c17) ∧ w'.cell? (ad.add (k * 9)) = some (.int .i64 n.f0.f0) ∧ w'.cell? ⟨(ad.add (k * 9)).block, (ad.add (k * 9)).off + 1, none⟩ = some (.int .i64 n.f0.f1) ∧ w'.cell? ⟨(ad.add (k * 9)).block, (ad.add (k * 9)).off + 2, none⟩ = some (.int .i64 n.f0.f2) ∧ w'.cell? ⟨(ad.add (k * 9)).block, (ad.add (k * 9)).off + 3, none⟩ = some (.slice q.A3 n.f0.f3.length q.c3) ∧ w'.cell? ⟨(ad.add (k * 9)).block, (ad.add (k * 9)).off + 4, none⟩ = some (.slice q.A4 n.f0.f4.length q.c4) ∧ w'.cell? ⟨bc, 0, none⟩ = some (.int .i64 n.f1.f0) ∧ w'.cell? ⟨bc, 1, none⟩ = some (.int .i64 n.f1.f1) ∧ w'.cell? ⟨bc, 2, none⟩ = some (.slice q.A7 n.f1.f2.length q.c7) ∧ w'.cell? ⟨bc, 3, none⟩ = some (.slice q.A8 n.f1.f3.length q.c8))
        (first | exact HS0.out | assumption | exact HKP.out _ _ (by assumption) hd | exact HKP.out _ _ (by assumption) (below_drew (Below.refl _ _)))
        (first
          | (go_at_call 71; (with_reducible refine (HF0.out _).mono ?_); rintro e w' ⟨rfl, hd⟩)
          | (go_at_call 71; (with_reducible refine (HF1.out _).mono ?_); rintro e w' ⟨rfl, hd⟩)
          | (go_at_call 71; (with_reducible refine (HF2.out _).mono ?_); rintro e w' ⟨rfl, hd⟩)
          | (go_at_call 72; (with_reducible refine (HE3.out _ (by assumption)).mono ?_); rintro e w' ⟨rfl, hd⟩)
          | (go_at_call 73; (with_reducible refine (HE4.out _ (by assumption)).mono ?_); rintro e w' ⟨rfl, hd⟩))
      rename_i hH
      have HBW := Lib.hid hH.1
      have zlast : u10.size ≤ 1000 + 500000 * k + 8000 := by omega
      obtain ⟨M, hM⟩ : ∃ M, M = enS acc n := ⟨_, rfl⟩
      have HM0 : Hid ((n.f1.f3.drop 0).foldl sgS u10 = M) := Lib.hid (by rw [hM, HEN.out]; rfl)
      have hP3 := HP2.out
      rw [← hM] at hP3
      have HP3 := Lib.hid hP3
      clear hH hM hP3 HS0 HKP HE3 HE4 HF0 HF1 HF2 HF3 HF4 HP2 HEN su1 zu1 Hu1 su2 zu2 Hu2 su3 zu3 Hu3 su4 zu4 Hu4 su5 zu5 Hu5 su6 zu6 Hu6 su7 zu7 Hu7 su8 zu8 Hu8 su9 zu9 Hu9 su10 zu10 Hu10 ef0 ef1 ef2 ef3 ef4
      go_wp2
      go_loopw [5, 8] (fun v5 v8 wr => ∃ (j : Nat) (ac : ByteArray), j ≤ n.f1.f3.length ∧ v5 = .string ac ∧ v8 = .int .i64 j ∧ ac.size ≤ 1000 + 500000 * k + 8000 + 2100 * j ∧ Hid ((n.f1.f3.drop j).foldl sgS ac = M) ∧ Below wy.heap.size wy wr) (fun _ i _ => n.f1.f3.length - (intOf i).toNat)
      case atStart => exact ⟨0, u10, by omega, rfl, rfl, by omega, HM0, HBW.out⟩
      case round =>
        obtain ⟨j, ac, hj, rfl, rfl, hac, hPj, hbj⟩ := hrel
        clear HM0
        have HCJ := Lib.hid (blk_below HCY.out hbj)
        have HBJ := Lib.hid (HB2.out.below hbj)
        obtain ⟨c0, c1, c2, c3⟩ := cells4 HCJ.out
        clear c0 c1 c2
        by_cases jlt : j < n.f1.f3.length
        · obtain ⟨ad2, A1, c1, had2, s0, s1, hc1, g1⟩ := at_T100 (HQ2.out.below hbj).h8 (j : Int) (by omega) (by omega)
          have hxe : rd_T100 n.f1.f3 (j : Int) = n.f1.f3[j] := by unfold rd_T100; rw [Int.toNat_natCast, List.getD_eq_getElem?_getD, List.getElem?_eq_getElem jlt]; rfl
          rw [hxe] at s0 s1 hc1 g1
          simp only [Int.toNat_natCast] at s0 s1
          have hP2 := hPj.out
          rw [fold_at _ _ _ _ jlt] at hP2
          have hok := HOK.out.s3 n.f1.f3[j] (List.getElem_mem jlt)
          obtain ⟨z, hz⟩ : ∃ z, z = n.f1.f3[j] := ⟨_, rfl⟩
          rw [← hz] at s0 s1 hP2 hc1 g1 hok
          have hd0 := fun W => rdigits_any z.f0 hok.i0 W
          have hd1 := fun W (hb : Below wr.heap.size wr W) => rbytes_any A1 c1 z.f1 W (Kd.C_below g1 hb) hc1 hok.b1
          have HBJ2 := Lib.hid hbj
          rw [had2] at c3
          have djl : decide ((j : Int) < (n.f1.f3.length : Int)) = true := decide_eq_true (by omega)
          have hSG := (show sgS ac z = ac ++ (⟨#[32]⟩ : ByteArray) ++ itoaB z.f0 ++ (⟨#[32]⟩ : ByteArray) ++ bytesS z.f1 from rfl)
          have eg0 := itoaB_szr hok.i0
          obtain ⟨g0, qg0⟩ : ∃ d, d = itoaB z.f0 := ⟨_, rfl⟩
          rw [← qg0] at eg0
          have eh0 := bytesS_szr hok.b1
          obtain ⟨h0, qh0⟩ : ∃ d, d = bytesS z.f1 := ⟨_, rfl⟩
          rw [← qh0] at eh0
          rw [← qg0, ← qh0] at hSG
          rw [← qg0] at hd0
          rw [← qh0] at hd1
          have HG0 := Lib.hid hd0
          have HG1 := Lib.hid hd1
          clear hd0 hd1 qg0 qh0 hxe hz hPj hbj had2 hc1 g1 hok
          have zc0x : (⟨#[32]⟩ : ByteArray).size = 1 := rfl
          obtain ⟨x1, hx1⟩ : ∃ q, q = ac ++ (⟨#[32]⟩ : ByteArray) := ⟨_, rfl⟩
          have zx1 : x1.size ≤ (1000 + 500000 * k + 8000 + 2100 * j) + 1 := by rw [hx1, ByteArray.size_append]; omega
          have sx1 : ∀ W : World, (Op.stringOp .add ac (⟨#[32]⟩ : ByteArray)).run Tryd.prog W = .ok (.string x1) W := fun W => by rw [hx1]; exact run_string_add_sum _ _ _ (by omega)
          obtain ⟨x2, hx2⟩ : ∃ q, q = x1 ++ g0 := ⟨_, rfl⟩
          have zx2 : x2.size ≤ (1000 + 500000 * k + 8000 + 2100 * j) + 1 + 21 := by rw [hx2, ByteArray.size_append]; omega
          have sx2 : ∀ W : World, (Op.stringOp .add x1 g0).run Tryd.prog W = .ok (.string x2) W := fun W => by rw [hx2]; exact run_string_add_sum _ _ _ (by omega)
          obtain ⟨x3, hx3⟩ : ∃ q, q = x2 ++ (⟨#[32]⟩ : ByteArray) := ⟨_, rfl⟩
          have zx3 : x3.size ≤ (1000 + 500000 * k + 8000 + 2100 * j) + 1 + 21 + 1 := by rw [hx3, ByteArray.size_append]; omega
          have sx3 : ∀ W : World, (Op.stringOp .add x2 (⟨#[32]⟩ : ByteArray)).run Tryd.prog W = .ok (.string x3) W := fun W => by rw [hx3]; exact run_string_add_sum _ _ _ (by omega)
          obtain ⟨x4, hx4⟩ : ∃ q, q = x3 ++ h0 := ⟨_, rfl⟩
          have zx4 : x4.size ≤ (1000 + 500000 * k + 8000 + 2100 * j) + 1 + 21 + 1 + 2000 := by rw [hx4, ByteArray.size_append]; omega
          have sx4 : ∀ W : World, (Op.stringOp .add x3 h0).run Tryd.prog W = .ok (.string x4) W := fun W => by rw [hx4]; exact run_string_add_sum _ _ _ (by omega)
          have Hx1 := Lib.hid hx1
          have Hx2 := Lib.hid hx2
          have Hx3 := Lib.hid hx3
          have Hx4 := Lib.hid hx4
          clear hx1 hx2 hx3 hx4
          rw [← Hx1.out, ← Hx2.out, ← Hx3.out, ← Hx4.out] at hSG
          rw [hSG] at hP2
          have HP4 := Lib.hid hP2
          have zl : x4.size ≤ 1000 + 500000 * k + 8000 + 2100 * (j + 1) := by omega
          clear hSG hP2
          go_wp2
          go_quiet (first
              | (go_at_call 71; (with_reducible refine (HG0.out _).mono ?_); rintro e w' ⟨rfl, nd, rfl⟩; first | exact ⟨rfl, _, World.drewN_drewN _ _ _⟩ | exact ⟨rfl, _, Eq.trans (World.drewN_drewN _ _ _) (congrArg (World.drewN _) (Nat.add_assoc _ _ _))⟩)
              | (go_at_call 73; (with_reducible refine (HG1.out _ (pw_below_drewN (Below.refl _ _) _)).mono ?_); rintro e w' ⟨rfl, nd, rfl⟩; first | exact ⟨rfl, _, World.drewN_drewN _ _ _⟩ | exact ⟨rfl, _, Eq.trans (World.drewN_drewN _ _ _) (congrArg (World.drewN _) (Nat.add_assoc _ _ _))⟩))
          clear sx1 zx1 Hx1 sx2 zx2 Hx2 sx3 zx3 Hx3 sx4 zx4 Hx4 eg0 eh0 s0 s1 c3
          go_wp2
          go_roundw
          case rel => exact ⟨j + 1, x4, by omega, rfl, by go_num, zl, HP4, by repeat (first | exact HBJ2.out | apply pw_below_drewN)⟩
          case measure => simp [intOf]; omega
        · have hP2 := hPj.out
          rw [fold_end _ _ _ _ (by omega)] at hP2
          have hP4 := HP3.out
          rw [← hP2] at hP4
          have HP5 := Lib.hid hP4
          have djl : decide ((j : Int) < (n.f1.f3.length : Int)) = false := decide_eq_false (by omega)
          have zl : ac.size ≤ 1000 + 500000 * (k + 1) := by omega
          clear hPj hP2 hP4
          go_wp2
          go_roundw
          case rel => exact ⟨k + 1, ac, by omega, rfl, by go_num, zl, HP5, HBJ.out⟩
          case measure => simp [intOf]; omega
    · have hP2 := hP.out
      rw [fold_end _ _ _ _ (by omega)] at hP2
      have HVV := Lib.hid hP2
      have dlt : decide ((k : Int) < (x.es.length : Int)) = false := decide_eq_false (by omega)
      clear hP hP2
      go_wp2
      go_ret
      exact ⟨by rw [← HRR.out, ← HVV.out] <;> rfl, HBB.out.b⟩
end Go.Proofs.YtpeebjnfmlfocaaDoor.Sh
