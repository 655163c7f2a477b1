/- The document's Good of a letter at this program. No condition. Printed by gen/shd.py. -/
import Derived.Test.YtpeebjnfmlfocaaDoorSx09
import Derived.Test.YtpeebjnfmlfocaaDoorSx11
import Derived.Deep.QuietTactic
import Derived.BigQuiet
import Derived.Laws.Concat
namespace Go.Proofs.YtpeebjnfmlfocaaDoor.Sh
open Go.RowKit Go.Proofs.YtpeebjnfmlfocaaDoor.Th Go.Proofs.YtpeebjnfmlfocaaDoorW.PrintWords Go.Proofs.YtpeebjnfmlfocaaDoorW.PrintLast Go.Proofs.YtpeebjnfmlfocaaDoorW.PrintMore
set_option maxRecDepth 100000
set_option linter.unusedVariables false
set_option linter.unusedSimpArgs false
def okI (n : Int) : Prop := -1 ≤ n ∧ n ≤ 4611686018427387904
def okB (l : List Int) : Prop := (∀ x ∈ l, 0 ≤ x ∧ x ≤ 255) ∧ l.length ≤ 1000
structure okV (v : S47) : Prop where
  i0 : okI v.f0
  i1 : okI v.f1
  i2 : okI v.f2
  b3 : okB v.f3
  b4 : okB v.f4
structure okS (s : S100) : Prop where
  i0 : okI s.f0
  b1 : okB s.f1
structure okE (e : S98) : Prop where
  v : okV e.f0
  i0 : okI e.f1.f0
  i1 : okI e.f1.f1
  b2 : okB e.f1.f2
  n3 : e.f1.f3.length ≤ 200
  s3 : ∀ s ∈ e.f1.f3, okS s
def valW (v : S47) : List ByteArray := [⟨#[118, 97, 108, 117, 101]⟩, itoaB v.f0, itoaB v.f1, itoaB v.f2, bytesS v.f3, bytesS v.f4]
def sigW (s : S100) : List ByteArray := [itoaB s.f0, bytesS s.f1]
def cerW (e : S98) : List ByteArray := [⟨#[99, 101, 114, 116]⟩, itoaB e.f1.f0, itoaB e.f1.f1, bytesS e.f1.f2, itoaB (e.f1.f3.length : Int)]
def entW (e : S98) : List ByteArray := valW e.f0 ++ cerW e ++ e.f1.f3.flatMap sigW
theorem cells5 {W : World} {b : Nat} {T : TypeId} {c0 c1 c2 c3 c4 : Value} (h : W.heap[b]? = some (.cells #[c0, c1, c2, c3, c4] T)) :
    W.cell? ⟨b, 0, none⟩ = some c0 ∧ W.cell? ⟨b, 1, none⟩ = some c1 ∧ W.cell? ⟨b, 2, none⟩ = some c2 ∧ W.cell? ⟨b, 3, none⟩ = some c3 ∧ W.cell? ⟨b, 4, none⟩ = some c4 :=
  ⟨blk_cell h 0, blk_cell h 1, blk_cell h 2, blk_cell h 3, blk_cell h 4⟩
theorem cells2 {W : World} {b : Nat} {T : TypeId} {c0 c1 : Value} (h : W.heap[b]? = some (.cells #[c0, c1] T)) :
    W.cell? ⟨b, 0, none⟩ = some c0 ∧ W.cell? ⟨b, 1, none⟩ = some c1 :=
  ⟨blk_cell h 0, blk_cell h 1⟩
theorem nums_any (base g : Nat) (ws : List ByteArray) (l : List Int) (w0 w1 : World) (hT : Tab w0) (hA : At w0 w1 base) (hP : Pen w1 base g ws) (hl : ws.length + l.length ≤ 100000) (hn : ∀ x ∈ l, okI x) :
    Calls Tryd.prog 63 #[.pointer (some ⟨g, 0, none⟩), .slice (some ⟨w1.heap.size, 0, none⟩) l.length l.length] (w1.alloc (.cells (l.map (Value.int .i64)).toArray 3)) fun e w' => e = .returned (.tuple #[]) ∧ Pen w' base g (ws ++ l.map itoaB) ∧ Stp base w1 w' :=
  (numbers_any base g ws w1.heap.size l w0 _ hT (hA.below (below_alloc (Below.refl _ _) _)) (hP.alloc _) hl (blk_new _ _) (fun x hx => by have := hn x hx; unfold okI at this; omega)).mono
    fun e w' h => ⟨h.1, h.2.1, (Stp.of_below (below_alloc (Below.refl _ _) _) hP.size).trans h.2.2⟩
section
variable (base g : Nat) (ws : List ByteArray) (w0 w1 : World) (hT : Tab w0) (hA : At w0 w1 base) (hP : Pen w1 base g ws) (hl : ws.length ≤ 99000)
include hT hA hP hl
theorem nums1_any (a : Int) (ha : okI a) :
    Calls Tryd.prog 63 #[.pointer (some ⟨g, 0, none⟩), .slice (some ⟨w1.heap.size, 0, none⟩) 1 1] (w1.alloc (.cells #[.int .i64 a] 3)) fun e w' => e = .returned (.tuple #[]) ∧ Pen w' base g (ws ++ [itoaB a]) ∧ Stp base w1 w' :=
  nums_any base g ws [a] w0 w1 hT hA hP (by simp; omega) (by simpa using ha)
theorem nums2_any (a b : Int) (ha : okI a) (hb : okI b) :
    Calls Tryd.prog 63 #[.pointer (some ⟨g, 0, none⟩), .slice (some ⟨w1.heap.size, 0, none⟩) 2 2] (w1.alloc (.cells #[.int .i64 a, .int .i64 b] 3)) fun e w' => e = .returned (.tuple #[]) ∧ Pen w' base g (ws ++ [itoaB a, itoaB b]) ∧ Stp base w1 w' :=
  nums_any base g ws [a, b] w0 w1 hT hA hP (by simp; omega) (by simpa using ⟨ha, hb⟩)
theorem nums3_any (a b c : Int) (ha : okI a) (hb : okI b) (hc : okI c) :
    Calls Tryd.prog 63 #[.pointer (some ⟨g, 0, none⟩), .slice (some ⟨w1.heap.size, 0, none⟩) 3 3] (w1.alloc (.cells #[.int .i64 a, .int .i64 b, .int .i64 c] 3)) fun e w' => e = .returned (.tuple #[]) ∧ Pen w' base g (ws ++ [itoaB a, itoaB b, itoaB c]) ∧ Stp base w1 w' :=
  nums_any base g ws [a, b, c] w0 w1 hT hA hP (by simp; omega) (by simpa using ⟨ha, hb, hc⟩)
theorem nums4_any (a b c d : Int) (ha : okI a) (hb : okI b) (hc : okI c) (hd : okI d) :
    Calls Tryd.prog 63 #[.pointer (some ⟨g, 0, none⟩), .slice (some ⟨w1.heap.size, 0, none⟩) 4 4] (w1.alloc (.cells #[.int .i64 a, .int .i64 b, .int .i64 c, .int .i64 d] 3)) fun e w' => e = .returned (.tuple #[]) ∧ Pen w' base g (ws ++ [itoaB a, itoaB b, itoaB c, itoaB d]) ∧ Stp base w1 w' :=
  nums_any base g ws [a, b, c, d] w0 w1 hT hA hP (by simp; omega) (by simpa using ⟨ha, hb, hc, hd⟩)
theorem bytesC_any (A : Option Addr) (c : Nat) (l : List Int) (hC : Kd.C (Kd.int .u8) w0 A l.length l) (hc : l.length ≤ c) (hy : okB l) :
    Calls Tryd.prog 65 #[.pointer (some ⟨g, 0, none⟩), .slice A l.length c] w1 fun e w' => e = .returned (.tuple #[]) ∧ Pen w' base g (ws ++ [bytesS l]) ∧ Stp base w1 w' :=
  (fun _ => bytes_any base g ws A c l w1 hP (by omega) (Kd.C_below hC hA.b) hc hy.1 (by have := hy.2; omega)) hT
end
set_option maxHeartbeats 4000000 in
theorem value_any (base g : Nat) (ws : List ByteArray) (v : S47) (A3 : Option Addr) (c3 : Nat) (A4 : Option Addr) (c4 : Nat) (w0 w : World) (hT : Tab w0) (hA : At w0 w base) (hP : Pen w base g ws) (hl : ws.length ≤ 98000)
    (h3 : Kd.C (Kd.int .u8) w0 A3 v.f3.length v.f3) (l3 : v.f3.length ≤ c3) (h4 : Kd.C (Kd.int .u8) w0 A4 v.f4.length v.f4) (l4 : v.f4.length ≤ c4) (hv : okV v) :
    Calls Tryd.prog 64 #[.pointer (some ⟨g, 0, none⟩), valV v A3 c3 A4 c4] w fun e w' => e = .returned (.tuple #[]) ∧ Pen w' base g (ws ++ valW v) ∧ Stp base w w' := by
  have HT := Lib.hid hT
  have H3 := Lib.hid h3
  have H4 := Lib.hid h4
  have HV := Lib.hid hv
  have hsz := hP.size
  show Calls Tryd.prog 64 #[.pointer (some ⟨g, 0, none⟩), .agg #[.int .i64 v.f0, .int .i64 v.f1, .int .i64 v.f2, .slice A3 v.f3.length c3, .slice A4 v.f4.length c4]] w _
  go_enter Tryd.func64, Tryd.ntmps64
  go_upto_region 1 with (fail)
  obtain ⟨wx, hwx⟩ : ∃ wx, wx = w.alloc (.cells #[.int .i64 v.f0, .int .i64 v.f1, .int .i64 v.f2, .slice A3 v.f3.length c3, .slice A4 v.f4.length c4] 47) := ⟨_, rfl⟩
  rw [← hwx]
  have HB0 := Lib.hid (show wx.heap[w.heap.size]? = some (.cells #[.int .i64 v.f0, .int .i64 v.f1, .int .i64 v.f2, .slice A3 v.f3.length c3, .slice A4 v.f4.length c4] 47) by rw [hwx]; exact blk_new _ _)
  have hbx : Below w.heap.size w wx := by rw [hwx]; exact below_alloc (Below.refl _ _) _
  have HS0 := Lib.hid (Stp.of_below hbx hsz)
  have HP0 := Lib.hid (hP.below hbx)
  have HA0 := Lib.hid (hA.below hbx)
  clear hwx hbx hT h3 h4 hv hP hA
  go_wp2_with (first
    | (go_at_call 62; (with_reducible refine (word_any base g ws _ _ HP0.out (by omega)).mono ?_); rintro e w1 ⟨rfl, hP1, hs1⟩; have HP1 := Lib.hid hP1; have HS1 := Lib.hid hs1; have HA1 := Lib.hid (HA0.out.step hs1); have HB1 := Lib.hid (hs1.f _ _ _ HB0.out (by decide) (by decide)); clear hP1 hs1; obtain ⟨a0, a1, a2, a3, a4⟩ := cells5 HB1.out; clear a3 a4)
    | (go_at_call 63; (with_reducible refine (nums3_any base g _ w0 w1 HT.out HA1.out HP1.out (by simp; omega) v.f0 v.f1 v.f2 HV.out.i0 HV.out.i1 HV.out.i2).mono ?_); rintro e w2 ⟨rfl, hP2, hs2⟩; have HP2 := Lib.hid hP2; have HS2 := Lib.hid hs2; have HA2 := Lib.hid (HA1.out.step hs2); have HB2 := Lib.hid (hs2.f _ _ _ HB1.out (by decide) (by decide)); clear hP2 hs2; obtain ⟨b0, b1, b2, b3, b4⟩ := cells5 HB2.out; clear b0 b1 b2)
    | (go_at_call 65; (with_reducible refine (bytesC_any base g _ w0 w2 HT.out HA2.out HP2.out (by simp; omega) A3 c3 v.f3 H3.out l3 HV.out.b3).mono ?_); rintro e w3 ⟨rfl, hP3, hs3⟩; have HP3 := Lib.hid hP3; have HS3 := Lib.hid hs3; have HA3 := Lib.hid (HA2.out.step hs3); have HB3 := Lib.hid (hs3.f _ _ _ HB2.out (by decide) (by decide)); clear hP3 hs3; obtain ⟨d0, d1, d2, d3, d4⟩ := cells5 HB3.out; clear d0 d1 d2 d3)
    | (go_at_call 65; (with_reducible refine (bytesC_any base g _ w0 w3 HT.out HA3.out HP3.out (by simp; omega) A4 c4 v.f4 H4.out l4 HV.out.b4).mono ?_); rintro e w4 ⟨rfl, hP4, hs4⟩; have HP4 := Lib.hid hP4; have HS4 := Lib.hid hs4; clear hP4 hs4))
  go_end0
  exact ⟨rfl, by have := HP4.out; simpa [valW] using this, (((HS0.out.trans HS1.out).trans HS2.out).trans HS3.out).trans HS4.out⟩
theorem valW_len (v : S47) : (valW v).length = 6 := rfl
theorem sigsW_len (l : List S100) : (l.flatMap sigW).length = 2 * l.length := by
  induction l with
  | nil => rfl
  | cons x l ih => simp [sigW] at ih ⊢; omega
theorem sigsW_snoc (l : List S100) (k : Nat) (h : k < l.length) : (l.take (k + 1)).flatMap sigW = (l.take k).flatMap sigW ++ [itoaB l[k].f0, bytesS l[k].f1] := by
  rw [List.take_succ_eq_append_getElem h, List.flatMap_append]
  simp only [List.flatMap_cons, List.flatMap_nil, List.append_nil]
  rfl
theorem len_ok {n : Nat} (h : n ≤ 200) : okI (n : Int) := ⟨by omega, by omega⟩
set_option maxHeartbeats 8000000 in
theorem entry_any (base g : Nat) (ws : List ByteArray) (e : S98) (q : Ae) (w0 w : World) (hT : Tab w0) (hA : At w0 w base) (hP : Pen w base g ws) (hl : ws.length ≤ 90000) (hx : EntC w0 e q) (hv : okE e) :
    Calls Tryd.prog 66 #[.pointer (some ⟨g, 0, none⟩), entV e q] w fun r w' => r = .returned (.tuple #[]) ∧ Pen w' base g (ws ++ entW e) ∧ Stp base w w' := by
  have HT := Lib.hid hT
  have HX := Lib.hid hx
  have HV := Lib.hid hv
  have hsz := hP.size
  have hn3 := hv.n3
  show Calls Tryd.prog 66 #[.pointer (some ⟨g, 0, none⟩), .agg #[.int .i64 e.f0.f0, .int .i64 e.f0.f1, .int .i64 e.f0.f2, .slice q.A3 e.f0.f3.length q.c3, .slice q.A4 e.f0.f4.length q.c4, .int .i64 e.f1.f0, .int .i64 e.f1.f1, .slice q.A7 e.f1.f2.length q.c7, .slice q.A8 e.f1.f3.length q.c8]] w _
  go_enter Tryd.func66, Tryd.ntmps66
  go_upto_region 1 with (fail)
  obtain ⟨wx, hwx⟩ : ∃ wx, wx = w.alloc (.cells #[.int .i64 e.f0.f0, .int .i64 e.f0.f1, .int .i64 e.f0.f2, .slice q.A3 e.f0.f3.length q.c3, .slice q.A4 e.f0.f4.length q.c4, .int .i64 e.f1.f0, .int .i64 e.f1.f1, .slice q.A7 e.f1.f2.length q.c7, .slice q.A8 e.f1.f3.length q.c8] 98) := ⟨_, rfl⟩
  rw [← hwx]
  have HB0 := Lib.hid (show wx.heap[w.heap.size]? = some (.cells #[.int .i64 e.f0.f0, .int .i64 e.f0.f1, .int .i64 e.f0.f2, .slice q.A3 e.f0.f3.length q.c3, .slice q.A4 e.f0.f4.length q.c4, .int .i64 e.f1.f0, .int .i64 e.f1.f1, .slice q.A7 e.f1.f2.length q.c7, .slice q.A8 e.f1.f3.length q.c8] 98) by rw [hwx]; exact blk_new _ _)
  have hbx : Below w.heap.size w wx := by rw [hwx]; exact below_alloc (Below.refl _ _) _
  have HS0 := Lib.hid (Stp.of_below hbx hsz)
  have HP0 := Lib.hid (hP.below hbx)
  have HA0 := Lib.hid (hA.below hbx)
  clear hwx hbx hT hx hv hP hA
  obtain ⟨a0, a1, a2, a3, a4, a5, a6, a7, a8⟩ := cells9 HB0.out
  clear a5 a6 a7 a8
  have hlv := valW_len e.f0
  go_wp2_with (first
    | (go_at_call 64; (with_reducible refine (value_any base g ws e.f0 q.A3 q.c3 q.A4 q.c4 w0 _ HT.out HA0.out HP0.out (by omega) HX.out.h3 HX.out.l3 HX.out.h4 HX.out.l4 HV.out.v).mono ?_); rintro e w1 ⟨rfl, hP1, hs1⟩; have HP1 := Lib.hid hP1; have HS1 := Lib.hid hs1; have HA1 := Lib.hid (HA0.out.step hs1); have HB1 := Lib.hid (hs1.f _ _ _ HB0.out (by decide) (by decide)); clear hP1 hs1 a0 a1 a2 a3 a4)
    | (go_at_call 62; (with_reducible refine (word_any base g _ _ _ HP1.out (by simp [hlv]; omega)).mono ?_); rintro e w2 ⟨rfl, hP2, hs2⟩; have HP2 := Lib.hid hP2; have HS2 := Lib.hid hs2; have HA2 := Lib.hid (HA1.out.step hs2); have HB2 := Lib.hid (hs2.f _ _ _ HB1.out (by decide) (by decide)); clear hP2 hs2; obtain ⟨a0, a1, a2, a3, a4, a5, a6, a7, a8⟩ := cells9 HB2.out; clear a0 a1 a2 a3 a4 a7 a8)
    | (go_at_call 63; (with_reducible refine (nums2_any base g _ w0 w2 HT.out HA2.out HP2.out (by simp [hlv]; omega) e.f1.f0 e.f1.f1 HV.out.i0 HV.out.i1).mono ?_); rintro e w3 ⟨rfl, hP3, hs3⟩; have HP3 := Lib.hid hP3; have HS3 := Lib.hid hs3; have HA3 := Lib.hid (HA2.out.step hs3); have HB3 := Lib.hid (hs3.f _ _ _ HB2.out (by decide) (by decide)); clear hP3 hs3 a5 a6; obtain ⟨a0, a1, a2, a3, a4, a5, a6, a7, a8⟩ := cells9 HB3.out; clear a0 a1 a2 a3 a4 a5 a6 a8)
    | (go_at_call 65; (with_reducible refine (bytesC_any base g _ w0 w3 HT.out HA3.out HP3.out (by simp [hlv]; omega) q.A7 q.c7 e.f1.f2 HX.out.h7 HX.out.l7 HV.out.b2).mono ?_); rintro e w4 ⟨rfl, hP4, hs4⟩; have HP4 := Lib.hid hP4; have HS4 := Lib.hid hs4; have HA4 := Lib.hid (HA3.out.step hs4); have HB4 := Lib.hid (hs4.f _ _ _ HB3.out (by decide) (by decide)); clear hP4 hs4 a7; obtain ⟨a0, a1, a2, a3, a4, a5, a6, a7, a8⟩ := cells9 HB4.out; clear a0 a1 a2 a3 a4 a5 a6 a7)
    | (go_at_call 63; (with_reducible refine (nums1_any base g _ w0 w4 HT.out HA4.out HP4.out (by simp [hlv]; omega) (e.f1.f3.length : Int) (len_ok HV.out.n3)).mono ?_); rintro e w5 ⟨rfl, hP5, hs5⟩; have HP5 := Lib.hid hP5; have HS5 := Lib.hid hs5; have HA5 := Lib.hid (HA4.out.step hs5); have HB5 := Lib.hid (hs5.f _ _ _ HB4.out (by decide) (by decide)); clear hP5 hs5 a8; obtain ⟨a0, a1, a2, a3, a4, a5, a6, a7, a8⟩ := cells9 HB5.out; clear a0 a1 a2 a3 a4 a5 a6 a7))
  have HS6 := Lib.hid (((((HS0.out.trans HS1.out).trans HS2.out).trans HS3.out).trans HS4.out).trans HS5.out)
  obtain ⟨ws5, hws5⟩ : ∃ ws5, ws5 = ws ++ valW e.f0 ++ cerW e := ⟨_, rfl⟩
  have HP6 : Hid (Pen w5 base g ws5) := Lib.hid (by have := HP5.out; rw [hws5]; simpa [cerW] using this)
  have hw5l : ws5.length = ws.length + 11 := by rw [hws5]; simp [hlv, cerW]
  have HW5 := Lib.hid hws5
  clear HS0 HS1 HS2 HS3 HS4 HS5 HP0 HP1 HP2 HP3 HP4 HP5 HA0 HA1 HA2 HA3 HA4 HB0 HB1 HB2 HB3 HB4 HB5 hws5 hlv
  go_loopw [37] (fun i wr => ∃ k : Nat, k ≤ e.f1.f3.length ∧ i = .int .i64 k ∧ Hid (Pen wr base g (ws5 ++ (e.f1.f3.take k).flatMap sigW)) ∧ Stp base w5 wr) (fun i _ => e.f1.f3.length - (intOf i).toNat)
  case atStart => exact ⟨0, by omega, rfl, Lib.hid (by simpa using HP6.out), Stp.refl _ _⟩
  case round =>
    obtain ⟨k, hk, rfl, hPk, hs⟩ := hrel
    by_cases hlt : k < e.f1.f3.length
    · have HAk := Lib.hid (HA5.out.step hs)
      obtain ⟨ad, A1, c1, had, e0, e1, hc1, g1⟩ := at_T100 HX.out.h8 (k : Int) (by omega) (by omega)
      have hxe : rd_T100 e.f1.f3 (k : Int) = e.f1.f3[k] := by unfold rd_T100; rw [Int.toNat_natCast, List.getD_eq_getElem?_getD, List.getElem?_eq_getElem hlt]; rfl
      rw [hxe] at e0 e1 hc1 g1
      simp only [Int.toNat_natCast] at e0 e1
      have q0 := pw_cell_below HAk.out.b e0
      have q1 := pw_cell_below HAk.out.b e1
      have hsx := HV.out.s3 _ (List.getElem_mem hlt)
      have hsn := sigsW_snoc e.f1.f3 k hlt
      obtain ⟨x, hx⟩ : ∃ x, x = e.f1.f3[k] := ⟨_, rfl⟩
      rw [← hx] at q0 q1 hc1 g1 hsx hsn
      have HSX := Lib.hid hsx
      have HSN := Lib.hid hsn
      have HG1 := Lib.hid g1
      have HAD := Lib.hid had
      rw [had]
      have hkl : (ws5 ++ (e.f1.f3.take k).flatMap sigW).length ≤ 95000 := by rw [List.length_append, sigsW_len, List.length_take]; omega
      have hszr : base ≤ wr.heap.size := hPk.out.size
      clear hx hxe e0 e1 hsx hsn g1 had
      go_upto_region 9 with (fail)
      obtain ⟨wy, hwy⟩ : ∃ wy, wy = wr.alloc (.cells #[.int .i64 x.f0, .slice A1 x.f1.length c1] 100) := ⟨_, rfl⟩
      rw [← hwy]
      have HBY := Lib.hid (show wy.heap[wr.heap.size]? = some (.cells #[.int .i64 x.f0, .slice A1 x.f1.length c1] 100) by rw [hwy]; exact blk_new _ _)
      have hby : Below wr.heap.size wr wy := by rw [hwy]; exact below_alloc (Below.refl _ _) _
      have HSY := Lib.hid (Stp.of_below hby hszr)
      have HPY := Lib.hid (hPk.out.below hby)
      have HAY := Lib.hid (HAk.out.below hby)
      clear hwy hby q0 q1
      obtain ⟨y0, y1⟩ := cells2 HBY.out
      go_wp2_with (first
        | (go_at_call 63; (with_reducible refine (nums1_any base g _ w0 wy HT.out HAY.out HPY.out (by omega) x.f0 HSX.out.i0).mono ?_); rintro e wz ⟨rfl, hPz, hsz2⟩; have HPZ := Lib.hid hPz; have HSZ := Lib.hid hsz2; have HAZ := Lib.hid (HAY.out.step hsz2); have HBZ := Lib.hid (hsz2.f _ _ _ HBY.out (by decide) (by decide)); clear hPz hsz2 y0 y1; obtain ⟨y0, y1⟩ := cells2 HBZ.out)
        | (go_at_call 65; (with_reducible refine (bytesC_any base g _ w0 wz HT.out HAZ.out HPZ.out (by rw [List.length_append, List.length_singleton]; omega) A1 c1 x.f1 HG1.out hc1 HSX.out.b1).mono ?_); rintro e wu ⟨rfl, hPu, hsu⟩))
      go_roundw
      case rel =>
        refine ⟨k + 1, by omega, by go_num, Lib.hid ?_, ((hs.trans HSY.out).trans HSZ.out).trans hsu⟩
        rw [HSN.out]
        simpa using hPu
      case measure => simp [intOf]; omega
    · have HE := Lib.hid (show (e.f1.f3.take k).flatMap sigW = e.f1.f3.flatMap sigW by rw [List.take_of_length_le (by omega)])
      go_wp2
      go_end0
      refine ⟨rfl, ?_, HS6.out.trans hs⟩
      have := hPk.out
      rw [HE.out, HW5.out] at this
      simpa [entW] using this
end Go.Proofs.YtpeebjnfmlfocaaDoor.Sh
namespace Go.Proofs.YtpeebjnfmlfocaaDoor.Sh
open Go.RowKit Go.Proofs.YtpeebjnfmlfocaaDoor.Th Go.Proofs.YtpeebjnfmlfocaaDoorW.PrintWords Go.Proofs.YtpeebjnfmlfocaaDoorW.PrintLast Go.Proofs.YtpeebjnfmlfocaaDoorW.PrintMore
set_option maxRecDepth 100000
set_option linter.unusedVariables false
set_option linter.unusedSimpArgs false
theorem rdigits_any (n : Int) (h : okI n) (w : World) : Calls Tryd.prog 71 #[.int .i64 n] w fun e w' => e = .returned (.string (itoaB n)) ∧ ∃ m, w' = w.drewN m :=
  (cleromancyref47_digits.calls n _ w (by unfold cleromancyref47_digits.f; rw [if_pos (show -1 ≤ n ∧ n ≤ 4611686018427387904 from h)])).mono fun e w' q => ⟨q.1, q.2.out⟩
theorem rbytes_any (A : Option Addr) (c : Nat) (l : List Int) (w : World) (hC : Kd.C (Kd.int .u8) w A l.length l) (hc : l.length ≤ c) (hy : okB l) :
    Calls Tryd.prog 73 #[.slice A l.length c] w fun e w' => e = .returned (.string (bytesS l)) ∧ ∃ m, w' = w.drewN m := by
  have HH := Lib.hid (cleromancyref37_Text.calls A c l (bs (hexL l)) w hC hc (by unfold cleromancyref37_Text.f; rw [if_pos]; rw [Bool.and_eq_true]; exact ⟨List.all_eq_true.2 (fun x hx => by have := hy.1 x hx; simp [this]), decide_eq_true (by have := hy.2; omega)⟩))
  clear hC hy
  by_cases h0 : l.length = 0
  · have d1 : (l.length == 0) = true := beq_iff_eq.mpr h0
    have d2 : ((l.length : Int) == 0) = true := beq_iff_eq.mpr (by omega)
    have HS := Lib.hid (show bytesS l = ⟨#[45]⟩ from if_pos h0)
    clear h0
    go_enter Tryd.func73, Tryd.ntmps73
    go_wp2
    go_ret
    exact ⟨by rw [HS.out] <;> rfl, 0, rfl⟩
  · have d1 : (l.length == 0) = false := beq_eq_false_iff_ne.mpr h0
    have d2 : ((l.length : Int) == 0) = false := beq_eq_false_iff_ne.mpr (by omega)
    have HS := Lib.hid (show bytesS l = bs (hexL l) from if_neg h0)
    clear h0
    go_enter Tryd.func73, Tryd.ntmps73
    go_wp2_with (go_at_call 82; (with_reducible refine (HH.out).mono ?_); rintro e w2 ⟨rfl, hd⟩)
    go_ret
    exact ⟨by rw [HS.out] <;> rfl, hd.out⟩
theorem dig_below {f : FuncId} {args : Array Value} {W : World} {v : Value} (h : Calls Tryd.prog f args W fun e w' => e = .returned v ∧ ∃ m, w' = W.drewN m) : Calls Tryd.prog f args W fun e w' => e = .returned v ∧ Below W.heap.size W w' :=
  h.mono fun e w' ⟨h1, m, h2⟩ => ⟨h1, by rw [h2]; exact pw_below_drewN (Below.refl _ _) m⟩
theorem itoaB_szr {n : Int} (h : okI n) : (itoaB n).size ≤ 21 := itoaB_size n h.1 h.2
theorem bytesS_szr {l : List Int} (h : okB l) : (bytesS l).size ≤ 2000 := by
  unfold bytesS
  split
  · show 1 ≤ _; omega
  · rw [bs_size, hexL_len]; have := h.2; omega
def valR (v : S47) : ByteArray := (⟨#[118, 97, 108, 117, 101, 32]⟩ : ByteArray) ++ itoaB v.f0 ++ (⟨#[32]⟩ : ByteArray) ++ itoaB v.f1 ++ (⟨#[32]⟩ : ByteArray) ++ itoaB v.f2 ++ (⟨#[32]⟩ : ByteArray) ++ bytesS v.f3 ++ (⟨#[32]⟩ : ByteArray) ++ bytesS v.f4
theorem valR_sz {v : S47} (h : okV v) : (valR v).size ≤ 5000 := by
  have h0 := itoaB_szr h.i0; have h1 := itoaB_szr h.i1; have h2 := itoaB_szr h.i2; have h3 := bytesS_szr h.b3; have h4 := bytesS_szr h.b4
  have e : (⟨#[118, 97, 108, 117, 101, 32]⟩ : ByteArray).size = 6 := rfl
  have s : (⟨#[32]⟩ : ByteArray).size = 1 := rfl
  unfold valR
  simp only [ByteArray.size_append, e, s]
  omega
set_option maxHeartbeats 4000000 in
theorem rvalue_any (v : S47) (A3 : Option Addr) (c3 : Nat) (A4 : Option Addr) (c4 : Nat) (w : World) (h3 : Kd.C (Kd.int .u8) w A3 v.f3.length v.f3) (l3 : v.f3.length ≤ c3) (h4 : Kd.C (Kd.int .u8) w A4 v.f4.length v.f4) (l4 : v.f4.length ≤ c4) (hv : okV v) :
    Calls Tryd.prog 72 #[valV v A3 c3 A4 c4] w fun e w' => e = .returned (.string (valR v)) ∧ Below w.heap.size w w' := by
  have e0 := itoaB_szr hv.i0
  have e1 := itoaB_szr hv.i1
  have e2 := itoaB_szr hv.i2
  have e3 := bytesS_szr hv.b3
  have e4 := bytesS_szr hv.b4
  have hd0 := fun W => rdigits_any v.f0 hv.i0 W
  have hd1 := fun W => rdigits_any v.f1 hv.i1 W
  have hd2 := fun W => rdigits_any v.f2 hv.i2 W
  have hb3 := fun W (hb : Below w.heap.size w W) => rbytes_any A3 c3 v.f3 W (Kd.C_below h3 hb) l3 hv.b3
  have hb4 := fun W (hb : Below w.heap.size w W) => rbytes_any A4 c4 v.f4 W (Kd.C_below h4 hb) l4 hv.b4
  have hR := (show valR v = (⟨#[118, 97, 108, 117, 101, 32]⟩ : ByteArray) ++ itoaB v.f0 ++ (⟨#[32]⟩ : ByteArray) ++ itoaB v.f1 ++ (⟨#[32]⟩ : ByteArray) ++ itoaB v.f2 ++ (⟨#[32]⟩ : ByteArray) ++ bytesS v.f3 ++ (⟨#[32]⟩ : ByteArray) ++ bytesS v.f4 from rfl)
  obtain ⟨d0, q0⟩ : ∃ d, d = itoaB v.f0 := ⟨_, rfl⟩
  obtain ⟨d1, q1⟩ : ∃ d, d = itoaB v.f1 := ⟨_, rfl⟩
  obtain ⟨d2, q2⟩ : ∃ d, d = itoaB v.f2 := ⟨_, rfl⟩
  obtain ⟨d3, q3⟩ : ∃ d, d = bytesS v.f3 := ⟨_, rfl⟩
  obtain ⟨d4, q4⟩ : ∃ d, d = bytesS v.f4 := ⟨_, rfl⟩
  rw [← q0, ← q1, ← q2, ← q3, ← q4] at hR
  rw [← q0] at hd0 e0
  rw [← q1] at hd1 e1
  rw [← q2] at hd2 e2
  rw [← q3] at hb3 e3
  rw [← q4] at hb4 e4
  have HD0 := Lib.hid hd0
  have HD1 := Lib.hid hd1
  have HD2 := Lib.hid hd2
  have HB3 := Lib.hid hb3
  have HB4 := Lib.hid hb4
  have HR := Lib.hid hR
  clear hd0 hd1 hd2 hb3 hb4 hR h3 h4 hv q0 q1 q2 q3 q4
  have zc0t : (⟨#[118, 97, 108, 117, 101, 32]⟩ : ByteArray).size = 6 := rfl
  have zc1t : (⟨#[32]⟩ : ByteArray).size = 1 := rfl
  obtain ⟨t1, ht1⟩ : ∃ q, q = (⟨#[118, 97, 108, 117, 101, 32]⟩ : ByteArray) ++ d0 := ⟨_, rfl⟩
  have zt1 : t1.size ≤ 27 := by rw [ht1, ByteArray.size_append]; omega
  have st1 : ∀ W : World, (Op.stringOp .add (⟨#[118, 97, 108, 117, 101, 32]⟩ : ByteArray) d0).run Tryd.prog W = .ok (.string t1) W := fun W => by rw [ht1]; exact run_string_add_sum _ _ _ (by omega)
  obtain ⟨t2, ht2⟩ : ∃ q, q = t1 ++ (⟨#[32]⟩ : ByteArray) := ⟨_, rfl⟩
  have zt2 : t2.size ≤ 28 := by rw [ht2, ByteArray.size_append]; omega
  have st2 : ∀ W : World, (Op.stringOp .add t1 (⟨#[32]⟩ : ByteArray)).run Tryd.prog W = .ok (.string t2) W := fun W => by rw [ht2]; exact run_string_add_sum _ _ _ (by omega)
  obtain ⟨t3, ht3⟩ : ∃ q, q = t2 ++ d1 := ⟨_, rfl⟩
  have zt3 : t3.size ≤ 49 := by rw [ht3, ByteArray.size_append]; omega
  have st3 : ∀ W : World, (Op.stringOp .add t2 d1).run Tryd.prog W = .ok (.string t3) W := fun W => by rw [ht3]; exact run_string_add_sum _ _ _ (by omega)
  obtain ⟨t4, ht4⟩ : ∃ q, q = t3 ++ (⟨#[32]⟩ : ByteArray) := ⟨_, rfl⟩
  have zt4 : t4.size ≤ 50 := by rw [ht4, ByteArray.size_append]; omega
  have st4 : ∀ W : World, (Op.stringOp .add t3 (⟨#[32]⟩ : ByteArray)).run Tryd.prog W = .ok (.string t4) W := fun W => by rw [ht4]; exact run_string_add_sum _ _ _ (by omega)
  obtain ⟨t5, ht5⟩ : ∃ q, q = t4 ++ d2 := ⟨_, rfl⟩
  have zt5 : t5.size ≤ 71 := by rw [ht5, ByteArray.size_append]; omega
  have st5 : ∀ W : World, (Op.stringOp .add t4 d2).run Tryd.prog W = .ok (.string t5) W := fun W => by rw [ht5]; exact run_string_add_sum _ _ _ (by omega)
  obtain ⟨t6, ht6⟩ : ∃ q, q = t5 ++ (⟨#[32]⟩ : ByteArray) := ⟨_, rfl⟩
  have zt6 : t6.size ≤ 72 := by rw [ht6, ByteArray.size_append]; omega
  have st6 : ∀ W : World, (Op.stringOp .add t5 (⟨#[32]⟩ : ByteArray)).run Tryd.prog W = .ok (.string t6) W := fun W => by rw [ht6]; exact run_string_add_sum _ _ _ (by omega)
  obtain ⟨t7, ht7⟩ : ∃ q, q = t6 ++ d3 := ⟨_, rfl⟩
  have zt7 : t7.size ≤ 2072 := by rw [ht7, ByteArray.size_append]; omega
  have st7 : ∀ W : World, (Op.stringOp .add t6 d3).run Tryd.prog W = .ok (.string t7) W := fun W => by rw [ht7]; exact run_string_add_sum _ _ _ (by omega)
  obtain ⟨t8, ht8⟩ : ∃ q, q = t7 ++ (⟨#[32]⟩ : ByteArray) := ⟨_, rfl⟩
  have zt8 : t8.size ≤ 2073 := by rw [ht8, ByteArray.size_append]; omega
  have st8 : ∀ W : World, (Op.stringOp .add t7 (⟨#[32]⟩ : ByteArray)).run Tryd.prog W = .ok (.string t8) W := fun W => by rw [ht8]; exact run_string_add_sum _ _ _ (by omega)
  obtain ⟨t9, ht9⟩ : ∃ q, q = t8 ++ d4 := ⟨_, rfl⟩
  have zt9 : t9.size ≤ 4073 := by rw [ht9, ByteArray.size_append]; omega
  have st9 : ∀ W : World, (Op.stringOp .add t8 d4).run Tryd.prog W = .ok (.string t9) W := fun W => by rw [ht9]; exact run_string_add_sum _ _ _ (by omega)
  have Ht1 := Lib.hid ht1
  have Ht2 := Lib.hid ht2
  have Ht3 := Lib.hid ht3
  have Ht4 := Lib.hid ht4
  have Ht5 := Lib.hid ht5
  have Ht6 := Lib.hid ht6
  have Ht7 := Lib.hid ht7
  have Ht8 := Lib.hid ht8
  have Ht9 := Lib.hid ht9
  clear ht1 ht2 ht3 ht4 ht5 ht6 ht7 ht8 ht9
  show Calls Tryd.prog 72 #[.agg #[.int .i64 v.f0, .int .i64 v.f1, .int .i64 v.f2, .slice A3 v.f3.length c3, .slice A4 v.f4.length c4]] w _
  go_enter Tryd.func72, Tryd.ntmps72
  go_upto_region 1 with (fail)
  obtain ⟨wx, hwx⟩ : ∃ wx, wx = w.alloc (.cells #[.int .i64 v.f0, .int .i64 v.f1, .int .i64 v.f2, .slice A3 v.f3.length c3, .slice A4 v.f4.length c4] 47) := ⟨_, rfl⟩
  rw [← hwx]
  have HBX := Lib.hid (show Below w.heap.size w wx by rw [hwx]; exact below_alloc (Below.refl _ _) _)
  obtain ⟨y0, y1, y2, y3, y4⟩ := cells5 (show wx.heap[w.heap.size]? = some (.cells #[.int .i64 v.f0, .int .i64 v.f1, .int .i64 v.f2, .slice A3 v.f3.length c3, .slice A4 v.f4.length c4] 47) by rw [hwx]; exact blk_new _ _)
  clear hwx
  go_quiet (first
    | (go_at_call 71; (with_reducible refine (HD0.out _).mono ?_); rintro e w' ⟨rfl, nd, rfl⟩; first | exact ⟨rfl, _, World.drewN_drewN _ _ _⟩ | exact ⟨rfl, _, Eq.trans (World.drewN_drewN _ _ _) (congrArg (World.drewN _) (Nat.add_assoc _ _ _))⟩)
    | (go_at_call 71; (with_reducible refine (HD1.out _).mono ?_); rintro e w' ⟨rfl, nd, rfl⟩; first | exact ⟨rfl, _, World.drewN_drewN _ _ _⟩ | exact ⟨rfl, _, Eq.trans (World.drewN_drewN _ _ _) (congrArg (World.drewN _) (Nat.add_assoc _ _ _))⟩)
    | (go_at_call 71; (with_reducible refine (HD2.out _).mono ?_); rintro e w' ⟨rfl, nd, rfl⟩; first | exact ⟨rfl, _, World.drewN_drewN _ _ _⟩ | exact ⟨rfl, _, Eq.trans (World.drewN_drewN _ _ _) (congrArg (World.drewN _) (Nat.add_assoc _ _ _))⟩)
    | (go_at_call 73; (with_reducible refine (HB3.out _ (by repeat (first | exact HBX.out | apply pw_below_drewN))).mono ?_); rintro e w' ⟨rfl, nd, rfl⟩; first | exact ⟨rfl, _, World.drewN_drewN _ _ _⟩ | exact ⟨rfl, _, Eq.trans (World.drewN_drewN _ _ _) (congrArg (World.drewN _) (Nat.add_assoc _ _ _))⟩)
    | (go_at_call 73; (with_reducible refine (HB4.out _ (by repeat (first | exact HBX.out | apply pw_below_drewN))).mono ?_); rintro e w' ⟨rfl, nd, rfl⟩; first | exact ⟨rfl, _, World.drewN_drewN _ _ _⟩ | exact ⟨rfl, _, Eq.trans (World.drewN_drewN _ _ _) (congrArg (World.drewN _) (Nat.add_assoc _ _ _))⟩))
  go_wp2
  go_ret
  exact ⟨by rw [HR.out, ← Ht1.out, ← Ht2.out, ← Ht3.out, ← Ht4.out, ← Ht5.out, ← Ht6.out, ← Ht7.out, ← Ht8.out, ← Ht9.out] <;> rfl, by repeat (first | exact HBX.out | apply pw_below_drewN)⟩
end Go.Proofs.YtpeebjnfmlfocaaDoor.Sh
namespace Go.Proofs.YtpeebjnfmlfocaaDoor.Sh
open Go.RowKit Go.Proofs.YtpeebjnfmlfocaaDoorW.PrintWords Go.Proofs.YtpeebjnfmlfocaaDoorW.PrintLast Go.Proofs.YtpeebjnfmlfocaaDoorW.PrintMore
set_option maxRecDepth 100000
set_option linter.unusedVariables false
set_option linter.unusedSimpArgs false
theorem dec_gt (n m : Nat) : decide ((m : Int) < (n : Int)) = !decide (n ≤ m) := by
  by_cases h : n ≤ m
  · rw [decide_eq_true h, decide_eq_false (by omega)]; rfl
  · rw [decide_eq_false h, decide_eq_true (by omega)]; rfl
theorem dec_pos (n : Nat) : decide ((0 : Int) < (n : Int)) = !(n == 0) := by
  cases n with
  | zero => rfl
  | succ n => rw [decide_eq_true (by omega)]; rfl
theorem gP_eq (x : Let) : gP x = (inR x.pv 0 1048576 && inR x.pf 0 127 && decide (-1 ≤ x.px) && decide (x.px < x.pv) && gV x.v && (x.ps.length == 64)) := by
  have e : inR x.px (-1) (x.pv - 1) = (decide (-1 ≤ x.px) && decide (x.px < x.pv)) := by
    unfold inR
    congr 1
    by_cases h : x.px < x.pv
    · rw [decide_eq_true h, decide_eq_true (by omega)]
    · rw [decide_eq_false h, decide_eq_false (by omega)]
  unfold gP
  rw [e]
  simp only [Bool.and_assoc]
def allFrom {α : Type} (p : α → Bool) (l : List α) (k : Nat) : Bool := (l.drop k).all p
theorem allFrom_at {α : Type} (p : α → Bool) (l : List α) (k : Nat) (h : k < l.length) : allFrom p l k = (p l[k] && allFrom p l (k + 1)) := by
  unfold allFrom; rw [List.drop_eq_getElem_cons h]; rfl
theorem allFrom_end {α : Type} (p : α → Bool) (l : List α) (k : Nat) (h : l.length ≤ k) : allFrom p l k = true := by
  unfold allFrom; rw [List.drop_eq_nil_of_le h]; rfl
structure Blk3 (x : Let) (a : Ad) (w0 w : World) (bl bp bv : Nat) : Prop where
  l : w.heap[bl]? = some (.cells #[.int .i64 x.k, .int .i64 x.pv, .int .i64 x.pf, .int .i64 x.px, .int .i64 x.v.f0, .int .i64 x.v.f1, .int .i64 x.v.f2, .slice a.A7 x.v.f3.length a.c7, .slice a.A8 x.v.f4.length a.c8, .slice a.A9 x.ps.length a.c9, .int .i64 x.vr, .int .i64 x.vv, .int .i64 x.vp, .int .i64 x.vf, .slice a.A14 x.vi.length a.c14, .slice a.A15 x.vs.length a.c15, .int .i64 x.r, .slice a.A17 x.es.length a.c17] 54)
  p : w.heap[bp]? = some (.cells #[.int .i64 x.pv, .int .i64 x.pf, .int .i64 x.px, .int .i64 x.v.f0, .int .i64 x.v.f1, .int .i64 x.v.f2, .slice a.A7 x.v.f3.length a.c7, .slice a.A8 x.v.f4.length a.c8, .slice a.A9 x.ps.length a.c9] 49)
  v : w.heap[bv]? = some (.cells #[.int .i64 x.vr, .int .i64 x.vv, .int .i64 x.vp, .int .i64 x.vf, .slice a.A14 x.vi.length a.c14, .slice a.A15 x.vs.length a.c15] 51)
  b : Below w0.heap.size w0 w
  c : LetC w x a
theorem Blk3.below {x : Let} {a : Ad} {w0 w w1 : World} {bl bp bv : Nat} (h : Blk3 x a w0 w bl bp bv) (hb : Below w.heap.size w w1) : Blk3 x a w0 w1 bl bp bv :=
  ⟨blk_below h.l hb, blk_below h.p hb, blk_below h.v hb, h.b.trans (hb.mono h.b.size), h.c.below hb⟩
end Go.Proofs.YtpeebjnfmlfocaaDoor.Sh
