/- tale.Print's walk at this program. Conditions: bytes in range; at most 10000 deeds of at most 100000 bytes each; the table of powers stands. -/
import Derived.Test.YtpeebjnfmlfocaaDoorZB04
import Derived.Test.YtpeebjnfmlfocaaDoorZB05
import Derived.Lib.ItoaLen
import Derived.Lib.AppendIntMem
import Derived.Deep.QuietTactic
import Derived.BigQuiet
import Derived.IntWalk
import Derived.Laws.Concat
import Derived.Test.YtpeebjnfmlfocaaDoorZB03
namespace Go.Proofs.YtpeebjnfmlfocaaDoor.TpR
open Go.RowKit Go.Proofs.YtpeebjnfmlfocaaDoorW.PrintWords Go.Proofs.YtpeebjnfmlfocaaDoorW.PrintLast Go.Proofs.YtpeebjnfmlfocaaDoorW.PrintMore
set_option linter.unusedVariables false
set_option linter.unusedSimpArgs false
abbrev Tab (w : World) : Prop := Lib.TabIs Tryd.prog w "internal/strconv.uint64pow10" .u64 Lib.pow10Tab
def itoaB (n : Int) : ByteArray := ⟨(Lib.itoa n).toArray⟩
def lineGo (r : Nat) (F : Nat → Int) : Nat → Nat → ByteArray → (Nat → Int) → Option (ByteArray × (Nat → Int))
  | 0, _, out, G => some (out, G)
  | m + 1, i, out, G => if 0 ≤ F (fK r i) ∧ F (fK r i) ≤ 4611686018427387904 then lineGo r F m (i + 1) (out ++ (⟨#[32]⟩ ++ itoaB (F (fK r i)))) (setF G (fK r i) 0) else none
def lineEnd (r : Nat) (out : ByteArray) (G : Nat → Int) (bs : List Int) : ByteArray × Int :=
  if G 1 ≠ 0 ∨ G 2 ≠ 0 ∨ G 3 ≠ 0 ∨ G 4 ≠ 0 ∨ (r ≠ 6 ∧ 0 < bs.length) then (⟨#[]⟩, 2)
  else if 0 < bs.length then (out ++ (⟨#[32]⟩ ++ ⟨(Th.hexL bs).toArray⟩), 0) else (out, 0)
def lineAt (r : Nat) (F : Nat → Int) (bs : List Int) : ByteArray × Int :=
  match lineGo r F (fN r) 0 (fWord r) F with
  | none => (⟨#[]⟩, 2)
  | some x => lineEnd r x.1 x.2 bs
def lineHit (K : Int) (F : Nat → Int) (bs : List Int) : Nat → Nat → ByteArray × Int
  | 0, _ => (⟨#[]⟩, 2)
  | m + 1, r => if (r : Int) + 1 = K then lineAt r F bs else lineHit K F bs m (r + 1)
theorem fWord_size (r : Nat) : (fWord r).size ≤ 7 := by
  unfold fWord
  split <;> decide
theorem itoaB_size (n : Int) (h0 : 0 ≤ n) (h1 : n ≤ 4611686018427387904) : (itoaB n).size ≤ 21 := by
  have := Lib.itoa_length_le n (by omega) (by omega)
  show (Lib.itoa n).toArray.size ≤ 21
  simpa using this
set_option maxHeartbeats 8000000 in
set_option maxRecDepth 100000 in
theorem line_any (w : World) (hG : Tab w) (K : Int) (F : Nat → Int) (bs : List Int) (A5 : Option Addr) (c5 : Nat) (hC5 : (Kd.int .u8).C w A5 bs.length bs) (hc5 : bs.length ≤ c5) (hy : ∀ x ∈ bs, 0 ≤ x ∧ x ≤ 255) (hl5 : bs.length ≤ 1000000) :
    Calls Tryd.prog 37 #[.agg #[Value.int IntKind.i64 K, Value.int IntKind.i64 (F 1), Value.int IntKind.i64 (F 2), Value.int IntKind.i64 (F 3), Value.int IntKind.i64 (F 4), Value.slice A5 bs.length c5]] w fun e w' => e = .returned (.tuple #[.string (lineHit K F bs 7 0).1, .int .i64 (lineHit K F bs 7 0).2]) ∧ Below w.heap.size w w' := by
  obtain ⟨R, hR⟩ : ∃ R, R = lineHit K F bs 7 0 := ⟨_, rfl⟩
  rw [← hR]
  have HR : Hid (lineHit K F bs 7 0 = R) := Lib.hid hR.symm
  have HC := Lib.hid hC5
  have HY := Lib.hid hy
  have HG := Lib.hid hG
  clear hC5 hR hy hG
  go_enter Tryd.func37, Tryd.ntmps37
  go_wp2_with (go_at_call 77; (with_reducible refine (forms_some _).mono ?_); rintro e w1 ⟨M, P, rfl, hF, hM, hP, hb1⟩)
  obtain ⟨wa, hwa⟩ : ∃ wa, wa = w.alloc (Obj.cells #[Value.int IntKind.i64 K, Value.int IntKind.i64 (F 1), Value.int IntKind.i64 (F 2), Value.int IntKind.i64 (F 3), Value.int IntKind.i64 (F 4), Value.slice A5 bs.length c5] 63) := ⟨_, rfl⟩
  rw [← hwa] at hM hP hb1
  have hsz : wa.heap.size = w.heap.size + 1 := by rw [hwa, size_alloc]
  have hbw : Below w.heap.size w wa := by rw [hwa]; exact below_alloc (Below.refl _ _) _
  have hres : wa.heap[w.heap.size]? = some (Obj.cells #[Value.int IntKind.i64 K, Value.int IntKind.i64 (F 1), Value.int IntKind.i64 (F 2), Value.int IntKind.i64 (F 3), Value.int IntKind.i64 (F 4), Value.slice A5 bs.length c5] 63) := by rw [hwa, heap_alloc, if_pos rfl]
  have HF := Lib.hid hF
  have HM := Lib.hid hM
  have HP := Lib.hid hP
  have HRES := Lib.hid hres
  have HSZ := Lib.hid hsz
  clear hF hM hP hres hwa hsz
  go_loopg [13] 7 (fun gk v13 wr => ∃ r : Nat, r + gk = 7 ∧ v13 = .int .i64 (r : Int) ∧ Hid (lineHit K F bs gk r = R) ∧ Below w1.heap.size w1 wr)
  case atStart => exact ⟨0, by omega, rfl, HR, Below.refl _ _⟩
  case round =>
    obtain ⟨r, hr, rfl, hH, hb⟩ := hrel
    have HRR := Lib.hid hr
    clear HR
    by_cases hlt : (r : Int) < 7
    · have hdec := decide_eq_true hlt
      have hlt2 : r < 7 := by omega
      have hf1 := HF.out r hlt2
      have hf := form_below hf1 hb (by have := hf1.below; exact this.1) (by have := hf1.below; exact this.2)
      have k1 := hf.word
      have k2 := hf.kind
      have k3 := hf.parts
      have k4 := hf.flag
      go_upto_region 4 with (fail)
      obtain ⟨wx, hwx⟩ : ∃ wx, wx = wr.alloc (Obj.cells #[Value.string (fWord r), Value.int IntKind.i64 ((r : Int) + 1), Value.slice (some { block := P + r, off := 0 }) (fN r) (fN r), Value.bool (decide (r = 6))] 128) := ⟨_, rfl⟩
      obtain ⟨bf, hbf⟩ : ∃ bf, bf = wr.heap.size := ⟨_, rfl⟩
      rw [← hwx, ← hbf]
      have hx0 : wx.heap[bf]? = some (Obj.cells #[Value.string (fWord r), Value.int IntKind.i64 ((r : Int) + 1), Value.slice (some { block := P + r, off := 0 }) (fN r) (fN r), Value.bool (decide (r = 6))] 128) := by rw [hwx, hbf, heap_alloc, if_pos rfl]
      have x1 : wx.cell? ⟨bf, 0, none⟩ = some (Value.string (fWord r)) := cell_app wx bf 0 _ _ _ hx0 rfl
      have x2 : wx.cell? ⟨bf, 1, none⟩ = some (Value.int IntKind.i64 ((r : Int) + 1)) := cell_app wx bf 1 _ _ _ hx0 rfl
      have x3 : wx.cell? ⟨bf, 2, none⟩ = some (Value.slice (some { block := P + r, off := 0 }) (fN r) (fN r)) := cell_app wx bf 2 _ _ _ hx0 rfl
      have hbx : Below w1.heap.size w1 wx := by rw [hwx]; exact below_alloc hb _
      have hxs : wx.heap.size = bf + 1 := by rw [hwx, hbf, size_alloc]
      have hbf1 : w1.heap.size ≤ bf := by rw [hbf]; exact hb.size
      have hbwx : Below w.heap.size w wx := (hbw.trans (hb1.mono hbw.size)).trans (hbx.mono (Nat.le_trans hbw.size hb1.size))
      have hsw : w.heap.size < w1.heap.size := by have := HSZ.out; have := hb1.size; omega
      have hdx : wx.heap[w.heap.size]? = some (Obj.cells #[Value.int IntKind.i64 K, Value.int IntKind.i64 (F 1), Value.int IntKind.i64 (F 2), Value.int IntKind.i64 (F 3), Value.int IntKind.i64 (F 4), Value.slice A5 bs.length c5] 63) := by
        rw [hbx.block _ hsw, hb1.block _ (by rw [HSZ.out]; omega)]
        exact HRES.out
      have d0 : wx.cell? ⟨w.heap.size, 0, none⟩ = some (.int .i64 K) := cell_app wx w.heap.size 0 _ _ _ hdx rfl
      have HX0 := Lib.hid hx0
      have HXS := Lib.hid hxs
      have HBF := Lib.hid hbf1
      have HDX := Lib.hid hdx
      have HSW := Lib.hid hsw
      have hk7 : gk = (gk - 1) + 1 := by omega
      have HH := hH.out
      rw [hk7, lineHit] at HH
      clear hwx hbf hx0 k1 k2 k3 k4 hf hxs hbf1 hr hH hb hdx hsw hk7
      by_cases hw : (r : Int) + 1 = K
      · rw [if_pos hw] at HH
        have HHIT := Lib.hid HH
        have HK := Lib.hid hw
        have hwb : (((r : Int) + 1) != K) = false := bne_eq_false_iff_eq.mpr hw
        have hwb2 : (((r : Int) + 1) == K) = true := beq_iff_eq.mpr hw
        clear hw HH
        have d1 := cell_app wx w.heap.size 1 _ _ _ HDX.out rfl
        have d2 := cell_app wx w.heap.size 2 _ _ _ HDX.out rfl
        have d3 := cell_app wx w.heap.size 3 _ _ _ HDX.out rfl
        have d4 := cell_app wx w.heap.size 4 _ _ _ HDX.out rfl
        have d5 := cell_app wx w.heap.size 5 _ _ _ HDX.out rfl
        go_upto_region 8 with (fail)
        obtain ⟨bl, hbl⟩ : ∃ bl, bl = wx.heap.size := ⟨_, rfl⟩
        obtain ⟨wz, hwz⟩ : ∃ wz, wz = wx.alloc (Obj.cells #[Value.int IntKind.i64 0, Value.int IntKind.i64 (F 1), Value.int IntKind.i64 (F 2), Value.int IntKind.i64 (F 3), Value.int IntKind.i64 (F 4), Value.slice none 0 0] 63) := ⟨_, rfl⟩
        rw [← hwz, ← hbl]
        have hz0 : wz.heap[bl]? = some (Obj.cells #[Value.int IntKind.i64 0, Value.int IntKind.i64 (F 1), Value.int IntKind.i64 (F 2), Value.int IntKind.i64 (F 3), Value.int IntKind.i64 (F 4), Value.slice none 0 0] 63) := by rw [hwz, hbl, heap_alloc, if_pos rfl]
        have hzy : Below wx.heap.size wx wz := by rw [hwz]; exact below_alloc (Below.refl _ _) _
        have hbz : Below w1.heap.size w1 wz := hbx.trans (hzy.mono hbx.size)
        have hbwz : Below w.heap.size w wz := hbwx.trans (hzy.mono hbwx.size)
        have hbl1 : bl = bf + 1 := by rw [hbl]; exact HXS.out
        have hfz := form_below hf1 hbz (by have := hf1.below; exact this.1) (by have := hf1.below; exact this.2)
        have hz2 : wz.heap[bf]? = some (Obj.cells #[Value.string (fWord r), Value.int IntKind.i64 ((r : Int) + 1), Value.slice (some { block := P + r, off := 0 }) (fN r) (fN r), Value.bool (decide (r = 6))] 128) := by rw [hzy.block bf (by rw [HXS.out]; omega)]; exact HX0.out
        have z3 : wz.cell? ⟨bf, 2, none⟩ = some (Value.slice (some { block := P + r, off := 0 }) (fN r) (fN r)) := cell_app wz bf 2 _ _ _ hz2 rfl
        have hdz : wz.heap[w.heap.size]? = some (Obj.cells #[Value.int IntKind.i64 K, Value.int IntKind.i64 (F 1), Value.int IntKind.i64 (F 2), Value.int IntKind.i64 (F 3), Value.int IntKind.i64 (F 4), Value.slice A5 bs.length c5] 63) := by rw [hzy.block _ (by have := HSW.out; have := HBF.out; have := HXS.out; omega)]; exact HDX.out
        have HZ0 := Lib.hid hz0
        have HZ2 := Lib.hid hz2
        have HDZ := Lib.hid hdz
        have HFZ := Lib.hid hfz
        have HBL := Lib.hid hbl1
        have hfn : fN r ≤ 2 := by unfold fN; split <;> decide
        obtain ⟨PF, hPF⟩ : ∃ PF, lineGo r F (fN r) 0 (fWord r) F = PF := ⟨_, rfl⟩
        have hh2 := HHIT.out
        unfold lineAt at hh2
        rw [hPF] at hh2
        have HHP := Lib.hid hh2
        have HPF := Lib.hid hPF
        clear hwz hbl x1 x2 x3 d0 d1 d2 d3 d4 d5 HX0 HDX HXS hz0 hz2 hdz hfz hbl1 hh2 hPF HHIT
        go_wp2
        go_loopg [6, 30] (fN r) (fun hk v6 v30 wq => ∃ (i : Nat) (out : ByteArray) (G : Nat → Int), i + hk = fN r ∧ v6 = .string out ∧ v30 = .int .i64 (i : Int) ∧ out.size ≤ 7 + 22 * i ∧ Hid (lineGo r F hk i out G = PF) ∧ Hid (wq.heap[bl]? = some (Obj.cells #[Value.int IntKind.i64 0, Value.int IntKind.i64 (G 1), Value.int IntKind.i64 (G 2), Value.int IntKind.i64 (G 3), Value.int IntKind.i64 (G 4), Value.slice none 0 0] 63)) ∧ Near bl wz wq ∧ Below w.heap.size w wq)
        case atStart => exact ⟨0, fWord r, F, by omega, rfl, rfl, by have := fWord_size r; omega, HPF, HZ0, Near.refl _ _, hbwz⟩
        case round =>
          obtain ⟨i, out, G, hi, rfl, rfl, hos, hP, hD, hnear, hbq⟩ := hrel
          have HI := Lib.hid hi
          have hblw : w.heap.size < bl := by have := HBL.out; have := HBF.out; have := HSW.out; omega
          have hdq : wr.heap[w.heap.size]? = some (Obj.cells #[Value.int IntKind.i64 K, Value.int IntKind.i64 (F 1), Value.int IntKind.i64 (F 2), Value.int IntKind.i64 (F 3), Value.int IntKind.i64 (F 4), Value.slice A5 bs.length c5] 63) := by rw [hnear.heap _ (heap_lt HDZ.out) (by omega)]; exact HDZ.out
          have HDQ := Lib.hid hdq
          clear hdq HPF
          by_cases ilt : (i : Int) < (fN r : Int)
          · have idec := decide_eq_true ilt
            have ilt2 : i < fN r := by omega
            have idec2 : decide (i < fN r) = true := decide_eq_true ilt2
            have ei : IntKind.i64.wrap ((i : Int) + 1) = (i : Int) + 1 := IntWalk.i64_in _ (by omega)
            have g1 : wr.cell? ⟨P + r, i, none⟩ = some (.func (.func (fG (fK r i))) #[] #[]) := by
              have := HF.out r hlt2
              rw [hnear.cell _ _ (by have := HFZ.out.below; omega) (by have := this.below; have := HBL.out; have := HBF.out; omega)]
              exact HFZ.out.get i ilt2
            have hP2 := hP.out
            rw [show gk = (gk - 1) + 1 by omega, lineGo] at hP2
            have hfk := fK_rg r i
            obtain ⟨k, hk⟩ : ∃ k, k = fK r i := ⟨_, rfl⟩
            rw [← hk] at hfk g1 hP2
            have hget := fun W => get_any W w.heap.size k hfk
            have hget2 := fun W => get_any W bl k hfk
            have hk4 : k = 1 ∨ k = 2 ∨ k = 3 ∨ k = 4 := by omega
            have HP2 := Lib.hid hP2
            have hi2 : i ≤ 1 := by omega
            clear hfk hk hP hP2 hi
            obtain ⟨n, hn⟩ : ∃ n, n = F k := ⟨_, rfl⟩
            have HN := Lib.hid hn
            have hcp := HP2.out
            rw [← hn] at hcp
            have HCP := Lib.hid hcp
            clear hcp HP2 hn
            by_cases hn0 : 0 ≤ n
            · by_cases hn1 : n ≤ 4611686018427387904
              · have hcp2 := HCP.out
                rw [if_pos ⟨hn0, hn1⟩] at hcp2
                have HCP2 := Lib.hid hcp2
                have dn0 : decide (n < 0) = false := decide_eq_false (by omega)
                have dn1 : decide ((4611686018427387904 : Int) < n) = false := decide_eq_false (by omega)
                have hsz := itoaB_size n hn0 hn1
                have hT : Tab wr := Lib.tabBelow_of_tabIs HG.out wr hbq
                have hitoa : Calls Tryd.prog 78 #[.int .i64 n] wr fun e w' => e = .returned (.string (itoaB n)) ∧ Below wr.heap.size wr w' :=
                  (Tryd.strconv_Itoa n (by omega) (by omega) wr hT).mono fun e w' ⟨he, k, os, hw⟩ => ⟨he, by rw [hw]; exact Lib.below_grow _ wr (Nat.le_refl _) k os⟩
                obtain ⟨T, hTT⟩ : ∃ T, T = itoaB n := ⟨_, rfl⟩
                rw [← hTT] at hsz hitoa
                have HTT := Lib.hid hTT
                have HIT := Lib.hid hitoa
                have hblq : bl < wr.heap.size := heap_lt hD.out
                have s1 : (⟨#[32]⟩ : ByteArray).size + T.size ≤ 9223372036854775807 := by have : (⟨#[32]⟩ : ByteArray).size = 1 := rfl; omega
                have s2 : out.size + ((⟨#[32]⟩ : ByteArray) ++ T).size ≤ 9223372036854775807 := by rw [ByteArray.size_append]; have : (⟨#[32]⟩ : ByteArray).size = 1 := rfl; omega
                have hos2 : (out ++ ((⟨#[32]⟩ : ByteArray) ++ T)).size ≤ 7 + 22 * (i + 1) := by rw [ByteArray.size_append, ByteArray.size_append]; have : (⟨#[32]⟩ : ByteArray).size = 1 := rfl; omega
                have HOS := Lib.hid hos2
                have HBLQ := Lib.hid hblq
                clear hcp2 hT hitoa HCP hTT hos2 hblq
                rcases hk4 with rfl | rfl | rfl | rfl
                · have dk := cell_app wr w.heap.size 1 _ _ (.int .i64 (F 1)) HDQ.out rfl
                  rw [← HN.out] at dk
                  replace hget := fun W => (show Calls Tryd.prog 112 #[.pointer (some ⟨w.heap.size, 0, none⟩)] W _ from hget W)
                  replace hget2 := fun W => (show Calls Tryd.prog 112 #[.pointer (some ⟨bl, 0, none⟩)] W _ from hget2 W)
                  rw [show fG 1 = 112 from rfl] at g1
                  go_wp2_with (first
                    | (go_at_call 112; (with_reducible refine (hget _).mono ?_); rintro e w' ⟨rfl, rfl⟩)
                    | (go_at_call 78; (with_reducible refine (HIT.out).mono ?_); rintro e w2 ⟨rfl, hb2⟩; have hD2 := Lib.hid ((hb2.block bl HBLQ.out).trans hD.out); have dk2 := cell_app w2 bl 1 _ _ (.int .i64 (G 1)) hD2.out rfl; have fk2 := frz_app w2 bl 1 _ _ hD2.out; have g2 : w2.cell? ⟨P + r, i, none⟩ = some (.func (.func 112) #[] #[]) := (hb2.cell (p := ⟨P + r, i, none⟩) (World.block_lt_of_cell? _ _ g1)).trans g1; have hst2 := Lib.hid (set_heap w2 bl 1 (.int .i64 0) _ _ hD2.out); have hn2 : Hid (Near bl wz w2) := Lib.hid ⟨fun k hk hne => (hb2.block k (Nat.lt_of_lt_of_le hk hnear.size)).trans (hnear.heap k hk hne), Nat.le_trans hnear.size hb2.size⟩; have hbb2 := Lib.hid (hbq.trans (hb2.mono hbq.size)))
                    | (go_at_call 112; (with_reducible refine (hget2 _).mono ?_); rintro e w' ⟨rfl, rfl⟩))
                  go_roundg (gk - 1)
                  case measure => have := HI.out; omega
                  case rel =>
                    refine ⟨i + 1, out ++ ((⟨#[32]⟩ : ByteArray) ++ T), setF G 1 0, by have := HI.out; omega, by go_num, by go_num, HOS.out, ?_, ?_, (hn2.out).set _ _, (hbb2.out).setCell (p := ⟨bl, 1, none⟩) (show w.heap.size ≤ bl by have := HBL.out; have := HBF.out; have := HSW.out; omega) _⟩
                    · have := HCP2.out
                      rw [← HTT.out] at this
                      exact Lib.hid this
                    · exact hst2
                · have dk := cell_app wr w.heap.size 2 _ _ (.int .i64 (F 2)) HDQ.out rfl
                  rw [← HN.out] at dk
                  replace hget := fun W => (show Calls Tryd.prog 111 #[.pointer (some ⟨w.heap.size, 0, none⟩)] W _ from hget W)
                  replace hget2 := fun W => (show Calls Tryd.prog 111 #[.pointer (some ⟨bl, 0, none⟩)] W _ from hget2 W)
                  rw [show fG 2 = 111 from rfl] at g1
                  go_wp2_with (first
                    | (go_at_call 111; (with_reducible refine (hget _).mono ?_); rintro e w' ⟨rfl, rfl⟩)
                    | (go_at_call 78; (with_reducible refine (HIT.out).mono ?_); rintro e w2 ⟨rfl, hb2⟩; have hD2 := Lib.hid ((hb2.block bl HBLQ.out).trans hD.out); have dk2 := cell_app w2 bl 2 _ _ (.int .i64 (G 2)) hD2.out rfl; have fk2 := frz_app w2 bl 2 _ _ hD2.out; have g2 : w2.cell? ⟨P + r, i, none⟩ = some (.func (.func 111) #[] #[]) := (hb2.cell (p := ⟨P + r, i, none⟩) (World.block_lt_of_cell? _ _ g1)).trans g1; have hst2 := Lib.hid (set_heap w2 bl 2 (.int .i64 0) _ _ hD2.out); have hn2 : Hid (Near bl wz w2) := Lib.hid ⟨fun k hk hne => (hb2.block k (Nat.lt_of_lt_of_le hk hnear.size)).trans (hnear.heap k hk hne), Nat.le_trans hnear.size hb2.size⟩; have hbb2 := Lib.hid (hbq.trans (hb2.mono hbq.size)))
                    | (go_at_call 111; (with_reducible refine (hget2 _).mono ?_); rintro e w' ⟨rfl, rfl⟩))
                  go_roundg (gk - 1)
                  case measure => have := HI.out; omega
                  case rel =>
                    refine ⟨i + 1, out ++ ((⟨#[32]⟩ : ByteArray) ++ T), setF G 2 0, by have := HI.out; omega, by go_num, by go_num, HOS.out, ?_, ?_, (hn2.out).set _ _, (hbb2.out).setCell (p := ⟨bl, 2, none⟩) (show w.heap.size ≤ bl by have := HBL.out; have := HBF.out; have := HSW.out; omega) _⟩
                    · have := HCP2.out
                      rw [← HTT.out] at this
                      exact Lib.hid this
                    · exact hst2
                · have dk := cell_app wr w.heap.size 3 _ _ (.int .i64 (F 3)) HDQ.out rfl
                  rw [← HN.out] at dk
                  replace hget := fun W => (show Calls Tryd.prog 113 #[.pointer (some ⟨w.heap.size, 0, none⟩)] W _ from hget W)
                  replace hget2 := fun W => (show Calls Tryd.prog 113 #[.pointer (some ⟨bl, 0, none⟩)] W _ from hget2 W)
                  rw [show fG 3 = 113 from rfl] at g1
                  go_wp2_with (first
                    | (go_at_call 113; (with_reducible refine (hget _).mono ?_); rintro e w' ⟨rfl, rfl⟩)
                    | (go_at_call 78; (with_reducible refine (HIT.out).mono ?_); rintro e w2 ⟨rfl, hb2⟩; have hD2 := Lib.hid ((hb2.block bl HBLQ.out).trans hD.out); have dk2 := cell_app w2 bl 3 _ _ (.int .i64 (G 3)) hD2.out rfl; have fk2 := frz_app w2 bl 3 _ _ hD2.out; have g2 : w2.cell? ⟨P + r, i, none⟩ = some (.func (.func 113) #[] #[]) := (hb2.cell (p := ⟨P + r, i, none⟩) (World.block_lt_of_cell? _ _ g1)).trans g1; have hst2 := Lib.hid (set_heap w2 bl 3 (.int .i64 0) _ _ hD2.out); have hn2 : Hid (Near bl wz w2) := Lib.hid ⟨fun k hk hne => (hb2.block k (Nat.lt_of_lt_of_le hk hnear.size)).trans (hnear.heap k hk hne), Nat.le_trans hnear.size hb2.size⟩; have hbb2 := Lib.hid (hbq.trans (hb2.mono hbq.size)))
                    | (go_at_call 113; (with_reducible refine (hget2 _).mono ?_); rintro e w' ⟨rfl, rfl⟩))
                  go_roundg (gk - 1)
                  case measure => have := HI.out; omega
                  case rel =>
                    refine ⟨i + 1, out ++ ((⟨#[32]⟩ : ByteArray) ++ T), setF G 3 0, by have := HI.out; omega, by go_num, by go_num, HOS.out, ?_, ?_, (hn2.out).set _ _, (hbb2.out).setCell (p := ⟨bl, 3, none⟩) (show w.heap.size ≤ bl by have := HBL.out; have := HBF.out; have := HSW.out; omega) _⟩
                    · have := HCP2.out
                      rw [← HTT.out] at this
                      exact Lib.hid this
                    · exact hst2
                · have dk := cell_app wr w.heap.size 4 _ _ (.int .i64 (F 4)) HDQ.out rfl
                  rw [← HN.out] at dk
                  replace hget := fun W => (show Calls Tryd.prog 114 #[.pointer (some ⟨w.heap.size, 0, none⟩)] W _ from hget W)
                  replace hget2 := fun W => (show Calls Tryd.prog 114 #[.pointer (some ⟨bl, 0, none⟩)] W _ from hget2 W)
                  rw [show fG 4 = 114 from rfl] at g1
                  go_wp2_with (first
                    | (go_at_call 114; (with_reducible refine (hget _).mono ?_); rintro e w' ⟨rfl, rfl⟩)
                    | (go_at_call 78; (with_reducible refine (HIT.out).mono ?_); rintro e w2 ⟨rfl, hb2⟩; have hD2 := Lib.hid ((hb2.block bl HBLQ.out).trans hD.out); have dk2 := cell_app w2 bl 4 _ _ (.int .i64 (G 4)) hD2.out rfl; have fk2 := frz_app w2 bl 4 _ _ hD2.out; have g2 : w2.cell? ⟨P + r, i, none⟩ = some (.func (.func 114) #[] #[]) := (hb2.cell (p := ⟨P + r, i, none⟩) (World.block_lt_of_cell? _ _ g1)).trans g1; have hst2 := Lib.hid (set_heap w2 bl 4 (.int .i64 0) _ _ hD2.out); have hn2 : Hid (Near bl wz w2) := Lib.hid ⟨fun k hk hne => (hb2.block k (Nat.lt_of_lt_of_le hk hnear.size)).trans (hnear.heap k hk hne), Nat.le_trans hnear.size hb2.size⟩; have hbb2 := Lib.hid (hbq.trans (hb2.mono hbq.size)))
                    | (go_at_call 114; (with_reducible refine (hget2 _).mono ?_); rintro e w' ⟨rfl, rfl⟩))
                  go_roundg (gk - 1)
                  case measure => have := HI.out; omega
                  case rel =>
                    refine ⟨i + 1, out ++ ((⟨#[32]⟩ : ByteArray) ++ T), setF G 4 0, by have := HI.out; omega, by go_num, by go_num, HOS.out, ?_, ?_, (hn2.out).set _ _, (hbb2.out).setCell (p := ⟨bl, 4, none⟩) (show w.heap.size ≤ bl by have := HBL.out; have := HBF.out; have := HSW.out; omega) _⟩
                    · have := HCP2.out
                      rw [← HTT.out] at this
                      exact Lib.hid this
                    · exact hst2
              · have dn0 : decide (n < 0) = false := decide_eq_false (by omega)
                have hcp2 := HCP.out
                rw [if_neg (fun h => hn1 h.2)] at hcp2
                have hR0 : (⟨#[]⟩, 2) = R := by have := HHP.out; rw [← hcp2] at this; exact this
                have HR0 := Lib.hid hR0
                have dn1 : decide ((4611686018427387904 : Int) < n) = true := decide_eq_true (by omega)
                clear hcp2 hR0 HCP
                rcases hk4 with rfl | rfl | rfl | rfl
                · have dk := cell_app wr w.heap.size 1 _ _ (.int .i64 (F 1)) HDQ.out rfl
                  rw [← HN.out] at dk
                  replace hget := fun W => (show Calls Tryd.prog 112 #[.pointer (some ⟨w.heap.size, 0, none⟩)] W _ from hget W)
                  rw [show fG 1 = 112 from rfl] at g1
                  go_wp2_with (go_at_call 112; (with_reducible refine (hget _).mono ?_); rintro e w' ⟨rfl, rfl⟩)
                  go_ret2
                  exact ⟨by rw [← HR0.out]; rfl, hbq⟩
                · have dk := cell_app wr w.heap.size 2 _ _ (.int .i64 (F 2)) HDQ.out rfl
                  rw [← HN.out] at dk
                  replace hget := fun W => (show Calls Tryd.prog 111 #[.pointer (some ⟨w.heap.size, 0, none⟩)] W _ from hget W)
                  rw [show fG 2 = 111 from rfl] at g1
                  go_wp2_with (go_at_call 111; (with_reducible refine (hget _).mono ?_); rintro e w' ⟨rfl, rfl⟩)
                  go_ret2
                  exact ⟨by rw [← HR0.out]; rfl, hbq⟩
                · have dk := cell_app wr w.heap.size 3 _ _ (.int .i64 (F 3)) HDQ.out rfl
                  rw [← HN.out] at dk
                  replace hget := fun W => (show Calls Tryd.prog 113 #[.pointer (some ⟨w.heap.size, 0, none⟩)] W _ from hget W)
                  rw [show fG 3 = 113 from rfl] at g1
                  go_wp2_with (go_at_call 113; (with_reducible refine (hget _).mono ?_); rintro e w' ⟨rfl, rfl⟩)
                  go_ret2
                  exact ⟨by rw [← HR0.out]; rfl, hbq⟩
                · have dk := cell_app wr w.heap.size 4 _ _ (.int .i64 (F 4)) HDQ.out rfl
                  rw [← HN.out] at dk
                  replace hget := fun W => (show Calls Tryd.prog 114 #[.pointer (some ⟨w.heap.size, 0, none⟩)] W _ from hget W)
                  rw [show fG 4 = 114 from rfl] at g1
                  go_wp2_with (go_at_call 114; (with_reducible refine (hget _).mono ?_); rintro e w' ⟨rfl, rfl⟩)
                  go_ret2
                  exact ⟨by rw [← HR0.out]; rfl, hbq⟩
            · have dn0 : decide (n < 0) = true := decide_eq_true (by omega)
              have hcp2 := HCP.out
              rw [if_neg (fun h => hn0 h.1)] at hcp2
              have hR0 : (⟨#[]⟩, 2) = R := by have := HHP.out; rw [← hcp2] at this; exact this
              have HR0 := Lib.hid hR0
              clear hcp2 hR0 HCP
              rcases hk4 with rfl | rfl | rfl | rfl
              · have dk := cell_app wr w.heap.size 1 _ _ (.int .i64 (F 1)) HDQ.out rfl
                rw [← HN.out] at dk
                replace hget := fun W => (show Calls Tryd.prog 112 #[.pointer (some ⟨w.heap.size, 0, none⟩)] W _ from hget W)
                rw [show fG 1 = 112 from rfl] at g1
                go_wp2_with (go_at_call 112; (with_reducible refine (hget _).mono ?_); rintro e w' ⟨rfl, rfl⟩)
                go_ret2
                exact ⟨by rw [← HR0.out]; rfl, hbq⟩
              · have dk := cell_app wr w.heap.size 2 _ _ (.int .i64 (F 2)) HDQ.out rfl
                rw [← HN.out] at dk
                replace hget := fun W => (show Calls Tryd.prog 111 #[.pointer (some ⟨w.heap.size, 0, none⟩)] W _ from hget W)
                rw [show fG 2 = 111 from rfl] at g1
                go_wp2_with (go_at_call 111; (with_reducible refine (hget _).mono ?_); rintro e w' ⟨rfl, rfl⟩)
                go_ret2
                exact ⟨by rw [← HR0.out]; rfl, hbq⟩
              · have dk := cell_app wr w.heap.size 3 _ _ (.int .i64 (F 3)) HDQ.out rfl
                rw [← HN.out] at dk
                replace hget := fun W => (show Calls Tryd.prog 113 #[.pointer (some ⟨w.heap.size, 0, none⟩)] W _ from hget W)
                rw [show fG 3 = 113 from rfl] at g1
                go_wp2_with (go_at_call 113; (with_reducible refine (hget _).mono ?_); rintro e w' ⟨rfl, rfl⟩)
                go_ret2
                exact ⟨by rw [← HR0.out]; rfl, hbq⟩
              · have dk := cell_app wr w.heap.size 4 _ _ (.int .i64 (F 4)) HDQ.out rfl
                rw [← HN.out] at dk
                replace hget := fun W => (show Calls Tryd.prog 114 #[.pointer (some ⟨w.heap.size, 0, none⟩)] W _ from hget W)
                rw [show fG 4 = 114 from rfl] at g1
                go_wp2_with (go_at_call 114; (with_reducible refine (hget _).mono ?_); rintro e w' ⟨rfl, rfl⟩)
                go_ret2
                exact ⟨by rw [← HR0.out]; rfl, hbq⟩
          · have idec := decide_eq_false ilt
            have hg0 : gk = 0 := by omega
            subst hg0
            have hP2 := hP.out
            rw [lineGo] at hP2
            have hh := HHP.out
            rw [← hP2] at hh
            have hh2 : lineEnd r out G bs = R := hh
            have HE := Lib.hid hh2
            have dq5 := cell_app wr w.heap.size 5 _ _ _ HDQ.out rfl
            have hfb : wr.heap[bf]? = _ := (hnear.heap bf (heap_lt HZ2.out) (by have := HBL.out; omega)).trans HZ2.out
            have z4 := cell_app wr bf 3 _ _ _ hfb rfl
            have l1 := cell_app wr bl 1 _ _ (.int .i64 (G 1)) hD.out rfl
            have l2 := cell_app wr bl 2 _ _ (.int .i64 (G 2)) hD.out rfl
            have l3 := cell_app wr bl 3 _ _ (.int .i64 (G 3)) hD.out rfl
            have l4 := cell_app wr bl 4 _ _ (.int .i64 (G 4)) hD.out rfl
            have ilt3 : ¬ (i < fN r) := by omega
            have idec3 : decide (i < fN r) = false := decide_eq_false ilt3
            clear hP2 hh hh2 hfb HHP hP
            by_cases h1 : G 1 = 0
            · have b1 : (G 1 != 0) = false := bne_eq_false_iff_eq.mpr h1
              have c1 : (G 1 == 0) = true := beq_iff_eq.mpr h1
              by_cases h2 : G 2 = 0
              · have b2 : (G 2 != 0) = false := bne_eq_false_iff_eq.mpr h2
                have c2 : (G 2 == 0) = true := beq_iff_eq.mpr h2
                by_cases h3 : G 3 = 0
                · have b3 : (G 3 != 0) = false := bne_eq_false_iff_eq.mpr h3
                  have c3 : (G 3 == 0) = true := beq_iff_eq.mpr h3
                  by_cases h4 : G 4 = 0
                  · have b4 : (G 4 != 0) = false := bne_eq_false_iff_eq.mpr h4
                    have c4 : (G 4 == 0) = true := beq_iff_eq.mpr h4
                    by_cases hl : 0 < bs.length
                    · have hl1 : decide (0 < bs.length) = true := decide_eq_true hl
                      have hl2 : decide ((0 : Int) < (bs.length : Int)) = true := decide_eq_true (by omega)
                      by_cases h6 : r = 6
                      · have h6d : decide (r = 6) = true := decide_eq_true h6
                        have HH6 := Lib.hid h6
                        have HR0 : Hid ((out ++ (⟨#[32]⟩ ++ ⟨(Th.hexL bs).toArray⟩), 0) = R) := Lib.hid (by have := HE.out; rw [lineEnd, if_neg (by omega), if_pos hl] at this; exact this)
                        have hhex := Th.hex_Text.calls A5 c5 bs ⟨(Th.hexL bs).toArray⟩ wr (Kd.C_below HC.out hbq) hc5 (by unfold Th.hex_Text.f; rw [if_pos]; rw [Bool.and_eq_true]; exact ⟨List.all_eq_true.2 (fun x hx => by have := HY.out x hx; simp [this]), decide_eq_true hl5⟩)
                        obtain ⟨T, hT⟩ : ∃ T, T = (⟨(Th.hexL bs).toArray⟩ : ByteArray) := ⟨_, rfl⟩
                        have hsz : T.size ≤ 2000000 := by rw [hT]; have := Th.hexL_len bs; show (Th.hexL bs).toArray.size ≤ 2000000; simp; omega
                        rw [← hT] at hhex
                        have HHX := Lib.hid hhex
                        have HTT := Lib.hid hT
                        have s1 : (⟨#[32]⟩ : ByteArray).size + T.size ≤ 9223372036854775807 := by have : (⟨#[32]⟩ : ByteArray).size = 1 := rfl; omega
                        have s2 : out.size + ((⟨#[32]⟩ : ByteArray) ++ T).size ≤ 9223372036854775807 := by rw [ByteArray.size_append]; have : (⟨#[32]⟩ : ByteArray).size = 1 := rfl; have : fN r ≤ 2 := hfn; omega
                        clear hhex hT h6 h1 h2 h3 h4
                        go_wp2_with (go_at_call 79; (with_reducible refine (HHX.out).mono ?_); rintro e w2 ⟨rfl, hb2⟩)
                        go_ret2
                        exact ⟨by rw [← HR0.out, HTT.out]; rfl, hbq.trans (hb2.mono hbq.size)⟩
                      · have h6d : decide (r = 6) = false := decide_eq_false h6
                        have HR0 : Hid ((⟨#[]⟩, 2) = R) := Lib.hid (by have := HE.out; rw [lineEnd, if_pos (by first | omega | (simp only [ne_eq]; omega))] at this; exact this)
                        clear h1 h2 h3 h4 h6
                        go_wp2
                        go_ret2
                        exact ⟨by rw [← HR0.out]; rfl, hbq⟩
                    · have hl1 : decide (0 < bs.length) = false := decide_eq_false hl
                      have hl2 : decide ((0 : Int) < (bs.length : Int)) = false := decide_eq_false (by omega)
                      by_cases h6 : r = 6
                      · have h6d : decide (r = 6) = true := decide_eq_true h6
                        have HR0 : Hid ((out, 0) = R) := Lib.hid (by have := HE.out; rw [lineEnd, if_neg (by omega), if_neg (by omega)] at this; exact this)
                        clear h1 h2 h3 h4 h6
                        go_wp2
                        go_ret2
                        exact ⟨by rw [← HR0.out]; rfl, hbq⟩
                      · have h6d : decide (r = 6) = false := decide_eq_false h6
                        have HR0 : Hid ((out, 0) = R) := Lib.hid (by have := HE.out; rw [lineEnd, if_neg (by omega), if_neg (by omega)] at this; exact this)
                        clear h1 h2 h3 h4 h6
                        go_wp2
                        go_ret2
                        exact ⟨by rw [← HR0.out]; rfl, hbq⟩
                  · have b4 : (G 4 != 0) = true := bne_iff_ne.mpr h4
                    have c4 : (G 4 == 0) = false := beq_eq_false_iff_ne.mpr h4
                    have HR0 : Hid ((⟨#[]⟩, 2) = R) := Lib.hid (by have := HE.out; rw [lineEnd, if_pos (by first | omega | (simp only [ne_eq]; omega))] at this; exact this)
                    clear h1 h2 h3 h4
                    go_wp2
                    go_ret2
                    exact ⟨by rw [← HR0.out]; rfl, hbq⟩
                · have b3 : (G 3 != 0) = true := bne_iff_ne.mpr h3
                  have c3 : (G 3 == 0) = false := beq_eq_false_iff_ne.mpr h3
                  have HR0 : Hid ((⟨#[]⟩, 2) = R) := Lib.hid (by have := HE.out; rw [lineEnd, if_pos (by first | omega | (simp only [ne_eq]; omega))] at this; exact this)
                  clear h1 h2 h3
                  go_wp2
                  go_ret2
                  exact ⟨by rw [← HR0.out]; rfl, hbq⟩
              · have b2 : (G 2 != 0) = true := bne_iff_ne.mpr h2
                have c2 : (G 2 == 0) = false := beq_eq_false_iff_ne.mpr h2
                have HR0 : Hid ((⟨#[]⟩, 2) = R) := Lib.hid (by have := HE.out; rw [lineEnd, if_pos (by first | omega | (simp only [ne_eq]; omega))] at this; exact this)
                clear h1 h2
                go_wp2
                go_ret2
                exact ⟨by rw [← HR0.out]; rfl, hbq⟩
            · have b1 : (G 1 != 0) = true := bne_iff_ne.mpr h1
              have c1 : (G 1 == 0) = false := beq_eq_false_iff_ne.mpr h1
              have HR0 : Hid ((⟨#[]⟩, 2) = R) := Lib.hid (by have := HE.out; rw [lineEnd, if_pos (by first | omega | (simp only [ne_eq]; omega))] at this; exact this)
              clear h1
              go_wp2
              go_ret2
              exact ⟨by rw [← HR0.out]; rfl, hbq⟩
      · rw [if_neg hw] at HH
        have HHIT := Lib.hid HH
        have hwb : (((r : Int) + 1) != K) = true := bne_iff_ne.mpr hw
        have hwb2 : (((r : Int) + 1) == K) = false := beq_eq_false_iff_ne.mpr hw
        have ei : IntKind.i64.wrap ((r : Int) + 1) = (r : Int) + 1 := IntWalk.i64_in _ (by omega)
        clear hw HH
        go_wp2
        go_roundg (gk - 1)
        case measure => have := HRR.out; omega
        case rel => exact ⟨r + 1, by have := HRR.out; omega, by go_num, HHIT, hbx⟩
    · have hdec := decide_eq_false hlt
      have hg0 : gk = 0 := by omega
      subst hg0
      have hR0 : (⟨#[]⟩, 2) = R := by have := hH.out; rw [lineHit] at this; exact this
      have HR0 := Lib.hid hR0
      have hbq : Below w.heap.size w wr := (hbw.trans (hb1.mono hbw.size)).trans (hb.mono (Nat.le_trans hbw.size hb1.size))
      clear hR0 hH
      go_wp2
      go_ret2
      exact ⟨by rw [← HR0.out]; rfl, hbq⟩
end Go.Proofs.YtpeebjnfmlfocaaDoor.TpR
namespace Go.Proofs.YtpeebjnfmlfocaaDoor.Th
open Go.RowKit Go.Proofs.YtpeebjnfmlfocaaDoorW.PrintWords Go.Proofs.YtpeebjnfmlfocaaDoorW.PrintLast Go.Proofs.YtpeebjnfmlfocaaDoorW.PrintMore
set_option linter.unusedVariables false
def bs (l : List UInt8) : ByteArray := ⟨l.toArray⟩
end Go.Proofs.YtpeebjnfmlfocaaDoor.Th
namespace Go.Proofs.YtpeebjnfmlfocaaDoor.TpR
open Go.RowKit Go.Proofs.YtpeebjnfmlfocaaDoorW.PrintWords Go.Proofs.YtpeebjnfmlfocaaDoorW.PrintLast Go.Proofs.YtpeebjnfmlfocaaDoorW.PrintMore
set_option linter.unusedVariables false
set_option linter.unusedSimpArgs false
theorem itoaB_nat (u : Nat) : itoaB (u : Int) = ⟨(Lib.decDigits u).toArray⟩ := by unfold itoaB; rw [Lib.itoa_nonneg]
def mayB (n : Int) : Prop := 0 ≤ n ∧ n ≤ 4611686018427387904
end Go.Proofs.YtpeebjnfmlfocaaDoor.TpR
namespace Go.Proofs.YtpeebjnfmlfocaaDoor.TpR
open Go.RowKit Go.Proofs.YtpeebjnfmlfocaaDoorW.PrintWords Go.Proofs.YtpeebjnfmlfocaaDoorW.PrintLast Go.Proofs.YtpeebjnfmlfocaaDoorW.PrintMore
set_option linter.unusedVariables false
set_option linter.unusedSimpArgs false
def rlG (K N I D P : Int) (n : Nat) (dS : Int → ByteArray) (T : ByteArray) : ByteArray × Bool :=
  if K = 1 ∧ N = 0 ∧ D = 0 ∧ P = 0 then ((⟨#[100, 101, 108, 105, 118, 101, 114, 32]⟩ : ByteArray) ++ dS I, true) else
  if K = 2 ∧ N = 0 ∧ D = 0 ∧ P = 0 then ((⟨#[99, 111, 112, 121, 32]⟩ : ByteArray) ++ dS I, true) else
  if K = 3 ∧ N = 0 ∧ D = 0 ∧ P = 0 then ((⟨#[108, 111, 115, 101, 32]⟩ : ByteArray) ++ dS I, true) else
  if K = 4 ∧ I = 0 ∧ P = 0 then ((⟨#[116, 105, 99, 107, 32]⟩ : ByteArray) ++ dS N ++ ⟨#[32]⟩ ++ dS D, true) else
  if K = 5 ∧ N = 0 ∧ D = 0 then ((⟨#[116, 101, 97, 114, 32]⟩ : ByteArray) ++ dS I ++ ⟨#[32]⟩ ++ dS P, true) else
  if K = 6 ∧ I = 0 ∧ D = 0 ∧ P = 0 then ((⟨#[102, 97, 108, 108, 32]⟩ : ByteArray) ++ dS N, true) else
  if K = 7 ∧ D = 0 ∧ P = 0 then (if 0 < n then (⟨#[105, 110, 106, 101, 99, 116, 32]⟩ : ByteArray) ++ dS N ++ ⟨#[32]⟩ ++ dS I ++ ⟨#[32]⟩ ++ T else (⟨#[105, 110, 106, 101, 99, 116, 32]⟩ : ByteArray) ++ dS N ++ ⟨#[32]⟩ ++ dS I, true) else
  (⟨#[]⟩, false)
instance (n : Int) : Decidable (mayB n) := by unfold mayB; infer_instance
def rlBad (K N I D P : Int) (n : Nat) : Prop := ¬ mayB N ∨ ¬ mayB I ∨ ¬ mayB D ∨ ¬ mayB P ∨ (K ≠ 7 ∧ 0 < n)
instance (K N I D P : Int) (n : Nat) : Decidable (rlBad K N I D P n) := by unfold rlBad; infer_instance
def refLine (K N I D P : Int) (bs : List Int) : ByteArray × Bool := if rlBad K N I D P bs.length then (⟨#[]⟩, false) else rlG K N I D P bs.length itoaB ⟨(Th.hexL bs).toArray⟩
theorem rl_good_pre (K N I D P : Int) (n : Nat) (h : ¬ rlBad K N I D P n) : mayB N ∧ mayB I ∧ mayB D ∧ mayB P ∧ (K = 7 ∨ n = 0) := by
  unfold rlBad at h
  refine ⟨?_, ?_, ?_, ?_, ?_⟩
  · exact Classical.byContradiction fun x => h (.inl x)
  · exact Classical.byContradiction fun x => h (.inr (.inl x))
  · exact Classical.byContradiction fun x => h (.inr (.inr (.inl x)))
  · exact Classical.byContradiction fun x => h (.inr (.inr (.inr (.inl x))))
  · by_cases hk : K = 7
    · exact .inl hk
    · exact .inr (Nat.eq_zero_of_not_pos fun x => h (.inr (.inr (.inr (.inr ⟨hk, x⟩)))))
end Go.Proofs.YtpeebjnfmlfocaaDoor.TpR
namespace Go.Proofs.YtpeebjnfmlfocaaDoor.TpR
open Go.RowKit Go.Proofs.YtpeebjnfmlfocaaDoorW.PrintWords Go.Proofs.YtpeebjnfmlfocaaDoorW.PrintLast Go.Proofs.YtpeebjnfmlfocaaDoorW.PrintMore
set_option linter.unusedVariables false
end Go.Proofs.YtpeebjnfmlfocaaDoor.TpR
namespace Go.Proofs.YtpeebjnfmlfocaaDoor.Tp
open Go.RowKit Go.Proofs.YtpeebjnfmlfocaaDoorW.PrintWords Go.Proofs.YtpeebjnfmlfocaaDoorW.PrintLast Go.Proofs.YtpeebjnfmlfocaaDoorW.PrintMore
set_option linter.unusedVariables false
def fldF (n i d k : Int) : Nat → Int
  | 1 => n
  | 2 => i
  | 3 => d
  | _ => k
end Go.Proofs.YtpeebjnfmlfocaaDoor.Tp
namespace Go.Proofs.YtpeebjnfmlfocaaDoor.Tp
open Go.RowKit Go.Proofs.YtpeebjnfmlfocaaDoorW.PrintWords Go.Proofs.YtpeebjnfmlfocaaDoorW.PrintLast Go.Proofs.YtpeebjnfmlfocaaDoorW.PrintMore
set_option linter.unusedVariables false
def lineS (x : S63) : ByteArray × Int := TpR.lineHit x.f0 (fldF x.f1 x.f2 x.f3 x.f4) x.f5 7 0
def printGo : List S63 → Nat → List UInt8 → ByteArray × Int × Int
  | [], _, acc => (⟨acc.toArray⟩, 0, 0)
  | x :: l, i, acc => if (lineS x).2 = 0 then printGo l (i + 1) (acc ++ (lineS x).1.data.toList ++ [10]) else (⟨#[]⟩, (i : Int) + 1, (lineS x).2)
def Fit (x : S63) : Prop := (∀ y ∈ x.f5, 0 ≤ y ∧ y ≤ 255) ∧ x.f5.length ≤ 100000
theorem lineEnd_size (r : Nat) (out : ByteArray) (G : Nat → Int) (bs : List Int) : (TpR.lineEnd r out G bs).1.size ≤ out.size + 1 + 2 * bs.length := by
  unfold TpR.lineEnd
  split
  · show 0 ≤ _; omega
  · split
    · show (out ++ (⟨#[32]⟩ ++ ⟨(Th.hexL bs).toArray⟩)).size ≤ _
      rw [ByteArray.size_append, ByteArray.size_append]
      have h1 : (⟨(Th.hexL bs).toArray⟩ : ByteArray).size = (Th.hexL bs).length := by show (Th.hexL bs).toArray.size = _; simp
      have h2 : (⟨#[32]⟩ : ByteArray).size = 1 := rfl
      rw [h1, h2, Th.hexL_len]
      omega
    · show out.size ≤ _; omega
theorem lineGo_size (r : Nat) (F : Nat → Int) : ∀ (m i : Nat) (out : ByteArray) (G : Nat → Int) (x : ByteArray × (Nat → Int)), TpR.lineGo r F m i out G = some x → x.1.size ≤ out.size + 22 * m
  | 0, i, out, G, x, h => by
    rw [TpR.lineGo] at h
    rw [← Option.some.inj h]
    exact Nat.le_refl _
  | m + 1, i, out, G, x, h => by
    rw [TpR.lineGo] at h
    split at h
    · rename_i hc
      have := lineGo_size r F m (i + 1) _ _ x h
      have h2 := TpR.itoaB_size _ hc.1 hc.2
      have h3 : (⟨#[32]⟩ : ByteArray).size = 1 := rfl
      rw [ByteArray.size_append, ByteArray.size_append] at this
      omega
    · cases h
theorem lineAt_size (r : Nat) (F : Nat → Int) (bs : List Int) : (TpR.lineAt r F bs).1.size ≤ 60 + 2 * bs.length := by
  unfold TpR.lineAt
  split
  · show 0 ≤ _; omega
  · rename_i x hx
    have h1 := lineGo_size r F (TpR.fN r) 0 (TpR.fWord r) F x hx
    have h2 := TpR.fWord_size r
    have h3 : TpR.fN r ≤ 2 := by unfold TpR.fN; split <;> decide
    have h4 := lineEnd_size r x.1 x.2 bs
    omega
theorem lineHit_size (K : Int) (F : Nat → Int) (bs : List Int) : ∀ m r, (TpR.lineHit K F bs m r).1.size ≤ 60 + 2 * bs.length
  | 0, r => Nat.zero_le _
  | m + 1, r => by
    rw [TpR.lineHit]
    split
    · exact lineAt_size r F bs
    · exact lineHit_size K F bs m (r + 1)
theorem line_call (x : S63) (hx : Fit x) (w : World) (hG : TpR.Tab w) (A5 : Option Addr) (c5 : Nat) (hC5 : (Kd.int .u8).C w A5 x.f5.length x.f5) (hc5 : x.f5.length ≤ c5) :
    Calls Tryd.prog 37 #[.agg #[.int .i64 x.f0, .int .i64 x.f1, .int .i64 x.f2, .int .i64 x.f3, .int .i64 x.f4, .slice A5 x.f5.length c5]] w fun e w' => e = .returned (.tuple #[.string (lineS x).1, .int .i64 (lineS x).2]) ∧ Below w.heap.size w w' :=
  TpR.line_any w hG x.f0 (fldF x.f1 x.f2 x.f3 x.f4) x.f5 A5 c5 hC5 hc5 hx.1 (Nat.le_trans hx.2 (by decide))
theorem grown_below {a b : World} {row : Option Nat} (h : Below a.heap.size a b) : a.grownBy b row := ⟨h.os, h.tape, h.output, h.size, fun k hk _ => h.block k hk⟩
theorem builder_at_kept {T e : TypeId} {B b : Nat} {p : Value} {bs : List Value} {w w1 : World} (h : Lib.BuilderAt T e B b p bs w) (hb : Below w.heap.size w w1) : Lib.BuilderAt T e B b p bs w1 := by
  have hlt := h.lt
  obtain ⟨hB, v, hbk, hown, hne⟩ := h
  refine ⟨hB, v, (hb.block b hlt).trans hbk, hown.kept (grown_below (row := none) hb) ?_, hne⟩
  cases hv : v.ownBlock with
  | none => exact .inl rfl
  | some k => exact .inr (by simp)
theorem builder_inr {T e : TypeId} {B b : Nat} {bs : List Value} {w : World} (h : Lib.BuilderAt T e B b (.pointer (some ⟨b, 0, none⟩)) bs w) : Lib.IsBuilder T e B b bs w := .inr h
theorem builder_kept {T e : TypeId} {B b : Nat} {bs : List Value} {w w1 : World} (h : Lib.IsBuilder T e B b bs w) (hb : Below w.heap.size w w1) : Lib.IsBuilder T e B b bs w1 :=
  h.imp (fun h => builder_at_kept h hb) (fun h => builder_at_kept h hb)
set_option maxHeartbeats 4000000 in
set_option maxRecDepth 100000 in
theorem print_any (A0 : Option Addr) (c0 : Nat) (l0 : List S63) (w : World) (hG : TpR.Tab w) (hr0 : Kd.C k63 w A0 l0.length l0) (hc0 : l0.length ≤ c0) (hf : ∀ x ∈ l0, Fit x) (hn : l0.length ≤ 10000) :
    Calls Tryd.prog 36 #[.slice A0 l0.length c0] w fun e w' => e = .returned (.tuple #[.string (printGo l0 0 []).1, .int .i64 (printGo l0 0 []).2.1, .int .i64 (printGo l0 0 []).2.2]) ∧ Below w.heap.size w w' := by
  obtain ⟨R, hR⟩ : ∃ R, R = printGo l0 0 [] := ⟨_, rfl⟩
  rw [← hR]
  have HR : Hid (printGo (l0.drop 0) 0 [] = R) := Lib.hid hR.symm
  have HC := Lib.hid hr0
  have HF := Lib.hid hf
  have HG := Lib.hid hG
  have hst := Th.start_builder w
  clear hr0 hf hG hR
  go_enter Tryd.func36, Tryd.ntmps36
  go_wp2
  go_loopw [12] (fun i wr => ∃ (k : Nat) (acc : List UInt8), k ≤ l0.length ∧ i = .int .i64 k ∧ acc.length ≤ 200100 * k ∧ Hid (printGo (l0.drop k) k acc = R) ∧ Lib.IsBuilder 117 5 w.heap.size w.heap.size (Lib.byteCells acc) wr ∧ Below w.heap.size w wr) (fun i _ => l0.length - (intOf i).toNat)
  case atStart => exact ⟨0, [], by omega, rfl, by simp, HR, hst, (Below.refl _ _).alloc (Nat.le_refl _) _⟩
  case round =>
    obtain ⟨k, acc, hk, rfl, hal, hP, hB, hw⟩ := hrel
    clear hst HR
    have hsz := hw.size
    by_cases hlt : k < l0.length
    · obtain ⟨ad, A5, c5, rfl, e0, e1, e2, e3, e4, e5, hc5, g5⟩ := at_T63 (Kd.C_below HC.out hw) (k : Int) (by omega) (by omega)
      obtain ⟨x, hx⟩ : ∃ x, x = rd_T63 l0 (k : Int) := ⟨_, rfl⟩
      have hxe : x = l0[k] := by rw [hx]; unfold rd_T63; rw [Int.toNat_natCast, List.getD_eq_getElem?_getD, List.getElem?_eq_getElem hlt]; rfl
      have hfx : Fit x := HF.out x (by rw [hxe]; exact List.getElem_mem _)
      rw [← hx] at e0 e1 e2 e3 e4 e5 hc5 g5
      have hP2 := hP.out
      rw [List.drop_eq_getElem_cons hlt, ← hxe, printGo] at hP2
      have HP2 := Lib.hid hP2
      have hline := fun W (hbW : Below wr.heap.size wr W) => line_call x hfx W (Lib.tabBelow_of_tabIs HG.out W (hw.trans (hbW.mono hsz))) A5 c5 (Kd.C_below g5 hbW) hc5
      have HL := Lib.hid hline
      have hls := lineHit_size x.f0 (fldF x.f1 x.f2 x.f3 x.f4) x.f5 7 0
      have hls2 : (lineS x).1.size ≤ 200060 := Nat.le_trans hls (by have := hfx.2; omega)
      obtain ⟨S, hS⟩ : ∃ S, S = lineS x := ⟨_, rfl⟩
      rw [← hS] at hls2
      have HS := Lib.hid hS
      clear hx hxe hP hP2 hline hls hS
      simp only [Int.toNat_natCast] at e0 e1 e2 e3 e4 e5
      have hba : ∀ c, Below wr.heap.size wr (wr.alloc (.cells c 63)) := fun c => below_alloc (Below.refl _ _) _
      by_cases hs : S.2 = 0
      · have d1 : (S.2 != 0) = false := bne_eq_false_iff_eq.mpr hs
        have hP3 := HP2.out
        rw [← HS.out, if_pos hs] at hP3
        have HP3 := Lib.hid hP3
        clear hs hP3 HP2
        go_wp2_with (go_at_call 37; (with_reducible refine (HL.out _ (hba _)).mono ?_); rw [← HS.out]; rintro e w2 ⟨rfl, hb2⟩)
        have hb3 : Below wr.heap.size wr w2 := (hba _).trans (hb2.mono (hba _).size)
        have hB2 := builder_kept hB hb3
        have hsz2 := hb3.size
        clear hB
        go_wp2_with (go_at_call 74; (with_reducible refine (Bld.writeString _ _ _ _ _ hB2 (by rw [Lib.byteCells_length]; omega) (by omega)).mono ?_); rintro e w3 ⟨rfl, hB3, hb4⟩)
        have hsz3 := hb4.size
        go_wp2_with (go_at_call 75; (with_reducible refine (Bld.writeByte _ _ _ _ _ (builder_inr hB3) (by rw [List.length_append, Lib.byteCells_length, Lib.strCells_length]; omega) (by omega)).mono ?_); rintro e w4 ⟨rfl, hB4, hb5⟩)
        go_roundw
        case rel =>
          refine ⟨k + 1, acc ++ S.1.data.toList ++ [10], by omega, by go_num, ?_, HP3.out, .inr ?_, ((hw.trans (hb3.mono hsz)).trans hb4).trans hb5⟩
          · have : S.1.data.toList.length = S.1.size := by simp
            simp only [List.length_append, List.length_cons, List.length_nil]
            omega
          · rw [Lib.byteCells_append, Lib.byteCells_append, ← Lib.strCells_eq]
            exact hB4
        case measure => simp [intOf]; omega
      · have d1 : (S.2 != 0) = true := bne_iff_ne.mpr hs
        have hP3 := HP2.out
        rw [← HS.out, if_neg hs] at hP3
        have HP3 := Lib.hid hP3
        clear hs hP3 HP2
        go_wp2_with (go_at_call 37; (with_reducible refine (HL.out _ (hba _)).mono ?_); rw [← HS.out]; rintro e w2 ⟨rfl, hb2⟩)
        go_ret3
        exact ⟨by rw [← HP3.out]; rfl, hw.trans (((hba _).trans (hb2.mono (hba _).size)).mono hsz)⟩
    · have hP2 := hP.out
      rw [List.drop_eq_nil_of_le (by omega), printGo] at hP2
      have HP2 := Lib.hid hP2
      clear hP hP2
      go_wp2_with (go_at_call 76; refine (Tryd.Builder_String_any _ _ _ _ hB hsz).mono ?_; rintro e w2 ⟨rfl, hb2⟩)
      go_ret3
      exact ⟨by rw [← HP2.out]; rfl, hw.trans hb2⟩
end Go.Proofs.YtpeebjnfmlfocaaDoor.Tp
