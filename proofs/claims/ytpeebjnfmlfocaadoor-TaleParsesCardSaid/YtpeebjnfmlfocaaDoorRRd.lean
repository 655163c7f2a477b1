/- ref44.Read's walk at this program. Conditions: at least one word; each of at most 100000 bytes. -/
import Derived.Test.YtpeebjnfmlfocaaDoorRdW
import Derived.Test.YtpeebjnfmlfocaaDoorTm0
namespace Go.Proofs.YtpeebjnfmlfocaaDoor.TpR
open Go.RowKit Go.Proofs.YtpeebjnfmlfocaaDoorW.PrintWords Go.Proofs.YtpeebjnfmlfocaaDoorW.PrintLast Go.Proofs.YtpeebjnfmlfocaaDoorW.PrintMore Go.Proofs.YtpeebjnfmlfocaaDoor.Tm
set_option linter.unusedVariables false
set_option linter.unusedSimpArgs false

def fld (node item d keep : Int) : Nat → Int
  | 1 => node
  | 2 => item
  | 3 => d
  | 4 => keep
  | _ => 0
/-- what ref44.Read says: t the first word; o: one number and it is one; t2: two; f4: four words, the two numbers are such -/
def rrF (t : List UInt8) (o t2 f4 : Bool) (n0 n1 : Int) (hx : List Int × Int) : Res :=
  if t = [100, 101, 108, 105, 118, 101, 114] ∧ o = true then (1, fld 0 n0 0 0, [], true)
  else if t = [99, 111, 112, 121] ∧ o = true then (2, fld 0 n0 0 0, [], true)
  else if t = [108, 111, 115, 101] ∧ o = true then (3, fld 0 n0 0 0, [], true)
  else if t = [116, 105, 99, 107] ∧ t2 = true then (4, fld n0 0 n1 0, [], true)
  else if t = [116, 101, 97, 114] ∧ t2 = true then (5, fld 0 n0 0 n1, [], true)
  else if t = [102, 97, 108, 108] ∧ o = true then (6, fld n0 0 0 0, [], true)
  else if t = [105, 110, 106, 101, 99, 116] ∧ t2 = true then (7, fld n0 n1 0 0, [], true)
  else if t = [105, 110, 106, 101, 99, 116] ∧ f4 = true then (7, fld n0 n1 0 0, hx.1, decide (hx.2 < 0))
  else zeroR
def refRead (numR : ByteArray → Int) (hexR : ByteArray → List Int × Int) (l : List ByteArray) : Res :=
  rrF (l.getD 0 ByteArray.empty).toList (decide (l.length = 2 ∧ 0 ≤ numR (l.getD 1 ByteArray.empty))) (decide (l.length = 3 ∧ 0 ≤ numR (l.getD 1 ByteArray.empty) ∧ 0 ≤ numR (l.getD 2 ByteArray.empty)))
    (decide (l.length = 4 ∧ 0 ≤ numR (l.getD 1 ByteArray.empty) ∧ 0 ≤ numR (l.getD 2 ByteArray.empty))) (numR (l.getD 1 ByteArray.empty)) (numR (l.getD 2 ByteArray.empty)) (hexR (l.getD 3 ByteArray.empty))

def Read.T24 : Bool × List (List Nat × List Nat) := (true, [([], []), ([0], [0]), ([1], [1]), ([], []), ([3], [3]), ([4], [4]), ([], []), ([2, 5, 6], [2, 5, 6]), ([], []), ([8], [8]), ([7, 0, 1, 2, 3, 4, 5, 6, 7], [7]), ([9, 10, 0, 1, 2, 3, 4, 5, 6, 7, 8, 9, 10], [9])])
def Read.B24 : List Nat := [0, 1, 3, 0, 8, 24, 0, 127, 0, 256, 255, 2047]
theorem Read.tab24 : rtab .any (opsOf Tryd.f59 24) = Read.T24 := by kernel_rfl
theorem Read.bits24 : waitsOk Read.T24.2 Read.B24 = true := by kernel_rfl
set_option maxHeartbeats 8000000 in
set_option maxRecDepth 100000 in
theorem rread_any (numR : ByteArray → Int) (hexR : ByteArray → List Int × Int)
    (hhex : ∀ (s : ByteArray) (w : World), s.size ≤ 100000 → Calls Tryd.prog 101 #[.string s, .bool false] w fun e w' => ∃ (v : Value), e = .returned (.tuple #[v, .int .i64 (hexR s).2]) ∧ Kd.R (Kd.int .u8) 5 w' w.heap.size (fun _ => True) v (hexR s).1 ∧ Below w.heap.size w w')
    (hnum : ∀ (s : ByteArray) (w : World), Calls Tryd.prog 100 #[.string s] w fun e w' => e = .returned (.int .i64 (numR s)) ∧ Below w.heap.size w w')
    (A0 : Option Addr) (c0 : Nat) (l : List ByteArray) (w : World) (hr0 : Kd.C Kd.string w A0 l.length l) (hc0 : l.length ≤ c0) (hl : 0 < l.length) (hl2 : ∀ x ∈ l, x.size ≤ 100000) :
    Calls Tryd.prog 59 #[.slice A0 l.length c0] w fun e w' => ∃ v : Value, e = .returned (.tuple #[resV (refRead numR hexR l) v, .bool (refRead numR hexR l).2.2.2]) ∧ Kd.R (Kd.int .u8) 5 w' w.heap.size (fun _ => True) v (refRead numR hexR l).2.2.1 ∧ Below w.heap.size w w' := by
  obtain ⟨n0, hn0⟩ : ∃ n, n = numR (l.getD 1 ByteArray.empty) := ⟨_, rfl⟩
  obtain ⟨n1, hn1⟩ : ∃ n, n = numR (l.getD 2 ByteArray.empty) := ⟨_, rfl⟩
  obtain ⟨R, hR⟩ : ∃ R, R = refRead numR hexR l := ⟨_, rfl⟩
  rw [← hR]
  unfold refRead at hR
  rw [← hn0, ← hn1] at hR
  have HN0 := Lib.hid hn0
  have HN1 := Lib.hid hn1
  have HR := Lib.hid hR
  have HC := Lib.hid hr0
  have HNUM := Lib.hid hnum
  have HHEX := Lib.hid hhex
  have HL2 := Lib.hid hl2
  have hmax := Kd.C_max hr0
  clear hr0 hR hnum hhex hl2 hn0 hn1
  go_enter Tryd.func59, Tryd.ntmps59
  go_wp2
  obtain ⟨wa, hwa⟩ : ∃ wa, wa = w.alloc (Obj.cells #[Value.int IntKind.i64 0, Value.int IntKind.i64 0, Value.int IntKind.i64 0, Value.int IntKind.i64 0, Value.int IntKind.i64 0, Value.slice none 0 0] 63) := ⟨_, rfl⟩
  rw [← hwa]
  have hsz : wa.heap.size = w.heap.size + 1 := by rw [hwa, size_alloc]
  have hbw : Below w.heap.size w wa := by rw [hwa]; exact below_alloc (Below.refl _ _) _
  have hres : wa.heap[w.heap.size]? = some (Obj.cells #[Value.int IntKind.i64 0, Value.int IntKind.i64 0, Value.int IntKind.i64 0, Value.int IntKind.i64 0, Value.int IntKind.i64 0, Value.slice none 0 0] 63) := by rw [hwa, heap_alloc, if_pos rfl]
  have HRES := Lib.hid hres
  have HSZ := Lib.hid hsz
  clear hres hwa hsz
  go_loopg [4, 5] (min l.length 3 - 1) (fun gk v4 v5 wr => ∃ (i : Nat) (N : List Int), i + gk = min l.length 3 ∧ 1 ≤ i ∧ v5 = .int .i64 (i : Int) ∧ Hid (N = [n0, n1].take (i - 1)) ∧ Hid (Kd.R (Kd.int .i64) 3 wr wa.heap.size (fun _ => True) v4 N) ∧ Below wa.heap.size wa wr)
  case atStart => exact ⟨1, [], by omega, by omega, rfl, Lib.hid rfl, Lib.hid (Kd.R_nil _ _ _ _ _), Below.refl _ _⟩
  case round =>
    obtain ⟨i, N, hi, hi1, rfl, hN, hO, hb⟩ := hrel
    have HI := Lib.hid hi
    obtain ⟨mm, hmm⟩ : ∃ mm, mm = min l.length 3 := ⟨_, rfl⟩
    have hmm1 : mm ≤ l.length := by omega
    have hmm2 : mm ≤ 3 := by omega
    have HMM := Lib.hid hmm
    rw [← hmm] at hi
    clear hmm
    go_upto_region 3 with (fail)
    go_cut [17] (fun v17 wc => v17 = .bool (decide (i < mm)) ∧ wc = wr)
    case first =>
      by_cases h1 : (i : Int) < (l.length : Int)
      · have d1 := decide_eq_true h1
        have d2 : decide (i < l.length) = true := decide_eq_true (by omega)
        have h3 : decide (i < mm) = decide ((i : Int) < 3) := by
          have := HMM.out
          by_cases h : i < mm
          · rw [decide_eq_true h, decide_eq_true (by omega)]
          · rw [decide_eq_false h, decide_eq_false (by omega)]
        have H3 := Lib.hid h3
        clear h3 hi
        go_wp2
        go_meet
        case rel => exact ⟨by rw [H3.out], rfl⟩
      · have d1 := decide_eq_false h1
        have d2 : decide (i < l.length) = false := decide_eq_false (by omega)
        have h3 : decide (i < mm) = false := decide_eq_false (by have := HMM.out; omega)
        have H3 := Lib.hid h3
        clear h3 hi
        go_wp2
        go_meet
        case rel => exact ⟨by rw [H3.out], rfl⟩
    case rest =>
      obtain ⟨rfl, rfl⟩ := hcut
      by_cases hlt : i < mm
      · have d1 := decide_eq_true hlt
        rw [d1]
        have ilt : (i : Int) < (l.length : Int) := by omega
        have ei : IntKind.i64.wrap ((i : Int) + 1) = (i : Int) + 1 := IntWalk.i64_in _ (by omega)
        have hbw2 : Below w.heap.size w wc := hbw.trans (hb.mono hbw.size)
        obtain ⟨ad1, rfl, hs1⟩ := Kd.at_string (Kd.C_below HC.out hbw2) (i : Int) (by omega) (by omega)
        rw [show rdOf ByteArray.empty l (i : Int) = l.getD i ByteArray.empty from by unfold rdOf; rw [Int.toNat_natCast], Int.toNat_natCast] at hs1
        have hcall := HNUM.out (l.getD i ByteArray.empty) wc
        obtain ⟨s, hs⟩ : ∃ s, s = l.getD i ByteArray.empty := ⟨_, rfl⟩
        obtain ⟨x, hx⟩ : ∃ x, x = numR (l.getD i ByteArray.empty) := ⟨_, rfl⟩
        rw [← hx] at hcall
        rw [← hs] at hs1 hcall
        have hNx : N ++ [x] = [n0, n1].take i := by
          have h12 : i = 1 ∨ i = 2 := by omega
          rcases h12 with rfl | rfl
          · rw [hN.out, hx, ← HN0.out]; rfl
          · rw [hN.out, hx, ← HN1.out]; rfl
        have HCALL := Lib.hid hcall
        have HNX := Lib.hid hNx
        have hNl : N.length ≤ 2 := by rw [hN.out]; simp; omega
        clear hcall hs hx hNx
        go_wp2_with (first
          | (go_at_call 100; (with_reducible refine (HCALL.out).mono ?_); rintro e w2 ⟨rfl, hb2⟩; have HO2 := Lib.hid (Kd.R_below hO.out hb2); have HB2 := Lib.hid (hb.trans (hb2.mono hb.size)); clear hb2)
          | ((with_reducible refine gate_builtin (b := .append) (xs := #[.tmp 20, .tmp 26]) rfl ?_)
             at_builtin
             refine Kd.R_append (Kd.int .i64) (w0 := wa) wa.heap.size rfl (.tmp 20) (.tmp 26) 74 3 (.int .i64 0) 8 rfl Tryd.underlying74 info3 rfl (by decide) (by omega) u4 N x [.int .i64 x] (fun _ => True) (fun _ => False) rfl rfl ?aP (fun _ hk => hk.elim) ?aF ?aO ?aB ?aS ?aL ?_
             (case aP => exact rfl)
             (case aF => exact (fun _ _ => trivial))
             (case aO => exact (by (with_reducible repeat (first | apply Kd.R_alloc | apply Kd.R_drewN | apply Kd.R_drew)); exact HO2.out))
             (case aB => exact (by repeat (first | (with_reducible first | exact HB2.out | apply below_alloc | apply pw_below_drewN | apply below_drew1) | exact HB2.out)))
             (case aS => exact (below_size (by repeat (first | (with_reducible first | exact HB2.out | apply below_alloc | apply pw_below_drewN | apply below_drew1) | exact HB2.out))))
             (case aL => omega)
             intro v3 w3 ho hb3 hg hat
             rw [HNX.out] at ho
             have HO3 := Lib.hid ho
             have HB3 := Lib.hid hb3
             clear ho hb3 hg hat))
        go_roundg (mm - (i + 1))
        case measure => have := HI.out; have := HMM.out; omega
        case rel => exact ⟨i + 1, _, by have := HMM.out; omega, by omega, by go_num, Lib.hid rfl, by rw [Nat.add_sub_cancel]; exact HO3, HB3.out⟩
      · have d1 := decide_eq_false hlt
        rw [d1]
        have him : i = min l.length 3 := by have := HMM.out; omega
        have hN2 : N = [n0, n1].take (min l.length 3 - 1) := by rw [← him]; exact hN.out
        have hN1 : 2 ≤ l.length → ∃ y, N = n0 :: y := fun h => by
          rw [hN2]
          rcases Nat.lt_or_ge l.length 3 with h3 | h3
          · rw [show min l.length 3 = 2 by omega]; exact ⟨_, rfl⟩
          · rw [show min l.length 3 = 3 by omega]; exact ⟨_, rfl⟩
        have hN3 : 3 ≤ l.length → N = [n0, n1] := fun h => by rw [hN2, show min l.length 3 = 3 by omega]; rfl
        obtain ⟨Av, cv, rfl⟩ := Kd.R_slice hO.out
        have c1 : l.length = 2 → N.length = 1 ∧ ∃ g, Av = some ⟨g, 0, none⟩ ∧ wc.cell? ⟨g, 0, none⟩ = some (.int .i64 n0) := fun h => by
          have hy : N = [n0] := by rw [hN2, h]; rfl
          have hp : N.length = 1 := by rw [hy]; rfl
          obtain ⟨g, cap, he, _⟩ := Kd.R_form hO.out (by omega)
          injection he with he1 he2 he3
          subst he1
          have hc := (Kd.R_celln (enc := Value.int .i64) (h1 := fun _ => rfl) (0 : Int) hO.out (0 : Int) (by omega) (by omega)).1
          refine ⟨hp, g, rfl, ?_⟩
          rw [hy] at hc
          exact hc
        have c2 : 3 ≤ l.length → N.length = 2 ∧ ∃ g, Av = some ⟨g, 0, none⟩ ∧ wc.cell? ⟨g, 0, none⟩ = some (.int .i64 n0) ∧ wc.cell? ⟨g, 1, none⟩ = some (.int .i64 n1) ∧ w.heap.size < g := fun h => by
          have hy := hN3 h
          have hp : N.length = 2 := by rw [hy]; rfl
          obtain ⟨g, cap, he, hbg, _⟩ := Kd.R_form hO.out (by omega)
          injection he with he1 he2 he3
          subst he1
          have hc := (Kd.R_celln (enc := Value.int .i64) (h1 := fun _ => rfl) (0 : Int) hO.out (0 : Int) (by omega) (by omega)).1
          have hc' := (Kd.R_celln (enc := Value.int .i64) (h1 := fun _ => rfl) (0 : Int) hO.out (1 : Int) (by omega) (by omega)).1
          rw [hy] at hc hc'
          exact ⟨hp, g, rfl, hc, hc', by have := HSZ.out; omega⟩
        have H1 := Lib.hid c1
        have H2 := Lib.hid c2
        have hbwc : Below w.heap.size w wc := hbw.trans (hb.mono hbw.size)
        have hRc : wc.heap[w.heap.size]? = some (Obj.cells #[Value.int IntKind.i64 0, Value.int IntKind.i64 0, Value.int IntKind.i64 0, Value.int IntKind.i64 0, Value.int IntKind.i64 0, Value.slice none 0 0] 63) := by
          rw [hb.block _ (by have := HSZ.out; omega)]
          exact HRES.out
        have HRC := Lib.hid hRc
        obtain ⟨ln, hln⟩ : ∃ ln, ln = l.length := ⟨_, rfl⟩
        clear hRc c1 c2 hN1 hN2 hN3 him hlt hi hmm1 hmm2 hln
        go_upto_region 6 with (fail)
        go_cut [6] (fun v6 wd => v6 = .bool (decide (l.length = 2 ∧ 0 ≤ n0)) ∧ wd = wc)
        case first =>
          by_cases h2 : l.length = 2
          · obtain ⟨q1, g, rfl, q2⟩ := H1.out h2
            have y0 : (0 : Int) < (N.length : Int) := by omega
            clear q1
            have d2 : ((l.length : Int) == 2) = true := by rw [h2]; rfl
            have d3 : (l.length == 2) = true := by rw [h2]; rfl
            have hv : decide (l.length = 2 ∧ 0 ≤ n0) = decide (0 ≤ n0) := by simp [h2]
            have HV := Lib.hid hv
            clear hv h2
            go_wp2
            go_meet
            case rel => exact ⟨by rw [HV.out], rfl⟩
          · have d2 : ((l.length : Int) == 2) = false := by simp; omega
            have d3 : (l.length == 2) = false := by simp; omega
            have hv : decide (l.length = 2 ∧ 0 ≤ n0) = false := by simp [h2]
            have HV := Lib.hid hv
            clear hv h2
            go_wp2
            go_meet
            case rel => exact ⟨by rw [HV.out], rfl⟩
        case rest =>
          obtain ⟨rfl, rfl⟩ := hcut
          go_upto_region 7 with (fail)
          go_cut [7] (fun v7 we => v7 = .bool (decide (l.length = 3 ∧ 0 ≤ n0 ∧ 0 ≤ n1)) ∧ we = wc)
          case first =>
            by_cases h2 : l.length = 3
            · obtain ⟨q1, g, rfl, q2, q3, _⟩ := H2.out (by omega)
              have y0 : (0 : Int) < (N.length : Int) := by omega
              have y1 : (1 : Int) < (N.length : Int) := by omega
              clear q1
              have d2 : ((l.length : Int) == 3) = true := by rw [h2]; rfl
              have d3 : (l.length == 3) = true := by rw [h2]; rfl
              by_cases hp : 0 ≤ n0
              · have d4 := decide_eq_true hp
                have hv : decide (l.length = 3 ∧ 0 ≤ n0 ∧ 0 ≤ n1) = decide (0 ≤ n1) := by simp [h2, hp]
                have HV := Lib.hid hv
                clear hv h2 hp
                go_wp2
                go_meet
                case rel => exact ⟨by rw [HV.out], rfl⟩
              · have d4 := decide_eq_false hp
                have hv : decide (l.length = 3 ∧ 0 ≤ n0 ∧ 0 ≤ n1) = false := by simp [hp]
                have HV := Lib.hid hv
                clear hv h2 hp
                go_wp2
                go_meet
                case rel => exact ⟨by rw [HV.out], rfl⟩
            · have d2 : ((l.length : Int) == 3) = false := by simp; omega
              have d3 : (l.length == 3) = false := by simp; omega
              have hv : decide (l.length = 3 ∧ 0 ≤ n0 ∧ 0 ≤ n1) = false := by simp [h2]
              have HV := Lib.hid hv
              clear hv h2
              go_wp2
              go_meet
              case rel => exact ⟨by rw [HV.out], rfl⟩
          case rest =>
            obtain ⟨rfl, rfl⟩ := hcut
            have hO1 : decide (l.length = 2 ∧ 0 ≤ n0) = true → l.length = 2 := fun h => by have := of_decide_eq_true h; omega
            have hT2 : decide (l.length = 3 ∧ 0 ≤ n0 ∧ 0 ≤ n1) = true → 3 ≤ l.length := fun h => by have := of_decide_eq_true h; omega
            obtain ⟨o, ho⟩ : ∃ o, o = decide (l.length = 2 ∧ 0 ≤ n0) := ⟨_, rfl⟩
            obtain ⟨t2, ht2⟩ : ∃ t, t = decide (l.length = 3 ∧ 0 ≤ n0 ∧ 0 ≤ n1) := ⟨_, rfl⟩
            obtain ⟨f4, hf4⟩ : ∃ t, t = decide (l.length = 4 ∧ 0 ≤ n0 ∧ 0 ≤ n1) := ⟨_, rfl⟩
            have hr := HR.out
            obtain ⟨hx, hhx⟩ : ∃ hx, hx = hexR (l.getD 3 ByteArray.empty) := ⟨_, rfl⟩
            rw [← ho, ← ht2, ← hf4, ← hhx] at hr
            rw [← ho] at hO1 ⊢
            rw [← ht2] at hT2 ⊢
            obtain ⟨ad0, rfl, hl0⟩ := Kd.at_string (Kd.C_below HC.out hbwc) (0 : Int) (by omega) (by omega)
            rw [show rdOf ByteArray.empty l (0 : Int) = l.getD 0 ByteArray.empty from rfl, Int.toNat_zero, show ad0.add 0 = ad0 from by simp [Addr.add]] at hl0
            obtain ⟨c, hc⟩ : ∃ c, c = l.getD 0 ByteArray.empty := ⟨_, rfl⟩
            rw [← hc] at hl0 hr
            have HF4 := Lib.hid hf4
            have HHX := Lib.hid hhx
            have HO1 := Lib.hid hO1
            have HT2 := Lib.hid hT2
            replace HR := Lib.hid hr
            have hl00 : (0 : Int) < (l.length : Int) := by omega
            clear ho ht2 hf4 hhx hr hO1 hT2 hc
            by_cases hj : c.toList = [100, 101, 108, 105, 118, 101, 114]
            · have e0 : (c.toList == ([100, 101, 108, 105, 118, 101, 114] : List UInt8)) = true := by rw [hj]; decide
              have e1 : (c.toList == ([99, 111, 112, 121] : List UInt8)) = false := by rw [hj]; decide
              have e2 : (c.toList == ([108, 111, 115, 101] : List UInt8)) = false := by rw [hj]; decide
              have e3 : (c.toList == ([116, 105, 99, 107] : List UInt8)) = false := by rw [hj]; decide
              have e4 : (c.toList == ([116, 101, 97, 114] : List UInt8)) = false := by rw [hj]; decide
              have e5 : (c.toList == ([102, 97, 108, 108] : List UInt8)) = false := by rw [hj]; decide
              have e6 : (c.toList == ([105, 110, 106, 101, 99, 116] : List UInt8)) = false := by rw [hj]; decide
              cases o with
              | true =>
                clear HHEX
                have hR0 : R = (1, fld 0 n0 0 0, [], true) := by rw [HR.out, hj]; simp [rrF]
                have HR0 := Lib.hid hR0
                clear hR0 HR
                obtain ⟨z0, g, rfl, z1⟩ := H1.out (HO1.out rfl)
                rw [z0]
                have q0 := cell_app wc w.heap.size 0 _ _ _ HRC.out rfl
                have q1 := cell_app wc w.heap.size 1 _ _ _ HRC.out rfl
                have q2 := cell_app wc w.heap.size 2 _ _ _ HRC.out rfl
                have q3 := cell_app wc w.heap.size 3 _ _ _ HRC.out rfl
                have q4 := cell_app wc w.heap.size 4 _ _ _ HRC.out rfl
                have q5 := cell_app wc w.heap.size 5 _ _ _ HRC.out rfl
                have r0 := frz_app wc w.heap.size 0 _ _ HRC.out
                have r1 := frz_app wc w.heap.size 1 _ _ HRC.out
                have r2 := frz_app wc w.heap.size 2 _ _ HRC.out
                have r3 := frz_app wc w.heap.size 3 _ _ HRC.out
                have r4 := frz_app wc w.heap.size 4 _ _ HRC.out
                have r5 := frz_app wc w.heap.size 5 _ _ HRC.out
                go_wp2
                (try simp only [Exit.inBlock, Exit.then])
                have S0 := six_at wc w.heap.size (.int .i64 1) (.int .i64 0) (.int .i64 n0) (.int .i64 0) (.int .i64 0) (.slice none 0 0) _ _ _ _ _ _ _ HRC.out
                have c0 := cell_app _ w.heap.size 0 _ _ _ S0 rfl
                have c1 := cell_app _ w.heap.size 1 _ _ _ S0 rfl
                have c2 := cell_app _ w.heap.size 2 _ _ _ S0 rfl
                have c3 := cell_app _ w.heap.size 3 _ _ _ S0 rfl
                have c4 := cell_app _ w.heap.size 4 _ _ _ S0 rfl
                have c5 := cell_app _ w.heap.size 5 _ _ _ S0 rfl
                have hB := six_below hbwc w.heap.size (Nat.le_refl _) (.int .i64 1) (.int .i64 0) (.int .i64 n0) (.int .i64 0) (.int .i64 0) (.slice none 0 0)
                have hOth := fun k hk => six_other wc w.heap.size (.int .i64 1) (.int .i64 0) (.int .i64 n0) (.int .i64 0) (.int .i64 0) (.slice none 0 0) k hk
                obtain ⟨W, hW⟩ : ∃ W, W = six wc w.heap.size (.int .i64 1) (.int .i64 0) (.int .i64 n0) (.int .i64 0) (.int .i64 0) (.slice none 0 0) := ⟨_, rfl⟩
                rw [← hW] at c0 c1 c2 c3 c4 c5 hB hOth
                unfold six at hW
                rw [← hW]
                clear hW S0 q0 q1 q2 q3 q4 q5 r0 r1 r2 r3 r4 r5
                refine bodyPost_ret (v := .tuple #[resV R (.slice none 0 0), .bool R.2.2.2]) ?_ rfl ⟨_, rfl, ?_, hB⟩
                · rw [results_cell_tmp rfl]
                  rw [HR0.out]
                  go_simp
                  first | exact ⟨rfl, rfl⟩ | exact rfl
                · rw [HR0.out]
                  exact Kd.R_nil _ _ _ _ _
              | false =>
                clear HHEX
                have hR0 : R = zeroR := by rw [HR.out, hj]; simp [rrF]
                have HR0 := Lib.hid hR0
                clear hR0 HR
                have q0 := cell_app wc w.heap.size 0 _ _ _ HRC.out rfl
                have q1 := cell_app wc w.heap.size 1 _ _ _ HRC.out rfl
                have q2 := cell_app wc w.heap.size 2 _ _ _ HRC.out rfl
                have q3 := cell_app wc w.heap.size 3 _ _ _ HRC.out rfl
                have q4 := cell_app wc w.heap.size 4 _ _ _ HRC.out rfl
                have q5 := cell_app wc w.heap.size 5 _ _ _ HRC.out rfl
                have r0 := frz_app wc w.heap.size 0 _ _ HRC.out
                have r1 := frz_app wc w.heap.size 1 _ _ HRC.out
                have r2 := frz_app wc w.heap.size 2 _ _ HRC.out
                have r3 := frz_app wc w.heap.size 3 _ _ HRC.out
                have r4 := frz_app wc w.heap.size 4 _ _ HRC.out
                have r5 := frz_app wc w.heap.size 5 _ _ HRC.out
                go_wp2
                (try simp only [Exit.inBlock, Exit.then])
                have S0 := six_at wc w.heap.size (.int .i64 0) (.int .i64 0) (.int .i64 0) (.int .i64 0) (.int .i64 0) (.slice none 0 0) _ _ _ _ _ _ _ HRC.out
                have c0 := cell_app _ w.heap.size 0 _ _ _ S0 rfl
                have c1 := cell_app _ w.heap.size 1 _ _ _ S0 rfl
                have c2 := cell_app _ w.heap.size 2 _ _ _ S0 rfl
                have c3 := cell_app _ w.heap.size 3 _ _ _ S0 rfl
                have c4 := cell_app _ w.heap.size 4 _ _ _ S0 rfl
                have c5 := cell_app _ w.heap.size 5 _ _ _ S0 rfl
                have hB := six_below hbwc w.heap.size (Nat.le_refl _) (.int .i64 0) (.int .i64 0) (.int .i64 0) (.int .i64 0) (.int .i64 0) (.slice none 0 0)
                have hOth := fun k hk => six_other wc w.heap.size (.int .i64 0) (.int .i64 0) (.int .i64 0) (.int .i64 0) (.int .i64 0) (.slice none 0 0) k hk
                obtain ⟨W, hW⟩ : ∃ W, W = six wc w.heap.size (.int .i64 0) (.int .i64 0) (.int .i64 0) (.int .i64 0) (.int .i64 0) (.slice none 0 0) := ⟨_, rfl⟩
                rw [← hW] at c0 c1 c2 c3 c4 c5 hB hOth
                unfold six at hW
                rw [← hW]
                clear hW S0 q0 q1 q2 q3 q4 q5 r0 r1 r2 r3 r4 r5
                refine bodyPost_ret (v := .tuple #[resV R (.slice none 0 0), .bool R.2.2.2]) ?_ rfl ⟨_, rfl, ?_, hB⟩
                · rw [results_cell_tmp rfl]
                  rw [HR0.out]
                  go_simp
                  first | exact ⟨rfl, rfl⟩ | exact rfl
                · rw [HR0.out]
                  exact Kd.R_nil _ _ _ _ _
            · have n_deliver := hj
              have e0 : (c.toList == ([100, 101, 108, 105, 118, 101, 114] : List UInt8)) = false := beq_eq_false_iff_ne.mpr hj
              clear hj
              by_cases hj : c.toList = [99, 111, 112, 121]
              · have e0 : (c.toList == ([100, 101, 108, 105, 118, 101, 114] : List UInt8)) = false := by rw [hj]; decide
                have e1 : (c.toList == ([99, 111, 112, 121] : List UInt8)) = true := by rw [hj]; decide
                have e2 : (c.toList == ([108, 111, 115, 101] : List UInt8)) = false := by rw [hj]; decide
                have e3 : (c.toList == ([116, 105, 99, 107] : List UInt8)) = false := by rw [hj]; decide
                have e4 : (c.toList == ([116, 101, 97, 114] : List UInt8)) = false := by rw [hj]; decide
                have e5 : (c.toList == ([102, 97, 108, 108] : List UInt8)) = false := by rw [hj]; decide
                have e6 : (c.toList == ([105, 110, 106, 101, 99, 116] : List UInt8)) = false := by rw [hj]; decide
                cases o with
                | true =>
                  clear HHEX
                  have hR0 : R = (2, fld 0 n0 0 0, [], true) := by rw [HR.out, hj]; simp [rrF]
                  have HR0 := Lib.hid hR0
                  clear hR0 HR
                  obtain ⟨z0, g, rfl, z1⟩ := H1.out (HO1.out rfl)
                  rw [z0]
                  have q0 := cell_app wc w.heap.size 0 _ _ _ HRC.out rfl
                  have q1 := cell_app wc w.heap.size 1 _ _ _ HRC.out rfl
                  have q2 := cell_app wc w.heap.size 2 _ _ _ HRC.out rfl
                  have q3 := cell_app wc w.heap.size 3 _ _ _ HRC.out rfl
                  have q4 := cell_app wc w.heap.size 4 _ _ _ HRC.out rfl
                  have q5 := cell_app wc w.heap.size 5 _ _ _ HRC.out rfl
                  have r0 := frz_app wc w.heap.size 0 _ _ HRC.out
                  have r1 := frz_app wc w.heap.size 1 _ _ HRC.out
                  have r2 := frz_app wc w.heap.size 2 _ _ HRC.out
                  have r3 := frz_app wc w.heap.size 3 _ _ HRC.out
                  have r4 := frz_app wc w.heap.size 4 _ _ HRC.out
                  have r5 := frz_app wc w.heap.size 5 _ _ HRC.out
                  go_wp2
                  (try simp only [Exit.inBlock, Exit.then])
                  have S0 := six_at wc w.heap.size (.int .i64 2) (.int .i64 0) (.int .i64 n0) (.int .i64 0) (.int .i64 0) (.slice none 0 0) _ _ _ _ _ _ _ HRC.out
                  have c0 := cell_app _ w.heap.size 0 _ _ _ S0 rfl
                  have c1 := cell_app _ w.heap.size 1 _ _ _ S0 rfl
                  have c2 := cell_app _ w.heap.size 2 _ _ _ S0 rfl
                  have c3 := cell_app _ w.heap.size 3 _ _ _ S0 rfl
                  have c4 := cell_app _ w.heap.size 4 _ _ _ S0 rfl
                  have c5 := cell_app _ w.heap.size 5 _ _ _ S0 rfl
                  have hB := six_below hbwc w.heap.size (Nat.le_refl _) (.int .i64 2) (.int .i64 0) (.int .i64 n0) (.int .i64 0) (.int .i64 0) (.slice none 0 0)
                  have hOth := fun k hk => six_other wc w.heap.size (.int .i64 2) (.int .i64 0) (.int .i64 n0) (.int .i64 0) (.int .i64 0) (.slice none 0 0) k hk
                  obtain ⟨W, hW⟩ : ∃ W, W = six wc w.heap.size (.int .i64 2) (.int .i64 0) (.int .i64 n0) (.int .i64 0) (.int .i64 0) (.slice none 0 0) := ⟨_, rfl⟩
                  rw [← hW] at c0 c1 c2 c3 c4 c5 hB hOth
                  unfold six at hW
                  rw [← hW]
                  clear hW S0 q0 q1 q2 q3 q4 q5 r0 r1 r2 r3 r4 r5
                  refine bodyPost_ret (v := .tuple #[resV R (.slice none 0 0), .bool R.2.2.2]) ?_ rfl ⟨_, rfl, ?_, hB⟩
                  · rw [results_cell_tmp rfl]
                    rw [HR0.out]
                    go_simp
                    first | exact ⟨rfl, rfl⟩ | exact rfl
                  · rw [HR0.out]
                    exact Kd.R_nil _ _ _ _ _
                | false =>
                  clear HHEX
                  have hR0 : R = zeroR := by rw [HR.out, hj]; simp [rrF]
                  have HR0 := Lib.hid hR0
                  clear hR0 HR
                  have q0 := cell_app wc w.heap.size 0 _ _ _ HRC.out rfl
                  have q1 := cell_app wc w.heap.size 1 _ _ _ HRC.out rfl
                  have q2 := cell_app wc w.heap.size 2 _ _ _ HRC.out rfl
                  have q3 := cell_app wc w.heap.size 3 _ _ _ HRC.out rfl
                  have q4 := cell_app wc w.heap.size 4 _ _ _ HRC.out rfl
                  have q5 := cell_app wc w.heap.size 5 _ _ _ HRC.out rfl
                  have r0 := frz_app wc w.heap.size 0 _ _ HRC.out
                  have r1 := frz_app wc w.heap.size 1 _ _ HRC.out
                  have r2 := frz_app wc w.heap.size 2 _ _ HRC.out
                  have r3 := frz_app wc w.heap.size 3 _ _ HRC.out
                  have r4 := frz_app wc w.heap.size 4 _ _ HRC.out
                  have r5 := frz_app wc w.heap.size 5 _ _ HRC.out
                  go_wp2
                  (try simp only [Exit.inBlock, Exit.then])
                  have S0 := six_at wc w.heap.size (.int .i64 0) (.int .i64 0) (.int .i64 0) (.int .i64 0) (.int .i64 0) (.slice none 0 0) _ _ _ _ _ _ _ HRC.out
                  have c0 := cell_app _ w.heap.size 0 _ _ _ S0 rfl
                  have c1 := cell_app _ w.heap.size 1 _ _ _ S0 rfl
                  have c2 := cell_app _ w.heap.size 2 _ _ _ S0 rfl
                  have c3 := cell_app _ w.heap.size 3 _ _ _ S0 rfl
                  have c4 := cell_app _ w.heap.size 4 _ _ _ S0 rfl
                  have c5 := cell_app _ w.heap.size 5 _ _ _ S0 rfl
                  have hB := six_below hbwc w.heap.size (Nat.le_refl _) (.int .i64 0) (.int .i64 0) (.int .i64 0) (.int .i64 0) (.int .i64 0) (.slice none 0 0)
                  have hOth := fun k hk => six_other wc w.heap.size (.int .i64 0) (.int .i64 0) (.int .i64 0) (.int .i64 0) (.int .i64 0) (.slice none 0 0) k hk
                  obtain ⟨W, hW⟩ : ∃ W, W = six wc w.heap.size (.int .i64 0) (.int .i64 0) (.int .i64 0) (.int .i64 0) (.int .i64 0) (.slice none 0 0) := ⟨_, rfl⟩
                  rw [← hW] at c0 c1 c2 c3 c4 c5 hB hOth
                  unfold six at hW
                  rw [← hW]
                  clear hW S0 q0 q1 q2 q3 q4 q5 r0 r1 r2 r3 r4 r5
                  refine bodyPost_ret (v := .tuple #[resV R (.slice none 0 0), .bool R.2.2.2]) ?_ rfl ⟨_, rfl, ?_, hB⟩
                  · rw [results_cell_tmp rfl]
                    rw [HR0.out]
                    go_simp
                    first | exact ⟨rfl, rfl⟩ | exact rfl
                  · rw [HR0.out]
                    exact Kd.R_nil _ _ _ _ _
              · have n_copy := hj
                have e1 : (c.toList == ([99, 111, 112, 121] : List UInt8)) = false := beq_eq_false_iff_ne.mpr hj
                clear hj
                by_cases hj : c.toList = [108, 111, 115, 101]
                · have e0 : (c.toList == ([100, 101, 108, 105, 118, 101, 114] : List UInt8)) = false := by rw [hj]; decide
                  have e1 : (c.toList == ([99, 111, 112, 121] : List UInt8)) = false := by rw [hj]; decide
                  have e2 : (c.toList == ([108, 111, 115, 101] : List UInt8)) = true := by rw [hj]; decide
                  have e3 : (c.toList == ([116, 105, 99, 107] : List UInt8)) = false := by rw [hj]; decide
                  have e4 : (c.toList == ([116, 101, 97, 114] : List UInt8)) = false := by rw [hj]; decide
                  have e5 : (c.toList == ([102, 97, 108, 108] : List UInt8)) = false := by rw [hj]; decide
                  have e6 : (c.toList == ([105, 110, 106, 101, 99, 116] : List UInt8)) = false := by rw [hj]; decide
                  cases o with
                  | true =>
                    clear HHEX
                    have hR0 : R = (3, fld 0 n0 0 0, [], true) := by rw [HR.out, hj]; simp [rrF]
                    have HR0 := Lib.hid hR0
                    clear hR0 HR
                    obtain ⟨z0, g, rfl, z1⟩ := H1.out (HO1.out rfl)
                    rw [z0]
                    have q0 := cell_app wc w.heap.size 0 _ _ _ HRC.out rfl
                    have q1 := cell_app wc w.heap.size 1 _ _ _ HRC.out rfl
                    have q2 := cell_app wc w.heap.size 2 _ _ _ HRC.out rfl
                    have q3 := cell_app wc w.heap.size 3 _ _ _ HRC.out rfl
                    have q4 := cell_app wc w.heap.size 4 _ _ _ HRC.out rfl
                    have q5 := cell_app wc w.heap.size 5 _ _ _ HRC.out rfl
                    have r0 := frz_app wc w.heap.size 0 _ _ HRC.out
                    have r1 := frz_app wc w.heap.size 1 _ _ HRC.out
                    have r2 := frz_app wc w.heap.size 2 _ _ HRC.out
                    have r3 := frz_app wc w.heap.size 3 _ _ HRC.out
                    have r4 := frz_app wc w.heap.size 4 _ _ HRC.out
                    have r5 := frz_app wc w.heap.size 5 _ _ HRC.out
                    go_wp2
                    (try simp only [Exit.inBlock, Exit.then])
                    have S0 := six_at wc w.heap.size (.int .i64 3) (.int .i64 0) (.int .i64 n0) (.int .i64 0) (.int .i64 0) (.slice none 0 0) _ _ _ _ _ _ _ HRC.out
                    have c0 := cell_app _ w.heap.size 0 _ _ _ S0 rfl
                    have c1 := cell_app _ w.heap.size 1 _ _ _ S0 rfl
                    have c2 := cell_app _ w.heap.size 2 _ _ _ S0 rfl
                    have c3 := cell_app _ w.heap.size 3 _ _ _ S0 rfl
                    have c4 := cell_app _ w.heap.size 4 _ _ _ S0 rfl
                    have c5 := cell_app _ w.heap.size 5 _ _ _ S0 rfl
                    have hB := six_below hbwc w.heap.size (Nat.le_refl _) (.int .i64 3) (.int .i64 0) (.int .i64 n0) (.int .i64 0) (.int .i64 0) (.slice none 0 0)
                    have hOth := fun k hk => six_other wc w.heap.size (.int .i64 3) (.int .i64 0) (.int .i64 n0) (.int .i64 0) (.int .i64 0) (.slice none 0 0) k hk
                    obtain ⟨W, hW⟩ : ∃ W, W = six wc w.heap.size (.int .i64 3) (.int .i64 0) (.int .i64 n0) (.int .i64 0) (.int .i64 0) (.slice none 0 0) := ⟨_, rfl⟩
                    rw [← hW] at c0 c1 c2 c3 c4 c5 hB hOth
                    unfold six at hW
                    rw [← hW]
                    clear hW S0 q0 q1 q2 q3 q4 q5 r0 r1 r2 r3 r4 r5
                    refine bodyPost_ret (v := .tuple #[resV R (.slice none 0 0), .bool R.2.2.2]) ?_ rfl ⟨_, rfl, ?_, hB⟩
                    · rw [results_cell_tmp rfl]
                      rw [HR0.out]
                      go_simp
                      first | exact ⟨rfl, rfl⟩ | exact rfl
                    · rw [HR0.out]
                      exact Kd.R_nil _ _ _ _ _
                  | false =>
                    clear HHEX
                    have hR0 : R = zeroR := by rw [HR.out, hj]; simp [rrF]
                    have HR0 := Lib.hid hR0
                    clear hR0 HR
                    have q0 := cell_app wc w.heap.size 0 _ _ _ HRC.out rfl
                    have q1 := cell_app wc w.heap.size 1 _ _ _ HRC.out rfl
                    have q2 := cell_app wc w.heap.size 2 _ _ _ HRC.out rfl
                    have q3 := cell_app wc w.heap.size 3 _ _ _ HRC.out rfl
                    have q4 := cell_app wc w.heap.size 4 _ _ _ HRC.out rfl
                    have q5 := cell_app wc w.heap.size 5 _ _ _ HRC.out rfl
                    have r0 := frz_app wc w.heap.size 0 _ _ HRC.out
                    have r1 := frz_app wc w.heap.size 1 _ _ HRC.out
                    have r2 := frz_app wc w.heap.size 2 _ _ HRC.out
                    have r3 := frz_app wc w.heap.size 3 _ _ HRC.out
                    have r4 := frz_app wc w.heap.size 4 _ _ HRC.out
                    have r5 := frz_app wc w.heap.size 5 _ _ HRC.out
                    go_wp2
                    (try simp only [Exit.inBlock, Exit.then])
                    have S0 := six_at wc w.heap.size (.int .i64 0) (.int .i64 0) (.int .i64 0) (.int .i64 0) (.int .i64 0) (.slice none 0 0) _ _ _ _ _ _ _ HRC.out
                    have c0 := cell_app _ w.heap.size 0 _ _ _ S0 rfl
                    have c1 := cell_app _ w.heap.size 1 _ _ _ S0 rfl
                    have c2 := cell_app _ w.heap.size 2 _ _ _ S0 rfl
                    have c3 := cell_app _ w.heap.size 3 _ _ _ S0 rfl
                    have c4 := cell_app _ w.heap.size 4 _ _ _ S0 rfl
                    have c5 := cell_app _ w.heap.size 5 _ _ _ S0 rfl
                    have hB := six_below hbwc w.heap.size (Nat.le_refl _) (.int .i64 0) (.int .i64 0) (.int .i64 0) (.int .i64 0) (.int .i64 0) (.slice none 0 0)
                    have hOth := fun k hk => six_other wc w.heap.size (.int .i64 0) (.int .i64 0) (.int .i64 0) (.int .i64 0) (.int .i64 0) (.slice none 0 0) k hk
                    obtain ⟨W, hW⟩ : ∃ W, W = six wc w.heap.size (.int .i64 0) (.int .i64 0) (.int .i64 0) (.int .i64 0) (.int .i64 0) (.slice none 0 0) := ⟨_, rfl⟩
                    rw [← hW] at c0 c1 c2 c3 c4 c5 hB hOth
                    unfold six at hW
                    rw [← hW]
                    clear hW S0 q0 q1 q2 q3 q4 q5 r0 r1 r2 r3 r4 r5
                    refine bodyPost_ret (v := .tuple #[resV R (.slice none 0 0), .bool R.2.2.2]) ?_ rfl ⟨_, rfl, ?_, hB⟩
                    · rw [results_cell_tmp rfl]
                      rw [HR0.out]
                      go_simp
                      first | exact ⟨rfl, rfl⟩ | exact rfl
                    · rw [HR0.out]
                      exact Kd.R_nil _ _ _ _ _
                · have n_lose := hj
                  have e2 : (c.toList == ([108, 111, 115, 101] : List UInt8)) = false := beq_eq_false_iff_ne.mpr hj
                  clear hj
                  by_cases hj : c.toList = [116, 105, 99, 107]
                  · have e0 : (c.toList == ([100, 101, 108, 105, 118, 101, 114] : List UInt8)) = false := by rw [hj]; decide
                    have e1 : (c.toList == ([99, 111, 112, 121] : List UInt8)) = false := by rw [hj]; decide
                    have e2 : (c.toList == ([108, 111, 115, 101] : List UInt8)) = false := by rw [hj]; decide
                    have e3 : (c.toList == ([116, 105, 99, 107] : List UInt8)) = true := by rw [hj]; decide
                    have e4 : (c.toList == ([116, 101, 97, 114] : List UInt8)) = false := by rw [hj]; decide
                    have e5 : (c.toList == ([102, 97, 108, 108] : List UInt8)) = false := by rw [hj]; decide
                    have e6 : (c.toList == ([105, 110, 106, 101, 99, 116] : List UInt8)) = false := by rw [hj]; decide
                    cases t2 with
                    | true =>
                      clear HHEX
                      have hR0 : R = (4, fld n0 0 n1 0, [], true) := by rw [HR.out, hj]; simp [rrF]
                      have HR0 := Lib.hid hR0
                      clear hR0 HR
                      obtain ⟨z0, g, rfl, z1, z2, zg⟩ := H2.out (HT2.out rfl)
                      rw [z0]
                      have hbwd : Below w.heap.size w wc.drew := hbwc.drew
                      have z3 : wc.drew.cell? ⟨g, 0, none⟩ = some (.int .i64 n0) := z1
                      have z4 : wc.drew.cell? ⟨g, 1, none⟩ = some (.int .i64 n1) := z2
                      have HRD : Hid (wc.drew.heap[w.heap.size]? = some (Obj.cells #[Value.int IntKind.i64 0, Value.int IntKind.i64 0, Value.int IntKind.i64 0, Value.int IntKind.i64 0, Value.int IntKind.i64 0, Value.slice none 0 0] 63)) := HRC
                      go_wp2
                      go_still_tail 7, (by kernel_rfl)
                      change wpList _ _ _ _ _ wc.drew
                      clear z1 z2
                      generalize wc.drew = wd at z3 z4 hbwd HRD ⊢
                      have q0 := cell_app wd w.heap.size 0 _ _ _ HRD.out rfl
                      have q1 := cell_app wd w.heap.size 1 _ _ _ HRD.out rfl
                      have q2 := cell_app wd w.heap.size 2 _ _ _ HRD.out rfl
                      have q3 := cell_app wd w.heap.size 3 _ _ _ HRD.out rfl
                      have q4 := cell_app wd w.heap.size 4 _ _ _ HRD.out rfl
                      have q5 := cell_app wd w.heap.size 5 _ _ _ HRD.out rfl
                      have r0 := frz_app wd w.heap.size 0 _ _ HRD.out
                      have r1 := frz_app wd w.heap.size 1 _ _ HRD.out
                      have r2 := frz_app wd w.heap.size 2 _ _ HRD.out
                      have r3 := frz_app wd w.heap.size 3 _ _ HRD.out
                      have r4 := frz_app wd w.heap.size 4 _ _ HRD.out
                      have r5 := frz_app wd w.heap.size 5 _ _ HRD.out
                      go_wp2
                      (try simp only [Exit.inBlock, Exit.then])
                      have S0 := six_at wd w.heap.size (.int .i64 4) (.int .i64 n0) (.int .i64 0) (.int .i64 n1) (.int .i64 0) (.slice none 0 0) _ _ _ _ _ _ _ HRD.out
                      have c0 := cell_app _ w.heap.size 0 _ _ _ S0 rfl
                      have c1 := cell_app _ w.heap.size 1 _ _ _ S0 rfl
                      have c2 := cell_app _ w.heap.size 2 _ _ _ S0 rfl
                      have c3 := cell_app _ w.heap.size 3 _ _ _ S0 rfl
                      have c4 := cell_app _ w.heap.size 4 _ _ _ S0 rfl
                      have c5 := cell_app _ w.heap.size 5 _ _ _ S0 rfl
                      have hB := six_below hbwd w.heap.size (Nat.le_refl _) (.int .i64 4) (.int .i64 n0) (.int .i64 0) (.int .i64 n1) (.int .i64 0) (.slice none 0 0)
                      have hOth := fun k hk => six_other wd w.heap.size (.int .i64 4) (.int .i64 n0) (.int .i64 0) (.int .i64 n1) (.int .i64 0) (.slice none 0 0) k hk
                      obtain ⟨W, hW⟩ : ∃ W, W = six wd w.heap.size (.int .i64 4) (.int .i64 n0) (.int .i64 0) (.int .i64 n1) (.int .i64 0) (.slice none 0 0) := ⟨_, rfl⟩
                      rw [← hW] at c0 c1 c2 c3 c4 c5 hB hOth
                      unfold six at hW
                      rw [← hW]
                      clear hW S0 q0 q1 q2 q3 q4 q5 r0 r1 r2 r3 r4 r5
                      refine bodyPost_ret (v := .tuple #[resV R (.slice none 0 0), .bool R.2.2.2]) ?_ rfl ⟨_, rfl, ?_, hB⟩
                      · rw [results_cell_tmp rfl]
                        rw [HR0.out]
                        go_simp
                        first | exact ⟨rfl, rfl⟩ | exact rfl
                      · rw [HR0.out]
                        exact Kd.R_nil _ _ _ _ _
                    | false =>
                      clear HHEX
                      have hR0 : R = zeroR := by rw [HR.out, hj]; simp [rrF]
                      have HR0 := Lib.hid hR0
                      clear hR0 HR
                      have q0 := cell_app wc w.heap.size 0 _ _ _ HRC.out rfl
                      have q1 := cell_app wc w.heap.size 1 _ _ _ HRC.out rfl
                      have q2 := cell_app wc w.heap.size 2 _ _ _ HRC.out rfl
                      have q3 := cell_app wc w.heap.size 3 _ _ _ HRC.out rfl
                      have q4 := cell_app wc w.heap.size 4 _ _ _ HRC.out rfl
                      have q5 := cell_app wc w.heap.size 5 _ _ _ HRC.out rfl
                      have r0 := frz_app wc w.heap.size 0 _ _ HRC.out
                      have r1 := frz_app wc w.heap.size 1 _ _ HRC.out
                      have r2 := frz_app wc w.heap.size 2 _ _ HRC.out
                      have r3 := frz_app wc w.heap.size 3 _ _ HRC.out
                      have r4 := frz_app wc w.heap.size 4 _ _ HRC.out
                      have r5 := frz_app wc w.heap.size 5 _ _ HRC.out
                      go_wp2
                      (try simp only [Exit.inBlock, Exit.then])
                      have S0 := six_at wc w.heap.size (.int .i64 0) (.int .i64 0) (.int .i64 0) (.int .i64 0) (.int .i64 0) (.slice none 0 0) _ _ _ _ _ _ _ HRC.out
                      have c0 := cell_app _ w.heap.size 0 _ _ _ S0 rfl
                      have c1 := cell_app _ w.heap.size 1 _ _ _ S0 rfl
                      have c2 := cell_app _ w.heap.size 2 _ _ _ S0 rfl
                      have c3 := cell_app _ w.heap.size 3 _ _ _ S0 rfl
                      have c4 := cell_app _ w.heap.size 4 _ _ _ S0 rfl
                      have c5 := cell_app _ w.heap.size 5 _ _ _ S0 rfl
                      have hB := six_below hbwc w.heap.size (Nat.le_refl _) (.int .i64 0) (.int .i64 0) (.int .i64 0) (.int .i64 0) (.int .i64 0) (.slice none 0 0)
                      have hOth := fun k hk => six_other wc w.heap.size (.int .i64 0) (.int .i64 0) (.int .i64 0) (.int .i64 0) (.int .i64 0) (.slice none 0 0) k hk
                      obtain ⟨W, hW⟩ : ∃ W, W = six wc w.heap.size (.int .i64 0) (.int .i64 0) (.int .i64 0) (.int .i64 0) (.int .i64 0) (.slice none 0 0) := ⟨_, rfl⟩
                      rw [← hW] at c0 c1 c2 c3 c4 c5 hB hOth
                      unfold six at hW
                      rw [← hW]
                      clear hW S0 q0 q1 q2 q3 q4 q5 r0 r1 r2 r3 r4 r5
                      refine bodyPost_ret (v := .tuple #[resV R (.slice none 0 0), .bool R.2.2.2]) ?_ rfl ⟨_, rfl, ?_, hB⟩
                      · rw [results_cell_tmp rfl]
                        rw [HR0.out]
                        go_simp
                        first | exact ⟨rfl, rfl⟩ | exact rfl
                      · rw [HR0.out]
                        exact Kd.R_nil _ _ _ _ _
                  · have n_tick := hj
                    have e3 : (c.toList == ([116, 105, 99, 107] : List UInt8)) = false := beq_eq_false_iff_ne.mpr hj
                    clear hj
                    by_cases hj : c.toList = [116, 101, 97, 114]
                    · have e0 : (c.toList == ([100, 101, 108, 105, 118, 101, 114] : List UInt8)) = false := by rw [hj]; decide
                      have e1 : (c.toList == ([99, 111, 112, 121] : List UInt8)) = false := by rw [hj]; decide
                      have e2 : (c.toList == ([108, 111, 115, 101] : List UInt8)) = false := by rw [hj]; decide
                      have e3 : (c.toList == ([116, 105, 99, 107] : List UInt8)) = false := by rw [hj]; decide
                      have e4 : (c.toList == ([116, 101, 97, 114] : List UInt8)) = true := by rw [hj]; decide
                      have e5 : (c.toList == ([102, 97, 108, 108] : List UInt8)) = false := by rw [hj]; decide
                      have e6 : (c.toList == ([105, 110, 106, 101, 99, 116] : List UInt8)) = false := by rw [hj]; decide
                      cases t2 with
                      | true =>
                        clear HHEX
                        have hR0 : R = (5, fld 0 n0 0 n1, [], true) := by rw [HR.out, hj]; simp [rrF]
                        have HR0 := Lib.hid hR0
                        clear hR0 HR
                        obtain ⟨z0, g, rfl, z1, z2, zg⟩ := H2.out (HT2.out rfl)
                        rw [z0]
                        have hbwd : Below w.heap.size w wc.drew := hbwc.drew
                        have z3 : wc.drew.cell? ⟨g, 0, none⟩ = some (.int .i64 n0) := z1
                        have z4 : wc.drew.cell? ⟨g, 1, none⟩ = some (.int .i64 n1) := z2
                        have HRD : Hid (wc.drew.heap[w.heap.size]? = some (Obj.cells #[Value.int IntKind.i64 0, Value.int IntKind.i64 0, Value.int IntKind.i64 0, Value.int IntKind.i64 0, Value.int IntKind.i64 0, Value.slice none 0 0] 63)) := HRC
                        go_wp2
                        go_still_tail 7, (by kernel_rfl)
                        change wpList _ _ _ _ _ wc.drew
                        clear z1 z2
                        generalize wc.drew = wd at z3 z4 hbwd HRD ⊢
                        have q0 := cell_app wd w.heap.size 0 _ _ _ HRD.out rfl
                        have q1 := cell_app wd w.heap.size 1 _ _ _ HRD.out rfl
                        have q2 := cell_app wd w.heap.size 2 _ _ _ HRD.out rfl
                        have q3 := cell_app wd w.heap.size 3 _ _ _ HRD.out rfl
                        have q4 := cell_app wd w.heap.size 4 _ _ _ HRD.out rfl
                        have q5 := cell_app wd w.heap.size 5 _ _ _ HRD.out rfl
                        have r0 := frz_app wd w.heap.size 0 _ _ HRD.out
                        have r1 := frz_app wd w.heap.size 1 _ _ HRD.out
                        have r2 := frz_app wd w.heap.size 2 _ _ HRD.out
                        have r3 := frz_app wd w.heap.size 3 _ _ HRD.out
                        have r4 := frz_app wd w.heap.size 4 _ _ HRD.out
                        have r5 := frz_app wd w.heap.size 5 _ _ HRD.out
                        go_wp2
                        (try simp only [Exit.inBlock, Exit.then])
                        have S0 := six_at wd w.heap.size (.int .i64 5) (.int .i64 0) (.int .i64 n0) (.int .i64 0) (.int .i64 n1) (.slice none 0 0) _ _ _ _ _ _ _ HRD.out
                        have c0 := cell_app _ w.heap.size 0 _ _ _ S0 rfl
                        have c1 := cell_app _ w.heap.size 1 _ _ _ S0 rfl
                        have c2 := cell_app _ w.heap.size 2 _ _ _ S0 rfl
                        have c3 := cell_app _ w.heap.size 3 _ _ _ S0 rfl
                        have c4 := cell_app _ w.heap.size 4 _ _ _ S0 rfl
                        have c5 := cell_app _ w.heap.size 5 _ _ _ S0 rfl
                        have hB := six_below hbwd w.heap.size (Nat.le_refl _) (.int .i64 5) (.int .i64 0) (.int .i64 n0) (.int .i64 0) (.int .i64 n1) (.slice none 0 0)
                        have hOth := fun k hk => six_other wd w.heap.size (.int .i64 5) (.int .i64 0) (.int .i64 n0) (.int .i64 0) (.int .i64 n1) (.slice none 0 0) k hk
                        obtain ⟨W, hW⟩ : ∃ W, W = six wd w.heap.size (.int .i64 5) (.int .i64 0) (.int .i64 n0) (.int .i64 0) (.int .i64 n1) (.slice none 0 0) := ⟨_, rfl⟩
                        rw [← hW] at c0 c1 c2 c3 c4 c5 hB hOth
                        unfold six at hW
                        rw [← hW]
                        clear hW S0 q0 q1 q2 q3 q4 q5 r0 r1 r2 r3 r4 r5
                        refine bodyPost_ret (v := .tuple #[resV R (.slice none 0 0), .bool R.2.2.2]) ?_ rfl ⟨_, rfl, ?_, hB⟩
                        · rw [results_cell_tmp rfl]
                          rw [HR0.out]
                          go_simp
                          first | exact ⟨rfl, rfl⟩ | exact rfl
                        · rw [HR0.out]
                          exact Kd.R_nil _ _ _ _ _
                      | false =>
                        clear HHEX
                        have hR0 : R = zeroR := by rw [HR.out, hj]; simp [rrF]
                        have HR0 := Lib.hid hR0
                        clear hR0 HR
                        have q0 := cell_app wc w.heap.size 0 _ _ _ HRC.out rfl
                        have q1 := cell_app wc w.heap.size 1 _ _ _ HRC.out rfl
                        have q2 := cell_app wc w.heap.size 2 _ _ _ HRC.out rfl
                        have q3 := cell_app wc w.heap.size 3 _ _ _ HRC.out rfl
                        have q4 := cell_app wc w.heap.size 4 _ _ _ HRC.out rfl
                        have q5 := cell_app wc w.heap.size 5 _ _ _ HRC.out rfl
                        have r0 := frz_app wc w.heap.size 0 _ _ HRC.out
                        have r1 := frz_app wc w.heap.size 1 _ _ HRC.out
                        have r2 := frz_app wc w.heap.size 2 _ _ HRC.out
                        have r3 := frz_app wc w.heap.size 3 _ _ HRC.out
                        have r4 := frz_app wc w.heap.size 4 _ _ HRC.out
                        have r5 := frz_app wc w.heap.size 5 _ _ HRC.out
                        go_wp2
                        (try simp only [Exit.inBlock, Exit.then])
                        have S0 := six_at wc w.heap.size (.int .i64 0) (.int .i64 0) (.int .i64 0) (.int .i64 0) (.int .i64 0) (.slice none 0 0) _ _ _ _ _ _ _ HRC.out
                        have c0 := cell_app _ w.heap.size 0 _ _ _ S0 rfl
                        have c1 := cell_app _ w.heap.size 1 _ _ _ S0 rfl
                        have c2 := cell_app _ w.heap.size 2 _ _ _ S0 rfl
                        have c3 := cell_app _ w.heap.size 3 _ _ _ S0 rfl
                        have c4 := cell_app _ w.heap.size 4 _ _ _ S0 rfl
                        have c5 := cell_app _ w.heap.size 5 _ _ _ S0 rfl
                        have hB := six_below hbwc w.heap.size (Nat.le_refl _) (.int .i64 0) (.int .i64 0) (.int .i64 0) (.int .i64 0) (.int .i64 0) (.slice none 0 0)
                        have hOth := fun k hk => six_other wc w.heap.size (.int .i64 0) (.int .i64 0) (.int .i64 0) (.int .i64 0) (.int .i64 0) (.slice none 0 0) k hk
                        obtain ⟨W, hW⟩ : ∃ W, W = six wc w.heap.size (.int .i64 0) (.int .i64 0) (.int .i64 0) (.int .i64 0) (.int .i64 0) (.slice none 0 0) := ⟨_, rfl⟩
                        rw [← hW] at c0 c1 c2 c3 c4 c5 hB hOth
                        unfold six at hW
                        rw [← hW]
                        clear hW S0 q0 q1 q2 q3 q4 q5 r0 r1 r2 r3 r4 r5
                        refine bodyPost_ret (v := .tuple #[resV R (.slice none 0 0), .bool R.2.2.2]) ?_ rfl ⟨_, rfl, ?_, hB⟩
                        · rw [results_cell_tmp rfl]
                          rw [HR0.out]
                          go_simp
                          first | exact ⟨rfl, rfl⟩ | exact rfl
                        · rw [HR0.out]
                          exact Kd.R_nil _ _ _ _ _
                    · have n_tear := hj
                      have e4 : (c.toList == ([116, 101, 97, 114] : List UInt8)) = false := beq_eq_false_iff_ne.mpr hj
                      clear hj
                      by_cases hj : c.toList = [102, 97, 108, 108]
                      · have e0 : (c.toList == ([100, 101, 108, 105, 118, 101, 114] : List UInt8)) = false := by rw [hj]; decide
                        have e1 : (c.toList == ([99, 111, 112, 121] : List UInt8)) = false := by rw [hj]; decide
                        have e2 : (c.toList == ([108, 111, 115, 101] : List UInt8)) = false := by rw [hj]; decide
                        have e3 : (c.toList == ([116, 105, 99, 107] : List UInt8)) = false := by rw [hj]; decide
                        have e4 : (c.toList == ([116, 101, 97, 114] : List UInt8)) = false := by rw [hj]; decide
                        have e5 : (c.toList == ([102, 97, 108, 108] : List UInt8)) = true := by rw [hj]; decide
                        have e6 : (c.toList == ([105, 110, 106, 101, 99, 116] : List UInt8)) = false := by rw [hj]; decide
                        cases o with
                        | true =>
                          clear HHEX
                          have hR0 : R = (6, fld n0 0 0 0, [], true) := by rw [HR.out, hj]; simp [rrF]
                          have HR0 := Lib.hid hR0
                          clear hR0 HR
                          obtain ⟨z0, g, rfl, z1⟩ := H1.out (HO1.out rfl)
                          rw [z0]
                          have q0 := cell_app wc w.heap.size 0 _ _ _ HRC.out rfl
                          have q1 := cell_app wc w.heap.size 1 _ _ _ HRC.out rfl
                          have q2 := cell_app wc w.heap.size 2 _ _ _ HRC.out rfl
                          have q3 := cell_app wc w.heap.size 3 _ _ _ HRC.out rfl
                          have q4 := cell_app wc w.heap.size 4 _ _ _ HRC.out rfl
                          have q5 := cell_app wc w.heap.size 5 _ _ _ HRC.out rfl
                          have r0 := frz_app wc w.heap.size 0 _ _ HRC.out
                          have r1 := frz_app wc w.heap.size 1 _ _ HRC.out
                          have r2 := frz_app wc w.heap.size 2 _ _ HRC.out
                          have r3 := frz_app wc w.heap.size 3 _ _ HRC.out
                          have r4 := frz_app wc w.heap.size 4 _ _ HRC.out
                          have r5 := frz_app wc w.heap.size 5 _ _ HRC.out
                          go_wp2
                          (try simp only [Exit.inBlock, Exit.then])
                          have S0 := six_at wc w.heap.size (.int .i64 6) (.int .i64 n0) (.int .i64 0) (.int .i64 0) (.int .i64 0) (.slice none 0 0) _ _ _ _ _ _ _ HRC.out
                          have c0 := cell_app _ w.heap.size 0 _ _ _ S0 rfl
                          have c1 := cell_app _ w.heap.size 1 _ _ _ S0 rfl
                          have c2 := cell_app _ w.heap.size 2 _ _ _ S0 rfl
                          have c3 := cell_app _ w.heap.size 3 _ _ _ S0 rfl
                          have c4 := cell_app _ w.heap.size 4 _ _ _ S0 rfl
                          have c5 := cell_app _ w.heap.size 5 _ _ _ S0 rfl
                          have hB := six_below hbwc w.heap.size (Nat.le_refl _) (.int .i64 6) (.int .i64 n0) (.int .i64 0) (.int .i64 0) (.int .i64 0) (.slice none 0 0)
                          have hOth := fun k hk => six_other wc w.heap.size (.int .i64 6) (.int .i64 n0) (.int .i64 0) (.int .i64 0) (.int .i64 0) (.slice none 0 0) k hk
                          obtain ⟨W, hW⟩ : ∃ W, W = six wc w.heap.size (.int .i64 6) (.int .i64 n0) (.int .i64 0) (.int .i64 0) (.int .i64 0) (.slice none 0 0) := ⟨_, rfl⟩
                          rw [← hW] at c0 c1 c2 c3 c4 c5 hB hOth
                          unfold six at hW
                          rw [← hW]
                          clear hW S0 q0 q1 q2 q3 q4 q5 r0 r1 r2 r3 r4 r5
                          refine bodyPost_ret (v := .tuple #[resV R (.slice none 0 0), .bool R.2.2.2]) ?_ rfl ⟨_, rfl, ?_, hB⟩
                          · rw [results_cell_tmp rfl]
                            rw [HR0.out]
                            go_simp
                            first | exact ⟨rfl, rfl⟩ | exact rfl
                          · rw [HR0.out]
                            exact Kd.R_nil _ _ _ _ _
                        | false =>
                          clear HHEX
                          have hR0 : R = zeroR := by rw [HR.out, hj]; simp [rrF]
                          have HR0 := Lib.hid hR0
                          clear hR0 HR
                          have q0 := cell_app wc w.heap.size 0 _ _ _ HRC.out rfl
                          have q1 := cell_app wc w.heap.size 1 _ _ _ HRC.out rfl
                          have q2 := cell_app wc w.heap.size 2 _ _ _ HRC.out rfl
                          have q3 := cell_app wc w.heap.size 3 _ _ _ HRC.out rfl
                          have q4 := cell_app wc w.heap.size 4 _ _ _ HRC.out rfl
                          have q5 := cell_app wc w.heap.size 5 _ _ _ HRC.out rfl
                          have r0 := frz_app wc w.heap.size 0 _ _ HRC.out
                          have r1 := frz_app wc w.heap.size 1 _ _ HRC.out
                          have r2 := frz_app wc w.heap.size 2 _ _ HRC.out
                          have r3 := frz_app wc w.heap.size 3 _ _ HRC.out
                          have r4 := frz_app wc w.heap.size 4 _ _ HRC.out
                          have r5 := frz_app wc w.heap.size 5 _ _ HRC.out
                          go_wp2
                          (try simp only [Exit.inBlock, Exit.then])
                          have S0 := six_at wc w.heap.size (.int .i64 0) (.int .i64 0) (.int .i64 0) (.int .i64 0) (.int .i64 0) (.slice none 0 0) _ _ _ _ _ _ _ HRC.out
                          have c0 := cell_app _ w.heap.size 0 _ _ _ S0 rfl
                          have c1 := cell_app _ w.heap.size 1 _ _ _ S0 rfl
                          have c2 := cell_app _ w.heap.size 2 _ _ _ S0 rfl
                          have c3 := cell_app _ w.heap.size 3 _ _ _ S0 rfl
                          have c4 := cell_app _ w.heap.size 4 _ _ _ S0 rfl
                          have c5 := cell_app _ w.heap.size 5 _ _ _ S0 rfl
                          have hB := six_below hbwc w.heap.size (Nat.le_refl _) (.int .i64 0) (.int .i64 0) (.int .i64 0) (.int .i64 0) (.int .i64 0) (.slice none 0 0)
                          have hOth := fun k hk => six_other wc w.heap.size (.int .i64 0) (.int .i64 0) (.int .i64 0) (.int .i64 0) (.int .i64 0) (.slice none 0 0) k hk
                          obtain ⟨W, hW⟩ : ∃ W, W = six wc w.heap.size (.int .i64 0) (.int .i64 0) (.int .i64 0) (.int .i64 0) (.int .i64 0) (.slice none 0 0) := ⟨_, rfl⟩
                          rw [← hW] at c0 c1 c2 c3 c4 c5 hB hOth
                          unfold six at hW
                          rw [← hW]
                          clear hW S0 q0 q1 q2 q3 q4 q5 r0 r1 r2 r3 r4 r5
                          refine bodyPost_ret (v := .tuple #[resV R (.slice none 0 0), .bool R.2.2.2]) ?_ rfl ⟨_, rfl, ?_, hB⟩
                          · rw [results_cell_tmp rfl]
                            rw [HR0.out]
                            go_simp
                            first | exact ⟨rfl, rfl⟩ | exact rfl
                          · rw [HR0.out]
                            exact Kd.R_nil _ _ _ _ _
                      · have n_fall := hj
                        have e5 : (c.toList == ([102, 97, 108, 108] : List UInt8)) = false := beq_eq_false_iff_ne.mpr hj
                        clear hj
                        by_cases hj : c.toList = [105, 110, 106, 101, 99, 116]
                        · have e0 : (c.toList == ([100, 101, 108, 105, 118, 101, 114] : List UInt8)) = false := by rw [hj]; decide
                          have e1 : (c.toList == ([99, 111, 112, 121] : List UInt8)) = false := by rw [hj]; decide
                          have e2 : (c.toList == ([108, 111, 115, 101] : List UInt8)) = false := by rw [hj]; decide
                          have e3 : (c.toList == ([116, 105, 99, 107] : List UInt8)) = false := by rw [hj]; decide
                          have e4 : (c.toList == ([116, 101, 97, 114] : List UInt8)) = false := by rw [hj]; decide
                          have e5 : (c.toList == ([102, 97, 108, 108] : List UInt8)) = false := by rw [hj]; decide
                          have e6 : (c.toList == ([105, 110, 106, 101, 99, 116] : List UInt8)) = true := by rw [hj]; decide
                          cases t2 with
                          | true =>
                            clear HHEX
                            have hR0 : R = (7, fld n0 n1 0 0, [], true) := by rw [HR.out, hj]; simp [rrF]
                            have HR0 := Lib.hid hR0
                            clear hR0 HR
                            obtain ⟨z0, g, rfl, z1, z2, zg⟩ := H2.out (HT2.out rfl)
                            rw [z0]
                            have hbwd : Below w.heap.size w wc.drew := hbwc.drew
                            have z3 : wc.drew.cell? ⟨g, 0, none⟩ = some (.int .i64 n0) := z1
                            have z4 : wc.drew.cell? ⟨g, 1, none⟩ = some (.int .i64 n1) := z2
                            have HRD : Hid (wc.drew.heap[w.heap.size]? = some (Obj.cells #[Value.int IntKind.i64 0, Value.int IntKind.i64 0, Value.int IntKind.i64 0, Value.int IntKind.i64 0, Value.int IntKind.i64 0, Value.slice none 0 0] 63)) := HRC
                            go_wp2
                            go_still_tail 7, (by kernel_rfl)
                            change wpList _ _ _ _ _ wc.drew
                            clear z1 z2
                            generalize wc.drew = wd at z3 z4 hbwd HRD ⊢
                            have q0 := cell_app wd w.heap.size 0 _ _ _ HRD.out rfl
                            have q1 := cell_app wd w.heap.size 1 _ _ _ HRD.out rfl
                            have q2 := cell_app wd w.heap.size 2 _ _ _ HRD.out rfl
                            have q3 := cell_app wd w.heap.size 3 _ _ _ HRD.out rfl
                            have q4 := cell_app wd w.heap.size 4 _ _ _ HRD.out rfl
                            have q5 := cell_app wd w.heap.size 5 _ _ _ HRD.out rfl
                            have r0 := frz_app wd w.heap.size 0 _ _ HRD.out
                            have r1 := frz_app wd w.heap.size 1 _ _ HRD.out
                            have r2 := frz_app wd w.heap.size 2 _ _ HRD.out
                            have r3 := frz_app wd w.heap.size 3 _ _ HRD.out
                            have r4 := frz_app wd w.heap.size 4 _ _ HRD.out
                            have r5 := frz_app wd w.heap.size 5 _ _ HRD.out
                            go_wp2
                            (try simp only [Exit.inBlock, Exit.then])
                            have S0 := six_at wd w.heap.size (.int .i64 7) (.int .i64 n0) (.int .i64 n1) (.int .i64 0) (.int .i64 0) (.slice none 0 0) _ _ _ _ _ _ _ HRD.out
                            have c0 := cell_app _ w.heap.size 0 _ _ _ S0 rfl
                            have c1 := cell_app _ w.heap.size 1 _ _ _ S0 rfl
                            have c2 := cell_app _ w.heap.size 2 _ _ _ S0 rfl
                            have c3 := cell_app _ w.heap.size 3 _ _ _ S0 rfl
                            have c4 := cell_app _ w.heap.size 4 _ _ _ S0 rfl
                            have c5 := cell_app _ w.heap.size 5 _ _ _ S0 rfl
                            have hB := six_below hbwd w.heap.size (Nat.le_refl _) (.int .i64 7) (.int .i64 n0) (.int .i64 n1) (.int .i64 0) (.int .i64 0) (.slice none 0 0)
                            have hOth := fun k hk => six_other wd w.heap.size (.int .i64 7) (.int .i64 n0) (.int .i64 n1) (.int .i64 0) (.int .i64 0) (.slice none 0 0) k hk
                            obtain ⟨W, hW⟩ : ∃ W, W = six wd w.heap.size (.int .i64 7) (.int .i64 n0) (.int .i64 n1) (.int .i64 0) (.int .i64 0) (.slice none 0 0) := ⟨_, rfl⟩
                            rw [← hW] at c0 c1 c2 c3 c4 c5 hB hOth
                            unfold six at hW
                            rw [← hW]
                            clear hW S0 q0 q1 q2 q3 q4 q5 r0 r1 r2 r3 r4 r5
                            refine bodyPost_ret (v := .tuple #[resV R (.slice none 0 0), .bool R.2.2.2]) ?_ rfl ⟨_, rfl, ?_, hB⟩
                            · rw [results_cell_tmp rfl]
                              rw [HR0.out]
                              go_simp
                              first | exact ⟨rfl, rfl⟩ | exact rfl
                            · rw [HR0.out]
                              exact Kd.R_nil _ _ _ _ _
                          | false =>
                            by_cases h4 : l.length = 4
                            · obtain ⟨z0, g, rfl, z1, z2, zg⟩ := H2.out (by omega)
                              rw [z0]
                              have d1 : ((l.length : Int) == 4) = true := by rw [h4]; rfl
                              have d2 : (l.length == 4) = true := by rw [h4]; rfl
                              by_cases p0 : 0 ≤ n0
                              · have d3 := decide_eq_true p0
                                by_cases p1 : 0 ≤ n1
                                · have d4 := decide_eq_true p1
                                  have hf : f4 = true := by rw [HF4.out]; exact decide_eq_true ⟨h4, p0, p1⟩
                                  have hR0 : R = (7, fld n0 n1 0 0, hx.1, decide (hx.2 < 0)) := by rw [HR.out, hj, hf]; simp [rrF]
                                  have HR0 := Lib.hid hR0
                                  have hC3 := Kd.C_below HC.out hbwc
                                  obtain ⟨ad3, e3, hl3⟩ := Kd.at_string hC3 (3 : Int) (by omega) (by omega)
                                  obtain rfl : ad0 = ad3 := by injection e3
                                  rw [show rdOf ByteArray.empty l (3 : Int) = l.getD 3 ByteArray.empty from rfl, show (3 : Int).toNat = 3 from rfl] at hl3
                                  obtain ⟨s3, hs3⟩ : ∃ s, s = l.getD 3 ByteArray.empty := ⟨_, rfl⟩
                                  have hsz3 : s3.size ≤ 100000 := by
                                    rw [hs3, List.getD_eq_getElem?_getD, List.getElem?_eq_getElem (by omega)]
                                    exact HL2.out _ (List.getElem_mem _)
                                  have hcall := HHEX.out s3 wc hsz3
                                  rw [hs3, ← HHX.out, ← hs3] at hcall
                                  rw [← hs3] at hl3
                                  obtain ⟨hx1, hx2⟩ := hx
                                  have HCALL := Lib.hid hcall
                                  have y3 : (3 : Int) < (l.length : Int) := by omega
                                  have hl3' : wc.cell? ⟨ad0.block, ad0.off + 3, none⟩ = some (.string s3) := hl3
                                  have Z1 := Lib.hid z1
                                  have Z2 := Lib.hid z2
                                  have hgl : g < wc.heap.size := by
                                    rcases Nat.lt_or_ge g wc.heap.size with h | h
                                    · exact h
                                    · unfold World.cell? at z1; rw [Array.getElem?_eq_none h] at z1; cases z1
                                  have HGL := Lib.hid hgl
                                  clear hR0 HR hC3 hs3 hsz3 hcall h4 p0 p1 hf hgl
                                  go_upto_region 24 with (go_at_call 101; (with_reducible refine (HCALL.out).mono ?_); rintro e wh ⟨v, rfl, hRv, hbh⟩; obtain ⟨Aw, cw, rfl⟩ := Kd.R_slice hRv; have HRV := Lib.hid hRv; clear hRv)
                                  clear HCALL hl3 hl3' z1 z2 hl0
                                  have e1 : wh.heap[g]? = wc.heap[g]? := hbh.block g HGL.out
                                  have z1 : wh.cell? ⟨g, 0, none⟩ = some (.int .i64 n0) := by have := Z1.out; unfold World.cell? at this ⊢; rw [e1]; exact this
                                  have z2 : wh.cell? ⟨g, 1, none⟩ = some (.int .i64 n1) := by have := Z2.out; unfold World.cell? at this ⊢; rw [e1]; exact this
                                  have hWQ : w.heap.size < wc.heap.size := heap_lt HRC.out
                                  have HWQ := Lib.hid hWQ
                                  have HRH : Hid (wh.heap[w.heap.size]? = some (Obj.cells #[Value.int IntKind.i64 0, Value.int IntKind.i64 0, Value.int IntKind.i64 0, Value.int IntKind.i64 0, Value.int IntKind.i64 0, Value.slice none 0 0] 63)) := Lib.hid ((hbh.block w.heap.size hWQ).trans HRC.out)
                                  have hbwh : Below w.heap.size w wh := hbwc.trans (hbh.mono hbwc.size)
                                  have z3 : wh.drew.cell? ⟨g, 0, none⟩ = some (.int .i64 n0) := z1
                                  have z4 : wh.drew.cell? ⟨g, 1, none⟩ = some (.int .i64 n1) := z2
                                  have hbwd : Below w.heap.size w wh.drew := hbwh.drew
                                  have HRD : Hid (wh.drew.heap[w.heap.size]? = some (Obj.cells #[Value.int IntKind.i64 0, Value.int IntKind.i64 0, Value.int IntKind.i64 0, Value.int IntKind.i64 0, Value.int IntKind.i64 0, Value.slice none 0 0] 63)) := HRH
                                  have HRW : Hid (Kd.R (Kd.int .u8) 5 wh.drew wc.heap.size (fun _ => True) (Value.slice Aw hx1.length cw) hx1) := Lib.hid (Kd.R_drew HRV.out)
                                  clear hWQ e1 HRV
                                  have HZG := Lib.hid zg
                                  clear zg
                                  go_wp2
                                  refine start_ (n := 12) (S := fun w' => w'.cell? ⟨g, 0, none⟩ = some (.int .i64 n0) ∧ w'.cell? ⟨g, 1, none⟩ = some (.int .i64 n1)) (ds := []) #[false, false, false, false, false, false, false, false, false, false, false, false] (by kernel_rfl) rfl rfl ⟨z3, z4⟩ (fun hHeld => ?_); refine with_tabW Read.tab24 Read.bits24 (fun HT_ HW_ => ?_)
                                  clear z1 z2 hbh
                                  generalize wh.drew = wd at z3 z4 hbwd HRD HRW hHeld ⊢
                                  refine pure_ (i := 0) (N := some 166) (v := ?_) (a' := ?_) #[true, false, false, false, false, false, false, false, false, false, false, false] rfl rfl (any_of HT_.out (by kernel_rfl)) (fun _ _ _ h => h) (Or.inl ⟨by rfl, ?_⟩) ?_ ?_
                                  rotate_left
                                  · intro w'
                                    go_simp
                                    with_reducible rfl
                                  rotate_left
                                  · simp only [Act.put, List.setIfInBounds_toArray, List.set_cons_zero, List.set_cons_succ, i64_w, i32_w]
                                    rfl
                                  refine pure_ (i := 1) (N := some 167) (v := ?_) (a' := ?_) #[true, true, false, false, false, false, false, false, false, false, false, false] rfl rfl (any_of HT_.out (by kernel_rfl)) (fun _ _ _ h => h) (Or.inl ⟨by rfl, ?_⟩) ?_ ?_
                                  rotate_left
                                  · intro w'
                                    go_simp
                                    with_reducible rfl
                                  rotate_left
                                  · simp only [Act.put, List.setIfInBounds_toArray, List.set_cons_zero, List.set_cons_succ, i64_w, i32_w]
                                    rfl
                                  refine pure_ (i := 3) (N := some 169) (v := ?_) (a' := ?_) #[true, true, false, true, false, false, false, false, false, false, false, false] rfl rfl (any_of HT_.out (by kernel_rfl)) (fun _ _ _ h => h) (Or.inl ⟨by rfl, ?_⟩) ?_ ?_
                                  rotate_left
                                  · intro w'
                                    go_simp
                                    with_reducible rfl
                                  rotate_left
                                  · simp only [Act.put, List.setIfInBounds_toArray, List.set_cons_zero, List.set_cons_succ, i64_w, i32_w]
                                    rfl
                                  refine pure_ (i := 4) (N := some 170) (v := ?_) (a' := ?_) #[true, true, false, true, true, false, false, false, false, false, false, false] rfl rfl (any_of HT_.out (by kernel_rfl)) (fun _ _ _ h => h) (Or.inl ⟨by rfl, ?_⟩) ?_ ?_
                                  rotate_left
                                  · intro w'
                                    go_simp
                                    with_reducible rfl
                                  rotate_left
                                  · simp only [Act.put, List.setIfInBounds_toArray, List.set_cons_zero, List.set_cons_succ, i64_w, i32_w]
                                    rfl
                                  refine pure_ (i := 6) (N := some 172) (v := ?_) (a' := ?_) #[true, true, false, true, true, false, true, false, false, false, false, false] rfl rfl (any_of HT_.out (by kernel_rfl)) (fun _ _ _ h => h) (Or.inl ⟨by rfl, ?_⟩) ?_ ?_
                                  rotate_left
                                  · intro w'
                                    go_simp
                                    with_reducible rfl
                                  rotate_left
                                  · simp only [Act.put, List.setIfInBounds_toArray, List.set_cons_zero, List.set_cons_succ, i64_w, i32_w]
                                    rfl
                                  refine pure_ (i := 8) (N := some 174) (v := ?_) (a' := ?_) #[true, true, false, true, true, false, true, false, true, false, false, false] rfl rfl (any_of HT_.out (by kernel_rfl)) (fun _ _ _ h => h) (Or.inl ⟨by rfl, ?_⟩) ?_ ?_
                                  rotate_left
                                  · intro w'
                                    go_simp
                                    with_reducible rfl
                                  rotate_left
                                  · simp only [Act.put, List.setIfInBounds_toArray, List.set_cons_zero, List.set_cons_succ, i64_w, i32_w]
                                    rfl
                                  refine pure_ (i := 9) (N := some 175) (v := ?_) (a' := ?_) #[true, true, false, true, true, false, true, false, true, true, false, false] rfl rfl (any_of HT_.out (by kernel_rfl)) (fun _ _ _ h => h) (Or.inl ⟨by rfl, ?_⟩) ?_ ?_
                                  rotate_left
                                  · intro w'
                                    go_simp
                                    with_reducible rfl
                                  rotate_left
                                  · simp only [Act.put, List.setIfInBounds_toArray, List.set_cons_zero, List.set_cons_succ, i64_w, i32_w]
                                    rfl
                                  refine take_ (i := 2) (N := some 168) (v := ?_) (a' := ?_) #[true, true, true, true, true, false, true, false, true, true, false, false] rfl rfl (take_ofW HT_.out HW_.out (by kernel_rfl)) (fun _ _ _ h => h) (Or.inl ⟨by rfl, ?_⟩) hHeld ?_ ?_
                                  rotate_left
                                  · rintro w' ⟨s0, s1⟩
                                    go_simp
                                    with_reducible rfl
                                  rotate_left
                                  · simp only [Act.put, List.setIfInBounds_toArray, List.set_cons_zero, List.set_cons_succ, i64_w, i32_w]
                                    rfl
                                  refine take_ (i := 5) (N := some 171) (v := ?_) (a' := ?_) #[true, true, true, true, true, true, true, false, true, true, false, false] rfl rfl (take_ofW HT_.out HW_.out (by kernel_rfl)) (fun _ _ _ h => h) (Or.inl ⟨by rfl, ?_⟩) hHeld ?_ ?_
                                  rotate_left
                                  · rintro w' ⟨s0, s1⟩
                                    go_simp
                                    with_reducible rfl
                                  rotate_left
                                  · simp only [Act.put, List.setIfInBounds_toArray, List.set_cons_zero, List.set_cons_succ, i64_w, i32_w]
                                    rfl
                                  refine pure_ (i := 7) (N := some 173) (v := ?_) (a' := ?_) #[true, true, true, true, true, true, true, true, true, true, false, false] rfl rfl (any_of HT_.out (by kernel_rfl)) (fun _ _ _ h => h) (Or.inl ⟨by rfl, ?_⟩) ?_ ?_
                                  rotate_left
                                  · intro w'
                                    go_simp
                                    with_reducible rfl
                                  rotate_left
                                  · simp only [Act.put, List.setIfInBounds_toArray, List.set_cons_zero, List.set_cons_succ, i64_w, i32_w]
                                    rfl
                                  refine one_ (i := 10) (N := none) #[true, true, true, true, true, true, true, true, true, true, true, false] rfl rfl (one_of HT_.out (by kernel_rfl)) (by decide) (fun K hK => ?_)
                                  have q0 := cell_app wd w.heap.size 0 _ _ _ HRD.out rfl
                                  have q1 := cell_app wd w.heap.size 1 _ _ _ HRD.out rfl
                                  have q2 := cell_app wd w.heap.size 2 _ _ _ HRD.out rfl
                                  have q3 := cell_app wd w.heap.size 3 _ _ _ HRD.out rfl
                                  have q4 := cell_app wd w.heap.size 4 _ _ _ HRD.out rfl
                                  have q5 := cell_app wd w.heap.size 5 _ _ _ HRD.out rfl
                                  have r0 := frz_app wd w.heap.size 0 _ _ HRD.out
                                  have r1 := frz_app wd w.heap.size 1 _ _ HRD.out
                                  have r2 := frz_app wd w.heap.size 2 _ _ HRD.out
                                  have r3 := frz_app wd w.heap.size 3 _ _ HRD.out
                                  have r4 := frz_app wd w.heap.size 4 _ _ HRD.out
                                  have r5 := frz_app wd w.heap.size 5 _ _ HRD.out
                                  refine skip_ (w1 := ?_) (by rfl) rfl ?_ ?_
                                  rotate_left
                                  · go_simp
                                    rfl
                                  refine hK.out _ _ ⟨(show (six wd w.heap.size (.int .i64 7) (.int .i64 n0) (.int .i64 n1) (.int .i64 0) (.int .i64 0) (.slice Aw hx1.length cw)).cell? ⟨g, 0, none⟩ = _ from by unfold World.cell?; rw [six_other _ _ _ _ _ _ _ _ g (by have := HZG.out; omega)]; exact z3), (show (six wd w.heap.size (.int .i64 7) (.int .i64 n0) (.int .i64 n1) (.int .i64 0) (.int .i64 0) (.slice Aw hx1.length cw)).cell? ⟨g, 1, none⟩ = _ from by unfold World.cell?; rw [six_other _ _ _ _ _ _ _ _ g (by have := HZG.out; omega)]; exact z4)⟩ (fun _ => ?_)
                                  clear hK K
                                  refine pure_ (i := 11) (N := some 3) (v := ?_) (a' := ?_) #[true, true, true, true, true, true, true, true, true, true, true, true] rfl rfl (any_of HT_.out (by kernel_rfl)) (fun _ _ _ h => h) (Or.inl ⟨by rfl, ?_⟩) ?_ ?_
                                  rotate_left
                                  · intro w'
                                    go_simp
                                    with_reducible rfl
                                  rotate_left
                                  · simp only [Act.put, List.setIfInBounds_toArray, List.set_cons_zero, List.set_cons_succ, i64_w, i32_w]
                                    rfl
                                  refine done_ (done_of HT_.out (by kernel_rfl)) ?_
                                  go_wp2
                                  (try simp only [Exit.inBlock, Exit.then])
                                  have S0 := six_at wd w.heap.size (.int .i64 7) (.int .i64 n0) (.int .i64 n1) (.int .i64 0) (.int .i64 0) (.slice Aw hx1.length cw) _ _ _ _ _ _ _ HRD.out
                                  have c0 := cell_app _ w.heap.size 0 _ _ _ S0 rfl
                                  have c1 := cell_app _ w.heap.size 1 _ _ _ S0 rfl
                                  have c2 := cell_app _ w.heap.size 2 _ _ _ S0 rfl
                                  have c3 := cell_app _ w.heap.size 3 _ _ _ S0 rfl
                                  have c4 := cell_app _ w.heap.size 4 _ _ _ S0 rfl
                                  have c5 := cell_app _ w.heap.size 5 _ _ _ S0 rfl
                                  have hB := six_below hbwd w.heap.size (Nat.le_refl _) (.int .i64 7) (.int .i64 n0) (.int .i64 n1) (.int .i64 0) (.int .i64 0) (.slice Aw hx1.length cw)
                                  have hOth := fun k hk => six_other wd w.heap.size (.int .i64 7) (.int .i64 n0) (.int .i64 n1) (.int .i64 0) (.int .i64 0) (.slice Aw hx1.length cw) k hk
                                  obtain ⟨W, hW⟩ : ∃ W, W = six wd w.heap.size (.int .i64 7) (.int .i64 n0) (.int .i64 n1) (.int .i64 0) (.int .i64 0) (.slice Aw hx1.length cw) := ⟨_, rfl⟩
                                  rw [← hW] at c0 c1 c2 c3 c4 c5 hB hOth
                                  unfold six at hW
                                  rw [← hW]
                                  clear hW S0 q0 q1 q2 q3 q4 q5 r0 r1 r2 r3 r4 r5
                                  refine bodyPost_ret (v := .tuple #[resV R (.slice Aw hx1.length cw), .bool R.2.2.2]) ?_ rfl ⟨_, rfl, ?_, hB⟩
                                  · rw [results_cell_tmp rfl]
                                    rw [HR0.out]
                                    go_simp
                                    first | exact ⟨rfl, rfl⟩ | exact rfl
                                  · rw [HR0.out]
                                    refine Kd.R_lower (base' := w.heap.size) ?_ hbwc.size
                                    refine Kd.R_mono (Kd.R_step (Kd.R_bound HRW.out) (fun k hk _ => hOth k ?_)) (fun _ _ => trivial)
                                    have := HWQ.out
                                    have := hk.2.1
                                    omega
                                · have d4 := decide_eq_false p1
                                  have hf : f4 = false := by rw [HF4.out]; exact decide_eq_false (fun h => p1 h.2.2)
                                  have hR0 : R = zeroR := by rw [HR.out, hj]; simp [rrF, hf]
                                  have HR0 := Lib.hid hR0
                                  clear hR0 HR
                                  clear h4 p0 p1 hf HHEX
                                  have q0 := cell_app wc w.heap.size 0 _ _ _ HRC.out rfl
                                  have q1 := cell_app wc w.heap.size 1 _ _ _ HRC.out rfl
                                  have q2 := cell_app wc w.heap.size 2 _ _ _ HRC.out rfl
                                  have q3 := cell_app wc w.heap.size 3 _ _ _ HRC.out rfl
                                  have q4 := cell_app wc w.heap.size 4 _ _ _ HRC.out rfl
                                  have q5 := cell_app wc w.heap.size 5 _ _ _ HRC.out rfl
                                  have r0 := frz_app wc w.heap.size 0 _ _ HRC.out
                                  have r1 := frz_app wc w.heap.size 1 _ _ HRC.out
                                  have r2 := frz_app wc w.heap.size 2 _ _ HRC.out
                                  have r3 := frz_app wc w.heap.size 3 _ _ HRC.out
                                  have r4 := frz_app wc w.heap.size 4 _ _ HRC.out
                                  have r5 := frz_app wc w.heap.size 5 _ _ HRC.out
                                  go_wp2
                                  (try simp only [Exit.inBlock, Exit.then])
                                  have S0 := six_at wc w.heap.size (.int .i64 0) (.int .i64 0) (.int .i64 0) (.int .i64 0) (.int .i64 0) (.slice none 0 0) _ _ _ _ _ _ _ HRC.out
                                  have c0 := cell_app _ w.heap.size 0 _ _ _ S0 rfl
                                  have c1 := cell_app _ w.heap.size 1 _ _ _ S0 rfl
                                  have c2 := cell_app _ w.heap.size 2 _ _ _ S0 rfl
                                  have c3 := cell_app _ w.heap.size 3 _ _ _ S0 rfl
                                  have c4 := cell_app _ w.heap.size 4 _ _ _ S0 rfl
                                  have c5 := cell_app _ w.heap.size 5 _ _ _ S0 rfl
                                  have hB := six_below hbwc w.heap.size (Nat.le_refl _) (.int .i64 0) (.int .i64 0) (.int .i64 0) (.int .i64 0) (.int .i64 0) (.slice none 0 0)
                                  have hOth := fun k hk => six_other wc w.heap.size (.int .i64 0) (.int .i64 0) (.int .i64 0) (.int .i64 0) (.int .i64 0) (.slice none 0 0) k hk
                                  obtain ⟨W, hW⟩ : ∃ W, W = six wc w.heap.size (.int .i64 0) (.int .i64 0) (.int .i64 0) (.int .i64 0) (.int .i64 0) (.slice none 0 0) := ⟨_, rfl⟩
                                  rw [← hW] at c0 c1 c2 c3 c4 c5 hB hOth
                                  unfold six at hW
                                  rw [← hW]
                                  clear hW S0 q0 q1 q2 q3 q4 q5 r0 r1 r2 r3 r4 r5
                                  refine bodyPost_ret (v := .tuple #[resV R (.slice none 0 0), .bool R.2.2.2]) ?_ rfl ⟨_, rfl, ?_, hB⟩
                                  · rw [results_cell_tmp rfl]
                                    rw [HR0.out]
                                    go_simp
                                    first | exact ⟨rfl, rfl⟩ | exact rfl
                                  · rw [HR0.out]
                                    exact Kd.R_nil _ _ _ _ _
                              · have d3 := decide_eq_false p0
                                have hf : f4 = false := by rw [HF4.out]; exact decide_eq_false (fun h => p0 h.2.1)
                                have hR0 : R = zeroR := by rw [HR.out, hj]; simp [rrF, hf]
                                have HR0 := Lib.hid hR0
                                clear hR0 HR
                                clear h4 p0 hf HHEX
                                have q0 := cell_app wc w.heap.size 0 _ _ _ HRC.out rfl
                                have q1 := cell_app wc w.heap.size 1 _ _ _ HRC.out rfl
                                have q2 := cell_app wc w.heap.size 2 _ _ _ HRC.out rfl
                                have q3 := cell_app wc w.heap.size 3 _ _ _ HRC.out rfl
                                have q4 := cell_app wc w.heap.size 4 _ _ _ HRC.out rfl
                                have q5 := cell_app wc w.heap.size 5 _ _ _ HRC.out rfl
                                have r0 := frz_app wc w.heap.size 0 _ _ HRC.out
                                have r1 := frz_app wc w.heap.size 1 _ _ HRC.out
                                have r2 := frz_app wc w.heap.size 2 _ _ HRC.out
                                have r3 := frz_app wc w.heap.size 3 _ _ HRC.out
                                have r4 := frz_app wc w.heap.size 4 _ _ HRC.out
                                have r5 := frz_app wc w.heap.size 5 _ _ HRC.out
                                go_wp2
                                (try simp only [Exit.inBlock, Exit.then])
                                have S0 := six_at wc w.heap.size (.int .i64 0) (.int .i64 0) (.int .i64 0) (.int .i64 0) (.int .i64 0) (.slice none 0 0) _ _ _ _ _ _ _ HRC.out
                                have c0 := cell_app _ w.heap.size 0 _ _ _ S0 rfl
                                have c1 := cell_app _ w.heap.size 1 _ _ _ S0 rfl
                                have c2 := cell_app _ w.heap.size 2 _ _ _ S0 rfl
                                have c3 := cell_app _ w.heap.size 3 _ _ _ S0 rfl
                                have c4 := cell_app _ w.heap.size 4 _ _ _ S0 rfl
                                have c5 := cell_app _ w.heap.size 5 _ _ _ S0 rfl
                                have hB := six_below hbwc w.heap.size (Nat.le_refl _) (.int .i64 0) (.int .i64 0) (.int .i64 0) (.int .i64 0) (.int .i64 0) (.slice none 0 0)
                                have hOth := fun k hk => six_other wc w.heap.size (.int .i64 0) (.int .i64 0) (.int .i64 0) (.int .i64 0) (.int .i64 0) (.slice none 0 0) k hk
                                obtain ⟨W, hW⟩ : ∃ W, W = six wc w.heap.size (.int .i64 0) (.int .i64 0) (.int .i64 0) (.int .i64 0) (.int .i64 0) (.slice none 0 0) := ⟨_, rfl⟩
                                rw [← hW] at c0 c1 c2 c3 c4 c5 hB hOth
                                unfold six at hW
                                rw [← hW]
                                clear hW S0 q0 q1 q2 q3 q4 q5 r0 r1 r2 r3 r4 r5
                                refine bodyPost_ret (v := .tuple #[resV R (.slice none 0 0), .bool R.2.2.2]) ?_ rfl ⟨_, rfl, ?_, hB⟩
                                · rw [results_cell_tmp rfl]
                                  rw [HR0.out]
                                  go_simp
                                  first | exact ⟨rfl, rfl⟩ | exact rfl
                                · rw [HR0.out]
                                  exact Kd.R_nil _ _ _ _ _
                            · have d1 : ((l.length : Int) == 4) = false := by simp; omega
                              have d2 : (l.length == 4) = false := by simp; omega
                              have hf : f4 = false := by rw [HF4.out]; exact decide_eq_false (fun h => h4 h.1)
                              have hR0 : R = zeroR := by rw [HR.out, hj]; simp [rrF, hf]
                              have HR0 := Lib.hid hR0
                              clear hR0 HR
                              clear h4 hf HHEX
                              have q0 := cell_app wc w.heap.size 0 _ _ _ HRC.out rfl
                              have q1 := cell_app wc w.heap.size 1 _ _ _ HRC.out rfl
                              have q2 := cell_app wc w.heap.size 2 _ _ _ HRC.out rfl
                              have q3 := cell_app wc w.heap.size 3 _ _ _ HRC.out rfl
                              have q4 := cell_app wc w.heap.size 4 _ _ _ HRC.out rfl
                              have q5 := cell_app wc w.heap.size 5 _ _ _ HRC.out rfl
                              have r0 := frz_app wc w.heap.size 0 _ _ HRC.out
                              have r1 := frz_app wc w.heap.size 1 _ _ HRC.out
                              have r2 := frz_app wc w.heap.size 2 _ _ HRC.out
                              have r3 := frz_app wc w.heap.size 3 _ _ HRC.out
                              have r4 := frz_app wc w.heap.size 4 _ _ HRC.out
                              have r5 := frz_app wc w.heap.size 5 _ _ HRC.out
                              go_wp2
                              (try simp only [Exit.inBlock, Exit.then])
                              have S0 := six_at wc w.heap.size (.int .i64 0) (.int .i64 0) (.int .i64 0) (.int .i64 0) (.int .i64 0) (.slice none 0 0) _ _ _ _ _ _ _ HRC.out
                              have c0 := cell_app _ w.heap.size 0 _ _ _ S0 rfl
                              have c1 := cell_app _ w.heap.size 1 _ _ _ S0 rfl
                              have c2 := cell_app _ w.heap.size 2 _ _ _ S0 rfl
                              have c3 := cell_app _ w.heap.size 3 _ _ _ S0 rfl
                              have c4 := cell_app _ w.heap.size 4 _ _ _ S0 rfl
                              have c5 := cell_app _ w.heap.size 5 _ _ _ S0 rfl
                              have hB := six_below hbwc w.heap.size (Nat.le_refl _) (.int .i64 0) (.int .i64 0) (.int .i64 0) (.int .i64 0) (.int .i64 0) (.slice none 0 0)
                              have hOth := fun k hk => six_other wc w.heap.size (.int .i64 0) (.int .i64 0) (.int .i64 0) (.int .i64 0) (.int .i64 0) (.slice none 0 0) k hk
                              obtain ⟨W, hW⟩ : ∃ W, W = six wc w.heap.size (.int .i64 0) (.int .i64 0) (.int .i64 0) (.int .i64 0) (.int .i64 0) (.slice none 0 0) := ⟨_, rfl⟩
                              rw [← hW] at c0 c1 c2 c3 c4 c5 hB hOth
                              unfold six at hW
                              rw [← hW]
                              clear hW S0 q0 q1 q2 q3 q4 q5 r0 r1 r2 r3 r4 r5
                              refine bodyPost_ret (v := .tuple #[resV R (.slice none 0 0), .bool R.2.2.2]) ?_ rfl ⟨_, rfl, ?_, hB⟩
                              · rw [results_cell_tmp rfl]
                                rw [HR0.out]
                                go_simp
                                first | exact ⟨rfl, rfl⟩ | exact rfl
                              · rw [HR0.out]
                                exact Kd.R_nil _ _ _ _ _
                        · have n_inject := hj
                          have e6 : (c.toList == ([105, 110, 106, 101, 99, 116] : List UInt8)) = false := beq_eq_false_iff_ne.mpr hj
                          clear hj
                          clear HHEX
                          have hR0 : R = zeroR := by rw [HR.out]; simp [rrF, n_deliver, n_copy, n_lose, n_tick, n_tear, n_fall, n_inject]
                          have HR0 := Lib.hid hR0
                          clear hR0 HR
                          have q0 := cell_app wc w.heap.size 0 _ _ _ HRC.out rfl
                          have q1 := cell_app wc w.heap.size 1 _ _ _ HRC.out rfl
                          have q2 := cell_app wc w.heap.size 2 _ _ _ HRC.out rfl
                          have q3 := cell_app wc w.heap.size 3 _ _ _ HRC.out rfl
                          have q4 := cell_app wc w.heap.size 4 _ _ _ HRC.out rfl
                          have q5 := cell_app wc w.heap.size 5 _ _ _ HRC.out rfl
                          have r0 := frz_app wc w.heap.size 0 _ _ HRC.out
                          have r1 := frz_app wc w.heap.size 1 _ _ HRC.out
                          have r2 := frz_app wc w.heap.size 2 _ _ HRC.out
                          have r3 := frz_app wc w.heap.size 3 _ _ HRC.out
                          have r4 := frz_app wc w.heap.size 4 _ _ HRC.out
                          have r5 := frz_app wc w.heap.size 5 _ _ HRC.out
                          go_wp2
                          (try simp only [Exit.inBlock, Exit.then])
                          have S0 := six_at wc w.heap.size (.int .i64 0) (.int .i64 0) (.int .i64 0) (.int .i64 0) (.int .i64 0) (.slice none 0 0) _ _ _ _ _ _ _ HRC.out
                          have c0 := cell_app _ w.heap.size 0 _ _ _ S0 rfl
                          have c1 := cell_app _ w.heap.size 1 _ _ _ S0 rfl
                          have c2 := cell_app _ w.heap.size 2 _ _ _ S0 rfl
                          have c3 := cell_app _ w.heap.size 3 _ _ _ S0 rfl
                          have c4 := cell_app _ w.heap.size 4 _ _ _ S0 rfl
                          have c5 := cell_app _ w.heap.size 5 _ _ _ S0 rfl
                          have hB := six_below hbwc w.heap.size (Nat.le_refl _) (.int .i64 0) (.int .i64 0) (.int .i64 0) (.int .i64 0) (.int .i64 0) (.slice none 0 0)
                          have hOth := fun k hk => six_other wc w.heap.size (.int .i64 0) (.int .i64 0) (.int .i64 0) (.int .i64 0) (.int .i64 0) (.slice none 0 0) k hk
                          obtain ⟨W, hW⟩ : ∃ W, W = six wc w.heap.size (.int .i64 0) (.int .i64 0) (.int .i64 0) (.int .i64 0) (.int .i64 0) (.slice none 0 0) := ⟨_, rfl⟩
                          rw [← hW] at c0 c1 c2 c3 c4 c5 hB hOth
                          unfold six at hW
                          rw [← hW]
                          clear hW S0 q0 q1 q2 q3 q4 q5 r0 r1 r2 r3 r4 r5
                          refine bodyPost_ret (v := .tuple #[resV R (.slice none 0 0), .bool R.2.2.2]) ?_ rfl ⟨_, rfl, ?_, hB⟩
                          · rw [results_cell_tmp rfl]
                            rw [HR0.out]
                            go_simp
                            first | exact ⟨rfl, rfl⟩ | exact rfl
                          · rw [HR0.out]
                            exact Kd.R_nil _ _ _ _ _
end Go.Proofs.YtpeebjnfmlfocaaDoor.TpR
