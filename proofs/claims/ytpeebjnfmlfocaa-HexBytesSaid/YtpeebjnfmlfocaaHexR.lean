/- The reference's Text and Groups, walked: they hand back the document's texts, for lists of bytes up to a million. -/
import Derived.Test.YtpeebjnfmlfocaaHexG
import Derived.Deep.QuietTactic
import Derived.BigQuiet
import Derived.IntWalk
import Derived.Laws.Concat
namespace Go.Proofs.Ytpeebjnfmlfocaa.Print
open Go.RowKit Go.Proofs.YtpeebjnfmlfocaaW.PrintWords Go.Proofs.YtpeebjnfmlfocaaW.PrintLast Go.Proofs.YtpeebjnfmlfocaaW.PrintMore
set_option linter.unusedVariables false

def bs (l : List UInt8) : ByteArray := ⟨l.toArray⟩
theorem bs_app (a b : List UInt8) : bs a ++ bs b = bs (a ++ b) := by
  apply ByteArray.ext
  simp [bs]
theorem bs_size (a : List UInt8) : (bs a).size = a.length := by show a.toArray.size = _; simp
theorem hexD_ext (a : Nat) (h : a < 16) : (hexD.extract a (a + 1)) = bs [dg (a : Int)] := by
  have : ∀ q : Fin 16, (hexD.extract q.1 (q.1 + 1)) = bs [dg (q.1 : Int)] := by decide
  exact this ⟨a, h⟩

def cleromancyref37_Text.f (l : List Int) : Option ByteArray := if l.all (fun x => 0 ≤ x && x ≤ 255) && decide (l.length ≤ 1000000) then some (bs (hexL l)) else none
def cleromancyref37_Groups.f (l : List Int) (n : Int) : Option ByteArray := if l.all (fun x => 0 ≤ x && x ≤ 255) && decide (l.length ≤ 1000000) then some (bs (refG n.toNat 0 l)) else none

set_option maxHeartbeats 2000000 in
theorem cleromancyref37_Text.calls (A0 : Option Addr) (c0 : Nat) (l0 : List Int) (r : ByteArray) (w : World) (hr0 : Kd.C (Kd.int .u8) w A0 l0.length l0) (hc0 : l0.length ≤ c0) (h : cleromancyref37_Text.f l0 = some r) :
    Calls Try.prog 16 #[.slice A0 l0.length c0] w fun e w' => e = .returned (.string r) ∧ Below w.heap.size w w' := by
  unfold cleromancyref37_Text.f at h
  split at h
  · rename_i hb
    rw [Option.some.injEq] at h
    subst h
    simp only [Bool.and_eq_true, decide_eq_true_eq, List.all_eq_true] at hb
    obtain ⟨hb0, hn⟩ := hb
    have hb : Hid (∀ x ∈ l0, 0 ≤ x ∧ x ≤ 255) := hb0
    clear hb0
    have hr : Hid (Kd.C (Kd.int .u8) w A0 l0.length l0) := hr0
    clear hr0
    obtain ⟨D, hD⟩ : ∃ D, D = hexD := ⟨_, rfl⟩
    have HD : Hid (D = hexD) := hD
    have hDs : D.size = 16 := by rw [hD]; rfl
    unfold hexD at hD
    go_enter Try.func16, Try.ntmps16
    rw [← hD]
    clear hD
    go_wp2
    go_loopw [4, 5] (fun s i wr => ∃ (k : Nat) (t : List UInt8), k ≤ l0.length ∧ i = .int .i64 k ∧ s = .string (bs t) ∧ Hid (t = hexL (l0.take k)) ∧ t.length ≤ 2 * k ∧ Below w.heap.size w wr) (fun _ i _ => l0.length - (intOf i).toNat)
    case atStart => exact ⟨0, [], by omega, rfl, rfl, rfl, by simp, Below.refl _ _⟩
    case round =>
      obtain ⟨k, t, hk, rfl, rfl, ht, htl, hw⟩ := hrel
      have hts := bs_size t
      by_cases hlt : k < l0.length
      · obtain ⟨ad, rfl, hcell⟩ := C_int_at (Kd.C_below hr hw) k hlt
        obtain ⟨x, hx⟩ : ∃ x : Nat, (x : Int) = l0.getD k 0 := ⟨(l0.getD k 0).toNat, by
          have : 0 ≤ l0.getD k 0 := by rw [List.getD_eq_getElem?_getD, List.getElem?_eq_getElem hlt]; exact (hb _ (List.getElem_mem hlt)).1
          omega⟩
        have hx1 : x ≤ 255 := by
          have : l0.getD k 0 ≤ 255 := by rw [List.getD_eq_getElem?_getD, List.getElem?_eq_getElem hlt]; exact (hb _ (List.getElem_mem hlt)).2
          omega
        rw [← hx] at hcell
        have HX : Hid ((x : Int) = l0.getD k 0) := hx
        clear hx
        go_wp2
        obtain ⟨a, ha⟩ : ∃ a : Nat, a = x / 16 := ⟨_, rfl⟩
        obtain ⟨b, hb'⟩ : ∃ b : Nat, b = x % 16 := ⟨_, rfl⟩
        have q1 : IntKind.i64.wrap ((x : Int) / 16) = a := by rw [IntWalk.i64_in _ (by omega)]; omega
        have q2 : IntKind.i64.wrap ((a : Int) + 1) = (a : Int) + 1 := IntWalk.i64_in _ (by omega)
        have q3 : (x : Int) % 16 = b := by omega
        have q4 : IntKind.i64.wrap ((b : Int) + 1) = (b : Int) + 1 := IntWalk.i64_in _ (by omega)
        have q5 : IntKind.i64.wrap (b : Int) = b := IntWalk.i64_in _ (by omega)
        have ha16 : a < 16 := by omega
        have hb16 : b < 16 := by omega
        have e1 : D.extract a (a + 1) = bs [dg (a : Int)] := by rw [HD.out]; exact hexD_ext a ha16
        have e2 : D.extract b (b + 1) = bs [dg (b : Int)] := by rw [HD.out]; exact hexD_ext b hb16
        have s1 : ∀ W : World, (Instr.slice 9 (.string D) (some (.int .i64 a)) (some (.int .i64 ((a : Int) + 1))) none).run Try.prog W = .ok (.string (bs [dg (a : Int)])) W := fun W => by
          rw [run_slice_string W 9 D .i64 .i64 a ((a : Int) + 1) Try.underlying9 (by omega) (by omega) (by omega), ← e1]; rfl
        have s2 : ∀ W : World, (Instr.slice 9 (.string D) (some (.int .i64 b)) (some (.int .i64 ((b : Int) + 1))) none).run Try.prog W = .ok (.string (bs [dg (b : Int)])) W := fun W => by
          rw [run_slice_string W 9 D .i64 .i64 b ((b : Int) + 1) Try.underlying9 (by omega) (by omega) (by omega), ← e2]; rfl
        have c1 : ∀ W : World, (Op.stringOp .add (bs t) (bs [dg (a : Int)])).run Try.prog W = .ok (.string (bs (t ++ [dg (a : Int)]))) W := fun W => by
          rw [run_string_add_sum _ _ _ (by rw [bs_size, bs_size]; simp; omega), bs_app]
        have c2 : ∀ W : World, (Op.stringOp .add (bs (t ++ [dg (a : Int)])) (bs [dg (b : Int)])).run Try.prog W = .ok (.string (bs (t ++ [dg (a : Int)] ++ [dg (b : Int)]))) W := fun W => by
          rw [run_string_add_sum _ _ _ (by rw [bs_size, bs_size]; simp; omega), bs_app]
        have HA := Lib.hid ha
        have HB := Lib.hid hb'
        clear ha hb' e1 e2
        go_quiet (fail)
        clear q1 q2 q3 q4 q5 s1 s2 c1 c2
        go_wp2
        go_roundw
        case rel =>
          refine ⟨k + 1, t ++ [dg a, dg b], by omega, by go_num, rfl, ?_, by simp; omega, ?_⟩
          · show _ = hexL (l0.take (k + 1))
            rw [hexL_snoc _ _ hlt, ← ht.out, ← HX.out]
            have h1 : (a : Int) = (x : Int) / 16 := by have := HA.out; omega
            have h2 : (b : Int) = (x : Int) % 16 := by have := HB.out; omega
            rw [h1, h2]
          · exact hw.trans ((Drawn0.step (Drawn0.refl _) _).below.mono hw.size)
        case measure => simp [intOf]; omega
      · have hte : t = hexL l0 := by have := ht.out; rw [List.take_of_length_le (by omega)] at this; exact this
        have HT := Lib.hid hte
        clear hte
        go_wp2
        go_ret
        refine ⟨?_, hw⟩
        rw [← HT.out]
        rfl
  · simp at h

theorem cleromancyref37_Text_n (A0 : Option Addr) (n c0 : Nat) (l0 : List Int) (r : ByteArray) (w : World) (hr0 : Kd.C (Kd.int .u8) w A0 n l0) (hc0 : n ≤ c0) (h : cleromancyref37_Text.f l0 = some r) :
    Calls Try.prog 16 #[.slice A0 n c0] w fun e w' => e = .returned (.string r) ∧ Below w.heap.size w w' := by
  have hl := Kd.C_len hr0
  subst hl
  exact cleromancyref37_Text.calls A0 c0 l0 r w hr0 hc0 h

/-- xs[k:k+1] of a row that is read -/
theorem cut_one (A : Option Addr) (n c k : Nat) (hk : k < n) (hc : n ≤ c) :
    ∃ A' : Option Addr, (∀ W : World, (Instr.slice 25 (.slice A n c) (some (.int .i64 k)) (some (.int .i64 ((k : Int) + 1))) none).run Try.prog W = .ok (.slice A' 1 (c - k)) W) ∧
      (∀ (w : World) (xs : List Int), Kd.C (Kd.int .u8) w A n xs → Kd.C (Kd.int .u8) w A' 1 [xs.getD k 0]) := by
  obtain ⟨i0, hi, hz0, hz1, hz2⟩ := info_parts info5m
  have hel : Try.prog.elem 25 = 5 := by simp [Program.elem, Try.underlying25]
  have hu : Try.prog.underlying 25 = some (.slice (Try.prog.elem 25)) := by rw [hel]; exact Try.underlying25
  refine ⟨if c = k then A else A.map (·.add (k * (Kd.int .u8).sz)), fun W => ?_, fun w xs h => ?_⟩
  · rw [run_slice_lh W 25 A n c hu .i64 .i64 (k : Int) ((k : Int) + 1) (by omega) (by omega) (by omega), hel]
    simp [sizeOf, typeInfo, hi, hz1, sliced, Result.andThen, show (Kd.int .u8).sz = 1 from rfl]
  · have hl := Kd.C_len h
    subst hl
    have := Kd.C_mid (lo := k) (hi := k + 1) h (by omega) (by omega) hc
    have e : (xs.take (k + 1)).drop k = [xs.getD k 0] := by
      rw [List.take_succ_eq_append_getElem hk, List.drop_append_of_le_length (by rw [List.length_take]; omega)]
      simp [hk]
    rw [e] at this
    exact this

def refGi (n : Nat) (l : List Int) (k : Nat) : List UInt8 := refG n 0 (l.take k)
theorem refG_app (n : Nat) (l : List Int) (x : Int) : ∀ i, refG n i (l ++ [x]) = refG n i l ++ ((if 0 < n ∧ 0 < i + l.length ∧ (i + l.length) % n = 0 then [32] else []) ++ hexL [x]) := by
  induction l with
  | nil => intro i; simp [refG]
  | cons y l ih =>
    intro i
    simp only [List.cons_append, refG, ih (i + 1), List.length_cons, List.append_assoc]
    rw [show i + 1 + l.length = i + (l.length + 1) by omega]
theorem refGi_snoc (n : Nat) (l : List Int) (k : Nat) (h : k < l.length) : refGi n l (k + 1) = refGi n l k ++ ((if 0 < n ∧ 0 < k ∧ k % n = 0 then [32] else []) ++ hexL [l.getD k 0]) := by
  unfold refGi
  have h2 : (l.take k).length = k := by rw [List.length_take]; omega
  rw [List.take_succ_eq_append_getElem h, refG_app, h2]
  simp [h]

set_option maxHeartbeats 2000000 in
theorem cleromancyref37_Groups.calls (A0 : Option Addr) (c0 : Nat) (l0 : List Int) (a1 : Int) (r : ByteArray) (w : World) (hr0 : Kd.C (Kd.int .u8) w A0 l0.length l0) (hc0 : l0.length ≤ c0) (h : cleromancyref37_Groups.f l0 a1 = some r) :
    Calls Try.prog 18 #[.slice A0 l0.length c0, .int .i64 a1] w fun e w' => e = .returned (.string r) ∧ Below w.heap.size w w' := by
  unfold cleromancyref37_Groups.f at h
  split at h
  · rename_i hb
    rw [Option.some.injEq] at h
    subst h
    simp only [Bool.and_eq_true, decide_eq_true_eq, List.all_eq_true] at hb
    obtain ⟨hb0, hn⟩ := hb
    have hb : Hid (∀ x ∈ l0, 0 ≤ x ∧ x ≤ 255) := hb0
    clear hb0
    have hr : Hid (Kd.C (Kd.int .u8) w A0 l0.length l0) := hr0
    clear hr0
    go_enter Try.func18, Try.ntmps18
    go_wp2
    go_loopw [5, 6] (fun s i wr => ∃ (k : Nat) (t : List UInt8), k ≤ l0.length ∧ i = .int .i64 k ∧ s = .string (bs t) ∧ Hid (t = refGi a1.toNat l0 k) ∧ t.length ≤ 3 * k ∧ Below w.heap.size w wr) (fun _ i _ => l0.length - (intOf i).toNat)
    case atStart => exact ⟨0, [], by omega, rfl, rfl, rfl, by simp, Below.refl _ _⟩
    case round =>
      obtain ⟨k, t, hk, rfl, rfl, ht, htl, hw⟩ := hrel
      by_cases hlt : k < l0.length
      · have hm : l0.getD k 0 ∈ l0 := by rw [List.getD_eq_getElem?_getD, List.getElem?_eq_getElem hlt]; exact List.getElem_mem hlt
        have hT : cleromancyref37_Text.f [l0.getD k 0] = some (bs (hexL [l0.getD k 0])) := by
          unfold cleromancyref37_Text.f
          rw [if_pos]
          have := hb _ hm
          simp only [List.all_cons, List.all_nil, Bool.and_eq_true, decide_eq_true_eq]
          exact ⟨⟨this, trivial⟩, by simp⟩
        obtain ⟨A2, s1, s2⟩ := cut_one A0 l0.length c0 k hlt hc0
        have S2 := Lib.hid (s2 _ _ hr)
        have HT := Lib.hid hT
        have hlen : (hexL [l0.getD k 0]).length = 2 := hexL_len _
        obtain ⟨y, hy⟩ : ∃ y, y = hexL [l0.getD k 0] := ⟨_, rfl⟩
        rw [← hy] at HT hlen
        have HY := Lib.hid hy
        clear s2 hT hm hy
        have hcap : 1 ≤ c0 - k := by omega
        have c2 : ∀ W : World, (Op.stringOp .add (bs t) (bs y)).run Try.prog W = .ok (.string (bs (t ++ y))) W := fun W => by
          rw [run_string_add_sum _ _ _ (by rw [bs_size, bs_size]; omega), bs_app]
        have c3 : ∀ W : World, (Op.stringOp .add (bs (t ++ [32])) (bs y)).run Try.prog W = .ok (.string (bs (t ++ ([32] ++ y)))) W := fun W => by
          rw [run_string_add_sum _ _ _ (by rw [bs_size, bs_size]; simp; omega), bs_app, List.append_assoc]
        have c1 : ∀ W : World, (Op.stringOp .add (bs t) ⟨#[32]⟩).run Try.prog W = .ok (.string (bs (t ++ [32]))) W := fun W => by
          rw [show (⟨#[32]⟩ : ByteArray) = bs [32] from rfl, run_string_add_sum _ _ _ (by rw [bs_size, bs_size]; simp; omega), bs_app]
        by_cases hsp : 0 < a1.toNat ∧ 0 < k ∧ k % a1.toNat = 0
        · have HS := Lib.hid hsp
          obtain ⟨n, rfl⟩ : ∃ n : Nat, a1 = n := ⟨a1.toNat, by omega⟩
          have g1 : (0 : Int) < n := by omega
          have g2 : (0 : Int) < k := by omega
          have g3 : ((k : Int) % n == 0) = true := by
            have := hsp.2.2
            rw [Int.toNat_natCast] at this
            have : ((k % n : Nat) : Int) = 0 := by omega
            simpa using this
          clear hsp
          · go_wp2_with (first
              | (go_at_call 16; refine (cleromancyref37_Text_n _ _ _ [l0.getD k 0] _ _ (Kd.C_below S2.out hw) hcap HT.out).mono ?_; rintro e w2 ⟨rfl, hb2⟩))
            go_roundw
            case rel =>
              refine ⟨k + 1, t ++ ([32] ++ y), by omega, by go_num, rfl, ?_, by simp; omega, hw.trans (hb2.mono hw.size)⟩
              show _ = refGi (n : Int).toNat l0 (k + 1)
              rw [refGi_snoc _ _ _ hlt, ← ht.out, HY.out, if_pos HS.out]
            case measure => simp [intOf]; omega
        · have HS := Lib.hid hsp
          by_cases g1 : 0 < a1
          · obtain ⟨n, rfl⟩ : ∃ n : Nat, a1 = n := ⟨a1.toNat, by omega⟩
            rcases Nat.eq_zero_or_pos k with hk0 | g2
            · have g2 : k < 1 := by omega
              have HK0 := Lib.hid hk0
              clear hsp hk0
              go_wp2_with (first
                | (go_at_call 16; refine (cleromancyref37_Text_n _ _ _ [l0.getD k 0] _ _ (Kd.C_below S2.out hw) hcap HT.out).mono ?_; rintro e w2 ⟨rfl, hb2⟩))
              go_roundw
              case rel =>
                refine ⟨k + 1, t ++ y, by omega, by go_num, rfl, ?_, by simp; omega, hw.trans (hb2.mono hw.size)⟩
                show _ = refGi (n : Int).toNat l0 (k + 1)
                rw [refGi_snoc _ _ _ hlt, ← ht.out, HY.out, if_neg HS.out, List.nil_append]
              case measure => simp [intOf]; omega
            · have g3 : ((k : Int) % n == 0) = false := by
                have : ¬ k % n = 0 := fun h => hsp ⟨by omega, g2, by rw [Int.toNat_natCast]; exact h⟩
                have : ¬ ((k % n : Nat) : Int) = 0 := by omega
                simpa using this
              have g4 : (0 : Int) < k := by omega
              clear hsp
              go_wp2_with (first
                | (go_at_call 16; refine (cleromancyref37_Text_n _ _ _ [l0.getD k 0] _ _ (Kd.C_below S2.out hw) hcap HT.out).mono ?_; rintro e w2 ⟨rfl, hb2⟩))
              go_roundw
              case rel =>
                refine ⟨k + 1, t ++ y, by omega, by go_num, rfl, ?_, by simp; omega, hw.trans (hb2.mono hw.size)⟩
                show _ = refGi (n : Int).toNat l0 (k + 1)
                rw [refGi_snoc _ _ _ hlt, ← ht.out, HY.out, if_neg HS.out, List.nil_append]
              case measure => simp [intOf]; omega
          · have g4 : decide ((0 : Int) < a1) = false := by simpa using g1
            clear hsp
            go_wp2_with (first
              | (go_at_call 16; refine (cleromancyref37_Text_n _ _ _ [l0.getD k 0] _ _ (Kd.C_below S2.out hw) hcap HT.out).mono ?_; rintro e w2 ⟨rfl, hb2⟩))
            go_roundw
            case rel =>
              refine ⟨k + 1, t ++ y, by omega, by go_num, rfl, ?_, by simp; omega, hw.trans (hb2.mono hw.size)⟩
              show _ = refGi a1.toNat l0 (k + 1)
              rw [refGi_snoc _ _ _ hlt, ← ht.out, HY.out, if_neg HS.out, List.nil_append]
            case measure => simp [intOf]; omega
      · have hte : t = refG a1.toNat 0 l0 := by have := ht.out; unfold refGi at this; rw [List.take_of_length_le (by omega)] at this; exact this
        have HT := Lib.hid hte
        clear hte
        go_wp2
        go_ret
        refine ⟨?_, hw⟩
        rw [← HT.out]
        rfl
  · simp at h
end Go.Proofs.Ytpeebjnfmlfocaa.Print
