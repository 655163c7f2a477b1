/- TaleBack: for all deeds and every text the law returns true and leaves them as they were; the tables are tied to the program's text. No condition. -/
import Derived.Test.YtpeebjnfmlfocaaDoorZB12
import Derived.Test.YtpeebjnfmlfocaaDoorRows
import Derived.Test.YtpeebjnfmlfocaaDoorCards
import Derived.Test.YtpeebjnfmlfocaaDoorTie
import Derived.WalkKit
import Derived.ProofKit
import Derived.OpenShut
import Derived.ShutString
import Derived.ChangeOld
import Derived.Below
import Derived.LaidMore
import Derived.Lay
import Derived.SevenTiedAt
import Derived.Stop.Joined
namespace Go.Proofs.YtpeebjnfmlfocaaDoor.TpB
open Go.RowKit Go.Proofs.YtpeebjnfmlfocaaDoorW.PrintWords Go.Proofs.YtpeebjnfmlfocaaDoorW.PrintLast Go.Proofs.YtpeebjnfmlfocaaDoorW.PrintMore Go.Proofs.YtpeebjnfmlfocaaDoor.Tp Go.Proofs.YtpeebjnfmlfocaaDoor.TpR Go.Proofs.YtpeebjnfmlfocaaDoor.TpP Go.Proofs.YtpeebjnfmlfocaaDoor.Th
set_option linter.unusedVariables false
set_option linter.unusedSimpArgs false
theorem bParse_l0 (L : List (List UInt8)) (hL : L.length ≤ 1000001) (hL2 : ∀ x ∈ L, x.length ≤ 100000) (d : Nat) : ∀ (k i : Nat) (out : List S63), i + d = L.length → d + 500000 < k → out.length ≤ i →
    tale_Parse.l0 k out (L.map mk) (L.length : Int) (i : Int) = some (goT (L.drop i) i out) := by
  induction d with
  | zero =>
    intro k i out hi hk ho
    obtain ⟨k, rfl⟩ : ∃ m, k = m + 1 := ⟨k - 1, by omega⟩
    simp only [tale_Parse.l0]
    rw [if_neg (by omega), List.drop_of_length_le (by omega)]
    rfl
  | succ d ih =>
    intro k i out hi hk ho
    obtain ⟨k, rfl⟩ : ∃ m, k = m + 1 := ⟨k - 1, by omega⟩
    have hil : i < L.length := by omega
    have hw : wrap64 ((i : Int) + 1) = ((i + 1 : Nat) : Int) := by rw [IntWalk.wrap64_in _ (by omega)]; omega
    have hx := hL2 (L[i]'hil) (List.getElem_mem _)
    have hr : rdOf ByteArray.empty (L.map mk) (i : Int) = mk (L[i]'hil) := by
      unfold rdOf
      rw [Int.toNat_natCast, List.getD_eq_getElem?_getD, List.getElem?_eq_getElem (by simpa using hil), List.getElem_map]
      rfl
    have hwd : tale_words.f k (mk (L[i]'hil)) = some (wl (L[i]'hil)) := words_eq (mk (L[i]'hil)) (by rw [mk_size]; omega) k (by rw [mk_size]; omega)
    rw [List.drop_eq_getElem_cons hil, goT]
    simp only [tale_Parse.l0]
    rw [if_pos (by omega), if_pos (by omega), if_pos (by simp; omega), hr, hwd, Option.bind_some, hw]
    by_cases h : wl (L[i]'hil) = []
    · rw [if_pos ((wl_len0 _).2 h), if_pos h]
      exact ih k (i + 1) out (by omega) (by omega) (by omega)
    · rw [if_neg (fun h2 => h ((wl_len0 _).1 h2)), if_neg h, tread_eq _ (by omega) h, Option.bind_some]
      show (if (readF numT hexT (wl (L[i]'hil))).2.2.2 = true then _ else _) = _
      by_cases hok : (readF numT hexT (wl (L[i]'hil))).2.2.2 = true
      · rw [if_pos hok, if_pos hok, if_pos (by omega)]
        exact ih k (i + 1) (out ++ [dT (readF numT hexT (wl (L[i]'hil)))]) (by omega) (by omega) (by simp; omega)
      · rw [if_neg hok, if_neg hok]
theorem bParse_eq (s : List UInt8) (hs : s.length ≤ 1000000) (hl : ∀ x ∈ linesP s [], x.length ≤ 100000) (k : Nat) (hk : 2000000 ≤ k) : tale_Parse.f k (mk s) = some (goT (linesP s []) 0 []) := by
  have h1 := linesP_len s []
  have hz := mk_size s
  have := bParse_l0 (linesP s []) (by omega) hl (linesP s []).length k 0 [] (by omega) (by omega) (by simp)
  unfold tale_Parse.f
  rw [if_neg (by omega), split_eq (mk s) (by omega), Option.bind_some, List.length_map, mk_list]
  exact this
theorem go_form : ∀ (ls : List (List UInt8)) (i : Nat) (out : List S63), (goT ls i out).2 = (0, 0) ∨ ∃ j : Nat, goT ls i out = ([], (j : Int) + 1, 2)
  | [], i, out => .inl rfl
  | ln :: ls, i, out => by
    rw [goT]
    split
    · exact go_form ls _ _
    · split
      · exact go_form ls _ _
      · exact .inr ⟨i, by simp⟩
def POut (m : List S63) (a b : Int) (W : World) (e : Ending) (w' : World) : Prop := ∃ (A : Option Addr) (c : Nat), e = .returned (.tuple #[.slice A m.length c, .int .i64 a, .int .i64 b]) ∧ Kd.C k63 w' A m.length m ∧ m.length ≤ c ∧ Below W.heap.size W w'
theorem parse_out (s : ByteArray) (m : List S63) (a b : Int) (h : tale_Parse.f 2000000 s = some (m, a, b)) (W : World) : Calls Tryd.prog 25 #[.string s] W (POut m a b W) :=
  (tale_Parse.calls 2000000 s m a b W h).mono fun e w' ⟨v, he, hS, hb⟩ => by
    obtain ⟨A, c, rfl, hc, hC⟩ := Kd.R_reads (Kd.S_R hS)
    exact ⟨A, c, he, hC, hc, hb⟩
theorem same_out (m : List S63) (hl : m.length ≤ 1000000) (hb : ∀ x ∈ m, x.f5.length ≤ 1000000) (A B : Option Addr) (c d : Nat) (W : World) (h1 : Kd.C k63 W A m.length m) (h2 : m.length ≤ c) (h3 : Kd.C k63 W B m.length m) (h4 : m.length ≤ d) :
    Calls Tryd.prog 27 #[.slice A m.length c, .slice B m.length d] W fun e w' => e = .returned (.bool true) ∧ Below W.heap.size W w' :=
  cleromancylaw44_Same.calls 3000000 A c m B d m true W h1 h2 h3 h4 (sameL m hl hb 3000000 (Nat.le_refl _))
structure Okay (l : List S63) : Prop where
  fit : ∀ x ∈ l, Fit x
  len : l.length ≤ 10000
  good : ∀ x ∈ l, (lineS x).2 = 0
  few : (txt l).length ≤ 1000000
theorem lnB_len (x : S63) (h : Fit x) (hx : x.f5.length ≤ 40000) : (lnB x).length ≤ 100000 := by
  have := lineHit_size x.f0 (fldF x.f1 x.f2 x.f3 x.f4) x.f5 7 0
  have e : (lnB x).length = (lineS x).1.size := by simp [lnB]
  rw [e]
  exact Nat.le_trans this (by omega)
theorem okay_parse {l : List S63} (h : Okay l) (h4 : ∀ x ∈ l, x.f5.length ≤ 40000) : tale_Parse.f 2000000 (mk (txt l)) = some (l, 0, 0) := by
  rw [bParse_eq (txt l) h.few ?_ 2000000 (Nat.le_refl _), back_txt l h.fit h.good]
  intro x hx
  have hr : ∀ x ∈ l, Reads (lnB x) x.f0 x.f1 x.f2 x.f3 x.f4 x.f5 := fun x hx => reads_line x (h.fit x hx) (h.good x hx)
  rw [lines_txt l (fun x hx => (hr x hx).ne10)] at hx
  rcases List.mem_append.1 hx with hx | hx
  · obtain ⟨y, hy, rfl⟩ := List.mem_map.1 hx
    exact lnB_len y (h.fit y hy) (h4 y hy)
  · rw [List.mem_singleton] at hx
    subst hx
    exact Nat.zero_le _
theorem big_le (l : List S63) (h : ∀ x ∈ l, x.f5.length ≤ 200) : big l ≤ 400 * l.length := by
  induction l with
  | nil => exact Nat.zero_le _
  | cons x l ih =>
    have h1 := ih (fun y hy => h y (List.mem_cons_of_mem _ hy))
    have h2 := h x List.mem_cons_self
    simp [big] at h1 ⊢
    omega
theorem okay_read (s : ByteArray) (hs : s.size ≤ 3000) : Okay (goT (linesP s.data.toList []) 0 []).1 ∧ ∀ x ∈ (goT (linesP s.data.toList []) 0 []).1, x.f5.length ≤ 1500 := by
  have hl : s.data.toList.length = s.size := by simp
  have h1 := linesP_len s.data.toList []
  have h2 := lines_sum s.data.toList []
  obtain ⟨g1, g2, g3⟩ := go_plain 3000 (linesP s.data.toList []) 0 [] (fun x hx => by have := linesP_each _ _ x hx; simp at this; omega) (fun x hx => by cases hx)
  have hb : big [] = 0 := rfl
  have h3 := txt_len (goT (linesP s.data.toList []) 0 []).1
  have h5 : ∀ x ∈ (goT (linesP s.data.toList []) 0 []).1, x.f5.length ≤ 1500 := fun x hx => by have := (g1 x hx).few; omega
  simp only [List.length_nil] at g2 h2
  exact ⟨⟨fun x hx => ⟨(g1 x hx).rg, by have := h5 x hx; omega⟩, by omega, fun x hx => (g1 x hx).good, by omega⟩, h5⟩
set_option maxHeartbeats 8000000 in
set_option maxRecDepth 100000 in
theorem back_walk (A0 : Option Addr) (c0 : Nat) (l0 : List S63) (s : ByteArray) (w : World) (hG : Tab w) (hr0 : Kd.C k63 w A0 l0.length l0) (hc0 : l0.length ≤ c0) (hy : ∀ x ∈ l0, ∀ y ∈ x.f5, 0 ≤ y ∧ y ≤ 255) (hlen : l0.length ≤ 9223372036854775807) (hsl : s.size ≤ 9223372036854775807) :
    Calls Tryd.prog 9 #[.slice A0 l0.length c0, .string s] w fun e w' => e = .returned (.bool true) ∧ Below w.heap.size w w' := by
  have HAW := Lib.hid (fun W => cleromancylaw44_awake.calls 30000 true W (awake_eq 30000 (Nat.le_refl _)))
  have hsm := fun W (hb : Below w.heap.size w W) => cleromancylaw44_small.calls (l0.length + 1) A0 c0 l0 (smallB l0) W (Kd.C_below hr0 hb) hc0 (small_f l0 hlen)
  have hB := Below.refl w.heap.size w
  cases hsb : smallB l0 with
  | false =>
    rw [hsb] at hsm
    have HSM := Lib.hid hsm
    clear hsm hsb hr0 hy hG
    go_enter Tryd.func9, Tryd.ntmps9
    go_wp2_with (first
      | (go_at_call 24; (with_reducible refine (HAW.out _).mono ?_); rintro e w1 ⟨rfl, hb⟩; have hB := hB.trans (hb.mono hB.size))
      | (go_at_call 35; (with_reducible refine (HSM.out _ hB).mono ?_); rintro e w2 ⟨rfl, hb⟩; have hB := hB.trans (hb.mono hB.size)))
    go_ret
    exact ⟨rfl, hB⟩
  | true =>
    rw [hsb] at hsm
    have HSM := Lib.hid hsm
    have hs2 := hsb
    unfold smallB at hs2
    simp only [Bool.and_eq_true, decide_eq_true_eq, List.all_eq_true] at hs2
    obtain ⟨hs3, hn⟩ := hs2
    have hfit : ∀ x ∈ l0, Fit x := fun x hx => ⟨hy x hx, Nat.le_trans (hs3 x hx) (by decide)⟩
    by_cases hz : s.size ≤ 3000
    · have d0 : decide (3000 < s.size) = false := decide_eq_false (by omega)
      obtain ⟨om, om2⟩ := okay_read s hz
      have hsz : s.data.toList.length = s.size := by simp
      have hps : tale_Parse.f 2000000 s = some (goT (linesP s.data.toList []) 0 []) := bParse_eq s.data.toList (by omega) (fun x hx => by have := linesP_each _ _ x hx; simp only [List.length_nil] at this; omega) 2000000 (Nat.le_refl _)
      have hform := go_form (linesP s.data.toList []) 0 []
      obtain ⟨g, hg⟩ : ∃ g, g = goT (linesP s.data.toList []) 0 [] := ⟨_, rfl⟩
      rw [← hg] at om om2 hps hform
      obtain ⟨m, a, b⟩ := g
      have hpr := fun W (hb : Below w.heap.size w W) => print_any A0 c0 l0 W (Lib.tabBelow_of_tabIs hG W hb) (Kd.C_below hr0 hb) hc0 hfit (by omega)
      have hfirst : ∃ (T1 : ByteArray) (p2 p3 : Int), (∀ W, Below w.heap.size w W → Calls Tryd.prog 36 #[.slice A0 l0.length c0] W fun e w' => e = .returned (.tuple #[.string T1, .int .i64 p2, .int .i64 p3]) ∧ Below W.heap.size W w') ∧ ((p3 = 0 ∧ tale_Parse.f 2000000 T1 = some (l0, 0, 0)) ∨ p3 ≠ 0) := by
        by_cases hp : (printGo l0 0 []).2.2 = 0
        · have hgood := print_ok l0 0 [] hp
          have hP := print_good l0 0 [] hgood
          refine ⟨mk (txt l0), 0, 0, fun W hb => ?_, .inl ⟨rfl, okay_parse ⟨hfit, by omega, hgood, ?_⟩ (fun x hx => by have := hs3 x hx; omega)⟩⟩
          · have := hpr W hb
            rw [hP] at this
            exact this
          · have := txt_len l0
            have := big_le l0 hs3
            omega
        · exact ⟨_, _, _, hpr, .inr hp⟩
      obtain ⟨T1, p2, p3, hp1, hp2⟩ := hfirst
      have HPR := Lib.hid hp1
      have HSA := Lib.hid (fun A B c d W h1 h2 h3 h4 => same_out l0 (by omega) (fun x hx => by have := hs3 x hx; omega) A B c d W h1 h2 h3 h4)
      have HC := Lib.hid hr0
      have HG := Lib.hid hG
      clear hsm hsb hy hpr hp1 hs3 hfit hr0 hg hsz
      have hsecond : (a = 0 ∧ b = 0) ∨ (m = [] ∧ 1 ≤ a ∧ b = 2) := by
        rcases hform with h | ⟨j, h⟩
        · exact .inl ⟨(Prod.mk.inj h).1, (Prod.mk.inj h).2⟩
        · have e1 := (Prod.mk.inj h).1
          have e2 := (Prod.mk.inj (Prod.mk.inj h).2).1
          have e3 := (Prod.mk.inj (Prod.mk.inj h).2).2
          exact .inr ⟨e1, by omega, e3⟩
      clear hform
      have HPS := Lib.hid (fun W => parse_out s m a b hps W)
      have hpm : ∃ T2 : ByteArray, tale_Parse.f 2000000 T2 = some (m, 0, 0) ∧ ∀ A c W, Below w.heap.size w W → Kd.C k63 W A m.length m → m.length ≤ c → Calls Tryd.prog 36 #[.slice A m.length c] W fun e w' => e = .returned (.tuple #[.string T2, .int .i64 0, .int .i64 0]) ∧ Below W.heap.size W w' := by
        refine ⟨mk (txt m), okay_parse om (fun x hx => Nat.le_trans (om2 x hx) (by decide)), fun A c W hb hC hc => ?_⟩
        have := print_any A c m W (Lib.tabBelow_of_tabIs HG.out W hb) hC hc om.fit om.len
        rw [print_good m 0 [] om.good] at this
        exact this
      obtain ⟨T2, hT2, hpm⟩ := hpm
      have HPM := Lib.hid hpm
      have HPT := Lib.hid (fun W => parse_out T2 m 0 0 hT2 W)
      have HSB := Lib.hid (fun A B c d W h1 h2 h3 h4 => same_out m (Nat.le_trans om.len (by decide)) (fun x hx => Nat.le_trans (om2 x hx) (by decide)) A B c d W h1 h2 h3 h4)
      clear hpm hT2 om om2 hps
      rcases hp2 with ⟨rfl, hT1⟩ | hp3
      · have HPA := Lib.hid (fun W => parse_out T1 l0 0 0 hT1 W)
        clear hT1
        rcases hsecond with ⟨rfl, rfl⟩ | ⟨rfl, ha, rfl⟩
        · skip
          go_enter Tryd.func9, Tryd.ntmps9
          go_wp2_with (first
            | (go_at_call 24; (with_reducible refine (HAW.out _).mono ?_); rintro e w1 ⟨rfl, hb⟩; have hB := hB.trans (hb.mono hB.size))
            | (go_at_call 35; (with_reducible refine (HSM.out _ hB).mono ?_); rintro e w2 ⟨rfl, hb⟩; have hB := hB.trans (hb.mono hB.size))
            | (go_at_call 36; (with_reducible refine (HPR.out _ hB).mono ?_); rintro e w3 ⟨rfl, hb⟩; have hB := hB.trans (hb.mono hB.size))
            | (go_at_call 25; (with_reducible refine (HPA.out _).mono ?_); rintro e w4 ⟨A1, c1, rfl, hC1, hc1, hb⟩; have hB := hB.trans (hb.mono hB.size))
            | (go_at_call 27; (with_reducible refine (HSA.out _ _ _ _ _ (Kd.C_below HC.out hB) hc0 hC1 hc1).mono ?_); rintro e w5 ⟨rfl, hb⟩; have hB := hB.trans (hb.mono hB.size))
            | (go_at_call 25; (with_reducible refine (HPS.out _).mono ?_); rintro e w6 ⟨A2, c2, rfl, hC2, hc2, hb⟩; have hB := hB.trans (hb.mono hB.size))
            | (go_at_call 36; (with_reducible refine (HPM.out _ _ _ hB hC2 hc2).mono ?_); rintro e w7 ⟨rfl, hb⟩; have hC2 := Kd.C_below hC2 hb; have hB := hB.trans (hb.mono hB.size))
            | (go_at_call 25; (with_reducible refine (HPT.out _).mono ?_); rintro e w8 ⟨A3, c3, rfl, hC3, hc3, hb⟩; have hC2 := Kd.C_below hC2 hb; have hB := hB.trans (hb.mono hB.size))
            | (go_at_call 27; (with_reducible refine (HSB.out _ _ _ _ _ hC2 hc2 hC3 hc3).mono ?_); rintro e w9 ⟨rfl, hb⟩; have hB := hB.trans (hb.mono hB.size)))
          go_ret
          exact ⟨by first | rfl | simp, hB⟩
        · have a1 : decide (1 ≤ a) = true := decide_eq_true ha
          go_enter Tryd.func9, Tryd.ntmps9
          go_wp2_with (first
            | (go_at_call 24; (with_reducible refine (HAW.out _).mono ?_); rintro e w1 ⟨rfl, hb⟩; have hB := hB.trans (hb.mono hB.size))
            | (go_at_call 35; (with_reducible refine (HSM.out _ hB).mono ?_); rintro e w2 ⟨rfl, hb⟩; have hB := hB.trans (hb.mono hB.size))
            | (go_at_call 36; (with_reducible refine (HPR.out _ hB).mono ?_); rintro e w3 ⟨rfl, hb⟩; have hB := hB.trans (hb.mono hB.size))
            | (go_at_call 25; (with_reducible refine (HPA.out _).mono ?_); rintro e w4 ⟨A1, c1, rfl, hC1, hc1, hb⟩; have hB := hB.trans (hb.mono hB.size))
            | (go_at_call 27; (with_reducible refine (HSA.out _ _ _ _ _ (Kd.C_below HC.out hB) hc0 hC1 hc1).mono ?_); rintro e w5 ⟨rfl, hb⟩; have hB := hB.trans (hb.mono hB.size))
            | (go_at_call 25; (with_reducible refine (HPS.out _).mono ?_); rintro e w6 ⟨A2, c2, rfl, hC2, hc2, hb⟩; have hB := hB.trans (hb.mono hB.size)))
          go_ret
          exact ⟨by first | rfl | simp, hB⟩
      · have e3 : (p3 == 0) = false := beq_eq_false_iff_ne.mpr hp3
        clear hp3
        rcases hsecond with ⟨rfl, rfl⟩ | ⟨rfl, ha, rfl⟩
        · skip
          go_enter Tryd.func9, Tryd.ntmps9
          go_wp2_with (first
            | (go_at_call 24; (with_reducible refine (HAW.out _).mono ?_); rintro e w1 ⟨rfl, hb⟩; have hB := hB.trans (hb.mono hB.size))
            | (go_at_call 35; (with_reducible refine (HSM.out _ hB).mono ?_); rintro e w2 ⟨rfl, hb⟩; have hB := hB.trans (hb.mono hB.size))
            | (go_at_call 36; (with_reducible refine (HPR.out _ hB).mono ?_); rintro e w3 ⟨rfl, hb⟩; have hB := hB.trans (hb.mono hB.size))
            | (go_at_call 25; (with_reducible refine (HPS.out _).mono ?_); rintro e w6 ⟨A2, c2, rfl, hC2, hc2, hb⟩; have hB := hB.trans (hb.mono hB.size))
            | (go_at_call 36; (with_reducible refine (HPM.out _ _ _ hB hC2 hc2).mono ?_); rintro e w7 ⟨rfl, hb⟩; have hC2 := Kd.C_below hC2 hb; have hB := hB.trans (hb.mono hB.size))
            | (go_at_call 25; (with_reducible refine (HPT.out _).mono ?_); rintro e w8 ⟨A3, c3, rfl, hC3, hc3, hb⟩; have hC2 := Kd.C_below hC2 hb; have hB := hB.trans (hb.mono hB.size))
            | (go_at_call 27; (with_reducible refine (HSB.out _ _ _ _ _ hC2 hc2 hC3 hc3).mono ?_); rintro e w9 ⟨rfl, hb⟩; have hB := hB.trans (hb.mono hB.size)))
          go_ret
          exact ⟨by first | rfl | simp, hB⟩
        · have a1 : decide (1 ≤ a) = true := decide_eq_true ha
          go_enter Tryd.func9, Tryd.ntmps9
          go_wp2_with (first
            | (go_at_call 24; (with_reducible refine (HAW.out _).mono ?_); rintro e w1 ⟨rfl, hb⟩; have hB := hB.trans (hb.mono hB.size))
            | (go_at_call 35; (with_reducible refine (HSM.out _ hB).mono ?_); rintro e w2 ⟨rfl, hb⟩; have hB := hB.trans (hb.mono hB.size))
            | (go_at_call 36; (with_reducible refine (HPR.out _ hB).mono ?_); rintro e w3 ⟨rfl, hb⟩; have hB := hB.trans (hb.mono hB.size))
            | (go_at_call 25; (with_reducible refine (HPS.out _).mono ?_); rintro e w6 ⟨A2, c2, rfl, hC2, hc2, hb⟩; have hB := hB.trans (hb.mono hB.size)))
          go_ret
          exact ⟨by first | rfl | simp, hB⟩
    · have d0 : decide (3000 < s.size) = true := decide_eq_true (by omega)
      clear hsm hsb hr0 hy hG hs3 hfit
      go_enter Tryd.func9, Tryd.ntmps9
      go_wp2_with (first
        | (go_at_call 24; (with_reducible refine (HAW.out _).mono ?_); rintro e w1 ⟨rfl, hb⟩; have hB := hB.trans (hb.mono hB.size))
        | (go_at_call 35; (with_reducible refine (HSM.out _ hB).mono ?_); rintro e w2 ⟨rfl, hb⟩; have hB := hB.trans (hb.mono hB.size)))
      go_ret
      exact ⟨rfl, hB⟩
end Go.Proofs.YtpeebjnfmlfocaaDoor.TpB
namespace Go.Proofs.YtpeebjnfmlfocaaDoor.taleBack
open Go.ChangeShapes Go.WideShapes Go.ChangeAt Go.RowKit
open Go.Proofs.YtpeebjnfmlfocaaDoor.TpD
open Go.ChangeMaps (open_string shut_string)
set_option linter.unusedVariables false
set_option maxRecDepth 100000
abbrev tab : List (String × DataW Unit) := Rows.taleBackRow.laid
set_option maxHeartbeats 1000000 in
theorem lifted (os : Os) (started : os.Started) (H : Type) (enc : TypeId × Value → H) :
    ReturnsInHanded {} Tryd.checked os 9 .any (fun w args => (Rows.taleBackSpec.pre enc Tryd.prog Tryd.f9 [] false w args ∧ laidMetH Tryd.prog tab w) ∧ sizedMet enc Tryd.prog Tryd.f9 (OpenSpec.ofChange Rows.taleBackSpec) false w args)
      (Rows.taleBackSpec.post enc Tryd.prog Tryd.f9 false true false false) := by
  refine returnsInHanded_of_change_and (C := Tryd.checked) (X := fun w _ => laidMetH Tryd.prog tab w) (fun _ _ _ hh h => h.of_heap hh) own started (by kernel_rfl) Tryd.func9
    (ChangeSpec.witness_shaped (enc := enc) (C := Tryd.checked) (os := os) (X := fun w _ => laidMetH Tryd.prog tab w) false (World.laidAll Tryd.prog os tab) #[.slice none 0 0, .string ByteArray.empty] 8 (World.laidAll_os _ _ _)
      (World.shaped_of_ZipB (by kernel_rfl) (by kernel_rfl)) (by kernel_rfl) (by kernel_rfl) (by kernel_rfl)
      (by rw [MakeChecks.laidMetH_plain _ _ _ (by kernel_rfl)]; exact laidMet_laidAll _ (by kernel_rfl) (by kernel_rfl))) ?_
  intro W base args ds gs before hval0 hW _ _ hL _
  have hval : ∀ (j : Nat) t v, Tryd.f9.params[j]? = some t → args[j]? = some v → Value.okWide Tryd.prog W .any base t v := hval0
  have hW' := hW
  obtain ⟨p, q, hA0, hV, rfl, hfz, hnd⟩ := hW
  have hA : DataW.TrodAll enc Tryd.prog W 0 (fun _ => true) true Tryd.f9.params.toList args.toList ds p := hA0
  rw [Tryd.params9] at hA hval
  obtain ⟨v0, vs0, d0, ds0, p0, q0, hargs, rfl, rfl, h0, r0⟩ := trodAll_cons hA
  obtain ⟨v1, vs1, d1, ds1, p1, q1, rfl, rfl, rfl, h1, r1⟩ := trodAll_cons r0
  obtain ⟨rfl, rfl, rfl⟩ := trodAll_nil r1
  obtain rfl : args = #[v0, v1] := by cases args; simp_all
  obtain ⟨rfl, rfl⟩ := trodVars_none hV
  have k0 := h0
  have lt0 : ∀ x ∈ p0, x.block < W.heap.size := by obtain ⟨m, hm⟩ := k0; exact DataW.trod_lt m _ _ _ hm
  obtain ⟨A0, c0, z0, rfl, hC0, hc0, hn0, hy0⟩ := open_deeds (hval 0 39 v0 rfl rfl) h0
  obtain ⟨a1, rfl, rfl, rfl, y1⟩ := open_string Tryd.underlying9 (hval 1 9 v1 rfl rfl) h1
  have hT : TpR.Tab W := by
    rw [MakeChecks.laidMetH_plain _ _ _ (by kernel_rfl)] at hL
    exact tab_of (laid_tail (laid_tail hL))
  clear hA0 hval0
  refine (TpB.back_walk A0 c0 z0 a1 W hT hC0 hc0 hy0 hn0 (by have := y1; unfold maxLen at this; omega)).mono fun e W' ⟨he, bel⟩ => ?_
  subst he
  exact ⟨_, rfl, _, _, _, [], _, [], hW', trodAll_mk1 (shut_bool Tryd.underlying4 _), (trodAll_cons_mk (Below.trod laidOut (by kernel_rfl) (of_decide_eq_true (by kernel_rfl)) k0 bel lt0) (trodAll_cons_mk (shut_string Tryd.underlying9 y1) trodAll_mk0)), rfl, bel.frame _, fun h => by cases h⟩
theorem over : Rows.TaleBackSaid :=
  OpenClaim.holds_of_wide 9 Tryd.f9 rfl rfl rfl rfl rfl rfl rfl ⟨rfl, rfl, rfl, rfl, rfl⟩ rfl rfl rfl rfl rfl (by kernel_rfl) Tryd.func9 (by kernel_rfl)
    (of_decide_eq_true (by kernel_rfl)) (by unfold Func.isWrapper; first | (rw [if_pos (by decide +kernel)]; kernel_rfl) | (rw [if_neg (by decide +kernel)]; exact ⟨rfl, rfl⟩))
    (fun os started H enc _ => lifted os started H enc)
end Go.Proofs.YtpeebjnfmlfocaaDoor.taleBack
namespace Go.Proofs.YtpeebjnfmlfocaaDoor
open Go
theorem taleBack_card : Rows.TaleBackCardSaid :=
  Claim7.holds_tied_plain_at .later [] [.data, .data, .data, .data, .pinned] true (true, "88ad74f4235768ce2ee27f4660809d551552ad15cc6fba27e3a6463438547031") true
    taleBack.over (fun _ h => by cases h) (by kernel_rfl) (fun _ h => by cases h) taleBack_row_tie rfl ⟨rfl, rfl⟩ (by kernel_rfl) rfl
    (fun f fn hf hfn => by
      obtain rfl : f = 9 := Option.some.inj ((show Tryd.prog.funcNamed "cleromancy/cleromancylaw44.TaleBack" = some 9 by kernel_rfl).symm.trans hf) |>.symm
      obtain rfl : fn = Tryd.f9 := (Option.some.inj (Tryd.func9.symm.trans hfn)).symm
      exact ⟨by kernel_rfl, fun j t ht => by
        rw [Tryd.params9] at ht
        have hm : t ∈ [39, 9] := by simpa using Array.mem_of_getElem? ht
        have hall : ([39, 9].all fun u => !Tryd.prog.wantsStandIn u) = true := by kernel_rfl
        exact (show Tryd.prog.wantsStandIn t = false by simpa using List.all_eq_true.1 hall t hm)⟩)
    (by kernel_rfl)
end Go.Proofs.YtpeebjnfmlfocaaDoor
