/- Own texts of this seat, joined. -/
import Derived.Test.YtpeebjnfmlfocaaDoorZB10
import Derived.Test.YtpeebjnfmlfocaaDoorZB03
import Derived.Test.YtpeebjnfmlfocaaDoorZB08
import Derived.Test.YtpeebjnfmlfocaaDoorZB09
namespace Go.Proofs.YtpeebjnfmlfocaaDoor.TpP
open Go.RowKit Go.Proofs.YtpeebjnfmlfocaaDoorW.PrintWords Go.Proofs.YtpeebjnfmlfocaaDoorW.PrintLast Go.Proofs.YtpeebjnfmlfocaaDoorW.PrintMore Go.Proofs.YtpeebjnfmlfocaaDoor.Tp Go.Proofs.YtpeebjnfmlfocaaDoor.TpR
set_option linter.unusedVariables false
def linesP : List UInt8 → List UInt8 → List (List UInt8)
  | [], cur => [cur]
  | c :: cs, cur => if c = 10 then cur :: linesP cs [] else linesP cs (cur ++ [c])
theorem linesP_len : ∀ (cs cur : List UInt8), (linesP cs cur).length ≤ cs.length + 1
  | [], cur => by simp [linesP]
  | c :: cs, cur => by
    rw [linesP]
    split
    · have := linesP_len cs []; simp; omega
    · have := linesP_len cs (cur ++ [c]); simp; omega
theorem linesP_each : ∀ (cs cur : List UInt8), ∀ x ∈ linesP cs cur, x.length ≤ cs.length + cur.length
  | [], cur, x, h => by rw [linesP, List.mem_singleton] at h; subst h; simp
  | c :: cs, cur, x, h => by
    rw [linesP] at h
    split at h
    · rcases List.mem_cons.1 h with rfl | h
      · simp
      · have := linesP_each cs [] x h; simp at this ⊢; omega
    · have := linesP_each cs _ x h; simp at this ⊢; omega
def pre (cur : List UInt8) : List (List UInt8) → List (List UInt8)
  | [] => [cur]
  | h :: t => (cur ++ h) :: t
theorem index_self (l : List UInt8) : Lib.index (10 :: l) [10] = 0 := by rw [Lib.index_one]; rfl
theorem index_other (b : UInt8) (l : List UInt8) (h : b ≠ 10) : Lib.index (b :: l) [10] = if Lib.index l [10] == -1 then -1 else Lib.index l [10] + 1 := by
  rw [Lib.index_one, Lib.index_one, Lib.indexByte, if_neg (by simpa using h)]
theorem index_none (l : List UInt8) (h : 0 < l.count 10) : ∃ i : Nat, Lib.index l [10] = (i : Int) := by
  have h1 := Lib.index_ge l [10]
  by_cases h2 : Lib.index l [10] = -1
  · rw [Lib.index_one] at h2
    have h3 := Lib.indexByte_none h2
    have h4 : 10 ∈ l := List.count_pos_iff.1 h
    obtain ⟨k, hk, he⟩ := List.getElem_of_mem h4
    exact absurd (by rw [List.getElem?_eq_getElem hk, he]) (h3 k)
  · exact ⟨(Lib.index l [10]).toNat, by omega⟩
theorem splitK_pos (k : Nat) (l : List UInt8) (i : Nat) (h : Lib.index l [10] = (i : Int)) : Lib.splitK [10] 0 (k + 1) l = l.take i :: Lib.splitK [10] 0 k (l.drop (i + 1)) := by
  have hm : ¬ (Lib.index l [10] == -1) = true := fun e => by have := beq_iff_eq.1 e; omega
  rw [Lib.splitK, if_neg hm, h]
  rfl
theorem split_lines : ∀ (l cur : List UInt8), linesP l cur = pre cur (Lib.splitK [10] 0 (l.count 10) l)
  | [], cur => by simp [linesP, Lib.splitK, pre]
  | b :: l, cur => by
    rw [linesP]
    by_cases hb : b = 10
    · subst hb
      rw [if_pos rfl, List.count_cons_self, splitK_pos _ _ 0 (index_self l), pre, split_lines l []]
      have hne : Lib.splitK [10] 0 (l.count 10) l ≠ [] := by
        cases l.count 10 with
        | zero => simp [Lib.splitK]
        | succ k => rw [Lib.splitK]; split <;> simp
      cases hs : Lib.splitK [10] 0 (l.count 10) l with
      | nil => exact absurd hs hne
      | cons a t => simp [pre, hs]
    · rw [if_neg hb, split_lines l (cur ++ [b]), List.count_cons_of_ne (by simpa using hb)]
      cases hk : l.count 10 with
      | zero => simp [Lib.splitK, pre]
      | succ k =>
        obtain ⟨i, hi⟩ := index_none l (by omega)
        have hi2 : Lib.index (b :: l) [10] = ((i + 1 : Nat) : Int) := by
          rw [index_other b l hb, if_neg (fun e => by have := beq_iff_eq.1 e; omega), hi]
          rfl
        rw [splitK_pos k l i hi, splitK_pos k (b :: l) (i + 1) hi2]
        simp [pre]
theorem split_eq (s : ByteArray) (hs : s.size ≤ 2097152) : strings_Split.f s ⟨#[10]⟩ = some ((linesP s.data.toList []).map mk) := by
  unfold strings_Split.f
  rw [if_pos ⟨rfl, hs⟩]
  congr 1
  have h := Lib.splitB_data ⟨#[10]⟩ 0 (Lib.countB s ⟨#[10]⟩) s
  have hc : Lib.countB s ⟨#[10]⟩ = s.data.toList.count 10 := by
    show Lib.count s.data.toList [10] = _
    rw [Lib.count_one]
  have hl := split_lines s.data.toList []
  have e : pre [] (Lib.splitK [10] 0 (s.data.toList.count 10) s.data.toList) = Lib.splitK [10] 0 (s.data.toList.count 10) s.data.toList := by
    cases hs : Lib.splitK [10] 0 (s.data.toList.count 10) s.data.toList with
    | nil => 
      exfalso
      cases hk : s.data.toList.count 10 with
      | zero => rw [hk] at hs; simp [Lib.splitK] at hs
      | succ k => rw [hk, Lib.splitK] at hs; split at hs <;> simp at hs
    | cons a t => rfl
  rw [hl, e, ← hc]
  have h2 : Lib.splitK [10] 0 (Lib.countB s ⟨#[10]⟩) s.data.toList = (Lib.splitB ⟨#[10]⟩ 0 (Lib.countB s ⟨#[10]⟩) s).map (·.data.toList) := h.symm
  rw [h2, List.map_map]
  exact (List.map_id _).symm
def wl (line : List UInt8) : List ByteArray := (wds line []).map mk
def dT (R : Res) : S63 := ⟨R.1, R.2.1 1, R.2.1 2, R.2.1 3, R.2.1 4, R.2.2.1⟩
def goT : List (List UInt8) → Nat → List S63 → List S63 × Int × Int
  | [], _, out => (out, 0, 0)
  | ln :: ls, i, out => if wl ln = [] then goT ls (i + 1) out else if (readF numT hexT (wl ln)).2.2.2 = true then goT ls (i + 1) (out ++ [dT (readF numT hexT (wl ln))]) else ([], ((i + 1 : Nat) : Int), 2)
theorem wl_sizes (ln : List UInt8) (h : ln.length ≤ 100000) : ∀ x ∈ wl ln, x.size ≤ 100000 := by
  intro x hx
  obtain ⟨y, hy, rfl⟩ := List.mem_map.1 hx
  have := wds_len ln [] y hy
  rw [mk_size]
  simp at this
  omega
theorem tread_eq (ln : List UInt8) (h : ln.length ≤ 100000) (hne : wl ln ≠ []) : tale_read.f (wl ln) = some (tup (readF numT hexT (wl ln))) := by
  unfold tale_read.f
  rw [if_pos ⟨List.length_pos_iff.2 hne, wl_sizes ln h⟩]
theorem wl_len0 (ln : List UInt8) : ((wl ln).length : Int) = 0 ↔ wl ln = [] := by
  rw [← List.length_eq_zero_iff]
  omega
theorem tParse_l0 (L : List (List UInt8)) (hL : L.length ≤ 100000) (hL2 : ∀ x ∈ L, x.length ≤ 3000) (d : Nat) : ∀ (k i : Nat) (out : List S63), i + d = L.length → d + 20000 < k → out.length ≤ i →
    tale_Parse.l0 k out (L.map mk) (L.length : Int) (i : Int) = some (goT (L.drop i) i out) := by
  induction d with
  | zero =>
    intro k i out hi hk ho
    obtain ⟨k, rfl⟩ : ∃ m, k = m + 1 := ⟨k - 1, by omega⟩
    simp only [tale_Parse.l0]
    rw [if_neg (by omega), List.drop_of_length_le (by omega)]
    rfl
  | succ d ih =>
    intro k i out hi hk ho
    obtain ⟨k, rfl⟩ : ∃ m, k = m + 1 := ⟨k - 1, by omega⟩
    have hil : i < L.length := by omega
    have hw : wrap64 ((i : Int) + 1) = ((i + 1 : Nat) : Int) := by rw [IntWalk.wrap64_in _ (by omega)]; omega
    have hx := hL2 (L[i]'hil) (List.getElem_mem _)
    have hr : rdOf ByteArray.empty (L.map mk) (i : Int) = mk (L[i]'hil) := by
      unfold rdOf
      rw [Int.toNat_natCast, List.getD_eq_getElem?_getD, List.getElem?_eq_getElem (by simpa using hil), List.getElem_map]
      rfl
    have hwd : tale_words.f k (mk (L[i]'hil)) = some (wl (L[i]'hil)) := words_eq (mk (L[i]'hil)) (by rw [mk_size]; omega) k (by rw [mk_size]; omega)
    rw [List.drop_eq_getElem_cons hil, goT]
    simp only [tale_Parse.l0]
    rw [if_pos (by omega), if_pos (by omega), if_pos (by simp; omega), hr, hwd, Option.bind_some, hw]
    by_cases h : wl (L[i]'hil) = []
    · rw [if_pos ((wl_len0 _).2 h), if_pos h]
      exact ih k (i + 1) out (by omega) (by omega) (by omega)
    · rw [if_neg (fun h2 => h ((wl_len0 _).1 h2)), if_neg h, tread_eq _ (by omega) h, Option.bind_some]
      show (if (readF numT hexT (wl (L[i]'hil))).2.2.2 = true then _ else _) = _
      by_cases hok : (readF numT hexT (wl (L[i]'hil))).2.2.2 = true
      · rw [if_pos hok, if_pos hok, if_pos (by omega)]
        exact ih k (i + 1) (out ++ [dT (readF numT hexT (wl (L[i]'hil)))]) (by omega) (by omega) (by simp; omega)
      · rw [if_neg hok, if_neg hok]
theorem tParse_eq (s : ByteArray) (hs : s.size ≤ 3000) (k : Nat) (hk : 30000 ≤ k) : tale_Parse.f k s = some (goT (linesP s.data.toList []) 0 []) := by
  have hl : s.data.toList.length = s.size := by simp
  have h1 := linesP_len s.data.toList []
  have := tParse_l0 (linesP s.data.toList []) (by omega) (fun x hx => by have := linesP_each _ _ x hx; simp at this; omega) (linesP s.data.toList []).length k 0 [] (by omega) (by omega) (by simp)
  unfold tale_Parse.f
  rw [if_neg (by omega), split_eq s (by omega), Option.bind_some, List.length_map]
  exact this
end Go.Proofs.YtpeebjnfmlfocaaDoor.TpP
namespace Go.Proofs.YtpeebjnfmlfocaaDoor.Tp
open Go.RowKit Go.Proofs.YtpeebjnfmlfocaaDoorW.PrintWords Go.Proofs.YtpeebjnfmlfocaaDoorW.PrintLast Go.Proofs.YtpeebjnfmlfocaaDoorW.PrintMore
attribute [local go_sem] max2_int min2_int max_two min_two max_three min_three max_four min_four   -- for this text's walks alone
set_option linter.unusedVariables false
set_option linter.unusedSimpArgs false
def cleromancylaw44_Same.l0 : Nat → List (S63) → List (S63) → Int → Int → Option (Bool)
  | 0, _, _, _, _ => none
  | k + 1, x0, x1, x12, x13 => if x13 < x12 then (if 0 ≤ x13 then (if x13 < (x0.length : Int) then (if x13 < (x1.length : Int) then ((cleromancyref44_Same.f k ((rd_T63 x0 x13).f0) ((rd_T63 x0 x13).f1) ((rd_T63 x0 x13).f2) ((rd_T63 x0 x13).f3) ((rd_T63 x0 x13).f4) ((rd_T63 x0 x13).f5) ((rd_T63 x1 x13).f0) ((rd_T63 x1 x13).f1) ((rd_T63 x1 x13).f2) ((rd_T63 x1 x13).f3) ((rd_T63 x1 x13).f4) ((rd_T63 x1 x13).f5)).bind fun t161 => (if t161 = true then (cleromancylaw44_Same.l0 k x0 x1 x12 (wrap64 (x13 + 1))) else (some false))) else (none)) else (none)) else (none)) else (some true)
def cleromancylaw44_Same.f (k : Nat) (l0 : List (S63)) (l1 : List (S63)) : Option (Bool) := if (l0.length : Int) = (l1.length : Int) then (cleromancylaw44_Same.l0 k l0 l1 (l0.length : Int) 0) else (some false)
def cleromancylaw44_Same.T6 : Bool × List (List Nat × List Nat) := (true, [([], []), ([], []), ([0, 1], [0, 1]), ([2], [2]), ([], []), ([], []), ([4, 5], [4, 5]), ([6], [6]), ([3, 7], [3, 7]), ([8], [8])])
def cleromancylaw44_Same.B6 : List Nat := [0, 0, 3, 7, 0, 0, 48, 112, 255, 511]
theorem cleromancylaw44_Same.tab6 : rtab .any (opsOf Tryd.f27 6) = cleromancylaw44_Same.T6 := by kernel_rfl
theorem cleromancylaw44_Same.bits6 : waitsOk cleromancylaw44_Same.T6.2 cleromancylaw44_Same.B6 = true := by kernel_rfl
set_option maxHeartbeats 8000000 in
set_option maxRecDepth 100000 in
theorem cleromancylaw44_Same.calls (k : Nat) (A0 : Option Addr) (c0 : Nat) (l0 : List (S63)) (A1 : Option Addr) (c1 : Nat) (l1 : List (S63)) (r : Bool) (w : World) (hr0 : Kd.C k63 w A0 l0.length l0) (hc0 : l0.length ≤ c0) (hr1 : Kd.C k63 w A1 l1.length l1) (hc1 : l1.length ≤ c1) (h : cleromancylaw44_Same.f k l0 l1 = some r) :
    Calls Tryd.prog 27 #[.slice A0 l0.length c0, .slice A1 l1.length c1] w fun e w' => e = .returned (.bool r) ∧ Below w.heap.size w w' := by
  have hu63 := Tryd.underlying63
  have HR0 := Aside0.mk hr0
  have HC0 := Aside0.mk hc0
  clear hr0 hc0
  have HR1 := Aside0.mk hr1
  have HC1 := Aside0.mk hc1
  clear hr1 hc1
  have HB := Aside0.mk (Below.refl w.heap.size w)
  have H : (if (l0.length : Int) = (l1.length : Int) then (cleromancylaw44_Same.l0 k l0 l1 (l0.length : Int) 0) else (some false)) = some r := h
  clear h
  by_cases c3 : (l0.length : Int) = (l1.length : Int)
  · rw [if_pos c3] at H
    have c3b0 : ((l0.length : Int) == (l1.length : Int)) = true := beq_iff_eq.mpr c3
    have c3b1 : ((l0.length : Int) != (l1.length : Int)) = false := bne_eq_false_iff_eq.mpr c3
    have c3b2 : (l0.length == l1.length) = true := by first | simpa using c3 | (simp at c3 ⊢; omega)
    clear c3
    have H' := Aside0.mk H
    clear H
    go_enter Tryd.func27, Tryd.ntmps27
    go_wp2
    go_loopg [13] k (fun kq v13 w' => ∃ (x13_1 : Int), v13 = .int .i64 x13_1 ∧ Aside0 (cleromancylaw44_Same.l0 kq l0 l1 (l0.length : Int) x13_1 = some r) ∧ Aside0 (kq ≤ k) ∧ Aside0 (Below w.heap.size w w'))
    case atStart => exact ⟨(0), (by first | rfl | (simp; done) | (simp [*]; done)), H', ⟨Nat.le_refl _⟩, ⟨by repeat (first | (with_reducible first | exact HB.out | apply below_alloc | apply pw_below_drewN | apply below_drew1) | exact HB.out)⟩⟩
    case round =>
      clear H'
      try clear c1
      try clear c2
      try clear p2
      try clear c3
      try clear c3b0
      try clear c3b1
      try clear c3b2
      obtain ⟨x13_1, rfl, HA, HK1, HB⟩ := hrel
      cases gk with
      | zero => exact absurd HA.out (by simp [cleromancylaw44_Same.l0])
      | succ k1 =>
        have H := HA.out
        clear HA
        simp only [cleromancylaw44_Same.l0] at H
        by_cases c4 : x13_1 < (l0.length : Int)
        · rw [if_pos c4] at H
          have c4b0 : decide (x13_1 < (l0.length : Int)) = true := decide_eq_true c4
          clear c4
          by_cases c5 : 0 ≤ x13_1
          · rw [if_pos c5] at H
            have c5b0 : decide (0 ≤ x13_1) = true := decide_eq_true c5
            clear c5
            by_cases c6 : x13_1 < (l0.length : Int)
            · rw [if_pos c6] at H
              have c6b0 : decide (x13_1 < (l0.length : Int)) = true := decide_eq_true c6
              clear c6
              by_cases c7 : x13_1 < (l1.length : Int)
              · rw [if_pos c7] at H
                have c7b0 : decide (x13_1 < (l1.length : Int)) = true := decide_eq_true c7
                clear c7
                replace H := Option.bind_eq_some_iff.mp H
                obtain ⟨t161, A80, H⟩ := H
                replace H : (if t161 = true then (cleromancylaw44_Same.l0 k1 l0 l1 (l0.length : Int) (wrap64 (x13_1 + 1))) else (some false)) = some r := H
                have A8 := Aside0.mk A80
                clear A80
                by_cases c9 : t161 = true
                · subst c9
                  have H1 : (cleromancylaw44_Same.l0 k1 l0 l1 (l0.length : Int) (wrap64 (x13_1 + 1))) = some r := by rw [if_pos rfl] at H; exact H
                  clear H
                  have H := H1
                  clear H1
                  have H' := Aside0.mk H
                  clear H
                  try go_wp2
                  have n0_ := Aside0.mk (below_drew1 HB.out)
                  clear HB
                  have HB := n0_
                  clear n0_
                  have p159 : 0 ≤ (x13_1 : Int) := of_decide_eq_true (by first | (with_reducible assumption) | assumption)
                  have q159 : x13_1 < (l0.length : Int) := of_decide_eq_true (by first | (with_reducible assumption) | assumption)
                  obtain ⟨ad159, A159_5, c159_5, e159, hx159_0, hx159_1, hx159_2, hx159_3, hx159_4, hx159_5, hl159_5, hi159_5⟩ := at_T63 HR0.out x13_1 p159 q159
                  have hw159_5 := hx159_5
                  have hw159_4 := hx159_4
                  have hw159_3 := hx159_3
                  have hw159_2 := hx159_2
                  have hw159_1 := hx159_1
                  have hw159_0 := hx159_0
                  cases e159
                  replace hx159_0 := (HB.out.cell (World.block_lt_of_cell? w _ hx159_0)).trans hx159_0
                  replace hx159_1 := (HB.out.cell (World.block_lt_of_cell? w _ hx159_1)).trans hx159_1
                  replace hx159_2 := (HB.out.cell (World.block_lt_of_cell? w _ hx159_2)).trans hx159_2
                  replace hx159_3 := (HB.out.cell (World.block_lt_of_cell? w _ hx159_3)).trans hx159_3
                  replace hx159_4 := (HB.out.cell (World.block_lt_of_cell? w _ hx159_4)).trans hx159_4
                  replace hx159_5 := (HB.out.cell (World.block_lt_of_cell? w _ hx159_5)).trans hx159_5
                  have HR159_5 := Aside0.mk hi159_5
                  have HC159_5 := Aside0.mk hl159_5
                  clear hi159_5 hl159_5
                  replace p159 := eq_true p159
                  replace q159 := eq_true q159
                  have p160 : 0 ≤ (x13_1 : Int) := of_decide_eq_true (by first | (with_reducible assumption) | assumption)
                  have q160 : x13_1 < (l1.length : Int) := of_decide_eq_true (by first | (with_reducible assumption) | assumption)
                  obtain ⟨ad160, A160_5, c160_5, e160, hx160_0, hx160_1, hx160_2, hx160_3, hx160_4, hx160_5, hl160_5, hi160_5⟩ := at_T63 HR1.out x13_1 p160 q160
                  have hw160_5 := hx160_5
                  have hw160_4 := hx160_4
                  have hw160_3 := hx160_3
                  have hw160_2 := hx160_2
                  have hw160_1 := hx160_1
                  have hw160_0 := hx160_0
                  cases e160
                  replace hx160_0 := (HB.out.cell (World.block_lt_of_cell? w _ hx160_0)).trans hx160_0
                  replace hx160_1 := (HB.out.cell (World.block_lt_of_cell? w _ hx160_1)).trans hx160_1
                  replace hx160_2 := (HB.out.cell (World.block_lt_of_cell? w _ hx160_2)).trans hx160_2
                  replace hx160_3 := (HB.out.cell (World.block_lt_of_cell? w _ hx160_3)).trans hx160_3
                  replace hx160_4 := (HB.out.cell (World.block_lt_of_cell? w _ hx160_4)).trans hx160_4
                  replace hx160_5 := (HB.out.cell (World.block_lt_of_cell? w _ hx160_5)).trans hx160_5
                  have HR160_5 := Aside0.mk hi160_5
                  have HC160_5 := Aside0.mk hl160_5
                  clear hi160_5 hl160_5
                  replace p160 := eq_true p160
                  replace q160 := eq_true q160
                  refine start_ (n := 10) (S := fun w' => w'.cell? (ad159.add ((x13_1).toNat * 6)) = some (.int .i64 ((rd_T63 l0 x13_1).f0)) ∧ w'.cell? ⟨(ad159.add ((x13_1).toNat * 6)).block, (ad159.add ((x13_1).toNat * 6)).off + 1, none⟩ = some (.int .i64 ((rd_T63 l0 x13_1).f1)) ∧ w'.cell? ⟨(ad159.add ((x13_1).toNat * 6)).block, (ad159.add ((x13_1).toNat * 6)).off + 2, none⟩ = some (.int .i64 ((rd_T63 l0 x13_1).f2)) ∧ w'.cell? ⟨(ad159.add ((x13_1).toNat * 6)).block, (ad159.add ((x13_1).toNat * 6)).off + 3, none⟩ = some (.int .i64 ((rd_T63 l0 x13_1).f3)) ∧ w'.cell? ⟨(ad159.add ((x13_1).toNat * 6)).block, (ad159.add ((x13_1).toNat * 6)).off + 4, none⟩ = some (.int .i64 ((rd_T63 l0 x13_1).f4)) ∧ w'.cell? ⟨(ad159.add ((x13_1).toNat * 6)).block, (ad159.add ((x13_1).toNat * 6)).off + 5, none⟩ = some (.slice A159_5 ((rd_T63 l0 x13_1).f5).length c159_5) ∧ w'.cell? (ad160.add ((x13_1).toNat * 6)) = some (.int .i64 ((rd_T63 l1 x13_1).f0)) ∧ w'.cell? ⟨(ad160.add ((x13_1).toNat * 6)).block, (ad160.add ((x13_1).toNat * 6)).off + 1, none⟩ = some (.int .i64 ((rd_T63 l1 x13_1).f1)) ∧ w'.cell? ⟨(ad160.add ((x13_1).toNat * 6)).block, (ad160.add ((x13_1).toNat * 6)).off + 2, none⟩ = some (.int .i64 ((rd_T63 l1 x13_1).f2)) ∧ w'.cell? ⟨(ad160.add ((x13_1).toNat * 6)).block, (ad160.add ((x13_1).toNat * 6)).off + 3, none⟩ = some (.int .i64 ((rd_T63 l1 x13_1).f3)) ∧ w'.cell? ⟨(ad160.add ((x13_1).toNat * 6)).block, (ad160.add ((x13_1).toNat * 6)).off + 4, none⟩ = some (.int .i64 ((rd_T63 l1 x13_1).f4)) ∧ w'.cell? ⟨(ad160.add ((x13_1).toNat * 6)).block, (ad160.add ((x13_1).toNat * 6)).off + 5, none⟩ = some (.slice A160_5 ((rd_T63 l1 x13_1).f5).length c160_5)) (ds := []) #[false, false, false, false, false, false, false, false, false, false] (by kernel_rfl) rfl rfl ⟨((HB.out.cell (World.block_lt_of_cell? w _ hw159_0)).trans hw159_0), ((HB.out.cell (World.block_lt_of_cell? w _ hw159_1)).trans hw159_1), ((HB.out.cell (World.block_lt_of_cell? w _ hw159_2)).trans hw159_2), ((HB.out.cell (World.block_lt_of_cell? w _ hw159_3)).trans hw159_3), ((HB.out.cell (World.block_lt_of_cell? w _ hw159_4)).trans hw159_4), ((HB.out.cell (World.block_lt_of_cell? w _ hw159_5)).trans hw159_5), ((HB.out.cell (World.block_lt_of_cell? w _ hw160_0)).trans hw160_0), ((HB.out.cell (World.block_lt_of_cell? w _ hw160_1)).trans hw160_1), ((HB.out.cell (World.block_lt_of_cell? w _ hw160_2)).trans hw160_2), ((HB.out.cell (World.block_lt_of_cell? w _ hw160_3)).trans hw160_3), ((HB.out.cell (World.block_lt_of_cell? w _ hw160_4)).trans hw160_4), ((HB.out.cell (World.block_lt_of_cell? w _ hw160_5)).trans hw160_5)⟩ (fun hHeld => ?_); refine with_tabW cleromancylaw44_Same.tab6 cleromancylaw44_Same.bits6 (fun HT_ HW_ => ?_)
                  generalize wr.drew = w10 at HB HR159_5 HR160_5 hx159_0 hx159_1 hx159_2 hx159_3 hx159_4 hx159_5 hx160_0 hx160_1 hx160_2 hx160_3 hx160_4 hx160_5 hHeld ⊢
                  refine pure_ (i := 0) (N := some 16) (v := ?_) (a' := ?_) #[true, false, false, false, false, false, false, false, false, false] rfl rfl (any_of HT_.out (by kernel_rfl)) (fun _ _ _ h => h) (Or.inl ⟨by rfl, ?_⟩) ?_ ?_
                  rotate_left
                  · intro w'
                    go_simp
                    with_reducible rfl
                  rotate_left
                  · simp only [Act.put, List.setIfInBounds_toArray, List.set_cons_zero, List.set_cons_succ, i64_w, i32_w]
                    rfl
                  refine pure_ (i := 1) (N := some 17) (v := ?_) (a' := ?_) #[true, true, false, false, false, false, false, false, false, false] rfl rfl (any_of HT_.out (by kernel_rfl)) (fun _ _ _ h => h) (Or.inl ⟨by rfl, ?_⟩) ?_ ?_
                  rotate_left
                  · intro w'
                    go_simp
                    with_reducible rfl
                  rotate_left
                  · simp only [Act.put, List.setIfInBounds_toArray, List.set_cons_zero, List.set_cons_succ, i64_w, i32_w]
                    rfl
                  refine pure_ (i := 2) (N := some 18) (v := ?_) (a' := ?_) #[true, true, true, false, false, false, false, false, false, false] rfl rfl (any_of HT_.out (by kernel_rfl)) (fun _ _ _ h => h) (Or.inl ⟨by rfl, ?_⟩) ?_ ?_
                  rotate_left
                  · intro w'
                    go_simp
                    with_reducible rfl
                  rotate_left
                  · simp only [Act.put, List.setIfInBounds_toArray, List.set_cons_zero, List.set_cons_succ, i64_w, i32_w]
                    rfl
                  refine pure_ (i := 4) (N := some 20) (v := ?_) (a' := ?_) #[true, true, true, false, true, false, false, false, false, false] rfl rfl (any_of HT_.out (by kernel_rfl)) (fun _ _ _ h => h) (Or.inl ⟨by rfl, ?_⟩) ?_ ?_
                  rotate_left
                  · intro w'
                    go_simp
                    with_reducible rfl
                  rotate_left
                  · simp only [Act.put, List.setIfInBounds_toArray, List.set_cons_zero, List.set_cons_succ, i64_w, i32_w]
                    rfl
                  refine pure_ (i := 5) (N := some 21) (v := ?_) (a' := ?_) #[true, true, true, false, true, true, false, false, false, false] rfl rfl (any_of HT_.out (by kernel_rfl)) (fun _ _ _ h => h) (Or.inl ⟨by rfl, ?_⟩) ?_ ?_
                  rotate_left
                  · intro w'
                    go_simp
                    with_reducible rfl
                  rotate_left
                  · simp only [Act.put, List.setIfInBounds_toArray, List.set_cons_zero, List.set_cons_succ, i64_w, i32_w]
                    rfl
                  refine pure_ (i := 6) (N := some 22) (v := ?_) (a' := ?_) #[true, true, true, false, true, true, true, false, false, false] rfl rfl (any_of HT_.out (by kernel_rfl)) (fun _ _ _ h => h) (Or.inl ⟨by rfl, ?_⟩) ?_ ?_
                  rotate_left
                  · intro w'
                    go_simp
                    with_reducible rfl
                  rotate_left
                  · simp only [Act.put, List.setIfInBounds_toArray, List.set_cons_zero, List.set_cons_succ, i64_w, i32_w]
                    rfl
                  refine take_ (i := 3) (N := some 19) (v := ?_) (a' := ?_) #[true, true, true, true, true, true, true, false, false, false] rfl rfl (take_ofW HT_.out HW_.out (by kernel_rfl)) (fun _ _ _ h => h) (Or.inl ⟨by rfl, ?_⟩) hHeld ?_ ?_
                  rotate_left
                  · rintro w' ⟨s0, s1, s2, s3, s4, s5, s6, s7, s8, s9, s10, s11⟩
                    go_simp
                    with_reducible rfl
                  rotate_left
                  · simp only [Act.put, List.setIfInBounds_toArray, List.set_cons_zero, List.set_cons_succ, i64_w, i32_w]
                    rfl
                  refine take_ (i := 7) (N := some 23) (v := ?_) (a' := ?_) #[true, true, true, true, true, true, true, true, false, false] rfl rfl (take_ofW HT_.out HW_.out (by kernel_rfl)) (fun _ _ _ h => h) (Or.inl ⟨by rfl, ?_⟩) hHeld ?_ ?_
                  rotate_left
                  · rintro w' ⟨s0, s1, s2, s3, s4, s5, s6, s7, s8, s9, s10, s11⟩
                    go_simp
                    with_reducible rfl
                  rotate_left
                  · simp only [Act.put, List.setIfInBounds_toArray, List.set_cons_zero, List.set_cons_succ, i64_w, i32_w]
                    rfl
                  refine one_ (i := 8) (N := some 24) #[true, true, true, true, true, true, true, true, true, false] rfl rfl (one_of HT_.out (by kernel_rfl)) (by decide) (fun K hK => ?_)
                  refine goes_ Tryd.func60 (by kernel_rfl) rfl #[.agg #[.int .i64 ((rd_T63 l0 x13_1).f0), .int .i64 ((rd_T63 l0 x13_1).f1), .int .i64 ((rd_T63 l0 x13_1).f2), .int .i64 ((rd_T63 l0 x13_1).f3), .int .i64 ((rd_T63 l0 x13_1).f4), .slice A159_5 ((rd_T63 l0 x13_1).f5).length c159_5], .agg #[.int .i64 ((rd_T63 l1 x13_1).f0), .int .i64 ((rd_T63 l1 x13_1).f1), .int .i64 ((rd_T63 l1 x13_1).f2), .int .i64 ((rd_T63 l1 x13_1).f3), .int .i64 ((rd_T63 l1 x13_1).f4), .slice A160_5 ((rd_T63 l1 x13_1).f5).length c160_5]] (by rfl) rfl rfl (by (try simp only [List.map_toArray, List.map_cons, List.map_nil]); first | done | rfl | (simp only [List.length_drop, List.length_take]; rfl)) ?_
                  with_reducible refine (cleromancyref44_Same.calls k1 ((rd_T63 l0 x13_1).f0) ((rd_T63 l0 x13_1).f1) ((rd_T63 l0 x13_1).f2) ((rd_T63 l0 x13_1).f3) ((rd_T63 l0 x13_1).f4) _ _ ((rd_T63 l0 x13_1).f5) ((rd_T63 l1 x13_1).f0) ((rd_T63 l1 x13_1).f1) ((rd_T63 l1 x13_1).f2) ((rd_T63 l1 x13_1).f3) ((rd_T63 l1 x13_1).f4) _ _ ((rd_T63 l1 x13_1).f5) true _ ?side1 ?side2 ?side3 ?side4 A8.out).mono ?_
                  (case side1 => repeat (first | exact (Kd.C_below HR159_5.out HB.out) | (with_reducible refine Kd.C_alloc ?_ _) | (with_reducible refine Kd.C_drewN ?_ _) | (with_reducible refine Kd.C_drew ?_)))
                  (case side2 => exact HC159_5.out)
                  (case side3 => repeat (first | exact (Kd.C_below HR160_5.out HB.out) | (with_reducible refine Kd.C_alloc ?_ _) | (with_reducible refine Kd.C_drewN ?_ _) | (with_reducible refine Kd.C_drew ?_)))
                  (case side4 => exact HC160_5.out)
                  rintro e w11 ⟨rfl, hb⟩
                  refine ⟨_, rfl, ?_⟩
                  have n0_ := Aside0.mk (below_step (by repeat (first | (with_reducible first | exact HB.out | apply below_alloc | apply pw_below_drewN | apply below_drew1) | exact HB.out)) hb)
                  clear HB
                  have HB := n0_
                  clear n0_
                  (try clear hb)
                  (try clear hb2)
                  (try clear hk)
                  (try clear hi)
                  refine hK.out _ _ ⟨((HB.out.cell (World.block_lt_of_cell? w _ hw159_0)).trans hw159_0), ((HB.out.cell (World.block_lt_of_cell? w _ hw159_1)).trans hw159_1), ((HB.out.cell (World.block_lt_of_cell? w _ hw159_2)).trans hw159_2), ((HB.out.cell (World.block_lt_of_cell? w _ hw159_3)).trans hw159_3), ((HB.out.cell (World.block_lt_of_cell? w _ hw159_4)).trans hw159_4), ((HB.out.cell (World.block_lt_of_cell? w _ hw159_5)).trans hw159_5), ((HB.out.cell (World.block_lt_of_cell? w _ hw160_0)).trans hw160_0), ((HB.out.cell (World.block_lt_of_cell? w _ hw160_1)).trans hw160_1), ((HB.out.cell (World.block_lt_of_cell? w _ hw160_2)).trans hw160_2), ((HB.out.cell (World.block_lt_of_cell? w _ hw160_3)).trans hw160_3), ((HB.out.cell (World.block_lt_of_cell? w _ hw160_4)).trans hw160_4), ((HB.out.cell (World.block_lt_of_cell? w _ hw160_5)).trans hw160_5)⟩ (fun hHeld => ?_)
                  clear hK K
                  refine norm_ (a' := ?_) ?_ ?_
                  rotate_left
                  · show Act.put _ (some 24) _ = _
                    simp only [Act.put, List.setIfInBounds_toArray, List.set_cons_zero, List.set_cons_succ, i64_w, i32_w]
                    rfl
                  refine pure_ (i := 9) (N := some 25) (v := ?_) (a' := ?_) #[true, true, true, true, true, true, true, true, true, true] rfl rfl (any_of HT_.out (by kernel_rfl)) (fun _ _ _ h => h) (Or.inl ⟨by rfl, ?_⟩) ?_ ?_
                  rotate_left
                  · intro w'
                    go_simp
                    with_reducible rfl
                  rotate_left
                  · simp only [Act.put, List.setIfInBounds_toArray, List.set_cons_zero, List.set_cons_succ, i64_w, i32_w]
                    rfl
                  refine done_ (done_of HT_.out (by kernel_rfl)) ?_
                  try go_wp2
                  go_roundg k1
                  case measure => have := HK1.out; omega
                  case rel => exact ⟨(wrap64 (x13_1 + 1)), (by first | rfl | (simp; done) | (simp [*]; done)), H', ⟨by have := HK1.out; omega⟩, ⟨by repeat (first | (with_reducible first | exact HB.out | apply below_alloc | apply pw_below_drewN | apply below_drew1) | exact HB.out)⟩⟩
                · replace c9 := Bool.eq_false_iff.mpr c9
                  subst c9
                  have H1 : (some false) = some r := by rw [if_neg (show ¬ (false = true) by decide)] at H; exact H
                  clear H
                  have H := H1
                  clear H1
                  obtain rfl := Option.some.inj H
                  try go_wp2
                  have n0_ := Aside0.mk (below_drew1 HB.out)
                  clear HB
                  have HB := n0_
                  clear n0_
                  have p159 : 0 ≤ (x13_1 : Int) := of_decide_eq_true (by first | (with_reducible assumption) | assumption)
                  have q159 : x13_1 < (l0.length : Int) := of_decide_eq_true (by first | (with_reducible assumption) | assumption)
                  obtain ⟨ad159, A159_5, c159_5, e159, hx159_0, hx159_1, hx159_2, hx159_3, hx159_4, hx159_5, hl159_5, hi159_5⟩ := at_T63 HR0.out x13_1 p159 q159
                  have hw159_5 := hx159_5
                  have hw159_4 := hx159_4
                  have hw159_3 := hx159_3
                  have hw159_2 := hx159_2
                  have hw159_1 := hx159_1
                  have hw159_0 := hx159_0
                  cases e159
                  replace hx159_0 := (HB.out.cell (World.block_lt_of_cell? w _ hx159_0)).trans hx159_0
                  replace hx159_1 := (HB.out.cell (World.block_lt_of_cell? w _ hx159_1)).trans hx159_1
                  replace hx159_2 := (HB.out.cell (World.block_lt_of_cell? w _ hx159_2)).trans hx159_2
                  replace hx159_3 := (HB.out.cell (World.block_lt_of_cell? w _ hx159_3)).trans hx159_3
                  replace hx159_4 := (HB.out.cell (World.block_lt_of_cell? w _ hx159_4)).trans hx159_4
                  replace hx159_5 := (HB.out.cell (World.block_lt_of_cell? w _ hx159_5)).trans hx159_5
                  have HR159_5 := Aside0.mk hi159_5
                  have HC159_5 := Aside0.mk hl159_5
                  clear hi159_5 hl159_5
                  replace p159 := eq_true p159
                  replace q159 := eq_true q159
                  have p160 : 0 ≤ (x13_1 : Int) := of_decide_eq_true (by first | (with_reducible assumption) | assumption)
                  have q160 : x13_1 < (l1.length : Int) := of_decide_eq_true (by first | (with_reducible assumption) | assumption)
                  obtain ⟨ad160, A160_5, c160_5, e160, hx160_0, hx160_1, hx160_2, hx160_3, hx160_4, hx160_5, hl160_5, hi160_5⟩ := at_T63 HR1.out x13_1 p160 q160
                  have hw160_5 := hx160_5
                  have hw160_4 := hx160_4
                  have hw160_3 := hx160_3
                  have hw160_2 := hx160_2
                  have hw160_1 := hx160_1
                  have hw160_0 := hx160_0
                  cases e160
                  replace hx160_0 := (HB.out.cell (World.block_lt_of_cell? w _ hx160_0)).trans hx160_0
                  replace hx160_1 := (HB.out.cell (World.block_lt_of_cell? w _ hx160_1)).trans hx160_1
                  replace hx160_2 := (HB.out.cell (World.block_lt_of_cell? w _ hx160_2)).trans hx160_2
                  replace hx160_3 := (HB.out.cell (World.block_lt_of_cell? w _ hx160_3)).trans hx160_3
                  replace hx160_4 := (HB.out.cell (World.block_lt_of_cell? w _ hx160_4)).trans hx160_4
                  replace hx160_5 := (HB.out.cell (World.block_lt_of_cell? w _ hx160_5)).trans hx160_5
                  have HR160_5 := Aside0.mk hi160_5
                  have HC160_5 := Aside0.mk hl160_5
                  clear hi160_5 hl160_5
                  replace p160 := eq_true p160
                  replace q160 := eq_true q160
                  refine start_ (n := 10) (S := fun w' => w'.cell? (ad159.add ((x13_1).toNat * 6)) = some (.int .i64 ((rd_T63 l0 x13_1).f0)) ∧ w'.cell? ⟨(ad159.add ((x13_1).toNat * 6)).block, (ad159.add ((x13_1).toNat * 6)).off + 1, none⟩ = some (.int .i64 ((rd_T63 l0 x13_1).f1)) ∧ w'.cell? ⟨(ad159.add ((x13_1).toNat * 6)).block, (ad159.add ((x13_1).toNat * 6)).off + 2, none⟩ = some (.int .i64 ((rd_T63 l0 x13_1).f2)) ∧ w'.cell? ⟨(ad159.add ((x13_1).toNat * 6)).block, (ad159.add ((x13_1).toNat * 6)).off + 3, none⟩ = some (.int .i64 ((rd_T63 l0 x13_1).f3)) ∧ w'.cell? ⟨(ad159.add ((x13_1).toNat * 6)).block, (ad159.add ((x13_1).toNat * 6)).off + 4, none⟩ = some (.int .i64 ((rd_T63 l0 x13_1).f4)) ∧ w'.cell? ⟨(ad159.add ((x13_1).toNat * 6)).block, (ad159.add ((x13_1).toNat * 6)).off + 5, none⟩ = some (.slice A159_5 ((rd_T63 l0 x13_1).f5).length c159_5) ∧ w'.cell? (ad160.add ((x13_1).toNat * 6)) = some (.int .i64 ((rd_T63 l1 x13_1).f0)) ∧ w'.cell? ⟨(ad160.add ((x13_1).toNat * 6)).block, (ad160.add ((x13_1).toNat * 6)).off + 1, none⟩ = some (.int .i64 ((rd_T63 l1 x13_1).f1)) ∧ w'.cell? ⟨(ad160.add ((x13_1).toNat * 6)).block, (ad160.add ((x13_1).toNat * 6)).off + 2, none⟩ = some (.int .i64 ((rd_T63 l1 x13_1).f2)) ∧ w'.cell? ⟨(ad160.add ((x13_1).toNat * 6)).block, (ad160.add ((x13_1).toNat * 6)).off + 3, none⟩ = some (.int .i64 ((rd_T63 l1 x13_1).f3)) ∧ w'.cell? ⟨(ad160.add ((x13_1).toNat * 6)).block, (ad160.add ((x13_1).toNat * 6)).off + 4, none⟩ = some (.int .i64 ((rd_T63 l1 x13_1).f4)) ∧ w'.cell? ⟨(ad160.add ((x13_1).toNat * 6)).block, (ad160.add ((x13_1).toNat * 6)).off + 5, none⟩ = some (.slice A160_5 ((rd_T63 l1 x13_1).f5).length c160_5)) (ds := []) #[false, false, false, false, false, false, false, false, false, false] (by kernel_rfl) rfl rfl ⟨((HB.out.cell (World.block_lt_of_cell? w _ hw159_0)).trans hw159_0), ((HB.out.cell (World.block_lt_of_cell? w _ hw159_1)).trans hw159_1), ((HB.out.cell (World.block_lt_of_cell? w _ hw159_2)).trans hw159_2), ((HB.out.cell (World.block_lt_of_cell? w _ hw159_3)).trans hw159_3), ((HB.out.cell (World.block_lt_of_cell? w _ hw159_4)).trans hw159_4), ((HB.out.cell (World.block_lt_of_cell? w _ hw159_5)).trans hw159_5), ((HB.out.cell (World.block_lt_of_cell? w _ hw160_0)).trans hw160_0), ((HB.out.cell (World.block_lt_of_cell? w _ hw160_1)).trans hw160_1), ((HB.out.cell (World.block_lt_of_cell? w _ hw160_2)).trans hw160_2), ((HB.out.cell (World.block_lt_of_cell? w _ hw160_3)).trans hw160_3), ((HB.out.cell (World.block_lt_of_cell? w _ hw160_4)).trans hw160_4), ((HB.out.cell (World.block_lt_of_cell? w _ hw160_5)).trans hw160_5)⟩ (fun hHeld => ?_); refine with_tabW cleromancylaw44_Same.tab6 cleromancylaw44_Same.bits6 (fun HT_ HW_ => ?_)
                  generalize wr.drew = w12 at HB HR159_5 HR160_5 hx159_0 hx159_1 hx159_2 hx159_3 hx159_4 hx159_5 hx160_0 hx160_1 hx160_2 hx160_3 hx160_4 hx160_5 hHeld ⊢
                  refine pure_ (i := 0) (N := some 16) (v := ?_) (a' := ?_) #[true, false, false, false, false, false, false, false, false, false] rfl rfl (any_of HT_.out (by kernel_rfl)) (fun _ _ _ h => h) (Or.inl ⟨by rfl, ?_⟩) ?_ ?_
                  rotate_left
                  · intro w'
                    go_simp
                    with_reducible rfl
                  rotate_left
                  · simp only [Act.put, List.setIfInBounds_toArray, List.set_cons_zero, List.set_cons_succ, i64_w, i32_w]
                    rfl
                  refine pure_ (i := 1) (N := some 17) (v := ?_) (a' := ?_) #[true, true, false, false, false, false, false, false, false, false] rfl rfl (any_of HT_.out (by kernel_rfl)) (fun _ _ _ h => h) (Or.inl ⟨by rfl, ?_⟩) ?_ ?_
                  rotate_left
                  · intro w'
                    go_simp
                    with_reducible rfl
                  rotate_left
                  · simp only [Act.put, List.setIfInBounds_toArray, List.set_cons_zero, List.set_cons_succ, i64_w, i32_w]
                    rfl
                  refine pure_ (i := 2) (N := some 18) (v := ?_) (a' := ?_) #[true, true, true, false, false, false, false, false, false, false] rfl rfl (any_of HT_.out (by kernel_rfl)) (fun _ _ _ h => h) (Or.inl ⟨by rfl, ?_⟩) ?_ ?_
                  rotate_left
                  · intro w'
                    go_simp
                    with_reducible rfl
                  rotate_left
                  · simp only [Act.put, List.setIfInBounds_toArray, List.set_cons_zero, List.set_cons_succ, i64_w, i32_w]
                    rfl
                  refine pure_ (i := 4) (N := some 20) (v := ?_) (a' := ?_) #[true, true, true, false, true, false, false, false, false, false] rfl rfl (any_of HT_.out (by kernel_rfl)) (fun _ _ _ h => h) (Or.inl ⟨by rfl, ?_⟩) ?_ ?_
                  rotate_left
                  · intro w'
                    go_simp
                    with_reducible rfl
                  rotate_left
                  · simp only [Act.put, List.setIfInBounds_toArray, List.set_cons_zero, List.set_cons_succ, i64_w, i32_w]
                    rfl
                  refine pure_ (i := 5) (N := some 21) (v := ?_) (a' := ?_) #[true, true, true, false, true, true, false, false, false, false] rfl rfl (any_of HT_.out (by kernel_rfl)) (fun _ _ _ h => h) (Or.inl ⟨by rfl, ?_⟩) ?_ ?_
                  rotate_left
                  · intro w'
                    go_simp
                    with_reducible rfl
                  rotate_left
                  · simp only [Act.put, List.setIfInBounds_toArray, List.set_cons_zero, List.set_cons_succ, i64_w, i32_w]
                    rfl
                  refine pure_ (i := 6) (N := some 22) (v := ?_) (a' := ?_) #[true, true, true, false, true, true, true, false, false, false] rfl rfl (any_of HT_.out (by kernel_rfl)) (fun _ _ _ h => h) (Or.inl ⟨by rfl, ?_⟩) ?_ ?_
                  rotate_left
                  · intro w'
                    go_simp
                    with_reducible rfl
                  rotate_left
                  · simp only [Act.put, List.setIfInBounds_toArray, List.set_cons_zero, List.set_cons_succ, i64_w, i32_w]
                    rfl
                  refine take_ (i := 3) (N := some 19) (v := ?_) (a' := ?_) #[true, true, true, true, true, true, true, false, false, false] rfl rfl (take_ofW HT_.out HW_.out (by kernel_rfl)) (fun _ _ _ h => h) (Or.inl ⟨by rfl, ?_⟩) hHeld ?_ ?_
                  rotate_left
                  · rintro w' ⟨s0, s1, s2, s3, s4, s5, s6, s7, s8, s9, s10, s11⟩
                    go_simp
                    with_reducible rfl
                  rotate_left
                  · simp only [Act.put, List.setIfInBounds_toArray, List.set_cons_zero, List.set_cons_succ, i64_w, i32_w]
                    rfl
                  refine take_ (i := 7) (N := some 23) (v := ?_) (a' := ?_) #[true, true, true, true, true, true, true, true, false, false] rfl rfl (take_ofW HT_.out HW_.out (by kernel_rfl)) (fun _ _ _ h => h) (Or.inl ⟨by rfl, ?_⟩) hHeld ?_ ?_
                  rotate_left
                  · rintro w' ⟨s0, s1, s2, s3, s4, s5, s6, s7, s8, s9, s10, s11⟩
                    go_simp
                    with_reducible rfl
                  rotate_left
                  · simp only [Act.put, List.setIfInBounds_toArray, List.set_cons_zero, List.set_cons_succ, i64_w, i32_w]
                    rfl
                  refine one_ (i := 8) (N := some 24) #[true, true, true, true, true, true, true, true, true, false] rfl rfl (one_of HT_.out (by kernel_rfl)) (by decide) (fun K hK => ?_)
                  refine goes_ Tryd.func60 (by kernel_rfl) rfl #[.agg #[.int .i64 ((rd_T63 l0 x13_1).f0), .int .i64 ((rd_T63 l0 x13_1).f1), .int .i64 ((rd_T63 l0 x13_1).f2), .int .i64 ((rd_T63 l0 x13_1).f3), .int .i64 ((rd_T63 l0 x13_1).f4), .slice A159_5 ((rd_T63 l0 x13_1).f5).length c159_5], .agg #[.int .i64 ((rd_T63 l1 x13_1).f0), .int .i64 ((rd_T63 l1 x13_1).f1), .int .i64 ((rd_T63 l1 x13_1).f2), .int .i64 ((rd_T63 l1 x13_1).f3), .int .i64 ((rd_T63 l1 x13_1).f4), .slice A160_5 ((rd_T63 l1 x13_1).f5).length c160_5]] (by rfl) rfl rfl (by (try simp only [List.map_toArray, List.map_cons, List.map_nil]); first | done | rfl | (simp only [List.length_drop, List.length_take]; rfl)) ?_
                  with_reducible refine (cleromancyref44_Same.calls k1 ((rd_T63 l0 x13_1).f0) ((rd_T63 l0 x13_1).f1) ((rd_T63 l0 x13_1).f2) ((rd_T63 l0 x13_1).f3) ((rd_T63 l0 x13_1).f4) _ _ ((rd_T63 l0 x13_1).f5) ((rd_T63 l1 x13_1).f0) ((rd_T63 l1 x13_1).f1) ((rd_T63 l1 x13_1).f2) ((rd_T63 l1 x13_1).f3) ((rd_T63 l1 x13_1).f4) _ _ ((rd_T63 l1 x13_1).f5) false _ ?side1 ?side2 ?side3 ?side4 A8.out).mono ?_
                  (case side1 => repeat (first | exact (Kd.C_below HR159_5.out HB.out) | (with_reducible refine Kd.C_alloc ?_ _) | (with_reducible refine Kd.C_drewN ?_ _) | (with_reducible refine Kd.C_drew ?_)))
                  (case side2 => exact HC159_5.out)
                  (case side3 => repeat (first | exact (Kd.C_below HR160_5.out HB.out) | (with_reducible refine Kd.C_alloc ?_ _) | (with_reducible refine Kd.C_drewN ?_ _) | (with_reducible refine Kd.C_drew ?_)))
                  (case side4 => exact HC160_5.out)
                  rintro e w13 ⟨rfl, hb⟩
                  refine ⟨_, rfl, ?_⟩
                  have n0_ := Aside0.mk (below_step (by repeat (first | (with_reducible first | exact HB.out | apply below_alloc | apply pw_below_drewN | apply below_drew1) | exact HB.out)) hb)
                  clear HB
                  have HB := n0_
                  clear n0_
                  (try clear hb)
                  (try clear hb2)
                  (try clear hk)
                  (try clear hi)
                  refine hK.out _ _ ⟨((HB.out.cell (World.block_lt_of_cell? w _ hw159_0)).trans hw159_0), ((HB.out.cell (World.block_lt_of_cell? w _ hw159_1)).trans hw159_1), ((HB.out.cell (World.block_lt_of_cell? w _ hw159_2)).trans hw159_2), ((HB.out.cell (World.block_lt_of_cell? w _ hw159_3)).trans hw159_3), ((HB.out.cell (World.block_lt_of_cell? w _ hw159_4)).trans hw159_4), ((HB.out.cell (World.block_lt_of_cell? w _ hw159_5)).trans hw159_5), ((HB.out.cell (World.block_lt_of_cell? w _ hw160_0)).trans hw160_0), ((HB.out.cell (World.block_lt_of_cell? w _ hw160_1)).trans hw160_1), ((HB.out.cell (World.block_lt_of_cell? w _ hw160_2)).trans hw160_2), ((HB.out.cell (World.block_lt_of_cell? w _ hw160_3)).trans hw160_3), ((HB.out.cell (World.block_lt_of_cell? w _ hw160_4)).trans hw160_4), ((HB.out.cell (World.block_lt_of_cell? w _ hw160_5)).trans hw160_5)⟩ (fun hHeld => ?_)
                  clear hK K
                  refine norm_ (a' := ?_) ?_ ?_
                  rotate_left
                  · show Act.put _ (some 24) _ = _
                    simp only [Act.put, List.setIfInBounds_toArray, List.set_cons_zero, List.set_cons_succ, i64_w, i32_w]
                    rfl
                  refine pure_ (i := 9) (N := some 25) (v := ?_) (a' := ?_) #[true, true, true, true, true, true, true, true, true, true] rfl rfl (any_of HT_.out (by kernel_rfl)) (fun _ _ _ h => h) (Or.inl ⟨by rfl, ?_⟩) ?_ ?_
                  rotate_left
                  · intro w'
                    go_simp
                    with_reducible rfl
                  rotate_left
                  · simp only [Act.put, List.setIfInBounds_toArray, List.set_cons_zero, List.set_cons_succ, i64_w, i32_w]
                    rfl
                  refine done_ (done_of HT_.out (by kernel_rfl)) ?_
                  try go_wp2
                  go_ret
                  exact ⟨by first | rfl | (simp [errW_none, errW_some] <;> rfl) | (simp [*, errW_none, errW_some] <;> rfl), by repeat (first | (with_reducible first | exact HB.out | apply below_alloc | apply pw_below_drewN | apply below_drew1) | exact HB.out)⟩
              · rw [if_neg c7] at H
                exact absurd H (by simp)
            · rw [if_neg c6] at H
              exact absurd H (by simp)
          · rw [if_neg c5] at H
            exact absurd H (by simp)
        · rw [if_neg c4] at H
          have c4b0 : decide (x13_1 < (l0.length : Int)) = false := decide_eq_false c4
          clear c4
          obtain rfl := Option.some.inj H
          go_wp2
          go_ret
          exact ⟨by first | rfl | (simp [errW_none, errW_some] <;> rfl) | (simp [*, errW_none, errW_some] <;> rfl), by repeat (first | (with_reducible first | exact HB.out | apply below_alloc | apply pw_below_drewN | apply below_drew1) | exact HB.out)⟩
  · rw [if_neg c3] at H
    have c3b0 : ((l0.length : Int) == (l1.length : Int)) = false := beq_eq_false_iff_ne.mpr c3
    have c3b1 : ((l0.length : Int) != (l1.length : Int)) = true := bne_iff_ne.mpr c3
    have c3b2 : (l0.length == l1.length) = false := by first | simpa using c3 | (simp at c3 ⊢; omega)
    obtain rfl := Option.some.inj H
    go_enter Tryd.func27, Tryd.ntmps27
    go_wp2
    go_ret
    exact ⟨by first | rfl | (simp [errW_none, errW_some] <;> rfl) | (simp [*, errW_none, errW_some] <;> rfl), by repeat (first | (with_reducible first | exact HB.out | apply below_alloc | apply pw_below_drewN | apply below_drew1) | exact HB.out)⟩
def cleromancylaw44_small.l0 : Nat → List (S63) → List (S63) → Int → Int → Option (Bool)
  | 0, _, _, _, _ => none
  | k + 1, x0, x5, x6, x7 => if x7 < x6 then (if 0 ≤ x7 then (if x7 < (x5.length : Int) then (if (((rd_T63 x5 x7).f5).length : Int) > 200 then (some false) else (cleromancylaw44_small.l0 k x0 x5 x6 (wrap64 (x7 + 1)))) else (none)) else (none)) else (some (decide ((x0.length : Int) ≤ 40)))
def cleromancylaw44_small.f (k : Nat) (l0 : List (S63)) : Option (Bool) := cleromancylaw44_small.l0 k l0 l0 (l0.length : Int) 0
set_option maxHeartbeats 8000000 in
set_option maxRecDepth 100000 in
theorem cleromancylaw44_small.calls (k : Nat) (A0 : Option Addr) (c0 : Nat) (l0 : List (S63)) (r : Bool) (w : World) (hr0 : Kd.C k63 w A0 l0.length l0) (hc0 : l0.length ≤ c0) (h : cleromancylaw44_small.f k l0 = some r) :
    Calls Tryd.prog 35 #[.slice A0 l0.length c0] w fun e w' => e = .returned (.bool r) ∧ Below w.heap.size w w' := by
  have hu63 := Tryd.underlying63
  have HR0 := Aside0.mk hr0
  have HC0 := Aside0.mk hc0
  clear hr0 hc0
  have HB := Aside0.mk (Below.refl w.heap.size w)
  have H : (cleromancylaw44_small.l0 k l0 l0 (l0.length : Int) 0) = some r := h
  clear h
  have H' := Aside0.mk H
  clear H
  go_enter Tryd.func35, Tryd.ntmps35
  go_wp2
  go_loopg [7] k (fun kq v7 w' => ∃ (x7_1 : Int), v7 = .int .i64 x7_1 ∧ Aside0 (cleromancylaw44_small.l0 kq l0 l0 (l0.length : Int) x7_1 = some r) ∧ Aside0 (kq ≤ k) ∧ Aside0 (Below w.heap.size w w'))
  case atStart => exact ⟨(0), (by first | rfl | (simp; done) | (simp [*]; done)), H', ⟨Nat.le_refl _⟩, ⟨by repeat (first | (with_reducible first | exact HB.out | apply below_alloc | apply pw_below_drewN | apply below_drew1) | exact HB.out)⟩⟩
  case round =>
    clear H'
    obtain ⟨x7_1, rfl, HA, HK1, HB⟩ := hrel
    cases gk with
    | zero => exact absurd HA.out (by simp [cleromancylaw44_small.l0])
    | succ k1 =>
      have H := HA.out
      clear HA
      simp only [cleromancylaw44_small.l0] at H
      by_cases c2 : x7_1 < (l0.length : Int)
      · rw [if_pos c2] at H
        have c2b0 : decide (x7_1 < (l0.length : Int)) = true := decide_eq_true c2
        clear c2
        by_cases c3 : 0 ≤ x7_1
        · rw [if_pos c3] at H
          have c3b0 : decide (0 ≤ x7_1) = true := decide_eq_true c3
          clear c3
          by_cases c4 : x7_1 < (l0.length : Int)
          · rw [if_pos c4] at H
            have c4b0 : decide (x7_1 < (l0.length : Int)) = true := decide_eq_true c4
            clear c4
            by_cases c5 : (((rd_T63 l0 x7_1).f5).length : Int) > 200
            · rw [if_pos c5] at H
              have c5b0 : decide (200 < (((rd_T63 l0 x7_1).f5).length : Int)) = true := decide_eq_true c5
              have c5b1 : decide (200 < ((rd_T63 l0 x7_1).f5).length) = true := decide_eq_true (by omega)
              clear c5
              obtain rfl := Option.some.inj H
              have p173 : 0 ≤ (x7_1 : Int) := of_decide_eq_true (by first | (with_reducible assumption) | assumption)
              have q173 : x7_1 < (l0.length : Int) := of_decide_eq_true (by first | (with_reducible assumption) | assumption)
              obtain ⟨ad173, A173_5, c173_5, e173, hx173_0, hx173_1, hx173_2, hx173_3, hx173_4, hx173_5, hl173_5, hi173_5⟩ := at_T63 HR0.out x7_1 p173 q173
              cases e173
              replace hx173_0 := (HB.out.cell (World.block_lt_of_cell? w _ hx173_0)).trans hx173_0
              replace hx173_1 := (HB.out.cell (World.block_lt_of_cell? w _ hx173_1)).trans hx173_1
              replace hx173_2 := (HB.out.cell (World.block_lt_of_cell? w _ hx173_2)).trans hx173_2
              replace hx173_3 := (HB.out.cell (World.block_lt_of_cell? w _ hx173_3)).trans hx173_3
              replace hx173_4 := (HB.out.cell (World.block_lt_of_cell? w _ hx173_4)).trans hx173_4
              replace hx173_5 := (HB.out.cell (World.block_lt_of_cell? w _ hx173_5)).trans hx173_5
              have HR173_5 := Aside0.mk hi173_5
              have HC173_5 := Aside0.mk hl173_5
              clear hi173_5 hl173_5
              replace p173 := eq_true p173
              replace q173 := eq_true q173
              go_wp2_with (first | ((with_reducible refine gate_dst (N := 4) rfl ?_); refine box_event ?hg (N := 4) ?hd (cs := #[.int .i64 0, .int .i64 0, .int .i64 0, .int .i64 0, .int .i64 0, .slice none 0 0]) (t := 63) ?hr ?_; (case hd => rfl); (case hg => rfl); (case hr => first | (go_simp; done) | (go_simp; rfl)); intro gb174 hg w6 hbox hb; have n0_ := Aside0.mk (below_step (by repeat (first | (with_reducible first | exact HB.out | apply below_alloc | apply pw_below_drewN | apply below_drew1) | exact HB.out)) hb); have n1_ := Aside0.mk (hbox); have n2_ := Aside0.mk ((by rw [hg]; exact (below_size (by repeat (first | (with_reducible first | exact HB.out | apply below_alloc | apply pw_below_drewN | apply below_drew1) | exact HB.out))) : w.heap.size ≤ gb174)); have n3_ := Aside0.mk ((by rw [hg]; exact (below_size (by repeat (first | (with_reducible first | exact HB.out | apply below_alloc | apply pw_below_drewN | apply below_drew1) | exact HB.out))) : w.heap.size ≤ gb174)); clear HB; have HB := n0_; have BK174 := n1_; have GW174 := n2_; have GE174 := n3_; clear n0_ n1_ n2_ n3_; clear hb hbox hg; have hcz7_0 : w6.cell? ⟨gb174, 0, none⟩ = some (.int .i64 0) := (blk_cell BK174.out 0).trans rfl; have hcz7_1 : w6.cell? ⟨gb174, 1, none⟩ = some (.int .i64 0) := (blk_cell BK174.out 1).trans rfl; have hcz7_2 : w6.cell? ⟨gb174, 2, none⟩ = some (.int .i64 0) := (blk_cell BK174.out 2).trans rfl; have hcz7_3 : w6.cell? ⟨gb174, 3, none⟩ = some (.int .i64 0) := (blk_cell BK174.out 3).trans rfl; have hcz7_4 : w6.cell? ⟨gb174, 4, none⟩ = some (.int .i64 0) := (blk_cell BK174.out 4).trans rfl; have hcz7_5 : w6.cell? ⟨gb174, 5, none⟩ = some (.slice none 0 0) := (blk_cell BK174.out 5).trans rfl; have hfz7_0 := blk_frozen BK174.out 0; have hfz7_1 := blk_frozen BK174.out 1; have hfz7_2 := blk_frozen BK174.out 2; have hfz7_3 := blk_frozen BK174.out 3; have hfz7_4 := blk_frozen BK174.out 4; have hfz7_5 := blk_frozen BK174.out 5))
              go_ret
              exact ⟨by first | rfl | (simp [errW_none, errW_some] <;> rfl) | (simp [*, errW_none, errW_some] <;> rfl), by repeat (first | (with_reducible first | exact HB.out | apply below_alloc | apply pw_below_drewN | apply below_drew1 | refine below_set ?_ GE174.out) | exact HB.out)⟩
            · rw [if_neg c5] at H
              have c5b0 : decide (200 < (((rd_T63 l0 x7_1).f5).length : Int)) = false := decide_eq_false c5
              have c5b1 : decide (200 < ((rd_T63 l0 x7_1).f5).length) = false := decide_eq_false (by omega)
              clear c5
              have H' := Aside0.mk H
              clear H
              have p173 : 0 ≤ (x7_1 : Int) := of_decide_eq_true (by first | (with_reducible assumption) | assumption)
              have q173 : x7_1 < (l0.length : Int) := of_decide_eq_true (by first | (with_reducible assumption) | assumption)
              obtain ⟨ad173, A173_5, c173_5, e173, hx173_0, hx173_1, hx173_2, hx173_3, hx173_4, hx173_5, hl173_5, hi173_5⟩ := at_T63 HR0.out x7_1 p173 q173
              cases e173
              replace hx173_0 := (HB.out.cell (World.block_lt_of_cell? w _ hx173_0)).trans hx173_0
              replace hx173_1 := (HB.out.cell (World.block_lt_of_cell? w _ hx173_1)).trans hx173_1
              replace hx173_2 := (HB.out.cell (World.block_lt_of_cell? w _ hx173_2)).trans hx173_2
              replace hx173_3 := (HB.out.cell (World.block_lt_of_cell? w _ hx173_3)).trans hx173_3
              replace hx173_4 := (HB.out.cell (World.block_lt_of_cell? w _ hx173_4)).trans hx173_4
              replace hx173_5 := (HB.out.cell (World.block_lt_of_cell? w _ hx173_5)).trans hx173_5
              have HR173_5 := Aside0.mk hi173_5
              have HC173_5 := Aside0.mk hl173_5
              clear hi173_5 hl173_5
              replace p173 := eq_true p173
              replace q173 := eq_true q173
              go_wp2_with (first | ((with_reducible refine gate_dst (N := 4) rfl ?_); refine box_event ?hg (N := 4) ?hd (cs := #[.int .i64 0, .int .i64 0, .int .i64 0, .int .i64 0, .int .i64 0, .slice none 0 0]) (t := 63) ?hr ?_; (case hd => rfl); (case hg => rfl); (case hr => first | (go_simp; done) | (go_simp; rfl)); intro gb174 hg w8 hbox hb; have n0_ := Aside0.mk (below_step (by repeat (first | (with_reducible first | exact HB.out | apply below_alloc | apply pw_below_drewN | apply below_drew1) | exact HB.out)) hb); have n1_ := Aside0.mk (hbox); have n2_ := Aside0.mk ((by rw [hg]; exact (below_size (by repeat (first | (with_reducible first | exact HB.out | apply below_alloc | apply pw_below_drewN | apply below_drew1) | exact HB.out))) : w.heap.size ≤ gb174)); have n3_ := Aside0.mk ((by rw [hg]; exact (below_size (by repeat (first | (with_reducible first | exact HB.out | apply below_alloc | apply pw_below_drewN | apply below_drew1) | exact HB.out))) : w.heap.size ≤ gb174)); clear HB; have HB := n0_; have BK174 := n1_; have GW174 := n2_; have GE174 := n3_; clear n0_ n1_ n2_ n3_; clear hb hbox hg; have hcz9_0 : w8.cell? ⟨gb174, 0, none⟩ = some (.int .i64 0) := (blk_cell BK174.out 0).trans rfl; have hcz9_1 : w8.cell? ⟨gb174, 1, none⟩ = some (.int .i64 0) := (blk_cell BK174.out 1).trans rfl; have hcz9_2 : w8.cell? ⟨gb174, 2, none⟩ = some (.int .i64 0) := (blk_cell BK174.out 2).trans rfl; have hcz9_3 : w8.cell? ⟨gb174, 3, none⟩ = some (.int .i64 0) := (blk_cell BK174.out 3).trans rfl; have hcz9_4 : w8.cell? ⟨gb174, 4, none⟩ = some (.int .i64 0) := (blk_cell BK174.out 4).trans rfl; have hcz9_5 : w8.cell? ⟨gb174, 5, none⟩ = some (.slice none 0 0) := (blk_cell BK174.out 5).trans rfl; have hfz9_0 := blk_frozen BK174.out 0; have hfz9_1 := blk_frozen BK174.out 1; have hfz9_2 := blk_frozen BK174.out 2; have hfz9_3 := blk_frozen BK174.out 3; have hfz9_4 := blk_frozen BK174.out 4; have hfz9_5 := blk_frozen BK174.out 5))
              go_roundg k1
              case measure => have := HK1.out; omega
              case rel => exact ⟨(wrap64 (x7_1 + 1)), (by first | rfl | (simp; done) | (simp [*]; done)), H', ⟨by have := HK1.out; omega⟩, ⟨by repeat (first | (with_reducible first | exact HB.out | apply below_alloc | apply pw_below_drewN | apply below_drew1 | refine below_set ?_ GE174.out) | exact HB.out)⟩⟩
          · rw [if_neg c4] at H
            exact absurd H (by simp)
        · rw [if_neg c3] at H
          exact absurd H (by simp)
      · rw [if_neg c2] at H
        have c2b0 : decide (x7_1 < (l0.length : Int)) = false := decide_eq_false c2
        clear c2
        obtain rfl := Option.some.inj H
        go_wp2
        go_ret
        exact ⟨by first | rfl | (simp [errW_none, errW_some] <;> rfl) | (simp [*, errW_none, errW_some] <;> rfl), by repeat (first | (with_reducible first | exact HB.out | apply below_alloc | apply pw_below_drewN | apply below_drew1) | exact HB.out)⟩
end Go.Proofs.YtpeebjnfmlfocaaDoor.Tp
