/- TalePrints: for all deeds the law returns true and leaves them as they were; the tables are tied to the program's text. No condition. -/
import Derived.Test.YtpeebjnfmlfocaaDoorZQ10
import Derived.Test.YtpeebjnfmlfocaaDoorZQ03
import Derived.Test.YtpeebjnfmlfocaaDoorZQ09
import Derived.Test.YtpeebjnfmlfocaaDoorZQ08
import Derived.Test.YtpeebjnfmlfocaaDoorRows
import Derived.WalkKit
import Derived.ProofKit
import Derived.OpenShut
import Derived.ShutString
import Derived.ChangeOld
import Derived.Below
import Derived.LaidMore
import Derived.Lay
import Derived.SizedLaws
import Derived.Lib.LaidTab
import Derived.Deep.Slices
import Derived.Stop.Joined
import Derived.Test.YtpeebjnfmlfocaaDoorCards
import Derived.Test.YtpeebjnfmlfocaaDoorTie
import Derived.SevenTiedAt
namespace Go.Proofs.YtpeebjnfmlfocaaDoor.TpP
open Go.RowKit Go.Proofs.YtpeebjnfmlfocaaDoorW.PrintWords Go.Proofs.YtpeebjnfmlfocaaDoorW.PrintLast Go.Proofs.YtpeebjnfmlfocaaDoorW.PrintMore Go.Proofs.YtpeebjnfmlfocaaDoor.Tp Go.Proofs.YtpeebjnfmlfocaaDoor.TpR
set_option linter.unusedVariables false
def linesP : List UInt8 → List UInt8 → List (List UInt8)
  | [], cur => [cur]
  | c :: cs, cur => if c = 10 then cur :: linesP cs [] else linesP cs (cur ++ [c])
theorem linesP_len : ∀ (cs cur : List UInt8), (linesP cs cur).length ≤ cs.length + 1
  | [], cur => by simp [linesP]
  | c :: cs, cur => by
    rw [linesP]
    split
    · have := linesP_len cs []; simp; omega
    · have := linesP_len cs (cur ++ [c]); simp; omega
theorem linesP_each : ∀ (cs cur : List UInt8), ∀ x ∈ linesP cs cur, x.length ≤ cs.length + cur.length
  | [], cur, x, h => by rw [linesP, List.mem_singleton] at h; subst h; simp
  | c :: cs, cur, x, h => by
    rw [linesP] at h
    split at h
    · rcases List.mem_cons.1 h with rfl | h
      · simp
      · have := linesP_each cs [] x h; simp at this ⊢; omega
    · have := linesP_each cs _ x h; simp at this ⊢; omega
def pre (cur : List UInt8) : List (List UInt8) → List (List UInt8)
  | [] => [cur]
  | h :: t => (cur ++ h) :: t
theorem index_self (l : List UInt8) : Lib.index (10 :: l) [10] = 0 := by rw [Lib.index_one]; rfl
theorem index_other (b : UInt8) (l : List UInt8) (h : b ≠ 10) : Lib.index (b :: l) [10] = if Lib.index l [10] == -1 then -1 else Lib.index l [10] + 1 := by
  rw [Lib.index_one, Lib.index_one, Lib.indexByte, if_neg (by simpa using h)]
theorem index_none (l : List UInt8) (h : 0 < l.count 10) : ∃ i : Nat, Lib.index l [10] = (i : Int) := by
  have h1 := Lib.index_ge l [10]
  by_cases h2 : Lib.index l [10] = -1
  · rw [Lib.index_one] at h2
    have h3 := Lib.indexByte_none h2
    have h4 : 10 ∈ l := List.count_pos_iff.1 h
    obtain ⟨k, hk, he⟩ := List.getElem_of_mem h4
    exact absurd (by rw [List.getElem?_eq_getElem hk, he]) (h3 k)
  · exact ⟨(Lib.index l [10]).toNat, by omega⟩
theorem splitK_pos (k : Nat) (l : List UInt8) (i : Nat) (h : Lib.index l [10] = (i : Int)) : Lib.splitK [10] 0 (k + 1) l = l.take i :: Lib.splitK [10] 0 k (l.drop (i + 1)) := by
  have hm : ¬ (Lib.index l [10] == -1) = true := fun e => by have := beq_iff_eq.1 e; omega
  rw [Lib.splitK, if_neg hm, h]
  rfl
theorem split_lines : ∀ (l cur : List UInt8), linesP l cur = pre cur (Lib.splitK [10] 0 (l.count 10) l)
  | [], cur => by simp [linesP, Lib.splitK, pre]
  | b :: l, cur => by
    rw [linesP]
    by_cases hb : b = 10
    · subst hb
      rw [if_pos rfl, List.count_cons_self, splitK_pos _ _ 0 (index_self l), pre, split_lines l []]
      have hne : Lib.splitK [10] 0 (l.count 10) l ≠ [] := by
        cases l.count 10 with
        | zero => simp [Lib.splitK]
        | succ k => rw [Lib.splitK]; split <;> simp
      cases hs : Lib.splitK [10] 0 (l.count 10) l with
      | nil => exact absurd hs hne
      | cons a t => simp [pre, hs]
    · rw [if_neg hb, split_lines l (cur ++ [b]), List.count_cons_of_ne (by simpa using hb)]
      cases hk : l.count 10 with
      | zero => simp [Lib.splitK, pre]
      | succ k =>
        obtain ⟨i, hi⟩ := index_none l (by omega)
        have hi2 : Lib.index (b :: l) [10] = ((i + 1 : Nat) : Int) := by
          rw [index_other b l hb, if_neg (fun e => by have := beq_iff_eq.1 e; omega), hi]
          rfl
        rw [splitK_pos k l i hi, splitK_pos k (b :: l) (i + 1) hi2]
        simp [pre]
theorem split_eq (s : ByteArray) (hs : s.size ≤ 2097152) : strings_Split.f s ⟨#[10]⟩ = some ((linesP s.data.toList []).map mk) := by
  unfold strings_Split.f
  rw [if_pos ⟨rfl, hs⟩]
  congr 1
  have h := Lib.splitB_data ⟨#[10]⟩ 0 (Lib.countB s ⟨#[10]⟩) s
  have hc : Lib.countB s ⟨#[10]⟩ = s.data.toList.count 10 := by
    show Lib.count s.data.toList [10] = _
    rw [Lib.count_one]
  have hl := split_lines s.data.toList []
  have e : pre [] (Lib.splitK [10] 0 (s.data.toList.count 10) s.data.toList) = Lib.splitK [10] 0 (s.data.toList.count 10) s.data.toList := by
    cases hs : Lib.splitK [10] 0 (s.data.toList.count 10) s.data.toList with
    | nil => 
      exfalso
      cases hk : s.data.toList.count 10 with
      | zero => rw [hk] at hs; simp [Lib.splitK] at hs
      | succ k => rw [hk, Lib.splitK] at hs; split at hs <;> simp at hs
    | cons a t => rfl
  rw [hl, e, ← hc]
  have h2 : Lib.splitK [10] 0 (Lib.countB s ⟨#[10]⟩) s.data.toList = (Lib.splitB ⟨#[10]⟩ 0 (Lib.countB s ⟨#[10]⟩) s).map (·.data.toList) := h.symm
  rw [h2, List.map_map]
  exact (List.map_id _).symm
def wl (line : List UInt8) : List ByteArray := (wds line []).map mk
def dT (R : Res) : S63 := ⟨R.1, R.2.1 1, R.2.1 2, R.2.1 3, R.2.1 4, R.2.2.1⟩
def goT : List (List UInt8) → Nat → List S63 → List S63 × Int × Int
  | [], _, out => (out, 0, 0)
  | ln :: ls, i, out => if wl ln = [] then goT ls (i + 1) out else if (readF numT hexT (wl ln)).2.2.2 = true then goT ls (i + 1) (out ++ [dT (readF numT hexT (wl ln))]) else ([], ((i + 1 : Nat) : Int), 2)
theorem wl_sizes (ln : List UInt8) (h : ln.length ≤ 100000) : ∀ x ∈ wl ln, x.size ≤ 100000 := by
  intro x hx
  obtain ⟨y, hy, rfl⟩ := List.mem_map.1 hx
  have := wds_len ln [] y hy
  rw [mk_size]
  simp at this
  omega
theorem tread_eq (ln : List UInt8) (h : ln.length ≤ 100000) (hne : wl ln ≠ []) : tale_read.f (wl ln) = some (tup (readF numT hexT (wl ln))) := by
  unfold tale_read.f
  rw [if_pos ⟨List.length_pos_iff.2 hne, wl_sizes ln h⟩]
theorem wl_len0 (ln : List UInt8) : ((wl ln).length : Int) = 0 ↔ wl ln = [] := by
  rw [← List.length_eq_zero_iff]
  omega
theorem tParse_l0 (L : List (List UInt8)) (hL : L.length ≤ 100000) (hL2 : ∀ x ∈ L, x.length ≤ 3000) (d : Nat) : ∀ (k i : Nat) (out : List S63), i + d = L.length → d + 20000 < k → out.length ≤ i →
    tale_Parse.l0 k out (L.map mk) (L.length : Int) (i : Int) = some (goT (L.drop i) i out) := by
  induction d with
  | zero =>
    intro k i out hi hk ho
    obtain ⟨k, rfl⟩ : ∃ m, k = m + 1 := ⟨k - 1, by omega⟩
    simp only [tale_Parse.l0]
    rw [if_neg (by omega), List.drop_of_length_le (by omega)]
    rfl
  | succ d ih =>
    intro k i out hi hk ho
    obtain ⟨k, rfl⟩ : ∃ m, k = m + 1 := ⟨k - 1, by omega⟩
    have hil : i < L.length := by omega
    have hw : wrap64 ((i : Int) + 1) = ((i + 1 : Nat) : Int) := by rw [IntWalk.wrap64_in _ (by omega)]; omega
    have hx := hL2 (L[i]'hil) (List.getElem_mem _)
    have hr : rdOf ByteArray.empty (L.map mk) (i : Int) = mk (L[i]'hil) := by
      unfold rdOf
      rw [Int.toNat_natCast, List.getD_eq_getElem?_getD, List.getElem?_eq_getElem (by simpa using hil), List.getElem_map]
      rfl
    have hwd : tale_words.f k (mk (L[i]'hil)) = some (wl (L[i]'hil)) := words_eq (mk (L[i]'hil)) (by rw [mk_size]; omega) k (by rw [mk_size]; omega)
    rw [List.drop_eq_getElem_cons hil, goT]
    simp only [tale_Parse.l0]
    rw [if_pos (by omega), if_pos (by omega), if_pos (by simp; omega), hr, hwd, Option.bind_some, hw]
    by_cases h : wl (L[i]'hil) = []
    · rw [if_pos ((wl_len0 _).2 h), if_pos h]
      exact ih k (i + 1) out (by omega) (by omega) (by omega)
    · rw [if_neg (fun h2 => h ((wl_len0 _).1 h2)), if_neg h, tread_eq _ (by omega) h, Option.bind_some]
      show (if (readF numT hexT (wl (L[i]'hil))).2.2.2 = true then _ else _) = _
      by_cases hok : (readF numT hexT (wl (L[i]'hil))).2.2.2 = true
      · rw [if_pos hok, if_pos hok, if_pos (by omega)]
        exact ih k (i + 1) (out ++ [dT (readF numT hexT (wl (L[i]'hil)))]) (by omega) (by omega) (by simp; omega)
      · rw [if_neg hok, if_neg hok]
theorem tParse_eq (s : ByteArray) (hs : s.size ≤ 3000) (k : Nat) (hk : 30000 ≤ k) : tale_Parse.f k s = some (goT (linesP s.data.toList []) 0 []) := by
  have hl : s.data.toList.length = s.size := by simp
  have h1 := linesP_len s.data.toList []
  have := tParse_l0 (linesP s.data.toList []) (by omega) (fun x hx => by have := linesP_each _ _ x hx; simp at this; omega) (linesP s.data.toList []).length k 0 [] (by omega) (by omega) (by simp)
  unfold tale_Parse.f
  rw [if_neg (by omega), split_eq s (by omega), Option.bind_some, List.length_map]
  exact this
end Go.Proofs.YtpeebjnfmlfocaaDoor.TpP
namespace Go.Proofs.YtpeebjnfmlfocaaDoor.Tp
open Go.RowKit Go.Proofs.YtpeebjnfmlfocaaDoorW.PrintWords Go.Proofs.YtpeebjnfmlfocaaDoorW.PrintLast Go.Proofs.YtpeebjnfmlfocaaDoorW.PrintMore
attribute [local go_sem] max2_int min2_int max_two min_two max_three min_three max_four min_four   -- for this text's walks alone
set_option linter.unusedVariables false
set_option linter.unusedSimpArgs false
def cleromancylaw44_small.l0 : Nat → List (S63) → List (S63) → Int → Int → Option (Bool)
  | 0, _, _, _, _ => none
  | k + 1, x0, x5, x6, x7 => if x7 < x6 then (if 0 ≤ x7 then (if x7 < (x5.length : Int) then (if (((rd_T63 x5 x7).f5).length : Int) > 200 then (some false) else (cleromancylaw44_small.l0 k x0 x5 x6 (wrap64 (x7 + 1)))) else (none)) else (none)) else (some (decide ((x0.length : Int) ≤ 40)))
def cleromancylaw44_small.f (k : Nat) (l0 : List (S63)) : Option (Bool) := cleromancylaw44_small.l0 k l0 l0 (l0.length : Int) 0
set_option maxHeartbeats 8000000 in
set_option maxRecDepth 100000 in
theorem cleromancylaw44_small.calls (k : Nat) (A0 : Option Addr) (c0 : Nat) (l0 : List (S63)) (r : Bool) (w : World) (hr0 : Kd.C k63 w A0 l0.length l0) (hc0 : l0.length ≤ c0) (h : cleromancylaw44_small.f k l0 = some r) :
    Calls Tryd.prog 35 #[.slice A0 l0.length c0] w fun e w' => e = .returned (.bool r) ∧ Below w.heap.size w w' := by
  have hu63 := Tryd.underlying63
  have HR0 := Aside0.mk hr0
  have HC0 := Aside0.mk hc0
  clear hr0 hc0
  have HB := Aside0.mk (Below.refl w.heap.size w)
  have H : (cleromancylaw44_small.l0 k l0 l0 (l0.length : Int) 0) = some r := h
  clear h
  have H' := Aside0.mk H
  clear H
  go_enter Tryd.func35, Tryd.ntmps35
  go_wp2
  go_loopg [7] k (fun kq v7 w' => ∃ (x7_1 : Int), v7 = .int .i64 x7_1 ∧ Aside0 (cleromancylaw44_small.l0 kq l0 l0 (l0.length : Int) x7_1 = some r) ∧ Aside0 (kq ≤ k) ∧ Aside0 (Below w.heap.size w w'))
  case atStart => exact ⟨(0), (by first | rfl | (simp; done) | (simp [*]; done)), H', ⟨Nat.le_refl _⟩, ⟨by repeat (first | (with_reducible first | exact HB.out | apply below_alloc | apply pw_below_drewN | apply below_drew1) | exact HB.out)⟩⟩
  case round =>
    clear H'
    obtain ⟨x7_1, rfl, HA, HK1, HB⟩ := hrel
    cases gk with
    | zero => exact absurd HA.out (by simp [cleromancylaw44_small.l0])
    | succ k1 =>
      have H := HA.out
      clear HA
      simp only [cleromancylaw44_small.l0] at H
      by_cases c2 : x7_1 < (l0.length : Int)
      · rw [if_pos c2] at H
        have c2b0 : decide (x7_1 < (l0.length : Int)) = true := decide_eq_true c2
        clear c2
        by_cases c3 : 0 ≤ x7_1
        · rw [if_pos c3] at H
          have c3b0 : decide (0 ≤ x7_1) = true := decide_eq_true c3
          clear c3
          by_cases c4 : x7_1 < (l0.length : Int)
          · rw [if_pos c4] at H
            have c4b0 : decide (x7_1 < (l0.length : Int)) = true := decide_eq_true c4
            clear c4
            by_cases c5 : (((rd_T63 l0 x7_1).f5).length : Int) > 200
            · rw [if_pos c5] at H
              have c5b0 : decide (200 < (((rd_T63 l0 x7_1).f5).length : Int)) = true := decide_eq_true c5
              have c5b1 : decide (200 < ((rd_T63 l0 x7_1).f5).length) = true := decide_eq_true (by omega)
              clear c5
              obtain rfl := Option.some.inj H
              have p173 : 0 ≤ (x7_1 : Int) := of_decide_eq_true (by first | (with_reducible assumption) | assumption)
              have q173 : x7_1 < (l0.length : Int) := of_decide_eq_true (by first | (with_reducible assumption) | assumption)
              obtain ⟨ad173, A173_5, c173_5, e173, hx173_0, hx173_1, hx173_2, hx173_3, hx173_4, hx173_5, hl173_5, hi173_5⟩ := at_T63 HR0.out x7_1 p173 q173
              cases e173
              replace hx173_0 := (HB.out.cell (World.block_lt_of_cell? w _ hx173_0)).trans hx173_0
              replace hx173_1 := (HB.out.cell (World.block_lt_of_cell? w _ hx173_1)).trans hx173_1
              replace hx173_2 := (HB.out.cell (World.block_lt_of_cell? w _ hx173_2)).trans hx173_2
              replace hx173_3 := (HB.out.cell (World.block_lt_of_cell? w _ hx173_3)).trans hx173_3
              replace hx173_4 := (HB.out.cell (World.block_lt_of_cell? w _ hx173_4)).trans hx173_4
              replace hx173_5 := (HB.out.cell (World.block_lt_of_cell? w _ hx173_5)).trans hx173_5
              have HR173_5 := Aside0.mk hi173_5
              have HC173_5 := Aside0.mk hl173_5
              clear hi173_5 hl173_5
              replace p173 := eq_true p173
              replace q173 := eq_true q173
              go_wp2_with (first | ((with_reducible refine gate_dst (N := 4) rfl ?_); refine box_event ?hg (N := 4) ?hd (cs := #[.int .i64 0, .int .i64 0, .int .i64 0, .int .i64 0, .int .i64 0, .slice none 0 0]) (t := 63) ?hr ?_; (case hd => rfl); (case hg => rfl); (case hr => first | (go_simp; done) | (go_simp; rfl)); intro gb174 hg w6 hbox hb; have n0_ := Aside0.mk (below_step (by repeat (first | (with_reducible first | exact HB.out | apply below_alloc | apply pw_below_drewN | apply below_drew1) | exact HB.out)) hb); have n1_ := Aside0.mk (hbox); have n2_ := Aside0.mk ((by rw [hg]; exact (below_size (by repeat (first | (with_reducible first | exact HB.out | apply below_alloc | apply pw_below_drewN | apply below_drew1) | exact HB.out))) : w.heap.size ≤ gb174)); have n3_ := Aside0.mk ((by rw [hg]; exact (below_size (by repeat (first | (with_reducible first | exact HB.out | apply below_alloc | apply pw_below_drewN | apply below_drew1) | exact HB.out))) : w.heap.size ≤ gb174)); clear HB; have HB := n0_; have BK174 := n1_; have GW174 := n2_; have GE174 := n3_; clear n0_ n1_ n2_ n3_; clear hb hbox hg; have hcz7_0 : w6.cell? ⟨gb174, 0, none⟩ = some (.int .i64 0) := (blk_cell BK174.out 0).trans rfl; have hcz7_1 : w6.cell? ⟨gb174, 1, none⟩ = some (.int .i64 0) := (blk_cell BK174.out 1).trans rfl; have hcz7_2 : w6.cell? ⟨gb174, 2, none⟩ = some (.int .i64 0) := (blk_cell BK174.out 2).trans rfl; have hcz7_3 : w6.cell? ⟨gb174, 3, none⟩ = some (.int .i64 0) := (blk_cell BK174.out 3).trans rfl; have hcz7_4 : w6.cell? ⟨gb174, 4, none⟩ = some (.int .i64 0) := (blk_cell BK174.out 4).trans rfl; have hcz7_5 : w6.cell? ⟨gb174, 5, none⟩ = some (.slice none 0 0) := (blk_cell BK174.out 5).trans rfl; have hfz7_0 := blk_frozen BK174.out 0; have hfz7_1 := blk_frozen BK174.out 1; have hfz7_2 := blk_frozen BK174.out 2; have hfz7_3 := blk_frozen BK174.out 3; have hfz7_4 := blk_frozen BK174.out 4; have hfz7_5 := blk_frozen BK174.out 5))
              go_ret
              exact ⟨by first | rfl | (simp [errW_none, errW_some] <;> rfl) | (simp [*, errW_none, errW_some] <;> rfl), by repeat (first | (with_reducible first | exact HB.out | apply below_alloc | apply pw_below_drewN | apply below_drew1 | refine below_set ?_ GE174.out) | exact HB.out)⟩
            · rw [if_neg c5] at H
              have c5b0 : decide (200 < (((rd_T63 l0 x7_1).f5).length : Int)) = false := decide_eq_false c5
              have c5b1 : decide (200 < ((rd_T63 l0 x7_1).f5).length) = false := decide_eq_false (by omega)
              clear c5
              have H' := Aside0.mk H
              clear H
              have p173 : 0 ≤ (x7_1 : Int) := of_decide_eq_true (by first | (with_reducible assumption) | assumption)
              have q173 : x7_1 < (l0.length : Int) := of_decide_eq_true (by first | (with_reducible assumption) | assumption)
              obtain ⟨ad173, A173_5, c173_5, e173, hx173_0, hx173_1, hx173_2, hx173_3, hx173_4, hx173_5, hl173_5, hi173_5⟩ := at_T63 HR0.out x7_1 p173 q173
              cases e173
              replace hx173_0 := (HB.out.cell (World.block_lt_of_cell? w _ hx173_0)).trans hx173_0
              replace hx173_1 := (HB.out.cell (World.block_lt_of_cell? w _ hx173_1)).trans hx173_1
              replace hx173_2 := (HB.out.cell (World.block_lt_of_cell? w _ hx173_2)).trans hx173_2
              replace hx173_3 := (HB.out.cell (World.block_lt_of_cell? w _ hx173_3)).trans hx173_3
              replace hx173_4 := (HB.out.cell (World.block_lt_of_cell? w _ hx173_4)).trans hx173_4
              replace hx173_5 := (HB.out.cell (World.block_lt_of_cell? w _ hx173_5)).trans hx173_5
              have HR173_5 := Aside0.mk hi173_5
              have HC173_5 := Aside0.mk hl173_5
              clear hi173_5 hl173_5
              replace p173 := eq_true p173
              replace q173 := eq_true q173
              go_wp2_with (first | ((with_reducible refine gate_dst (N := 4) rfl ?_); refine box_event ?hg (N := 4) ?hd (cs := #[.int .i64 0, .int .i64 0, .int .i64 0, .int .i64 0, .int .i64 0, .slice none 0 0]) (t := 63) ?hr ?_; (case hd => rfl); (case hg => rfl); (case hr => first | (go_simp; done) | (go_simp; rfl)); intro gb174 hg w8 hbox hb; have n0_ := Aside0.mk (below_step (by repeat (first | (with_reducible first | exact HB.out | apply below_alloc | apply pw_below_drewN | apply below_drew1) | exact HB.out)) hb); have n1_ := Aside0.mk (hbox); have n2_ := Aside0.mk ((by rw [hg]; exact (below_size (by repeat (first | (with_reducible first | exact HB.out | apply below_alloc | apply pw_below_drewN | apply below_drew1) | exact HB.out))) : w.heap.size ≤ gb174)); have n3_ := Aside0.mk ((by rw [hg]; exact (below_size (by repeat (first | (with_reducible first | exact HB.out | apply below_alloc | apply pw_below_drewN | apply below_drew1) | exact HB.out))) : w.heap.size ≤ gb174)); clear HB; have HB := n0_; have BK174 := n1_; have GW174 := n2_; have GE174 := n3_; clear n0_ n1_ n2_ n3_; clear hb hbox hg; have hcz9_0 : w8.cell? ⟨gb174, 0, none⟩ = some (.int .i64 0) := (blk_cell BK174.out 0).trans rfl; have hcz9_1 : w8.cell? ⟨gb174, 1, none⟩ = some (.int .i64 0) := (blk_cell BK174.out 1).trans rfl; have hcz9_2 : w8.cell? ⟨gb174, 2, none⟩ = some (.int .i64 0) := (blk_cell BK174.out 2).trans rfl; have hcz9_3 : w8.cell? ⟨gb174, 3, none⟩ = some (.int .i64 0) := (blk_cell BK174.out 3).trans rfl; have hcz9_4 : w8.cell? ⟨gb174, 4, none⟩ = some (.int .i64 0) := (blk_cell BK174.out 4).trans rfl; have hcz9_5 : w8.cell? ⟨gb174, 5, none⟩ = some (.slice none 0 0) := (blk_cell BK174.out 5).trans rfl; have hfz9_0 := blk_frozen BK174.out 0; have hfz9_1 := blk_frozen BK174.out 1; have hfz9_2 := blk_frozen BK174.out 2; have hfz9_3 := blk_frozen BK174.out 3; have hfz9_4 := blk_frozen BK174.out 4; have hfz9_5 := blk_frozen BK174.out 5))
              go_roundg k1
              case measure => have := HK1.out; omega
              case rel => exact ⟨(wrap64 (x7_1 + 1)), (by first | rfl | (simp; done) | (simp [*]; done)), H', ⟨by have := HK1.out; omega⟩, ⟨by repeat (first | (with_reducible first | exact HB.out | apply below_alloc | apply pw_below_drewN | apply below_drew1 | refine below_set ?_ GE174.out) | exact HB.out)⟩⟩
          · rw [if_neg c4] at H
            exact absurd H (by simp)
        · rw [if_neg c3] at H
          exact absurd H (by simp)
      · rw [if_neg c2] at H
        have c2b0 : decide (x7_1 < (l0.length : Int)) = false := decide_eq_false c2
        clear c2
        obtain rfl := Option.some.inj H
        go_wp2
        go_ret
        exact ⟨by first | rfl | (simp [errW_none, errW_some] <;> rfl) | (simp [*, errW_none, errW_some] <;> rfl), by repeat (first | (with_reducible first | exact HB.out | apply below_alloc | apply pw_below_drewN | apply below_drew1) | exact HB.out)⟩
end Go.Proofs.YtpeebjnfmlfocaaDoor.Tp
namespace Go.Proofs.YtpeebjnfmlfocaaDoor.TpP
open Go.RowKit Go.Proofs.YtpeebjnfmlfocaaDoorW.PrintWords Go.Proofs.YtpeebjnfmlfocaaDoorW.PrintLast Go.Proofs.YtpeebjnfmlfocaaDoorW.PrintMore Go.Proofs.YtpeebjnfmlfocaaDoor.Tp Go.Proofs.YtpeebjnfmlfocaaDoor.TpR Go.Proofs.YtpeebjnfmlfocaaDoor.Th
set_option linter.unusedVariables false
def awT : List UInt8 := [116, 105, 99, 107, 32, 48, 32, 53, 32, 35, 32, 102, 105, 118, 101, 32, 108, 97, 116, 101, 114]
theorem numO0 : numO (mk [48]) = some 0 := by unfold numO; rw [if_neg (by rw [mk_size]; simp)]; rfl
theorem numO5 : numO (mk [53]) = some 5 := by unfold numO; rw [if_neg (by rw [mk_size]; simp)]; rfl
theorem aw_lines : linesP awT [] = [awT] := by decide +kernel
theorem aw_words : wds awT [] = [[116, 105, 99, 107], [48], [53]] := by decide +kernel
theorem aw_read : readF numT hexT [mk [116, 105, 99, 107], mk [48], mk [53]] = (4, setF (setF zeroF 1 0) 3 5, [], true) := by
  unfold readF
  rw [List.getD_cons_zero, List.tail_cons, hit_eq, mk_toList, if_neg (by decide), if_neg (by decide), if_neg (by decide), if_pos rfl]
  unfold readAt
  rw [if_neg (by decide), show fN 3 = 2 from rfl, partsF, partsF, partsF]
  have e0 : [mk [48], mk [53]].getD 0 ByteArray.empty = mk [48] := rfl
  have e1 : [mk [48], mk [53]].getD (0 + 1) ByteArray.empty = mk [53] := rfl
  rw [e0, e1, numT_eq, numT_eq, numO0, numO5, if_pos (show (resT (some 0)).2 = true from rfl), if_pos (show (resT (some 5)).2 = true from rfl)]
  show doneF hexT 3 [mk [48], mk [53]] _ = _
  rw [doneF, if_neg (by decide)]
  rfl
theorem aw_go : goT [awT] 0 [] = ([⟨4, 0, 0, 5, 0, []⟩], 0, 0) := by
  have hw : wl awT = [mk [116, 105, 99, 107], mk [48], mk [53]] := by unfold wl; rw [aw_words]; rfl
  rw [goT, hw, if_neg (by simp), aw_read, if_pos rfl, goT]
  rfl
theorem awake_eq (k : Nat) (hk : 30000 ≤ k) : cleromancylaw44_awake.f k = some true := by
  have h := tParse_eq (mk awT) (by rw [mk_size]; decide) k hk
  rw [mk_list, aw_lines, aw_go] at h
  unfold cleromancylaw44_awake.f
  rw [show (⟨#[116, 105, 99, 107, 32, 48, 32, 53, 32, 35, 32, 102, 105, 118, 101, 32, 108, 97, 116, 101, 114]⟩ : ByteArray) = mk awT from rfl, h, Option.bind_some, if_pos rfl, if_pos rfl]
  simp [rd_T63]
end Go.Proofs.YtpeebjnfmlfocaaDoor.TpP
namespace Go.Proofs.YtpeebjnfmlfocaaDoor.Tp
open Go.RowKit Go.Proofs.YtpeebjnfmlfocaaDoorW.PrintWords Go.Proofs.YtpeebjnfmlfocaaDoorW.PrintLast Go.Proofs.YtpeebjnfmlfocaaDoorW.PrintMore
set_option linter.unusedVariables false
def smallB (l : List S63) : Bool := l.all (fun x => decide (x.f5.length ≤ 200)) && decide (l.length ≤ 40)
theorem small_l0 (l : List S63) (hl : l.length ≤ 9223372036854775807) (d : Nat) : ∀ (k i : Nat), i + d = l.length → d < k →
    cleromancylaw44_small.l0 k l l (l.length : Int) (i : Int) = some ((l.drop i).all (fun x => decide (x.f5.length ≤ 200)) && decide (l.length ≤ 40)) := by
  induction d with
  | zero =>
    intro k i hi hk
    obtain ⟨k, rfl⟩ : ∃ m, k = m + 1 := ⟨k - 1, by omega⟩
    rw [cleromancylaw44_small.l0, if_neg (by omega), List.drop_eq_nil_of_le (by omega)]
    simp only [List.all_nil, Bool.true_and, Option.some.injEq]
    exact decide_eq_decide.2 (by omega)
  | succ d ih =>
    intro k i hi hk
    obtain ⟨k, rfl⟩ : ∃ m, k = m + 1 := ⟨k - 1, by omega⟩
    have hw : wrap64 ((i : Int) + 1) = ((i + 1 : Nat) : Int) := by rw [IntWalk.wrap64_in _ (by omega)]; omega
    have hr : rd_T63 l (i : Int) = l[i]'(by omega) := by
      unfold rd_T63
      rw [Int.toNat_natCast, List.getD_eq_getElem?_getD, List.getElem?_eq_getElem (by omega)]
      rfl
    rw [cleromancylaw44_small.l0, if_pos (by omega), if_pos (by omega), if_pos (by omega), hr, List.drop_eq_getElem_cons (by omega), List.all_cons]
    by_cases h : l[i].f5.length ≤ 200
    · rw [if_neg (by omega), hw, ih k (i + 1) (by omega) (by omega)]
      simp [h]
    · rw [if_pos (by omega)]
      simp [h]
theorem small_f (l : List S63) (hl : l.length ≤ 9223372036854775807) : cleromancylaw44_small.f (l.length + 1) l = some (smallB l) :=
  small_l0 l hl l.length (l.length + 1) 0 (by omega) (by omega)
set_option maxHeartbeats 8000000 in
set_option maxRecDepth 100000 in
theorem prints_walk (A0 : Option Addr) (c0 : Nat) (l0 : List S63) (w : World) (hG : TpR.Tab w) (hr0 : Kd.C k63 w A0 l0.length l0) (hc0 : l0.length ≤ c0) (hy : ∀ x ∈ l0, ∀ y ∈ x.f5, 0 ≤ y ∧ y ≤ 255) (hlen : l0.length ≤ 9223372036854775807) :
    Calls Tryd.prog 8 #[.slice A0 l0.length c0] w fun e w' => e = .returned (.bool true) ∧ Below w.heap.size w w' := by
  have haw := fun W => cleromancylaw44_awake.calls 30000 true W (TpP.awake_eq 30000 (Nat.le_refl _))
  have HAW := Lib.hid haw
  have hsm := fun W (hb : Below w.heap.size w W) => cleromancylaw44_small.calls (l0.length + 1) A0 c0 l0 (smallB l0) W (Kd.C_below hr0 hb) hc0 (small_f l0 hlen)
  clear haw
  cases hsb : smallB l0 with
  | false =>
    rw [hsb] at hsm
    have HSM := Lib.hid hsm
    clear hsm hsb hr0 hy hG
    go_enter Tryd.func8, Tryd.ntmps8
    go_wp2_with (first
      | (go_at_call 24; (with_reducible refine (HAW.out _).mono ?_); rintro e w1 ⟨rfl, hb1⟩)
      | (go_at_call 35; (with_reducible refine (HSM.out _ hb1).mono ?_); rintro e w2 ⟨rfl, hb2⟩))
    go_ret
    exact ⟨rfl, hb1.trans (hb2.mono hb1.size)⟩
  | true =>
    rw [hsb] at hsm
    have HSM := Lib.hid hsm
    have hs2 := hsb
    unfold smallB at hs2
    simp only [Bool.and_eq_true, decide_eq_true_eq, List.all_eq_true] at hs2
    obtain ⟨hs3, hn⟩ := hs2
    have hfit : ∀ x ∈ l0, Fit x := fun x hx => ⟨hy x hx, Nat.le_trans (hs3 x hx) (by decide)⟩
    have HF := Lib.hid hfit
    have H200 := Lib.hid hs3
    have HC := Lib.hid hr0
    have HG := Lib.hid hG
    obtain ⟨R, hR⟩ : ∃ R, R = printGo l0 0 [] := ⟨_, rfl⟩
    have hpr := fun W (hb : Below w.heap.size w W) => print_any A0 c0 l0 W (Lib.tabBelow_of_tabIs hG W hb) (Kd.C_below hr0 hb) hc0 hfit (by omega)
    rw [← hR] at hpr
    have HPR := Lib.hid hpr
    have HR : Hid (printGo (l0.drop 0) 0 [] = R) := Lib.hid hR.symm
    clear hsm hsb hr0 hy hG hpr hR hfit hs3
    obtain ⟨R1, R2, R3⟩ := R
    go_enter Tryd.func8, Tryd.ntmps8
    go_wp2_with (first
      | (go_at_call 24; (with_reducible refine (HAW.out _).mono ?_); rintro e w1 ⟨rfl, hb1⟩)
      | (go_at_call 35; (with_reducible refine (HSM.out _ hb1).mono ?_); rintro e w2 ⟨rfl, hb2⟩; have hb3 := hb1.trans (hb2.mono hb1.size))
      | (go_at_call 36; (with_reducible refine (HPR.out _ hb3).mono ?_); rintro e w3 ⟨rfl, hb4⟩; have hb5 := hb3.trans (hb4.mono hb3.size)))
    clear hb1 hb2 hb3 hb4
    go_loopw [6, 26] (fun s i wr => ∃ (k : Nat) (acc : List UInt8), k ≤ l0.length ∧ i = .int .i64 k ∧ s = .string ⟨acc.toArray⟩ ∧ acc.length ≤ 500 * k ∧ Hid (printGo (l0.drop k) k acc = (R1, R2, R3)) ∧ Below w.heap.size w wr) (fun _ i _ => l0.length - (intOf i).toNat)
    case atStart => exact ⟨0, [], by omega, rfl, rfl, by simp, HR, hb5⟩
    case round =>
      obtain ⟨k, acc, hk, rfl, rfl, hal, hP, hw⟩ := hrel
      clear HR hb5
      have hsz := hw.size
      obtain ⟨Q, hQ⟩ : ∃ Q : ByteArray, Q = ⟨acc.toArray⟩ := ⟨_, rfl⟩
      have hQs : Q.size ≤ 500 * k := by rw [hQ]; show acc.toArray.size ≤ _; simpa using hal
      rw [← hQ]
      have HQ := Lib.hid hQ
      clear hQ
      by_cases hlt : k < l0.length
      · obtain ⟨ad, A5, c5, rfl, e0, e1, e2, e3, e4, e5, hc5, g5⟩ := at_T63 (Kd.C_below HC.out hw) (k : Int) (by omega) (by omega)
        obtain ⟨x, hx⟩ : ∃ x, x = rd_T63 l0 (k : Int) := ⟨_, rfl⟩
        have hxe : x = l0[k] := by rw [hx]; unfold rd_T63; rw [Int.toNat_natCast, List.getD_eq_getElem?_getD, List.getElem?_eq_getElem hlt]; rfl
        have hmem : x ∈ l0 := by rw [hxe]; exact List.getElem_mem _
        have hfx : Fit x := HF.out x hmem
        have hx200 := H200.out x hmem
        rw [← hx] at e0 e1 e2 e3 e4 e5 hc5 g5
        have hP2 := hP.out
        rw [List.drop_eq_getElem_cons hlt, ← hxe, printGo] at hP2
        have hline := fun W (hbW : Below wr.heap.size wr W) => line_call x hfx W (Lib.tabBelow_of_tabIs HG.out W (hw.trans (hbW.mono hsz))) A5 c5 (Kd.C_below g5 hbW) hc5
        have hrline := fun W (hbW : Below wr.heap.size wr W) => TpR.rline_any W x.f0 x.f1 x.f2 x.f3 x.f4 x.f5 A5 c5 (Kd.C_below g5 hbW) hc5 hfx.1 (Nat.le_trans hx200 (by decide))
        have hls : (lineS x).1.size ≤ 460 := Nat.le_trans (lineHit_size x.f0 (fldF x.f1 x.f2 x.f3 x.f4) x.f5 7 0) (by omega)
        have hsame : Same2 (lineS x) (TpR.refLine x.f0 x.f1 x.f2 x.f3 x.f4 x.f5) := alike ..
        have hba : ∀ c, Below wr.heap.size wr (wr.alloc (.cells c 63)) := fun c => below_alloc (Below.refl _ _) _
        simp only [Int.toNat_natCast] at e0 e1 e2 e3 e4 e5
        obtain ⟨S, hS⟩ : ∃ S, S = lineS x := ⟨_, rfl⟩
        obtain ⟨V, hV⟩ : ∃ V, V = TpR.refLine x.f0 x.f1 x.f2 x.f3 x.f4 x.f5 := ⟨_, rfl⟩
        simp only [← hS, ← hV] at hline hrline hls hsame hP2
        obtain ⟨S1, S2⟩ := S
        obtain ⟨V1, V2⟩ := V
        obtain ⟨hv1, hv2⟩ := hsame
        simp only at hv1 hv2 hls hP2 hline hrline
        subst hv1
        clear hx hxe hmem hfx hx200 hS hV hP
        rcases hv2 with ⟨rfl, rfl⟩ | ⟨rfl, rfl, rfl⟩
        · rw [if_pos rfl] at hP2
          have HP2 := Lib.hid hP2
          have HL := Lib.hid hline
          have HRL := Lib.hid hrline
          obtain ⟨B, hB⟩ : ∃ B : ByteArray, B = ⟨#[10]⟩ := ⟨_, rfl⟩
          have zB : B.size ≤ 1 := by rw [hB]; decide
          have s1 : V1.size + B.size ≤ 9223372036854775807 := by omega
          have s2 : Q.size + (V1 ++ B).size ≤ 9223372036854775807 := by rw [ByteArray.size_append]; omega
          have HB := Lib.hid hB
          clear hP2 hline hrline
          rw [← hB]
          clear hB
          go_wp2_with (first
            | (go_at_call 37; (with_reducible refine (HL.out _ (hba _)).mono ?_); rintro e w4 ⟨rfl, hb4⟩; have hb6 := (hba _).trans (hb4.mono (hba _).size); have hD4 : w4.heap[wr.heap.size]? = some (Obj.cells #[Value.int IntKind.i64 x.f0, Value.int IntKind.i64 x.f1, Value.int IntKind.i64 x.f2, Value.int IntKind.i64 x.f3, Value.int IntKind.i64 x.f4, Value.slice A5 x.f5.length c5] 63) := (hb4.block wr.heap.size (by rw [TpR.size_alloc]; omega)).trans (by rw [TpR.heap_alloc, if_pos rfl]); have j0 := TpR.cell_app w4 wr.heap.size 0 _ _ _ hD4 rfl; have j1 := TpR.cell_app w4 wr.heap.size 1 _ _ _ hD4 rfl; have j2 := TpR.cell_app w4 wr.heap.size 2 _ _ _ hD4 rfl; have j3 := TpR.cell_app w4 wr.heap.size 3 _ _ _ hD4 rfl; have j4 := TpR.cell_app w4 wr.heap.size 4 _ _ _ hD4 rfl; have j5 := TpR.cell_app w4 wr.heap.size 5 _ _ _ hD4 rfl; clear hD4)
            | (go_at_call 38; (with_reducible refine (HRL.out _ hb6).mono ?_); rintro e w5 ⟨rfl, hb5⟩; have hb7 := hb6.trans (hb5.mono hb6.size)))
          go_roundw
          case rel =>
            refine ⟨k + 1, acc ++ V1.data.toList ++ [10], by omega, by go_num, ?_, ?_, HP2.out, hw.trans (hb7.mono hsz)⟩
            · rw [HQ.out, HB.out]
              congr 1
              apply ByteArray.ext
              simp
            · have : V1.data.toList.length = V1.size := by simp
              simp only [List.length_append, List.length_cons, List.length_nil]
              omega
          case measure => simp [intOf]; omega
        · rw [if_neg (by decide)] at hP2
          have e1 : R1 = ⟨#[]⟩ := (Prod.mk.inj hP2).1.symm
          have e2 : R2 = (k : Int) + 1 := (Prod.mk.inj (Prod.mk.inj hP2).2).1.symm
          have e3 : R3 = 2 := (Prod.mk.inj (Prod.mk.inj hP2).2).2.symm
          subst e1 e2 e3
          have HL := Lib.hid hline
          have HRL := Lib.hid hrline
          clear hP2 hline hrline
          go_wp2_with (first
            | (go_at_call 37; (with_reducible refine (HL.out _ (hba _)).mono ?_); rintro e w4 ⟨rfl, hb4⟩; have hb6 := (hba _).trans (hb4.mono (hba _).size); have hD4 : w4.heap[wr.heap.size]? = some (Obj.cells #[Value.int IntKind.i64 x.f0, Value.int IntKind.i64 x.f1, Value.int IntKind.i64 x.f2, Value.int IntKind.i64 x.f3, Value.int IntKind.i64 x.f4, Value.slice A5 x.f5.length c5] 63) := (hb4.block wr.heap.size (by rw [TpR.size_alloc]; omega)).trans (by rw [TpR.heap_alloc, if_pos rfl]); have j0 := TpR.cell_app w4 wr.heap.size 0 _ _ _ hD4 rfl; have j1 := TpR.cell_app w4 wr.heap.size 1 _ _ _ hD4 rfl; have j2 := TpR.cell_app w4 wr.heap.size 2 _ _ _ hD4 rfl; have j3 := TpR.cell_app w4 wr.heap.size 3 _ _ _ hD4 rfl; have j4 := TpR.cell_app w4 wr.heap.size 4 _ _ _ hD4 rfl; have j5 := TpR.cell_app w4 wr.heap.size 5 _ _ _ hD4 rfl; clear hD4)
            | (go_at_call 38; (with_reducible refine (HRL.out _ hb6).mono ?_); rintro e w5 ⟨rfl, hb5⟩; have hb7 := hb6.trans (hb5.mono hb6.size)))
          go_ret
          exact ⟨rfl, hw.trans (hb7.mono hsz)⟩
      · have hP2 := hP.out
        rw [List.drop_eq_nil_of_le (by omega), printGo, ← HQ.out] at hP2
        have e1 : R1 = Q := (Prod.mk.inj hP2).1.symm
        have e2 : R2 = 0 := (Prod.mk.inj (Prod.mk.inj hP2).2).1.symm
        have e3 : R3 = 0 := (Prod.mk.inj (Prod.mk.inj hP2).2).2.symm
        subst e1 e2 e3
        clear hP hP2
        go_wp2
        go_ret
        exact ⟨by simp, hw⟩
end Go.Proofs.YtpeebjnfmlfocaaDoor.Tp
namespace Go.Proofs.YtpeebjnfmlfocaaDoor.TpD
open Go.ChangeShapes Go.WideShapes Go.ChangeAt Go.RowKit Go.Deep Go.Proofs.YtpeebjnfmlfocaaDoorW.PrintWords Go.Proofs.YtpeebjnfmlfocaaDoor.Tp
set_option linter.unusedVariables false
set_option linter.unusedSimpArgs false
set_option maxRecDepth 100000
theorem own : ownKnob Tryd.prog.godebug = none := by kernel_rfl
theorem laidOut : laidOutB Tryd.prog = true := by kernel_rfl
theorem laid_tail {P : Program} {W : World} {x : String × DataW Unit} {r : List (String × DataW Unit)} (h : laidMet P (x :: r) W) : laidMet P r W := by
  obtain ⟨ps, ⟨g, t, cs, fuel, p, q, _, _, _, _, hr, rfl⟩, hnd, hf⟩ := h
  exact ⟨q, hr, (List.nodup_append.1 hnd).2.1, fun b off hm => hf b off (List.mem_append_right _ hm)⟩
theorem gname : Tryd.prog.globalNamed "internal/strconv.uint64pow10" = some 2 := by kernel_rfl
theorem gtype : (Tryd.prog.globals[(2 : Nat)]?).map (·.type) = some 203 := by kernel_rfl
theorem datum : (Rows.laid_internal_strconv_uint64pow10 : DataW Unit) = Lib.tabData .u64 Lib.pow10Tab := by kernel_rfl
theorem tab_of {W : World} {r : List (String × DataW Unit)} (h : laidMet Tryd.prog (("internal/strconv.uint64pow10", Rows.laid_internal_strconv_uint64pow10) :: r) W) : TpR.Tab W := by
  rw [datum] at h
  exact Lib.tabIs_of_head gname gtype Tryd.underlying203 Tryd.underlying146 (by kernel_rfl) (by kernel_rfl) h
def IsRow (k : IntKind) (w : World) (a : Option Addr) (len cap : Nat) (zs : List Int) : Prop :=
  (a = none ∧ len = 0 ∧ cap = 0 ∧ zs = []) ∨
  ∃ x, a = some x ∧ len ≤ cap ∧ cap ≤ maxLen ∧ zs.length = cap ∧ (∀ i, i < zs.length → w.cell? (x.add i) = some (.int k (zs.getD i 0))) ∧ ∀ n ∈ zs, (Lit.int k n).wf = true
section
variable {H : Type} {enc : TypeId × Value → H} {W : World}
theorem open_bytes {fuel : Nat} {x : Value} {y : DataW H × List MemPlace}
    (hf : DataW.trod enc Tryd.prog W 0 (fun _ => true) true fuel 22 [x] = some y) :
    ∃ (A : Option Addr) (c : Nat) (l : List Int), x = .slice A l.length c ∧ (Kd.int .u8).C W A l.length l ∧ l.length ≤ c ∧ ∀ z ∈ l, 0 ≤ z ∧ z ≤ 255 := by
  obtain ⟨A, len, c, zs, rfl, w0⟩ : ∃ A len c zs, x = .slice A len c ∧ IsRow .u8 W A len c zs := by
    rcases open_ints Tryd.underlying22 Tryd.underlying5 (by kernel_rfl) hf with ⟨hcs, _⟩ | ⟨a, l, c, zs, hcs, _, hl, hm, hz, _, hcell, hwz⟩
    · exact ⟨none, 0, 0, [], List.singleton_inj.1 hcs, .inl ⟨rfl, rfl, rfl, rfl⟩⟩
    · exact ⟨some a, l, c, zs, List.singleton_inj.1 hcs, .inr ⟨_, rfl, hl, hm, by simpa using hz, hcell, hwz⟩⟩
  obtain ⟨l, rfl, hr, hm, hw, hc⟩ := ReadsInt.ofRowC w0
  refine ⟨A, c, l, rfl, Kd.C_of_reads (d := (0 : Int)) (h1 := fun _ => rfl) hr, hc, fun z hz => ?_⟩
  have := hw z hz
  simp [Lit.wf, IntKind.min, IntKind.max, IntKind.signed, IntKind.bits] at this
  omega
theorem cellsD : Tryd.prog.cellsOf 63 = 6 := by kernel_rfl
theorem open_deed {fuel : Nat} {cs : List Value} {y : DataW H × List MemPlace} (hf : DataW.trod enc Tryd.prog W 0 (fun _ => true) true fuel 63 cs = some y) :
    ∃ x : S63, k63.K W x cs ∧ ∀ z ∈ x.f5, 0 ≤ z ∧ z ≤ 255 := by
  obtain ⟨xs, n, _, _, hlen, hxl, hg⟩ := DataW.trod_struct Tryd.underlying63 hf
  rw [cellsD] at hlen
  match cs, hlen with
  | [c0, c1, c2, c3, c4, c5], _ =>
    match xs, hxl with
    | [y0, y1, y2, y3, y4, y5], _ =>
      have i0 := hg 0 _ rfl
      have i1 := hg 1 _ rfl
      have i2 := hg 2 _ rfl
      have i3 := hg 3 _ rfl
      have i4 := hg 4 _ rfl
      have i5 := hg 5 _ rfl
      have k3 : Tryd.prog.cellsOf 3 = 1 := by kernel_rfl
      have k22 : Tryd.prog.cellsOf 22 = 1 := by kernel_rfl
      simp only [k3, k22, List.drop_zero, List.drop_succ_cons, List.take_succ_cons, List.take_zero, List.getElem?_cons_zero, List.getElem?_cons_succ] at i0 i1 i2 i3 i4 i5
      obtain ⟨n0, e0, _, _⟩ := DataW.trod_int Tryd.underlying3 i0
      obtain ⟨n1, e1, _, _⟩ := DataW.trod_int Tryd.underlying3 i1
      obtain ⟨n2, e2, _, _⟩ := DataW.trod_int Tryd.underlying3 i2
      obtain ⟨n3, e3, _, _⟩ := DataW.trod_int Tryd.underlying3 i3
      obtain ⟨n4, e4, _, _⟩ := DataW.trod_int Tryd.underlying3 i4
      obtain ⟨A5, a5, l5, rfl, g1, g2, g3⟩ := open_bytes i5
      rw [List.singleton_inj.1 e0, List.singleton_inj.1 e1, List.singleton_inj.1 e2, List.singleton_inj.1 e3, List.singleton_inj.1 e4]
      exact ⟨⟨n0, n1, n2, n3, n4, l5⟩, k63_mk W ⟨n0, n1, n2, n3, n4, l5⟩ g2 g1, g3⟩
theorem open_deeds {base : Nat} {v : Value} {d : DataW H} {p : List MemPlace} (hv : Value.okWide Tryd.prog W .any base 39 v) (h : DataW.Trod enc Tryd.prog W 0 (fun _ => true) true 39 v d p) :
    ∃ (A : Option Addr) (c : Nat) (l : List S63), v = .slice A l.length c ∧ Kd.C k63 W A l.length l ∧ l.length ≤ c ∧ l.length ≤ 9223372036854775807 ∧ ∀ x ∈ l, ∀ z ∈ x.f5, 0 ≤ z ∧ z ≤ 255 := by
  obtain ⟨a0, len0, cap0, rfl⟩ := okWide_slice Tryd.underlying39 hv
  obtain ⟨fuel, hf⟩ := h
  rcases open_slice Tryd.underlying39 hf with ⟨hcs, _⟩ | ⟨a, len, cap, m, n, D, Pl, hcs, _, hl, hm, hmm, _, hi⟩
  · have e := List.singleton_inj.1 hcs
    injection e with e1 e2 e3
    subst e1 e2 e3
    exact ⟨none, 0, [], rfl, ⟨rfl, by decide, fun h => absurd h (by decide)⟩, Nat.le_refl _, by decide, fun x hx => by cases hx⟩
  · have e := List.singleton_inj.1 hcs
    injection e with e1 e2 e3
    subst e1 e2 e3
    have hmc : m = cap0 := by rw [hmm]; rfl
    have hel : ∀ i : Nat, ∃ x : S63, i < len0 → (∃ cs, cs.length = 6 ∧ k63.K W x cs ∧ ∀ j u, cs[j]? = some u → W.cell? (a.add (i * 6 + j)) = some u) ∧ ∀ z ∈ x.f5, 0 ≤ z ∧ z ≤ 255 := by
      intro i
      by_cases hlt : i < len0
      · obtain ⟨cs', hc, ht⟩ := hi i (by omega)
        obtain ⟨x, hK, hb⟩ := open_deed ht
        rw [cellsD] at hc
        obtain ⟨_, hcl, hat⟩ := World.cells?_some hc
        refine ⟨x, fun _ => ⟨⟨cs', hcl, hK, fun j u hu => ?_⟩, hb⟩⟩
        have hj : j < 6 := by have := (List.getElem?_eq_some_iff.1 hu).1; omega
        have := hat j hj
        rw [Go.Deep.add_add] at this
        rw [this, hu]
      · exact ⟨z63, fun h => absurd h hlt⟩
    refine ⟨some a, cap0, (List.range len0).map (fun i => Classical.choose (hel i)), by simp, ⟨by simp, ?_, fun h0 => ⟨a, rfl, fun j q hq => ?_⟩⟩, by simpa using hl, ?_, fun x hx => ?_⟩
    · simp; unfold maxLen at hm; omega
    · have hj : j < len0 := by have := (List.getElem?_eq_some_iff.1 hq).1; simpa using this
      have hqe : q = Classical.choose (hel j) := by
        rw [List.getElem?_map, List.getElem?_range hj] at hq
        exact (Option.some.inj hq).symm
      obtain ⟨⟨cs, h1, h2, h3⟩, _⟩ := Classical.choose_spec (hel j) hj
      rw [hqe]
      exact ⟨cs, h1, h2, h3⟩
    · simp; unfold maxLen at hm; omega
    · obtain ⟨i, hir, rfl⟩ := List.mem_map.1 hx
      exact (Classical.choose_spec (hel i) (List.mem_range.1 hir)).2
end
end Go.Proofs.YtpeebjnfmlfocaaDoor.TpD
namespace Go.Proofs.YtpeebjnfmlfocaaDoor.talePrints
open Go.ChangeShapes Go.WideShapes Go.ChangeAt Go.RowKit
open Go.Proofs.YtpeebjnfmlfocaaDoor.TpD
set_option linter.unusedVariables false
set_option maxRecDepth 100000
abbrev tab : List (String × DataW Unit) := Rows.talePrintsRow.laid
set_option maxHeartbeats 1000000 in
theorem lifted (os : Os) (started : os.Started) (H : Type) (enc : TypeId × Value → H) :
    ReturnsInHanded {} Tryd.checked os 8 .any (fun w args => (Rows.talePrintsSpec.pre enc Tryd.prog Tryd.f8 [] false w args ∧ laidMetH Tryd.prog tab w) ∧ sizedMet enc Tryd.prog Tryd.f8 (OpenSpec.ofChange Rows.talePrintsSpec) false w args)
      (Rows.talePrintsSpec.post enc Tryd.prog Tryd.f8 false true false false) := by
  refine returnsInHanded_of_change_and (C := Tryd.checked) (X := fun w _ => laidMetH Tryd.prog tab w) (fun _ _ _ hh h => h.of_heap hh) own started (by kernel_rfl) Tryd.func8
    (ChangeSpec.witness_shaped (enc := enc) (C := Tryd.checked) (os := os) (X := fun w _ => laidMetH Tryd.prog tab w) false (World.laidAll Tryd.prog os tab) #[.slice none 0 0] 8 (World.laidAll_os _ _ _)
      (World.shaped_of_ZipB (by kernel_rfl) (by kernel_rfl)) (by kernel_rfl) (by kernel_rfl) (by kernel_rfl)
      (by rw [MakeChecks.laidMetH_plain _ _ _ (by kernel_rfl)]; exact laidMet_laidAll _ (by kernel_rfl) (by kernel_rfl))) ?_
  intro W base args ds gs before hval0 hW _ _ hL _
  have hval : ∀ (j : Nat) t v, Tryd.f8.params[j]? = some t → args[j]? = some v → Value.okWide Tryd.prog W .any base t v := hval0
  have hW' := hW
  obtain ⟨p, q, hA0, hV, rfl, hfz, hnd⟩ := hW
  have hA : DataW.TrodAll enc Tryd.prog W 0 (fun _ => true) true Tryd.f8.params.toList args.toList ds p := hA0
  rw [Tryd.params8] at hA hval
  obtain ⟨v0, vs0, d0, ds0, p0, q0, hargs, rfl, rfl, h0, r0⟩ := trodAll_cons hA
  obtain ⟨rfl, rfl, rfl⟩ := trodAll_nil r0
  obtain rfl : args = #[v0] := by cases args; simp_all
  obtain ⟨rfl, rfl⟩ := trodVars_none hV
  have k0 := h0
  have lt0 : ∀ x ∈ p0, x.block < W.heap.size := by obtain ⟨m, hm⟩ := k0; exact DataW.trod_lt m _ _ _ hm
  obtain ⟨A0, c0, z0, rfl, hC0, hc0, hn0, hy0⟩ := open_deeds (hval 0 39 v0 rfl rfl) h0
  have hT : TpR.Tab W := by
    rw [MakeChecks.laidMetH_plain _ _ _ (by kernel_rfl)] at hL
    exact tab_of (laid_tail (laid_tail hL))
  clear hA0 hval0
  refine (Tp.prints_walk A0 c0 z0 W hT hC0 hc0 hy0 hn0).mono fun e W' ⟨he, bel⟩ => ?_
  subst he
  exact ⟨_, rfl, _, _, _, [], _, [], hW', trodAll_mk1 (shut_bool Tryd.underlying4 _), (trodAll_cons_mk (Below.trod laidOut (by kernel_rfl) (of_decide_eq_true (by kernel_rfl)) k0 bel lt0) trodAll_mk0), rfl, bel.frame _, fun h => by cases h⟩
theorem over : Rows.TalePrintsSaid :=
  OpenClaim.holds_of_wide 8 Tryd.f8 rfl rfl rfl rfl rfl rfl rfl ⟨rfl, rfl, rfl, rfl, rfl⟩ rfl rfl rfl rfl rfl (by kernel_rfl) Tryd.func8 (by kernel_rfl)
    (of_decide_eq_true (by kernel_rfl)) (by unfold Func.isWrapper; first | (rw [if_pos (by decide +kernel)]; kernel_rfl) | (rw [if_neg (by decide +kernel)]; exact ⟨rfl, rfl⟩))
    (fun os started H enc _ => lifted os started H enc)
end Go.Proofs.YtpeebjnfmlfocaaDoor.talePrints
namespace Go.Proofs.YtpeebjnfmlfocaaDoor
open Go
theorem talePrints_card : Rows.TalePrintsCardSaid :=
  Claim7.holds_tied_plain_at .later [] [.data, .data, .data, .data, .pinned] true (true, "88ad74f4235768ce2ee27f4660809d551552ad15cc6fba27e3a6463438547031") true
    talePrints.over (fun _ h => by cases h) (by kernel_rfl) (fun _ h => by cases h) talePrints_row_tie rfl ⟨rfl, rfl⟩ (by kernel_rfl) rfl
    (fun f fn hf hfn => by
      obtain rfl : f = 8 := Option.some.inj ((show Tryd.prog.funcNamed "cleromancy/cleromancylaw44.TalePrints" = some 8 by kernel_rfl).symm.trans hf) |>.symm
      obtain rfl : fn = Tryd.f8 := (Option.some.inj (Tryd.func8.symm.trans hfn)).symm
      exact ⟨by kernel_rfl, fun j t ht => by
        rw [Tryd.params8] at ht
        have hm : t ∈ [39] := by simpa using Array.mem_of_getElem? ht
        have hall : ([39].all fun u => !Tryd.prog.wantsStandIn u) = true := by kernel_rfl
        exact (show Tryd.prog.wantsStandIn t = false by simpa using List.all_eq_true.1 hall t hm)⟩)
    (by kernel_rfl)
end Go.Proofs.YtpeebjnfmlfocaaDoor
