/- The document's text of a letter, a proposal, at this program. Conditions: it is good; bytes in range. Printed by gen/r47.py. -/
import Derived.Test.YtpeebjnfmlfocaaDoorSx12
import Derived.Test.YtpeebjnfmlfocaaDoorSx13
import Derived.Deep.QuietTactic
import Derived.BigQuiet
import Derived.Deep.RegionHeld3
namespace Go.Proofs.YtpeebjnfmlfocaaDoor.Sh
open Go.RowKit Go.Proofs.YtpeebjnfmlfocaaDoor.Th Go.Proofs.YtpeebjnfmlfocaaDoorW.PrintWords Go.Proofs.YtpeebjnfmlfocaaDoorW.PrintLast Go.Proofs.YtpeebjnfmlfocaaDoorW.PrintMore
set_option maxRecDepth 100000
set_option linter.unusedVariables false
set_option linter.unusedSimpArgs false
abbrev byB (l : List Int) : Prop := ∀ z ∈ l, 0 ≤ z ∧ z ≤ 255
structure byE (e : S98) : Prop where
  a : byB e.f0.f3
  b : byB e.f0.f4
  c : byB e.f1.f2
  s : ∀ s ∈ e.f1.f3, byB s.f1
structure byL (x : Let) : Prop where
  a : byB x.v.f3
  b : byB x.v.f4
  c : byB x.ps
  d : byB x.vi
  e : byB x.vs
  f : ∀ e ∈ x.es, byE e
theorem inR_t {n lo hi : Int} (h : inR n lo hi = true) : lo ≤ n ∧ n ≤ hi := by simpa [inR] using h
theorem okV_of (v : S47) (h : gV v = true) (h3 : byB v.f3) (h4 : byB v.f4) : okV v := by
  simp only [gV, Bool.and_eq_true, beq_iff_eq] at h
  obtain ⟨⟨⟨⟨a, b⟩, c⟩, d⟩, e⟩ := h
  have := inR_t a; have := inR_t b; have := inR_t c; have := inR_t d
  exact ⟨⟨by omega, by omega⟩, ⟨by omega, by omega⟩, ⟨by omega, by omega⟩, ⟨h3, by omega⟩, ⟨h4, by omega⟩⟩
theorem okS_of (s : S100) (h : gS s = true) (h1 : byB s.f1) : okS s := by
  simp only [gS, Bool.and_eq_true, beq_iff_eq] at h
  have := inR_t h.1
  exact ⟨⟨by omega, by omega⟩, ⟨h1, by omega⟩⟩
theorem okE_of (e : S98) (h : gE e = true) (hb : byE e) : okE e := by
  simp only [gE, Bool.and_eq_true, beq_iff_eq, decide_eq_true_eq, List.all_eq_true] at h
  obtain ⟨⟨⟨⟨⟨a, b⟩, c⟩, d⟩, f⟩, g⟩ := h
  have := inR_t b; have := inR_t c
  exact ⟨okV_of _ a hb.a hb.b, ⟨by omega, by omega⟩, ⟨by omega, by omega⟩, ⟨hb.c, by omega⟩, by omega, fun s hs => okS_of s (g s hs) (hb.s s hs)⟩
def shortS (k : Int) : ByteArray := if k = 1 then ⟨#[112, 114, 111, 112, 111, 115, 97, 108]⟩ else if k = 2 then ⟨#[118, 111, 116, 101]⟩ else if k = 3 then ⟨#[97, 115, 107]⟩ else if k = 4 then ⟨#[99, 104, 97, 105, 110]⟩ else ⟨#[108, 101, 116, 116, 101, 114]⟩
def txtW (x : Let) : List ByteArray :=
  if x.k = 1 then [shortS 1, itoaB x.pv, itoaB x.pf, itoaB x.px] ++ valW x.v ++ [bytesS x.ps]
  else if x.k = 2 then [shortS 2, itoaB x.vr, itoaB x.vv, itoaB x.vp, itoaB x.vf, bytesS x.vi, bytesS x.vs]
  else if x.k = 3 then [shortS 3, itoaB x.r]
  else [shortS 4, itoaB (x.es.length : Int)] ++ x.es.flatMap entW
def joinB (ws : List ByteArray) : ByteArray := ⟨(Lib.join (ws.map (·.data.toList)) [32]).toArray⟩
def txtS (x : Let) : ByteArray × Int := if goodL x = true then (joinB (txtW x), 0) else (⟨#[]⟩, 22)
theorem Short_any (x : Let) (a : Ad) (w : World) (hx : LetC w x a) : Calls Tryd.prog 31 #[letV x a] w fun e w' => e = .returned (.string (shortS x.k)) ∧ Below w.heap.size w w' :=
  show_Short.calls _ _ _ _ _ _ _ _ _ _ _ _ _ _ _ _ _ _ _ _ _ _ _ _ _ _ _ _ _ _ _ w hx.h7 hx.l7 hx.h8 hx.l8 hx.h9 hx.l9 hx.h14 hx.l14 hx.h15 hx.l15 hx.h17 hx.l17 (by
    unfold show_Short.f shortS
    repeat' (first | rfl | split))
theorem lawShort_any (x : Let) (a : Ad) (w : World) (hx : LetC w x a) : Calls Tryd.prog 32 #[letV x a] w fun e w' => e = .returned (.string (shortS x.k)) ∧ Below w.heap.size w w' :=
  cleromancylaw47_short.calls _ _ _ _ _ _ _ _ _ _ _ _ _ _ _ _ _ _ _ _ _ _ _ _ _ _ _ _ _ _ _ w hx.h7 hx.l7 hx.h8 hx.l8 hx.h9 hx.l9 hx.h14 hx.l14 hx.h15 hx.l15 hx.h17 hx.l17 (by
    unfold cleromancylaw47_short.f
    rw [Option.bind_some]
    obtain ⟨k, hk⟩ : ∃ k, k = x.k := ⟨_, rfl⟩
    rw [← hk]
    by_cases h1 : k < 1
    · rw [if_pos h1]
      have hS : shortS k = ⟨#[108, 101, 116, 116, 101, 114]⟩ := by
        unfold shortS
        rw [if_neg (by omega), if_neg (by omega), if_neg (by omega), if_neg (by omega)]
      rw [hS]
      rfl
    · rw [if_neg h1]
      by_cases h4 : k > 4
      · rw [if_pos h4]
        have hS : shortS k = ⟨#[108, 101, 116, 116, 101, 114]⟩ := by
          unfold shortS
          rw [if_neg (by omega), if_neg (by omega), if_neg (by omega), if_neg (by omega)]
        rw [hS]
        rfl
      · rw [if_neg h4]
        have : k = 1 ∨ k = 2 ∨ k = 3 ∨ k = 4 := by omega
        rcases this with h | h | h | h <;> (subst h; rfl))
theorem Pen.new (w : World) (base : Nat) (hb : base ≤ w.heap.size) : Pen (w.alloc (.cells #[.slice none 0 0] 103)) base w.heap.size [] :=
  ⟨hb, .slice none 0 0, blk_new _ _, own_nil _ _ _ _⟩
theorem good_k (x : Let) (h : goodL x = true) : (x.k = 1 ∧ gP x = true) ∨ (x.k = 2 ∧ gT x = true) ∨ (x.k = 3 ∧ inR x.r 1 2147483648 = true) ∨ (x.k = 4 ∧ x.es.length ≤ 16 ∧ ∀ e ∈ x.es, gE e = true) := by
  unfold goodL at h
  rw [Bool.and_eq_true] at h
  have h2 := h.2
  split at h2
  · exact .inl ⟨by assumption, h2⟩
  · split at h2
    · exact .inr (.inl ⟨by assumption, h2⟩)
    · split at h2
      · exact .inr (.inr (.inl ⟨by assumption, h2⟩))
      · split at h2
        · refine .inr (.inr (.inr ⟨by assumption, ?_⟩))
          simp only [Bool.and_eq_true, decide_eq_true_eq, List.all_eq_true] at h2
          exact h2
        · cases h2
theorem entsW_len (l : List S98) (h : ∀ e ∈ l, e.f1.f3.length ≤ 200) : (l.flatMap entW).length ≤ 411 * l.length := by
  induction l with
  | nil => simp
  | cons x l ih =>
    have h1 := ih (fun e he => h e (List.mem_cons_of_mem _ he))
    have h2 := h x (List.mem_cons_self ..)
    have h3 : (entW x).length = 11 + 2 * x.f1.f3.length := by
      unfold entW
      rw [List.length_append, List.length_append, sigsW_len]
      rfl
    rw [List.flatMap_cons, List.length_append, List.length_cons]
    omega
theorem entsW_snoc (l : List S98) (k : Nat) (h : k < l.length) : (l.take (k + 1)).flatMap entW = (l.take k).flatMap entW ++ entW l[k] := by
  rw [List.take_succ_eq_append_getElem h, List.flatMap_append]
  simp only [List.flatMap_cons, List.flatMap_nil, List.append_nil]
theorem pen_cell {w : World} {base g : Nat} {ws : List ByteArray} (h : Pen w base g ws) : ∃ v, w.cell? ⟨g, 0, none⟩ = some v ∧ ∃ A n c, v = .slice A n c := by
  obtain ⟨v, h1, h2⟩ := h.own
  obtain ⟨A, c, rfl⟩ := own_slice h2
  exact ⟨_, (blk_cell h1 0).trans rfl, _, _, _, rfl⟩
theorem joinTail_len (M : Nat) (sep : List UInt8) (hs : sep.length = 1) (l : List (List UInt8)) (h : ∀ x ∈ l, x.length ≤ M) : (sep.intercalate l).length ≤ (M + 1) * l.length := by
  induction l with
  | nil => simp [List.intercalate]
  | cons x l ih =>
    have h1 := ih (fun y hy => h y (List.mem_cons_of_mem _ hy))
    have h2 := h x (List.mem_cons_self ..)
    rw [List.length_cons, Nat.mul_add, Nat.mul_one]
    cases l with
    | nil => simp [List.intercalate, List.intersperse] at h1 ⊢; omega
    | cons y l =>
      have e : sep.intercalate (x :: y :: l) = x ++ (sep ++ sep.intercalate (y :: l)) := by simp [List.intercalate, List.intersperse]
      rw [e, List.length_append, List.length_append, hs]
      omega
theorem join_any (base g : Nat) (ws : List ByteArray) (w : World) (hP : Pen w base g ws) (hn : ws.length ≤ 100000) (hm : ∀ s ∈ ws, s.size ≤ 100000) :
    ∀ A n c, w.cell? ⟨g, 0, none⟩ = some (.slice A n c) → Calls Tryd.prog 67 #[.slice A n c, .string ⟨#[32]⟩] w fun e w' => e = .returned (.string (joinB ws)) ∧ Below w.heap.size w w' := by
  intro A n c hc
  obtain ⟨v, h1, h2⟩ := hP.own
  have hv : v = .slice A n c := Option.some.inj (((blk_cell h1 0).trans rfl : w.cell? ⟨g, 0, none⟩ = some v).symm.trans hc)
  subst hv
  rcases Nat.eq_zero_or_pos ws.length with h0 | h0
  · obtain rfl : ws = [] := List.eq_nil_of_length_eq_zero h0
    obtain ⟨A', c', he⟩ := own_slice h2
    injection he with he1 he2 he3
    subst he2
    exact (Tryd.strings_Join_none A c ⟨#[32]⟩ w).mono fun e w' h => ⟨h.1, by rw [h.2]; exact Below.refl _ _⟩
  · obtain ⟨A', c', he, hle, hr⟩ := own_reads_of_le (d := ByteArray.empty) h2
    injection he with he1 he2 he3
    subst he1 he2 he3
    obtain ⟨g', cap, he, _, _⟩ := h2.form h0
    injection he with he1 he2 he3
    subst he1 he3
    have hcell : ∀ (j : Nat) x, ws[j]? = some x → w.cell? ⟨g', 0 + j, none⟩ = some (.string x) := by
      intro j x hj
      have hjl := (List.getElem?_eq_some_iff.1 hj).1
      obtain ⟨ad, hae, hat⟩ := hr.at_ (j : Int) (by omega) (by omega)
      obtain rfl := Option.some.inj hae
      rw [Int.toNat_natCast, add_plain] at hat
      rw [Nat.zero_add, hat]
      unfold rdOf
      rw [Int.toNat_natCast, List.getD_eq_getElem?_getD, hj]
      rfl
    have hlt : g' < w.heap.size := World.block_lt_of_cell? _ _ (hcell 0 ws[0] (by simp [h0]))
    have hj := joinTail_len 100000 [32] rfl (ws.map (·.data.toList)) (fun x hx => by
      obtain ⟨s, hs, rfl⟩ := List.mem_map.1 hx
      have := hm s hs
      have e : s.data.toList.length = s.size := by rw [Array.length_toList]; rfl
      omega)
    rw [List.length_map] at hj
    exact Tryd.strings_Join g' 0 _ ws ⟨#[32]⟩ w hcell hlt (by omega) hle (Nat.le_trans hj (by omega))
theorem itoaB_sz {n : Int} (h : okI n) : (itoaB n).size ≤ 21 := itoaB_size n h.1 h.2
theorem bytesS_sz {l : List Int} (h : okB l) : (bytesS l).size ≤ 2000 := by
  unfold bytesS
  split
  · show 1 ≤ _; omega
  · rw [bs_size, hexL_len]; have := h.2; omega
theorem valW_sz {v : S47} (h : okV v) : ∀ s ∈ valW v, s.size ≤ 100000 := by
  intro s hs
  have h0 := itoaB_sz h.i0; have h1 := itoaB_sz h.i1; have h2 := itoaB_sz h.i2; have h3 := bytesS_sz h.b3; have h4 := bytesS_sz h.b4
  simp only [valW, List.mem_cons, List.not_mem_nil, or_false] at hs
  rcases hs with rfl | rfl | rfl | rfl | rfl | rfl
  · show 5 ≤ _; omega
  all_goals omega
theorem entW_sz {e : S98} (h : okE e) : ∀ s ∈ entW e, s.size ≤ 100000 := by
  intro s hs
  unfold entW at hs
  rw [List.mem_append, List.mem_append] at hs
  rcases hs with (hs | hs) | hs
  · exact valW_sz h.v s hs
  · have h0 := itoaB_sz h.i0; have h1 := itoaB_sz h.i1; have h2 := bytesS_sz h.b2; have h3 := itoaB_sz (len_ok h.n3)
    simp only [cerW, List.mem_cons, List.not_mem_nil, or_false] at hs
    rcases hs with rfl | rfl | rfl | rfl | rfl
    · show 4 ≤ _; omega
    all_goals omega
  · obtain ⟨x, hx, hs⟩ := List.mem_flatMap.1 hs
    have h0 := itoaB_sz (h.s3 x hx).i0; have h1 := bytesS_sz (h.s3 x hx).b1
    simp only [sigW, List.mem_cons, List.not_mem_nil, or_false] at hs
    rcases hs with rfl | rfl <;> omega
theorem shortS_sz (k : Int) : (shortS k).size ≤ 8 := by
  unfold shortS
  repeat' (first | decide | split)
theorem txtW_ok (x : Let) (hk : (x.k = 1 ∧ gP x = true) ∨ (x.k = 2 ∧ gT x = true) ∨ (x.k = 3 ∧ inR x.r 1 2147483648 = true) ∨ (x.k = 4 ∧ x.es.length ≤ 16 ∧ ∀ e ∈ x.es, gE e = true)) (hy : byL x) :
    (txtW x).length ≤ 100000 ∧ ∀ s ∈ txtW x, s.size ≤ 100000 := by
  rcases hk with ⟨hk, hp⟩ | ⟨hk, hp⟩ | ⟨hk, hp⟩ | ⟨hk, hn, hp⟩
  · have e : txtW x = [shortS 1, itoaB x.pv, itoaB x.pf, itoaB x.px] ++ valW x.v ++ [bytesS x.ps] := by unfold txtW; rw [if_pos hk]
    rw [e]
    refine ⟨by simp [valW_len], fun s hs => ?_⟩
    simp only [gP, Bool.and_eq_true, beq_iff_eq] at hp
    have := inR_t hp.1.1.1.1; have := inR_t hp.1.1.1.2; have := inR_t hp.1.1.2; have := hp.2
    have h1 := itoaB_sz (n := x.pv) ⟨by omega, by omega⟩
    have h2 := itoaB_sz (n := x.pf) ⟨by omega, by omega⟩
    have h3 := itoaB_sz (n := x.px) ⟨by omega, by omega⟩
    have h4 := bytesS_sz (l := x.ps) ⟨hy.c, by omega⟩
    have h0 := shortS_sz 1
    rw [List.mem_append, List.mem_append] at hs
    rcases hs with (hs | hs) | hs
    · simp only [List.mem_cons, List.not_mem_nil, or_false] at hs
      rcases hs with rfl | rfl | rfl | rfl <;> omega
    · exact valW_sz (okV_of x.v hp.1.2 hy.a hy.b) s hs
    · simp only [List.mem_cons, List.not_mem_nil, or_false] at hs
      subst hs; omega
  · have e : txtW x = [shortS 2, itoaB x.vr, itoaB x.vv, itoaB x.vp, itoaB x.vf, bytesS x.vi, bytesS x.vs] := by unfold txtW; rw [if_neg (by omega), if_pos hk]
    rw [e]
    refine ⟨by simp, fun s hs => ?_⟩
    simp only [gT, Bool.and_eq_true, Bool.or_eq_true, beq_iff_eq] at hp
    have := inR_t hp.1.1.1.1.1; have := inR_t hp.1.1.1.1.2; have := inR_t hp.1.1.1.2; have := inR_t hp.1.1.2; have := hp.1.2; have := hp.2
    have h1 := itoaB_sz (n := x.vr) ⟨by omega, by omega⟩
    have h2 := itoaB_sz (n := x.vv) ⟨by omega, by omega⟩
    have h3 := itoaB_sz (n := x.vp) ⟨by omega, by omega⟩
    have h4 := itoaB_sz (n := x.vf) ⟨by omega, by omega⟩
    have h5 := bytesS_sz (l := x.vi) ⟨hy.d, by omega⟩
    have h6 := bytesS_sz (l := x.vs) ⟨hy.e, by omega⟩
    have h0 := shortS_sz 2
    simp only [List.mem_cons, List.not_mem_nil, or_false] at hs
    rcases hs with rfl | rfl | rfl | rfl | rfl | rfl | rfl <;> omega
  · have e : txtW x = [shortS 3, itoaB x.r] := by unfold txtW; rw [if_neg (by omega), if_neg (by omega), if_pos hk]
    rw [e]
    refine ⟨by simp, fun s hs => ?_⟩
    have := inR_t hp
    have h1 := itoaB_sz (n := x.r) ⟨by omega, by omega⟩
    have h0 := shortS_sz 3
    simp only [List.mem_cons, List.not_mem_nil, or_false] at hs
    rcases hs with rfl | rfl <;> omega
  · have e : txtW x = [shortS 4, itoaB (x.es.length : Int)] ++ x.es.flatMap entW := by unfold txtW; rw [if_neg (by omega), if_neg (by omega), if_neg (by omega)]
    rw [e]
    have hl := entsW_len x.es (fun n hn => (okE_of n (hp n hn) (hy.f n hn)).n3)
    refine ⟨by rw [List.length_append, List.length_cons, List.length_singleton]; omega, fun s hs => ?_⟩
    have h1 := itoaB_sz (n := (x.es.length : Int)) (len_ok (by omega))
    have h0 := shortS_sz 4
    rw [List.mem_append] at hs
    rcases hs with hs | hs
    · simp only [List.mem_cons, List.not_mem_nil, or_false] at hs
      rcases hs with rfl | rfl <;> omega
    · obtain ⟨n, hn, hs⟩ := List.mem_flatMap.1 hs
      exact entW_sz (okE_of n (hp n hn) (hy.f n hn)) s hs
set_option maxHeartbeats 8000000 in
theorem TextBad_any (x : Let) (a : Ad) (w : World) (hT : Tab w) (hx : LetC w x a) (hy : byL x) (hg : goodL x = false) :
    Calls Tryd.prog 30 #[letV x a] w fun e w' => e = .returned (.tuple #[.string (txtS x).1, .int .i64 (txtS x).2]) ∧ Below w.heap.size w w' := by
  have HT := Lib.hid hT
  have HX := Lib.hid hx
  have HY := Lib.hid hy
  have HX0 := Lib.hid hx
  clear hT hx hy
  show Calls Tryd.prog 30 #[.agg #[.int .i64 x.k, .int .i64 x.pv, .int .i64 x.pf, .int .i64 x.px, .int .i64 x.v.f0, .int .i64 x.v.f1, .int .i64 x.v.f2, .slice a.A7 x.v.f3.length a.c7, .slice a.A8 x.v.f4.length a.c8, .slice a.A9 x.ps.length a.c9, .int .i64 x.vr, .int .i64 x.vv, .int .i64 x.vp, .int .i64 x.vf, .slice a.A14 x.vi.length a.c14, .slice a.A15 x.vs.length a.c15, .int .i64 x.r, .slice a.A17 x.es.length a.c17]] w _
  go_enter Tryd.func30, Tryd.ntmps30
  go_upto_region 1 with (fail)
  obtain ⟨wx, hwx⟩ : ∃ wx, wx = w.alloc (.cells #[.int .i64 x.k, .int .i64 x.pv, .int .i64 x.pf, .int .i64 x.px, .int .i64 x.v.f0, .int .i64 x.v.f1, .int .i64 x.v.f2, .slice a.A7 x.v.f3.length a.c7, .slice a.A8 x.v.f4.length a.c8, .slice a.A9 x.ps.length a.c9, .int .i64 x.vr, .int .i64 x.vv, .int .i64 x.vp, .int .i64 x.vf, .slice a.A14 x.vi.length a.c14, .slice a.A15 x.vs.length a.c15, .int .i64 x.r, .slice a.A17 x.es.length a.c17] 54) := ⟨_, rfl⟩
  rw [← hwx]
  have HL0 := Lib.hid (show wx.heap[w.heap.size]? = some (.cells #[.int .i64 x.k, .int .i64 x.pv, .int .i64 x.pf, .int .i64 x.px, .int .i64 x.v.f0, .int .i64 x.v.f1, .int .i64 x.v.f2, .slice a.A7 x.v.f3.length a.c7, .slice a.A8 x.v.f4.length a.c8, .slice a.A9 x.ps.length a.c9, .int .i64 x.vr, .int .i64 x.vv, .int .i64 x.vp, .int .i64 x.vf, .slice a.A14 x.vi.length a.c14, .slice a.A15 x.vs.length a.c15, .int .i64 x.r, .slice a.A17 x.es.length a.c17] 54) by rw [hwx]; exact blk_new _ _)
  have hbx : Below w.heap.size w wx := by rw [hwx]; exact below_alloc (Below.refl _ _) _
  have HB0 := Lib.hid hbx
  have HX1 := Lib.hid (HX.out.below hbx)
  clear hwx hbx HX
  obtain ⟨l0, l1, l2, l3, l4, l5, l6, l7, l8, l9, l10, l11, l12, l13, l14, l15, l16, l17⟩ := cells18 HL0.out
  have HG := Lib.hid (Good_any x a wx HX1.out)
  have HVV := Lib.hid (show txtS x = (⟨#[]⟩, 22) by simp [txtS, hg])
  have HQ := HG.out
  simp only [hg] at HQ
  have HGq := Lib.hid HQ
  clear HQ HG hg
  go_wp2_with (first | ((with_reducible refine gate_dst (N := 9) rfl ?_); refine wpList_load_row rfl 54 (.tmp 1) rfl w.heap.size rfl 54 _ (0, 0) _ HL0.out Tryd.underlying54 rfl (by kernel_rfl) ?_) | (go_at_call 61; (with_reducible refine (HGq.out).mono ?_); rintro e w2 ⟨rfl, hb2⟩))
  go_ret2
  exact ⟨by rw [HVV.out] <;> rfl, HB0.out.trans (hb2.mono HB0.out.size)⟩
end Go.Proofs.YtpeebjnfmlfocaaDoor.Sh
namespace Go.Proofs.YtpeebjnfmlfocaaDoor.Sh
open Go.RowKit Go.Proofs.YtpeebjnfmlfocaaDoor.Th Go.Proofs.YtpeebjnfmlfocaaDoorW.PrintWords Go.Proofs.YtpeebjnfmlfocaaDoorW.PrintLast Go.Proofs.YtpeebjnfmlfocaaDoorW.PrintMore
set_option maxRecDepth 100000
set_option linter.unusedVariables false
set_option linter.unusedSimpArgs false
def txR1 (x : Let) : ByteArray := (⟨#[112, 114, 111, 112, 111, 115, 97, 108, 32]⟩ : ByteArray) ++ itoaB x.pv ++ (⟨#[32]⟩ : ByteArray) ++ itoaB x.pf ++ (⟨#[32]⟩ : ByteArray) ++ itoaB x.px ++ (⟨#[32]⟩ : ByteArray) ++ valR x.v ++ (⟨#[32]⟩ : ByteArray) ++ bytesS x.ps
set_option maxHeartbeats 8000000 in
theorem RText1_any (x : Let) (a : Ad) (w : World) (hx : LetC w x a) (hy : byL x) (hk : x.k = 1) (hp : gP x = true) : Calls Tryd.prog 34 #[letV x a] w fun e w' => e = .returned (.string (txR1 x)) ∧ Below w.heap.size w w' := by
  have HOV := okV_of x.v (by simp only [gP, Bool.and_eq_true] at hp; exact hp.1.2) hy.a hy.b
  have HIP : okI x.pv ∧ okI x.pf ∧ okI x.px ∧ okB x.ps := by
    simp only [gP, Bool.and_eq_true, beq_iff_eq] at hp
    have := inR_t hp.1.1.1.1; have := inR_t hp.1.1.1.2; have := inR_t hp.1.1.2; have := hp.2
    exact ⟨⟨by omega, by omega⟩, ⟨by omega, by omega⟩, ⟨by omega, by omega⟩, hy.c, by omega⟩
  have hR := (show txR1 x = (⟨#[112, 114, 111, 112, 111, 115, 97, 108, 32]⟩ : ByteArray) ++ itoaB x.pv ++ (⟨#[32]⟩ : ByteArray) ++ itoaB x.pf ++ (⟨#[32]⟩ : ByteArray) ++ itoaB x.px ++ (⟨#[32]⟩ : ByteArray) ++ valR x.v ++ (⟨#[32]⟩ : ByteArray) ++ bytesS x.ps from rfl)
  have hd0 := fun W => dig_below (rdigits_any x.pv HIP.1 W)
  have hd1 := fun W => dig_below (rdigits_any x.pf HIP.2.1 W)
  have hd2 := fun W => dig_below (rdigits_any x.px HIP.2.2.1 W)
  have hd3 := fun W (hc : LetC W x a) => rvalue_any x.v a.A7 a.c7 a.A8 a.c8 W hc.h7 hc.l7 hc.h8 hc.l8 HOV
  have hd4 := fun W (hc : LetC W x a) => dig_below (rbytes_any a.A9 a.c9 x.ps W hc.h9 hc.l9 HIP.2.2.2)
  have ed0 := itoaB_szr HIP.1
  obtain ⟨d0, qd0⟩ : ∃ d, d = itoaB x.pv := ⟨_, rfl⟩
  rw [← qd0] at ed0
  have ed1 := itoaB_szr HIP.2.1
  obtain ⟨d1, qd1⟩ : ∃ d, d = itoaB x.pf := ⟨_, rfl⟩
  rw [← qd1] at ed1
  have ed2 := itoaB_szr HIP.2.2.1
  obtain ⟨d2, qd2⟩ : ∃ d, d = itoaB x.px := ⟨_, rfl⟩
  rw [← qd2] at ed2
  have ed3 := valR_sz HOV
  obtain ⟨d3, qd3⟩ : ∃ d, d = valR x.v := ⟨_, rfl⟩
  rw [← qd3] at ed3
  have ed4 := bytesS_szr HIP.2.2.2
  obtain ⟨d4, qd4⟩ : ∃ d, d = bytesS x.ps := ⟨_, rfl⟩
  rw [← qd4] at ed4
  rw [← qd0, ← qd1, ← qd2, ← qd3, ← qd4] at hR
  rw [← qd0] at hd0
  rw [← qd1] at hd1
  rw [← qd2] at hd2
  rw [← qd3] at hd3
  rw [← qd4] at hd4
  have HD0 := Lib.hid hd0
  have HD1 := Lib.hid hd1
  have HD2 := Lib.hid hd2
  have HD3 := Lib.hid hd3
  have HD4 := Lib.hid hd4
  have HR := Lib.hid hR
  have HK := Lib.hid hk
  clear hd0 hd1 hd2 hd3 hd4 hR qd0 qd1 qd2 qd3 qd4 hk hp HOV HIP hy
  have zc0t : (⟨#[112, 114, 111, 112, 111, 115, 97, 108, 32]⟩ : ByteArray).size = 9 := rfl
  have zc1t : (⟨#[32]⟩ : ByteArray).size = 1 := rfl
  obtain ⟨t1, ht1⟩ : ∃ q, q = (⟨#[112, 114, 111, 112, 111, 115, 97, 108, 32]⟩ : ByteArray) ++ d0 := ⟨_, rfl⟩
  have zt1 : t1.size ≤ 30 := by rw [ht1, ByteArray.size_append]; omega
  have st1 : ∀ W : World, (Op.stringOp .add (⟨#[112, 114, 111, 112, 111, 115, 97, 108, 32]⟩ : ByteArray) d0).run Tryd.prog W = .ok (.string t1) W := fun W => by rw [ht1]; exact run_string_add_sum _ _ _ (by omega)
  obtain ⟨t2, ht2⟩ : ∃ q, q = t1 ++ (⟨#[32]⟩ : ByteArray) := ⟨_, rfl⟩
  have zt2 : t2.size ≤ 31 := by rw [ht2, ByteArray.size_append]; omega
  have st2 : ∀ W : World, (Op.stringOp .add t1 (⟨#[32]⟩ : ByteArray)).run Tryd.prog W = .ok (.string t2) W := fun W => by rw [ht2]; exact run_string_add_sum _ _ _ (by omega)
  obtain ⟨t3, ht3⟩ : ∃ q, q = t2 ++ d1 := ⟨_, rfl⟩
  have zt3 : t3.size ≤ 52 := by rw [ht3, ByteArray.size_append]; omega
  have st3 : ∀ W : World, (Op.stringOp .add t2 d1).run Tryd.prog W = .ok (.string t3) W := fun W => by rw [ht3]; exact run_string_add_sum _ _ _ (by omega)
  obtain ⟨t4, ht4⟩ : ∃ q, q = t3 ++ (⟨#[32]⟩ : ByteArray) := ⟨_, rfl⟩
  have zt4 : t4.size ≤ 53 := by rw [ht4, ByteArray.size_append]; omega
  have st4 : ∀ W : World, (Op.stringOp .add t3 (⟨#[32]⟩ : ByteArray)).run Tryd.prog W = .ok (.string t4) W := fun W => by rw [ht4]; exact run_string_add_sum _ _ _ (by omega)
  obtain ⟨t5, ht5⟩ : ∃ q, q = t4 ++ d2 := ⟨_, rfl⟩
  have zt5 : t5.size ≤ 74 := by rw [ht5, ByteArray.size_append]; omega
  have st5 : ∀ W : World, (Op.stringOp .add t4 d2).run Tryd.prog W = .ok (.string t5) W := fun W => by rw [ht5]; exact run_string_add_sum _ _ _ (by omega)
  obtain ⟨t6, ht6⟩ : ∃ q, q = t5 ++ (⟨#[32]⟩ : ByteArray) := ⟨_, rfl⟩
  have zt6 : t6.size ≤ 75 := by rw [ht6, ByteArray.size_append]; omega
  have st6 : ∀ W : World, (Op.stringOp .add t5 (⟨#[32]⟩ : ByteArray)).run Tryd.prog W = .ok (.string t6) W := fun W => by rw [ht6]; exact run_string_add_sum _ _ _ (by omega)
  obtain ⟨t7, ht7⟩ : ∃ q, q = t6 ++ d3 := ⟨_, rfl⟩
  have zt7 : t7.size ≤ 5075 := by rw [ht7, ByteArray.size_append]; omega
  have st7 : ∀ W : World, (Op.stringOp .add t6 d3).run Tryd.prog W = .ok (.string t7) W := fun W => by rw [ht7]; exact run_string_add_sum _ _ _ (by omega)
  obtain ⟨t8, ht8⟩ : ∃ q, q = t7 ++ (⟨#[32]⟩ : ByteArray) := ⟨_, rfl⟩
  have zt8 : t8.size ≤ 5076 := by rw [ht8, ByteArray.size_append]; omega
  have st8 : ∀ W : World, (Op.stringOp .add t7 (⟨#[32]⟩ : ByteArray)).run Tryd.prog W = .ok (.string t8) W := fun W => by rw [ht8]; exact run_string_add_sum _ _ _ (by omega)
  obtain ⟨t9, ht9⟩ : ∃ q, q = t8 ++ d4 := ⟨_, rfl⟩
  have zt9 : t9.size ≤ 7076 := by rw [ht9, ByteArray.size_append]; omega
  have st9 : ∀ W : World, (Op.stringOp .add t8 d4).run Tryd.prog W = .ok (.string t9) W := fun W => by rw [ht9]; exact run_string_add_sum _ _ _ (by omega)
  have Ht1 := Lib.hid ht1
  have Ht2 := Lib.hid ht2
  have Ht3 := Lib.hid ht3
  have Ht4 := Lib.hid ht4
  have Ht5 := Lib.hid ht5
  have Ht6 := Lib.hid ht6
  have Ht7 := Lib.hid ht7
  have Ht8 := Lib.hid ht8
  have Ht9 := Lib.hid ht9
  clear ht1 ht2 ht3 ht4 ht5 ht6 ht7 ht8 ht9
  have HX := Lib.hid hx
  clear hx
  show Calls Tryd.prog 34 #[.agg #[.int .i64 x.k, .int .i64 x.pv, .int .i64 x.pf, .int .i64 x.px, .int .i64 x.v.f0, .int .i64 x.v.f1, .int .i64 x.v.f2, .slice a.A7 x.v.f3.length a.c7, .slice a.A8 x.v.f4.length a.c8, .slice a.A9 x.ps.length a.c9, .int .i64 x.vr, .int .i64 x.vv, .int .i64 x.vp, .int .i64 x.vf, .slice a.A14 x.vi.length a.c14, .slice a.A15 x.vs.length a.c15, .int .i64 x.r, .slice a.A17 x.es.length a.c17]] w _
  go_enter Tryd.func34, Tryd.ntmps34
  go_upto_region 1 with (fail)
  obtain ⟨wa, hwa⟩ : ∃ wa, wa = w.alloc (.cells #[.int .i64 x.k, .int .i64 x.pv, .int .i64 x.pf, .int .i64 x.px, .int .i64 x.v.f0, .int .i64 x.v.f1, .int .i64 x.v.f2, .slice a.A7 x.v.f3.length a.c7, .slice a.A8 x.v.f4.length a.c8, .slice a.A9 x.ps.length a.c9, .int .i64 x.vr, .int .i64 x.vv, .int .i64 x.vp, .int .i64 x.vf, .slice a.A14 x.vi.length a.c14, .slice a.A15 x.vs.length a.c15, .int .i64 x.r, .slice a.A17 x.es.length a.c17] 54) := ⟨_, rfl⟩
  rw [← hwa]
  have hla : wa.heap[w.heap.size]? = some (.cells #[.int .i64 x.k, .int .i64 x.pv, .int .i64 x.pf, .int .i64 x.px, .int .i64 x.v.f0, .int .i64 x.v.f1, .int .i64 x.v.f2, .slice a.A7 x.v.f3.length a.c7, .slice a.A8 x.v.f4.length a.c8, .slice a.A9 x.ps.length a.c9, .int .i64 x.vr, .int .i64 x.vv, .int .i64 x.vp, .int .i64 x.vf, .slice a.A14 x.vi.length a.c14, .slice a.A15 x.vs.length a.c15, .int .i64 x.r, .slice a.A17 x.es.length a.c17] 54) := by rw [hwa]; exact blk_new _ _
  have hba : Below w.heap.size w wa := by rw [hwa]; exact below_alloc (Below.refl _ _) _
  have hsa : wa.heap.size = w.heap.size + 1 := by rw [hwa]; simp
  have HLA := Lib.hid hla
  have HBA := Lib.hid hba
  have HSA := Lib.hid hsa
  clear hwa hla hba hsa
  obtain ⟨l0, l1, l2, l3, l4, l5, l6, l7, l8, l9, l10, l11, l12, l13, l14, l15, l16, l17⟩ := cells18 HLA.out
  clear l0 l10 l11 l12 l13 l14 l15 l16 l17
  go_upto_region 2 with (fail)
  obtain ⟨wb, hwb⟩ : ∃ wb, wb = wa.alloc (.cells #[.int .i64 x.pv, .int .i64 x.pf, .int .i64 x.px, .int .i64 x.v.f0, .int .i64 x.v.f1, .int .i64 x.v.f2, .slice a.A7 x.v.f3.length a.c7, .slice a.A8 x.v.f4.length a.c8, .slice a.A9 x.ps.length a.c9] 49) := ⟨_, rfl⟩
  rw [← hwb]
  have hlb : wb.heap[w.heap.size]? = some (.cells #[.int .i64 x.k, .int .i64 x.pv, .int .i64 x.pf, .int .i64 x.px, .int .i64 x.v.f0, .int .i64 x.v.f1, .int .i64 x.v.f2, .slice a.A7 x.v.f3.length a.c7, .slice a.A8 x.v.f4.length a.c8, .slice a.A9 x.ps.length a.c9, .int .i64 x.vr, .int .i64 x.vv, .int .i64 x.vp, .int .i64 x.vf, .slice a.A14 x.vi.length a.c14, .slice a.A15 x.vs.length a.c15, .int .i64 x.r, .slice a.A17 x.es.length a.c17] 54) := by rw [hwb]; exact blk_alloc HLA.out _
  have hpb : wb.heap[wa.heap.size]? = some (.cells #[.int .i64 x.pv, .int .i64 x.pf, .int .i64 x.px, .int .i64 x.v.f0, .int .i64 x.v.f1, .int .i64 x.v.f2, .slice a.A7 x.v.f3.length a.c7, .slice a.A8 x.v.f4.length a.c8, .slice a.A9 x.ps.length a.c9] 49) := by rw [hwb]; exact blk_new _ _
  have hbb : Below w.heap.size w wb := by rw [hwb]; exact HBA.out.alloc HBA.out.size _
  have HLB := Lib.hid hlb
  have HPB := Lib.hid hpb
  have HBB := Lib.hid hbb
  clear hwb hlb hpb hbb l1 l2 l3 l4 l5 l6 l7 l8 l9
  obtain ⟨l0, l1, l2, l3, l4, l5, l6, l7, l8, l9, l10, l11, l12, l13, l14, l15, l16, l17⟩ := cells18 HLB.out
  clear l0 l1 l2 l3 l4 l5 l6 l7 l8 l9 l16 l17
  go_upto_region 3 with (fail)
  obtain ⟨wx, hwx⟩ : ∃ wx, wx = wb.alloc (.cells #[.int .i64 x.vr, .int .i64 x.vv, .int .i64 x.vp, .int .i64 x.vf, .slice a.A14 x.vi.length a.c14, .slice a.A15 x.vs.length a.c15] 51) := ⟨_, rfl⟩
  rw [← hwx]
  obtain ⟨bp, hbp⟩ : ∃ bp, bp = wa.heap.size := ⟨_, rfl⟩
  obtain ⟨bv, hbv⟩ : ∃ bv, bv = wb.heap.size := ⟨_, rfl⟩
  have hbx : Below w.heap.size w wx := by rw [hwx]; exact HBB.out.alloc HBB.out.size _
  have H0 : Hid (Blk3 x a w wx w.heap.size bp bv) := Lib.hid ⟨by rw [hwx]; exact blk_alloc HLB.out _, by rw [hwx, hbp]; exact blk_alloc HPB.out _, by rw [hwx, hbv]; exact blk_new _ _, hbx, HX.out.below hbx⟩
  rw [← hbp, ← hbv]
  clear hwx hbx HX HLA HBA HSA HLB HPB HBB hbp hbv l10 l11 l12 l13 l14 l15
  have k1 : (x.k == 1) = true := by rw [HK.out]; rfl
  have k2 : (x.k == 2) = false := by rw [HK.out]; rfl
  have k3 : (x.k == 3) = false := by rw [HK.out]; rfl
  obtain ⟨l0, l1, l2, l3, l4, l5, l6, l7, l8, l9, l10, l11, l12, l13, l14, l15, l16, l17⟩ := cells18 H0.out.l
  clear l1 l2 l3 l4 l5 l6 l7 l8 l9 l10 l11 l12 l13 l14 l15 l16 l17
  go_upto_region 5 with (fail)
  clear l0
  have HS0 : Hid (Below wx.heap.size wx wx ∧ wx.cell? ⟨bp, 0, none⟩ = some (.int .i64 x.pv) ∧ wx.cell? ⟨bp, 1, none⟩ = some (.int .i64 x.pf) ∧ wx.cell? ⟨bp, 2, none⟩ = some (.int .i64 x.px) ∧ wx.cell? ⟨bp, 3, none⟩ = some (.int .i64 x.v.f0) ∧ wx.cell? ⟨bp, 4, none⟩ = some (.int .i64 x.v.f1) ∧ wx.cell? ⟨bp, 5, none⟩ = some (.int .i64 x.v.f2) ∧ wx.cell? ⟨bp, 6, none⟩ = some (.slice a.A7 x.v.f3.length a.c7) ∧ wx.cell? ⟨bp, 7, none⟩ = some (.slice a.A8 x.v.f4.length a.c8) ∧ wx.cell? ⟨bp, 8, none⟩ = some (.slice a.A9 x.ps.length a.c9)) := Lib.hid ⟨Below.refl _ _, cells9 H0.out.p⟩
  have hkeep : ∀ W W' : World, (Below wx.heap.size wx W ∧ W.cell? ⟨bp, 0, none⟩ = some (.int .i64 x.pv) ∧ W.cell? ⟨bp, 1, none⟩ = some (.int .i64 x.pf) ∧ W.cell? ⟨bp, 2, none⟩ = some (.int .i64 x.px) ∧ W.cell? ⟨bp, 3, none⟩ = some (.int .i64 x.v.f0) ∧ W.cell? ⟨bp, 4, none⟩ = some (.int .i64 x.v.f1) ∧ W.cell? ⟨bp, 5, none⟩ = some (.int .i64 x.v.f2) ∧ W.cell? ⟨bp, 6, none⟩ = some (.slice a.A7 x.v.f3.length a.c7) ∧ W.cell? ⟨bp, 7, none⟩ = some (.slice a.A8 x.v.f4.length a.c8) ∧ W.cell? ⟨bp, 8, none⟩ = some (.slice a.A9 x.ps.length a.c9)) → Below W.heap.size W W' → (Below wx.heap.size wx W' ∧ W'.cell? ⟨bp, 0, none⟩ = some (.int .i64 x.pv) ∧ W'.cell? ⟨bp, 1, none⟩ = some (.int .i64 x.pf) ∧ W'.cell? ⟨bp, 2, none⟩ = some (.int .i64 x.px) ∧ W'.cell? ⟨bp, 3, none⟩ = some (.int .i64 x.v.f0) ∧ W'.cell? ⟨bp, 4, none⟩ = some (.int .i64 x.v.f1) ∧ W'.cell? ⟨bp, 5, none⟩ = some (.int .i64 x.v.f2) ∧ W'.cell? ⟨bp, 6, none⟩ = some (.slice a.A7 x.v.f3.length a.c7) ∧ W'.cell? ⟨bp, 7, none⟩ = some (.slice a.A8 x.v.f4.length a.c8) ∧ W'.cell? ⟨bp, 8, none⟩ = some (.slice a.A9 x.ps.length a.c9)) := by
    rintro W W' ⟨h0, h1, h2, h3, h4, h5, h6, h7, h8, h9⟩ hb
    exact ⟨h0.trans (hb.mono h0.size), pw_cell_below hb h1, pw_cell_below hb h2, pw_cell_below hb h3, pw_cell_below hb h4, pw_cell_below hb h5, pw_cell_below hb h6, pw_cell_below hb h7, pw_cell_below hb h8, pw_cell_below hb h9⟩
  have HKP := Lib.hid hkeep
  clear hkeep
  have HE3 := Lib.hid (fun W (hS : Below wx.heap.size wx W ∧ W.cell? ⟨bp, 0, none⟩ = some (.int .i64 x.pv) ∧ W.cell? ⟨bp, 1, none⟩ = some (.int .i64 x.pf) ∧ W.cell? ⟨bp, 2, none⟩ = some (.int .i64 x.px) ∧ W.cell? ⟨bp, 3, none⟩ = some (.int .i64 x.v.f0) ∧ W.cell? ⟨bp, 4, none⟩ = some (.int .i64 x.v.f1) ∧ W.cell? ⟨bp, 5, none⟩ = some (.int .i64 x.v.f2) ∧ W.cell? ⟨bp, 6, none⟩ = some (.slice a.A7 x.v.f3.length a.c7) ∧ W.cell? ⟨bp, 7, none⟩ = some (.slice a.A8 x.v.f4.length a.c8) ∧ W.cell? ⟨bp, 8, none⟩ = some (.slice a.A9 x.ps.length a.c9)) => HD3.out W (H0.out.c.below hS.1))
  have HE4 := Lib.hid (fun W (hS : Below wx.heap.size wx W ∧ W.cell? ⟨bp, 0, none⟩ = some (.int .i64 x.pv) ∧ W.cell? ⟨bp, 1, none⟩ = some (.int .i64 x.pf) ∧ W.cell? ⟨bp, 2, none⟩ = some (.int .i64 x.px) ∧ W.cell? ⟨bp, 3, none⟩ = some (.int .i64 x.v.f0) ∧ W.cell? ⟨bp, 4, none⟩ = some (.int .i64 x.v.f1) ∧ W.cell? ⟨bp, 5, none⟩ = some (.int .i64 x.v.f2) ∧ W.cell? ⟨bp, 6, none⟩ = some (.slice a.A7 x.v.f3.length a.c7) ∧ W.cell? ⟨bp, 7, none⟩ = some (.slice a.A8 x.v.f4.length a.c8) ∧ W.cell? ⟨bp, 8, none⟩ = some (.slice a.A9 x.ps.length a.c9)) => HD4.out W (H0.out.c.below hS.1))
  go_region_held3 (fun w' => Below wx.heap.size wx w' ∧ w'.cell? ⟨bp, 0, none⟩ = some (.int .i64 x.pv) ∧ w'.cell? ⟨bp, 1, none⟩ = some (.int .i64 x.pf) ∧ w'.cell? ⟨bp, 2, none⟩ = some (.int .i64 x.px) ∧ w'.cell? ⟨bp, 3, none⟩ = some (.int .i64 x.v.f0) ∧ w'.cell? ⟨bp, 4, none⟩ = some (.int .i64 x.v.f1) ∧ w'.cell? ⟨bp, 5, none⟩ = some (.int .i64 x.v.f2) ∧ w'.cell? ⟨bp, 6, none⟩ = some (.slice a.A7 x.v.f3.length a.c7) ∧ w'.cell? ⟨bp, 7, none⟩ = some (.slice a.A8 x.v.f4.length a.c8) ∧ w'.cell? ⟨bp, 8, none⟩ = some (.slice a.A9 x.ps.length a.c9))
    (first | exact HS0.out | assumption | exact HKP.out _ _ (by assumption) hd | exact HKP.out _ _ (by assumption) (below_drew (Below.refl _ _)))
    (first
      | (go_at_call 71; (with_reducible refine (HD0.out _).mono ?_); rintro e w' ⟨rfl, hd⟩)
      | (go_at_call 71; (with_reducible refine (HD1.out _).mono ?_); rintro e w' ⟨rfl, hd⟩)
      | (go_at_call 71; (with_reducible refine (HD2.out _).mono ?_); rintro e w' ⟨rfl, hd⟩)
      | (go_at_call 72; (with_reducible refine (HE3.out _ (by assumption)).mono ?_); rintro e w' ⟨rfl, hd⟩)
      | (go_at_call 73; (with_reducible refine (HE4.out _ (by assumption)).mono ?_); rintro e w' ⟨rfl, hd⟩))
  rename_i hH
  go_wp2
  go_ret
  exact ⟨by rw [HR.out, ← Ht1.out, ← Ht2.out, ← Ht3.out, ← Ht4.out, ← Ht5.out, ← Ht6.out, ← Ht7.out, ← Ht8.out, ← Ht9.out] <;> rfl, H0.out.b.trans (hH.1.mono H0.out.b.size)⟩
end Go.Proofs.YtpeebjnfmlfocaaDoor.Sh
