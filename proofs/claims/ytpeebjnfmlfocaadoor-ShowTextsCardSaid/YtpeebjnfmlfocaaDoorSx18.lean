/- The document's Good of a letter at this program. No condition. Printed by gen/shd.py. -/
import Derived.Test.YtpeebjnfmlfocaaDoorSx14
import Derived.Test.YtpeebjnfmlfocaaDoorSx15
import Derived.Test.YtpeebjnfmlfocaaDoorSx16
import Derived.Test.YtpeebjnfmlfocaaDoorSx17
import Derived.Test.YtpeebjnfmlfocaaDoorSx12
namespace Go.Proofs.YtpeebjnfmlfocaaDoor.Sh
open Go.RowKit Go.Proofs.YtpeebjnfmlfocaaDoor.Th Go.Proofs.YtpeebjnfmlfocaaDoorW.PrintWords Go.Proofs.YtpeebjnfmlfocaaDoorW.PrintLast Go.Proofs.YtpeebjnfmlfocaaDoorW.PrintMore
set_option linter.unusedVariables false
set_option linter.unusedSimpArgs false
def Ends (g : Nat → Option Bool) : Prop := ∃ K, ∀ k, K ≤ k → ∃ r, g k = some r
theorem few_l1 (es : List S98) (i : Nat) (x44 : Int) (hi : i + 1 ≤ 9223372036854775807) (h0 : ∀ x3, Ends fun k => cleromancylaw24_Few.l0 k x3 es x44 ((i + 1 : Nat) : Int)) (ss : List S100) (hs : ss.length ≤ 9223372036854775807) (d : Nat) :
    ∀ (j : Nat) (x3 : Int), j + d = ss.length → Ends fun k => cleromancylaw24_Few.l1 k x3 es x44 (i : Int) ss (ss.length : Int) (j : Int) := by
  induction d with
  | zero =>
    intro j x3 hj
    obtain ⟨K, hK⟩ := h0 x3
    refine ⟨K + 1, fun k hk => ?_⟩
    obtain ⟨k, rfl⟩ : ∃ m, k = m + 1 := ⟨k - 1, by omega⟩
    have hw : wrap64 ((i : Int) + 1) = ((i + 1 : Nat) : Int) := by unfold wrap64; omega
    obtain ⟨r, hr⟩ := hK k (by omega)
    refine ⟨r, ?_⟩
    show cleromancylaw24_Few.l1 (k + 1) _ _ _ _ _ _ _ = _
    rw [cleromancylaw24_Few.l1, if_neg (by omega), hw]
    exact hr
  | succ d ih =>
    intro j x3 hj
    obtain ⟨K, hK⟩ := ih (j + 1) (wrap64 (x3 + (((rd_T100 ss (j : Int)).f1).length : Int))) (by omega)
    refine ⟨K + 1, fun k hk => ?_⟩
    obtain ⟨k, rfl⟩ : ∃ m, k = m + 1 := ⟨k - 1, by omega⟩
    have hw : wrap64 ((j : Int) + 1) = ((j + 1 : Nat) : Int) := by unfold wrap64; omega
    obtain ⟨r, hr⟩ := hK k (by omega)
    refine ⟨r, ?_⟩
    show cleromancylaw24_Few.l1 (k + 1) _ _ _ _ _ _ _ = _
    rw [cleromancylaw24_Few.l1, if_pos (by omega), if_pos (by omega), if_pos (by omega), hw]
    exact hr
theorem few_j2 (es : List S98) (i : Nat) (x44 : Int) (hi : i + 1 ≤ 9223372036854775807) (h0 : ∀ x3, Ends fun k => cleromancylaw24_Few.l0 k x3 es x44 ((i + 1 : Nat) : Int)) (ss : List S100) (hs : ss.length ≤ 9223372036854775807) (x3 : Int) (b : Bool) (a0 a1 a2 : Int) (l3 l4 : List Int) (a5 a6 : Int) (l7 : List Int) :
    Ends fun k => cleromancylaw24_Few.j2 k x3 es x44 (i : Int) b a0 a1 a2 l3 l4 a5 a6 l7 ss := by
  obtain ⟨K, hK⟩ := few_l1 es i x44 hi h0 ss hs ss.length 0 x3 (by omega)
  refine ⟨K + 1, fun k hk => ?_⟩
  obtain ⟨k, rfl⟩ : ∃ m, k = m + 1 := ⟨k - 1, by omega⟩
  cases b with
  | true => exact ⟨false, by show cleromancylaw24_Few.j2 (k + 1) _ _ _ _ _ _ _ _ _ _ _ _ _ _ = _; rw [cleromancylaw24_Few.j2, if_pos rfl]⟩
  | false =>
    obtain ⟨r, hr⟩ := hK k (by omega)
    refine ⟨r, ?_⟩
    show cleromancylaw24_Few.j2 (k + 1) _ _ _ _ _ _ _ _ _ _ _ _ _ _ = _
    rw [cleromancylaw24_Few.j2, if_neg (by decide)]
    exact hr
theorem few_l0 (es : List S98) (hl : es.length ≤ 1000000) (hs : ∀ e ∈ es, e.f1.f3.length ≤ 9223372036854775807) (d : Nat) :
    ∀ (i : Nat) (x3 : Int), i + d = es.length → Ends fun k => cleromancylaw24_Few.l0 k x3 es (es.length : Int) (i : Int) := by
  induction d with
  | zero =>
    intro i x3 hi
    refine ⟨1, fun k hk => ?_⟩
    obtain ⟨k, rfl⟩ : ∃ m, k = m + 1 := ⟨k - 1, by omega⟩
    exact ⟨_, by show cleromancylaw24_Few.l0 (k + 1) _ _ _ _ = _; rw [cleromancylaw24_Few.l0, if_neg (by omega)]⟩
  | succ d ih =>
    intro i x3 hi
    have hr : rd_T98 es (i : Int) = es[i]'(by omega) := by unfold rd_T98; rw [Int.toNat_natCast, List.getD_eq_getElem?_getD, List.getElem?_eq_getElem (by omega)]; rfl
    have h2 := fun (x3 : Int) (b : Bool) => few_j2 es i (es.length : Int) (by omega) (fun y => ih (i + 1) y (by omega)) (rd_T98 es (i : Int)).f1.f3 (by rw [hr]; exact hs _ (List.getElem_mem _)) x3 b (rd_T98 es (i : Int)).f0.f0 (rd_T98 es (i : Int)).f0.f1 (rd_T98 es (i : Int)).f0.f2 (rd_T98 es (i : Int)).f0.f3 (rd_T98 es (i : Int)).f0.f4 (rd_T98 es (i : Int)).f1.f0 (rd_T98 es (i : Int)).f1.f1 (rd_T98 es (i : Int)).f1.f2
    by_cases h : (((rd_T98 es (i : Int)).f1.f3).length : Int) > 200
    · obtain ⟨K, hK⟩ := h2 (wrap64 (x3 + (wrap64 ((wrap64 ((((rd_T98 es (i : Int)).f0.f3).length : Int) + (((rd_T98 es (i : Int)).f0.f4).length : Int))) + (((rd_T98 es (i : Int)).f1.f2).length : Int))))) true
      refine ⟨K + 1, fun k hk => ?_⟩
      obtain ⟨k, rfl⟩ : ∃ m, k = m + 1 := ⟨k - 1, by omega⟩
      obtain ⟨r, hr⟩ := hK k (by omega)
      refine ⟨r, ?_⟩
      show cleromancylaw24_Few.l0 (k + 1) _ _ _ _ = _
      rw [cleromancylaw24_Few.l0, if_pos (by omega), if_pos (by omega), if_pos (by omega), if_pos h]
      exact hr
    · obtain ⟨K, hK⟩ := h2 (wrap64 (x3 + (wrap64 ((wrap64 ((((rd_T98 es (i : Int)).f0.f3).length : Int) + (((rd_T98 es (i : Int)).f0.f4).length : Int))) + (((rd_T98 es (i : Int)).f1.f2).length : Int))))) (decide ((wrap64 (x3 + (wrap64 ((wrap64 ((((rd_T98 es (i : Int)).f0.f3).length : Int) + (((rd_T98 es (i : Int)).f0.f4).length : Int))) + (((rd_T98 es (i : Int)).f1.f2).length : Int))))) > 8000))
      refine ⟨K + 1, fun k hk => ?_⟩
      obtain ⟨k, rfl⟩ : ∃ m, k = m + 1 := ⟨k - 1, by omega⟩
      obtain ⟨r, hr⟩ := hK k (by omega)
      refine ⟨r, ?_⟩
      show cleromancylaw24_Few.l0 (k + 1) _ _ _ _ = _
      rw [cleromancylaw24_Few.l0, if_pos (by omega), if_pos (by omega), if_pos (by omega), if_neg h]
      exact hr
theorem few_ends (x : Let) (hs : ∀ e ∈ x.es, e.f1.f3.length ≤ 9223372036854775807) :
    ∃ k r, cleromancylaw24_Few.f k x.k x.pv x.pf x.px x.v.f0 x.v.f1 x.v.f2 x.v.f3 x.v.f4 x.ps x.vr x.vv x.vp x.vf x.vi x.vs x.r x.es = some r := by
  have hj : ∀ (y : Int) (b : Bool), (b = false → x.es.length ≤ 20) → Ends fun k => cleromancylaw24_Few.j0 k y b x.k x.pv x.pf x.px x.v.f0 x.v.f1 x.v.f2 x.v.f3 x.v.f4 x.ps x.vr x.vv x.vp x.vf x.vi x.vs x.r x.es := by
    intro y b hb
    cases b with
    | true =>
      refine ⟨1, fun k hk => ?_⟩
      obtain ⟨k, rfl⟩ : ∃ m, k = m + 1 := ⟨k - 1, by omega⟩
      exact ⟨false, by show cleromancylaw24_Few.j0 (k + 1) _ _ _ _ _ _ _ _ _ _ _ _ _ _ _ _ _ _ _ _ = _; rw [cleromancylaw24_Few.j0, if_pos rfl]⟩
    | false =>
      obtain ⟨K, hK⟩ := few_l0 x.es (by have := hb rfl; omega) hs x.es.length 0 y (by omega)
      refine ⟨K + 1, fun k hk => ?_⟩
      obtain ⟨k, rfl⟩ : ∃ m, k = m + 1 := ⟨k - 1, by omega⟩
      obtain ⟨r, hr⟩ := hK k (by omega)
      refine ⟨r, ?_⟩
      show cleromancylaw24_Few.j0 (k + 1) _ _ _ _ _ _ _ _ _ _ _ _ _ _ _ _ _ _ _ _ = _
      rw [cleromancylaw24_Few.j0, if_neg (by decide)]
      exact hr
  by_cases h : (x.es.length : Int) > 20
  · obtain ⟨K, hK⟩ := hj (wrap64 ((wrap64 ((wrap64 ((wrap64 ((x.v.f3.length : Int) + (x.v.f4.length : Int))) + (x.ps.length : Int))) + (x.vi.length : Int))) + (x.vs.length : Int))) true (fun h => by cases h)
    obtain ⟨r, hr⟩ := hK K (Nat.le_refl _)
    refine ⟨K, r, ?_⟩
    unfold cleromancylaw24_Few.f
    rw [if_pos h]
    exact hr
  · obtain ⟨K, hK⟩ := hj (wrap64 ((wrap64 ((wrap64 ((wrap64 ((x.v.f3.length : Int) + (x.v.f4.length : Int))) + (x.ps.length : Int))) + (x.vi.length : Int))) + (x.vs.length : Int))) (decide ((wrap64 ((wrap64 ((wrap64 ((wrap64 ((x.v.f3.length : Int) + (x.v.f4.length : Int))) + (x.ps.length : Int))) + (x.vi.length : Int))) + (x.vs.length : Int))) > 2000)) (fun _ => by omega)
    obtain ⟨r, hr⟩ := hK K (Nat.le_refl _)
    refine ⟨K, r, ?_⟩
    unfold cleromancylaw24_Few.f
    rw [if_neg h]
    exact hr
theorem Few_any (x : Let) (hs : ∀ e ∈ x.es, e.f1.f3.length ≤ 9223372036854775807) : ∃ r, ∀ (a : Ad) (w : World), LetC w x a → Calls Tryd.prog 29 #[letV x a] w fun e w' => e = .returned (.bool r) ∧ Below w.heap.size w w' := by
  obtain ⟨k, r, h⟩ := few_ends x hs
  exact ⟨r, fun a w hx => cleromancylaw24_Few.calls k _ _ _ _ _ _ _ _ _ _ _ _ _ _ _ _ _ _ _ _ _ _ _ _ _ _ _ _ _ _ r w hx.h7 hx.l7 hx.h8 hx.l8 hx.h9 hx.l9 hx.h14 hx.l14 hx.h15 hx.l15 hx.h17 hx.l17 h⟩
abbrev sp : ByteArray := ⟨#[32]⟩
def jn (s : ByteArray) (ws : List ByteArray) : ByteArray := ws.foldl (fun s w => s ++ sp ++ w) s
theorem jn_nil (s : ByteArray) : jn s [] = s := rfl
theorem jn_cons (s w : ByteArray) (ws : List ByteArray) : jn s (w :: ws) = jn (s ++ sp ++ w) ws := rfl
theorem jn_app (s : ByteArray) (a b : List ByteArray) : jn s (a ++ b) = jn (jn s a) b := List.foldl_append
theorem jn_in (ws : List ByteArray) : ∀ s a, s ++ sp ++ jn a ws = jn s (a :: ws) := by
  induction ws with
  | nil => intro s a; rfl
  | cons w ws ih =>
    intro s a
    rw [jn_cons a, ih, jn_cons, jn_cons s, jn_cons]
    simp only [ByteArray.append_assoc]
theorem jn_flat {α : Type} (f : α → List ByteArray) (l : List α) : ∀ s, l.foldl (fun s z => jn s (f z)) s = jn s (l.flatMap f) := by
  induction l with
  | nil => intro s; rfl
  | cons z l ih => intro s; rw [List.foldl_cons, ih, List.flatMap_cons, jn_app]
theorem joinB_cons (ws : List ByteArray) : ∀ a, joinB (a :: ws) = jn a ws := by
  induction ws with
  | nil =>
    intro a
    apply ByteArray.ext
    simp [joinB, Lib.join, List.intercalate, List.intersperse, jn]
  | cons w ws ih =>
    intro a
    rw [jn_cons, ← ih]
    have e : joinB (a :: w :: ws) = a ++ sp ++ joinB (w :: ws) := by
      apply ByteArray.ext
      simp [joinB, Lib.join, List.intercalate, List.intersperse, sp]
    have e2 : joinB ((a ++ sp ++ w) :: ws) = a ++ sp ++ joinB (w :: ws) := by
      cases ws with
      | nil =>
        apply ByteArray.ext
        simp [joinB, Lib.join, List.intercalate, List.intersperse, sp]
      | cons y ws =>
        apply ByteArray.ext
        simp [joinB, Lib.join, List.intercalate, List.intersperse, sp]
    rw [e, e2]
theorem valR_jn (v : S47) : valR v = jn ⟨#[118, 97, 108, 117, 101]⟩ [itoaB v.f0, itoaB v.f1, itoaB v.f2, bytesS v.f3, bytesS v.f4] := by
  unfold valR
  rw [show (⟨#[118, 97, 108, 117, 101, 32]⟩ : ByteArray) = ⟨#[118, 97, 108, 117, 101]⟩ ++ sp by decide]
  rfl
theorem val_jn (s : ByteArray) (v : S47) : s ++ sp ++ valR v = jn s (valW v) := by
  rw [valR_jn, jn_in]
  rfl
theorem enH_jn (s : ByteArray) (e : S98) : enH s e = jn s (valW e.f0 ++ cerW e) := by
  unfold enH
  rw [jn_app, ← val_jn, show (⟨#[32, 99, 101, 114, 116, 32]⟩ : ByteArray) = sp ++ ⟨#[99, 101, 114, 116]⟩ ++ sp by decide]
  simp only [cerW, jn_cons, jn_nil, ByteArray.append_assoc]
theorem enS_jn (s : ByteArray) (e : S98) : enS s e = jn s (entW e) := by
  unfold enS entW
  rw [jn_app, ← enH_jn, ← jn_flat]
  rfl
def txR (x : Let) : ByteArray := if x.k = 1 then txR1 x else if x.k = 2 then txR2 x else if x.k = 3 then txR3 x else txR4 x
theorem txR_eq (x : Let) : joinB (txtW x) = txR x := by
  unfold txtW txR
  split
  · show joinB (shortS 1 :: _) = _
    rw [joinB_cons]
    show jn (shortS 1) ([itoaB x.pv, itoaB x.pf, itoaB x.px] ++ valW x.v ++ [bytesS x.ps]) = _
    rw [jn_app, jn_app, ← val_jn]
    unfold txR1
    rw [show (⟨#[112, 114, 111, 112, 111, 115, 97, 108, 32]⟩ : ByteArray) = shortS 1 ++ sp by decide]
    rfl
  · split
    · show joinB (shortS 2 :: _) = _
      rw [joinB_cons]
      unfold txR2
      rw [show (⟨#[118, 111, 116, 101, 32]⟩ : ByteArray) = shortS 2 ++ sp by decide]
      rfl
    · split
      · show joinB (shortS 3 :: _) = _
        rw [joinB_cons]
        unfold txR3
        rw [show (⟨#[97, 115, 107, 32]⟩ : ByteArray) = shortS 3 ++ sp by decide]
        rfl
      · show joinB (shortS 4 :: _) = _
        rw [joinB_cons]
        show jn (shortS 4) ([itoaB (x.es.length : Int)] ++ x.es.flatMap entW) = _
        rw [jn_app, ← jn_flat]
        unfold txR4
        rw [show (⟨#[99, 104, 97, 105, 110, 32]⟩ : ByteArray) = shortS 4 ++ sp by decide]
        have e : enS = fun s z => jn s (entW z) := by funext s z; exact enS_jn s z
        rw [e]
        rfl
theorem RText_any (x : Let) (a : Ad) (w : World) (hx : LetC w x a) (hy : byL x) (hg : goodL x = true) : Calls Tryd.prog 34 #[letV x a] w fun e w' => e = .returned (.string (joinB (txtW x))) ∧ Below w.heap.size w w' := by
  rw [txR_eq]
  unfold txR
  rcases good_k x hg with ⟨hk, hp⟩ | ⟨hk, hp⟩ | ⟨hk, hp⟩ | ⟨hk, hn, hp⟩
  · rw [if_pos hk]; exact RText1_any x a w hx hy hk hp
  · rw [if_neg (by omega), if_pos hk]; exact RText2_any x a w hx hy hk hp
  · rw [if_neg (by omega), if_neg (by omega), if_pos hk]; exact RText3_any x a w hx hy hk hp
  · rw [if_neg (by omega), if_neg (by omega), if_neg (by omega)]; exact RText4_any x a w hx hy hk hn hp
def x7 : Let := ⟨3, 0, 0, 0, ⟨0, 0, 0, [], []⟩, [], 0, 0, 0, 0, [], [], 7, []⟩
def a7 : Ad := ⟨none, 0, none, 0, none, 0, none, 0, none, 0, none, 0⟩
theorem x7_C (w : World) : LetC w x7 a7 := ⟨Kd.C_nil _ _, Nat.le_refl _, Kd.C_nil _ _, Nat.le_refl _, Kd.C_nil _ _, Nat.le_refl _, Kd.C_nil _ _, Nat.le_refl _, Kd.C_nil _ _, Nat.le_refl _, Kd.C_nil _ _, Nat.le_refl _⟩
theorem x7_by : byL x7 := by
  refine ⟨?_, ?_, ?_, ?_, ?_, ?_⟩ <;> (intro z hz; cases hz)
theorem itoa7 : itoaB 7 = ⟨#[55]⟩ := (itoaB_one 7 (by decide)).trans (by decide)
theorem x7_S : txtS x7 = (⟨#[97, 115, 107, 32, 55]⟩, 0) := by
  have h1 : goodL x7 = true := by decide
  have h2 : txtW x7 = [shortS 3, itoaB 7] := rfl
  unfold txtS
  rw [if_pos h1, h2, joinB_cons, itoa7]
  decide
end Go.Proofs.YtpeebjnfmlfocaaDoor.Sh
namespace Go.Proofs.YtpeebjnfmlfocaaDoor.Sh
open Go.RowKit Go.Proofs.YtpeebjnfmlfocaaDoorW.PrintWords Go.Proofs.YtpeebjnfmlfocaaDoorW.PrintLast Go.Proofs.YtpeebjnfmlfocaaDoorW.PrintMore
set_option maxRecDepth 100000
set_option linter.unusedVariables false
set_option linter.unusedSimpArgs false
set_option maxHeartbeats 8000000 in
theorem RGood0_any (x : Let) (a : Ad) (w : World) (hx : LetC w x a) (hk : x.k ≠ 1 ∧ x.k ≠ 2 ∧ x.k ≠ 3 ∧ x.k ≠ 4) : Calls Tryd.prog 33 #[letV x a] w fun e w' => e = .returned (.bool (goodL x)) ∧ Below w.heap.size w w' := by
  have HK := Lib.hid hk
  clear hk
  have HX := Lib.hid hx
  clear hx
  show Calls Tryd.prog 33 #[.agg #[.int .i64 x.k, .int .i64 x.pv, .int .i64 x.pf, .int .i64 x.px, .int .i64 x.v.f0, .int .i64 x.v.f1, .int .i64 x.v.f2, .slice a.A7 x.v.f3.length a.c7, .slice a.A8 x.v.f4.length a.c8, .slice a.A9 x.ps.length a.c9, .int .i64 x.vr, .int .i64 x.vv, .int .i64 x.vp, .int .i64 x.vf, .slice a.A14 x.vi.length a.c14, .slice a.A15 x.vs.length a.c15, .int .i64 x.r, .slice a.A17 x.es.length a.c17]] w _
  go_enter Tryd.func33, Tryd.ntmps33
  go_upto_region 1 with (fail)
  obtain ⟨wa, hwa⟩ : ∃ wa, wa = w.alloc (.cells #[.int .i64 x.k, .int .i64 x.pv, .int .i64 x.pf, .int .i64 x.px, .int .i64 x.v.f0, .int .i64 x.v.f1, .int .i64 x.v.f2, .slice a.A7 x.v.f3.length a.c7, .slice a.A8 x.v.f4.length a.c8, .slice a.A9 x.ps.length a.c9, .int .i64 x.vr, .int .i64 x.vv, .int .i64 x.vp, .int .i64 x.vf, .slice a.A14 x.vi.length a.c14, .slice a.A15 x.vs.length a.c15, .int .i64 x.r, .slice a.A17 x.es.length a.c17] 54) := ⟨_, rfl⟩
  rw [← hwa]
  have hla : wa.heap[w.heap.size]? = some (.cells #[.int .i64 x.k, .int .i64 x.pv, .int .i64 x.pf, .int .i64 x.px, .int .i64 x.v.f0, .int .i64 x.v.f1, .int .i64 x.v.f2, .slice a.A7 x.v.f3.length a.c7, .slice a.A8 x.v.f4.length a.c8, .slice a.A9 x.ps.length a.c9, .int .i64 x.vr, .int .i64 x.vv, .int .i64 x.vp, .int .i64 x.vf, .slice a.A14 x.vi.length a.c14, .slice a.A15 x.vs.length a.c15, .int .i64 x.r, .slice a.A17 x.es.length a.c17] 54) := by rw [hwa]; exact blk_new _ _
  have hba : Below w.heap.size w wa := by rw [hwa]; exact below_alloc (Below.refl _ _) _
  have hsa : wa.heap.size = w.heap.size + 1 := by rw [hwa]; simp
  have HLA := Lib.hid hla
  have HBA := Lib.hid hba
  have HSA := Lib.hid hsa
  clear hwa hla hba hsa
  obtain ⟨l0, l1, l2, l3, l4, l5, l6, l7, l8, l9, l10, l11, l12, l13, l14, l15, l16, l17⟩ := cells18 HLA.out
  clear l0 l10 l11 l12 l13 l14 l15 l16 l17
  go_upto_region 2 with (fail)
  obtain ⟨wb, hwb⟩ : ∃ wb, wb = wa.alloc (.cells #[.int .i64 x.pv, .int .i64 x.pf, .int .i64 x.px, .int .i64 x.v.f0, .int .i64 x.v.f1, .int .i64 x.v.f2, .slice a.A7 x.v.f3.length a.c7, .slice a.A8 x.v.f4.length a.c8, .slice a.A9 x.ps.length a.c9] 49) := ⟨_, rfl⟩
  rw [← hwb]
  have hlb : wb.heap[w.heap.size]? = some (.cells #[.int .i64 x.k, .int .i64 x.pv, .int .i64 x.pf, .int .i64 x.px, .int .i64 x.v.f0, .int .i64 x.v.f1, .int .i64 x.v.f2, .slice a.A7 x.v.f3.length a.c7, .slice a.A8 x.v.f4.length a.c8, .slice a.A9 x.ps.length a.c9, .int .i64 x.vr, .int .i64 x.vv, .int .i64 x.vp, .int .i64 x.vf, .slice a.A14 x.vi.length a.c14, .slice a.A15 x.vs.length a.c15, .int .i64 x.r, .slice a.A17 x.es.length a.c17] 54) := by rw [hwb]; exact blk_alloc HLA.out _
  have hpb : wb.heap[wa.heap.size]? = some (.cells #[.int .i64 x.pv, .int .i64 x.pf, .int .i64 x.px, .int .i64 x.v.f0, .int .i64 x.v.f1, .int .i64 x.v.f2, .slice a.A7 x.v.f3.length a.c7, .slice a.A8 x.v.f4.length a.c8, .slice a.A9 x.ps.length a.c9] 49) := by rw [hwb]; exact blk_new _ _
  have hbb : Below w.heap.size w wb := by rw [hwb]; exact HBA.out.alloc HBA.out.size _
  have HLB := Lib.hid hlb
  have HPB := Lib.hid hpb
  have HBB := Lib.hid hbb
  clear hwb hlb hpb hbb l1 l2 l3 l4 l5 l6 l7 l8 l9
  obtain ⟨l0, l1, l2, l3, l4, l5, l6, l7, l8, l9, l10, l11, l12, l13, l14, l15, l16, l17⟩ := cells18 HLB.out
  clear l0 l1 l2 l3 l4 l5 l6 l7 l8 l9 l16 l17
  go_upto_region 3 with (fail)
  obtain ⟨wx, hwx⟩ : ∃ wx, wx = wb.alloc (.cells #[.int .i64 x.vr, .int .i64 x.vv, .int .i64 x.vp, .int .i64 x.vf, .slice a.A14 x.vi.length a.c14, .slice a.A15 x.vs.length a.c15] 51) := ⟨_, rfl⟩
  rw [← hwx]
  obtain ⟨bp, hbp⟩ : ∃ bp, bp = wa.heap.size := ⟨_, rfl⟩
  obtain ⟨bv, hbv⟩ : ∃ bv, bv = wb.heap.size := ⟨_, rfl⟩
  have hbx : Below w.heap.size w wx := by rw [hwx]; exact HBB.out.alloc HBB.out.size _
  have H0 : Hid (Blk3 x a w wx w.heap.size bp bv) := Lib.hid ⟨by rw [hwx]; exact blk_alloc HLB.out _, by rw [hwx, hbp]; exact blk_alloc HPB.out _, by rw [hwx, hbv]; exact blk_new _ _, hbx, HX.out.below hbx⟩
  rw [← hbp, ← hbv]
  clear hwx hbx HX HLA HBA HSA HLB HPB HBB hbp hbv l10 l11 l12 l13 l14 l15
  have HS := Lib.hid (SameValue0_any (w := wx) x.v a.A7 a.c7 a.A8 a.c8 H0.out.c.h7 H0.out.c.l7 H0.out.c.h8 H0.out.c.l8)
  obtain ⟨l0, l1, l2, l3, l4, l5, l6, l7, l8, l9, l10, l11, l12, l13, l14, l15, l16, l17⟩ := cells18 H0.out.l
  clear l1 l2 l3 l4 l5 l6 l7 l8 l9 l10 l11 l12 l13 l14 l15
  obtain ⟨p0, p1, p2, p3, p4, p5, p6, p7, p8⟩ := cells9 H0.out.p
  have k1 : (x.k == 1) = false := beq_eq_false_iff_ne.mpr HK.out.1
  have k1n : (x.k != 1) = true := by rw [bne, k1]; rfl
  have k2 : (x.k == 2) = false := beq_eq_false_iff_ne.mpr HK.out.2.1
  have k2n : (x.k != 2) = true := by rw [bne, k2]; rfl
  have k3 : (x.k == 3) = false := beq_eq_false_iff_ne.mpr HK.out.2.2.1
  have k3n : (x.k != 3) = true := by rw [bne, k3]; rfl
  have k4 : (x.k == 4) = false := beq_eq_false_iff_ne.mpr HK.out.2.2.2
  have k4n : (x.k != 4) = true := by rw [bne, k4]; rfl
  cases h1 : (x.pv == 0)
  case false =>
    have h1n : (x.pv != 0) = true := by rw [bne, h1]; rfl
    have hbv : bareB x = false := by simp only [bareB, noP, k1, k2, k3, k4, h1, Bool.true_and, Bool.false_and, Bool.and_true, Bool.and_false, Bool.true_or, Bool.false_or, Bool.or_true, Bool.or_false, Bool.not_true, Bool.not_false]
    have HVV := Lib.hid (show goodL x = false by unfold goodL; rw [hbv]; rfl)
    clear hbv
    go_wp2
    go_ret
    exact ⟨by rw [HVV.out] <;> rfl, H0.out.b⟩
  case true =>
    have h1n : (x.pv != 0) = false := by rw [bne, h1]; rfl
    cases h2 : (x.pf == 0)
    case false =>
      have h2n : (x.pf != 0) = true := by rw [bne, h2]; rfl
      have hbv : bareB x = false := by simp only [bareB, noP, k1, k2, k3, k4, h1, h2, Bool.true_and, Bool.false_and, Bool.and_true, Bool.and_false, Bool.true_or, Bool.false_or, Bool.or_true, Bool.or_false, Bool.not_true, Bool.not_false]
      have HVV := Lib.hid (show goodL x = false by unfold goodL; rw [hbv]; rfl)
      clear hbv
      go_wp2
      go_ret
      exact ⟨by rw [HVV.out] <;> rfl, H0.out.b⟩
    case true =>
      have h2n : (x.pf != 0) = false := by rw [bne, h2]; rfl
      cases h3 : (x.px == 0)
      case false =>
        have h3n : (x.px != 0) = true := by rw [bne, h3]; rfl
        have hbv : bareB x = false := by simp only [bareB, noP, k1, k2, k3, k4, h1, h2, h3, Bool.true_and, Bool.false_and, Bool.and_true, Bool.and_false, Bool.true_or, Bool.false_or, Bool.or_true, Bool.or_false, Bool.not_true, Bool.not_false]
        have HVV := Lib.hid (show goodL x = false by unfold goodL; rw [hbv]; rfl)
        clear hbv
        go_wp2
        go_ret
        exact ⟨by rw [HVV.out] <;> rfl, H0.out.b⟩
      case true =>
        have h3n : (x.px != 0) = false := by rw [bne, h3]; rfl
        cases h4 : (x.ps.length == 0)
        case false =>
          have h4i : ((x.ps.length : Int) == 0) = false := (eq_len x.ps.length 0).trans h4
          have h4n : ((x.ps.length : Int) != 0) = true := by rw [bne, h4i]; rfl
          have hbv : bareB x = false := by simp only [bareB, noP, k1, k2, k3, k4, h1, h2, h3, h4, Bool.true_and, Bool.false_and, Bool.and_true, Bool.and_false, Bool.true_or, Bool.false_or, Bool.or_true, Bool.or_false, Bool.not_true, Bool.not_false]
          have HVV := Lib.hid (show goodL x = false by unfold goodL; rw [hbv]; rfl)
          clear hbv
          go_wp2
          go_ret
          exact ⟨by rw [HVV.out] <;> rfl, H0.out.b⟩
        case true =>
          have h4i : ((x.ps.length : Int) == 0) = true := (eq_len x.ps.length 0).trans h4
          have h4n : ((x.ps.length : Int) != 0) = false := by rw [bne, h4i]; rfl
          cases h5 : (zV x.v)
          case false =>
            have HQ := HS.out
            simp only [h5] at HQ
            have HSq := Lib.hid HQ
            clear HQ
            have hbv : bareB x = false := by simp only [bareB, noP, k1, k2, k3, k4, h1, h2, h3, h4, h5, Bool.true_and, Bool.false_and, Bool.and_true, Bool.and_false, Bool.true_or, Bool.false_or, Bool.or_true, Bool.or_false, Bool.not_true, Bool.not_false]
            have HVV := Lib.hid (show goodL x = false by unfold goodL; rw [hbv]; rfl)
            clear hbv
            go_wp2_with (go_at_call 68; (with_reducible refine (HSq.out).mono ?_); rintro e w2 ⟨rfl, hb2⟩)
            go_ret
            exact ⟨by rw [HVV.out] <;> rfl, H0.out.b.trans (hb2.mono H0.out.b.size)⟩
          case true =>
            have HQ := HS.out
            simp only [h5] at HQ
            have HSq := Lib.hid HQ
            clear HQ
            have hno : noP x = true := by simp only [noP, h1, h2, h3, h4, h5, Bool.true_and, Bool.false_and, Bool.and_true, Bool.and_false, Bool.true_or, Bool.false_or, Bool.or_true, Bool.or_false, Bool.not_true, Bool.not_false]
            have HNO := Lib.hid hno
            clear hno h1 h2 h3 h4
            go_upto_region 5 with (go_at_call 68; (with_reducible refine (HSq.out).mono ?_); rintro e w2 ⟨rfl, hb2⟩)
            have H1 := Lib.hid (H0.out.below hb2)
            clear hb2 l0 l16 l17 p0 p1 p2 p3 p4 p5 p6 p7 p8 h1n h2n h3n h4i h4n h5 HSq HS
            obtain ⟨l0, l1, l2, l3, l4, l5, l6, l7, l8, l9, l10, l11, l12, l13, l14, l15, l16, l17⟩ := cells18 H1.out.l
            clear l1 l2 l3 l4 l5 l6 l7 l8 l9 l10 l11 l12 l13 l14 l15
            obtain ⟨v0, v1, v2, v3, v4, v5⟩ := cells6 H1.out.v
            cases g1 : (x.vr == 0)
            case false =>
              have g1n : (x.vr != 0) = true := by rw [bne, g1]; rfl
              have hbv : bareB x = false := by simp only [bareB, noV, k1, k2, k3, k4, g1, Bool.true_and, Bool.false_and, Bool.and_true, Bool.and_false, Bool.true_or, Bool.false_or, Bool.or_true, Bool.or_false, Bool.not_true, Bool.not_false]
              have HVV := Lib.hid (show goodL x = false by unfold goodL; rw [hbv]; rfl)
              clear hbv
              go_wp2
              go_ret
              exact ⟨by rw [HVV.out] <;> rfl, H1.out.b⟩
            case true =>
              have g1n : (x.vr != 0) = false := by rw [bne, g1]; rfl
              cases g2 : (x.vv == 0)
              case false =>
                have g2n : (x.vv != 0) = true := by rw [bne, g2]; rfl
                have hbv : bareB x = false := by simp only [bareB, noV, k1, k2, k3, k4, g1, g2, Bool.true_and, Bool.false_and, Bool.and_true, Bool.and_false, Bool.true_or, Bool.false_or, Bool.or_true, Bool.or_false, Bool.not_true, Bool.not_false]
                have HVV := Lib.hid (show goodL x = false by unfold goodL; rw [hbv]; rfl)
                clear hbv
                go_wp2
                go_ret
                exact ⟨by rw [HVV.out] <;> rfl, H1.out.b⟩
              case true =>
                have g2n : (x.vv != 0) = false := by rw [bne, g2]; rfl
                cases g3 : (x.vp == 0)
                case false =>
                  have g3n : (x.vp != 0) = true := by rw [bne, g3]; rfl
                  have hbv : bareB x = false := by simp only [bareB, noV, k1, k2, k3, k4, g1, g2, g3, Bool.true_and, Bool.false_and, Bool.and_true, Bool.and_false, Bool.true_or, Bool.false_or, Bool.or_true, Bool.or_false, Bool.not_true, Bool.not_false]
                  have HVV := Lib.hid (show goodL x = false by unfold goodL; rw [hbv]; rfl)
                  clear hbv
                  go_wp2
                  go_ret
                  exact ⟨by rw [HVV.out] <;> rfl, H1.out.b⟩
                case true =>
                  have g3n : (x.vp != 0) = false := by rw [bne, g3]; rfl
                  cases g4 : (x.vf == 0)
                  case false =>
                    have g4n : (x.vf != 0) = true := by rw [bne, g4]; rfl
                    have hbv : bareB x = false := by simp only [bareB, noV, k1, k2, k3, k4, g1, g2, g3, g4, Bool.true_and, Bool.false_and, Bool.and_true, Bool.and_false, Bool.true_or, Bool.false_or, Bool.or_true, Bool.or_false, Bool.not_true, Bool.not_false]
                    have HVV := Lib.hid (show goodL x = false by unfold goodL; rw [hbv]; rfl)
                    clear hbv
                    go_wp2
                    go_ret
                    exact ⟨by rw [HVV.out] <;> rfl, H1.out.b⟩
                  case true =>
                    have g4n : (x.vf != 0) = false := by rw [bne, g4]; rfl
                    cases g5 : (x.vi.length == 0)
                    case false =>
                      have g5i : ((x.vi.length : Int) == 0) = false := (eq_len x.vi.length 0).trans g5
                      have g5n : ((x.vi.length : Int) != 0) = true := by rw [bne, g5i]; rfl
                      have hbv : bareB x = false := by simp only [bareB, noV, k1, k2, k3, k4, g1, g2, g3, g4, g5, Bool.true_and, Bool.false_and, Bool.and_true, Bool.and_false, Bool.true_or, Bool.false_or, Bool.or_true, Bool.or_false, Bool.not_true, Bool.not_false]
                      have HVV := Lib.hid (show goodL x = false by unfold goodL; rw [hbv]; rfl)
                      clear hbv
                      go_wp2
                      go_ret
                      exact ⟨by rw [HVV.out] <;> rfl, H1.out.b⟩
                    case true =>
                      have g5i : ((x.vi.length : Int) == 0) = true := (eq_len x.vi.length 0).trans g5
                      have g5n : ((x.vi.length : Int) != 0) = false := by rw [bne, g5i]; rfl
                      cases g6 : (x.vs.length == 0)
                      case false =>
                        have g6i : ((x.vs.length : Int) == 0) = false := (eq_len x.vs.length 0).trans g6
                        have g6n : ((x.vs.length : Int) != 0) = true := by rw [bne, g6i]; rfl
                        have hbv : bareB x = false := by simp only [bareB, noV, k1, k2, k3, k4, g1, g2, g3, g4, g5, g6, Bool.true_and, Bool.false_and, Bool.and_true, Bool.and_false, Bool.true_or, Bool.false_or, Bool.or_true, Bool.or_false, Bool.not_true, Bool.not_false]
                        have HVV := Lib.hid (show goodL x = false by unfold goodL; rw [hbv]; rfl)
                        clear hbv
                        go_wp2
                        go_ret
                        exact ⟨by rw [HVV.out] <;> rfl, H1.out.b⟩
                      case true =>
                        have g6i : ((x.vs.length : Int) == 0) = true := (eq_len x.vs.length 0).trans g6
                        have g6n : ((x.vs.length : Int) != 0) = false := by rw [bne, g6i]; rfl
                        have hnv : noV x = true := by simp only [noV, g1, g2, g3, g4, g5, g6, Bool.true_and, Bool.false_and, Bool.and_true, Bool.and_false, Bool.true_or, Bool.false_or, Bool.or_true, Bool.or_false, Bool.not_true, Bool.not_false]
                        have HNV := Lib.hid hnv
                        clear hnv g1 g2 g3 g4
                        go_upto_region 7 with (fail)
                        clear v0 v1 v2 v3 v4 v5 g1n g2n g3n g4n g5 g5i g5n g6 g6i g6n
                        cases r0 : (x.r == 0)
                        case false =>
                          have r0n : (x.r != 0) = true := by rw [bne, r0]; rfl
                          have hbv : bareB x = false := by simp only [bareB, HNO.out, HNV.out, k1, k2, k3, k4, r0, Bool.true_and, Bool.false_and, Bool.and_true, Bool.and_false, Bool.true_or, Bool.false_or, Bool.or_true, Bool.or_false, Bool.not_true, Bool.not_false]
                          have HVV := Lib.hid (show goodL x = false by unfold goodL; rw [hbv]; rfl)
                          clear hbv
                          go_wp2
                          go_ret
                          exact ⟨by rw [HVV.out] <;> rfl, H1.out.b⟩
                        case true =>
                          have r0n : (x.r != 0) = false := by rw [bne, r0]; rfl
                          cases e0 : (x.es.length == 0)
                          case false =>
                            have e0p : decide ((0 : Int) < (x.es.length : Int)) = true := by rw [dec_pos, e0]; rfl
                            have e0q : decide (0 < x.es.length) = true := (show decide (0 < x.es.length) = decide ((0 : Int) < (x.es.length : Int)) by simp).trans e0p
                            have hbv : bareB x = false := by simp only [bareB, HNO.out, HNV.out, k1, k2, k3, k4, r0, e0, Bool.true_and, Bool.false_and, Bool.and_true, Bool.and_false, Bool.true_or, Bool.false_or, Bool.or_true, Bool.or_false, Bool.not_true, Bool.not_false]
                            have HVV := Lib.hid (show goodL x = false by unfold goodL; rw [hbv]; rfl)
                            clear hbv
                            go_wp2
                            go_ret
                            exact ⟨by rw [HVV.out] <;> rfl, H1.out.b⟩
                          case true =>
                            have e0p : decide ((0 : Int) < (x.es.length : Int)) = false := by rw [dec_pos, e0]; rfl
                            have e0q : decide (0 < x.es.length) = false := (show decide (0 < x.es.length) = decide ((0 : Int) < (x.es.length : Int)) by simp).trans e0p
                            have hbr : bareB x = true := by simp only [bareB, HNO.out, HNV.out, k1, k2, k3, k4, r0, e0, Bool.true_and, Bool.false_and, Bool.and_true, Bool.and_false, Bool.true_or, Bool.false_or, Bool.or_true, Bool.or_false, Bool.not_true, Bool.not_false]
                            have HGV := Lib.hid (show goodL x = false by unfold goodL; rw [hbr, if_neg HK.out.1, if_neg HK.out.2.1, if_neg HK.out.2.2.1, if_neg HK.out.2.2.2]; rfl)
                            clear hbr
                            go_wp2
                            go_ret
                            exact ⟨by rw [HGV.out] <;> rfl, H1.out.b⟩
end Go.Proofs.YtpeebjnfmlfocaaDoor.Sh
