import Derived.Test.YtpeebjnfmlfocaaPrint0
import Derived.Test.YtpeebjnfmlfocaaBld
import Derived.Test.YtpeebjnfmlfocaaShelf
import Derived.LoopTactic
import Derived.Lib.Hide
import Derived.Laws.RangeString
namespace Go.Proofs.Ytpeebjnfmlfocaa.Print
open Go.RowKit Go.Proofs.YtpeebjnfmlfocaaW.PrintWords Go.Proofs.YtpeebjnfmlfocaaW.PrintLast Go.Proofs.YtpeebjnfmlfocaaW.PrintMore
set_option linter.unusedVariables false

def hexD : ByteArray := ⟨#[48, 49, 50, 51, 52, 53, 54, 55, 56, 57, 97, 98, 99, 100, 101, 102]⟩
/-- a digit's byte -/
def dg (i : Int) : UInt8 := if h : i.toNat < hexD.size then hexD[i.toNat] else 0
theorem dg_at (i : Int) : ∀ h : i.toNat < hexD.size, hexD[i.toNat]'h = dg i := fun h => by simp [dg, h]
def hexL (l : List Int) : List UInt8 := l.flatMap fun x => [dg (x / 16), dg (x % 16)]
def hex_Text.f (l : List Int) : Option ByteArray := if l.all (fun x => 0 ≤ x && x ≤ 255) && decide (l.length ≤ 1000000) then some ⟨(hexL l).toArray⟩ else none

theorem C_int_at {k : IntKind} {w : World} {A : Option Addr} {n : Nat} {xs : List Int} (h : (Kd.int k).C w A n xs) (j : Nat) (hj : j < n) :
    ∃ ad, A = some ad ∧ w.cell? (ad.add j) = some (.int k (xs.getD j 0)) := by
  obtain ⟨ad, c, e, hl, hK, hc⟩ := Kd.C_get h 0 (j : Int) (by omega) (by omega)
  refine ⟨ad, e, ?_⟩
  have hK' : c = [.int k (xs.getD j 0)] := hK
  subst hK'
  have h2 : w.cell? (ad.add (j * 1 + 0)) = some (.int k (xs.getD j 0)) := hc 0 _ rfl
  simpa using h2


theorem hexL_len (l : List Int) : (hexL l).length = 2 * l.length := by
  induction l with
  | nil => rfl
  | cons x l ih => simp [hexL] at ih ⊢; omega

theorem hexL_snoc (l : List Int) (k : Nat) (h : k < l.length) : hexL (l.take (k + 1)) = hexL (l.take k) ++ [dg (l.getD k 0 / 16), dg (l.getD k 0 % 16)] := by
  rw [List.take_succ_eq_append_getElem h]
  simp only [hexL, List.flatMap_append, List.flatMap_cons, List.flatMap_nil, List.append_nil]
  simp [h]

theorem start_builder (w : World) : Lib.IsBuilder 50 5 w.heap.size w.heap.size (Lib.byteCells []) (w.alloc (.cells #[.pointer none, .slice none 0 0] 50)) :=
  .inl ⟨Nat.le_refl _, _, heap_alloc_new w _, World.ownsRow_nil _ _ _ _, by simp [Value.ownBlock]⟩

set_option maxHeartbeats 1000000 in
theorem hex_Text.calls (A0 : Option Addr) (c0 : Nat) (l0 : List Int) (r : ByteArray) (w : World) (hr0 : Kd.C (Kd.int .u8) w A0 l0.length l0) (hc0 : l0.length ≤ c0) (h : hex_Text.f l0 = some r) :
    Calls Try.prog 15 #[.slice A0 l0.length c0] w fun e w' => e = .returned (.string r) ∧ Below w.heap.size w w' := by
  unfold hex_Text.f at h
  split at h
  · rename_i hb
    rw [Option.some.injEq] at h
    subst h
    simp only [Bool.and_eq_true, decide_eq_true_eq, List.all_eq_true] at hb
    obtain ⟨hb0, hn⟩ := hb
    have hb : Hid (∀ x ∈ l0, 0 ≤ x ∧ x ≤ 255) := hb0
    clear hb0
    have hr : Hid (Kd.C (Kd.int .u8) w A0 l0.length l0) := hr0
    clear hr0
    have hst := start_builder w
    go_enter Try.func15, Try.ntmps15
    go_wp2
    go_loopw [8] (fun i wr => ∃ k : Nat, k ≤ l0.length ∧ i = .int .i64 k ∧ Lib.IsBuilder 50 5 w.heap.size w.heap.size (Lib.byteCells (hexL (l0.take k))) wr ∧ Below w.heap.size w wr) (fun i _ => l0.length - (intOf i).toNat)
    case atStart => exact ⟨0, by omega, rfl, hst, (Below.refl _ _).alloc (Nat.le_refl _) _⟩
    case round =>
      obtain ⟨k, hk, rfl, hB, hw⟩ := hrel
      clear hst
      have hlen := hexL_len (l0.take k)
      have hlen2 : (l0.take k).length ≤ k := List.length_take_le _ _
      have hsz := hw.size
      by_cases hlt : k < l0.length
      · obtain ⟨ad, rfl, hcell⟩ := C_int_at (Kd.C_below hr hw) k hlt
        obtain ⟨x, hx⟩ : ∃ x, x = l0.getD k 0 := ⟨_, rfl⟩
        have hx1 : 0 ≤ x ∧ x ≤ 255 := by rw [hx]; refine hb _ ?_; rw [List.getD_eq_getElem?_getD, List.getElem?_eq_getElem hlt]; exact List.getElem_mem hlt
        rw [← hx] at hcell
        have HX : Hid (x = l0.getD k 0) := hx
        clear hx
        go_wp2_with (first
          | (go_at_call 23; refine (Bld.writeByte _ _ _ _ _ hB (by simp [Lib.byteCells]; omega) hsz).mono ?_; rintro e w2 ⟨rfl, hB2, hb2⟩)
          | (go_at_call 23; refine (Bld.writeByte _ _ _ _ _ (.inr hB2) (by simp [Lib.byteCells]; omega) (by have := hb2.size; omega)).mono ?_; rintro e w3 ⟨rfl, hB3, hb3⟩))
        go_roundw
        case rel =>
          refine ⟨k + 1, by omega, by go_num, .inr ?_, (hw.trans hb2).trans hb3⟩
          rw [hexL_snoc _ _ hlt, ← HX.out]
          have e1 := dg_at (x / 16) (by show _ < 16; omega)
          have e2 := dg_at (x % 16) (by show _ < 16; omega)
          unfold hexD at e1 e2
          rw [e1, e2] at hB3
          simpa [Lib.byteCells] using hB3
        case measure => simp [intOf]; omega
      · go_wp2_with (go_at_call 24; refine (Try.Builder_String_any _ _ _ _ hB hsz).mono ?_; rintro e w2 ⟨rfl, hb2⟩)
        go_ret
        refine ⟨?_, hw.trans hb2⟩
        rw [List.take_of_length_le (by omega)]
        rfl
  · simp at h

/-- a digit's value -/
def digv (c : Int) : Int := if 48 ≤ c ∧ c ≤ 57 then c - 48 else if 97 ≤ c ∧ c ≤ 102 then c - 87 else -1
def hex_digit.f (c : Int) : Option Int := if 0 ≤ c ∧ c ≤ 255 then some (digv c) else none

theorem hexD_asc (p : Nat) (h : p < hexD.size) : (hexD[p]'h).toNat < 128 := by
  have : ∀ q : Fin 16, (hexD[q.1]'q.2).toNat < 128 := by decide
  exact this ⟨p, h⟩
theorem digv_hexD (p : Nat) (h : p < hexD.size) : digv ((hexD[p]'h).toNat : Int) = p := by
  have : ∀ q : Fin 16, digv ((hexD[q.1]'q.2).toNat : Int) = q.1 := by decide
  exact this ⟨p, h⟩
theorem digv_none (c : Int) (h : ∀ j, (hj : j < hexD.size) → ((hexD[j]'hj).toNat : Int) ≠ c) : digv c = -1 := by
  have h0 : (48 : Int) ≠ c := h 0 (by decide)
  have h1 : (49 : Int) ≠ c := h 1 (by decide)
  have h2 : (50 : Int) ≠ c := h 2 (by decide)
  have h3 : (51 : Int) ≠ c := h 3 (by decide)
  have h4 : (52 : Int) ≠ c := h 4 (by decide)
  have h5 : (53 : Int) ≠ c := h 5 (by decide)
  have h6 : (54 : Int) ≠ c := h 6 (by decide)
  have h7 : (55 : Int) ≠ c := h 7 (by decide)
  have h8 : (56 : Int) ≠ c := h 8 (by decide)
  have h9 : (57 : Int) ≠ c := h 9 (by decide)
  have ha : (97 : Int) ≠ c := h 10 (by decide)
  have hb : (98 : Int) ≠ c := h 11 (by decide)
  have hc : (99 : Int) ≠ c := h 12 (by decide)
  have hd : (100 : Int) ≠ c := h 13 (by decide)
  have he : (101 : Int) ≠ c := h 14 (by decide)
  have hf : (102 : Int) ≠ c := h 15 (by decide)
  unfold digv
  omega

set_option maxHeartbeats 1000000 in
set_option maxRecDepth 1000000 in
theorem hex_digit.calls (a0 : Int) (r : Int) (w : World) (h : hex_digit.f a0 = some r) :
    Calls Try.prog 26 #[.int .u8 a0] w fun e w' => e = .returned (.int .i64 r) ∧ Below w.heap.size w w' := by
  unfold hex_digit.f at h
  split at h
  · rename_i hb
    rw [Option.some.injEq] at h
    subst h
    obtain ⟨h0, h1⟩ := hb
    obtain ⟨S, hS⟩ : ∃ S, S = hexD := ⟨_, rfl⟩
    go_enter Try.func26, Try.ntmps26
    have HS : Hid (S = hexD) := hS
    unfold hexD at hS
    rw [← hS]
    clear hS
    have hsz : S.size = 16 := by rw [HS.out]; rfl
    go_wp2
    go_loopw [] (fun w' => ∃ pos : Nat, w' = w.iter S pos ∧ pos ≤ S.size ∧ Hid (∀ j, (hj : j < S.size) → j < pos → ((S[j]'hj).toNat : Int) ≠ a0)) (fun w' => S.size - w'.iterPos w.heap.size)
    case atStart => exact ⟨0, rfl, by omega, fun j _ hj => by omega⟩
    case round =>
      obtain ⟨pos, rfl, hp0, hall⟩ := hrel
      by_cases hp : pos < S.size
      · have hasc : (S[pos]'hp).toNat < 128 := by
          have := HS.out
          subst this
          exact hexD_asc pos hp
        have hnx : ∀ ty, (Instr.next (.pointer (some ⟨w.heap.size, 0, none⟩)) true ty).run Try.prog (w.iter S pos) = _ := fun ty => run_next_ascii w S pos ty hp hasc
        go_wp2
        · rename_i hit
          have hit' : ((S[pos]'hp).toNat : Int) = a0 := by simpa using hit
          go_ret
          have hd : digv a0 = pos := by
            have := HS.out
            subst this
            rw [← hit']
            exact digv_hexD pos hp
          exact ⟨by rw [hd]; rfl, (Below.refl _ _).alloc (Nat.le_refl _) _⟩
        · rename_i hit
          have hit' : ((S[pos]'hp).toNat : Int) ≠ a0 := by simpa using hit
          clear hit
          go_roundw
          case rel =>
            refine ⟨pos + 1, rfl, by omega, fun j hj hlt => ?_⟩
            rcases Nat.lt_or_ge j pos with h | h
            · exact hall.out j hj h
            · obtain rfl : j = pos := by omega
              exact hit'
          case measure =>
            simp
            omega
      · have hnx : ∀ ty, (Instr.next (.pointer (some ⟨w.heap.size, 0, none⟩)) true ty).run Try.prog (w.iter S pos) = _ := fun ty => run_next_end w S pos ty hp
        go_wp2
        go_ret
        have hd : digv a0 = -1 := by
          have := HS.out
          subst this
          exact digv_none a0 fun j hj => hall.out j hj (by omega)
        exact ⟨by rw [hd]; rfl, (Below.refl _ _).alloc (Nat.le_refl _) _⟩
  · simp at h

/-! Groups -/
def refG (n : Nat) : Nat → List Int → List UInt8
  | _, [] => []
  | i, x :: l => (if 0 < n ∧ 0 < i ∧ i % n = 0 then [32] else []) ++ hexL [x] ++ refG n (i + 1) l

theorem hexL_cons (x : Int) (l : List Int) : hexL (x :: l) = hexL [x] ++ hexL l := by simp [hexL]
theorem hexL_app (l l' : List Int) : hexL (l ++ l') = hexL l ++ hexL l' := by simp [hexL]

theorem refG_run (n m : Nat) (l : List Int) : ∀ i, (∀ j, 0 < j → j < m → ¬ (0 < n ∧ (i + j) % n = 0)) → m ≤ l.length → 0 < m →
    refG n i l = (if 0 < n ∧ 0 < i ∧ i % n = 0 then [32] else []) ++ hexL (l.take m) ++ refG n (i + m) (l.drop m) := by
  induction m generalizing l with
  | zero => intro i _ _ h; omega
  | succ m ih =>
    intro i hj hm _
    match l, hm with
    | x :: l, hm =>
      rcases Nat.eq_zero_or_pos m with rfl | h
      · simp [refG]
      · have h1 := ih l (i + 1) (fun j h0 h1 h2 => hj (j + 1) (by omega) (by omega) ⟨h2.1, by rw [← h2.2]; congr 1; omega⟩) (by simp at hm; omega) h
        have h3 : ¬ (0 < n ∧ 0 < i + 1 ∧ (i + 1) % n = 0) := fun h2 => hj 1 (by omega) (by omega) ⟨h2.1, h2.2.2⟩
        rw [refG, h1, if_neg h3]
        rw [List.take_succ_cons, List.drop_succ_cons, hexL_cons x (l.take m), show i + 1 + m = i + (m + 1) by omega]
        simp

theorem refG_zero (l : List Int) : ∀ i, refG 0 i l = hexL l := by
  induction l with
  | nil => intro i; rfl
  | cons x l ih => intro i; rw [refG, ih, hexL_cons x l, if_neg (by omega)]; simp

def grpInv (n : Nat) (l0 : List Int) (strs : List ByteArray) (rest : List Int) : Prop :=
  ∃ i, i + rest.length = l0.length ∧ (i = 0 → strs = [] ∧ rest = l0) ∧ (0 < i → strs ≠ [] ∧ (rest ≠ [] → i % n = 0) ∧ Lib.join (strs.map (·.data.toList)) [32] ++ refG n i rest = refG n 0 l0)

theorem join_snoc (strs : List (List UInt8)) (x sep : List UInt8) (h : strs ≠ []) : Lib.join (strs ++ [x]) sep = Lib.join strs sep ++ (sep ++ x) := by
  match strs, h with
  | y :: r, _ => simp [Lib.join_cons, Lib.joinTail]

theorem grpInv_step (n : Nat) (l0 : List Int) (strs : List ByteArray) (rest : List Int) (t : ByteArray) (m : Nat) (hn : 0 < n) (hm : m = min n rest.length) (hr : 0 < rest.length) (ht : t = ⟨(hexL (rest.take m)).toArray⟩)
    (h : grpInv n l0 strs rest) : grpInv n l0 (strs ++ [t]) (rest.drop m) := by
  obtain ⟨i, h1, h2, h3⟩ := h
  have hl : (rest.drop m).length = rest.length - m := List.length_drop
  have htl : t.data.toList = hexL (rest.take m) := by rw [ht]
  have hne : ∀ j, 0 < j → j < m → ∀ i, i % n = 0 → ¬ (0 < n ∧ (i + j) % n = 0) := by
    intro j h0 h1 i hi h
    have := h.2
    rw [Nat.add_mod, hi, Nat.zero_add, Nat.mod_mod, Nat.mod_eq_of_lt (by omega)] at this
    omega
  have hmod : rest.drop m ≠ [] → m = n := by
    intro h
    have : 0 < (rest.drop m).length := List.length_pos_iff.2 h
    omega
  refine ⟨i + m, by omega, fun h => by omega, fun _ => ⟨by simp, ?_, ?_⟩⟩
  · intro hd
    have := hmod hd
    subst this
    rcases Nat.eq_zero_or_pos i with rfl | hi
    · simp
    · rw [Nat.add_mod_right]
      exact (h3 hi).2.1 (by intro e; rw [e] at hr; simp at hr)
  · rcases Nat.eq_zero_or_pos i with rfl | hi
    · obtain ⟨rfl, rfl⟩ := h2 rfl
      have h5 := refG_run n m rest 0 (fun j h0 h1 => hne j h0 h1 0 (by simp)) (by omega) (by omega)
      rw [h5]
      simp [Lib.join_one, htl]
    · obtain ⟨h4, h5, h6⟩ := h3 hi
      have hz := h5 (by intro e; rw [e] at hr; simp at hr)
      have h7 := refG_run n m rest i (fun j h0 h1 => hne j h0 h1 i hz) (by omega) (by omega)
      rw [List.map_append, List.map_singleton, join_snoc _ _ _ (by simpa using h4), ← h6, h7, if_pos ⟨hn, hi, hz⟩, htl]
      simp

theorem grpInv_end (n : Nat) (l0 : List Int) (strs : List ByteArray) (rest : List Int) (hr : rest = []) (h : grpInv n l0 strs rest) : Lib.join (strs.map (·.data.toList)) [32] = refG n 0 l0 := by
  subst hr
  obtain ⟨i, h1, h2, h3⟩ := h
  rcases Nat.eq_zero_or_pos i with rfl | hi
  · obtain ⟨rfl, rfl⟩ := h2 rfl
    rfl
  · have := (h3 hi).2.2
    simpa [refG] using this

def hex_Groups.f (l : List Int) (n : Int) : Option ByteArray := if l.all (fun x => 0 ≤ x && x ≤ 255) && decide (l.length ≤ 1000000) then some ⟨(refG n.toNat 0 l).toArray⟩ else none

theorem min2i (k k' : IntKind) (x y : Int) : Builtin.min2 (.int k x) (.int k' y) = pure (.int k (if y < x then y else x)) := by simp only [Builtin.min2]
theorem mini (ats : Array TypeId) (ty : TypeId) (a b : Value) : Builtin.min_ ats ty #[a, b] = (Builtin.min2 a b >>= fun s => pure s) := by simp only [Builtin.min_, List.foldlM_cons, List.foldlM_nil]
theorem info5m : (Try.prog.info? 5).map (fun i => (i.zero, i.size, i.bytes)) = some (some (.int .u8 0), 1, 1) := by kernel_rfl
theorem info9m : (Try.prog.info? 9).map (fun i => (i.zero, i.size, i.bytes)) = some (some (.string ⟨#[]⟩), 1, 16) := by kernel_rfl

/-- xs[m:] of a row that is read -/
theorem cut_lo (A : Option Addr) (n c m : Nat) (hm : m ≤ n) (hc : n ≤ c) :
    ∃ A' : Option Addr, (∀ W : World, (Instr.slice 25 (.slice A n c) (some (.int .i64 m)) none none).run Try.prog W = .ok (.slice A' (n - m) (c - m)) W) ∧
      (∀ (w : World) (xs : List Int), Kd.C (Kd.int .u8) w A n xs → Kd.C (Kd.int .u8) w A' (n - m) (xs.drop m)) := by
  obtain ⟨i0, hi, hz0, hz1, hz2⟩ := info_parts info5m
  have hel : Try.prog.elem 25 = 5 := by simp [Program.elem, Try.underlying25]
  have hu : Try.prog.underlying 25 = some (.slice (Try.prog.elem 25)) := by rw [hel]; exact Try.underlying25
  refine ⟨if c = m then A else A.map (·.add (m * (Kd.int .u8).sz)), fun W => ?_, fun w xs h => ?_⟩
  · rw [run_slice_l W 25 A n c hu .i64 (m : Int) (Int.natCast_nonneg _) (by omega), hel]
    simp [sizeOf, typeInfo, hi, hz1, sliced, Result.andThen, show (Kd.int .u8).sz = 1 from rfl]
  · have hl := Kd.C_len h
    subst hl
    have := Kd.C_drop h hm hc
    rwa [List.length_drop] at this

/-- xs[:m] of a row that is read -/
theorem cut_hi (A : Option Addr) (n c m : Nat) (hm : m ≤ n) (hc : n ≤ c) :
    (∀ W : World, (Instr.slice 25 (.slice A n c) none (some (.int .i64 m)) none).run Try.prog W = .ok (.slice A m c) W) ∧
      (∀ (w : World) (xs : List Int), Kd.C (Kd.int .u8) w A n xs → Kd.C (Kd.int .u8) w A m (xs.take m)) := by
  obtain ⟨i0, hi, hz0, hz1, hz2⟩ := info_parts info5m
  have hel : Try.prog.elem 25 = 5 := by simp [Program.elem, Try.underlying25]
  have hu : Try.prog.underlying 25 = some (.slice (Try.prog.elem 25)) := by rw [hel]; exact Try.underlying25
  have ha : (A.map fun x => x.add 0) = A := by cases A <;> simp [Addr.add]
  refine ⟨fun W => ?_, fun w xs h => ?_⟩
  · rw [run_slice_h W 25 A n c hu .i64 (m : Int) (Int.natCast_nonneg _) (by omega), hel]
    simp [sizeOf, typeInfo, hi, hz1, sliced, Result.andThen, ha]
  · have hl := Kd.C_len h
    subst hl
    have := Kd.C_take h hm
    rwa [show (xs.take m).length = m by rw [List.length_take]; omega] at this

theorem hex_Text_n (A0 : Option Addr) (n c0 : Nat) (l0 : List Int) (r : ByteArray) (w : World) (hr0 : Kd.C (Kd.int .u8) w A0 n l0) (hc0 : n ≤ c0) (h : hex_Text.f l0 = some r) :
    Calls Try.prog 15 #[.slice A0 n c0] w fun e w' => e = .returned (.string r) ∧ Below w.heap.size w w' := by
  have hl := Kd.C_len hr0
  subst hl
  exact hex_Text.calls A0 c0 l0 r w hr0 hc0 h

theorem join_R {base : Nat} {ok : Nat → Prop} {v : Value} {strs : List ByteArray} {sep : ByteArray} {w : World} (h : Kd.R Kd.string 9 w base ok v strs) (hn : strs.length ≤ 140737488355328)
    (hlen : (Lib.join (strs.map fun x => x.data.toList) sep.data.toList).length ≤ 140737488355328) :
    Calls Try.prog 25 #[v, .string sep] w fun e w' => e = .returned (.string ⟨(Lib.join (strs.map fun x => x.data.toList) sep.data.toList).toArray⟩) ∧ Below w.heap.size w w' := by
  have ho := Kd.own_of_R (enc := Value.string) h
  rcases ho.2 with ⟨rfl, h0⟩ | ⟨g, cap, cur, rfl, hg, hh, hcap, _, hsz, htk⟩
  · have : strs = [] := List.length_eq_zero_iff.1 h0
    subst this
    refine (Try.strings_Join_none none 0 sep w).mono ?_
    rintro e w' ⟨rfl, rfl⟩
    exact ⟨rfl, Below.refl _ _⟩
  · refine Try.strings_Join g 0 cap strs sep w (fun j x hj => ?_) ?_ hn hcap hlen
    · have hj' : j < strs.length := (List.getElem?_eq_some_iff.1 hj).1
      rw [Nat.zero_add, ho.cellAt j (by omega)]
      simp [encs, hj]
    · rcases Nat.lt_or_ge g w.heap.size with h' | h'
      · exact h'
      · rw [Array.getElem?_eq_none h'] at hh
        cases hh

theorem refG_len (n : Nat) (l : List Int) : ∀ i, (refG n i l).length ≤ 3 * l.length := by
  induction l with
  | nil => intro i; simp [refG]
  | cons x l ih =>
    intro i
    have h1 := ih (i + 1)
    have h2 := hexL_len [x]
    simp only [refG, List.length_append, List.length_cons] at h1 h2 ⊢
    have h3 : (if 0 < n ∧ 0 < i ∧ i % n = 0 then ([32] : List UInt8) else []).length ≤ 1 := by split <;> simp
    simp at h2
    omega

attribute [local go_sem] min2i mini
set_option maxHeartbeats 2000000 in
theorem hex_Groups.calls (A0 : Option Addr) (c0 : Nat) (l0 : List Int) (a1 : Int) (r : ByteArray) (w : World) (hr0 : Kd.C (Kd.int .u8) w A0 l0.length l0) (hc0 : l0.length ≤ c0) (h : hex_Groups.f l0 a1 = some r) :
    Calls Try.prog 17 #[.slice A0 l0.length c0, .int .i64 a1] w fun e w' => e = .returned (.string r) ∧ Below w.heap.size w w' := by
  unfold hex_Groups.f at h
  split at h
  · rename_i hb
    rw [Option.some.injEq] at h
    subst h
    have hb1 := hb
    simp only [Bool.and_eq_true, decide_eq_true_eq, List.all_eq_true] at hb
    obtain ⟨hb0, hn⟩ := hb
    have hT : ∀ m, hex_Text.f (l0.take m) = some ⟨(hexL (l0.take m)).toArray⟩ := fun m => by
      unfold hex_Text.f
      rw [if_pos]
      simp only [Bool.and_eq_true, decide_eq_true_eq, List.all_eq_true]
      exact ⟨fun x hx => hb0 x (List.mem_of_mem_take hx), by rw [List.length_take]; omega⟩
    by_cases ha : a1 < 1
    · have h1 : a1.toNat = 0 := by omega
      have hT' := hT l0.length
      rw [List.take_length] at hT'
      clear hT
      go_enter Try.func17, Try.ntmps17
      go_wp2_with (go_at_call 15; refine (hex_Text.calls _ _ l0 _ _ hr0 hc0 hT').mono ?_; rintro e w' ⟨rfl, hbl⟩)
      go_ret
      exact ⟨by rw [h1, refG_zero]; rfl, hbl⟩
    · obtain ⟨n, rfl⟩ : ∃ n : Nat, a1 = n := ⟨a1.toNat, by omega⟩
      have hn0 : 0 < n := by omega
      rw [Int.toNat_natCast]
      have hF : Hid (∀ rest m, (∃ k, rest = l0.drop k) → hex_Text.f (rest.take m) = some ⟨(hexL (rest.take m)).toArray⟩) := by
        rintro rest m ⟨k, rfl⟩
        unfold hex_Text.f
        rw [if_pos]
        simp only [Bool.and_eq_true, decide_eq_true_eq, List.all_eq_true]
        exact ⟨fun x hx => hb0 x (List.mem_of_mem_drop (List.mem_of_mem_take hx)), by rw [List.length_take, List.length_drop]; omega⟩
      have hr : Hid (Kd.C (Kd.int .u8) w A0 l0.length l0) := hr0
      clear hT hb1 hb0 hr0
      go_enter Try.func17, Try.ntmps17
      go_wp2
      go_loopw [0, 5, 6] (fun v0 v5 v6 wr => ∃ (A : Option Addr) (c rl : Nat) (rest : List Int) (strs : List ByteArray), v0 = .slice A rl c ∧ Kd.C (Kd.int .u8) w A rl rest ∧ rl ≤ c ∧
          Kd.R Kd.string 9 wr w.heap.size (fun _ => True) v5 strs ∧ Hid (grpInv n l0 strs rest) ∧ Hid (∃ k, rest = l0.drop k) ∧ rl ≤ 1000000 ∧ strs.length + rl ≤ 1000000 ∧ Below w.heap.size w wr) (fun v0 _ _ _ => match v0 with | .slice _ n _ => n | _ => 0)
      case atStart => exact ⟨A0, c0, l0.length, l0, [], rfl, hr, hc0, Kd.R_nil _ _ _ _ _, ⟨0, by simp, fun _ => ⟨rfl, rfl⟩, fun h => by omega⟩, ⟨0, rfl⟩, by omega, by simpa using hn, Below.refl _ _⟩
      case round =>
        obtain ⟨A, c, rl, rest, strs, rfl, hC, hc, hR, hI, hk, hl, hl2, hw⟩ := hrel
        have HL : Hid (rest.length = rl) := Kd.C_len hC
        have HC : Hid (Kd.C (Kd.int .u8) w A rl rest) := hC
        have HR : Hid (Kd.R Kd.string 9 wr w.heap.size (fun _ => True) u5 strs) := hR
        clear hC hR
        by_cases hlt : 0 < rl
        · rcases Nat.lt_or_ge rl n with hc1 | hc1
          · have hm1 : rl ≤ rl := by omega
            have hm2 : 0 < rl := by omega
            obtain ⟨s1, s2⟩ := cut_hi A rl c rl hm1 hc
            obtain ⟨A2, t1, t2⟩ := cut_lo A rl c rl hm1 hc
            have HT := Lib.hid (hF rest rl hk)
            have S2 := Lib.hid (s2 _ rest HC)
            have T2 := Lib.hid t2
            have hmc : rl ≤ c := by omega
            clear s2 t2
            go_wp2_with (first
              | (go_at_call 15; refine (hex_Text_n _ _ _ (rest.take rl) _ _ (Kd.C_below S2.out hw) hmc HT.out).mono ?_; rintro e w2 ⟨rfl, hb2⟩)
              | (at_builtin; refine Kd.R_append Kd.string (w0 := w) w.heap.size rfl (.tmp 18) (.tmp 23) 56 9 (.string ⟨#[]⟩) 16 rfl Try.underlying56 info9m rfl (by decide) (by omega) u5 strs ⟨(hexL (rest.take rl)).toArray⟩ [.string ⟨(hexL (rest.take rl)).toArray⟩] (fun _ => True) (fun _ => False) rfl rfl rfl (fun _ hk => hk.elim) (fun _ _ => trivial) (Kd.R_below HR.out hb2) (hw.trans (hb2.mono hw.size)) (Nat.le_trans hw.size hb2.size) (by omega) ?_; intro v3 w3 hO3 hb3 hg3 _))
            go_roundw
            case rel =>
              refine ⟨A2, c - rl, rl - rl, rest.drop rl, strs ++ [_], (by first | rfl | simp), T2.out _ _ HC.out, by omega, hO3, ?_, ?_, by omega, by simp; omega, hb3⟩
              · exact grpInv_step n l0 strs rest _ rl hn0 (by rw [HL.out]; omega) (by rw [HL.out]; omega) rfl hI
              · obtain ⟨k, hk'⟩ := hk.out
                exact ⟨k + rl, by rw [hk', List.drop_drop]⟩
            case measure => simp; omega
          · have hm1 : n ≤ rl := by omega
            have hm2 : 0 < n := by omega
            obtain ⟨s1, s2⟩ := cut_hi A rl c n hm1 hc
            obtain ⟨A2, t1, t2⟩ := cut_lo A rl c n hm1 hc
            have HT := Lib.hid (hF rest n hk)
            have S2 := Lib.hid (s2 _ rest HC)
            have T2 := Lib.hid t2
            have hmc : n ≤ c := by omega
            clear s2 t2
            go_wp2_with (first
              | (go_at_call 15; refine (hex_Text_n _ _ _ (rest.take n) _ _ (Kd.C_below S2.out hw) hmc HT.out).mono ?_; rintro e w2 ⟨rfl, hb2⟩)
              | (at_builtin; refine Kd.R_append Kd.string (w0 := w) w.heap.size rfl (.tmp 18) (.tmp 23) 56 9 (.string ⟨#[]⟩) 16 rfl Try.underlying56 info9m rfl (by decide) (by omega) u5 strs ⟨(hexL (rest.take n)).toArray⟩ [.string ⟨(hexL (rest.take n)).toArray⟩] (fun _ => True) (fun _ => False) rfl rfl rfl (fun _ hk => hk.elim) (fun _ _ => trivial) (Kd.R_below HR.out hb2) (hw.trans (hb2.mono hw.size)) (Nat.le_trans hw.size hb2.size) (by omega) ?_; intro v3 w3 hO3 hb3 hg3 _))
            go_roundw
            case rel =>
              refine ⟨A2, c - n, rl - n, rest.drop n, strs ++ [_], (by first | rfl | simp), T2.out _ _ HC.out, by omega, hO3, ?_, ?_, by omega, by simp; omega, hb3⟩
              · exact grpInv_step n l0 strs rest _ n hn0 (by rw [HL.out]; omega) (by rw [HL.out]; omega) rfl hI
              · obtain ⟨k, hk'⟩ := hk.out
                exact ⟨k + n, by rw [hk', List.drop_drop]⟩
            case measure => simp; omega
        · have h0 : rl = 0 := by omega
          subst h0
          have hj := grpInv_end n l0 strs rest (List.length_eq_zero_iff.1 HL.out) hI.out
          have hjl := refG_len n l0 0
          rw [← hj] at hjl
          have HJ := Lib.hid hj
          have HL2 := Lib.hid hjl
          clear hj hjl
          go_wp2_with (go_at_call 25; refine (join_R HR.out (by omega) (by show (Lib.join (strs.map fun x => x.data.toList) [32]).length ≤ _; have := HL2.out; omega)).mono ?_; rintro e w2 ⟨rfl, hb2⟩)
          go_ret
          refine ⟨?_, hw.trans (hb2.mono hw.size)⟩
          rw [← HJ.out]
          rfl
  · simp at h
end Go.Proofs.Ytpeebjnfmlfocaa.Print
