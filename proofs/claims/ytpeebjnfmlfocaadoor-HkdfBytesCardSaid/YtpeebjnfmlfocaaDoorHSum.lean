/- digest.Hash.Sum at this program: SHA-256 of what was written. Conditions: bytes, at most 2^31 of them; the table of constants stands. -/
import Derived.Test.YtpeebjnfmlfocaaDoorHash
namespace Go.Proofs.YtpeebjnfmlfocaaDoor.Dig
open Go.RowKit Go.UW Go.Proofs.YtpeebjnfmlfocaaDoorW.PrintWords Go.Proofs.YtpeebjnfmlfocaaDoorW.PrintLast Go.Proofs.YtpeebjnfmlfocaaDoorW.PrintMore
set_option linter.unusedVariables false

def be8 (n : Nat) : List Int := (List.range 8).map fun j => ((n * 8 / 2 ^ (56 - 8 * j) % 256 : Nat) : Int)
def pad (n : Nat) : List Int := 128 :: (List.replicate ((119 - n % 64) % 64) 0 ++ be8 n)
def be4 (x : UInt32) (j : Nat) : List Int := (List.range j).map fun j => v32 x / 2 ^ (24 - 8 * j) % 256
def outB (s : List UInt32) : List Int := s.flatMap fun x => be4 x 4
def sha (bytes : List Int) : List Int := outB (blocks (bytes ++ pad bytes.length) ((bytes.length + (pad bytes.length).length) / 64))

theorem pad_len (n : Nat) : (pad n).length = 9 + (119 - n % 64) % 64 := by simp [pad, be8]; omega
theorem pad_mod (n : Nat) : (n + (pad n).length) % 64 = 0 := by rw [pad_len]; omega
theorem pad_rg (n : Nat) : ∀ x ∈ pad n, 0 ≤ x ∧ x ≤ 255 := by
  intro x hx
  simp only [pad, be8, List.mem_cons, List.mem_append, List.mem_replicate, List.mem_map] at hx
  rcases hx with rfl | ⟨_, rfl⟩ | ⟨j, _, rfl⟩ <;> omega

theorem be4_len (x : UInt32) (j : Nat) : (be4 x j).length = j := by simp [be4]
theorem outB_len (s : List UInt32) : (outB s).length = 4 * s.length := by
  induction s with
  | nil => rfl
  | cons x s ih => simp only [outB, List.flatMap_cons, List.length_append, be4_len, List.length_cons] at ih ⊢; omega
theorem C_box (w : World) (x : Int) : (Kd.int .u8).C (w.alloc (.cells #[.int .u8 x] 5)) (some ⟨w.heap.size, 0, none⟩) 1 [x] := by
  refine ⟨rfl, by omega, fun _ => ⟨_, rfl, fun j p hj => ⟨[.int .u8 p], rfl, rfl, fun i u hu => ?_⟩⟩⟩
  match j, i, hj, hu with
  | 0, 0, hj, hu =>
    simp only [List.getElem?_cons_zero, Option.some.injEq] at hj hu
    subst hj hu
    have h : Arr (w.alloc (.cells #[.int .u8 x] 5)) w.heap.size 5 [] [.int .u8 x] := by unfold Arr; rw [heap_alloc_new]; rfl
    exact h.getRest 0 0 rfl _ rfl

theorem wpList_q_push {ops : Array Oper} {rest : List Oper} {o : Oper} {a : Act} {Q : Exit → Act → World → Prop} (w : World) (base : Nat)
    (hg : o.guard = none) (s x : Operand) (hop : o.op = Op.call { callee := Callee.builtin Builtin.append, args := #[s, x], argTypes := #[22, 22] })
    (v : Value) (xs : List Int) (y : Int) (hs : a.eval s = v) (hx : a.eval x = .slice (some ⟨w.heap.size, 0, none⟩) 1 1) (HQ : Qb w base v xs) (hbase : base ≤ w.heap.size) (hl : xs.length + 1 ≤ 140737488355328)
    (hK : ∀ v1 w1, Qb w1 base v1 (xs ++ [y]) → Below base w w1 → w.grownBy w1 v.ownBlock → wpList Tryd.prog ops Q rest (a.put o.dst v1) w1) :
    wpList Tryd.prog ops Q (o :: rest) a (w.alloc (.cells #[.int .u8 y] 5)) := by
  refine wpList_q_spread _ base hg s x hop v xs [y] _ 1 1 hs hx (HQ.move fun k hk => Below.heap_alloc _ _ _ (HQ.base_le k hk).2.1) (C_box w y) (by simp; omega) hl ?_
  intro v1 w1 h1 h2 _
  have hg2 : w.grownBy w1 v.ownBlock := grown_trans (grown_alloc (grown_refl w _) _) h2
  exact hK v1 w1 h1 ((Below.refl base w).grown hg2 hbase (fun k hk => (HQ.base_le k hk).1)) hg2

theorem size_alloc (w : World) (o : Obj) : (w.alloc o).heap.size = w.heap.size + 1 := by simp
theorem slice_hi64 (A2 : Option Addr) (n2 c2 : Nat) (h1 : 64 ≤ n2) (h2 : n2 ≤ c2) (W : World) : (Instr.slice 22 (.slice A2 n2 c2) none (some (.int .i64 64)) none).run Tryd.prog W = .ok (.slice A2 64 c2) W := by
  obtain ⟨i0, hi, hz0, hz1, hz2⟩ := info_parts infoU8
  have hel : Tryd.prog.elem 22 = 5 := by simp [Program.elem, Tryd.underlying22]
  have hu : Tryd.prog.underlying 22 = some (.slice (Tryd.prog.elem 22)) := by rw [hel]; exact Tryd.underlying22
  have ha : (A2.map fun x => x.add 0) = A2 := by cases A2 <;> simp [Addr.add]
  rw [run_slice_h W 22 A2 n2 c2 hu .i64 64 (by omega) (by omega), hel]
  simp [sizeOf, typeInfo, hi, hz1, sliced, Result.andThen, ha]
theorem slice_lo64 (base : Nat) (A2 : Option Addr) (n2 c2 : Nat) (l : List Int) (hn : n2 = l.length) (h1 : 64 ≤ n2) (h2 : n2 ≤ c2) :
    ∃ A3 : Option Addr, (∀ W : World, (Instr.slice 22 (.slice A2 n2 c2) (some (.int .i64 64)) none none).run Tryd.prog W = .ok (.slice A3 (n2 - 64) (c2 - 64)) W) ∧
      (∀ W : World, Qb W base (.slice A2 n2 c2) l → Qb W base (.slice A3 (n2 - 64) (c2 - 64)) (l.drop 64)) := by
  obtain ⟨i0, hi, hz0, hz1, hz2⟩ := info_parts infoU8
  have hel : Tryd.prog.elem 22 = 5 := by simp [Program.elem, Tryd.underlying22]
  have hu : Tryd.prog.underlying 22 = some (.slice (Tryd.prog.elem 22)) := by rw [hel]; exact Tryd.underlying22
  refine ⟨if c2 = 64 then A2 else A2.map (·.add 64), fun W => ?_, fun W hW => ?_⟩
  · rw [run_slice_l W 22 A2 n2 c2 hu .i64 64 (by omega) (by omega), hel]
    simp [sizeOf, typeInfo, hi, hz1, sliced, Result.andThen]
  · subst hn
    exact hW.drop (m := 64) (by omega)

theorem idx8 (x0 x1 x2 x3 x4 x5 x6 x7 : UInt32) (i : Nat) (hi : i < 8) (W : World) :
    (Instr.index 144 (.agg #[Value.int .u32 (v32 x0), Value.int .u32 (v32 x1), Value.int .u32 (v32 x2), Value.int .u32 (v32 x3), Value.int .u32 (v32 x4), Value.int .u32 (v32 x5), Value.int .u32 (v32 x6), Value.int .u32 (v32 x7)]) (.int .i64 (i : Int))).run Tryd.prog W = .ok (.int .u32 (v32 ([x0, x1, x2, x3, x4, x5, x6, x7].getD i 0))) W := by
  obtain rfl | rfl | rfl | rfl | rfl | rfl | rfl | rfl : i = 0 ∨ i = 1 ∨ i = 2 ∨ i = 3 ∨ i = 4 ∨ i = 5 ∨ i = 6 ∨ i = 7 := by omega
  all_goals kernel_rfl

set_option maxHeartbeats 8000000 in
set_option maxRecDepth 100000 in
theorem sum_any (base g : Nat) (bytes : List Int) (w : World) (hG : Glob w) (hH : IsH w base g bytes) :
    Calls Tryd.prog 48 #[.pointer (some ⟨g, 0, none⟩)] w fun e w' => ∃ v : Value, e = .returned v ∧ Kd.R (Kd.int .u8) 5 w' w.heap.size (fun _ => True) v (sha bytes) ∧ Below w.heap.size w w' := by
  obtain ⟨k, restv, h1, h2, h3, h4, h5, h6, h7⟩ := hH
  obtain ⟨n, hn⟩ : ∃ n, n = bytes.length := ⟨_, rfl⟩
  rw [← hn] at h2 h3 h4 h7
  have hbl := blocks_len bytes k
  have c8 := h4.getRest 0 8 (by rw [hbl]) restv rfl
  have c9 := h4.getRest 1 9 (by rw [hbl]) (.int .u64 (n : Int)) rfl
  have c10 := h4.getRest 2 10 (by rw [hbl]) (.bool true) rfl
  have hgl := h4.lt
  obtain ⟨s0, s1, s2, s3, s4, s5, s6, s7, he⟩ : ∃ s0 s1 s2 s3 s4 s5 s6 s7, blocks bytes k = [s0, s1, s2, s3, s4, s5, s6, s7] := by
    match blocks bytes k, hbl with
    | [s0, s1, s2, s3, s4, s5, s6, s7], _ => exact ⟨_, _, _, _, _, _, _, _, rfl⟩
  have k0 := h4.get 0 (by rw [hbl]; decide)
  have k1 := h4.get 1 (by rw [hbl]; decide)
  have k2 := h4.get 2 (by rw [hbl]; decide)
  have k3 := h4.get 3 (by rw [hbl]; decide)
  have k4 := h4.get 4 (by rw [hbl]; decide)
  have k5 := h4.get 5 (by rw [hbl]; decide)
  have k6 := h4.get 6 (by rw [hbl]; decide)
  have k7 := h4.get 7 (by rw [hbl]; decide)
  rw [he] at k0 k1 k2 k3 k4 k5 k6 k7
  simp only [List.getD_cons_zero, List.getD_cons_succ] at k0 k1 k2 k3 k4 k5 k6 k7
  obtain ⟨rA, rn, rc, hrv⟩ : ∃ A1 n1 c1, restv = .slice A1 n1 c1 := by obtain ⟨A1, c1, e, _⟩ := h5.form; exact ⟨_, _, _, e⟩
  subst hrv
  have hread := h5.reads
  have hrl : (bytes.drop (64 * k)).length = n - 64 * k := by rw [List.length_drop, hn]
  have hrn : rn = n - 64 * k := by rw [hread.1, hrl]
  have HR := Lib.hid (show (Kd.int .u8).C w rA rn (bytes.drop (64 * k)) from hread.1 ▸ hread.2)
  obtain ⟨st, hst⟩ : ∃ st : Obj, st = (.cells #[.int .u32 (v32 s0), .int .u32 (v32 s1), .int .u32 (v32 s2), .int .u32 (v32 s3), .int .u32 (v32 s4), .int .u32 (v32 s5), .int .u32 (v32 s6), .int .u32 (v32 s7)] 144) := ⟨_, rfl⟩
  have hS1 : Arr ((w.alloc st).alloc (.cells #[] 5)) w.heap.size 144 (blocks bytes k) [] := by
    refine Arr.alloc ?_ _
    unfold Arr
    rw [heap_alloc_new, he, hst]
    rfl
  have hQ1 : Qb ((w.alloc st).alloc (.cells #[] 5)) (w.heap.size + 1) (.slice (some ⟨w.heap.size + 1, 0, none⟩) 0 0) [] := by
    refine ⟨rfl, .inl ⟨rfl, _, rfl, fun a ha => ?_⟩⟩
    cases ha
    refine ⟨Nat.le_refl _, #[], ?_⟩
    have := heap_alloc_new (w.alloc st) (.cells #[] 5)
    rw [size_alloc] at this
    exact this
  have hC1 : (Kd.int .u8).C ((w.alloc st).alloc (.cells #[] 5)) rA rn (bytes.drop (64 * k)) := Kd.C_below HR.out (((Below.refl w.heap.size w).alloc (Nat.le_refl _) _).alloc (by rw [size_alloc]; omega) _)
  have hB1 : Below w.heap.size w ((w.alloc st).alloc (.cells #[] 5)) := ((Below.refl w.heap.size w).alloc (Nat.le_refl _) _).alloc (by rw [size_alloc]; omega) _
  have hsz : w.heap.size + 2 ≤ ((w.alloc st).alloc (.cells #[] 5)).heap.size := by rw [size_alloc, size_alloc]; omega
  rw [hst] at hS1 hQ1 hC1 hB1 hsz
  have HS1 := Lib.hid hS1
  have HQ1 := Lib.hid hQ1
  have HC1 := Lib.hid hC1
  have HB1 := Lib.hid hB1
  have HSZ := Lib.hid hsz
  have H6 := Lib.hid h6
  have HE := Lib.hid he
  have HN := Lib.hid hn
  have HRN := Lib.hid hrn
  have HRL := Lib.hid hrl
  have hrn64 : rn < 64 := by omega
  clear h4 hbl h5 h6 he hn hread hrn hS1 hQ1 hC1 hB1 hst hsz HR hrl st
  go_enter Tryd.func48, Tryd.ntmps48
  go_wp2_with (
    (at_builtin
     first
     | (refine wpList_q_spread _ (w.heap.size + 1) rfl (.tmp 23) (.tmp 27) rfl (.slice (some ⟨w.heap.size + 1, 0, none⟩) 0 0) [] (bytes.drop (64 * k)) rA rn rc rfl rfl HQ1.out HC1.out (Nat.le_trans (by omega) HSZ.out) (by simp only [List.length_nil]; omega) ?_
        intro v1 w1 hQ2 hg2 hat
        go_must (
          have hS2 : Arr w1 w.heap.size 144 (blocks bytes k) [] := HS1.out.keep (hg2.block w.heap.size HS1.out.lt (by simp [Value.ownBlock]))
          have hb2 : Below w.heap.size w w1 := HB1.out.grown hg2 (Nat.le_trans (by omega) HSZ.out) (fun q hq => by simp [Value.ownBlock] at hq; omega)
          obtain ⟨A1, n1, c1, hv1⟩ : ∃ A1 n1 c1, v1 = .slice A1 n1 c1 := by obtain ⟨A1, c1, e, _⟩ := hQ2.form; exact ⟨_, _, _, e⟩
          subst hv1
          have hsz2 : w.heap.size + 1 ≤ w1.heap.size := hS2.lt
          have HS2 := Lib.hid hS2
          have HQ2 := Lib.hid hQ2
          clear hS2 hQ2 hg2 hat HS1 HQ1 HC1 HB1 HSZ))
     | (refine wpList_q_push w1 (w.heap.size + 1) rfl (.tmp 29) (.tmp 30) rfl _ _ 128 rfl rfl HQ2.out hsz2 (by have := HRL.out; simp only [List.nil_append]; omega) ?_
        intro v2 w2 hQ3 hb3 hg3
        go_must (
          have hS3 : Arr w2 w.heap.size 144 (blocks bytes k) [] := HS2.out.keep (hb3.block w.heap.size (by omega))
          have hb4 : Below w.heap.size w w2 := hb2.trans (hb3.mono (by omega))
          obtain ⟨A2, n2, c2, hv2⟩ : ∃ A1 n1 c1, v2 = .slice A1 n1 c1 := by obtain ⟨A1, c1, e, _⟩ := hQ3.form; exact ⟨_, _, _, e⟩
          subst hv2
          have hsz3 : w.heap.size + 1 ≤ w2.heap.size := hS3.lt
          have HS3 := Lib.hid hS3
          have HQ3 := Lib.hid hQ3
          clear hS3 hQ3 hg3 hb3 hb2 HS2 HQ2 hsz2))))
  obtain ⟨xs, hxs⟩ : ∃ xs, xs = bytes.drop (64 * k) := ⟨_, rfl⟩
  obtain ⟨Z, hZ⟩ : ∃ Z, Z = (119 - n % 64) % 64 := ⟨_, rfl⟩
  have hZr : Z = (119 - rn) % 64 := by have := HRN.out; omega
  have hZ64 : Z < 64 := by omega
  have HZ := Lib.hid hZ
  have HZR := Lib.hid hZr
  have hn2 : n2 = rn + 1 := by obtain ⟨A1, c1, e, _⟩ := HQ3.out.form; injection e with _ e1 _; have := HRL.out; have := HRN.out; simp only [List.nil_append, List.length_append, List.length_cons, List.length_nil] at e1; omega
  have HN2 := Lib.hid hn2
  have hxl : xs.length = rn := by rw [hxs, HRL.out, HRN.out]
  have HXL := Lib.hid hxl
  have HXS := Lib.hid hxs
  clear hZ hZr hn2 hxs hxl
  go_loopg [4] Z (fun gk v4 wr => ∃ (j m : Nat) (A : Option Addr) (c : Nat), j + gk = Z ∧ v4 = .slice A m c ∧ Hid (m = rn + 1 + j) ∧ Hid (Qb wr (w.heap.size + 1) (.slice A m c) (xs ++ 128 :: List.replicate j 0)) ∧ Hid (Arr wr w.heap.size 144 (blocks bytes k) []) ∧ Below w.heap.size w wr)
  case atStart =>
    refine ⟨0, _, _, _, by omega, rfl, HN2.out, ?_, HS3, hb4⟩
    have := HQ3.out
    rw [← HXS.out, List.nil_append] at this
    exact this
  case round =>
    clear HS3 hb4 HQ3 HN2 hsz3
    obtain ⟨j, m, A, c, hj, rfl, hm, hQ, hA, hb⟩ := hrel
    have hsz : w.heap.size + 1 ≤ wr.heap.size := hA.out.lt
    by_cases hlt : j < Z
    · have hcond : ¬ ((m : Int) % 64 = 56) := by have := hm.out; have := HZR.out; omega
      have hcond2 : ¬ (m % 64 = 56) := by have := hm.out; have := HZR.out; omega
      go_wp2_with (
        (at_builtin
         refine wpList_q_push wr (w.heap.size + 1) rfl (.tmp 36) (.tmp 37) rfl _ _ 0 rfl rfl hQ.out hsz (by have := HXL.out; simp only [List.length_append, List.length_cons, List.length_replicate]; omega) ?_
         intro v2 w2 hQ3 hb3 hg3
         go_must (
          have hS3 : Arr w2 w.heap.size 144 (blocks bytes k) [] := hA.out.keep (hb3.block w.heap.size (by omega))
          have hb4 : Below w.heap.size w w2 := hb.trans (hb3.mono (by omega))
          have HS3 := Lib.hid hS3
          have HQ3 := Lib.hid hQ3
          clear hS3 hQ3 hg3 hb3)))
      go_roundg (Z - (j + 1))
      case measure => omega
      case rel =>
        obtain ⟨A3, n3, c3, hv3⟩ : ∃ A1 n1 c1, v2 = .slice A1 n1 c1 := by obtain ⟨A1, c1, e, _⟩ := HQ3.out.form; exact ⟨_, _, _, e⟩
        have hn3 : n3 = rn + 1 + (j + 1) := by
          obtain ⟨A1, c1, e, _⟩ := HQ3.out.form
          rw [hv3] at e
          injection e with _ e1 _
          have := HXL.out
          simp only [List.length_append, List.length_cons, List.length_replicate, List.length_nil] at e1
          omega
        refine ⟨j + 1, _, _, _, by omega, hv3, hn3, ?_, HS3.out, hb4⟩
        rw [← hv3]
        have := HQ3.out
        rw [List.append_assoc, List.cons_append, ← List.replicate_succ'] at this
        exact this
    · have hcond : (m : Int) % 64 = 56 := by have := hm.out; have := HZR.out; omega
      have hjZ : j = Z := by omega
      subst hjZ
      have hm2 := hm.out
      obtain ⟨ts, hts⟩ : ∃ ts, ts = xs ++ 128 :: List.replicate j 0 := ⟨_, rfl⟩
      have htl : ts.length = m := by have := HXL.out; rw [hts]; simp only [List.length_append, List.length_cons, List.length_replicate]; omega
      rw [← hts] at hQ
      obtain ⟨n8, hn8⟩ : ∃ n8, n8 = n * 8 := ⟨_, rfl⟩
      have e8 : IntKind.u64.wrap ((n : Int) * 8) = (n8 : Int) := by rw [u64_wrap]; omega
      have hm3 : m ≤ 2147483648 := by omega
      have HM2 := Lib.hid hm2
      have HTS := Lib.hid hts
      have HTL := Lib.hid htl
      have HN8 := Lib.hid hn8
      clear hm hts htl hn8 hm2
      go_wp2
      go_loopg [4, 5] 8 (fun gk v4 v5 wr => ∃ (q m2 : Nat) (A : Option Addr) (c : Nat), q + gk = 8 ∧ v4 = .slice A m2 c ∧ v5 = .int .i64 (56 - 8 * (q : Int)) ∧ Hid (m2 = m + q) ∧ Hid (Qb wr (w.heap.size + 1) (.slice A m2 c) (ts ++ (be8 n).take q)) ∧ Hid (Arr wr w.heap.size 144 (blocks bytes k) []) ∧ Below w.heap.size w wr)
      case atStart => exact ⟨0, _, _, _, by omega, rfl, rfl, rfl, by simpa using hQ, hA, hb⟩
      case round =>
        clear hQ hA hb hsz hcond hlt
        obtain ⟨q, m2, A, c, hq, rfl, rfl, hm4, hQ, hA, hb⟩ := hrel
        have hsz : w.heap.size + 1 ≤ wr.heap.size := hA.out.lt
        by_cases hlt : q < 8
        · obtain ⟨i, hi⟩ : ∃ i : Nat, i + 8 * q = 56 := ⟨56 - 8 * q, by omega⟩
          have hi2 : (56 - 8 * (q : Int)) = (i : Int) := by omega
          have hi3 : i < 64 := by omega
          rw [hi2]
          have c9' : wr.cell? ⟨g, 9, none⟩ = some (.int .u64 (n : Int)) := by rw [World.cell?_of_block (hb.block g hgl)]; exact c9
          have esh : Op.shift .shr .u64 (n8 : Int) .u64 (i : Int) = pure (.int .u64 ((n8 / 2 ^ i : Nat) : Int)) := by
            rw [shift_shr _ _ _ _ (by omega) (by show (i : Int) ≤ 64; omega), Int.toNat_natCast, Int.natCast_ediv, Int.natCast_pow]
            rfl
          have ei : IntKind.i64.wrap ((i : Int) - 8) = (i : Int) - 8 := IntWalk.i64_in _ (by omega)
          have HI := Lib.hid hi
          clear hi hi2
          go_wp2_with (
            (at_builtin
             refine wpList_q_push wr (w.heap.size + 1) rfl (.tmp 43) (.tmp 53) rfl _ _ _ rfl rfl hQ.out hsz (by have := HTL.out; simp only [List.length_append, List.length_take]; omega) ?_
             intro v2 w2 hQ3 hb3 hg3
             go_must (
              have hS3 : Arr w2 w.heap.size 144 (blocks bytes k) [] := hA.out.keep (hb3.block w.heap.size (by omega))
              have hb4 : Below w.heap.size w w2 := hb.trans (hb3.mono (by omega))
              have HS3 := Lib.hid hS3
              have HQ3 := Lib.hid hQ3
              clear hS3 hQ3 hg3 hb3)))
          go_roundg (8 - (q + 1))
          case measure => omega
          case rel =>
            obtain ⟨A3, n3, c3, hv3⟩ : ∃ A1 n1 c1, v2 = .slice A1 n1 c1 := by obtain ⟨A1, c1, e, _⟩ := HQ3.out.form; exact ⟨_, _, _, e⟩
            have hi := HI.out
            have hbl : (be8 n).length = 8 := by simp [be8]
            have hn3 : n3 = m + (q + 1) := by
              obtain ⟨A1, c1, e, _⟩ := HQ3.out.form
              rw [hv3] at e
              injection e with _ e1 _
              have := HTL.out
              simp only [List.length_append, List.length_cons, List.length_take, List.length_nil] at e1
              omega
            refine ⟨q + 1, _, _, _, by omega, hv3, by rw [show (i : Int) = 56 - 8 * (q : Int) by omega]; congr 1; omega, hn3, ?_, HS3.out, hb4⟩
            rw [← hv3]
            have := HQ3.out
            rw [List.append_assoc] at this
            have e : (be8 n).take (q + 1) = (be8 n).take q ++ [(n8 : Int) / 2 ^ i % 256] := by
              rw [List.take_succ_eq_append_getElem (by omega)]
              congr 2
              simp only [be8, List.getElem_map, List.getElem_range]
              rw [← HN8.out, show 56 - 8 * q = i by omega]
              simp
            rw [e]
            exact this
        · have e56 : (56 - 8 * (q : Int)) = -8 := by omega
          rw [e56]
          clear e56
          obtain rfl : q = 8 := by omega
          obtain ⟨tot, htot⟩ : ∃ tot, tot = bytes ++ pad n := ⟨_, rfl⟩
          have hbl : (be8 n).length = 8 := by simp [be8]
          have htd : tot.drop (64 * k) = ts ++ (be8 n).take 8 := by
            rw [htot, List.drop_append_of_le_length (by rw [← HN.out]; exact h2), ← HXS.out, HTS.out, List.take_of_length_le (by omega), pad, HZ.out, List.append_assoc, List.cons_append]
          rw [← htd] at hQ
          have hbk : blocks bytes k = blocks tot k := by rw [htot]; exact (blocks_app _ _ _ (by rw [← HN.out]; exact h2)).symm
          rw [hbk] at hA
          obtain ⟨N, hN⟩ : ∃ N, N = n + (pad n).length := ⟨_, rfl⟩
          have hNl : tot.length = N := by rw [htot, hN, List.length_append, HN.out]
          have hN64 : N % 64 = 0 := by rw [hN]; exact pad_mod n
          have hNn : n ≤ N := by omega
          have hNb : N ≤ 2147483648 + 128 := by rw [hN, pad_len]; omega
          have hrg : ∀ x ∈ tot, 0 ≤ x ∧ x ≤ 255 := by
            intro x hx
            rw [htot, List.mem_append] at hx
            rcases hx with h | h
            · exact H6.out x h
            · exact pad_rg n x h
          obtain ⟨K, hK⟩ : ∃ K, N = 64 * K := ⟨N / 64, by omega⟩
          have hsha : sha bytes = outB (blocks tot K) := by
            unfold sha
            rw [← HN.out, ← htot, ← hN, hK, Nat.mul_div_cancel_left _ (by decide)]
          have hkK : k ≤ K := by omega
          have HSHA := Lib.hid hsha
          have HRG := Lib.hid hrg
          have HNL := Lib.hid hNl
          have HKK := Lib.hid hK
          have hm9 : m2 = N - 64 * k := by
            obtain ⟨A1, c1, e, _⟩ := hQ.out.form
            injection e with _ e1 _
            rw [e1, List.length_drop, hNl]
          have hl64 : 64 * k ≤ N := by omega
          have hK3 : K ≤ 33554434 := by omega
          have hcb : m2 ≤ c := by
            obtain ⟨A1, c1, e, h⟩ := hQ.out.form
            injection e with _ e1 e2
            omega
          clear htot htd hbk hN hNl hN64 hrg hK hsha hm4 hNb hNn hbl HZR HRN HXL HZ HM2 HTS HTL HN8 e8 hm3 hm9 hcb hl64 HRL HXS HE HN H6
          go_wp2
          go_loopg [4] (K - k) (fun gk v4 wr => ∃ (q m2 : Nat) (A : Option Addr) (c : Nat), q + gk = K ∧ v4 = .slice A m2 c ∧ Hid (Qb wr (w.heap.size + 1) (.slice A m2 c) (tot.drop (64 * q))) ∧ Hid (Arr wr w.heap.size 144 (blocks tot q) []) ∧ Below w.heap.size w wr)
          case atStart => exact ⟨k, _, _, _, by omega, rfl, hQ, hA, hb⟩
          case round =>
            clear hQ hA hb hsz hlt
            obtain ⟨q, m2, A, c, hq, rfl, hQ, hA, hb⟩ := hrel
            have hsz : w.heap.size + 1 ≤ wr.heap.size := hA.out.lt
            have hm2 : m2 = 64 * (K - q) := by
              obtain ⟨A1, c1, e, _⟩ := hQ.out.form
              injection e with _ e1 _
              rw [e1, List.length_drop, HNL.out, HKK.out]
              omega
            have hmc : m2 ≤ c := by
              obtain ⟨A1, c1, e, h⟩ := hQ.out.form
              injection e with _ e1 e2
              omega
            by_cases hlt : q < K
            · have hm64 : 64 ≤ m2 := by omega
              have hm0 : 0 < m2 := by omega
              have hsl := slice_hi64 A m2 c hm64 hmc
              obtain ⟨A3, hsl2, hQd⟩ := slice_lo64 (w.heap.size + 1) A m2 c (tot.drop (64 * q)) (by rw [List.length_drop, HNL.out, HKK.out]; omega) hm64 hmc
              have HQD := Lib.hid hQd
              have HM2 := Lib.hid hm2
              have hG6 : Glob wr := hG.below hb
              have hgne : w.heap.size ≠ 1 := by have := hG.1; omega
              have hblk : (Kd.int .u8).C wr A 64 ((tot.drop (64 * q)).take 64) := by
                have h9 := hQ.out
                have hl9 : m2 = (tot.drop (64 * q)).length := by rw [List.length_drop, HNL.out, HKK.out]; omega
                rw [hl9] at h9
                have h10 := (h9.take (m := 64) (by omega)).reads
                obtain ⟨h11, h12⟩ := h10
                rw [← h11] at h12
                exact h12
              have hrng : ∀ x ∈ (tot.drop (64 * q)).take 64, 0 ≤ x ∧ x ≤ 255 := fun x hx => HRG.out x (List.mem_of_mem_drop (List.mem_of_mem_take hx))
              have HBLK := Lib.hid hblk
              have HRNG := Lib.hid hrng
              have hc64 : 64 ≤ c := by omega
              clear hQd hm2 hblk hrng
              go_wp2_with (go_at_call 90; (with_reducible refine (mix w.heap.size 144 (blocks tot q) _ (blocks_len tot q) A c _ wr hG6 hgne hA.out HBLK.out hc64 HRNG.out).mono ?_); rintro e w7 ⟨rfl, hA7, hg7⟩; have HA7 := Lib.hid hA7; have HG7 := Lib.hid hg7; clear hA7 hg7)
              go_roundg (K - (q + 1))
              case measure => omega
              case rel =>
                have hQ7 : Qb w7 (w.heap.size + 1) (.slice A m2 c) (tot.drop (64 * q)) := hQ.out.grown HG7.out (fun q hq e => by
                  have := (hQ.out.base_le q hq).1
                  injection e with e
                  omega)
                have hm9 := HM2.out
                refine ⟨q + 1, _, _, _, by omega, rfl, ?_, HA7.out, ?_⟩
                · have := HQD.out _ hQ7
                  rw [List.drop_drop, show 64 * q + 64 = 64 * (q + 1) by omega] at this
                  exact this
                · exact hb.grown HG7.out (by omega) (fun q hq => by injection hq with hq; omega)
            · obtain rfl : q = K := by omega
              have hm0 : m2 = 0 := by omega
              subst hm0
              have hbl := blocks_len tot q
              obtain ⟨x0, x1, x2, x3, x4, x5, x6, x7, hS⟩ : ∃ s0 s1 s2 s3 s4 s5 s6 s7, blocks tot q = [s0, s1, s2, s3, s4, s5, s6, s7] := by
                match blocks tot q, hbl with
                | [s0, s1, s2, s3, s4, s5, s6, s7], _ => exact ⟨_, _, _, _, _, _, _, _, rfl⟩
              have hA2 := hA.out
              rw [hS] at hA2
              have r0 := hA2.get 0 (by simp)
              have r1 := hA2.get 1 (by simp)
              have r2 := hA2.get 2 (by simp)
              have r3 := hA2.get 3 (by simp)
              have r4 := hA2.get 4 (by simp)
              have r5 := hA2.get 5 (by simp)
              have r6 := hA2.get 6 (by simp)
              have r7 := hA2.get 7 (by simp)
              simp only [List.getD_cons_zero, List.getD_cons_succ] at r0 r1 r2 r3 r4 r5 r6 r7
              have HS := Lib.hid hS
              clear hS hA2 hbl hQ hA hlt hq hmc hsz k0 k1 k2 k3 k4 k5 k6 k7 c8 c9 c10 hkK hm2 hj
              clear hq
              obtain ⟨S, hSd⟩ : ∃ S : List UInt32, S = [x0, x1, x2, x3, x4, x5, x6, x7] := ⟨_, rfl⟩
              have hidx : ∀ k : Nat, k < 8 → ∀ W : World, (Instr.index 144 (.agg #[Value.int .u32 (v32 x0), Value.int .u32 (v32 x1), Value.int .u32 (v32 x2), Value.int .u32 (v32 x3), Value.int .u32 (v32 x4), Value.int .u32 (v32 x5), Value.int .u32 (v32 x6), Value.int .u32 (v32 x7)]) (.int .i64 (k : Int))).run Tryd.prog W = .ok (.int .u32 (v32 (S.getD k 0))) W := by
                intro k hk W
                rw [hSd]
                exact idx8 x0 x1 x2 x3 x4 x5 x6 x7 k hk W
              have hSl : S.length = 8 := by rw [hSd]; rfl
              have HIDX := Lib.hid hidx
              have HSD := Lib.hid hSd
              have HSL := Lib.hid hSl
              clear hidx hSd hSl
              go_wp2
              generalize ((0 : Nat) : Int) = z56
              go_loopg [6, 64] 8 (fun gk v6 v64 wr => ∃ (i m : Nat) (A : Option Addr) (c : Nat), i + gk = 8 ∧ v64 = .int .i64 (i : Int) ∧ v6 = .slice A m c ∧ Hid (Kd.R (Kd.int .u8) 5 wr w.heap.size (fun _ => True) v6 (outB (S.take i))) ∧ Below w.heap.size w wr)
              case atStart => exact ⟨0, 0, none, 0, by omega, rfl, rfl, Kd.R_nil _ _ _ _ _, hb⟩
              case round =>
                clear hb r0 r1 r2 r3 r4 r5 r6 r7
                obtain ⟨i, m, A, c, hi, rfl, rfl, hO, hb⟩ := hrel
                by_cases hlt : i < 8
                · have hx := HIDX.out i hlt
                  generalize hxx : S.getD i 0 = x at hx
                  have HXX := Lib.hid hxx
                  have HI := Lib.hid hi
                  have ei1 : IntKind.i64.wrap ((i : Int) + 1) = (i : Int) + 1 := IntWalk.i64_in _ (by omega)
                  have hil : (outB (S.take i)).length = 4 * i := by
                    have := HSL.out
                    rw [outB_len, List.length_take]
                    omega
                  have HIL := Lib.hid hil
                  have hdec : decide ((i : Int) < 8) = true := by rw [decide_eq_true_iff]; omega
                  clear hxx hi hil
                  go_wp2
                  go_loopg [6, 9] 4 (fun gk v6 v9 wr => ∃ (q m : Nat) (A : Option Addr) (c : Nat), q + gk = 4 ∧ v9 = .int .i64 (24 - 8 * (q : Int)) ∧ v6 = .slice A m c ∧ Hid (Kd.R (Kd.int .u8) 5 wr w.heap.size (fun _ => True) v6 (outB (S.take i) ++ be4 x q)) ∧ Below w.heap.size w wr)
                  case atStart => exact ⟨0, _, _, _, by omega, rfl, rfl, by simpa [be4] using hO, hb⟩
                  case round =>
                    clear hO hb
                    obtain ⟨q, m, A, c, hq, rfl, rfl, hO, hb⟩ := hrel
                    by_cases hlq : q < 4
                    · obtain ⟨s, hs⟩ : ∃ s : Nat, s + 8 * q = 24 := ⟨24 - 8 * q, by omega⟩
                      have hs2 : (24 - 8 * (q : Int)) = (s : Int) := by omega
                      have hs3 : s < 32 := by omega
                      rw [hs2]
                      have esh : Op.shift .shr .u32 (v32 x) .u64 (s : Int) = pure (.int .u32 (v32 x / 2 ^ s)) := by
                        rw [shift_shr _ _ _ _ (by omega) (by show (s : Int) ≤ 32; omega), Int.toNat_natCast]
                      have ei : IntKind.i64.wrap ((s : Int) - 8) = (s : Int) - 8 := IntWalk.i64_in _ (by omega)
                      have HQ := Lib.hid hq
                      have HSS := Lib.hid hs
                      clear hs hs2 hq
                      go_wp2_with (
                        (at_builtin
                         refine Kd.R_append (Kd.int .u8) (w0 := w) (W := wr) w.heap.size rfl (.tmp 71) (.tmp 77) 22 5 (.int .u8 0) 1 rfl Tryd.underlying22 infoU8 rfl (by decide) (by omega) _ (outB (S.take i) ++ be4 x q) (v32 x / 2 ^ s % 256) [.int .u8 (v32 x / 2 ^ s % 256)] (fun _ => True) (fun _ => False) rfl rfl rfl (fun _ hk => hk.elim) (fun _ _ => trivial) hO.out hb hb.size (by rw [List.length_append, HIL.out, be4_len]; omega) ?_
                         intro v1 w8 hO2 hb2 _ _
                         go_must (
                          obtain ⟨A8, m8, c8, hv8⟩ : ∃ A m c, v1 = .slice A m c := by obtain ⟨A1, c1, e⟩ := Kd.R_slice hO2; exact ⟨_, _, _, e⟩
                          have HO2 := Lib.hid hO2
                          clear hO2)))
                      go_roundg (4 - (q + 1))
                      case measure => have := HQ.out; omega
                      case rel =>
                        have hq := HQ.out
                        have hs := HSS.out
                        refine ⟨q + 1, _, _, _, by omega, by rw [show (s : Int) = 24 - 8 * (q : Int) by omega]; congr 1; omega, rfl, ?_, hb2⟩
                        have e : be4 x (q + 1) = be4 x q ++ [v32 x / 2 ^ s % 256] := by
                          rw [be4, List.range_succ, List.map_append, List.map_singleton, show 24 - 8 * q = s by omega]
                          rfl
                        rw [e, ← List.append_assoc, ← hv8]
                        exact HO2.out
                    · have e24 : (24 - 8 * (q : Int)) = -8 := by omega
                      rw [e24]
                      clear e24
                      obtain rfl : q = 4 := by omega
                      go_wp2
                      go_roundg (8 - (i + 1))
                      case measure => have := HI.out; omega
                      case rel =>
                        refine ⟨i + 1, _, _, _, by have := HI.out; omega, by go_num, rfl, ?_, hb⟩
                        have e : outB (S.take (i + 1)) = outB (S.take i) ++ be4 x 4 := by
                          have hh := HSL.out
                          rw [List.take_succ_eq_append_getElem (by omega), outB, outB, List.flatMap_append, ← HXX.out]
                          simp [List.getD_eq_getElem?_getD, hh, hlt]
                        rw [e]
                        exact hO.out
                · obtain rfl : i = 8 := by omega
                  have hfin : outB (S.take 8) = sha bytes := by
                    rw [List.take_of_length_le (by rw [HSL.out]; omega), HSHA.out, HS.out, HSD.out]
                  clear hi
                  go_wp2
                  go_ret
                  refine ⟨_, rfl, ?_, hb⟩
                  rw [← hfin]
                  exact hO.out
end Go.Proofs.YtpeebjnfmlfocaaDoor.Dig
