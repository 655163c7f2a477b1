/- tale.read's walk at this program. -/
import Derived.Test.YtpeebjnfmlfocaaDoorZB03
import Derived.Lib.Hide
import Derived.StillTailTactics
import Derived.Laws.ResultCell
namespace Go.Proofs.YtpeebjnfmlfocaaDoor.TpR
open Go.RowKit Go.Proofs.YtpeebjnfmlfocaaDoorW.PrintWords Go.Proofs.YtpeebjnfmlfocaaDoorW.PrintLast Go.Proofs.YtpeebjnfmlfocaaDoorW.PrintMore
set_option linter.unusedVariables false
def fWord : Nat → ByteArray
  | 0 => ⟨#[100, 101, 108, 105, 118, 101, 114]⟩
  | 1 => ⟨#[99, 111, 112, 121]⟩
  | 2 => ⟨#[108, 111, 115, 101]⟩
  | 3 => ⟨#[116, 105, 99, 107]⟩
  | 4 => ⟨#[116, 101, 97, 114]⟩
  | 5 => ⟨#[102, 97, 108, 108]⟩
  | _ => ⟨#[105, 110, 106, 101, 99, 116]⟩
def fN : Nat → Nat
  | 0 => 1
  | 1 => 1
  | 2 => 1
  | 3 => 2
  | 4 => 2
  | 5 => 1
  | _ => 2
def fK : Nat → Nat → Nat
  | 0, _ => 2
  | 1, _ => 2
  | 2, _ => 2
  | 3, 0 => 1
  | 3, _ => 3
  | 4, 0 => 2
  | 4, _ => 4
  | 5, _ => 1
  | _, 0 => 1
  | _, _ => 2
def fG : Nat → Nat
  | 1 => 112
  | 2 => 111
  | 3 => 113
  | _ => 114
structure Form (w : World) (M r : Nat) (P : Nat) : Prop where
  word : w.cell? ⟨M, r * 4, none⟩ = some (.string (fWord r))
  kind : w.cell? ⟨M, r * 4 + 1, none⟩ = some (.int .i64 ((r : Int) + 1))
  parts : w.cell? ⟨M, r * 4 + 2, none⟩ = some (.slice (some ⟨P, 0, none⟩) (fN r) (fN r))
  flag : w.cell? ⟨M, r * 4 + 3, none⟩ = some (.bool (decide (r = 6)))
  get : ∀ i < fN r, w.cell? ⟨P, i, none⟩ = some (.func (.func (fG (fK r i))) #[] #[])
  below : M < w.heap.size ∧ P < w.heap.size
theorem cell_app (w : World) (b j : Nat) (cells : Array Value) (t : Nat) (v : Value) (h : w.heap[b]? = some (.cells cells t (0, 0))) (hj : cells[j]? = some v) : w.cell? ⟨b, j, none⟩ = some v := by
  unfold World.cell?
  simp [h, hj]
theorem heap_alloc (w : World) (o : Obj) (b : Nat) : (w.alloc o).heap[b]? = if b = w.heap.size then some o else w.heap[b]? := by
  unfold World.alloc
  simp only [Array.getElem?_push]
theorem size_alloc (w : World) (o : Obj) : (w.alloc o).heap.size = w.heap.size + 1 := by
  unfold World.alloc
  simp
theorem forms_any (w : World) : Calls Tryd.prog 77 #[] w fun e w' => e = .returned (.slice (some ⟨w.heap.size + 7, 0, none⟩) 7 7) ∧ (∀ r < 7, Form w' (w.heap.size + 7) r (w.heap.size + r)) ∧ Below w.heap.size w w' := by
  go_enter Tryd.func77, Tryd.ntmps77
  go_wp2
  go_ret
  refine ⟨rfl, ?_, ?_⟩
  · intro r hr
    have : r = 0 ∨ r = 1 ∨ r = 2 ∨ r = 3 ∨ r = 4 ∨ r = 5 ∨ r = 6 := by omega
    rcases this with rfl | rfl | rfl | rfl | rfl | rfl | rfl
    all_goals (refine ⟨?_, ?_, ?_, ?_, ?_, ?_⟩)
    all_goals (try (show World.cell? _ _ = _; unfold World.cell?; simp only [heap_alloc, size_alloc, fWord, fN]; simp; done))
    all_goals (try (simp only [size_alloc]; omega))
    all_goals (intro i hi; simp only [fN] at hi; have : i = 0 ∨ i = 1 := by omega)
    all_goals (rcases this with rfl | rfl)
    all_goals (first | omega | (unfold World.cell?; simp only [heap_alloc, size_alloc]; simp [fK, fG]; done) | (unfold World.cell?; simp only [heap_alloc, size_alloc, Nat.add_zero, Nat.add_assoc]; simp [fK, fG]))
  · repeat (first | exact Below.refl _ _ | apply below_alloc)
theorem get_any (w : World) (b k : Nat) (h : 1 ≤ k ∧ k ≤ 4) : Calls Tryd.prog (fG k) #[.pointer (some ⟨b, 0, none⟩)] w fun e w' => e = .returned (.pointer (some ⟨b, k, none⟩)) ∧ w' = w := by
  have : k = 1 ∨ k = 2 ∨ k = 3 ∨ k = 4 := by omega
  rcases this with rfl | rfl | rfl | rfl
  · show Calls Tryd.prog 112 _ _ _
    go_enter Tryd.func112, Tryd.ntmps112
    go_wp2
    go_ret
    exact ⟨rfl, rfl⟩
  · show Calls Tryd.prog 111 _ _ _
    go_enter Tryd.func111, Tryd.ntmps111
    go_wp2
    go_ret
    exact ⟨rfl, rfl⟩
  · show Calls Tryd.prog 113 _ _ _
    go_enter Tryd.func113, Tryd.ntmps113
    go_wp2
    go_ret
    exact ⟨rfl, rfl⟩
  · show Calls Tryd.prog 114 _ _ _
    go_enter Tryd.func114, Tryd.ntmps114
    go_wp2
    go_ret
    exact ⟨rfl, rfl⟩
theorem fK_rg (r i : Nat) : 1 ≤ fK r i ∧ fK r i ≤ 4 := by
  unfold fK
  split <;> decide
theorem form_below {w w' : World} {M r P base : Nat} (h : Form w M r P) (hb : Below base w w') (h1 : M < base) (h2 : P < base) : Form w' M r P := by
  have e1 : w'.heap[M]? = w.heap[M]? := hb.block M h1
  have e2 : w'.heap[P]? = w.heap[P]? := hb.block P h2
  have c1 : ∀ a : Nat, w'.cell? ⟨M, a, none⟩ = w.cell? ⟨M, a, none⟩ := fun a => by unfold World.cell?; simp only [e1]
  have c2 : ∀ a : Nat, w'.cell? ⟨P, a, none⟩ = w.cell? ⟨P, a, none⟩ := fun a => by unfold World.cell?; simp only [e2]
  have := hb.size
  exact ⟨by rw [c1]; exact h.word, by rw [c1]; exact h.kind, by rw [c1]; exact h.parts, by rw [c1]; exact h.flag, fun i hi => by rw [c2]; exact h.get i hi, by have := h.below; omega⟩
theorem forms_some (w : World) : Calls Tryd.prog 77 #[] w fun e w' => ∃ M P : Nat, e = .returned (.slice (some ⟨M, 0, none⟩) 7 7) ∧ (∀ r < 7, Form w' M r (P + r)) ∧ w.heap.size ≤ M ∧ w.heap.size ≤ P ∧ Below w.heap.size w w' :=
  (forms_any w).mono fun e w' ⟨he, hf, hb⟩ => ⟨_, _, he, hf, by omega, by omega, hb⟩
end Go.Proofs.YtpeebjnfmlfocaaDoor.TpR
namespace Go.Proofs.YtpeebjnfmlfocaaDoor.TpR
open Go.RowKit Go.Proofs.YtpeebjnfmlfocaaDoorW.PrintWords Go.Proofs.YtpeebjnfmlfocaaDoorW.PrintLast Go.Proofs.YtpeebjnfmlfocaaDoorW.PrintMore
set_option linter.unusedVariables false
abbrev Res := Int × (Nat → Int) × List Int × Bool
def zeroF : Nat → Int := fun _ => 0
def setF (f : Nat → Int) (k : Nat) (n : Int) : Nat → Int := fun j => if j = k then n else f j
section
variable (numF : ByteArray → Int × Bool) (hexF : ByteArray → List Int × Int)
def partsF (r : Nat) (rest : List ByteArray) : Nat → Nat → (Nat → Int) → Option (Nat → Int)
  | 0, _, f => some f
  | m + 1, i, f => if (numF (rest.getD i ByteArray.empty)).2 = true then partsF r rest m (i + 1) (setF f (fK r i) (numF (rest.getD i ByteArray.empty)).1) else none
def zeroR : Res := (0, zeroF, [], false)
def doneF (r : Nat) (rest : List ByteArray) (f : Nat → Int) : Res :=
  if r = 6 ∧ rest.length - fN r = 1 then (((r : Int) + 1), f, (hexF (rest.getD (fN r) ByteArray.empty)).1, decide ((hexF (rest.getD (fN r) ByteArray.empty)).2 = 0))
  else (((r : Int) + 1), f, [], decide (rest.length - fN r = 0))
def readAt (r : Nat) (rest : List ByteArray) : Res :=
  if rest.length < fN r then zeroR else
    match partsF numF r rest (fN r) 0 zeroF with
    | none => zeroR
    | some f => doneF hexF r rest f
def hitF (c : ByteArray) (rest : List ByteArray) : Nat → Nat → Res
  | 0, _ => zeroR
  | m + 1, r => if (fWord r).toList = c.toList then readAt numF hexF r rest else hitF c rest m (r + 1)
def readF (l : List ByteArray) : Res := hitF numF hexF (l.getD 0 ByteArray.empty) l.tail 7 0
end
def resV (R : Res) (v : Value) : Value := .agg #[.int .i64 R.1, .int .i64 (R.2.1 1), .int .i64 (R.2.1 2), .int .i64 (R.2.1 3), .int .i64 (R.2.1 4), v]
theorem frz_app (w : World) (b j : Nat) (cells : Array Value) (t : Nat) (h : w.heap[b]? = some (.cells cells t (0, 0))) : w.frozen? ⟨b, j, none⟩ = false := by
  unfold World.frozen?
  simp [h]
theorem set_heap (w : World) (b j : Nat) (v : Value) (cells : Array Value) (t : Nat) (h : w.heap[b]? = some (.cells cells t (0, 0))) : (w.setCell ⟨b, j, none⟩ v).heap[b]? = some (.cells (cells.setIfInBounds j v) t (0, 0)) := by
  unfold World.setCell
  simp [Array.getElem?_modify, h]
theorem set_other (w : World) (b j : Nat) (v : Value) (k : Nat) (hk : k ≠ b) : (w.setCell ⟨b, j, none⟩ v).heap[k]? = w.heap[k]? := by
  unfold World.setCell
  simp only [Array.getElem?_modify]
  rw [if_neg (fun h => hk h.symm)]
def six (w : World) (b : Nat) (v0 v1 v2 v3 v4 v5 : Value) : World :=
  ((((((w.setCell { block := b, off := 0 } v0).setCell { block := b, off := 1 } v1).setCell { block := b, off := 2 } v2).setCell { block := b, off := 3 } v3).setCell { block := b, off := 4 } v4).setCell { block := b, off := 5 } v5)
theorem six_at (w : World) (b : Nat) (v0 v1 v2 v3 v4 v5 a0 a1 a2 a3 a4 a5 : Value) (t : Nat) (h : w.heap[b]? = some (.cells #[a0, a1, a2, a3, a4, a5] t (0, 0))) :
    (six w b v0 v1 v2 v3 v4 v5).heap[b]? = some (.cells #[v0, v1, v2, v3, v4, v5] t (0, 0)) :=
  set_heap _ b 5 v5 _ t (set_heap _ b 4 v4 _ t (set_heap _ b 3 v3 _ t (set_heap _ b 2 v2 _ t (set_heap _ b 1 v1 _ t (set_heap _ b 0 v0 _ t h)))))
theorem six_other (w : World) (b : Nat) (v0 v1 v2 v3 v4 v5 : Value) (k : Nat) (hk : k ≠ b) : (six w b v0 v1 v2 v3 v4 v5).heap[k]? = w.heap[k]? := by
  unfold six
  rw [set_other _ _ _ _ _ hk, set_other _ _ _ _ _ hk, set_other _ _ _ _ _ hk, set_other _ _ _ _ _ hk, set_other _ _ _ _ _ hk, set_other _ _ _ _ _ hk]
theorem six_below {w0 w : World} {base : Nat} (h : Below base w0 w) (b : Nat) (hb : base ≤ b) (v0 v1 v2 v3 v4 v5 : Value) : Below base w0 (six w b v0 v1 v2 v3 v4 v5) :=
  (((((h.setCell (p := ⟨b, 0, none⟩) hb _).setCell (p := ⟨b, 1, none⟩) hb _).setCell (p := ⟨b, 2, none⟩) hb _).setCell (p := ⟨b, 3, none⟩) hb _).setCell (p := ⟨b, 4, none⟩) hb _).setCell (p := ⟨b, 5, none⟩) hb _
structure Near (bd : Nat) (wz wq : World) : Prop where
  heap : ∀ k < wz.heap.size, k ≠ bd → wq.heap[k]? = wz.heap[k]?
  size : wz.heap.size ≤ wq.heap.size
theorem Near.refl (bd : Nat) (w : World) : Near bd w w := ⟨fun _ _ _ => rfl, Nat.le_refl _⟩
theorem Near.drewN {bd : Nat} {wz wq : World} (h : Near bd wz wq) (n : Nat) : Near bd wz (wq.drewN n) := ⟨h.heap, h.size⟩
theorem size_set (w : World) (p : Addr) (v : Value) : (w.setCell p v).heap.size = w.heap.size := by
  unfold World.setCell
  simp
theorem Near.set {bd : Nat} {wz wq : World} (h : Near bd wz wq) (j : Nat) (v : Value) : Near bd wz (wq.setCell ⟨bd, j, none⟩ v) :=
  ⟨fun k hk hne => by rw [set_other _ _ _ _ _ hne]; exact h.heap k hk hne, by rw [size_set]; exact h.size⟩
theorem Near.cell {bd : Nat} {wz wq : World} (h : Near bd wz wq) (b j : Nat) (hb : b < wz.heap.size) (hne : b ≠ bd) : wq.cell? ⟨b, j, none⟩ = wz.cell? ⟨b, j, none⟩ := by
  unfold World.cell?
  rw [h.heap b hb hne]
theorem heap_lt {w : World} {b : Nat} {o : Obj} (h : w.heap[b]? = some o) : b < w.heap.size := by
  rcases Nat.lt_or_ge b w.heap.size with h1 | h1
  · exact h1
  · rw [Array.getElem?_eq_none h1] at h
    cases h
theorem nat_beq (m : Nat) : ((m : Int) == 0) = decide (m = 0) := by
  by_cases h : m = 0
  · subst h; rfl
  · rw [decide_eq_false h]; simp; omega
theorem int_beq (m : Int) : (m == 0) = decide (m = 0) := by
  by_cases h : m = 0
  · subst h; rfl
  · rw [decide_eq_false h]; simp [h]
theorem infoS : (Tryd.prog.info? 9).map (·.size) = some 1 := by kernel_rfl
set_option maxHeartbeats 4000000 in
set_option maxRecDepth 100000 in
theorem read_any (numF : ByteArray → Int × Bool) (hexF : ByteArray → List Int × Int)
    (hhex : ∀ (s : ByteArray) (w : World), s.size ≤ 100000 → Calls Tryd.prog 99 #[.string s] w fun e w' => ∃ (v : Value) (x : Int), e = .returned (.tuple #[v, .int .i64 x, .int .i64 (hexF s).2]) ∧ Kd.R (Kd.int .u8) 5 w' w.heap.size (fun _ => True) v (hexF s).1 ∧ Below w.heap.size w w')
    (hnum : ∀ (s : ByteArray) (w : World), Calls Tryd.prog 98 #[.string s] w fun e w' => e = .returned (.tuple #[.int .i64 (numF s).1, .bool (numF s).2]) ∧ Drawn0 w w')
    (A0 : Option Addr) (c0 : Nat) (l : List ByteArray) (w : World) (hr0 : Kd.C Kd.string w A0 l.length l) (hc0 : l.length ≤ c0) (hl : 0 < l.length) (hl2 : ∀ x ∈ l, x.size ≤ 100000) :
    Calls Tryd.prog 57 #[.slice A0 l.length c0] w fun e w' => ∃ v : Value, e = .returned (.tuple #[resV (readF numF hexF l) v, .bool (readF numF hexF l).2.2.2]) ∧ Kd.R (Kd.int .u8) 5 w' w.heap.size (fun _ => True) v (readF numF hexF l).2.2.1 ∧ Below w.heap.size w w' := by
  obtain ⟨R, hR⟩ : ∃ R, R = readF numF hexF l := ⟨_, rfl⟩
  rw [← hR]
  have HR : Hid (hitF numF hexF (l.getD 0 ByteArray.empty) l.tail 7 0 = R) := Lib.hid hR.symm
  have HC := Lib.hid hr0
  have HNUM := Lib.hid hnum
  have HHEX := Lib.hid hhex
  have HL2 := Lib.hid hl2
  clear hr0 hR hnum hhex hl2
  go_enter Tryd.func57, Tryd.ntmps57
  go_wp2_with (go_at_call 77; (with_reducible refine (forms_some _).mono ?_); rintro e w1 ⟨M, P, rfl, hF, hM, hP, hb1⟩)
  obtain ⟨wa, hwa⟩ : ∃ wa, wa = w.alloc (Obj.cells #[Value.int IntKind.i64 0, Value.int IntKind.i64 0, Value.int IntKind.i64 0, Value.int IntKind.i64 0, Value.int IntKind.i64 0, Value.slice none 0 0] 63) := ⟨_, rfl⟩
  rw [← hwa] at hM hP hb1
  have hsz : wa.heap.size = w.heap.size + 1 := by rw [hwa, size_alloc]
  have hbw : Below w.heap.size w wa := by rw [hwa]; exact below_alloc (Below.refl _ _) _
  have hres : wa.heap[w.heap.size]? = some (Obj.cells #[Value.int IntKind.i64 0, Value.int IntKind.i64 0, Value.int IntKind.i64 0, Value.int IntKind.i64 0, Value.int IntKind.i64 0, Value.slice none 0 0] 63) := by rw [hwa, heap_alloc, if_pos rfl]
  have HF := Lib.hid hF
  have HM := Lib.hid hM
  have HP := Lib.hid hP
  have HRES := Lib.hid hres
  have HSZ := Lib.hid hsz
  clear hF hM hP hres hwa hsz
  go_loopg [17] 7 (fun gk v17 wr => ∃ r : Nat, r + gk = 7 ∧ v17 = .int .i64 (r : Int) ∧ Hid (hitF numF hexF (l.getD 0 ByteArray.empty) l.tail gk r = R) ∧ Below w1.heap.size w1 wr)
  case atStart => exact ⟨0, by omega, rfl, HR, Below.refl _ _⟩
  case round =>
    obtain ⟨r, hr, rfl, hH, hb⟩ := hrel
    have HRR := Lib.hid hr
    clear HR
    by_cases hlt : (r : Int) < 7
    · have hdec := decide_eq_true hlt
      have hlt2 : r < 7 := by omega
      have hf1 := HF.out r hlt2
      have hf := form_below hf1 hb (by have := hf1.below; exact this.1) (by have := hf1.below; exact this.2)
      have k1 := hf.word
      have k2 := hf.kind
      have k3 := hf.parts
      have k4 := hf.flag
      go_upto_region 4 with (fail)
      obtain ⟨wx, hwx⟩ : ∃ wx, wx = wr.alloc (Obj.cells #[Value.string (fWord r), Value.int IntKind.i64 ((r : Int) + 1), Value.slice (some { block := P + r, off := 0 }) (fN r) (fN r), Value.bool (decide (r = 6))] 128) := ⟨_, rfl⟩
      obtain ⟨bf, hbf⟩ : ∃ bf, bf = wr.heap.size := ⟨_, rfl⟩
      rw [← hwx, ← hbf]
      have hx0 : wx.heap[bf]? = some (Obj.cells #[Value.string (fWord r), Value.int IntKind.i64 ((r : Int) + 1), Value.slice (some { block := P + r, off := 0 }) (fN r) (fN r), Value.bool (decide (r = 6))] 128) := by rw [hwx, hbf, heap_alloc, if_pos rfl]
      have x1 : wx.cell? ⟨bf, 0, none⟩ = some (Value.string (fWord r)) := cell_app wx bf 0 _ _ _ hx0 rfl
      have hbx : Below w1.heap.size w1 wx := by rw [hwx]; exact below_alloc hb _
      have hxs : wx.heap.size = bf + 1 := by rw [hwx, hbf, size_alloc]
      have hbf1 : w1.heap.size ≤ bf := by rw [hbf]; exact hb.size
      have hbwx : Below w.heap.size w wx := (hbw.trans (hb1.mono hbw.size)).trans (hbx.mono (Nat.le_trans hbw.size hb1.size))
      have hfx := form_below hf1 hbx (by have := hf1.below; exact this.1) (by have := hf1.below; exact this.2)
      have HFX := Lib.hid hfx
      have HX0 := Lib.hid hx0
      have HXS := Lib.hid hxs
      have HBF := Lib.hid hbf1
      obtain ⟨ad0, rfl, hl0⟩ := Kd.at_string (Kd.C_below HC.out hbwx) (0 : Int) (by omega) (by omega)
      rw [show rdOf ByteArray.empty l (0 : Int) = l.getD 0 ByteArray.empty from rfl, Int.toNat_zero, show ad0.add 0 = ad0 from by simp [Addr.add]] at hl0
      obtain ⟨c, hc⟩ : ∃ c, c = l.getD 0 ByteArray.empty := ⟨_, rfl⟩
      rw [← hc] at hl0
      have HH := hH.out
      rw [← hc, show gk = (gk - 1) + 1 by omega, hitF] at HH
      have HCC := Lib.hid hc
      clear hwx hbf hx0 k1 k2 k3 k4 hf hfx hxs hbf1 hr hH hb hc
      by_cases hw : (fWord r).toList = c.toList
      · rw [if_pos hw] at HH
        have HHIT := Lib.hid HH
        clear HH
        have hwb : ((fWord r).toList == c.toList) = true := beq_iff_eq.mpr hw
        clear hw
        go_quiet (fail)
        obtain ⟨wy, hwy⟩ : ∃ wy, wy = wx.drewN nq := ⟨_, rfl⟩
        rw [← hwy]
        have hby : Below w1.heap.size w1 wy := by rw [hwy]; exact pw_below_drewN hbx nq
        have hbwy : Below w.heap.size w wy := by rw [hwy]; exact pw_below_drewN hbwx nq
        have hys : wy.heap.size = bf + 1 := by rw [hwy]; exact HXS.out
        have hy0 : wy.heap[bf]? = some (Obj.cells #[Value.string (fWord r), Value.int IntKind.i64 ((r : Int) + 1), Value.slice (some { block := P + r, off := 0 }) (fN r) (fN r), Value.bool (decide (r = 6))] 128) := by rw [hwy]; exact HX0.out
        have y2 : wy.cell? ⟨bf, 1, none⟩ = some (Value.int IntKind.i64 ((r : Int) + 1)) := cell_app wy bf 1 _ _ _ hy0 rfl
        have y3 : wy.cell? ⟨bf, 2, none⟩ = some (Value.slice (some { block := P + r, off := 0 }) (fN r) (fN r)) := cell_app wy bf 2 _ _ _ hy0 rfl
        have HYS := Lib.hid hys
        have HY0 := Lib.hid hy0
        clear hwy x1 hl0 HX0 HXS HFX hys hy0
        obtain ⟨i9, hi9, hs9⟩ := Option.map_eq_some_iff.1 infoS
        have hcut := cut_from (P := Tryd.prog) 88 9 .i64 Tryd.underlying88 hi9 1 hs9 (some ad0) l.length c0 1 (by decide) (by omega)
        have hC1 : ∀ W, Below w.heap.size w W → Kd.string.C W (if c0 = 1 then some ad0 else (some ad0).map (·.add (1 * 1))) l.tail.length l.tail := fun W hW => by
          have := Kd.C_drop (m := 1) (c := c0) (Kd.C_below HC.out hW) (by omega) hc0
          rw [List.drop_one] at this
          exact this
        rw [show (1 : Int).toNat = 1 from rfl, show l.length - 1 = l.tail.length from by rw [List.length_tail]] at hcut
        obtain ⟨A1, hA1⟩ : ∃ A1, A1 = (if c0 = 1 then some ad0 else (some ad0).map (·.add (1 * 1))) := ⟨_, rfl⟩
        obtain ⟨c1, hc1⟩ : ∃ c1, c1 = c0 - 1 := ⟨_, rfl⟩
        rw [← hA1, ← hc1] at hcut
        have hC2 : ∀ W, Below w.heap.size w W → Kd.string.C W A1 l.tail.length l.tail := by rw [hA1]; exact hC1
        have hcl : l.tail.length ≤ c1 := by rw [List.length_tail]; omega
        obtain ⟨rest, hrest⟩ : ∃ rest, rest = l.tail := ⟨_, rfl⟩
        have hlr2 : ∀ x ∈ rest, x.size ≤ 100000 := fun x hx => HL2.out x (by rw [hrest] at hx; exact List.mem_of_mem_tail hx)
        have HLR2 := Lib.hid hlr2
        clear hlr2
        rw [← hrest] at hcut hC2 hcl
        rw [← hrest] at HHIT
        have HC2 := Lib.hid hC2
        clear hA1 hc1 hC1 hC2 hrest
        go_upto_region 7 with (fail)
        obtain ⟨bd, hbd⟩ : ∃ bd, bd = wy.heap.size := ⟨_, rfl⟩
        obtain ⟨wz, hwz⟩ : ∃ wz, wz = wy.alloc (Obj.cells #[Value.int IntKind.i64 ((r : Int) + 1), Value.int IntKind.i64 0, Value.int IntKind.i64 0, Value.int IntKind.i64 0, Value.int IntKind.i64 0, Value.slice none 0 0] 63) := ⟨_, rfl⟩
        rw [← hwz, ← hbd]
        have hd0 : wz.heap[bd]? = some (Obj.cells #[Value.int IntKind.i64 ((r : Int) + 1), Value.int IntKind.i64 0, Value.int IntKind.i64 0, Value.int IntKind.i64 0, Value.int IntKind.i64 0, Value.slice none 0 0] 63) := by rw [hwz, hbd, heap_alloc, if_pos rfl]
        have hzy : Below wy.heap.size wy wz := by rw [hwz]; exact below_alloc (Below.refl _ _) _
        have hbz : Below w1.heap.size w1 wz := hby.trans (hzy.mono hby.size)
        have hbwz : Below w.heap.size w wz := hbwy.trans (hzy.mono hbwy.size)
        have hz0 : wz.heap[bf]? = some (Obj.cells #[Value.string (fWord r), Value.int IntKind.i64 ((r : Int) + 1), Value.slice (some { block := P + r, off := 0 }) (fN r) (fN r), Value.bool (decide (r = 6))] 128) := by rw [hzy.block bf (by rw [HYS.out]; omega)]; exact HY0.out
        have z3 : wz.cell? ⟨bf, 2, none⟩ = some (Value.slice (some { block := P + r, off := 0 }) (fN r) (fN r)) := cell_app wz bf 2 _ _ _ hz0 rfl
        have hfz := form_below hf1 hbz (by have := hf1.below; exact this.1) (by have := hf1.below; exact this.2)
        have hsw : w.heap.size < w1.heap.size := by have := HSZ.out; have := hb1.size; omega
        have hrz : wz.heap[w.heap.size]? = some (Obj.cells #[Value.int IntKind.i64 0, Value.int IntKind.i64 0, Value.int IntKind.i64 0, Value.int IntKind.i64 0, Value.int IntKind.i64 0, Value.slice none 0 0] 63) := by
          rw [hbz.block _ hsw, hb1.block _ (by rw [HSZ.out]; omega)]
          exact HRES.out
        have HZ0 := Lib.hid hz0
        have HD0 := Lib.hid hd0
        have HRZ := Lib.hid hrz
        have HFZ := Lib.hid hfz
        have hbd1 : bd = bf + 1 := by rw [hbd]; exact HYS.out
        have HBD := Lib.hid hbd1
        have HSW := Lib.hid hsw
        clear hwz hbd hcut y2 y3 hz0 hd0 hrz hfz hbd1 hsw HYS HY0
        by_cases hlr : rest.length < fN r
        · have hd1 : decide ((rest.length : Int) < (fN r : Int)) = true := decide_eq_true (by omega)
          have hd2 : decide (rest.length < fN r) = true := decide_eq_true hlr
          have hR0 : R = zeroR := by have := HHIT.out; rw [readAt, if_pos hlr] at this; exact this.symm
          have q0 := cell_app wz w.heap.size 0 _ _ _ HRZ.out rfl
          have q1 := cell_app wz w.heap.size 1 _ _ _ HRZ.out rfl
          have q2 := cell_app wz w.heap.size 2 _ _ _ HRZ.out rfl
          have q3 := cell_app wz w.heap.size 3 _ _ _ HRZ.out rfl
          have q4 := cell_app wz w.heap.size 4 _ _ _ HRZ.out rfl
          have q5 := cell_app wz w.heap.size 5 _ _ _ HRZ.out rfl
          have r0 := frz_app wz w.heap.size 0 _ _ HRZ.out
          have r1 := frz_app wz w.heap.size 1 _ _ HRZ.out
          have r2 := frz_app wz w.heap.size 2 _ _ HRZ.out
          have r3 := frz_app wz w.heap.size 3 _ _ HRZ.out
          have r4 := frz_app wz w.heap.size 4 _ _ HRZ.out
          have r5 := frz_app wz w.heap.size 5 _ _ HRZ.out
          clear hlr
          go_wp2
          (try simp only [Exit.inBlock, Exit.then])
          have S0 := six_at wz w.heap.size (.int .i64 0) (.int .i64 0) (.int .i64 0) (.int .i64 0) (.int .i64 0) (.slice none 0 0) _ _ _ _ _ _ _ HRZ.out
          have c0 := cell_app _ w.heap.size 0 _ _ _ S0 rfl
          have c1 := cell_app _ w.heap.size 1 _ _ _ S0 rfl
          have c2 := cell_app _ w.heap.size 2 _ _ _ S0 rfl
          have c3 := cell_app _ w.heap.size 3 _ _ _ S0 rfl
          have c4 := cell_app _ w.heap.size 4 _ _ _ S0 rfl
          have c5 := cell_app _ w.heap.size 5 _ _ _ S0 rfl
          have hB := six_below hbwz w.heap.size (Nat.le_refl _) (.int .i64 0) (.int .i64 0) (.int .i64 0) (.int .i64 0) (.int .i64 0) (.slice none 0 0)
          obtain ⟨W, hW⟩ : ∃ W, W = six wz w.heap.size (.int .i64 0) (.int .i64 0) (.int .i64 0) (.int .i64 0) (.int .i64 0) (.slice none 0 0) := ⟨_, rfl⟩
          rw [← hW] at c0 c1 c2 c3 c4 c5 hB
          unfold six at hW
          rw [← hW]
          clear hW S0 q0 q1 q2 q3 q4 q5 r0 r1 r2 r3 r4 r5
          refine bodyPost_ret (v := .tuple #[resV R (.slice none 0 0), .bool R.2.2.2]) ?_ rfl ⟨_, rfl, ?_, hB⟩
          · rw [results_cell_tmp rfl]
            rw [hR0]
            go_simp
            exact ⟨rfl, rfl⟩
          · rw [hR0]
            exact Kd.R_nil _ _ _ _ _
        · have hd1 : decide ((rest.length : Int) < (fN r : Int)) = false := decide_eq_false (by omega)
          have hd2 : decide (rest.length < fN r) = false := decide_eq_false hlr
          have hlr2 : fN r ≤ rest.length := by omega
          have HH2 := HHIT.out
          rw [readAt, if_neg hlr] at HH2
          obtain ⟨PF, hPF⟩ : ∃ PF, partsF numF r rest (fN r) 0 zeroF = PF := ⟨_, rfl⟩
          rw [hPF] at HH2
          have HHP := Lib.hid HH2
          have HPF := Lib.hid hPF
          have hfn : fN r ≤ 2 := by unfold fN; split <;> decide
          clear HH2 hPF HHIT hlr
          go_wp2
          go_loopg [42] (fN r) (fun hk v42 wq => ∃ (i : Nat) (F : Nat → Int), i + hk = fN r ∧ v42 = .int .i64 (i : Int) ∧ Hid (partsF numF r rest hk i F = PF) ∧ Hid (wq.heap[bd]? = some (Obj.cells #[Value.int IntKind.i64 ((r : Int) + 1), Value.int IntKind.i64 (F 1), Value.int IntKind.i64 (F 2), Value.int IntKind.i64 (F 3), Value.int IntKind.i64 (F 4), Value.slice none 0 0] 63)) ∧ Near bd wz wq ∧ Below w.heap.size w wq)
          case atStart => exact ⟨0, zeroF, by omega, rfl, HPF, HD0, Near.refl _ _, hbwz⟩
          case round =>
            obtain ⟨i, F, hi, rfl, hP, hD, hnear, hbq⟩ := hrel
            have HI := Lib.hid hi
            have hbdw : w.heap.size ≤ bd := by have := HBD.out; have := HBF.out; have := HSW.out; omega
            clear HPF HD0
            by_cases ilt : (i : Int) < (fN r : Int)
            · have idec := decide_eq_true ilt
              have ilt2 : i < fN r := by omega
              have idec2 : decide (i < fN r) = true := decide_eq_true ilt2
              have ei : IntKind.i64.wrap ((i : Int) + 1) = (i : Int) + 1 := IntWalk.i64_in _ (by omega)
              have g1 : wr.cell? ⟨P + r, i, none⟩ = some (.func (.func (fG (fK r i))) #[] #[]) := by
                have := HFZ.out.below
                have := HF.out r hlt2
                rw [hnear.cell _ _ (by have := HFZ.out.below; omega) (by have := this.below; have := HBD.out; have := HBF.out; omega)]
                exact HFZ.out.get i ilt2
              obtain ⟨ad1, rfl, hs1⟩ := Kd.at_string (HC2.out wr hbq) (i : Int) (by omega) (by omega)
              rw [show rdOf ByteArray.empty rest (i : Int) = rest.getD i ByteArray.empty from by unfold rdOf; rw [Int.toNat_natCast], Int.toNat_natCast] at hs1
              obtain ⟨s, hs⟩ : ∃ s, s = rest.getD i ByteArray.empty := ⟨_, rfl⟩
              rw [← hs] at hs1
              have hirl : (i : Int) < (rest.length : Int) := by omega
              have hP2 := hP.out
              rw [show gk = (gk - 1) + 1 by omega, partsF, ← hs] at hP2
              have HP2 := Lib.hid hP2
              clear hs hP2 hP hi
              obtain ⟨n, ok, hno⟩ : ∃ n ok, numF s = (n, ok) := ⟨_, _, rfl⟩
              have hcall := HNUM.out s wr
              rw [hno] at hcall HP2
              have HCALL := Lib.hid hcall
              clear hcall hno
              cases ok with
              | false =>
                have hPF : PF = none := by have := HP2.out; rw [if_neg (by simp)] at this; exact this.symm
                have hR0 : R = zeroR := by have := HHP.out; rw [hPF] at this; exact this.symm
                have hrz : wr.heap[w.heap.size]? = some (Obj.cells #[Value.int IntKind.i64 0, Value.int IntKind.i64 0, Value.int IntKind.i64 0, Value.int IntKind.i64 0, Value.int IntKind.i64 0, Value.slice none 0 0] 63) := by
                  rw [hnear.heap _ (heap_lt HRZ.out) (by have := HBD.out; have := HBF.out; have := HSW.out; omega)]
                  exact HRZ.out
                have HRZ2 := Lib.hid hrz
                clear hrz hPF HRZ HP2
                go_wp2_with (go_at_call 98; (with_reducible refine (HCALL.out).mono ?_); rintro e w' ⟨rfl, m, rfl⟩; have q0 := cell_app (wr.drewN m) w.heap.size 0 _ _ _ HRZ2.out rfl; have q1 := cell_app (wr.drewN m) w.heap.size 1 _ _ _ HRZ2.out rfl; have q2 := cell_app (wr.drewN m) w.heap.size 2 _ _ _ HRZ2.out rfl; have q3 := cell_app (wr.drewN m) w.heap.size 3 _ _ _ HRZ2.out rfl; have q4 := cell_app (wr.drewN m) w.heap.size 4 _ _ _ HRZ2.out rfl; have q5 := cell_app (wr.drewN m) w.heap.size 5 _ _ _ HRZ2.out rfl; have r0 := frz_app (wr.drewN m) w.heap.size 0 _ _ HRZ2.out; have r1 := frz_app (wr.drewN m) w.heap.size 1 _ _ HRZ2.out; have r2 := frz_app (wr.drewN m) w.heap.size 2 _ _ HRZ2.out; have r3 := frz_app (wr.drewN m) w.heap.size 3 _ _ HRZ2.out; have r4 := frz_app (wr.drewN m) w.heap.size 4 _ _ HRZ2.out; have r5 := frz_app (wr.drewN m) w.heap.size 5 _ _ HRZ2.out)
                (try simp only [Exit.inBlock, Exit.then])
                have S0 := six_at (wr.drewN m) w.heap.size (.int .i64 0) (.int .i64 0) (.int .i64 0) (.int .i64 0) (.int .i64 0) (.slice none 0 0) _ _ _ _ _ _ _ HRZ2.out
                have c0 := cell_app _ w.heap.size 0 _ _ _ S0 rfl
                have c1 := cell_app _ w.heap.size 1 _ _ _ S0 rfl
                have c2 := cell_app _ w.heap.size 2 _ _ _ S0 rfl
                have c3 := cell_app _ w.heap.size 3 _ _ _ S0 rfl
                have c4 := cell_app _ w.heap.size 4 _ _ _ S0 rfl
                have c5 := cell_app _ w.heap.size 5 _ _ _ S0 rfl
                have hB := six_below (pw_below_drewN hbq m) w.heap.size (Nat.le_refl _) (.int .i64 0) (.int .i64 0) (.int .i64 0) (.int .i64 0) (.int .i64 0) (.slice none 0 0)
                have hOth := fun k hk => six_other (wr.drewN m) w.heap.size (.int .i64 0) (.int .i64 0) (.int .i64 0) (.int .i64 0) (.int .i64 0) (.slice none 0 0) k hk
                obtain ⟨W, hW⟩ : ∃ W, W = six (wr.drewN m) w.heap.size (.int .i64 0) (.int .i64 0) (.int .i64 0) (.int .i64 0) (.int .i64 0) (.slice none 0 0) := ⟨_, rfl⟩
                rw [← hW] at c0 c1 c2 c3 c4 c5 hB hOth
                unfold six at hW
                rw [← hW]
                clear hW S0 q0 q1 q2 q3 q4 q5 r0 r1 r2 r3 r4 r5
                refine bodyPost_ret (v := .tuple #[resV R (.slice none 0 0), .bool R.2.2.2]) ?_ rfl ⟨_, rfl, ?_, hB⟩
                · rw [results_cell_tmp rfl]
                  rw [hR0]
                  go_simp
                  exact ⟨rfl, rfl⟩
                · rw [hR0]
                  exact Kd.R_nil _ _ _ _ _
              | true =>
                have hP3 : partsF numF r rest (gk - 1) (i + 1) (setF F (fK r i) n) = PF := by have := HP2.out; rw [if_pos rfl] at this; exact this
                have HP3 := Lib.hid hP3
                have hfk := fK_rg r i
                obtain ⟨k, hk⟩ : ∃ k, k = fK r i := ⟨_, rfl⟩
                rw [← hk] at hfk g1 HP3
                have hget := fun W => get_any W bd k hfk
                clear hP3 HP2 hk
                have hk4 : k = 1 ∨ k = 2 ∨ k = 3 ∨ k = 4 := by omega
                clear hfk
                have hnr := hnear.drewN
                have hbr := pw_below_drewN hbq
                rcases hk4 with rfl | rfl | rfl | rfl
                · have dk := fun m => cell_app (wr.drewN m) bd 1 _ _ (.int .i64 (F 1)) hD.out rfl
                  have fk := fun m => frz_app (wr.drewN m) bd 1 _ _ hD.out
                  have hst := fun m => set_heap (wr.drewN m) bd 1 (.int .i64 n) _ _ hD.out
                  have HST := Lib.hid hst
                  replace hget := fun W => (show Calls Tryd.prog 112 #[.pointer (some ⟨bd, 0, none⟩)] W _ from hget W)
                  rw [show fG 1 = 112 from rfl] at g1
                  clear hst
                  go_wp2_with (first
                    | (go_at_call 98; (with_reducible refine (HCALL.out).mono ?_); rintro e w' ⟨rfl, m, rfl⟩; replace dk := dk m; replace fk := fk m; replace HST := Lib.hid (HST.out m); replace hnr := hnr m; replace hbr := hbr m)
                    | (go_at_call 112; (with_reducible refine (hget _).mono ?_); rintro e w' ⟨rfl, rfl⟩))
                  go_roundg (gk - 1)
                  case measure => have := HI.out; omega
                  case rel =>
                    refine ⟨i + 1, setF F 1 n, by have := HI.out; omega, by go_num, HP3, ?_, hnr.set _ _, hbr.setCell (p := ⟨bd, 1, none⟩) hbdw _⟩
                    exact HST.out
                · have dk := fun m => cell_app (wr.drewN m) bd 2 _ _ (.int .i64 (F 2)) hD.out rfl
                  have fk := fun m => frz_app (wr.drewN m) bd 2 _ _ hD.out
                  have hst := fun m => set_heap (wr.drewN m) bd 2 (.int .i64 n) _ _ hD.out
                  have HST := Lib.hid hst
                  replace hget := fun W => (show Calls Tryd.prog 111 #[.pointer (some ⟨bd, 0, none⟩)] W _ from hget W)
                  rw [show fG 2 = 111 from rfl] at g1
                  clear hst
                  go_wp2_with (first
                    | (go_at_call 98; (with_reducible refine (HCALL.out).mono ?_); rintro e w' ⟨rfl, m, rfl⟩; replace dk := dk m; replace fk := fk m; replace HST := Lib.hid (HST.out m); replace hnr := hnr m; replace hbr := hbr m)
                    | (go_at_call 111; (with_reducible refine (hget _).mono ?_); rintro e w' ⟨rfl, rfl⟩))
                  go_roundg (gk - 1)
                  case measure => have := HI.out; omega
                  case rel =>
                    refine ⟨i + 1, setF F 2 n, by have := HI.out; omega, by go_num, HP3, ?_, hnr.set _ _, hbr.setCell (p := ⟨bd, 2, none⟩) hbdw _⟩
                    exact HST.out
                · have dk := fun m => cell_app (wr.drewN m) bd 3 _ _ (.int .i64 (F 3)) hD.out rfl
                  have fk := fun m => frz_app (wr.drewN m) bd 3 _ _ hD.out
                  have hst := fun m => set_heap (wr.drewN m) bd 3 (.int .i64 n) _ _ hD.out
                  have HST := Lib.hid hst
                  replace hget := fun W => (show Calls Tryd.prog 113 #[.pointer (some ⟨bd, 0, none⟩)] W _ from hget W)
                  rw [show fG 3 = 113 from rfl] at g1
                  clear hst
                  go_wp2_with (first
                    | (go_at_call 98; (with_reducible refine (HCALL.out).mono ?_); rintro e w' ⟨rfl, m, rfl⟩; replace dk := dk m; replace fk := fk m; replace HST := Lib.hid (HST.out m); replace hnr := hnr m; replace hbr := hbr m)
                    | (go_at_call 113; (with_reducible refine (hget _).mono ?_); rintro e w' ⟨rfl, rfl⟩))
                  go_roundg (gk - 1)
                  case measure => have := HI.out; omega
                  case rel =>
                    refine ⟨i + 1, setF F 3 n, by have := HI.out; omega, by go_num, HP3, ?_, hnr.set _ _, hbr.setCell (p := ⟨bd, 3, none⟩) hbdw _⟩
                    exact HST.out
                · have dk := fun m => cell_app (wr.drewN m) bd 4 _ _ (.int .i64 (F 4)) hD.out rfl
                  have fk := fun m => frz_app (wr.drewN m) bd 4 _ _ hD.out
                  have hst := fun m => set_heap (wr.drewN m) bd 4 (.int .i64 n) _ _ hD.out
                  have HST := Lib.hid hst
                  replace hget := fun W => (show Calls Tryd.prog 114 #[.pointer (some ⟨bd, 0, none⟩)] W _ from hget W)
                  rw [show fG 4 = 114 from rfl] at g1
                  clear hst
                  go_wp2_with (first
                    | (go_at_call 98; (with_reducible refine (HCALL.out).mono ?_); rintro e w' ⟨rfl, m, rfl⟩; replace dk := dk m; replace fk := fk m; replace HST := Lib.hid (HST.out m); replace hnr := hnr m; replace hbr := hbr m)
                    | (go_at_call 114; (with_reducible refine (hget _).mono ?_); rintro e w' ⟨rfl, rfl⟩))
                  go_roundg (gk - 1)
                  case measure => have := HI.out; omega
                  case rel =>
                    refine ⟨i + 1, setF F 4 n, by have := HI.out; omega, by go_num, HP3, ?_, hnr.set _ _, hbr.setCell (p := ⟨bd, 4, none⟩) hbdw _⟩
                    exact HST.out
            · have idec := decide_eq_false ilt
              have idec2 : decide (i < fN r) = false := decide_eq_false (by omega)
              have hg0 : gk = 0 := by omega
              subst hg0
              obtain rfl : i = fN r := by omega
              have hPF : PF = some F := by have := hP.out; rw [partsF] at this; exact this.symm
              have hR0 := HHP.out
              rw [hPF] at hR0
              replace hR0 : doneF hexF r rest F = R := hR0
              have hcut := cut_from (P := Tryd.prog) 88 9 .i64 Tryd.underlying88 hi9 1 hs9 A1 rest.length c1 (fN r : Int) (by omega) (by omega)
              rw [Int.toNat_natCast] at hcut
              have hC1 : ∀ W, Below w.heap.size w W → Kd.string.C W (if c1 = fN r then A1 else A1.map (·.add (fN r * 1))) (rest.drop (fN r)).length (rest.drop (fN r)) := fun W hW => Kd.C_drop (m := fN r) (c := c1) (HC2.out W hW) hlr2 hcl
              obtain ⟨A2, hA2⟩ : ∃ A2, A2 = (if c1 = fN r then A1 else A1.map (·.add (fN r * 1))) := ⟨_, rfl⟩
              obtain ⟨c2, hc2⟩ : ∃ c2, c2 = c1 - fN r := ⟨_, rfl⟩
              obtain ⟨m2, hm2⟩ : ∃ m2, m2 = rest.length - fN r := ⟨_, rfl⟩
              rw [← hA2, ← hc2, ← hm2] at hcut
              have hC3 : ∀ W, Below w.heap.size w W → Kd.string.C W A2 m2 (rest.drop (fN r)) := fun W hW => by have := hC1 W hW; rw [← hA2] at this; rw [hm2, ← List.length_drop]; exact this
              have HC3 := Lib.hid hC3
              unfold doneF at hR0
              rw [← hm2] at hR0
              have hfl : wr.cell? ⟨bf, 3, none⟩ = some (Value.bool (decide (r = 6))) := by
                rw [hnear.cell _ _ (heap_lt HZ0.out) (by have := HBD.out; omega)]
                exact cell_app wz bf 3 _ _ _ HZ0.out rfl
              have hf2 : wr.cell? ⟨bf, 2, none⟩ = some (Value.slice (some { block := P + r, off := 0 }) (fN r) (fN r)) := by
                rw [hnear.cell _ _ (heap_lt HZ0.out) (by have := HBD.out; omega)]
                exact cell_app wz bf 2 _ _ _ HZ0.out rfl
              have hrz : wr.heap[w.heap.size]? = some (Obj.cells #[Value.int IntKind.i64 0, Value.int IntKind.i64 0, Value.int IntKind.i64 0, Value.int IntKind.i64 0, Value.int IntKind.i64 0, Value.slice none 0 0] 63) := by
                rw [hnear.heap _ (heap_lt HRZ.out) (by have := HBD.out; have := HBF.out; have := HSW.out; omega)]
                exact HRZ.out
              have HRZ2 := Lib.hid hrz
              have HR0 := Lib.hid hR0
              have HM2 := Lib.hid hm2
              clear hrz hPF HRZ hP hA2 hc2 hC1 hC3 hR0 hi hm2 HHP ilt
              by_cases h61 : r = 6 ∧ m2 = 1
              · have hR0 := HR0.out
                rw [if_pos h61] at hR0
                obtain ⟨h6, h1⟩ := h61
                have e6 := decide_eq_true h6
                rw [e6] at hfl
                subst h1
                obtain ⟨ad2, rfl, hs2⟩ := Kd.at_string (HC3.out wr hbq) (0 : Int) (by omega) (by omega)
                rw [show rdOf ByteArray.empty (rest.drop (fN r)) (0 : Int) = rest.getD (fN r) ByteArray.empty from by unfold rdOf; simp [List.getD_eq_getElem?_getD], Int.toNat_zero, show ad2.add 0 = ad2 from by simp [Addr.add]] at hs2
                obtain ⟨s, hs⟩ : ∃ s, s = rest.getD (fN r) ByteArray.empty := ⟨_, rfl⟩
                rw [← hs] at hs2 hR0
                have hsz3 : s.size ≤ 100000 := by
                  have hm2 := HM2.out
                  rw [hs, List.getD_eq_getElem?_getD, List.getElem?_eq_getElem (by omega)]
                  exact HLR2.out _ (List.getElem_mem _)
                have hcall := HHEX.out s wr hsz3
                obtain ⟨bl, be, hbe⟩ : ∃ bl be, hexF s = (bl, be) := ⟨_, _, rfl⟩
                rw [hbe] at hcall hR0
                have HCALL := Lib.hid hcall
                have HRF := Lib.hid hR0
                clear hcall hbe hs hR0 HR0 e6 h6 hsz3
                have hbdw2 := hbdw
                have hbdq : bd < wr.heap.size := heap_lt hD.out
                have hwq : w.heap.size < wr.heap.size := heap_lt HRZ2.out
                have hbdne : bd ≠ w.heap.size := by have := HBD.out; have := HBF.out; have := HSW.out; omega
                have HBDQ := Lib.hid hbdq
                have HWQ := Lib.hid hwq
                have HNE := Lib.hid hbdne
                clear hbdq hwq hbdne
                go_upto_region 20 with (go_at_call 99; (with_reducible refine (HCALL.out).mono ?_); rintro e wh ⟨v, xm, rfl, hRv, hbh⟩; obtain ⟨Av, cv, rfl⟩ := Kd.R_slice hRv; have HRV := Lib.hid hRv; clear hRv)
                have hDh : wh.heap[bd]? = _ := (hbh.block bd HBDQ.out).trans hD.out
                have hRh : wh.heap[w.heap.size]? = _ := (hbh.block w.heap.size HWQ.out).trans HRZ2.out
                have hbwh : Below w.heap.size w wh := hbq.trans (hbh.mono hbq.size)
                have dk := cell_app wh bd 5 _ _ _ hDh rfl
                have fk := frz_app wh bd 5 _ _ hDh
                have hst := set_heap wh bd 5 (.slice Av bl.length cv) _ _ hDh
                have hso := fun k hk => set_other wh bd 5 (.slice Av bl.length cv) k hk
                have hbs := hbwh.setCell (p := ⟨bd, 5, none⟩) hbdw (.slice Av bl.length cv)
                have HST := Lib.hid hst
                have HRH := Lib.hid hRh
                clear hst hDh hRh
                go_upto_region 21 with (fail)
                obtain ⟨wk, hwk⟩ : ∃ wk, wk = wh.setCell ⟨bd, 5, none⟩ (.slice Av bl.length cv) := ⟨_, rfl⟩
                rw [← hwk]
                have hst := HST.out
                rw [← hwk] at hso hbs hst
                have hRk : wk.heap[w.heap.size]? = _ := (hso _ (fun h => HNE.out h.symm)).trans HRH.out
                have HRK := Lib.hid hRk
                have HDK : Hid (wk.heap[bd]? = some (Obj.cells #[Value.int IntKind.i64 ((r : Int) + 1), Value.int IntKind.i64 (F 1), Value.int IntKind.i64 (F 2), Value.int IntKind.i64 (F 3), Value.int IntKind.i64 (F 4), .slice Av bl.length cv] 63)) := Lib.hid hst
                have hRR : Kd.R (Kd.int .u8) 5 wk wr.heap.size (fun _ => True) (.slice Av bl.length cv) bl := Kd.R_step (Kd.R_bound HRV.out) (fun k hk _ => hso k (by have := HBDQ.out; omega)) |> fun h => Kd.R_mono h (fun _ _ => trivial)
                have HRR2 := Lib.hid hRR
                clear hRR hwk HST hst HRH hRk hso dk fk
                have q0 := cell_app wk w.heap.size 0 _ _ _ HRK.out rfl
                have q1 := cell_app wk w.heap.size 1 _ _ _ HRK.out rfl
                have q2 := cell_app wk w.heap.size 2 _ _ _ HRK.out rfl
                have q3 := cell_app wk w.heap.size 3 _ _ _ HRK.out rfl
                have q4 := cell_app wk w.heap.size 4 _ _ _ HRK.out rfl
                have q5 := cell_app wk w.heap.size 5 _ _ _ HRK.out rfl
                have r0 := frz_app wk w.heap.size 0 _ _ HRK.out
                have r1 := frz_app wk w.heap.size 1 _ _ HRK.out
                have r2 := frz_app wk w.heap.size 2 _ _ HRK.out
                have r3 := frz_app wk w.heap.size 3 _ _ HRK.out
                have r4 := frz_app wk w.heap.size 4 _ _ HRK.out
                have r5 := frz_app wk w.heap.size 5 _ _ HRK.out
                have dq0 := cell_app wk bd 0 _ _ (.int .i64 ((r : Int) + 1)) HDK.out rfl
                have dq1 := cell_app wk bd 1 _ _ (.int .i64 (F 1)) HDK.out rfl
                have dq2 := cell_app wk bd 2 _ _ (.int .i64 (F 2)) HDK.out rfl
                have dq3 := cell_app wk bd 3 _ _ (.int .i64 (F 3)) HDK.out rfl
                have dq4 := cell_app wk bd 4 _ _ (.int .i64 (F 4)) HDK.out rfl
                have dq5 := cell_app wk bd 5 _ _ (.slice Av bl.length cv) HDK.out rfl
                go_wp2
                (try simp only [Exit.inBlock, Exit.then])
                have S0 := six_at wk w.heap.size (.int .i64 ((r : Int) + 1)) (.int .i64 (F 1)) (.int .i64 (F 2)) (.int .i64 (F 3)) (.int .i64 (F 4)) (.slice Av bl.length cv) _ _ _ _ _ _ _ HRK.out
                have c0 := cell_app _ w.heap.size 0 _ _ _ S0 rfl
                have c1 := cell_app _ w.heap.size 1 _ _ _ S0 rfl
                have c2 := cell_app _ w.heap.size 2 _ _ _ S0 rfl
                have c3 := cell_app _ w.heap.size 3 _ _ _ S0 rfl
                have c4 := cell_app _ w.heap.size 4 _ _ _ S0 rfl
                have c5 := cell_app _ w.heap.size 5 _ _ _ S0 rfl
                have hB := six_below hbs w.heap.size (Nat.le_refl _) (.int .i64 ((r : Int) + 1)) (.int .i64 (F 1)) (.int .i64 (F 2)) (.int .i64 (F 3)) (.int .i64 (F 4)) (.slice Av bl.length cv)
                have hOth := fun k hk => six_other wk w.heap.size (.int .i64 ((r : Int) + 1)) (.int .i64 (F 1)) (.int .i64 (F 2)) (.int .i64 (F 3)) (.int .i64 (F 4)) (.slice Av bl.length cv) k hk
                obtain ⟨W, hW⟩ : ∃ W, W = six wk w.heap.size (.int .i64 ((r : Int) + 1)) (.int .i64 (F 1)) (.int .i64 (F 2)) (.int .i64 (F 3)) (.int .i64 (F 4)) (.slice Av bl.length cv) := ⟨_, rfl⟩
                rw [← hW] at c0 c1 c2 c3 c4 c5 hB hOth
                unfold six at hW
                rw [← hW]
                clear hW S0 q0 q1 q2 q3 q4 q5 r0 r1 r2 r3 r4 r5
                refine bodyPost_ret (v := .tuple #[resV R (.slice Av bl.length cv), .bool R.2.2.2]) ?_ rfl ⟨_, rfl, ?_, hB⟩
                · rw [results_cell_tmp rfl]
                  rw [← HRF.out]
                  go_simp
                  first | exact ⟨rfl, rfl⟩ | exact ⟨rfl, int_beq be⟩
                · rw [← HRF.out]
                  refine Kd.R_lower (base' := w.heap.size) ?_ hbq.size
                  refine Kd.R_mono (Kd.R_step (Kd.R_bound HRR2.out) (fun k hk _ => hOth k ?_)) (fun _ _ => trivial)
                  have := HWQ.out
                  have := hk.2.1
                  omega
              · have hR0 := HR0.out
                rw [if_neg h61] at hR0
                have HRF := Lib.hid hR0
                clear hR0 HR0
                by_cases h6 : r = 6
                · have e6 := decide_eq_true h6
                  have hm1 : ((m2 : Int) == 1) = false := by
                    have : ¬ m2 = 1 := fun h => h61 ⟨h6, h⟩
                    simp
                    omega
                  have hm2 : (m2 == 1) = false := by
                    have : ¬ m2 = 1 := fun h => h61 ⟨h6, h⟩
                    simp
                    omega
                  have hm3 : decide ((m2 : Int) = 1) = false := decide_eq_false (fun h => h61 ⟨h6, by omega⟩)
                  have hm4 : decide (m2 = 1) = false := decide_eq_false (fun h => h61 ⟨h6, by omega⟩)
                  rw [e6] at hfl
                  clear e6 h6 h61
                  have q0 := cell_app wr w.heap.size 0 _ _ _ HRZ2.out rfl
                  have q1 := cell_app wr w.heap.size 1 _ _ _ HRZ2.out rfl
                  have q2 := cell_app wr w.heap.size 2 _ _ _ HRZ2.out rfl
                  have q3 := cell_app wr w.heap.size 3 _ _ _ HRZ2.out rfl
                  have q4 := cell_app wr w.heap.size 4 _ _ _ HRZ2.out rfl
                  have q5 := cell_app wr w.heap.size 5 _ _ _ HRZ2.out rfl
                  have r0 := frz_app wr w.heap.size 0 _ _ HRZ2.out
                  have r1 := frz_app wr w.heap.size 1 _ _ HRZ2.out
                  have r2 := frz_app wr w.heap.size 2 _ _ HRZ2.out
                  have r3 := frz_app wr w.heap.size 3 _ _ HRZ2.out
                  have r4 := frz_app wr w.heap.size 4 _ _ HRZ2.out
                  have r5 := frz_app wr w.heap.size 5 _ _ HRZ2.out
                  have dq0 := cell_app wr bd 0 _ _ (.int .i64 ((r : Int) + 1)) hD.out rfl
                  have dq1 := cell_app wr bd 1 _ _ (.int .i64 (F 1)) hD.out rfl
                  have dq2 := cell_app wr bd 2 _ _ (.int .i64 (F 2)) hD.out rfl
                  have dq3 := cell_app wr bd 3 _ _ (.int .i64 (F 3)) hD.out rfl
                  have dq4 := cell_app wr bd 4 _ _ (.int .i64 (F 4)) hD.out rfl
                  have dq5 := cell_app wr bd 5 _ _ (.slice none 0 0) hD.out rfl
                  go_wp2
                  (try simp only [Exit.inBlock, Exit.then])
                  have S0 := six_at wr w.heap.size (.int .i64 ((r : Int) + 1)) (.int .i64 (F 1)) (.int .i64 (F 2)) (.int .i64 (F 3)) (.int .i64 (F 4)) (.slice none 0 0) _ _ _ _ _ _ _ HRZ2.out
                  have c0 := cell_app _ w.heap.size 0 _ _ _ S0 rfl
                  have c1 := cell_app _ w.heap.size 1 _ _ _ S0 rfl
                  have c2 := cell_app _ w.heap.size 2 _ _ _ S0 rfl
                  have c3 := cell_app _ w.heap.size 3 _ _ _ S0 rfl
                  have c4 := cell_app _ w.heap.size 4 _ _ _ S0 rfl
                  have c5 := cell_app _ w.heap.size 5 _ _ _ S0 rfl
                  have hB := six_below hbq w.heap.size (Nat.le_refl _) (.int .i64 ((r : Int) + 1)) (.int .i64 (F 1)) (.int .i64 (F 2)) (.int .i64 (F 3)) (.int .i64 (F 4)) (.slice none 0 0)
                  have hOth := fun k hk => six_other wr w.heap.size (.int .i64 ((r : Int) + 1)) (.int .i64 (F 1)) (.int .i64 (F 2)) (.int .i64 (F 3)) (.int .i64 (F 4)) (.slice none 0 0) k hk
                  obtain ⟨W, hW⟩ : ∃ W, W = six wr w.heap.size (.int .i64 ((r : Int) + 1)) (.int .i64 (F 1)) (.int .i64 (F 2)) (.int .i64 (F 3)) (.int .i64 (F 4)) (.slice none 0 0) := ⟨_, rfl⟩
                  rw [← hW] at c0 c1 c2 c3 c4 c5 hB hOth
                  unfold six at hW
                  rw [← hW]
                  clear hW S0 q0 q1 q2 q3 q4 q5 r0 r1 r2 r3 r4 r5
                  refine bodyPost_ret (v := .tuple #[resV R (.slice none 0 0), .bool R.2.2.2]) ?_ rfl ⟨_, rfl, ?_, hB⟩
                  · rw [results_cell_tmp rfl]
                    rw [← HRF.out]
                    go_simp
                    (first | exact ⟨rfl, rfl⟩ | exact ⟨rfl, nat_beq m2⟩)
                  · rw [← HRF.out]
                    exact Kd.R_nil _ _ _ _ _
                · have e6 := decide_eq_false h6
                  rw [e6] at hfl
                  clear e6 h6 h61
                  have q0 := cell_app wr w.heap.size 0 _ _ _ HRZ2.out rfl
                  have q1 := cell_app wr w.heap.size 1 _ _ _ HRZ2.out rfl
                  have q2 := cell_app wr w.heap.size 2 _ _ _ HRZ2.out rfl
                  have q3 := cell_app wr w.heap.size 3 _ _ _ HRZ2.out rfl
                  have q4 := cell_app wr w.heap.size 4 _ _ _ HRZ2.out rfl
                  have q5 := cell_app wr w.heap.size 5 _ _ _ HRZ2.out rfl
                  have r0 := frz_app wr w.heap.size 0 _ _ HRZ2.out
                  have r1 := frz_app wr w.heap.size 1 _ _ HRZ2.out
                  have r2 := frz_app wr w.heap.size 2 _ _ HRZ2.out
                  have r3 := frz_app wr w.heap.size 3 _ _ HRZ2.out
                  have r4 := frz_app wr w.heap.size 4 _ _ HRZ2.out
                  have r5 := frz_app wr w.heap.size 5 _ _ HRZ2.out
                  have dq0 := cell_app wr bd 0 _ _ (.int .i64 ((r : Int) + 1)) hD.out rfl
                  have dq1 := cell_app wr bd 1 _ _ (.int .i64 (F 1)) hD.out rfl
                  have dq2 := cell_app wr bd 2 _ _ (.int .i64 (F 2)) hD.out rfl
                  have dq3 := cell_app wr bd 3 _ _ (.int .i64 (F 3)) hD.out rfl
                  have dq4 := cell_app wr bd 4 _ _ (.int .i64 (F 4)) hD.out rfl
                  have dq5 := cell_app wr bd 5 _ _ (.slice none 0 0) hD.out rfl
                  go_wp2
                  (try simp only [Exit.inBlock, Exit.then])
                  have S0 := six_at wr w.heap.size (.int .i64 ((r : Int) + 1)) (.int .i64 (F 1)) (.int .i64 (F 2)) (.int .i64 (F 3)) (.int .i64 (F 4)) (.slice none 0 0) _ _ _ _ _ _ _ HRZ2.out
                  have c0 := cell_app _ w.heap.size 0 _ _ _ S0 rfl
                  have c1 := cell_app _ w.heap.size 1 _ _ _ S0 rfl
                  have c2 := cell_app _ w.heap.size 2 _ _ _ S0 rfl
                  have c3 := cell_app _ w.heap.size 3 _ _ _ S0 rfl
                  have c4 := cell_app _ w.heap.size 4 _ _ _ S0 rfl
                  have c5 := cell_app _ w.heap.size 5 _ _ _ S0 rfl
                  have hB := six_below hbq w.heap.size (Nat.le_refl _) (.int .i64 ((r : Int) + 1)) (.int .i64 (F 1)) (.int .i64 (F 2)) (.int .i64 (F 3)) (.int .i64 (F 4)) (.slice none 0 0)
                  have hOth := fun k hk => six_other wr w.heap.size (.int .i64 ((r : Int) + 1)) (.int .i64 (F 1)) (.int .i64 (F 2)) (.int .i64 (F 3)) (.int .i64 (F 4)) (.slice none 0 0) k hk
                  obtain ⟨W, hW⟩ : ∃ W, W = six wr w.heap.size (.int .i64 ((r : Int) + 1)) (.int .i64 (F 1)) (.int .i64 (F 2)) (.int .i64 (F 3)) (.int .i64 (F 4)) (.slice none 0 0) := ⟨_, rfl⟩
                  rw [← hW] at c0 c1 c2 c3 c4 c5 hB hOth
                  unfold six at hW
                  rw [← hW]
                  clear hW S0 q0 q1 q2 q3 q4 q5 r0 r1 r2 r3 r4 r5
                  refine bodyPost_ret (v := .tuple #[resV R (.slice none 0 0), .bool R.2.2.2]) ?_ rfl ⟨_, rfl, ?_, hB⟩
                  · rw [results_cell_tmp rfl]
                    rw [← HRF.out]
                    go_simp
                    (first | exact ⟨rfl, rfl⟩ | exact ⟨rfl, nat_beq m2⟩)
                  · rw [← HRF.out]
                    exact Kd.R_nil _ _ _ _ _
      · rw [if_neg hw] at HH
        have HHIT := Lib.hid HH
        clear HH
        have hwb : ((fWord r).toList == c.toList) = false := beq_eq_false_iff_ne.mpr hw
        clear hw
        have ei : IntKind.i64.wrap ((r : Int) + 1) = (r : Int) + 1 := IntWalk.i64_in _ (by omega)
        go_quiet (fail)
        go_wp2
        go_roundg (gk - 1)
        case measure => have := HRR.out; omega
        case rel => exact ⟨r + 1, by have := HRR.out; omega, by go_num, by rw [← HCC.out]; exact HHIT, pw_below_drewN hbx nq⟩
    · have hdec := decide_eq_false hlt
      have hg0 : gk = 0 := by omega
      subst hg0
      have hR0 : R = zeroR := by have := hH.out; rw [hitF] at this; exact this.symm
      have hrz : wr.heap[w.heap.size]? = some (Obj.cells #[Value.int IntKind.i64 0, Value.int IntKind.i64 0, Value.int IntKind.i64 0, Value.int IntKind.i64 0, Value.int IntKind.i64 0, Value.slice none 0 0] 63) := by
        have h1 := hb1.size
        rw [hb.block _ (by have := HSZ.out; omega), hb1.block _ (by have := HSZ.out; omega)]
        exact HRES.out
      have HRZ2 := Lib.hid hrz
      have hbq : Below w.heap.size w wr := (hbw.trans (hb1.mono hbw.size)).trans (hb.mono (Nat.le_trans hbw.size hb1.size))
      have HR0 := Lib.hid hR0
      clear hrz hH hR0
      have q0 := cell_app wr w.heap.size 0 _ _ _ HRZ2.out rfl
      have q1 := cell_app wr w.heap.size 1 _ _ _ HRZ2.out rfl
      have q2 := cell_app wr w.heap.size 2 _ _ _ HRZ2.out rfl
      have q3 := cell_app wr w.heap.size 3 _ _ _ HRZ2.out rfl
      have q4 := cell_app wr w.heap.size 4 _ _ _ HRZ2.out rfl
      have q5 := cell_app wr w.heap.size 5 _ _ _ HRZ2.out rfl
      have r0 := frz_app wr w.heap.size 0 _ _ HRZ2.out
      have r1 := frz_app wr w.heap.size 1 _ _ HRZ2.out
      have r2 := frz_app wr w.heap.size 2 _ _ HRZ2.out
      have r3 := frz_app wr w.heap.size 3 _ _ HRZ2.out
      have r4 := frz_app wr w.heap.size 4 _ _ HRZ2.out
      have r5 := frz_app wr w.heap.size 5 _ _ HRZ2.out
      go_wp2
      (try simp only [Exit.inBlock, Exit.then])
      have S0 := six_at wr w.heap.size (.int .i64 0) (.int .i64 0) (.int .i64 0) (.int .i64 0) (.int .i64 0) (.slice none 0 0) _ _ _ _ _ _ _ HRZ2.out
      have c0 := cell_app _ w.heap.size 0 _ _ _ S0 rfl
      have c1 := cell_app _ w.heap.size 1 _ _ _ S0 rfl
      have c2 := cell_app _ w.heap.size 2 _ _ _ S0 rfl
      have c3 := cell_app _ w.heap.size 3 _ _ _ S0 rfl
      have c4 := cell_app _ w.heap.size 4 _ _ _ S0 rfl
      have c5 := cell_app _ w.heap.size 5 _ _ _ S0 rfl
      have hB := six_below hbq w.heap.size (Nat.le_refl _) (.int .i64 0) (.int .i64 0) (.int .i64 0) (.int .i64 0) (.int .i64 0) (.slice none 0 0)
      have hOth := fun k hk => six_other wr w.heap.size (.int .i64 0) (.int .i64 0) (.int .i64 0) (.int .i64 0) (.int .i64 0) (.slice none 0 0) k hk
      obtain ⟨W, hW⟩ : ∃ W, W = six wr w.heap.size (.int .i64 0) (.int .i64 0) (.int .i64 0) (.int .i64 0) (.int .i64 0) (.slice none 0 0) := ⟨_, rfl⟩
      rw [← hW] at c0 c1 c2 c3 c4 c5 hB hOth
      unfold six at hW
      rw [← hW]
      clear hW S0 q0 q1 q2 q3 q4 q5 r0 r1 r2 r3 r4 r5
      refine bodyPost_ret (v := .tuple #[resV R (.slice none 0 0), .bool R.2.2.2]) ?_ rfl ⟨_, rfl, ?_, hB⟩
      · rw [results_cell_tmp rfl]
        rw [HR0.out]
        go_simp
        exact ⟨rfl, rfl⟩
      · rw [HR0.out]
        exact Kd.R_nil _ _ _ _ _
end Go.Proofs.YtpeebjnfmlfocaaDoor.TpR
