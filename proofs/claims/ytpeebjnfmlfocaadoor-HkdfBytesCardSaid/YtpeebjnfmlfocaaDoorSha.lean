/- SHA-256 in plain Lean, step by step as the program takes it; and what the walk needs of arrays in memory. No condition. -/
import Derived.Test.YtpeebjnfmlfocaaDoorU32
import Derived.Below
import Derived.WalkKit
namespace Go.UW
open Go Go.RowKit

def rotr (x : UInt32) (n : Nat) : UInt32 := (x <<< UInt32.ofNat (32 - n)) ||| (x >>> UInt32.ofNat n)
def K256 : List UInt32 := [0x428a2f98, 0x71374491, 0xb5c0fbcf, 0xe9b5dba5, 0x3956c25b, 0x59f111f1, 0x923f82a4, 0xab1c5ed5,
  0xd807aa98, 0x12835b01, 0x243185be, 0x550c7dc3, 0x72be5d74, 0x80deb1fe, 0x9bdc06a7, 0xc19bf174,
  0xe49b69c1, 0xefbe4786, 0x0fc19dc6, 0x240ca1cc, 0x2de92c6f, 0x4a7484aa, 0x5cb0a9dc, 0x76f988da,
  0x983e5152, 0xa831c66d, 0xb00327c8, 0xbf597fc7, 0xc6e00bf3, 0xd5a79147, 0x06ca6351, 0x14292967,
  0x27b70a85, 0x2e1b2138, 0x4d2c6dfc, 0x53380d13, 0x650a7354, 0x766a0abb, 0x81c2c92e, 0x92722c85,
  0xa2bfe8a1, 0xa81a664b, 0xc24b8b70, 0xc76c51a3, 0xd192e819, 0xd6990624, 0xf40e3585, 0x106aa070,
  0x19a4c116, 0x1e376c08, 0x2748774c, 0x34b0bcb5, 0x391c0cb3, 0x4ed8aa4a, 0x5b9cca4f, 0x682e6ff3,
  0x748f82ee, 0x78a5636f, 0x84c87814, 0x8cc70208, 0x90befffa, 0xa4506ceb, 0xbef9a3f7, 0xc67178f2]
def H256 : List UInt32 := [0x6a09e667, 0xbb67ae85, 0x3c6ef372, 0xa54ff53a, 0x510e527f, 0x9b05688c, 0x1f83d9ab, 0x5be0cd19]

def byte (x : Int) : UInt32 := UInt32.ofNat x.toNat
/-- the words behind k bytes -/
def wIn (blk : List Int) : Nat → List UInt32
  | 0 => List.replicate 64 0
  | k + 1 => (wIn blk k).set (k / 4) (((wIn blk k).getD (k / 4) 0 <<< 8) ||| byte (blk.getD k 0))
def sg0 (a : UInt32) : UInt32 := rotr a 7 ^^^ rotr a 18 ^^^ (a >>> 3)
def sg1 (a : UInt32) : UInt32 := rotr a 17 ^^^ rotr a 19 ^^^ (a >>> 10)
/-- the words behind k more -/
def wSch (w : List UInt32) : Nat → List UInt32
  | 0 => w
  | k + 1 => let v := wSch w k
    v.set (16 + k) (v.getD k 0 + sg0 (v.getD (k + 1) 0) + v.getD (k + 9) 0 + sg1 (v.getD (k + 14) 0))
def bs0 (a : UInt32) : UInt32 := rotr a 2 ^^^ rotr a 13 ^^^ rotr a 22
def bs1 (a : UInt32) : UInt32 := rotr a 6 ^^^ rotr a 11 ^^^ rotr a 25
def one (v : List UInt32) (k w : UInt32) : UInt32 := v.getD 7 0 + bs1 (v.getD 4 0) + ((v.getD 4 0 &&& v.getD 5 0) ^^^ (~~~ (v.getD 4 0) &&& v.getD 6 0)) + k + w
def two (v : List UInt32) : UInt32 := bs0 (v.getD 0 0) + ((v.getD 0 0 &&& v.getD 1 0) ^^^ (v.getD 0 0 &&& v.getD 2 0) ^^^ (v.getD 1 0 &&& v.getD 2 0))
def rnd32 (v : List UInt32) (k w : UInt32) : List UInt32 :=
  [one v k w + two v, v.getD 0 0, v.getD 1 0, v.getD 2 0, v.getD 3 0 + one v k w, v.getD 4 0, v.getD 5 0, v.getD 6 0]
def vR (s w : List UInt32) : Nat → List UInt32
  | 0 => s
  | k + 1 => rnd32 (vR s w k) (K256.getD k 0) (w.getD k 0)
def addTo (s v : List UInt32) : Nat → List UInt32
  | 0 => s
  | k + 1 => (addTo s v k).set k ((addTo s v k).getD k 0 + v.getD k 0)
def block (s : List UInt32) (blk : List Int) : List UInt32 := addTo s (vR s (wSch (wIn blk 64) 48) 64) 8

theorem wIn_len (blk : List Int) (k : Nat) : (wIn blk k).length = 64 := by
  induction k with
  | zero => simp [wIn]
  | succ k ih => simp [wIn, ih]
theorem wSch_len (w : List UInt32) (h : w.length = 64) (k : Nat) : (wSch w k).length = 64 := by
  induction k with
  | zero => exact h
  | succ k ih => simp [wSch, ih]
theorem vR_len (s w : List UInt32) (h : s.length = 8) (k : Nat) : (vR s w k).length = 8 := by
  cases k with
  | zero => exact h
  | succ k => rfl
theorem addTo_len (s v : List UInt32) (h : s.length = 8) (k : Nat) : (addTo s v k).length = 8 := by
  induction k with
  | zero => exact h
  | succ k ih => simp [addTo, ih]
theorem block_len (s : List UInt32) (h : s.length = 8) (blk : List Int) : (block s blk).length = 8 := addTo_len _ _ h _

/-- an array of numbers in a block of its own, with what stands behind it -/
def e32 (x : UInt32) : Value := .int .u32 (v32 x)
def Arr (w : World) (b : Nat) (T : TypeId) (l : List UInt32) (rest : List Value) : Prop := w.heap[b]? = some (.cells (l.map e32 ++ rest).toArray T (0, 0))

section
variable {w w1 : World} {b : Nat} {T : TypeId} {l : List UInt32} {rest : List Value}
theorem Arr.lt (h : Arr w b T l rest) : b < w.heap.size := by
  rcases Nat.lt_or_ge b w.heap.size with h' | h'
  · exact h'
  · unfold Arr at h
    rw [Array.getElem?_eq_none h'] at h
    cases h
theorem Arr.get (h : Arr w b T l rest) (j : Nat) (hj : j < l.length) : w.cell? ⟨b, j, none⟩ = some (.int .u32 (v32 (l.getD j 0))) := by
  unfold Arr at h
  simp [World.cell?, h, List.getElem?_append, hj, e32]
theorem Arr.free (h : Arr w b T l rest) (j : Nat) : w.frozen? ⟨b, j, none⟩ = false := by
  unfold Arr at h
  simp [World.frozen?, h]
theorem Arr.set (h : Arr w b T l rest) (j : Nat) (hj : j < l.length) (x : UInt32) : Arr (w.setCell ⟨b, j, none⟩ (.int .u32 (v32 x))) b T (l.set j x) rest := by
  unfold Arr at h ⊢
  have e : ((l.map e32 ++ rest).toArray.setIfInBounds j (e32 x)) = ((l.set j x).map e32 ++ rest).toArray := by
    rw [List.setIfInBounds_toArray, List.set_append_left _ _ (by simpa using hj), List.map_set]
  show (w.setCell ⟨b, j, none⟩ (e32 x)).heap[b]? = _
  rw [heap_setCell_same w b j _ T _ h, e]
theorem Arr.setRest (h : Arr w b T l rest) (j : Nat) (i : Nat) (hj : i = l.length + j) (u : Value) : Arr (w.setCell ⟨b, i, none⟩ u) b T l (rest.set j u) := by
  unfold Arr at h ⊢
  subst hj
  have e : ((l.map e32 ++ rest).toArray.setIfInBounds (l.length + j) u) = (l.map e32 ++ rest.set j u).toArray := by
    rw [List.setIfInBounds_toArray, List.set_append_right _ _ (by simp)]
    simp
  rw [heap_setCell_same w b _ _ T _ h, e]
theorem Arr.getRest (h : Arr w b T l rest) (j : Nat) (i : Nat) (hj : i = l.length + j) (u : Value) (hu : rest[j]? = some u) : w.cell? ⟨b, i, none⟩ = some u := by
  unfold Arr at h
  subst hj
  simp [World.cell?, h, List.getElem?_append, hu]
theorem Arr.far (h : Arr w b T l rest) {p : Addr} (hp : b ≠ p.block) (u : Value) : Arr (w.setCell p u) b T l rest := by
  unfold Arr at h ⊢
  rw [Below.heap_setCell _ _ _ _ hp]
  exact h
theorem Arr.keep (h : Arr w b T l rest) (e : w1.heap[b]? = w.heap[b]?) : Arr w1 b T l rest := by
  unfold Arr at h ⊢
  rw [e]
  exact h
theorem Arr.alloc (h : Arr w b T l rest) (o : Obj) : Arr (w.alloc o) b T l rest := h.keep (Below.heap_alloc _ _ _ h.lt)
theorem Arr.below (h : Arr w b T l rest) {n : Nat} (hb : Below n w w1) (hn : b < n) : Arr w1 b T l rest := h.keep (hb.block b hn)
end

/-- what may have turned: one block -/
theorem grown_refl (w : World) (row : Option Nat) : w.grownBy w row := ⟨rfl, rfl, rfl, Nat.le_refl _, fun _ _ _ => rfl⟩
theorem grown_trans {a b c : World} {row : Option Nat} (h : a.grownBy b row) (k : b.grownBy c row) : a.grownBy c row :=
  ⟨k.os.trans h.os, k.tape.trans h.tape, k.output.trans h.output, Nat.le_trans h.size k.size, fun i hi hr => (k.block i (Nat.lt_of_lt_of_le hi h.size) hr).trans (h.block i hi hr)⟩
theorem grown_below {a b : World} {row : Option Nat} (h : Below a.heap.size a b) : a.grownBy b row := ⟨h.os, h.tape, h.output, h.size, fun k hk _ => h.block k hk⟩
theorem grown_set {a b : World} {row : Option Nat} (h : a.grownBy b row) {p : Addr} (hp : a.heap.size ≤ p.block ∨ some p.block = row) (u : Value) : a.grownBy (b.setCell p u) row :=
  ⟨h.os, h.tape, h.output, by have := h.size; simpa [World.setCell] using this, fun k hk hr => by
    rw [Below.heap_setCell _ _ _ _ (by rcases hp with hp | hp <;> intro e <;> subst e <;> first | omega | exact hr hp)]
    exact h.block k hk hr⟩
theorem grown_drew {a b : World} {row : Option Nat} (h : a.grownBy b row) : a.grownBy b.drew row := ⟨h.os, h.tape, h.output, h.size, h.block⟩
theorem grown_alloc {a b : World} {row : Option Nat} (h : a.grownBy b row) (o : Obj) : a.grownBy (b.alloc o) row :=
  ⟨h.os, h.tape, h.output, by have := h.size; simp; omega, fun k hk hr => by
    rw [Below.heap_alloc _ _ _ (Nat.lt_of_lt_of_le hk h.size)]
    exact h.block k hk hr⟩
end Go.UW
