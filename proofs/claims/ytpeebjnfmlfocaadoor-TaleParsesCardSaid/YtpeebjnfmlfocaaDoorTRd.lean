/- tale.read at this program: its forms, and the deed of words. -/
import Derived.Test.YtpeebjnfmlfocaaDoorTn1
import Derived.Test.YtpeebjnfmlfocaaDoorTh1
import Derived.Lib.Hide
import Derived.StillTailTactics
namespace Go.Proofs.YtpeebjnfmlfocaaDoor.TpR
open Go.RowKit Go.Proofs.YtpeebjnfmlfocaaDoorW.PrintWords Go.Proofs.YtpeebjnfmlfocaaDoorW.PrintLast Go.Proofs.YtpeebjnfmlfocaaDoorW.PrintMore
set_option linter.unusedVariables false

def fWord : Nat → ByteArray
  | 0 => ⟨#[100, 101, 108, 105, 118, 101, 114]⟩
  | 1 => ⟨#[99, 111, 112, 121]⟩
  | 2 => ⟨#[108, 111, 115, 101]⟩
  | 3 => ⟨#[116, 105, 99, 107]⟩
  | 4 => ⟨#[116, 101, 97, 114]⟩
  | 5 => ⟨#[102, 97, 108, 108]⟩
  | _ => ⟨#[105, 110, 106, 101, 99, 116]⟩
def fN : Nat → Nat
  | 0 => 1
  | 1 => 1
  | 2 => 1
  | 3 => 2
  | 4 => 2
  | 5 => 1
  | _ => 2
/-- which field: 1 node, 2 item, 3 later, 4 keep -/
def fK : Nat → Nat → Nat
  | 0, _ => 2
  | 1, _ => 2
  | 2, _ => 2
  | 3, 0 => 1
  | 3, _ => 3
  | 4, 0 => 2
  | 4, _ => 4
  | 5, _ => 1
  | _, 0 => 1
  | _, _ => 2
/-- the getter's function -/
def fG : Nat → Nat
  | 1 => 112
  | 2 => 111
  | 3 => 113
  | _ => 114
structure Form (w : World) (M r : Nat) (P : Nat) : Prop where
  word : w.cell? ⟨M, r * 4, none⟩ = some (.string (fWord r))
  kind : w.cell? ⟨M, r * 4 + 1, none⟩ = some (.int .i64 ((r : Int) + 1))
  parts : w.cell? ⟨M, r * 4 + 2, none⟩ = some (.slice (some ⟨P, 0, none⟩) (fN r) (fN r))
  flag : w.cell? ⟨M, r * 4 + 3, none⟩ = some (.bool (decide (r = 6)))
  get : ∀ i < fN r, w.cell? ⟨P, i, none⟩ = some (.func (.func (fG (fK r i))) #[] #[])
  below : M < w.heap.size ∧ P < w.heap.size

theorem cell_app (w : World) (b j : Nat) (cells : Array Value) (t : Nat) (v : Value) (h : w.heap[b]? = some (.cells cells t (0, 0))) (hj : cells[j]? = some v) : w.cell? ⟨b, j, none⟩ = some v := by
  unfold World.cell?
  simp [h, hj]

theorem heap_alloc (w : World) (o : Obj) (b : Nat) : (w.alloc o).heap[b]? = if b = w.heap.size then some o else w.heap[b]? := by
  unfold World.alloc
  simp only [Array.getElem?_push]
theorem size_alloc (w : World) (o : Obj) : (w.alloc o).heap.size = w.heap.size + 1 := by
  unfold World.alloc
  simp
theorem forms_any (w : World) : Calls Tryd.prog 77 #[] w fun e w' => e = .returned (.slice (some ⟨w.heap.size + 7, 0, none⟩) 7 7) ∧ (∀ r < 7, Form w' (w.heap.size + 7) r (w.heap.size + r)) ∧ Below w.heap.size w w' := by
  go_enter Tryd.func77, Tryd.ntmps77
  go_wp2
  go_ret
  refine ⟨rfl, ?_, ?_⟩
  · intro r hr
    have : r = 0 ∨ r = 1 ∨ r = 2 ∨ r = 3 ∨ r = 4 ∨ r = 5 ∨ r = 6 := by omega
    rcases this with rfl | rfl | rfl | rfl | rfl | rfl | rfl
    all_goals (refine ⟨?_, ?_, ?_, ?_, ?_, ?_⟩)
    all_goals (try (show World.cell? _ _ = _; unfold World.cell?; simp only [heap_alloc, size_alloc, fWord, fN]; simp; done))
    all_goals (try (simp only [size_alloc]; omega))
    all_goals (intro i hi; simp only [fN] at hi; have : i = 0 ∨ i = 1 := by omega)
    all_goals (rcases this with rfl | rfl)
    all_goals (first | omega | (unfold World.cell?; simp only [heap_alloc, size_alloc]; simp [fK, fG]; done) | (unfold World.cell?; simp only [heap_alloc, size_alloc, Nat.add_zero, Nat.add_assoc]; simp [fK, fG]))
  · repeat (first | exact Below.refl _ _ | apply below_alloc)
theorem get_any (w : World) (b k : Nat) (h : 1 ≤ k ∧ k ≤ 4) : Calls Tryd.prog (fG k) #[.pointer (some ⟨b, 0, none⟩)] w fun e w' => e = .returned (.pointer (some ⟨b, k, none⟩)) ∧ w' = w := by
  have : k = 1 ∨ k = 2 ∨ k = 3 ∨ k = 4 := by omega
  rcases this with rfl | rfl | rfl | rfl
  · show Calls Tryd.prog 112 _ _ _
    go_enter Tryd.func112, Tryd.ntmps112
    go_wp2
    go_ret
    exact ⟨rfl, rfl⟩
  · show Calls Tryd.prog 111 _ _ _
    go_enter Tryd.func111, Tryd.ntmps111
    go_wp2
    go_ret
    exact ⟨rfl, rfl⟩
  · show Calls Tryd.prog 113 _ _ _
    go_enter Tryd.func113, Tryd.ntmps113
    go_wp2
    go_ret
    exact ⟨rfl, rfl⟩
  · show Calls Tryd.prog 114 _ _ _
    go_enter Tryd.func114, Tryd.ntmps114
    go_wp2
    go_ret
    exact ⟨rfl, rfl⟩
theorem fK_rg (r i : Nat) : 1 ≤ fK r i ∧ fK r i ≤ 4 := by
  unfold fK
  split <;> decide
theorem form_below {w w' : World} {M r P base : Nat} (h : Form w M r P) (hb : Below base w w') (h1 : M < base) (h2 : P < base) : Form w' M r P := by
  have e1 : w'.heap[M]? = w.heap[M]? := hb.block M h1
  have e2 : w'.heap[P]? = w.heap[P]? := hb.block P h2
  have c1 : ∀ a : Nat, w'.cell? ⟨M, a, none⟩ = w.cell? ⟨M, a, none⟩ := fun a => by unfold World.cell?; simp only [e1]
  have c2 : ∀ a : Nat, w'.cell? ⟨P, a, none⟩ = w.cell? ⟨P, a, none⟩ := fun a => by unfold World.cell?; simp only [e2]
  have := hb.size
  exact ⟨by rw [c1]; exact h.word, by rw [c1]; exact h.kind, by rw [c1]; exact h.parts, by rw [c1]; exact h.flag, fun i hi => by rw [c2]; exact h.get i hi, by have := h.below; omega⟩
theorem forms_some (w : World) : Calls Tryd.prog 77 #[] w fun e w' => ∃ M P : Nat, e = .returned (.slice (some ⟨M, 0, none⟩) 7 7) ∧ (∀ r < 7, Form w' M r (P + r)) ∧ w.heap.size ≤ M ∧ w.heap.size ≤ P ∧ Below w.heap.size w w' :=
  (forms_any w).mono fun e w' ⟨he, hf, hb⟩ => ⟨_, _, he, hf, by omega, by omega, hb⟩
end Go.Proofs.YtpeebjnfmlfocaaDoor.TpR
