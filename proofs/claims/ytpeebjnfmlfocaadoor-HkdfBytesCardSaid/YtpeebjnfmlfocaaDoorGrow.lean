/- append to a row that is full (a literal's); []byte of a constant. Bytes. Condition: the new length takes at most 2^47 bytes. -/
import Derived.Test.YtpeebjnfmlfocaaDoorQApp
import Derived.Test.YtpeebjnfmlfocaaDoorHSum
import Derived.Lib.SlBytesConst
namespace Go.Proofs.YtpeebjnfmlfocaaDoor.Dig
open Go.RowKit Go.UW Go.Proofs.YtpeebjnfmlfocaaDoorW.PrintWords Go.Proofs.YtpeebjnfmlfocaaDoorW.PrintLast Go.Proofs.YtpeebjnfmlfocaaDoorW.PrintMore
set_option linter.unusedVariables false

theorem cell_one_box (W : World) (y : Int) (j : Nat) (u : Value) (hj : [Value.int .u8 y][j]? = some u) : (W.alloc (.cells #[.int .u8 y] 5)).cell? ((⟨W.heap.size, 0, none⟩ : Addr).add j) = some u := by
  match j, hj with
  | 0, hj =>
    simp only [List.getElem?_cons_zero, Option.some.injEq] at hj
    subst hj
    have h : Arr (W.alloc (.cells #[.int .u8 y] 5)) W.heap.size 5 [] [.int .u8 y] := by unfold Arr; rw [heap_alloc_new]; rfl
    exact h.getRest 0 0 rfl _ rfl

theorem wpList_grow_push {ops : Array Oper} {rest : List Oper} {o : Oper} {a : Act} {Q : Exit → Act → World → Prop} (W : World)
    (hg : o.guard = none) (s x : Operand) (hop : o.op = Op.call { callee := Callee.builtin Builtin.append, args := #[s, x], argTypes := #[22, 22] })
    (b : Addr) (n : Nat) (xs : List Int) (y : Int) (hs : a.eval s = .slice (some b) n n) (hx : a.eval x = .slice (some ⟨W.heap.size, 0, none⟩) 1 1) (hn : xs.length = n)
    (hcells : ∀ j u, (encB xs)[j]? = some u → W.cell? (b.add j) = some u) (hb : b.block < W.heap.size) (hl : n + 1 ≤ 140737488355328)
    (hK : ∀ v1 w1, Kd.R (Kd.int .u8) 5 w1 W.heap.size (fun _ => True) v1 (xs ++ [y]) → Below W.heap.size W w1 → wpList Tryd.prog ops Q rest (a.put o.dst v1) w1) :
    wpList Tryd.prog ops Q (o :: rest) a (W.alloc (.cells #[.int .u8 y] 5)) := by
  refine wpList_plain hg fun K hK' => ?_
  obtain ⟨i0, hi, hz0, hz1, hz2⟩ := info_parts infoU8
  obtain ⟨v1, w1, hr, ho, hgr⟩ := run_append_arg_grows (P := Tryd.prog) (W.alloc (.cells #[.int .u8 y] 5)) 22 o.type 5 i0 _ 1 1 Tryd.underlying22 hi hz0 hz1 hz2 rfl (by decide)
    b n n (encB xs) (by rw [encB_len, hn, Nat.mul_one]) (fun j u hj => (World.cell?_of_block (a := b.add j) (Below.heap_alloc _ _ _ (show (b.add j).block < W.heap.size by simp only [Addr.add]; split <;> exact hb))).trans (hcells j u hj)) ⟨W.heap.size, 0, none⟩ 1 1 [.int .u8 y] rfl
    (fun j u hj => cell_one_box W y j u hj) (by omega) (by unfold maxLen; omega) (by omega)
  unfold Oper.wp execOp
  simp only [hop, resolve, invoke, builtin, Sem.run_bind, Sem.run_pure, Result.andThen_ok, List.map_toArray, List.map_cons, List.map_nil, hs, hx, hr]
  refine hK' _ _ (hK v1 w1 ?_ ?_)
  · have h2 : w1.ownsRow W.heap.size 5 1 v1 (xs ++ [y]).length (encs (Value.int .u8) (xs ++ [y])) := by
      have e1 : (xs ++ [y]).length = n + 1 := by rw [List.length_append, hn]; rfl
      have e2 : encs (Value.int .u8) (xs ++ [y]) = encB xs ++ [.int .u8 y] := by simp [encs, encB]
      rw [e1, e2]
      exact own_less ho (by rw [size_alloc]; omega)
    exact Kd.R_of_own h2 (fun _ _ => trivial)
  · exact (Below.refl _ _).grown (grown_trans (grown_alloc (grown_refl W _) _) hgr) (Nat.le_refl _) (fun k hk => by cases hk)
end Go.Proofs.YtpeebjnfmlfocaaDoor.Dig
