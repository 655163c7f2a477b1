/- append(v, ys...) where v is a queue of the call's own (cut from the front before) and ys is read; bytes. Condition: the new length takes at most 2^47 bytes. -/
import Derived.Test.YtpeebjnfmlfocaaDoorWWords
import Derived.Test.YtpeebjnfmlfocaaDoorProg
import Derived.OwnWalk
import Derived.Laws.BitsLemmas
import Derived.KernelRfl
namespace Go.Proofs.YtpeebjnfmlfocaaDoor.Dig
open Go.RowKit Go.Proofs.YtpeebjnfmlfocaaDoorW.PrintWords
set_option linter.unusedVariables false

def encB (l : List Int) : List Value := l.map (Value.int .u8)
/-- a queue of bytes of the call's own -/
def Qb (w : World) (base : Nat) (v : Value) (l : List Int) : Prop := QRow w base 5 1 v l.length (encB l)

theorem infoU8 : (Tryd.prog.info? 5).map (fun i => (i.zero, i.size, i.bytes)) = some (some (.int .u8 0), 1, 1) := by kernel_rfl

section
variable {w w1 : World} {base : Nat} {v : Value} {l : List Int}
theorem Qb.nil (w : World) (base : Nat) : Qb w base (.slice none 0 0) [] := ⟨rfl, .inl ⟨rfl, none, rfl, fun a h => by cases h⟩⟩
theorem Qb.move (h : Qb w base v l) (hm : ∀ k, v.ownBlock = some k → w1.heap[k]? = w.heap[k]?) : Qb w1 base v l := q_move h hm
theorem Qb.below (h : Qb w base v l) {n : Nat} (hb : Below n w w1) (hn : w.heap.size ≤ n) : Qb w1 base v l := h.move fun k hk => hb.block k (Nat.lt_of_lt_of_le (q_lt h k hk) hn)
theorem Qb.grown (h : Qb w base v l) {row : Option Nat} (hg : w.grownBy w1 row) (hne : ∀ k, v.ownBlock = some k → some k ≠ row) : Qb w1 base v l := h.move fun k hk => hg.block k (q_lt h k hk) (hne k hk)
theorem Qb.lower {base' : Nat} (h : Qb w base v l) (hb : base' ≤ base) : Qb w base' v l := q_lower h hb
theorem Qb.form (h : Qb w base v l) : ∃ A c, v = .slice A l.length c ∧ l.length ≤ c := q_slice h
theorem Qb.base_le (h : Qb w base v l) (k : Nat) (hk : v.ownBlock = some k) : base ≤ k ∧ k < w.heap.size ∧ ∃ cells, w.heap[k]? = some (.cells cells 5 (0, 0)) := ⟨(q_typed h k hk).1, q_lt h k hk, (q_typed h k hk).2⟩
theorem encB_len (l : List Int) : (encB l).length = l.length := by simp [encB]
theorem Qb.take {A : Option Addr} {c m : Nat} (h : Qb w base (.slice A l.length c) l) (hm : m ≤ l.length) : Qb w base (.slice A m c) (l.take m) := by
  have h2 := q_take h hm
  unfold Qb
  have e : (l.take m).length = m := by rw [List.length_take]; omega
  rw [e]
  have e2 : encB (l.take m) = (encB l).take (m * 1) := by simp [encB, List.map_take]
  rw [e2]
  exact h2
theorem Qb.drop {A : Option Addr} {c m : Nat} (h : Qb w base (.slice A l.length c) l) (hm : m ≤ l.length) : Qb w base (.slice (if c = m then A else A.map (·.add m)) (l.length - m) (c - m)) (l.drop m) := by
  have h2 := q_drop h hm
  unfold Qb
  have e : (l.drop m).length = l.length - m := List.length_drop
  rw [e]
  have e2 : encB (l.drop m) = (encB l).drop (m * 1) := by simp [encB, List.map_drop]
  rw [e2]
  simpa using h2
theorem Qb.reads {A : Option Addr} {n c : Nat} (h : Qb w base (.slice A n c) l) : n = l.length ∧ (Kd.int .u8).C w A l.length l := by
  obtain ⟨A', c', e, hc⟩ := h.form
  injection e with e1 e2 e3
  subst e1 e2 e3
  refine ⟨rfl, rfl, q_max h, fun hp => ?_⟩
  obtain ⟨ad, rfl, hcell⟩ := q_cells h hp
  refine ⟨ad, rfl, fun j p hj => ⟨[.int .u8 p], rfl, rfl, fun i u hu => ?_⟩⟩
  have hjl := (List.getElem?_eq_some_iff.1 hj).1
  match i, hu with
  | 0, hu =>
    simp only [List.getElem?_cons_zero, Option.some.injEq] at hu
    subst hu
    have := hcell j (.int .u8 p) (by simp [encB, hj])
    show w.cell? (ad.add (j * 1 + 0)) = _
    simpa using this
end

theorem q_spread_run (w : World) (base : Nat) (ty : TypeId) (v : Value) (xs ys : List Int) (A : Option Addr) (m c : Nat) (HQ : Qb w base v xs) (HC : (Kd.int .u8).C w A m ys) (hbase : base ≤ w.heap.size) (hl : xs.length + m ≤ 140737488355328) :
    ∃ v1 w1, (Builtin.append_ #[22, 22] ty #[v, .slice A m c]).run Tryd.prog w = .ok v1 w1 ∧ Qb w1 base v1 (xs ++ ys) ∧ w.grownBy w1 v.ownBlock ∧ (v1.ownBlock = v.ownBlock ∨ ∃ b, v1.ownBlock = some b ∧ w.heap.size ≤ b) := by
  obtain ⟨i0, hi, hz0, hz1, hz2⟩ := info_parts infoU8
  have hm := Kd.C_len HC
  rcases Nat.eq_zero_or_pos m with h0 | h0
  · subst h0
    obtain rfl : ys = [] := List.eq_nil_of_length_eq_zero hm
    refine ⟨v, w, ?_, by rw [List.append_nil]; exact HQ, World.grownBy.refl w _, .inl rfl⟩
    obtain ⟨A', c', rfl, hc⟩ := HQ.form
    cases A' with
    | none =>
      have : xs.length = 0 ∧ c' = 0 := by
        rcases HQ.2 with ⟨hn, A2, e, _⟩ | ⟨g, off, cap, cur, e, _⟩
        · injection e with e1 e2 e3
          exact ⟨hn, e3⟩
        · injection e with e1 e2 e3
          cases e1
      rw [this.1, this.2]
      cases A <;> simp [Builtin.append_, run_underlying Tryd.underlying22, sizeOf, typeInfo, hi, Builtin.lenOf, Builtin.firstCells, loadCells, loadCellsFrom]
    | some ad =>
      have hc' : ¬ (c' < xs.length) := by omega
      cases A <;> simp [Builtin.append_, run_underlying Tryd.underlying22, sizeOf, typeInfo, hi, Builtin.lenOf, Builtin.firstCells, hc, storeCells, loadCells, loadCellsFrom]
  · obtain ⟨ad, rfl, hcell⟩ := HC.2.2 h0
    have hcells : ∀ j u, (encB ys)[j]? = some u → w.cell? (ad.add j) = some u := by
      intro j u hj
      simp only [encB, List.getElem?_map, Option.map_eq_some_iff] at hj
      obtain ⟨p, hp, rfl⟩ := hj
      obtain ⟨cs, h1, h2, h3⟩ := hcell j p hp
      have h2' : cs = [.int .u8 p] := h2
      subst h2'
      have h4 : w.cell? (ad.add (j * 1 + 0)) = some (.int .u8 p) := h3 0 _ rfl
      simpa using h4
    obtain ⟨v1, w1, hr, hq, hg, hat⟩ := q_append (P := Tryd.prog) w base 22 ty 5 i0 _ 1 1 Tryd.underlying22 hi hz0 hz1 hz2 rfl (by decide) v xs.length (encB xs) HQ ad m c (encB ys) (by rw [encB_len, hm, Nat.mul_one]) hcells
      (fun u hu => by simp only [encB, List.mem_map] at hu; obtain ⟨p, _, rfl⟩ := hu; rfl) h0 (by unfold maxLen; omega) (by omega) hbase
    refine ⟨v1, w1, hr, ?_, hg, hat⟩
    unfold Qb
    rw [List.length_append, hm]
    simpa [encB] using hq

theorem wpList_q_spread {ops : Array Oper} {rest : List Oper} {o : Oper} {a : Act} {Q : Exit → Act → World → Prop} (w : World) (base : Nat)
    (hg : o.guard = none) (s x : Operand) (hop : o.op = Op.call { callee := Callee.builtin Builtin.append, args := #[s, x], argTypes := #[22, 22] })
    (v : Value) (xs ys : List Int) (A : Option Addr) (m c : Nat) (hs : a.eval s = v) (hx : a.eval x = .slice A m c) (HQ : Qb w base v xs) (HC : (Kd.int .u8).C w A m ys) (hbase : base ≤ w.heap.size) (hl : xs.length + m ≤ 140737488355328)
    (hK : ∀ v1 w1, Qb w1 base v1 (xs ++ ys) → w.grownBy w1 v.ownBlock → (v1.ownBlock = v.ownBlock ∨ ∃ b, v1.ownBlock = some b ∧ w.heap.size ≤ b) → wpList Tryd.prog ops Q rest (a.put o.dst v1) w1) :
    wpList Tryd.prog ops Q (o :: rest) a w := by
  refine wpList_plain hg fun K hK' => ?_
  obtain ⟨v1, w1, hrun, h1, h2, h3⟩ := q_spread_run w base o.type v xs ys A m c HQ HC hbase hl
  unfold Oper.wp execOp
  simp only [hop, resolve, invoke, builtin, Sem.run_bind, Sem.run_pure, Result.andThen_ok, List.map_toArray, List.map_cons, List.map_nil, hs, hx, hrun]
  exact hK' _ _ (hK v1 w1 h1 h2 h3)
end Go.Proofs.YtpeebjnfmlfocaaDoor.Dig
