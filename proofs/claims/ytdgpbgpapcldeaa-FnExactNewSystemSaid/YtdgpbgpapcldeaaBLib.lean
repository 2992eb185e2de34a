/- More words on what a store leaves. -/
import Derived.Test.YtdgpbgpapcldeaaALib
set_option linter.unusedVariables false
set_option linter.unusedSimpArgs false
namespace Go.Er
open Go.RowKit

theorem Chg.at {S : Nat → Prop} {w w' : World} (h : Chg S w w') {b o : Nat} {v : Value} (hb : ¬ S b) (hc : w.cell? ⟨b, o, none⟩ = some v) : w'.cell? ⟨b, o, none⟩ = some v :=
  (World.cell?_of_block (a := ⟨b, o, none⟩) (h.block b (lt_of_cell hc) hb)).trans hc
theorem FilledM.boxed {α : Type} {k : Nat} {R : ORel α} {N m : Nat} {e : TypeId} {n : Nat} {w : World} {l : List α} {i : Nat} (h : FilledM k R N e n m w l i) : ∃ arr : Array Value, Box w N e arr ∧ arr.size = n * k := by
  obtain ⟨arr, T, h1, h2, _⟩ := h
  exact ⟨arr, h1, h2⟩
theorem FilledM.cell_set {α : Type} {k : Nat} {R : ORel α} {N m : Nat} {e : TypeId} {n : Nat} {w : World} {l : List α} {i : Nat} (h : FilledM k R N e n m w l i) {o : Nat} (ho : o < n * k) (u : Value) : (w.setCell ⟨N, o, none⟩ u).cell? ⟨N, o, none⟩ = some u := by
  obtain ⟨arr, h1, h2⟩ := h.boxed
  rw [(h1.set o u).cell, Array.getElem?_setIfInBounds, if_pos rfl, if_pos (by omega)]
theorem FilledM.cell_set_ne {α : Type} {k : Nat} {R : ORel α} {N m : Nat} {e : TypeId} {n : Nat} {w : World} {l : List α} {i : Nat} (h : FilledM k R N e n m w l i) {o j : Nat} (ho : j ≠ o) (u : Value) : (w.setCell ⟨N, o, none⟩ u).cell? ⟨N, j, none⟩ = w.cell? ⟨N, j, none⟩ := by
  obtain ⟨arr, h1, h2⟩ := h.boxed
  rw [(h1.set o u).cell, h1.cell, Array.getElem?_setIfInBounds, if_neg (fun e => ho e.symm)]
/-- All cells of a box of k cells, from an address. -/
theorem Box.cells {w : World} {b : Nat} {t : TypeId} {vs : List Value} (h : Box w b t vs.toArray) : ∀ j, (hj : j < vs.length) → w.cell? ((⟨b, 0, none⟩ : Addr).add j) = some vs[j] := by
  intro j hj
  rw [Addr.add_lit, Nat.zero_add, h.cell]
  simp [hj]
theorem AppO.form {α : Type} {k : Nat} {R : ORel α} {B : Nat} {w : World} {e : TypeId} {v : Value} {l : List α} (h : AppO k R B w e v l) : ∃ a n cap, v = .slice a n cap := by
  obtain ⟨a, c, h, _⟩ := h.len
  exact ⟨a, _, c, h⟩
/-- make([]T, n): a row to be filled; all its cells are T's zero value. -/
theorem wpList_make_rowZ {P : Program} {w0 w : World} {ops : Array Oper} {rest : List Oper} {o : Oper} {a : Act} {Q : Exit → Act → World → Prop} {α : Type} (R : ORel α) (l : List α) (n : Nat) (hgd : o.guard = none) (x c : Operand) (t : TypeId)
    (ho : o.op = .makeSlice t x c)
    {e : TypeId} {z : Value} {k bytes : Nat} (ht : P.underlying t = some (.slice e)) (hinfo : (P.info? e).map (fun i => (i.zero, i.size, i.bytes)) = some (some z, k, bytes)) (hzs : z.cells.size = k) (hby : bytes ≤ 1024)
    (kl kc : IntKind) (hl : a.eval x = .int kl (n : Int)) (hc : a.eval c = .int kc (n : Int)) (hn : n ≤ 1048576) (hE : Ext w0 w)
    (h : ∀ w', FilledO k R w.heap.size e n w' l 0 → (∀ j, j < n * k → w'.cell? ⟨w.heap.size, j, none⟩ = some (z.cells[j % k]!)) → Ext w0 w' → wpList P ops Q rest (a.put o.dst (.slice (some ⟨w.heap.size, 0, none⟩) n n)) w') : wpList P ops Q (o :: rest) a w := by
  obtain ⟨i, hi, hz, hsz, hb⟩ := info_parts hinfo
  refine wpList_make_full w hgd x c t ho w0.heap.size e i z k ht hi hz hsz kl kc n n n hl hc rfl rfl ?_ ?_ hE.size ?_
  · have : bytes * n ≤ 1024 * 1048576 := Nat.mul_le_mul hby hn
    rw [hb]; omega
  · unfold maxLen; omega
  · intro w' hown hgrow
    refine h w' (FilledO.start hown) (fun j hj => ?_) (Below.grown hE hgrow hE.size (fun k hk => by cases hk))
    have h1 := World.ownsRow.cellAt (w := w') hown j hj
    rw [h1]
    simp [madeCells, hj, hzs]
end Go.Er
