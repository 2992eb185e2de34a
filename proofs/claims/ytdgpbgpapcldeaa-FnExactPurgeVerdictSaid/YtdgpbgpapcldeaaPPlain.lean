/- What is purged of batches, in plain lists. -/
import Derived.Test.YtdgpbgpapcldeaaPClone
import Derived.Test.YtdgpbgpapcldeaaBLib
set_option linter.unusedVariables false
set_option linter.unusedSimpArgs false
namespace Go.Proofs.Ytdgpbgpapcldeaa
open Go.RowKit Go.Er Go.BigFrame

/-- The operations that stay. -/
def keepOps (p : DOp → Bool) (l : List DOp) : List DOp := l.filter (fun o => !p o)
def keepBs (p : DOp → Bool) (l : List DBatch) : List DBatch := l.map (fun b => ⟨keepOps p b.ops⟩)
theorem keepOps_zero (p : DOp → Bool) (l : List DOp) : keepOps p (l.take 0) = [] := by simp [keepOps]
theorem keepOps_no (p : DOp → Bool) (l : List DOp) (j : Nat) (hj : j < l.length) (h : p l[j] = true) : keepOps p (l.take (j + 1)) = keepOps p (l.take j) := by
  unfold keepOps; rw [List.take_succ_eq_append_getElem hj, List.filter_append, List.filter_cons, h]; exact List.append_nil _
theorem keepOps_yes (p : DOp → Bool) (l : List DOp) (j : Nat) (hj : j < l.length) (h : p l[j] = false) : keepOps p (l.take (j + 1)) = keepOps p (l.take j) ++ [l[j]] := by
  unfold keepOps; rw [List.take_succ_eq_append_getElem hj, List.filter_append, List.filter_cons, h]; rfl
theorem keepOps_len (p : DOp → Bool) (l : List DOp) (j : Nat) : (keepOps p (l.take j)).length ≤ l.length := by
  unfold keepOps
  exact Nat.le_trans (List.length_filter_le _ _) (by simp; omega)
theorem keepOps_full (p : DOp → Bool) (l : List DOp) : keepOps p (l.take l.length) = keepOps p l := by rw [List.take_length]
theorem keepBs_length (p : DOp → Bool) (l : List DBatch) : (keepBs p l).length = l.length := by simp [keepBs]
theorem keepBs_get (p : DOp → Bool) (l : List DBatch) (i : Nat) (h : i < (keepBs p l).length) : (keepBs p l)[i] = ⟨keepOps p (l[i]'(by rw [keepBs_length] at h; exact h)).ops⟩ := by simp [keepBs]
theorem keepBs_take (p : DOp → Bool) (l : List DBatch) (i : Nat) (hi : i < l.length) : keepBs p (l.take (i + 1)) = keepBs p (l.take i) ++ [⟨keepOps p l[i].ops⟩] := by
  unfold keepBs; rw [List.take_succ_eq_append_getElem hi, List.map_append]; rfl
theorem small_ops {x : DBatch} (h : SmallBatch x) {o : DOp} (ho : o ∈ x.ops) : SmallOp o := h.2 o ho
theorem small_keep (p : DOp → Bool) {l : List DBatch} (h : SmallL (fun y => SmallBatch y) l) : SmallL (fun y => SmallBatch y) (keepBs p l) := by
  refine ⟨by rw [keepBs_length]; exact h.1, fun x hx => ?_⟩
  simp only [keepBs, List.mem_map] at hx
  obtain ⟨b, hb, rfl⟩ := hx
  have hs := h.2 b hb
  refine ⟨Nat.le_trans (List.length_filter_le _ _) hs.1, fun o ho => hs.2 o ?_⟩
  exact (List.mem_filter.1 ho).1
end Go.Proofs.Ytdgpbgpapcldeaa
