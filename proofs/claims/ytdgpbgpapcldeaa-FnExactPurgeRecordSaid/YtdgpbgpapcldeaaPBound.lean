/- How many marks a small list of batches bears. -/
import Derived.Test.YtdgpbgpapcldeaaPPlain
set_option linter.unusedVariables false
set_option linter.unusedSimpArgs false
namespace Go.Proofs.Ytdgpbgpapcldeaa
open Go.RowKit Go.Er
theorem cnt_op (x : DOp) (h : SmallOp x) : cntE_Op x ≤ 1048584 := by
  have h1 : SmallRecord x.record := h
  have h2 := sumC_le (cntOne (α := ByteArray)) 1 x.record.fields (fun _ _ => Nat.le_refl _)
  have h3 := h1.1
  unfold cntE_Op
  omega
theorem cnt_batch (x : DBatch) (h : SmallBatch x) : cntE_Batch x ≤ 1099520016384 := by
  have h1 := sumC_le cntE_Op 1048584 x.ops (fun o ho => cnt_op o (h.2 o ho))
  have h2 : x.ops.length ≤ 1048576 := h.1
  unfold cntE_Batch
  omega
theorem cnt_batches (l : List DBatch) (h : SmallL (fun y => SmallBatch y) l) : (1 : Int) + (sumC cntE_Batch l : Nat) ≤ 9223372036854775806 := by
  have h1 := sumC_le cntE_Batch 1099520016384 l (fun o ho => cnt_batch o (h.2 o ho))
  have h2 : l.length ≤ 1048576 := h.1
  omega
theorem apart_trim {n a b m : Nat} : ∀ c, (From a c ∧ c < n) → n ≤ m → ¬ (From m c ∧ c < b) := fun c h1 h2 h3 => by have := h1.2; have := h3.1; simp only [From] at this; omega
end Go.Proofs.Ytdgpbgpapcldeaa
