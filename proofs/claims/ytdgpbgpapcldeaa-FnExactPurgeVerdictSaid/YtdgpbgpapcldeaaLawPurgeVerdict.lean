/- For every log and every verdict (of at most 1048576 elements and bytes in each list; else it answers at once) the law FnExactPurgeVerdict returns true: PurgeVerdict of the program returns what the reference's returns, in memory of its own, and leaves the log as it was. -/
import Derived.Test.YtdgpbgpapcldeaaRows
import Derived.Test.YtdgpbgpapcldeaaLib
import Derived.Test.YtdgpbgpapcldeaaWPurgeVerdict
import Derived.Test.YtdgpbgpapcldeaaOBatch
set_option linter.unusedVariables false
set_option linter.unusedSimpArgs false
namespace Go.Proofs.Ytdgpbgpapcldeaa.fnExactPurgeVerdict
open Go.ChangeShapes Go.WideShapes Go.ChangeAt Go.RowKit Go.Er
open Go.Proofs.Ytdgpbgpapcldeaa

theorem own : ownKnob Try.prog.godebug = none := by kernel_rfl
theorem laidOut : laidOutB Try.prog = true := by kernel_rfl
theorem reads0 : (Try.prog.readableRec 22 && decide (22 < Try.prog.types.size)) = true := by kernel_rfl
theorem reads1 : (Try.prog.readableRec 24 && decide (24 < Try.prog.types.size)) = true := by kernel_rfl

set_option maxRecDepth 100000 in
theorem lifted (os : Os) (started : os.Started) (H : Type) (enc : TypeId × Value → H) :
    ReturnsInHanded {} Try.checked os 7 .any (Rows.fnExactPurgeVerdictSpec.pre6 enc Try.prog Try.f7 Rows.fnExactPurgeVerdictRow.domain false) (Rows.fnExactPurgeVerdictSpec.post enc Try.prog Try.f7 false true false false) := by
  refine law_lifted (C := Try.checked) (s := Rows.fnExactPurgeVerdictSpec) started own laidOut (by kernel_rfl) Try.func7 rfl ?_ rfl Try.underlying4 ?_
    (ChangeSpec.witness6 (enc := enc) (C := Try.checked) false ⟨#[], #[.slice none 0 0, .agg #[.int .i64 0, .int .i64 0, .bool false, .int .i64 0]], []⟩ 8 (by kernel_rfl) (by kernel_rfl) (by kernel_rfl) (by kernel_rfl)) ?_
  · intro ds hds
    match ds, hds with
    | [d0, d1], _ => rfl
  · intro t ht
    rw [Try.params7] at ht
    simp only [List.mem_cons, List.not_mem_nil, or_false] at ht
    rcases ht with rfl | rfl
    · have h := reads0; rw [Bool.and_eq_true, decide_eq_true_eq] at h; exact h
    · have h := reads1; rw [Bool.and_eq_true, decide_eq_true_eq] at h; exact h
  · intro W base args ds p hval hA hsz
    rw [Try.params7] at hA hval hsz
    obtain ⟨v0, vs0, d0, ds0, p0, q0, hargs, rfl, rfl, h0, r0⟩ := trodAll_cons hA
    obtain ⟨v1, vs1, d1, ds1, p1, q1, rfl, rfl, rfl, h1, r1⟩ := trodAll_cons r0
    obtain ⟨rfl, rfl, rfl⟩ := trodAll_nil r1
    obtain rfl : args = #[v0, v1] := by cases args; simp_all
    obtain ⟨a0, l0, c0, rfl, i0⟩ := open_row_arg (k := 1) (R := BatchR) Try.underlying22 (by kernel_rfl) (by decide) open_Batch (hval 0 22 v0 rfl rfl) h0
    obtain ⟨vs1, x1, rfl, i1⟩ := open_struct_arg (R := VerdictR) Try.underlying24 open_Verdict (hval 1 24 v1 rfl rfl) h1
    exact lawPurgeVerdict_any l0 x1 _ a0 c0 W i0 i1

theorem proved : Rows.FnExactPurgeVerdictSaid :=
  OpenClaim.holds_of_wide 7 Try.f7 rfl rfl rfl rfl rfl rfl rfl ⟨rfl, rfl, rfl, rfl, rfl⟩ rfl rfl rfl rfl rfl (by kernel_rfl) Try.func7 (by kernel_rfl)
    (of_decide_eq_true (by kernel_rfl)) (by unfold Func.isWrapper; first | (rw [if_pos (by decide +kernel)]; kernel_rfl) | (rw [if_neg (by decide +kernel)]; exact ⟨rfl, rfl⟩))
    (fun os started H enc _ => lifted os started H enc)
#print axioms proved
end Go.Proofs.Ytdgpbgpapcldeaa.fnExactPurgeVerdict
