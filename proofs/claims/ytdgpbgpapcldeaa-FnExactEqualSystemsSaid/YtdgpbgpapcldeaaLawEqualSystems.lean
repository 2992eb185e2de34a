/- For every two values of type System (of at most 1048576 elements and bytes in all; else it answers at once) the law FnExactEqualSystems returns true: EqualSystems of the program returns what the reference's returns, and leaves both as they were. -/
import Derived.Test.YtdgpbgpapcldeaaRows
import Derived.Test.YtdgpbgpapcldeaaLib
import Derived.Test.YtdgpbgpapcldeaaWEqualSystems
import Derived.Test.YtdgpbgpapcldeaaOSystem
set_option linter.unusedVariables false
set_option linter.unusedSimpArgs false
namespace Go.Proofs.Ytdgpbgpapcldeaa.fnExactEqualSystems
open Go.ChangeShapes Go.WideShapes Go.ChangeAt Go.RowKit Go.Er
open Go.Proofs.Ytdgpbgpapcldeaa

theorem own : ownKnob Try.prog.godebug = none := by kernel_rfl
theorem laidOut : laidOutB Try.prog = true := by kernel_rfl
theorem reads0 : (Try.prog.readableRec 63 && decide (63 < Try.prog.types.size)) = true := by kernel_rfl

set_option maxRecDepth 100000 in
theorem lifted (os : Os) (started : os.Started) (H : Type) (enc : TypeId × Value → H) :
    ReturnsInHanded {} Try.checked os 8 .any (Rows.fnExactEqualSystemsSpec.pre6 enc Try.prog Try.f8 Rows.fnExactEqualSystemsRow.domain false) (Rows.fnExactEqualSystemsSpec.post enc Try.prog Try.f8 false true false false) := by
  refine law_lifted (C := Try.checked) (s := Rows.fnExactEqualSystemsSpec) started own laidOut (by kernel_rfl) Try.func8 rfl ?_ rfl Try.underlying4 ?_
    (ChangeSpec.witness6 (enc := enc) (C := Try.checked) false ⟨#[], #[.agg #[.slice none 0 0, .slice none 0 0, .int .i64 0, .slice none 0 0, .int .i64 0, .slice none 0 0, .slice none 0 0, .slice none 0 0, .int .i64 0, .slice none 0 0], .agg #[.slice none 0 0, .slice none 0 0, .int .i64 0, .slice none 0 0, .int .i64 0, .slice none 0 0, .slice none 0 0, .slice none 0 0, .int .i64 0, .slice none 0 0]], []⟩ 8 (by kernel_rfl) (by kernel_rfl) (by kernel_rfl) (by kernel_rfl)) ?_
  · intro ds hds
    match ds, hds with
    | [d0, d1], _ => rfl
  · intro t ht
    rw [Try.params8] at ht
    simp only [List.mem_cons, List.not_mem_nil, or_false] at ht
    rcases ht with rfl | rfl
    · have h := reads0; rw [Bool.and_eq_true, decide_eq_true_eq] at h; exact h
    · have h := reads0; rw [Bool.and_eq_true, decide_eq_true_eq] at h; exact h
  · intro W base args ds p hval hA hsz
    rw [Try.params8] at hA hval hsz
    obtain ⟨v0, vs0, d0, ds0, p0, q0, hargs, rfl, rfl, h0, r0⟩ := trodAll_cons hA
    obtain ⟨v1, vs1, d1, ds1, p1, q1, rfl, rfl, rfl, h1, r1⟩ := trodAll_cons r0
    obtain ⟨rfl, rfl, rfl⟩ := trodAll_nil r1
    obtain rfl : args = #[v0, v1] := by cases args; simp_all
    obtain ⟨vs0, x0, rfl, i0⟩ := open_struct_arg (R := SystemR) Try.underlying63 open_System (hval 0 63 v0 rfl rfl) h0
    obtain ⟨vs1, x1, rfl, i1⟩ := open_struct_arg (R := SystemR) Try.underlying63 open_System (hval 1 63 v1 rfl rfl) h1
    exact lawEqualSystems_any x0 x1 _ _ W i0 i1

theorem proved : Rows.FnExactEqualSystemsSaid :=
  OpenClaim.holds_of_wide 8 Try.f8 rfl rfl rfl rfl rfl rfl rfl ⟨rfl, rfl, rfl, rfl, rfl⟩ rfl rfl rfl rfl rfl (by kernel_rfl) Try.func8 (by kernel_rfl)
    (of_decide_eq_true (by kernel_rfl)) (by unfold Func.isWrapper; first | (rw [if_pos (by decide +kernel)]; kernel_rfl) | (rw [if_neg (by decide +kernel)]; exact ⟨rfl, rfl⟩))
    (fun os started H enc _ => lifted os started H enc)
#print axioms proved
end Go.Proofs.Ytdgpbgpapcldeaa.fnExactEqualSystems
