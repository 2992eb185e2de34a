/- For every configuration (of at most 1048576 elements in each list; else it answers at once) the law FnExactNewSystem returns true: NewSystem of the program returns what the reference's returns, in memory of its own, and leaves the configuration as it was. -/
import Derived.Test.YtdgpbgpapcldeaaRows
import Derived.Test.YtdgpbgpapcldeaaLib
import Derived.Test.YtdgpbgpapcldeaaWNewSystem
import Derived.Test.YtdgpbgpapcldeaaOConfig
set_option linter.unusedVariables false
set_option linter.unusedSimpArgs false
namespace Go.Proofs.Ytdgpbgpapcldeaa.fnExactNewSystem
open Go.ChangeShapes Go.WideShapes Go.ChangeAt Go.RowKit Go.Er
open Go.Proofs.Ytdgpbgpapcldeaa

theorem own : ownKnob Try.prog.godebug = none := by kernel_rfl
theorem laidOut : laidOutB Try.prog = true := by kernel_rfl
theorem reads0 : (Try.prog.readableRec 40 && decide (40 < Try.prog.types.size)) = true := by kernel_rfl

set_option maxRecDepth 100000 in
theorem lifted (os : Os) (started : os.Started) (H : Type) (enc : TypeId × Value → H) :
    ReturnsInHanded {} Try.checked os 9 .any (Rows.fnExactNewSystemSpec.pre6 enc Try.prog Try.f9 Rows.fnExactNewSystemRow.domain false) (Rows.fnExactNewSystemSpec.post enc Try.prog Try.f9 false true false false) := by
  refine law_lifted (C := Try.checked) (s := Rows.fnExactNewSystemSpec) started own laidOut (by kernel_rfl) Try.func9 rfl ?_ rfl Try.underlying4 ?_
    (ChangeSpec.witness6 (enc := enc) (C := Try.checked) false ⟨#[], #[.agg #[.slice none 0 0, .slice none 0 0, .int .i64 0, .slice none 0 0]], []⟩ 8 (by kernel_rfl) (by kernel_rfl) (by kernel_rfl) (by kernel_rfl)) ?_
  · intro ds hds
    match ds, hds with
    | [d0], _ => rfl
  · intro t ht
    rw [Try.params9] at ht
    simp only [List.mem_cons, List.not_mem_nil, or_false] at ht
    rcases ht with rfl
    · have h := reads0; rw [Bool.and_eq_true, decide_eq_true_eq] at h; exact h
  · intro W base args ds p hval hA hsz
    rw [Try.params9] at hA hval hsz
    obtain ⟨v0, vs0, d0, ds0, p0, q0, hargs, rfl, rfl, h0, r0⟩ := trodAll_cons hA
    obtain ⟨rfl, rfl, rfl⟩ := trodAll_nil r0
    obtain rfl : args = #[v0] := by cases args; simp_all
    obtain ⟨vs0, x0, rfl, i0⟩ := open_struct_arg (R := ConfigR) Try.underlying40 open_Config (hval 0 40 v0 rfl rfl) h0
    exact lawNewSystem_any x0 _ W i0

theorem proved : Rows.FnExactNewSystemSaid :=
  OpenClaim.holds_of_wide 9 Try.f9 rfl rfl rfl rfl rfl rfl rfl ⟨rfl, rfl, rfl, rfl, rfl⟩ rfl rfl rfl rfl rfl (by kernel_rfl) Try.func9 (by kernel_rfl)
    (of_decide_eq_true (by kernel_rfl)) (by unfold Func.isWrapper; first | (rw [if_pos (by decide +kernel)]; kernel_rfl) | (rw [if_neg (by decide +kernel)]; exact ⟨rfl, rfl⟩))
    (fun os started H enc _ => lifted os started H enc)
#print axioms proved
end Go.Proofs.Ytdgpbgpapcldeaa.fnExactNewSystem
