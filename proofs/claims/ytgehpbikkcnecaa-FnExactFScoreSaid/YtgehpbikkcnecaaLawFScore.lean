/- For every struct of three numbers, the law FnExactFScore returns true: the program's FScore returns what the reference's FScore returns. -/
import Derived.Test.YtgehpbikkcnecaaRows
import Derived.Test.YtgehpbikkcnecaaLib
import Derived.Test.YtgehpbikkcnecaaScore
import Derived.Lib.SmallJoins
namespace Go.Proofs.Ytgehpbikkcnecaa.fnExactFScore
open Go.ChangeShapes Go.WideShapes Go.ChangeAt Go.RowKit Go.Joins Go.Er
open Go.Proofs.Ytgehpbikkcnecaa

theorem own : ownKnob Try.prog.godebug = none := by kernel_rfl
theorem laidOut : laidOutB Try.prog = true := by kernel_rfl
theorem cellsT : Try.prog.cellsOf 23 = 3 := by kernel_rfl
theorem readsT : (Try.prog.readableRec 23 && decide (23 < Try.prog.types.size)) = true := by kernel_rfl

set_option maxRecDepth 100000 in
theorem lifted (os : Os) (started : os.Started) (H : Type) (enc : TypeId × Value → H) :
    ReturnsInHanded {} Try.checked os 3 .any (Rows.fnExactFScoreSpec.pre6 enc Try.prog Try.f3 Rows.fnExactFScoreRow.domain false) (Rows.fnExactFScoreSpec.post enc Try.prog Try.f3 false true false false) := by
  refine law_lifted (C := Try.checked) (s := Rows.fnExactFScoreSpec) started own laidOut (by kernel_rfl) Try.func3 rfl ?_ rfl Try.underlying4 ?_
    (ChangeSpec.witness6 (enc := enc) (C := Try.checked) false ⟨#[], #[.agg #[.int .i64 0, .int .i64 0, .int .i64 0]], []⟩ 8 (by kernel_rfl) (by kernel_rfl) (by kernel_rfl) (by kernel_rfl)) ?_
  · intro ds hds
    match ds, hds with
    | [d], _ => rfl
  · intro t ht
    rw [Try.params3] at ht
    obtain rfl : t = 23 := by simpa using ht
    have h := readsT; rw [Bool.and_eq_true, decide_eq_true_eq] at h; exact h
  · intro W base args ds p hval hA _
    rw [Try.params3] at hA hval
    obtain ⟨v0, vs0, d0, ds0, p0, q0, hargs, rfl, rfl, h0, r0⟩ := trodAll_cons hA
    obtain ⟨rfl, rfl, rfl⟩ := trodAll_nil r0
    obtain rfl : args = #[v0] := by cases args; simp_all
    obtain ⟨c0, c1, c2, y0, y1, y2, m, rfl, rfl, rfl, hy0, hy1, hy2⟩ := open_agg3 Try.underlying23 (by kernel_rfl) cellsT (hval 0 23 v0 rfl rfl) h0
    obtain ⟨a, e0, rfl, wa⟩ := DataW.trod_int Try.underlying3 hy0
    obtain ⟨b, e1, rfl, wb⟩ := DataW.trod_int Try.underlying3 hy1
    obtain ⟨c, e2, rfl, wc⟩ := DataW.trod_int Try.underlying3 hy2
    simp at e0 e1 e2
    subst e0 e1 e2
    exact lawFScore_any a b c W

theorem proved : Rows.FnExactFScoreSaid :=
  OpenClaim.holds_of_wide 3 Try.f3 rfl rfl rfl rfl rfl rfl rfl ⟨rfl, rfl, rfl, rfl, rfl⟩ rfl rfl rfl rfl rfl (by kernel_rfl) Try.func3 (by kernel_rfl)
    (of_decide_eq_true (by kernel_rfl)) (by unfold Func.isWrapper; first | (rw [if_pos (by decide +kernel)]; kernel_rfl) | (rw [if_neg (by decide +kernel)]; exact ⟨rfl, rfl⟩))
    (fun os started H enc _ => lifted os started H enc)
#print axioms proved
end Go.Proofs.Ytgehpbikkcnecaa.fnExactFScore
