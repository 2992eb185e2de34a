/- What the form hands over of the laws' arguments. -/
import Derived.Test.YtdgpbgpapcldeaaRows
import Derived.Test.YtdgpbgpapcldeaaOLib
import Derived.Test.YtdgpbgpapcldeaaKVerdict
import Derived.Test.YtdgpbgpapcldeaaKRecord
import Derived.Test.YtdgpbgpapcldeaaKOp
import Derived.Test.YtdgpbgpapcldeaaKBatch
set_option linter.unusedVariables false
set_option linter.unusedSimpArgs false
namespace Go.Proofs.Ytdgpbgpapcldeaa
open Go.RowKit Go.Er Go.ChangeShapes Go.WideShapes Go.ChangeAt
theorem open_int_ {H : Type} {enc : TypeId × Value → H} {W : World} (fuel : Nat) (vs : List Value) (x : DataW H × List MemPlace) (h : DataW.trod enc Try.prog W 0 (fun _ => true) true fuel 3 vs = some x) : ∃ y, IntR 0 W vs y := by
  obtain ⟨n, e, _⟩ := DataW.trod_int Try.underlying3 h
  exact ⟨n, e⟩
theorem open_str_ {H : Type} {enc : TypeId × Value → H} {W : World} (fuel : Nat) (vs : List Value) (x : DataW H × List MemPlace) (h : DataW.trod enc Try.prog W 0 (fun _ => true) true fuel 9 vs = some x) : ∃ y, StrR 0 W vs y := by
  obtain ⟨n, e, _, hz⟩ := DataW.trod_string Try.underlying9 h
  exact ⟨n, e, hz⟩

theorem cells_Verdict : Try.prog.cellsOf 24 = 4 := by kernel_rfl
theorem open_Verdict {H : Type} {enc : TypeId × Value → H} {W : World} (fuel : Nat) (vs : List Value) (x : DataW H × List MemPlace) (h : DataW.trod enc Try.prog W 0 (fun _ => true) true fuel 24 vs = some x) : ∃ y, VerdictR 0 W vs y := by
  have hl := trod_len Try.underlying24 h
  rw [cells_Verdict] at hl
  obtain ⟨v0, v1, v2, v3, rfl⟩ : ∃ v0 v1 v2 v3, vs = [v0, v1, v2, v3] := by
    match vs, hl with
    | [a0, a1, a2, a3], _ => exact ⟨_, _, _, _, rfl⟩
  obtain ⟨n0, y0, h0⟩ := trod_field Try.underlying24 h 0 _ rfl 0 1 rfl (by kernel_rfl)
  change DataW.trod enc Try.prog W 0 (fun _ => true) true n0 3 [v0] = some y0 at h0
  obtain ⟨x0, e0, _⟩ := DataW.trod_int Try.underlying3 h0
  simp only [List.cons.injEq, and_true] at e0
  subst e0
  obtain ⟨n1, y1, h1⟩ := trod_field Try.underlying24 h 1 _ rfl 1 1 rfl (by kernel_rfl)
  change DataW.trod enc Try.prog W 0 (fun _ => true) true n1 3 [v1] = some y1 at h1
  obtain ⟨x1, e1, _⟩ := DataW.trod_int Try.underlying3 h1
  simp only [List.cons.injEq, and_true] at e1
  subst e1
  obtain ⟨n2, y2, h2⟩ := trod_field Try.underlying24 h 2 _ rfl 2 1 rfl (by kernel_rfl)
  change DataW.trod enc Try.prog W 0 (fun _ => true) true n2 4 [v2] = some y2 at h2
  obtain ⟨x2, e2, _⟩ := DataW.trod_bool Try.underlying4 h2
  simp only [List.cons.injEq, and_true] at e2
  subst e2
  obtain ⟨n3, y3, h3⟩ := trod_field Try.underlying24 h 3 _ rfl 3 1 rfl (by kernel_rfl)
  change DataW.trod enc Try.prog W 0 (fun _ => true) true n3 3 [v3] = some y3 at h3
  obtain ⟨x3, e3, _⟩ := DataW.trod_int Try.underlying3 h3
  simp only [List.cons.injEq, and_true] at e3
  subst e3
  exact ⟨⟨x0, x1, x2, x3⟩, rfl⟩

theorem cells_Record : Try.prog.cellsOf 166 = 4 := by kernel_rfl
theorem open_Record {H : Type} {enc : TypeId × Value → H} {W : World} (fuel : Nat) (vs : List Value) (x : DataW H × List MemPlace) (h : DataW.trod enc Try.prog W 0 (fun _ => true) true fuel 166 vs = some x) : ∃ y, RecordR 0 W vs y := by
  have hl := trod_len Try.underlying166 h
  rw [cells_Record] at hl
  obtain ⟨v0, v1, v2, v3, rfl⟩ : ∃ v0 v1 v2 v3, vs = [v0, v1, v2, v3] := by
    match vs, hl with
    | [a0, a1, a2, a3], _ => exact ⟨_, _, _, _, rfl⟩
  obtain ⟨n0, y0, h0⟩ := trod_field Try.underlying166 h 0 _ rfl 0 1 rfl (by kernel_rfl)
  change DataW.trod enc Try.prog W 0 (fun _ => true) true n0 3 [v0] = some y0 at h0
  obtain ⟨x0, e0, _⟩ := DataW.trod_int Try.underlying3 h0
  simp only [List.cons.injEq, and_true] at e0
  subst e0
  obtain ⟨n1, y1, h1⟩ := trod_field Try.underlying166 h 1 _ rfl 1 1 rfl (by kernel_rfl)
  change DataW.trod enc Try.prog W 0 (fun _ => true) true n1 3 [v1] = some y1 at h1
  obtain ⟨x1, e1, _⟩ := DataW.trod_int Try.underlying3 h1
  simp only [List.cons.injEq, and_true] at e1
  subst e1
  obtain ⟨n2, y2, h2⟩ := trod_field Try.underlying166 h 2 _ rfl 2 1 rfl (by kernel_rfl)
  change DataW.trod enc Try.prog W 0 (fun _ => true) true n2 3 [v2] = some y2 at h2
  obtain ⟨x2, e2, _⟩ := DataW.trod_int Try.underlying3 h2
  simp only [List.cons.injEq, and_true] at e2
  subst e2
  obtain ⟨n3, y3, h3⟩ := trod_field Try.underlying166 h 3 _ rfl 3 1 rfl (by kernel_rfl)
  change DataW.trod enc Try.prog W 0 (fun _ => true) true n3 86 [v3] = some y3 at h3
  obtain ⟨p0, x3, c0, e3, r0⟩ := open_row (k := 1) (R := StrR) Try.underlying86 (by kernel_rfl) (by decide) open_str_ h3
  simp only [List.cons.injEq, and_true] at e3
  subst e3
  exact ⟨⟨x0, x1, x2, x3⟩, ⟨p0, c0, rfl, r0⟩⟩

theorem cells_Op : Try.prog.cellsOf 168 = 9 := by kernel_rfl
theorem open_Op {H : Type} {enc : TypeId × Value → H} {W : World} (fuel : Nat) (vs : List Value) (x : DataW H × List MemPlace) (h : DataW.trod enc Try.prog W 0 (fun _ => true) true fuel 168 vs = some x) : ∃ y, OpR 0 W vs y := by
  have hl := trod_len Try.underlying168 h
  rw [cells_Op] at hl
  obtain ⟨v0, v1, v2, v3, v4, v5, v6, v7, v8, rfl⟩ : ∃ v0 v1 v2 v3 v4 v5 v6 v7 v8, vs = [v0, v1, v2, v3, v4, v5, v6, v7, v8] := by
    match vs, hl with
    | [a0, a1, a2, a3, a4, a5, a6, a7, a8], _ => exact ⟨_, _, _, _, _, _, _, _, _, rfl⟩
  obtain ⟨n0, y0, h0⟩ := trod_field Try.underlying168 h 0 _ rfl 0 1 rfl (by kernel_rfl)
  change DataW.trod enc Try.prog W 0 (fun _ => true) true n0 3 [v0] = some y0 at h0
  obtain ⟨x0, e0, _⟩ := DataW.trod_int Try.underlying3 h0
  simp only [List.cons.injEq, and_true] at e0
  subst e0
  obtain ⟨n1, y1, h1⟩ := trod_field Try.underlying168 h 1 _ rfl 1 4 rfl (by kernel_rfl)
  change DataW.trod enc Try.prog W 0 (fun _ => true) true n1 166 [v1, v2, v3, v4] = some y1 at h1
  obtain ⟨x1, ⟨p0, c0, e1, r0⟩⟩ := open_Record _ _ _ h1
  simp only [RecordR, List.cons.injEq, and_true] at e1
  obtain ⟨rfl, rfl, rfl, rfl⟩ := e1
  obtain ⟨n2, y2, h2⟩ := trod_field Try.underlying168 h 2 _ rfl 5 4 rfl (by kernel_rfl)
  change DataW.trod enc Try.prog W 0 (fun _ => true) true n2 24 [v5, v6, v7, v8] = some y2 at h2
  obtain ⟨x2, e2⟩ := open_Verdict _ _ _ h2
  simp only [VerdictR, List.cons.injEq, and_true] at e2
  obtain ⟨rfl, rfl, rfl, rfl⟩ := e2
  exact ⟨⟨x0, x1, x2⟩, ⟨p0, c0, rfl, r0⟩⟩

theorem cells_Batch : Try.prog.cellsOf 82 = 1 := by kernel_rfl
theorem open_Batch {H : Type} {enc : TypeId × Value → H} {W : World} (fuel : Nat) (vs : List Value) (x : DataW H × List MemPlace) (h : DataW.trod enc Try.prog W 0 (fun _ => true) true fuel 82 vs = some x) : ∃ y, BatchR 0 W vs y := by
  have hl := trod_len Try.underlying82 h
  rw [cells_Batch] at hl
  obtain ⟨v0, rfl⟩ : ∃ v0, vs = [v0] := by
    match vs, hl with
    | [a0], _ => exact ⟨_, rfl⟩
  obtain ⟨n0, y0, h0⟩ := trod_field Try.underlying82 h 0 _ rfl 0 1 rfl (by kernel_rfl)
  change DataW.trod enc Try.prog W 0 (fun _ => true) true n0 80 [v0] = some y0 at h0
  obtain ⟨p0, x0, c0, e0, r0⟩ := open_row (k := 9) (R := OpR) Try.underlying80 (by kernel_rfl) (by decide) open_Op h0
  simp only [List.cons.injEq, and_true] at e0
  subst e0
  exact ⟨⟨x0⟩, ⟨p0, c0, rfl, r0⟩⟩
end Go.Proofs.Ytdgpbgpapcldeaa
