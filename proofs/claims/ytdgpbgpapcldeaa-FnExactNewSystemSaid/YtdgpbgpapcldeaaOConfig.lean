/- What the form hands over of the laws' arguments. -/
import Derived.Test.YtdgpbgpapcldeaaRows
import Derived.Test.YtdgpbgpapcldeaaOLib
import Derived.Test.YtdgpbgpapcldeaaKTest
import Derived.Test.YtdgpbgpapcldeaaKRule
import Derived.Test.YtdgpbgpapcldeaaKRuleSet
import Derived.Test.YtdgpbgpapcldeaaKScoring
import Derived.Test.YtdgpbgpapcldeaaKConfig
set_option linter.unusedVariables false
set_option linter.unusedSimpArgs false
namespace Go.Proofs.Ytdgpbgpapcldeaa
open Go.RowKit Go.Er Go.ChangeShapes Go.WideShapes Go.ChangeAt
theorem open_int_ {H : Type} {enc : TypeId × Value → H} {W : World} (fuel : Nat) (vs : List Value) (x : DataW H × List MemPlace) (h : DataW.trod enc Try.prog W 0 (fun _ => true) true fuel 3 vs = some x) : ∃ y, IntR 0 W vs y := by
  obtain ⟨n, e, _⟩ := DataW.trod_int Try.underlying3 h
  exact ⟨n, e⟩
theorem open_str_ {H : Type} {enc : TypeId × Value → H} {W : World} (fuel : Nat) (vs : List Value) (x : DataW H × List MemPlace) (h : DataW.trod enc Try.prog W 0 (fun _ => true) true fuel 9 vs = some x) : ∃ y, StrR 0 W vs y := by
  obtain ⟨n, e, _, hz⟩ := DataW.trod_string Try.underlying9 h
  exact ⟨n, e, hz⟩

theorem cells_Test : Try.prog.cellsOf 190 = 3 := by kernel_rfl
theorem open_Test {H : Type} {enc : TypeId × Value → H} {W : World} (fuel : Nat) (vs : List Value) (x : DataW H × List MemPlace) (h : DataW.trod enc Try.prog W 0 (fun _ => true) true fuel 190 vs = some x) : ∃ y, TestR 0 W vs y := by
  have hl := trod_len Try.underlying190 h
  rw [cells_Test] at hl
  obtain ⟨v0, v1, v2, rfl⟩ : ∃ v0 v1 v2, vs = [v0, v1, v2] := by
    match vs, hl with
    | [a0, a1, a2], _ => exact ⟨_, _, _, rfl⟩
  obtain ⟨n0, y0, h0⟩ := trod_field Try.underlying190 h 0 _ rfl 0 1 rfl (by kernel_rfl)
  change DataW.trod enc Try.prog W 0 (fun _ => true) true n0 3 [v0] = some y0 at h0
  obtain ⟨x0, e0, _⟩ := DataW.trod_int Try.underlying3 h0
  simp only [List.cons.injEq, and_true] at e0
  subst e0
  obtain ⟨n1, y1, h1⟩ := trod_field Try.underlying190 h 1 _ rfl 1 1 rfl (by kernel_rfl)
  change DataW.trod enc Try.prog W 0 (fun _ => true) true n1 3 [v1] = some y1 at h1
  obtain ⟨x1, e1, _⟩ := DataW.trod_int Try.underlying3 h1
  simp only [List.cons.injEq, and_true] at e1
  subst e1
  obtain ⟨n2, y2, h2⟩ := trod_field Try.underlying190 h 2 _ rfl 2 1 rfl (by kernel_rfl)
  change DataW.trod enc Try.prog W 0 (fun _ => true) true n2 4 [v2] = some y2 at h2
  obtain ⟨x2, e2, _⟩ := DataW.trod_bool Try.underlying4 h2
  simp only [List.cons.injEq, and_true] at e2
  subst e2
  exact ⟨⟨x0, x1, x2⟩, rfl⟩

theorem cells_Rule : Try.prog.cellsOf 174 = 1 := by kernel_rfl
theorem open_Rule {H : Type} {enc : TypeId × Value → H} {W : World} (fuel : Nat) (vs : List Value) (x : DataW H × List MemPlace) (h : DataW.trod enc Try.prog W 0 (fun _ => true) true fuel 174 vs = some x) : ∃ y, RuleR 0 W vs y := by
  have hl := trod_len Try.underlying174 h
  rw [cells_Rule] at hl
  obtain ⟨v0, rfl⟩ : ∃ v0, vs = [v0] := by
    match vs, hl with
    | [a0], _ => exact ⟨_, rfl⟩
  obtain ⟨n0, y0, h0⟩ := trod_field Try.underlying174 h 0 _ rfl 0 1 rfl (by kernel_rfl)
  change DataW.trod enc Try.prog W 0 (fun _ => true) true n0 172 [v0] = some y0 at h0
  obtain ⟨p0, x0, c0, e0, r0⟩ := open_row (k := 3) (R := TestR) Try.underlying172 (by kernel_rfl) (by decide) open_Test h0
  simp only [List.cons.injEq, and_true] at e0
  subst e0
  exact ⟨⟨x0⟩, ⟨p0, c0, rfl, r0⟩⟩

theorem cells_RuleSet : Try.prog.cellsOf 35 = 1 := by kernel_rfl
theorem open_RuleSet {H : Type} {enc : TypeId × Value → H} {W : World} (fuel : Nat) (vs : List Value) (x : DataW H × List MemPlace) (h : DataW.trod enc Try.prog W 0 (fun _ => true) true fuel 35 vs = some x) : ∃ y, RuleSetR 0 W vs y := by
  have hl := trod_len Try.underlying35 h
  rw [cells_RuleSet] at hl
  obtain ⟨v0, rfl⟩ : ∃ v0, vs = [v0] := by
    match vs, hl with
    | [a0], _ => exact ⟨_, rfl⟩
  obtain ⟨n0, y0, h0⟩ := trod_field Try.underlying35 h 0 _ rfl 0 1 rfl (by kernel_rfl)
  change DataW.trod enc Try.prog W 0 (fun _ => true) true n0 33 [v0] = some y0 at h0
  obtain ⟨p0, x0, c0, e0, r0⟩ := open_row (k := 1) (R := RuleR) Try.underlying33 (by kernel_rfl) (by decide) open_Rule h0
  simp only [List.cons.injEq, and_true] at e0
  subst e0
  exact ⟨⟨x0⟩, ⟨p0, c0, rfl, r0⟩⟩

theorem cells_Scoring : Try.prog.cellsOf 38 = 2 := by kernel_rfl
theorem open_Scoring {H : Type} {enc : TypeId × Value → H} {W : World} (fuel : Nat) (vs : List Value) (x : DataW H × List MemPlace) (h : DataW.trod enc Try.prog W 0 (fun _ => true) true fuel 38 vs = some x) : ∃ y, ScoringR 0 W vs y := by
  have hl := trod_len Try.underlying38 h
  rw [cells_Scoring] at hl
  obtain ⟨v0, v1, rfl⟩ : ∃ v0 v1, vs = [v0, v1] := by
    match vs, hl with
    | [a0, a1], _ => exact ⟨_, _, rfl⟩
  obtain ⟨n0, y0, h0⟩ := trod_field Try.underlying38 h 0 _ rfl 0 1 rfl (by kernel_rfl)
  change DataW.trod enc Try.prog W 0 (fun _ => true) true n0 36 [v0] = some y0 at h0
  obtain ⟨p0, x0, c0, e0, r0⟩ := open_row (k := 1) (R := IntR) Try.underlying36 (by kernel_rfl) (by decide) open_int_ h0
  simp only [List.cons.injEq, and_true] at e0
  subst e0
  obtain ⟨n1, y1, h1⟩ := trod_field Try.underlying38 h 1 _ rfl 1 1 rfl (by kernel_rfl)
  change DataW.trod enc Try.prog W 0 (fun _ => true) true n1 3 [v1] = some y1 at h1
  obtain ⟨x1, e1, _⟩ := DataW.trod_int Try.underlying3 h1
  simp only [List.cons.injEq, and_true] at e1
  subst e1
  exact ⟨⟨x0, x1⟩, ⟨p0, c0, rfl, r0⟩⟩

theorem cells_Config : Try.prog.cellsOf 40 = 4 := by kernel_rfl
theorem open_Config {H : Type} {enc : TypeId × Value → H} {W : World} (fuel : Nat) (vs : List Value) (x : DataW H × List MemPlace) (h : DataW.trod enc Try.prog W 0 (fun _ => true) true fuel 40 vs = some x) : ∃ y, ConfigR 0 W vs y := by
  have hl := trod_len Try.underlying40 h
  rw [cells_Config] at hl
  obtain ⟨v0, v1, v2, v3, rfl⟩ : ∃ v0 v1 v2 v3, vs = [v0, v1, v2, v3] := by
    match vs, hl with
    | [a0, a1, a2, a3], _ => exact ⟨_, _, _, _, rfl⟩
  obtain ⟨n0, y0, h0⟩ := trod_field Try.underlying40 h 0 _ rfl 0 1 rfl (by kernel_rfl)
  change DataW.trod enc Try.prog W 0 (fun _ => true) true n0 35 [v0] = some y0 at h0
  obtain ⟨x0, ⟨p0, c0, e0, r0⟩⟩ := open_RuleSet _ _ _ h0
  simp only [RuleSetR, List.cons.injEq, and_true] at e0
  obtain rfl := e0
  obtain ⟨n1, y1, h1⟩ := trod_field Try.underlying40 h 1 _ rfl 1 2 rfl (by kernel_rfl)
  change DataW.trod enc Try.prog W 0 (fun _ => true) true n1 38 [v1, v2] = some y1 at h1
  obtain ⟨x1, ⟨p1, c1, e1, r1⟩⟩ := open_Scoring _ _ _ h1
  simp only [ScoringR, List.cons.injEq, and_true] at e1
  obtain ⟨rfl, rfl⟩ := e1
  obtain ⟨n2, y2, h2⟩ := trod_field Try.underlying40 h 2 _ rfl 3 1 rfl (by kernel_rfl)
  change DataW.trod enc Try.prog W 0 (fun _ => true) true n2 36 [v3] = some y2 at h2
  obtain ⟨p2, x2, c2, e2, r2⟩ := open_row (k := 1) (R := IntR) Try.underlying36 (by kernel_rfl) (by decide) open_int_ h2
  simp only [List.cons.injEq, and_true] at e2
  subst e2
  exact ⟨⟨x0, x1, x2⟩, ⟨p0, c0, p1, c1, p2, c2, rfl, r0, r1, r2⟩⟩
end Go.Proofs.Ytdgpbgpapcldeaa
