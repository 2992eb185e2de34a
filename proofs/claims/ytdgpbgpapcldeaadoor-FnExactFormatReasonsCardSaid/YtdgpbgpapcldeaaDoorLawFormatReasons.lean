/- For every list of Reasons (of at most 1048576 elements; else it answers at once) the law FnExactFormatReasons returns true: FormatReasons of the program returns what the reference's returns, and leaves the list as it was. The row lists three tables of the library (they hold what the program's text lays in them: the card's tie). -/
import Derived.Test.YtdgpbgpapcldeaaDoorCards
import Derived.Test.YtdgpbgpapcldeaaDoorTie
import Derived.Test.YtdgpbgpapcldeaaDoorDLaw
import Derived.Test.YtdgpbgpapcldeaaDoorWFormatReasons
set_option linter.unusedVariables false
set_option linter.unusedSimpArgs false
namespace Go.Proofs.YtdgpbgpapcldeaaDoor.fnExactFormatReasons
open Go.ChangeShapes Go.WideShapes Go.ChangeAt Go.RowKit Go.Er
open Go.Proofs.YtdgpbgpapcldeaaDoor

theorem lit_i64 {n : Int} (h : (Lit.int .i64 n).wf = true) : inI64 n := by
  have e1 : IntKind.i64.min = -9223372036854775808 := rfl
  have e2 : IntKind.i64.max = 9223372036854775807 := rfl
  simp [Lit.wf, e1, e2] at h
  exact ⟨by omega, by omega⟩
theorem open_ReasonIn {H : Type} {enc : TypeId × Value → H} {W : World} (fuel : Nat) (vs : List Value) (x : DataW H × List MemPlace) (h : DataW.trod enc Tryd.prog W 0 (fun _ => true) true fuel 47 vs = some x) : ∃ y, AndR ReasonR reasonIn 0 W vs y := by
  have hl := trod_len Tryd.underlying47 h
  rw [show Tryd.prog.cellsOf 47 = 4 by kernel_rfl] at hl
  obtain ⟨v0, v1, v2, v3, rfl⟩ : ∃ v0 v1 v2 v3, vs = [v0, v1, v2, v3] := by
    match vs, hl with
    | [a0, a1, a2, a3], _ => exact ⟨_, _, _, _, rfl⟩
  obtain ⟨n0, y0, h0⟩ := trod_field Tryd.underlying47 h 0 _ rfl 0 1 rfl (by kernel_rfl)
  change DataW.trod enc Tryd.prog W 0 (fun _ => true) true n0 3 [v0] = some y0 at h0
  obtain ⟨x0, e0, _, f0⟩ := DataW.trod_int Tryd.underlying3 h0
  simp only [List.cons.injEq, and_true] at e0
  subst e0
  obtain ⟨n1, y1, h1⟩ := trod_field Tryd.underlying47 h 1 _ rfl 1 1 rfl (by kernel_rfl)
  change DataW.trod enc Tryd.prog W 0 (fun _ => true) true n1 3 [v1] = some y1 at h1
  obtain ⟨x1, e1, _, f1⟩ := DataW.trod_int Tryd.underlying3 h1
  simp only [List.cons.injEq, and_true] at e1
  subst e1
  obtain ⟨n2, y2, h2⟩ := trod_field Tryd.underlying47 h 2 _ rfl 2 1 rfl (by kernel_rfl)
  change DataW.trod enc Tryd.prog W 0 (fun _ => true) true n2 3 [v2] = some y2 at h2
  obtain ⟨x2, e2, _, f2⟩ := DataW.trod_int Tryd.underlying3 h2
  simp only [List.cons.injEq, and_true] at e2
  subst e2
  obtain ⟨n3, y3, h3⟩ := trod_field Tryd.underlying47 h 3 _ rfl 3 1 rfl (by kernel_rfl)
  change DataW.trod enc Tryd.prog W 0 (fun _ => true) true n3 3 [v3] = some y3 at h3
  obtain ⟨x3, e3, _, f3⟩ := DataW.trod_int Tryd.underlying3 h3
  simp only [List.cons.injEq, and_true] at e3
  subst e3
  exact ⟨⟨x0, x1, x2, x3⟩, rfl, lit_i64 f0, lit_i64 f1, lit_i64 f2, lit_i64 f3⟩

theorem own : ownKnob Tryd.prog.godebug = none := by kernel_rfl
theorem laidOut : laidOutB Tryd.prog = true := by kernel_rfl
theorem reads0 : (Tryd.prog.readableRec 29 && decide (29 < Tryd.prog.types.size)) = true := by kernel_rfl
abbrev tables : List (String × DataW Unit) := [("math/bits.deBruijn32tab", Rows.laid_math_bits_deBruijn32tab), ("math/bits.deBruijn64tab", Rows.laid_math_bits_deBruijn64tab), ("internal/strconv.uint64pow10", Rows.laid_internal_strconv_uint64pow10)]
/-- The settled world, the three tables holding what their initialisers lay: the witness. -/
noncomputable def laidWorld (os : Os) : World :=
  { World.holding Tryd.prog os ⟨#[], #[], []⟩ with heap := setBlock (setBlock (setBlock (World.holding Tryd.prog os ⟨#[], #[], []⟩).heap 1 (datCells Rows.laid_internal_strconv_uint64pow10)) 2 (datCells Rows.laid_math_bits_deBruijn32tab)) 3 (datCells Rows.laid_math_bits_deBruijn64tab) }
theorem laid_met (os : Os) (args : Array Value) : laidMet Tryd.prog tables ((laidWorld os).forCall (fun _ _ => 0) ⟨#[], args, []⟩).memory :=
  laidMet_of_run' 8 (by kernel_rfl) (by kernel_rfl)
theorem tabFact {W : World} (hL : laidMet Tryd.prog tables W) : Tab W := by
  have h := hL.tail.tail
  rw [show (Rows.laid_internal_strconv_uint64pow10 : DataW Unit) = Lib.tabData .u64 Lib.pow10Tab by kernel_rfl] at h
  exact Lib.tabIs_of_head (g := 1) (by kernel_rfl) (by kernel_rfl) Tryd.underlying72 Tryd.underlying65 (by kernel_rfl) (by kernel_rfl) h

set_option maxRecDepth 100000 in
theorem lifted (os : Os) (started : os.Started) (H : Type) (enc : TypeId × Value → H) :
    ReturnsInHanded {} Tryd.checked os 4 .any (fun w args => (Rows.fnExactFormatReasonsSpec.pre enc Tryd.prog Tryd.f4 Rows.fnExactFormatReasonsRow.domain false w args ∧ laidMet Tryd.prog tables w) ∧ sizedMet enc Tryd.prog Tryd.f4 (OpenSpec.ofChange Rows.fnExactFormatReasonsSpec) false w args) (Rows.fnExactFormatReasonsSpec.post enc Tryd.prog Tryd.f4 false true false false) := by
  refine law_lifted_laid (C := Tryd.checked) (s := Rows.fnExactFormatReasonsSpec) started own laidOut (by kernel_rfl) Tryd.func4 rfl ?_ rfl Tryd.underlying4 ?_
    (ChangeSpec.witness_at (enc := enc) (C := Tryd.checked) (os := os) (X := fun w _ => laidMet Tryd.prog tables w) false (laidWorld os) #[.slice none 0 0] 8 rfl (by kernel_rfl) (by kernel_rfl) (by kernel_rfl) (by kernel_rfl) (by kernel_rfl) (laid_met os _)) ?_
  · intro ds hds
    match ds, hds with
    | [d0], _ => rfl
  · intro t ht
    rw [Tryd.params4] at ht
    simp only [List.mem_cons, List.not_mem_nil, or_false] at ht
    subst ht
    have h := reads0; rw [Bool.and_eq_true, decide_eq_true_eq] at h; exact h
  · intro W base args ds p hval hA hL
    rw [Tryd.params4] at hA hval
    obtain ⟨v0, vs0, d0, ds0, p0, q0, hargs, rfl, rfl, h0, r0⟩ := trodAll_cons hA
    obtain ⟨rfl, rfl, rfl⟩ := trodAll_nil r0
    obtain rfl : args = #[v0] := by cases args; simp_all
    obtain ⟨a0, l0, c0, rfl, i0⟩ := open_row_arg (k := 4) (R := AndR ReasonR reasonIn) Tryd.underlying29 (by kernel_rfl) (by decide) open_ReasonIn (hval 0 29 v0 rfl rfl) h0
    exact lawFormatReasons_any l0 i0.split.2 a0 c0 W (tabFact hL) i0.split.1

theorem row : Rows.FnExactFormatReasonsSaid :=
  OpenClaim.holds_of_wide 4 Tryd.f4 rfl rfl rfl rfl rfl rfl rfl ⟨rfl, rfl, rfl, rfl, rfl⟩ rfl rfl rfl rfl rfl (by kernel_rfl) Tryd.func4 (by kernel_rfl)
    (of_decide_eq_true (by kernel_rfl)) (by unfold Func.isWrapper; first | (rw [if_pos (by decide +kernel)]; kernel_rfl) | (rw [if_neg (by decide +kernel)]; exact ⟨rfl, rfl⟩))
    (fun os started H enc _ => lifted os started H enc)
theorem proved : Rows.FnExactFormatReasonsCardSaid :=
  Claim7.holds_tied_plain_at .later [] [.data, .data, .data] true (true, "c781fce86f66dfe17741cdf2c151ce2356f1ebe514910a5d1eb01f8d1f8c17ba") false
    row (fun _ h => by cases h) (by kernel_rfl) (fun _ h => by cases h) fnExactFormatReasons_row_tie rfl ⟨rfl, rfl⟩ (by kernel_rfl) rfl
    (fun f fn hf hfn => by
      obtain rfl : f = 4 := Option.some.inj ((show Tryd.prog.funcNamed "loop.example/g01923/laws.FnExactFormatReasons" = some 4 by kernel_rfl).symm.trans hf) |>.symm
      obtain rfl : fn = Tryd.f4 := (Option.some.inj (Tryd.func4.symm.trans hfn)).symm
      exact ⟨by kernel_rfl, fun j t ht => by
        rw [Tryd.params4] at ht
        have h3 : t = 29 := by
          rcases j with _ | j
          · simpa using ht.symm
          · simp at ht
        subst h3
        exact (show Tryd.prog.wantsStandIn 29 = false by kernel_rfl)⟩)
    (by kernel_rfl)
#print axioms proved
end Go.Proofs.YtdgpbgpapcldeaaDoor.fnExactFormatReasons
