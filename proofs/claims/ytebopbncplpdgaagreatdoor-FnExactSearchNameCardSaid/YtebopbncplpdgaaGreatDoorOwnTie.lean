/- The tie of the listed tables to the program's text, fact by fact. No condition. -/
import Derived.Test.YtebopbncplpdgaaGreatDoorRows
import Derived.LaidByTextLater
import Derived.SevenTiedAt
import Derived.LaidOnce
set_option linter.unusedVariables false
set_option maxRecDepth 100000
namespace Go.Proofs.YtebopbncplpdgaaGreatDoor
open Go
abbrev tieL : List (String × DataW Unit) := [("unicode/utf8.acceptRanges", Rows.laid_unicode_utf8_acceptRanges), ("loop.example/g01923/impl.soundCodes", Rows.laid_loop_example_g01923_impl_soundCodes), ("strconv.ErrSyntax", Rows.laid_strconv_ErrSyntax), ("strconv.ErrRange", Rows.laid_strconv_ErrRange), ("internal/strconv.uint64pow10", Rows.laid_internal_strconv_uint64pow10), ("math/bits.deBruijn32tab", Rows.laid_math_bits_deBruijn32tab), ("math/bits.deBruijn64tab", Rows.laid_math_bits_deBruijn64tab)]
abbrev tieK : List LaidKind := [.data, .data, .sentinel, .sentinel, .data, .data, .data]
theorem tq1 : Tryz.prog.worded (varsWordLater true) = true := by kernel_rfl
theorem tq2 : Tryz.prog.worded (varsWordLater !true) = false := by kernel_rfl
theorem tq3 : Tryz.prog.worded rootWordLater = true := by kernel_rfl
theorem tq4 : tieL.map (fun x => Tryz.prog.kindOfLater x.1) = tieK.map some := by kernel_rfl
theorem tq5 : (Tryz.prog.funcNamed "gosem.cut.vars").isSome = true := by kernel_rfl
theorem tq6 : varsNamedLaterB Tryz.prog (varsId Tryz.prog) tieL = true := by kernel_rfl
theorem tq7 : ∀ os tape, doorLeaves Tryz.prog 77 8 65 tieL os tape = some (tieL.filter fun x => x.2.handleName?.isNone, (funcsListed tieL).map (·.2.funcsOut)) := fun _ _ => by kernel_rfl
theorem tieO : Tryz.prog.laidByTextLater tieL tieK true := Program.laidByTextLater_by_one 77 8 65 tq1 tq2 tq3 tq4 tq5 tq6 tq7
theorem noOwn : Tryz.pinned.checked.prog.headLifts.contains "ownunsafe" = false := by kernel_rfl
theorem pin_unicode_utf8_first : Tryz.pinned.checked.prog.pinnedFits "unicode/utf8.first" = true := by kernel_rfl
theorem fitsO : Tryz.pinned.checked.prog.listedFits [("unicode/utf8.first", Rows.laid_unicode_utf8_first), ("unicode/utf8.acceptRanges", Rows.laid_unicode_utf8_acceptRanges), ("loop.example/g01923/impl.soundCodes", Rows.laid_loop_example_g01923_impl_soundCodes), ("strconv.ErrSyntax", Rows.laid_strconv_ErrSyntax), ("strconv.ErrRange", Rows.laid_strconv_ErrRange), ("internal/strconv.uint64pow10", Rows.laid_internal_strconv_uint64pow10), ("math/bits.deBruijn32tab", Rows.laid_math_bits_deBruijn32tab), ("math/bits.deBruijn64tab", Rows.laid_math_bits_deBruijn64tab)] = true := by
  unfold Program.listedFits
  rw [noOwn]
  kernel_rfl
end Go.Proofs.YtebopbncplpdgaaGreatDoor
