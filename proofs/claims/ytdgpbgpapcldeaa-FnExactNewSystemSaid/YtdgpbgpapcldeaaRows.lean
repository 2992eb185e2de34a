/-
  No cell of these rows narrows 'for every input' (looked for: loops, veiled, ifaces, maps, wideKeys, modest, calm, conditions, laid).
  DERIVED. THE GIVEN ROWS OF THIS SEAT. 7 by the template 'for every input the law returns true; each argument reads behind the call as it read before'; 0 by the template 'total and deterministic' (their statements: YtdgpbgpapcldeaaTotals.lean).
  GIVEN WITH THE SEED: the statements are not yours to turn. If you find one false, say at which input.
  Laid BY PROGRAM, IN A SANDBOX (cutbox-rows.mjs): the forced cells as the released guide's own fill.sh prints them over the translation 68210fd9409ed6ee… (all of the seat's roots in one cut). By AI agents, Wed Nov 11 2026. No macro, syntax, notation, axiom, sorry.
-/
import Derived.Test.YtdgpbgpapcldeaaChecked
import GoSem.Claim
import GoSem.ClaimJoined
import GoSem.ClaimMapViews
import Derived.JoinedTies
import Derived.KernelRfl
namespace Go.Proofs.Ytdgpbgpapcldeaa
/- THE CELL 'sum', in the pinned program and in every row, IS THE sha256 OF THE DUMP (.gsa) THAT YtdgpbgpapcldeaaProg.lean LOADS. Nothing in Lean hashes anything: it is a label: what it is worth is what the hold of that sum in a sandbox is worth. -/
noncomputable def Try.pinned : Pinned := { name := "ytdgpbgpapcldeaa", sum := "68210fd9409ed6ee853df77ac720709bf63c02f066a8a97554f56c3b65c0497a", checked := Try.checked }
namespace Rows
def none {H : Type} : Left H := { results := [], args := [] }

/-- 'laws.FnExactCountMentions': WHATEVER THE INPUT: true; the input reads as it did. -/
def fnExactCountMentionsSpec : ChangeSpec := { name := "fnExactCountMentions", fn := fun _ => fun
  | [d1, d2] => { results := [.lit (.bool true)], args := [d1, d2] }
  | _ => none }
def fnExactCountMentionsRow : OpenClaim := { program := "ytdgpbgpapcldeaa", sum := "68210fd9409ed6ee853df77ac720709bf63c02f066a8a97554f56c3b65c0497a", func := "loop.example/g01923/laws.FnExactCountMentions", spec := "fnExactCountMentions", apart := false }
def FnExactCountMentionsSaid : Prop := fnExactCountMentionsRow.holds Try.pinned (OpenSpec.ofChange fnExactCountMentionsSpec)

/-- ITS FALSE NEIGHBOUR: 'it returns false'. Refute it at one input. -/
def fnExactCountMentionsWrong : ChangeSpec := { name := "fnExactCountMentions", fn := fun _ => fun
  | [d1, d2] => { results := [.lit (.bool false)], args := [d1, d2] }
  | _ => none }
def FnExactCountMentionsWrongFalsely : Prop := fnExactCountMentionsRow.holds Try.pinned (OpenSpec.ofChange fnExactCountMentionsWrong)

/-- 'laws.FnExactEqualConfigs': WHATEVER THE INPUT: true; the input reads as it did. -/
def fnExactEqualConfigsSpec : ChangeSpec := { name := "fnExactEqualConfigs", fn := fun _ => fun
  | [d1, d2] => { results := [.lit (.bool true)], args := [d1, d2] }
  | _ => none }
def fnExactEqualConfigsRow : OpenClaim := { program := "ytdgpbgpapcldeaa", sum := "68210fd9409ed6ee853df77ac720709bf63c02f066a8a97554f56c3b65c0497a", func := "loop.example/g01923/laws.FnExactEqualConfigs", spec := "fnExactEqualConfigs", unfollowed := true, recurses := true, apart := false }
def FnExactEqualConfigsSaid : Prop := fnExactEqualConfigsRow.holds Try.pinned (OpenSpec.ofChange fnExactEqualConfigsSpec)

/-- ITS FALSE NEIGHBOUR: 'it returns false'. Refute it at one input. -/
def fnExactEqualConfigsWrong : ChangeSpec := { name := "fnExactEqualConfigs", fn := fun _ => fun
  | [d1, d2] => { results := [.lit (.bool false)], args := [d1, d2] }
  | _ => none }
def FnExactEqualConfigsWrongFalsely : Prop := fnExactEqualConfigsRow.holds Try.pinned (OpenSpec.ofChange fnExactEqualConfigsWrong)

/-- 'laws.FnExactIsValidConfig': WHATEVER THE INPUT: true; the input reads as it did. -/
def fnExactIsValidConfigSpec : ChangeSpec := { name := "fnExactIsValidConfig", fn := fun _ => fun
  | [d] => { results := [.lit (.bool true)], args := [d] }
  | _ => none }
def fnExactIsValidConfigRow : OpenClaim := { program := "ytdgpbgpapcldeaa", sum := "68210fd9409ed6ee853df77ac720709bf63c02f066a8a97554f56c3b65c0497a", func := "loop.example/g01923/laws.FnExactIsValidConfig", spec := "fnExactIsValidConfig", unfollowed := true, recurses := true, apart := false }
def FnExactIsValidConfigSaid : Prop := fnExactIsValidConfigRow.holds Try.pinned (OpenSpec.ofChange fnExactIsValidConfigSpec)

/-- ITS FALSE NEIGHBOUR: 'it returns false'. Refute it at one input. -/
def fnExactIsValidConfigWrong : ChangeSpec := { name := "fnExactIsValidConfig", fn := fun _ => fun
  | [d] => { results := [.lit (.bool false)], args := [d] }
  | _ => none }
def FnExactIsValidConfigWrongFalsely : Prop := fnExactIsValidConfigRow.holds Try.pinned (OpenSpec.ofChange fnExactIsValidConfigWrong)

/-- 'laws.FnExactPurgeRecord': WHATEVER THE INPUT: true; the input reads as it did. -/
def fnExactPurgeRecordSpec : ChangeSpec := { name := "fnExactPurgeRecord", fn := fun _ => fun
  | [d1, d2] => { results := [.lit (.bool true)], args := [d1, d2] }
  | _ => none }
def fnExactPurgeRecordRow : OpenClaim := { program := "ytdgpbgpapcldeaa", sum := "68210fd9409ed6ee853df77ac720709bf63c02f066a8a97554f56c3b65c0497a", func := "loop.example/g01923/laws.FnExactPurgeRecord", spec := "fnExactPurgeRecord", unfollowed := true, recurses := true, apart := false }
def FnExactPurgeRecordSaid : Prop := fnExactPurgeRecordRow.holds Try.pinned (OpenSpec.ofChange fnExactPurgeRecordSpec)

/-- ITS FALSE NEIGHBOUR: 'it returns false'. Refute it at one input. -/
def fnExactPurgeRecordWrong : ChangeSpec := { name := "fnExactPurgeRecord", fn := fun _ => fun
  | [d1, d2] => { results := [.lit (.bool false)], args := [d1, d2] }
  | _ => none }
def FnExactPurgeRecordWrongFalsely : Prop := fnExactPurgeRecordRow.holds Try.pinned (OpenSpec.ofChange fnExactPurgeRecordWrong)

/-- 'laws.FnExactPurgeVerdict': WHATEVER THE INPUT: true; the input reads as it did. -/
def fnExactPurgeVerdictSpec : ChangeSpec := { name := "fnExactPurgeVerdict", fn := fun _ => fun
  | [d1, d2] => { results := [.lit (.bool true)], args := [d1, d2] }
  | _ => none }
def fnExactPurgeVerdictRow : OpenClaim := { program := "ytdgpbgpapcldeaa", sum := "68210fd9409ed6ee853df77ac720709bf63c02f066a8a97554f56c3b65c0497a", func := "loop.example/g01923/laws.FnExactPurgeVerdict", spec := "fnExactPurgeVerdict", unfollowed := true, recurses := true, apart := false }
def FnExactPurgeVerdictSaid : Prop := fnExactPurgeVerdictRow.holds Try.pinned (OpenSpec.ofChange fnExactPurgeVerdictSpec)

/-- ITS FALSE NEIGHBOUR: 'it returns false'. Refute it at one input. -/
def fnExactPurgeVerdictWrong : ChangeSpec := { name := "fnExactPurgeVerdict", fn := fun _ => fun
  | [d1, d2] => { results := [.lit (.bool false)], args := [d1, d2] }
  | _ => none }
def FnExactPurgeVerdictWrongFalsely : Prop := fnExactPurgeVerdictRow.holds Try.pinned (OpenSpec.ofChange fnExactPurgeVerdictWrong)

/-- 'laws.FnExactEqualSystems': WHATEVER THE INPUT: true; the input reads as it did. -/
def fnExactEqualSystemsSpec : ChangeSpec := { name := "fnExactEqualSystems", fn := fun _ => fun
  | [d1, d2] => { results := [.lit (.bool true)], args := [d1, d2] }
  | _ => none }
def fnExactEqualSystemsRow : OpenClaim := { program := "ytdgpbgpapcldeaa", sum := "68210fd9409ed6ee853df77ac720709bf63c02f066a8a97554f56c3b65c0497a", func := "loop.example/g01923/laws.FnExactEqualSystems", spec := "fnExactEqualSystems", unfollowed := true, recurses := true, apart := false }
def FnExactEqualSystemsSaid : Prop := fnExactEqualSystemsRow.holds Try.pinned (OpenSpec.ofChange fnExactEqualSystemsSpec)

/-- ITS FALSE NEIGHBOUR: 'it returns false'. Refute it at one input. -/
def fnExactEqualSystemsWrong : ChangeSpec := { name := "fnExactEqualSystems", fn := fun _ => fun
  | [d1, d2] => { results := [.lit (.bool false)], args := [d1, d2] }
  | _ => none }
def FnExactEqualSystemsWrongFalsely : Prop := fnExactEqualSystemsRow.holds Try.pinned (OpenSpec.ofChange fnExactEqualSystemsWrong)

/-- 'laws.FnExactNewSystem': WHATEVER THE INPUT: true; the input reads as it did. -/
def fnExactNewSystemSpec : ChangeSpec := { name := "fnExactNewSystem", fn := fun _ => fun
  | [d] => { results := [.lit (.bool true)], args := [d] }
  | _ => none }
def fnExactNewSystemRow : OpenClaim := { program := "ytdgpbgpapcldeaa", sum := "68210fd9409ed6ee853df77ac720709bf63c02f066a8a97554f56c3b65c0497a", func := "loop.example/g01923/laws.FnExactNewSystem", spec := "fnExactNewSystem", unfollowed := true, recurses := true, apart := false }
def FnExactNewSystemSaid : Prop := fnExactNewSystemRow.holds Try.pinned (OpenSpec.ofChange fnExactNewSystemSpec)

/-- ITS FALSE NEIGHBOUR: 'it returns false'. Refute it at one input. -/
def fnExactNewSystemWrong : ChangeSpec := { name := "fnExactNewSystem", fn := fun _ => fun
  | [d] => { results := [.lit (.bool false)], args := [d] }
  | _ => none }
def FnExactNewSystemWrongFalsely : Prop := fnExactNewSystemRow.holds Try.pinned (OpenSpec.ofChange fnExactNewSystemWrong)

/- THE SECOND FORM. 'bulk': how many values and letters a reading holds, each counted each time it is reached (what is shared counts as often as it is met; a slice's spare places count too). A statement '..UptoSaid' is the law's where the arguments, and the package variables that the reading takes, are together of bulk at most 1048576: NARROWER than '..Said'. Prove '..Said' where nothing that the law and all that it calls make is longer than what came in: it says more and counts as full. Else prove '..UptoSaid'. A law counts once. -/
mutual
def uptoBulk {H : Type} : DataW H → Nat
  | .lit (.string bytes) => bytes.length + 1
  | .lit _ => 1
  | .nil => 1
  | .ptr d => uptoBulk d + 1
  | .slice elems spare => uptoBulkAll elems + uptoBulkAll spare + 1
  | .agg parts => uptoBulkAll parts + 1
  | .iface _ d => uptoBulk d + 1
  | .map entries => uptoBulkEntries entries + 1
  | .held _ => 1
def uptoBulkAll {H : Type} : List (DataW H) → Nat
  | [] => 0
  | d :: r => uptoBulk d + uptoBulkAll r
def uptoBulkEntries {H : Type} : List (Lit × DataW H) → Nat
  | [] => 0
  | x :: r => uptoBulkEntry x + uptoBulkEntries r
def uptoBulkEntry {H : Type} : Lit × DataW H → Nat
  | (.string bytes, d) => bytes.length + uptoBulk d + 1
  | (_, d) => uptoBulk d + 1
 end
def uptoSmall : (H : Type) → List (DataW H) → Bool := fun _ ds => decide (uptoBulkAll ds ≤ 1048576)
def OpenSpec.upto (s : _root_.Go.ChangeSpec) : _root_.Go.OpenSpec := { _root_.Go.OpenSpec.ofChange s with cond := some uptoSmall }

/-- 'laws.FnExactCountMentions', WHERE WHAT IT READS IS OF BULK AT MOST 1048576: true; the input reads as it did. -/
def fnExactCountMentionsUptoRow : OpenClaim := { program := "ytdgpbgpapcldeaa", sum := "68210fd9409ed6ee853df77ac720709bf63c02f066a8a97554f56c3b65c0497a", func := "loop.example/g01923/laws.FnExactCountMentions", spec := "fnExactCountMentions", apart := false, narrowed := true }
def FnExactCountMentionsUptoSaid : Prop := fnExactCountMentionsUptoRow.holds Try.pinned (OpenSpec.upto fnExactCountMentionsSpec)

/-- 'laws.FnExactEqualConfigs', WHERE WHAT IT READS IS OF BULK AT MOST 1048576: true; the input reads as it did. -/
def fnExactEqualConfigsUptoRow : OpenClaim := { program := "ytdgpbgpapcldeaa", sum := "68210fd9409ed6ee853df77ac720709bf63c02f066a8a97554f56c3b65c0497a", func := "loop.example/g01923/laws.FnExactEqualConfigs", spec := "fnExactEqualConfigs", unfollowed := true, recurses := true, apart := false, narrowed := true }
def FnExactEqualConfigsUptoSaid : Prop := fnExactEqualConfigsUptoRow.holds Try.pinned (OpenSpec.upto fnExactEqualConfigsSpec)

/-- 'laws.FnExactIsValidConfig', WHERE WHAT IT READS IS OF BULK AT MOST 1048576: true; the input reads as it did. -/
def fnExactIsValidConfigUptoRow : OpenClaim := { program := "ytdgpbgpapcldeaa", sum := "68210fd9409ed6ee853df77ac720709bf63c02f066a8a97554f56c3b65c0497a", func := "loop.example/g01923/laws.FnExactIsValidConfig", spec := "fnExactIsValidConfig", unfollowed := true, recurses := true, apart := false, narrowed := true }
def FnExactIsValidConfigUptoSaid : Prop := fnExactIsValidConfigUptoRow.holds Try.pinned (OpenSpec.upto fnExactIsValidConfigSpec)

/-- 'laws.FnExactPurgeRecord', WHERE WHAT IT READS IS OF BULK AT MOST 1048576: true; the input reads as it did. -/
def fnExactPurgeRecordUptoRow : OpenClaim := { program := "ytdgpbgpapcldeaa", sum := "68210fd9409ed6ee853df77ac720709bf63c02f066a8a97554f56c3b65c0497a", func := "loop.example/g01923/laws.FnExactPurgeRecord", spec := "fnExactPurgeRecord", unfollowed := true, recurses := true, apart := false, narrowed := true }
def FnExactPurgeRecordUptoSaid : Prop := fnExactPurgeRecordUptoRow.holds Try.pinned (OpenSpec.upto fnExactPurgeRecordSpec)

/-- 'laws.FnExactPurgeVerdict', WHERE WHAT IT READS IS OF BULK AT MOST 1048576: true; the input reads as it did. -/
def fnExactPurgeVerdictUptoRow : OpenClaim := { program := "ytdgpbgpapcldeaa", sum := "68210fd9409ed6ee853df77ac720709bf63c02f066a8a97554f56c3b65c0497a", func := "loop.example/g01923/laws.FnExactPurgeVerdict", spec := "fnExactPurgeVerdict", unfollowed := true, recurses := true, apart := false, narrowed := true }
def FnExactPurgeVerdictUptoSaid : Prop := fnExactPurgeVerdictUptoRow.holds Try.pinned (OpenSpec.upto fnExactPurgeVerdictSpec)

/-- 'laws.FnExactEqualSystems', WHERE WHAT IT READS IS OF BULK AT MOST 1048576: true; the input reads as it did. -/
def fnExactEqualSystemsUptoRow : OpenClaim := { program := "ytdgpbgpapcldeaa", sum := "68210fd9409ed6ee853df77ac720709bf63c02f066a8a97554f56c3b65c0497a", func := "loop.example/g01923/laws.FnExactEqualSystems", spec := "fnExactEqualSystems", unfollowed := true, recurses := true, apart := false, narrowed := true }
def FnExactEqualSystemsUptoSaid : Prop := fnExactEqualSystemsUptoRow.holds Try.pinned (OpenSpec.upto fnExactEqualSystemsSpec)

/-- 'laws.FnExactNewSystem', WHERE WHAT IT READS IS OF BULK AT MOST 1048576: true; the input reads as it did. -/
def fnExactNewSystemUptoRow : OpenClaim := { program := "ytdgpbgpapcldeaa", sum := "68210fd9409ed6ee853df77ac720709bf63c02f066a8a97554f56c3b65c0497a", func := "loop.example/g01923/laws.FnExactNewSystem", spec := "fnExactNewSystem", unfollowed := true, recurses := true, apart := false, narrowed := true }
def FnExactNewSystemUptoSaid : Prop := fnExactNewSystemUptoRow.holds Try.pinned (OpenSpec.upto fnExactNewSystemSpec)

end Rows
end Go.Proofs.Ytdgpbgpapcldeaa
