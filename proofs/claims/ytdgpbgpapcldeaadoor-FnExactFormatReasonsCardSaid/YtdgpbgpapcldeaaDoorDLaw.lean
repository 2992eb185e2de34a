/- The shell of a law whose row lists variables; and what the form hands over of them. -/
import Derived.Test.YtdgpbgpapcldeaaDoorLib
import Derived.Test.YtdgpbgpapcldeaaDoorOLib
import Derived.LaidLaws
import Derived.Lib.LaidTab
import Derived.Stop.LaidErr
import Derived.Handed
set_option linter.unusedVariables false
set_option linter.unusedSimpArgs false
namespace Go.Er
open Go.ChangeShapes Go.WideShapes Go.ChangeAt Go.RowKit
section
variable {H : Type} {enc : TypeId × Value → H}
theorem law_lifted_laid {C : Checked} {f : FuncId} {fn : Func} {s : ChangeSpec} {os : Os} {L : List (String × DataW Unit)} (started : os.Started)
    (own : ownKnob C.prog.godebug = none) (laidOut : laidOutB C.prog = true) (noInit : C.prog.inits.idxOf? f = none) (hfn : C.prog.funcs[f]? = some fn)
    (hvars : s.vars = []) (hspec : ∀ ds : List (DataW H), ds.length = fn.params.size → s.fn H ds = { results := [.lit (.bool true)], args := ds })
    {tb : TypeId} (hres : fn.resultTypes = #[tb]) (hb : C.prog.underlying tb = some .bool)
    (hread : ∀ t ∈ fn.params.toList, C.prog.readableRec t = true ∧ t < C.prog.types.size)
    (witness : ∃ (w : World) (tape : Tape) (i : Input), w.os = os ∧ (w.forCall tape i).Shaped C.prog ∧ i.vars = [] ∧ Input.okWide C.prog (w.forCall tape i) .any w.heap.size f i ∧
      ((s.pre enc C.prog fn [] false (w.forCall tape i).memory i.args ∧ laidMet C.prog L (w.forCall tape i).memory) ∧ sizedMet enc C.prog fn (OpenSpec.ofChange s) false (w.forCall tape i).memory i.args) ∧ ({} : Assume).holds C.prog (lone (Frame.enter C.prog f i.args .normal) [] (w.forCall tape i)))
    (walk : ∀ (W : World) (base : Nat) (args : Array Value) (ds : List (DataW H)) (p : List MemPlace),
      (∀ (j : Nat) t v, fn.params[j]? = some t → args[j]? = some v → Value.okWide C.prog W .any base t v) →
      DataW.TrodAll enc C.prog W 0 (fun _ => true) true fn.params.toList args.toList ds p → laidMet C.prog L W →
      Calls C.prog f args W fun e W' => e = .returned (.bool true) ∧ Below W.heap.size W W') :
    ReturnsInHanded {} C os f .any (fun w args => (s.pre enc C.prog fn [] false w args ∧ laidMet C.prog L w) ∧ sizedMet enc C.prog fn (OpenSpec.ofChange s) false w args) (s.post enc C.prog fn false true false false) := by
  refine returnsInHanded_of_change_and (X := fun w _ => laidMet C.prog L w) (fun _ _ _ hh h => h.of_heap hh) own started noInit hfn witness ?_
  intro W base args ds gs before hval hW _ _ hL _
  have hW' := hW
  obtain ⟨p, q, hA, hV, rfl, _, _⟩ := hW
  rw [hvars] at hV
  obtain ⟨rfl, rfl⟩ := trodVars_none hV
  have hlen := (trodAll_length hA).2
  refine (walk W base args ds p hval hA hL).mono fun e W' ⟨he, bel⟩ => ?_
  subst he
  refine ⟨_, rfl, ds, [], p ++ [], [], p, [], hW', ?_, ?_, ?_, bel.frame _, fun h => by cases h⟩
  · rw [hspec (ds ++ []) (by simpa using hlen), hres]
    exact trodAll_mk1 (shut_bool hb _)
  · rw [hspec (ds ++ []) (by simpa using hlen)]
    simpa using trodAll_below laidOut bel hread hA
  · rw [hspec (ds ++ []) (by simpa using hlen), hvars]
    rfl
end
/-- A relation and a plain fact on the datum. -/
def AndR {α : Type} (R : Rel α) (P : α → Prop) : Rel α := fun B w vs x => R B w vs x ∧ P x
theorem RowR.split {α : Type} {k : Nat} {R : Rel α} {P : α → Prop} {B : Nat} {w : World} {a : Option Addr} {l : List α} (h : RowR k (AndR R P) B w a l) : RowR k R B w a l ∧ ∀ x ∈ l, P x := by
  refine ⟨⟨h.1, fun i hi => ?_⟩, fun x hx => ?_⟩
  · obtain ⟨b, o, vs, h1, h2, h3, h4, h5⟩ := h.2 i hi
    exact ⟨b, o, vs, h1, h2, h3, h4, h5.1⟩
  · obtain ⟨i, hi, rfl⟩ := List.mem_iff_getElem.1 hx
    obtain ⟨b, o, vs, _, _, _, _, h5⟩ := h.2 i hi
    exact h5.2
/-- Block i holds these cells. -/
def setBlock (h : Array Obj) (i : Nat) (cs : Array Value) : Array Obj := h.modify i fun
  | .cells _ t frozen => .cells cs t frozen
  | o => o
/-- The cells of an array that reads as this datum. -/
def datCells : DataW Unit → Array Value
  | .agg parts => (parts.map fun | .lit (.int k n) => Value.int k n | _ => undef).toArray
  | _ => #[]
end Go.Er
