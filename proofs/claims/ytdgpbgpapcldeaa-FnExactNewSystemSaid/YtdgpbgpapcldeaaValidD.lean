/- Valid rules. -/
import Derived.Test.YtdgpbgpapcldeaaValid
set_option linter.unusedVariables false
set_option linter.unusedSimpArgs false
namespace Go.Proofs.Ytdgpbgpapcldeaa
open Go.RowKit Go.Er Go.BigFrame

def testOk (p : Option Int) (t : DTest) : Bool := inR t.feature 0 5 && inR t.threshold 1 1000 && (match p with | none => true | some q => decide (q < t.feature))
def testsOk : Option Int → List DTest → Bool
  | _, [] => true
  | p, t :: ts => testOk p t && testsOk (some t.feature) ts
def ruleOk (r : DRule) : Bool := inR r.tests.length 1 3 && testsOk none r.tests
def rulesOk (l : List DRule) : Bool := l.all ruleOk && inR l.length 1 3
def prevOf (ts : List DTest) : Nat → Option Int
  | 0 => none
  | j + 1 => (ts[j]?).map (·.feature)
theorem tests_step (ts : List DTest) (j : Nat) (h : j < ts.length) : testsOk (prevOf ts j) (ts.drop j) = (testOk (prevOf ts j) ts[j] && testsOk (prevOf ts (j + 1)) (ts.drop (j + 1))) := by
  rw [List.drop_eq_getElem_cons h, testsOk]
  simp [prevOf, h]
theorem prevOf_succ (ts : List DTest) (j : Nat) (h : j < ts.length) : prevOf ts (j + 1) = some ts[j].feature := by simp [prevOf, h]
end Go.Proofs.Ytdgpbgpapcldeaa
