/- The table of best values: plain. -/
import Derived.Test.YtgehpbikkcnecaaIsOv
set_option linter.unusedVariables false
set_option linter.unusedSimpArgs false
namespace Go.Proofs.Ytgehpbikkcnecaa

/-- A table as a function. -/
def tabF (m n : Nat) (f : Nat → Nat → Int) : List (List Int) := (List.range m).map (fun r => (List.range n).map (f r))
def upd (f : Nat → Nat → Int) (i t : Nat) (c : Int) : Nat → Nat → Int := fun r u => if r = i ∧ u = t then c else f r u
theorem tabF_length (m n : Nat) (f : Nat → Nat → Int) : (tabF m n f).length = m := by simp [tabF]
theorem tabF_get (m n : Nat) (f : Nat → Nat → Int) (i : Nat) (h : i < m) : (tabF m n f)[i]'(by rw [tabF_length]; exact h) = (List.range n).map (f i) := by simp [tabF]
theorem row_get (n : Nat) (g : Nat → Int) (t : Nat) (h : t < n) : ((List.range n).map g)[t]'(by simpa using h) = g t := by simp
theorem tabF_set (m n : Nat) (f : Nat → Nat → Int) (i t : Nat) (c : Int) (hi : i < m) : (tabF m n f).set i (((List.range n).map (f i)).set t c) = tabF m n (upd f i t c) := by
  refine List.ext_getElem (by simp [tabF]) ?_
  intro r h1 h2
  have hr : r < m := by simpa [tabF] using h2
  rw [tabF_get m n _ r hr, List.getElem_set]
  by_cases hri : i = r
  · rw [if_pos hri]
    subst hri
    refine List.ext_getElem (by simp) ?_
    intro u h3 h4
    rw [List.getElem_set]
    by_cases hut : t = u
    · subst hut; rw [if_pos rfl]; simp [upd]
    · rw [if_neg hut]
      have : ¬ (u = t) := fun h => hut h.symm
      simp [upd, this]
  · rw [if_neg hri, tabF_get m n f r hr]
    have : ¬ (r = i) := fun h => hri h.symm
    refine List.ext_getElem (by simp) ?_
    intro u h3 h4
    simp [upd, this]
theorem upd_same (f : Nat → Nat → Int) (i t : Nat) (c : Int) : upd f i t c i t = c := by simp [upd]
theorem upd_row (f : Nat → Nat → Int) (i t : Nat) (c : Int) (r u : Nat) (h : r ≠ i) : upd f i t c r u = f r u := by simp [upd, h]
theorem upd_col (f : Nat → Nat → Int) (i t : Nat) (c : Int) (r u : Nat) (h : u ≠ t) : upd f i t c r u = f r u := by simp [upd, h]

def mx (a b : Int) : Int := if a < b then b else a
/-- The best of one row: the columns from k on, those that u holds are taken. -/
def rowBest (g : Nat → Int) : List Int → Nat → Nat → Int → Int
  | [], _, _, acc => acc
  | x :: xs, k, u, acc => rowBest g xs (k + 1) u (if 0 < x ∧ u.testBit k = false then mx acc (x + g (u ||| 2 ^ k)) else acc)
def bestV : List (List Int) → Nat → Int
  | [], _ => 0
  | row :: rest, u => rowBest (bestV rest) row 0 u (bestV rest u)

theorem rowBest_bound (g : Nat → Int) (B : Int) (hg : ∀ u, 0 ≤ g u ∧ g u ≤ B) : ∀ (row : List Int) (k u : Nat) (acc : Int), (∀ x ∈ row, x ≤ 100) → 0 ≤ acc → acc ≤ B + 100 → 0 ≤ rowBest g row k u acc ∧ rowBest g row k u acc ≤ B + 100
  | [], _, _, acc, _, h1, h2 => ⟨h1, h2⟩
  | x :: xs, k, u, acc, hx, h1, h2 => by
    have hxx := hx x (by simp)
    have hgu := hg (u ||| 2 ^ k)
    refine rowBest_bound g B hg xs (k + 1) u _ (fun y hy => hx y (by simp [hy])) ?_ ?_
    · split
      · unfold mx; split <;> omega
      · exact h1
    · split
      · unfold mx; split <;> omega
      · exact h2
theorem bestV_bound : ∀ (M : List (List Int)), (∀ r ∈ M, ∀ x ∈ r, x ≤ 100) → ∀ u, 0 ≤ bestV M u ∧ bestV M u ≤ 100 * M.length
  | [], _, _ => by simp [bestV]
  | row :: rest, h, u => by
    have ih := bestV_bound rest (fun r hr => h r (by simp [hr]))
    have hu := ih u
    have := rowBest_bound (bestV rest) (100 * rest.length) ih row 0 u (bestV rest u) (h row (by simp)) hu.1 (by omega)
    simp only [bestV, List.length_cons]
    omega
end Go.Proofs.Ytgehpbikkcnecaa
