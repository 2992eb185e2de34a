/- Slices of slices: an element replaced, an element of an element set. -/
import Derived.Test.YtgehpbikkcnecaaRows2
set_option linter.unusedVariables false
set_option linter.unusedSimpArgs false
namespace Go.Er
open Go.RowKit

/-- Behind 'out[k] = u', u a slice of the call's own that lies apart from all of out's. -/
theorem Own2.replace {w w0 : World} {e2 e1 : TypeId} {b n cap k : Nat} {vs : List Value} {L : List (List Value)} {u : Value} {cs : List Value} (h : Own2 w w0.heap.size e2 e1 (.slice (some ⟨b, 0, none⟩) n cap) vs L) (hE : Ext w0 w)
    (hk : k < vs.length) (hu : Own1 w w0.heap.size e1 u cs) (huv : Apart u (.slice (some ⟨b, 0, none⟩) n cap)) (hus : ∀ i, (hi : i < vs.length) → Apart u vs[i]) :
    Own2 (w.setCell ⟨b, k, none⟩ u) w0.heap.size e2 e1 (.slice (some ⟨b, 0, none⟩) n cap) (vs.set k u) (L.set k cs) ∧ Ext w0 (w.setCell ⟨b, k, none⟩ u) := by
  obtain ⟨h1, h2, h3, h4⟩ := h
  have hset := h1.set hE k u
  have hne : ∀ y : Value, Apart y (.slice (some ⟨b, 0, none⟩) n cap) → y.ownBlock ≠ some b := fun y hy hyb => hy b hyb rfl
  refine ⟨⟨hset.1, by simp [h2], ?_, ?_⟩, hset.2⟩
  · intro i hi hi'
    have hi2 : i < vs.length := by simpa using hi
    have hi3 : i < L.length := by simpa using hi'
    rw [List.getElem_set, List.getElem_set]
    by_cases hik : k = i
    · rw [if_pos hik, if_pos hik]
      exact ⟨hu.setOther (hne _ huv) u, huv⟩
    · rw [if_neg hik, if_neg hik]
      have := h3 i hi2 hi3
      exact ⟨this.1.setOther (hne _ this.2) u, this.2⟩
  · intro i j hi hj hne2
    have hi2 : i < vs.length := by simpa using hi
    have hj2 : j < vs.length := by simpa using hj
    rw [List.getElem_set, List.getElem_set]
    by_cases hik : k = i
    · rw [if_pos hik, if_neg (by omega)]
      exact hus j hj2
    · rw [if_neg hik]
      by_cases hjk : k = j
      · rw [if_pos hjk]; exact (hus i hi2).symm
      · rw [if_neg hjk]; exact h4 i j hi2 hj2 hne2

/-- Behind 'out[k][t] = u'. -/
theorem Own2.setIn {w w0 : World} {e2 e1 : TypeId} {v : Value} {g n cap k t : Nat} {vs : List Value} {L : List (List Value)} (h : Own2 w w0.heap.size e2 e1 v vs L) (hE : Ext w0 w)
    (hk : k < vs.length) (hkL : k < L.length) (hy : vs[k] = .slice (some ⟨g, 0, none⟩) n cap) (u : Value) :
    Own2 (w.setCell ⟨g, t, none⟩ u) w0.heap.size e2 e1 v vs (L.set k (L[k].set t u)) ∧ Ext w0 (w.setCell ⟨g, t, none⟩ u) := by
  obtain ⟨h1, h2, h3, h4⟩ := h
  have hkk := h3 k hk hkL
  rw [hy] at hkk
  have hset := hkk.1.set hE t u
  have hvg : v.ownBlock ≠ some g := fun hv => hkk.2 g rfl hv
  refine ⟨⟨h1.setOther hvg u, by simp [h2], ?_, h4⟩, hset.2⟩
  intro i hi hi'
  have hi3 : i < L.length := by simpa using hi'
  rw [List.getElem_set]
  by_cases hik : k = i
  · subst hik
    rw [if_pos rfl, hy]
    exact ⟨hset.1, hkk.2⟩
  · rw [if_neg hik]
    have := h3 i hi hi3
    refine ⟨this.1.setOther ?_ u, this.2⟩
    intro hb
    have hap := h4 k i hk hi hik
    rw [hy] at hap
    exact hap g rfl hb
end Go.Er
