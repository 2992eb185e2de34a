/- Slices of slices: read, and made by the call itself. -/
import Derived.Test.YtdgpbgpapcldeaaLib
set_option linter.unusedVariables false
set_option linter.unusedSimpArgs false
namespace Go.Er
open Go.RowKit

/-- A function with a body is entered. -/
theorem callFunc_run {P : Program} {F : FuncId} {fn : Func} (h : P.funcs[F]? = some fn) (h1 : (fn.name == "runtime.NumGoroutine") = false) (h2 : fn.body.isNone = false) (args : Array Value) (w : World) :
    (callFunc F args).run P w = .ok (.enter F args) w := by
  have h1' : ¬ fn.name = "runtime.NumGoroutine" := by simpa using h1
  have h2' : ¬ fn.body = none := by
    intro h3; rw [h3] at h2; cases h2
  simp [callFunc, h, h1', h2']

/-- From the address a on lie slices, which read as the lists of integers L. -/
def IntRows (w : World) (a : Option Addr) (L : List (List Int)) : Prop :=
  ∀ i, (h : i < L.length) → ∃ b o ai ci, a = some ⟨b, o, none⟩ ∧ w.cell? ⟨b, o + i, none⟩ = some (.slice ai L[i].length ci) ∧ Ints w ai L[i]
theorem IntRows.ext {w w' : World} {a : Option Addr} {L : List (List Int)} (h : IntRows w a L) (e : Ext w w') : IntRows w' a L := by
  intro i hi
  obtain ⟨b, o, ai, ci, h1, h2, h3⟩ := h i hi
  exact ⟨b, o, ai, ci, h1, e.at h2, h3.ext e⟩

theorem Own1.setOther {w : World} {B : Nat} {e : TypeId} {v : Value} {cs : List Value} (h : Own1 w B e v cs) {b j : Nat} (hne : v.ownBlock ≠ some b) (u : Value) : Own1 (w.setCell ⟨b, j, none⟩ u) B e v cs := by
  refine ⟨h.1, ?_⟩
  rcases h.2 with h2 | ⟨g, cap, cur, rfl, hg, hh, r⟩
  · exact Or.inl h2
  · refine Or.inr ⟨g, cap, cur, rfl, hg, ?_, r⟩
    rw [heap_setCell_other w ⟨b, j, none⟩ g u (fun e => hne (by simp only [Value.ownBlock]; rw [e]))]
    exact hh

theorem Own1.shape {w : World} {B : Nat} {e : TypeId} {v : Value} {cs : List Value} (h : Own1 w B e v cs) (hne : 0 < cs.length) : ∃ g cap, v = .slice (some ⟨g, 0, none⟩) cs.length cap := by
  rcases h.2 with ⟨_, hn⟩ | ⟨g, cap, cur, rfl, _⟩
  · omega
  · exact ⟨g, cap, rfl⟩
theorem Apart.nil (v : Value) : Apart (.slice none 0 0) v := fun b h => by simp [Value.ownBlock] at h

/-- The slice v owns a row of slices, each of which owns its row; all these rows lie apart. -/
def Own2 (w : World) (B : Nat) (e2 e1 : TypeId) (v : Value) (vs : List Value) (L : List (List Value)) : Prop :=
  Own1 w B e2 v vs ∧ vs.length = L.length ∧ (∀ i, (h : i < vs.length) → (h' : i < L.length) → Own1 w B e1 vs[i] L[i] ∧ Apart vs[i] v) ∧
    ∀ i j, (h : i < vs.length) → (h' : j < vs.length) → i ≠ j → Apart vs[i] vs[j]

theorem Own2.ext {w w' : World} {B : Nat} {e2 e1 : TypeId} {v : Value} {vs : List Value} {L : List (List Value)} (h : Own2 w B e2 e1 v vs L) (hE : Ext w w') : Own2 w' B e2 e1 v vs L :=
  ⟨h.1.ext hE, h.2.1, fun i h1 h2 => ⟨(h.2.2.1 i h1 h2).1.ext hE, (h.2.2.1 i h1 h2).2⟩, h.2.2.2⟩
theorem Own2.mono {w : World} {B B' : Nat} {e2 e1 : TypeId} {v : Value} {vs : List Value} {L : List (List Value)} (h : Own2 w B e2 e1 v vs L) (hB : B' ≤ B) : Own2 w B' e2 e1 v vs L :=
  ⟨h.1.mono hB, h.2.1, fun i h1 h2 => ⟨(h.2.2.1 i h1 h2).1.mono hB, (h.2.2.1 i h1 h2).2⟩, h.2.2.2⟩
theorem Own2.empty {w : World} {B : Nat} {e2 e1 : TypeId} {v : Value} (h : Own1 w B e2 v []) : Own2 w B e2 e1 v [] [] :=
  ⟨h, rfl, fun i h1 _ => by simp at h1, fun i j h1 _ _ => by simp at h1⟩

/-- What is read of it. -/
theorem Own2.rows {w : World} {B : Nat} {e2 e1 : TypeId} {v : Value} {vs : List Value} {L : List (List Int)} (h : Own2 w B e2 e1 v vs (L.map (·.map (.int .i64)))) :
    ∃ a cap, v = .slice a L.length cap ∧ IntRows w a L := by
  obtain ⟨a, cap, rfl, hc, _⟩ := h.1.slice
  have hlen : vs.length = L.length := by simpa using h.2.1
  refine ⟨a, cap, by rw [hlen], ?_⟩
  intro i hi
  obtain ⟨b, o, h1, h2⟩ := hc i (by omega)
  have h5 := (h.2.2.1 i (by omega) (by simpa using hi)).1
  rw [List.getElem_map] at h5
  obtain ⟨ai, ci, h3, h4⟩ := Own1.ints h5
  exact ⟨b, o, ai, ci, h1, by rw [h2, h3], h4⟩

/-- Behind append(out, x), x a slice that owns its row apart from all others. -/
theorem Own2.push {w w' : World} {B : Nat} {e2 e1 : TypeId} {v v' : Value} {vs : List Value} {L : List (List Value)} {u : Value} {cs : List Value} (h : Own2 w B e2 e1 v vs L)
    (hu : Own1 w B e1 u cs) (huv : Apart u v) (hus : ∀ i, (hi : i < vs.length) → Apart u vs[i])
    (hv' : Own1 w' B e2 v' (vs ++ [u])) (hg : w.grownBy w' v.ownBlock) (hb : (v'.ownBlock = v.ownBlock ∧ v.ownBlock ≠ none) ∨ v'.ownBlock = some w.heap.size) :
    Own2 w' B e2 e1 v' (vs ++ [u]) (L ++ [cs]) := by
  obtain ⟨h1, h2, h3, h4⟩ := h
  have hbu := hu.beside huv.symm hg hb
  refine ⟨hv', by simp [h2], ?_, ?_⟩
  · intro i hi hi'
    simp only [List.length_append, List.length_cons, List.length_nil] at hi hi'
    by_cases hlt : i < vs.length
    · have := h3 i hlt (by omega)
      have hbi := this.1.beside this.2.symm hg hb
      simp only [List.getElem_append_left hlt, List.getElem_append_left (show i < L.length by omega)]
      exact ⟨hbi.1, hbi.2.symm⟩
    · have e1 : (vs ++ [u])[i]'(by simp; omega) = u := by rw [List.getElem_append_right (by omega)]; simp
      have e2 : (L ++ [cs])[i]'(by simp; omega) = cs := by rw [List.getElem_append_right (by omega)]; simp
      rw [e1, e2]
      exact ⟨hbu.1, hbu.2.symm⟩
  · intro i j hi hj hne
    simp only [List.length_append, List.length_cons, List.length_nil] at hi hj
    by_cases hli : i < vs.length
    · by_cases hlj : j < vs.length
      · simp only [List.getElem_append_left hli, List.getElem_append_left hlj]; exact h4 i j hli hlj hne
      · obtain rfl : j = vs.length := by omega
        simp only [List.getElem_append_left hli, List.getElem_append_right (Nat.le_refl _), Nat.sub_self]
        exact (hus i hli).symm
    · obtain rfl : i = vs.length := by omega
      have hlj : j < vs.length := by omega
      simp only [List.getElem_append_left hlj, List.getElem_append_right (Nat.le_refl _), Nat.sub_self]
      exact hus j hlj

/-- Behind 'x := append(out[k], u)' and 'out[k] = x'. -/
theorem Own2.put {w w' w0 : World} {e2 e1 : TypeId} {b n cap k : Nat} {vs : List Value} {L : List (List Value)} {x : Value} {cs : List Value} (h : Own2 w w0.heap.size e2 e1 (.slice (some ⟨b, 0, none⟩) n cap) vs L) (hE : Ext w0 w')
    (hk : k < vs.length) (hx : Own1 w' w0.heap.size e1 x cs) (hg : w.grownBy w' vs[k].ownBlock) (hb : (x.ownBlock = vs[k].ownBlock ∧ vs[k].ownBlock ≠ none) ∨ x.ownBlock = some w.heap.size) :
    Own2 (w'.setCell ⟨b, k, none⟩ x) w0.heap.size e2 e1 (.slice (some ⟨b, 0, none⟩) n cap) (vs.set k x) (L.set k cs) ∧ Ext w0 (w'.setCell ⟨b, k, none⟩ x) := by
  obtain ⟨h1, h2, h3, h4⟩ := h
  have hkv := (h3 k hk (by omega)).2
  have hv := h1.beside hkv hg hb
  have hset := hv.1.set hE k x
  have hne : ∀ y : Value, Apart y (.slice (some ⟨b, 0, none⟩) n cap) → y.ownBlock ≠ some b := fun y hy hyb => hy b hyb rfl
  refine ⟨⟨hset.1, by simp [h2], ?_, ?_⟩, hset.2⟩
  · intro i hi hi'
    have hi2 : i < vs.length := by simpa using hi
    have hi3 : i < L.length := by simpa using hi'
    rw [List.getElem_set, List.getElem_set]
    by_cases hik : k = i
    · rw [if_pos hik, if_pos hik]
      exact ⟨hx.setOther (hne _ hv.2) x, hv.2⟩
    · rw [if_neg hik, if_neg hik]
      have := h3 i hi2 hi3
      have hbi := this.1.beside (h4 k i hk hi2 hik) hg hb
      exact ⟨hbi.1.setOther (hne _ this.2) x, this.2⟩
  · intro i j hi hj hne2
    have hi2 : i < vs.length := by simpa using hi
    have hj2 : j < vs.length := by simpa using hj
    rw [List.getElem_set, List.getElem_set]
    by_cases hik : k = i
    · rw [if_pos hik, if_neg (by omega)]
      subst hik
      exact ((h3 j hj2 (by omega)).1.beside (h4 k j hk hj2 hne2) hg hb).2
    · rw [if_neg hik]
      by_cases hjk : k = j
      · rw [if_pos hjk]
        subst hjk
        exact ((h3 i hi2 (by omega)).1.beside (h4 k i hk hi2 (Ne.symm hne2)) hg hb).2.symm
      · rw [if_neg hjk]
        exact h4 i j hi2 hj2 hne2
end Go.Er
