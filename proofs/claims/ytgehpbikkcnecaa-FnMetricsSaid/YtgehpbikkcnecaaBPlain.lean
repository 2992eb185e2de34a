/- What the blocks of a partition are: plain lists. -/
import Derived.Test.YtgehpbikkcnecaaBlocks
set_option linter.unusedVariables false
set_option linter.unusedSimpArgs false
namespace Go.Proofs.Ytgehpbikkcnecaa

/-- The numbers below k whose label is j. -/
def rowAt (l : List Int) (j k : Nat) : List Int := ((List.range k).filter (fun i => l.getD i 0 == (j : Int))).map (fun i : Nat => (i : Int))
def rowsUpto (l : List Int) (m k : Nat) : List (List Int) := (List.range m).map (fun j => rowAt l j k)

theorem rowAt_succ (l : List Int) (j k : Nat) : rowAt l j (k + 1) = rowAt l j k ++ if l.getD k 0 == (j : Int) then [(k : Int)] else [] := by
  unfold rowAt
  rw [List.range_succ, List.filter_append, List.map_append]
  congr 1
  by_cases h : (l.getD k 0 == (j : Int)) = true
  · rw [List.filter_cons_of_pos (by exact h), if_pos h]; rfl
  · rw [List.filter_cons_of_neg (by exact h), if_neg h]; rfl
theorem rowsUpto_length (l : List Int) (m k : Nat) : (rowsUpto l m k).length = m := by simp [rowsUpto]
theorem rowsUpto_get (l : List Int) (m k j : Nat) (h : j < m) : (rowsUpto l m k)[j]'(by rw [rowsUpto_length]; exact h) = rowAt l j k := by simp [rowsUpto]

/-- What is known of the labels up to k: they are below m, and each label below m occurs. -/
def Upto (l : List Int) (m k : Nat) : Prop := (∀ i, i < k → 0 ≤ l.getD i 0 ∧ l.getD i 0 < (m : Int)) ∧ ∀ j, j < m → ∃ i, i < k ∧ l.getD i 0 = (j : Int)

theorem rowAt_none {l : List Int} {m k : Nat} (h : Upto l m k) : rowAt l m k = [] := by
  unfold rowAt
  rw [List.map_eq_nil_iff, List.filter_eq_nil_iff]
  intro i hi
  have := (h.1 i (by simpa using hi)).2
  simp only [beq_iff_eq]
  omega

theorem step_old {l : List Int} {m k j : Nat} (h : Upto l m k) (hj : l.getD k 0 = (j : Int)) (hjm : j < m) :
    (rowsUpto l m k).set j ((rowsUpto l m k).getD j [] ++ [(k : Int)]) = rowsUpto l m (k + 1) ∧ Upto l m (k + 1) := by
  constructor
  · apply List.ext_getElem
    · simp [rowsUpto]
    · intro i h1 h2
      have hi : i < m := by simpa [rowsUpto] using h2
      rw [rowsUpto_get l m (k + 1) i hi, rowAt_succ, List.getElem_set, hj]
      by_cases hij : j = i
      · subst hij
        have e : (rowsUpto l m k).getD j [] = rowAt l j k := by
          have h3 : j < (rowsUpto l m k).length := by rw [rowsUpto_length]; exact hi
          rw [List.getD, List.getElem?_eq_getElem h3, Option.getD_some, rowsUpto_get l m k j hi]
        rw [if_pos rfl, e]; simp
      · rw [if_neg hij, rowsUpto_get l m k i hi]
        have : ((j : Int) == (i : Int)) = false := by rw [beq_eq_false_iff_ne]; omega
        simp [this]
  · constructor
    · intro i hi
      by_cases hik : i = k
      · subst hik; rw [hj]; omega
      · exact h.1 i (by omega)
    · intro j2 hj2
      obtain ⟨i, hi, h2⟩ := h.2 j2 hj2
      exact ⟨i, by omega, h2⟩

theorem step_new {l : List Int} {m k : Nat} (h : Upto l m k) (hj : l.getD k 0 = (m : Int)) : rowsUpto l m k ++ [[(k : Int)]] = rowsUpto l (m + 1) (k + 1) ∧ Upto l (m + 1) (k + 1) := by
  constructor
  · have e : rowsUpto l (m + 1) (k + 1) = rowsUpto l m (k + 1) ++ [rowAt l m (k + 1)] := by simp [rowsUpto, List.range_succ]
    rw [e, rowAt_succ, rowAt_none h, hj]
    simp only [beq_self_eq_true, if_true, List.nil_append]
    congr 1
    refine List.ext_getElem (by simp [rowsUpto]) ?_
    · intro i h1 h2
      have hi : i < m := by simpa [rowsUpto] using h2
      rw [rowsUpto_get l m (k + 1) i hi, rowsUpto_get l m k i hi, rowAt_succ, hj]
      have : ((m : Int) == (i : Int)) = false := by rw [beq_eq_false_iff_ne]; omega
      simp [this]
  · constructor
    · intro i hi
      by_cases hik : i = k
      · subst hik; rw [hj]; omega
      · have := h.1 i (by omega); omega
    · intro j2 hj2
      by_cases hjm : j2 = m
      · subst hjm; exact ⟨k, by omega, hj⟩
      · obtain ⟨i, hi, h2⟩ := h.2 j2 (by omega)
        exact ⟨i, by omega, h2⟩

theorem blocksFrom_rows (l : List Int) (n : Int) : ∀ (d k m : Nat), l.length = k + d → Upto l m k → partFrom n (l.drop k) m = true →
    ∃ m', blocksFrom (l.drop k) k (rowsUpto l m k) = rowsUpto l m' l.length ∧ Upto l m' l.length
  | 0, k, m, hd, hU, _ => by
    obtain rfl : k = l.length := by omega
    rw [List.drop_eq_nil_of_le (Nat.le_refl _)]
    exact ⟨m, rfl, hU⟩
  | d + 1, k, m, hd, hU, hp => by
    have hlt : k < l.length := by omega
    have hg : l.getD k 0 = l[k] := by simp [List.getD, hlt]
    rw [List.drop_eq_getElem_cons hlt] at hp ⊢
    simp only [partFrom] at hp
    split at hp
    · rename_i hin
      obtain ⟨h0, h1⟩ := (inR_iff _ _ _).1 hin
      simp only [blocksFrom, rowsUpto_length]
      by_cases he : l[k] = (m : Int)
      · rw [if_pos he]
        have hs := step_new hU (hg.trans he)
        rw [hs.1]
        exact blocksFrom_rows l n d (k + 1) (m + 1) (by omega) hs.2 (by rw [he, if_pos (by omega)] at hp; exact_mod_cast hp)
      · rw [if_neg he]
        have hj : l.getD k 0 = ((l[k].toNat : Nat) : Int) := by rw [hg]; omega
        have hs := step_old hU hj (by omega)
        rw [hs.1]
        exact blocksFrom_rows l n d (k + 1) m (by omega) hs.2 (by rw [if_neg (by omega)] at hp; exact hp)
    · cases hp

theorem blocksOf_rows {l : List Int} (h : isPart l = true) : ∃ m, blocksOf l = rowsUpto l m l.length ∧ Upto l m l.length := by
  have := blocksFrom_rows l l.length l.length 0 0 (by omega) ⟨fun i hi => by omega, fun j hj => by omega⟩ (by simpa [isPart] using h)
  simpa [rowsUpto, blocksOf] using this

theorem mem_rowAt {l : List Int} {j k : Nat} {x : Int} : x ∈ rowAt l j k ↔ ∃ i : Nat, x = (i : Int) ∧ i < k ∧ l.getD i 0 = (j : Int) := by
  unfold rowAt
  simp only [List.mem_map, List.mem_filter, List.mem_range, beq_iff_eq]
  constructor
  · rintro ⟨i, ⟨h1, h2⟩, rfl⟩; exact ⟨i, rfl, h1, h2⟩
  · rintro ⟨i, rfl, h1, h2⟩; exact ⟨i, ⟨h1, h2⟩, rfl⟩

theorem rowAt_inj {l : List Int} {m k i j : Nat} (h : Upto l m k) (hi : i < m) (he : rowAt l i k = rowAt l j k) : i = j := by
  obtain ⟨t, ht, h2⟩ := h.2 i hi
  have h3 : (t : Int) ∈ rowAt l i k := mem_rowAt.2 ⟨t, rfl, ht, h2⟩
  rw [he] at h3
  obtain ⟨t', h4, _, h5⟩ := mem_rowAt.1 h3
  obtain rfl : t = t' := by omega
  omega

theorem blocksOf_nodup {l : List Int} (h : isPart l = true) : (blocksOf l).Nodup := by
  obtain ⟨m, hb, hU⟩ := blocksOf_rows h
  rw [hb]
  unfold rowsUpto
  rw [List.nodup_iff_pairwise_ne, List.pairwise_map]
  refine List.Pairwise.imp_of_mem ?_ (List.nodup_iff_pairwise_ne.1 List.nodup_range)
  intro i j hi hj hij he
  exact hij (rowAt_inj hU (by simpa using hi) he)

theorem rowAt_length (l : List Int) (j k : Nat) : (rowAt l j k).length ≤ k := by
  unfold rowAt
  rw [List.length_map]
  exact Nat.le_trans (List.length_filter_le _ _) (by simp)
theorem blocksOf_row_length {l : List Int} (h : isPart l = true) : ∀ r ∈ blocksOf l, r.length ≤ l.length := by
  obtain ⟨m, hb, _⟩ := blocksOf_rows h
  rw [hb]
  intro r hr
  obtain ⟨j, _, rfl⟩ := List.mem_map.1 hr
  exact rowAt_length _ _ _
theorem partFrom_max (n : Int) : ∀ (l : List Int) (m : Int), partFrom n l m = true → ∀ x ∈ l, x < m + l.length := by
  intro l m h x hx
  have := partFrom_bound n l m h x hx
  omega
theorem blocksOf_length {l : List Int} (h : isPart l = true) : (blocksOf l).length ≤ l.length := by
  obtain ⟨m, hb, hU⟩ := blocksOf_rows h
  rw [hb, rowsUpto_length]
  by_cases hm : m = 0
  · omega
  · obtain ⟨i, hi, h2⟩ := hU.2 (m - 1) (by omega)
    have hg : l.getD i 0 = l[i] := by simp [List.getD, hi]
    have := partFrom_bound l.length l 0 h l[i] (List.getElem_mem hi)
    omega
end Go.Proofs.Ytgehpbikkcnecaa
