/- The best value is the greatest weight of a matching. -/
import Derived.Test.YtgehpbikkcnecaaBestPlain
set_option linter.unusedVariables false
set_option linter.unusedSimpArgs false
namespace Go.Proofs.Ytgehpbikkcnecaa

theorem mx_left (a b : Int) : a ≤ mx a b := by unfold mx; split <;> omega
theorem mx_right (a b : Int) : b ≤ mx a b := by unfold mx; split <;> omega
theorem mx_or (a b : Int) : mx a b = a ∨ mx a b = b := by unfold mx; split <;> simp
theorem rowBest_ge (g : Nat → Int) : ∀ (row : List Int) (k u : Nat) (acc : Int), acc ≤ rowBest g row k u acc
  | [], _, _, _ => Int.le_refl _
  | x :: xs, k, u, acc => by
    simp only [rowBest]
    refine Int.le_trans ?_ (rowBest_ge g xs (k + 1) u _)
    split
    · exact mx_left _ _
    · exact Int.le_refl _
theorem rowBest_at (g : Nat → Int) : ∀ (row : List Int) (k u : Nat) (acc : Int) (j : Nat) (h : j < row.length), 0 < row[j] → u.testBit (k + j) = false → row[j] + g (u ||| 2 ^ (k + j)) ≤ rowBest g row k u acc
  | x :: xs, k, u, acc, 0, h, h1, h2 => by
    simp only [rowBest]
    refine Int.le_trans ?_ (rowBest_ge g xs (k + 1) u _)
    rw [if_pos ⟨h1, h2⟩]
    exact mx_right _ _
  | x :: xs, k, u, acc, j + 1, h, h1, h2 => by
    simp only [rowBest]
    have e : k + (j + 1) = k + 1 + j := by omega
    rw [e] at h2 ⊢
    exact rowBest_at g xs (k + 1) u _ j (by simpa using h) (by simpa using h1) h2
theorem rowBest_or (g : Nat → Int) : ∀ (row : List Int) (k u : Nat) (acc : Int), rowBest g row k u acc = acc ∨ ∃ j, ∃ h : j < row.length, 0 < row[j] ∧ u.testBit (k + j) = false ∧ rowBest g row k u acc = row[j] + g (u ||| 2 ^ (k + j))
  | [], _, _, _ => Or.inl rfl
  | x :: xs, k, u, acc => by
    simp only [rowBest]
    rcases rowBest_or g xs (k + 1) u (if 0 < x ∧ u.testBit k = false then mx acc (x + g (u ||| 2 ^ k)) else acc) with h | ⟨j, hj, h1, h2, h3⟩
    · rw [h]
      split
      · rename_i hx
        rcases mx_or acc (x + g (u ||| 2 ^ k)) with h4 | h4
        · exact Or.inl h4
        · exact Or.inr ⟨0, by simp, hx.1, hx.2, h4⟩
      · exact Or.inl rfl
    · have e : k + 1 + j = k + (j + 1) := by omega
      rw [e] at h2 h3
      exact Or.inr ⟨j + 1, by simpa using hj, by simpa using h1, h2, by simpa using h3⟩

/-- The entry in row i, column j. -/
def ent (M : List (List Int)) (i j : Nat) : Int := (M.getD i []).getD j 0
/-- Pairs of a row and a column, no row and no column twice; no column that u holds. -/
structure Mtc (m n u : Nat) (P : List (Nat × Nat)) : Prop where
  fst : (P.map Prod.fst).Nodup
  snd : (P.map Prod.snd).Nodup
  lt : ∀ p ∈ P, p.1 < m ∧ p.2 < n ∧ u.testBit p.2 = false
def wt (M : List (List Int)) (P : List (Nat × Nat)) : Int := (P.map (fun p => ent M p.1 p.2)).sum
def upr (p : Nat × Nat) : Nat × Nat := (p.1 + 1, p.2)
theorem wt_up (row : List Int) (M : List (List Int)) (P : List (Nat × Nat)) : wt (row :: M) (P.map upr) = wt M P := by
  simp [wt, ent, upr, Function.comp_def, List.getD]
theorem fst_up (P : List (Nat × Nat)) : (P.map upr).map Prod.fst = (P.map Prod.fst).map (· + 1) := by simp [upr, Function.comp_def]
theorem snd_up (P : List (Nat × Nat)) : (P.map upr).map Prod.snd = P.map Prod.snd := by simp [upr, Function.comp_def]
theorem testBit_or_pow (u k j : Nat) : (u ||| 2 ^ k).testBit j = (u.testBit j || decide (k = j)) := by
  rw [Nat.testBit_or, Nat.testBit_two_pow]

/-- There is a matching of that weight. -/
theorem bestV_match (n : Nat) : ∀ (M : List (List Int)), (∀ r ∈ M, r.length = n) → ∀ u, ∃ P, Mtc M.length n u P ∧ wt M P = bestV M u
  | [], _, u => ⟨[], ⟨by simp, by simp, by simp⟩, rfl⟩
  | row :: rest, h, u => by
    have hr : row.length = n := h row (by simp)
    have ih := bestV_match n rest (fun r hr => h r (by simp [hr]))
    rcases rowBest_or (bestV rest) row 0 u (bestV rest u) with h1 | ⟨j, hj, h1, h2, h3⟩
    · obtain ⟨P, hP, hw⟩ := ih u
      refine ⟨P.map upr, ⟨?_, ?_, ?_⟩, ?_⟩
      · rw [fst_up]; exact List.Pairwise.map _ (fun a b hab => by omega) hP.fst
      · rw [snd_up]; exact hP.snd
      · intro p hp
        obtain ⟨q, hq, rfl⟩ := List.mem_map.1 hp
        have := hP.lt q hq
        exact ⟨by simp only [upr, List.length_cons]; omega, this.2.1, this.2.2⟩
      · rw [wt_up, hw]; exact h1.symm
    · rw [Nat.zero_add] at h2 h3
      obtain ⟨P, hP, hw⟩ := ih (u ||| 2 ^ j)
      refine ⟨(0, j) :: P.map upr, ⟨?_, ?_, ?_⟩, ?_⟩
      · rw [List.map_cons, List.nodup_cons, fst_up]
        refine ⟨?_, List.Pairwise.map _ (fun a b hab => by omega) hP.fst⟩
        intro hm
        obtain ⟨q, _, hq⟩ := List.mem_map.1 hm
        simp at hq
      · rw [List.map_cons, List.nodup_cons, snd_up]
        refine ⟨?_, hP.snd⟩
        intro hm
        obtain ⟨q, hq, hqj⟩ := List.mem_map.1 hm
        have := (hP.lt q hq).2.2
        rw [testBit_or_pow, hqj] at this
        simp at this
      · intro p hp
        rcases List.mem_cons.1 hp with rfl | hp
        · exact ⟨by simp, by rw [← hr]; exact hj, h2⟩
        · obtain ⟨q, hq, rfl⟩ := List.mem_map.1 hp
          have := hP.lt q hq
          rw [testBit_or_pow] at this
          simp only [Bool.or_eq_false_iff] at this
          exact ⟨by simp only [upr, List.length_cons]; omega, this.2.1, this.2.2.1⟩
      · have e : wt (row :: rest) ((0, j) :: P.map upr) = row[j] + wt (row :: rest) (P.map upr) := by
          simp [wt, ent, List.getD, hj]
        rw [e, wt_up, hw]
        exact h3.symm

theorem down (m n u : Nat) : ∀ (P : List (Nat × Nat)), Mtc (m + 1) n u P → (∀ p ∈ P, p.1 ≠ 0) → ∃ Q, P = Q.map upr ∧ Mtc m n u Q := by
  intro P hP h0
  refine ⟨P.map (fun p => (p.1 - 1, p.2)), ?_, ?_⟩
  · rw [List.map_map]
    refine (List.map_id P).symm.trans (List.map_congr_left ?_)
    intro p hp
    have := h0 p hp
    have e : p.1 - 1 + 1 = p.1 := by omega
    simp [upr, e]
  · refine ⟨?_, ?_, ?_⟩
    · rw [List.map_map]
      have h := hP.fst
      unfold List.Nodup at h ⊢
      rw [List.pairwise_map] at h ⊢
      refine List.Pairwise.imp_of_mem ?_ h
      intro a b ha hb hab
      have := h0 a ha; have := h0 b hb
      simp only [Function.comp_apply]
      omega
    · rw [List.map_map]; exact hP.snd
    · intro p hp
      obtain ⟨q, hq, rfl⟩ := List.mem_map.1 hp
      have := hP.lt q hq; have := h0 q hq
      exact ⟨by simp only; omega, by simp only; omega, (hP.lt q hq).2.2⟩
theorem Mtc.perm {m n u : Nat} {P Q : List (Nat × Nat)} (h : Mtc m n u P) (p : P.Perm Q) : Mtc m n u Q :=
  ⟨(p.map _).nodup_iff.1 h.fst, (p.map _).nodup_iff.1 h.snd, fun x hx => h.lt x (p.mem_iff.2 hx)⟩
theorem sum_perm {P Q : List Int} (p : P.Perm Q) : P.sum = Q.sum := by
  induction p with
  | nil => rfl
  | cons x _ ih => simp [ih]
  | swap x y l => simp only [List.sum_cons]; omega
  | trans _ _ h1 h2 => exact h1.trans h2
theorem wt_perm (M : List (List Int)) {P Q : List (Nat × Nat)} (p : P.Perm Q) : wt M P = wt M Q := by
  unfold wt
  exact sum_perm (p.map _)

/-- No matching is heavier. -/
theorem match_le (n : Nat) : ∀ (M : List (List Int)), (∀ r ∈ M, r.length = n) → ∀ u P, Mtc M.length n u P → wt M P ≤ bestV M u
  | [], _, u, P, hP => by
    cases P with
    | nil => exact Int.le_refl _
    | cons p ps => have := (hP.lt p (by simp)).1; simp at this
  | row :: rest, h, u, P, hP => by
    have hr : row.length = n := h row (by simp)
    have ih := match_le n rest (fun r hr => h r (by simp [hr]))
    by_cases h0 : ∃ p ∈ P, p.1 = 0
    · obtain ⟨⟨i, j⟩, hp, hi⟩ := h0
      simp only at hi
      subst hi
      have hperm := List.perm_cons_erase hp
      have hQ := hP.perm hperm
      rw [wt_perm _ hperm]
      generalize P.erase (0, j) = R at *
      have hf := hQ.fst; have hs := hQ.snd
      rw [List.map_cons, List.nodup_cons] at hf hs
      have hj := hQ.lt (0, j) (by simp)
      simp only at hj
      have hjr : j < row.length := by omega
      have hR0 : ∀ p ∈ R, p.1 ≠ 0 := fun p hp h0 => hf.1 (List.mem_map.2 ⟨p, hp, h0⟩)
      have hRj : ∀ p ∈ R, p.2 ≠ j := fun p hp h0 => hs.1 (List.mem_map.2 ⟨p, hp, h0⟩)
      have hR : Mtc (rest.length + 1) n u R := ⟨hf.2, hs.2, fun p hp => hQ.lt p (by simp [hp])⟩
      obtain ⟨Q, rfl, hQ2⟩ := down _ _ _ R hR hR0
      have e : wt (row :: rest) ((0, j) :: Q.map upr) = row[j] + wt (row :: rest) (Q.map upr) := by
        simp [wt, ent, List.getD, hjr]
      rw [e, wt_up]
      by_cases hpos : 0 < row[j]
      · have h5 : Mtc rest.length n (u ||| 2 ^ j) Q := by
          refine ⟨hQ2.fst, hQ2.snd, fun p hp => ⟨(hQ2.lt p hp).1, (hQ2.lt p hp).2.1, ?_⟩⟩
          have h6 := hRj (upr p) (List.mem_map.2 ⟨p, hp, rfl⟩)
          simp only [upr] at h6
          rw [testBit_or_pow, (hQ2.lt p hp).2.2]
          simp only [Bool.false_or, decide_eq_false_iff_not]
          exact fun h7 => h6 h7.symm
        have h7 := ih _ Q h5
        have h8 := rowBest_at (bestV rest) row 0 u (bestV rest u) j hjr hpos (by rw [Nat.zero_add]; exact hj.2.2)
        rw [Nat.zero_add] at h8
        simp only [bestV]
        omega
      · have h7 := ih _ Q hQ2
        have h8 := rowBest_ge (bestV rest) row 0 u (bestV rest u)
        simp only [bestV]
        omega
    · obtain ⟨Q, rfl, hQ2⟩ := down _ _ _ P hP (fun p hp h1 => h0 ⟨p, hp, h1⟩)
      rw [wt_up]
      refine Int.le_trans (ih _ Q hQ2) ?_
      exact rowBest_ge (bestV rest) row 0 u (bestV rest u)

/-- The best value of a table and of the table turned over are the same. -/
theorem bestV_swap (m n : Nat) (M M' : List (List Int)) (hm : M.length = m) (hn : M'.length = n) (h : ∀ r ∈ M, r.length = n) (h' : ∀ r ∈ M', r.length = m)
    (he : ∀ i j, i < m → j < n → ent M i j = ent M' j i) : bestV M 0 = bestV M' 0 := by
  have key : ∀ (m n : Nat) (M M' : List (List Int)), M.length = m → M'.length = n → (∀ r ∈ M, r.length = n) → (∀ r ∈ M', r.length = m) → (∀ i j, i < m → j < n → ent M i j = ent M' j i) → bestV M 0 ≤ bestV M' 0 := by
    intro m n M M' hm hn h h' he
    obtain ⟨P, hP, hw⟩ := bestV_match n M h 0
    rw [← hw]
    have hS : Mtc M'.length m 0 (P.map Prod.swap) := by
      refine ⟨?_, ?_, ?_⟩
      · rw [List.map_map]; exact hP.snd
      · rw [List.map_map]; exact hP.fst
      · intro p hp
        obtain ⟨q, hq, rfl⟩ := List.mem_map.1 hp
        have := hP.lt q hq
        exact ⟨by simp only [Prod.fst_swap]; omega, by simp only [Prod.snd_swap]; omega, by simp⟩
    refine Int.le_trans (Int.le_of_eq ?_) (match_le m M' h' 0 _ hS)
    unfold wt
    rw [List.map_map]
    refine congrArg List.sum (List.map_congr_left ?_)
    intro p hp
    have := hP.lt p hp
    exact he p.1 p.2 (by omega) this.2.1
  exact Int.le_antisymm (key m n M M' hm hn h h' he) (key n m M' M hn hm h' h (fun i j hi hj => (he j i hj hi).symm))
end Go.Proofs.Ytgehpbikkcnecaa
