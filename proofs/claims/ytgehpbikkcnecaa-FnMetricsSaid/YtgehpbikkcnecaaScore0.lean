/- The FScore lies between the precision and the recall; equal partitions have the score 1000. -/
import Derived.Test.YtgehpbikkcnecaaScore
import Derived.Test.YtgehpbikkcnecaaPairs
set_option linter.unusedVariables false
set_option linter.unusedSimpArgs false
namespace Go.Proofs.Ytgehpbikkcnecaa

theorem quot_mid (b f t : Int) (hb : 0 ≤ b) (hf : 0 < f) (hft : f ≤ t) : quot (1000 * b) t ≤ quot (2000 * b) (f + t) ∧ quot (2000 * b) (f + t) ≤ quot (1000 * b) f := by
  have h1 : ¬ t = 0 := by omega
  have h2 : ¬ f + t = 0 := by omega
  have h3 : ¬ f = 0 := by omega
  simp only [quot, h1, h2, h3, if_false]
  have q0 : 0 ≤ 1000 * b / t := Int.ediv_nonneg (by omega) (by omega)
  have q1 : 1000 * b / t * t ≤ 1000 * b := Int.ediv_mul_le _ h1
  have p0 : 0 ≤ 2000 * b / (f + t) := Int.ediv_nonneg (by omega) (by omega)
  have p1 : 2000 * b / (f + t) * (f + t) ≤ 2000 * b := Int.ediv_mul_le _ h2
  constructor
  · rw [Int.le_ediv_iff_mul_le (by omega)]
    generalize 1000 * b / t = q at *
    have : q * (f + t) ≤ q * (t + t) := Int.mul_le_mul_of_nonneg_left (by omega) q0
    rw [Int.mul_add q t t] at this
    omega
  · rw [Int.le_ediv_iff_mul_le hf]
    generalize 2000 * b / (f + t) = p at *
    have : p * (f + f) ≤ p * (f + t) := Int.mul_le_mul_of_nonneg_left (by omega) p0
    rw [Int.mul_add p f f] at this
    omega
theorem fScore_mid (b f t : Int) (h : goodB b f t = true) :
    min (precision b f t) (recall b f t) ≤ fScore b f t ∧ fScore b f t ≤ max (precision b f t) (recall b f t) := by
  obtain ⟨h1, h2, h3, h4, h5, h6⟩ := goodB_iff h
  have hb : b ≤ f ∧ b ≤ t := by
    simp only [goodB, Bool.and_eq_true, inR_iff] at h
    obtain ⟨_, _, h7⟩ := h
    split at h7 <;> omega
  simp only [precision, recall, fScore, h, if_true]
  by_cases hf0 : f = 0
  · subst hf0
    have hb0 : b = 0 := by omega
    subst hb0
    by_cases ht0 : t = 0
    · subst ht0; simp [quot]
    · simp [quot, ht0]; omega
  · by_cases ht0 : t = 0
    · subst ht0
      have hb0 : b = 0 := by omega
      subst hb0
      simp [quot, hf0]; omega
    · rcases Int.le_total f t with hle | hle
      · have := quot_mid b f t h5 (by omega) hle
        omega
      · have h7 := quot_mid b t f h5 (by omega) hle
        rw [Int.add_comm t f] at h7
        omega
theorem fScore_same (b : Int) (h : goodB b b b = true) : fScore b b b = 1000 := by
  simp only [fScore, h, if_true, quot]
  by_cases hb : b + b = 0
  · rw [if_pos hb]
  · rw [if_neg hb]
    have e : 2000 * b = 1000 * (b + b) := by omega
    rw [e]
    exact Int.mul_ediv_cancel _ hb

theorem cntTo_mono (p q : Nat → Nat → Bool) (h : ∀ i k, p i k = true → q i k = true) (i : Nat) : ∀ j, cntTo p i j ≤ cntTo q i j
  | 0 => Nat.le_refl _
  | j + 1 => by
    have := cntTo_mono p q h i j
    simp only [cntTo]
    cases hp : p i j
    · simp; omega
    · rw [h i j hp]; simp; omega
theorem pairsP_mono (p q : Nat → Nat → Bool) (h : ∀ i k, p i k = true → q i k = true) : ∀ n, pairsP p n ≤ pairsP q n
  | 0 => Nat.le_refl _
  | n + 1 => by
    have := pairsP_mono p q h n; have := cntTo_mono p q h n n
    simp only [pairsP]; omega
theorem pairsP_small (p : Nat → Nat → Bool) : ∀ n, n ≤ 8 → pairsP p n ≤ 8 * n
  | 0, _ => by simp [pairsP]
  | n + 1, h => by have := pairsP_small p n (by omega); have := cntTo_le p n n; simp only [pairsP]; omega
/-- The counts of two partitions are good counts. -/
theorem counts_good {l m : List Int} (h : l.length ≤ 8) : goodB (pairsP (both l m) l.length) (pairsP (eqAt m) l.length) (pairsP (eqAt l) l.length) = true := by
  have h1 := pairsP_mono (both l m) (eqAt m) (fun i k hik => by simp only [both, Bool.and_eq_true] at hik; exact hik.2) l.length
  have h2 := pairsP_mono (both l m) (eqAt l) (fun i k hik => by simp only [both, Bool.and_eq_true] at hik; exact hik.1) l.length
  have h3 := pairsP_small (eqAt m) l.length h
  have h4 := pairsP_small (eqAt l) l.length h
  simp only [goodB, Bool.and_eq_true, inR_iff]
  refine ⟨⟨⟨by omega, by omega⟩, by omega, by omega⟩, by omega, ?_⟩
  split <;> omega
theorem both_self (l : List Int) : both l l = eqAt l := by
  funext i k; simp [both]
end Go.Proofs.Ytgehpbikkcnecaa
