/- The distance is symmetric, and 0 just where the partitions are equal. -/
import Derived.Test.YtgehpbikkcnecaaMatch
import Derived.Test.YtgehpbikkcnecaaDistImpl
set_option linter.unusedVariables false
set_option linter.unusedSimpArgs false
namespace Go.Proofs.Ytgehpbikkcnecaa

theorem countP_or {α : Type} (a b : α → Bool) (h : ∀ t, a t = true → b t = false) : ∀ l : List α, l.countP (fun t => a t || b t) = l.countP a + l.countP b
  | [] => rfl
  | x :: xs => by
    rw [List.countP_cons, List.countP_cons, List.countP_cons, countP_or a b h xs]
    cases ha : a x
    · cases hb : b x <;> simp <;> omega
    · rw [h x ha]; simp; omega
theorem map_inj {α β : Type} (f : α → β) : ∀ (P : List α), (P.map f).Nodup → ∀ a b, a ∈ P → b ∈ P → f a = f b → a = b
  | [], _, a, _, ha, _, _ => by simp at ha
  | p :: ps, h, a, b, ha, hb, hf => by
    rw [List.map_cons, List.nodup_cons] at h
    rcases List.mem_cons.1 ha with rfl | ha'
    · rcases List.mem_cons.1 hb with rfl | hb'
      · rfl
      · exact absurd (List.mem_map.2 ⟨b, hb', hf.symm⟩) h.1
    · rcases List.mem_cons.1 hb with rfl | hb'
      · exact absurd (List.mem_map.2 ⟨a, ha', hf⟩) h.1
      · exact map_inj f ps h.2 a b ha' hb' hf

def hitB (l m : List Int) (p : Nat × Nat) (t : Nat) : Bool := l.getD t 0 == (p.1 : Int) && m.getD t 0 == (p.2 : Int)
theorem rowAt_any (m : List Int) (j k t : Nat) (h : t < k) : (rowAt m j k).any (fun z => z == (t : Int)) = (m.getD t 0 == (j : Int)) := by
  rw [Bool.eq_iff_iff, List.any_eq_true]
  constructor
  · rintro ⟨z, hz, he⟩
    obtain ⟨i, hi, _, h2⟩ := mem_rowAt.1 hz
    rw [beq_iff_eq] at he
    have : i = t := by omega
    rw [← this, beq_iff_eq]; exact h2
  · intro he
    exact ⟨(t : Int), mem_rowAt.2 ⟨t, rfl, h, by simpa using he⟩, by simp⟩
theorem ov_rows (l m : List Int) (i j k : Nat) : ov (rowAt l i k) (rowAt m j k) = (List.range k).countP (hitB l m (i, j)) := by
  unfold ov
  have e : rowAt l i k = ((List.range k).filter (fun t => l.getD t 0 == (i : Int))).map (fun t : Nat => (t : Int)) := rfl
  rw [e, List.countP_map, List.countP_filter]
  refine List.countP_congr ?_
  intro t ht
  have htk : t < k := by simpa using ht
  simp only [Function.comp_apply, hitB]
  rw [rowAt_any m j k t htk, Bool.and_comm]
theorem ovm_rows (l m : List Int) (i j k : Nat) (hk : k ≤ 8) : ovm (rowAt l i k) (rowAt m j k) = ((List.range k).countP (hitB l m (i, j)) : Nat) := by
  unfold ovm
  rw [ov_rows]
  have : (List.range k).countP (hitB l m (i, j)) ≤ (List.range k).length := List.countP_le_length
  rw [List.length_range] at this
  rw [if_pos (by omega)]
theorem ent_overlaps (l m : List Int) (a b k i j : Nat) (hk : k ≤ 8) (hi : i < a) (hj : j < b) :
    ent (overlaps (rowsUpto l a k) (rowsUpto m b k)) i j = ((List.range k).countP (hitB l m (i, j)) : Nat) := by
  rw [← ovm_rows l m i j k hk]
  simp [ent, overlaps, rowsUpto, List.getD, hi, hj]
theorem hit_sum (l m : List Int) (k : Nat) : ∀ (P : List (Nat × Nat)), (P.map Prod.fst).Nodup →
    (P.map (fun p => (((List.range k).countP (hitB l m p) : Nat) : Int))).sum = ((List.range k).countP (fun t => P.any (fun p => hitB l m p t)) : Nat)
  | [], _ => by simp
  | p :: ps, h => by
    rw [List.map_cons, List.nodup_cons] at h
    rw [List.map_cons, List.sum_cons, hit_sum l m k ps h.2]
    simp only [List.any_cons]
    rw [countP_or (hitB l m p) (fun t => ps.any (fun p => hitB l m p t))]
    · simp
    · intro t ht
      rw [List.any_eq_false]
      intro q hq h2
      refine h.1 (List.mem_map.2 ⟨q, hq, ?_⟩)
      simp only [hitB, Bool.and_eq_true, beq_iff_eq] at ht h2
      omega
theorem wt_hits (l m : List Int) (a b k : Nat) (hk : k ≤ 8) (P : List (Nat × Nat)) (hP : Mtc a b 0 P) :
    wt (overlaps (rowsUpto l a k) (rowsUpto m b k)) P = ((List.range k).countP (fun t => P.any (fun p => hitB l m p t)) : Nat) := by
  rw [← hit_sum l m k P hP.fst]
  unfold wt
  refine congrArg List.sum (List.map_congr_left ?_)
  intro p hp
  have := hP.lt p hp
  exact ent_overlaps l m a b k p.1 p.2 hk this.1 this.2.1

theorem rows_len {X Y : List (List Int)} : ∀ r ∈ overlaps X Y, r.length = Y.length := by
  intro r hr
  obtain ⟨x, _, rfl⟩ := List.mem_map.1 hr
  simp

/-- The labels up to k, and the label at k. -/
theorem part_upto {l : List Int} {n : Int} : ∀ (d k a : Nat), l.length = k + d → Upto l a k → partFrom n (l.drop k) a = true → ∀ t, k ≤ t → t < l.length → ∃ a', Upto l a' t ∧ 0 ≤ l.getD t 0 ∧ l.getD t 0 ≤ (a' : Int)
  | 0, k, a, hd, _, _, t, h1, h2 => by omega
  | d + 1, k, a, hd, hU, hp, t, h1, h2 => by
    have hk : k < l.length := by omega
    have hg : l.getD k 0 = l[k] := by simp [List.getD, hk]
    rw [List.drop_eq_getElem_cons hk] at hp
    simp only [partFrom] at hp
    split at hp
    · rename_i hin
      simp only [inR, Bool.and_eq_true, decide_eq_true_eq] at hin
      by_cases hkt : k = t
      · subst hkt
        exact ⟨a, hU, by omega, by omega⟩
      · obtain ⟨j, hj⟩ := Int.eq_ofNat_of_zero_le hin.1
        rw [hj] at hp
        by_cases hja : j < a
        · have h3 := (step_old hU (hg.trans hj) hja).2
          rw [if_neg (by omega)] at hp
          exact part_upto d (k + 1) a (by omega) h3 hp t (by omega) h2
        · have hja2 : j = a := by omega
          subst hja2
          have h3 := (step_new hU (hg.trans hj)).2
          rw [if_pos (by omega)] at hp
          exact part_upto d (k + 1) (j + 1) (by omega) h3 (by exact_mod_cast hp) t (by omega) h2
    · exact absurd hp (by simp)
theorem isPart_upto {l : List Int} (h : isPart l = true) (t : Nat) (ht : t < l.length) : ∃ a, Upto l a t ∧ 0 ≤ l.getD t 0 ∧ l.getD t 0 ≤ (a : Int) :=
  part_upto l.length 0 0 (by omega) ⟨fun i hi => by omega, fun j hj => by omega⟩ (by rw [List.drop_zero]; exact h) t (Nat.zero_le _) ht

/-- Two partitions of one length with the same pairs of equal labels are equal. -/
theorem part_kernel {l m : List Int} (hl : isPart l = true) (hm : isPart m = true) (hlen : l.length = m.length)
    (hk : ∀ s t, s < l.length → t < l.length → (l.getD s 0 = l.getD t 0 ↔ m.getD s 0 = m.getD t 0)) : l = m := by
  have key : ∀ t, t < l.length → l.getD t 0 = m.getD t 0 := by
    intro t
    induction t using Nat.strongRecOn with
    | ind t ih =>
      intro ht
      obtain ⟨a, ha, ha0, ha1⟩ := isPart_upto hl t ht
      obtain ⟨b, hb, hb0, hb1⟩ := isPart_upto hm t (by omega)
      have hab : a = b := by
        rcases Nat.lt_trichotomy a b with h | h | h
        · obtain ⟨i, hi, h2⟩ := hb.2 a h
          have := (ha.1 i hi).2
          rw [ih i hi (by omega), h2] at this
          omega
        · exact h
        · obtain ⟨i, hi, h2⟩ := ha.2 b h
          have := (hb.1 i hi).2
          rw [← ih i hi (by omega), h2] at this
          omega
      subst hab
      obtain ⟨x, hx⟩ := Int.eq_ofNat_of_zero_le ha0
      obtain ⟨y, hy⟩ := Int.eq_ofNat_of_zero_le hb0
      by_cases h1 : x < a
      · obtain ⟨s, hs, h2⟩ := ha.2 x h1
        have h3 := (hk s t (by omega) ht).1 (by omega)
        have h4 := ih s hs (by omega)
        omega
      · by_cases h5 : y < a
        · obtain ⟨s, hs, h2⟩ := hb.2 y h5
          have h3 := (hk s t (by omega) ht).2 (by omega)
          have h4 := ih s hs (by omega)
          omega
        · omega
  refine List.ext_getElem hlen ?_
  intro t h1 h2
  have h3 := key t h1
  simpa [List.getD, h1, h2] using h3

theorem pairB_parts {l m : List Int} (h : pairB l m = true) : isPart l = true ∧ isPart m = true ∧ l.length = m.length := by
  simp only [pairB, Bool.and_eq_true, decide_eq_true_eq] at h
  exact ⟨h.1.1, h.1.2, h.2⟩
theorem pairB_swap (l m : List Int) : pairB l m = pairB m l := by
  unfold pairB
  rw [Bool.and_comm (isPart l)]
  congr 1
  rw [Bool.eq_iff_iff]; simp [eq_comm]

theorem distOf_swap (l m : List Int) : distOf l m = distOf m l := by
  unfold distOf
  rw [pairB_swap m l]
  cases hp : pairB l m
  · rfl
  · obtain ⟨hl, hm, hlen⟩ := pairB_parts hp
    obtain ⟨a, ha, hA⟩ := blocksOf_rows hl
    obtain ⟨b, hb, hB⟩ := blocksOf_rows hm
    have h8 := (isPart_len hl).2
    rw [ha, hb, ← hlen]
    rw [bestV_swap a b (overlaps (rowsUpto l a l.length) (rowsUpto m b l.length)) (overlaps (rowsUpto m b l.length) (rowsUpto l a l.length))]
    · rw [overlaps_length, rowsUpto_length]
    · rw [overlaps_length, rowsUpto_length]
    · intro r hr; rw [rows_len r hr, rowsUpto_length]
    · intro r hr; rw [rows_len r hr, rowsUpto_length]
    · intro i j hi hj
      rw [ent_overlaps l m a b _ i j h8 hi hj, ent_overlaps m l b a _ j i h8 hj hi]
      congr 1
      refine List.countP_congr ?_
      intro t _
      simp only [hitB]
      rw [Bool.and_comm]

theorem distOf_zero {l m : List Int} (hp : pairB l m = true) : 0 ≤ distOf l m ∧ (distOf l m = 0 ↔ l = m) := by
  obtain ⟨hl, hm, hlen⟩ := pairB_parts hp
  obtain ⟨a, ha, hA⟩ := blocksOf_rows hl
  obtain ⟨b, hb, hB⟩ := blocksOf_rows hm
  have h8 := (isPart_len hl).2
  have hd : distOf l m = (l.length : Int) - bestV (overlaps (rowsUpto l a l.length) (rowsUpto m b l.length)) 0 := by
    unfold distOf
    rw [hp, if_pos rfl, ha, hb, ← hlen]
  have hR : ∀ r ∈ overlaps (rowsUpto l a l.length) (rowsUpto m b l.length), r.length = b := by
    intro r hr; rw [rows_len r hr, rowsUpto_length]
  obtain ⟨P, hP, hw⟩ := bestV_match b _ hR 0
  rw [overlaps_length, rowsUpto_length] at hP
  rw [wt_hits l m a b _ h8 P hP] at hw
  have hle : (List.range l.length).countP (fun t => P.any (fun p => hitB l m p t)) ≤ (List.range l.length).length := List.countP_le_length
  rw [List.length_range] at hle
  rw [hd]
  refine ⟨by omega, ?_, ?_⟩
  · intro h0
    have hall : (List.range l.length).countP (fun t => P.any (fun p => hitB l m p t)) = (List.range l.length).length := by rw [List.length_range]; omega
    rw [List.countP_eq_length] at hall
    have hit : ∀ t, t < l.length → ∃ p ∈ P, l.getD t 0 = (p.1 : Int) ∧ m.getD t 0 = (p.2 : Int) := by
      intro t ht
      have h1 := hall t (by simpa using ht)
      rw [List.any_eq_true] at h1
      obtain ⟨p, hp, h2⟩ := h1
      simp only [hitB, Bool.and_eq_true, beq_iff_eq] at h2
      exact ⟨p, hp, h2⟩
    refine part_kernel hl hm hlen ?_
    intro s t hs ht
    obtain ⟨p, hp, hp1, hp2⟩ := hit s hs
    obtain ⟨q, hq, hq1, hq2⟩ := hit t ht
    constructor
    · intro h
      have : p = q := map_inj Prod.fst P hP.fst p q hp hq (by omega)
      rw [hp2, hq2, this]
    · intro h
      have : p = q := map_inj Prod.snd P hP.snd p q hp hq (by omega)
      rw [hp1, hq1, this]
  · intro h0
    subst h0
    have hab : a = b := by
      have h1 : (rowsUpto l a l.length).length = (rowsUpto l b l.length).length := by rw [← ha, ← hb]
      rwa [rowsUpto_length, rowsUpto_length] at h1
    subst hab
    have hQ : Mtc a a 0 ((List.range a).map (fun i => (i, i))) := by
      refine ⟨?_, ?_, ?_⟩
      · rw [List.map_map]
        have e : (Prod.fst ∘ fun i : Nat => (i, i)) = id := rfl
        rw [e, List.map_id]; exact List.nodup_range
      · rw [List.map_map]
        have e : (Prod.snd ∘ fun i : Nat => (i, i)) = id := rfl
        rw [e, List.map_id]; exact List.nodup_range
      · intro p hp
        obtain ⟨i, hi, rfl⟩ := List.mem_map.1 hp
        have : i < a := by simpa using hi
        exact ⟨this, this, by simp⟩
    have hge := match_le a _ hR 0 _ (by rw [overlaps_length, rowsUpto_length]; exact hQ)
    rw [wt_hits l l a a _ h8 _ hQ] at hge
    have hall : (List.range l.length).countP (fun t => ((List.range a).map (fun i => (i, i))).any (fun p => hitB l l p t)) = (List.range l.length).length := by
      rw [List.countP_eq_length]
      intro t ht
      have htl : t < l.length := by simpa using ht
      obtain ⟨h1, h2⟩ := hA.1 t htl
      obtain ⟨x, hx⟩ := Int.eq_ofNat_of_zero_le h1
      rw [List.any_eq_true]
      refine ⟨(x, x), List.mem_map.2 ⟨x, by rw [List.mem_range]; omega, rfl⟩, ?_⟩
      simp only [hitB, hx]; simp
    rw [hall, List.length_range] at hge
    omega
end Go.Proofs.Ytgehpbikkcnecaa
