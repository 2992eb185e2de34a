/- The walks of FScore, Precision, Recall of the program and of the reference, and of what they call: numbers and structs of three numbers. -/
import Derived.Test.YtgehpbikkcnecaaRows
import Derived.Test.YtgehpbikkcnecaaLib
namespace Go.Proofs.Ytgehpbikkcnecaa
open Go.RowKit Go.Er

def inR (x lo hi : Int) : Bool := decide (lo ≤ x) && decide (x ≤ hi)
theorem inR_iff (x lo hi : Int) : inR x lo hi = true ↔ lo ≤ x ∧ x ≤ hi := by simp [inR]

theorem within_any (x lo hi : Int) (w : World) :
    Calls Try.prog 52 #[.int .i64 x, .int .i64 lo, .int .i64 hi] w fun e w' => e = .returned (.bool (inR x lo hi)) ∧ w = w' := by
  by_cases h1 : lo ≤ x <;> by_cases h2 : x ≤ hi <;> (
  go_enter Try.func52, Try.ntmps52
  go_wp2
  go_ret
  simp [h1, h2, inR])

theorem l1In_any (x lo hi : Int) (w : World) :
    Calls Try.prog 51 #[.int .i64 x, .int .i64 lo, .int .i64 hi] w fun e w' => e = .returned (.bool (inR x lo hi)) ∧ w = w' := by
  by_cases h1 : lo ≤ x <;> by_cases h2 : x ≤ hi <;> (
  go_enter Try.func51, Try.ntmps51
  go_wp2
  go_ret
  simp [h1, h2, inR])

def goodB (b f t : Int) : Bool := inR f 0 1000 && inR t 0 1000 && inR b 0 (if t < f then t else f)
theorem goodB_iff {b f t : Int} (h : goodB b f t = true) : 0 ≤ f ∧ f ≤ 1000 ∧ 0 ≤ t ∧ t ≤ 1000 ∧ 0 ≤ b ∧ b ≤ 1000 := by
  simp only [goodB, Bool.and_eq_true, inR_iff] at h
  obtain ⟨⟨⟨h1, h2⟩, h3, h4⟩, h5, h6⟩ := h
  split at h6 <;> omega

theorem areCounts_any (b f t : Int) (w : World) :
    Calls Try.prog 32 #[.agg #[.int .i64 b, .int .i64 f, .int .i64 t]] w fun e w' => e = .returned (.bool (goodB b f t)) ∧ Ext w w' := by
  cases h1 : inR f 0 1000 <;> cases h2 : inR t 0 1000 <;> (
  go_enter Try.func32, Try.ntmps32
  go_wp2_with (go_at_call 52; refine (within_any _ _ _ _).mono ?_; rintro e w' ⟨rfl, rfl⟩)
  all_goals (go_ret; exact ⟨by simp [goodB, *, Int.not_lt.mpr]; try (intro hh; omega), Ext.alloc _ _⟩))

theorem l37Good_any (b f t : Int) (w : World) :
    Calls Try.prog 30 #[.agg #[.int .i64 b, .int .i64 f, .int .i64 t]] w fun e w' => e = .returned (.bool (goodB b f t)) ∧ Ext w w' := by
  cases h1 : inR f 0 1000 <;> cases h2 : inR t 0 1000 <;> (
  go_enter Try.func30, Try.ntmps30
  go_wp2_with (go_at_call 51; refine (l1In_any _ _ _ _).mono ?_; rintro e w' ⟨rfl, rfl⟩)
  all_goals (go_ret; exact ⟨by simp [goodB, *, Int.not_lt.mpr]; try (intro hh; omega), Ext.alloc _ _⟩))

def quot (x y : Int) : Int := if y = 0 then 1000 else x / y

theorem quotient_any (x y : Int) (hx : 0 ≤ x) (hy : 0 ≤ y) (hx2 : x ≤ 9000000000000000000) (w : World) :
    Calls Try.prog 33 #[.int .i64 x, .int .i64 y] w fun e w' => e = .returned (.int .i64 (quot x y)) ∧ w = w' := by
  by_cases h0 : y = 0
  · subst h0
    go_enter Try.func33, Try.ntmps33
    go_wp2
    go_ret
    simp [quot]
  · have h1 : 1 ≤ y := by omega
    go_enter Try.func33, Try.ntmps33
    go_wp2
    go_ret
    simp [quot, h0]

theorem l5Ratio_any (x y : Int) (hx : 0 ≤ x) (hy : 0 ≤ y) (hx2 : x ≤ 9000000000000000) (w : World) :
    Calls Try.prog 31 #[.int .i64 x, .int .i64 y] w fun e w' => e = .returned (.int .i64 (quot (1000 * x) y)) ∧ w = w' := by
  by_cases h0 : y = 0
  · subst h0
    go_enter Try.func31, Try.ntmps31
    go_wp2
    go_ret
    simp [quot]
  · have h1 : 1 ≤ y := by omega
    go_enter Try.func31, Try.ntmps31
    go_wp2
    go_ret
    simp [quot, h0]

def fScore (b f t : Int) : Int := if goodB b f t then quot (2000 * b) (f + t) else -1
def precision (b f t : Int) : Int := if goodB b f t then quot (1000 * b) f else -1
def recall (b f t : Int) : Int := if goodB b f t then quot (1000 * b) t else -1

theorem implFScore_any (b f t : Int) (w : World) :
    Calls Try.prog 12 #[.agg #[.int .i64 b, .int .i64 f, .int .i64 t]] w fun e w' => e = .returned (.int .i64 (fScore b f t)) ∧ Ext w w' := by
  cases h : goodB b f t
  · go_enter Try.func12, Try.ntmps12
    go_wp2_with (go_at_call 32; refine (areCounts_any _ _ _ _).mono ?_; rintro e w' ⟨rfl, hb⟩)
    go_ret
    exact ⟨by simp [fScore, h], (Ext.alloc _ _).trans hb⟩
  · obtain ⟨h1, h2, h3, h4, h5, h6⟩ := goodB_iff h
    go_enter Try.func12, Try.ntmps12
    go_wp2_with (first | (go_at_call 32; refine (areCounts_any _ _ _ _).mono ?_; rintro e w' ⟨rfl, hb⟩; have hc := hb.cells) | (go_at_call 33; refine (quotient_any _ _ (by omega) (by omega) (by omega) _).mono ?_; rintro e w' ⟨rfl, rfl⟩))
    go_ret
    exact ⟨by simp [fScore, h], (Ext.alloc _ _).trans hb⟩

theorem specFScore_any (b f t : Int) (w : World) :
    Calls Try.prog 10 #[.agg #[.int .i64 b, .int .i64 f, .int .i64 t]] w fun e w' => e = .returned (.int .i64 (fScore b f t)) ∧ Ext w w' := by
  cases h : goodB b f t
  · go_enter Try.func10, Try.ntmps10
    go_wp2_with (go_at_call 30; refine (l37Good_any _ _ _ _).mono ?_; rintro e w' ⟨rfl, hb⟩)
    go_ret
    exact ⟨by simp [fScore, h], (Ext.alloc _ _).trans hb⟩
  · obtain ⟨h1, h2, h3, h4, h5, h6⟩ := goodB_iff h
    go_enter Try.func10, Try.ntmps10
    go_wp2_with (first | (go_at_call 30; refine (l37Good_any _ _ _ _).mono ?_; rintro e w' ⟨rfl, hb⟩; have hc := hb.cells) | (go_at_call 31; refine (l5Ratio_any _ _ (by omega) (by omega) (by omega) _).mono ?_; rintro e w' ⟨rfl, rfl⟩))
    go_ret
    exact ⟨by simp [fScore, h, ← Int.mul_assoc], (Ext.alloc _ _).trans hb⟩

theorem implPrecision_any (b f t : Int) (w : World) :
    Calls Try.prog 14 #[.agg #[.int .i64 b, .int .i64 f, .int .i64 t]] w fun e w' => e = .returned (.int .i64 (precision b f t)) ∧ Ext w w' := by
  cases h : goodB b f t
  · go_enter Try.func14, Try.ntmps14
    go_wp2_with (go_at_call 32; refine (areCounts_any _ _ _ _).mono ?_; rintro e w' ⟨rfl, hb⟩)
    go_ret
    exact ⟨by simp [precision, h], (Ext.alloc _ _).trans hb⟩
  · obtain ⟨h1, h2, h3, h4, h5, h6⟩ := goodB_iff h
    go_enter Try.func14, Try.ntmps14
    go_wp2_with (first | (go_at_call 32; refine (areCounts_any _ _ _ _).mono ?_; rintro e w' ⟨rfl, hb⟩; have hc := hb.cells) | (go_at_call 33; refine (quotient_any _ _ (by omega) (by omega) (by omega) _).mono ?_; rintro e w' ⟨rfl, rfl⟩))
    go_ret
    exact ⟨by simp [precision, h], (Ext.alloc _ _).trans hb⟩

theorem specPrecision_any (b f t : Int) (w : World) :
    Calls Try.prog 13 #[.agg #[.int .i64 b, .int .i64 f, .int .i64 t]] w fun e w' => e = .returned (.int .i64 (precision b f t)) ∧ Ext w w' := by
  cases h : goodB b f t
  · go_enter Try.func13, Try.ntmps13
    go_wp2_with (go_at_call 30; refine (l37Good_any _ _ _ _).mono ?_; rintro e w' ⟨rfl, hb⟩)
    go_ret
    exact ⟨by simp [precision, h], (Ext.alloc _ _).trans hb⟩
  · obtain ⟨h1, h2, h3, h4, h5, h6⟩ := goodB_iff h
    go_enter Try.func13, Try.ntmps13
    go_wp2_with (first | (go_at_call 30; refine (l37Good_any _ _ _ _).mono ?_; rintro e w' ⟨rfl, hb⟩; have hc := hb.cells) | (go_at_call 31; refine (l5Ratio_any _ _ (by omega) (by omega) (by omega) _).mono ?_; rintro e w' ⟨rfl, rfl⟩))
    go_ret
    exact ⟨by simp [precision, h], (Ext.alloc _ _).trans hb⟩

theorem implRecall_any (b f t : Int) (w : World) :
    Calls Try.prog 16 #[.agg #[.int .i64 b, .int .i64 f, .int .i64 t]] w fun e w' => e = .returned (.int .i64 (recall b f t)) ∧ Ext w w' := by
  cases h : goodB b f t
  · go_enter Try.func16, Try.ntmps16
    go_wp2_with (go_at_call 32; refine (areCounts_any _ _ _ _).mono ?_; rintro e w' ⟨rfl, hb⟩)
    go_ret
    exact ⟨by simp [recall, h], (Ext.alloc _ _).trans hb⟩
  · obtain ⟨h1, h2, h3, h4, h5, h6⟩ := goodB_iff h
    go_enter Try.func16, Try.ntmps16
    go_wp2_with (first | (go_at_call 32; refine (areCounts_any _ _ _ _).mono ?_; rintro e w' ⟨rfl, hb⟩; have hc := hb.cells) | (go_at_call 33; refine (quotient_any _ _ (by omega) (by omega) (by omega) _).mono ?_; rintro e w' ⟨rfl, rfl⟩))
    go_ret
    exact ⟨by simp [recall, h], (Ext.alloc _ _).trans hb⟩

theorem specRecall_any (b f t : Int) (w : World) :
    Calls Try.prog 15 #[.agg #[.int .i64 b, .int .i64 f, .int .i64 t]] w fun e w' => e = .returned (.int .i64 (recall b f t)) ∧ Ext w w' := by
  cases h : goodB b f t
  · go_enter Try.func15, Try.ntmps15
    go_wp2_with (go_at_call 30; refine (l37Good_any _ _ _ _).mono ?_; rintro e w' ⟨rfl, hb⟩)
    go_ret
    exact ⟨by simp [recall, h], (Ext.alloc _ _).trans hb⟩
  · obtain ⟨h1, h2, h3, h4, h5, h6⟩ := goodB_iff h
    go_enter Try.func15, Try.ntmps15
    go_wp2_with (first | (go_at_call 30; refine (l37Good_any _ _ _ _).mono ?_; rintro e w' ⟨rfl, hb⟩; have hc := hb.cells) | (go_at_call 31; refine (l5Ratio_any _ _ (by omega) (by omega) (by omega) _).mono ?_; rintro e w' ⟨rfl, rfl⟩))
    go_ret
    exact ⟨by simp [recall, h], (Ext.alloc _ _).trans hb⟩

theorem toPairCounts_any (b f t : Int) (w : World) :
    Calls Try.prog 11 #[.agg #[.int .i64 b, .int .i64 f, .int .i64 t]] w fun e w' => e = .returned (.agg #[.int .i64 b, .int .i64 f, .int .i64 t]) ∧ Ext w w' := by
  go_enter Try.func11, Try.ntmps11
  go_wp2
  refine bodyPost_ret (v := .agg #[.int .i64 b, .int .i64 f, .int .i64 t]) (by simp [results, Try.results11, go_sem]) rfl ⟨rfl, by (repeat' (first | assumption | exact Below.refl _ _ | refine Ext.alloc' ?_ _ | refine Ext.drew' ?_ | refine Ext.drewN' ?_ _ | refine Ext.setCell' ?_ (by first | (simp; done) | (simp; omega)) _ | (refine Ext.trans ?_ (by assumption))))⟩

theorem lawFScore_any (b f t : Int) (w : World) :
    Calls Try.prog 3 #[.agg #[.int .i64 b, .int .i64 f, .int .i64 t]] w fun e w' => e = .returned (.bool true) ∧ Ext w w' := by
  go_enter Try.func3, Try.ntmps3
  go_wp2_with (first
    | (go_at_call 11; refine (toPairCounts_any _ _ _ _).mono ?_; rintro e w' ⟨rfl, hb⟩; have hc := hb.cells; have hsz := hb.size; try simp at hsz; have hz0 : w.heap.size < w'.heap.size := by omega)
    | (go_at_call 12; refine (implFScore_any _ _ _ _).mono ?_; rintro e w' ⟨rfl, hb⟩; have hc := hb.cells; have hsz := hb.size; try simp at hsz; have hz0 : w.heap.size < w'.heap.size := by omega)
    | (go_at_call 10; refine (specFScore_any _ _ _ _).mono ?_; rintro e w' ⟨rfl, hb⟩; have hc := hb.cells; have hsz := hb.size; try simp at hsz; have hz0 : w.heap.size < w'.heap.size := by omega))
  go_ret
  exact ⟨rfl, by (repeat' (first | assumption | exact Below.refl _ _ | refine Ext.alloc' ?_ _ | refine Ext.drew' ?_ | refine Ext.drewN' ?_ _ | refine Ext.setCell' ?_ (by first | (simp; done) | (simp; omega)) _ | (refine Ext.trans ?_ (by assumption))))⟩

theorem lawPrecision_any (b f t : Int) (w : World) :
    Calls Try.prog 4 #[.agg #[.int .i64 b, .int .i64 f, .int .i64 t]] w fun e w' => e = .returned (.bool true) ∧ Ext w w' := by
  go_enter Try.func4, Try.ntmps4
  go_wp2_with (first
    | (go_at_call 11; refine (toPairCounts_any _ _ _ _).mono ?_; rintro e w' ⟨rfl, hb⟩; have hc := hb.cells; have hsz := hb.size; try simp at hsz; have hz0 : w.heap.size < w'.heap.size := by omega)
    | (go_at_call 14; refine (implPrecision_any _ _ _ _).mono ?_; rintro e w' ⟨rfl, hb⟩; have hc := hb.cells; have hsz := hb.size; try simp at hsz; have hz0 : w.heap.size < w'.heap.size := by omega)
    | (go_at_call 13; refine (specPrecision_any _ _ _ _).mono ?_; rintro e w' ⟨rfl, hb⟩; have hc := hb.cells; have hsz := hb.size; try simp at hsz; have hz0 : w.heap.size < w'.heap.size := by omega))
  go_ret
  exact ⟨rfl, by (repeat' (first | assumption | exact Below.refl _ _ | refine Ext.alloc' ?_ _ | refine Ext.drew' ?_ | refine Ext.drewN' ?_ _ | refine Ext.setCell' ?_ (by first | (simp; done) | (simp; omega)) _ | (refine Ext.trans ?_ (by assumption))))⟩

theorem lawRecall_any (b f t : Int) (w : World) :
    Calls Try.prog 5 #[.agg #[.int .i64 b, .int .i64 f, .int .i64 t]] w fun e w' => e = .returned (.bool true) ∧ Ext w w' := by
  go_enter Try.func5, Try.ntmps5
  go_wp2_with (first
    | (go_at_call 11; refine (toPairCounts_any _ _ _ _).mono ?_; rintro e w' ⟨rfl, hb⟩; have hc := hb.cells; have hsz := hb.size; try simp at hsz; have hz0 : w.heap.size < w'.heap.size := by omega)
    | (go_at_call 16; refine (implRecall_any _ _ _ _).mono ?_; rintro e w' ⟨rfl, hb⟩; have hc := hb.cells; have hsz := hb.size; try simp at hsz; have hz0 : w.heap.size < w'.heap.size := by omega)
    | (go_at_call 15; refine (specRecall_any _ _ _ _).mono ?_; rintro e w' ⟨rfl, hb⟩; have hc := hb.cells; have hsz := hb.size; try simp at hsz; have hz0 : w.heap.size < w'.heap.size := by omega))
  go_ret
  exact ⟨rfl, by (repeat' (first | assumption | exact Below.refl _ _ | refine Ext.alloc' ?_ _ | refine Ext.drew' ?_ | refine Ext.drewN' ?_ _ | refine Ext.setCell' ?_ (by first | (simp; done) | (simp; omega)) _ | (refine Ext.trans ?_ (by assumption))))⟩

end Go.Proofs.Ytgehpbikkcnecaa
