/- The walk of PartitionDistance of the reference. -/
import Derived.Test.YtgehpbikkcnecaaDistImpl
import Derived.Test.YtgehpbikkcnecaaSTable
import Derived.Test.YtgehpbikkcnecaaSOverlap
import Derived.Test.YtgehpbikkcnecaaIsOv
import Derived.Test.YtgehpbikkcnecaaExact
import Derived.Test.YtgehpbikkcnecaaBPlain
import Derived.Test.YtgehpbikkcnecaaPBlocks
set_option linter.unusedVariables false
set_option linter.unusedSimpArgs false
namespace Go.Proofs.Ytgehpbikkcnecaa
open Go.RowKit Go.Er

set_option maxHeartbeats 1600000 in
theorem specBestValue_any (M : List (List Int)) (n : Nat) (a : Option Addr) (ca : Nat) (w : World) (ha : IntRows w a M) (hM : Ov M n) (hmp : 0 < M.length) :
    Calls Try.prog 44 #[.slice a M.length ca] w fun e w' => e = .returned (.int .i64 (bestV M 0)) ∧ Ext w w' := by
  have HM := Lib.hid hM; clear hM
  go_enter Try.func44, Try.ntmps44
  go_wp2_with fail
  refine (specIsOverlapMatrix_any M n a ca _ ha HM.out).mono ?_
  rintro e w0 ⟨rfl, hE0⟩
  go_wp2_with fail
  refine (l25Table_any M n a ca _ (ha.ext hE0) HM.out hmp).mono ?_
  rintro e w1 ⟨v, vs, f, rfl, hO, hE, hf, hN0⟩
  have hvl : vs.length = M.length + 1 := by have h := hO.2.1; simpa [tabF] using h
  obtain ⟨g, c, hs⟩ := hO.1.shape (by omega)
  subst hs
  have hin := (hO.2.2.1 0 (by omega) (by simp [tabF])).1
  rw [List.getElem_map, tabF_get _ _ _ _ (by omega)] at hin
  obtain ⟨g1, c1, hg1⟩ := hin.shape (by simp <;> exact Nat.two_pow_pos n)
  have hcell := (hO.1.cellAt 0 (by omega)).trans (congrArg some hg1)
  rw [hg1] at hin
  have hcell1 := (hin.cellAt 0 (by simp <;> exact Nat.two_pow_pos n)).trans (by simp [hf] : _ = some (Value.int .i64 (bestV M 0)))
  simp only [List.length_map, List.length_range] at hcell hcell1
  have hnz : 0 < 2 ^ n := Nat.two_pow_pos n
  generalize 2 ^ n = N at *
  have hnz2 : (0 : Int) < (N : Int) := by omega
  have hmz2 : (0 : Int) < (vs.length : Int) := by omega
  clear hin hO hg1 hvl
  go_wp2
  go_ret
  exact ⟨rfl, by (repeat' (first | assumption | exact Below.refl _ _ | refine Ext.alloc' ?_ _ | refine Ext.drew' ?_ | refine Ext.drewN' ?_ _ | refine Ext.setCell' ?_ (by first | (simp; done) | (simp; omega)) _ | (refine Ext.trans ?_ (by assumption))))⟩

set_option maxHeartbeats 1600000 in
theorem specPartitionDistance_any (l m : List Int) (a c : Option Addr) (ca cc : Nat) (w : World) (ha : Ints w a l) (hc : Ints w c m) (hl : l.length ≤ 1048576) (hm : m.length ≤ 1048576) :
    Calls Try.prog 24 #[.slice a l.length ca, .slice c m.length cc] w fun e w' => e = .returned (.int .i64 (distOf l m)) ∧ Ext w w' := by
  cases hp : pairB l m
  · have hf := Lib.hid (show distOf l m = -1 by simp [distOf, hp])
    go_enter Try.func24, Try.ntmps24
    go_wp2_with (go_at_call 34; refine (l19Pair_any l m a c ca cc _ ha hc hl hm).mono ?_; rintro e w' ⟨rfl, rfl⟩)
    go_ret
    exact ⟨ret_int hf.out.symm, Ext.refl _⟩
  · have hf := Lib.hid (show distOf l m = (l.length : Int) - bestV (overlaps (blocksOf l) (blocksOf m)) 0 by simp [distOf, hp])
    have hpl : isPart l = true := by simp only [pairB, Bool.and_eq_true] at hp; exact hp.1.1
    have hpm : isPart m = true := by simp only [pairB, Bool.and_eq_true] at hp; exact hp.1.2
    have hXn : (blocksOf l).length ≤ 8 := Nat.le_trans (blocksOf_length hpl) (isPart_len hpl).2
    have hYn : (blocksOf m).length ≤ 8 := Nat.le_trans (blocksOf_length hpm) (isPart_len hpm).2
    have hXr := Lib.hid (fun r hr => Nat.le_trans (blocksOf_row_length hpl r hr) hl); have hYr := Lib.hid (fun r hr => Nat.le_trans (blocksOf_row_length hpm r hr) hm)
    have hov := Lib.hid (overlaps_ov hXn hYn)
    have hXp : 0 < (blocksOf l).length := blocksOf_pos hpl
    have hbb := bestV_bound (overlaps (blocksOf l) (blocksOf m)) (fun r hr x hx => (hov.out.vals r hr x hx).2) 0
    rw [overlaps_length] at hbb
    have HP := Lib.hid hp; have HL := Lib.hid hpl; have HM := Lib.hid hpm; clear hp hpl hpm
    go_enter Try.func24, Try.ntmps24
    go_wp2_with fail
    refine (l19Pair_any l m a c ca cc _ ha hc hl hm).mono ?_
    rintro e w' ⟨rfl, rfl⟩
    rw [HP.out]
    go_wp2_with fail
    refine (partitionBlocks_any l a ca _ ha hl HL.out).mono ?_
    rintro e w1 ⟨v, vs, rfl, hv, hE1⟩
    obtain ⟨ax, cx, rfl, hX1⟩ := hv.rows
    clear hv
    go_wp2_with fail
    refine (partitionBlocks_any m c cc _ (hc.ext (by (repeat' (first | assumption | exact Below.refl _ _ | refine Ext.alloc' ?_ _ | refine Ext.drew' ?_ | refine Ext.drewN' ?_ _ | refine Ext.setCell' ?_ (by first | (simp; done) | (simp; omega)) _ | (refine Ext.trans ?_ (by assumption)))))) hm HM.out).mono ?_
    rintro e w2 ⟨v, vs, rfl, hv, hE2⟩
    obtain ⟨ay, cy, rfl, hY⟩ := hv.rows
    clear hv
    have hX := hX1.ext hE2
    clear hX1
    generalize hXe : blocksOf l = X at *
    generalize hYe : blocksOf m = Y at *
    have HXe := Lib.hid hXe; have HYe := Lib.hid hYe; clear hXe hYe
    have HX := Lib.hid hX; have HY := Lib.hid hY; clear hX hY
    go_wp2_with fail
    refine (specOverlapMatrix_any X Y ax ay cx cy _ HX.out HY.out (by omega) (by omega) hXr.out hYr.out).mono ?_
    rintro e w3 ⟨v, vs, rfl, hv, hE3⟩
    obtain ⟨az, cz, rfl, hZ⟩ := hv.rows
    clear hv
    have HZ := Lib.hid hZ; clear hZ
    have hZl : 0 < (overlaps X Y).length := by rw [overlaps_length]; exact hXp
    generalize overlaps X Y = Z at *
    go_wp2_with fail
    refine (specBestValue_any Z Y.length az cz _ HZ.out hov.out hZl).mono ?_
    rintro e w4 ⟨rfl, hE4⟩
    generalize bestV Z 0 = bz at *
    go_wp2_with fail
    go_ret
    exact ⟨ret_int (by rw [hf.out] <;> go_num), by (repeat' (first | assumption | exact Below.refl _ _ | refine Ext.alloc' ?_ _ | refine Ext.drew' ?_ | refine Ext.drewN' ?_ _ | refine Ext.setCell' ?_ (by first | (simp; done) | (simp; omega)) _ | (refine Ext.trans ?_ (by assumption))))⟩

end Go.Proofs.Ytgehpbikkcnecaa
