/- The walk of the law FnExactCountPairs. -/
import Derived.Test.YtgehpbikkcnecaaCounts
set_option linter.unusedVariables false
set_option linter.unusedSimpArgs false
namespace Go.Proofs.Ytgehpbikkcnecaa
open Go.RowKit Go.Er
theorem countsOf_form (l m : List Int) : ∃ x y z b, countsOf l m = .tuple #[.agg #[.int .i64 x, .int .i64 y, .int .i64 z], .bool b] := by
  unfold countsOf
  split
  · exact ⟨_, _, _, _, rfl⟩
  · exact ⟨_, _, _, _, rfl⟩
theorem beq_self (l : List Int) : (l == l) = true := by simp

set_option maxHeartbeats 1600000 in
theorem lawCountPairs_any (l m : List Int) (a c : Option Addr) (ca cc : Nat) (w : World) (ha : Ints w a l) (hc : Ints w c m) :
    Calls Try.prog 6 #[.slice a l.length ca, .slice c m.length cc] w fun e w' => e = .returned (.bool true) ∧ Ext w w' := by
  by_cases hl : l.length ≤ 1048576
  · by_cases hm : m.length ≤ 1048576
    · obtain ⟨x, y, z, b, hcf⟩ := countsOf_form l m
      have HC := Lib.hid hcf; clear hcf
      go_enter Try.func6, Try.ntmps6
      go_wp2_with fail
      refine (toIntS_any l a ca _ (ha.ext (by (repeat' (first | assumption | exact Below.refl _ _ | refine Ext.alloc' ?_ _ | refine Ext.drew' ?_ | refine Ext.drewN' ?_ _ | refine Ext.setCell' ?_ (by first | (simp; done) | (simp; omega)) _ | (refine Ext.trans ?_ (by assumption)))))) hl).mono ?_
      rintro e w1 ⟨v, rfl, hv1, hE1⟩; obtain ⟨a1, c1, rfl, i1⟩ := hv1.ints
      go_wp2_with fail
      refine (toIntS_any m c cc _ (hc.ext (by (repeat' (first | assumption | exact Below.refl _ _ | refine Ext.alloc' ?_ _ | refine Ext.drew' ?_ | refine Ext.drewN' ?_ _ | refine Ext.setCell' ?_ (by first | (simp; done) | (simp; omega)) _ | (refine Ext.trans ?_ (by assumption)))))) hm).mono ?_
      rintro e w2 ⟨v, rfl, hv2, hE2⟩; obtain ⟨a2, c2, rfl, i2⟩ := hv2.ints
      go_wp2_with fail
      refine (specCountPairs_any l m a1 a2 c1 c2 _ (i1.ext hE2) i2 hl hm).mono ?_
      rintro e w3 ⟨rfl, hE3⟩
      rw [HC.out]
      have hB := Box.new w3 25 (three x y z)
      simp only [three] at hB
      have hEB : Ext w (w3.alloc (.cells #[.int .i64 x, .int .i64 y, .int .i64 z] 25)) := by (repeat' (first | assumption | exact Below.refl _ _ | refine Ext.alloc' ?_ _ | refine Ext.drew' ?_ | refine Ext.drewN' ?_ _ | refine Ext.setCell' ?_ (by first | (simp; done) | (simp; omega)) _ | (refine Ext.trans ?_ (by assumption))))
      have HB := Lib.hid hB; clear hB
      go_wp2_with fail
      refine (toIntS_any l a ca _ (ha.ext (by (repeat' (first | assumption | exact Below.refl _ _ | refine Ext.alloc' ?_ _ | refine Ext.drew' ?_ | refine Ext.drewN' ?_ _ | refine Ext.setCell' ?_ (by first | (simp; done) | (simp; omega)) _ | (refine Ext.trans ?_ (by assumption)))))) hl).mono ?_
      rintro e w4 ⟨v, rfl, hv4, hE4⟩; obtain ⟨a4, c4, rfl, i4⟩ := hv4.ints
      go_wp2_with fail
      refine (toIntS_any m c cc _ (hc.ext (by (repeat' (first | assumption | exact Below.refl _ _ | refine Ext.alloc' ?_ _ | refine Ext.drew' ?_ | refine Ext.drewN' ?_ _ | refine Ext.setCell' ?_ (by first | (simp; done) | (simp; omega)) _ | (refine Ext.trans ?_ (by assumption)))))) hm).mono ?_
      rintro e w5 ⟨v, rfl, hv5, hE5⟩; obtain ⟨a5, c5, rfl, i5⟩ := hv5.ints
      go_wp2_with fail
      refine (implCountPairs_all l m a4 a5 c4 c5 _ (i4.ext hE5) i5 hl hm).mono ?_
      rintro e w6 ⟨rfl, hE6⟩
      rw [HC.out]
      have hb := ((HB.out.ext hE4).ext hE5).ext hE6
      have k1 := hb.cell 0; have k2 := hb.cell 1; have k3 := hb.cell 2; have hs := hb.lt
      simp only [List.getElem?_toArray, List.getElem?_cons_zero, List.getElem?_cons_succ] at k1 k2 k3
      clear hb
      go_wp2_with fail
      refine (eqPairCounts_any x y z _).mono ?_
      rintro e w7 ⟨rfl, hE7⟩
      clear k1 k2 k3 hs
      have hbb : (b != b) = false := by simp
      go_wp2_with fail
      clear hbb
      refine (toIntS_any l a ca _ (ha.ext (by (repeat' (first | assumption | exact Below.refl _ _ | refine Ext.alloc' ?_ _ | refine Ext.drew' ?_ | refine Ext.drewN' ?_ _ | refine Ext.setCell' ?_ (by first | (simp; done) | (simp; omega)) _ | (refine Ext.trans ?_ (by assumption)))))) hl).mono ?_
      rintro e w8 ⟨v, rfl, hv8, hE8⟩; obtain ⟨a8, c8, rfl, i8⟩ := hv8.ints
      go_wp2_with fail
      refine (eqIntS_any l l a4 a8 c4 c8 _ (i4.ext (by (repeat' (first | assumption | exact Below.refl _ _ | refine Ext.alloc' ?_ _ | refine Ext.drew' ?_ | refine Ext.drewN' ?_ _ | refine Ext.setCell' ?_ (by first | (simp; done) | (simp; omega)) _ | (refine Ext.trans ?_ (by assumption)))))) i8 hl hl).mono ?_
      rintro e w9 ⟨rfl, hE9⟩
      rw [beq_self]
      go_wp2_with fail
      refine (toIntS_any m c cc _ (hc.ext (by (repeat' (first | assumption | exact Below.refl _ _ | refine Ext.alloc' ?_ _ | refine Ext.drew' ?_ | refine Ext.drewN' ?_ _ | refine Ext.setCell' ?_ (by first | (simp; done) | (simp; omega)) _ | (refine Ext.trans ?_ (by assumption)))))) hm).mono ?_
      rintro e w10 ⟨v, rfl, hv10, hE10⟩; obtain ⟨a10, c10, rfl, i10⟩ := hv10.ints
      go_wp2_with fail
      refine (eqIntS_any m m a5 a10 c5 c10 _ (i5.ext (by (repeat' (first | assumption | exact Below.refl _ _ | refine Ext.alloc' ?_ _ | refine Ext.drew' ?_ | refine Ext.drewN' ?_ _ | refine Ext.setCell' ?_ (by first | (simp; done) | (simp; omega)) _ | (refine Ext.trans ?_ (by assumption)))))) i10 hm hm).mono ?_
      rintro e w11 ⟨rfl, hE11⟩
      rw [beq_self]
      go_wp2_with fail
      go_ret
      exact ⟨rfl, by (repeat' (first | assumption | exact Below.refl _ _ | refine Ext.alloc' ?_ _ | refine Ext.drew' ?_ | refine Ext.drewN' ?_ _ | refine Ext.setCell' ?_ (by first | (simp; done) | (simp; omega)) _ | (refine Ext.trans ?_ (by assumption))))⟩
    · have hl' : (l.length : Int) ≤ 1048576 := by omega
      have hm' : (1048576 : Int) < m.length := by omega
      clear hm
      go_enter Try.func6, Try.ntmps6
      go_wp2_with fail
      go_ret
      exact ⟨rfl, by (repeat' (first | assumption | exact Below.refl _ _ | refine Ext.alloc' ?_ _ | refine Ext.drew' ?_ | refine Ext.drewN' ?_ _ | refine Ext.setCell' ?_ (by first | (simp; done) | (simp; omega)) _ | (refine Ext.trans ?_ (by assumption))))⟩
  · have hl' : (1048576 : Int) < l.length := by omega
    clear hl
    go_enter Try.func6, Try.ntmps6
    go_wp2_with fail
    go_ret
    exact ⟨rfl, by (repeat' (first | assumption | exact Below.refl _ _ | refine Ext.alloc' ?_ _ | refine Ext.drew' ?_ | refine Ext.drewN' ?_ _ | refine Ext.setCell' ?_ (by first | (simp; done) | (simp; omega)) _ | (refine Ext.trans ?_ (by assumption))))⟩
end Go.Proofs.Ytgehpbikkcnecaa
