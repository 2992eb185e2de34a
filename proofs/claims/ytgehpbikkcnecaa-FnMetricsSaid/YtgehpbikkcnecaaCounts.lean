/- The walks of the law FnExactCountPairs and of the reference's CountPairs. -/
import Derived.Test.YtgehpbikkcnecaaRows
import Derived.Test.YtgehpbikkcnecaaLib
import Derived.Test.YtgehpbikkcnecaaScore
import Derived.Test.YtgehpbikkcnecaaPart
import Derived.Test.YtgehpbikkcnecaaLabels
import Derived.Test.YtgehpbikkcnecaaPairs
set_option linter.unusedVariables false
set_option linter.unusedSimpArgs false
namespace Go.Proofs.Ytgehpbikkcnecaa
open Go.RowKit Go.Er

def countsOf (l m : List Int) : Value :=
  if pairB l m then .tuple #[.agg #[.int .i64 (pairsP (both l m) l.length), .int .i64 (pairsP (eqAt m) l.length), .int .i64 (pairsP (eqAt l) l.length)], .bool true]
  else .tuple #[.agg #[.int .i64 0, .int .i64 0, .int .i64 0], .bool false]

set_option maxHeartbeats 800000 in
theorem specCountPairs_any (l m : List Int) (a c : Option Addr) (ca cc : Nat) (w : World) (ha : Ints w a l) (hc : Ints w c m) (hl : l.length ≤ 1048576) (hm : m.length ≤ 1048576) :
    Calls Try.prog 17 #[.slice a l.length ca, .slice c m.length cc] w fun e w' => e = .returned (countsOf l m) ∧ Ext w w' := by
  have hA : Ext w (w.alloc (.cells (three 0 0 0) 25)) := by (repeat' (first | assumption | exact Below.refl _ _ | refine Ext.alloc' ?_ _ | refine Ext.drew' ?_ | refine Ext.drewN' ?_ _ | refine Ext.setCell' ?_ (by first | (simp; done) | (simp; omega)) _ | (refine Ext.trans ?_ (by assumption))))
  have hB := Box.new w 25 (three 0 0 0)
  cases hp : pairB l m
  · have hf := Lib.hid (show countsOf l m = .tuple #[.agg #[.int .i64 0, .int .i64 0, .int .i64 0], .bool false] by simp [countsOf, hp])
    clear hB
    go_enter Try.func17, Try.ntmps17
    go_wp2_with (go_at_call 34; refine (l19Pair_any l m a c ca cc _ (ha.ext (by (repeat' (first | assumption | exact Below.refl _ _ | refine Ext.alloc' ?_ _ | refine Ext.drew' ?_ | refine Ext.drewN' ?_ _ | refine Ext.setCell' ?_ (by first | (simp; done) | (simp; omega)) _ | (refine Ext.trans ?_ (by assumption)))))) (hc.ext (by (repeat' (first | assumption | exact Below.refl _ _ | refine Ext.alloc' ?_ _ | refine Ext.drew' ?_ | refine Ext.drewN' ?_ _ | refine Ext.setCell' ?_ (by first | (simp; done) | (simp; omega)) _ | (refine Ext.trans ?_ (by assumption)))))) hl hm).mono ?_; rintro e w' ⟨rfl, rfl⟩)
    refine bodyPost_ret (v := .tuple #[.agg #[.int .i64 0, .int .i64 0, .int .i64 0], .bool false]) (by simp [results, Try.results17, go_sem]) rfl ⟨by rw [hf.out], by (repeat' (first | assumption | exact Below.refl _ _ | refine Ext.alloc' ?_ _ | refine Ext.drew' ?_ | refine Ext.drewN' ?_ _ | refine Ext.setCell' ?_ (by first | (simp; done) | (simp; omega)) _ | (refine Ext.trans ?_ (by assumption))))⟩
  · have hlen : l.length = m.length := by simp only [pairB, Bool.and_eq_true, decide_eq_true_eq] at hp; exact hp.2
    have hf := Lib.hid (show countsOf l m = .tuple #[.agg #[.int .i64 (pairsP (both l m) l.length), .int .i64 (pairsP (eqAt m) l.length), .int .i64 (pairsP (eqAt l) l.length)], .bool true] by simp [countsOf, hp])
    have hml := Lib.hid (meet_length hp)
    have hmp := Lib.hid (meet_pairs hp)
    have HP := Lib.hid hp; have HL := Lib.hid hlen; have HB := Lib.hid hB; clear hp hlen hB
    go_enter Try.func17, Try.ntmps17
    go_wp2_with fail
    refine (l19Pair_any l m a c ca cc _ (ha.ext (by (repeat' (first | assumption | exact Below.refl _ _ | refine Ext.alloc' ?_ _ | refine Ext.drew' ?_ | refine Ext.drewN' ?_ _ | refine Ext.setCell' ?_ (by first | (simp; done) | (simp; omega)) _ | (refine Ext.trans ?_ (by assumption)))))) (hc.ext (by (repeat' (first | assumption | exact Below.refl _ _ | refine Ext.alloc' ?_ _ | refine Ext.drew' ?_ | refine Ext.drewN' ?_ _ | refine Ext.setCell' ?_ (by first | (simp; done) | (simp; omega)) _ | (refine Ext.trans ?_ (by assumption)))))) hl hm).mono ?_
    rintro e w' ⟨rfl, rfl⟩
    rw [HP.out]
    go_wp2_with fail
    refine (meetPartitions_any l m a c ca cc _ (ha.ext (by (repeat' (first | assumption | exact Below.refl _ _ | refine Ext.alloc' ?_ _ | refine Ext.drew' ?_ | refine Ext.drewN' ?_ _ | refine Ext.setCell' ?_ (by first | (simp; done) | (simp; omega)) _ | (refine Ext.trans ?_ (by assumption)))))) (hc.ext (by (repeat' (first | assumption | exact Below.refl _ _ | refine Ext.alloc' ?_ _ | refine Ext.drew' ?_ | refine Ext.drewN' ?_ _ | refine Ext.setCell' ?_ (by first | (simp; done) | (simp; omega)) _ | (refine Ext.trans ?_ (by assumption)))))) hl hm HP.out).mono ?_
    rintro e w1 ⟨v, rfl, hv, hE1⟩
    obtain ⟨sa, cap, rfl, hsi⟩ := hv.ints
    have hb1 := HB.out.ext hE1
    go_wp2_with fail
    refine (l37Pairs_any (meet l m) sa cap _ hsi (by rw [hml.out]; exact hl)).mono ?_
    rintro e w2 ⟨rfl, hE2⟩
    go_wp2_with fail
    refine (l37Pairs_any m c cc _ (hc.ext (by (repeat' (first | assumption | exact Below.refl _ _ | refine Ext.alloc' ?_ _ | refine Ext.drew' ?_ | refine Ext.drewN' ?_ _ | refine Ext.setCell' ?_ (by first | (simp; done) | (simp; omega)) _ | (refine Ext.trans ?_ (by assumption)))))) hm).mono ?_
    rintro e w3 ⟨rfl, hE3⟩
    go_wp2_with fail
    refine (l37Pairs_any l a ca _ (ha.ext (by (repeat' (first | assumption | exact Below.refl _ _ | refine Ext.alloc' ?_ _ | refine Ext.drew' ?_ | refine Ext.drewN' ?_ _ | refine Ext.setCell' ?_ (by first | (simp; done) | (simp; omega)) _ | (refine Ext.trans ?_ (by assumption)))))) hl).mono ?_
    rintro e w4 ⟨rfl, hE4⟩
    have hb4 := (((HB.out.ext hE1).ext hE2).ext hE3).ext hE4
    have k1 := hb4.cell 0; have k2 := hb4.cell 1; have k3 := hb4.cell 2
    have g1 := hb4.free 0; have g2 := hb4.free 1; have g3 := hb4.free 2
    simp only [three, List.getElem?_toArray, List.getElem?_cons_zero, List.getElem?_cons_succ] at k1 k2 k3
    have hs := hb4.lt
    clear hb1 hb4
    go_wp2
    refine bodyPost_ret (v := .tuple #[.agg #[.int .i64 (pairsP (eqAt (meet l m)) (meet l m).length), .int .i64 (pairsP (eqAt m) m.length), .int .i64 (pairsP (eqAt l) l.length)], .bool true]) (by simp [results, Try.results17, go_sem, k1, k2, k3]) rfl ⟨?_, by (repeat' (first | assumption | exact Below.refl _ _ | refine Ext.alloc' ?_ _ | refine Ext.drew' ?_ | refine Ext.drewN' ?_ _ | refine Ext.setCell' ?_ (by first | (simp; done) | (simp; omega)) _ | (refine Ext.trans ?_ (by assumption))))⟩
    rw [hf.out, hml.out, hmp.out, HL.out]

theorem eqPairCounts_any (x y z : Int) (w : World) :
    Calls Try.prog 20 #[.agg #[.int .i64 x, .int .i64 y, .int .i64 z], .agg #[.int .i64 x, .int .i64 y, .int .i64 z]] w fun e w' => e = .returned (.bool true) ∧ Ext w w' := by
  go_enter Try.func20, Try.ntmps20
  go_wp2
  go_ret
  exact ⟨rfl, by (repeat' (first | assumption | exact Below.refl _ _ | refine Ext.alloc' ?_ _ | refine Ext.drew' ?_ | refine Ext.drewN' ?_ _ | refine Ext.setCell' ?_ (by first | (simp; done) | (simp; omega)) _ | (refine Ext.trans ?_ (by assumption))))⟩

set_option maxHeartbeats 800000 in
theorem implCountPairs_all (l m : List Int) (a c : Option Addr) (ca cc : Nat) (w : World) (ha : Ints w a l) (hc : Ints w c m) (hl : l.length ≤ 1048576) (hm : m.length ≤ 1048576) :
    Calls Try.prog 19 #[.slice a l.length ca, .slice c m.length cc] w fun e w' => e = .returned (countsOf l m) ∧ Ext w w' := by
  cases hp : pairB l m
  · have hf := Lib.hid (show countsOf l m = .tuple #[.agg #[.int .i64 0, .int .i64 0, .int .i64 0], .bool false] by simp [countsOf, hp])
    go_enter Try.func19, Try.ntmps19
    go_wp2_with (go_at_call 37; refine (arePartitions_any l m a c ca cc _ (ha.ext (by (repeat' (first | assumption | exact Below.refl _ _ | refine Ext.alloc' ?_ _ | refine Ext.drew' ?_ | refine Ext.drewN' ?_ _ | refine Ext.setCell' ?_ (by first | (simp; done) | (simp; omega)) _ | (refine Ext.trans ?_ (by assumption)))))) (hc.ext (by (repeat' (first | assumption | exact Below.refl _ _ | refine Ext.alloc' ?_ _ | refine Ext.drew' ?_ | refine Ext.drewN' ?_ _ | refine Ext.setCell' ?_ (by first | (simp; done) | (simp; omega)) _ | (refine Ext.trans ?_ (by assumption)))))) hl hm).mono ?_; rintro e w' ⟨rfl, rfl⟩)
    refine bodyPost_ret (v := .tuple #[.agg #[.int .i64 0, .int .i64 0, .int .i64 0], .bool false]) (by simp [results, Try.results19, go_sem]) rfl ⟨by rw [hf.out], by (repeat' (first | assumption | exact Below.refl _ _ | refine Ext.alloc' ?_ _ | refine Ext.drew' ?_ | refine Ext.drewN' ?_ _ | refine Ext.setCell' ?_ (by first | (simp; done) | (simp; omega)) _ | (refine Ext.trans ?_ (by assumption))))⟩
  · refine (implCountPairs_any l m a c ca cc w ha hc hl hm hp).mono ?_
    rintro e w' ⟨rfl, h⟩
    exact ⟨by simp [countsOf, hp], h⟩
end Go.Proofs.Ytgehpbikkcnecaa
