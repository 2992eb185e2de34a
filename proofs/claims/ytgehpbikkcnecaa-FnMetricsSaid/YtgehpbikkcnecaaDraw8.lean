/- The walks of the drawer: counts. -/
import Derived.Test.YtgehpbikkcnecaaDraw7
import Derived.Test.YtgehpbikkcnecaaLawCounts
set_option linter.unusedVariables false
set_option linter.unusedSimpArgs false
namespace Go.Proofs.Ytgehpbikkcnecaa
open Go.RowKit Go.Er

theorem _root_.Go.Er.Box.grown {w w' : World} {b d : Nat} {t : TypeId} {vs : Array Value} (h : Box w b t vs) (hg : w.grownBy w' (some d)) (hne : b ≠ d) : Box w' b t vs := by
  have hs := h.lt
  unfold Box at *
  rw [hg.block b hs (by simp; omega)]; exact h
theorem grown_set {w w4 : World} {r : Option Nat} (h : w.grownBy w4 r) {b : Nat} (hb : w.heap.size ≤ b) (j : Nat) (u : Value) : w.grownBy (w4.setCell ⟨b, j, none⟩ u) r :=
  ⟨h.os, h.tape, h.output, by simpa using h.size, fun k hk hr => (heap_setCell_other w4 ⟨b, j, none⟩ k u (by simp; omega)).trans (h.block k hk hr)⟩
/-- Some struct of three numbers; beside the drawer nothing old has changed. -/
def SomeCounts (w : World) (d : Nat) (e : Ending) (w' : World) : Prop :=
  ∃ x y z : Int, e = .returned (.agg #[.int .i64 x, .int .i64 y, .int .i64 z]) ∧ w.grownBy w' (some d)

set_option maxHeartbeats 1600000 in
theorem l37Counts_any (d n cap : Nat) (a : Option Addr) (w : World) (hd : d < w.heap.size) (hc : Cur w d a n cap) :
    Calls Try.prog 49 #[.pointer (some ⟨d, 0, none⟩)] w (SomeCounts w d) := by
  have HC0 : Hid (Cur (w.alloc (.cells (three 0 0 0) 25)) d a n cap) := hc.grown w.heap.size hd (Ext.alloc w _)
  have HB0 := Lib.hid (Box.new w 25 (three 0 0 0))
  have HG0 := Lib.hid (grown_of_ext (Ext.alloc w (.cells (three 0 0 0) 25)) (some d))
  clear hc
  go_enter Try.func49, Try.ntmps49
  go_wp2_with fail
  refine (l19Labels_any 6 (by omega) d n cap a _ (by simp; omega) HC0.out).mono ?_
  rintro e w1 ⟨v, l, rfl, hl, hown, hc1, hg1⟩
  obtain ⟨a1, c1, rfl, _⟩ := hown.ints
  have hs1 := hg1.size
  simp at hs1
  have HBy := Lib.hid (hown.beyond (d := d) (by simp; omega))
  have HO1 := Lib.hid hown; have HC1 := Lib.hid hc1; have HG1 := Lib.hid (grown_trans HG0.out hg1)
  have HB1 := Lib.hid (HB0.out.grown hg1 (by omega))
  clear hown hc1 hg1 HC0 HB0 HG0
  go_wp2_with fail
  refine (l19Labels_any 6 (by omega) d n cap a _ (by omega) HC1.out).mono ?_
  rintro e w2 ⟨v, m, rfl, hm, hown, hc2, hg2⟩
  obtain ⟨a2, c2, rfl, hi2⟩ := hown.ints
  have hs2 := hg2.size
  have HI1 := Lib.hid (HO1.out.kept (v := .slice (some ⟨d, 0, none⟩) 0 0) hg2 HBy.out).ints1
  have HI2 := Lib.hid hi2; have HC2 := Lib.hid hc2; have HG2 := Lib.hid (grown_trans HG1.out hg2)
  have HB2 := Lib.hid (HB1.out.grown hg2 (by omega))
  clear hown hc2 hg2 hi2 HC1 HB1 HG1 HO1 HBy
  obtain ⟨x, y, z, b, hcf⟩ := countsOf_form l m
  have HCF := Lib.hid hcf; clear hcf
  have hcall := specCountPairs_any l m a1 a2 c1 c2 w2 HI1.out HI2.out (by omega) (by omega)
  rw [hl, hm] at hcall
  have HCALL := Lib.hid hcall
  clear hcall
  go_wp2_with fail
  refine HCALL.out.mono ?_
  rintro e w3 ⟨rfl, hE3⟩
  rw [HCF.out]
  have hs3 := hE3.size
  have HC3 := Lib.hid ((HC2.out.grown w2.heap.size (by omega) hE3).grown w3.heap.size (by omega) (Ext.alloc w3 (.cells (three x y z) 25)))
  have HG3 := Lib.hid (grown_trans (grown_trans HG2.out (grown_of_ext hE3 _)) (grown_of_ext (Ext.alloc w3 (.cells (three x y z) 25)) _))
  have HB3 := Lib.hid ((HB2.out.ext hE3).alloc (.cells (three x y z) 25))
  have HX3 := Lib.hid (Box.new w3 25 (three x y z))
  clear hE3 HC2 HB2 HG2 HI1 HI2 HCF HCALL
  go_wp2_with fail
  refine (l1Below_any 12 (by omega) (by omega) d n cap a _ HC3.out).mono ?_
  rintro e w4 ⟨⟨v, rfl, hv⟩, hc4, hg4⟩
  obtain ⟨q, rfl⟩ := Int.eq_ofNat_of_zero_le hv.1
  have hq := hv.2.1 (by omega)
  have HB4 := Lib.hid (HB3.out.grown hg4 (by omega)); have HX4 := Lib.hid (HX3.out.grown hg4 (by omega))
  have HC4 := Lib.hid hc4; have HG4 := Lib.hid (grown_trans HG3.out hg4)
  clear hv hc4 hg4 HC3 HB3 HX3 HG3
  have hw3 : w.heap.size ≤ w3.heap.size := by omega
  by_cases h0 : q = 0
  · subst h0
    have k1 := HX4.out.cell 0; have k2 := HX4.out.cell 1; have k3 := HX4.out.cell 2; have f1 := HX4.out.free 0; have f2 := HX4.out.free 1; have f3 := HX4.out.free 2; have hx := HX4.out.lt
    have j1 := HB4.out.cell 0; have j2 := HB4.out.cell 1; have j3 := HB4.out.cell 2; have g1 := HB4.out.free 0; have g2 := HB4.out.free 1; have g3 := HB4.out.free 2; have hb := HB4.out.lt
    simp only [three, List.getElem?_toArray, List.getElem?_cons_zero, List.getElem?_cons_succ] at k1 k2 k3 j1 j2 j3
    go_wp2_with fail
    refine bodyPost_ret (v := .agg #[.int .i64 (wrap64 (x + 9)), .int .i64 y, .int .i64 z]) (by simp [results, Try.results49, go_sem, j1, j2, j3, k1, k2, k3]) rfl ?_
    refine (⟨wrap64 (x + 9), y, z, rfl, ?_⟩ : SomeCounts w d _ _)
    repeat' (first | exact HG4.out | refine grown_set ?_ (by omega) _ _)
  · by_cases h1 : q = 1
    · subst h1
      go_wp2_with fail
      refine (l1PickInt_any [-1, 1001, 0] (by decide) (by decide) _ _ d n cap a _ (HC4.out.grown w4.heap.size HC4.out.lt (Ext.alloc w4 _)) (ints_fresh _ _ _) (by rintro b o h; have := HC4.out.lt; simp at h; omega)).mono ?_
      rintro e w5 ⟨⟨v, rfl, hv⟩, hc5, hg5⟩
      have HB5 := Lib.hid ((HB4.out.alloc _).grown hg5 (by omega)); have HX5 := Lib.hid ((HX4.out.alloc _).grown hg5 (by omega))
      have HG5 := Lib.hid (grown_trans (grown_trans HG4.out (grown_of_ext (Ext.alloc w4 _) _)) hg5)
      clear hv hc5 hg5 HB4 HX4 HG4 HC4
      have k1 := HX5.out.cell 0; have k2 := HX5.out.cell 1; have k3 := HX5.out.cell 2; have f1 := HX5.out.free 0; have f2 := HX5.out.free 1; have f3 := HX5.out.free 2; have hx := HX5.out.lt
      have j1 := HB5.out.cell 0; have j2 := HB5.out.cell 1; have j3 := HB5.out.cell 2; have g1 := HB5.out.free 0; have g2 := HB5.out.free 1; have g3 := HB5.out.free 2; have hb := HB5.out.lt
      simp only [three, List.getElem?_toArray, List.getElem?_cons_zero, List.getElem?_cons_succ] at k1 k2 k3 j1 j2 j3
      go_wp2_with fail
      refine bodyPost_ret (v := .agg #[.int .i64 (x), .int .i64 v, .int .i64 z]) (by simp [results, Try.results49, go_sem, j1, j2, j3, k1, k2, k3]) rfl ?_
      refine (⟨x, v, z, rfl, ?_⟩ : SomeCounts w d _ _)
      repeat' (first | exact HG5.out | refine grown_set ?_ (by omega) _ _)
    · by_cases h2 : q = 2
      · subst h2
        have k1 := HX4.out.cell 0; have k2 := HX4.out.cell 1; have k3 := HX4.out.cell 2; have f1 := HX4.out.free 0; have f2 := HX4.out.free 1; have f3 := HX4.out.free 2; have hx := HX4.out.lt
        have j1 := HB4.out.cell 0; have j2 := HB4.out.cell 1; have j3 := HB4.out.cell 2; have g1 := HB4.out.free 0; have g2 := HB4.out.free 1; have g3 := HB4.out.free 2; have hb := HB4.out.lt
        simp only [three, List.getElem?_toArray, List.getElem?_cons_zero, List.getElem?_cons_succ] at k1 k2 k3 j1 j2 j3
        go_wp2_with fail
        refine bodyPost_ret (v := .agg #[.int .i64 (0), .int .i64 0, .int .i64 0]) (by simp [results, Try.results49, go_sem, j1, j2, j3, k1, k2, k3]) rfl ?_
        refine (⟨0, 0, 0, rfl, ?_⟩ : SomeCounts w d _ _)
        repeat' (first | exact HG4.out | refine grown_set ?_ (by omega) _ _)
      · have t0 : ¬ (q : Int) = 0 := by omega
        have t1 : ¬ (q : Int) = 1 := by omega
        have t2 : ¬ (q : Int) = 2 := by omega
        have k1 := HX4.out.cell 0; have k2 := HX4.out.cell 1; have k3 := HX4.out.cell 2; have f1 := HX4.out.free 0; have f2 := HX4.out.free 1; have f3 := HX4.out.free 2; have hx := HX4.out.lt
        have j1 := HB4.out.cell 0; have j2 := HB4.out.cell 1; have j3 := HB4.out.cell 2; have g1 := HB4.out.free 0; have g2 := HB4.out.free 1; have g3 := HB4.out.free 2; have hb := HB4.out.lt
        simp only [three, List.getElem?_toArray, List.getElem?_cons_zero, List.getElem?_cons_succ] at k1 k2 k3 j1 j2 j3
        go_wp2_with fail
        refine bodyPost_ret (v := .agg #[.int .i64 (x), .int .i64 y, .int .i64 z]) (by simp [results, Try.results49, go_sem, j1, j2, j3, k1, k2, k3]) rfl ?_
        refine (⟨x, y, z, rfl, ?_⟩ : SomeCounts w d _ _)
        repeat' (first | exact HG4.out | refine grown_set ?_ (by omega) _ _)

/-- Some struct of three numbers; nothing old has changed. -/
def SomeCounts0 (w : World) (e : Ending) (w' : World) : Prop :=
  ∃ x y z : Int, e = .returned (.agg #[.int .i64 x, .int .i64 y, .int .i64 z]) ∧ Ext w w'

set_option maxHeartbeats 800000 in
theorem drawPrecision_any (n cap : Nat) (hn : n ≤ 1048576) (a : Option Addr) (w : World) (hb : BytesAt w a n) :
    Calls Try.prog 28 #[.slice a n cap] w (SomeCounts0 w) := by
  have HB := Lib.hid (show BytesAt (w.alloc (.cells (three 0 0 0) 25)) a n from fun i hi => by
    obtain ⟨b, o, x, h1, h2, h3⟩ := hb i hi
    exact ⟨b, o, x, h1, (Ext.alloc w _).at h2, h3⟩)
  clear hb
  have HB0 := Lib.hid (Box.new w 25 (three 0 0 0))
  go_enter Try.func28, Try.ntmps28
  go_wp2_with fail
  refine (l1New_any n cap hn a _ HB.out).mono ?_
  rintro e w1 ⟨rfl, hc1, hE1⟩
  have hd1 := hc1.lt
  have HC1 := Lib.hid hc1; have HE1 := Lib.hid ((Ext.alloc w _).trans hE1)
  have HB1 := Lib.hid (HB0.out.ext hE1)
  clear hc1 hE1 HB HB0
  simp at hd1
  have hsz : (w.alloc (.cells (three 0 0 0) 25)).heap.size = w.heap.size + 1 := by simp
  rw [hsz] at HC1
  go_wp2_with fail
  refine (l37Counts_any (w.heap.size + 1) n cap a w1 HC1.out.lt HC1.out).mono ?_
  rintro e w2 ⟨x, y, z, rfl, hg2⟩
  have HB2 := Lib.hid (HB1.out.grown hg2 (by omega))
  have HE2 := Lib.hid (ext_of_grown HE1.out hg2 (by omega))
  clear hg2 HC1 HE1 HB1
  have j1 := HB2.out.cell 0; have j2 := HB2.out.cell 1; have j3 := HB2.out.cell 2; have g1 := HB2.out.free 0; have g2 := HB2.out.free 1; have g3 := HB2.out.free 2; have hb := HB2.out.lt
  simp only [three, List.getElem?_toArray, List.getElem?_cons_zero, List.getElem?_cons_succ] at j1 j2 j3
  go_wp2_with fail
  refine bodyPost_ret (v := .agg #[.int .i64 x, .int .i64 y, .int .i64 z]) (by simp [results, Try.results28, go_sem, j1, j2, j3]) rfl ?_
  refine (⟨x, y, z, rfl, ?_⟩ : SomeCounts0 w _ _)
  have h2 := HE2.out
  (repeat' (first | assumption | exact Below.refl _ _ | refine Ext.alloc' ?_ _ | refine Ext.drew' ?_ | refine Ext.drewN' ?_ _ | refine Ext.setCell' ?_ (by first | (simp; done) | (simp; omega)) _ | (refine Ext.trans ?_ (by assumption))))
end Go.Proofs.Ytgehpbikkcnecaa
