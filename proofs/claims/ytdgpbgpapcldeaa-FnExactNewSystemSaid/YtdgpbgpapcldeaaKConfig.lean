/- The type Config: its datum, how it lies in memory, its copies, sizes and equality. -/
import Derived.Test.YtdgpbgpapcldeaaRows
import Derived.Test.YtdgpbgpapcldeaaDLib
import Derived.Test.YtdgpbgpapcldeaaKIntS
import Derived.Test.YtdgpbgpapcldeaaKRuleSet
import Derived.Test.YtdgpbgpapcldeaaKScoring
set_option linter.unusedVariables false
set_option linter.unusedSimpArgs false
namespace Go.Proofs.Ytdgpbgpapcldeaa
open Go.RowKit Go.Er Go.BigFrame
structure DConfig where
  rules : DRuleSet
  scoring : DScoring
  survivors : (List Int)
def ConfigR : Rel DConfig := fun B w vs x => ∃ (p0 : Option Addr) (c0 : Nat) (p1 : Option Addr) (c1 : Nat) (p2 : Option Addr) (c2 : Nat), vs = [.slice p0 x.rules.rules.length c0, .slice p1 x.scoring.weights.length c1, .int .i64 x.scoring.bias, .slice p2 x.survivors.length c2] ∧ RowR 1 RuleR B w p0 x.rules.rules ∧ RowR 1 IntR B w p1 x.scoring.weights ∧ RowR 1 IntR B w p2 x.survivors
theorem good_Config : GoodR ConfigR := ⟨fun hk ⟨p0, c0, p1, c1, p2, c2, h0, r0, r1, r2⟩ => ⟨p0, c0, p1, c1, p2, c2, h0, r0.keep good_Rule hk, r1.keep good_int hk, r2.keep good_int hk⟩, fun hB ⟨p0, c0, p1, c1, p2, c2, h0, r0, r1, r2⟩ => ⟨p0, c0, p1, c1, p2, c2, h0, r0.mono good_Rule hB, r1.mono good_int hB, r2.mono good_int hB⟩⟩
def SmallConfig (x : DConfig) : Prop := SmallRuleSet x.rules ∧ SmallScoring x.scoring ∧ SmallL (fun y => True) x.survivors

set_option maxHeartbeats 800000 in
theorem szConfig_any (x : DConfig) (left : Int) (h0 : 0 ≤ left) (h9 : left ≤ 1048576) (vs : List Value) (B : Nat) (w : World) (h : ConfigR B w vs x) :
    Calls Try.prog 16 #[.agg vs.toArray, .int .i64 left] w (Sized left (SmallConfig x) w) := by
  obtain ⟨p0, c0, p1, c1, p2, c2, rfl, r0, r1, r2⟩ := h
  have HB := Lib.hid (Box.new w 40 #[.slice p0 x.rules.rules.length c0, .slice p1 x.scoring.weights.length c1, .int .i64 x.scoring.bias, .slice p2 x.survivors.length c2])
  have HE := Lib.hid (Ext.alloc w (.cells #[.slice p0 x.rules.rules.length c0, .slice p1 x.scoring.weights.length c1, .int .i64 x.scoring.bias, .slice p2 x.survivors.length c2] 40))
  have R0 := Lib.hid (r0.ext good_Rule HE.out)
  have R1 := Lib.hid (r1.ext good_int HE.out)
  have R2 := Lib.hid (r2.ext good_int HE.out)
  clear r0 r1 r2
  go_enter Try.func16, Try.ntmps16
  go_wp2_with fail
  refine (szRuleSet_any x.rules left (by omega) (by omega) [.slice p0 x.rules.rules.length c0] B _ ⟨p0, c0, rfl, R0.out⟩).mono ?_
  rintro e w0 ⟨v0, rfl, hv0, hm0, hp0, hE0⟩
  have HP0 := Lib.hid hp0; have HE0 := Lib.hid (HE.out.trans hE0)
  replace HB := Lib.hid (HB.out.ext hE0)
  replace R0 := Lib.hid (R0.out.ext good_Rule hE0)
  replace R1 := Lib.hid (R1.out.ext good_int hE0)
  replace R2 := Lib.hid (R2.out.ext good_int hE0)
  clear hp0 hE0
  by_cases hn0 : v0 < 0
  · go_wp2_with fail
    go_ret
    exact ⟨-1, rfl, by omega, by omega, fun h => absurd h (by omega), HE0.out⟩
  have k0 := HB.out.cell 0
  have k1 := HB.out.cell 1
  have k2 := HB.out.cell 2
  have k3 := HB.out.cell 3
  have klt := HB.out.lt
  simp only [List.getElem?_toArray, List.getElem?_cons_zero, List.getElem?_cons_succ] at k0 k1 k2 k3
  go_wp2_with fail
  clear k0 k1 k2 k3 klt
  refine (szScoring_any x.scoring v0 (by omega) (by omega) [.slice p1 x.scoring.weights.length c1, .int .i64 x.scoring.bias] B _ ⟨p1, c1, rfl, R1.out⟩).mono ?_
  rintro e w1 ⟨v1, rfl, hv1, hm1, hp1, hE1⟩
  have HP1 := Lib.hid hp1; have HE1 := Lib.hid (HE0.out.trans hE1)
  replace HB := Lib.hid (HB.out.ext hE1)
  replace R0 := Lib.hid (R0.out.ext good_Rule hE1)
  replace R1 := Lib.hid (R1.out.ext good_int hE1)
  replace R2 := Lib.hid (R2.out.ext good_int hE1)
  clear hp1 hE1
  by_cases hn1 : v1 < 0
  · go_wp2_with fail
    go_ret
    exact ⟨-1, rfl, by omega, by omega, fun h => absurd h (by omega), HE1.out⟩
  have k0 := HB.out.cell 0
  have k1 := HB.out.cell 1
  have k2 := HB.out.cell 2
  have k3 := HB.out.cell 3
  have klt := HB.out.lt
  simp only [List.getElem?_toArray, List.getElem?_cons_zero, List.getElem?_cons_succ] at k0 k1 k2 k3
  go_wp2_with fail
  clear k0 k1 k2 k3 klt
  refine (szIntS_any x.survivors v1 (by omega) (by omega) p2 c2 B _ R2.out).mono ?_
  rintro e w2 ⟨v2, rfl, hv2, hm2, hp2, hE2⟩
  have HP2 := Lib.hid hp2; have HE2 := Lib.hid (HE1.out.trans hE2)
  replace HB := Lib.hid (HB.out.ext hE2)
  replace R0 := Lib.hid (R0.out.ext good_Rule hE2)
  replace R1 := Lib.hid (R1.out.ext good_int hE2)
  replace R2 := Lib.hid (R2.out.ext good_int hE2)
  clear hp2 hE2
  by_cases hn2 : v2 < 0
  · go_wp2_with fail
    go_ret
    exact ⟨-1, rfl, by omega, by omega, fun h => absurd h (by omega), HE2.out⟩
  go_wp2_with fail
  go_ret
  exact ⟨v2, rfl, by omega, by omega, fun _ => ⟨HP0.out (by omega), HP1.out (by omega), HP2.out (by omega)⟩, HE2.out⟩

set_option maxHeartbeats 1600000 in
theorem toConfig_any (x : DConfig) (hs : SmallConfig x) (vs : List Value) (w : World) (h : ConfigR 0 w vs x) :
    Calls Try.prog 18 #[.agg vs.toArray] w (Made ConfigR w x) := by
  obtain ⟨p0, c0, p1, c1, p2, c2, rfl, r0, r1, r2⟩ := h
  have HS := Lib.hid hs; clear hs
  have R0 := Lib.hid r0
  have R1 := Lib.hid r1
  have R2 := Lib.hid r2
  clear r0 r1 r2
  go_enter Try.func18, Try.ntmps18
  go_wp2_with fail
  refine (toRuleSet_any x.rules HS.out.1 [.slice p0 x.rules.rules.length c0] _ ⟨p0, c0, rfl, (R0.out.ext good_Rule (by (repeat' (first | with_reducible assumption | with_reducible exact Below.refl _ _ | (with_reducible refine Ext.alloc' ?_ _) | (with_reducible refine Ext.drew' ?_) | (with_reducible refine Ext.drewN' ?_ _) | (with_reducible refine Ext.set_ ?_ (by first | omega | (simp; done) | (simp; omega)) _ _) | (refine Ext.trans ?_ (by with_reducible assumption))))))⟩).mono ?_
  rintro e w0 ⟨us, rfl, ⟨s0, d0, rfl, hr0⟩, hE0⟩
  have HN1' : Hid (Box w0 w.heap.size 40 #[.slice p0 x.rules.rules.length c0, .slice p1 x.scoring.weights.length c1, .int .i64 x.scoring.bias, .slice p2 x.survivors.length c2]) := (Box.alloc (Box.alloc (Box.new' _ _ #[.slice p0 x.rules.rules.length c0, .slice p1 x.scoring.weights.length c1, .int .i64 x.scoring.bias, .slice p2 x.survivors.length c2] _ (by simp)) _) _).ext hE0
  have HN2' : Hid (Box w0 (w.heap.size + 1) 48 #[.slice none 0 0, .slice none 0 0, .int .i64 0, .slice none 0 0]) := (Box.alloc (Box.new' _ _ #[.slice none 0 0, .slice none 0 0, .int .i64 0, .slice none 0 0] _ (by simp)) _).ext hE0
  have HN3' : Hid (Box w0 (w.heap.size + 1 + 1) 48 #[.slice none 0 0, .slice none 0 0, .int .i64 0, .slice none 0 0]) := (Box.new' _ _ #[.slice none 0 0, .slice none 0 0, .int .i64 0, .slice none 0 0] _ (by simp)).ext hE0
  have S0 := Lib.hid (hr0.mono good_Rule (B' := w.heap.size + 3) (by simp))
  clear hr0
  have HE' : Hid (Ext w w0) := (show Ext w w0 from by have h9 := hE0; (repeat' (first | with_reducible assumption | with_reducible exact Below.refl _ _ | (with_reducible refine Ext.alloc' ?_ _) | (with_reducible refine Ext.drew' ?_) | (with_reducible refine Ext.drewN' ?_ _) | (with_reducible refine Ext.set_ ?_ (by first | omega | (simp; done) | (simp; omega)) _ _) | (refine Ext.trans ?_ (by with_reducible assumption)))))
  have HE := HE'; have HN1 := HN1'; have HN2 := HN2'; have HN3 := HN3'
  clear HE' HN1' HN2' HN3' hE0
  have k0 := HN1.out.cell 0
  have k1 := HN1.out.cell 1
  have k2 := HN1.out.cell 2
  have k3 := HN1.out.cell 3
  have klt := HN1.out.lt
  simp only [List.getElem?_toArray, List.getElem?_cons_zero, List.getElem?_cons_succ] at k0 k1 k2 k3
  have m0 := HN3.out.cell 0
  have mf0 := HN3.out.free 0
  have m1 := HN3.out.cell 1
  have mf1 := HN3.out.free 1
  have m2 := HN3.out.cell 2
  have mf2 := HN3.out.free 2
  have m3 := HN3.out.cell 3
  have mf3 := HN3.out.free 3
  have mlt := HN3.out.lt
  simp only [List.getElem?_toArray, List.getElem?_cons_zero, List.getElem?_cons_succ] at m0 m1 m2 m3
  go_wp2_with fail
  clear k0 k1 k2 k3 klt
  clear m0 mf0 m1 mf1 m2 mf2 m3 mf3 mlt
  refine (toScoring_any x.scoring HS.out.2.1 [.slice p1 x.scoring.weights.length c1, .int .i64 x.scoring.bias] _ ⟨p1, c1, rfl, (R1.out.ext good_int (by have h8 := HE.out; (repeat' (first | with_reducible assumption | with_reducible exact Below.refl _ _ | (with_reducible refine Ext.alloc' ?_ _) | (with_reducible refine Ext.drew' ?_) | (with_reducible refine Ext.drewN' ?_ _) | (with_reducible refine Ext.set_ ?_ (by first | omega | (simp; done) | (simp; omega)) _ _) | (refine Ext.trans ?_ (by with_reducible assumption))))))⟩).mono ?_
  rintro e w1 ⟨us, rfl, ⟨s1, d1, rfl, hr1⟩, hE1⟩
  have HN1' : Hid (Box w1 w.heap.size 40 #[.slice p0 x.rules.rules.length c0, .slice p1 x.scoring.weights.length c1, .int .i64 x.scoring.bias, .slice p2 x.survivors.length c2]) := (Box.setOther (HN1.out) (by omega) _).ext hE1
  have HN2' : Hid (Box w1 (w.heap.size + 1) 48 #[.slice none 0 0, .slice none 0 0, .int .i64 0, .slice none 0 0]) := (Box.setOther (HN2.out) (by omega) _).ext hE1
  have HN3' : Hid (Box w1 (w.heap.size + 1 + 1) 48 #[.slice s0 x.rules.rules.length d0, .slice none 0 0, .int .i64 0, .slice none 0 0]) := (Box.set' (vs' := #[.slice s0 x.rules.rules.length d0, .slice none 0 0, .int .i64 0, .slice none 0 0]) (HN3.out) (i := 0) (u := .slice s0 x.rules.rules.length d0) rfl).ext hE1
  have S1 := Lib.hid (hr1.mono good_int (B' := w.heap.size + 3) (by have h7 := HN3.out.lt; simp; omega))
  clear hr1
  replace S0 : Hid (RowR 1 RuleR (w.heap.size + 3) w1 s0 x.rules.rules) := (S0.out.keep good_Rule (Keep.trans (by (repeat' (first | with_reducible exact Keep.refl _ _ | refine Keep.set_trans ?_ (by omega) _ _))) (Keep.of_ext hE1)))
  have HE' : Hid (Ext w w1) := (show Ext w w1 from by have h9 := hE1; have h8 := HE.out; (repeat' (first | with_reducible assumption | with_reducible exact Below.refl _ _ | (with_reducible refine Ext.alloc' ?_ _) | (with_reducible refine Ext.drew' ?_) | (with_reducible refine Ext.drewN' ?_ _) | (with_reducible refine Ext.set_ ?_ (by first | omega | (simp; done) | (simp; omega)) _ _) | (refine Ext.trans ?_ (by with_reducible assumption)))))
  clear HN1 HN2 HN3 HE
  have HE := HE'; have HN1 := HN1'; have HN2 := HN2'; have HN3 := HN3'
  clear HE' HN1' HN2' HN3' hE1
  have k0 := HN1.out.cell 0
  have k1 := HN1.out.cell 1
  have k2 := HN1.out.cell 2
  have k3 := HN1.out.cell 3
  have klt := HN1.out.lt
  simp only [List.getElem?_toArray, List.getElem?_cons_zero, List.getElem?_cons_succ] at k0 k1 k2 k3
  have m0 := HN3.out.cell 0
  have mf0 := HN3.out.free 0
  have m1 := HN3.out.cell 1
  have mf1 := HN3.out.free 1
  have m2 := HN3.out.cell 2
  have mf2 := HN3.out.free 2
  have m3 := HN3.out.cell 3
  have mf3 := HN3.out.free 3
  have mlt := HN3.out.lt
  simp only [List.getElem?_toArray, List.getElem?_cons_zero, List.getElem?_cons_succ] at m0 m1 m2 m3
  go_wp2_with fail
  clear k0 k1 k2 k3 klt
  clear m0 mf0 m1 mf1 m2 mf2 m3 mf3 mlt
  refine (toIntS_any x.survivors HS.out.2.2 p2 c2 _ (R2.out.ext good_int (by have h8 := HE.out; (repeat' (first | with_reducible assumption | with_reducible exact Below.refl _ _ | (with_reducible refine Ext.alloc' ?_ _) | (with_reducible refine Ext.drew' ?_) | (with_reducible refine Ext.drewN' ?_ _) | (with_reducible refine Ext.set_ ?_ (by first | omega | (simp; done) | (simp; omega)) _ _) | (refine Ext.trans ?_ (by with_reducible assumption))))))).mono ?_
  rintro e w2 ⟨s2, d2, rfl, hr2, hE2⟩
  have HN1' : Hid (Box w2 w.heap.size 40 #[.slice p0 x.rules.rules.length c0, .slice p1 x.scoring.weights.length c1, .int .i64 x.scoring.bias, .slice p2 x.survivors.length c2]) := (Box.setOther (Box.setOther (HN1.out) (by omega) _) (by omega) _).ext hE2
  have HN2' : Hid (Box w2 (w.heap.size + 1) 48 #[.slice none 0 0, .slice none 0 0, .int .i64 0, .slice none 0 0]) := (Box.setOther (Box.setOther (HN2.out) (by omega) _) (by omega) _).ext hE2
  have HN3' : Hid (Box w2 (w.heap.size + 1 + 1) 48 #[.slice s0 x.rules.rules.length d0, .slice s1 x.scoring.weights.length d1, .int .i64 x.scoring.bias, .slice none 0 0]) := (Box.set' (vs' := #[.slice s0 x.rules.rules.length d0, .slice s1 x.scoring.weights.length d1, .int .i64 x.scoring.bias, .slice none 0 0]) (Box.set' (vs' := #[.slice s0 x.rules.rules.length d0, .slice s1 x.scoring.weights.length d1, .int .i64 0, .slice none 0 0]) (HN3.out) (i := 1) (u := .slice s1 x.scoring.weights.length d1) rfl) (i := 2) (u := .int .i64 x.scoring.bias) rfl).ext hE2
  have S2 := Lib.hid (hr2.mono good_int (B' := w.heap.size + 3) (by have h7 := HN3.out.lt; simp; omega))
  clear hr2
  replace S0 : Hid (RowR 1 RuleR (w.heap.size + 3) w2 s0 x.rules.rules) := (S0.out.keep good_Rule (Keep.trans (by (repeat' (first | with_reducible exact Keep.refl _ _ | refine Keep.set_trans ?_ (by omega) _ _))) (Keep.of_ext hE2)))
  replace S1 : Hid (RowR 1 IntR (w.heap.size + 3) w2 s1 x.scoring.weights) := (S1.out.keep good_int (Keep.trans (by (repeat' (first | with_reducible exact Keep.refl _ _ | refine Keep.set_trans ?_ (by omega) _ _))) (Keep.of_ext hE2)))
  have HE' : Hid (Ext w w2) := (show Ext w w2 from by have h9 := hE2; have h8 := HE.out; (repeat' (first | with_reducible assumption | with_reducible exact Below.refl _ _ | (with_reducible refine Ext.alloc' ?_ _) | (with_reducible refine Ext.drew' ?_) | (with_reducible refine Ext.drewN' ?_ _) | (with_reducible refine Ext.set_ ?_ (by first | omega | (simp; done) | (simp; omega)) _ _) | (refine Ext.trans ?_ (by with_reducible assumption)))))
  clear HN1 HN2 HN3 HE
  have HE := HE'; have HN1 := HN1'; have HN2 := HN2'; have HN3 := HN3'
  clear HE' HN1' HN2' HN3' hE2
  have k0 := HN1.out.cell 0
  have k1 := HN1.out.cell 1
  have k2 := HN1.out.cell 2
  have k3 := HN1.out.cell 3
  have klt := HN1.out.lt
  simp only [List.getElem?_toArray, List.getElem?_cons_zero, List.getElem?_cons_succ] at k0 k1 k2 k3
  have m0 := HN3.out.cell 0
  have mf0 := HN3.out.free 0
  have m1 := HN3.out.cell 1
  have mf1 := HN3.out.free 1
  have m2 := HN3.out.cell 2
  have mf2 := HN3.out.free 2
  have m3 := HN3.out.cell 3
  have mf3 := HN3.out.free 3
  have mlt := HN3.out.lt
  simp only [List.getElem?_toArray, List.getElem?_cons_zero, List.getElem?_cons_succ] at m0 m1 m2 m3
  have l0 := HN2.out.cell 0
  have lf0 := HN2.out.free 0
  have l1 := HN2.out.cell 1
  have lf1 := HN2.out.free 1
  have l2 := HN2.out.cell 2
  have lf2 := HN2.out.free 2
  have l3 := HN2.out.cell 3
  have lf3 := HN2.out.free 3
  have llt := HN2.out.lt
  simp only [List.getElem?_toArray, List.getElem?_cons_zero, List.getElem?_cons_succ] at l0 l1 l2 l3
  go_wp2_with fail
  refine bodyPost_ret (v := .agg #[.slice s0 x.rules.rules.length d0, .slice s1 x.scoring.weights.length d1, .int .i64 x.scoring.bias, .slice s2 x.survivors.length d2]) (by simp [results, Try.results18, go_sem, m0, m1, m2, m3, l0, l1, l2, l3]) rfl ?_
  refine ⟨[.slice s0 x.rules.rules.length d0, .slice s1 x.scoring.weights.length d1, .int .i64 x.scoring.bias, .slice s2 x.survivors.length d2], rfl, ?_, ?_⟩
  rotate_left
  · have h8 := HE.out; (repeat' (first | with_reducible assumption | with_reducible exact Below.refl _ _ | (with_reducible refine Ext.alloc' ?_ _) | (with_reducible refine Ext.drew' ?_) | (with_reducible refine Ext.drewN' ?_ _) | (with_reducible refine Ext.set_ ?_ (by first | omega | (simp; done) | (simp; omega)) _ _) | (refine Ext.trans ?_ (by with_reducible assumption))))
  exact ⟨s0, d0, s1, d1, s2, d2, rfl, (S0.out.keep good_Rule (by (repeat' (first | with_reducible exact Keep.refl _ _ | refine Keep.set_trans ?_ (by omega) _ _)))).mono good_Rule (by omega), (S1.out.keep good_int (by (repeat' (first | with_reducible exact Keep.refl _ _ | refine Keep.set_trans ?_ (by omega) _ _)))).mono good_int (by omega), (S2.out.keep good_int (by (repeat' (first | with_reducible exact Keep.refl _ _ | refine Keep.set_trans ?_ (by omega) _ _)))).mono good_int (by omega)⟩

set_option maxHeartbeats 800000 in
theorem eqConfig_any (x : DConfig) (us vs : List Value) (w : World) (ha : ConfigR 0 w us x) (hb : ConfigR 0 w vs x) :
    Calls Try.prog 20 #[.agg us.toArray, .agg vs.toArray] w (Yes w) := by
  obtain ⟨p0a, c0a, p1a, c1a, p2a, c2a, rfl, r0a, r1a, r2a⟩ := ha
  obtain ⟨p0b, c0b, p1b, c1b, p2b, c2b, rfl, r0b, r1b, r2b⟩ := hb
  have R0a := Lib.hid r0a; have R0b := Lib.hid r0b; clear r0a r0b
  have R1a := Lib.hid r1a; have R1b := Lib.hid r1b; clear r1a r1b
  have R2a := Lib.hid r2a; have R2b := Lib.hid r2b; clear r2a r2b
  go_enter Try.func20, Try.ntmps20
  go_wp2_with fail
  refine (eqRuleSet_any x.rules [.slice p0a x.rules.rules.length c0a] [.slice p0b x.rules.rules.length c0b] _ ⟨p0a, c0a, rfl, (R0a.out.ext good_Rule (by (repeat' (first | with_reducible assumption | with_reducible exact Below.refl _ _ | (with_reducible refine Ext.alloc' ?_ _) | (with_reducible refine Ext.drew' ?_) | (with_reducible refine Ext.drewN' ?_ _) | (with_reducible refine Ext.set_ ?_ (by first | omega | (simp; done) | (simp; omega)) _ _) | (refine Ext.trans ?_ (by with_reducible assumption))))))⟩ ⟨p0b, c0b, rfl, (R0b.out.ext good_Rule (by (repeat' (first | with_reducible assumption | with_reducible exact Below.refl _ _ | (with_reducible refine Ext.alloc' ?_ _) | (with_reducible refine Ext.drew' ?_) | (with_reducible refine Ext.drewN' ?_ _) | (with_reducible refine Ext.set_ ?_ (by first | omega | (simp; done) | (simp; omega)) _ _) | (refine Ext.trans ?_ (by with_reducible assumption))))))⟩).mono ?_
  rintro e w0 ⟨rfl, hE0⟩
  have HA : Hid (Box w0 w.heap.size 48 #[.slice p0a x.rules.rules.length c0a, .slice p1a x.scoring.weights.length c1a, .int .i64 x.scoring.bias, .slice p2a x.survivors.length c2a]) := (Box.alloc (Box.new' _ _ _ _ rfl) _).ext hE0
  have HB : Hid (Box w0 (w.heap.size + 1) 48 #[.slice p0b x.rules.rules.length c0b, .slice p1b x.scoring.weights.length c1b, .int .i64 x.scoring.bias, .slice p2b x.survivors.length c2b]) := (Box.new' _ _ _ _ (by simp)).ext hE0
  have HE : Hid (Ext w w0) := (show Ext w w0 from by have h9 := hE0; (repeat' (first | with_reducible assumption | with_reducible exact Below.refl _ _ | (with_reducible refine Ext.alloc' ?_ _) | (with_reducible refine Ext.drew' ?_) | (with_reducible refine Ext.drewN' ?_ _) | (with_reducible refine Ext.set_ ?_ (by first | omega | (simp; done) | (simp; omega)) _ _) | (refine Ext.trans ?_ (by with_reducible assumption)))))
  clear hE0
  have k0 := HA.out.cell 0
  have k1 := HA.out.cell 1
  have k2 := HA.out.cell 2
  have k3 := HA.out.cell 3
  have klt := HA.out.lt
  simp only [List.getElem?_toArray, List.getElem?_cons_zero, List.getElem?_cons_succ] at k0 k1 k2 k3
  have m0 := HB.out.cell 0
  have m1 := HB.out.cell 1
  have m2 := HB.out.cell 2
  have m3 := HB.out.cell 3
  have mlt := HB.out.lt
  simp only [List.getElem?_toArray, List.getElem?_cons_zero, List.getElem?_cons_succ] at m0 m1 m2 m3
  go_wp2_with fail
  clear k0 m0 k1 m1 k2 m2 k3 m3 klt mlt
  refine (eqScoring_any x.scoring [.slice p1a x.scoring.weights.length c1a, .int .i64 x.scoring.bias] [.slice p1b x.scoring.weights.length c1b, .int .i64 x.scoring.bias] _ ⟨p1a, c1a, rfl, (R1a.out.ext good_int (by have h8 := HE.out; (repeat' (first | with_reducible assumption | with_reducible exact Below.refl _ _ | (with_reducible refine Ext.alloc' ?_ _) | (with_reducible refine Ext.drew' ?_) | (with_reducible refine Ext.drewN' ?_ _) | (with_reducible refine Ext.set_ ?_ (by first | omega | (simp; done) | (simp; omega)) _ _) | (refine Ext.trans ?_ (by with_reducible assumption))))))⟩ ⟨p1b, c1b, rfl, (R1b.out.ext good_int (by have h8 := HE.out; (repeat' (first | with_reducible assumption | with_reducible exact Below.refl _ _ | (with_reducible refine Ext.alloc' ?_ _) | (with_reducible refine Ext.drew' ?_) | (with_reducible refine Ext.drewN' ?_ _) | (with_reducible refine Ext.set_ ?_ (by first | omega | (simp; done) | (simp; omega)) _ _) | (refine Ext.trans ?_ (by with_reducible assumption))))))⟩).mono ?_
  rintro e w1 ⟨rfl, hE1⟩
  replace HA := Lib.hid (HA.out.ext hE1)
  replace HB := Lib.hid (HB.out.ext hE1)
  replace HE := Lib.hid (HE.out.trans hE1)
  clear hE1
  have k0 := HA.out.cell 0
  have k1 := HA.out.cell 1
  have k2 := HA.out.cell 2
  have k3 := HA.out.cell 3
  have klt := HA.out.lt
  simp only [List.getElem?_toArray, List.getElem?_cons_zero, List.getElem?_cons_succ] at k0 k1 k2 k3
  have m0 := HB.out.cell 0
  have m1 := HB.out.cell 1
  have m2 := HB.out.cell 2
  have m3 := HB.out.cell 3
  have mlt := HB.out.lt
  simp only [List.getElem?_toArray, List.getElem?_cons_zero, List.getElem?_cons_succ] at m0 m1 m2 m3
  go_wp2_with fail
  clear k0 m0 k1 m1 k2 m2 k3 m3 klt mlt
  refine (eqIntS_any x.survivors p2a p2b c2a c2b _ (R2a.out.ext good_int (by have h8 := HE.out; (repeat' (first | with_reducible assumption | with_reducible exact Below.refl _ _ | (with_reducible refine Ext.alloc' ?_ _) | (with_reducible refine Ext.drew' ?_) | (with_reducible refine Ext.drewN' ?_ _) | (with_reducible refine Ext.set_ ?_ (by first | omega | (simp; done) | (simp; omega)) _ _) | (refine Ext.trans ?_ (by with_reducible assumption)))))) (R2b.out.ext good_int (by have h8 := HE.out; (repeat' (first | with_reducible assumption | with_reducible exact Below.refl _ _ | (with_reducible refine Ext.alloc' ?_ _) | (with_reducible refine Ext.drew' ?_) | (with_reducible refine Ext.drewN' ?_ _) | (with_reducible refine Ext.set_ ?_ (by first | omega | (simp; done) | (simp; omega)) _ _) | (refine Ext.trans ?_ (by with_reducible assumption))))))).mono ?_
  rintro e w2 ⟨rfl, hE2⟩
  replace HA := Lib.hid (HA.out.ext hE2)
  replace HB := Lib.hid (HB.out.ext hE2)
  replace HE := Lib.hid (HE.out.trans hE2)
  clear hE2
  have k0 := HA.out.cell 0
  have k1 := HA.out.cell 1
  have k2 := HA.out.cell 2
  have k3 := HA.out.cell 3
  have klt := HA.out.lt
  simp only [List.getElem?_toArray, List.getElem?_cons_zero, List.getElem?_cons_succ] at k0 k1 k2 k3
  have m0 := HB.out.cell 0
  have m1 := HB.out.cell 1
  have m2 := HB.out.cell 2
  have m3 := HB.out.cell 3
  have mlt := HB.out.lt
  simp only [List.getElem?_toArray, List.getElem?_cons_zero, List.getElem?_cons_succ] at m0 m1 m2 m3
  go_wp2_with fail
  go_ret
  exact ⟨rfl, by have h8 := HE.out; (repeat' (first | with_reducible assumption | with_reducible exact Below.refl _ _ | (with_reducible refine Ext.alloc' ?_ _) | (with_reducible refine Ext.drew' ?_) | (with_reducible refine Ext.drewN' ?_ _) | (with_reducible refine Ext.set_ ?_ (by first | omega | (simp; done) | (simp; omega)) _ _) | (refine Ext.trans ?_ (by with_reducible assumption))))⟩
end Go.Proofs.Ytdgpbgpapcldeaa
