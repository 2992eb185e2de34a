/- The type RuleSet: its datum, how it lies in memory, its copies, sizes and equality. -/
import Derived.Test.YtdgpbgpapcldeaaRows
import Derived.Test.YtdgpbgpapcldeaaDLib
import Derived.Test.YtdgpbgpapcldeaaKRule
set_option linter.unusedVariables false
set_option linter.unusedSimpArgs false
namespace Go.Proofs.Ytdgpbgpapcldeaa
open Go.RowKit Go.Er Go.BigFrame
structure DRuleSet where
  rules : (List DRule)
def RuleSetR : Rel DRuleSet := fun B w vs x => ∃ (p0 : Option Addr) (c0 : Nat), vs = [.slice p0 x.rules.length c0] ∧ RowR 1 RuleR B w p0 x.rules
theorem good_RuleSet : GoodR RuleSetR := ⟨fun hk ⟨p0, c0, h0, r0⟩ => ⟨p0, c0, h0, r0.keep good_Rule hk⟩, fun hB ⟨p0, c0, h0, r0⟩ => ⟨p0, c0, h0, r0.mono good_Rule hB⟩⟩
def SmallRuleSet (x : DRuleSet) : Prop := SmallL (fun y => SmallRule y) x.rules

set_option maxHeartbeats 800000 in
theorem szRuleSet_any (x : DRuleSet) (left : Int) (h0 : 0 ≤ left) (h9 : left ≤ 1048576) (vs : List Value) (B : Nat) (w : World) (h : RuleSetR B w vs x) :
    Calls Try.prog 43 #[.agg vs.toArray, .int .i64 left] w (Sized left (SmallRuleSet x) w) := by
  obtain ⟨p0, c0, rfl, r0⟩ := h
  have HB := Lib.hid (Box.new w 35 #[.slice p0 x.rules.length c0])
  have HE := Lib.hid (Ext.alloc w (.cells #[.slice p0 x.rules.length c0] 35))
  have R0 := Lib.hid (r0.ext good_Rule HE.out)
  clear r0
  go_enter Try.func43, Try.ntmps43
  go_wp2_with fail
  refine (szRuleS_any x.rules left (by omega) (by omega) p0 c0 B _ R0.out).mono ?_
  rintro e w0 ⟨v0, rfl, hv0, hm0, hp0, hE0⟩
  have HP0 := Lib.hid hp0; have HE0 := Lib.hid (HE.out.trans hE0)
  replace HB := Lib.hid (HB.out.ext hE0)
  replace R0 := Lib.hid (R0.out.ext good_Rule hE0)
  clear hp0 hE0
  by_cases hn0 : v0 < 0
  · go_wp2_with fail
    go_ret
    exact ⟨-1, rfl, by omega, by omega, fun h => absurd h (by omega), HE0.out⟩
  go_wp2_with fail
  go_ret
  exact ⟨v0, rfl, by omega, by omega, fun _ => HP0.out (by omega), HE0.out⟩

set_option maxHeartbeats 1600000 in
theorem toRuleSet_any (x : DRuleSet) (hs : SmallRuleSet x) (vs : List Value) (w : World) (h : RuleSetR 0 w vs x) :
    Calls Try.prog 48 #[.agg vs.toArray] w (Made RuleSetR w x) := by
  obtain ⟨p0, c0, rfl, r0⟩ := h
  have HS := Lib.hid hs; clear hs
  have R0 := Lib.hid r0
  clear r0
  go_enter Try.func48, Try.ntmps48
  go_wp2_with fail
  refine (toRuleS_any x.rules HS.out p0 c0 _ (R0.out.ext good_Rule (by (repeat' (first | with_reducible assumption | with_reducible exact Below.refl _ _ | (with_reducible refine Ext.alloc' ?_ _) | (with_reducible refine Ext.drew' ?_) | (with_reducible refine Ext.drewN' ?_ _) | (with_reducible refine Ext.set_ ?_ (by first | omega | (simp; done) | (simp; omega)) _ _) | (refine Ext.trans ?_ (by with_reducible assumption))))))).mono ?_
  rintro e w0 ⟨s0, d0, rfl, hr0, hE0⟩
  have HN1' : Hid (Box w0 w.heap.size 35 #[.slice p0 x.rules.length c0]) := (Box.alloc (Box.alloc (Box.new' _ _ #[.slice p0 x.rules.length c0] _ (by simp)) _) _).ext hE0
  have HN2' : Hid (Box w0 (w.heap.size + 1) 45 #[.slice none 0 0]) := (Box.alloc (Box.new' _ _ #[.slice none 0 0] _ (by simp)) _).ext hE0
  have HN3' : Hid (Box w0 (w.heap.size + 1 + 1) 45 #[.slice none 0 0]) := (Box.new' _ _ #[.slice none 0 0] _ (by simp)).ext hE0
  have S0 := Lib.hid (hr0.mono good_Rule (B' := w.heap.size + 3) (by simp))
  clear hr0
  have HE' : Hid (Ext w w0) := (show Ext w w0 from by have h9 := hE0; (repeat' (first | with_reducible assumption | with_reducible exact Below.refl _ _ | (with_reducible refine Ext.alloc' ?_ _) | (with_reducible refine Ext.drew' ?_) | (with_reducible refine Ext.drewN' ?_ _) | (with_reducible refine Ext.set_ ?_ (by first | omega | (simp; done) | (simp; omega)) _ _) | (refine Ext.trans ?_ (by with_reducible assumption)))))
  have HE := HE'; have HN1 := HN1'; have HN2 := HN2'; have HN3 := HN3'
  clear HE' HN1' HN2' HN3' hE0
  have k0 := HN1.out.cell 0
  have klt := HN1.out.lt
  simp only [List.getElem?_toArray, List.getElem?_cons_zero, List.getElem?_cons_succ] at k0
  have m0 := HN3.out.cell 0
  have mf0 := HN3.out.free 0
  have mlt := HN3.out.lt
  simp only [List.getElem?_toArray, List.getElem?_cons_zero, List.getElem?_cons_succ] at m0
  have l0 := HN2.out.cell 0
  have lf0 := HN2.out.free 0
  have llt := HN2.out.lt
  simp only [List.getElem?_toArray, List.getElem?_cons_zero, List.getElem?_cons_succ] at l0
  go_wp2_with fail
  refine bodyPost_ret (v := .agg #[.slice s0 x.rules.length d0]) (by simp [results, Try.results48, go_sem, m0, l0]) rfl ?_
  refine ⟨[.slice s0 x.rules.length d0], rfl, ?_, ?_⟩
  rotate_left
  · have h8 := HE.out; (repeat' (first | with_reducible assumption | with_reducible exact Below.refl _ _ | (with_reducible refine Ext.alloc' ?_ _) | (with_reducible refine Ext.drew' ?_) | (with_reducible refine Ext.drewN' ?_ _) | (with_reducible refine Ext.set_ ?_ (by first | omega | (simp; done) | (simp; omega)) _ _) | (refine Ext.trans ?_ (by with_reducible assumption))))
  exact ⟨s0, d0, rfl, (S0.out.keep good_Rule (by (repeat' (first | with_reducible exact Keep.refl _ _ | refine Keep.set_trans ?_ (by omega) _ _)))).mono good_Rule (by omega)⟩

set_option maxHeartbeats 800000 in
theorem eqRuleSet_any (x : DRuleSet) (us vs : List Value) (w : World) (ha : RuleSetR 0 w us x) (hb : RuleSetR 0 w vs x) :
    Calls Try.prog 55 #[.agg us.toArray, .agg vs.toArray] w (Yes w) := by
  obtain ⟨p0a, c0a, rfl, r0a⟩ := ha
  obtain ⟨p0b, c0b, rfl, r0b⟩ := hb
  have R0a := Lib.hid r0a; have R0b := Lib.hid r0b; clear r0a r0b
  go_enter Try.func55, Try.ntmps55
  go_wp2_with fail
  refine (eqRuleS_any x.rules p0a p0b c0a c0b _ (R0a.out.ext good_Rule (by (repeat' (first | with_reducible assumption | with_reducible exact Below.refl _ _ | (with_reducible refine Ext.alloc' ?_ _) | (with_reducible refine Ext.drew' ?_) | (with_reducible refine Ext.drewN' ?_ _) | (with_reducible refine Ext.set_ ?_ (by first | omega | (simp; done) | (simp; omega)) _ _) | (refine Ext.trans ?_ (by with_reducible assumption)))))) (R0b.out.ext good_Rule (by (repeat' (first | with_reducible assumption | with_reducible exact Below.refl _ _ | (with_reducible refine Ext.alloc' ?_ _) | (with_reducible refine Ext.drew' ?_) | (with_reducible refine Ext.drewN' ?_ _) | (with_reducible refine Ext.set_ ?_ (by first | omega | (simp; done) | (simp; omega)) _ _) | (refine Ext.trans ?_ (by with_reducible assumption))))))).mono ?_
  rintro e w0 ⟨rfl, hE0⟩
  have HA : Hid (Box w0 w.heap.size 45 #[.slice p0a x.rules.length c0a]) := (Box.alloc (Box.new' _ _ _ _ rfl) _).ext hE0
  have HB : Hid (Box w0 (w.heap.size + 1) 45 #[.slice p0b x.rules.length c0b]) := (Box.new' _ _ _ _ (by simp)).ext hE0
  have HE : Hid (Ext w w0) := (show Ext w w0 from by have h9 := hE0; (repeat' (first | with_reducible assumption | with_reducible exact Below.refl _ _ | (with_reducible refine Ext.alloc' ?_ _) | (with_reducible refine Ext.drew' ?_) | (with_reducible refine Ext.drewN' ?_ _) | (with_reducible refine Ext.set_ ?_ (by first | omega | (simp; done) | (simp; omega)) _ _) | (refine Ext.trans ?_ (by with_reducible assumption)))))
  clear hE0
  have k0 := HA.out.cell 0
  have klt := HA.out.lt
  simp only [List.getElem?_toArray, List.getElem?_cons_zero, List.getElem?_cons_succ] at k0
  have m0 := HB.out.cell 0
  have mlt := HB.out.lt
  simp only [List.getElem?_toArray, List.getElem?_cons_zero, List.getElem?_cons_succ] at m0
  go_wp2_with fail
  go_ret
  exact ⟨rfl, by have h8 := HE.out; (repeat' (first | with_reducible assumption | with_reducible exact Below.refl _ _ | (with_reducible refine Ext.alloc' ?_ _) | (with_reducible refine Ext.drew' ?_) | (with_reducible refine Ext.drewN' ?_ _) | (with_reducible refine Ext.set_ ?_ (by first | omega | (simp; done) | (simp; omega)) _ _) | (refine Ext.trans ?_ (by with_reducible assumption))))⟩
end Go.Proofs.Ytdgpbgpapcldeaa
