/- The type System: its datum, how it lies in memory, its copies, sizes and equality. -/
import Derived.Test.YtdgpbgpapcldeaaRows
import Derived.Test.YtdgpbgpapcldeaaDLib
import Derived.Test.YtdgpbgpapcldeaaKConfig
import Derived.Test.YtdgpbgpapcldeaaKEntity
import Derived.Test.YtdgpbgpapcldeaaKStore
import Derived.Test.YtdgpbgpapcldeaaKVerdict
set_option linter.unusedVariables false
set_option linter.unusedSimpArgs false
namespace Go.Proofs.Ytdgpbgpapcldeaa
open Go.RowKit Go.Er Go.BigFrame
structure DSystem where
  config : DConfig
  store : DStore
  entities : (List DEntity)
  next : Int
  refused : (List DVerdict)
def SystemR : Rel DSystem := fun B w vs x => ∃ (p0 : Option Addr) (c0 : Nat) (p1 : Option Addr) (c1 : Nat) (p2 : Option Addr) (c2 : Nat) (p3 : Option Addr) (c3 : Nat) (p4 : Option Addr) (c4 : Nat) (p5 : Option Addr) (c5 : Nat) (p6 : Option Addr) (c6 : Nat), vs = [.slice p0 x.config.rules.rules.length c0, .slice p1 x.config.scoring.weights.length c1, .int .i64 x.config.scoring.bias, .slice p2 x.config.survivors.length c2, .int .i64 x.store.version, .slice p3 x.store.records.length c3, .slice p4 x.store.verdicts.length c4, .slice p5 x.entities.length c5, .int .i64 x.next, .slice p6 x.refused.length c6] ∧ RowR 1 RuleR B w p0 x.config.rules.rules ∧ RowR 1 IntR B w p1 x.config.scoring.weights ∧ RowR 1 IntR B w p2 x.config.survivors ∧ RowR 4 RecordR B w p3 x.store.records ∧ RowR 4 VerdictR B w p4 x.store.verdicts ∧ RowR 2 EntityR B w p5 x.entities ∧ RowR 4 VerdictR B w p6 x.refused
theorem good_System : GoodR SystemR := ⟨fun hk ⟨p0, c0, p1, c1, p2, c2, p3, c3, p4, c4, p5, c5, p6, c6, h0, r0, r1, r2, r3, r4, r5, r6⟩ => ⟨p0, c0, p1, c1, p2, c2, p3, c3, p4, c4, p5, c5, p6, c6, h0, r0.keep good_Rule hk, r1.keep good_int hk, r2.keep good_int hk, r3.keep good_Record hk, r4.keep good_Verdict hk, r5.keep good_Entity hk, r6.keep good_Verdict hk⟩, fun hB ⟨p0, c0, p1, c1, p2, c2, p3, c3, p4, c4, p5, c5, p6, c6, h0, r0, r1, r2, r3, r4, r5, r6⟩ => ⟨p0, c0, p1, c1, p2, c2, p3, c3, p4, c4, p5, c5, p6, c6, h0, r0.mono good_Rule hB, r1.mono good_int hB, r2.mono good_int hB, r3.mono good_Record hB, r4.mono good_Verdict hB, r5.mono good_Entity hB, r6.mono good_Verdict hB⟩⟩
def SmallSystem (x : DSystem) : Prop := SmallConfig x.config ∧ SmallStore x.store ∧ SmallL (fun y => SmallEntity y) x.entities ∧ SmallL (fun y => SmallVerdict y) x.refused

set_option maxHeartbeats 800000 in
theorem szSystem_any (x : DSystem) (left : Int) (h0 : 0 ≤ left) (h9 : left ≤ 1048576) (vs : List Value) (B : Nat) (w : World) (h : SystemR B w vs x) :
    Calls Try.prog 29 #[.agg vs.toArray, .int .i64 left] w (Sized left (SmallSystem x) w) := by
  obtain ⟨p0, c0, p1, c1, p2, c2, p3, c3, p4, c4, p5, c5, p6, c6, rfl, r0, r1, r2, r3, r4, r5, r6⟩ := h
  have HB := Lib.hid (Box.new w 63 #[.slice p0 x.config.rules.rules.length c0, .slice p1 x.config.scoring.weights.length c1, .int .i64 x.config.scoring.bias, .slice p2 x.config.survivors.length c2, .int .i64 x.store.version, .slice p3 x.store.records.length c3, .slice p4 x.store.verdicts.length c4, .slice p5 x.entities.length c5, .int .i64 x.next, .slice p6 x.refused.length c6])
  have HE := Lib.hid (Ext.alloc w (.cells #[.slice p0 x.config.rules.rules.length c0, .slice p1 x.config.scoring.weights.length c1, .int .i64 x.config.scoring.bias, .slice p2 x.config.survivors.length c2, .int .i64 x.store.version, .slice p3 x.store.records.length c3, .slice p4 x.store.verdicts.length c4, .slice p5 x.entities.length c5, .int .i64 x.next, .slice p6 x.refused.length c6] 63))
  have R0 := Lib.hid (r0.ext good_Rule HE.out)
  have R1 := Lib.hid (r1.ext good_int HE.out)
  have R2 := Lib.hid (r2.ext good_int HE.out)
  have R3 := Lib.hid (r3.ext good_Record HE.out)
  have R4 := Lib.hid (r4.ext good_Verdict HE.out)
  have R5 := Lib.hid (r5.ext good_Entity HE.out)
  have R6 := Lib.hid (r6.ext good_Verdict HE.out)
  clear r0 r1 r2 r3 r4 r5 r6
  go_enter Try.func29, Try.ntmps29
  go_wp2_with fail
  refine (szConfig_any x.config left (by omega) (by omega) [.slice p0 x.config.rules.rules.length c0, .slice p1 x.config.scoring.weights.length c1, .int .i64 x.config.scoring.bias, .slice p2 x.config.survivors.length c2] B _ ⟨p0, c0, p1, c1, p2, c2, rfl, R0.out, R1.out, R2.out⟩).mono ?_
  rintro e w0 ⟨v0, rfl, hv0, hm0, hp0, hE0⟩
  have HP0 := Lib.hid hp0; have HE0 := Lib.hid (HE.out.trans hE0)
  replace HB := Lib.hid (HB.out.ext hE0)
  replace R0 := Lib.hid (R0.out.ext good_Rule hE0)
  replace R1 := Lib.hid (R1.out.ext good_int hE0)
  replace R2 := Lib.hid (R2.out.ext good_int hE0)
  replace R3 := Lib.hid (R3.out.ext good_Record hE0)
  replace R4 := Lib.hid (R4.out.ext good_Verdict hE0)
  replace R5 := Lib.hid (R5.out.ext good_Entity hE0)
  replace R6 := Lib.hid (R6.out.ext good_Verdict hE0)
  clear hp0 hE0
  by_cases hn0 : v0 < 0
  · go_wp2_with fail
    go_ret
    exact ⟨-1, rfl, by omega, by omega, fun h => absurd h (by omega), HE0.out⟩
  have k0 := HB.out.cell 0
  have k1 := HB.out.cell 1
  have k2 := HB.out.cell 2
  have k3 := HB.out.cell 3
  have k4 := HB.out.cell 4
  have k5 := HB.out.cell 5
  have k6 := HB.out.cell 6
  have k7 := HB.out.cell 7
  have k8 := HB.out.cell 8
  have k9 := HB.out.cell 9
  have klt := HB.out.lt
  simp only [List.getElem?_toArray, List.getElem?_cons_zero, List.getElem?_cons_succ] at k0 k1 k2 k3 k4 k5 k6 k7 k8 k9
  go_wp2_with fail
  clear k0 k1 k2 k3 k4 k5 k6 k7 k8 k9 klt
  refine (szStore_any x.store v0 (by omega) (by omega) [.int .i64 x.store.version, .slice p3 x.store.records.length c3, .slice p4 x.store.verdicts.length c4] B _ ⟨p3, c3, p4, c4, rfl, R3.out, R4.out⟩).mono ?_
  rintro e w1 ⟨v1, rfl, hv1, hm1, hp1, hE1⟩
  have HP1 := Lib.hid hp1; have HE1 := Lib.hid (HE0.out.trans hE1)
  replace HB := Lib.hid (HB.out.ext hE1)
  replace R0 := Lib.hid (R0.out.ext good_Rule hE1)
  replace R1 := Lib.hid (R1.out.ext good_int hE1)
  replace R2 := Lib.hid (R2.out.ext good_int hE1)
  replace R3 := Lib.hid (R3.out.ext good_Record hE1)
  replace R4 := Lib.hid (R4.out.ext good_Verdict hE1)
  replace R5 := Lib.hid (R5.out.ext good_Entity hE1)
  replace R6 := Lib.hid (R6.out.ext good_Verdict hE1)
  clear hp1 hE1
  by_cases hn1 : v1 < 0
  · go_wp2_with fail
    go_ret
    exact ⟨-1, rfl, by omega, by omega, fun h => absurd h (by omega), HE1.out⟩
  have k0 := HB.out.cell 0
  have k1 := HB.out.cell 1
  have k2 := HB.out.cell 2
  have k3 := HB.out.cell 3
  have k4 := HB.out.cell 4
  have k5 := HB.out.cell 5
  have k6 := HB.out.cell 6
  have k7 := HB.out.cell 7
  have k8 := HB.out.cell 8
  have k9 := HB.out.cell 9
  have klt := HB.out.lt
  simp only [List.getElem?_toArray, List.getElem?_cons_zero, List.getElem?_cons_succ] at k0 k1 k2 k3 k4 k5 k6 k7 k8 k9
  go_wp2_with fail
  clear k0 k1 k2 k3 k4 k5 k6 k7 k8 k9 klt
  refine (szEntityS_any x.entities v1 (by omega) (by omega) p5 c5 B _ R5.out).mono ?_
  rintro e w2 ⟨v2, rfl, hv2, hm2, hp2, hE2⟩
  have HP2 := Lib.hid hp2; have HE2 := Lib.hid (HE1.out.trans hE2)
  replace HB := Lib.hid (HB.out.ext hE2)
  replace R0 := Lib.hid (R0.out.ext good_Rule hE2)
  replace R1 := Lib.hid (R1.out.ext good_int hE2)
  replace R2 := Lib.hid (R2.out.ext good_int hE2)
  replace R3 := Lib.hid (R3.out.ext good_Record hE2)
  replace R4 := Lib.hid (R4.out.ext good_Verdict hE2)
  replace R5 := Lib.hid (R5.out.ext good_Entity hE2)
  replace R6 := Lib.hid (R6.out.ext good_Verdict hE2)
  clear hp2 hE2
  by_cases hn2 : v2 < 0
  · go_wp2_with fail
    go_ret
    exact ⟨-1, rfl, by omega, by omega, fun h => absurd h (by omega), HE2.out⟩
  have k0 := HB.out.cell 0
  have k1 := HB.out.cell 1
  have k2 := HB.out.cell 2
  have k3 := HB.out.cell 3
  have k4 := HB.out.cell 4
  have k5 := HB.out.cell 5
  have k6 := HB.out.cell 6
  have k7 := HB.out.cell 7
  have k8 := HB.out.cell 8
  have k9 := HB.out.cell 9
  have klt := HB.out.lt
  simp only [List.getElem?_toArray, List.getElem?_cons_zero, List.getElem?_cons_succ] at k0 k1 k2 k3 k4 k5 k6 k7 k8 k9
  go_wp2_with fail
  clear k0 k1 k2 k3 k4 k5 k6 k7 k8 k9 klt
  refine (szVerdictS_any x.refused v2 (by omega) (by omega) p6 c6 B _ R6.out).mono ?_
  rintro e w3 ⟨v3, rfl, hv3, hm3, hp3, hE3⟩
  have HP3 := Lib.hid hp3; have HE3 := Lib.hid (HE2.out.trans hE3)
  replace HB := Lib.hid (HB.out.ext hE3)
  replace R0 := Lib.hid (R0.out.ext good_Rule hE3)
  replace R1 := Lib.hid (R1.out.ext good_int hE3)
  replace R2 := Lib.hid (R2.out.ext good_int hE3)
  replace R3 := Lib.hid (R3.out.ext good_Record hE3)
  replace R4 := Lib.hid (R4.out.ext good_Verdict hE3)
  replace R5 := Lib.hid (R5.out.ext good_Entity hE3)
  replace R6 := Lib.hid (R6.out.ext good_Verdict hE3)
  clear hp3 hE3
  by_cases hn3 : v3 < 0
  · go_wp2_with fail
    go_ret
    exact ⟨-1, rfl, by omega, by omega, fun h => absurd h (by omega), HE3.out⟩
  go_wp2_with fail
  go_ret
  exact ⟨v3, rfl, by omega, by omega, fun _ => ⟨HP0.out (by omega), HP1.out (by omega), HP2.out (by omega), HP3.out (by omega)⟩, HE3.out⟩

set_option maxHeartbeats 1600000 in
theorem toSystem_any (x : DSystem) (hs : SmallSystem x) (vs : List Value) (w : World) (h : SystemR 0 w vs x) :
    Calls Try.prog 31 #[.agg vs.toArray] w (Made SystemR w x) := by
  obtain ⟨p0, c0, p1, c1, p2, c2, p3, c3, p4, c4, p5, c5, p6, c6, rfl, r0, r1, r2, r3, r4, r5, r6⟩ := h
  have HS := Lib.hid hs; clear hs
  have R0 := Lib.hid r0
  have R1 := Lib.hid r1
  have R2 := Lib.hid r2
  have R3 := Lib.hid r3
  have R4 := Lib.hid r4
  have R5 := Lib.hid r5
  have R6 := Lib.hid r6
  clear r0 r1 r2 r3 r4 r5 r6
  go_enter Try.func31, Try.ntmps31
  go_wp2_with fail
  refine (toConfig_any x.config HS.out.1 [.slice p0 x.config.rules.rules.length c0, .slice p1 x.config.scoring.weights.length c1, .int .i64 x.config.scoring.bias, .slice p2 x.config.survivors.length c2] _ ⟨p0, c0, p1, c1, p2, c2, rfl, (R0.out.ext good_Rule (by (repeat' (first | with_reducible assumption | with_reducible exact Below.refl _ _ | (with_reducible refine Ext.alloc' ?_ _) | (with_reducible refine Ext.drew' ?_) | (with_reducible refine Ext.drewN' ?_ _) | (with_reducible refine Ext.set_ ?_ (by first | omega | (simp; done) | (simp; omega)) _ _) | (refine Ext.trans ?_ (by with_reducible assumption)))))), (R1.out.ext good_int (by (repeat' (first | with_reducible assumption | with_reducible exact Below.refl _ _ | (with_reducible refine Ext.alloc' ?_ _) | (with_reducible refine Ext.drew' ?_) | (with_reducible refine Ext.drewN' ?_ _) | (with_reducible refine Ext.set_ ?_ (by first | omega | (simp; done) | (simp; omega)) _ _) | (refine Ext.trans ?_ (by with_reducible assumption)))))), (R2.out.ext good_int (by (repeat' (first | with_reducible assumption | with_reducible exact Below.refl _ _ | (with_reducible refine Ext.alloc' ?_ _) | (with_reducible refine Ext.drew' ?_) | (with_reducible refine Ext.drewN' ?_ _) | (with_reducible refine Ext.set_ ?_ (by first | omega | (simp; done) | (simp; omega)) _ _) | (refine Ext.trans ?_ (by with_reducible assumption))))))⟩).mono ?_
  rintro e w0 ⟨us, rfl, ⟨s0, d0, s1, d1, s2, d2, rfl, hr0, hr1, hr2⟩, hE0⟩
  have HN1' : Hid (Box w0 w.heap.size 63 #[.slice p0 x.config.rules.rules.length c0, .slice p1 x.config.scoring.weights.length c1, .int .i64 x.config.scoring.bias, .slice p2 x.config.survivors.length c2, .int .i64 x.store.version, .slice p3 x.store.records.length c3, .slice p4 x.store.verdicts.length c4, .slice p5 x.entities.length c5, .int .i64 x.next, .slice p6 x.refused.length c6]) := (Box.alloc (Box.alloc (Box.new' _ _ #[.slice p0 x.config.rules.rules.length c0, .slice p1 x.config.scoring.weights.length c1, .int .i64 x.config.scoring.bias, .slice p2 x.config.survivors.length c2, .int .i64 x.store.version, .slice p3 x.store.records.length c3, .slice p4 x.store.verdicts.length c4, .slice p5 x.entities.length c5, .int .i64 x.next, .slice p6 x.refused.length c6] _ (by simp)) _) _).ext hE0
  have HN2' : Hid (Box w0 (w.heap.size + 1) 72 #[.slice none 0 0, .slice none 0 0, .int .i64 0, .slice none 0 0, .int .i64 0, .slice none 0 0, .slice none 0 0, .slice none 0 0, .int .i64 0, .slice none 0 0]) := (Box.alloc (Box.new' _ _ #[.slice none 0 0, .slice none 0 0, .int .i64 0, .slice none 0 0, .int .i64 0, .slice none 0 0, .slice none 0 0, .slice none 0 0, .int .i64 0, .slice none 0 0] _ (by simp)) _).ext hE0
  have HN3' : Hid (Box w0 (w.heap.size + 1 + 1) 72 #[.slice none 0 0, .slice none 0 0, .int .i64 0, .slice none 0 0, .int .i64 0, .slice none 0 0, .slice none 0 0, .slice none 0 0, .int .i64 0, .slice none 0 0]) := (Box.new' _ _ #[.slice none 0 0, .slice none 0 0, .int .i64 0, .slice none 0 0, .int .i64 0, .slice none 0 0, .slice none 0 0, .slice none 0 0, .int .i64 0, .slice none 0 0] _ (by simp)).ext hE0
  have S0 := Lib.hid (hr0.mono good_Rule (B' := w.heap.size + 3) (by simp))
  clear hr0
  have S1 := Lib.hid (hr1.mono good_int (B' := w.heap.size + 3) (by simp))
  clear hr1
  have S2 := Lib.hid (hr2.mono good_int (B' := w.heap.size + 3) (by simp))
  clear hr2
  have HE' : Hid (Ext w w0) := (show Ext w w0 from by have h9 := hE0; (repeat' (first | with_reducible assumption | with_reducible exact Below.refl _ _ | (with_reducible refine Ext.alloc' ?_ _) | (with_reducible refine Ext.drew' ?_) | (with_reducible refine Ext.drewN' ?_ _) | (with_reducible refine Ext.set_ ?_ (by first | omega | (simp; done) | (simp; omega)) _ _) | (refine Ext.trans ?_ (by with_reducible assumption)))))
  have HE := HE'; have HN1 := HN1'; have HN2 := HN2'; have HN3 := HN3'
  clear HE' HN1' HN2' HN3' hE0
  have k0 := HN1.out.cell 0
  have k1 := HN1.out.cell 1
  have k2 := HN1.out.cell 2
  have k3 := HN1.out.cell 3
  have k4 := HN1.out.cell 4
  have k5 := HN1.out.cell 5
  have k6 := HN1.out.cell 6
  have k7 := HN1.out.cell 7
  have k8 := HN1.out.cell 8
  have k9 := HN1.out.cell 9
  have klt := HN1.out.lt
  simp only [List.getElem?_toArray, List.getElem?_cons_zero, List.getElem?_cons_succ] at k0 k1 k2 k3 k4 k5 k6 k7 k8 k9
  have m0 := HN3.out.cell 0
  have mf0 := HN3.out.free 0
  have m1 := HN3.out.cell 1
  have mf1 := HN3.out.free 1
  have m2 := HN3.out.cell 2
  have mf2 := HN3.out.free 2
  have m3 := HN3.out.cell 3
  have mf3 := HN3.out.free 3
  have m4 := HN3.out.cell 4
  have mf4 := HN3.out.free 4
  have m5 := HN3.out.cell 5
  have mf5 := HN3.out.free 5
  have m6 := HN3.out.cell 6
  have mf6 := HN3.out.free 6
  have m7 := HN3.out.cell 7
  have mf7 := HN3.out.free 7
  have m8 := HN3.out.cell 8
  have mf8 := HN3.out.free 8
  have m9 := HN3.out.cell 9
  have mf9 := HN3.out.free 9
  have mlt := HN3.out.lt
  simp only [List.getElem?_toArray, List.getElem?_cons_zero, List.getElem?_cons_succ] at m0 m1 m2 m3 m4 m5 m6 m7 m8 m9
  go_wp2_with fail
  clear k0 k1 k2 k3 k4 k5 k6 k7 k8 k9 klt
  clear m0 mf0 m1 mf1 m2 mf2 m3 mf3 m4 mf4 m5 mf5 m6 mf6 m7 mf7 m8 mf8 m9 mf9 mlt
  refine (toStore_any x.store HS.out.2.1 [.int .i64 x.store.version, .slice p3 x.store.records.length c3, .slice p4 x.store.verdicts.length c4] _ ⟨p3, c3, p4, c4, rfl, (R3.out.ext good_Record (by have h8 := HE.out; (repeat' (first | with_reducible assumption | with_reducible exact Below.refl _ _ | (with_reducible refine Ext.alloc' ?_ _) | (with_reducible refine Ext.drew' ?_) | (with_reducible refine Ext.drewN' ?_ _) | (with_reducible refine Ext.set_ ?_ (by first | omega | (simp; done) | (simp; omega)) _ _) | (refine Ext.trans ?_ (by with_reducible assumption)))))), (R4.out.ext good_Verdict (by have h8 := HE.out; (repeat' (first | with_reducible assumption | with_reducible exact Below.refl _ _ | (with_reducible refine Ext.alloc' ?_ _) | (with_reducible refine Ext.drew' ?_) | (with_reducible refine Ext.drewN' ?_ _) | (with_reducible refine Ext.set_ ?_ (by first | omega | (simp; done) | (simp; omega)) _ _) | (refine Ext.trans ?_ (by with_reducible assumption))))))⟩).mono ?_
  rintro e w1 ⟨us, rfl, ⟨s3, d3, s4, d4, rfl, hr3, hr4⟩, hE1⟩
  have HN1' : Hid (Box w1 w.heap.size 63 #[.slice p0 x.config.rules.rules.length c0, .slice p1 x.config.scoring.weights.length c1, .int .i64 x.config.scoring.bias, .slice p2 x.config.survivors.length c2, .int .i64 x.store.version, .slice p3 x.store.records.length c3, .slice p4 x.store.verdicts.length c4, .slice p5 x.entities.length c5, .int .i64 x.next, .slice p6 x.refused.length c6]) := (Box.setOther (Box.setOther (Box.setOther (Box.setOther (HN1.out) (by omega) _) (by omega) _) (by omega) _) (by omega) _).ext hE1
  have HN2' : Hid (Box w1 (w.heap.size + 1) 72 #[.slice none 0 0, .slice none 0 0, .int .i64 0, .slice none 0 0, .int .i64 0, .slice none 0 0, .slice none 0 0, .slice none 0 0, .int .i64 0, .slice none 0 0]) := (Box.setOther (Box.setOther (Box.setOther (Box.setOther (HN2.out) (by omega) _) (by omega) _) (by omega) _) (by omega) _).ext hE1
  have HN3' : Hid (Box w1 (w.heap.size + 1 + 1) 72 #[.slice s0 x.config.rules.rules.length d0, .slice s1 x.config.scoring.weights.length d1, .int .i64 x.config.scoring.bias, .slice s2 x.config.survivors.length d2, .int .i64 0, .slice none 0 0, .slice none 0 0, .slice none 0 0, .int .i64 0, .slice none 0 0]) := (Box.set' (vs' := #[.slice s0 x.config.rules.rules.length d0, .slice s1 x.config.scoring.weights.length d1, .int .i64 x.config.scoring.bias, .slice s2 x.config.survivors.length d2, .int .i64 0, .slice none 0 0, .slice none 0 0, .slice none 0 0, .int .i64 0, .slice none 0 0]) (Box.set' (vs' := #[.slice s0 x.config.rules.rules.length d0, .slice s1 x.config.scoring.weights.length d1, .int .i64 x.config.scoring.bias, .slice none 0 0, .int .i64 0, .slice none 0 0, .slice none 0 0, .slice none 0 0, .int .i64 0, .slice none 0 0]) (Box.set' (vs' := #[.slice s0 x.config.rules.rules.length d0, .slice s1 x.config.scoring.weights.length d1, .int .i64 0, .slice none 0 0, .int .i64 0, .slice none 0 0, .slice none 0 0, .slice none 0 0, .int .i64 0, .slice none 0 0]) (Box.set' (vs' := #[.slice s0 x.config.rules.rules.length d0, .slice none 0 0, .int .i64 0, .slice none 0 0, .int .i64 0, .slice none 0 0, .slice none 0 0, .slice none 0 0, .int .i64 0, .slice none 0 0]) (HN3.out) (i := 0) (u := .slice s0 x.config.rules.rules.length d0) rfl) (i := 1) (u := .slice s1 x.config.scoring.weights.length d1) rfl) (i := 2) (u := .int .i64 x.config.scoring.bias) rfl) (i := 3) (u := .slice s2 x.config.survivors.length d2) rfl).ext hE1
  have S3 := Lib.hid (hr3.mono good_Record (B' := w.heap.size + 3) (by have h7 := HN3.out.lt; simp; omega))
  clear hr3
  have S4 := Lib.hid (hr4.mono good_Verdict (B' := w.heap.size + 3) (by have h7 := HN3.out.lt; simp; omega))
  clear hr4
  replace S0 : Hid (RowR 1 RuleR (w.heap.size + 3) w1 s0 x.config.rules.rules) := (S0.out.keep good_Rule (Keep.trans (by (repeat' (first | with_reducible exact Keep.refl _ _ | refine Keep.set_trans ?_ (by omega) _ _))) (Keep.of_ext hE1)))
  replace S1 : Hid (RowR 1 IntR (w.heap.size + 3) w1 s1 x.config.scoring.weights) := (S1.out.keep good_int (Keep.trans (by (repeat' (first | with_reducible exact Keep.refl _ _ | refine Keep.set_trans ?_ (by omega) _ _))) (Keep.of_ext hE1)))
  replace S2 : Hid (RowR 1 IntR (w.heap.size + 3) w1 s2 x.config.survivors) := (S2.out.keep good_int (Keep.trans (by (repeat' (first | with_reducible exact Keep.refl _ _ | refine Keep.set_trans ?_ (by omega) _ _))) (Keep.of_ext hE1)))
  have HE' : Hid (Ext w w1) := (show Ext w w1 from by have h9 := hE1; have h8 := HE.out; (repeat' (first | with_reducible assumption | with_reducible exact Below.refl _ _ | (with_reducible refine Ext.alloc' ?_ _) | (with_reducible refine Ext.drew' ?_) | (with_reducible refine Ext.drewN' ?_ _) | (with_reducible refine Ext.set_ ?_ (by first | omega | (simp; done) | (simp; omega)) _ _) | (refine Ext.trans ?_ (by with_reducible assumption)))))
  clear HN1 HN2 HN3 HE
  have HE := HE'; have HN1 := HN1'; have HN2 := HN2'; have HN3 := HN3'
  clear HE' HN1' HN2' HN3' hE1
  have k0 := HN1.out.cell 0
  have k1 := HN1.out.cell 1
  have k2 := HN1.out.cell 2
  have k3 := HN1.out.cell 3
  have k4 := HN1.out.cell 4
  have k5 := HN1.out.cell 5
  have k6 := HN1.out.cell 6
  have k7 := HN1.out.cell 7
  have k8 := HN1.out.cell 8
  have k9 := HN1.out.cell 9
  have klt := HN1.out.lt
  simp only [List.getElem?_toArray, List.getElem?_cons_zero, List.getElem?_cons_succ] at k0 k1 k2 k3 k4 k5 k6 k7 k8 k9
  have m0 := HN3.out.cell 0
  have mf0 := HN3.out.free 0
  have m1 := HN3.out.cell 1
  have mf1 := HN3.out.free 1
  have m2 := HN3.out.cell 2
  have mf2 := HN3.out.free 2
  have m3 := HN3.out.cell 3
  have mf3 := HN3.out.free 3
  have m4 := HN3.out.cell 4
  have mf4 := HN3.out.free 4
  have m5 := HN3.out.cell 5
  have mf5 := HN3.out.free 5
  have m6 := HN3.out.cell 6
  have mf6 := HN3.out.free 6
  have m7 := HN3.out.cell 7
  have mf7 := HN3.out.free 7
  have m8 := HN3.out.cell 8
  have mf8 := HN3.out.free 8
  have m9 := HN3.out.cell 9
  have mf9 := HN3.out.free 9
  have mlt := HN3.out.lt
  simp only [List.getElem?_toArray, List.getElem?_cons_zero, List.getElem?_cons_succ] at m0 m1 m2 m3 m4 m5 m6 m7 m8 m9
  go_wp2_with fail
  clear k0 k1 k2 k3 k4 k5 k6 k7 k8 k9 klt
  clear m0 mf0 m1 mf1 m2 mf2 m3 mf3 m4 mf4 m5 mf5 m6 mf6 m7 mf7 m8 mf8 m9 mf9 mlt
  refine (toEntityS_any x.entities HS.out.2.2.1 p5 c5 _ (R5.out.ext good_Entity (by have h8 := HE.out; (repeat' (first | with_reducible assumption | with_reducible exact Below.refl _ _ | (with_reducible refine Ext.alloc' ?_ _) | (with_reducible refine Ext.drew' ?_) | (with_reducible refine Ext.drewN' ?_ _) | (with_reducible refine Ext.set_ ?_ (by first | omega | (simp; done) | (simp; omega)) _ _) | (refine Ext.trans ?_ (by with_reducible assumption))))))).mono ?_
  rintro e w2 ⟨s5, d5, rfl, hr5, hE2⟩
  have HN1' : Hid (Box w2 w.heap.size 63 #[.slice p0 x.config.rules.rules.length c0, .slice p1 x.config.scoring.weights.length c1, .int .i64 x.config.scoring.bias, .slice p2 x.config.survivors.length c2, .int .i64 x.store.version, .slice p3 x.store.records.length c3, .slice p4 x.store.verdicts.length c4, .slice p5 x.entities.length c5, .int .i64 x.next, .slice p6 x.refused.length c6]) := (Box.setOther (Box.setOther (Box.setOther (HN1.out) (by omega) _) (by omega) _) (by omega) _).ext hE2
  have HN2' : Hid (Box w2 (w.heap.size + 1) 72 #[.slice none 0 0, .slice none 0 0, .int .i64 0, .slice none 0 0, .int .i64 0, .slice none 0 0, .slice none 0 0, .slice none 0 0, .int .i64 0, .slice none 0 0]) := (Box.setOther (Box.setOther (Box.setOther (HN2.out) (by omega) _) (by omega) _) (by omega) _).ext hE2
  have HN3' : Hid (Box w2 (w.heap.size + 1 + 1) 72 #[.slice s0 x.config.rules.rules.length d0, .slice s1 x.config.scoring.weights.length d1, .int .i64 x.config.scoring.bias, .slice s2 x.config.survivors.length d2, .int .i64 x.store.version, .slice s3 x.store.records.length d3, .slice s4 x.store.verdicts.length d4, .slice none 0 0, .int .i64 0, .slice none 0 0]) := (Box.set' (vs' := #[.slice s0 x.config.rules.rules.length d0, .slice s1 x.config.scoring.weights.length d1, .int .i64 x.config.scoring.bias, .slice s2 x.config.survivors.length d2, .int .i64 x.store.version, .slice s3 x.store.records.length d3, .slice s4 x.store.verdicts.length d4, .slice none 0 0, .int .i64 0, .slice none 0 0]) (Box.set' (vs' := #[.slice s0 x.config.rules.rules.length d0, .slice s1 x.config.scoring.weights.length d1, .int .i64 x.config.scoring.bias, .slice s2 x.config.survivors.length d2, .int .i64 x.store.version, .slice s3 x.store.records.length d3, .slice none 0 0, .slice none 0 0, .int .i64 0, .slice none 0 0]) (Box.set' (vs' := #[.slice s0 x.config.rules.rules.length d0, .slice s1 x.config.scoring.weights.length d1, .int .i64 x.config.scoring.bias, .slice s2 x.config.survivors.length d2, .int .i64 x.store.version, .slice none 0 0, .slice none 0 0, .slice none 0 0, .int .i64 0, .slice none 0 0]) (HN3.out) (i := 4) (u := .int .i64 x.store.version) rfl) (i := 5) (u := .slice s3 x.store.records.length d3) rfl) (i := 6) (u := .slice s4 x.store.verdicts.length d4) rfl).ext hE2
  have S5 := Lib.hid (hr5.mono good_Entity (B' := w.heap.size + 3) (by have h7 := HN3.out.lt; simp; omega))
  clear hr5
  replace S0 : Hid (RowR 1 RuleR (w.heap.size + 3) w2 s0 x.config.rules.rules) := (S0.out.keep good_Rule (Keep.trans (by (repeat' (first | with_reducible exact Keep.refl _ _ | refine Keep.set_trans ?_ (by omega) _ _))) (Keep.of_ext hE2)))
  replace S1 : Hid (RowR 1 IntR (w.heap.size + 3) w2 s1 x.config.scoring.weights) := (S1.out.keep good_int (Keep.trans (by (repeat' (first | with_reducible exact Keep.refl _ _ | refine Keep.set_trans ?_ (by omega) _ _))) (Keep.of_ext hE2)))
  replace S2 : Hid (RowR 1 IntR (w.heap.size + 3) w2 s2 x.config.survivors) := (S2.out.keep good_int (Keep.trans (by (repeat' (first | with_reducible exact Keep.refl _ _ | refine Keep.set_trans ?_ (by omega) _ _))) (Keep.of_ext hE2)))
  replace S3 : Hid (RowR 4 RecordR (w.heap.size + 3) w2 s3 x.store.records) := (S3.out.keep good_Record (Keep.trans (by (repeat' (first | with_reducible exact Keep.refl _ _ | refine Keep.set_trans ?_ (by omega) _ _))) (Keep.of_ext hE2)))
  replace S4 : Hid (RowR 4 VerdictR (w.heap.size + 3) w2 s4 x.store.verdicts) := (S4.out.keep good_Verdict (Keep.trans (by (repeat' (first | with_reducible exact Keep.refl _ _ | refine Keep.set_trans ?_ (by omega) _ _))) (Keep.of_ext hE2)))
  have HE' : Hid (Ext w w2) := (show Ext w w2 from by have h9 := hE2; have h8 := HE.out; (repeat' (first | with_reducible assumption | with_reducible exact Below.refl _ _ | (with_reducible refine Ext.alloc' ?_ _) | (with_reducible refine Ext.drew' ?_) | (with_reducible refine Ext.drewN' ?_ _) | (with_reducible refine Ext.set_ ?_ (by first | omega | (simp; done) | (simp; omega)) _ _) | (refine Ext.trans ?_ (by with_reducible assumption)))))
  clear HN1 HN2 HN3 HE
  have HE := HE'; have HN1 := HN1'; have HN2 := HN2'; have HN3 := HN3'
  clear HE' HN1' HN2' HN3' hE2
  have k0 := HN1.out.cell 0
  have k1 := HN1.out.cell 1
  have k2 := HN1.out.cell 2
  have k3 := HN1.out.cell 3
  have k4 := HN1.out.cell 4
  have k5 := HN1.out.cell 5
  have k6 := HN1.out.cell 6
  have k7 := HN1.out.cell 7
  have k8 := HN1.out.cell 8
  have k9 := HN1.out.cell 9
  have klt := HN1.out.lt
  simp only [List.getElem?_toArray, List.getElem?_cons_zero, List.getElem?_cons_succ] at k0 k1 k2 k3 k4 k5 k6 k7 k8 k9
  have m0 := HN3.out.cell 0
  have mf0 := HN3.out.free 0
  have m1 := HN3.out.cell 1
  have mf1 := HN3.out.free 1
  have m2 := HN3.out.cell 2
  have mf2 := HN3.out.free 2
  have m3 := HN3.out.cell 3
  have mf3 := HN3.out.free 3
  have m4 := HN3.out.cell 4
  have mf4 := HN3.out.free 4
  have m5 := HN3.out.cell 5
  have mf5 := HN3.out.free 5
  have m6 := HN3.out.cell 6
  have mf6 := HN3.out.free 6
  have m7 := HN3.out.cell 7
  have mf7 := HN3.out.free 7
  have m8 := HN3.out.cell 8
  have mf8 := HN3.out.free 8
  have m9 := HN3.out.cell 9
  have mf9 := HN3.out.free 9
  have mlt := HN3.out.lt
  simp only [List.getElem?_toArray, List.getElem?_cons_zero, List.getElem?_cons_succ] at m0 m1 m2 m3 m4 m5 m6 m7 m8 m9
  go_wp2_with fail
  clear k0 k1 k2 k3 k4 k5 k6 k7 k8 k9 klt
  clear m0 mf0 m1 mf1 m2 mf2 m3 mf3 m4 mf4 m5 mf5 m6 mf6 m7 mf7 m8 mf8 m9 mf9 mlt
  refine (toVerdictS_any x.refused HS.out.2.2.2 p6 c6 _ (R6.out.ext good_Verdict (by have h8 := HE.out; (repeat' (first | with_reducible assumption | with_reducible exact Below.refl _ _ | (with_reducible refine Ext.alloc' ?_ _) | (with_reducible refine Ext.drew' ?_) | (with_reducible refine Ext.drewN' ?_ _) | (with_reducible refine Ext.set_ ?_ (by first | omega | (simp; done) | (simp; omega)) _ _) | (refine Ext.trans ?_ (by with_reducible assumption))))))).mono ?_
  rintro e w3 ⟨s6, d6, rfl, hr6, hE3⟩
  have HN1' : Hid (Box w3 w.heap.size 63 #[.slice p0 x.config.rules.rules.length c0, .slice p1 x.config.scoring.weights.length c1, .int .i64 x.config.scoring.bias, .slice p2 x.config.survivors.length c2, .int .i64 x.store.version, .slice p3 x.store.records.length c3, .slice p4 x.store.verdicts.length c4, .slice p5 x.entities.length c5, .int .i64 x.next, .slice p6 x.refused.length c6]) := (Box.setOther (Box.setOther (HN1.out) (by omega) _) (by omega) _).ext hE3
  have HN2' : Hid (Box w3 (w.heap.size + 1) 72 #[.slice none 0 0, .slice none 0 0, .int .i64 0, .slice none 0 0, .int .i64 0, .slice none 0 0, .slice none 0 0, .slice none 0 0, .int .i64 0, .slice none 0 0]) := (Box.setOther (Box.setOther (HN2.out) (by omega) _) (by omega) _).ext hE3
  have HN3' : Hid (Box w3 (w.heap.size + 1 + 1) 72 #[.slice s0 x.config.rules.rules.length d0, .slice s1 x.config.scoring.weights.length d1, .int .i64 x.config.scoring.bias, .slice s2 x.config.survivors.length d2, .int .i64 x.store.version, .slice s3 x.store.records.length d3, .slice s4 x.store.verdicts.length d4, .slice s5 x.entities.length d5, .int .i64 x.next, .slice none 0 0]) := (Box.set' (vs' := #[.slice s0 x.config.rules.rules.length d0, .slice s1 x.config.scoring.weights.length d1, .int .i64 x.config.scoring.bias, .slice s2 x.config.survivors.length d2, .int .i64 x.store.version, .slice s3 x.store.records.length d3, .slice s4 x.store.verdicts.length d4, .slice s5 x.entities.length d5, .int .i64 x.next, .slice none 0 0]) (Box.set' (vs' := #[.slice s0 x.config.rules.rules.length d0, .slice s1 x.config.scoring.weights.length d1, .int .i64 x.config.scoring.bias, .slice s2 x.config.survivors.length d2, .int .i64 x.store.version, .slice s3 x.store.records.length d3, .slice s4 x.store.verdicts.length d4, .slice s5 x.entities.length d5, .int .i64 0, .slice none 0 0]) (HN3.out) (i := 7) (u := .slice s5 x.entities.length d5) rfl) (i := 8) (u := .int .i64 x.next) rfl).ext hE3
  have S6 := Lib.hid (hr6.mono good_Verdict (B' := w.heap.size + 3) (by have h7 := HN3.out.lt; simp; omega))
  clear hr6
  replace S0 : Hid (RowR 1 RuleR (w.heap.size + 3) w3 s0 x.config.rules.rules) := (S0.out.keep good_Rule (Keep.trans (by (repeat' (first | with_reducible exact Keep.refl _ _ | refine Keep.set_trans ?_ (by omega) _ _))) (Keep.of_ext hE3)))
  replace S1 : Hid (RowR 1 IntR (w.heap.size + 3) w3 s1 x.config.scoring.weights) := (S1.out.keep good_int (Keep.trans (by (repeat' (first | with_reducible exact Keep.refl _ _ | refine Keep.set_trans ?_ (by omega) _ _))) (Keep.of_ext hE3)))
  replace S2 : Hid (RowR 1 IntR (w.heap.size + 3) w3 s2 x.config.survivors) := (S2.out.keep good_int (Keep.trans (by (repeat' (first | with_reducible exact Keep.refl _ _ | refine Keep.set_trans ?_ (by omega) _ _))) (Keep.of_ext hE3)))
  replace S3 : Hid (RowR 4 RecordR (w.heap.size + 3) w3 s3 x.store.records) := (S3.out.keep good_Record (Keep.trans (by (repeat' (first | with_reducible exact Keep.refl _ _ | refine Keep.set_trans ?_ (by omega) _ _))) (Keep.of_ext hE3)))
  replace S4 : Hid (RowR 4 VerdictR (w.heap.size + 3) w3 s4 x.store.verdicts) := (S4.out.keep good_Verdict (Keep.trans (by (repeat' (first | with_reducible exact Keep.refl _ _ | refine Keep.set_trans ?_ (by omega) _ _))) (Keep.of_ext hE3)))
  replace S5 : Hid (RowR 2 EntityR (w.heap.size + 3) w3 s5 x.entities) := (S5.out.keep good_Entity (Keep.trans (by (repeat' (first | with_reducible exact Keep.refl _ _ | refine Keep.set_trans ?_ (by omega) _ _))) (Keep.of_ext hE3)))
  have HE' : Hid (Ext w w3) := (show Ext w w3 from by have h9 := hE3; have h8 := HE.out; (repeat' (first | with_reducible assumption | with_reducible exact Below.refl _ _ | (with_reducible refine Ext.alloc' ?_ _) | (with_reducible refine Ext.drew' ?_) | (with_reducible refine Ext.drewN' ?_ _) | (with_reducible refine Ext.set_ ?_ (by first | omega | (simp; done) | (simp; omega)) _ _) | (refine Ext.trans ?_ (by with_reducible assumption)))))
  clear HN1 HN2 HN3 HE
  have HE := HE'; have HN1 := HN1'; have HN2 := HN2'; have HN3 := HN3'
  clear HE' HN1' HN2' HN3' hE3
  have k0 := HN1.out.cell 0
  have k1 := HN1.out.cell 1
  have k2 := HN1.out.cell 2
  have k3 := HN1.out.cell 3
  have k4 := HN1.out.cell 4
  have k5 := HN1.out.cell 5
  have k6 := HN1.out.cell 6
  have k7 := HN1.out.cell 7
  have k8 := HN1.out.cell 8
  have k9 := HN1.out.cell 9
  have klt := HN1.out.lt
  simp only [List.getElem?_toArray, List.getElem?_cons_zero, List.getElem?_cons_succ] at k0 k1 k2 k3 k4 k5 k6 k7 k8 k9
  have m0 := HN3.out.cell 0
  have mf0 := HN3.out.free 0
  have m1 := HN3.out.cell 1
  have mf1 := HN3.out.free 1
  have m2 := HN3.out.cell 2
  have mf2 := HN3.out.free 2
  have m3 := HN3.out.cell 3
  have mf3 := HN3.out.free 3
  have m4 := HN3.out.cell 4
  have mf4 := HN3.out.free 4
  have m5 := HN3.out.cell 5
  have mf5 := HN3.out.free 5
  have m6 := HN3.out.cell 6
  have mf6 := HN3.out.free 6
  have m7 := HN3.out.cell 7
  have mf7 := HN3.out.free 7
  have m8 := HN3.out.cell 8
  have mf8 := HN3.out.free 8
  have m9 := HN3.out.cell 9
  have mf9 := HN3.out.free 9
  have mlt := HN3.out.lt
  simp only [List.getElem?_toArray, List.getElem?_cons_zero, List.getElem?_cons_succ] at m0 m1 m2 m3 m4 m5 m6 m7 m8 m9
  have l0 := HN2.out.cell 0
  have lf0 := HN2.out.free 0
  have l1 := HN2.out.cell 1
  have lf1 := HN2.out.free 1
  have l2 := HN2.out.cell 2
  have lf2 := HN2.out.free 2
  have l3 := HN2.out.cell 3
  have lf3 := HN2.out.free 3
  have l4 := HN2.out.cell 4
  have lf4 := HN2.out.free 4
  have l5 := HN2.out.cell 5
  have lf5 := HN2.out.free 5
  have l6 := HN2.out.cell 6
  have lf6 := HN2.out.free 6
  have l7 := HN2.out.cell 7
  have lf7 := HN2.out.free 7
  have l8 := HN2.out.cell 8
  have lf8 := HN2.out.free 8
  have l9 := HN2.out.cell 9
  have lf9 := HN2.out.free 9
  have llt := HN2.out.lt
  simp only [List.getElem?_toArray, List.getElem?_cons_zero, List.getElem?_cons_succ] at l0 l1 l2 l3 l4 l5 l6 l7 l8 l9
  go_wp2_with fail
  refine bodyPost_ret (v := .agg #[.slice s0 x.config.rules.rules.length d0, .slice s1 x.config.scoring.weights.length d1, .int .i64 x.config.scoring.bias, .slice s2 x.config.survivors.length d2, .int .i64 x.store.version, .slice s3 x.store.records.length d3, .slice s4 x.store.verdicts.length d4, .slice s5 x.entities.length d5, .int .i64 x.next, .slice s6 x.refused.length d6]) (by simp [results, Try.results31, go_sem, m0, m1, m2, m3, m4, m5, m6, m7, m8, m9, l0, l1, l2, l3, l4, l5, l6, l7, l8, l9]) rfl ?_
  refine ⟨[.slice s0 x.config.rules.rules.length d0, .slice s1 x.config.scoring.weights.length d1, .int .i64 x.config.scoring.bias, .slice s2 x.config.survivors.length d2, .int .i64 x.store.version, .slice s3 x.store.records.length d3, .slice s4 x.store.verdicts.length d4, .slice s5 x.entities.length d5, .int .i64 x.next, .slice s6 x.refused.length d6], rfl, ?_, ?_⟩
  rotate_left
  · have h8 := HE.out; (repeat' (first | with_reducible assumption | with_reducible exact Below.refl _ _ | (with_reducible refine Ext.alloc' ?_ _) | (with_reducible refine Ext.drew' ?_) | (with_reducible refine Ext.drewN' ?_ _) | (with_reducible refine Ext.set_ ?_ (by first | omega | (simp; done) | (simp; omega)) _ _) | (refine Ext.trans ?_ (by with_reducible assumption))))
  exact ⟨s0, d0, s1, d1, s2, d2, s3, d3, s4, d4, s5, d5, s6, d6, rfl, (S0.out.keep good_Rule (by (repeat' (first | with_reducible exact Keep.refl _ _ | refine Keep.set_trans ?_ (by omega) _ _)))).mono good_Rule (by omega), (S1.out.keep good_int (by (repeat' (first | with_reducible exact Keep.refl _ _ | refine Keep.set_trans ?_ (by omega) _ _)))).mono good_int (by omega), (S2.out.keep good_int (by (repeat' (first | with_reducible exact Keep.refl _ _ | refine Keep.set_trans ?_ (by omega) _ _)))).mono good_int (by omega), (S3.out.keep good_Record (by (repeat' (first | with_reducible exact Keep.refl _ _ | refine Keep.set_trans ?_ (by omega) _ _)))).mono good_Record (by omega), (S4.out.keep good_Verdict (by (repeat' (first | with_reducible exact Keep.refl _ _ | refine Keep.set_trans ?_ (by omega) _ _)))).mono good_Verdict (by omega), (S5.out.keep good_Entity (by (repeat' (first | with_reducible exact Keep.refl _ _ | refine Keep.set_trans ?_ (by omega) _ _)))).mono good_Entity (by omega), (S6.out.keep good_Verdict (by (repeat' (first | with_reducible exact Keep.refl _ _ | refine Keep.set_trans ?_ (by omega) _ _)))).mono good_Verdict (by omega)⟩

set_option maxHeartbeats 800000 in
theorem eqSystem_any (x : DSystem) (us vs : List Value) (w : World) (ha : SystemR 0 w us x) (hb : SystemR 0 w vs x) :
    Calls Try.prog 33 #[.agg us.toArray, .agg vs.toArray] w (Yes w) := by
  obtain ⟨p0a, c0a, p1a, c1a, p2a, c2a, p3a, c3a, p4a, c4a, p5a, c5a, p6a, c6a, rfl, r0a, r1a, r2a, r3a, r4a, r5a, r6a⟩ := ha
  obtain ⟨p0b, c0b, p1b, c1b, p2b, c2b, p3b, c3b, p4b, c4b, p5b, c5b, p6b, c6b, rfl, r0b, r1b, r2b, r3b, r4b, r5b, r6b⟩ := hb
  have R0a := Lib.hid r0a; have R0b := Lib.hid r0b; clear r0a r0b
  have R1a := Lib.hid r1a; have R1b := Lib.hid r1b; clear r1a r1b
  have R2a := Lib.hid r2a; have R2b := Lib.hid r2b; clear r2a r2b
  have R3a := Lib.hid r3a; have R3b := Lib.hid r3b; clear r3a r3b
  have R4a := Lib.hid r4a; have R4b := Lib.hid r4b; clear r4a r4b
  have R5a := Lib.hid r5a; have R5b := Lib.hid r5b; clear r5a r5b
  have R6a := Lib.hid r6a; have R6b := Lib.hid r6b; clear r6a r6b
  go_enter Try.func33, Try.ntmps33
  go_wp2_with fail
  refine (eqConfig_any x.config [.slice p0a x.config.rules.rules.length c0a, .slice p1a x.config.scoring.weights.length c1a, .int .i64 x.config.scoring.bias, .slice p2a x.config.survivors.length c2a] [.slice p0b x.config.rules.rules.length c0b, .slice p1b x.config.scoring.weights.length c1b, .int .i64 x.config.scoring.bias, .slice p2b x.config.survivors.length c2b] _ ⟨p0a, c0a, p1a, c1a, p2a, c2a, rfl, (R0a.out.ext good_Rule (by (repeat' (first | with_reducible assumption | with_reducible exact Below.refl _ _ | (with_reducible refine Ext.alloc' ?_ _) | (with_reducible refine Ext.drew' ?_) | (with_reducible refine Ext.drewN' ?_ _) | (with_reducible refine Ext.set_ ?_ (by first | omega | (simp; done) | (simp; omega)) _ _) | (refine Ext.trans ?_ (by with_reducible assumption)))))), (R1a.out.ext good_int (by (repeat' (first | with_reducible assumption | with_reducible exact Below.refl _ _ | (with_reducible refine Ext.alloc' ?_ _) | (with_reducible refine Ext.drew' ?_) | (with_reducible refine Ext.drewN' ?_ _) | (with_reducible refine Ext.set_ ?_ (by first | omega | (simp; done) | (simp; omega)) _ _) | (refine Ext.trans ?_ (by with_reducible assumption)))))), (R2a.out.ext good_int (by (repeat' (first | with_reducible assumption | with_reducible exact Below.refl _ _ | (with_reducible refine Ext.alloc' ?_ _) | (with_reducible refine Ext.drew' ?_) | (with_reducible refine Ext.drewN' ?_ _) | (with_reducible refine Ext.set_ ?_ (by first | omega | (simp; done) | (simp; omega)) _ _) | (refine Ext.trans ?_ (by with_reducible assumption))))))⟩ ⟨p0b, c0b, p1b, c1b, p2b, c2b, rfl, (R0b.out.ext good_Rule (by (repeat' (first | with_reducible assumption | with_reducible exact Below.refl _ _ | (with_reducible refine Ext.alloc' ?_ _) | (with_reducible refine Ext.drew' ?_) | (with_reducible refine Ext.drewN' ?_ _) | (with_reducible refine Ext.set_ ?_ (by first | omega | (simp; done) | (simp; omega)) _ _) | (refine Ext.trans ?_ (by with_reducible assumption)))))), (R1b.out.ext good_int (by (repeat' (first | with_reducible assumption | with_reducible exact Below.refl _ _ | (with_reducible refine Ext.alloc' ?_ _) | (with_reducible refine Ext.drew' ?_) | (with_reducible refine Ext.drewN' ?_ _) | (with_reducible refine Ext.set_ ?_ (by first | omega | (simp; done) | (simp; omega)) _ _) | (refine Ext.trans ?_ (by with_reducible assumption)))))), (R2b.out.ext good_int (by (repeat' (first | with_reducible assumption | with_reducible exact Below.refl _ _ | (with_reducible refine Ext.alloc' ?_ _) | (with_reducible refine Ext.drew' ?_) | (with_reducible refine Ext.drewN' ?_ _) | (with_reducible refine Ext.set_ ?_ (by first | omega | (simp; done) | (simp; omega)) _ _) | (refine Ext.trans ?_ (by with_reducible assumption))))))⟩).mono ?_
  rintro e w0 ⟨rfl, hE0⟩
  have HA : Hid (Box w0 w.heap.size 72 #[.slice p0a x.config.rules.rules.length c0a, .slice p1a x.config.scoring.weights.length c1a, .int .i64 x.config.scoring.bias, .slice p2a x.config.survivors.length c2a, .int .i64 x.store.version, .slice p3a x.store.records.length c3a, .slice p4a x.store.verdicts.length c4a, .slice p5a x.entities.length c5a, .int .i64 x.next, .slice p6a x.refused.length c6a]) := (Box.alloc (Box.new' _ _ _ _ rfl) _).ext hE0
  have HB : Hid (Box w0 (w.heap.size + 1) 72 #[.slice p0b x.config.rules.rules.length c0b, .slice p1b x.config.scoring.weights.length c1b, .int .i64 x.config.scoring.bias, .slice p2b x.config.survivors.length c2b, .int .i64 x.store.version, .slice p3b x.store.records.length c3b, .slice p4b x.store.verdicts.length c4b, .slice p5b x.entities.length c5b, .int .i64 x.next, .slice p6b x.refused.length c6b]) := (Box.new' _ _ _ _ (by simp)).ext hE0
  have HE : Hid (Ext w w0) := (show Ext w w0 from by have h9 := hE0; (repeat' (first | with_reducible assumption | with_reducible exact Below.refl _ _ | (with_reducible refine Ext.alloc' ?_ _) | (with_reducible refine Ext.drew' ?_) | (with_reducible refine Ext.drewN' ?_ _) | (with_reducible refine Ext.set_ ?_ (by first | omega | (simp; done) | (simp; omega)) _ _) | (refine Ext.trans ?_ (by with_reducible assumption)))))
  clear hE0
  have k0 := HA.out.cell 0
  have k1 := HA.out.cell 1
  have k2 := HA.out.cell 2
  have k3 := HA.out.cell 3
  have k4 := HA.out.cell 4
  have k5 := HA.out.cell 5
  have k6 := HA.out.cell 6
  have k7 := HA.out.cell 7
  have k8 := HA.out.cell 8
  have k9 := HA.out.cell 9
  have klt := HA.out.lt
  simp only [List.getElem?_toArray, List.getElem?_cons_zero, List.getElem?_cons_succ] at k0 k1 k2 k3 k4 k5 k6 k7 k8 k9
  have m0 := HB.out.cell 0
  have m1 := HB.out.cell 1
  have m2 := HB.out.cell 2
  have m3 := HB.out.cell 3
  have m4 := HB.out.cell 4
  have m5 := HB.out.cell 5
  have m6 := HB.out.cell 6
  have m7 := HB.out.cell 7
  have m8 := HB.out.cell 8
  have m9 := HB.out.cell 9
  have mlt := HB.out.lt
  simp only [List.getElem?_toArray, List.getElem?_cons_zero, List.getElem?_cons_succ] at m0 m1 m2 m3 m4 m5 m6 m7 m8 m9
  go_wp2_with fail
  clear k0 m0 k1 m1 k2 m2 k3 m3 k4 m4 k5 m5 k6 m6 k7 m7 k8 m8 k9 m9 klt mlt
  refine (eqStore_any x.store [.int .i64 x.store.version, .slice p3a x.store.records.length c3a, .slice p4a x.store.verdicts.length c4a] [.int .i64 x.store.version, .slice p3b x.store.records.length c3b, .slice p4b x.store.verdicts.length c4b] _ ⟨p3a, c3a, p4a, c4a, rfl, (R3a.out.ext good_Record (by have h8 := HE.out; (repeat' (first | with_reducible assumption | with_reducible exact Below.refl _ _ | (with_reducible refine Ext.alloc' ?_ _) | (with_reducible refine Ext.drew' ?_) | (with_reducible refine Ext.drewN' ?_ _) | (with_reducible refine Ext.set_ ?_ (by first | omega | (simp; done) | (simp; omega)) _ _) | (refine Ext.trans ?_ (by with_reducible assumption)))))), (R4a.out.ext good_Verdict (by have h8 := HE.out; (repeat' (first | with_reducible assumption | with_reducible exact Below.refl _ _ | (with_reducible refine Ext.alloc' ?_ _) | (with_reducible refine Ext.drew' ?_) | (with_reducible refine Ext.drewN' ?_ _) | (with_reducible refine Ext.set_ ?_ (by first | omega | (simp; done) | (simp; omega)) _ _) | (refine Ext.trans ?_ (by with_reducible assumption))))))⟩ ⟨p3b, c3b, p4b, c4b, rfl, (R3b.out.ext good_Record (by have h8 := HE.out; (repeat' (first | with_reducible assumption | with_reducible exact Below.refl _ _ | (with_reducible refine Ext.alloc' ?_ _) | (with_reducible refine Ext.drew' ?_) | (with_reducible refine Ext.drewN' ?_ _) | (with_reducible refine Ext.set_ ?_ (by first | omega | (simp; done) | (simp; omega)) _ _) | (refine Ext.trans ?_ (by with_reducible assumption)))))), (R4b.out.ext good_Verdict (by have h8 := HE.out; (repeat' (first | with_reducible assumption | with_reducible exact Below.refl _ _ | (with_reducible refine Ext.alloc' ?_ _) | (with_reducible refine Ext.drew' ?_) | (with_reducible refine Ext.drewN' ?_ _) | (with_reducible refine Ext.set_ ?_ (by first | omega | (simp; done) | (simp; omega)) _ _) | (refine Ext.trans ?_ (by with_reducible assumption))))))⟩).mono ?_
  rintro e w1 ⟨rfl, hE1⟩
  replace HA := Lib.hid (HA.out.ext hE1)
  replace HB := Lib.hid (HB.out.ext hE1)
  replace HE := Lib.hid (HE.out.trans hE1)
  clear hE1
  have k0 := HA.out.cell 0
  have k1 := HA.out.cell 1
  have k2 := HA.out.cell 2
  have k3 := HA.out.cell 3
  have k4 := HA.out.cell 4
  have k5 := HA.out.cell 5
  have k6 := HA.out.cell 6
  have k7 := HA.out.cell 7
  have k8 := HA.out.cell 8
  have k9 := HA.out.cell 9
  have klt := HA.out.lt
  simp only [List.getElem?_toArray, List.getElem?_cons_zero, List.getElem?_cons_succ] at k0 k1 k2 k3 k4 k5 k6 k7 k8 k9
  have m0 := HB.out.cell 0
  have m1 := HB.out.cell 1
  have m2 := HB.out.cell 2
  have m3 := HB.out.cell 3
  have m4 := HB.out.cell 4
  have m5 := HB.out.cell 5
  have m6 := HB.out.cell 6
  have m7 := HB.out.cell 7
  have m8 := HB.out.cell 8
  have m9 := HB.out.cell 9
  have mlt := HB.out.lt
  simp only [List.getElem?_toArray, List.getElem?_cons_zero, List.getElem?_cons_succ] at m0 m1 m2 m3 m4 m5 m6 m7 m8 m9
  go_wp2_with fail
  clear k0 m0 k1 m1 k2 m2 k3 m3 k4 m4 k5 m5 k6 m6 k7 m7 k8 m8 k9 m9 klt mlt
  refine (eqEntityS_any x.entities p5a p5b c5a c5b _ (R5a.out.ext good_Entity (by have h8 := HE.out; (repeat' (first | with_reducible assumption | with_reducible exact Below.refl _ _ | (with_reducible refine Ext.alloc' ?_ _) | (with_reducible refine Ext.drew' ?_) | (with_reducible refine Ext.drewN' ?_ _) | (with_reducible refine Ext.set_ ?_ (by first | omega | (simp; done) | (simp; omega)) _ _) | (refine Ext.trans ?_ (by with_reducible assumption)))))) (R5b.out.ext good_Entity (by have h8 := HE.out; (repeat' (first | with_reducible assumption | with_reducible exact Below.refl _ _ | (with_reducible refine Ext.alloc' ?_ _) | (with_reducible refine Ext.drew' ?_) | (with_reducible refine Ext.drewN' ?_ _) | (with_reducible refine Ext.set_ ?_ (by first | omega | (simp; done) | (simp; omega)) _ _) | (refine Ext.trans ?_ (by with_reducible assumption))))))).mono ?_
  rintro e w2 ⟨rfl, hE2⟩
  replace HA := Lib.hid (HA.out.ext hE2)
  replace HB := Lib.hid (HB.out.ext hE2)
  replace HE := Lib.hid (HE.out.trans hE2)
  clear hE2
  have k0 := HA.out.cell 0
  have k1 := HA.out.cell 1
  have k2 := HA.out.cell 2
  have k3 := HA.out.cell 3
  have k4 := HA.out.cell 4
  have k5 := HA.out.cell 5
  have k6 := HA.out.cell 6
  have k7 := HA.out.cell 7
  have k8 := HA.out.cell 8
  have k9 := HA.out.cell 9
  have klt := HA.out.lt
  simp only [List.getElem?_toArray, List.getElem?_cons_zero, List.getElem?_cons_succ] at k0 k1 k2 k3 k4 k5 k6 k7 k8 k9
  have m0 := HB.out.cell 0
  have m1 := HB.out.cell 1
  have m2 := HB.out.cell 2
  have m3 := HB.out.cell 3
  have m4 := HB.out.cell 4
  have m5 := HB.out.cell 5
  have m6 := HB.out.cell 6
  have m7 := HB.out.cell 7
  have m8 := HB.out.cell 8
  have m9 := HB.out.cell 9
  have mlt := HB.out.lt
  simp only [List.getElem?_toArray, List.getElem?_cons_zero, List.getElem?_cons_succ] at m0 m1 m2 m3 m4 m5 m6 m7 m8 m9
  go_wp2_with fail
  clear k0 m0 k1 m1 k2 m2 k3 m3 k4 m4 k5 m5 k6 m6 k7 m7 k8 m8 k9 m9 klt mlt
  refine (eqVerdictS_any x.refused p6a p6b c6a c6b _ (R6a.out.ext good_Verdict (by have h8 := HE.out; (repeat' (first | with_reducible assumption | with_reducible exact Below.refl _ _ | (with_reducible refine Ext.alloc' ?_ _) | (with_reducible refine Ext.drew' ?_) | (with_reducible refine Ext.drewN' ?_ _) | (with_reducible refine Ext.set_ ?_ (by first | omega | (simp; done) | (simp; omega)) _ _) | (refine Ext.trans ?_ (by with_reducible assumption)))))) (R6b.out.ext good_Verdict (by have h8 := HE.out; (repeat' (first | with_reducible assumption | with_reducible exact Below.refl _ _ | (with_reducible refine Ext.alloc' ?_ _) | (with_reducible refine Ext.drew' ?_) | (with_reducible refine Ext.drewN' ?_ _) | (with_reducible refine Ext.set_ ?_ (by first | omega | (simp; done) | (simp; omega)) _ _) | (refine Ext.trans ?_ (by with_reducible assumption))))))).mono ?_
  rintro e w3 ⟨rfl, hE3⟩
  replace HA := Lib.hid (HA.out.ext hE3)
  replace HB := Lib.hid (HB.out.ext hE3)
  replace HE := Lib.hid (HE.out.trans hE3)
  clear hE3
  have k0 := HA.out.cell 0
  have k1 := HA.out.cell 1
  have k2 := HA.out.cell 2
  have k3 := HA.out.cell 3
  have k4 := HA.out.cell 4
  have k5 := HA.out.cell 5
  have k6 := HA.out.cell 6
  have k7 := HA.out.cell 7
  have k8 := HA.out.cell 8
  have k9 := HA.out.cell 9
  have klt := HA.out.lt
  simp only [List.getElem?_toArray, List.getElem?_cons_zero, List.getElem?_cons_succ] at k0 k1 k2 k3 k4 k5 k6 k7 k8 k9
  have m0 := HB.out.cell 0
  have m1 := HB.out.cell 1
  have m2 := HB.out.cell 2
  have m3 := HB.out.cell 3
  have m4 := HB.out.cell 4
  have m5 := HB.out.cell 5
  have m6 := HB.out.cell 6
  have m7 := HB.out.cell 7
  have m8 := HB.out.cell 8
  have m9 := HB.out.cell 9
  have mlt := HB.out.lt
  simp only [List.getElem?_toArray, List.getElem?_cons_zero, List.getElem?_cons_succ] at m0 m1 m2 m3 m4 m5 m6 m7 m8 m9
  go_wp2_with fail
  go_ret
  exact ⟨rfl, by have h8 := HE.out; (repeat' (first | with_reducible assumption | with_reducible exact Below.refl _ _ | (with_reducible refine Ext.alloc' ?_ _) | (with_reducible refine Ext.drew' ?_) | (with_reducible refine Ext.drewN' ?_ _) | (with_reducible refine Ext.set_ ?_ (by first | omega | (simp; done) | (simp; omega)) _ _) | (refine Ext.trans ?_ (by with_reducible assumption))))⟩
end Go.Proofs.Ytdgpbgpapcldeaa
