/- The type Op: its datum, how it lies in memory, its copies, sizes and equality. -/
import Derived.Test.YtdgpbgpapcldeaaRows
import Derived.Test.YtdgpbgpapcldeaaDLib
import Derived.Test.YtdgpbgpapcldeaaKRecord
import Derived.Test.YtdgpbgpapcldeaaKVerdict
set_option linter.unusedVariables false
set_option linter.unusedSimpArgs false
namespace Go.Proofs.Ytdgpbgpapcldeaa
open Go.RowKit Go.Er Go.BigFrame
structure DOp where
  kind : Int
  record : DRecord
  verdict : DVerdict
def OpR : Rel DOp := fun B w vs x => ∃ (p0 : Option Addr) (c0 : Nat), vs = [.int .i64 x.kind, .int .i64 x.record.source, .int .i64 x.record.key, .int .i64 x.record.version, .slice p0 x.record.fields.length c0, .int .i64 x.verdict.a, .int .i64 x.verdict.b, .bool x.verdict.same, .int .i64 x.verdict.time] ∧ RowR 1 StrR B w p0 x.record.fields
theorem good_Op : GoodR OpR := ⟨fun hk ⟨p0, c0, h0, r0⟩ => ⟨p0, c0, h0, r0.keep good_str hk⟩, fun hB ⟨p0, c0, h0, r0⟩ => ⟨p0, c0, h0, r0.mono good_str hB⟩⟩
def SmallOp (x : DOp) : Prop := SmallRecord x.record

set_option maxHeartbeats 800000 in
theorem szOp_any (x : DOp) (left : Int) (h0 : 0 ≤ left) (h9 : left ≤ 1048576) (vs : List Value) (B : Nat) (w : World) (h : OpR B w vs x) :
    Calls Try.prog 138 #[.agg vs.toArray, .int .i64 left] w (Sized left (SmallOp x) w) := by
  obtain ⟨p0, c0, rfl, r0⟩ := h
  have HB := Lib.hid (Box.new w 168 #[.int .i64 x.kind, .int .i64 x.record.source, .int .i64 x.record.key, .int .i64 x.record.version, .slice p0 x.record.fields.length c0, .int .i64 x.verdict.a, .int .i64 x.verdict.b, .bool x.verdict.same, .int .i64 x.verdict.time])
  have HE := Lib.hid (Ext.alloc w (.cells #[.int .i64 x.kind, .int .i64 x.record.source, .int .i64 x.record.key, .int .i64 x.record.version, .slice p0 x.record.fields.length c0, .int .i64 x.verdict.a, .int .i64 x.verdict.b, .bool x.verdict.same, .int .i64 x.verdict.time] 168))
  have R0 := Lib.hid (r0.ext good_str HE.out)
  clear r0
  go_enter Try.func138, Try.ntmps138
  go_wp2_with fail
  refine (szRecord_any x.record left (by omega) (by omega) [.int .i64 x.record.source, .int .i64 x.record.key, .int .i64 x.record.version, .slice p0 x.record.fields.length c0] B _ ⟨p0, c0, rfl, R0.out⟩).mono ?_
  rintro e w0 ⟨v0, rfl, hv0, hm0, hp0, hE0⟩
  have HP0 := Lib.hid hp0; have HE0 := Lib.hid (HE.out.trans hE0)
  replace HB := Lib.hid (HB.out.ext hE0)
  replace R0 := Lib.hid (R0.out.ext good_str hE0)
  clear hp0 hE0
  by_cases hn0 : v0 < 0
  · go_wp2_with fail
    go_ret
    exact ⟨-1, rfl, by omega, by omega, fun h => absurd h (by omega), HE0.out⟩
  go_wp2_with fail
  go_ret
  exact ⟨v0, rfl, by omega, by omega, fun _ => HP0.out (by omega), HE0.out⟩

set_option maxHeartbeats 1600000 in
theorem toOp_any (x : DOp) (hs : SmallOp x) (vs : List Value) (w : World) (h : OpR 0 w vs x) :
    Calls Try.prog 139 #[.agg vs.toArray] w (Made OpR w x) := by
  obtain ⟨p0, c0, rfl, r0⟩ := h
  have HS := Lib.hid hs; clear hs
  have R0 := Lib.hid r0
  clear r0
  go_enter Try.func139, Try.ntmps139
  go_wp2_with fail
  refine (toRecord_any x.record HS.out [.int .i64 x.record.source, .int .i64 x.record.key, .int .i64 x.record.version, .slice p0 x.record.fields.length c0] _ ⟨p0, c0, rfl, (R0.out.ext good_str (by (repeat' (first | with_reducible assumption | with_reducible exact Below.refl _ _ | (with_reducible refine Ext.alloc' ?_ _) | (with_reducible refine Ext.drew' ?_) | (with_reducible refine Ext.drewN' ?_ _) | (with_reducible refine Ext.set_ ?_ (by first | omega | (simp; done) | (simp; omega)) _ _) | (refine Ext.trans ?_ (by with_reducible assumption))))))⟩).mono ?_
  rintro e w0 ⟨us, rfl, ⟨s0, d0, rfl, hr0⟩, hE0⟩
  have HN1' : Hid (Box w0 w.heap.size 168 #[.int .i64 x.kind, .int .i64 x.record.source, .int .i64 x.record.key, .int .i64 x.record.version, .slice p0 x.record.fields.length c0, .int .i64 x.verdict.a, .int .i64 x.verdict.b, .bool x.verdict.same, .int .i64 x.verdict.time]) := (Box.alloc (Box.alloc (Box.new' _ _ #[.int .i64 x.kind, .int .i64 x.record.source, .int .i64 x.record.key, .int .i64 x.record.version, .slice p0 x.record.fields.length c0, .int .i64 x.verdict.a, .int .i64 x.verdict.b, .bool x.verdict.same, .int .i64 x.verdict.time] _ (by simp)) _) _).ext hE0
  have HN2' : Hid (Box w0 (w.heap.size + 1) 90 #[.int .i64 0, .int .i64 0, .int .i64 0, .int .i64 0, .slice none 0 0, .int .i64 0, .int .i64 0, .bool false, .int .i64 0]) := (Box.alloc (Box.new' _ _ #[.int .i64 0, .int .i64 0, .int .i64 0, .int .i64 0, .slice none 0 0, .int .i64 0, .int .i64 0, .bool false, .int .i64 0] _ (by simp)) _).ext hE0
  have HN3' : Hid (Box w0 (w.heap.size + 1 + 1) 90 #[.int .i64 x.kind, .int .i64 0, .int .i64 0, .int .i64 0, .slice none 0 0, .int .i64 0, .int .i64 0, .bool false, .int .i64 0]) := (Box.new' _ _ #[.int .i64 x.kind, .int .i64 0, .int .i64 0, .int .i64 0, .slice none 0 0, .int .i64 0, .int .i64 0, .bool false, .int .i64 0] _ (by simp)).ext hE0
  have S0 := Lib.hid (hr0.mono good_str (B' := w.heap.size + 3) (by simp))
  clear hr0
  have HE' : Hid (Ext w w0) := (show Ext w w0 from by have h9 := hE0; (repeat' (first | with_reducible assumption | with_reducible exact Below.refl _ _ | (with_reducible refine Ext.alloc' ?_ _) | (with_reducible refine Ext.drew' ?_) | (with_reducible refine Ext.drewN' ?_ _) | (with_reducible refine Ext.set_ ?_ (by first | omega | (simp; done) | (simp; omega)) _ _) | (refine Ext.trans ?_ (by with_reducible assumption)))))
  have HE := HE'; have HN1 := HN1'; have HN2 := HN2'; have HN3 := HN3'
  clear HE' HN1' HN2' HN3' hE0
  have k0 := HN1.out.cell 0
  have k1 := HN1.out.cell 1
  have k2 := HN1.out.cell 2
  have k3 := HN1.out.cell 3
  have k4 := HN1.out.cell 4
  have k5 := HN1.out.cell 5
  have k6 := HN1.out.cell 6
  have k7 := HN1.out.cell 7
  have k8 := HN1.out.cell 8
  have klt := HN1.out.lt
  simp only [List.getElem?_toArray, List.getElem?_cons_zero, List.getElem?_cons_succ] at k0 k1 k2 k3 k4 k5 k6 k7 k8
  have m0 := HN3.out.cell 0
  have mf0 := HN3.out.free 0
  have m1 := HN3.out.cell 1
  have mf1 := HN3.out.free 1
  have m2 := HN3.out.cell 2
  have mf2 := HN3.out.free 2
  have m3 := HN3.out.cell 3
  have mf3 := HN3.out.free 3
  have m4 := HN3.out.cell 4
  have mf4 := HN3.out.free 4
  have m5 := HN3.out.cell 5
  have mf5 := HN3.out.free 5
  have m6 := HN3.out.cell 6
  have mf6 := HN3.out.free 6
  have m7 := HN3.out.cell 7
  have mf7 := HN3.out.free 7
  have m8 := HN3.out.cell 8
  have mf8 := HN3.out.free 8
  have mlt := HN3.out.lt
  simp only [List.getElem?_toArray, List.getElem?_cons_zero, List.getElem?_cons_succ] at m0 m1 m2 m3 m4 m5 m6 m7 m8
  go_wp2_with fail
  clear k0 k1 k2 k3 k4 k5 k6 k7 k8 klt
  clear m0 mf0 m1 mf1 m2 mf2 m3 mf3 m4 mf4 m5 mf5 m6 mf6 m7 mf7 m8 mf8 mlt
  refine (toVerdict_any x.verdict trivial [.int .i64 x.verdict.a, .int .i64 x.verdict.b, .bool x.verdict.same, .int .i64 x.verdict.time] _ rfl).mono ?_
  rintro e w1 ⟨us, rfl, rfl, hE1⟩
  have HN1' : Hid (Box w1 w.heap.size 168 #[.int .i64 x.kind, .int .i64 x.record.source, .int .i64 x.record.key, .int .i64 x.record.version, .slice p0 x.record.fields.length c0, .int .i64 x.verdict.a, .int .i64 x.verdict.b, .bool x.verdict.same, .int .i64 x.verdict.time]) := (Box.setOther (Box.setOther (Box.setOther (Box.setOther (HN1.out) (by omega) _) (by omega) _) (by omega) _) (by omega) _).ext hE1
  have HN2' : Hid (Box w1 (w.heap.size + 1) 90 #[.int .i64 0, .int .i64 0, .int .i64 0, .int .i64 0, .slice none 0 0, .int .i64 0, .int .i64 0, .bool false, .int .i64 0]) := (Box.setOther (Box.setOther (Box.setOther (Box.setOther (HN2.out) (by omega) _) (by omega) _) (by omega) _) (by omega) _).ext hE1
  have HN3' : Hid (Box w1 (w.heap.size + 1 + 1) 90 #[.int .i64 x.kind, .int .i64 x.record.source, .int .i64 x.record.key, .int .i64 x.record.version, .slice s0 x.record.fields.length d0, .int .i64 0, .int .i64 0, .bool false, .int .i64 0]) := (Box.set' (vs' := #[.int .i64 x.kind, .int .i64 x.record.source, .int .i64 x.record.key, .int .i64 x.record.version, .slice s0 x.record.fields.length d0, .int .i64 0, .int .i64 0, .bool false, .int .i64 0]) (Box.set' (vs' := #[.int .i64 x.kind, .int .i64 x.record.source, .int .i64 x.record.key, .int .i64 x.record.version, .slice none 0 0, .int .i64 0, .int .i64 0, .bool false, .int .i64 0]) (Box.set' (vs' := #[.int .i64 x.kind, .int .i64 x.record.source, .int .i64 x.record.key, .int .i64 0, .slice none 0 0, .int .i64 0, .int .i64 0, .bool false, .int .i64 0]) (Box.set' (vs' := #[.int .i64 x.kind, .int .i64 x.record.source, .int .i64 0, .int .i64 0, .slice none 0 0, .int .i64 0, .int .i64 0, .bool false, .int .i64 0]) (HN3.out) (i := 1) (u := .int .i64 x.record.source) rfl) (i := 2) (u := .int .i64 x.record.key) rfl) (i := 3) (u := .int .i64 x.record.version) rfl) (i := 4) (u := .slice s0 x.record.fields.length d0) rfl).ext hE1
  replace S0 : Hid (RowR 1 StrR (w.heap.size + 3) w1 s0 x.record.fields) := (S0.out.keep good_str (Keep.trans (by (repeat' (first | with_reducible exact Keep.refl _ _ | refine Keep.set_trans ?_ (by omega) _ _))) (Keep.of_ext hE1)))
  have HE' : Hid (Ext w w1) := (show Ext w w1 from by have h9 := hE1; have h8 := HE.out; (repeat' (first | with_reducible assumption | with_reducible exact Below.refl _ _ | (with_reducible refine Ext.alloc' ?_ _) | (with_reducible refine Ext.drew' ?_) | (with_reducible refine Ext.drewN' ?_ _) | (with_reducible refine Ext.set_ ?_ (by first | omega | (simp; done) | (simp; omega)) _ _) | (refine Ext.trans ?_ (by with_reducible assumption)))))
  clear HN1 HN2 HN3 HE
  have HE := HE'; have HN1 := HN1'; have HN2 := HN2'; have HN3 := HN3'
  clear HE' HN1' HN2' HN3' hE1
  have k0 := HN1.out.cell 0
  have k1 := HN1.out.cell 1
  have k2 := HN1.out.cell 2
  have k3 := HN1.out.cell 3
  have k4 := HN1.out.cell 4
  have k5 := HN1.out.cell 5
  have k6 := HN1.out.cell 6
  have k7 := HN1.out.cell 7
  have k8 := HN1.out.cell 8
  have klt := HN1.out.lt
  simp only [List.getElem?_toArray, List.getElem?_cons_zero, List.getElem?_cons_succ] at k0 k1 k2 k3 k4 k5 k6 k7 k8
  have m0 := HN3.out.cell 0
  have mf0 := HN3.out.free 0
  have m1 := HN3.out.cell 1
  have mf1 := HN3.out.free 1
  have m2 := HN3.out.cell 2
  have mf2 := HN3.out.free 2
  have m3 := HN3.out.cell 3
  have mf3 := HN3.out.free 3
  have m4 := HN3.out.cell 4
  have mf4 := HN3.out.free 4
  have m5 := HN3.out.cell 5
  have mf5 := HN3.out.free 5
  have m6 := HN3.out.cell 6
  have mf6 := HN3.out.free 6
  have m7 := HN3.out.cell 7
  have mf7 := HN3.out.free 7
  have m8 := HN3.out.cell 8
  have mf8 := HN3.out.free 8
  have mlt := HN3.out.lt
  simp only [List.getElem?_toArray, List.getElem?_cons_zero, List.getElem?_cons_succ] at m0 m1 m2 m3 m4 m5 m6 m7 m8
  have l0 := HN2.out.cell 0
  have lf0 := HN2.out.free 0
  have l1 := HN2.out.cell 1
  have lf1 := HN2.out.free 1
  have l2 := HN2.out.cell 2
  have lf2 := HN2.out.free 2
  have l3 := HN2.out.cell 3
  have lf3 := HN2.out.free 3
  have l4 := HN2.out.cell 4
  have lf4 := HN2.out.free 4
  have l5 := HN2.out.cell 5
  have lf5 := HN2.out.free 5
  have l6 := HN2.out.cell 6
  have lf6 := HN2.out.free 6
  have l7 := HN2.out.cell 7
  have lf7 := HN2.out.free 7
  have l8 := HN2.out.cell 8
  have lf8 := HN2.out.free 8
  have llt := HN2.out.lt
  simp only [List.getElem?_toArray, List.getElem?_cons_zero, List.getElem?_cons_succ] at l0 l1 l2 l3 l4 l5 l6 l7 l8
  go_wp2_with fail
  refine bodyPost_ret (v := .agg #[.int .i64 x.kind, .int .i64 x.record.source, .int .i64 x.record.key, .int .i64 x.record.version, .slice s0 x.record.fields.length d0, .int .i64 x.verdict.a, .int .i64 x.verdict.b, .bool x.verdict.same, .int .i64 x.verdict.time]) (by simp [results, Try.results139, go_sem, m0, m1, m2, m3, m4, m5, m6, m7, m8, l0, l1, l2, l3, l4, l5, l6, l7, l8]) rfl ?_
  refine ⟨[.int .i64 x.kind, .int .i64 x.record.source, .int .i64 x.record.key, .int .i64 x.record.version, .slice s0 x.record.fields.length d0, .int .i64 x.verdict.a, .int .i64 x.verdict.b, .bool x.verdict.same, .int .i64 x.verdict.time], rfl, ?_, ?_⟩
  rotate_left
  · have h8 := HE.out; (repeat' (first | with_reducible assumption | with_reducible exact Below.refl _ _ | (with_reducible refine Ext.alloc' ?_ _) | (with_reducible refine Ext.drew' ?_) | (with_reducible refine Ext.drewN' ?_ _) | (with_reducible refine Ext.set_ ?_ (by first | omega | (simp; done) | (simp; omega)) _ _) | (refine Ext.trans ?_ (by with_reducible assumption))))
  exact ⟨s0, d0, rfl, (S0.out.keep good_str (by (repeat' (first | with_reducible exact Keep.refl _ _ | refine Keep.set_trans ?_ (by omega) _ _)))).mono good_str (by omega)⟩

set_option maxHeartbeats 800000 in
theorem eqOp_any (x : DOp) (us vs : List Value) (w : World) (ha : OpR 0 w us x) (hb : OpR 0 w vs x) :
    Calls Try.prog 140 #[.agg us.toArray, .agg vs.toArray] w (Yes w) := by
  obtain ⟨p0a, c0a, rfl, r0a⟩ := ha
  obtain ⟨p0b, c0b, rfl, r0b⟩ := hb
  have R0a := Lib.hid r0a; have R0b := Lib.hid r0b; clear r0a r0b
  go_enter Try.func140, Try.ntmps140
  go_wp2_with fail
  refine (eqRecord_any x.record [.int .i64 x.record.source, .int .i64 x.record.key, .int .i64 x.record.version, .slice p0a x.record.fields.length c0a] [.int .i64 x.record.source, .int .i64 x.record.key, .int .i64 x.record.version, .slice p0b x.record.fields.length c0b] _ ⟨p0a, c0a, rfl, (R0a.out.ext good_str (by (repeat' (first | with_reducible assumption | with_reducible exact Below.refl _ _ | (with_reducible refine Ext.alloc' ?_ _) | (with_reducible refine Ext.drew' ?_) | (with_reducible refine Ext.drewN' ?_ _) | (with_reducible refine Ext.set_ ?_ (by first | omega | (simp; done) | (simp; omega)) _ _) | (refine Ext.trans ?_ (by with_reducible assumption))))))⟩ ⟨p0b, c0b, rfl, (R0b.out.ext good_str (by (repeat' (first | with_reducible assumption | with_reducible exact Below.refl _ _ | (with_reducible refine Ext.alloc' ?_ _) | (with_reducible refine Ext.drew' ?_) | (with_reducible refine Ext.drewN' ?_ _) | (with_reducible refine Ext.set_ ?_ (by first | omega | (simp; done) | (simp; omega)) _ _) | (refine Ext.trans ?_ (by with_reducible assumption))))))⟩).mono ?_
  rintro e w0 ⟨rfl, hE0⟩
  have HA : Hid (Box w0 w.heap.size 90 #[.int .i64 x.kind, .int .i64 x.record.source, .int .i64 x.record.key, .int .i64 x.record.version, .slice p0a x.record.fields.length c0a, .int .i64 x.verdict.a, .int .i64 x.verdict.b, .bool x.verdict.same, .int .i64 x.verdict.time]) := (Box.alloc (Box.new' _ _ _ _ rfl) _).ext hE0
  have HB : Hid (Box w0 (w.heap.size + 1) 90 #[.int .i64 x.kind, .int .i64 x.record.source, .int .i64 x.record.key, .int .i64 x.record.version, .slice p0b x.record.fields.length c0b, .int .i64 x.verdict.a, .int .i64 x.verdict.b, .bool x.verdict.same, .int .i64 x.verdict.time]) := (Box.new' _ _ _ _ (by simp)).ext hE0
  have HE : Hid (Ext w w0) := (show Ext w w0 from by have h9 := hE0; (repeat' (first | with_reducible assumption | with_reducible exact Below.refl _ _ | (with_reducible refine Ext.alloc' ?_ _) | (with_reducible refine Ext.drew' ?_) | (with_reducible refine Ext.drewN' ?_ _) | (with_reducible refine Ext.set_ ?_ (by first | omega | (simp; done) | (simp; omega)) _ _) | (refine Ext.trans ?_ (by with_reducible assumption)))))
  clear hE0
  have k0 := HA.out.cell 0
  have k1 := HA.out.cell 1
  have k2 := HA.out.cell 2
  have k3 := HA.out.cell 3
  have k4 := HA.out.cell 4
  have k5 := HA.out.cell 5
  have k6 := HA.out.cell 6
  have k7 := HA.out.cell 7
  have k8 := HA.out.cell 8
  have klt := HA.out.lt
  simp only [List.getElem?_toArray, List.getElem?_cons_zero, List.getElem?_cons_succ] at k0 k1 k2 k3 k4 k5 k6 k7 k8
  have m0 := HB.out.cell 0
  have m1 := HB.out.cell 1
  have m2 := HB.out.cell 2
  have m3 := HB.out.cell 3
  have m4 := HB.out.cell 4
  have m5 := HB.out.cell 5
  have m6 := HB.out.cell 6
  have m7 := HB.out.cell 7
  have m8 := HB.out.cell 8
  have mlt := HB.out.lt
  simp only [List.getElem?_toArray, List.getElem?_cons_zero, List.getElem?_cons_succ] at m0 m1 m2 m3 m4 m5 m6 m7 m8
  go_wp2_with fail
  clear k0 m0 k1 m1 k2 m2 k3 m3 k4 m4 k5 m5 k6 m6 k7 m7 k8 m8 klt mlt
  refine (eqVerdict_any x.verdict [.int .i64 x.verdict.a, .int .i64 x.verdict.b, .bool x.verdict.same, .int .i64 x.verdict.time] [.int .i64 x.verdict.a, .int .i64 x.verdict.b, .bool x.verdict.same, .int .i64 x.verdict.time] _ rfl rfl).mono ?_
  rintro e w1 ⟨rfl, hE1⟩
  replace HA := Lib.hid (HA.out.ext hE1)
  replace HB := Lib.hid (HB.out.ext hE1)
  replace HE := Lib.hid (HE.out.trans hE1)
  clear hE1
  have k0 := HA.out.cell 0
  have k1 := HA.out.cell 1
  have k2 := HA.out.cell 2
  have k3 := HA.out.cell 3
  have k4 := HA.out.cell 4
  have k5 := HA.out.cell 5
  have k6 := HA.out.cell 6
  have k7 := HA.out.cell 7
  have k8 := HA.out.cell 8
  have klt := HA.out.lt
  simp only [List.getElem?_toArray, List.getElem?_cons_zero, List.getElem?_cons_succ] at k0 k1 k2 k3 k4 k5 k6 k7 k8
  have m0 := HB.out.cell 0
  have m1 := HB.out.cell 1
  have m2 := HB.out.cell 2
  have m3 := HB.out.cell 3
  have m4 := HB.out.cell 4
  have m5 := HB.out.cell 5
  have m6 := HB.out.cell 6
  have m7 := HB.out.cell 7
  have m8 := HB.out.cell 8
  have mlt := HB.out.lt
  simp only [List.getElem?_toArray, List.getElem?_cons_zero, List.getElem?_cons_succ] at m0 m1 m2 m3 m4 m5 m6 m7 m8
  go_wp2_with fail
  go_ret
  exact ⟨rfl, by have h8 := HE.out; (repeat' (first | with_reducible assumption | with_reducible exact Below.refl _ _ | (with_reducible refine Ext.alloc' ?_ _) | (with_reducible refine Ext.drew' ?_) | (with_reducible refine Ext.drewN' ?_ _) | (with_reducible refine Ext.set_ ?_ (by first | omega | (simp; done) | (simp; omega)) _ _) | (refine Ext.trans ?_ (by with_reducible assumption))))⟩

theorem info_OpS : (Try.prog.info? 90).map (fun i => (i.zero, i.size, i.bytes)) = some (some (.agg #[.int .i64 0, .int .i64 0, .int .i64 0, .int .i64 0, .slice none 0 0, .int .i64 0, .int .i64 0, .bool false, .int .i64 0]), 9, 88) := by kernel_rfl

set_option maxHeartbeats 800000 in
theorem szOpS_any (l : List DOp) (left : Int) (h0 : 0 ≤ left) (h9 : left ≤ 1048576) (a : Option Addr) (cap B : Nat) (w : World) (h : RowR 9 OpR B w a l) :
    Calls Try.prog 98 #[.slice a l.length cap, .int .i64 left] w (Sized left (SmallL (fun y => SmallOp y) l) w) := by
  have hlen : (l.length : Int) ≤ 9223372036854775807 := by have := h.1; unfold maxLen at this; omega
  have HA := Lib.hid h
  clear h
  by_cases hlt : (l.length : Int) ≤ left
  · go_enter Try.func98, Try.ntmps98
    go_wp2_with fail
    go_loopw [1, 5] (fun s1 s5 wr => ∃ (i : Nat) (v : Int), i ≤ l.length ∧ s5 = .int .i64 i ∧ s1 = .int .i64 v ∧ 0 ≤ v ∧ v ≤ left ∧ (∀ x ∈ l.take i, (fun y => SmallOp y) x) ∧ Ext w wr) (fun _ i _ => l.length - (intOf i).toNat)
    case atStart => exact ⟨0, left - l.length, Nat.zero_le _, rfl, by go_num, by omega, by omega, fun x hx => by simp at hx, Ext.refl _⟩
    case round =>
    obtain ⟨i, v, hi, rfl, rfl, hv0, hv9, hs1, hE1⟩ := hrel
    have HS1 := Lib.hid hs1; have HE1 := Lib.hid hE1; clear hs1 hE1
    by_cases hlt : i < l.length
    · skip
      obtain ⟨b, o, vs, rfl, _, _, hc, hR⟩ := (HA.out.ext good_Op HE1.out).2 i hlt
      obtain ⟨x, hx⟩ : ∃ x, x = l[i] := ⟨_, rfl⟩
      have HX := Lib.hid hx
      rw [← hx] at hR
      clear hx
      obtain ⟨p0, c0, rfl, r0⟩ := hR
      have q0 := hc 0 (by simp)
      have q1 := hc 1 (by simp)
      have q2 := hc 2 (by simp)
      have q3 := hc 3 (by simp)
      have q4 := hc 4 (by simp)
      have q5 := hc 5 (by simp)
      have q6 := hc 6 (by simp)
      have q7 := hc 7 (by simp)
      have q8 := hc 8 (by simp)
      simp only [List.getElem_cons_zero, List.getElem_cons_succ, Nat.mul_one, Nat.add_zero] at q0 q1 q2 q3 q4 q5 q6 q7 q8
      clear hc
      have hR : OpR B wr [.int .i64 x.kind, .int .i64 x.record.source, .int .i64 x.record.key, .int .i64 x.record.version, .slice p0 x.record.fields.length c0, .int .i64 x.verdict.a, .int .i64 x.verdict.b, .bool x.verdict.same, .int .i64 x.verdict.time] x := ⟨p0, c0, rfl, r0⟩
      have HR := Lib.hid hR
      clear hR r0
      go_wp2_with fail
      refine (szOp_any x v (by omega) (by omega) _ B _ HR.out).mono ?_
      rintro e w2 ⟨v2, rfl, h2, h3, hp2, hE2⟩
      have HP2 := Lib.hid hp2; have HE2 := Lib.hid (HE1.out.trans hE2)
      clear hp2 hE2 q0 q1 q2 q3 q4 q5 q6 q7 q8
      by_cases hn : v2 < 0
      · go_wp2_with fail
        go_ret
        exact ⟨-1, rfl, by omega, by omega, fun h => absurd h (by omega), HE2.out⟩
      · go_wp2_with fail
        go_roundw
        case rel => exact ⟨i + 1, v2, by omega, by go_num, rfl, by omega, by omega, small_step hlt HS1.out (HX.out ▸ HP2.out (by omega)), HE2.out⟩
        case measure => (simp [intOf] <;> omega)
    · obtain rfl : i = l.length := by omega
      go_wp2_with fail
      go_ret
      exact ⟨v, rfl, by omega, by omega, fun _ => ⟨by omega, by have h := HS1.out; rw [List.take_length] at h; exact h⟩, HE1.out⟩
  · go_enter Try.func98, Try.ntmps98
    go_wp2_with fail
    go_ret
    exact ⟨-1, rfl, by omega, by omega, fun h => absurd h (by omega), Ext.refl _⟩

set_option maxHeartbeats 1600000 in
theorem toOpS_any (l : List DOp) (hs : SmallL (fun y => SmallOp y) l) (a : Option Addr) (cap : Nat) (w : World) (ha : RowR 9 OpR 0 w a l) :
    Calls Try.prog 99 #[.slice a l.length cap] w (MadeS 9 OpR w l) := by
  have hlen := hs.1
  have HA := Lib.hid ha; have HS := Lib.hid hs.2; clear ha hs
  go_enter Try.func99, Try.ntmps99
  go_wp2_with (at_make; refine wpList_make_row OpR l rfl _ _ 83 rfl Try.underlying83 info_OpS (by decide) .i64 .i64 rfl rfl hlen (Ext.refl _) ?_; intro w1 hF hE)
  have HF := Lib.hid hF; have HE := Lib.hid hE; clear hF hE
  go_loopw [4] (fun s4 wr => ∃ i : Nat, i ≤ l.length ∧ s4 = .int .i64 i ∧ Ext w wr ∧ Filled 9 OpR w.heap.size 90 l.length wr l i) (fun i _ => l.length - (intOf i).toNat)
  case atStart => exact ⟨0, Nat.zero_le _, rfl, HE.out, HF.out⟩
  case round =>
    obtain ⟨i, hi, rfl, hE1, hF1⟩ := hrel
    have HE1 := Lib.hid hE1; have HF1 := Lib.hid hF1; clear hE1 hF1
    by_cases hlt : i < l.length
    · obtain ⟨b, o, vs, rfl, _, _, hc, hR⟩ := (HA.out.ext good_Op HE1.out).2 i hlt
      have hsm := HS.out l[i] (List.getElem_mem hlt)
      obtain ⟨x, hx⟩ : ∃ x, x = l[i] := ⟨_, rfl⟩
      have HX := Lib.hid hx
      rw [← hx] at hR
      try rw [← hx] at hsm
      have HSM := Lib.hid hsm
      clear hx hsm
      obtain ⟨p0, c0, rfl, r0⟩ := hR
      have q0 := hc 0 (by simp)
      have q1 := hc 1 (by simp)
      have q2 := hc 2 (by simp)
      have q3 := hc 3 (by simp)
      have q4 := hc 4 (by simp)
      have q5 := hc 5 (by simp)
      have q6 := hc 6 (by simp)
      have q7 := hc 7 (by simp)
      have q8 := hc 8 (by simp)
      simp only [List.getElem_cons_zero, List.getElem_cons_succ, Nat.mul_one, Nat.add_zero] at q0 q1 q2 q3 q4 q5 q6 q7 q8
      clear hc
      have hR : OpR 0 wr [.int .i64 x.kind, .int .i64 x.record.source, .int .i64 x.record.key, .int .i64 x.record.version, .slice p0 x.record.fields.length c0, .int .i64 x.verdict.a, .int .i64 x.verdict.b, .bool x.verdict.same, .int .i64 x.verdict.time] x := ⟨p0, c0, rfl, r0⟩
      have HR := Lib.hid hR
      clear hR r0
      go_wp2_with fail
      refine (toOp_any x HSM.out _ _ HR.out).mono ?_
      rintro e w2 ⟨us, rfl, hR2, hE2⟩
      have HF2 := Lib.hid (HF1.out.ext good_Op hE2)
      have HE2 := Lib.hid (HE1.out.trans hE2)
      have hR3 := good_Op.mono (B' := w.heap.size + 1) HF1.out.lt hR2
      obtain ⟨p0', c0', rfl, r0'⟩ := hR2
      have hst := HF2.out.step good_Op hlt (Nat.le_refl _) (us := [.int .i64 x.kind, .int .i64 x.record.source, .int .i64 x.record.key, .int .i64 x.record.version, .slice p0' x.record.fields.length c0', .int .i64 x.verdict.a, .int .i64 x.verdict.b, .bool x.verdict.same, .int .i64 x.verdict.time]) rfl (HX.out ▸ hR3)
      have HST := Lib.hid hst
      clear hst hR3 hE2 r0' q0 q1 q2 q3 q4 q5 q6 q7 q8
      obtain ⟨y0, hy0⟩ := HF2.out.cell (m := i * 9) (by omega); have hf0 := HF2.out.free (i * 9)
      obtain ⟨y1, hy1⟩ := HF2.out.cell (m := i * 9 + 1) (by omega); have hf1 := HF2.out.free (i * 9 + 1)
      obtain ⟨y2, hy2⟩ := HF2.out.cell (m := i * 9 + 2) (by omega); have hf2 := HF2.out.free (i * 9 + 2)
      obtain ⟨y3, hy3⟩ := HF2.out.cell (m := i * 9 + 3) (by omega); have hf3 := HF2.out.free (i * 9 + 3)
      obtain ⟨y4, hy4⟩ := HF2.out.cell (m := i * 9 + 4) (by omega); have hf4 := HF2.out.free (i * 9 + 4)
      obtain ⟨y5, hy5⟩ := HF2.out.cell (m := i * 9 + 5) (by omega); have hf5 := HF2.out.free (i * 9 + 5)
      obtain ⟨y6, hy6⟩ := HF2.out.cell (m := i * 9 + 6) (by omega); have hf6 := HF2.out.free (i * 9 + 6)
      obtain ⟨y7, hy7⟩ := HF2.out.cell (m := i * 9 + 7) (by omega); have hf7 := HF2.out.free (i * 9 + 7)
      obtain ⟨y8, hy8⟩ := HF2.out.cell (m := i * 9 + 8) (by omega); have hf8 := HF2.out.free (i * 9 + 8)
      go_wp2_with fail
      go_roundw
      case rel =>
        refine ⟨i + 1, by omega, by go_num, ?_, ?_⟩
        · have h := ext_setCells (N := w.heap.size) (Nat.le_refl _) [.int .i64 x.kind, .int .i64 x.record.source, .int .i64 x.record.key, .int .i64 x.record.version, .slice p0' x.record.fields.length c0', .int .i64 x.verdict.a, .int .i64 x.verdict.b, .bool x.verdict.same, .int .i64 x.verdict.time] (i * 9) HE2.out
          simpa [setCells] using h
        · have h := HST.out
          simpa [setCells] using h
      case measure => (simp [intOf] <;> omega)
    · obtain rfl : i = l.length := by omega
      have hm : l.length ≤ maxLen := by unfold maxLen; omega
      have HD := Lib.hid (HF1.out.done good_Op hm)
      clear hm
      go_wp2_with fail
      go_ret
      exact ⟨_, _, rfl, HD.out, HE1.out⟩

set_option maxHeartbeats 1600000 in
theorem eqOpS_any (l : List DOp) (a1 a2 : Option Addr) (c1 c2 : Nat) (w : World) (h1 : RowR 9 OpR 0 w a1 l) (h2 : RowR 9 OpR 0 w a2 l) :
    Calls Try.prog 100 #[.slice a1 l.length c1, .slice a2 l.length c2] w (Yes w) := by
  have hlen : (l.length : Int) ≤ 9223372036854775807 := by have := h1.1; unfold maxLen at this; omega
  have HA := Lib.hid h1; have HB := Lib.hid h2
  clear h1 h2
  go_enter Try.func100, Try.ntmps100
  go_wp2_with fail
  go_loopw [5] (fun s5 wr => ∃ i : Nat, i ≤ l.length ∧ s5 = .int .i64 i ∧ Ext w wr) (fun i _ => l.length - (intOf i).toNat)
  case atStart => exact ⟨0, Nat.zero_le _, rfl, by (repeat' (first | with_reducible assumption | with_reducible exact Below.refl _ _ | (with_reducible refine Ext.alloc' ?_ _) | (with_reducible refine Ext.drew' ?_) | (with_reducible refine Ext.drewN' ?_ _) | (with_reducible refine Ext.set_ ?_ (by first | omega | (simp; done) | (simp; omega)) _ _) | (refine Ext.trans ?_ (by with_reducible assumption))))⟩
  case round =>
    obtain ⟨i, hi, rfl, hE1⟩ := hrel
    have HE1 := Lib.hid hE1; clear hE1
    by_cases hlt : i < l.length
    · obtain ⟨b1, o1, vs1, rfl, _, _, hc1, hR1⟩ := (HA.out.ext good_Op HE1.out).2 i hlt
      obtain ⟨b2, o2, vs2, rfl, _, _, hc2, hR2⟩ := (HB.out.ext good_Op HE1.out).2 i hlt
      obtain ⟨x, hx⟩ : ∃ x, x = l[i] := ⟨_, rfl⟩
      rw [← hx] at hR1 hR2
      clear hx
      obtain ⟨p0a, c0a, rfl, r0a⟩ := hR1
      obtain ⟨p0b, c0b, rfl, r0b⟩ := hR2
      have q0 := hc1 0 (by simp)
      have q1 := hc1 1 (by simp)
      have q2 := hc1 2 (by simp)
      have q3 := hc1 3 (by simp)
      have q4 := hc1 4 (by simp)
      have q5 := hc1 5 (by simp)
      have q6 := hc1 6 (by simp)
      have q7 := hc1 7 (by simp)
      have q8 := hc1 8 (by simp)
      simp only [List.getElem_cons_zero, List.getElem_cons_succ, Nat.mul_one, Nat.add_zero] at q0 q1 q2 q3 q4 q5 q6 q7 q8
      have t0 := hc2 0 (by simp)
      have t1 := hc2 1 (by simp)
      have t2 := hc2 2 (by simp)
      have t3 := hc2 3 (by simp)
      have t4 := hc2 4 (by simp)
      have t5 := hc2 5 (by simp)
      have t6 := hc2 6 (by simp)
      have t7 := hc2 7 (by simp)
      have t8 := hc2 8 (by simp)
      simp only [List.getElem_cons_zero, List.getElem_cons_succ, Nat.mul_one, Nat.add_zero] at t0 t1 t2 t3 t4 t5 t6 t7 t8
      clear hc1 hc2
      have HR1 : Hid (OpR 0 wr [.int .i64 x.kind, .int .i64 x.record.source, .int .i64 x.record.key, .int .i64 x.record.version, .slice p0a x.record.fields.length c0a, .int .i64 x.verdict.a, .int .i64 x.verdict.b, .bool x.verdict.same, .int .i64 x.verdict.time] x) := ⟨p0a, c0a, rfl, r0a⟩
      have HR2 : Hid (OpR 0 wr [.int .i64 x.kind, .int .i64 x.record.source, .int .i64 x.record.key, .int .i64 x.record.version, .slice p0b x.record.fields.length c0b, .int .i64 x.verdict.a, .int .i64 x.verdict.b, .bool x.verdict.same, .int .i64 x.verdict.time] x) := ⟨p0b, c0b, rfl, r0b⟩
      clear r0a r0b
      have hll : (i : Int) < l.length := by omega
      go_wp2_with fail
      refine wp_region_ext (by kernel_rfl) (by kernel_rfl) ?_
      repeat (first
        | go_big_quiet_skip
        | (go_big_quiet_want; go_big_quiet_op; first
            | go_big_quiet_on
            | (refine ⟨_, fun w' hw' => rfl, ?_⟩; go_big_quiet_on)
            | (refine ⟨.agg #[.int .i64 x.kind, .int .i64 x.record.source, .int .i64 x.record.key, .int .i64 x.record.version, .slice p0a x.record.fields.length c0a, .int .i64 x.verdict.a, .int .i64 x.verdict.b, .bool x.verdict.same, .int .i64 x.verdict.time], fun w' hw' => ?_, ?_⟩
               · have u0 := hw'.at q0; have u1 := hw'.at q1; have u2 := hw'.at q2; have u3 := hw'.at q3; have u4 := hw'.at q4; have u5 := hw'.at q5; have u6 := hw'.at q6; have u7 := hw'.at q7; have u8 := hw'.at q8
                 simp [go_sem, u0, u1, u2, u3, u4, u5, u6, u7, u8]; done
               go_big_quiet_on)
            | (refine ⟨.agg #[.int .i64 x.kind, .int .i64 x.record.source, .int .i64 x.record.key, .int .i64 x.record.version, .slice p0b x.record.fields.length c0b, .int .i64 x.verdict.a, .int .i64 x.verdict.b, .bool x.verdict.same, .int .i64 x.verdict.time], fun w' hw' => ?_, ?_⟩
               · have u0 := hw'.at t0; have u1 := hw'.at t1; have u2 := hw'.at t2; have u3 := hw'.at t3; have u4 := hw'.at t4; have u5 := hw'.at t5; have u6 := hw'.at t6; have u7 := hw'.at t7; have u8 := hw'.at t8
                 simp [go_sem, u0, u1, u2, u3, u4, u5, u6, u7, u8]; done
               go_big_quiet_on)
            | (refine ⟨.bool true, fun w' hw' => ((eqOp_any x [.int .i64 x.kind, .int .i64 x.record.source, .int .i64 x.record.key, .int .i64 x.record.version, .slice p0a x.record.fields.length c0a, .int .i64 x.verdict.a, .int .i64 x.verdict.b, .bool x.verdict.same, .int .i64 x.verdict.time] [.int .i64 x.kind, .int .i64 x.record.source, .int .i64 x.record.key, .int .i64 x.record.version, .slice p0b x.record.fields.length c0b, .int .i64 x.verdict.a, .int .i64 x.verdict.b, .bool x.verdict.same, .int .i64 x.verdict.time] w' (good_Op.ext HR1.out hw') (good_Op.ext HR2.out hw')).mono (fun e w'' h => ⟨h.1, hw'.trans h.2⟩)), ?_⟩; go_big_quiet_on)))
      refine wpQuiet_nil ?_
      intro w2 hE2
      have HE2 := Lib.hid (HE1.out.trans hE2)
      clear hE2 q0 t0 q1 t1 q2 t2 q3 t3 q4 t4 q5 t5 q6 t6 q7 t7 q8 t8
      go_wp2_with fail
      go_roundw
      case rel => exact ⟨i + 1, by omega, by go_num, HE2.out⟩
      case measure => (simp [intOf] <;> omega)
    · obtain rfl : i = l.length := by omega
      go_wp2_with fail
      go_ret
      exact ⟨rfl, HE1.out⟩
end Go.Proofs.Ytdgpbgpapcldeaa
