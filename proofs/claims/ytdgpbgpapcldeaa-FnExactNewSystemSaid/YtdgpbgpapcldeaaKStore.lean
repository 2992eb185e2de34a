/- The type Store: its datum, how it lies in memory, its copies, sizes and equality. -/
import Derived.Test.YtdgpbgpapcldeaaRows
import Derived.Test.YtdgpbgpapcldeaaDLib
import Derived.Test.YtdgpbgpapcldeaaKRecord
import Derived.Test.YtdgpbgpapcldeaaKVerdict
set_option linter.unusedVariables false
set_option linter.unusedSimpArgs false
namespace Go.Proofs.Ytdgpbgpapcldeaa
open Go.RowKit Go.Er Go.BigFrame
structure DStore where
  version : Int
  records : (List DRecord)
  verdicts : (List DVerdict)
def StoreR : Rel DStore := fun B w vs x => ∃ (p0 : Option Addr) (c0 : Nat) (p1 : Option Addr) (c1 : Nat), vs = [.int .i64 x.version, .slice p0 x.records.length c0, .slice p1 x.verdicts.length c1] ∧ RowR 4 RecordR B w p0 x.records ∧ RowR 4 VerdictR B w p1 x.verdicts
theorem good_Store : GoodR StoreR := ⟨fun hk ⟨p0, c0, p1, c1, h0, r0, r1⟩ => ⟨p0, c0, p1, c1, h0, r0.keep good_Record hk, r1.keep good_Verdict hk⟩, fun hB ⟨p0, c0, p1, c1, h0, r0, r1⟩ => ⟨p0, c0, p1, c1, h0, r0.mono good_Record hB, r1.mono good_Verdict hB⟩⟩
def SmallStore (x : DStore) : Prop := SmallL (fun y => SmallRecord y) x.records ∧ SmallL (fun y => SmallVerdict y) x.verdicts

set_option maxHeartbeats 800000 in
theorem szStore_any (x : DStore) (left : Int) (h0 : 0 ≤ left) (h9 : left ≤ 1048576) (vs : List Value) (B : Nat) (w : World) (h : StoreR B w vs x) :
    Calls Try.prog 72 #[.agg vs.toArray, .int .i64 left] w (Sized left (SmallStore x) w) := by
  obtain ⟨p0, c0, p1, c1, rfl, r0, r1⟩ := h
  have HB := Lib.hid (Box.new w 60 #[.int .i64 x.version, .slice p0 x.records.length c0, .slice p1 x.verdicts.length c1])
  have HE := Lib.hid (Ext.alloc w (.cells #[.int .i64 x.version, .slice p0 x.records.length c0, .slice p1 x.verdicts.length c1] 60))
  have R0 := Lib.hid (r0.ext good_Record HE.out)
  have R1 := Lib.hid (r1.ext good_Verdict HE.out)
  clear r0 r1
  go_enter Try.func72, Try.ntmps72
  go_wp2_with fail
  refine (szRecordS_any x.records left (by omega) (by omega) p0 c0 B _ R0.out).mono ?_
  rintro e w0 ⟨v0, rfl, hv0, hm0, hp0, hE0⟩
  have HP0 := Lib.hid hp0; have HE0 := Lib.hid (HE.out.trans hE0)
  replace HB := Lib.hid (HB.out.ext hE0)
  replace R0 := Lib.hid (R0.out.ext good_Record hE0)
  replace R1 := Lib.hid (R1.out.ext good_Verdict hE0)
  clear hp0 hE0
  by_cases hn0 : v0 < 0
  · go_wp2_with fail
    go_ret
    exact ⟨-1, rfl, by omega, by omega, fun h => absurd h (by omega), HE0.out⟩
  have k0 := HB.out.cell 0
  have k1 := HB.out.cell 1
  have k2 := HB.out.cell 2
  have klt := HB.out.lt
  simp only [List.getElem?_toArray, List.getElem?_cons_zero, List.getElem?_cons_succ] at k0 k1 k2
  go_wp2_with fail
  clear k0 k1 k2 klt
  refine (szVerdictS_any x.verdicts v0 (by omega) (by omega) p1 c1 B _ R1.out).mono ?_
  rintro e w1 ⟨v1, rfl, hv1, hm1, hp1, hE1⟩
  have HP1 := Lib.hid hp1; have HE1 := Lib.hid (HE0.out.trans hE1)
  replace HB := Lib.hid (HB.out.ext hE1)
  replace R0 := Lib.hid (R0.out.ext good_Record hE1)
  replace R1 := Lib.hid (R1.out.ext good_Verdict hE1)
  clear hp1 hE1
  by_cases hn1 : v1 < 0
  · go_wp2_with fail
    go_ret
    exact ⟨-1, rfl, by omega, by omega, fun h => absurd h (by omega), HE1.out⟩
  go_wp2_with fail
  go_ret
  exact ⟨v1, rfl, by omega, by omega, fun _ => ⟨HP0.out (by omega), HP1.out (by omega)⟩, HE1.out⟩

set_option maxHeartbeats 1600000 in
theorem toStore_any (x : DStore) (hs : SmallStore x) (vs : List Value) (w : World) (h : StoreR 0 w vs x) :
    Calls Try.prog 77 #[.agg vs.toArray] w (Made StoreR w x) := by
  obtain ⟨p0, c0, p1, c1, rfl, r0, r1⟩ := h
  have HS := Lib.hid hs; clear hs
  have R0 := Lib.hid r0
  have R1 := Lib.hid r1
  clear r0 r1
  go_enter Try.func77, Try.ntmps77
  go_wp2_with fail
  refine (toRecordS_any x.records HS.out.1 p0 c0 _ (R0.out.ext good_Record (by (repeat' (first | with_reducible assumption | with_reducible exact Below.refl _ _ | (with_reducible refine Ext.alloc' ?_ _) | (with_reducible refine Ext.drew' ?_) | (with_reducible refine Ext.drewN' ?_ _) | (with_reducible refine Ext.set_ ?_ (by first | omega | (simp; done) | (simp; omega)) _ _) | (refine Ext.trans ?_ (by with_reducible assumption))))))).mono ?_
  rintro e w0 ⟨s0, d0, rfl, hr0, hE0⟩
  have HN1' : Hid (Box w0 w.heap.size 60 #[.int .i64 x.version, .slice p0 x.records.length c0, .slice p1 x.verdicts.length c1]) := (Box.alloc (Box.alloc (Box.new' _ _ #[.int .i64 x.version, .slice p0 x.records.length c0, .slice p1 x.verdicts.length c1] _ (by simp)) _) _).ext hE0
  have HN2' : Hid (Box w0 (w.heap.size + 1) 69 #[.int .i64 0, .slice none 0 0, .slice none 0 0]) := (Box.alloc (Box.new' _ _ #[.int .i64 0, .slice none 0 0, .slice none 0 0] _ (by simp)) _).ext hE0
  have HN3' : Hid (Box w0 (w.heap.size + 1 + 1) 69 #[.int .i64 x.version, .slice none 0 0, .slice none 0 0]) := (Box.new' _ _ #[.int .i64 x.version, .slice none 0 0, .slice none 0 0] _ (by simp)).ext hE0
  have S0 := Lib.hid (hr0.mono good_Record (B' := w.heap.size + 3) (by simp))
  clear hr0
  have HE' : Hid (Ext w w0) := (show Ext w w0 from by have h9 := hE0; (repeat' (first | with_reducible assumption | with_reducible exact Below.refl _ _ | (with_reducible refine Ext.alloc' ?_ _) | (with_reducible refine Ext.drew' ?_) | (with_reducible refine Ext.drewN' ?_ _) | (with_reducible refine Ext.set_ ?_ (by first | omega | (simp; done) | (simp; omega)) _ _) | (refine Ext.trans ?_ (by with_reducible assumption)))))
  have HE := HE'; have HN1 := HN1'; have HN2 := HN2'; have HN3 := HN3'
  clear HE' HN1' HN2' HN3' hE0
  have k0 := HN1.out.cell 0
  have k1 := HN1.out.cell 1
  have k2 := HN1.out.cell 2
  have klt := HN1.out.lt
  simp only [List.getElem?_toArray, List.getElem?_cons_zero, List.getElem?_cons_succ] at k0 k1 k2
  have m0 := HN3.out.cell 0
  have mf0 := HN3.out.free 0
  have m1 := HN3.out.cell 1
  have mf1 := HN3.out.free 1
  have m2 := HN3.out.cell 2
  have mf2 := HN3.out.free 2
  have mlt := HN3.out.lt
  simp only [List.getElem?_toArray, List.getElem?_cons_zero, List.getElem?_cons_succ] at m0 m1 m2
  go_wp2_with fail
  clear k0 k1 k2 klt
  clear m0 mf0 m1 mf1 m2 mf2 mlt
  refine (toVerdictS_any x.verdicts HS.out.2 p1 c1 _ (R1.out.ext good_Verdict (by have h8 := HE.out; (repeat' (first | with_reducible assumption | with_reducible exact Below.refl _ _ | (with_reducible refine Ext.alloc' ?_ _) | (with_reducible refine Ext.drew' ?_) | (with_reducible refine Ext.drewN' ?_ _) | (with_reducible refine Ext.set_ ?_ (by first | omega | (simp; done) | (simp; omega)) _ _) | (refine Ext.trans ?_ (by with_reducible assumption))))))).mono ?_
  rintro e w1 ⟨s1, d1, rfl, hr1, hE1⟩
  have HN1' : Hid (Box w1 w.heap.size 60 #[.int .i64 x.version, .slice p0 x.records.length c0, .slice p1 x.verdicts.length c1]) := (Box.setOther (HN1.out) (by omega) _).ext hE1
  have HN2' : Hid (Box w1 (w.heap.size + 1) 69 #[.int .i64 0, .slice none 0 0, .slice none 0 0]) := (Box.setOther (HN2.out) (by omega) _).ext hE1
  have HN3' : Hid (Box w1 (w.heap.size + 1 + 1) 69 #[.int .i64 x.version, .slice s0 x.records.length d0, .slice none 0 0]) := (Box.set' (vs' := #[.int .i64 x.version, .slice s0 x.records.length d0, .slice none 0 0]) (HN3.out) (i := 1) (u := .slice s0 x.records.length d0) rfl).ext hE1
  have S1 := Lib.hid (hr1.mono good_Verdict (B' := w.heap.size + 3) (by have h7 := HN3.out.lt; simp; omega))
  clear hr1
  replace S0 : Hid (RowR 4 RecordR (w.heap.size + 3) w1 s0 x.records) := (S0.out.keep good_Record (Keep.trans (by (repeat' (first | with_reducible exact Keep.refl _ _ | refine Keep.set_trans ?_ (by omega) _ _))) (Keep.of_ext hE1)))
  have HE' : Hid (Ext w w1) := (show Ext w w1 from by have h9 := hE1; have h8 := HE.out; (repeat' (first | with_reducible assumption | with_reducible exact Below.refl _ _ | (with_reducible refine Ext.alloc' ?_ _) | (with_reducible refine Ext.drew' ?_) | (with_reducible refine Ext.drewN' ?_ _) | (with_reducible refine Ext.set_ ?_ (by first | omega | (simp; done) | (simp; omega)) _ _) | (refine Ext.trans ?_ (by with_reducible assumption)))))
  clear HN1 HN2 HN3 HE
  have HE := HE'; have HN1 := HN1'; have HN2 := HN2'; have HN3 := HN3'
  clear HE' HN1' HN2' HN3' hE1
  have k0 := HN1.out.cell 0
  have k1 := HN1.out.cell 1
  have k2 := HN1.out.cell 2
  have klt := HN1.out.lt
  simp only [List.getElem?_toArray, List.getElem?_cons_zero, List.getElem?_cons_succ] at k0 k1 k2
  have m0 := HN3.out.cell 0
  have mf0 := HN3.out.free 0
  have m1 := HN3.out.cell 1
  have mf1 := HN3.out.free 1
  have m2 := HN3.out.cell 2
  have mf2 := HN3.out.free 2
  have mlt := HN3.out.lt
  simp only [List.getElem?_toArray, List.getElem?_cons_zero, List.getElem?_cons_succ] at m0 m1 m2
  have l0 := HN2.out.cell 0
  have lf0 := HN2.out.free 0
  have l1 := HN2.out.cell 1
  have lf1 := HN2.out.free 1
  have l2 := HN2.out.cell 2
  have lf2 := HN2.out.free 2
  have llt := HN2.out.lt
  simp only [List.getElem?_toArray, List.getElem?_cons_zero, List.getElem?_cons_succ] at l0 l1 l2
  go_wp2_with fail
  refine bodyPost_ret (v := .agg #[.int .i64 x.version, .slice s0 x.records.length d0, .slice s1 x.verdicts.length d1]) (by simp [results, Try.results77, go_sem, m0, m1, m2, l0, l1, l2]) rfl ?_
  refine ⟨[.int .i64 x.version, .slice s0 x.records.length d0, .slice s1 x.verdicts.length d1], rfl, ?_, ?_⟩
  rotate_left
  · have h8 := HE.out; (repeat' (first | with_reducible assumption | with_reducible exact Below.refl _ _ | (with_reducible refine Ext.alloc' ?_ _) | (with_reducible refine Ext.drew' ?_) | (with_reducible refine Ext.drewN' ?_ _) | (with_reducible refine Ext.set_ ?_ (by first | omega | (simp; done) | (simp; omega)) _ _) | (refine Ext.trans ?_ (by with_reducible assumption))))
  exact ⟨s0, d0, s1, d1, rfl, (S0.out.keep good_Record (by (repeat' (first | with_reducible exact Keep.refl _ _ | refine Keep.set_trans ?_ (by omega) _ _)))).mono good_Record (by omega), (S1.out.keep good_Verdict (by (repeat' (first | with_reducible exact Keep.refl _ _ | refine Keep.set_trans ?_ (by omega) _ _)))).mono good_Verdict (by omega)⟩

set_option maxHeartbeats 800000 in
theorem eqStore_any (x : DStore) (us vs : List Value) (w : World) (ha : StoreR 0 w us x) (hb : StoreR 0 w vs x) :
    Calls Try.prog 83 #[.agg us.toArray, .agg vs.toArray] w (Yes w) := by
  obtain ⟨p0a, c0a, p1a, c1a, rfl, r0a, r1a⟩ := ha
  obtain ⟨p0b, c0b, p1b, c1b, rfl, r0b, r1b⟩ := hb
  have R0a := Lib.hid r0a; have R0b := Lib.hid r0b; clear r0a r0b
  have R1a := Lib.hid r1a; have R1b := Lib.hid r1b; clear r1a r1b
  go_enter Try.func83, Try.ntmps83
  go_wp2_with fail
  refine (eqRecordS_any x.records p0a p0b c0a c0b _ (R0a.out.ext good_Record (by (repeat' (first | with_reducible assumption | with_reducible exact Below.refl _ _ | (with_reducible refine Ext.alloc' ?_ _) | (with_reducible refine Ext.drew' ?_) | (with_reducible refine Ext.drewN' ?_ _) | (with_reducible refine Ext.set_ ?_ (by first | omega | (simp; done) | (simp; omega)) _ _) | (refine Ext.trans ?_ (by with_reducible assumption)))))) (R0b.out.ext good_Record (by (repeat' (first | with_reducible assumption | with_reducible exact Below.refl _ _ | (with_reducible refine Ext.alloc' ?_ _) | (with_reducible refine Ext.drew' ?_) | (with_reducible refine Ext.drewN' ?_ _) | (with_reducible refine Ext.set_ ?_ (by first | omega | (simp; done) | (simp; omega)) _ _) | (refine Ext.trans ?_ (by with_reducible assumption))))))).mono ?_
  rintro e w0 ⟨rfl, hE0⟩
  have HA : Hid (Box w0 w.heap.size 69 #[.int .i64 x.version, .slice p0a x.records.length c0a, .slice p1a x.verdicts.length c1a]) := (Box.alloc (Box.new' _ _ _ _ rfl) _).ext hE0
  have HB : Hid (Box w0 (w.heap.size + 1) 69 #[.int .i64 x.version, .slice p0b x.records.length c0b, .slice p1b x.verdicts.length c1b]) := (Box.new' _ _ _ _ (by simp)).ext hE0
  have HE : Hid (Ext w w0) := (show Ext w w0 from by have h9 := hE0; (repeat' (first | with_reducible assumption | with_reducible exact Below.refl _ _ | (with_reducible refine Ext.alloc' ?_ _) | (with_reducible refine Ext.drew' ?_) | (with_reducible refine Ext.drewN' ?_ _) | (with_reducible refine Ext.set_ ?_ (by first | omega | (simp; done) | (simp; omega)) _ _) | (refine Ext.trans ?_ (by with_reducible assumption)))))
  clear hE0
  have k0 := HA.out.cell 0
  have k1 := HA.out.cell 1
  have k2 := HA.out.cell 2
  have klt := HA.out.lt
  simp only [List.getElem?_toArray, List.getElem?_cons_zero, List.getElem?_cons_succ] at k0 k1 k2
  have m0 := HB.out.cell 0
  have m1 := HB.out.cell 1
  have m2 := HB.out.cell 2
  have mlt := HB.out.lt
  simp only [List.getElem?_toArray, List.getElem?_cons_zero, List.getElem?_cons_succ] at m0 m1 m2
  go_wp2_with fail
  clear k0 m0 k1 m1 k2 m2 klt mlt
  refine (eqVerdictS_any x.verdicts p1a p1b c1a c1b _ (R1a.out.ext good_Verdict (by have h8 := HE.out; (repeat' (first | with_reducible assumption | with_reducible exact Below.refl _ _ | (with_reducible refine Ext.alloc' ?_ _) | (with_reducible refine Ext.drew' ?_) | (with_reducible refine Ext.drewN' ?_ _) | (with_reducible refine Ext.set_ ?_ (by first | omega | (simp; done) | (simp; omega)) _ _) | (refine Ext.trans ?_ (by with_reducible assumption)))))) (R1b.out.ext good_Verdict (by have h8 := HE.out; (repeat' (first | with_reducible assumption | with_reducible exact Below.refl _ _ | (with_reducible refine Ext.alloc' ?_ _) | (with_reducible refine Ext.drew' ?_) | (with_reducible refine Ext.drewN' ?_ _) | (with_reducible refine Ext.set_ ?_ (by first | omega | (simp; done) | (simp; omega)) _ _) | (refine Ext.trans ?_ (by with_reducible assumption))))))).mono ?_
  rintro e w1 ⟨rfl, hE1⟩
  replace HA := Lib.hid (HA.out.ext hE1)
  replace HB := Lib.hid (HB.out.ext hE1)
  replace HE := Lib.hid (HE.out.trans hE1)
  clear hE1
  have k0 := HA.out.cell 0
  have k1 := HA.out.cell 1
  have k2 := HA.out.cell 2
  have klt := HA.out.lt
  simp only [List.getElem?_toArray, List.getElem?_cons_zero, List.getElem?_cons_succ] at k0 k1 k2
  have m0 := HB.out.cell 0
  have m1 := HB.out.cell 1
  have m2 := HB.out.cell 2
  have mlt := HB.out.lt
  simp only [List.getElem?_toArray, List.getElem?_cons_zero, List.getElem?_cons_succ] at m0 m1 m2
  go_wp2_with fail
  go_ret
  exact ⟨rfl, by have h8 := HE.out; (repeat' (first | with_reducible assumption | with_reducible exact Below.refl _ _ | (with_reducible refine Ext.alloc' ?_ _) | (with_reducible refine Ext.drew' ?_) | (with_reducible refine Ext.drewN' ?_ _) | (with_reducible refine Ext.set_ ?_ (by first | omega | (simp; done) | (simp; omega)) _ _) | (refine Ext.trans ?_ (by with_reducible assumption))))⟩
end Go.Proofs.Ytdgpbgpapcldeaa
